/- Texts of the proof, one behind the other: ValR0, ValFnsS, ValS1. -/
import Derived.Test.YtekepgfmgeophaaGreatPartAG
import Derived.Test.YtekepgfmgeophaaGreatPartAK
import Derived.Test.YtekepgfmgeophaaGreatPartAJ
set_option linter.unusedVariables false
set_option linter.unusedSimpArgs false
/- Signatures as values: what is read of them. -/
namespace Go.Proofs.Tryz
open Go Go.AE

theorem strAt_lt {t : ByteArray} {i : Nat} (h : i < t.size) : ∃ c : Nat, strAt t (i : Int) = some c := by
  have : t.data.toList[i]? = some (t.data.toList[i]'(by simpa using h)) := List.getElem?_eq_getElem _
  simp only [strAt, Int.natCast_nonneg, if_true, Int.toNat_natCast, this]
  exact ⟨_, rfl⟩

/-- Numbers of sorts. -/
theorem get_enc {l : List Int} {i : Nat} (h : i < l.length) : (l.map encI)[i]? = some (.int .i64 l[i]) := by simp [h, encI]
@[go_sem] theorem sigc {s : GSig} : (encSig s).cells.length = 2 := rfl
@[go_sem] theorem sigd {s : GSig} : (encSig s).isDef = true := rfl
@[go_sem] theorem sig_sorts {s : GSig} {sz : Nat} : sub false sz (encSig s) 0 = some (.slice 1 (s.sorts.map .str) .any) := rfl
@[go_sem] theorem sig_ops {s : GSig} {sz : Nat} : sub false sz (encSig s) 1 = some (.slice 3 (s.ops.map encOp) .any) := rfl
@[go_sem] theorem sig_all {s : GSig} : sub true 2 (encSig s) 0 = some (encSig s) := rfl
@[go_sem] theorem opc {o : GOp} : (encOp o).cells.length = 3 := rfl
@[go_sem] theorem opd {o : GOp} : (encOp o).isDef = true := rfl
@[go_sem] theorem op_name {o : GOp} {sz : Nat} : sub false sz (encOp o) 0 = some (.str o.name) := rfl
@[go_sem] theorem op_args {o : GOp} {sz : Nat} : sub false sz (encOp o) 1 = some (.slice 1 (o.args.map encI) .any) := rfl
@[go_sem] theorem op_res {o : GOp} {sz : Nat} : sub false sz (encOp o) 2 = some (.int .i64 o.res) := rfl
@[go_sem] theorem op_all {o : GOp} : sub true 3 (encOp o) 0 = some (encOp o) := rfl
/-- What is small enough to be counted. -/
structure Fits (s : GSig) : Prop where
  nS : s.sorts.length < 1000
  nO : s.ops.length < 1000
  sorts : ∀ t ∈ s.sorts, t.size < 1000
  ops : ∀ o ∈ s.ops, o.name.size < 1000 ∧ o.args.length < 900
theorem get_str {l : List ByteArray} {i : Nat} (h : i < l.length) : (l.map PV.str)[i]? = some (.str l[i]) := by simp [h]
theorem get_op {l : List GOp} {i : Nat} (h : i < l.length) : (l.map encOp)[i]? = some (encOp l[i]) := by simp [h]
@[go_sem] theorem subv_aref {sz k a b c d : Nat} : sub false sz (.aref k a b c d) 0 = some (.aref k a b c d) := rfl
theorem ld_v {h : List AE.Obj} {k i n : Nat} {x : List Int} (hk : h[k]? = some (.row 1 (x.map encI))) (hn : x.length = n) (hi : i < n) : loadAt false 1 (.ptr k i 0 n) h = some (.int .i64 (x.getD i 0)) := by
  have hl : i < x.length := by omega
  have e : (x.map encI)[i]? = some (encI x[i]) := by rw [List.getElem?_map, List.getElem?_eq_getElem hl]; rfl
  simp [loadAt, hk, hn, e, sub, encI, List.getD_eq_getElem?_getD, hl]
  rw [List.getElem?_eq_getElem hl]; rfl
theorem st_v {h : List AE.Obj} {ws : List Nat} {ups : List (Nat × Nat)} {k i n : Nat} {x : List Int} {v : Int} (hk : h[k]? = some (.row 1 (x.map encI))) (hn : x.length = n) (hi : i < n) :
    storeAt 1 (.ptr k i 0 n) (.int .i64 v) { h, ws, ups } = some { h := h.set k (.row 1 ((x.set i v).map encI)), ws := wadd k ws, ups } := by
  have hl : i < x.length := by omega
  have e : (x.map encI)[i]? = some (encI x[i]) := by rw [List.getElem?_map, List.getElem?_eq_getElem hl]; rfl
  simp [storeAt, hk, hn, e, PV.cells, PV.isCell, upd, PV.top, wrote_none, List.map_set]
  exact ⟨_, rfl, rfl⟩
theorem wadd_low {k n : Nat} {ws : List Nat} (hk : n ≤ k) (hw : ∀ j ∈ ws, n ≤ j) : ∀ j ∈ wadd k ws, n ≤ j := fun j hj => by
  unfold wadd at hj
  split at hj
  · exact hw j hj
  · rcases List.mem_cons.1 hj with rfl | h
    · exact hk
    · exact hw j h
theorem Low.push {n0 : Nat} {h H : List AE.Obj} {o : AE.Obj} (L : Low n0 h H) (hn : n0 ≤ H.length) : Low n0 h (H ++ [o]) :=
  ⟨by rw [List.take_append_of_le_length hn]; exact L.take, by have := L.len; simp; omega⟩
theorem tidy_low {h H : List AE.Obj} {v : PV} {ws : List Nat} (hp : v.pure = true) (hv : v.weak = v) (L : Low h.length h H) (hw : ∀ k ∈ ws, h.length ≤ k) : tidy 0 h.length (.val v) { h := H, ws, ups := [] } = (.val v, { h, ws := [], ups := [] }) := by
  have := tidy_pure (h := h) (v := v) (s := { h := H, ws, ups := [] }) hp rfl (by rw [L.take]; simp) hw
  rwa [hv] at this
end Go.Proofs.Tryz
/- Functions of sig and of the law as the evaluator has them: printed. -/
namespace Go.Proofs.Tryz
open Go Go.AE
-- 203 strings.IndexByte
def a203 : AFunc := ⟨2, 8, (.seq (.reg [
    ⟨(some 4), .move (.c (.int .i64 0)), none, false, 0, 0, false⟩])
  (.seq (.reg [
    ⟨(some 5), .move (.t 0), none, false, 0, 0, false⟩,
    ⟨(some 6), .move (.t 1), none, false, 0, 0, false⟩,
    ⟨(some 7), .call (.f 244) [(.t 5), (.t 6)], none, true, 0, 0, false⟩,
    ⟨(some 4), .move (.t 7), none, false, 0, 0, false⟩])
  .ret)), [.t 4]⟩
theorem fn203 : fnOf 203 = some a203 := by kernel_rfl
-- 244 internal/stringslite.IndexByte
def a244 : AFunc := ⟨2, 8, (.seq (.reg [
    ⟨(some 4), .move (.c (.int .i64 0)), none, false, 0, 0, false⟩])
  (.seq (.reg [
    ⟨(some 5), .move (.t 0), none, false, 0, 0, false⟩,
    ⟨(some 6), .move (.t 1), none, false, 0, 0, false⟩,
    ⟨(some 7), .call (.f 272) [(.t 5), (.t 6)], none, true, 0, 0, false⟩,
    ⟨(some 4), .move (.t 7), none, false, 0, 0, false⟩])
  .ret)), [.t 4]⟩
theorem fn244 : fnOf 244 = some a244 := by kernel_rfl
-- 245 internal/stringslite.Index
def a245b0 : ACode :=
  (.seq (.seq (.reg [
    ⟨(some 57), .move (.t 8), none, false, 0, 0, false⟩,
    ⟨(some 58), .move (.t 9), none, false, 0, 0, false⟩,
    ⟨(some 59), .bin .lss (.t 57) (.t 58), none, false, 0, 0, false⟩])
  (.cond (.t 59)
  .skip
  (.exit 1)))
  (.block 2 (.seq (.seq (.reg [
    ⟨(some 60), .move (.t 0), none, false, 0, 0, false⟩,
    ⟨(some 61), .move (.t 8), none, false, 0, 0, false⟩,
    ⟨(some 62), .idxStr (.t 60) (.t 61), none, false, 0, 0, false⟩,
    ⟨(some 63), .move (.t 6), none, false, 0, 0, false⟩,
    ⟨(some 64), .bin .neq (.t 62) (.t 63), none, false, 0, 0, false⟩])
  (.cond (.t 64)
  (.seq (.reg [
    ⟨(some 65), .move (.t 0), none, false, 0, 0, false⟩,
    ⟨(some 66), .move (.t 8), none, false, 0, 0, false⟩,
    ⟨(some 67), .bin .add (.t 66) (.c (.int .i64 1)), none, false, 0, 0, false⟩,
    ⟨(some 68), .move (.t 9), none, false, 0, 0, false⟩,
    ⟨(some 69), .strSlice (.t 65) (some (.t 67)) (some (.t 68)), none, false, 0, 0, false⟩,
    ⟨(some 70), .move (.t 6), none, false, 0, 0, false⟩,
    ⟨(some 71), .call (.f 244) [(.t 69), (.t 70)], none, true, 0, 0, false⟩,
    ⟨(some 11), .move (.t 71), none, false, 0, 0, false⟩])
  (.seq (.seq (.reg [
    ⟨(some 72), .move (.t 11), none, false, 0, 0, false⟩,
    ⟨(some 73), .bin .lss (.t 72) (.c (.int .i64 0)), none, false, 0, 0, false⟩])
  (.cond (.t 73)
  (.seq (.reg [
    ⟨(some 4), .move (.c (.int .i64 (-1))), none, false, 0, 0, false⟩])
  .ret)
  .skip))
  (.reg [
    ⟨(some 74), .move (.t 8), none, false, 0, 0, false⟩,
    ⟨(some 75), .move (.t 11), none, false, 0, 0, false⟩,
    ⟨(some 76), .bin .add (.t 75) (.c (.int .i64 1)), none, false, 0, 0, false⟩,
    ⟨(some 77), .bin .add (.t 74) (.t 76), none, false, 0, 0, false⟩,
    ⟨(some 8), .move (.t 77), none, false, 0, 0, false⟩])))
  .skip))
  (.seq (.seq (.reg [
    ⟨(some 78), .move (.t 0), none, false, 0, 0, false⟩,
    ⟨(some 79), .move (.t 8), none, false, 0, 0, false⟩,
    ⟨(some 80), .bin .add (.t 79) (.c (.int .i64 1)), none, false, 0, 0, false⟩,
    ⟨(some 81), .idxStr (.t 78) (.t 80), none, false, 0, 0, false⟩,
    ⟨(some 82), .move (.t 7), none, false, 0, 0, false⟩,
    ⟨(some 83), .bin .eql (.t 81) (.t 82), none, false, 0, 0, false⟩,
    ⟨(some 84), .move (.t 83), none, false, 0, 0, false⟩,
    ⟨(some 85), .move (.t 0), (some (84, true)), false, 0, 0, false⟩,
    ⟨(some 86), .move (.t 8), (some (84, true)), false, 0, 0, false⟩,
    ⟨(some 87), .move (.t 8), (some (84, true)), false, 0, 0, false⟩,
    ⟨(some 88), .move (.t 5), (some (84, true)), false, 0, 0, false⟩,
    ⟨(some 89), .bin .add (.t 87) (.t 88), (some (84, true)), false, 0, 0, false⟩,
    ⟨(some 90), .strSlice (.t 85) (some (.t 86)) (some (.t 89)), (some (84, true)), false, 0, 0, false⟩,
    ⟨(some 91), .move (.t 1), (some (84, true)), false, 0, 0, false⟩,
    ⟨(some 92), .bin .eql (.t 90) (.t 91), (some (84, true)), false, 0, 0, false⟩,
    ⟨(some 93), .pick (.t 84) (.t 92) (.c (.bool false)), none, false, 0, 0, false⟩])
  (.cond (.t 93)
  (.seq (.reg [
    ⟨(some 94), .move (.t 8), none, false, 0, 0, false⟩,
    ⟨(some 4), .move (.t 94), none, false, 0, 0, false⟩])
  .ret)
  .skip))
  (.seq (.reg [
    ⟨(some 95), .move (.t 8), none, false, 0, 0, false⟩,
    ⟨(some 96), .bin .add (.t 95) (.c (.int .i64 1)), none, false, 0, 0, false⟩,
    ⟨(some 8), .move (.t 96), none, false, 0, 0, false⟩])
  (.seq (.reg [
    ⟨(some 97), .move (.t 10), none, false, 0, 0, false⟩,
    ⟨(some 98), .bin .add (.t 97) (.c (.int .i64 1)), none, false, 0, 0, false⟩,
    ⟨(some 10), .move (.t 98), none, false, 0, 0, false⟩])
  (.seq (.reg [
    ⟨(some 99), .move (.t 5), none, false, 0, 0, false⟩,
    ⟨(some 100), .load false 1 .bad, none, true, 0, 0, false⟩,
    ⟨(some 101), .bin .leq (.t 99) (.t 100), none, false, 0, 0, false⟩,
    ⟨(some 102), .move (.t 101), none, false, 0, 0, false⟩,
    ⟨(some 103), .move (.t 10), (some (102, true)), false, 0, 0, false⟩,
    ⟨(some 104), .move (.t 8), (some (102, true)), false, 0, 0, false⟩,
    ⟨(some 105), .call (.f 274) [(.t 104)], (some (102, true)), true, 0, 0, false⟩,
    ⟨(some 106), .bin .gtr (.t 103) (.t 105), (some (102, true)), false, 0, 0, false⟩,
    ⟨(some 107), .pick (.t 102) (.t 106) (.c (.bool false)), none, false, 0, 0, false⟩])
  (.cond (.t 107)
  (.seq (.reg [
    ⟨(some 108), .move (.t 0), none, false, 0, 0, false⟩,
    ⟨(some 109), .move (.t 8), none, false, 0, 0, false⟩,
    ⟨(some 110), .strSlice (.t 108) (some (.t 109)) none, none, false, 0, 0, false⟩,
    ⟨(some 111), .move (.t 1), none, false, 0, 0, false⟩,
    ⟨(some 112), .call (.f 273) [(.t 110), (.t 111)], none, true, 0, 0, false⟩,
    ⟨(some 12), .move (.t 112), none, false, 0, 0, false⟩])
  (.seq (.seq (.reg [
    ⟨(some 113), .move (.t 12), none, false, 0, 0, false⟩,
    ⟨(some 114), .bin .geq (.t 113) (.c (.int .i64 0)), none, false, 0, 0, false⟩])
  (.cond (.t 114)
  (.seq (.reg [
    ⟨(some 115), .move (.t 12), none, false, 0, 0, false⟩,
    ⟨(some 116), .move (.t 8), none, false, 0, 0, false⟩,
    ⟨(some 117), .bin .add (.t 115) (.t 116), none, false, 0, 0, false⟩,
    ⟨(some 4), .move (.t 117), none, false, 0, 0, false⟩])
  .ret)
  .skip))
  (.seq (.reg [
    ⟨(some 4), .move (.c (.int .i64 (-1))), none, false, 0, 0, false⟩])
  .ret)))
  (.seq (.reg [
    ⟨(some 118), .move (.t 5), none, false, 0, 0, false⟩,
    ⟨(some 119), .load false 1 .bad, none, true, 0, 0, false⟩,
    ⟨(some 120), .bin .gtr (.t 118) (.t 119), none, false, 0, 0, false⟩,
    ⟨(some 121), .move (.t 120), none, false, 0, 0, false⟩,
    ⟨(some 122), .move (.t 10), (some (121, true)), false, 0, 0, false⟩,
    ⟨(some 123), .move (.t 8), (some (121, true)), false, 0, 0, false⟩,
    ⟨(some 124), .bin .shr (.t 123) (.c (.int .u64 4)), (some (121, true)), false, 0, 0, false⟩,
    ⟨(some 125), .bin .add (.c (.int .i64 4)) (.t 124), (some (121, true)), false, 0, 0, false⟩,
    ⟨(some 126), .bin .geq (.t 122) (.t 125), (some (121, true)), false, 0, 0, false⟩,
    ⟨(some 127), .pick (.t 121) (.t 126) (.c (.bool false)), none, false, 0, 0, false⟩,
    ⟨(some 128), .move (.t 127), none, false, 0, 0, false⟩,
    ⟨(some 129), .move (.t 8), (some (128, true)), false, 0, 0, false⟩,
    ⟨(some 130), .move (.t 9), (some (128, true)), false, 0, 0, false⟩,
    ⟨(some 131), .bin .lss (.t 129) (.t 130), (some (128, true)), false, 0, 0, false⟩,
    ⟨(some 132), .pick (.t 128) (.t 131) (.c (.bool false)), none, false, 0, 0, false⟩])
  (.cond (.t 132)
  (.seq (.reg [
    ⟨(some 133), .move (.t 0), none, false, 0, 0, false⟩,
    ⟨(some 134), .move (.t 8), none, false, 0, 0, false⟩,
    ⟨(some 135), .strSlice (.t 133) (some (.t 134)) none, none, false, 0, 0, false⟩,
    ⟨(some 136), .move (.t 1), none, false, 0, 0, false⟩,
    ⟨(some 137), .call (.f 275) [(.t 135), (.t 136)], none, true, 0, 0, false⟩,
    ⟨(some 13), .move (.t 137), none, false, 0, 0, false⟩])
  (.seq (.seq (.reg [
    ⟨(some 138), .move (.t 13), none, false, 0, 0, false⟩,
    ⟨(some 139), .bin .lss (.t 138) (.c (.int .i64 0)), none, false, 0, 0, false⟩])
  (.cond (.t 139)
  (.seq (.reg [
    ⟨(some 4), .move (.c (.int .i64 (-1))), none, false, 0, 0, false⟩])
  .ret)
  .skip))
  (.seq (.reg [
    ⟨(some 140), .move (.t 8), none, false, 0, 0, false⟩,
    ⟨(some 141), .move (.t 13), none, false, 0, 0, false⟩,
    ⟨(some 142), .bin .add (.t 140) (.t 141), none, false, 0, 0, false⟩,
    ⟨(some 4), .move (.t 142), none, false, 0, 0, false⟩])
  .ret)))
  .skip))))))))))
def a245 : AFunc := ⟨2, 143, (.seq (.reg [
    ⟨(some 4), .move (.c (.int .i64 0)), none, false, 0, 0, false⟩])
  (.seq (.reg [
    ⟨(some 14), .move (.t 1), none, false, 0, 0, false⟩,
    ⟨(some 15), .lenS (.t 14), none, false, 0, 0, false⟩,
    ⟨(some 5), .move (.t 15), none, false, 0, 0, false⟩])
  (.seq (.block 0 (.seq (.reg [
    ⟨(some 17), .move (.t 5), none, false, 0, 0, false⟩,
    ⟨(some 18), .bin .eql (.t 17) (.c (.int .i64 0)), none, false, 0, 0, false⟩,
    ⟨(some 19), .move (.t 18), none, false, 0, 0, false⟩,
    ⟨(some 20), .move (.t 1), (some (19, false)), false, 0, 0, false⟩,
    ⟨(some 21), .move (.t 0), (some (19, false)), false, 0, 0, false⟩,
    ⟨(some 22), .bin .eql (.t 20) (.t 21), (some (19, false)), false, 0, 0, false⟩,
    ⟨(some 23), .pick (.t 19) (.c (.bool true)) (.t 22), none, false, 0, 0, false⟩,
    ⟨(some 16), .move (.t 23), none, false, 0, 0, false⟩])
  (.cond (.t 16)
  (.seq (.reg [
    ⟨(some 4), .move (.c (.int .i64 0)), none, false, 0, 0, false⟩])
  .ret)
  (.seq (.reg [
    ⟨(some 25), .move (.t 5), none, false, 0, 0, false⟩,
    ⟨(some 26), .bin .eql (.t 25) (.c (.int .i64 1)), none, false, 0, 0, false⟩,
    ⟨(some 24), .move (.t 26), none, false, 0, 0, false⟩])
  (.cond (.t 24)
  (.seq (.reg [
    ⟨(some 27), .move (.t 0), none, false, 0, 0, false⟩,
    ⟨(some 28), .move (.t 1), none, false, 0, 0, false⟩,
    ⟨(some 29), .idxStr (.t 28) (.c (.int .i64 0)), none, false, 0, 0, false⟩,
    ⟨(some 30), .call (.f 244) [(.t 27), (.t 29)], none, true, 0, 0, false⟩,
    ⟨(some 4), .move (.t 30), none, false, 0, 0, false⟩])
  .ret)
  (.seq (.reg [
    ⟨(some 32), .move (.t 5), none, false, 0, 0, false⟩,
    ⟨(some 33), .move (.t 0), none, false, 0, 0, false⟩,
    ⟨(some 34), .lenS (.t 33), none, false, 0, 0, false⟩,
    ⟨(some 35), .bin .geq (.t 32) (.t 34), none, false, 0, 0, false⟩,
    ⟨(some 31), .move (.t 35), none, false, 0, 0, false⟩])
  (.cond (.t 31)
  (.seq (.reg [
    ⟨(some 4), .move (.c (.int .i64 (-1))), none, false, 0, 0, false⟩])
  .ret)
  (.seq (.reg [
    ⟨(some 37), .move (.t 5), none, false, 0, 0, false⟩,
    ⟨(some 38), .load false 1 .bad, none, true, 0, 0, false⟩,
    ⟨(some 39), .bin .leq (.t 37) (.t 38), none, false, 0, 0, false⟩,
    ⟨(some 40), .move (.t 39), none, false, 0, 0, false⟩,
    ⟨(some 41), .move (.t 0), (some (40, true)), false, 0, 0, false⟩,
    ⟨(some 42), .lenS (.t 41), (some (40, true)), false, 0, 0, false⟩,
    ⟨(some 43), .bin .leq (.t 42) (.c (.int .i64 64)), (some (40, true)), false, 0, 0, false⟩,
    ⟨(some 44), .pick (.t 40) (.t 43) (.c (.bool false)), none, false, 0, 0, false⟩,
    ⟨(some 36), .move (.t 44), none, false, 0, 0, false⟩])
  (.cond (.t 36)
  (.seq (.reg [
    ⟨(some 45), .move (.t 0), none, false, 0, 0, false⟩,
    ⟨(some 46), .move (.t 1), none, false, 0, 0, false⟩,
    ⟨(some 47), .call (.f 273) [(.t 45), (.t 46)], none, true, 0, 0, false⟩,
    ⟨(some 4), .move (.t 47), none, false, 0, 0, false⟩])
  .ret)
  .skip)))))))))
  (.seq (.reg [
    ⟨(some 48), .move (.t 1), none, false, 0, 0, false⟩,
    ⟨(some 49), .idxStr (.t 48) (.c (.int .i64 0)), none, false, 0, 0, false⟩,
    ⟨(some 6), .move (.t 49), none, false, 0, 0, false⟩])
  (.seq (.reg [
    ⟨(some 50), .move (.t 1), none, false, 0, 0, false⟩,
    ⟨(some 51), .idxStr (.t 50) (.c (.int .i64 1)), none, false, 0, 0, false⟩,
    ⟨(some 7), .move (.t 51), none, false, 0, 0, false⟩])
  (.seq (.reg [
    ⟨(some 8), .move (.c (.int .i64 0)), none, false, 0, 0, false⟩])
  (.seq (.reg [
    ⟨(some 52), .move (.t 0), none, false, 0, 0, false⟩,
    ⟨(some 53), .lenS (.t 52), none, false, 0, 0, false⟩,
    ⟨(some 54), .move (.t 5), none, false, 0, 0, false⟩,
    ⟨(some 55), .bin .sub (.t 53) (.t 54), none, false, 0, 0, false⟩,
    ⟨(some 56), .bin .add (.t 55) (.c (.int .i64 1)), none, false, 0, 0, false⟩,
    ⟨(some 9), .move (.t 56), none, false, 0, 0, false⟩])
  (.seq (.reg [
    ⟨(some 10), .move (.c (.int .i64 0)), none, false, 0, 0, false⟩])
  (.seq (.block 1 (.loop a245b0))
  (.seq (.reg [
    ⟨(some 4), .move (.c (.int .i64 (-1))), none, false, 0, 0, false⟩])
  .ret)))))))))), [.t 4]⟩
theorem fn245 : fnOf 245 = some a245 := by kernel_rfl
-- 162 strings.Contains
def a162 : AFunc := ⟨2, 9, (.seq (.reg [
    ⟨(some 4), .move (.c (.bool false)), none, false, 0, 0, false⟩])
  (.seq (.reg [
    ⟨(some 5), .move (.t 0), none, false, 0, 0, false⟩,
    ⟨(some 6), .move (.t 1), none, false, 0, 0, false⟩,
    ⟨(some 7), .call (.f 204) [(.t 5), (.t 6)], none, true, 0, 0, false⟩,
    ⟨(some 8), .bin .geq (.t 7) (.c (.int .i64 0)), none, false, 0, 0, false⟩,
    ⟨(some 4), .move (.t 8), none, false, 0, 0, false⟩])
  .ret)), [.t 4]⟩
theorem fn162 : fnOf 162 = some a162 := by kernel_rfl
-- 204 strings.Index
def a204 : AFunc := ⟨2, 8, (.seq (.reg [
    ⟨(some 4), .move (.c (.int .i64 0)), none, false, 0, 0, false⟩])
  (.seq (.reg [
    ⟨(some 5), .move (.t 0), none, false, 0, 0, false⟩,
    ⟨(some 6), .move (.t 1), none, false, 0, 0, false⟩,
    ⟨(some 7), .call (.f 245) [(.t 5), (.t 6)], none, true, 0, 0, false⟩,
    ⟨(some 4), .move (.t 7), none, false, 0, 0, false⟩])
  .ret)), [.t 4]⟩
theorem fn204 : fnOf 204 = some a204 := by kernel_rfl
-- 206 strings.Count
def a206b0 : ACode :=
  (.block 1 (.seq (.reg [
    ⟨(some 20), .move (.t 0), none, false, 0, 0, false⟩,
    ⟨(some 21), .move (.t 1), none, false, 0, 0, false⟩,
    ⟨(some 22), .call (.f 204) [(.t 20), (.t 21)], none, true, 0, 0, false⟩,
    ⟨(some 6), .move (.t 22), none, false, 0, 0, false⟩])
  (.seq (.seq (.reg [
    ⟨(some 23), .move (.t 6), none, false, 0, 0, false⟩,
    ⟨(some 24), .bin .eql (.t 23) (.c (.int .i64 (-1))), none, false, 0, 0, false⟩])
  (.cond (.t 24)
  (.seq (.reg [
    ⟨(some 25), .move (.t 5), none, false, 0, 0, false⟩,
    ⟨(some 4), .move (.t 25), none, false, 0, 0, false⟩])
  .ret)
  .skip))
  (.seq (.reg [
    ⟨(some 26), .move (.t 5), none, false, 0, 0, false⟩,
    ⟨(some 27), .bin .add (.t 26) (.c (.int .i64 1)), none, false, 0, 0, false⟩,
    ⟨(some 5), .move (.t 27), none, false, 0, 0, false⟩])
  (.reg [
    ⟨(some 28), .move (.t 0), none, false, 0, 0, false⟩,
    ⟨(some 29), .move (.t 6), none, false, 0, 0, false⟩,
    ⟨(some 30), .move (.t 1), none, false, 0, 0, false⟩,
    ⟨(some 31), .lenS (.t 30), none, false, 0, 0, false⟩,
    ⟨(some 32), .bin .add (.t 29) (.t 31), none, false, 0, 0, false⟩,
    ⟨(some 33), .strSlice (.t 28) (some (.t 32)) none, none, false, 0, 0, false⟩,
    ⟨(some 0), .move (.t 33), none, false, 0, 0, false⟩])))))
def a206 : AFunc := ⟨2, 34, (.seq (.reg [
    ⟨(some 4), .move (.c (.int .i64 0)), none, false, 0, 0, false⟩])
  (.seq (.seq (.reg [
    ⟨(some 7), .move (.t 1), none, false, 0, 0, false⟩,
    ⟨(some 8), .lenS (.t 7), none, false, 0, 0, false⟩,
    ⟨(some 9), .bin .eql (.t 8) (.c (.int .i64 0)), none, false, 0, 0, false⟩])
  (.cond (.t 9)
  (.seq (.reg [
    ⟨(some 10), .move (.t 0), none, false, 0, 0, false⟩,
    ⟨(some 11), .call (.f 246) [(.t 10)], none, true, 0, 0, false⟩,
    ⟨(some 12), .bin .add (.t 11) (.c (.int .i64 1)), none, false, 0, 0, false⟩,
    ⟨(some 4), .move (.t 12), none, false, 0, 0, false⟩])
  .ret)
  .skip))
  (.seq (.seq (.reg [
    ⟨(some 13), .move (.t 1), none, false, 0, 0, false⟩,
    ⟨(some 14), .lenS (.t 13), none, false, 0, 0, false⟩,
    ⟨(some 15), .bin .eql (.t 14) (.c (.int .i64 1)), none, false, 0, 0, false⟩])
  (.cond (.t 15)
  (.seq (.reg [
    ⟨(some 16), .move (.t 0), none, false, 0, 0, false⟩,
    ⟨(some 17), .move (.t 1), none, false, 0, 0, false⟩,
    ⟨(some 18), .idxStr (.t 17) (.c (.int .i64 0)), none, false, 0, 0, false⟩,
    ⟨(some 19), .call (.f 247) [(.t 16), (.t 18)], none, true, 0, 0, false⟩,
    ⟨(some 4), .move (.t 19), none, false, 0, 0, false⟩])
  .ret)
  .skip))
  (.seq (.reg [
    ⟨(some 5), .move (.c (.int .i64 0)), none, false, 0, 0, false⟩])
  (.block 0 (.loop a206b0)))))), [.t 4]⟩
theorem fn206 : fnOf 206 = some a206 := by kernel_rfl
-- 161 madrigal/sig.isName
def a161b0 : ACode :=
  (.seq (.reg [
    ⟨(some 15), .bin .lss (.t 14) (.t 13), none, false, 0, 0, false⟩])
  (.seq (.cond (.t 15)
  .skip
  (.exit 0))
  (.seq (.block 1 (.seq (.reg [
    ⟨(some 16), .move (.t 14), none, false, 0, 0, false⟩,
    ⟨(some 3), .move (.t 16), none, false, 0, 0, false⟩])
  (.seq (.reg [
    ⟨(some 17), .move (.t 0), none, false, 0, 0, false⟩,
    ⟨(some 18), .move (.t 3), none, false, 0, 0, false⟩,
    ⟨(some 19), .idxStr (.t 17) (.t 18), none, false, 0, 0, false⟩,
    ⟨(some 20), .bin .lss (.t 19) (.c (.int .u8 33)), none, false, 0, 0, false⟩,
    ⟨(some 21), .move (.t 20), none, false, 0, 0, false⟩,
    ⟨(some 22), .move (.t 0), (some (21, false)), false, 0, 0, false⟩,
    ⟨(some 23), .move (.t 3), (some (21, false)), false, 0, 0, false⟩,
    ⟨(some 24), .idxStr (.t 22) (.t 23), (some (21, false)), false, 0, 0, false⟩,
    ⟨(some 25), .bin .gtr (.t 24) (.c (.int .u8 126)), (some (21, false)), false, 0, 0, false⟩,
    ⟨(some 26), .pick (.t 21) (.c (.bool true)) (.t 25), none, false, 0, 0, false⟩,
    ⟨(some 27), .move (.t 26), none, false, 0, 0, false⟩,
    ⟨(some 28), .move (.t 0), (some (27, false)), false, 0, 0, false⟩,
    ⟨(some 29), .move (.t 3), (some (27, false)), false, 0, 0, false⟩,
    ⟨(some 30), .idxStr (.t 28) (.t 29), (some (27, false)), false, 0, 0, false⟩,
    ⟨(some 31), .call (.f 203) [(.c (.str ⟨#[40, 41, 44]⟩)), (.t 30)], (some (27, false)), true, 0, 0, false⟩,
    ⟨(some 32), .bin .geq (.t 31) (.c (.int .i64 0)), (some (27, false)), false, 0, 0, false⟩,
    ⟨(some 33), .pick (.t 27) (.c (.bool true)) (.t 32), none, false, 0, 0, false⟩])
  (.cond (.t 33)
  (.seq (.reg [
    ⟨(some 2), .move (.c (.bool false)), none, false, 0, 0, false⟩])
  .ret)
  .skip))))
  (.reg [
    ⟨(some 34), .bin .add (.t 14) (.c (.int .i64 1)), none, false, 0, 0, false⟩,
    ⟨(some 14), .move (.t 34), none, false, 0, 0, false⟩]))))
def a161 : AFunc := ⟨1, 35, (.seq (.reg [
    ⟨(some 2), .move (.c (.bool false)), none, false, 0, 0, false⟩])
  (.seq (.seq (.reg [
    ⟨(some 4), .move (.t 0), none, false, 0, 0, false⟩,
    ⟨(some 5), .lenS (.t 4), none, false, 0, 0, false⟩,
    ⟨(some 6), .bin .lss (.t 5) (.c (.int .i64 1)), none, false, 0, 0, false⟩,
    ⟨(some 7), .move (.t 6), none, false, 0, 0, false⟩,
    ⟨(some 8), .move (.t 0), (some (7, false)), false, 0, 0, false⟩,
    ⟨(some 9), .lenS (.t 8), (some (7, false)), false, 0, 0, false⟩,
    ⟨(some 10), .bin .gtr (.t 9) (.c (.int .i64 32)), (some (7, false)), false, 0, 0, false⟩,
    ⟨(some 11), .pick (.t 7) (.c (.bool true)) (.t 10), none, false, 0, 0, false⟩])
  (.cond (.t 11)
  (.seq (.reg [
    ⟨(some 2), .move (.c (.bool false)), none, false, 0, 0, false⟩])
  .ret)
  .skip))
  (.seq (.seq (.reg [
    ⟨(some 12), .move (.t 0), none, false, 0, 0, false⟩,
    ⟨(some 13), .lenS (.t 12), none, false, 0, 0, false⟩,
    ⟨(some 14), .move (.c (.int .i64 0)), none, false, 0, 0, false⟩])
  (.block 0 (.loop a161b0)))
  (.seq (.reg [
    ⟨(some 2), .move (.c (.bool true)), none, false, 0, 0, false⟩])
  .ret)))), [.t 2]⟩
theorem fn161 : fnOf 161 = some a161 := by kernel_rfl
-- 205 madrigal/sig.good$1
def a205 : AFunc := ⟨2, 11, (.seq (.reg [
    ⟨(some 3), .move (.c (.bool false)), none, false, 0, 0, false⟩])
  (.seq (.reg [
    ⟨(some 4), .move (.t 0), none, false, 0, 0, false⟩,
    ⟨(some 5), .bin .geq (.t 4) (.c (.int .i64 0)), none, false, 0, 0, false⟩,
    ⟨(some 6), .move (.t 5), none, false, 0, 0, false⟩,
    ⟨(some 7), .move (.t 0), (some (6, true)), false, 0, 0, false⟩,
    ⟨(some 8), .load false 1 (.t 1), (some (6, true)), true, 0, 0, false⟩,
    ⟨(some 9), .bin .lss (.t 7) (.t 8), (some (6, true)), false, 0, 0, false⟩,
    ⟨(some 10), .pick (.t 6) (.t 9) (.c (.bool false)), none, false, 0, 0, false⟩,
    ⟨(some 3), .move (.t 10), none, false, 0, 0, false⟩])
  .ret)), [.t 3]⟩
theorem fn205 : fnOf 205 = some a205 := by kernel_rfl
-- 207 madrigal/sig.good$2
def a207 : AFunc := ⟨2, 8, (.seq (.reg [
    ⟨(some 3), .move (.c (.bool false)), none, false, 0, 0, false⟩])
  (.seq (.reg [
    ⟨(some 4), .load false 1 (.t 1), none, true, 0, 0, false⟩,
    ⟨(some 5), .move (.t 0), none, false, 0, 0, false⟩,
    ⟨(some 6), .call (.t 4) [(.t 5)], none, true, 0, 0, false⟩,
    ⟨(some 7), .un .not (.t 6), none, false, 0, 0, false⟩,
    ⟨(some 3), .move (.t 7), none, false, 0, 0, false⟩])
  .ret)), [.t 3]⟩
theorem fn207 : fnOf 207 = some a207 := by kernel_rfl
-- 149 slices.IndexFunc[[]int,int]
def a149b0 : ACode :=
  (.seq (.reg [
    ⟨(some 9), .bin .lss (.t 8) (.t 7), none, false, 0, 0, false⟩])
  (.seq (.cond (.t 9)
  .skip
  (.exit 0))
  (.seq (.block 1 (.seq (.reg [
    ⟨(some 10), .move (.t 8), none, false, 0, 0, false⟩,
    ⟨(some 5), .move (.t 10), none, false, 0, 0, false⟩])
  (.seq (.reg [
    ⟨(some 11), .move (.t 1), none, false, 0, 0, false⟩,
    ⟨(some 12), .move (.t 0), none, false, 0, 0, false⟩,
    ⟨(some 13), .move (.t 5), none, false, 0, 0, false⟩,
    ⟨(some 14), .idxAddr 1 (.t 12) (.t 13), none, false, 0, 0, false⟩,
    ⟨(some 15), .load false 1 (.t 14), none, true, 0, 0, false⟩,
    ⟨(some 16), .call (.t 11) [(.t 15)], none, true, 0, 0, false⟩])
  (.cond (.t 16)
  (.seq (.reg [
    ⟨(some 17), .move (.t 5), none, false, 0, 0, false⟩,
    ⟨(some 4), .move (.t 17), none, false, 0, 0, false⟩])
  .ret)
  .skip))))
  (.reg [
    ⟨(some 18), .bin .add (.t 8) (.c (.int .i64 1)), none, false, 0, 0, false⟩,
    ⟨(some 8), .move (.t 18), none, false, 0, 0, false⟩]))))
def a149 : AFunc := ⟨2, 19, (.seq (.reg [
    ⟨(some 4), .move (.c (.int .i64 0)), none, false, 0, 0, false⟩])
  (.seq (.seq (.reg [
    ⟨(some 6), .move (.t 0), none, false, 0, 0, false⟩,
    ⟨(some 7), .lenL (.t 6), none, false, 0, 0, false⟩,
    ⟨(some 8), .move (.c (.int .i64 0)), none, false, 0, 0, false⟩])
  (.block 0 (.loop a149b0)))
  (.seq (.reg [
    ⟨(some 4), .move (.c (.int .i64 (-1))), none, false, 0, 0, false⟩])
  .ret))), [.t 4]⟩
theorem fn149 : fnOf 149 = some a149 := by kernel_rfl
-- 65 slices.ContainsFunc[[]int,int]
def a65 : AFunc := ⟨2, 9, (.seq (.reg [
    ⟨(some 4), .move (.c (.bool false)), none, false, 0, 0, false⟩])
  (.seq (.reg [
    ⟨(some 5), .move (.t 0), none, false, 0, 0, false⟩,
    ⟨(some 6), .move (.t 1), none, false, 0, 0, false⟩,
    ⟨(some 7), .call (.f 149) [(.t 5), (.t 6)], none, true, 0, 0, false⟩,
    ⟨(some 8), .bin .geq (.t 7) (.c (.int .i64 0)), none, false, 0, 0, false⟩,
    ⟨(some 4), .move (.t 8), none, false, 0, 0, false⟩])
  .ret)), [.t 4]⟩
theorem fn65 : fnOf 65 = some a65 := by kernel_rfl
-- 163 madrigal/sig.good
def a163 : AFunc := ⟨2, 51, (.seq (.reg [
    ⟨(some 2), .box 3 (.t 0), none, true, 0, 0, false⟩,
    ⟨(some 3), .box 1 (.t 1), none, true, 0, 0, false⟩,
    ⟨(some 4), .move (.c (.bool false)), none, false, 0, 0, false⟩])
  (.seq (.reg [
    ⟨(some 7), .mkFunc (.func 205) [] [(.t 3)], none, false, 0, 0, false⟩,
    ⟨(some 5), .box 1 (.c .nilFunc), none, true, 0, 0, false⟩,
    ⟨none, .store 1 (.t 5) (.t 7), none, true, 0, 0, false⟩])
  (.seq (.reg [
    ⟨(some 8), .fieldAddr 0 (.t 2), none, false, 0, 0, false⟩,
    ⟨(some 9), .load false 1 (.t 8), none, true, 0, 0, false⟩,
    ⟨(some 10), .call (.f 206) [(.t 9), (.c (.str ⟨#[95]⟩))], none, true, 0, 0, false⟩,
    ⟨(some 6), .move (.t 10), none, false, 0, 0, false⟩])
  (.seq (.reg [
    ⟨(some 11), .fieldAddr 0 (.t 2), none, false, 0, 0, false⟩,
    ⟨(some 12), .load false 1 (.t 11), none, true, 0, 0, false⟩,
    ⟨(some 13), .call (.f 161) [(.t 12)], none, true, 0, 0, false⟩,
    ⟨(some 14), .move (.t 13), none, false, 0, 0, false⟩,
    ⟨(some 15), .move (.t 6), (some (14, true)), false, 0, 0, false⟩,
    ⟨(some 16), .fieldAddr 0 (.t 2), (some (14, true)), false, 0, 0, false⟩,
    ⟨(some 17), .load false 1 (.t 16), (some (14, true)), true, 0, 0, false⟩,
    ⟨(some 18), .lenS (.t 17), (some (14, true)), false, 0, 0, false⟩,
    ⟨(some 19), .bin .lss (.t 15) (.t 18), (some (14, true)), false, 0, 0, false⟩,
    ⟨(some 20), .pick (.t 14) (.t 19) (.c (.bool false)), none, false, 0, 0, false⟩,
    ⟨(some 21), .move (.t 20), none, false, 0, 0, false⟩,
    ⟨(some 22), .move (.t 6), (some (21, true)), false, 0, 0, false⟩,
    ⟨(some 23), .bin .eql (.t 22) (.c (.int .i64 0)), (some (21, true)), false, 0, 0, false⟩,
    ⟨(some 24), .move (.t 23), (some (21, true)), false, 0, 0, false⟩,
    ⟨(some 25), .move (.t 6), (some (24, false)), false, 0, 0, false⟩,
    ⟨(some 26), .fieldAddr 1 (.t 2), (some (24, false)), false, 0, 0, false⟩,
    ⟨(some 27), .load false 1 (.t 26), (some (24, false)), true, 0, 0, false⟩,
    ⟨(some 28), .lenL (.t 27), (some (24, false)), false, 0, 0, false⟩,
    ⟨(some 29), .bin .eql (.t 25) (.t 28), (some (24, false)), false, 0, 0, false⟩,
    ⟨(some 30), .pick (.t 24) (.c (.bool true)) (.t 29), (some (21, true)), false, 0, 0, false⟩,
    ⟨(some 31), .pick (.t 21) (.t 30) (.c (.bool false)), none, false, 0, 0, false⟩,
    ⟨(some 32), .move (.t 31), none, false, 0, 0, false⟩,
    ⟨(some 33), .fieldAddr 1 (.t 2), (some (32, true)), false, 0, 0, false⟩,
    ⟨(some 34), .load false 1 (.t 33), (some (32, true)), true, 0, 0, false⟩,
    ⟨(some 35), .lenL (.t 34), (some (32, true)), false, 0, 0, false⟩,
    ⟨(some 36), .bin .leq (.t 35) (.c (.int .i64 8)), (some (32, true)), false, 0, 0, false⟩,
    ⟨(some 37), .pick (.t 32) (.t 36) (.c (.bool false)), none, false, 0, 0, false⟩,
    ⟨(some 38), .move (.t 37), none, false, 0, 0, false⟩,
    ⟨(some 39), .load false 1 (.t 5), (some (38, true)), true, 0, 0, false⟩,
    ⟨(some 40), .fieldAddr 2 (.t 2), (some (38, true)), false, 0, 0, false⟩,
    ⟨(some 41), .load false 1 (.t 40), (some (38, true)), true, 0, 0, false⟩,
    ⟨(some 42), .call (.t 39) [(.t 41)], (some (38, true)), true, 0, 0, false⟩,
    ⟨(some 43), .pick (.t 38) (.t 42) (.c (.bool false)), none, false, 0, 0, false⟩,
    ⟨(some 44), .move (.t 43), none, false, 0, 0, false⟩,
    ⟨(some 45), .fieldAddr 1 (.t 2), (some (44, true)), false, 0, 0, false⟩,
    ⟨(some 46), .load false 1 (.t 45), (some (44, true)), true, 0, 0, false⟩,
    ⟨(some 47), .mkFunc (.func 207) [] [(.t 5)], (some (44, true)), false, 0, 0, false⟩,
    ⟨(some 48), .call (.f 65) [(.t 46), (.t 47)], (some (44, true)), true, 0, 0, false⟩,
    ⟨(some 49), .un .not (.t 48), (some (44, true)), false, 0, 0, false⟩,
    ⟨(some 50), .pick (.t 44) (.t 49) (.c (.bool false)), none, false, 0, 0, false⟩,
    ⟨(some 4), .move (.t 50), none, false, 0, 0, false⟩])
  .ret)))), [.t 4]⟩
theorem fn163 : fnOf 163 = some a163 := by kernel_rfl
-- 164 madrigal/sig.key
def a164b0 : ACode :=
  (.seq (.reg [
    ⟨(some 19), .bin .lss (.t 18) (.t 17), none, false, 0, 0, false⟩])
  (.seq (.cond (.t 19)
  .skip
  (.exit 0))
  (.seq (.block 1 (.seq (.reg [
    ⟨(some 20), .idxAddr 1 (.t 16) (.t 18), none, false, 0, 0, false⟩,
    ⟨(some 21), .load false 1 (.t 20), none, true, 0, 0, false⟩,
    ⟨(some 5), .move (.t 21), none, false, 0, 0, false⟩])
  (.reg [
    ⟨(some 22), .move (.t 3), none, false, 0, 0, false⟩,
    ⟨(some 23), .move (.t 5), none, false, 0, 0, false⟩,
    ⟨(some 24), .convInt .u8 (.t 23), none, false, 0, 0, false⟩,
    ⟨(some 25), .buildSlice 1 (.int .u8 0) 1 [(0, (.t 24))], none, false, 0, 0, false⟩,
    ⟨(some 26), .append 1 1 (.t 22) (.t 25), none, true, 0, 0, false⟩,
    ⟨(some 3), .move (.t 26), none, false, 0, 0, false⟩])))
  (.reg [
    ⟨(some 27), .bin .add (.t 18) (.c (.int .i64 1)), none, false, 0, 0, false⟩,
    ⟨(some 18), .move (.t 27), none, false, 0, 0, false⟩]))))
def a164 : AFunc := ⟨1, 30, (.seq (.reg [
    ⟨(some 1), .box 3 (.t 0), none, true, 0, 0, false⟩,
    ⟨(some 2), .move (.c (.str ⟨#[]⟩)), none, false, 0, 0, false⟩])
  (.seq (.reg [
    ⟨(some 6), .fieldAddr 0 (.t 1), none, false, 0, 0, false⟩,
    ⟨(some 7), .load false 1 (.t 6), none, true, 0, 0, false⟩,
    ⟨(some 8), .bin .add (.t 7) (.c (.str ⟨#[40]⟩)), none, false, 0, 0, false⟩,
    ⟨(some 9), .bytesOf (.t 8), none, true, 0, 0, false⟩,
    ⟨(some 3), .move (.t 9), none, false, 0, 0, false⟩])
  (.seq (.seq (.regD [
    ⟨(some 10), .fieldAddr 1 (.t 1), none, false, 0, 0, false⟩,
    ⟨(some 11), .load false 1 (.t 10), none, true, 1, 1, false⟩,
    ⟨(some 12), .call (.f 208) [(.t 11)], none, true, 2, 3, false⟩,
    ⟨(some 13), .fieldAddr 2 (.t 1), none, false, 3, 0, false⟩,
    ⟨(some 14), .load false 1 (.t 13), none, true, 4, 8, false⟩,
    ⟨(some 15), .buildSlice 1 (.int .i64 0) 1 [(0, (.t 14))], none, false, 5, 24, false⟩,
    ⟨(some 16), .append 1 8 (.t 12) (.t 15), none, true, 6, 63, false⟩,
    ⟨(some 17), .lenL (.t 16), none, false, 7, 127, false⟩,
    ⟨(some 18), .move (.c (.int .i64 0)), none, false, 8, 0, true⟩])
  (.block 0 (.loop a164b0)))
  (.seq (.reg [
    ⟨(some 28), .move (.t 3), none, false, 0, 0, false⟩,
    ⟨(some 29), .strOf (.t 28), none, true, 0, 0, false⟩,
    ⟨(some 2), .move (.t 29), none, false, 0, 0, false⟩])
  .ret)))), [.t 2]⟩
theorem fn164 : fnOf 164 = some a164 := by kernel_rfl
-- 87 madrigal/sig.Check
def a87b0 : ACode :=
  (.seq (.reg [
    ⟨(some 24), .bin .lss (.t 23) (.t 22), none, false, 0, 0, false⟩])
  (.seq (.cond (.t 24)
  .skip
  (.exit 0))
  (.seq (.block 1 (.seq (.reg [
    ⟨(some 25), .idxAddr 1 (.t 21) (.t 23), none, false, 0, 0, false⟩,
    ⟨(some 26), .load false 1 (.t 25), none, true, 0, 0, false⟩,
    ⟨(some 5), .move (.t 26), none, false, 0, 0, false⟩])
  (.seq (.seq (.reg [
    ⟨(some 27), .move (.t 5), none, false, 0, 0, false⟩,
    ⟨(some 28), .call (.f 161) [(.t 27)], none, true, 0, 0, false⟩,
    ⟨(some 29), .un .not (.t 28), none, false, 0, 0, false⟩,
    ⟨(some 30), .move (.t 29), none, false, 0, 0, false⟩,
    ⟨(some 31), .move (.t 5), (some (30, false)), false, 0, 0, false⟩,
    ⟨(some 32), .call (.f 162) [(.t 31), (.c (.str ⟨#[95]⟩))], (some (30, false)), true, 0, 0, false⟩,
    ⟨(some 33), .pick (.t 30) (.c (.bool true)) (.t 32), none, false, 0, 0, false⟩,
    ⟨(some 34), .move (.t 33), none, false, 0, 0, false⟩,
    ⟨(some 35), .move (.t 3), (some (34, false)), false, 0, 0, false⟩,
    ⟨(some 36), .move (.t 5), (some (34, false)), false, 0, 0, false⟩,
    ⟨(some 37), .lookup .str (.bool false) false (.t 35) (.t 36), (some (34, false)), true, 0, 0, false⟩,
    ⟨(some 38), .pick (.t 34) (.c (.bool true)) (.t 37), none, false, 0, 0, false⟩])
  (.cond (.t 38)
  (.seq (.reg [
    ⟨(some 2), .move (.c (.int .i64 40)), none, false, 0, 0, false⟩])
  .ret)
  .skip))
  (.reg [
    ⟨(some 39), .move (.t 3), none, false, 0, 0, false⟩,
    ⟨(some 40), .move (.t 5), none, false, 0, 0, false⟩,
    ⟨none, .mapUpd .str (.t 39) (.t 40) (.c (.bool true)), none, true, 0, 0, false⟩]))))
  (.reg [
    ⟨(some 41), .bin .add (.t 23) (.c (.int .i64 1)), none, false, 0, 0, false⟩,
    ⟨(some 23), .move (.t 41), none, false, 0, 0, false⟩]))))
def a87b1 : ACode :=
  (.seq (.reg [
    ⟨(some 47), .bin .lss (.t 46) (.t 45), none, false, 0, 0, false⟩])
  (.seq (.cond (.t 47)
  .skip
  (.exit 2))
  (.seq (.block 3 (.seq (.reg [
    ⟨(some 48), .idxAddr 3 (.t 44) (.t 46), none, false, 0, 0, false⟩,
    ⟨(some 49), .load true 3 (.t 48), none, true, 0, 0, false⟩,
    ⟨(some 8), .box 3 (.c (.agg [(.str ⟨#[]⟩), (.slice 0 [] .nil), (.int .i64 0)])), none, true, 0, 0, false⟩,
    ⟨none, .store 3 (.t 8) (.t 49), none, true, 0, 0, false⟩])
  (.seq (.seq (.reg [
    ⟨(some 50), .load true 3 (.t 8), none, true, 0, 0, false⟩,
    ⟨(some 51), .fieldAddr 0 (.t 1), none, false, 0, 0, false⟩,
    ⟨(some 52), .load false 1 (.t 51), none, true, 0, 0, false⟩,
    ⟨(some 53), .lenL (.t 52), none, false, 0, 0, false⟩,
    ⟨(some 54), .call (.f 163) [(.t 50), (.t 53)], none, true, 0, 0, false⟩,
    ⟨(some 55), .un .not (.t 54), none, false, 0, 0, false⟩,
    ⟨(some 56), .move (.t 55), none, false, 0, 0, false⟩,
    ⟨(some 57), .move (.t 6), (some (56, false)), false, 0, 0, false⟩,
    ⟨(some 58), .load true 3 (.t 8), (some (56, false)), true, 0, 0, false⟩,
    ⟨(some 59), .call (.f 164) [(.t 58)], (some (56, false)), true, 0, 0, false⟩,
    ⟨(some 60), .lookup .str (.bool false) false (.t 57) (.t 59), (some (56, false)), true, 0, 0, false⟩,
    ⟨(some 61), .pick (.t 56) (.c (.bool true)) (.t 60), none, false, 0, 0, false⟩])
  (.cond (.t 61)
  (.seq (.reg [
    ⟨(some 2), .move (.c (.int .i64 40)), none, false, 0, 0, false⟩])
  .ret)
  .skip))
  (.reg [
    ⟨(some 62), .move (.t 6), none, false, 0, 0, false⟩,
    ⟨(some 63), .load true 3 (.t 8), none, true, 0, 0, false⟩,
    ⟨(some 64), .call (.f 164) [(.t 63)], none, true, 0, 0, false⟩,
    ⟨none, .mapUpd .str (.t 62) (.t 64) (.c (.bool true)), none, true, 0, 0, false⟩]))))
  (.reg [
    ⟨(some 65), .bin .add (.t 46) (.c (.int .i64 1)), none, false, 0, 0, false⟩,
    ⟨(some 46), .move (.t 65), none, false, 0, 0, false⟩]))))
def a87 : AFunc := ⟨1, 66, (.seq (.reg [
    ⟨(some 1), .box 2 (.t 0), none, true, 0, 0, false⟩,
    ⟨(some 2), .move (.c (.int .i64 0)), none, false, 0, 0, false⟩])
  (.seq (.seq (.reg [
    ⟨(some 9), .fieldAddr 0 (.t 1), none, false, 0, 0, false⟩,
    ⟨(some 10), .load false 1 (.t 9), none, true, 0, 0, false⟩,
    ⟨(some 11), .lenL (.t 10), none, false, 0, 0, false⟩,
    ⟨(some 12), .bin .gtr (.t 11) (.c (.int .i64 64)), none, false, 0, 0, false⟩,
    ⟨(some 13), .move (.t 12), none, false, 0, 0, false⟩,
    ⟨(some 14), .fieldAddr 1 (.t 1), (some (13, false)), false, 0, 0, false⟩,
    ⟨(some 15), .load false 1 (.t 14), (some (13, false)), true, 0, 0, false⟩,
    ⟨(some 16), .lenL (.t 15), (some (13, false)), false, 0, 0, false⟩,
    ⟨(some 17), .bin .gtr (.t 16) (.c (.int .i64 256)), (some (13, false)), false, 0, 0, false⟩,
    ⟨(some 18), .pick (.t 13) (.c (.bool true)) (.t 17), none, false, 0, 0, false⟩])
  (.cond (.t 18)
  (.seq (.reg [
    ⟨(some 2), .move (.c (.int .i64 40)), none, false, 0, 0, false⟩])
  .ret)
  .skip))
  (.seq (.reg [
    ⟨(some 19), .makeMap, none, true, 0, 0, false⟩,
    ⟨(some 3), .move (.t 19), none, false, 0, 0, false⟩])
  (.seq (.seq (.reg [
    ⟨(some 20), .fieldAddr 0 (.t 1), none, false, 0, 0, false⟩,
    ⟨(some 21), .load false 1 (.t 20), none, true, 0, 0, false⟩,
    ⟨(some 22), .lenL (.t 21), none, false, 0, 0, false⟩,
    ⟨(some 23), .move (.c (.int .i64 0)), none, false, 0, 0, false⟩])
  (.block 0 (.loop a87b0)))
  (.seq (.reg [
    ⟨(some 42), .makeMap, none, true, 0, 0, false⟩,
    ⟨(some 6), .move (.t 42), none, false, 0, 0, false⟩])
  (.seq (.seq (.reg [
    ⟨(some 43), .fieldAddr 1 (.t 1), none, false, 0, 0, false⟩,
    ⟨(some 44), .load false 1 (.t 43), none, true, 0, 0, false⟩,
    ⟨(some 45), .lenL (.t 44), none, false, 0, 0, false⟩,
    ⟨(some 46), .move (.c (.int .i64 0)), none, false, 0, 0, false⟩])
  (.block 2 (.loop a87b1)))
  (.seq (.reg [
    ⟨(some 2), .move (.c (.int .i64 0)), none, false, 0, 0, false⟩])
  .ret))))))), [.t 2]⟩
theorem fn87 : fnOf 87 = some a87 := by kernel_rfl
-- 139 slices.IndexFunc[[]madrigal/api.Op,madrigal/api.Op]
def a139b0 : ACode :=
  (.seq (.reg [
    ⟨(some 9), .bin .lss (.t 8) (.t 7), none, false, 0, 0, false⟩])
  (.seq (.cond (.t 9)
  .skip
  (.exit 0))
  (.seq (.block 1 (.seq (.reg [
    ⟨(some 10), .move (.t 8), none, false, 0, 0, false⟩,
    ⟨(some 5), .move (.t 10), none, false, 0, 0, false⟩])
  (.seq (.reg [
    ⟨(some 11), .move (.t 1), none, false, 0, 0, false⟩,
    ⟨(some 12), .move (.t 0), none, false, 0, 0, false⟩,
    ⟨(some 13), .move (.t 5), none, false, 0, 0, false⟩,
    ⟨(some 14), .idxAddr 3 (.t 12) (.t 13), none, false, 0, 0, false⟩,
    ⟨(some 15), .load true 3 (.t 14), none, true, 0, 0, false⟩,
    ⟨(some 16), .call (.t 11) [(.t 15)], none, true, 0, 0, false⟩])
  (.cond (.t 16)
  (.seq (.reg [
    ⟨(some 17), .move (.t 5), none, false, 0, 0, false⟩,
    ⟨(some 4), .move (.t 17), none, false, 0, 0, false⟩])
  .ret)
  .skip))))
  (.reg [
    ⟨(some 18), .bin .add (.t 8) (.c (.int .i64 1)), none, false, 0, 0, false⟩,
    ⟨(some 8), .move (.t 18), none, false, 0, 0, false⟩]))))
def a139 : AFunc := ⟨2, 19, (.seq (.reg [
    ⟨(some 4), .move (.c (.int .i64 0)), none, false, 0, 0, false⟩])
  (.seq (.seq (.reg [
    ⟨(some 6), .move (.t 0), none, false, 0, 0, false⟩,
    ⟨(some 7), .lenL (.t 6), none, false, 0, 0, false⟩,
    ⟨(some 8), .move (.c (.int .i64 0)), none, false, 0, 0, false⟩])
  (.block 0 (.loop a139b0)))
  (.seq (.reg [
    ⟨(some 4), .move (.c (.int .i64 (-1))), none, false, 0, 0, false⟩])
  .ret))), [.t 4]⟩
theorem fn139 : fnOf 139 = some a139 := by kernel_rfl
-- 80 slices.ContainsFunc[[]madrigal/api.Op,madrigal/api.Op]
def a80 : AFunc := ⟨2, 9, (.seq (.reg [
    ⟨(some 4), .move (.c (.bool false)), none, false, 0, 0, false⟩])
  (.seq (.reg [
    ⟨(some 5), .move (.t 0), none, false, 0, 0, false⟩,
    ⟨(some 6), .move (.t 1), none, false, 0, 0, false⟩,
    ⟨(some 7), .call (.f 139) [(.t 5), (.t 6)], none, true, 0, 0, false⟩,
    ⟨(some 8), .bin .geq (.t 7) (.c (.int .i64 0)), none, false, 0, 0, false⟩,
    ⟨(some 4), .move (.t 8), none, false, 0, 0, false⟩])
  .ret)), [.t 4]⟩
theorem fn80 : fnOf 80 = some a80 := by kernel_rfl
-- 160 slices.IndexFunc[[]string,string]
def a160b0 : ACode :=
  (.seq (.reg [
    ⟨(some 9), .bin .lss (.t 8) (.t 7), none, false, 0, 0, false⟩])
  (.seq (.cond (.t 9)
  .skip
  (.exit 0))
  (.seq (.block 1 (.seq (.reg [
    ⟨(some 10), .move (.t 8), none, false, 0, 0, false⟩,
    ⟨(some 5), .move (.t 10), none, false, 0, 0, false⟩])
  (.seq (.reg [
    ⟨(some 11), .move (.t 1), none, false, 0, 0, false⟩,
    ⟨(some 12), .move (.t 0), none, false, 0, 0, false⟩,
    ⟨(some 13), .move (.t 5), none, false, 0, 0, false⟩,
    ⟨(some 14), .idxAddr 1 (.t 12) (.t 13), none, false, 0, 0, false⟩,
    ⟨(some 15), .load false 1 (.t 14), none, true, 0, 0, false⟩,
    ⟨(some 16), .call (.t 11) [(.t 15)], none, true, 0, 0, false⟩])
  (.cond (.t 16)
  (.seq (.reg [
    ⟨(some 17), .move (.t 5), none, false, 0, 0, false⟩,
    ⟨(some 4), .move (.t 17), none, false, 0, 0, false⟩])
  .ret)
  .skip))))
  (.reg [
    ⟨(some 18), .bin .add (.t 8) (.c (.int .i64 1)), none, false, 0, 0, false⟩,
    ⟨(some 8), .move (.t 18), none, false, 0, 0, false⟩]))))
def a160 : AFunc := ⟨2, 19, (.seq (.reg [
    ⟨(some 4), .move (.c (.int .i64 0)), none, false, 0, 0, false⟩])
  (.seq (.seq (.reg [
    ⟨(some 6), .move (.t 0), none, false, 0, 0, false⟩,
    ⟨(some 7), .lenL (.t 6), none, false, 0, 0, false⟩,
    ⟨(some 8), .move (.c (.int .i64 0)), none, false, 0, 0, false⟩])
  (.block 0 (.loop a160b0)))
  (.seq (.reg [
    ⟨(some 4), .move (.c (.int .i64 (-1))), none, false, 0, 0, false⟩])
  .ret))), [.t 4]⟩
theorem fn160 : fnOf 160 = some a160 := by kernel_rfl
-- 82 slices.ContainsFunc[[]string,string]
def a82 : AFunc := ⟨2, 9, (.seq (.reg [
    ⟨(some 4), .move (.c (.bool false)), none, false, 0, 0, false⟩])
  (.seq (.reg [
    ⟨(some 5), .move (.t 0), none, false, 0, 0, false⟩,
    ⟨(some 6), .move (.t 1), none, false, 0, 0, false⟩,
    ⟨(some 7), .call (.f 160) [(.t 5), (.t 6)], none, true, 0, 0, false⟩,
    ⟨(some 8), .bin .geq (.t 7) (.c (.int .i64 0)), none, false, 0, 0, false⟩,
    ⟨(some 4), .move (.t 8), none, false, 0, 0, false⟩])
  .ret)), [.t 4]⟩
theorem fn82 : fnOf 82 = some a82 := by kernel_rfl
-- 81 madrigal/madrigallaw09.small$1
def a81 : AFunc := ⟨1, 13, (.seq (.reg [
    ⟨(some 1), .box 3 (.t 0), none, true, 0, 0, false⟩,
    ⟨(some 2), .move (.c (.bool false)), none, false, 0, 0, false⟩])
  (.seq (.reg [
    ⟨(some 3), .fieldAddr 1 (.t 1), none, false, 0, 0, false⟩,
    ⟨(some 4), .load false 1 (.t 3), none, true, 0, 0, false⟩,
    ⟨(some 5), .lenL (.t 4), none, false, 0, 0, false⟩,
    ⟨(some 6), .bin .gtr (.t 5) (.c (.int .i64 20)), none, false, 0, 0, false⟩,
    ⟨(some 7), .move (.t 6), none, false, 0, 0, false⟩,
    ⟨(some 8), .fieldAddr 0 (.t 1), (some (7, false)), false, 0, 0, false⟩,
    ⟨(some 9), .load false 1 (.t 8), (some (7, false)), true, 0, 0, false⟩,
    ⟨(some 10), .lenS (.t 9), (some (7, false)), false, 0, 0, false⟩,
    ⟨(some 11), .bin .gtr (.t 10) (.c (.int .i64 200)), (some (7, false)), false, 0, 0, false⟩,
    ⟨(some 12), .pick (.t 7) (.c (.bool true)) (.t 11), none, false, 0, 0, false⟩,
    ⟨(some 2), .move (.t 12), none, false, 0, 0, false⟩])
  .ret)), [.t 2]⟩
theorem fn81 : fnOf 81 = some a81 := by kernel_rfl
-- 83 madrigal/madrigallaw09.small$2
def a83 : AFunc := ⟨1, 6, (.seq (.reg [
    ⟨(some 2), .move (.c (.bool false)), none, false, 0, 0, false⟩])
  (.seq (.reg [
    ⟨(some 3), .move (.t 0), none, false, 0, 0, false⟩,
    ⟨(some 4), .lenS (.t 3), none, false, 0, 0, false⟩,
    ⟨(some 5), .bin .gtr (.t 4) (.c (.int .i64 200)), none, false, 0, 0, false⟩,
    ⟨(some 2), .move (.t 5), none, false, 0, 0, false⟩])
  .ret)), [.t 2]⟩
theorem fn83 : fnOf 83 = some a83 := by kernel_rfl
-- 16 madrigal/madrigallaw09.small
def a16 : AFunc := ⟨1, 25, (.seq (.reg [
    ⟨(some 1), .box 2 (.t 0), none, true, 0, 0, false⟩,
    ⟨(some 2), .move (.c (.bool false)), none, false, 0, 0, false⟩])
  (.seq (.reg [
    ⟨(some 3), .fieldAddr 1 (.t 1), none, false, 0, 0, false⟩,
    ⟨(some 4), .load false 1 (.t 3), none, true, 0, 0, false⟩,
    ⟨(some 5), .lenL (.t 4), none, false, 0, 0, false⟩,
    ⟨(some 6), .bin .leq (.t 5) (.c (.int .i64 40)), none, false, 0, 0, false⟩,
    ⟨(some 7), .move (.t 6), none, false, 0, 0, false⟩,
    ⟨(some 8), .fieldAddr 0 (.t 1), (some (7, true)), false, 0, 0, false⟩,
    ⟨(some 9), .load false 1 (.t 8), (some (7, true)), true, 0, 0, false⟩,
    ⟨(some 10), .lenL (.t 9), (some (7, true)), false, 0, 0, false⟩,
    ⟨(some 11), .bin .leq (.t 10) (.c (.int .i64 20)), (some (7, true)), false, 0, 0, false⟩,
    ⟨(some 12), .pick (.t 7) (.t 11) (.c (.bool false)), none, false, 0, 0, false⟩,
    ⟨(some 13), .move (.t 12), none, false, 0, 0, false⟩,
    ⟨(some 14), .fieldAddr 1 (.t 1), (some (13, true)), false, 0, 0, false⟩,
    ⟨(some 15), .load false 1 (.t 14), (some (13, true)), true, 0, 0, false⟩,
    ⟨(some 16), .call (.f 80) [(.t 15), (.f 81)], (some (13, true)), true, 0, 0, false⟩,
    ⟨(some 17), .un .not (.t 16), (some (13, true)), false, 0, 0, false⟩,
    ⟨(some 18), .pick (.t 13) (.t 17) (.c (.bool false)), none, false, 0, 0, false⟩,
    ⟨(some 19), .move (.t 18), none, false, 0, 0, false⟩,
    ⟨(some 20), .fieldAddr 0 (.t 1), (some (19, true)), false, 0, 0, false⟩,
    ⟨(some 21), .load false 1 (.t 20), (some (19, true)), true, 0, 0, false⟩,
    ⟨(some 22), .call (.f 82) [(.t 21), (.f 83)], (some (19, true)), true, 0, 0, false⟩,
    ⟨(some 23), .un .not (.t 22), (some (19, true)), false, 0, 0, false⟩,
    ⟨(some 24), .pick (.t 19) (.t 23) (.c (.bool false)), none, false, 0, 0, false⟩,
    ⟨(some 2), .move (.t 24), none, false, 0, 0, false⟩])
  .ret)), [.t 2]⟩
theorem fn16 : fnOf 16 = some a16 := by kernel_rfl
-- 27 madrigal/madrigallaw09.brief
def a27b0 : ACode :=
  (.seq (.seq (.reg [
    ⟨(some 38), .move (.t 7), none, false, 0, 0, false⟩,
    ⟨(some 39), .move (.t 1), none, false, 0, 0, false⟩,
    ⟨(some 40), .min false [(.t 39), (.c (.int .i64 12))], none, false, 0, 0, false⟩,
    ⟨(some 41), .bin .leq (.t 38) (.t 40), none, false, 0, 0, false⟩])
  (.cond (.t 41)
  .skip
  (.exit 2)))
  (.seq (.block 3 (.seq (.reg [
    ⟨(some 45), .load true 2 (.t 2), none, true, 0, 0, false⟩,
    ⟨(some 46), .move (.t 5), none, false, 0, 0, false⟩,
    ⟨(some 47), .move (.t 7), none, false, 0, 0, false⟩,
    ⟨(some 48), .call (.f 58) [(.t 45), (.t 46), (.t 47)], none, true, 0, 0, false⟩,
    ⟨(some 44), .move (.t 48), none, false, 0, 0, false⟩,
    ⟨(some 49), .extract (.t 44) 0, none, false, 0, 0, false⟩,
    ⟨(some 50), .extract (.t 44) 1, none, false, 0, 0, false⟩,
    ⟨(some 8), .move (.t 49), none, false, 0, 0, false⟩,
    ⟨(some 9), .move (.t 50), none, false, 0, 0, false⟩])
  (.seq (.reg [
    ⟨(some 51), .move (.t 6), none, false, 0, 0, false⟩,
    ⟨(some 52), .move (.t 8), none, false, 0, 0, false⟩,
    ⟨(some 53), .bin .add (.t 51) (.t 52), none, false, 0, 0, false⟩,
    ⟨(some 6), .move (.t 53), none, false, 0, 0, false⟩])
  (.seq (.reg [
    ⟨(some 54), .move (.t 9), none, false, 0, 0, false⟩,
    ⟨(some 55), .bin .neq (.t 54) (.c (.int .i64 0)), none, false, 0, 0, false⟩,
    ⟨(some 56), .move (.t 55), none, false, 0, 0, false⟩,
    ⟨(some 57), .move (.t 6), (some (56, false)), false, 0, 0, false⟩,
    ⟨(some 58), .bin .gtr (.t 57) (.c (.int .i64 300)), (some (56, false)), false, 0, 0, false⟩,
    ⟨(some 59), .pick (.t 56) (.c (.bool true)) (.t 58), none, false, 0, 0, false⟩])
  (.cond (.t 59)
  (.seq (.reg [
    ⟨(some 4), .move (.c (.bool false)), none, false, 0, 0, false⟩])
  .ret)
  .skip)))))
  (.reg [
    ⟨(some 42), .move (.t 7), none, false, 0, 0, false⟩,
    ⟨(some 43), .bin .add (.t 42) (.c (.int .i64 1)), none, false, 0, 0, false⟩,
    ⟨(some 7), .move (.t 43), none, false, 0, 0, false⟩])))
def a27b1 : ACode :=
  (.seq (.reg [
    ⟨(some 36), .bin .lss (.t 35) (.t 34), none, false, 0, 0, false⟩])
  (.seq (.cond (.t 36)
  .skip
  (.exit 0))
  (.seq (.block 1 (.seq (.reg [
    ⟨(some 37), .move (.t 35), none, false, 0, 0, false⟩,
    ⟨(some 5), .move (.t 37), none, false, 0, 0, false⟩])
  (.seq (.reg [
    ⟨(some 6), .move (.c (.int .i64 0)), none, false, 0, 0, false⟩])
  (.seq (.reg [
    ⟨(some 7), .move (.c (.int .i64 1)), none, false, 0, 0, false⟩])
  (.block 2 (.loop a27b0))))))
  (.reg [
    ⟨(some 60), .bin .add (.t 35) (.c (.int .i64 1)), none, false, 0, 0, false⟩,
    ⟨(some 35), .move (.t 60), none, false, 0, 0, false⟩]))))
def a27 : AFunc := ⟨2, 61, (.seq (.reg [
    ⟨(some 2), .box 2 (.t 0), none, true, 0, 0, false⟩,
    ⟨(some 4), .move (.c (.bool false)), none, false, 0, 0, false⟩])
  (.seq (.seq (.reg [
    ⟨(some 10), .move (.t 1), none, false, 0, 0, false⟩,
    ⟨(some 11), .bin .gtr (.t 10) (.c (.int .i64 12)), none, false, 0, 0, false⟩,
    ⟨(some 12), .move (.t 11), none, false, 0, 0, false⟩,
    ⟨(some 13), .move (.t 1), (some (12, true)), false, 0, 0, false⟩,
    ⟨(some 14), .bin .leq (.t 13) (.c (.int .i64 60)), (some (12, true)), false, 0, 0, false⟩,
    ⟨(some 15), .pick (.t 12) (.t 14) (.c (.bool false)), none, false, 0, 0, false⟩,
    ⟨(some 16), .move (.t 15), none, false, 0, 0, false⟩,
    ⟨(some 17), .load true 2 (.t 2), (some (16, false)), true, 0, 0, false⟩,
    ⟨(some 18), .call (.f 16) [(.t 17)], (some (16, false)), true, 0, 0, false⟩,
    ⟨(some 19), .un .not (.t 18), (some (16, false)), false, 0, 0, false⟩,
    ⟨(some 20), .pick (.t 16) (.c (.bool true)) (.t 19), none, false, 0, 0, false⟩,
    ⟨(some 21), .move (.t 20), none, false, 0, 0, false⟩,
    ⟨(some 22), .load true 2 (.t 2), (some (21, false)), true, 0, 0, false⟩,
    ⟨(some 23), .call (.f 97) [(.t 22)], (some (21, false)), true, 0, 0, false⟩,
    ⟨(some 24), .bin .neq (.t 23) (.c (.int .i64 0)), (some (21, false)), false, 0, 0, false⟩,
    ⟨(some 25), .pick (.t 21) (.c (.bool true)) (.t 24), none, false, 0, 0, false⟩])
  (.cond (.t 25)
  (.seq (.reg [
    ⟨(some 26), .move (.t 1), none, false, 0, 0, false⟩,
    ⟨(some 27), .bin .leq (.t 26) (.c (.int .i64 12)), none, false, 0, 0, false⟩,
    ⟨(some 28), .move (.t 27), none, false, 0, 0, false⟩,
    ⟨(some 29), .move (.t 1), (some (28, false)), false, 0, 0, false⟩,
    ⟨(some 30), .bin .gtr (.t 29) (.c (.int .i64 60)), (some (28, false)), false, 0, 0, false⟩,
    ⟨(some 31), .pick (.t 28) (.c (.bool true)) (.t 30), none, false, 0, 0, false⟩,
    ⟨(some 4), .move (.t 31), none, false, 0, 0, false⟩])
  .ret)
  .skip))
  (.seq (.seq (.reg [
    ⟨(some 32), .fieldAddr 0 (.t 2), none, false, 0, 0, false⟩,
    ⟨(some 33), .load false 1 (.t 32), none, true, 0, 0, false⟩,
    ⟨(some 34), .lenL (.t 33), none, false, 0, 0, false⟩,
    ⟨(some 35), .move (.c (.int .i64 0)), none, false, 0, 0, false⟩])
  (.block 0 (.loop a27b1)))
  (.seq (.reg [
    ⟨(some 4), .move (.c (.bool true)), none, false, 0, 0, false⟩])
  .ret)))), [.t 4]⟩
theorem fn27 : fnOf 27 = some a27 := by kernel_rfl


end Go.Proofs.Tryz
/- sig: names, holes, sorts in range; all total. -/
namespace Go.Proofs.Tryz
open Go Go.AE
variable {T : Tbl} (hT : Std T)

@[go_sem] theorem prim_index {s : ByteArray} {c : Int} : primop .indexByteString [.str s, .int .u8 c] = some (.int .i64 (match (List.range s.size).find? (fun i => s[i]! == UInt8.ofNat c.toNat) with | some i => (i : Int) | none => -1)) := rfl
@[go_sem] theorem prim_count {s : ByteArray} {c : Int} : primop .countString [.str s, .int .u8 c] = some (.int .i64 (s.foldl (fun n x => if x == UInt8.ofNat c.toNat then n + 1 else n) (0 : Int))) := rfl
include hT in
theorem index244_tot (t : ByteArray) (c : Int) (h : List AE.Obj) : ∃ r : Int, Ev T 244 [.str t, .int .u8 c] h (.val (.int .i64 r), ⟨h, [], []⟩) ∧ True := by
  refine Ev.walkP (hT.sp _ (by decide)) ((hT.fn _).trans fn244) (hT.mode _) rfl ?_
  simp (disch := first | omega | decide | (simp only [eget_eput', ↓reduceIte, Nat.reduceEqDiff]; done)) only [go_sem, ↓reduceIte, Nat.reduceEqDiff, Nat.reduceAdd, Nat.reduceMul, reduceCtorEq, hT.prim, primOf]
  exact ⟨_, rfl, trivial⟩
include hT in
theorem index203_tot (t : ByteArray) (c : Int) (h : List AE.Obj) : ∃ r : Int, Ev T 203 [.str t, .int .u8 c] h (.val (.int .i64 r), ⟨h, [], []⟩) ∧ True := by
  refine Ev.walkP (hT.sp _ (by decide)) ((hT.fn _).trans fn203) (hT.mode _) rfl ?_
  obtain ⟨r, hr, _⟩ := index244_tot hT t c h
  simp (disch := first | omega | decide | (simp only [eget_eput', ↓reduceIte, Nat.reduceEqDiff]; done)) only [go_sem, ↓reduceIte, Nat.reduceEqDiff, Nat.reduceAdd, Nat.reduceMul, reduceCtorEq, hT.prim, primOf, cb hr]
  exact ⟨_, rfl, trivial⟩
theorem us_size : (ByteArray.mk #[95]).size = 1 := rfl
theorem us_at : strAt ⟨#[95]⟩ 0 = some 95 := rfl
include hT in
theorem index245_tot (t : ByteArray) (h : List AE.Obj) : ∃ r : Int, Ev T 245 [.str t, .str ⟨#[95]⟩] h (.val (.int .i64 r), ⟨h, [], []⟩) ∧ True := by
  refine Ev.walkP (hT.sp _ (by decide)) ((hT.fn _).trans fn245) (hT.mode _) rfl ?_
  obtain ⟨r, hr, _⟩ := index244_tot hT t ((95 : Nat) : Int) h
  have b0 : (((1 : Nat) : Int) == 0) = false := rfl
  have b1 : (((1 : Nat) : Int) == 1) = true := rfl
  simp (disch := first | omega | decide | (simp only [eget_eput', ↓reduceIte, Nat.reduceEqDiff]; done)) only [go_sem, ↓reduceIte, Nat.reduceEqDiff, Nat.reduceAdd, Nat.reduceMul, reduceCtorEq, hT.prim, primOf, cb hr, us_size, us_at, b0, b1]
  exact bifs (fun _ => ⟨_, rfl, trivial⟩) (fun _ => ⟨_, rfl, trivial⟩)
include hT in
theorem name_tot (t : ByteArray) (h : List AE.Obj) : ∃ r, Ev T 161 [.str t] h (.val (.bool r), ⟨h, [], []⟩) ∧ True := by
  refine Ev.walkP (hT.sp _ (by decide)) ((hT.fn _).trans fn161) (hT.mode _) rfl ?_
  by_cases hl : t.size ≤ 32
  · simp (disch := first | omega | decide | (simp only [eget_eput', ↓reduceIte, Nat.reduceEqDiff]; done)) only [go_sem, ↓reduceIte, Nat.reduceEqDiff, Nat.reduceAdd, Nat.reduceMul, reduceCtorEq]
    repeat' first | exact ⟨_, rfl, trivial⟩ | refine bifs (fun _ => ?_) (fun _ => ?_)
    all_goals
      refine wpC.loopM (fun n e s => ∃ i : Nat, i + n = t.size ∧ eget e 0 = .str t ∧ eget e 13 = .int .i64 (t.size : Int) ∧ eget e 14 = .int .i64 (i : Int) ∧ s = ⟨h, [], []⟩) ?_ t.size _ _ ⟨0, by simp, by simp (disch := first | omega | decide | (simp only [eget_eput', ↓reduceIte, Nat.reduceEqDiff]; done)) only [go_sem, ↓reduceIte, Nat.reduceEqDiff, Nat.reduceAdd, Nat.reduceMul, reduceCtorEq], by simp (disch := first | omega | decide | (simp only [eget_eput', ↓reduceIte, Nat.reduceEqDiff]; done)) only [go_sem, ↓reduceIte, Nat.reduceEqDiff, Nat.reduceAdd, Nat.reduceMul, reduceCtorEq], by simp (disch := first | omega | decide | (simp only [eget_eput', ↓reduceIte, Nat.reduceEqDiff]; done)) only [go_sem, ↓reduceIte, Nat.reduceEqDiff, Nat.reduceAdd, Nat.reduceMul, reduceCtorEq]; rfl, rfl⟩
      rintro n e s ⟨i, hi, e0, e13, e14, rfl⟩
      by_cases h1 : i < t.size
      · obtain ⟨c, hc⟩ := strAt_lt h1
        obtain ⟨r, hr, _⟩ := index203_tot hT ⟨#[40, 41, 44]⟩ (c : Int) h
        simp (disch := first | omega | decide | (simp only [eget_eput', ↓reduceIte, Nat.reduceEqDiff]; done)) only [go_sem, ↓reduceIte, Nat.reduceEqDiff, Nat.reduceAdd, Nat.reduceMul, reduceCtorEq, a161b0, e0, e13, e14, h1, hc, cb hr, hT.prim, primOf]
        repeat' first | exact ⟨_, rfl, trivial⟩ | exact ⟨n - 1, by omega, i + 1, by omega, rfl, trivial⟩ | refine bifs (fun _ => ?_) (fun _ => ?_)
      · simp (disch := first | omega | decide | (simp only [eget_eput', ↓reduceIte, Nat.reduceEqDiff]; done)) only [go_sem, ↓reduceIte, Nat.reduceEqDiff, Nat.reduceAdd, Nat.reduceMul, reduceCtorEq, a161b0, e0, e13, e14, h1]
        exact ⟨_, rfl, trivial⟩
  · have h2 : ((32 : Int) < (t.size : Int)) := by omega
    simp (disch := first | omega | decide | (simp only [eget_eput', ↓reduceIte, Nat.reduceEqDiff]; done)) only [go_sem, ↓reduceIte, Nat.reduceEqDiff, Nat.reduceAdd, Nat.reduceMul, reduceCtorEq, h2]
    repeat' first | exact ⟨_, rfl, trivial⟩ | refine bifs (fun _ => ?_) (fun _ => ?_)
include hT in
theorem index204_tot (t : ByteArray) (h : List AE.Obj) : ∃ r : Int, Ev T 204 [.str t, .str ⟨#[95]⟩] h (.val (.int .i64 r), ⟨h, [], []⟩) ∧ True := by
  refine Ev.walkP (hT.sp _ (by decide)) ((hT.fn _).trans fn204) (hT.mode _) rfl ?_
  obtain ⟨r, hr, _⟩ := index245_tot hT t h
  simp (disch := first | omega | decide | (simp only [eget_eput', ↓reduceIte, Nat.reduceEqDiff]; done)) only [go_sem, ↓reduceIte, Nat.reduceEqDiff, Nat.reduceAdd, Nat.reduceMul, reduceCtorEq, hT.prim, primOf, cb hr]
  exact ⟨_, rfl, trivial⟩
include hT in
theorem contains_tot (t : ByteArray) (h : List AE.Obj) : ∃ r, Ev T 162 [.str t, .str ⟨#[95]⟩] h (.val (.bool r), ⟨h, [], []⟩) ∧ True := by
  refine Ev.walkP (hT.sp _ (by decide)) ((hT.fn _).trans fn162) (hT.mode _) rfl ?_
  obtain ⟨r, hr, _⟩ := index204_tot hT t h
  simp (disch := first | omega | decide | (simp only [eget_eput', ↓reduceIte, Nat.reduceEqDiff]; done)) only [go_sem, ↓reduceIte, Nat.reduceEqDiff, Nat.reduceAdd, Nat.reduceMul, reduceCtorEq, hT.prim, primOf, cb hr]
  exact ⟨_, rfl, trivial⟩
include hT in
theorem count_tot (t : ByteArray) (h : List AE.Obj) : ∃ r : Int, Ev T 206 [.str t, .str ⟨#[95]⟩] h (.val (.int .i64 r), ⟨h, [], []⟩) ∧ True := by
  refine Ev.walkP (hT.sp _ (by decide)) ((hT.fn _).trans fn206) (hT.mode _) rfl ?_
  have b0 : (((1 : Nat) : Int) == 0) = false := rfl
  have b1 : (((1 : Nat) : Int) == 1) = true := rfl
  simp (disch := first | omega | decide | (simp only [eget_eput', ↓reduceIte, Nat.reduceEqDiff]; done)) only [go_sem, ↓reduceIte, Nat.reduceEqDiff, Nat.reduceAdd, Nat.reduceMul, reduceCtorEq, hT.prim, primOf, us_size, us_at, b0, b1]
  exact ⟨_, rfl, trivial⟩
/-- Is it a sort? -/
def isSortB (n : Int) (nS : Nat) : Bool := decide (0 ≤ n) && decide (n < (nS : Int))
include hT in
theorem good1_ev {n : Int} {nS k : Nat} {h : List AE.Obj} (hk : h[k]? = some (.row 1 [.int .i64 (nS : Int)])) : Ev T 205 [.int .i64 n, .ptr k 0 0 1] h (.val (.bool (isSortB n nS)), ⟨h, [], []⟩) := by
  refine Ev.walk (hT.sp _ (by decide)) ((hT.fn _).trans fn205) (hT.mode _) rfl ?_
  have fl : loadAt false 1 (.ptr k 0 0 1) h = some (.int .i64 (nS : Int)) := ld_at hk
  by_cases h0 : 0 ≤ n
  · simp (disch := first | omega | decide | (simp only [eget_eput', ↓reduceIte, Nat.reduceEqDiff]; done)) only [go_sem, ↓reduceIte, Nat.reduceEqDiff, Nat.reduceAdd, Nat.reduceMul, reduceCtorEq, fl, h0, isSortB, Bool.true_and]
  · simp (disch := first | omega | decide | (simp only [eget_eput', ↓reduceIte, Nat.reduceEqDiff]; done)) only [go_sem, ↓reduceIte, Nat.reduceEqDiff, Nat.reduceAdd, Nat.reduceMul, reduceCtorEq, fl, h0, isSortB, Bool.false_and]
include hT in
theorem good2_ev {n : Int} {nS k k5 : Nat} {h : List AE.Obj} (hk : h[k]? = some (.row 1 [.int .i64 (nS : Int)])) (hk5 : h[k5]? = some (.row 1 [.func (.func 205) [] [.ptr k 0 0 1]])) : Ev T 207 [.int .i64 n, .ptr k5 0 0 1] h (.val (.bool (!isSortB n nS)), ⟨h, [], []⟩) := by
  refine Ev.walk (hT.sp _ (by decide)) ((hT.fn _).trans fn207) (hT.mode _) rfl ?_
  have fl : loadAt false 1 (.ptr k5 0 0 1) h = some (.func (.func 205) [] [.ptr k 0 0 1]) := by rw [ld_at hk5]; rfl
  simp (disch := first | omega | decide | (simp only [eget_eput', ↓reduceIte, Nat.reduceEqDiff]; done)) only [go_sem, ↓reduceIte, Nat.reduceEqDiff, Nat.reduceAdd, Nat.reduceMul, reduceCtorEq, fl, cb (good1_ev hT hk), hT.prim, primOf]
include hT in
theorem index149_tot {g : FuncId} {cap : List PV} {p : Int → Bool} {h : List AE.Obj} (hg : T.prim g = none) {args : List Int} {m : SM} (hf : ∀ a, Ev T g (.int .i64 a :: cap) h (.val (.bool (p a)), ⟨h, [], []⟩)) (hal : args.length < 1000000) :
    ∃ r : Int, Ev T 149 [.slice 1 (args.map encI) m, .func (.func g) [] cap] h (.val (.int .i64 r), ⟨h, [], []⟩) ∧ (r < 0 → ∀ a ∈ args, p a = false) := by
  refine Ev.walkP (hT.sp _ (by decide)) ((hT.fn _).trans fn149) (hT.mode _) rfl ?_
  simp (disch := first | omega | decide | (simp only [eget_eput', ↓reduceIte, Nat.reduceEqDiff]; done)) only [go_sem, ↓reduceIte, Nat.reduceEqDiff, Nat.reduceAdd, Nat.reduceMul, reduceCtorEq]
  refine wpC.loopM (fun n e s => ∃ i : Nat, i + n = args.length ∧ eget e 0 = .slice 1 (args.map encI) m ∧ eget e 1 = .func (.func g) [] cap ∧ eget e 7 = .int .i64 (args.length : Int) ∧ eget e 8 = .int .i64 (i : Int) ∧ (∀ j (hj : j < args.length), j < i → p args[j] = false) ∧ s = ⟨h, [], []⟩) ?_ args.length _ _ ⟨0, by simp, by simp (disch := first | omega | decide | (simp only [eget_eput', ↓reduceIte, Nat.reduceEqDiff]; done)) only [go_sem, ↓reduceIte, Nat.reduceEqDiff, Nat.reduceAdd, Nat.reduceMul, reduceCtorEq], by simp (disch := first | omega | decide | (simp only [eget_eput', ↓reduceIte, Nat.reduceEqDiff]; done)) only [go_sem, ↓reduceIte, Nat.reduceEqDiff, Nat.reduceAdd, Nat.reduceMul, reduceCtorEq], by simp (disch := first | omega | decide | (simp only [eget_eput', ↓reduceIte, Nat.reduceEqDiff]; done)) only [go_sem, ↓reduceIte, Nat.reduceEqDiff, Nat.reduceAdd, Nat.reduceMul, reduceCtorEq], by simp (disch := first | omega | decide | (simp only [eget_eput', ↓reduceIte, Nat.reduceEqDiff]; done)) only [go_sem, ↓reduceIte, Nat.reduceEqDiff, Nat.reduceAdd, Nat.reduceMul, reduceCtorEq]; rfl, fun j _ hj => by omega, rfl⟩
  rintro n e s ⟨i, hi, e0, e1, e7, e8, hp, rfl⟩
  by_cases h1 : i < args.length
  · have ga := get_enc h1
    simp (disch := first | omega | decide | (simp only [eget_eput', ↓reduceIte, Nat.reduceEqDiff]; done)) only [go_sem, ↓reduceIte, Nat.reduceEqDiff, Nat.reduceAdd, Nat.reduceMul, reduceCtorEq, a149b0, e0, e1, e7, e8, h1, ga, hg, cb (hf args[i])]
    refine bifs (fun _ => ⟨(i : Int), rfl, fun h => by omega⟩) (fun hpi => ⟨n - 1, by omega, i + 1, by omega, rfl, fun j hj hji => ?_, trivial⟩)
    by_cases hjj : j = i
    · subst hjj; exact hpi
    · exact hp j hj (by omega)
  · simp (disch := first | omega | decide | (simp only [eget_eput', ↓reduceIte, Nat.reduceEqDiff]; done)) only [go_sem, ↓reduceIte, Nat.reduceEqDiff, Nat.reduceAdd, Nat.reduceMul, reduceCtorEq, a149b0, e0, e1, e7, e8, h1]
    refine ⟨_, rfl, fun _ a ha => ?_⟩
    obtain ⟨j, hj, rfl⟩ := List.getElem_of_mem ha
    exact hp j hj (by omega)
include hT in
theorem contains65_tot {g : FuncId} {cap : List PV} {p : Int → Bool} {h : List AE.Obj} (hg : T.prim g = none) {args : List Int} {m : SM} (hf : ∀ a, Ev T g (.int .i64 a :: cap) h (.val (.bool (p a)), ⟨h, [], []⟩)) (hal : args.length < 1000000) :
    ∃ r, Ev T 65 [.slice 1 (args.map encI) m, .func (.func g) [] cap] h (.val (.bool r), ⟨h, [], []⟩) ∧ (r = false → ∀ a ∈ args, p a = false) := by
  refine Ev.walkP (hT.sp _ (by decide)) ((hT.fn _).trans fn65) (hT.mode _) rfl ?_
  obtain ⟨r, hr, kr⟩ := index149_tot hT (m := m) hg hf hal
  simp (disch := first | omega | decide | (simp only [eget_eput', ↓reduceIte, Nat.reduceEqDiff]; done)) only [go_sem, ↓reduceIte, Nat.reduceEqDiff, Nat.reduceAdd, Nat.reduceMul, reduceCtorEq, cb hr, hT.prim, primOf]
  exact ⟨_, rfl, fun h => kr (by simpa using h)⟩
include hT in
theorem good_tot {s : GSig} (hs : Fits s) {o : GOp} (hoa : o.args.length < 900) (h : List AE.Obj) : ∃ r, Ev T 163 [encOp o, .int .i64 (s.sorts.length : Int)] h (.val (.bool r), ⟨h, [], []⟩) ∧ (r = true → okArgs o.args s.sorts.length ∧ (0 ≤ o.res ∧ o.res < (s.sorts.length : Int)) ∧ o.args.length ≤ 8) := by
  refine Ev.walkP (hT.sp _ (by decide)) ((hT.fn _).trans fn163) (hT.mode _) rfl ?_
  generalize hk3 : (h ++ [AE.Obj.row 3 [encOp o]]).length = k3
  generalize hk5 : ((h ++ [AE.Obj.row 3 [encOp o]]) ++ [AE.Obj.row 1 [.int .i64 (s.sorts.length : Int)]]).length = k5
  have hlt : k3 ≤ k5 := by rw [← hk3, ← hk5]; simp
  have fs : storeAt 1 (.ptr k5 0 0 1) (.func (.func 205) [] [.ptr k3 0 0 1]) ⟨(((h ++ [AE.Obj.row 3 [encOp o]]) ++ [AE.Obj.row 1 [.int .i64 (s.sorts.length : Int)]]) ++ [.row 1 [.nilFunc]]), [], []⟩ = some ⟨(((h ++ [AE.Obj.row 3 [encOp o]]) ++ [AE.Obj.row 1 [.int .i64 (s.sorts.length : Int)]]) ++ [.row 1 [.func (.func 205) [] [.ptr k3 0 0 1]]]), wadd k5 [], []⟩ := by
    rw [← hk5]
    refine st_last rfl ⟨rfl, rfl⟩ fun j hj => ?_
    have : k3 = j := by simpa [PV.top, tops, omax] using hj
    rw [← hk5] at hlt
    omega
  generalize hH : (((h ++ [AE.Obj.row 3 [encOp o]]) ++ [AE.Obj.row 1 [.int .i64 (s.sorts.length : Int)]]) ++ [AE.Obj.row 1 [.func (.func 205) [] [.ptr k3 0 0 1]]]) = H at fs
  have g0 : H[h.length]? = some (.row 3 [encOp o]) := by rw [← hH]; simp
  have g3 : H[k3]? = some (.row 1 [.int .i64 (s.sorts.length : Int)]) := by rw [← hH, ← hk3]; simp
  have g5 : H[k5]? = some (.row 1 [.func (.func 205) [] [.ptr k3 0 0 1]]) := by rw [← hH, ← hk5]; simp
  have low : Low h.length h H := by
    rw [← hH]
    exact (((Low.refl _ _).push (Nat.le_refl _)).push (by simp)).push (by simp)
  have l0 : ∀ sz off, loadAt false sz (.ptr h.length 0 off 1) H = sub false sz (encOp o) off := fun sz off => ld_at g0
  have l5 : loadAt false 1 (.ptr k5 0 0 1) H = some (.func (.func 205) [] [.ptr k3 0 0 1]) := by rw [ld_at g5]; rfl
  obtain ⟨n, hn, _⟩ := count_tot hT o.name H
  obtain ⟨b, hb, _⟩ := name_tot hT o.name H
  have hr := good1_ev hT (n := o.res) g3
  obtain ⟨c, hc, kc⟩ := contains65_tot hT (m := .any) (g := 207) (cap := [.ptr k5 0 0 1]) (p := fun a => !isSortB a s.sorts.length) (by rw [hT.prim]; rfl) (fun a => good2_ev hT (n := a) g3 g5) (show o.args.length < 1000000 by omega)
  have td : ∀ b ws, (∀ k ∈ ws, h.length ≤ k) → tidy 0 h.length (.val (.bool b)) ⟨H, ws, []⟩ = (.val (.bool b), ⟨h, [], []⟩) := fun b ws hw => tidy_low rfl rfl low hw
  have hk5h : h.length ≤ k5 := by rw [← hk5]; simp
  simp (disch := first | omega | decide | (simp only [eget_eput', ↓reduceIte, Nat.reduceEqDiff]; done)) only [go_sem, ↓reduceIte, Nat.reduceEqDiff, Nat.reduceAdd, Nat.reduceMul, reduceCtorEq, hk3, hk5, fs, l0, l5, cb hn, cb hb, cb hr, cb hc, hT.prim, primOf]
  have kw : ∀ k ∈ wadd k5 [], h.length ≤ k := wadd_low hk5h (by simp)
  have f0 : ∃ a, tidy 0 h.length (.val (.bool false)) ⟨H, wadd k5 [], []⟩ = (.val (.bool a), ⟨h, [], []⟩) ∧ (a = true → okArgs o.args s.sorts.length ∧ (0 ≤ o.res ∧ o.res < (s.sorts.length : Int)) ∧ o.args.length ≤ 8) := ⟨false, td _ _ kw, fun h => by cases h⟩
  have f1 : isSortB o.res s.sorts.length = true → decide ((o.args.length : Int) ≤ 8) = true → ∃ a, tidy 0 h.length (.val (.bool !c)) ⟨H, wadd k5 [], []⟩ = (.val (.bool a), ⟨h, [], []⟩) ∧ (a = true → okArgs o.args s.sorts.length ∧ (0 ≤ o.res ∧ o.res < (s.sorts.length : Int)) ∧ o.args.length ≤ 8) := fun hr h8 => ⟨!c, td _ _ kw, fun h => by
    have hc2 : c = false := by simpa using h
    refine ⟨fun a ha => ?_, ?_, by simp only [decide_eq_true_eq] at h8; omega⟩
    · have := kc hc2 a ha
      simpa [isSortB] using this
    · simpa [isSortB] using hr⟩
  repeat' first | exact f0 | exact f1 (by assumption) (by assumption) | refine bifs (fun _ => ?_) (fun _ => ?_)
end Go.Proofs.Tryz
