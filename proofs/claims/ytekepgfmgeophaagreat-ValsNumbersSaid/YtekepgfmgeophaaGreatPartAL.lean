/- Texts of the proof, one behind the other: ValR0, ValC0, ValFnsS, ValS1. -/
import Derived.Test.YtekepgfmgeophaaGreatPartAG
import Derived.Test.YtekepgfmgeophaaGreatPartAK
import Derived.Test.YtekepgfmgeophaaGreatPartAJ
import Derived.Laws.Strings
set_option linter.unusedVariables false
set_option linter.unusedSimpArgs false
/- Signatures as values: what is read of them. -/
namespace Go.Proofs.Tryz
open Go Go.AE
theorem strAt_lt {t : ByteArray} {i : Nat} (h : i < t.size) : ∃ c : Nat, strAt t (i : Int) = some c := by
 have : t.data.toList[i]? = some (t.data.toList[i]'(by simpa using h)) := List.getElem?_eq_getElem _
 simp only [strAt, Int.natCast_nonneg, if_true, Int.toNat_natCast, this]
 exact ⟨_, rfl⟩
theorem get_enc {l : List Int} {i : Nat} (h : i < l.length) : (l.map encI)[i]? = some (.int .i64 l[i]) := by simp [h, encI]
@[go_sem] theorem sigc {s : GSig} : (encSig s).cells.length = 2 := rfl
@[go_sem] theorem sigd {s : GSig} : (encSig s).isDef = true := rfl
@[go_sem] theorem sig_sorts {s : GSig} {sz : Nat} : sub false sz (encSig s) 0 = some (.slice 1 (s.sorts.map .str) .any) := rfl
@[go_sem] theorem sig_ops {s : GSig} {sz : Nat} : sub false sz (encSig s) 1 = some (.slice 3 (s.ops.map encOp) .any) := rfl
@[go_sem] theorem sig_all {s : GSig} : sub true 2 (encSig s) 0 = some (encSig s) := rfl
@[go_sem] theorem opc {o : GOp} : (encOp o).cells.length = 3 := rfl
@[go_sem] theorem opd {o : GOp} : (encOp o).isDef = true := rfl
@[go_sem] theorem op_name {o : GOp} {sz : Nat} : sub false sz (encOp o) 0 = some (.str o.name) := rfl
@[go_sem] theorem op_args {o : GOp} {sz : Nat} : sub false sz (encOp o) 1 = some (.slice 1 (o.args.map encI) .any) := rfl
@[go_sem] theorem op_res {o : GOp} {sz : Nat} : sub false sz (encOp o) 2 = some (.int .i64 o.res) := rfl
@[go_sem] theorem op_all {o : GOp} : sub true 3 (encOp o) 0 = some (encOp o) := rfl
structure Fits (s : GSig) : Prop where
 nS : s.sorts.length < 1000
 nO : s.ops.length < 1000
 sorts : ∀ t ∈ s.sorts, t.size < 1000
 ops : ∀ o ∈ s.ops, o.name.size < 1000 ∧ o.args.length < 900
theorem get_str {l : List ByteArray} {i : Nat} (h : i < l.length) : (l.map PV.str)[i]? = some (.str l[i]) := by simp [h]
theorem get_op {l : List GOp} {i : Nat} (h : i < l.length) : (l.map encOp)[i]? = some (encOp l[i]) := by simp [h]
@[go_sem] theorem subv_aref {sz k a b c d : Nat} : sub false sz (.aref k a b c d) 0 = some (.aref k a b c d) := rfl
theorem ld_v {h : List AE.Obj} {k i n : Nat} {x : List Int} (hk : h[k]? = some (.row 1 (x.map encI))) (hn : x.length = n) (hi : i < n) : loadAt false 1 (.ptr k i 0 n) h = some (.int .i64 (x.getD i 0)) := by
 have hl : i < x.length := by omega
 have e : (x.map encI)[i]? = some (encI x[i]) := by rw [List.getElem?_map, List.getElem?_eq_getElem hl]; rfl
 simp [loadAt, hk, hn, e, sub, encI, List.getD_eq_getElem?_getD, hl]
 rw [List.getElem?_eq_getElem hl]; rfl
theorem st_v {h : List AE.Obj} {ws : List Nat} {ups : List (Nat × Nat)} {k i n : Nat} {x : List Int} {v : Int} (hk : h[k]? = some (.row 1 (x.map encI))) (hn : x.length = n) (hi : i < n) :
 storeAt 1 (.ptr k i 0 n) (.int .i64 v) { h, ws, ups } = some { h := h.set k (.row 1 ((x.set i v).map encI)), ws := wadd k ws, ups } := by
 have hl : i < x.length := by omega
 have e : (x.map encI)[i]? = some (encI x[i]) := by rw [List.getElem?_map, List.getElem?_eq_getElem hl]; rfl
 simp [storeAt, hk, hn, e, PV.cells, PV.isCell, upd, PV.top, wrote_none, List.map_set]
 exact ⟨_, rfl, rfl⟩
theorem wadd_low {k n : Nat} {ws : List Nat} (hk : n ≤ k) (hw : ∀ j ∈ ws, n ≤ j) : ∀ j ∈ wadd k ws, n ≤ j := fun j hj => by
 unfold wadd at hj
 split at hj
 · exact hw j hj
 · rcases List.mem_cons.1 hj with rfl | h
   · exact hk
   · exact hw j h
theorem Low.push {n0 : Nat} {h H : List AE.Obj} {o : AE.Obj} (L : Low n0 h H) (hn : n0 ≤ H.length) : Low n0 h (H ++ [o]) :=
 ⟨by rw [List.take_append_of_le_length hn]; exact L.take, by have := L.len; simp; omega⟩
theorem tidy_low {h H : List AE.Obj} {v : PV} {ws : List Nat} (hp : v.pure = true) (hv : v.weak = v) (L : Low h.length h H) (hw : ∀ k ∈ ws, h.length ≤ k) : tidy 0 h.length (.val v) { h := H, ws, ups := [] } = (.val v, { h, ws := [], ups := [] }) := by
 have := tidy_pure (h := h) (v := v) (s := { h := H, ws, ups := [] }) hp rfl (by rw [L.take]; simp) hw
 rwa [hv] at this
end Go.Proofs.Tryz
/- What a signature is. No program in sight. -/
namespace Go.Proofs.Tryz
open Go Go.AE
def byteP (c : Nat) : Prop := 33 ≤ c ∧ c ≤ 126 ∧ c ≠ 40 ∧ c ≠ 41 ∧ c ≠ 44
def nameP (t : ByteArray) : Prop := (1 ≤ t.size ∧ t.size ≤ 32) ∧ ∀ i c : Nat, strAt t (i : Int) = some c → byteP c
def blk (t : ByteArray) : Nat := t.data.toList.countP (· == 95)
def blkTo (t : ByteArray) (i : Nat) : Nat := (t.data.toList.take i).countP (· == 95)
theorem strAt_iff {t : ByteArray} {i c : Nat} : strAt t (i : Int) = some c ↔ ∃ u, t.data.toList[i]? = some u ∧ u.toNat = c := by
 simp [strAt]
theorem strAt_some {t : ByteArray} {i c : Nat} (h : strAt t (i : Int) = some c) : i < t.size ∧ c < 256 := by
 obtain ⟨u, h1, rfl⟩ := strAt_iff.1 h
 exact ⟨by simpa using (List.getElem?_eq_some_iff.1 h1).1, u.toNat_lt⟩
theorem u8_95 {u : UInt8} : (u == 95) = decide (u.toNat = 95) := by
 rw [Bool.eq_iff_iff]
 simp only [beq_iff_eq, decide_eq_true_eq]
 exact ⟨fun h => by rw [h]; rfl, fun h => UInt8.toNat_inj.1 (by rw [h]; rfl)⟩
theorem blkTo_succ {t : ByteArray} {i c : Nat} (h : strAt t (i : Int) = some c) : blkTo t (i + 1) = blkTo t i + if c = 95 then 1 else 0 := by
 obtain ⟨u, h1, rfl⟩ := strAt_iff.1 h
 simp only [blkTo, List.take_add_one, h1, Option.toList_some, List.countP_append, List.countP_singleton, u8_95, decide_eq_true_eq]
theorem blkTo_all {t : ByteArray} {i : Nat} (h : t.size ≤ i) : blkTo t i = blk t := by
 unfold blkTo blk
 rw [List.take_of_length_le (by simpa using h)]
theorem blk_le (t : ByteArray) : blk t ≤ t.size := by
 have := List.countP_le_length (p := fun x : UInt8 => x == 95) (l := t.data.toList)
 simpa [blk] using this
theorem foldl_loop (t : ByteArray) : ∀ (i j : Nat) (b : Int), i + j = t.size → ByteArray.foldlM.loop (m := _root_.Id) (fun n x => if x == (95 : UInt8) then n + 1 else n) t t.size (Nat.le_refl _) i j b = (b + (((t.data.toList.drop j).countP (· == 95) : Nat) : Int) : Int)
 | 0, j, b, h => by
   rw [List.drop_eq_nil_of_le (by simp; omega)]
   unfold ByteArray.foldlM.loop
   rw [dif_neg (by omega)]
   simp only [List.countP_nil, Int.natCast_zero, Int.add_zero]
   rfl
 | i + 1, j, b, h => by
   unfold ByteArray.foldlM.loop
   rw [dif_pos (by omega)]
   have hd : t.data.toList.drop j = t[j] :: t.data.toList.drop (j + 1) := by
    rw [List.drop_eq_getElem_cons (by simp; omega)]
    rfl
   rw [hd, List.countP_cons]
   refine (foldl_loop t i (j + 1) (if t[j] == (95 : UInt8) then b + 1 else b) (by omega)).trans ?_
   by_cases hc : (t[j] == (95 : UInt8)) = true
   · rw [if_pos hc, if_pos hc]
     have hx : ∀ x : Nat, (b + 1 + (x : Int) : Int) = b + ((x + 1 : Nat) : Int) := fun x => by omega
     exact hx _
   · rw [if_neg hc, if_neg hc]; rfl
theorem foldl_blk (t : ByteArray) : t.foldl (fun n x => if x == UInt8.ofNat ((95 : Nat) : Int).toNat then n + 1 else n) (0 : Int) = (blk t : Int) := by
 have := foldl_loop t t.size 0 0 (by omega)
 rw [List.drop_zero, Int.zero_add] at this
 unfold ByteArray.foldl ByteArray.foldlM
 rw [dif_pos (Nat.le_refl _)]
 exact this
def idxB (s : ByteArray) (c : Int) : Int := match (List.range s.size).find? (fun i => s[i]! == UInt8.ofNat c.toNat) with | some i => (i : Int) | none => -1
theorem idx_par : ∀ c : Fin 256, decide (0 ≤ idxB ⟨#[40, 41, 44]⟩ (c.val : Int)) = decide (c.val = 40 ∨ c.val = 41 ∨ c.val = 44) := by decide +kernel
theorem idx_us (t : ByteArray) : 0 ≤ idxB t ((95 : Nat) : Int) ↔ blk t ≠ 0 := by
 have h1 : blk t ≠ 0 ↔ ∃ u ∈ t.data.toList, (u == (95 : UInt8)) = true := by
  unfold blk
  rw [Ne, List.countP_eq_zero]
  simp
 rw [h1]
 unfold idxB
 cases hf : (List.range t.size).find? (fun i => t[i]! == UInt8.ofNat ((95 : Nat) : Int).toNat) with
 | some i =>
   have hi := List.mem_of_find?_eq_some hf
   have hp := List.find?_some hf
   have hi : i < t.size := by simpa using hi
   refine ⟨fun _ => ⟨t[i], ?_, ?_⟩, fun _ => by simp⟩
   · exact List.getElem_mem (l := t.data.toList) (by simpa using hi)
   · rw [getElem!_pos t i hi] at hp
     exact hp
 | none =>
   refine ⟨fun h => by simp at h, fun ⟨u, hu, h95⟩ => ?_⟩
   obtain ⟨i, hi, rfl⟩ := List.getElem_of_mem hu
   have hi' : i < t.size := by simpa using hi
   have := List.find?_eq_none.1 hf i (by simpa using hi')
   rw [getElem!_pos t i hi'] at this
   exact absurd h95 this
def opP (nS : Nat) (o : GOp) : Prop := nameP o.name ∧ blk o.name ≠ o.name.size ∧ (blk o.name = 0 ∨ blk o.name = o.args.length) ∧ okArgs o.args nS ∧ (0 ≤ o.res ∧ o.res < (nS : Int)) ∧ o.args.length ≤ 8
def lowB (a : Int) : UInt8 := UInt8.ofNat (a % 256).toNat
def keyL (o : GOp) : List UInt8 := (o.name.data.toList ++ [40]) ++ (o.args ++ [o.res]).map lowB
theorem split_at {α : Type} {c : α} : ∀ {a b x y : List α}, c ∉ a → c ∉ b → a ++ c :: x = b ++ c :: y → a = b ∧ x = y
 | [], [], x, y, _, _, h => ⟨rfl, by simpa using h⟩
 | [], v :: b, x, y, _, hb, h => by
   simp only [List.nil_append, List.cons_append, List.cons.injEq] at h
   exact absurd (by simp [h.1]) hb
 | u :: a, [], x, y, ha, _, h => by
   simp only [List.nil_append, List.cons_append, List.cons.injEq] at h
   exact absurd (by simp [h.1]) ha
 | u :: a, v :: b, x, y, ha, hb, h => by
   simp only [List.cons_append, List.cons.injEq] at h
   obtain ⟨h1, h2⟩ := split_at (a := a) (b := b) (fun hc => ha (by simp [hc])) (fun hc => hb (by simp [hc])) h.2
   exact ⟨by rw [h.1, h1], h2⟩
theorem low_inj : ∀ {l l' : List Int}, (∀ a ∈ l, 0 ≤ a ∧ a < 256) → (∀ a ∈ l', 0 ≤ a ∧ a < 256) → l.map lowB = l'.map lowB → l = l'
 | [], [], _, _, _ => rfl
 | [], _ :: _, _, _, h => by simp at h
 | _ :: _, [], _, _, h => by simp at h
 | x :: l, y :: l', h1, h2, h => by
   simp only [List.map_cons, List.cons.injEq] at h
   have e := low_inj (fun a ha => h1 a (by simp [ha])) (fun a ha => h2 a (by simp [ha])) h.2
   obtain ⟨x0, x1⟩ := h1 x (by simp)
   obtain ⟨y0, y1⟩ := h2 y (by simp)
   have hb := congrArg UInt8.toNat h.1
   simp only [lowB, UInt8.toNat_ofNat'] at hb
   have : x = y := by omega
   rw [this, e]
theorem name_no40 {t : ByteArray} (h : nameP t) : (40 : UInt8) ∉ t.data.toList := fun hc => by
 obtain ⟨i, hi, he⟩ := List.getElem_of_mem hc
 have := h.2 i 40 (strAt_iff.2 ⟨40, by rw [List.getElem?_eq_getElem hi, he], rfl⟩)
 exact this.2.2.1 rfl
theorem key_inj {nS : Nat} (hn : nS ≤ 256) {o o' : GOp} (h : opP nS o) (h' : opP nS o') (he : keyL o = keyL o') : o = o' := by
 obtain ⟨n, a, r⟩ := o
 obtain ⟨n', a', r'⟩ := o'
 simp only [keyL, List.append_assoc, List.singleton_append] at he
 obtain ⟨e1, e2⟩ := split_at (name_no40 h.1) (name_no40 h'.1) he
 have rng : ∀ {o : GOp}, opP nS o → ∀ x ∈ o.args ++ [o.res], 0 ≤ x ∧ x < 256 := fun {o} ho x hx => by
  obtain ⟨_, _, _, p1, p2, _⟩ := ho
  rcases List.mem_append.1 hx with hx | hx
  · have := p1 x hx
    omega
  · rw [List.mem_singleton.1 hx]
    omega
 have e3 := low_inj (rng h) (rng h') e2
 obtain ⟨e4, e5⟩ := List.append_inj' e3 rfl
 have e6 : n = n' := by
  obtain ⟨⟨d⟩⟩ := n
  obtain ⟨⟨d'⟩⟩ := n'
  simpa using e1
 simp only [List.cons.injEq, and_true] at e5
 dsimp only at e4 e5
 rw [e6, e4, e5]
theorem str_eq {a b : ByteArray} : (a.toList == b.toList) = true ↔ a = b := by
 rw [beq_iff_eq, ByteArray.toList_eq, ByteArray.toList_eq]
 refine ⟨fun h => ?_, fun h => by rw [h]⟩
 obtain ⟨⟨a⟩⟩ := a
 obtain ⟨⟨b⟩⟩ := b
 simpa using h
structure sigP (s : GSig) : Prop where
 nS : s.sorts.length ≤ 64
 nO : s.ops.length ≤ 256
 sorts : ∀ i (hi : i < s.sorts.length), nameP s.sorts[i] ∧ blk s.sorts[i] = 0
 diff : ∀ i k (hi : i < s.sorts.length) (hk : k < i), s.sorts[k]'(by omega) ≠ s.sorts[i]
 ops : ∀ i (hi : i < s.ops.length), opP s.sorts.length s.ops[i]
 diffO : ∀ i k (hi : i < s.ops.length) (hk : k < i), s.ops[k]'(by omega) ≠ s.ops[i]
end Go.Proofs.Tryz
/- Functions of sig and of the law as the evaluator has them: printed. -/
namespace Go.Proofs.Tryz
open Go Go.AE
def a203 : AFunc := ⟨2, 8, (.seq (.reg [
 ro 4 (.move (.c (.int .i64 0)))])
 (.seq (.reg [
 ro 5 (.move (.t 0)),
 ro 6 (.move (.t 1)),
 rp 7 (.call (.f 244) [(.t 5), (.t 6)]),
 ro 4 (.move (.t 7))])
 .ret)), [.t 4]⟩
theorem fn203 : fnOf 203 = some a203 := by kernel_rfl
def a244 : AFunc := ⟨2, 8, (.seq (.reg [
 ro 4 (.move (.c (.int .i64 0)))])
 (.seq (.reg [
 ro 5 (.move (.t 0)),
 ro 6 (.move (.t 1)),
 rp 7 (.call (.f 272) [(.t 5), (.t 6)]),
 ro 4 (.move (.t 7))])
 .ret)), [.t 4]⟩
theorem fn244 : fnOf 244 = some a244 := by kernel_rfl
def a245b0 : ACode :=
 (.seq (.seq (.reg [
 ro 57 (.move (.t 8)),
 ro 58 (.move (.t 9)),
 ro 59 (.bin .lss (.t 57) (.t 58))])
 (.cond (.t 59)
 .skip
 (.exit 1)))
 (.block 2 (.seq (.seq (.reg [
 ro 60 (.move (.t 0)),
 ro 61 (.move (.t 8)),
 ro 62 (.idxStr (.t 60) (.t 61)),
 ro 63 (.move (.t 6)),
 ro 64 (.bin .neq (.t 62) (.t 63))])
 (.cond (.t 64)
 (.seq (.reg [
 ro 65 (.move (.t 0)),
 ro 66 (.move (.t 8)),
 ro 67 (.bin .add (.t 66) (.c (.int .i64 1))),
 ro 68 (.move (.t 9)),
 ro 69 (.strSlice (.t 65) (some (.t 67)) (some (.t 68))),
 ro 70 (.move (.t 6)),
 rp 71 (.call (.f 244) [(.t 69), (.t 70)]),
 ro 11 (.move (.t 71))])
 (.seq (.seq (.reg [
 ro 72 (.move (.t 11)),
 ro 73 (.bin .lss (.t 72) (.c (.int .i64 0)))])
 (.cond (.t 73)
 (.seq (.reg [
 ro 4 (.move (.c (.int .i64 (-1))))])
 .ret)
 .skip))
 (.reg [
 ro 74 (.move (.t 8)),
 ro 75 (.move (.t 11)),
 ro 76 (.bin .add (.t 75) (.c (.int .i64 1))),
 ro 77 (.bin .add (.t 74) (.t 76)),
 ro 8 (.move (.t 77))])))
 .skip))
 (.seq (.seq (.reg [
 ro 78 (.move (.t 0)),
 ro 79 (.move (.t 8)),
 ro 80 (.bin .add (.t 79) (.c (.int .i64 1))),
 ro 81 (.idxStr (.t 78) (.t 80)),
 ro 82 (.move (.t 7)),
 ro 83 (.bin .eql (.t 81) (.t 82)),
 ro 84 (.move (.t 83)),
 rg 85 (.move (.t 0)) 84 true,
 rg 86 (.move (.t 8)) 84 true,
 rg 87 (.move (.t 8)) 84 true,
 rg 88 (.move (.t 5)) 84 true,
 rg 89 (.bin .add (.t 87) (.t 88)) 84 true,
 rg 90 (.strSlice (.t 85) (some (.t 86)) (some (.t 89))) 84 true,
 rg 91 (.move (.t 1)) 84 true,
 rg 92 (.bin .eql (.t 90) (.t 91)) 84 true,
 ro 93 (.pick (.t 84) (.t 92) (.c (.bool false)))])
 (.cond (.t 93)
 (.seq (.reg [
 ro 94 (.move (.t 8)),
 ro 4 (.move (.t 94))])
 .ret)
 .skip))
 (.seq (.reg [
 ro 95 (.move (.t 8)),
 ro 96 (.bin .add (.t 95) (.c (.int .i64 1))),
 ro 8 (.move (.t 96))])
 (.seq (.reg [
 ro 97 (.move (.t 10)),
 ro 98 (.bin .add (.t 97) (.c (.int .i64 1))),
 ro 10 (.move (.t 98))])
 (.seq (.reg [
 ro 99 (.move (.t 5)),
 rp 100 (.load false 1 .bad),
 ro 101 (.bin .leq (.t 99) (.t 100)),
 ro 102 (.move (.t 101)),
 rg 103 (.move (.t 10)) 102 true,
 rg 104 (.move (.t 8)) 102 true,
 rh 105 (.call (.f 274) [(.t 104)]) 102 true,
 rg 106 (.bin .gtr (.t 103) (.t 105)) 102 true,
 ro 107 (.pick (.t 102) (.t 106) (.c (.bool false)))])
 (.cond (.t 107)
 (.seq (.reg [
 ro 108 (.move (.t 0)),
 ro 109 (.move (.t 8)),
 ro 110 (.strSlice (.t 108) (some (.t 109)) none),
 ro 111 (.move (.t 1)),
 rp 112 (.call (.f 273) [(.t 110), (.t 111)]),
 ro 12 (.move (.t 112))])
 (.seq (.seq (.reg [
 ro 113 (.move (.t 12)),
 ro 114 (.bin .geq (.t 113) (.c (.int .i64 0)))])
 (.cond (.t 114)
 (.seq (.reg [
 ro 115 (.move (.t 12)),
 ro 116 (.move (.t 8)),
 ro 117 (.bin .add (.t 115) (.t 116)),
 ro 4 (.move (.t 117))])
 .ret)
 .skip))
 (.seq (.reg [
 ro 4 (.move (.c (.int .i64 (-1))))])
 .ret)))
 (.seq (.reg [
 ro 118 (.move (.t 5)),
 rp 119 (.load false 1 .bad),
 ro 120 (.bin .gtr (.t 118) (.t 119)),
 ro 121 (.move (.t 120)),
 rg 122 (.move (.t 10)) 121 true,
 rg 123 (.move (.t 8)) 121 true,
 rg 124 (.bin .shr (.t 123) (.c (.int .u64 4))) 121 true,
 rg 125 (.bin .add (.c (.int .i64 4)) (.t 124)) 121 true,
 rg 126 (.bin .geq (.t 122) (.t 125)) 121 true,
 ro 127 (.pick (.t 121) (.t 126) (.c (.bool false))),
 ro 128 (.move (.t 127)),
 rg 129 (.move (.t 8)) 128 true,
 rg 130 (.move (.t 9)) 128 true,
 rg 131 (.bin .lss (.t 129) (.t 130)) 128 true,
 ro 132 (.pick (.t 128) (.t 131) (.c (.bool false)))])
 (.cond (.t 132)
 (.seq (.reg [
 ro 133 (.move (.t 0)),
 ro 134 (.move (.t 8)),
 ro 135 (.strSlice (.t 133) (some (.t 134)) none),
 ro 136 (.move (.t 1)),
 rp 137 (.call (.f 275) [(.t 135), (.t 136)]),
 ro 13 (.move (.t 137))])
 (.seq (.seq (.reg [
 ro 138 (.move (.t 13)),
 ro 139 (.bin .lss (.t 138) (.c (.int .i64 0)))])
 (.cond (.t 139)
 (.seq (.reg [
 ro 4 (.move (.c (.int .i64 (-1))))])
 .ret)
 .skip))
 (.seq (.reg [
 ro 140 (.move (.t 8)),
 ro 141 (.move (.t 13)),
 ro 142 (.bin .add (.t 140) (.t 141)),
 ro 4 (.move (.t 142))])
 .ret)))
 .skip))))))))))
def a245 : AFunc := ⟨2, 143, (.seq (.reg [
 ro 4 (.move (.c (.int .i64 0)))])
 (.seq (.reg [
 ro 14 (.move (.t 1)),
 ro 15 (.lenS (.t 14)),
 ro 5 (.move (.t 15))])
 (.seq (.block 0 (.seq (.reg [
 ro 17 (.move (.t 5)),
 ro 18 (.bin .eql (.t 17) (.c (.int .i64 0))),
 ro 19 (.move (.t 18)),
 rg 20 (.move (.t 1)) 19 false,
 rg 21 (.move (.t 0)) 19 false,
 rg 22 (.bin .eql (.t 20) (.t 21)) 19 false,
 ro 23 (.pick (.t 19) (.c (.bool true)) (.t 22)),
 ro 16 (.move (.t 23))])
 (.cond (.t 16)
 (.seq (.reg [
 ro 4 (.move (.c (.int .i64 0)))])
 .ret)
 (.seq (.reg [
 ro 25 (.move (.t 5)),
 ro 26 (.bin .eql (.t 25) (.c (.int .i64 1))),
 ro 24 (.move (.t 26))])
 (.cond (.t 24)
 (.seq (.reg [
 ro 27 (.move (.t 0)),
 ro 28 (.move (.t 1)),
 ro 29 (.idxStr (.t 28) (.c (.int .i64 0))),
 rp 30 (.call (.f 244) [(.t 27), (.t 29)]),
 ro 4 (.move (.t 30))])
 .ret)
 (.seq (.reg [
 ro 32 (.move (.t 5)),
 ro 33 (.move (.t 0)),
 ro 34 (.lenS (.t 33)),
 ro 35 (.bin .geq (.t 32) (.t 34)),
 ro 31 (.move (.t 35))])
 (.cond (.t 31)
 (.seq (.reg [
 ro 4 (.move (.c (.int .i64 (-1))))])
 .ret)
 (.seq (.reg [
 ro 37 (.move (.t 5)),
 rp 38 (.load false 1 .bad),
 ro 39 (.bin .leq (.t 37) (.t 38)),
 ro 40 (.move (.t 39)),
 rg 41 (.move (.t 0)) 40 true,
 rg 42 (.lenS (.t 41)) 40 true,
 rg 43 (.bin .leq (.t 42) (.c (.int .i64 64))) 40 true,
 ro 44 (.pick (.t 40) (.t 43) (.c (.bool false))),
 ro 36 (.move (.t 44))])
 (.cond (.t 36)
 (.seq (.reg [
 ro 45 (.move (.t 0)),
 ro 46 (.move (.t 1)),
 rp 47 (.call (.f 273) [(.t 45), (.t 46)]),
 ro 4 (.move (.t 47))])
 .ret)
 .skip)))))))))
 (.seq (.reg [
 ro 48 (.move (.t 1)),
 ro 49 (.idxStr (.t 48) (.c (.int .i64 0))),
 ro 6 (.move (.t 49))])
 (.seq (.reg [
 ro 50 (.move (.t 1)),
 ro 51 (.idxStr (.t 50) (.c (.int .i64 1))),
 ro 7 (.move (.t 51))])
 (.seq (.reg [
 ro 8 (.move (.c (.int .i64 0)))])
 (.seq (.reg [
 ro 52 (.move (.t 0)),
 ro 53 (.lenS (.t 52)),
 ro 54 (.move (.t 5)),
 ro 55 (.bin .sub (.t 53) (.t 54)),
 ro 56 (.bin .add (.t 55) (.c (.int .i64 1))),
 ro 9 (.move (.t 56))])
 (.seq (.reg [
 ro 10 (.move (.c (.int .i64 0)))])
 (.seq (.block 1 (.loop a245b0))
 (.seq (.reg [
 ro 4 (.move (.c (.int .i64 (-1))))])
 .ret)))))))))), [.t 4]⟩
theorem fn245 : fnOf 245 = some a245 := by kernel_rfl
def a162 : AFunc := ⟨2, 9, (.seq (.reg [
 ro 4 (.move (.c (.bool false)))])
 (.seq (.reg [
 ro 5 (.move (.t 0)),
 ro 6 (.move (.t 1)),
 rp 7 (.call (.f 204) [(.t 5), (.t 6)]),
 ro 8 (.bin .geq (.t 7) (.c (.int .i64 0))),
 ro 4 (.move (.t 8))])
 .ret)), [.t 4]⟩
theorem fn162 : fnOf 162 = some a162 := by kernel_rfl
def a204 : AFunc := ⟨2, 8, (.seq (.reg [
 ro 4 (.move (.c (.int .i64 0)))])
 (.seq (.reg [
 ro 5 (.move (.t 0)),
 ro 6 (.move (.t 1)),
 rp 7 (.call (.f 245) [(.t 5), (.t 6)]),
 ro 4 (.move (.t 7))])
 .ret)), [.t 4]⟩
theorem fn204 : fnOf 204 = some a204 := by kernel_rfl
def a206b0 : ACode :=
 (.block 1 (.seq (.reg [
 ro 20 (.move (.t 0)),
 ro 21 (.move (.t 1)),
 rp 22 (.call (.f 204) [(.t 20), (.t 21)]),
 ro 6 (.move (.t 22))])
 (.seq (.seq (.reg [
 ro 23 (.move (.t 6)),
 ro 24 (.bin .eql (.t 23) (.c (.int .i64 (-1))))])
 (.cond (.t 24)
 (.seq (.reg [
 ro 25 (.move (.t 5)),
 ro 4 (.move (.t 25))])
 .ret)
 .skip))
 (.seq (.reg [
 ro 26 (.move (.t 5)),
 ro 27 (.bin .add (.t 26) (.c (.int .i64 1))),
 ro 5 (.move (.t 27))])
 (.reg [
 ro 28 (.move (.t 0)),
 ro 29 (.move (.t 6)),
 ro 30 (.move (.t 1)),
 ro 31 (.lenS (.t 30)),
 ro 32 (.bin .add (.t 29) (.t 31)),
 ro 33 (.strSlice (.t 28) (some (.t 32)) none),
 ro 0 (.move (.t 33))])))))
def a206 : AFunc := ⟨2, 34, (.seq (.reg [
 ro 4 (.move (.c (.int .i64 0)))])
 (.seq (.seq (.reg [
 ro 7 (.move (.t 1)),
 ro 8 (.lenS (.t 7)),
 ro 9 (.bin .eql (.t 8) (.c (.int .i64 0)))])
 (.cond (.t 9)
 (.seq (.reg [
 ro 10 (.move (.t 0)),
 rp 11 (.call (.f 246) [(.t 10)]),
 ro 12 (.bin .add (.t 11) (.c (.int .i64 1))),
 ro 4 (.move (.t 12))])
 .ret)
 .skip))
 (.seq (.seq (.reg [
 ro 13 (.move (.t 1)),
 ro 14 (.lenS (.t 13)),
 ro 15 (.bin .eql (.t 14) (.c (.int .i64 1)))])
 (.cond (.t 15)
 (.seq (.reg [
 ro 16 (.move (.t 0)),
 ro 17 (.move (.t 1)),
 ro 18 (.idxStr (.t 17) (.c (.int .i64 0))),
 rp 19 (.call (.f 247) [(.t 16), (.t 18)]),
 ro 4 (.move (.t 19))])
 .ret)
 .skip))
 (.seq (.reg [
 ro 5 (.move (.c (.int .i64 0)))])
 (.block 0 (.loop a206b0)))))), [.t 4]⟩
theorem fn206 : fnOf 206 = some a206 := by kernel_rfl
def a161b0 : ACode :=
 (.seq (.reg [
 ro 15 (.bin .lss (.t 14) (.t 13))])
 (.seq (.cond (.t 15)
 .skip
 (.exit 0))
 (.seq (.block 1 (.seq (.reg [
 ro 16 (.move (.t 14)),
 ro 3 (.move (.t 16))])
 (.seq (.reg [
 ro 17 (.move (.t 0)),
 ro 18 (.move (.t 3)),
 ro 19 (.idxStr (.t 17) (.t 18)),
 ro 20 (.bin .lss (.t 19) (.c (.int .u8 33))),
 ro 21 (.move (.t 20)),
 rg 22 (.move (.t 0)) 21 false,
 rg 23 (.move (.t 3)) 21 false,
 rg 24 (.idxStr (.t 22) (.t 23)) 21 false,
 rg 25 (.bin .gtr (.t 24) (.c (.int .u8 126))) 21 false,
 ro 26 (.pick (.t 21) (.c (.bool true)) (.t 25)),
 ro 27 (.move (.t 26)),
 rg 28 (.move (.t 0)) 27 false,
 rg 29 (.move (.t 3)) 27 false,
 rg 30 (.idxStr (.t 28) (.t 29)) 27 false,
 rh 31 (.call (.f 203) [(.c (.str ⟨#[40, 41, 44]⟩)), (.t 30)]) 27 false,
 rg 32 (.bin .geq (.t 31) (.c (.int .i64 0))) 27 false,
 ro 33 (.pick (.t 27) (.c (.bool true)) (.t 32))])
 (.cond (.t 33)
 (.seq (.reg [
 ro 2 (.move (.c (.bool false)))])
 .ret)
 .skip))))
 (.reg [
 ro 34 (.bin .add (.t 14) (.c (.int .i64 1))),
 ro 14 (.move (.t 34))]))))
def a161 : AFunc := ⟨1, 35, (.seq (.reg [
 ro 2 (.move (.c (.bool false)))])
 (.seq (.seq (.reg [
 ro 4 (.move (.t 0)),
 ro 5 (.lenS (.t 4)),
 ro 6 (.bin .lss (.t 5) (.c (.int .i64 1))),
 ro 7 (.move (.t 6)),
 rg 8 (.move (.t 0)) 7 false,
 rg 9 (.lenS (.t 8)) 7 false,
 rg 10 (.bin .gtr (.t 9) (.c (.int .i64 32))) 7 false,
 ro 11 (.pick (.t 7) (.c (.bool true)) (.t 10))])
 (.cond (.t 11)
 (.seq (.reg [
 ro 2 (.move (.c (.bool false)))])
 .ret)
 .skip))
 (.seq (.seq (.reg [
 ro 12 (.move (.t 0)),
 ro 13 (.lenS (.t 12)),
 ro 14 (.move (.c (.int .i64 0)))])
 (.block 0 (.loop a161b0)))
 (.seq (.reg [
 ro 2 (.move (.c (.bool true)))])
 .ret)))), [.t 2]⟩
theorem fn161 : fnOf 161 = some a161 := by kernel_rfl
def a205 : AFunc := ⟨2, 11, (.seq (.reg [
 ro 3 (.move (.c (.bool false)))])
 (.seq (.reg [
 ro 4 (.move (.t 0)),
 ro 5 (.bin .geq (.t 4) (.c (.int .i64 0))),
 ro 6 (.move (.t 5)),
 rg 7 (.move (.t 0)) 6 true,
 rh 8 (.load false 1 (.t 1)) 6 true,
 rg 9 (.bin .lss (.t 7) (.t 8)) 6 true,
 ro 10 (.pick (.t 6) (.t 9) (.c (.bool false))),
 ro 3 (.move (.t 10))])
 .ret)), [.t 3]⟩
theorem fn205 : fnOf 205 = some a205 := by kernel_rfl
def a207 : AFunc := ⟨2, 8, (.seq (.reg [
 ro 3 (.move (.c (.bool false)))])
 (.seq (.reg [
 rp 4 (.load false 1 (.t 1)),
 ro 5 (.move (.t 0)),
 rp 6 (.call (.t 4) [(.t 5)]),
 ro 7 (.un .not (.t 6)),
 ro 3 (.move (.t 7))])
 .ret)), [.t 3]⟩
theorem fn207 : fnOf 207 = some a207 := by kernel_rfl
def a149b0 : ACode :=
 (.seq (.reg [
 ro 9 (.bin .lss (.t 8) (.t 7))])
 (.seq (.cond (.t 9)
 .skip
 (.exit 0))
 (.seq (.block 1 (.seq (.reg [
 ro 10 (.move (.t 8)),
 ro 5 (.move (.t 10))])
 (.seq (.reg [
 ro 11 (.move (.t 1)),
 ro 12 (.move (.t 0)),
 ro 13 (.move (.t 5)),
 ro 14 (.idxAddr 1 (.t 12) (.t 13)),
 rp 15 (.load false 1 (.t 14)),
 rp 16 (.call (.t 11) [(.t 15)])])
 (.cond (.t 16)
 (.seq (.reg [
 ro 17 (.move (.t 5)),
 ro 4 (.move (.t 17))])
 .ret)
 .skip))))
 (.reg [
 ro 18 (.bin .add (.t 8) (.c (.int .i64 1))),
 ro 8 (.move (.t 18))]))))
def a149 : AFunc := ⟨2, 19, (.seq (.reg [
 ro 4 (.move (.c (.int .i64 0)))])
 (.seq (.seq (.reg [
 ro 6 (.move (.t 0)),
 ro 7 (.lenL (.t 6)),
 ro 8 (.move (.c (.int .i64 0)))])
 (.block 0 (.loop a149b0)))
 (.seq (.reg [
 ro 4 (.move (.c (.int .i64 (-1))))])
 .ret))), [.t 4]⟩
theorem fn149 : fnOf 149 = some a149 := by kernel_rfl
def a65 : AFunc := ⟨2, 9, (.seq (.reg [
 ro 4 (.move (.c (.bool false)))])
 (.seq (.reg [
 ro 5 (.move (.t 0)),
 ro 6 (.move (.t 1)),
 rp 7 (.call (.f 149) [(.t 5), (.t 6)]),
 ro 8 (.bin .geq (.t 7) (.c (.int .i64 0))),
 ro 4 (.move (.t 8))])
 .ret)), [.t 4]⟩
theorem fn65 : fnOf 65 = some a65 := by kernel_rfl
def a163 : AFunc := ⟨2, 51, (.seq (.reg [
 rp 2 (.box 3 (.t 0)),
 rp 3 (.box 1 (.t 1)),
 ro 4 (.move (.c (.bool false)))])
 (.seq (.reg [
 ro 7 (.mkFunc (.func 205) [] [(.t 3)]),
 rp 5 (.box 1 (.c .nilFunc)),
  ⟨none, .store 1 (.t 5) (.t 7), none, true, 0, 0, false⟩])
 (.seq (.reg [
 ro 8 (.fieldAddr 0 (.t 2)),
 rp 9 (.load false 1 (.t 8)),
 rp 10 (.call (.f 206) [(.t 9), (.c (.str ⟨#[95]⟩))]),
 ro 6 (.move (.t 10))])
 (.seq (.reg [
 ro 11 (.fieldAddr 0 (.t 2)),
 rp 12 (.load false 1 (.t 11)),
 rp 13 (.call (.f 161) [(.t 12)]),
 ro 14 (.move (.t 13)),
 rg 15 (.move (.t 6)) 14 true,
 rg 16 (.fieldAddr 0 (.t 2)) 14 true,
 rh 17 (.load false 1 (.t 16)) 14 true,
 rg 18 (.lenS (.t 17)) 14 true,
 rg 19 (.bin .lss (.t 15) (.t 18)) 14 true,
 ro 20 (.pick (.t 14) (.t 19) (.c (.bool false))),
 ro 21 (.move (.t 20)),
 rg 22 (.move (.t 6)) 21 true,
 rg 23 (.bin .eql (.t 22) (.c (.int .i64 0))) 21 true,
 rg 24 (.move (.t 23)) 21 true,
 rg 25 (.move (.t 6)) 24 false,
 rg 26 (.fieldAddr 1 (.t 2)) 24 false,
 rh 27 (.load false 1 (.t 26)) 24 false,
 rg 28 (.lenL (.t 27)) 24 false,
 rg 29 (.bin .eql (.t 25) (.t 28)) 24 false,
 rg 30 (.pick (.t 24) (.c (.bool true)) (.t 29)) 21 true,
 ro 31 (.pick (.t 21) (.t 30) (.c (.bool false))),
 ro 32 (.move (.t 31)),
 rg 33 (.fieldAddr 1 (.t 2)) 32 true,
 rh 34 (.load false 1 (.t 33)) 32 true,
 rg 35 (.lenL (.t 34)) 32 true,
 rg 36 (.bin .leq (.t 35) (.c (.int .i64 8))) 32 true,
 ro 37 (.pick (.t 32) (.t 36) (.c (.bool false))),
 ro 38 (.move (.t 37)),
 rh 39 (.load false 1 (.t 5)) 38 true,
 rg 40 (.fieldAddr 2 (.t 2)) 38 true,
 rh 41 (.load false 1 (.t 40)) 38 true,
 rh 42 (.call (.t 39) [(.t 41)]) 38 true,
 ro 43 (.pick (.t 38) (.t 42) (.c (.bool false))),
 ro 44 (.move (.t 43)),
 rg 45 (.fieldAddr 1 (.t 2)) 44 true,
 rh 46 (.load false 1 (.t 45)) 44 true,
 rg 47 (.mkFunc (.func 207) [] [(.t 5)]) 44 true,
 rh 48 (.call (.f 65) [(.t 46), (.t 47)]) 44 true,
 rg 49 (.un .not (.t 48)) 44 true,
 ro 50 (.pick (.t 44) (.t 49) (.c (.bool false))),
 ro 4 (.move (.t 50))])
 .ret)))), [.t 4]⟩
theorem fn163 : fnOf 163 = some a163 := by kernel_rfl
def a164b0 : ACode :=
 (.seq (.reg [
 ro 19 (.bin .lss (.t 18) (.t 17))])
 (.seq (.cond (.t 19)
 .skip
 (.exit 0))
 (.seq (.block 1 (.seq (.reg [
 ro 20 (.idxAddr 1 (.t 16) (.t 18)),
 rp 21 (.load false 1 (.t 20)),
 ro 5 (.move (.t 21))])
 (.reg [
 ro 22 (.move (.t 3)),
 ro 23 (.move (.t 5)),
 ro 24 (.convInt .u8 (.t 23)),
 ro 25 (.buildSlice 1 (.int .u8 0) 1 [(0, (.t 24))]),
 rp 26 (.append 1 1 (.t 22) (.t 25)),
 ro 3 (.move (.t 26))])))
 (.reg [
 ro 27 (.bin .add (.t 18) (.c (.int .i64 1))),
 ro 18 (.move (.t 27))]))))
def a164 : AFunc := ⟨1, 30, (.seq (.reg [
 rp 1 (.box 3 (.t 0)),
 ro 2 (.move (.c (.str ⟨#[]⟩)))])
 (.seq (.reg [
 ro 6 (.fieldAddr 0 (.t 1)),
 rp 7 (.load false 1 (.t 6)),
 ro 8 (.bin .add (.t 7) (.c (.str ⟨#[40]⟩))),
 rp 9 (.bytesOf (.t 8)),
 ro 3 (.move (.t 9))])
 (.seq (.seq (.regD [
 ro 10 (.fieldAddr 1 (.t 1)),
  ⟨(some 11), .load false 1 (.t 10), none, true, 1, 1, false⟩,
  ⟨(some 12), .call (.f 208) [(.t 11)], none, true, 2, 3, false⟩,
  ⟨(some 13), .fieldAddr 2 (.t 1), none, false, 3, 0, false⟩,
  ⟨(some 14), .load false 1 (.t 13), none, true, 4, 8, false⟩,
  ⟨(some 15), .buildSlice 1 (.int .i64 0) 1 [(0, (.t 14))], none, false, 5, 24, false⟩,
  ⟨(some 16), .append 1 8 (.t 12) (.t 15), none, true, 6, 63, false⟩,
  ⟨(some 17), .lenL (.t 16), none, false, 7, 127, false⟩,
  ⟨(some 18), .move (.c (.int .i64 0)), none, false, 8, 0, true⟩])
 (.block 0 (.loop a164b0)))
 (.seq (.reg [
 ro 28 (.move (.t 3)),
 rp 29 (.strOf (.t 28)),
 ro 2 (.move (.t 29))])
 .ret)))), [.t 2]⟩
theorem fn164 : fnOf 164 = some a164 := by kernel_rfl
def a87b0 : ACode :=
 (.seq (.reg [
 ro 24 (.bin .lss (.t 23) (.t 22))])
 (.seq (.cond (.t 24)
 .skip
 (.exit 0))
 (.seq (.block 1 (.seq (.reg [
 ro 25 (.idxAddr 1 (.t 21) (.t 23)),
 rp 26 (.load false 1 (.t 25)),
 ro 5 (.move (.t 26))])
 (.seq (.seq (.reg [
 ro 27 (.move (.t 5)),
 rp 28 (.call (.f 161) [(.t 27)]),
 ro 29 (.un .not (.t 28)),
 ro 30 (.move (.t 29)),
 rg 31 (.move (.t 5)) 30 false,
 rh 32 (.call (.f 162) [(.t 31), (.c (.str ⟨#[95]⟩))]) 30 false,
 ro 33 (.pick (.t 30) (.c (.bool true)) (.t 32)),
 ro 34 (.move (.t 33)),
 rg 35 (.move (.t 3)) 34 false,
 rg 36 (.move (.t 5)) 34 false,
 rh 37 (.lookup .str (.bool false) false (.t 35) (.t 36)) 34 false,
 ro 38 (.pick (.t 34) (.c (.bool true)) (.t 37))])
 (.cond (.t 38)
 (.seq (.reg [
 ro 2 (.move (.c (.int .i64 40)))])
 .ret)
 .skip))
 (.reg [
 ro 39 (.move (.t 3)),
 ro 40 (.move (.t 5)),
  ⟨none, .mapUpd .str (.t 39) (.t 40) (.c (.bool true)), none, true, 0, 0, false⟩]))))
 (.reg [
 ro 41 (.bin .add (.t 23) (.c (.int .i64 1))),
 ro 23 (.move (.t 41))]))))
def a87b1 : ACode :=
 (.seq (.reg [
 ro 47 (.bin .lss (.t 46) (.t 45))])
 (.seq (.cond (.t 47)
 .skip
 (.exit 2))
 (.seq (.block 3 (.seq (.reg [
 ro 48 (.idxAddr 3 (.t 44) (.t 46)),
 rp 49 (.load true 3 (.t 48)),
 rp 8 (.box 3 (.c (.agg [(.str ⟨#[]⟩), (.slice 0 [] .nil), (.int .i64 0)]))),
  ⟨none, .store 3 (.t 8) (.t 49), none, true, 0, 0, false⟩])
 (.seq (.seq (.reg [
 rp 50 (.load true 3 (.t 8)),
 ro 51 (.fieldAddr 0 (.t 1)),
 rp 52 (.load false 1 (.t 51)),
 ro 53 (.lenL (.t 52)),
 rp 54 (.call (.f 163) [(.t 50), (.t 53)]),
 ro 55 (.un .not (.t 54)),
 ro 56 (.move (.t 55)),
 rg 57 (.move (.t 6)) 56 false,
 rh 58 (.load true 3 (.t 8)) 56 false,
 rh 59 (.call (.f 164) [(.t 58)]) 56 false,
 rh 60 (.lookup .str (.bool false) false (.t 57) (.t 59)) 56 false,
 ro 61 (.pick (.t 56) (.c (.bool true)) (.t 60))])
 (.cond (.t 61)
 (.seq (.reg [
 ro 2 (.move (.c (.int .i64 40)))])
 .ret)
 .skip))
 (.reg [
 ro 62 (.move (.t 6)),
 rp 63 (.load true 3 (.t 8)),
 rp 64 (.call (.f 164) [(.t 63)]),
  ⟨none, .mapUpd .str (.t 62) (.t 64) (.c (.bool true)), none, true, 0, 0, false⟩]))))
 (.reg [
 ro 65 (.bin .add (.t 46) (.c (.int .i64 1))),
 ro 46 (.move (.t 65))]))))
def a87 : AFunc := ⟨1, 66, (.seq (.reg [
 rp 1 (.box 2 (.t 0)),
 ro 2 (.move (.c (.int .i64 0)))])
 (.seq (.seq (.reg [
 ro 9 (.fieldAddr 0 (.t 1)),
 rp 10 (.load false 1 (.t 9)),
 ro 11 (.lenL (.t 10)),
 ro 12 (.bin .gtr (.t 11) (.c (.int .i64 64))),
 ro 13 (.move (.t 12)),
 rg 14 (.fieldAddr 1 (.t 1)) 13 false,
 rh 15 (.load false 1 (.t 14)) 13 false,
 rg 16 (.lenL (.t 15)) 13 false,
 rg 17 (.bin .gtr (.t 16) (.c (.int .i64 256))) 13 false,
 ro 18 (.pick (.t 13) (.c (.bool true)) (.t 17))])
 (.cond (.t 18)
 (.seq (.reg [
 ro 2 (.move (.c (.int .i64 40)))])
 .ret)
 .skip))
 (.seq (.reg [
 rp 19 (.makeMap),
 ro 3 (.move (.t 19))])
 (.seq (.seq (.reg [
 ro 20 (.fieldAddr 0 (.t 1)),
 rp 21 (.load false 1 (.t 20)),
 ro 22 (.lenL (.t 21)),
 ro 23 (.move (.c (.int .i64 0)))])
 (.block 0 (.loop a87b0)))
 (.seq (.reg [
 rp 42 (.makeMap),
 ro 6 (.move (.t 42))])
 (.seq (.seq (.reg [
 ro 43 (.fieldAddr 1 (.t 1)),
 rp 44 (.load false 1 (.t 43)),
 ro 45 (.lenL (.t 44)),
 ro 46 (.move (.c (.int .i64 0)))])
 (.block 2 (.loop a87b1)))
 (.seq (.reg [
 ro 2 (.move (.c (.int .i64 0)))])
 .ret))))))), [.t 2]⟩
theorem fn87 : fnOf 87 = some a87 := by kernel_rfl
def a139b0 : ACode :=
 (.seq (.reg [
 ro 9 (.bin .lss (.t 8) (.t 7))])
 (.seq (.cond (.t 9)
 .skip
 (.exit 0))
 (.seq (.block 1 (.seq (.reg [
 ro 10 (.move (.t 8)),
 ro 5 (.move (.t 10))])
 (.seq (.reg [
 ro 11 (.move (.t 1)),
 ro 12 (.move (.t 0)),
 ro 13 (.move (.t 5)),
 ro 14 (.idxAddr 3 (.t 12) (.t 13)),
 rp 15 (.load true 3 (.t 14)),
 rp 16 (.call (.t 11) [(.t 15)])])
 (.cond (.t 16)
 (.seq (.reg [
 ro 17 (.move (.t 5)),
 ro 4 (.move (.t 17))])
 .ret)
 .skip))))
 (.reg [
 ro 18 (.bin .add (.t 8) (.c (.int .i64 1))),
 ro 8 (.move (.t 18))]))))
def a139 : AFunc := ⟨2, 19, (.seq (.reg [
 ro 4 (.move (.c (.int .i64 0)))])
 (.seq (.seq (.reg [
 ro 6 (.move (.t 0)),
 ro 7 (.lenL (.t 6)),
 ro 8 (.move (.c (.int .i64 0)))])
 (.block 0 (.loop a139b0)))
 (.seq (.reg [
 ro 4 (.move (.c (.int .i64 (-1))))])
 .ret))), [.t 4]⟩
theorem fn139 : fnOf 139 = some a139 := by kernel_rfl
def a80 : AFunc := ⟨2, 9, (.seq (.reg [
 ro 4 (.move (.c (.bool false)))])
 (.seq (.reg [
 ro 5 (.move (.t 0)),
 ro 6 (.move (.t 1)),
 rp 7 (.call (.f 139) [(.t 5), (.t 6)]),
 ro 8 (.bin .geq (.t 7) (.c (.int .i64 0))),
 ro 4 (.move (.t 8))])
 .ret)), [.t 4]⟩
theorem fn80 : fnOf 80 = some a80 := by kernel_rfl
def a160b0 : ACode :=
 (.seq (.reg [
 ro 9 (.bin .lss (.t 8) (.t 7))])
 (.seq (.cond (.t 9)
 .skip
 (.exit 0))
 (.seq (.block 1 (.seq (.reg [
 ro 10 (.move (.t 8)),
 ro 5 (.move (.t 10))])
 (.seq (.reg [
 ro 11 (.move (.t 1)),
 ro 12 (.move (.t 0)),
 ro 13 (.move (.t 5)),
 ro 14 (.idxAddr 1 (.t 12) (.t 13)),
 rp 15 (.load false 1 (.t 14)),
 rp 16 (.call (.t 11) [(.t 15)])])
 (.cond (.t 16)
 (.seq (.reg [
 ro 17 (.move (.t 5)),
 ro 4 (.move (.t 17))])
 .ret)
 .skip))))
 (.reg [
 ro 18 (.bin .add (.t 8) (.c (.int .i64 1))),
 ro 8 (.move (.t 18))]))))
def a160 : AFunc := ⟨2, 19, (.seq (.reg [
 ro 4 (.move (.c (.int .i64 0)))])
 (.seq (.seq (.reg [
 ro 6 (.move (.t 0)),
 ro 7 (.lenL (.t 6)),
 ro 8 (.move (.c (.int .i64 0)))])
 (.block 0 (.loop a160b0)))
 (.seq (.reg [
 ro 4 (.move (.c (.int .i64 (-1))))])
 .ret))), [.t 4]⟩
theorem fn160 : fnOf 160 = some a160 := by kernel_rfl
def a82 : AFunc := ⟨2, 9, (.seq (.reg [
 ro 4 (.move (.c (.bool false)))])
 (.seq (.reg [
 ro 5 (.move (.t 0)),
 ro 6 (.move (.t 1)),
 rp 7 (.call (.f 160) [(.t 5), (.t 6)]),
 ro 8 (.bin .geq (.t 7) (.c (.int .i64 0))),
 ro 4 (.move (.t 8))])
 .ret)), [.t 4]⟩
theorem fn82 : fnOf 82 = some a82 := by kernel_rfl
def a81 : AFunc := ⟨1, 13, (.seq (.reg [
 rp 1 (.box 3 (.t 0)),
 ro 2 (.move (.c (.bool false)))])
 (.seq (.reg [
 ro 3 (.fieldAddr 1 (.t 1)),
 rp 4 (.load false 1 (.t 3)),
 ro 5 (.lenL (.t 4)),
 ro 6 (.bin .gtr (.t 5) (.c (.int .i64 20))),
 ro 7 (.move (.t 6)),
 rg 8 (.fieldAddr 0 (.t 1)) 7 false,
 rh 9 (.load false 1 (.t 8)) 7 false,
 rg 10 (.lenS (.t 9)) 7 false,
 rg 11 (.bin .gtr (.t 10) (.c (.int .i64 200))) 7 false,
 ro 12 (.pick (.t 7) (.c (.bool true)) (.t 11)),
 ro 2 (.move (.t 12))])
 .ret)), [.t 2]⟩
theorem fn81 : fnOf 81 = some a81 := by kernel_rfl
def a83 : AFunc := ⟨1, 6, (.seq (.reg [
 ro 2 (.move (.c (.bool false)))])
 (.seq (.reg [
 ro 3 (.move (.t 0)),
 ro 4 (.lenS (.t 3)),
 ro 5 (.bin .gtr (.t 4) (.c (.int .i64 200))),
 ro 2 (.move (.t 5))])
 .ret)), [.t 2]⟩
theorem fn83 : fnOf 83 = some a83 := by kernel_rfl
def a16 : AFunc := ⟨1, 25, (.seq (.reg [
 rp 1 (.box 2 (.t 0)),
 ro 2 (.move (.c (.bool false)))])
 (.seq (.reg [
 ro 3 (.fieldAddr 1 (.t 1)),
 rp 4 (.load false 1 (.t 3)),
 ro 5 (.lenL (.t 4)),
 ro 6 (.bin .leq (.t 5) (.c (.int .i64 40))),
 ro 7 (.move (.t 6)),
 rg 8 (.fieldAddr 0 (.t 1)) 7 true,
 rh 9 (.load false 1 (.t 8)) 7 true,
 rg 10 (.lenL (.t 9)) 7 true,
 rg 11 (.bin .leq (.t 10) (.c (.int .i64 20))) 7 true,
 ro 12 (.pick (.t 7) (.t 11) (.c (.bool false))),
 ro 13 (.move (.t 12)),
 rg 14 (.fieldAddr 1 (.t 1)) 13 true,
 rh 15 (.load false 1 (.t 14)) 13 true,
 rh 16 (.call (.f 80) [(.t 15), (.f 81)]) 13 true,
 rg 17 (.un .not (.t 16)) 13 true,
 ro 18 (.pick (.t 13) (.t 17) (.c (.bool false))),
 ro 19 (.move (.t 18)),
 rg 20 (.fieldAddr 0 (.t 1)) 19 true,
 rh 21 (.load false 1 (.t 20)) 19 true,
 rh 22 (.call (.f 82) [(.t 21), (.f 83)]) 19 true,
 rg 23 (.un .not (.t 22)) 19 true,
 ro 24 (.pick (.t 19) (.t 23) (.c (.bool false))),
 ro 2 (.move (.t 24))])
 .ret)), [.t 2]⟩
theorem fn16 : fnOf 16 = some a16 := by kernel_rfl
end Go.Proofs.Tryz
/- sig: names, holes, sorts in range; all exact. -/
namespace Go.Proofs.Tryz
open Go Go.AE
variable {T : Tbl} (hT : Std T)
@[go_sem] theorem prim_index {s : ByteArray} {c : Int} : primop .indexByteString [.str s, .int .u8 c] = some (.int .i64 (match (List.range s.size).find? (fun i => s[i]! == UInt8.ofNat c.toNat) with | some i => (i : Int) | none => -1)) := rfl
@[go_sem] theorem prim_count {s : ByteArray} {c : Int} : primop .countString [.str s, .int .u8 c] = some (.int .i64 (s.foldl (fun n x => if x == UInt8.ofNat c.toNat then n + 1 else n) (0 : Int))) := rfl
include hT in
theorem index244_ev (t : ByteArray) (c : Int) (h : List AE.Obj) : Ev T 244 [.str t, .int .u8 c] h (.val (.int .i64 (idxB t c)), ⟨h, [], []⟩) := by
 refine Ev.walk (hT.sp _ (by decide)) ((hT.fn _).trans fn244) (hT.mode _) rfl ?_
 simp (disch := first | omega | decide | simp only [go_sem]) only [go_sem, hT.prim, primOf]
 rfl
include hT in
theorem index203_ev (t : ByteArray) (c : Int) (h : List AE.Obj) : Ev T 203 [.str t, .int .u8 c] h (.val (.int .i64 (idxB t c)), ⟨h, [], []⟩) := by
 refine Ev.walk (hT.sp _ (by decide)) ((hT.fn _).trans fn203) (hT.mode _) rfl ?_
 simp (disch := first | omega | decide | simp only [go_sem]) only [go_sem, hT.prim, primOf, cb (index244_ev hT t c h)]
theorem us_size : (ByteArray.mk #[95]).size = 1 := rfl
theorem us_at : strAt ⟨#[95]⟩ 0 = some 95 := rfl
theorem us_eq {t : ByteArray} (h : ((⟨#[95]⟩ : ByteArray).toList == t.toList) = true) : idxB t ((95 : Nat) : Int) = 0 := by
 have : (⟨#[95]⟩ : ByteArray) = t := str_eq.1 h
 subst this
 rfl
include hT in
theorem index245_ev (t : ByteArray) (h : List AE.Obj) : Ev T 245 [.str t, .str ⟨#[95]⟩] h (.val (.int .i64 (idxB t ((95 : Nat) : Int))), ⟨h, [], []⟩) := by
 refine Ev.walk (hT.sp _ (by decide)) ((hT.fn _).trans fn245) (hT.mode _) rfl ?_
 have b0 : (((1 : Nat) : Int) == 0) = false := rfl
 have b1 : (((1 : Nat) : Int) == 1) = true := rfl
 have hr := index244_ev hT t ((95 : Nat) : Int) h
 simp (disch := first | omega | decide | simp only [go_sem]) only [go_sem, hT.prim, primOf, cb hr, us_size, us_at, b0, b1]
 exact bifs (fun h => by rw [us_eq h]) (fun _ => trivial)
include hT in
theorem name_tot (t : ByteArray) (h : List AE.Obj) : ∃ r : Bool, Ev T 161 [.str t] h (.val (.bool r), ⟨h, [], []⟩) ∧ (r = true ↔ nameP t) := by
 refine Ev.walkP (hT.sp _ (by decide)) ((hT.fn _).trans fn161) (hT.mode _) rfl ?_
 by_cases hl : t.size ≤ 32
 · have h32 : ¬ ((32 : Int) < (t.size : Int)) := by omega
   by_cases hz : t.size < 1
   · have hz' : ((t.size : Int) < 1) := by omega
     simp (disch := first | omega | decide | simp only [go_sem]) only [go_sem, hz']
     exact ⟨false, rfl, nofun, fun h => by have := h.1.1; omega⟩
   · have hz' : ¬ ((t.size : Int) < 1) := by omega
     simp (disch := first | omega | decide | simp only [go_sem]) only [go_sem, hz', h32]
     refine wpC.loopM (fun n e s => ∃ i : Nat, i + n = t.size ∧ eget e 0 = .str t ∧ eget e 13 = .int .i64 (t.size : Int) ∧ eget e 14 = .int .i64 (i : Int) ∧ (∀ j c : Nat, j < i → strAt t (j : Int) = some c → byteP c) ∧ s = ⟨h, [], []⟩) ?_ t.size _ _ ⟨0, by simp, by simp (disch := first | omega | decide | simp only [go_sem]) only [go_sem], by simp (disch := first | omega | decide | simp only [go_sem]) only [go_sem], by simp (disch := first | omega | decide | simp only [go_sem]) only [go_sem]; rfl, fun j c hj => by omega, rfl⟩
     rintro n e s ⟨i, hi, e0, e13, e14, hp, rfl⟩
     by_cases h1 : i < t.size
     · obtain ⟨c, hc⟩ := strAt_lt h1
       have c256 := (strAt_some hc).2
       have hr := index203_ev hT ⟨#[40, 41, 44]⟩ (c : Int) h
       have hx := idx_par ⟨c, c256⟩
       have bad : ¬ byteP c → ∃ a : Bool, (false : Bool) = a ∧ (a = true ↔ nameP t) := fun hb => ⟨false, rfl, nofun, fun h => absurd (h.2 i c hc) hb⟩
       by_cases h33 : c < 33
       · have h33' : ((c : Int) < 33) := by omega
         simp (disch := first | omega | decide | simp only [go_sem]) only [go_sem, a161b0, e0, e13, e14, h1, hc, h33']
         exact ⟨false, rfl, nofun, fun h => by have := h.2 i c hc; unfold byteP at this; omega⟩
       · have h33' : ¬ ((c : Int) < 33) := by omega
         by_cases h126 : 126 < c
         · have h126' : ((126 : Int) < (c : Int)) := by omega
           simp (disch := first | omega | decide | simp only [go_sem]) only [go_sem, a161b0, e0, e13, e14, h1, hc, h33', h126']
           exact ⟨false, rfl, nofun, fun h => by have := h.2 i c hc; unfold byteP at this; omega⟩
         · have h126' : ¬ ((126 : Int) < (c : Int)) := by omega
           by_cases hpar : c = 40 ∨ c = 41 ∨ c = 44
           · have hix : 0 ≤ idxB ⟨#[40, 41, 44]⟩ (c : Int) := by
              rw [decide_eq_decide] at hx
              exact hx.2 hpar
             simp (disch := first | omega | decide | simp only [go_sem]) only [go_sem, a161b0, e0, e13, e14, h1, hc, h33', h126', cb hr, hT.prim, primOf, hix]
             exact ⟨false, rfl, nofun, fun h => by have := h.2 i c hc; unfold byteP at this; omega⟩
           · have hix : ¬ 0 ≤ idxB ⟨#[40, 41, 44]⟩ (c : Int) := by
              rw [decide_eq_decide] at hx
              exact fun h => hpar (hx.1 h)
             simp (disch := first | omega | decide | simp only [go_sem]) only [go_sem, a161b0, e0, e13, e14, h1, hc, h33', h126', cb hr, hT.prim, primOf, hix]
             refine ⟨n - 1, by omega, i + 1, by omega, rfl, fun j d hj hd => ?_, trivial⟩
             by_cases hji : j = i
             · subst hji
               rw [hc] at hd
               cases hd
               unfold byteP
               omega
             · exact hp j d (by omega) hd
     · simp (disch := first | omega | decide | simp only [go_sem]) only [go_sem, a161b0, e0, e13, e14, h1]
       exact ⟨true, rfl, fun _ => ⟨⟨by omega, hl⟩, fun j c hc => hp j c (by have := (strAt_some hc).1; omega) hc⟩, fun _ => rfl⟩
 · have h2 : ((32 : Int) < (t.size : Int)) := by omega
   have h3 : ¬ ((t.size : Int) < 1) := by omega
   simp (disch := first | omega | decide | simp only [go_sem]) only [go_sem, h2, h3]
   exact ⟨false, rfl, nofun, fun h => absurd h.1.2 hl⟩
include hT in
theorem index204_ev (t : ByteArray) (h : List AE.Obj) : Ev T 204 [.str t, .str ⟨#[95]⟩] h (.val (.int .i64 (idxB t ((95 : Nat) : Int))), ⟨h, [], []⟩) := by
 refine Ev.walk (hT.sp _ (by decide)) ((hT.fn _).trans fn204) (hT.mode _) rfl ?_
 simp (disch := first | omega | decide | simp only [go_sem]) only [go_sem, hT.prim, primOf, cb (index245_ev hT t h)]
include hT in
theorem contains_tot (t : ByteArray) (h : List AE.Obj) : ∃ r : Bool, Ev T 162 [.str t, .str ⟨#[95]⟩] h (.val (.bool r), ⟨h, [], []⟩) ∧ (r = true ↔ blk t ≠ 0) := by
 refine Ev.walkP (hT.sp _ (by decide)) ((hT.fn _).trans fn162) (hT.mode _) rfl ?_
 simp (disch := first | omega | decide | simp only [go_sem]) only [go_sem, hT.prim, primOf, cb (index204_ev hT t h)]
 exact ⟨_, rfl, by rw [decide_eq_true_eq]; exact idx_us t⟩
include hT in
theorem bcount_ev (t : ByteArray) (h : List AE.Obj) : Ev T 206 [.str t, .str ⟨#[95]⟩] h (.val (.int .i64 (blk t : Int)), ⟨h, [], []⟩) := by
 refine Ev.walk (hT.sp _ (by decide)) ((hT.fn _).trans fn206) (hT.mode _) rfl ?_
 have b0 : (((1 : Nat) : Int) == 0) = false := rfl
 have b1 : (((1 : Nat) : Int) == 1) = true := rfl
 simp (disch := first | omega | decide | simp only [go_sem]) only [go_sem, hT.prim, primOf, us_size, us_at, b0, b1, foldl_blk]
def isSortB (n : Int) (nS : Nat) : Bool := decide (0 ≤ n) && decide (n < (nS : Int))
include hT in
theorem good1_ev {n : Int} {nS k : Nat} {h : List AE.Obj} (hk : h[k]? = some (.row 1 [.int .i64 (nS : Int)])) : Ev T 205 [.int .i64 n, .ptr k 0 0 1] h (.val (.bool (isSortB n nS)), ⟨h, [], []⟩) := by
 refine Ev.walk (hT.sp _ (by decide)) ((hT.fn _).trans fn205) (hT.mode _) rfl ?_
 have fl : loadAt false 1 (.ptr k 0 0 1) h = some (.int .i64 (nS : Int)) := ld_at hk
 by_cases h0 : 0 ≤ n
 · simp (disch := first | omega | decide | simp only [go_sem]) only [go_sem, fl, h0, isSortB, Bool.true_and]
 · simp (disch := first | omega | decide | simp only [go_sem]) only [go_sem, fl, h0, isSortB, Bool.false_and]
include hT in
theorem good2_ev {n : Int} {nS k k5 : Nat} {h : List AE.Obj} (hk : h[k]? = some (.row 1 [.int .i64 (nS : Int)])) (hk5 : h[k5]? = some (.row 1 [.func (.func 205) [] [.ptr k 0 0 1]])) : Ev T 207 [.int .i64 n, .ptr k5 0 0 1] h (.val (.bool (!isSortB n nS)), ⟨h, [], []⟩) := by
 refine Ev.walk (hT.sp _ (by decide)) ((hT.fn _).trans fn207) (hT.mode _) rfl ?_
 have fl : loadAt false 1 (.ptr k5 0 0 1) h = some (.func (.func 205) [] [.ptr k 0 0 1]) := by rw [ld_at hk5]; rfl
 simp (disch := first | omega | decide | simp only [go_sem]) only [go_sem, fl, cb (good1_ev hT hk), hT.prim, primOf]
include hT in
theorem index149_tot {g : FuncId} {cap : List PV} {p : Int → Bool} {h : List AE.Obj} (hg : T.prim g = none) {args : List Int} {m : SM} (hf : ∀ a, Ev T g (.int .i64 a :: cap) h (.val (.bool (p a)), ⟨h, [], []⟩)) (hal : args.length < 1000000) :
 ∃ r : Int, Ev T 149 [.slice 1 (args.map encI) m, .func (.func g) [] cap] h (.val (.int .i64 r), ⟨h, [], []⟩) ∧ (r < 0 ↔ ∀ a ∈ args, p a = false) := by
 refine Ev.walkP (hT.sp _ (by decide)) ((hT.fn _).trans fn149) (hT.mode _) rfl ?_
 simp (disch := first | omega | decide | simp only [go_sem]) only [go_sem]
 refine wpC.loopM (fun n e s => ∃ i : Nat, i + n = args.length ∧ eget e 0 = .slice 1 (args.map encI) m ∧ eget e 1 = .func (.func g) [] cap ∧ eget e 7 = .int .i64 (args.length : Int) ∧ eget e 8 = .int .i64 (i : Int) ∧ (∀ j (hj : j < args.length), j < i → p args[j] = false) ∧ s = ⟨h, [], []⟩) ?_ args.length _ _ ⟨0, by simp, by simp (disch := first | omega | decide | simp only [go_sem]) only [go_sem], by simp (disch := first | omega | decide | simp only [go_sem]) only [go_sem], by simp (disch := first | omega | decide | simp only [go_sem]) only [go_sem], by simp (disch := first | omega | decide | simp only [go_sem]) only [go_sem]; rfl, fun j _ hj => by omega, rfl⟩
 rintro n e s ⟨i, hi, e0, e1, e7, e8, hp, rfl⟩
 by_cases h1 : i < args.length
 · have ga := get_enc h1
   simp (disch := first | omega | decide | simp only [go_sem]) only [go_sem, a149b0, e0, e1, e7, e8, h1, ga, hg, cb (hf args[i])]
   refine bifs (fun hpi => ⟨(i : Int), rfl, fun h => by omega, fun h => by rw [h _ (List.getElem_mem h1)] at hpi; cases hpi⟩) (fun hpi => ⟨n - 1, by omega, i + 1, by omega, rfl, fun j hj hji => ?_, trivial⟩)
   by_cases hjj : j = i
   · subst hjj; exact hpi
   · exact hp j hj (by omega)
 · simp (disch := first | omega | decide | simp only [go_sem]) only [go_sem, a149b0, e0, e1, e7, e8, h1]
   refine ⟨_, rfl, fun _ a ha => ?_, fun _ => by decide⟩
   obtain ⟨j, hj, rfl⟩ := List.getElem_of_mem ha
   exact hp j hj (by omega)
include hT in
theorem contains65_tot {g : FuncId} {cap : List PV} {p : Int → Bool} {h : List AE.Obj} (hg : T.prim g = none) {args : List Int} {m : SM} (hf : ∀ a, Ev T g (.int .i64 a :: cap) h (.val (.bool (p a)), ⟨h, [], []⟩)) (hal : args.length < 1000000) :
 ∃ r : Bool, Ev T 65 [.slice 1 (args.map encI) m, .func (.func g) [] cap] h (.val (.bool r), ⟨h, [], []⟩) ∧ (r = false ↔ ∀ a ∈ args, p a = false) := by
 refine Ev.walkP (hT.sp _ (by decide)) ((hT.fn _).trans fn65) (hT.mode _) rfl ?_
 obtain ⟨r, hr, kr⟩ := index149_tot hT (m := m) hg hf hal
 simp (disch := first | omega | decide | simp only [go_sem]) only [go_sem, cb hr, hT.prim, primOf]
 exact ⟨_, rfl, by rw [← kr]; simp⟩
include hT in
theorem good_tot {s : GSig} (hs : Fits s) {o : GOp} (hoa : o.args.length < 900) (h : List AE.Obj) : ∃ r : Bool, Ev T 163 [encOp o, .int .i64 (s.sorts.length : Int)] h (.val (.bool r), ⟨h, [], []⟩) ∧ (r = true ↔ opP s.sorts.length o) := by
 refine Ev.walkP (hT.sp _ (by decide)) ((hT.fn _).trans fn163) (hT.mode _) rfl ?_
 generalize hk3 : (h ++ [AE.Obj.row 3 [encOp o]]).length = k3
 generalize hk5 : ((h ++ [AE.Obj.row 3 [encOp o]]) ++ [AE.Obj.row 1 [.int .i64 (s.sorts.length : Int)]]).length = k5
 have hlt : k3 ≤ k5 := by rw [← hk3, ← hk5]; simp
 have fs : storeAt 1 (.ptr k5 0 0 1) (.func (.func 205) [] [.ptr k3 0 0 1]) ⟨(((h ++ [AE.Obj.row 3 [encOp o]]) ++ [AE.Obj.row 1 [.int .i64 (s.sorts.length : Int)]]) ++ [.row 1 [.nilFunc]]), [], []⟩ = some ⟨(((h ++ [AE.Obj.row 3 [encOp o]]) ++ [AE.Obj.row 1 [.int .i64 (s.sorts.length : Int)]]) ++ [.row 1 [.func (.func 205) [] [.ptr k3 0 0 1]]]), wadd k5 [], []⟩ := by
  rw [← hk5]
  refine st_last rfl ⟨rfl, rfl⟩ fun j hj => ?_
  have : k3 = j := by simpa [PV.top, tops, omax] using hj
  rw [← hk5] at hlt
  omega
 generalize hH : (((h ++ [AE.Obj.row 3 [encOp o]]) ++ [AE.Obj.row 1 [.int .i64 (s.sorts.length : Int)]]) ++ [AE.Obj.row 1 [.func (.func 205) [] [.ptr k3 0 0 1]]]) = H at fs
 have g0 : H[h.length]? = some (.row 3 [encOp o]) := by rw [← hH]; simp
 have g3 : H[k3]? = some (.row 1 [.int .i64 (s.sorts.length : Int)]) := by rw [← hH, ← hk3]; simp
 have g5 : H[k5]? = some (.row 1 [.func (.func 205) [] [.ptr k3 0 0 1]]) := by rw [← hH, ← hk5]; simp
 have low : Low h.length h H := by
  rw [← hH]
  exact (((Low.refl _ _).push (Nat.le_refl _)).push (by simp)).push (by simp)
 have l0 : ∀ sz off, loadAt false sz (.ptr h.length 0 off 1) H = sub false sz (encOp o) off := fun sz off => ld_at g0
 have l5 : loadAt false 1 (.ptr k5 0 0 1) H = some (.func (.func 205) [] [.ptr k3 0 0 1]) := by rw [ld_at g5]; rfl
 have hn := bcount_ev hT o.name H
 obtain ⟨b, hb, kb⟩ := name_tot hT o.name H
 have hr := good1_ev hT (n := o.res) g3
 obtain ⟨c, hc, kc⟩ := contains65_tot hT (m := .any) (g := 207) (cap := [.ptr k5 0 0 1]) (p := fun a => !isSortB a s.sorts.length) (by rw [hT.prim]; rfl) (fun a => good2_ev hT (n := a) g3 g5) (show o.args.length < 1000000 by omega)
 have td : ∀ b ws, (∀ k ∈ ws, h.length ≤ k) → tidy 0 h.length (.val (.bool b)) ⟨H, ws, []⟩ = (.val (.bool b), ⟨h, [], []⟩) := fun b ws hw => tidy_low rfl rfl low hw
 have hk5h : h.length ≤ k5 := by rw [← hk5]; simp
 have kw : ∀ k ∈ wadd k5 [], h.length ≤ k := wadd_low hk5h (by simp)
 have f0 : ¬ opP s.sorts.length o → ∃ a : Bool, tidy 0 h.length (.val (.bool false)) ⟨H, wadd k5 [], []⟩ = (.val (.bool a), ⟨h, [], []⟩) ∧ (a = true ↔ opP s.sorts.length o) := fun hp => ⟨false, td _ _ kw, nofun, fun h => absurd h hp⟩
 cases b
 · simp (disch := first | omega | decide | simp only [go_sem]) only [go_sem, hk3, hk5, fs, l0, l5, cb hn, cb hb, hT.prim, primOf]
   exact f0 fun hp => by have := kb.2 hp.1; cases this
 · have hnm := kb.1 rfl
   by_cases q1 : blk o.name < o.name.size
   · have f1 : (blk o.name = 0 ∨ blk o.name = o.args.length) → decide ((o.args.length : Int) ≤ 8) = true → isSortB o.res s.sorts.length = true → ∃ a : Bool, tidy 0 h.length (.val (.bool !c)) ⟨H, wadd k5 [], []⟩ = (.val (.bool a), ⟨h, [], []⟩) ∧ (a = true ↔ opP s.sorts.length o) := fun q2 h8 hr => ⟨!c, td _ _ kw, fun h => by
      have hc2 : c = false := by simpa using h
      refine ⟨hnm, by omega, q2, fun a ha => ?_, ?_, by simp only [decide_eq_true_eq] at h8; omega⟩
      · have := kc.1 hc2 a ha
        simpa [isSortB] using this
      · simpa [isSortB] using hr, fun h => by
      have : c = false := kc.2 fun a ha => by
       have := h.2.2.2.1 a ha
       simp [isSortB]; omega
      rw [this]; rfl⟩
     have f8 : decide ((o.args.length : Int) ≤ 8) = false → ¬ opP s.sorts.length o := fun h8 hp => by
      have := hp.2.2.2.2.2
      simp only [decide_eq_false_iff_not] at h8
      omega
     have fr : isSortB o.res s.sorts.length = false → ¬ opP s.sorts.length o := fun hr hp => by
      have := hp.2.2.2.2.1
      simp [isSortB] at hr
      omega
     by_cases q2 : blk o.name = 0
     · have b2 : ((blk o.name : Int) == 0) = true := by simp [q2]
       simp (disch := first | omega | decide | simp only [go_sem]) only [go_sem, hk3, hk5, fs, l0, l5, cb hn, cb hb, cb hr, cb hc, hT.prim, primOf, q1, b2]
       exact bifs (fun h8 => bifs (fun hr => f1 (.inl q2) h8 hr) (fun hr => f0 (fr hr))) (fun h8 => f0 (f8 h8))
     · have b2 : ((blk o.name : Int) == 0) = false := by simp [q2]
       by_cases q3 : blk o.name = o.args.length
       · have b3 : ((blk o.name : Int) == (o.args.length : Int)) = true := by simp [q3]
         simp (disch := first | omega | decide | simp only [go_sem]) only [go_sem, hk3, hk5, fs, l0, l5, cb hn, cb hb, cb hr, cb hc, hT.prim, primOf, q1, b2, b3]
         exact bifs (fun h8 => bifs (fun hr => f1 (.inr q3) h8 hr) (fun hr => f0 (fr hr))) (fun h8 => f0 (f8 h8))
       · have b3 : ((blk o.name : Int) == (o.args.length : Int)) = false := by simp; omega
         simp (disch := first | omega | decide | simp only [go_sem]) only [go_sem, hk3, hk5, fs, l0, l5, cb hn, cb hb, cb hr, cb hc, hT.prim, primOf, q1, b2, b3]
         exact f0 fun hp => by have := hp.2.2.1; omega
   · simp (disch := first | omega | decide | simp only [go_sem]) only [go_sem, hk3, hk5, fs, l0, l5, cb hn, cb hb, hT.prim, primOf, q1]
     exact f0 fun hp => by have := hp.2.1; have := blk_le o.name; omega
end Go.Proofs.Tryz
