/- Texts of the proof, one behind the other: ValFnsR2, ValR3, ValM8, ValR4, ValR5, ValM1, ValM2, ValM3, ValM4, ValM5, ValM9, ValM10, ValM12, ValM13, ValN7, ValN8, ValN9, ValN10, ValM14, ValN11, ValM15, ValN12, ValN13, ValN14, ValN15. -/
import Derived.Test.YtekepgfmgeophaaGreatPartAJ
import Derived.Test.YtekepgfmgeophaaGreatPartAP
import Derived.Test.YtekepgfmgeophaaGreatPartAO
import Derived.Test.YtekepgfmgeophaaGreatPartAN
set_option linter.unusedVariables false
set_option linter.unusedSimpArgs false
/- Functions of the specification as the evaluator has them: printed (counting). -/
namespace Go.Proofs.Tryz
open Go Go.AE
def a92 : AFunc := ⟨2, 20, (.seq (.reg [
 rp 2 (.box 2 (.t 0)),
 ro 4 (.move (.c (.int .i64 0)))])
 (.seq (.reg [
 rp 6 (.load true 2 (.t 2)),
 rp 7 (.call (.f 97) [(.t 6)]),
 ro 5 (.move (.t 7))])
 (.seq (.seq (.reg [
 ro 8 (.move (.t 5)),
 ro 9 (.bin .neq (.t 8) (.c (.int .i64 0)))])
 (.cond (.t 9)
 (.seq (.reg [
 ro 10 (.move (.t 5)),
 ro 4 (.move (.t 10))])
 .ret)
 .skip))
 (.seq (.seq (.reg [
 ro 11 (.move (.t 1)),
 ro 12 (.bin .lss (.t 11) (.c (.int .i64 0))),
 ro 13 (.move (.t 12)),
 rg 14 (.move (.t 1)) 13 false,
 rg 15 (.fieldAddr 0 (.t 2)) 13 false,
 rh 16 (.load false 1 (.t 15)) 13 false,
 rg 17 (.lenL (.t 16)) 13 false,
 rg 18 (.bin .geq (.t 14) (.t 17)) 13 false,
 ro 19 (.pick (.t 13) (.c (.bool true)) (.t 18))])
 (.cond (.t 19)
 (.seq (.reg [
 ro 4 (.move (.c (.int .i64 1)))])
 .ret)
 .skip))
 (.seq (.reg [
 ro 4 (.move (.c (.int .i64 0)))])
 .ret))))), [.t 4]⟩
theorem fn92 : fnOf 92 = some a92 := by kernel_rfl
def a93b0 : ACode :=
 (.seq (.seq (.reg [
 ro 24 (.move (.t 8)),
 ro 25 (.fieldAddr 1 (.t 2)),
 rp 26 (.load false 1 (.t 25)),
 ro 27 (.lenL (.t 26)),
 ro 28 (.bin .lss (.t 24) (.t 27))])
 (.cond (.t 28)
 .skip
 (.exit 2)))
 (.seq (.block 3 (.seq (.reg [
 ro 31 (.fieldAddr 1 (.t 2)),
 rp 32 (.load false 1 (.t 31)),
 ro 33 (.move (.t 8)),
 ro 34 (.idxAddr 3 (.t 32) (.t 33)),
 ro 35 (.fieldAddr 1 (.t 34)),
 rp 36 (.load false 1 (.t 35)),
 ro 37 (.move (.t 6)),
 ro 38 (.bin .sub (.t 37) (.c (.int .i64 1))),
 ro 39 (.move (.t 5)),
 rp 40 (.call (.f 166) [(.t 36), (.t 38), (.t 39)]),
 ro 9 (.move (.t 40))])
 (.regD [
 ro 41 (.move (.t 7)),
  ⟨(some 42), .fieldAddr 1 (.t 2), none, false, 1, 0, false⟩,
  ⟨(some 43), .load false 1 (.t 42), none, true, 2, 2, false⟩,
  ⟨(some 44), .move (.t 8), none, false, 3, 0, false⟩,
  ⟨(some 45), .idxAddr 3 (.t 43) (.t 44), none, false, 4, 14, false⟩,
  ⟨(some 46), .fieldAddr 2 (.t 45), none, false, 5, 30, false⟩,
  ⟨(some 47), .load false 1 (.t 46), none, true, 6, 62, false⟩,
  ⟨(some 48), .move (.t 7), none, false, 7, 0, false⟩,
  ⟨(some 49), .fieldAddr 1 (.t 2), none, false, 8, 0, false⟩,
  ⟨(some 50), .load false 1 (.t 49), none, true, 9, 256, false⟩,
  ⟨(some 51), .move (.t 8), none, false, 10, 0, false⟩,
  ⟨(some 52), .idxAddr 3 (.t 50) (.t 51), none, false, 11, 1792, false⟩,
  ⟨(some 53), .fieldAddr 2 (.t 52), none, false, 12, 3840, false⟩,
  ⟨(some 54), .load false 1 (.t 53), none, true, 13, 7936, false⟩,
  ⟨(some 55), .idxAddr 1 (.t 48) (.t 54), none, false, 14, 16256, false⟩,
  ⟨(some 56), .load false 1 (.t 55), none, true, 15, 32640, false⟩,
  ⟨(some 57), .move (.t 9), none, false, 16, 0, true⟩,
  ⟨(some 58), .bin .add (.t 56) (.t 57), none, false, 17, 130944, true⟩,
  ⟨(some 59), .call (.f 145) [(.t 58)], none, true, 18, 262016, true⟩,
  ⟨(some 60), .idxAddr 1 (.t 41) (.t 47), none, false, 19, 524287, true⟩,
  ⟨none, .store 1 (.t 60) (.t 59), none, true, 20, 1048575, true⟩])))
 (.reg [
 ro 29 (.move (.t 8)),
 ro 30 (.bin .add (.t 29) (.c (.int .i64 1))),
 ro 8 (.move (.t 30))])))
def a93b1 : ACode :=
 (.seq (.seq (.reg [
 ro 15 (.move (.t 6)),
 ro 16 (.move (.t 1)),
 ro 17 (.bin .leq (.t 15) (.t 16))])
 (.cond (.t 17)
 .skip
 (.exit 0)))
 (.seq (.block 1 (.seq (.reg [
 ro 20 (.fieldAddr 0 (.t 2)),
 rp 21 (.load false 1 (.t 20)),
 ro 22 (.lenL (.t 21)),
 rp 23 (.makeSlice 1 (.int .i64 0) 8 (.t 22) (.t 22)),
 ro 7 (.move (.t 23))])
 (.seq (.seq (.reg [
 ro 8 (.move (.c (.int .i64 0)))])
 (.block 2 (.loop a93b0)))
 (.reg [
 ro 61 (.move (.t 5)),
 ro 62 (.move (.t 7)),
 ro 63 (.buildSlice 1 (.slice 0 [] .nil) 1 [(0, (.t 62))]),
 rp 64 (.append 1 24 (.t 61) (.t 63)),
 ro 5 (.move (.t 64))]))))
 (.reg [
 ro 18 (.move (.t 6)),
 ro 19 (.bin .add (.t 18) (.c (.int .i64 1))),
 ro 6 (.move (.t 19))])))
def a93 : AFunc := ⟨2, 66, (.seq (.reg [
 rp 2 (.box 2 (.t 0)),
 ro 4 (.move (.c (.slice 0 [] .nil)))])
 (.seq (.reg [
 ro 10 (.fieldAddr 0 (.t 2)),
 rp 11 (.load false 1 (.t 10)),
 ro 12 (.lenL (.t 11)),
 rp 13 (.makeSlice 1 (.int .i64 0) 8 (.t 12) (.t 12)),
 ro 14 (.buildSlice 1 (.slice 0 [] .nil) 1 [(0, (.t 13))]),
 ro 5 (.move (.t 14))])
 (.seq (.seq (.reg [
 ro 6 (.move (.c (.int .i64 1)))])
 (.block 0 (.loop a93b1)))
 (.seq (.reg [
 ro 65 (.move (.t 5)),
 ro 4 (.move (.t 65))])
 .ret)))), [.t 4]⟩
theorem fn93 : fnOf 93 = some a93 := by kernel_rfl
def a145 : AFunc := ⟨1, 6, (.seq (.reg [
 ro 2 (.move (.c (.int .i64 0)))])
 (.seq (.seq (.reg [
 ro 3 (.move (.t 0)),
 ro 4 (.bin .gtr (.t 3) (.c (.int .i64 1099511627776)))])
 (.cond (.t 4)
 (.seq (.reg [
 ro 2 (.move (.c (.int .i64 1099511627776)))])
 .ret)
 .skip))
 (.seq (.reg [
 ro 5 (.move (.t 0)),
 ro 2 (.move (.t 5))])
 .ret))), [.t 2]⟩
theorem fn145 : fnOf 145 = some a145 := by kernel_rfl
def a166b0 : ACode :=
 (.seq (.seq (.reg [
 ro 41 (.move (.t 11)),
 ro 42 (.move (.t 10)),
 ro 43 (.bin .leq (.t 41) (.t 42)),
 ro 44 (.move (.t 43)),
 rg 45 (.move (.t 11)) 44 true,
 rg 46 (.move (.t 2)) 44 true,
 rg 47 (.lenL (.t 46)) 44 true,
 rg 48 (.bin .lss (.t 45) (.t 47)) 44 true,
 ro 49 (.pick (.t 44) (.t 48) (.c (.bool false)))])
 (.cond (.t 49)
 .skip
 (.exit 4)))
 (.seq (.block 5 (.regD [
 ro 52 (.move (.t 9)),
  ⟨(some 53), .move (.t 10), none, false, 1, 0, false⟩,
  ⟨(some 54), .move (.t 9), none, false, 2, 0, false⟩,
  ⟨(some 55), .move (.t 10), none, false, 3, 0, false⟩,
  ⟨(some 56), .idxAddr 1 (.t 54) (.t 55), none, false, 4, 12, false⟩,
  ⟨(some 57), .load false 1 (.t 56), none, true, 5, 28, false⟩,
  ⟨(some 58), .move (.t 2), none, false, 6, 0, false⟩,
  ⟨(some 59), .move (.t 11), none, false, 7, 0, false⟩,
  ⟨(some 60), .idxAddr 1 (.t 58) (.t 59), none, false, 8, 192, false⟩,
  ⟨(some 61), .load false 1 (.t 60), none, true, 9, 448, false⟩,
  ⟨(some 62), .move (.t 0), none, false, 10, 0, false⟩,
  ⟨(some 63), .move (.t 8), none, false, 11, 0, false⟩,
  ⟨(some 64), .idxAddr 1 (.t 62) (.t 63), none, false, 12, 3072, false⟩,
  ⟨(some 65), .load false 1 (.t 64), none, true, 13, 7168, false⟩,
  ⟨(some 66), .idxAddr 1 (.t 61) (.t 65), none, false, 14, 16320, false⟩,
  ⟨(some 67), .load false 1 (.t 66), none, true, 15, 32704, false⟩,
  ⟨(some 68), .move (.t 7), none, false, 16, 0, false⟩,
  ⟨(some 69), .move (.t 10), none, false, 17, 0, false⟩,
  ⟨(some 70), .move (.t 11), none, false, 18, 0, true⟩,
  ⟨(some 71), .bin .sub (.t 69) (.t 70), none, false, 19, 393216, true⟩,
  ⟨(some 72), .idxAddr 1 (.t 68) (.t 71), none, false, 20, 983040, true⟩,
  ⟨(some 73), .load false 1 (.t 72), none, true, 21, 2031616, true⟩,
  ⟨(some 74), .call (.f 174) [(.t 67), (.t 73)], none, true, 22, 4194240, true⟩,
  ⟨(some 75), .bin .add (.t 57) (.t 74), none, false, 23, 8388604, true⟩,
  ⟨(some 76), .call (.f 145) [(.t 75)], none, true, 24, 16777212, true⟩,
  ⟨(some 77), .idxAddr 1 (.t 52) (.t 53), none, false, 25, 33554431, true⟩,
  ⟨none, .store 1 (.t 77) (.t 76), none, true, 26, 67108863, true⟩]))
 (.reg [
 ro 50 (.move (.t 11)),
 ro 51 (.bin .add (.t 50) (.c (.int .i64 1))),
 ro 11 (.move (.t 51))])))
def a166b1 : ACode :=
 (.seq (.seq (.reg [
 ro 36 (.move (.t 10)),
 ro 37 (.move (.t 1)),
 ro 38 (.bin .leq (.t 36) (.t 37))])
 (.cond (.t 38)
 .skip
 (.exit 2)))
 (.seq (.block 3 (.seq (.reg [
 ro 11 (.move (.c (.int .i64 1)))])
 (.block 4 (.loop a166b0))))
 (.reg [
 ro 39 (.move (.t 10)),
 ro 40 (.bin .add (.t 39) (.c (.int .i64 1))),
 ro 10 (.move (.t 40))])))
def a166b2 : ACode :=
 (.seq (.seq (.reg [
 ro 29 (.move (.t 8)),
 ro 30 (.bin .geq (.t 29) (.c (.int .i64 0)))])
 (.cond (.t 30)
 .skip
 (.exit 0)))
 (.seq (.block 1 (.seq (.reg [
 ro 33 (.move (.t 1)),
 ro 34 (.bin .add (.t 33) (.c (.int .i64 1))),
 rp 35 (.makeSlice 1 (.int .i64 0) 8 (.t 34) (.t 34)),
 ro 9 (.move (.t 35))])
 (.seq (.seq (.reg [
 ro 10 (.move (.c (.int .i64 0)))])
 (.block 2 (.loop a166b1)))
 (.reg [
 ro 78 (.move (.t 9)),
 ro 7 (.move (.t 78))]))))
 (.reg [
 ro 31 (.move (.t 8)),
 ro 32 (.bin .sub (.t 31) (.c (.int .i64 1))),
 ro 8 (.move (.t 32))])))
def a166 : AFunc := ⟨3, 83, (.seq (.reg [
 ro 6 (.move (.c (.int .i64 0)))])
 (.seq (.seq (.reg [
 ro 12 (.move (.t 0)),
 ro 13 (.lenL (.t 12)),
 ro 14 (.bin .eql (.t 13) (.c (.int .i64 0)))])
 (.cond (.t 14)
 (.seq (.seq (.reg [
 ro 15 (.move (.t 1)),
 ro 16 (.bin .eql (.t 15) (.c (.int .i64 0)))])
 (.cond (.t 16)
 (.seq (.reg [
 ro 6 (.move (.c (.int .i64 1)))])
 .ret)
 .skip))
 (.seq (.reg [
 ro 6 (.move (.c (.int .i64 0)))])
 .ret))
 .skip))
 (.seq (.seq (.reg [
 ro 17 (.move (.t 1)),
 ro 18 (.move (.t 0)),
 ro 19 (.lenL (.t 18)),
 ro 20 (.bin .lss (.t 17) (.t 19))])
 (.cond (.t 20)
 (.seq (.reg [
 ro 6 (.move (.c (.int .i64 0)))])
 .ret)
 .skip))
 (.seq (.reg [
 ro 21 (.move (.t 1)),
 ro 22 (.bin .add (.t 21) (.c (.int .i64 1))),
 rp 23 (.makeSlice 1 (.int .i64 0) 8 (.t 22) (.t 22)),
 ro 7 (.move (.t 23))])
 (.seq (.reg [
 ro 24 (.move (.t 7)),
 ro 25 (.idxAddr 1 (.t 24) (.c (.int .i64 0))),
  ⟨none, .store 1 (.t 25) (.c (.int .i64 1)), none, true, 0, 0, false⟩])
 (.seq (.seq (.reg [
 ro 26 (.move (.t 0)),
 ro 27 (.lenL (.t 26)),
 ro 28 (.bin .sub (.t 27) (.c (.int .i64 1))),
 ro 8 (.move (.t 28))])
 (.block 0 (.loop a166b2)))
 (.seq (.reg [
 ro 79 (.move (.t 7)),
 ro 80 (.move (.t 1)),
 ro 81 (.idxAddr 1 (.t 79) (.t 80)),
 rp 82 (.load false 1 (.t 81)),
 ro 6 (.move (.t 82))])
 .ret))))))), [.t 6]⟩
theorem fn166 : fnOf 166 = some a166 := by kernel_rfl
def a174 : AFunc := ⟨2, 18, (.seq (.reg [
 ro 4 (.move (.c (.int .i64 0)))])
 (.seq (.seq (.reg [
 ro 5 (.move (.t 0)),
 ro 6 (.bin .eql (.t 5) (.c (.int .i64 0))),
 ro 7 (.move (.t 6)),
 rg 8 (.move (.t 1)) 7 false,
 rg 9 (.bin .eql (.t 8) (.c (.int .i64 0))) 7 false,
 ro 10 (.pick (.t 7) (.c (.bool true)) (.t 9))])
 (.cond (.t 10)
 (.seq (.reg [
 ro 4 (.move (.c (.int .i64 0)))])
 .ret)
 .skip))
 (.seq (.seq (.reg [
 ro 11 (.move (.t 0)),
 ro 12 (.move (.t 1)),
 ro 13 (.bin .quo (.c (.int .i64 1099511627776)) (.t 12)),
 ro 14 (.bin .gtr (.t 11) (.t 13))])
 (.cond (.t 14)
 (.seq (.reg [
 ro 4 (.move (.c (.int .i64 1099511627776)))])
 .ret)
 .skip))
 (.seq (.reg [
 ro 15 (.move (.t 0)),
 ro 16 (.move (.t 1)),
 ro 17 (.bin .mul (.t 15) (.t 16)),
 ro 4 (.move (.t 17))])
 .ret)))), [.t 4]⟩
theorem fn174 : fnOf 174 = some a174 := by kernel_rfl
end Go.Proofs.Tryz
/- The specification counts, exact: products, ways. -/
namespace Go.Proofs.Tryz
open Go Go.AE
variable {T : Tbl} (hT : Std T)
def okN (v : Int) : Prop := 0 ≤ v ∧ v ≤ 1099511627776
theorem okN_cap {x : Int} (h : 0 ≤ x) : okN (cap x) := ⟨cap_nn' h, cap_le_top x⟩
include hT in
theorem rcapped_ev {n : Int} (hn : 0 ≤ n) (h : List AE.Obj) : Ev T 145 [.int .i64 n] h (.val (.int .i64 (cap n)), ⟨h, [], []⟩) := by
 refine Ev.walk (hT.sp _ (by decide)) ((hT.fn _).trans fn145) (hT.mode _) rfl ?_
 by_cases hc : 1099511627776 < n
 · have : cap n = 1099511627776 := by unfold cap; omega
   rw [this]
   simp (disch := first | omega | decide | simp only [go_sem]) only [go_sem, hc]
 · have : cap n = n := by unfold cap; omega
   rw [this]
   simp (disch := first | omega | decide | simp only [go_sem]) only [go_sem, hc]
include hT in
theorem rproduct_ev {a b : Int} (ha : okN a) (hb : okN b) (h : List AE.Obj) : Ev T 174 [.int .i64 a, .int .i64 b] h (.val (.int .i64 (cap (a * b))), ⟨h, [], []⟩) := by
 refine Ev.walk (hT.sp _ (by decide)) ((hT.fn _).trans fn174) (hT.mode _) rfl ?_
 obtain ⟨ha0, ha1⟩ := ha
 obtain ⟨hb0, hb1⟩ := hb
 by_cases hz : a = 0
 · subst hz
   have h1 : ((0 : Int) == 0) = true := rfl
   rw [Int.zero_mul]
   simp (disch := first | omega | decide | simp only [go_sem]) only [go_sem, h1]
   rfl
 · have h1 : (a == 0) = false := by simpa using hz
   by_cases hy : b = 0
   · subst hy
     have h2 : ((0 : Int) == 0) = true := rfl
     rw [Int.mul_zero]
     simp (disch := first | omega | decide | simp only [go_sem]) only [go_sem, h1, h2]
     rfl
   · have h2 : (b == 0) = false := by simpa using hy
     have hq : Int.tdiv 1099511627776 b = 1099511627776 / b := Int.tdiv_eq_ediv_of_nonneg (by omega)
     have hq0 : 0 ≤ 1099511627776 / b := Int.ediv_nonneg (by omega) hb0
     have hq1 : 1099511627776 / b ≤ 1099511627776 := Int.ediv_le_self _ (by omega)
     have hb2 : 0 < b := by omega
     have hm0 : 0 ≤ a * b := Int.mul_nonneg ha0 hb0
     by_cases hg : Int.tdiv 1099511627776 b < a
     · have hm : 1099511627776 < a * b := by
        rw [hq] at hg
        exact (Int.ediv_lt_iff_lt_mul hb2).1 hg
       have : cap (a * b) = 1099511627776 := by unfold cap; omega
       rw [this]
       simp (disch := first | omega | decide | simp only [go_sem]) only [go_sem, h1, h2, hy, hg]
     · have hm : a * b ≤ 1099511627776 := by
        have h2 : a ≤ 1099511627776 / b := by rw [← hq]; omega
        exact (Int.le_ediv_iff_mul_le hb2).1 h2
       have hc : cap (a * b) = a * b := by unfold cap; omega
       have hw : IntKind.i64.wrap (a * b) = a * b := wrap64 (by omega) (by omega)
       rw [hc]
       simp (disch := first | omega | decide | simp only [go_sem]) only [go_sem, h1, h2, hy, hg, hw]
structure okV (x : List Int) (n : Nat) : Prop where
 len : x.length = n
 ok : ∀ v ∈ x, okN v
theorem okV.get {x : List Int} {n j : Nat} (h : okV x n) (hj : j < n) : okN (x.getD j 0) := by
 have hl : j < x.length := by rw [h.len]; exact hj
 have e2 : x.getD j 0 = x[j] := by simp [List.getD_eq_getElem?_getD, hl]
 rw [e2]
 exact h.ok _ (List.getElem_mem hl)
theorem okV.set {x : List Int} {n j : Nat} {v : Int} (h : okV x n) (hv : okN v) : okV (x.set j v) n :=
 ⟨by simpa using h.len, fun u hu => by
  rcases List.mem_or_eq_of_mem_set hu with h' | rfl
  · exact h.ok _ h'
  · exact hv⟩
theorem okV.zeros (n : Nat) : okV (List.replicate n 0) n := ⟨by simp, fun v hv => by
 have := (List.mem_replicate.1 hv).2
 subst this
 exact ⟨by omega, by omega⟩⟩
def RowsX (h : List AE.Obj) (refs : List PV) (nS : Nat) (args : List Int) (sv : Nat → Nat → Int) : Prop := ∀ k, k < refs.length → ∃ z, okV z nS ∧ (∀ i, i < args.length → z.getD (args.getD i 0).toNat 0 = sv i k) ∧ ((∃ j, refs[k]? = some (.aref j 1 0 nS nS) ∧ j < h.length ∧ h[j]? = some (.row 1 (z.map encI))) ∨ refs[k]? = some (.slice 1 (z.map encI) .any))
structure WRows (h H : List AE.Obj) (a b : Nat) (x y : List Int) (n : Nat) : Prop where
 low : Low h.length h H
 ha : H[a]? = some (.row 1 (x.map encI))
 hb : H[b]? = some (.row 1 (y.map encI))
 ab : a ≠ b
 la : h.length ≤ a
 lb : h.length ≤ b
 okx : okV x n
 oky : okV y n
structure WSl (e : List PV) (args : List Int) (size : Nat) (refs : List PV) (m : SM) (a b i : Nat) : Prop where
 e0 : eget e 0 = .slice 1 (args.map encI) .any
 e1 : eget e 1 = .int .i64 (size : Int)
 e2 : eget e 2 = .slice 1 refs m
 e7 : eget e 7 = .aref a 1 0 (size + 1) (size + 1)
 e8 : eget e 8 = .int .i64 (i : Int)
 e9 : eget e 9 = .aref b 1 0 (size + 1) (size + 1)
theorem WRows.set {h H : List AE.Obj} {a b n i : Nat} {x y : List Int} {v : Int} (W : WRows h H a b x y n) (hv : okN v) : WRows h (H.set b (.row 1 ((y.set i v).map encI))) a b x (y.set i v) n :=
 ⟨W.low.trans (.set W.lb), get_set_ne W.ha (Ne.symm W.ab), get_set W.hb, W.ab, W.la, W.lb, W.okx, W.oky.set hv⟩
theorem get_getD {x : List Int} {j : Nat} (h : j < x.length) : (x.map encI)[j]? = some (.int .i64 (x.getD j 0)) := by
 rw [get_enc h, List.getD_eq_getElem?_getD, List.getElem?_eq_getElem h]; rfl
theorem set_getD {x : List Int} {j : Nat} (h : x.getD j 0 = 0) : x.set j 0 = x := by
 by_cases hj : j < x.length
 · refine set_self ?_
   rw [List.getD_eq_getElem?_getD, List.getElem?_eq_getElem hj] at h
   rw [List.getElem?_eq_getElem hj]
   exact congrArg some h
 · exact List.set_eq_of_length_le (by omega)
include hT in
theorem ways_b0 {h : List AE.Obj} {args : List Int} {size nS i a b nn : Nat} {refs : List PV} {m : SM} {x : List Int} {sv rv : Nat → Nat → Int} (S : Sys sv rv args.length) (rows : RowsX h refs nS args sv) (hrl : size < refs.length) (h60 : size < 60) (hxv : ∀ q, q ≤ size → x.getD q 0 = rv (i + 1) q) (hargs : okArgs args nS) (hi : i < args.length) (hsz : size < 1000) (hnn : nn ≤ size) (hr : refs.length < 1000)
 {Q : AExit → List PV → St → Prop} {e : List PV} {H : List AE.Obj} {ws : List Nat} {y : List Int} (W : WRows h H a b x y (size + 1)) (E : WSl e args size refs m a b i) (e10 : eget e 10 = .int .i64 (nn : Int)) (e11 : eget e 11 = .int .i64 1) (hw : ∀ k ∈ ws, h.length ≤ k) (hy0 : y.getD nn 0 = 0)
 (hQ : ∀ H' e' ws' c, okN c → c = rv i nn → WRows h H' a b x (y.set nn c) (size + 1) → WSl e' args size refs m a b i → eget e' 10 = .int .i64 (nn : Int) → (∀ k ∈ ws', h.length ≤ k) → Q (.exit 4) e' ⟨H', ws', []⟩) : wpC T (.loop a166b0) e ⟨H, ws, []⟩ Q := by
 refine wpC.loopM (fun n e st => ∃ (k : Nat) (H : List AE.Obj) (ws : List Nat) (c : Int), k + n = nn + 1 ∧ 1 ≤ k ∧ okN c ∧ c = cap (sumS sv rv i nn (k - 1)) ∧ WRows h H a b x (y.set nn c) (size + 1) ∧ WSl e args size refs m a b i ∧ eget e 10 = .int .i64 (nn : Int) ∧ eget e 11 = .int .i64 (k : Int) ∧ (∀ k ∈ ws, h.length ≤ k) ∧ st = ⟨H, ws, []⟩) ?_ nn _ _ ⟨1, H, ws, 0, by omega, by omega, ⟨by omega, by omega⟩, rfl, by rw [set_getD hy0]; exact W, E, e10, e11, hw, rfl⟩
 rintro n e st ⟨k, H, ws, c0, hk, hk1, okc0, hc0, W, E, e10, e11, hw, rfl⟩
 obtain ⟨e0, e1, e2, e7, e8, e9⟩ := E
 have hyl : nn < y.length := by have := W.oky.len; simp at this; omega
 have last : nn < k → ∀ e', WSl e' args size refs m a b i → eget e' 10 = .int .i64 (nn : Int) → Q (.exit 4) e' ⟨H, ws, []⟩ := fun hk2 e' h1 h2 => hQ H e' ws c0 okc0 (by rw [hc0, show k - 1 = nn by omega, S.eq i nn hi (by omega)]) W h1 h2 hw
 by_cases c1 : k ≤ nn
 · have c2 : k < refs.length := by omega
   obtain ⟨z, okz, hz2, hkind⟩ := rows k c2
   obtain ⟨ga, hga⟩ := hargs.get hi
   have hz3 := hz2 i hi
   have ga' : (args.map encI)[i]? = some (.int .i64 (((args.getD i 0).toNat : Nat) : Int)) := by
    rw [List.getElem?_map, ga]; rfl
   have okzi := okz.get hga
   rw [hz3] at okzi
   have fl1 := ld_v W.hb W.oky.len (show nn < size + 1 by omega)
   rw [getD_set hyl, if_pos rfl] at fl1
   have fl3 := ld_v W.ha W.okx.len (show nn - k < size + 1 by omega)
   rw [hxv (nn - k) (by omega)] at fl3
   have okx1 := W.okx.get (show nn - k < size + 1 by omega)
   rw [hxv (nn - k) (by omega)] at okx1
   have hp := rproduct_ev hT okzi okx1 H
   have pn := Int.mul_nonneg okzi.1 okx1.1
   have okp := okN_cap pn
   have hc := rcapped_ev hT (n := c0 + cap (sv i k * rv (i + 1) (nn - k))) (by have := okp.1; have := okc0.1; omega) H
   have okc := okN_cap (x := c0 + cap (sv i k * rv (i + 1) (nn - k))) (by have := okp.1; have := okc0.1; omega)
   have hsum : cap (c0 + cap (sv i k * rv (i + 1) (nn - k))) = cap (sumS sv rv i nn k) := by
    obtain ⟨j, rfl⟩ : ∃ j, k = j + 1 := ⟨k - 1, by omega⟩
    have hs := sumS_nn S i nn j
    rw [hc0, Nat.add_sub_cancel, cap_add_cap (cap_nn' hs), cap_cap_add pn]
    rfl
   generalize cap (sv i k * rv (i + 1) (nn - k)) = pv at *
   generalize cap (c0 + pv) = cv at *
   have fs := st_v (ws := []) (ups := []) (v := cv) W.hb W.oky.len (show nn < size + 1 by omega)
   rw [List.set_set] at fs
   have W' : WRows h (H.set b (.row 1 ((y.set nn cv).map encI))) a b x (y.set nn cv) (size + 1) := by
    have := W.set (i := nn) okc
    rwa [List.set_set] at this
   obtain ⟨op1, op2⟩ := okp
   obtain ⟨oy1, oy2⟩ := okc0
   have h1 : nn < size + 1 := by omega
   have h2 : nn - k < size + 1 := by omega
   rcases hkind with ⟨j, gr, hj, hz⟩ | gr
   · have fl2 := ld_v (W.low.get hj hz) okz.len hga
     rw [hz3] at fl2
     simp (disch := first | omega | decide | simp only [go_sem]) only [go_sem, a166b0, e0, e1, e2, e7, e8, e9, e10, e11, c1, c2, gr, ga', hga, fl1, fl2, fl3, cb hp, cb hc, hT.prim, primOf, cast_sub, h1, h2, fs, allocOp]
     exact ⟨n - 1, by omega, k + 1, _, _, cv, by omega, by omega, okc, by rw [hsum]; rfl, W', ⟨by simp (disch := first | omega | decide | simp only [go_sem]) only [go_sem, e0], by simp (disch := first | omega | decide | simp only [go_sem]) only [go_sem, e1], by simp (disch := first | omega | decide | simp only [go_sem]) only [go_sem, e2], by simp (disch := first | omega | decide | simp only [go_sem]) only [go_sem, e7], by simp (disch := first | omega | decide | simp only [go_sem]) only [go_sem, e8], by simp (disch := first | omega | decide | simp only [go_sem]) only [go_sem, e9]⟩, rfl, wadd_low W.lb hw, rfl⟩
   · have fl2 : (z.map encI)[(args.getD i 0).toNat]? = some (.int .i64 (sv i k)) := by
      rw [← hz3]
      exact get_getD (by rw [okz.len]; exact hga)
     simp (disch := first | omega | decide | simp only [go_sem]) only [go_sem, a166b0, e0, e1, e2, e7, e8, e9, e10, e11, c1, c2, gr, ga', hga, fl1, fl2, fl3, cb hp, cb hc, hT.prim, primOf, cast_sub, h1, h2, fs, allocOp]
     exact ⟨n - 1, by omega, k + 1, _, _, cv, by omega, by omega, okc, by rw [hsum]; rfl, W', ⟨by simp (disch := first | omega | decide | simp only [go_sem]) only [go_sem, e0], by simp (disch := first | omega | decide | simp only [go_sem]) only [go_sem, e1], by simp (disch := first | omega | decide | simp only [go_sem]) only [go_sem, e2], by simp (disch := first | omega | decide | simp only [go_sem]) only [go_sem, e7], by simp (disch := first | omega | decide | simp only [go_sem]) only [go_sem, e8], by simp (disch := first | omega | decide | simp only [go_sem]) only [go_sem, e9]⟩, rfl, wadd_low W.lb hw, rfl⟩
 · simp (disch := first | omega | decide | simp only [go_sem]) only [go_sem, a166b0, e0, e1, e2, e7, e8, e9, e10, e11, c1]
   exact last (by omega) _ ⟨by simp (disch := first | omega | decide | simp only [go_sem]) only [go_sem, e0], by simp (disch := first | omega | decide | simp only [go_sem]) only [go_sem, e1], by simp (disch := first | omega | decide | simp only [go_sem]) only [go_sem, e2], by simp (disch := first | omega | decide | simp only [go_sem]) only [go_sem, e7], by simp (disch := first | omega | decide | simp only [go_sem]) only [go_sem, e8], by simp (disch := first | omega | decide | simp only [go_sem]) only [go_sem, e9]⟩ (by simp (disch := first | omega | decide | simp only [go_sem]) only [go_sem, e10])
structure WOne (h H : List AE.Obj) (a : Nat) (x : List Int) (n : Nat) : Prop where
 low : Low h.length h H
 ha : H[a]? = some (.row 1 (x.map encI))
 la : h.length ≤ a
 okx : okV x n
theorem WOne.push {h H : List AE.Obj} {a n : Nat} {x : List Int} (W : WOne h H a x n) : WRows h (H ++ [.row 1 ((List.replicate n 0).map encI)]) a H.length x (List.replicate n 0) n := by
 have hl := (List.getElem?_eq_some_iff.1 W.ha).1
 refine ⟨W.low.push (by have := W.low.len; omega), ?_, by simp, by omega, W.la, by have := W.low.len; omega, W.okx, .zeros n⟩
 rw [List.getElem?_append_left hl]
 exact W.ha
include hT in
theorem ways_b1 {h : List AE.Obj} {args : List Int} {size nS i a b : Nat} {refs : List PV} {m : SM} {x : List Int} {sv rv : Nat → Nat → Int} (S : Sys sv rv args.length) (rows : RowsX h refs nS args sv) (hrl : size < refs.length) (h60 : size < 60) (hxv : ∀ q, q ≤ size → x.getD q 0 = rv (i + 1) q) (hargs : okArgs args nS) (hi : i < args.length) (hsz : size < 1000) (hr : refs.length < 1000)
 {Q : AExit → List PV → St → Prop} {e : List PV} {H : List AE.Obj} {ws : List Nat} {y : List Int} (W : WRows h H a b x y (size + 1)) (E : WSl e args size refs m a b i) (e10 : eget e 10 = .int .i64 0) (hw : ∀ k ∈ ws, h.length ≤ k) (hy0 : ∀ q, y.getD q 0 = 0)
 (hQ : ∀ H' e' ws' y', (∀ q, q ≤ size → y'.getD q 0 = rv i q) → WRows h H' a b x y' (size + 1) → WSl e' args size refs m a b i → (∀ k ∈ ws', h.length ≤ k) → Q (.exit 2) e' ⟨H', ws', []⟩) : wpC T (.loop a166b1) e ⟨H, ws, []⟩ Q := by
 refine wpC.loopM (fun n e st => ∃ (nn : Nat) (H : List AE.Obj) (ws : List Nat) (y : List Int), nn + n = size + 1 ∧ (∀ q, q < nn → y.getD q 0 = rv i q) ∧ (∀ q, nn ≤ q → y.getD q 0 = 0) ∧ WRows h H a b x y (size + 1) ∧ WSl e args size refs m a b i ∧ eget e 10 = .int .i64 (nn : Int) ∧ (∀ k ∈ ws, h.length ≤ k) ∧ st = ⟨H, ws, []⟩) ?_ (size + 1) _ _ ⟨0, H, ws, y, by omega, fun q hq => by omega, fun q _ => hy0 q, W, E, e10, hw, rfl⟩
 rintro n e st ⟨nn, H, ws, y, hnn, hlo, hhi, W, E, e10, hw, rfl⟩
 obtain ⟨e0, e1, e2, e7, e8, e9⟩ := E
 by_cases c1 : nn ≤ size
 · simp (disch := first | omega | decide | simp only [go_sem]) only [go_sem, a166b1, e1, e10, c1]
   refine ways_b0 hT (m := m) S rows hrl h60 hxv hargs hi hsz c1 hr W ⟨by simp (disch := first | omega | decide | simp only [go_sem]) only [go_sem, e0], by simp (disch := first | omega | decide | simp only [go_sem]) only [go_sem, e1], by simp (disch := first | omega | decide | simp only [go_sem]) only [go_sem, e2], by simp (disch := first | omega | decide | simp only [go_sem]) only [go_sem, e7], by simp (disch := first | omega | decide | simp only [go_sem]) only [go_sem, e8], by simp (disch := first | omega | decide | simp only [go_sem]) only [go_sem, e9]⟩ (by simp (disch := first | omega | decide | simp only [go_sem]) only [go_sem, e10]) (by simp (disch := first | omega | decide | simp only [go_sem]) only [go_sem]) hw (hhi nn (Nat.le_refl _)) fun H' e' ws' c okc hc W' E' e10' hw' => ?_
   simp (disch := first | omega | decide | simp only [go_sem]) only [go_sem, e10']
   obtain ⟨e0, e1, e2, e7, e8, e9⟩ := E'
   have hyl : nn < y.length := by have := W.oky.len; omega
   exact ⟨n - 1, by omega, nn + 1, _, _, y.set nn c, by omega, fun q hq => by
    by_cases hqn : q = nn
    · subst hqn; rw [getD_set hyl, if_pos rfl, hc]
    · rw [getD_set_ne (by omega)]; exact hlo q (by omega), fun q hq => by rw [getD_set_ne (by omega)]; exact hhi q (by omega), W', ⟨by simp (disch := first | omega | decide | simp only [go_sem]) only [go_sem, e0], by simp (disch := first | omega | decide | simp only [go_sem]) only [go_sem, e1], by simp (disch := first | omega | decide | simp only [go_sem]) only [go_sem, e2], by simp (disch := first | omega | decide | simp only [go_sem]) only [go_sem, e7], by simp (disch := first | omega | decide | simp only [go_sem]) only [go_sem, e8], by simp (disch := first | omega | decide | simp only [go_sem]) only [go_sem, e9]⟩, rfl, hw', rfl⟩
 · simp (disch := first | omega | decide | simp only [go_sem]) only [go_sem, a166b1, e1, e10, c1]
   exact hQ _ _ _ _ (fun q hq => hlo q (by omega)) W ⟨by simp (disch := first | omega | decide | simp only [go_sem]) only [go_sem, e0], by simp (disch := first | omega | decide | simp only [go_sem]) only [go_sem, e1], by simp (disch := first | omega | decide | simp only [go_sem]) only [go_sem, e2], by simp (disch := first | omega | decide | simp only [go_sem]) only [go_sem, e7], by simp (disch := first | omega | decide | simp only [go_sem]) only [go_sem, e8], by simp (disch := first | omega | decide | simp only [go_sem]) only [go_sem, e9]⟩ hw
theorem rv_zero {sv rv : Nat → Nat → Int} {L : Nat} (S : Sys sv rv L) : ∀ j k q, k + j = L → q < j → q < 60 → rv k q = 0
 | 0, _, _, _, h, _ => by omega
 | j + 1, k, q, hk, hq, h60 => by
   rw [S.eq k q (by omega) h60]
   have : ∀ i, i ≤ q → sumS sv rv k q i = 0 := fun i => by
    induction i with
    | zero => intro _; rfl
    | succ i ih =>
      intro hi
      simp only [sumS]
      rw [ih (by omega), rv_zero S j (k + 1) (q - (i + 1)) (by omega) (by omega) (by omega), Int.mul_zero, Int.add_zero]
   rw [this q (Nat.le_refl _)]; rfl
include hT in
theorem rways_ev {h : List AE.Obj} {args : List Int} {size nS : Nat} {refs : List PV} {m : SM} {sv rv : Nat → Nat → Int} (S : Sys sv rv args.length) (rows : RowsX h refs nS args sv) (hrl : size < refs.length) (h60 : size < 60) (hargs : okArgs args nS) (hal : args.length < 900) (hsz : size < 1000) (hr : refs.length < 1000) :
 Ev T 166 [.slice 1 (args.map encI) .any, .int .i64 (size : Int), .slice 1 refs m] h (.val (.int .i64 (rv 0 size)), ⟨h, [], []⟩) := by
 refine Ev.walk (hT.sp _ (by decide)) ((hT.fn _).trans fn166) (hT.mode _) rfl ?_
 have hmk := mk_ok (sz := 1) (bytes := 8) (n := size + 1) (z := .int .i64 0) (by omega) (by omega) rfl
 have hrep : List.replicate (size + 1) (PV.int .i64 0) = (List.replicate (size + 1) (0 : Int)).map encI := by simp [encI]
 have h0 : 0 < size + 1 := by omega
 generalize hH : h ++ [AE.Obj.row 1 ((List.replicate (size + 1) (0 : Int)).map encI)] = H
 have hHk : H[h.length]? = some (.row 1 ((List.replicate (size + 1) (0 : Int)).map encI)) := by rw [← hH]; simp
 have fs := st_v (ws := []) (ups := []) (v := 1) hHk (by simp) h0
 by_cases hL : args.length = 0
 · have b0 : ((args.length : Int) == 0) = true := by simp [hL]
   have hl := S.last size
   rw [hL] at hl
   by_cases hs0 : size = 0
   · have b1 : ((size : Int) == 0) = true := by simp [hs0]
     rw [hl, if_pos hs0]
     simp (disch := first | omega | decide | simp only [go_sem]) only [go_sem, b0, b1]
   · have b1 : ((size : Int) == 0) = false := by simp [hs0]
     rw [hl, if_neg hs0]
     simp (disch := first | omega | decide | simp only [go_sem]) only [go_sem, b0, b1]
 have b0 : ((args.length : Int) == 0) = false := by simpa using hL
 by_cases hsl : size < args.length
 · have hl := rv_zero S args.length 0 size (by omega) (by omega) h60
   rw [hl]
   simp (disch := first | omega | decide | simp only [go_sem]) only [go_sem, b0, hsl]
 simp (disch := first | omega | decide | simp only [go_sem]) only [go_sem, hmk, hrep, hH, h0, fs, Nat.zero_lt_succ, b0, hsl]
 have W0 : WOne h (H.set h.length (.row 1 (((List.replicate (size + 1) (0 : Int)).set 0 1).map encI))) h.length ((List.replicate (size + 1) (0 : Int)).set 0 1) (size + 1) :=
  ⟨.trans (by rw [← hH]; exact (Low.refl _ _).push (Nat.le_refl _)) (.set (Nat.le_refl _)), get_set hHk, Nat.le_refl _, (okV.zeros _).set ⟨by omega, by omega⟩⟩
 refine wpC.loopM (fun n e st => ∃ (H : List AE.Obj) (ws : List Nat) (a : Nat) (x : List Int), n ≤ args.length ∧ (∀ q, q ≤ size → x.getD q 0 = rv n q) ∧ WOne h H a x (size + 1) ∧ eget e 0 = .slice 1 (args.map encI) .any ∧ eget e 1 = .int .i64 (size : Int) ∧ eget e 2 = .slice 1 refs m ∧ eget e 7 = .aref a 1 0 (size + 1) (size + 1) ∧ eget e 8 = .int .i64 ((n : Int) - 1) ∧ (∀ k ∈ ws, h.length ≤ k) ∧ st = ⟨H, ws, []⟩) ?_ args.length _ _ ⟨_, _, _, _, Nat.le_refl _, fun q hq => by
  rw [S.last]
  by_cases hq0 : q = 0
  · subst hq0; rw [getD_set (by simp), if_pos rfl, if_pos rfl]
  · rw [if_neg hq0, getD_set_ne (by omega)]; simp only [List.getD_eq_getElem?_getD, List.getElem?_replicate]; split <;> rfl, W0, by simp (disch := first | omega | decide | simp only [go_sem]) only [go_sem], by simp (disch := first | omega | decide | simp only [go_sem]) only [go_sem], by simp (disch := first | omega | decide | simp only [go_sem]) only [go_sem], by simp (disch := first | omega | decide | simp only [go_sem]) only [go_sem], by simp (disch := first | omega | decide | simp only [go_sem]) only [go_sem], wadd_low (Nat.le_refl _) (by simp), rfl⟩
 rintro n e st ⟨H, ws, a, x, hn, hxv, W, e0, e1, e2, e7, e8, hw, rfl⟩
 cases n with
 | zero =>
   have c : ¬ ((0 : Int) ≤ ((0 : Nat) : Int) - 1) := by omega
   have fl := ld_v W.ha W.okx.len (show size < size + 1 by omega)
   have c2 : size < size + 1 := by omega
   rw [hxv size (Nat.le_refl _)] at fl
   simp (disch := first | omega | decide | simp only [go_sem]) only [go_sem, a166b2, e0, e1, e2, e7, e8, c, fl, c2]
   exact tidy_low rfl rfl W.low hw
 | succ k =>
   have c : (0 : Int) ≤ (k : Int) := by omega
   have W1 := W.push
   generalize hH2 : H ++ [AE.Obj.row 1 ((List.replicate (size + 1) (0 : Int)).map encI)] = H2 at W1
   simp (disch := first | omega | decide | simp only [go_sem]) only [go_sem, a166b2, e0, e1, e2, e7, e8, c, hmk, hrep, hH2]
   refine ways_b1 hT (m := m) (i := k) S rows hrl h60 hxv hargs (by omega) hsz hr W1 ⟨by simp (disch := first | omega | decide | simp only [go_sem]) only [go_sem, e0], by simp (disch := first | omega | decide | simp only [go_sem]) only [go_sem, e1], by simp (disch := first | omega | decide | simp only [go_sem]) only [go_sem, e2], by simp (disch := first | omega | decide | simp only [go_sem]) only [go_sem, e7], by simp (disch := first | omega | decide | simp only [go_sem]) only [go_sem, e8], by simp (disch := first | omega | decide | simp only [go_sem]) only [go_sem]⟩ (by simp (disch := first | omega | decide | simp only [go_sem]) only [go_sem]) hw (fun q => by simp only [List.getD_eq_getElem?_getD, List.getElem?_replicate]; split <;> rfl) fun H' e' ws' y' hy' W' E' hw' => ?_
   obtain ⟨e0, e1, e2, e7, e8, e9⟩ := E'
   simp (disch := first | omega | decide | simp only [go_sem]) only [go_sem, e8, e9]
   exact ⟨k, by omega, _, _, _, _, by omega, hy', ⟨W'.low, W'.hb, W'.lb, W'.oky⟩, e0, e1, e2, rfl, rfl, hw', rfl⟩
end Go.Proofs.Tryz
/- The specification's sort of a term. -/
namespace Go.Proofs.Tryz
open Go Go.AE
variable {T : Tbl} (hT : Std T) {s : GSig}
theorem typedF_uniq {t : Tm} {a b : Int} (h1 : typedF s t a = true) (h2 : typedF s t b = true) : a = b := by
 obtain ⟨k, n, l⟩ := t
 simp only [typedF, Bool.and_eq_true] at h1 h2
 obtain ⟨_, h1⟩ := h1
 obtain ⟨_, h2⟩ := h2
 cases ho : s.ops[n.toNat]? with
 | none => rw [ho] at h1; cases h1
 | some o =>
   rw [ho] at h1 h2
   simp only [Bool.and_eq_true, beq_iff_eq, decide_eq_true_eq] at h1 h2
   rw [← h1.1.1, ← h2.1.1]
include hT in
theorem rsortof_ev (hs : GOk s) {t : Tm} {p : PV} (ht : Enc t p) : t.nodes ≤ 100000 → shapedF t = true → ∀ h : List AE.Obj, ∃ r : Int × Bool, Ev T 171 [encSig s, .slice 0 [] .nil, p] h (.val (.tuple [.int .i64 r.1, .bool r.2]), ⟨h, [], []⟩) ∧ ((r.2 = true ∧ typedF s t r.1 = true) ∨ (r = (0, false) ∧ ∀ a, typedF s t a = false)) := by
 have hc := ht.cells
 induction ht with
 | mk k n l sz es hz hl he ih =>
   intro hnd hsh h
   refine Ev.walkP (r := fun (r : Int × Bool) => (.val (.tuple [.int .i64 r.1, .bool r.2]), ⟨h, [], []⟩)) (hT.sp _ (by decide)) ((hT.fn _).trans fn171) (hT.mode _) rfl ?_
   obtain ⟨c1, c2, c3, c4⟩ := hc
   simp only [Tm.nodes] at hnd
   have hnO := hs.nO
   simp only [shapedF, Bool.and_eq_true, decide_eq_true_eq, Bool.or_eq_true, beq_iff_eq] at hsh
   obtain ⟨⟨⟨⟨hn0, _⟩, hk12⟩, h8⟩, hshl⟩ := hsh
   obtain ⟨N, rfl⟩ := Int.eq_ofNat_of_zero_le hn0
   generalize hP : PV.agg [.int .i64 k, .int .i64 (N : Int), .slice sz es .any] = P at *
   have k3 : ((h ++ [AE.Obj.row 2 [encSig s]]) ++ [AE.Obj.row 3 [P]])[h.length]? = some (.row 2 [encSig s]) := keepL (by simp)
   have k5 : ((h ++ [AE.Obj.row 2 [encSig s]]) ++ [AE.Obj.row 3 [P]])[(h ++ [AE.Obj.row 2 [encSig s]]).length]? = some (.row 3 [P]) := by simp
   have low : Low h.length h ((h ++ [AE.Obj.row 2 [encSig s]]) ++ [AE.Obj.row 3 [P]]) := ((Low.refl _ _).push (Nat.le_refl _)).push (by simp)
   generalize hkp : (h ++ [AE.Obj.row 2 [encSig s]]).length = kp at *
   generalize hH : (h ++ [AE.Obj.row 2 [encSig s]]) ++ [AE.Obj.row 3 [P]] = H at *
   have l0 : loadAt false 1 (.ptr kp 0 0 1) H = some (.int .i64 k) := by rw [ld_at k5, ← hP]; rfl
   have l1 : loadAt false 1 (.ptr kp 0 1 1) H = some (.int .i64 (N : Int)) := by rw [ld_at k5, ← hP]; rfl
   have l2 : loadAt false 1 (.ptr kp 0 2 1) H = some (.slice sz es .any) := by rw [ld_at k5, ← hP]; rfl
   have lg1 : loadAt false 1 (.ptr h.length 0 1 1) H = some (.slice 3 (s.ops.map encOp) .any) := by rw [ld_at k3]; rfl
   have lg : loadAt true 2 (.ptr h.length 0 0 1) H = some (encSig s) := by rw [ld_at k3]; rfl
   have td : ∀ (a : Int) (b : Bool), tidy 0 h.length (.val (.tuple [.int .i64 a, .bool b])) ⟨H, [], []⟩ = (.val (.tuple [.int .i64 a, .bool b]), ⟨h, [], []⟩) := fun a b => tidy_low rfl rfl low (by simp)
   rcases hk12 with rfl | rfl
   · have b11 : ((1 : Int) == 1) = true := rfl
     have b10 : ((0 : Nat) : Int) ≤ (N : Int) := by omega
     have b10' : (0 : Nat) ≤ N := by omega
     simp (disch := first | omega | decide | simp only [go_sem]) only [go_sem, hkp, hH, c1, c3, l0, l1, b11, b10, b10', List.length_nil, td]
     exact ⟨(0, false), rfl, .inr ⟨rfl, fun a => by simp [typedF]⟩⟩
   · have b12 : ((2 : Int) == 1) = false := rfl
     by_cases hN : N < s.ops.length
     · have ho : s.ops[N]? = some s.ops[N] := List.getElem?_eq_getElem hN
       have go := get_op hN
       obtain ⟨a1, a2, a3⟩ := hs.ops _ (List.mem_of_getElem? ho)
       generalize s.ops[N] = o at *
       have so1 : sub false 1 (encOp o) 1 = some (.slice 1 (o.args.map encI) .any) := rfl
       have so2 : sub false 1 (encOp o) 2 = some (.int .i64 o.res) := rfl
       have hNn : ¬ s.ops.length ≤ N := by omega
       by_cases hal : o.args.length = es.length
       · have bne : ((o.args.length : Int) != (es.length : Int)) = false := by simp [hal]
         simp (disch := first | omega | decide | simp only [go_sem]) only [go_sem, hkp, hH, c1, c3, l0, l1, l2, lg1, b12, go, so1, hNn, bne, List.length_map]
         refine wpC.loopM (fun g e st => ∃ i : Nat, i + g = es.length ∧ (∀ (j : Nat) (x : Tm), j < i → l[j]? = some x → typedF s x (o.args.getD j 0) = true) ∧ eget e 1 = .slice 0 [] .nil ∧ eget e 3 = .ptr h.length 0 0 1 ∧ eget e 5 = .ptr kp 0 0 1 ∧ eget e 8 = .int .i64 (i : Int) ∧ st = ⟨H, [], []⟩) ?_ es.length _ _ ⟨0, by omega, fun j x hj => by omega, by simp (disch := first | omega | decide | simp only [go_sem]) only [go_sem], by simp (disch := first | omega | decide | simp only [go_sem]) only [go_sem], by simp (disch := first | omega | decide | simp only [go_sem]) only [go_sem], by simp (disch := first | omega | decide | simp only [go_sem]) only [go_sem]; rfl, rfl⟩
         rintro g e st ⟨i, hi, hp, e1, e3, e5, e8, rfl⟩
         by_cases hie : i < es.length
         · obtain ⟨x, q, hx, hq, hE⟩ := enc_mem hl he hie
           have hsz : sz = 3 := by
            rcases hz with rfl | h
            · simp at hie
            · exact h
           subst hsz
           have hm := nodesL_mem (List.mem_of_getElem? hx)
           have bs := hE.sub
           have hshx : shapedF x = true := by
            rw [shapedL_all] at hshl
            exact List.all_eq_true.1 hshl x (List.mem_of_getElem? hx)
           obtain ⟨ga, gl⟩ := a1.get (show i < o.args.length by omega)
           have hga : o.args.getD i 0 = ((o.args.getD i 0).toNat : Int) := by
            have := a1 _ (List.mem_of_getElem? ga)
            have h2 : o.args.getD i 0 = (((o.args.getD i 0).toNat : Nat) : Int) := by
             rw [List.getD_eq_getElem?_getD, ga]; rfl
            exact h2
           have gaE : (o.args.map encI)[i]? = some (.int .i64 (o.args.getD i 0)) := get_getD (by omega)
           obtain ⟨⟨ra, rb⟩, ev, hr⟩ := ih i x q hx hq hE.cells (by omega) hshx H
           dsimp only at ev hr
           rcases hr with ⟨rfl, htx⟩ | ⟨hrr, hno⟩
           · by_cases hra : ra = o.args.getD i 0
             · have bn : (ra != o.args.getD i 0) = false := by simp [hra]
               simp (disch := first | omega | decide | simp only [go_sem]) only [go_sem, a171b0, e1, e3, e5, e8, l1, l2, lg, lg1, go, so1, hie, hq, bs, gaE, cb ev, hT.prim, primOf, Bool.not_true, bn]
               refine ⟨g - 1, by omega, i + 1, by omega, fun j y hj hy => ?_, rfl, trivial⟩
               by_cases hji : j = i
               · subst hji
                 rw [hx] at hy; cases hy
                 rw [← hra]; exact htx
               · exact hp j y (by omega) hy
             · have bn : (ra != o.args.getD i 0) = true := by simpa using hra
               simp (disch := first | omega | decide | simp only [go_sem]) only [go_sem, a171b0, e1, e3, e5, e8, l1, l2, lg, lg1, go, so1, hie, hq, bs, gaE, cb ev, hT.prim, primOf, Bool.not_true, bn, td]
               refine ⟨(0, false), rfl, .inr ⟨rfl, fun a => ?_⟩⟩
               have hf : typedF s x (o.args.getD i 0) = false := by
                cases hh : typedF s x (o.args.getD i 0)
                · rfl
                · exact absurd (typedF_uniq htx hh) hra
               simp [typedF, ho, typedL_false i hx hf]
           · simp only [Prod.mk.injEq] at hrr
             obtain ⟨rfl, rfl⟩ := hrr
             simp (disch := first | omega | decide | simp only [go_sem]) only [go_sem, a171b0, e1, e3, e5, e8, l1, l2, lg, lg1, go, so1, hie, hq, bs, gaE, cb ev, hT.prim, primOf, Bool.not_false, td]
             exact ⟨(0, false), rfl, .inr ⟨rfl, fun a => by simp [typedF, ho, typedL_false i hx (hno _)]⟩⟩
         · simp (disch := first | omega | decide | simp only [go_sem]) only [go_sem, a171b0, e1, e3, e5, e8, l1, l2, lg1, go, so2, hie, td]
           refine ⟨(o.res, true), rfl, .inl ⟨rfl, ?_⟩⟩
           have := typedL_true (s := s) (l := l) (bs := o.args) fun j x hj => hp j x (by have := (List.getElem?_eq_some_iff.1 hj).1; omega) hj
           simp [typedF, ho, this]
           omega
       · have bne : ((o.args.length : Int) != (es.length : Int)) = true := by simp; omega
         simp (disch := first | omega | decide | simp only [go_sem]) only [go_sem, hkp, hH, c1, c3, l0, l1, l2, lg1, b12, go, so1, hNn, bne, List.length_map, td]
         refine ⟨(0, false), rfl, .inr ⟨rfl, fun a => ?_⟩⟩
         have : ¬ o.args.length = l.length := by omega
         simp [typedF, ho, this]
     · have hNn : s.ops.length ≤ N := by omega
       simp (disch := first | omega | decide | simp only [go_sem]) only [go_sem, hkp, hH, c1, c3, l0, l1, lg1, b12, hNn, List.length_map, td]
       exact ⟨(0, false), rfl, .inr ⟨rfl, fun a => by simp [typedF, List.getElem?_eq_none hNn]⟩⟩
end Go.Proofs.Tryz
/- The specification's table, exact. -/
namespace Go.Proofs.Tryz
open Go Go.AE
variable {T : Tbl} (hT : Std T)
def refOf (nS j : Nat) : PV := .aref j 1 0 nS nS
structure TS (h H : List AE.Obj) (s : GSig) (js : List Nat) (zs : List (List Int)) : Prop where
 low : Low h.length h H
 box : H[h.length]? = some (.row 2 [encSig s])
 len : zs.length = js.length
 rows : ∀ (i j : Nat) (z : List Int), js[i]? = some j → zs[i]? = some z → H[j]? = some (.row 1 (z.map encI))
 ok : ∀ z ∈ zs, okV z s.sorts.length
 ex : ∀ (k : Nat) (z : List Int), zs[k]? = some z → ∀ a, a < s.sorts.length → z.getD a 0 = cntOf s a k
 big : ∀ j ∈ js, h.length < j
theorem TS.rowsX {h H : List AE.Obj} {s : GSig} {js : List Nat} {zs : List (List Int)} (G : TS h H s js zs) {o : GOp} (ho : okArgs o.args s.sorts.length) : RowsX H (js.map (refOf s.sorts.length)) s.sorts.length o.args (svOf s o) := by
 intro k hk
 have hk1 : k < js.length := by simpa using hk
 have hk2 : k < zs.length := by rw [G.len]; exact hk1
 have hz := List.getElem?_eq_getElem hk2
 have h1 := G.rows k js[k] zs[k] (List.getElem?_eq_getElem hk1) hz
 exact ⟨zs[k], G.ok _ (List.getElem_mem hk2), fun i hi => G.ex k _ hz _ (ho.get hi).2, .inl ⟨js[k], by simp [hk1, refOf], (List.getElem?_eq_some_iff.1 h1).1, h1⟩⟩
theorem TS.set {h H : List AE.Obj} {s : GSig} {js : List Nat} {zs : List (List Int)} (G : TS h H s js zs) {r : Nat} {o : AE.Obj} (hr : h.length < r) (hn : r ∉ js) : TS h (H.set r o) s js zs :=
 ⟨G.low.trans (.set (by omega)), get_set_ne G.box (by omega), G.len, fun i j z a b => get_set_ne (G.rows i j z a b) (by rintro rfl; exact hn (List.mem_of_getElem? a)), G.ok, G.ex, G.big⟩
theorem TS.push {h H : List AE.Obj} {s : GSig} {js : List Nat} {zs : List (List Int)} (G : TS h H s js zs) {o : AE.Obj} : TS h (H ++ [o]) s js zs := by
 have keep : ∀ {k : Nat} {ob : AE.Obj}, H[k]? = some ob → (H ++ [o])[k]? = some ob := fun hx => by
  rw [List.getElem?_append_left (List.getElem?_eq_some_iff.1 hx).1]; exact hx
 exact ⟨G.low.push (by have := G.low.len; omega), keep G.box, G.len, fun i j z a b => keep (G.rows i j z a b), G.ok, G.ex, G.big⟩
theorem TS.more {h H : List AE.Obj} {s : GSig} {js : List Nat} {zs : List (List Int)} (G : TS h H s js zs) {r : Nat} {x : List Int} (hr : h.length < r) (hx : H[r]? = some (.row 1 (x.map encI))) (ok : okV x s.sorts.length) (ex : ∀ a, a < s.sorts.length → x.getD a 0 = cntOf s a js.length) : TS h H s (js ++ [r]) (zs ++ [x]) := by
 refine ⟨G.low, G.box, by simp [G.len], fun i j z a b => ?_, fun z hz => ?_, fun k z hz a ha => ?_, fun j hj => ?_⟩
 · by_cases hi : i < js.length
   · rw [List.getElem?_append_left hi] at a
     rw [List.getElem?_append_left (by rw [G.len]; exact hi)] at b
     exact G.rows i j z a b
   · have hi2 : i = js.length := by
      have := (List.getElem?_eq_some_iff.1 a).1
      simp at this
      omega
     subst hi2
     simp at a
     rw [← G.len] at b
     simp at b
     subst a b
     exact hx
 · rcases List.mem_append.1 hz with h | h
   · exact G.ok z h
   · rw [List.mem_singleton.1 h]; exact ok
 · by_cases hk : k < zs.length
   · rw [List.getElem?_append_left hk] at hz
     exact G.ex k z hz a ha
   · have hk2 : k = zs.length := by
      have := (List.getElem?_eq_some_iff.1 hz).1
      simp at this
      omega
     subst hk2
     simp at hz
     subst hz
     rw [G.len]
     exact ex a ha
 · rcases List.mem_append.1 hj with h | h
   · exact G.big j h
   · rw [List.mem_singleton.1 h]; exact hr
structure TSl (h : List AE.Obj) (s : GSig) (js : List Nat) (m : SM) (p r : Nat) (v : PV) (e : List PV) : Prop where
 e1 : eget e 1 = v
 e2 : eget e 2 = .ptr h.length 0 0 1
 e5 : eget e 5 = .slice 1 (js.map (refOf s.sorts.length)) m
 e6 : eget e 6 = .int .i64 ((p + 1 : Nat) : Int)
 e7 : eget e 7 = .aref r 1 0 s.sorts.length s.sorts.length
include hT in
theorem table_step {h : List AE.Obj} {s : GSig} (hs : Fits s) (hops : okOps s.ops s.sorts.length) {js : List Nat} {zs : List (List Int)} {r p i : Nat} {m : SM} {v : PV} (hp : p < 60) (hjs : js.length = p + 1) (c1 : i < s.ops.length)
 {Q : AExit → List PV → St → Prop} {e : List PV} {H : List AE.Obj} {ws : List Nat} {x : List Int} (G : TS h H s js zs) (hx : H[r]? = some (.row 1 (x.map encI))) (okx : okV x s.sorts.length) (E : TSl h s js m p r v e) (e8 : eget e 8 = .int .i64 (i : Int))
 (hQ : ∀ e' c, okN c → c = cap (x.getD s.ops[i].res.toNat 0 + rvOf s i 0 p) → TSl h s js m p r v e' → eget e' 8 = .int .i64 ((i + 1 : Nat) : Int) → Q .normal e' ⟨H.set r (.row 1 ((x.set s.ops[i].res.toNat c).map encI)), wadd r ws, []⟩) : wpC T a93b0 e ⟨H, ws, []⟩ Q := by
 obtain ⟨e1, e2, e5, e6, e7⟩ := E
 have hs1 := hs.nS
 have hs2 := hs.nO
 have fb1 : loadAt false 1 (.ptr h.length 0 1 1) H = some (.slice 3 (s.ops.map encOp) .any) := by rw [ld_at G.box]; rfl
 have go := get_op c1
 obtain ⟨k1, ⟨k2, k3⟩, k4⟩ := hops _ (List.getElem_mem c1)
 obtain ⟨rn, hrn⟩ := Int.eq_ofNat_of_zero_le k2
 have hrn2 : rn < s.sorts.length := by omega
 have ho : s.ops[i]? = some s.ops[i] := List.getElem?_eq_getElem c1
 have S := sysOf hops ho
 have hw1 := rways_ev hT (m := m) (size := p) S (G.rowsX k1) (by simp; omega) hp k1 k4 (by omega) (by simp; omega)
 have okw : okN (rvOf s i 0 p) := ⟨S.r0 0 p, S.rc 0 p⟩
 have hrt : s.ops[i].res.toNat = rn := by omega
 rw [hrt] at hQ
 have fl := ld_v hx okx.len hrn2
 have ox := okx.get hrn2
 have hc := rcapped_ev hT (n := x.getD rn 0 + rvOf s i 0 p) (by have := okw.1; have := ox.1; omega) H
 have okc := okN_cap (x := x.getD rn 0 + rvOf s i 0 p) (by have := okw.1; have := ox.1; omega)
 have hQ := hQ
 generalize rvOf s i 0 p = w at *
 obtain ⟨c, hcc⟩ : ∃ c, c = cap (x.getD rn 0 + w) := ⟨_, rfl⟩
 rw [← hcc] at hc okc
 have fs := st_v (ws := []) (ups := []) (v := c) hx okx.len hrn2
 obtain ⟨ow1, ow2⟩ := okw
 obtain ⟨ox1, ox2⟩ := ox
 simp (disch := first | omega | decide | simp only [go_sem]) only [go_sem, a93b0, e2, e5, e6, e7, e8, c1, fb1, go, cb hw1, cb hc, hT.prim, primOf, hrn, hrn2, fl, fs, allocOp]
 exact hQ _ _ okc hcc ⟨by simp (disch := first | omega | decide | simp only [go_sem]) only [go_sem, e1], by simp (disch := first | omega | decide | simp only [go_sem]) only [go_sem, e2], by simp (disch := first | omega | decide | simp only [go_sem]) only [go_sem, e5], by simp (disch := first | omega | decide | simp only [go_sem]) only [go_sem, e6], by simp (disch := first | omega | decide | simp only [go_sem]) only [go_sem, e7]⟩ (by simp (disch := first | omega | decide | simp only [go_sem]) only [go_sem])
include hT in
theorem table_b0 {h : List AE.Obj} {s : GSig} (hs : Fits s) (hops : okOps s.ops s.sorts.length) {js : List Nat} {zs : List (List Int)} {r p : Nat} {m : SM} {v : PV} (hp : p < 60) (hjs : js.length = p + 1) (hr : h.length < r) (hrj : r ∉ js)
 {Q : AExit → List PV → St → Prop} {e : List PV} {H : List AE.Obj} {ws : List Nat} {x : List Int} (G : TS h H s js zs) (hx : H[r]? = some (.row 1 (x.map encI))) (okx : okV x s.sorts.length) (E : TSl h s js m p r v e) (e8 : eget e 8 = .int .i64 0) (hw : ∀ k ∈ ws, h.length ≤ k) (hx0 : ∀ a, x.getD a 0 = 0)
 (hQ : ∀ H' e' ws' x', TS h H' s js zs → H'[r]? = some (.row 1 (x'.map encI)) → okV x' s.sorts.length → (∀ a, a < s.sorts.length → x'.getD a 0 = cntOf s a (p + 1)) → (∀ k o, H[k]? = some o → k ≠ r → H'[k]? = some o) → TSl h s js m p r v e' → (∀ k ∈ ws', h.length ≤ k) → Q (.exit 2) e' ⟨H', ws', []⟩) :
 wpC T (.loop a93b0) e ⟨H, ws, []⟩ Q := by
 have hs1 := hs.nS
 have hs2 := hs.nO
 refine wpC.loopM (fun n e st => ∃ (i : Nat) (H' : List AE.Obj) (ws : List Nat) (x : List Int), i + n = s.ops.length ∧ TS h H' s js zs ∧ H'[r]? = some (.row 1 (x.map encI)) ∧ okV x s.sorts.length ∧ (∀ a : Nat, a < s.sorts.length → x.getD a 0 = cap (aT s.ops (tabOf s) (a : Int) p i)) ∧ (∀ k o, H[k]? = some o → k ≠ r → H'[k]? = some o) ∧ TSl h s js m p r v e ∧ eget e 8 = .int .i64 (i : Int) ∧ (∀ k ∈ ws, h.length ≤ k) ∧ st = ⟨H', ws, []⟩) ?_ s.ops.length _ _
  ⟨0, H, ws, x, by omega, G, hx, okx, fun a _ => by rw [hx0]; rfl, fun _ _ h _ => h, E, e8, hw, rfl⟩
 rintro n e st ⟨i, H', ws, x, hi, G, hx, okx, hxe, same, E, e8, hw, rfl⟩
 by_cases c1 : i < s.ops.length
 · refine table_step hT hs hops hp hjs c1 G hx okx E e8 fun e' c okc hcc E' e8' => ?_
   have ho : s.ops[i]? = some s.ops[i] := List.getElem?_eq_getElem c1
   obtain ⟨_, ⟨k2, k3⟩, _⟩ := hops _ (List.getElem_mem c1)
   have S := sysOf hops ho
   have r0 := S.r0 0 p
   obtain ⟨_, K⟩ := tabOf_sem hops
   exact ⟨n - 1, by omega, i + 1, _, _, _, by omega, G.set hr hrj, get_set hx, okx.set okc, fun a ha => by
    have hrl : s.ops[i].res.toNat < x.length := by rw [okx.len]; omega
    have hstep : aT s.ops (tabOf s) (a : Int) p (i + 1) = aT s.ops (tabOf s) (a : Int) p i + if s.ops[i].res = (a : Int) then rvOf s i 0 p else 0 := by simp only [aT, ho]; rfl
    rw [hstep]
    by_cases hra : s.ops[i].res = (a : Int)
    · have : s.ops[i].res.toNat = a := by omega
      rw [getD_set hrl, if_pos this, if_pos hra, hcc, this, hxe a ha, cap_cap_add r0]
    · rw [getD_set_ne (by omega), if_neg hra, Int.add_zero]
      exact hxe a ha, fun k o hk hne => get_set_ne (same k o hk hne) (Ne.symm hne), E', e8', wadd_low (by omega) hw, rfl⟩
 · have fb1 : loadAt false 1 (.ptr h.length 0 1 1) H' = some (.slice 3 (s.ops.map encOp) .any) := by rw [ld_at G.box]; rfl
   obtain ⟨e1, e2, e5, e6, e7⟩ := E
   simp (disch := first | omega | decide | simp only [go_sem]) only [go_sem, a93b0, e2, e5, e6, e7, e8, c1, fb1]
   have hil : i = s.ops.length := by omega
   subst hil
   exact hQ _ _ _ _ G hx okx (fun a ha => by rw [hxe a ha]; exact (tabOf_cnt hops ha hp).symm) same ⟨by simp (disch := first | omega | decide | simp only [go_sem]) only [go_sem, e1], by simp (disch := first | omega | decide | simp only [go_sem]) only [go_sem, e2], by simp (disch := first | omega | decide | simp only [go_sem]) only [go_sem, e5], by simp (disch := first | omega | decide | simp only [go_sem]) only [go_sem, e6], by simp (disch := first | omega | decide | simp only [go_sem]) only [go_sem, e7]⟩ hw
def Mark (h H : List AE.Obj) (n : Nat) (js : List Nat) (m : SM) : Prop := m = .lit ∨ ∃ k, m = .tok k ∧ H[k]? = some (.tok 1 n) ∧ k ∉ js ∧ h.length < k
theorem append_ref {h H : List AE.Obj} {s : GSig} {js : List Nat} {zs : List (List Int)} {R n : Nat} {x : List Int} {m : SM} {ws : List Nat} (G : TS h H s js zs) (hx : H[R]? = some (.row 1 (x.map encI))) (okx : okV x s.sorts.length) (hxe : ∀ a, a < s.sorts.length → x.getD a 0 = cntOf s a js.length) (hr : h.length < R) (hjl : js.length = n) (hn : n < 1000) (M : Mark h H n js m) (hm : ∀ k, m = .tok k → k ≠ R)
 (hw : ∀ k ∈ ws, h.length ≤ k) :
 ∃ H2 m2 ws2, appendop 1 24 (.slice 1 (js.map (refOf s.sorts.length)) m) (.slice 1 [.aref R 1 0 s.sorts.length s.sorts.length] .lit) ⟨H, ws, []⟩ = some (.slice 1 ((js ++ [R]).map (refOf s.sorts.length)) m2, ⟨H2, ws2, []⟩) ∧ TS h H2 s (js ++ [R]) (zs ++ [x]) ∧ Mark h H2 (n + 1) (js ++ [R]) m2 ∧ (∀ k ∈ ws2, h.length ≤ k) := by
 have G2 := G.more hr hx okx hxe
 have hroom : (n + 1) * 24 ≤ room ∧ n + 1 ≤ room := by
  have : room = 4611686018427387903 ∨ 100000 ≤ room := .inr (by decide)
  constructor <;> rcases this with h | h <;> omega
 rcases M with rfl | ⟨k, rfl, h2, h3, h4⟩
 · refine ⟨H ++ [.tok 1 (n + 1)], .tok H.length, ws, ?_, G2.push, .inr ⟨H.length, rfl, by simp, fun hm => ?_, (List.getElem?_eq_some_iff.1 G.box).1⟩, hw⟩
   · simp [appendop, elems, hjl, PV.cells, PV.isCell, hroom, alloc, refOf]
   · obtain ⟨i, hi, hh⟩ := List.getElem_of_mem hm
     have := (List.getElem?_eq_some_iff.1 (G2.rows i _ ((zs ++ [x])[i]'(by rw [G2.len]; exact hi)) (List.getElem?_eq_getElem hi) (List.getElem?_eq_getElem _))).1
     omega
 · have hk : k ∉ js ++ [R] := fun hm' => by
    rcases List.mem_append.1 hm' with h | h
    · exact h3 h
    · exact hm k rfl (List.mem_singleton.1 h)
   refine ⟨H.set k (.tok 1 (n + 1)), .tok k, wadd k ws, ?_, G2.set h4 hk, .inr ⟨k, rfl, get_set h2, hk, h4⟩, wadd_low (by omega) hw⟩
   simp [appendop, elems, hjl, PV.cells, PV.isCell, hroom, wrote_none, refOf, h2]
def encRows (zs : List (List Int)) : PV := .slice 1 (zs.map fun z => .slice 1 (z.map encI) .any) .any
include hT in
theorem table_b1 {h : List AE.Obj} {s : GSig} (hs : Fits s) (hops : okOps s.ops s.sorts.length) {most : Nat} (hmost : most ≤ 60) {Q : AExit → List PV → St → Prop} {e : List PV} {H : List AE.Obj} {ws : List Nat} {j0 : Nat} {z0 : List Int} (G : TS h H s [j0] [z0])
 (e1 : eget e 1 = .int .i64 (most : Int)) (e2 : eget e 2 = .ptr h.length 0 0 1) (e5 : eget e 5 = .slice 1 [refOf s.sorts.length j0] .lit) (e6 : eget e 6 = .int .i64 1) (hw : ∀ k ∈ ws, h.length ≤ k)
 (hQ : ∀ H' e' ws' js zs m, TS h H' s js zs → zs.length = most + 1 → eget e' 5 = .slice 1 (js.map (refOf s.sorts.length)) m → (∀ k ∈ ws', h.length ≤ k) → Q (.exit 0) e' ⟨H', ws', []⟩) :
 wpC T (.loop a93b1) e ⟨H, ws, []⟩ Q := by
 have hs1 := hs.nS
 have hs2 := hs.nO
 refine wpC.loopM (fun n e st => ∃ (p : Nat) (H : List AE.Obj) (ws : List Nat) (js : List Nat) (zs : List (List Int)) (m : SM), p + n = most ∧ js.length = p + 1 ∧ TS h H s js zs ∧ Mark h H (p + 1) js m ∧ eget e 1 = .int .i64 (most : Int) ∧ eget e 2 = .ptr h.length 0 0 1 ∧ eget e 5 = .slice 1 (js.map (refOf s.sorts.length)) m ∧ eget e 6 = .int .i64 ((p + 1 : Nat) : Int) ∧ (∀ k ∈ ws, h.length ≤ k) ∧ st = ⟨H, ws, []⟩) ?_ most _ _
  ⟨0, H, ws, [j0], [z0], .lit, by omega, rfl, G, .inl rfl, e1, e2, e5, e6, hw, rfl⟩
 rintro n e st ⟨p, H, ws, js, zs, m, hp, hjl, G, M, e1, e2, e5, e6, hw, rfl⟩
 have fb0 : loadAt false 1 (.ptr h.length 0 0 1) H = some (.slice 1 (s.sorts.map .str) .any) := by rw [ld_at G.box]; rfl
 by_cases c1 : p + 1 ≤ most
 · have hmk := mk_ok (sz := 1) (bytes := 8) (n := s.sorts.length) (z := .int .i64 0) (by omega) (by omega) rfl
   have hrep : List.replicate s.sorts.length (PV.int .i64 0) = (List.replicate s.sorts.length (0 : Int)).map encI := by simp [encI]
   have G1 := G.push (o := .row 1 ((List.replicate s.sorts.length (0 : Int)).map encI))
   have hx1 : (H ++ [AE.Obj.row 1 ((List.replicate s.sorts.length (0 : Int)).map encI)])[H.length]? = some (.row 1 ((List.replicate s.sorts.length (0 : Int)).map encI)) := by simp
   have hr : h.length < H.length := (List.getElem?_eq_some_iff.1 G.box).1
   have hrj : H.length ∉ js := fun hm => by
    obtain ⟨i, hi, hh⟩ := List.getElem_of_mem hm
    have := (List.getElem?_eq_some_iff.1 (G.rows i _ (zs[i]'(by rw [G.len]; exact hi)) (List.getElem?_eq_getElem hi) (List.getElem?_eq_getElem _))).1
    omega
   have M1 : Mark h (H ++ [AE.Obj.row 1 ((List.replicate s.sorts.length (0 : Int)).map encI)]) (p + 1) js m := by
    rcases M with h | ⟨k, h1, h2, h3, h4⟩
    · exact .inl h
    · exact .inr ⟨k, h1, by rw [List.getElem?_append_left (List.getElem?_eq_some_iff.1 h2).1]; exact h2, h3, h4⟩
   have hne : ∀ k, m = .tok k → k ≠ H.length := fun k hk => by
    rcases M with h | ⟨k', h1, h2, h3, _⟩
    · rw [hk] at h; cases h
    · rw [hk] at h1; cases h1
      have := (List.getElem?_eq_some_iff.1 h2).1
      omega
   generalize hH1 : H ++ [AE.Obj.row 1 ((List.replicate s.sorts.length (0 : Int)).map encI)] = H1 at G1 hx1 M1
   generalize hRR : H.length = R at *
   simp (disch := first | omega | decide | simp only [go_sem]) only [go_sem, a93b1, e1, e2, e5, e6, c1, fb0, hmk, hrep, hH1, hRR]
   refine table_b0 hT hs hops (p := p) (m := m) (v := .int .i64 (most : Int)) (by omega) hjl hr hrj G1 hx1 (.zeros _) ⟨by simp (disch := first | omega | decide | simp only [go_sem]) only [go_sem, e1], by simp (disch := first | omega | decide | simp only [go_sem]) only [go_sem, e2], by simp (disch := first | omega | decide | simp only [go_sem]) only [go_sem, e5], by simp (disch := first | omega | decide | simp only [go_sem]) only [go_sem, e6], by simp (disch := first | omega | decide | simp only [go_sem]) only [go_sem]⟩ (by simp (disch := first | omega | decide | simp only [go_sem]) only [go_sem]) hw (fun a => by simp only [List.getD_eq_getElem?_getD, List.getElem?_replicate]; split <;> rfl) fun H' e' ws' x' G' hx' okx' hxe' same E' hw' => ?_
   obtain ⟨e1, e2, e5, e6, e7⟩ := E'
   have fe : fillE 1 (List.replicate 1 (PV.slice 0 [] .nil)) [(0, .aref R 1 0 s.sorts.length s.sorts.length)] = some [.aref R 1 0 s.sorts.length s.sorts.length] := rfl
   have M' : Mark h H' (p + 1) js m := by
    rcases M1 with h | ⟨k, h1, h2, h3, h4⟩
    · exact .inl h
    · exact .inr ⟨k, h1, same k _ h2 (hne k h1), h3, h4⟩
   obtain ⟨H2, m2, ws2, ha, G2, M2, hw2⟩ := append_ref (ws := ws') G' hx' okx' (by rw [hjl]; exact hxe') hr hjl (by omega) M' hne hw'
   simp (disch := first | omega | decide | simp only [go_sem]) only [go_sem, e1, e2, e5, e6, e7, fe, ha]
   exact ⟨n - 1, by omega, p + 1, H2, ws2, js ++ [R], zs ++ [x'], m2, by omega, by simp [hjl], G2, M2, rfl, rfl, hw2, rfl⟩
 · simp (disch := first | omega | decide | simp only [go_sem]) only [go_sem, a93b1, e1, e2, e5, e6, c1]
   exact hQ _ _ _ _ _ m G (by rw [G.len]; omega) (by simp (disch := first | omega | decide | simp only [go_sem]) only [go_sem, e5]) hw
theorem ints_pure : ∀ x : List Int, pures (x.map encI) = true ∧ weaks (x.map encI) = x.map encI
 | [] => ⟨rfl, rfl⟩
 | v :: x => by
   obtain ⟨a, b⟩ := ints_pure x
   exact ⟨by simp only [List.map_cons, pures, a]; rfl, by simp only [List.map_cons, weaks, b]; rfl⟩
theorem frz_ints {H : List AE.Obj} {n0 n : Nat} : ∀ x : List Int, optAll ((x.map encI).map (frz H n0 (n + 1))) = some (x.map encI)
 | [] => rfl
 | v :: x => by
   have h1 : frz H n0 (n + 1) (encI v) = some (encI v) := frz_pure rfl
   simp only [List.map_cons, h1, optAll, frz_ints x, Option.map]
theorem frz_row {H : List AE.Obj} {n0 n j nS : Nat} {z : List Int} (hj : H[j]? = some (.row 1 (z.map encI))) (hz : z.length = nS) (hn : n0 ≤ j) : frz H n0 (n + 2) (refOf nS j) = some (.slice 1 (z.map encI) .any) := by
 have h1 : ¬ (j < n0) := by omega
 have h2 : ((z.map encI).drop 0).take nS = z.map encI := by
  rw [List.drop_zero, List.take_of_length_le (by simp [hz])]
 rw [refOf, frz]
 simp only [PV.pure, Bool.false_eq_true, if_false, if_neg h1, hj, List.length_map, hz, Nat.zero_add, Nat.le_refl, and_self, if_true, h2, frz_ints, Option.map]
theorem frz_refs {H : List AE.Obj} {n0 n nS : Nat} : ∀ {js : List Nat} {zs : List (List Int)}, zs.length = js.length → (∀ (i j : Nat) (z : List Int), js[i]? = some j → zs[i]? = some z → H[j]? = some (.row 1 (z.map encI))) → (∀ z ∈ zs, z.length = nS) → (∀ j ∈ js, n0 ≤ j) →
 optAll ((js.map (refOf nS)).map (frz H n0 (n + 2))) = some (zs.map fun z => .slice 1 (z.map encI) .any)
 | [], [], _, _, _, _ => rfl
 | [], _ :: _, h, _, _, _ => by simp at h
 | _ :: _, [], h, _, _, _ => by simp at h
 | j :: js, z :: zs, hl, hr, hz, hj => by
   have h1 := frz_row (n := n) (hr 0 j z rfl rfl) (hz z (by simp)) (hj j (by simp))
   have h2 := frz_refs (n := n) (js := js) (zs := zs) (by simpa using hl) (fun i j' z' a b => hr (i + 1) j' z' (by simpa using a) (by simpa using b)) (fun z' h => hz z' (by simp [h])) (fun j' h => hj j' (by simp [h]))
   simp only [List.map_cons, h1, optAll, h2, Option.map]
theorem tidy_refs {h H : List AE.Obj} {s : GSig} {js : List Nat} {zs : List (List Int)} {m : SM} {ws : List Nat} (G : TS h H s js zs) (hne : js ≠ []) (hw : ∀ k ∈ ws, h.length ≤ k) : tidy 0 h.length (.val (.slice 1 (js.map (refOf s.sorts.length)) m)) ⟨H, ws, []⟩ = (.val (encRows zs), ⟨h, [], []⟩) := by
 have hb : below h.length ws = [] := List.filter_eq_nil_iff.2 fun k hk => by have := hw k hk; simp; omega
 have hp : (PV.slice 1 (js.map (refOf s.sorts.length)) m).pure = false := by
  cases js with
  | nil => exact absurd rfl hne
  | cons j js => simp [PV.pure, pures, refOf]
 have hf : frz H h.length 64 (.slice 1 (js.map (refOf s.sorts.length)) m) = some (encRows zs) := by
  rw [frz]
  simp only [hp, Bool.false_eq_true, if_false]
  rw [frz_refs (n := 61) G.len G.rows (fun z hz => (G.ok z hz).len) (fun j hj => by have := G.big j hj; omega)]
  rfl
 have ht : H.take h.length = h := by rw [G.low.take]; simp
 unfold tidy
 rw [if_neg (by decide), if_neg (by simp)]
 simp only [OR.v, hf, hb, ht, OR.put]
 rfl
include hT in
theorem rtable_ev {s : GSig} (hs : Fits s) (hops : okOps s.ops s.sorts.length) {most : Nat} (hmost : most ≤ 60) (h : List AE.Obj) : ∃ zs, Ev T 93 [encSig s, .int .i64 (most : Int)] h (.val (encRows zs), ⟨h, [], []⟩) ∧ zs.length = most + 1 ∧ (∀ z ∈ zs, okV z s.sorts.length) ∧ ∀ (k : Nat) (z : List Int), zs[k]? = some z → ∀ a, a < s.sorts.length → z.getD a 0 = cntOf s a k := by
 have hs1 := hs.nS
 refine Ev.walkP (hT.sp _ (by decide)) ((hT.fn _).trans fn93) (hT.mode _) rfl ?_
 have hmk := mk_ok (sz := 1) (bytes := 8) (n := s.sorts.length) (z := .int .i64 0) (by omega) (by omega) rfl
 have hrep : List.replicate s.sorts.length (PV.int .i64 0) = (List.replicate s.sorts.length (0 : Int)).map encI := by simp [encI]
 have fe : ∀ R, fillE 1 (List.replicate 1 (PV.slice 0 [] .nil)) [(0, .aref R 1 0 s.sorts.length s.sorts.length)] = some [.aref R 1 0 s.sorts.length s.sorts.length] := fun _ => rfl
 have G0 : TS h (h ++ [.row 2 [encSig s]]) s [] [] := ⟨(Low.refl _ _).push (Nat.le_refl _), by simp, rfl, fun i j z a => by simp at a, fun z hz => by simp at hz, fun k z hz => by simp at hz, fun j hj => by simp at hj⟩
 have G1 := (G0.push (o := .row 1 ((List.replicate s.sorts.length (0 : Int)).map encI))).more (r := (h ++ [AE.Obj.row 2 [encSig s]]).length) (x := List.replicate s.sorts.length 0) (by simp) (by simp) (.zeros _) (fun a ha => by rw [show ([] : List Nat).length = 0 from rfl, cnt0]; simp only [List.getD_eq_getElem?_getD, List.getElem?_replicate]; split <;> rfl)
 simp (disch := first | omega | decide | simp only [go_sem]) only [go_sem, hmk, hrep, fe]
 refine table_b1 hT hs hops hmost G1 (by simp (disch := first | omega | decide | simp only [go_sem]) only [go_sem]) (by simp (disch := first | omega | decide | simp only [go_sem]) only [go_sem]) (by simp (disch := first | omega | decide | simp only [go_sem]) only [go_sem]; rfl) (by simp (disch := first | omega | decide | simp only [go_sem]) only [go_sem]) (by simp) fun H' e' ws' js zs m G' hl e5 hw' => ?_
 simp (disch := first | omega | decide | simp only [go_sem]) only [go_sem, e5]
 exact ⟨zs, tidy_refs G' (by rintro rfl; have := G'.len; simp at this; subst this; simp at hl) hw', hl, G'.ok, G'.ex⟩
end Go.Proofs.Tryz
/- The specification counts. -/
namespace Go.Proofs.Tryz
open Go Go.AE
variable {T : Tbl} (hT : Std T)
include hT in
theorem rasked_exact {s : GSig} (hs : Fits s) (sort : Int) (h : List AE.Obj) : ∃ r : Int, Ev T 92 [encSig s, .int .i64 sort] h (.val (.int .i64 r), ⟨h, [], []⟩) ∧ ((r = 40 ∧ ¬ sigP s) ∨ (r = 1 ∧ sigP s ∧ isSortB sort s.sorts.length = false) ∨ (r = 0 ∧ sigP s ∧ isSortB sort s.sorts.length = true)) := by
 refine Ev.walkP (hT.sp _ (by decide)) ((hT.fn _).trans fn92) (hT.mode _) rfl ?_
 have hs1 := hs.nS
 obtain ⟨r, hr, kr⟩ := rcheck_exact hT s hs (h ++ [.row 2 [encSig s]])
 rcases kr with ⟨rfl, hp⟩ | ⟨rfl, hp⟩
 · simp (disch := first | omega | decide | simp only [go_sem]) only [go_sem, cb hr, hT.prim, primOf, bne_self_eq_false]
   refine bifs (fun h1 => ⟨1, rfl, .inr (.inl ⟨rfl, hp, ?_⟩)⟩) fun h1 => bifs (fun h2 => ⟨1, rfl, .inr (.inl ⟨rfl, hp, ?_⟩)⟩) fun h2 => ⟨0, rfl, .inr (.inr ⟨rfl, hp, ?_⟩)⟩
   · simp [isSortB] at h1 ⊢; omega
   · simp [isSortB] at h2 ⊢; omega
   · simp [isSortB] at h1 h2 ⊢; omega
 · have b1 : ((40 : Int) != 0) = true := rfl
   simp (disch := first | omega | decide | simp only [go_sem]) only [go_sem, cb hr, hT.prim, primOf, b1]
   exact ⟨40, rfl, .inl ⟨rfl, hp⟩⟩
end Go.Proofs.Tryz
/- The specification's nth: the sizes of the arguments. -/
namespace Go.Proofs.Tryz
open Go Go.AE
variable {T : Tbl} (hT : Std T) {s : GSig}
@[go_sem] theorem oax_none {e : List PV} : oax e none = none := rfl
@[go_sem] theorem oax_some {e : List PV} {x : AX} : oax e (some x) = some (ax e x) := rfl
structure RTab (s : GSig) (M : Nat) (zs : List (List Int)) : Prop where
 len : zs.length = M + 1
 ok : ∀ z ∈ zs, okV z s.sorts.length
 ex : ∀ (k : Nat) (z : List Int), zs[k]? = some z → ∀ a, a < s.sorts.length → z.getD a 0 = cntOf s a k
def rowsV (zs : List (List Int)) : List PV := zs.map fun z => .slice 1 (z.map encI) .any
theorem RTab.row {M : Nat} {zs : List (List Int)} (R : RTab s M zs) {k : Nat} (hk : k ≤ M) : ∃ z : List Int, (rowsV zs)[k]? = some (.slice 1 (z.map encI) .any) ∧ ∀ a, a < s.sorts.length → (z.map encI)[a]? = some (.int .i64 (cntOf s a k)) := by
 have hl : k < zs.length := by rw [R.len]; omega
 have hz := List.getElem?_eq_getElem hl
 refine ⟨zs[k], by simp [rowsV, hz], fun a ha => ?_⟩
 rw [← R.ex k _ hz a ha]
 exact get_getD (by rw [(R.ok _ (List.getElem_mem hl)).len]; exact ha)
theorem sumS_shift {sv rv : Nat → Nat → Int} (i k q : Nat) : ∀ j, sumS (fun k => sv (i + k)) (fun k => rv (i + k)) k q j = sumS sv rv (i + k) q j
 | 0 => rfl
 | j + 1 => by simp only [sumS]; rw [sumS_shift i k q j]; rfl
theorem Sys.drop {sv rv : Nat → Nat → Int} {L : Nat} (S : Sys sv rv L) {i : Nat} (hi : i ≤ L) : Sys (fun k => sv (i + k)) (fun k => rv (i + k)) (L - i) :=
 ⟨fun k m => S.s0 _ m, fun k q => S.r0 _ q, fun k q => S.rc _ q, fun k q hk hq => by rw [sumS_shift]; exact S.eq _ q (by omega) hq, fun q => by
  have := S.last q
  rw [← this]
  congr 1
  omega⟩
include hT in
theorem rwaysF {M : Nat} {zs : List (List Int)} (R : RTab s M zs) (hM : M ≤ 60) (hops : okOps s.ops s.sorts.length) {j : Nat} {o : GOp} (ho : s.ops[j]? = some o) {i0 q : Nat} (hi : i0 ≤ o.args.length) (hq : q ≤ M) (h60 : q < 60) (h : List AE.Obj) :
 Ev T 166 [.slice 1 ((o.args.drop i0).map encI) .any, .int .i64 (q : Int), .slice 1 (rowsV zs) .any] h (.val (.int .i64 (rvOf s j i0 q)), ⟨h, [], []⟩) := by
 obtain ⟨a1, a2, a3⟩ := hops _ (List.mem_of_getElem? ho)
 have S := (sysOf hops ho).drop hi
 have hd : ∀ i, (o.args.drop i0).getD i 0 = o.args.getD (i0 + i) 0 := fun i => by simp [List.getD_eq_getElem?_getD, List.getElem?_drop]
 have rows : RowsX h (rowsV zs) s.sorts.length (o.args.drop i0) (fun k => svOf s o (i0 + k)) := fun k hk => by
  have hl : k < zs.length := by simpa [rowsV] using hk
  have hz := List.getElem?_eq_getElem hl
  refine ⟨zs[k], R.ok _ (List.getElem_mem hl), fun i hi2 => ?_, .inr (by simp [rowsV, hz])⟩
  rw [hd]
  rw [List.length_drop] at hi2
  exact R.ex k _ hz _ (a1.get (show i0 + i < o.args.length by omega)).2
 exact rways_ev hT (m := .any) (rv := fun k => rvOf s j (i0 + k)) (by rw [List.length_drop]; exact S) rows (by simp [rowsV, R.len]; omega) h60 (fun a ha => a1 a (List.mem_of_mem_drop ha)) (by rw [List.length_drop]; omega) (by omega) (by simp [rowsV, R.len]; omega)
theorem slice_suf {es : List PV} {l : Nat} (hl : l ≤ es.length) : sliceop 1 (.slice 1 es .any) (some (.int .i64 (l : Int))) none none = some (.slice 1 (es.drop l) .any) := by
 have h1 : sbound (some (.int .i64 (l : Int))) 0 es.length = some l := by simp [sbound]; omega
 simp only [sliceop, true_or, if_true]
 have h2 : sbound none es.length es.length = some es.length := rfl
 simp only [h2, h1, if_true]
 rw [List.take_of_length_le (by simp)]
theorem fe_i (n : Int) : fillE 1 (List.replicate 1 (PV.int .i64 0)) [(0, .int .i64 n)] = some [.int .i64 n] := rfl
def AppI (H : List AE.Obj) (v : PV) (xs : List Int) (lo : Nat) : Prop := (xs = [] ∧ v = .slice 0 [] .nil) ∨ ∃ k, v = .slice 1 (xs.map encI) (.tok k) ∧ H[k]? = some (.tok 1 xs.length) ∧ lo ≤ k
theorem AppI.slice {H : List AE.Obj} {v : PV} {xs : List Int} {lo : Nat} (A : AppI H v xs lo) : ∃ z m, v = .slice z (xs.map encI) m ∧ (xs = [] ∨ z = 1) := by
 rcases A with ⟨rfl, rfl⟩ | ⟨k, rfl, _⟩
 · exact ⟨0, .nil, rfl, .inl rfl⟩
 · exact ⟨1, _, rfl, .inr rfl⟩
theorem appI_one {H : List AE.Obj} {v : PV} {xs : List Int} {lo : Nat} (A : AppI H v xs lo) (hx : xs.length < 100000) (hlo : lo ≤ H.length) (ws : List Nat) (m : Int) :
 ∃ v' H1 ws1, (∀ ups, appendop 1 8 v (.slice 1 [.int .i64 m] .lit) ⟨H, ws, ups⟩ = some (v', ⟨H1, ws1, ups⟩)) ∧ AppI H1 v' (xs ++ [m]) lo ∧ Low lo H H1 ∧ lo ≤ H1.length ∧ ∀ x ∈ ws1, x ∈ ws ∨ lo ≤ x := by
 have hr : (xs.length + 1) * 8 ≤ room ∧ xs.length + 1 ≤ room := by
  have : 10000000 ≤ room := by decide
  constructor <;> omega
 have ci : ∀ n : Int, (PV.int .i64 n).cells.all PV.isCell = true := fun _ => rfl
 rcases A with ⟨rfl, rfl⟩ | ⟨k, rfl, h3, h5⟩
 · simp at hr
   refine ⟨.slice 1 [.int .i64 m] (.tok H.length), H ++ [.tok 1 1], ws, fun ups => ?_, .inr ⟨H.length, rfl, by simp, hlo⟩, (Low.refl _ _).push hlo, by simp; omega, fun x hx => .inl hx⟩
   simp [appendop, elems, ci, hr, alloc]
 · refine ⟨.slice 1 ((xs ++ [m]).map encI) (.tok k), H.set k (.tok 1 (xs.length + 1)), wadd k ws, fun ups => ?_, .inr ⟨k, rfl, by rw [get_set h3]; simp, h5⟩, .set h5, by simpa using hlo, fun x hx => ?_⟩
   · simp [appendop, elems, ci, hr, h3, wrote_none, encI]
   · rcases mem_wadd hx with h | h
     · rw [h]; exact .inr h5
     · exact .inl h
include hT in
theorem split_b0 {M : Nat} {zs : List (List Int)} (R : RTab s M zs) (hM : M ≤ 60) (hops : okOps s.ops s.sorts.length) {j : Nat} {o : GOp} (ho : s.ops[j]? = some o) {k left lo : Nat} {ahead n0 : Int} {xs : List Int} {v : PV} {h0 H : List AE.Obj} {ws : List Nat} {e0 : List PV} {Q : AExit → List PV → St → Prop}
 (hk : k < o.args.length) (hleft : left ≤ M) (hl60 : left < 60) (hah : 0 ≤ ahead ∧ ahead ≤ 1099511627776) (hn : 0 ≤ n0 ∧ n0 ≤ 1099511627776) (hsum : n0 < preP (svOf s o) (rvOf s j) ahead k left left) (A : AppI H v xs lo) (hxl : xs.length < 1000) (low : Low lo h0 H) (hlo : lo ≤ H.length) (hw : ∀ x ∈ ws, lo ≤ x)
 (e0' : eget e0 0 = .slice 1 (rowsV zs) .any) (e1 : eget e0 1 = .slice 1 (o.args.map encI) .any) (e2 : eget e0 2 = .int .i64 (left : Int)) (e3 : eget e0 3 = .int .i64 n0) (e10 : eget e0 10 = v) (e11 : eget e0 11 = .int .i64 ahead) (e12 : eget e0 12 = .int .i64 (k : Int)) (e13 : eget e0 13 = .int .i64 1)
 (hQ : ∀ e' (m : Nat) (n' : Int) v' H' ws', eget e' 0 = .slice 1 (rowsV zs) .any → eget e' 1 = .slice 1 (o.args.map encI) .any → eget e' 2 = .int .i64 ((left - m : Nat) : Int) → eget e' 3 = .int .i64 n' → eget e' 10 = v' → eget e' 11 = .int .i64 (cap (ahead * svOf s o k m)) → eget e' 12 = .int .i64 (k : Int) → AppI H' v' (xs ++ [(m : Int)]) lo → Low lo h0 H' → lo ≤ H'.length → (∀ x ∈ ws', lo ≤ x) →
  1 ≤ m → m ≤ left → 0 ≤ n' → n' ≤ 1099511627776 → n' < wayW (svOf s o) (rvOf s j) ahead k left m → n' = n0 - preP (svOf s o) (rvOf s j) ahead k left (m - 1) → Q (.exit 2) e' ⟨H', ws', []⟩) :
 wpC T (.loop a209b0) e0 ⟨H, ws, []⟩ Q := by
 obtain ⟨a1, a2, a3⟩ := hops _ (List.mem_of_getElem? ho)
 have S := sysOf hops ho
 obtain ⟨ga, gl⟩ := a1.get hk
 have gaE : (o.args.map encI)[k]? = some (.int .i64 (((o.args.getD k 0).toNat : Nat) : Int)) := by rw [List.getElem?_map, ga]; rfl
 obtain ⟨z, m10, rfl, _⟩ := A.slice
 refine wpC.loopM (fun d e st => ∃ (m : Nat) (n : Int), m + d = left + 1 ∧ 1 ≤ m ∧ (0 ≤ n ∧ n ≤ 1099511627776) ∧ n = n0 - preP (svOf s o) (rvOf s j) ahead k left (m - 1) ∧ eget e 0 = .slice 1 (rowsV zs) .any ∧ eget e 1 = .slice 1 (o.args.map encI) .any ∧ eget e 2 = .int .i64 (left : Int) ∧ eget e 3 = .int .i64 n ∧ eget e 10 = .slice z (xs.map encI) m10 ∧ eget e 11 = .int .i64 ahead ∧ eget e 12 = .int .i64 (k : Int) ∧ eget e 13 = .int .i64 (m : Int) ∧ st = ⟨H, ws, []⟩) ?_ left _ _
  ⟨1, n0, by omega, by omega, hn, by simp [preP], e0', e1, e2, e3, e10, e11, e12, e13, rfl⟩
 rintro d e st ⟨m, n, hd, hm1, hn, hpre, e0', e1, e2, e3, e10, e11, e12, e13, rfl⟩
 by_cases hml : m ≤ left
 · obtain ⟨zr, gz, gc⟩ := R.row (show m ≤ M by omega)
   have gc := gc _ gl
   have hcn : cntOf s (o.args.getD k 0).toNat m = svOf s o k m := rfl
   rw [hcn] at gc
   have s0 := S.s0 k m
   have sc : svOf s o k m ≤ 1099511627776 := by
    obtain ⟨_, K⟩ := tabOf_sem hops
    exact ((K.so.get (show (o.args.getD k 0).toNat < (tabOf s).1.length by rw [K.sl]; exact gl)).2.get (show m < 61 by omega)).2.2
   have r0 := S.r0 (k + 1) (left - m)
   have rc := S.rc (k + 1) (left - m)
   have hp1 := Int.mul_nonneg hah.1 s0
   have c1 := fun h => rproduct_ev hT ⟨hah.1, hah.2⟩ ⟨s0, sc⟩ h
   have c2 := fun h => rwaysF hT R hM hops ho (i0 := k + 1) (q := left - m) (by omega) (by omega) (by omega) h
   have c3 := fun h => rproduct_ev hT (okN_cap hp1) ⟨r0, rc⟩ h
   have hway : wayW (svOf s o) (rvOf s j) ahead k left m = cap (cap (ahead * svOf s o k m) * rvOf s j (k + 1) (left - m)) := rfl
   rw [← hway] at c3
   have hw0 : 0 ≤ wayW (svOf s o) (rvOf s j) ahead k left m := wayW_nn S hah.1 k left m
   have hw1 : wayW (svOf s o) (rvOf s j) ahead k left m ≤ 1099511627776 := cap_le_top _
   have hstep : preP (svOf s o) (rvOf s j) ahead k left m = preP (svOf s o) (rvOf s j) ahead k left (m - 1) + wayW (svOf s o) (rvOf s j) ahead k left m := by
    obtain ⟨i, rfl⟩ : ∃ i, m = i + 1 := ⟨m - 1, by omega⟩
    rfl
   have hrl : (rowsV zs).length = M + 1 := by simp [rowsV, R.len]
   have hmM : m < M + 1 := by omega
   have sl := slice_suf (es := o.args.map encI) (l := k + 1) (by simp; omega)
   rw [← List.map_drop] at sl
   generalize hwy : wayW (svOf s o) (rvOf s j) ahead k left m = ways at *
   by_cases hlt : n < ways
   · obtain ⟨v', H1, ws1, ap, A', lowA, hloA, hwA⟩ := appI_one A (by omega) hlo ws (m : Int)
     simp (disch := first | omega | decide | simp only [go_sem]) only [go_sem, a209b0, e0', e1, e2, e3, e10, e11, e12, e13, hml, hrl, hmM, gaE, gz, gc, cb (c1 _), cb (c2 _), cb (c3 _), hT.prim, primOf, cast_sub hml, sl, hlt, fe_i, ap]
     exact hQ _ m n v' H1 _ (by simp (disch := first | omega | decide | simp only [go_sem]) only [go_sem, e0']) (by simp (disch := first | omega | decide | simp only [go_sem]) only [go_sem, e1]) (by simp (disch := first | omega | decide | simp only [go_sem]) only [go_sem]) (by simp (disch := first | omega | decide | simp only [go_sem]) only [go_sem, e3]) (by simp (disch := first | omega | decide | simp only [go_sem]) only [go_sem]) (by simp (disch := first | omega | decide | simp only [go_sem]) only [go_sem]) (by simp (disch := first | omega | decide | simp only [go_sem]) only [go_sem, e12]) A' (low.trans lowA) hloA (fun x hx => by
      rcases hwA x hx with h | h
      · exact hw x h
      · exact h) hm1 hml hn.1 hn.2 (by rw [hwy]; exact hlt) hpre
   · simp (disch := first | omega | decide | simp only [go_sem]) only [go_sem, a209b0, e0', e1, e2, e3, e10, e11, e12, e13, hml, hrl, hmM, gaE, gz, gc, cb (c1 _), cb (c2 _), cb (c3 _), hT.prim, primOf, cast_sub hml, sl, hlt]
     exact ⟨d - 1, by omega, m + 1, n - ways, by omega, by omega, by omega, by rw [Nat.add_sub_cancel, hstep]; omega, rfl, rfl, trivial⟩
 · exfalso
   have : m - 1 = left := by omega
   rw [this] at hpre
   omega
end Go.Proofs.Tryz
/- The specification's nth: the sizes of all arguments. -/
namespace Go.Proofs.Tryz
open Go Go.AE
variable {T : Tbl} (hT : Std T) {s : GSig}
structure SplitR (s : GSig) (o : GOp) (j N : Nat) (n0 n' : Int) (xs : List Int) : Prop where
 len : xs.length = o.args.length
 fit : Fit (svOf s o) o.args.length N (szF xs)
 nat : ∀ k, k < o.args.length → xs.getD k 0 = (szF xs k : Int)
 num : n' = n0 - bsF (svOf s o) (rvOf s j) (szF xs) N o.args.length
 lt : n' < ahF (svOf s o) (szF xs) o.args.length
 nn : 0 ≤ n'
theorem szF_app {xs : List Int} {m : Int} {j : Nat} (h : j < xs.length) : szF (xs ++ [m]) j = szF xs j := by
 simp [szF, List.getD_eq_getElem?_getD, List.getElem?_append_left h]
theorem getD_app {xs : List Int} {m : Int} {j : Nat} (h : j < xs.length) : (xs ++ [m]).getD j 0 = xs.getD j 0 := by
 simp [List.getD_eq_getElem?_getD, List.getElem?_append_left h]
theorem getD_last {xs : List Int} {m : Int} : (xs ++ [m]).getD xs.length 0 = m := by
 simp [List.getD_eq_getElem?_getD]
include hT in
theorem split_ev {M : Nat} {zs : List (List Int)} (R : RTab s M zs) (hM : M ≤ 60) (hops : okOps s.ops s.sorts.length) {j : Nat} {o : GOp} (ho : s.ops[j]? = some o) {N : Nat} {n0 : Int} (hN : N ≤ M) (hN60 : N < 60) (hn0 : 0 ≤ n0) (hlt0 : n0 < rvOf s j 0 N) (h : List AE.Obj) :
 ∃ x : Nat × List Int × Int, Ev T 209 [.slice 1 (rowsV zs) .any, .slice 1 (o.args.map encI) .any, .int .i64 (N : Int), .int .i64 n0] h (.val (.tuple [.slice x.1 (x.2.1.map encI) .any, .int .i64 x.2.2]), ⟨h, [], []⟩) ∧ (x.2.1 = [] ∨ x.1 = 1) ∧ SplitR s o j N n0 x.2.2 x.2.1 := by
 refine Ev.walkP (r := fun (x : Nat × List Int × Int) => (.val (.tuple [.slice x.1 (x.2.1.map encI) .any, .int .i64 x.2.2]), ⟨h, [], []⟩)) (hT.sp _ (by decide)) ((hT.fn _).trans fn209) (hT.mode _) rfl ?_
 obtain ⟨a1, a2, a3⟩ := hops _ (List.mem_of_getElem? ho)
 have S := sysOf hops ho
 have hrc := S.rc 0 N
 simp (disch := first | omega | decide | simp only [go_sem]) only [go_sem]
 refine wpC.loopM (fun d e st => ∃ (k left : Nat) (n ahead : Int) (xs : List Int) (v : PV) (H : List AE.Obj) (ws : List Nat), k + d = o.args.length ∧ xs.length = k ∧ left ≤ N ∧ (0 ≤ n ∧ n ≤ 1099511627776) ∧ (1 ≤ ahead ∧ ahead ≤ 1099511627776) ∧ n < cap (ahead * rvOf s j k left) ∧ left = lfF (szF xs) N k ∧ ahead = ahF (svOf s o) (szF xs) k ∧ n = n0 - bsF (svOf s o) (rvOf s j) (szF xs) N k ∧ (∀ i, i < k → xs.getD i 0 = (szF xs i : Int) ∧ 1 ≤ szF xs i ∧ szF xs i ≤ lfF (szF xs) N i ∧ 1 ≤ svOf s o i (szF xs i)) ∧
  AppI H v xs h.length ∧ Low h.length h H ∧ h.length ≤ H.length ∧ (∀ x ∈ ws, h.length ≤ x) ∧ eget e 0 = .slice 1 (rowsV zs) .any ∧ eget e 1 = .slice 1 (o.args.map encI) .any ∧ eget e 2 = .int .i64 (left : Int) ∧ eget e 3 = .int .i64 n ∧ eget e 10 = v ∧ eget e 11 = .int .i64 ahead ∧ eget e 12 = .int .i64 (k : Int) ∧ st = ⟨H, ws, []⟩) ?_ o.args.length _ _
  ⟨0, N, n0, 1, [], _, h, [], by omega, rfl, Nat.le_refl _, ⟨hn0, by omega⟩, by omega, by rw [Int.one_mul]; unfold cap; omega, rfl, rfl, by simp [bsF], fun i hi => by omega, .inl ⟨rfl, rfl⟩, Low.refl _ _, Nat.le_refl _, by simp, by simp (disch := first | omega | decide | simp only [go_sem]) only [go_sem], by simp (disch := first | omega | decide | simp only [go_sem]) only [go_sem], by simp (disch := first | omega | decide | simp only [go_sem]) only [go_sem], by simp (disch := first | omega | decide | simp only [go_sem]) only [go_sem], by simp (disch := first | omega | decide | simp only [go_sem]) only [go_sem], by simp (disch := first | omega | decide | simp only [go_sem]) only [go_sem], by simp (disch := first | omega | decide | simp only [go_sem]) only [go_sem]; rfl, rfl⟩
 rintro d e st ⟨k, left, n, ahead, xs, v, H, ws, hd, hxl, hleft, hn, hah, hlt, hl1, ha1, hn1, hok, A, low, hlo, hw, e0, e1, e2, e3, e10, e11, e12, rfl⟩
 by_cases hk : k < o.args.length
 · have hall := preP_all S (show 0 ≤ ahead by omega) hk (show left < 60 by omega)
   have hsum : n < preP (svOf s o) (rvOf s j) ahead k left left := by
    rw [← hall] at hlt
    have := cap_le (preP (svOf s o) (rvOf s j) ahead k left left)
    omega
   simp (disch := first | omega | decide | simp only [go_sem]) only [go_sem, a209b1, e0, e1, e2, e3, e10, e11, e12, hk]
   refine split_b0 hT R hM hops ho (k := k) (left := left) (lo := h.length) (ahead := ahead) (n0 := n) (xs := xs) (v := v) (h0 := h) hk (by omega) (by omega) (by omega) hn hsum A (by omega) low hlo hw (by simp (disch := first | omega | decide | simp only [go_sem]) only [go_sem, e0]) (by simp (disch := first | omega | decide | simp only [go_sem]) only [go_sem, e1]) (by simp (disch := first | omega | decide | simp only [go_sem]) only [go_sem, e2]) (by simp (disch := first | omega | decide | simp only [go_sem]) only [go_sem, e3]) (by simp (disch := first | omega | decide | simp only [go_sem]) only [go_sem, e10]) (by simp (disch := first | omega | decide | simp only [go_sem]) only [go_sem, e11]) (by simp (disch := first | omega | decide | simp only [go_sem]) only [go_sem, e12]) (by simp (disch := first | omega | decide | simp only [go_sem]) only [go_sem]) fun e' m n' v' H' ws' f0 f1 f2 f3 f10 f11 f12 A' low' hlo' hw' hm1 hml hq1 hq2 hlt' hpre => ?_
   obtain ⟨z', m', rfl, hz'⟩ := A'.slice
   have hxl' : (xs ++ [(m : Int)]).length = k + 1 := by simp [hxl]
   have zk : szF (xs ++ [(m : Int)]) k = m := by
    unfold szF
    rw [← hxl, getD_last]; rfl
   have zc : ∀ i, i < k → szF (xs ++ [(m : Int)]) i = szF xs i := fun i hi => szF_app (by omega)
   have g1 : lfF (szF (xs ++ [(m : Int)])) N k = left := by rw [lf_congr k zc, hl1]
   have g2 : ahF (svOf s o) (szF (xs ++ [(m : Int)])) k = ahead := by rw [ah_congr k zc, ha1]
   have g3 : bsF (svOf s o) (rvOf s j) (szF (xs ++ [(m : Int)])) N k = bsF (svOf s o) (rvOf s j) (szF xs) N k := bs_congr k zc
   have s0 := S.s0 k m
   have r0 := S.r0 (k + 1) (left - m)
   have hp1 := Int.mul_nonneg (show 0 ≤ ahead by omega) s0
   have hw3 : wayW (svOf s o) (rvOf s j) ahead k left m = cap (cap (ahead * svOf s o k m) * rvOf s j (k + 1) (left - m)) := rfl
   have hah' : 1 ≤ cap (ahead * svOf s o k m) := by
    have := cap_nn' hp1
    by_cases hz : cap (ahead * svOf s o k m) = 0
    · rw [hw3, hz, Int.zero_mul] at hlt'
      have h00 : cap 0 = 0 := rfl
      omega
    · omega
   have hxs : 1 ≤ svOf s o k m := by
    by_cases hz : svOf s o k m = 0
    · rw [hz, Int.mul_zero] at hah'
      have h00 : cap 0 = 0 := rfl
      omega
    · omega
   generalize hX : xs ++ [(m : Int)] = xs' at *
   have hbn : ((((k + 1 : Nat) : Int)) != ((k + 1 : Nat) : Int)) = false := by simp
   simp (disch := first | omega | decide | simp only [go_sem]) only [go_sem, f0, f1, f2, f3, f10, f11, f12, List.length_map, hxl', hbn]
   exact ⟨d - 1, by omega, k + 1, left - m, n', cap (ahead * svOf s o k m), xs', _, H', _, by omega, hxl', by omega, ⟨hq1, hq2⟩, ⟨hah', cap_le_top _⟩, hlt', by simp only [lfF, g1, zk], by simp only [ahF, g2, zk], by simp only [bsF, g1, g2, g3, zk]; omega, fun i hi => by
    by_cases hik : i = k
    · subst hik
      exact ⟨by rw [zk, ← hX, ← hxl, getD_last], by rw [zk]; exact hm1, by rw [zk, g1]; exact hml, by rw [zk]; exact hxs⟩
    · have hi' : i < k := by omega
      obtain ⟨p1, p2, p3, p4⟩ := hok i hi'
      exact ⟨by rw [zc i hi', ← hX, getD_app (by omega)]; exact p1, by rw [zc i hi']; exact p2, by rw [zc i hi', lf_congr i fun i' hi2 => zc i' (by omega)]; exact p3, by rw [zc i hi']; exact p4⟩, A', low', hlo', hw', rfl, rfl, rfl, rfl, rfl, rfl⟩
 · have hkl : k = o.args.length := by omega
   subst hkl
   obtain ⟨z', m', rfl, hz'⟩ := A.slice
   have hlast := S.last left
   rw [hlast] at hlt
   have hl0 : left = 0 := by
    by_cases h : left = 0
    · exact h
    · rw [if_neg h, Int.mul_zero] at hlt
      have h00 : cap 0 = 0 := rfl
      omega
   rw [if_pos hl0, Int.mul_one, cap_self hah.2] at hlt
   have td : tidy 0 h.length (.val (.tuple [.slice z' (xs.map encI) m', .int .i64 n])) ⟨H, ws, []⟩ = (.val (.tuple [.slice z' (xs.map encI) .any, .int .i64 n]), ⟨h, [], []⟩) := by
    obtain ⟨p1, p2⟩ := ints_pure xs
    have := tidy_ups (v := .tuple [.slice z' (xs.map encI) m', .int .i64 n]) (ws := ws) (ups := []) (by simp [PV.pure, pures, p1]) low hw (by simp)
    rw [this]
    simp [PV.weak, weaks, p2]
   simp (disch := first | omega | decide | simp only [go_sem]) only [go_sem, a209b1, e0, e1, e2, e3, e10, e11, e12, hk, td]
   exact ⟨(z', xs, n), rfl, hz', hxl, ⟨fun i hi => (hok i hi).2.1, fun i hi => (hok i hi).2.2.1, by rw [← hl1, hl0], fun i hi => (hok i hi).2.2.2⟩, fun i hi => (hok i hi).1, hn1, by rw [← ha1]; exact hlt, hn.1⟩
end Go.Proofs.Tryz
/- The specification's nth: the lists of arguments. -/
namespace Go.Proofs.Tryz
open Go Go.AE
variable {T : Tbl} (hT : Std T) {s : GSig}
theorem lf_shift {sz : Nat → Nat} {N : Nat} (i : Nat) : ∀ k, lfF (fun k => sz (i + k)) (lfF sz N i) k = lfF sz N (i + k)
 | 0 => rfl
 | k + 1 => by simp only [lfF]; rw [lf_shift i k]; rfl
theorem Fit.drop {sv : Nat → Nat → Int} {L N : Nat} {sz : Nat → Nat} (F : Fit sv L N sz) {i : Nat} (hi : i ≤ L) : Fit (fun k => sv (i + k)) (L - i) (lfF sz N i) (fun k => sz (i + k)) :=
 ⟨fun k hk => F.lo _ (by omega), fun k hk => by rw [lf_shift]; exact F.le _ (by omega), by rw [lf_shift, show i + (L - i) = L by omega]; exact F.all, fun k hk => F.pos _ (by omega)⟩
theorem be_shift {sv : Nat → Nat → Int} {L : Nat} {sz : Nat → Nat} {i : Nat} : ∀ j, j ≤ L - i → beF (fun k => sv (i + k)) (fun k => sz (i + k)) (L - i) j = beF sv sz L j
 | 0, _ => rfl
 | j + 1, hj => by
   simp only [beF]
   rw [be_shift j (by omega), show i + (L - i - 1 - j) = L - 1 - j by omega]
include hT in
theorem list_b0 {M : Nat} {zs : List (List Int)} (R : RTab s M zs) (hM : M ≤ 60) (hops : okOps s.ops s.sorts.length) {j : Nat} {o : GOp} (ho : s.ops[j]? = some o) {N : Nat} {n0 n' : Int} {xs : List Int} (X : SplitR s o j N n0 n' xs) (hN : N ≤ M) {i : Nat} (hi : i < o.args.length) {m : SM} {st : St} {e0 : List PV} {Q : AExit → List PV → St → Prop} (hst : st.ups = [])
 (e1 : eget e0 1 = .slice 1 (rowsV zs) .any) (e2 : eget e0 2 = .slice 1 (o.args.map encI) .any) (e11 : eget e0 11 = .slice 1 (xs.map encI) m) (e15 : eget e0 15 = .int .i64 1) (e16 : eget e0 16 = .int .i64 ((i + 1 : Nat) : Int))
 (hQ : ∀ e', Same (fun j => j = 15 ∨ j = 16 ∨ 34 ≤ j) e0 e' → eget e' 15 = .int .i64 (beF (svOf s o) (szF xs) o.args.length (o.args.length - (i + 1))) → Q (.exit 2) e' st) :
 wpC T (.loop a167b0) e0 st Q := by
 obtain ⟨a1, a2, a3⟩ := hops _ (List.mem_of_getElem? ho)
 have F' := X.fit.drop (i := i + 1) (by omega)
 have hla := ah_last F'
 rw [be_shift _ (Nat.le_refl _)] at hla
 obtain ⟨H, ws, ups⟩ := st
 dsimp only at hst
 subst hst
 refine wpC.loopM (fun d e st => ∃ t : Nat, i + 1 + t + d = o.args.length ∧ Same (fun j => j = 15 ∨ j = 16 ∨ 34 ≤ j) e0 e ∧ eget e 15 = .int .i64 (ahF (fun k => svOf s o (i + 1 + k)) (fun k => szF xs (i + 1 + k)) t) ∧ eget e 16 = .int .i64 ((i + 1 + t : Nat) : Int) ∧ st = ⟨H, ws, []⟩) ?_ (o.args.length - (i + 1)) _ _
  ⟨0, by omega, Same.refl _, e15, e16, rfl⟩
 rintro d e st ⟨t, hd, hs, e15, e16, rfl⟩
 have f1 := (hs 1 (by omega)).trans e1
 have f2 := (hs 2 (by omega)).trans e2
 have f11 := (hs 11 (by omega)).trans e11
 have hxl := X.len
 by_cases hk : i + 1 + t < xs.length
 · obtain ⟨ga, gl⟩ := a1.get (show i + 1 + t < o.args.length by omega)
   have gaE : (o.args.map encI)[i + 1 + t]? = some (.int .i64 (((o.args.getD (i + 1 + t) 0).toNat : Nat) : Int)) := by rw [List.getElem?_map, ga]; rfl
   have gx := get_getD hk
   rw [X.nat _ (by omega)] at gx
   have hm : szF xs (i + 1 + t) ≤ M := by
    have h1 := X.fit.le (i + 1 + t) (by omega)
    have h2 := lf_le (szF xs) N (i + 1 + t)
    omega
   obtain ⟨zr, gz, gc⟩ := R.row hm
   have gc := gc _ gl
   have hcn : cntOf s (o.args.getD (i + 1 + t) 0).toNat (szF xs (i + 1 + t)) = svOf s o (i + 1 + t) (szF xs (i + 1 + t)) := rfl
   rw [hcn] at gc
   have s0 := X.fit.pos (i + 1 + t) (by omega)
   have sc : svOf s o (i + 1 + t) (szF xs (i + 1 + t)) ≤ 1099511627776 := by
    obtain ⟨_, K⟩ := tabOf_sem hops
    exact ((K.so.get (show (o.args.getD (i + 1 + t) 0).toNat < (tabOf s).1.length by rw [K.sl]; exact gl)).2.get (show szF xs (i + 1 + t) < 61 by omega)).2.2
   obtain ⟨ap1, ap2⟩ := ah_pos F' t (by omega)
   have c1 := fun h => rproduct_ev hT ⟨show 0 ≤ ahF (fun k => svOf s o (i + 1 + k)) (fun k => szF xs (i + 1 + k)) t by omega, ap2⟩ ⟨show 0 ≤ svOf s o (i + 1 + t) (szF xs (i + 1 + t)) by omega, sc⟩ h
   simp (disch := first | omega | decide | simp only [go_sem]) only [go_sem, a167b0, f1, f2, f11, e15, e16, List.length_map, hk, gaE, gx, gz, gc, cb (c1 _), hT.prim, primOf]
   refine ⟨d - 1, by omega, t + 1, by omega, fun j hj => ?_, rfl, rfl, trivial⟩
   have h1 := hs j hj
   simp only [not_or, Nat.not_le] at hj
   simp (disch := omega) only [eget_eput_ne]
   exact h1
 · simp (disch := first | omega | decide | simp only [go_sem]) only [go_sem, a167b0, f1, f2, f11, e15, e16, List.length_map, hk]
   have ht : t = o.args.length - (i + 1) := by omega
   refine hQ _ (fun j hj => ?_) (by simp (disch := first | omega | decide | simp only [go_sem]) only [go_sem, e15]; rw [ht, hla])
   have h1 := hs j hj
   simp only [not_or, Nat.not_le] at hj
   simp (disch := omega) only [eget_eput_ne]
   exact h1
end Go.Proofs.Tryz
/- The specification's nth: the arguments. -/
namespace Go.Proofs.Tryz
open Go Go.AE
variable {T : Tbl} (hT : Std T) {s : GSig}
def RNthIH (T : Tbl) (s : GSig) (zs : List (List Int)) (N : Nat) : Prop := ∀ (a m : Nat) (n : Int) (h : List AE.Obj), a < s.sorts.length → 1 ≤ m → m ≤ N → 0 ≤ n → n < cntOf s a m → ∃ p, Ev T 94 [encSig s, .slice 1 (rowsV zs) .any, .int .i64 (a : Int), .int .i64 (m : Int), .int .i64 n] h (.val p, ⟨h, [], []⟩) ∧ Nth91 s a m n p
include hT in
theorem list_ev {M : Nat} {zs : List (List Int)} (R : RTab s M zs) (hM : M ≤ 60) (hops : okOps s.ops s.sorts.length) {j : Nat} {o : GOp} (ho : s.ops[j]? = some o) {N : Nat} {n0 : Int} (hN : N ≤ M) (hN60 : N < 60) (IH : RNthIH T s zs N) (hn0 : 0 ≤ n0) (hlt0 : n0 < rvOf s j 0 N) (h : List AE.Obj) :
 ∃ x : Nat × List PV, Ev T 167 [encSig s, .slice 1 (rowsV zs) .any, .slice 1 (o.args.map encI) .any, .int .i64 (N : Int), .int .i64 n0] h (.val (.slice x.1 x.2 .any), ⟨h, [], []⟩) ∧ (x.2 = [] ∨ x.1 = 3) ∧ ∃ (szs : List Int) (n' : Int) (xs : List Tm), SplitR s o j N n0 n' szs ∧ NthX s o (tabOf s).1 szs n' 0 x.2 xs ∧ xs.length = o.args.length := by
 refine Ev.walkP (r := fun (x : Nat × List PV) => (.val (.slice x.1 x.2 .any), ⟨h, [], []⟩)) (hT.sp _ (by decide)) ((hT.fn _).trans fn167) (hT.mode _) rfl ?_
 obtain ⟨a1, a2, a3⟩ := hops _ (List.mem_of_getElem? ho)
 have S := sysOf hops ho
 obtain ⟨⟨z, szs, n'⟩, evS, hz, X⟩ := split_ev hT R hM hops ho hN hN60 hn0 hlt0 (h ++ [AE.Obj.row 2 [encSig s]])
 dsimp only at evS hz X
 have F := X.fit
 have hbe0 : n' < beF (svOf s o) (szF szs) o.args.length o.args.length := by rw [← ah_last F]; exact X.lt
 have kb : (h ++ [AE.Obj.row 2 [encSig s]])[h.length]? = some (.row 2 [encSig s]) := by simp
 have low0 : Low h.length h (h ++ [AE.Obj.row 2 [encSig s]]) := (Low.refl _ _).push (Nat.le_refl _)
 have hlo0 : h.length ≤ (h ++ [AE.Obj.row 2 [encSig s]]).length := by simp
 generalize hH0 : h ++ [AE.Obj.row 2 [encSig s]] = H0 at *
 simp (disch := first | omega | decide | simp only [go_sem]) only [go_sem, hH0, cb evS, hT.prim, primOf, List.length_cons, List.length_nil]
 refine wpC.loopM (fun d e st => ∃ (k : Nat) (n : Int) (v : PV) (es : List PV) (xs : List Tm) (H : List AE.Obj) (ws : List Nat), k + d = o.args.length ∧ es.length = k ∧ (0 ≤ n ∧ n < beF (svOf s o) (szF szs) o.args.length (o.args.length - k)) ∧ (∀ x, x ∈ es → IsT x) ∧ NthX s o (tabOf s).1 szs n' n es xs ∧ AppL H v es h.length ∧ Low h.length h H ∧ h.length ≤ H.length ∧ H[h.length]? = some (.row 2 [encSig s]) ∧ (∀ x ∈ ws, h.length ≤ x) ∧ eget e 1 = .slice 1 (rowsV zs) .any ∧ eget e 2 = .slice 1 (o.args.map encI) .any ∧ eget e 5 = .ptr h.length 0 0 1 ∧ eget e 11 = .slice z (szs.map encI) .any ∧ eget e 12 = .int .i64 n ∧ eget e 13 = v ∧ eget e 14 = .int .i64 (k : Int) ∧ st = ⟨H, ws, []⟩) ?_ o.args.length _ _
  ⟨0, n', _, [], [], H0, _, by omega, rfl, ⟨X.nn, hbe0⟩, by simp, ⟨rfl, by simp, by simp, by simp [upF]⟩, .inl ⟨rfl, rfl⟩, low0, hlo0, kb, by simp, by simp (disch := first | omega | decide | simp only [go_sem]) only [go_sem], by simp (disch := first | omega | decide | simp only [go_sem]) only [go_sem], by simp (disch := first | omega | decide | simp only [go_sem]) only [go_sem], by simp (disch := first | omega | decide | simp only [go_sem]) only [go_sem], by simp (disch := first | omega | decide | simp only [go_sem]) only [go_sem], by simp (disch := first | omega | decide | simp only [go_sem]) only [go_sem], by simp (disch := first | omega | decide | simp only [go_sem]) only [go_sem]; rfl, rfl⟩
 rintro d e st ⟨k, n, v, es, xs, H, ws, hd, hel, hn, hes, NX, A, low, hlo, kb, hw, e1, e2, e5, e11, e12, e13, e14, rfl⟩
 by_cases hk : k < szs.length
 · have hk' : k < o.args.length := by rw [← X.len]; exact hk
   have hz1 : z = 1 := by
    rcases hz with rfl | h
    · simp at hk
    · exact h
   subst hz1
   obtain ⟨ga, gl⟩ := a1.get hk'
   have gaE : (o.args.map encI)[k]? = some (.int .i64 (((o.args.getD k 0).toNat : Nat) : Int)) := by rw [List.getElem?_map, ga]; rfl
   have gx := get_getD hk
   rw [X.nat _ hk'] at gx
   have hm1 := F.lo k hk'
   have hmN : szF szs k ≤ N := by
    have h1 := F.le k hk'
    have h2 := lf_le (szF szs) N k
    omega
   simp (disch := first | omega | decide | simp only [go_sem]) only [go_sem, a167b1, e1, e2, e5, e11, e12, e13, e14, List.length_map, hk]
   refine list_b0 hT R hM hops ho X hN (i := k) (m := .any) hk' rfl (by simp (disch := first | omega | decide | simp only [go_sem]) only [go_sem, e1]) (by simp (disch := first | omega | decide | simp only [go_sem]) only [go_sem, e2]) (by simp (disch := first | omega | decide | simp only [go_sem]) only [go_sem, e11]) (by simp (disch := first | omega | decide | simp only [go_sem]) only [go_sem]) (by simp (disch := first | omega | decide | simp only [go_sem]) only [go_sem]) fun e' hs f15 => ?_
   have f1 : eget e' 1 = .slice 1 (rowsV zs) .any := (hs 1 (by omega)).trans (by simp (disch := first | omega | decide | simp only [go_sem]) only [go_sem, e1])
   have f2 : eget e' 2 = .slice 1 (o.args.map encI) .any := (hs 2 (by omega)).trans (by simp (disch := first | omega | decide | simp only [go_sem]) only [go_sem, e2])
   have f5 : eget e' 5 = .ptr h.length 0 0 1 := (hs 5 (by omega)).trans (by simp (disch := first | omega | decide | simp only [go_sem]) only [go_sem, e5])
   have f11 : eget e' 11 = .slice 1 (szs.map encI) .any := (hs 11 (by omega)).trans (by simp (disch := first | omega | decide | simp only [go_sem]) only [go_sem, e11])
   have f12 : eget e' 12 = .int .i64 n := (hs 12 (by omega)).trans (by simp (disch := first | omega | decide | simp only [go_sem]) only [go_sem, e12])
   have f13 : eget e' 13 = v := (hs 13 (by omega)).trans (by simp (disch := first | omega | decide | simp only [go_sem]) only [go_sem, e13])
   have f14 : eget e' 14 = .int .i64 (k : Int) := (hs 14 (by omega)).trans (by simp (disch := first | omega | decide | simp only [go_sem]) only [go_sem, e14])
   obtain ⟨bp1, bp2⟩ := be_pos F (o.args.length - (k + 1)) (by omega)
   have hnb := hn.2
   rw [show o.args.length - k = (o.args.length - (k + 1)) + 1 by omega] at hnb
   simp only [beF] at hnb
   rw [show o.args.length - 1 - (o.args.length - (k + 1)) = k by omega] at hnb
   have hnT : n ≤ 1099511627776 := by have := cap_le_top (beF (svOf s o) (szF szs) o.args.length (o.args.length - (k + 1)) * svOf s o k (szF szs k)); omega
   generalize hbv : beF (svOf s o) (szF szs) o.args.length (o.args.length - (k + 1)) = bv at *
   have hq : n.tdiv bv = n / bv := Int.tdiv_eq_ediv_of_nonneg hn.1
   have hq0 : 0 ≤ n.tdiv bv := by rw [hq]; exact Int.ediv_nonneg hn.1 (by omega)
   have hq1 : n.tdiv bv ≤ n := by rw [hq]; exact Int.ediv_le_self _ hn.1
   have hmd := Int.emod_add_mul_ediv n bv
   have hr0 := Int.emod_nonneg n (show bv ≠ 0 by omega)
   have hrl := Int.emod_lt_of_pos n (show 0 < bv by omega)
   have hrest : n - n.tdiv bv * bv = n % bv := by rw [hq, Int.mul_comm]; omega
   have hprod0 : 0 ≤ n.tdiv bv * bv := Int.mul_nonneg hq0 (by omega)
   have hb0 : ¬ bv = 0 := by omega
   have hql : n.tdiv bv < cntOf s (o.args.getD k 0).toNat (szF szs k) := by
    rw [hq]
    refine Int.ediv_lt_of_lt_mul (by omega) ?_
    have h1 := cap_le (bv * svOf s o k (szF szs k))
    have h2 : n < bv * svOf s o k (szF szs k) := by omega
    rw [Int.mul_comm]
    exact h2
   obtain ⟨p, hp, x, hx, hxw, hxn, hxq⟩ := IH (o.args.getD k 0).toNat (szF szs k) (n.tdiv bv) H gl hm1 hmN hq0 hql
   have tp : IsT p := hx.isT (by omega)
   have hxl : xs.length = k := by rw [← NX.len]; exact hel
   have hga : o.args.getD k 0 = ((o.args.getD k 0).toNat : Int) := by
    have := a1 (o.args.getD k 0) (List.mem_of_getElem? (by rw [ga]; congr 1; have := (a1.get hk').1; rw [List.getD_eq_getElem?_getD, this]; simp))
    omega
   have hnn : n = n.tdiv bv * bv + n % bv := by omega
   have X' : NthX s o (tabOf s).1 szs n' (n % bv) (es ++ [p]) (xs ++ [x]) := NX.snoc (q := n.tdiv bv) (b := bv) hx (by rw [hxl, hga]; exact hxw) (by rw [hxl]; exact hxn) hxq (by rw [← hbv, hxl]; show beF (svOf s o) (szF szs) _ _ = beF (svOf s o) (szF szs) _ _; congr 1; omega) hnn
   obtain ⟨v', H', ws', ap, A', _, keep', low', hw'⟩ := append_one A tp (by omega) hlo
   have fe : fillE 3 (List.replicate 1 (.agg [(.int .i64 0), (.int .i64 0), (.slice 0 [] .nil)])) [(0, p)] = some [p] := by
    obtain ⟨c1, c2, c3, c4⟩ := tp.cells
    simp [fillE, c1, c3]
   have l5 : loadAt true 2 (.ptr h.length 0 0 1) H = some (encSig s) := by rw [ld_at kb]; rfl
   simp (disch := first | omega | decide | simp only [go_sem]) only [go_sem, f1, f2, f5, f11, f12, f13, f14, f15, gaE, gx, hb0, hrest, l5, cb hp, hT.prim, primOf, fe, ap]
   refine ⟨d - 1, by omega, k + 1, n % bv, v', es ++ [p], xs ++ [x], H', _, by omega, by simp [hel], ⟨hr0, by rw [hbv]; exact hrl⟩, fun y hy => ?_, X', A', low.trans low', by have := low'.len; omega, keep' _ _ _ kb, fun y hy => ?_, rfl, rfl, rfl, rfl⟩
   · rcases List.mem_append.1 hy with h | h
     · exact hes y h
     · rw [List.mem_singleton.1 h]; exact tp
   · rcases mem_wall hy with h | h
     · exact hw' y h
     · exact hw y h
 · have hkl : k = o.args.length := by have := X.len; omega
   have hn0' : n = 0 := by
    have h := hn.2
    rw [show o.args.length - k = 0 by omega] at h
    simp only [beF] at h
    omega
   subst hn0'
   obtain ⟨z', m', rfl, hz'⟩ := A.slice
   obtain ⟨pes, wes⟩ := weaks_terms hes
   have td : tidy 0 h.length (.val (.slice z' es m')) ⟨H, ws, []⟩ = (.val (.slice z' es .any), ⟨h, [], []⟩) := by
    rw [tidy_ups (v := .slice z' es m') (ws := ws) (ups := []) (by simp [PV.pure, pes]) low hw (by simp)]
    simp [PV.weak, wes]
   simp (disch := first | omega | decide | simp only [go_sem]) only [go_sem, a167b1, e1, e2, e5, e11, e12, e13, e14, List.length_map, hk, td]
   exact ⟨(z', es), rfl, hz', szs, n', xs, X, NX, by rw [← NX.len]; omega⟩
end Go.Proofs.Tryz
/- The specification's nth: the term of that number. -/
namespace Go.Proofs.Tryz
open Go Go.AE
variable {T : Tbl} (hT : Std T) {s : GSig}
include hT in
theorem rnth_step (hs : GOk s) {M : Nat} {zs : List (List Int)} (R : RTab s M zs) (hM : M ≤ 60) {N : Nat} (hN : N < M) (IH : RNthIH T s zs N) (a : Nat) (n0 : Int) (h : List AE.Obj) (ha : a < s.sorts.length) (hn0 : 0 ≤ n0 ∧ n0 < cntOf s a (N + 1)) :
 ∃ p, Ev T 94 [encSig s, .slice 1 (rowsV zs) .any, .int .i64 (a : Int), .int .i64 ((N + 1 : Nat) : Int), .int .i64 n0] h (.val p, ⟨h, [], []⟩) ∧ Nth91 s a (N + 1) n0 p := by
 have hops := hs.ops
 have hnO := hs.nO
 have hcnt : cntOf s a (N + 1) = cap (aT s.ops (tabOf s) (a : Int) N s.ops.length) := tabOf_cnt hs.ops ha (by omega)
 have h0T : n0 ≤ 1099511627776 := by have := cap_le_top (aT s.ops (tabOf s) (a : Int) N s.ops.length); omega
 refine Ev.walkP (r := fun (p : PV) => (.val p, ⟨h, [], []⟩)) (hT.sp _ (by decide)) ((hT.fn _).trans fn94) (hT.mode _) rfl ?_
 have k5 : ((h ++ [AE.Obj.row 2 [encSig s]]) ++ [AE.Obj.row 3 [PV.agg [.int .i64 0, .int .i64 0, .slice 0 [] .nil]]])[h.length]? = some (.row 2 [encSig s]) := keepL (by simp)
 have k10 : ((h ++ [AE.Obj.row 2 [encSig s]]) ++ [AE.Obj.row 3 [PV.agg [.int .i64 0, .int .i64 0, .slice 0 [] .nil]]])[(h ++ [AE.Obj.row 2 [encSig s]]).length]? = some (.row 3 [PV.agg [.int .i64 0, .int .i64 0, .slice 0 [] .nil]]) := by simp
 have low : Low h.length h ((h ++ [AE.Obj.row 2 [encSig s]]) ++ [AE.Obj.row 3 [PV.agg [.int .i64 0, .int .i64 0, .slice 0 [] .nil]]]) := ((Low.refl _ _).push (Nat.le_refl _)).push (by simp)
 have hkh : h.length ≤ (h ++ [AE.Obj.row 2 [encSig s]]).length := by simp
 generalize hkx : (h ++ [AE.Obj.row 2 [encSig s]]).length = kx at *
 generalize hH : (h ++ [AE.Obj.row 2 [encSig s]]) ++ [AE.Obj.row 3 [PV.agg [.int .i64 0, .int .i64 0, .slice 0 [] .nil]]] = H at *
 have l1 : loadAt false 1 (.ptr h.length 0 1 1) H = some (.slice 3 (s.ops.map encOp) .any) := by rw [ld_at k5]; rfl
 have l5 : loadAt true 2 (.ptr h.length 0 0 1) H = some (encSig s) := by rw [ld_at k5]; rfl
 simp (disch := first | omega | decide | simp only [go_sem]) only [go_sem, hkx, hH, List.length_cons, List.length_nil]
 refine wpC.loopM (fun d e st => ∃ (i : Nat) (n : Int), i + d = s.ops.length ∧ (0 ≤ n ∧ n ≤ 1099511627776 ∧ n = n0 - aT s.ops (tabOf s) (a : Int) N i) ∧ eget e 1 = .slice 1 (rowsV zs) .any ∧ eget e 2 = .int .i64 (a : Int) ∧ eget e 3 = .int .i64 ((N + 1 : Nat) : Int) ∧ eget e 4 = .int .i64 n ∧ eget e 5 = .ptr h.length 0 0 1 ∧ eget e 10 = .ptr kx 0 0 1 ∧ eget e 11 = .int .i64 (i : Int) ∧ st = ⟨H, [], []⟩) ?_ s.ops.length _ _
  ⟨0, n0, by omega, ⟨hn0.1, h0T, by simp [aT]⟩, by simp (disch := first | omega | decide | simp only [go_sem]) only [go_sem], by simp (disch := first | omega | decide | simp only [go_sem]) only [go_sem], by simp (disch := first | omega | decide | simp only [go_sem]) only [go_sem], by simp (disch := first | omega | decide | simp only [go_sem]) only [go_sem], by simp (disch := first | omega | decide | simp only [go_sem]) only [go_sem], by simp (disch := first | omega | decide | simp only [go_sem]) only [go_sem], by simp (disch := first | omega | decide | simp only [go_sem]) only [go_sem]; rfl, rfl⟩
 rintro d e st ⟨i, n, hd, hn, e1, e2, e3, e4, e5, e10, e11, rfl⟩
 by_cases hi : i < s.ops.length
 · have ho : s.ops[i]? = some s.ops[i] := List.getElem?_eq_getElem hi
   have go := get_op hi
   have haT : aT s.ops (tabOf s) (a : Int) N (i + 1) = aT s.ops (tabOf s) (a : Int) N i + if s.ops[i].res = (a : Int) then rvOf s i 0 N else 0 := by simp only [aT, ho]; rfl
   generalize s.ops[i] = o at *
   have so1 : sub false 1 (encOp o) 1 = some (.slice 1 (o.args.map encI) .any) := rfl
   have so2 : sub false 1 (encOp o) 2 = some (.int .i64 o.res) := rfl
   by_cases hres : o.res = (a : Int)
   · have S := sysOf hops ho
     have r0 := S.r0 0 N
     have rc := S.rc 0 N
     have cw := fun h => rwaysF hT R hM hops ho (i0 := 0) (q := N) (by omega) (by omega) (by omega) h
     rw [List.drop_zero] at cw
     rw [if_pos hres] at haT
     by_cases hlt : n < rvOf s i 0 N
     · obtain ⟨⟨sz, es⟩, evL, hsz, szs, n', xs, X, NX, hxl⟩ := list_ev hT R hM hops ho (N := N) (by omega) (by omega) IH hn.1 hlt H
       dsimp only at evL hsz NX
       have fc : fillC [PV.int .i64 0, .int .i64 0, .slice 0 [] .nil] [(0, 1, .int .i64 2), (1, 1, .int .i64 (i : Int)), (2, 1, .slice sz es .any)] = some [.int .i64 2, .int .i64 (i : Int), .slice sz es .any] := rfl
       obtain ⟨ups', sv, hups⟩ := st_k3 (ws := []) (ups := []) (x := 2) (y := (i : Int)) (sz := sz) (es := es) (m := .any) k10
       have ll : loadAt true 3 (.ptr kx 0 0 1) (H.set kx (.row 3 [PV.agg [.int .i64 2, .int .i64 (i : Int), .slice sz es .any]])) = some (PV.agg [.int .i64 2, .int .i64 (i : Int), .slice sz es .any]) := by rw [ld_at (get_set k10)]; rfl
       have hE := nth_end (sz := sz) ho hres X.fit NX hxl X.num hn.2.2 h0T hsz
       obtain ⟨x, hx, _⟩ := hE
       have hpf := hx.facts.2
       generalize hways : rvOf s i 0 N = ways at *
       simp (disch := first | omega | decide | simp only [go_sem]) only [go_sem, a94b0, e1, e2, e3, e4, e5, e10, e11, hi, l1, l5, go, so1, so2, hres, bne_self_eq_false, cb (cw _), cb evL, hT.prim, primOf, hlt, fc, sv, resv, ll]
       refine ⟨_, (tidy_ups (v := .agg [.int .i64 2, .int .i64 (i : Int), .slice sz es .any]) hpf.1 (low.trans (.set hkh)) (show ∀ k ∈ wadd kx [], h.length ≤ k from wadd_low hkh (by simp)) (fun y hy => by
        rcases hups y hy with h | h
        · cases h
        · omega)).trans (by rw [hpf.2]), nth_end (sz := sz) ho hres X.fit NX hxl X.num hn.2.2 h0T hsz⟩
     · generalize hways : rvOf s i 0 N = ways at *
       simp (disch := first | omega | decide | simp only [go_sem]) only [go_sem, a94b0, e1, e2, e3, e4, e5, e10, e11, hi, l1, l5, go, so1, so2, hres, bne_self_eq_false, cb (cw _), hT.prim, primOf, hlt]
       exact ⟨d - 1, by omega, i + 1, n - ways, by omega, by omega, rfl, rfl, trivial⟩
   · have hres' : (o.res != (a : Int)) = true := by simpa using hres
     rw [if_neg hres] at haT
     simp (disch := first | omega | decide | simp only [go_sem]) only [go_sem, a94b0, e1, e2, e3, e4, e5, e10, e11, hi, l1, go, so1, so2, hres']
     exact ⟨d - 1, by omega, i + 1, n, by omega, by omega, rfl, rfl, trivial⟩
 · exfalso
   have : i = s.ops.length := by omega
   subst this
   have := cap_le (aT s.ops (tabOf s) (a : Int) N s.ops.length)
   omega
include hT in
theorem rnth_ev (hs : GOk s) {M : Nat} {zs : List (List Int)} (R : RTab s M zs) (hM : M ≤ 60) : ∀ N, N ≤ M → RNthIH T s zs N
 | 0, _ => fun a m n h _ h1 h2 => by omega
 | N + 1, hN => fun a m n h ha h1 h2 hn0 hn1 => by
   have ih := rnth_ev hs R hM N (by omega)
   by_cases hm : m ≤ N
   · exact ih a m n h ha h1 hm hn0 hn1
   · have : m = N + 1 := by omega
     subst this
     exact rnth_step hT hs R hM (by omega) ih a n h ha ⟨hn0, hn1⟩
end Go.Proofs.Tryz
/- The specification's Sort and Nth. -/
namespace Go.Proofs.Tryz
open Go Go.AE
variable {T : Tbl} (hT : Std T) {s : GSig}
include hT in
theorem rsorts_nil (h : List AE.Obj) : Ev T 169 [encSig s, .slice 0 [] .nil] h (.val (.bool true), ⟨h, [], []⟩) := by
 refine Ev.walk (hT.sp _ (by decide)) ((hT.fn _).trans fn169) (hT.mode _) rfl ?_
 have low : Low h.length h (h ++ [AE.Obj.row 2 [encSig s]]) := (Low.refl _ _).push (Nat.le_refl _)
 generalize hH : h ++ [AE.Obj.row 2 [encSig s]] = H at *
 have td : tidy 0 h.length (.val (.bool true)) ⟨H, [], []⟩ = (.val (.bool true), ⟨h, [], []⟩) := tidy_low rfl rfl low (by simp)
 simp (disch := first | omega | decide | simp only [go_sem]) only [go_sem, hH]
 refine wpC.loopM (fun n e st => eget e 1 = .slice 0 [] .nil ∧ eget e 5 = .int .i64 0 ∧ st = ⟨H, [], []⟩) ?_ 0 _ _ ⟨by simp (disch := first | omega | decide | simp only [go_sem]) only [go_sem], by simp (disch := first | omega | decide | simp only [go_sem]) only [go_sem], rfl⟩
 rintro n e st ⟨e1, e5, rfl⟩
 have c : ¬ ((0 : Int) < ((0 : Nat) : Int)) := by omega
 simp (disch := first | omega | decide | simp only [go_sem]) only [go_sem, a169b0, e1, e5, List.length_nil, c, td]
theorem sigP.gok {s : GSig} (h : sigP s) : GOk s := ⟨h.okOps, by have := h.nS; omega, by have := h.nO; omega⟩
include hT in
theorem rsort_ev (hp : sigP s) (hf : Fits s) {t : Tm} {p : PV} (ht : Enc t p) (hn : t.nodes ≤ 200) (h : List AE.Obj) :
 Ev T 98 [encSig s, .slice 0 [] .nil, p] h (.val (.tuple [.int .i64 (sortR s t).1, .int .i64 (sortR s t).2]), ⟨h, [], []⟩) := by
 refine Ev.walk (hT.sp _ (by decide)) ((hT.fn _).trans fn98) (hT.mode _) rfl ?_
 have hs := hp.gok
 have hsub := ht.sub
 obtain ⟨c1, c2, c3, c4⟩ := ht.cells
 have kg : ((h ++ [AE.Obj.row 2 [encSig s]]) ++ [AE.Obj.row 3 [p]])[h.length]? = some (.row 2 [encSig s]) := keepL (by simp)
 have kp : ((h ++ [AE.Obj.row 2 [encSig s]]) ++ [AE.Obj.row 3 [p]])[(h ++ [AE.Obj.row 2 [encSig s]]).length]? = some (.row 3 [p]) := by simp
 have low : Low h.length h ((h ++ [AE.Obj.row 2 [encSig s]]) ++ [AE.Obj.row 3 [p]]) := ((Low.refl _ _).push (Nat.le_refl _)).push (by simp)
 generalize hk1 : (h ++ [AE.Obj.row 2 [encSig s]]).length = k1 at *
 generalize hH : (h ++ [AE.Obj.row 2 [encSig s]]) ++ [AE.Obj.row 3 [p]] = H at *
 have lg : loadAt true 2 (.ptr h.length 0 0 1) H = some (encSig s) := by rw [ld_at kg]; rfl
 have lp : loadAt true 3 (.ptr k1 0 0 1) H = some p := by rw [ld_at kp]; exact hsub
 have td : ∀ a b, tidy 0 h.length (.val (.tuple [.int .i64 a, .int .i64 b])) ⟨H, [], []⟩ = (.val (.tuple [.int .i64 a, .int .i64 b]), ⟨h, [], []⟩) := fun a b => tidy_low rfl rfl low (by simp)
 obtain ⟨b, hb, kb⟩ := rissig_tot hT s hf H
 have hbt : b = true := kb.2 hp
 subst hbt
 have c169 := rsorts_nil hT (s := s) H
 have c170 := ris_ev hT ht hn H
 cases hsh : shapedF t
 · have hR : sortR s t = (0, 4) := by
    obtain ⟨k, n, l⟩ := t
    simp [sortR, hsh]
   rw [hR]
   rw [hsh] at c170
   simp (disch := first | omega | decide | simp only [go_sem]) only [go_sem, hk1, hH, c1, c3, lg, lp, cb hb, cb c169, cb c170, hT.prim, primOf, Bool.not_true, Bool.not_false, td]
 · rw [hsh] at c170
   obtain ⟨⟨ra, rb⟩, ev, hr⟩ := rsortof_ev hT hs ht (by omega) hsh H
   dsimp only at ev hr
   rcases hr with ⟨rfl, hty⟩ | ⟨hrr, hno⟩
   · have hR : sortR s t = (ra, 0) := sortR_of (fun o ho => (hp.ops8 o ho).2.2) (WT_of t ra hsh hty)
     rw [hR]
     simp (disch := first | omega | decide | simp only [go_sem]) only [go_sem, hk1, hH, c1, c3, lg, lp, cb hb, cb c169, cb c170, cb ev, hT.prim, primOf, Bool.not_true, td]
   · simp only [Prod.mk.injEq] at hrr
     obtain ⟨rfl, rfl⟩ := hrr
     have hR : sortR s t = (0, 4) := by
      obtain ⟨k, n, l⟩ := t
      simp only [sortR]
      split
      · cases s.ops[n.toNat]? with
        | none => rfl
        | some o => simp [hno]
      · rfl
     rw [hR]
     simp (disch := first | omega | decide | simp only [go_sem]) only [go_sem, hk1, hH, c1, c3, lg, lp, cb hb, cb c169, cb c170, cb ev, hT.prim, primOf, Bool.not_true, Bool.not_false, td]
end Go.Proofs.Tryz
/- The specification's Nth. -/
namespace Go.Proofs.Tryz
open Go Go.AE
variable {T : Tbl} (hT : Std T) {s : GSig}
def zTerm : PV := .agg [.int .i64 0, .int .i64 0, .slice 0 [] .any]
def nthOk (s : GSig) (sort size n : Int) : Prop := isSortB sort s.sorts.length = true ∧ (1 ≤ size ∧ size ≤ 60) ∧ 0 ≤ n ∧ n < cntOf s sort.toNat size.toNat
def NthR (s : GSig) (sort size n : Int) (r : PV × Int) : Prop := (¬ sigP s ∧ r = (zTerm, 40)) ∨ (sigP s ∧ ¬ nthOk s sort size n ∧ r = (zTerm, 1)) ∨ (sigP s ∧ nthOk s sort size n ∧ r.2 = 0 ∧ Nth91 s sort.toNat size.toNat n r.1)
include hT in
theorem rnth_top (hf : Fits s) (sort size n : Int) (h : List AE.Obj) : ∃ r : PV × Int, Ev T 19 [encSig s, .int .i64 sort, .int .i64 size, .int .i64 n] h (.val (.tuple [r.1, .int .i64 r.2]), ⟨h, [], []⟩) ∧ NthR s sort size n r := by
 refine Ev.walkP (r := fun (r : PV × Int) => (.val (.tuple [r.1, .int .i64 r.2]), ⟨h, [], []⟩)) (hT.sp _ (by decide)) ((hT.fn _).trans fn19) (hT.mode _) rfl ?_
 have k4 : ((h ++ [AE.Obj.row 2 [encSig s]]) ++ [AE.Obj.row 3 [PV.agg [.int .i64 0, .int .i64 0, .slice 0 [] .nil]]])[h.length]? = some (.row 2 [encSig s]) := keepL (by simp)
 have k8 : ((h ++ [AE.Obj.row 2 [encSig s]]) ++ [AE.Obj.row 3 [PV.agg [.int .i64 0, .int .i64 0, .slice 0 [] .nil]]])[(h ++ [AE.Obj.row 2 [encSig s]]).length]? = some (.row 3 [PV.agg [.int .i64 0, .int .i64 0, .slice 0 [] .nil]]) := by simp
 have low : Low h.length h ((h ++ [AE.Obj.row 2 [encSig s]]) ++ [AE.Obj.row 3 [PV.agg [.int .i64 0, .int .i64 0, .slice 0 [] .nil]]]) := ((Low.refl _ _).push (Nat.le_refl _)).push (by simp)
 have hkh : h.length ≤ (h ++ [AE.Obj.row 2 [encSig s]]).length := by simp
 generalize hkx : (h ++ [AE.Obj.row 2 [encSig s]]).length = kx at *
 generalize hH : (h ++ [AE.Obj.row 2 [encSig s]]) ++ [AE.Obj.row 3 [PV.agg [.int .i64 0, .int .i64 0, .slice 0 [] .nil]]] = H at *
 have l4 : loadAt true 2 (.ptr h.length 0 0 1) H = some (encSig s) := by rw [ld_at k4]; rfl
 have fc0 : fillC [PV.int .i64 0, .int .i64 0, .slice 0 [] .nil] [] = some [.int .i64 0, .int .i64 0, .slice 0 [] .nil] := rfl
 obtain ⟨ups', sv, hups⟩ := st_k3 (ws := []) (ups := []) (x := 0) (y := 0) (sz := 0) (es := []) (m := .nil) k8
 have ll : loadAt true 3 (.ptr kx 0 0 1) (H.set kx (.row 3 [PV.agg [.int .i64 0, .int .i64 0, .slice 0 [] .nil]])) = some (PV.agg [.int .i64 0, .int .i64 0, .slice 0 [] .nil]) := by rw [ld_at (get_set k8)]; rfl
 have tz : ∀ a : Int, tidy 0 h.length (.val (.tuple [.agg [.int .i64 0, .int .i64 0, .slice 0 [] .nil], .int .i64 a])) ⟨H.set kx (.row 3 [PV.agg [.int .i64 0, .int .i64 0, .slice 0 [] .nil]]), wadd kx [], ups'⟩ = (.val (.tuple [zTerm, .int .i64 a]), ⟨h, [], []⟩) := fun a => by
  rw [tidy_ups (v := .tuple [.agg [.int .i64 0, .int .i64 0, .slice 0 [] .nil], .int .i64 a]) rfl (low.trans (.set hkh)) (show ∀ k ∈ wadd kx [], h.length ≤ k from wadd_low hkh (by simp)) (fun y hy => by
   rcases hups y hy with h | h
   · cases h
   · omega)]
  rfl
 obtain ⟨r, hr, kr⟩ := rasked_exact hT hf sort H
 rcases kr with ⟨rfl, hp⟩ | ⟨rfl, hp, hb⟩ | ⟨rfl, hp, hb⟩
 · have b1 : ((40 : Int) != 0) = true := rfl
   simp (disch := first | omega | decide | simp only [go_sem]) only [go_sem, hkx, hH, l4, cb hr, hT.prim, primOf, b1, fc0, sv, resv, ll, tz, List.length_cons, List.length_nil]
   exact ⟨(zTerm, 40), rfl, .inl ⟨hp, rfl⟩⟩
 · have b1 : ((1 : Int) != 0) = true := rfl
   simp (disch := first | omega | decide | simp only [go_sem]) only [go_sem, hkx, hH, l4, cb hr, hT.prim, primOf, b1, fc0, sv, resv, ll, tz, List.length_cons, List.length_nil]
   exact ⟨(zTerm, 1), rfl, .inr (.inl ⟨hp, (fun ho => by rw [ho.1] at hb; cases hb), rfl⟩)⟩
 · by_cases hz1 : size < 1
   · simp (disch := first | omega | decide | simp only [go_sem]) only [go_sem, hkx, hH, l4, cb hr, hT.prim, primOf, bne_self_eq_false, hz1, fc0, sv, resv, ll, tz, List.length_cons, List.length_nil]
     exact ⟨(zTerm, 1), rfl, .inr (.inl ⟨hp, (fun ho => by have := ho.2.1; omega), rfl⟩)⟩
   · by_cases hz2 : 60 < size
     · simp (disch := first | omega | decide | simp only [go_sem]) only [go_sem, hkx, hH, l4, cb hr, hT.prim, primOf, bne_self_eq_false, hz1, hz2, fc0, sv, resv, ll, tz, List.length_cons, List.length_nil]
       exact ⟨(zTerm, 1), rfl, .inr (.inl ⟨hp, (fun ho => by have := ho.2.1; omega), rfl⟩)⟩
     · obtain ⟨m, rfl⟩ := Int.eq_ofNat_of_zero_le (show 0 ≤ size by omega)
       have k23 := hb
       simp only [isSortB, Bool.and_eq_true, decide_eq_true_eq] at k23
       obtain ⟨k2, k3⟩ := k23
       obtain ⟨a, rfl⟩ := Int.eq_ofNat_of_zero_le k2
       have ha : a < s.sorts.length := by omega
       obtain ⟨zs, hzs, hl, okz, ex⟩ := rtable_ev hT hf hp.okOps (most := m) (by omega) H
       have R : RTab s m zs := ⟨hl, okz, ex⟩
       have hzs' : Ev T 93 [encSig s, .int .i64 (m : Int)] H (.val (.slice 1 (rowsV zs) .any), ⟨H, [], []⟩) := hzs
       by_cases hn0 : n < 0
       · simp (disch := first | omega | decide | simp only [go_sem]) only [go_sem, hkx, hH, l4, cb hr, cb hzs', hT.prim, primOf, bne_self_eq_false, hz1, hz2, hn0, fc0, sv, resv, ll, tz, List.length_cons, List.length_nil]
         exact ⟨(zTerm, 1), rfl, .inr (.inl ⟨hp, (fun ho => by have := ho.2.2; omega), rfl⟩)⟩
       · obtain ⟨zr, gz, gc⟩ := R.row (Nat.le_refl m)
         have gc := gc a ha
         have hrl : (rowsV zs).length = m + 1 := by simp [rowsV, hl]
         by_cases hc : cntOf s a m ≤ n
         · simp (disch := first | omega | decide | simp only [go_sem]) only [go_sem, hkx, hH, l4, cb hr, cb hzs', hT.prim, primOf, bne_self_eq_false, hz1, hz2, hn0, gz, gc, hc, fc0, sv, resv, ll, tz, List.length_cons, List.length_nil]
           exact ⟨(zTerm, 1), rfl, .inr (.inl ⟨hp, (fun ho => by have := ho.2.2.2; simp only [Int.toNat_natCast] at this; omega), rfl⟩)⟩
         · obtain ⟨p, ev, hN⟩ := rnth_ev hT hp.gok R (by omega) m (Nat.le_refl m) a m n H ha (by omega) (Nat.le_refl m) (by omega) (by omega)
           have hN0 := hN
           obtain ⟨x, hx, _, hxn, _⟩ := hN
           obtain ⟨w1, w2⟩ := hx.facts.2
           cases hx with
           | mk kk nn l sz es hes hel hee =>
             obtain ⟨ups2, sv2, hups2⟩ := st_k3 (ws := []) (ups := []) (x := kk) (y := nn) (sz := sz) (es := es) (m := .any) k8
             have ll2 : loadAt true 3 (.ptr kx 0 0 1) (H.set kx (.row 3 [PV.agg [.int .i64 kk, .int .i64 nn, .slice sz es .any]])) = some (PV.agg [.int .i64 kk, .int .i64 nn, .slice sz es .any]) := by rw [ld_at (get_set k8)]; rfl
             have td2 : tidy 0 h.length (.val (.tuple [.agg [.int .i64 kk, .int .i64 nn, .slice sz es .any], .int .i64 0])) ⟨H.set kx (.row 3 [PV.agg [.int .i64 kk, .int .i64 nn, .slice sz es .any]]), wadd kx [], ups2⟩ = (.val (.tuple [.agg [.int .i64 kk, .int .i64 nn, .slice sz es .any], .int .i64 0]), ⟨h, [], []⟩) := by
              rw [tidy_ups (v := .tuple [.agg [.int .i64 kk, .int .i64 nn, .slice sz es .any], .int .i64 0]) (by
               have : (PV.tuple [.agg [.int .i64 kk, .int .i64 nn, .slice sz es .any], .int .i64 0]).pure = ((PV.agg [.int .i64 kk, .int .i64 nn, .slice sz es .any]).pure && ((PV.int .i64 0).pure && true)) := rfl
               rw [this, w1]
               rfl) (low.trans (.set hkh)) (show ∀ k ∈ wadd kx [], h.length ≤ k from wadd_low hkh (by simp)) (fun y hy => by
               rcases hups2 y hy with h | h
               · cases h
               · omega)]
              have : (PV.tuple [.agg [.int .i64 kk, .int .i64 nn, .slice sz es .any], .int .i64 0]).weak = PV.tuple [(PV.agg [.int .i64 kk, .int .i64 nn, .slice sz es .any]).weak, .int .i64 0] := rfl
              rw [this, w2]
             simp (disch := first | omega | decide | simp only [go_sem]) only [go_sem, hkx, hH, l4, cb hr, cb hzs', hT.prim, primOf, bne_self_eq_false, hz1, hz2, hn0, gz, gc, hc, cb ev, sv2, resv, ll2, td2, List.length_cons, List.length_nil]
             exact ⟨(_, 0), rfl, .inr (.inr ⟨hp, ⟨hb, ⟨by omega, by omega⟩, by omega, by simp only [Int.toNat_natCast]; omega⟩, rfl, by simpa using hN0⟩)⟩
end Go.Proofs.Tryz
/- The specification's number: what it adds up. -/
namespace Go.Proofs.Tryz
open Go Go.AE
variable {T : Tbl} (hT : Std T) {s : GSig}
def hoF (sv : Nat → Nat → Int) (sz : Nat → Nat) (nm : Nat → Int) : Nat → Int
 | 0 => 0
 | k + 1 => cap (cap (hoF sv sz nm k * sv k (sz k)) + nm k)
theorem cap_mul_add {x y z : Int} (hx : 0 ≤ x) (hy : 0 ≤ y) (hz : 0 ≤ z) : cap (cap x * y + z) = cap (x * y + z) := by
 rw [← cap_cap_add hz, cap_mulE hx hy, cap_cap_add hz]
theorem ho_nn {sv : Nat → Nat → Int} {sz : Nat → Nat} {nm : Nat → Int} {L : Nat} (hs : ∀ k, k < L → 0 ≤ sv k (sz k)) (hn : ∀ k, k < L → 0 ≤ nm k) : ∀ k, k ≤ L → 0 ≤ hoF sv sz nm k ∧ hoF sv sz nm k ≤ 1099511627776
 | 0, _ => by simp [hoF]
 | k + 1, hk => by
   have ih := ho_nn hs hn k (by omega)
   have h1 := cap_nn' (Int.mul_nonneg ih.1 (hs k (by omega)))
   have h2 := hn k (by omega)
   exact ⟨cap_nn' (by omega), cap_le_top _⟩
theorem ho_dn {sv : Nat → Nat → Int} {sz : Nat → Nat} {nm : Nat → Int} {L N : Nat} (F : Fit sv L N sz) (hn : ∀ k, k < L → 0 ≤ nm k) : ∀ k, k ≤ L → cap (hoF sv sz nm k * beF sv sz L (L - k) + dnF sv sz nm L (L - k)) = cap (dnF sv sz nm L L)
 | 0, _ => by simp [hoF]
 | k + 1, hk => by
   have ih := ho_dn F hn k (by omega)
   have hs : ∀ k, k < L → 0 ≤ sv k (sz k) := fun k hk => by have := F.pos k hk; omega
   obtain ⟨j, hj⟩ : ∃ j, L - k = j + 1 := ⟨L - k - 1, by omega⟩
   have e1 : L - (k + 1) = j := by omega
   have e2 : L - 1 - j = k := by omega
   rw [hj] at ih
   simp only [beF, dnF, e2] at ih
   rw [e1, ← ih]
   have h0 := (ho_nn hs hn k (by omega)).1
   have s0 := hs k (by omega)
   have n0 := hn k (by omega)
   have b0 := (be_pos F j (by omega)).1
   have d0 := dn_nn F hn j (by omega)
   have p1 := Int.mul_nonneg h0 s0
   have p2 := Int.mul_nonneg n0 (show 0 ≤ beF sv sz L j by omega)
   have p3 := Int.mul_nonneg (show 0 ≤ beF sv sz L j by omega) s0
   simp only [hoF]
   rw [cap_cap_add n0, cap_mul_add (by omega) (by omega) d0, Int.mul_comm (hoF sv sz nm k) (cap _), cap_mul_add p3 h0 (by omega)]
   congr 1
   rw [Int.add_mul, Int.mul_comm (beF sv sz L j * sv k (sz k)), Int.mul_comm (beF sv sz L j), Int.mul_assoc]
   omega
theorem ho_all {sv : Nat → Nat → Int} {sz : Nat → Nat} {nm : Nat → Int} {L N : Nat} (F : Fit sv L N sz) (hn : ∀ k, k < L → 0 ≤ nm k) : hoF sv sz nm L = cap (dnF sv sz nm L L) := by
 have h := ho_dn F hn L (Nat.le_refl _)
 rw [Nat.sub_self] at h
 simp only [beF, dnF, Int.mul_one, Int.add_zero] at h
 rw [← h, cap_self (ho_nn (fun k hk => by have := F.pos k hk; omega) hn L (Nat.le_refl _)).2]
structure NumM (s : GSig) (H : List AE.Obj) (zs : List (List Int)) (o : GOp) (N k3 k5 k9 : Nat) (v : PV) (e : List PV) : Prop where
 h3 : H[k3]? = some (.row 2 [encSig s])
 h5 : H[k5]? = some (.row 3 [.agg [.int .i64 2, .int .i64 (N : Int), v]])
 h9 : H[k9]? = some (.row 3 [encOp o])
 e1 : eget e 1 = .slice 1 (rowsV zs) .any
 e3 : eget e 3 = .ptr k3 0 0 1
 e5 : eget e 5 = .ptr k5 0 0 1
 e9 : eget e 9 = .ptr k9 0 0 1
theorem NumM.same {H : List AE.Obj} {zs : List (List Int)} {o : GOp} {N k3 k5 k9 : Nat} {v : PV} {e e' : List PV} (M : NumM s H zs o N k3 k5 k9 v e) {P : Nat → Prop} (hs : Same P e e') (hp : ∀ j, j < 10 → ¬ P j) : NumM s H zs o N k3 k5 k9 v e' :=
 ⟨M.h3, M.h5, M.h9, (hs 1 (hp 1 (by omega))).trans M.e1, (hs 3 (hp 3 (by omega))).trans M.e3, (hs 5 (hp 5 (by omega))).trans M.e5, (hs 9 (hp 9 (by omega))).trans M.e9⟩
include hT in
theorem rnum_b0 (hs : GOk s) {M : Nat} {zs : List (List Int)} (R : RTab s M zs) (hM : M ≤ 60) {H : List AE.Obj} {ws : List Nat} {o : GOp} {N p k3 k5 k9 : Nat} {v : PV} {e0 : List PV} {Q : AExit → List PV → St → Prop} (hN : N ≤ s.ops.length) (hp : p ≤ M) (hp60 : p < 60) (B : NumM s H zs o N k3 k5 k9 v e0)
 (e7 : eget e0 7 = .int .i64 ((p + 1 : Nat) : Int)) (e10 : eget e0 10 = .int .i64 0) (e11 : eget e0 11 = .int .i64 0)
 (hQ : ∀ e', Same (fun j => j = 10 ∨ j = 11 ∨ j = 12 ∨ 35 ≤ j) e0 e' → eget e' 10 = .int .i64 (cap (aT s.ops (tabOf s) o.res p N)) → Q (.exit 0) e' ⟨H, ws, []⟩) : wpC T (.loop a100b0) e0 ⟨H, ws, []⟩ Q := by
 have hnO := hs.nO
 obtain ⟨_, K⟩ := tabOf_sem hs.ops
 refine wpC.loopM (fun d e st => ∃ i : Nat, i + d = N ∧ Same (fun j => j = 10 ∨ j = 11 ∨ j = 12 ∨ 35 ≤ j) e0 e ∧ eget e 10 = .int .i64 (cap (aT s.ops (tabOf s) o.res p i)) ∧ eget e 11 = .int .i64 (i : Int) ∧ st = ⟨H, ws, []⟩) ?_ N _ _ ⟨0, by omega, Same.refl _, by rw [e10]; rfl, e11, rfl⟩
 rintro d e st ⟨i, hd, hsm, e10, e11, rfl⟩
 obtain ⟨k3', k5', k9', f1, f3, f5, f9⟩ := B.same hsm (fun j hj => by omega)
 have f7 := (hsm 7 (by omega)).trans e7
 have l5 : loadAt false 1 (.ptr k5 0 1 1) H = some (.int .i64 (N : Int)) := by rw [ld_at k5']; rfl
 have l3 : loadAt false 1 (.ptr k3 0 1 1) H = some (.slice 3 (s.ops.map encOp) .any) := by rw [ld_at k3']; rfl
 have l9 : loadAt false 1 (.ptr k9 0 2 1) H = some (.int .i64 o.res) := by rw [ld_at k9']; rfl
 by_cases hi : i < N
 · have hio : i < s.ops.length := by omega
   have ho : s.ops[i]? = some s.ops[i] := List.getElem?_eq_getElem hio
   have go := get_op hio
   have haT : aT s.ops (tabOf s) o.res p (i + 1) = aT s.ops (tabOf s) o.res p i + if s.ops[i].res = o.res then rvOf s i 0 p else 0 := by simp only [aT, ho]; rfl
   have hA0 := aT_nn K (r := o.res) (p := p) i
   generalize s.ops[i] = o' at *
   have so1 : sub false 1 (encOp o') 1 = some (.slice 1 (o'.args.map encI) .any) := rfl
   have so2 : sub false 1 (encOp o') 2 = some (.int .i64 o'.res) := rfl
   by_cases hres : o'.res = o.res
   · have S := sysOf hs.ops ho
     have r0 := S.r0 0 p
     have rc := S.rc 0 p
     have cw := fun h => rwaysF hT R hM hs.ops ho (i0 := 0) (q := p) (by omega) hp hp60 h
     rw [List.drop_zero] at cw
     rw [if_pos hres] at haT
     have hc0 := cap_nn' hA0
     have hc1 := cap_le_top (aT s.ops (tabOf s) o.res p i)
     have c2 := fun h => rcapped_ev hT (n := cap (aT s.ops (tabOf s) o.res p i) + rvOf s i 0 p) (by omega) h
     rw [cap_cap_add r0, ← haT] at c2
     have hb : (o'.res == o.res) = true := by simp [hres]
     simp (disch := first | omega | decide | simp only [go_sem]) only [go_sem, a100b0, f1, f3, f5, f7, f9, e10, e11, l5, l3, l9, hi, go, so1, so2, hb, cb (cw _), cb (c2 _), hT.prim, primOf]
     refine ⟨d - 1, by omega, i + 1, by omega, fun j hj => ?_, rfl, rfl, trivial⟩
     have h1 := hsm j hj
     simp only [not_or, Nat.not_le] at hj
     simp (disch := omega) only [eget_eput_ne]
     exact h1
   · have hb : (o'.res == o.res) = false := by simp [hres]
     rw [if_neg hres, Int.add_zero] at haT
     simp (disch := first | omega | decide | simp only [go_sem]) only [go_sem, a100b0, f1, f3, f5, f7, f9, e10, e11, l5, l3, l9, hi, go, so1, so2, hb]
     refine ⟨d - 1, by omega, i + 1, by omega, fun j hj => ?_, by rw [haT], rfl, trivial⟩
     have h1 := hsm j hj
     simp only [not_or, Nat.not_le] at hj
     simp (disch := omega) only [eget_eput_ne]
     exact h1
 · have hiN : i = N := by omega
   subst hiN
   simp (disch := first | omega | decide | simp only [go_sem]) only [go_sem, a100b0, f1, f3, f5, f7, f9, e10, e11, l5, hi]
   refine hQ _ (fun j hj => ?_) (by simp (disch := first | omega | decide | simp only [go_sem]) only [go_sem, e10])
   have h1 := hsm j hj
   simp only [not_or, Nat.not_le] at hj
   simp (disch := omega) only [eget_eput_ne]
   exact h1
end Go.Proofs.Tryz
/- The specification's number: the sizes ahead. -/
namespace Go.Proofs.Tryz
open Go Go.AE
variable {T : Tbl} (hT : Std T) {s : GSig}
theorem sv_top (hops : okOps s.ops s.sorts.length) {o : GOp} (ho : okArgs o.args s.sorts.length) {k m : Nat} (hk : k < o.args.length) (hm : m < 61) : svOf s o k m ≤ 1099511627776 := by
 obtain ⟨_, K⟩ := tabOf_sem hops
 exact ((K.so.get (show (o.args.getD k 0).toNat < (tabOf s).1.length by rw [K.sl]; exact (ho.get hk).2)).2.get hm).2.2
include hT in
theorem rnum_b1 (hs : GOk s) {M : Nat} {zs : List (List Int)} (R : RTab s M zs) (hM : M ≤ 60) {H : List AE.Obj} {ws : List Nat} {o : GOp} {N i m0 left k3 k5 k9 : Nat} {ahead c0 : Int} {v : PV} {e0 : List PV} {Q : AExit → List PV → St → Prop} (ho : s.ops[N]? = some o) (hi : i < o.args.length) (hml : m0 ≤ left) (hl : left ≤ M) (hl60 : left < 60) (hah : 0 ≤ ahead ∧ ahead ≤ 1099511627776) (hc0 : 0 ≤ c0 ∧ c0 ≤ 1099511627776) (hm0 : 1 ≤ m0) (B : NumM s H zs o N k3 k5 k9 v e0)
 (e10 : eget e0 10 = .int .i64 c0) (e13 : eget e0 13 = .int .i64 (left : Int)) (e14 : eget e0 14 = .int .i64 ahead) (e15 : eget e0 15 = .int .i64 (i : Int)) (e16 : eget e0 16 = .int .i64 (m0 : Int)) (e18 : eget e0 18 = .int .i64 1)
 (hQ : ∀ e', Same (fun j => j = 10 ∨ j = 18 ∨ 82 ≤ j) e0 e' → eget e' 10 = .int .i64 (cap (c0 + preP (svOf s o) (rvOf s N) ahead i left (m0 - 1))) → Q (.exit 4) e' ⟨H, ws, []⟩) : wpC T (.loop a100b1) e0 ⟨H, ws, []⟩ Q := by
 obtain ⟨a1, a2, a3⟩ := hs.ops _ (List.mem_of_getElem? ho)
 have S := sysOf hs.ops ho
 refine wpC.loopM (fun d e st => ∃ k : Nat, k + d = m0 ∧ 1 ≤ k ∧ Same (fun j => j = 10 ∨ j = 18 ∨ 82 ≤ j) e0 e ∧ eget e 10 = .int .i64 (cap (c0 + preP (svOf s o) (rvOf s N) ahead i left (k - 1))) ∧ eget e 18 = .int .i64 (k : Int) ∧ st = ⟨H, ws, []⟩) ?_ (m0 - 1) _ _ ⟨1, by omega, by omega, Same.refl _, by rw [e10, show (1 - 1 : Nat) = 0 from rfl, show preP (svOf s o) (rvOf s N) ahead i left 0 = 0 from rfl, Int.add_zero, cap_self hc0.2], e18, rfl⟩
 rintro d e st ⟨k, hd, hk1, hsm, e10, e18, rfl⟩
 obtain ⟨k3', k5', k9', f1, f3, f5, f9⟩ := B.same hsm (fun j hj => by omega)
 have f13 := (hsm 13 (by omega)).trans e13
 have f14 := (hsm 14 (by omega)).trans e14
 have f15 := (hsm 15 (by omega)).trans e15
 have f16 := (hsm 16 (by omega)).trans e16
 by_cases hk : k < m0
 · have l9 : loadAt false 1 (.ptr k9 0 1 1) H = some (.slice 1 (o.args.map encI) .any) := by rw [ld_at k9']; rfl
   obtain ⟨ga, gl⟩ := a1.get hi
   have gaE : (o.args.map encI)[i]? = some (.int .i64 (((o.args.getD i 0).toNat : Nat) : Int)) := by rw [List.getElem?_map, ga]; rfl
   obtain ⟨zr, gz, gc⟩ := R.row (show k ≤ M by omega)
   have gc := gc _ gl
   have hcn : cntOf s (o.args.getD i 0).toNat k = svOf s o i k := rfl
   rw [hcn] at gc
   have s0 := S.s0 i k
   have sc := sv_top hs.ops a1 hi (show k < 61 by omega)
   have r0 := S.r0 (i + 1) (left - k)
   have rc := S.rc (i + 1) (left - k)
   have hp1 := Int.mul_nonneg hah.1 s0
   have c1 := fun h => rproduct_ev hT ⟨hah.1, hah.2⟩ ⟨s0, sc⟩ h
   have c2 := fun h => rwaysF hT R hM hs.ops ho (i0 := i + 1) (q := left - k) (by omega) (by omega) (by omega) h
   have c3 := fun h => rproduct_ev hT (okN_cap hp1) ⟨r0, rc⟩ h
   have hway : wayW (svOf s o) (rvOf s N) ahead i left k = cap (cap (ahead * svOf s o i k) * rvOf s N (i + 1) (left - k)) := rfl
   rw [← hway] at c3
   have hw0 : 0 ≤ wayW (svOf s o) (rvOf s N) ahead i left k := wayW_nn S hah.1 i left k
   have hw1 : wayW (svOf s o) (rvOf s N) ahead i left k ≤ 1099511627776 := cap_le_top _
   have hP0 := preP_nn S hah.1 i left (k - 1)
   have hstep : preP (svOf s o) (rvOf s N) ahead i left k = preP (svOf s o) (rvOf s N) ahead i left (k - 1) + wayW (svOf s o) (rvOf s N) ahead i left k := by
    obtain ⟨j, rfl⟩ : ∃ j, k = j + 1 := ⟨k - 1, by omega⟩
    rfl
   have hcc0 := cap_nn' (show 0 ≤ c0 + preP (svOf s o) (rvOf s N) ahead i left (k - 1) by omega)
   have hcc1 := cap_le_top (c0 + preP (svOf s o) (rvOf s N) ahead i left (k - 1))
   have c4 := fun h => rcapped_ev hT (n := cap (c0 + preP (svOf s o) (rvOf s N) ahead i left (k - 1)) + wayW (svOf s o) (rvOf s N) ahead i left k) (by omega) h
   rw [cap_cap_add hw0, Int.add_assoc, ← hstep] at c4
   have hrl : (rowsV zs).length = M + 1 := by simp [rowsV, R.len]
   have hkM : k < M + 1 := by omega
   have hkl : k ≤ left := by omega
   have sl := slice_suf (es := o.args.map encI) (l := i + 1) (by simp; omega)
   rw [← List.map_drop] at sl
   simp (disch := first | omega | decide | simp only [go_sem]) only [go_sem, a100b1, f1, f9, e10, f13, f14, f15, f16, e18, hk, l9, hrl, hkM, gaE, gz, gc, cb (c1 _), cb (c2 _), cb (c3 _), cb (c4 _), hT.prim, primOf, cast_sub hkl, sl]
   refine ⟨d - 1, by omega, k + 1, by omega, by omega, fun j hj => ?_, rfl, rfl, trivial⟩
   have h1 := hsm j hj
   simp only [not_or, Nat.not_le] at hj
   simp (disch := omega) only [eget_eput_ne]
   exact h1
 · have hkm : k = m0 := by omega
   subst hkm
   simp (disch := first | omega | decide | simp only [go_sem]) only [go_sem, a100b1, f16, e18, hk]
   refine hQ _ (fun j hj => ?_) (by simp (disch := first | omega | decide | simp only [go_sem]) only [go_sem, e10])
   have h1 := hsm j hj
   simp only [not_or, Nat.not_le] at hj
   simp (disch := omega) only [eget_eput_ne]
   exact h1
include hT in
theorem rnum_b2 (hs : GOk s) {M : Nat} {zs : List (List Int)} (R : RTab s M zs) (hM : M ≤ 60) {H : List AE.Obj} {ws : List Nat} {o : GOp} {N N0 k3 k5 k9 sz : Nat} {l : List Tm} {es : List PV} {c0 : Int} {e0 : List PV} {Q : AExit → List PV → St → Prop} (ho : s.ops[N]? = some o) (hsz : es = [] ∨ sz = 3) (hel : es.length = l.length) (hl : l.length = o.args.length) (he : ∀ (i : Nat) (x : Tm) (p : PV), l[i]? = some x → es[i]? = some p → Enc x p)
 (hN0 : nodesL l = N0) (hNM : N0 ≤ M) (h60 : N0 < 60) (F : Fit (svOf s o) o.args.length N0 (fun k => (l.map Tm.nodes).getD k 0)) (hc0 : 0 ≤ c0) (B : NumM s H zs o N k3 k5 k9 (.slice sz es .any) e0)
 (e10 : eget e0 10 = .int .i64 (cap c0)) (e13 : eget e0 13 = .int .i64 (N0 : Int)) (e14 : eget e0 14 = .int .i64 1) (e15 : eget e0 15 = .int .i64 0)
 (hQ : ∀ e', Same (fun j => j = 10 ∨ 13 ≤ j ∧ j ≤ 18 ∨ 66 ≤ j) e0 e' → eget e' 10 = .int .i64 (cap (c0 + bsF (svOf s o) (rvOf s N) (fun k => (l.map Tm.nodes).getD k 0) N0 o.args.length)) → Q (.exit 2) e' ⟨H, ws, []⟩) : wpC T (.loop a100b2) e0 ⟨H, ws, []⟩ Q := by
 obtain ⟨a1, a2, a3⟩ := hs.ops _ (List.mem_of_getElem? ho)
 have S := sysOf hs.ops ho
 refine wpC.loopM (fun d e st => ∃ i : Nat, i + d = es.length ∧ Same (fun j => j = 10 ∨ 13 ≤ j ∧ j ≤ 18 ∨ 66 ≤ j) e0 e ∧ eget e 10 = .int .i64 (cap (c0 + bsF (svOf s o) (rvOf s N) (fun k => (l.map Tm.nodes).getD k 0) N0 i)) ∧ eget e 13 = .int .i64 ((lfF (fun k => (l.map Tm.nodes).getD k 0) N0 i : Nat) : Int) ∧ eget e 14 = .int .i64 (ahF (svOf s o) (fun k => (l.map Tm.nodes).getD k 0) i) ∧ eget e 15 = .int .i64 (i : Int) ∧ st = ⟨H, ws, []⟩) ?_ es.length _ _
  ⟨0, by omega, Same.refl _, by rw [e10]; simp only [bsF, Int.add_zero], by rw [e13]; rfl, by rw [e14]; rfl, e15, rfl⟩
 rintro d e st ⟨i, hd, hsm, e10, e13, e14, e15, rfl⟩
 obtain ⟨k3', k5', k9', f1, f3, f5, f9⟩ := B.same hsm (fun j hj => by omega)
 have l5 : loadAt false 1 (.ptr k5 0 2 1) H = some (.slice sz es .any) := by rw [ld_at k5']; rfl
 by_cases hi : i < es.length
 · have hiL : i < o.args.length := by omega
   obtain ⟨x, q, hx, hq, hE⟩ := enc_mem hel he hi
   have hs3 : sz = 3 := by
    rcases hsz with rfl | h
    · simp at hi
    · exact h
   subst hs3
   have hm := nodesL_mem (List.mem_of_getElem? hx)
   have bs := hE.sub
   obtain ⟨dd, ev, _⟩ := rsize_ev hT hE (by omega) H
   have hxz : (fun k => (l.map Tm.nodes).getD k 0) i = x.nodes := szs_get hx
   have hlo := F.lo i hiL
   have hle := F.le i hiL
   have hlf := lf_le (fun k => (l.map Tm.nodes).getD k 0) N0 i
   obtain ⟨ap1, ap2⟩ := ah_pos F i (by omega)
   have hb0 := bs_nn S F i (by omega)
   rw [show (l.map Tm.nodes).getD i 0 = x.nodes from hxz] at hlo hle
   have bsS : bsF (svOf s o) (rvOf s N) (fun k => (l.map Tm.nodes).getD k 0) N0 (i + 1) = bsF (svOf s o) (rvOf s N) (fun k => (l.map Tm.nodes).getD k 0) N0 i + preP (svOf s o) (rvOf s N) (ahF (svOf s o) (fun k => (l.map Tm.nodes).getD k 0) i) i (lfF (fun k => (l.map Tm.nodes).getD k 0) N0 i) (x.nodes - 1) := by
    simp only [bsF]; rw [show (l.map Tm.nodes).getD i 0 = x.nodes from hxz]
   have ahS : ahF (svOf s o) (fun k => (l.map Tm.nodes).getD k 0) (i + 1) = cap (ahF (svOf s o) (fun k => (l.map Tm.nodes).getD k 0) i * svOf s o i x.nodes) := by
    simp only [ahF]; rw [show (l.map Tm.nodes).getD i 0 = x.nodes from hxz]
   have lfS : lfF (fun k => (l.map Tm.nodes).getD k 0) N0 (i + 1) = lfF (fun k => (l.map Tm.nodes).getD k 0) N0 i - x.nodes := by
    simp only [lfF]; rw [show (l.map Tm.nodes).getD i 0 = x.nodes from hxz]
   have hPn := preP_nn S (show 0 ≤ ahF (svOf s o) (fun k => (l.map Tm.nodes).getD k 0) i by omega) i (lfF (fun k => (l.map Tm.nodes).getD k 0) N0 i) (x.nodes - 1)
   generalize ahF (svOf s o) (fun k => (l.map Tm.nodes).getD k 0) i = ahead at *
   generalize lfF (fun k => (l.map Tm.nodes).getD k 0) N0 i = left at *
   generalize bsF (svOf s o) (rvOf s N) (fun k => (l.map Tm.nodes).getD k 0) N0 i = bsv at *
   simp (disch := first | omega | decide | simp only [go_sem]) only [go_sem, a100b2, f1, f5, e10, e13, e14, e15, l5, hi, hq, bs, cb ev, hT.prim, primOf]
   refine rnum_b1 hT hs R hM (k3 := k3) (k5 := k5) (k9 := k9) (left := left) (m0 := x.nodes) (i := i) (ahead := ahead) (c0 := cap (c0 + bsv)) ho hiL hle (by omega) (by omega) ⟨by omega, ap2⟩ ⟨cap_nn' (by omega), cap_le_top _⟩ hlo ⟨k3', k5', k9', by simp (disch := first | omega | decide | simp only [go_sem]) only [go_sem, f1], by simp (disch := first | omega | decide | simp only [go_sem]) only [go_sem, f3], by simp (disch := first | omega | decide | simp only [go_sem]) only [go_sem, f5], by simp (disch := first | omega | decide | simp only [go_sem]) only [go_sem, f9]⟩ (by simp (disch := first | omega | decide | simp only [go_sem]) only [go_sem, e10]) (by simp (disch := first | omega | decide | simp only [go_sem]) only [go_sem, e13]) (by simp (disch := first | omega | decide | simp only [go_sem]) only [go_sem, e14]) (by simp (disch := first | omega | decide | simp only [go_sem]) only [go_sem, e15]) (by simp (disch := first | omega | decide | simp only [go_sem]) only [go_sem]) (by simp (disch := first | omega | decide | simp only [go_sem]) only [go_sem]) fun e' hs' g10 => ?_
   have g1 : eget e' 1 = .slice 1 (rowsV zs) .any := (hs' 1 (by omega)).trans (by simp (disch := first | omega | decide | simp only [go_sem]) only [go_sem, f1])
   have g9 : eget e' 9 = .ptr k9 0 0 1 := (hs' 9 (by omega)).trans (by simp (disch := first | omega | decide | simp only [go_sem]) only [go_sem, f9])
   have g13 : eget e' 13 = .int .i64 (left : Int) := (hs' 13 (by omega)).trans (by simp (disch := first | omega | decide | simp only [go_sem]) only [go_sem, e13])
   have g14 : eget e' 14 = .int .i64 ahead := (hs' 14 (by omega)).trans (by simp (disch := first | omega | decide | simp only [go_sem]) only [go_sem, e14])
   have g15 : eget e' 15 = .int .i64 (i : Int) := (hs' 15 (by omega)).trans (by simp (disch := first | omega | decide | simp only [go_sem]) only [go_sem, e15])
   have g16 : eget e' 16 = .int .i64 (x.nodes : Int) := (hs' 16 (by omega)).trans (by simp (disch := first | omega | decide | simp only [go_sem]) only [go_sem])
   have l9 : loadAt false 1 (.ptr k9 0 1 1) H = some (.slice 1 (o.args.map encI) .any) := by rw [ld_at k9']; rfl
   obtain ⟨ga, gl⟩ := a1.get hiL
   have gaE : (o.args.map encI)[i]? = some (.int .i64 (((o.args.getD i 0).toNat : Nat) : Int)) := by rw [List.getElem?_map, ga]; rfl
   obtain ⟨zr, gz, gc⟩ := R.row (show x.nodes ≤ M by omega)
   have gc := gc _ gl
   have hcn : cntOf s (o.args.getD i 0).toNat x.nodes = svOf s o i x.nodes := rfl
   rw [hcn] at gc
   have s0 := S.s0 i x.nodes
   have sc := sv_top hs.ops a1 hiL (show x.nodes < 61 by omega)
   have c1 := fun h => rproduct_ev hT ⟨show 0 ≤ ahead by omega, ap2⟩ ⟨s0, sc⟩ h
   rw [cap_cap_add hPn, Int.add_assoc, ← bsS] at g10
   simp (disch := first | omega | decide | simp only [go_sem]) only [go_sem, g1, g9, g10, g13, g14, g15, g16, l9, gaE, gz, gc, cb (c1 _), hT.prim, primOf, cast_sub hle]
   refine ⟨d - 1, by omega, i + 1, by omega, fun j hj => ?_, rfl, by rw [lfS], by rw [ahS], rfl, trivial⟩
   have h1 := hsm j hj
   simp only [not_or, not_and, Nat.not_le] at hj
   have h2 := hs' j (by omega)
   simp (disch := omega) only [eget_eput_ne] at h2 ⊢
   exact h2.trans h1
 · have hiL : i = o.args.length := by omega
   subst hiL
   simp (disch := first | omega | decide | simp only [go_sem]) only [go_sem, a100b2, f5, e15, l5, hi]
   refine hQ _ (fun j hj => ?_) (by simp (disch := first | omega | decide | simp only [go_sem]) only [go_sem, e10])
   have h1 := hsm j hj
   simp only [not_or, not_and, Nat.not_le] at hj
   simp (disch := omega) only [eget_eput_ne]
   exact h1
end Go.Proofs.Tryz
/- number: what it adds up. -/
namespace Go.Proofs.Tryz
open Go Go.AE
variable {T : Tbl} (hT : Std T) {s : GSig}
def App2 (H : List AE.Obj) (v w : PV) (xs ys : List Int) (lo : Nat) : Prop := (xs = [] ∧ ys = [] ∧ v = .slice 0 [] .nil ∧ w = .slice 0 [] .nil) ∨
 ∃ k1 k2, k1 ≠ k2 ∧ v = .slice 1 (xs.map encI) (.tok k1) ∧ w = .slice 1 (ys.map encI) (.tok k2) ∧ H[k1]? = some (.tok 1 xs.length) ∧ H[k2]? = some (.tok 1 ys.length) ∧ lo ≤ k1 ∧ lo ≤ k2
theorem App2.slices {H : List AE.Obj} {v w : PV} {xs ys : List Int} {lo : Nat} (A : App2 H v w xs ys lo) : ∃ z1 m1 z2 m2, v = .slice z1 (xs.map encI) m1 ∧ w = .slice z2 (ys.map encI) m2 ∧ (xs = [] ∨ z1 = 1) ∧ (ys = [] ∨ z2 = 1) := by
 rcases A with ⟨rfl, rfl, rfl, rfl⟩ | ⟨k1, k2, _, rfl, rfl, _⟩
 · exact ⟨0, .nil, 0, .nil, rfl, rfl, .inl rfl, .inl rfl⟩
 · exact ⟨1, _, 1, _, rfl, rfl, .inr rfl, .inr rfl⟩
theorem App2.push {H : List AE.Obj} {o : AE.Obj} {v w : PV} {xs ys : List Int} {lo : Nat} (A : App2 H v w xs ys lo) : App2 (H ++ [o]) v w xs ys lo := by
 rcases A with h | ⟨k1, k2, h0, h1, h2, h3, h4, h5, h6⟩
 · exact .inl h
 · exact .inr ⟨k1, k2, h0, h1, h2, keepL h3, keepL h4, h5, h6⟩
theorem app2_one {H : List AE.Obj} {v w : PV} {xs ys : List Int} {lo : Nat} (A : App2 H v w xs ys lo) (hx : xs.length < 100000) (hy : ys.length < 100000) (hlo : lo ≤ H.length) (ws : List Nat) (m n : Int) :
 ∃ v' w' H1 ws1 H2 ws2, (∀ ups, appendop 1 8 v (.slice 1 [.int .i64 m] .lit) ⟨H, ws, ups⟩ = some (v', ⟨H1, ws1, ups⟩)) ∧ (∀ ups, appendop 1 8 w (.slice 1 [.int .i64 n] .lit) ⟨H1, ws1, ups⟩ = some (w', ⟨H2, ws2, ups⟩)) ∧
   App2 H2 v' w' (xs ++ [m]) (ys ++ [n]) lo ∧ (∀ (j sz : Nat) (r : List PV), H[j]? = some (.row sz r) → H2[j]? = some (.row sz r)) ∧ Low lo H H2 ∧ ∀ x ∈ ws2, x ∈ ws ∨ lo ≤ x := by
 have hr : ∀ l : List Int, l.length < 100000 → (l.length + 1) * 8 ≤ room ∧ l.length + 1 ≤ room := fun l hl => by
  have : 10000000 ≤ room := by decide
  constructor <;> omega
 have ci : ∀ n : Int, (PV.int .i64 n).cells.all PV.isCell = true := fun _ => rfl
 have hrx := hr xs hx
 have hry := hr ys hy
 rcases A with ⟨rfl, rfl, rfl, rfl⟩ | ⟨k1, k2, h0, rfl, rfl, h3, h4, h5, h6⟩
 · simp at hrx
   refine ⟨.slice 1 [.int .i64 m] (.tok H.length), .slice 1 [.int .i64 n] (.tok (H ++ [AE.Obj.tok 1 1]).length), H ++ [.tok 1 1], ws, (H ++ [.tok 1 1]) ++ [.tok 1 1], ws, fun ups => ?_, fun ups => ?_, .inr ⟨H.length, (H ++ [AE.Obj.tok 1 1]).length, by simp, rfl, rfl, keepL (by simp), by simp, hlo, by simp; omega⟩, fun j sz r hj => keepL (keepL hj), ((Low.refl _ _).push hlo).push (by simp; omega), fun x hx => .inl hx⟩
   · simp [appendop, elems, ci, hrx, alloc]
   · simp [appendop, elems, ci, hrx, alloc]
 · have g2 : (H.set k1 (.tok 1 (xs.length + 1)))[k2]? = some (.tok 1 ys.length) := get_set_ne h4 h0
   refine ⟨.slice 1 ((xs ++ [m]).map encI) (.tok k1), .slice 1 ((ys ++ [n]).map encI) (.tok k2), H.set k1 (.tok 1 (xs.length + 1)), wadd k1 ws, (H.set k1 (.tok 1 (xs.length + 1))).set k2 (.tok 1 (ys.length + 1)), wadd k2 (wadd k1 ws), fun ups => ?_, fun ups => ?_, .inr ⟨k1, k2, h0, rfl, rfl, ?_, ?_, h5, h6⟩, fun j sz r hj => ?_, (Low.set h5).trans (.set h6), fun x hx => ?_⟩
   · simp [appendop, elems, ci, hrx, h3, wrote_none, encI]
   · simp [appendop, elems, ci, hry, g2, wrote_none, encI]
   · rw [get_set_ne (get_set h3) (Ne.symm h0)]; simp
   · rw [get_set g2]; simp
   · refine get_set_ne (get_set_ne hj ?_) ?_
     · rintro rfl; rw [h3] at hj; cases hj
     · rintro rfl; rw [h4] at hj; cases hj
   · rcases mem_wadd hx with h | h
     · rw [h]; exact .inr h6
     · rcases mem_wadd h with h | h
       · rw [h]; exact .inr h5
       · exact .inl h
theorem fe_int (n : Int) : fillE 1 (List.replicate 1 (PV.int .i64 0)) [(0, .int .i64 n)] = some [.int .i64 n] := rfl
def szsI (l : List Tm) : List Int := l.map fun t => (t.nodes : Int)
theorem szsI_get {l : List Tm} {k : Nat} (h : k < l.length) : (szsI l).map encI = (szsI l).map encI ∧ ((szsI l).map encI)[k]? = some (.int .i64 (((l.map Tm.nodes).getD k 0 : Nat) : Int)) := by
 refine ⟨rfl, ?_⟩
 rw [szs_get (getD_mem h)]
 simp [szsI, encI, h]
theorem numL_len : ∀ l : List Tm, (numL s l).length = l.length
 | [] => rfl
 | t :: l => by simp [numL, numL_len l]
theorem numL_app : ∀ (a b : List Tm), numL s (a ++ b) = numL s a ++ numL s b
 | [], _ => rfl
 | t :: a, b => by simp [numL, numL_app a b]
theorem take_app {l : List Tm} {i : Nat} {t : Tm} (h : l[i]? = some t) : l.take (i + 1) = l.take i ++ [t] := by
 rw [List.take_add_one, h]; rfl
include hT in
theorem number_b0 {l : List Tm} {z3 : Nat} {es : List PV} (hs3 : es = [] ∨ z3 = 3) (hl : es.length = l.length) (he : ∀ (i : Nat) (x : Tm) (p : PV), l[i]? = some x → es[i]? = some p → Enc x p) (hl9 : nodesL l < 1000)
 (ev : ∀ (i : Nat) (x : Tm) (p : PV), l[i]? = some x → es[i]? = some p → ∀ h, Ev T 96 [.iptr (tabV s) 0, p] h (.val (.tuple [.int .i64 (x.num s), .int .i64 (x.nodes : Int)]), ⟨h, [], []⟩))
 {h H0 : List AE.Obj} {ws0 : List Nat} {e0 : List PV} {k3 k6 : Nat} {P : PV} {o : GOp} {Q : AExit → List PV → St → Prop} (low0 : Low h.length h H0) (hw0 : ∀ x ∈ ws0, h.length ≤ x) (hk3 : H0[k3]? = some (.row 3 [P])) (hk6 : H0[k6]? = some (.row 3 [encOp o]))
 (f0 : eget e0 0 = .iptr (tabV s) 0) (f3 : eget e0 3 = .ptr k3 0 0 1) (f6 : eget e0 6 = .ptr k6 0 0 1) (f7 : eget e0 7 = .slice 0 [] .nil) (f8 : eget e0 8 = .slice 0 [] .nil) (f9 : eget e0 9 = .int .i64 1) (f33 : eget e0 33 = .slice z3 es .any) (f34 : eget e0 34 = .int .i64 (es.length : Int)) (f35 : eget e0 35 = .int .i64 0)
 (hQ : ∀ e' H ws v w, Low h.length h H → (∀ x ∈ ws, h.length ≤ x) → H[k3]? = some (.row 3 [P]) → H[k6]? = some (.row 3 [encOp o]) → App2 H v w (szsI l) (numL s l) h.length → eget e' 0 = .iptr (tabV s) 0 → eget e' 3 = .ptr k3 0 0 1 → eget e' 6 = .ptr k6 0 0 1 → eget e' 7 = v → eget e' 8 = w → eget e' 9 = .int .i64 ((1 + nodesL l : Nat) : Int) → Q (.exit 0) e' ⟨H, ws, []⟩) :
 wpC T (.loop a96b0) e0 ⟨H0, ws0, []⟩ Q := by
 refine wpC.loopM (fun g e st => ∃ (i : Nat) (H : List AE.Obj) (ws : List Nat) (v w : PV), i + g = es.length ∧ Low h.length h H ∧ (∀ x ∈ ws, h.length ≤ x) ∧ H[k3]? = some (.row 3 [P]) ∧ H[k6]? = some (.row 3 [encOp o]) ∧ App2 H v w (szsI (l.take i)) (numL s (l.take i)) h.length ∧ eget e 0 = .iptr (tabV s) 0 ∧ eget e 3 = .ptr k3 0 0 1 ∧ eget e 6 = .ptr k6 0 0 1 ∧ eget e 7 = v ∧ eget e 8 = w ∧ eget e 9 = .int .i64 ((1 + nodesL (l.take i) : Nat) : Int) ∧ eget e 33 = .slice z3 es .any ∧ eget e 34 = .int .i64 (es.length : Int) ∧ eget e 35 = .int .i64 (i : Int) ∧ st = ⟨H, ws, []⟩) ?_ es.length _ _
  ⟨0, H0, ws0, _, _, by omega, low0, hw0, hk3, hk6, .inl ⟨rfl, rfl, rfl, rfl⟩, f0, f3, f6, f7, f8, f9, f33, f34, f35, rfl⟩
 rintro g e st ⟨i, H, ws, v, w, hi, low, hw, hk3, hk6, A, e0, e3, e6, e7, e8, e9, e33, e34, e35, rfl⟩
 by_cases h1 : i < es.length
 · have ga := get_lt h1
   have hx : l[i]? = some l[i] := List.getElem?_eq_getElem (by omega)
   have hE := he i l[i] es[i] hx ga
   have evx := ev i l[i] es[i] hx ga
   have htk := take_app hx
   have hnt := nodesL_take hx
   have hng := nodesL_get hx
   have hll := nodesL_len l
   generalize l[i] = x at *
   have hsz : z3 = 3 := by
    rcases hs3 with rfl | h
    · simp at h1
    · exact h
   subst hsz
   obtain ⟨b1, b2, b3, b4⟩ := hE.cells
   have bt := hE.facts.1
   have bs := hE.sub
   generalize es[i] = q at *
   have sb := st_box (h := H) (ws := ws) (ups := []) (z := .agg [(.int .i64 0), (.int .i64 0), (.slice 0 [] .nil)]) (sz := 3) (c := q) b1 rfl b2 bt ⟨_, rfl⟩ b4
   have kq : (H ++ [AE.Obj.row 3 [q]])[H.length]? = some (.row 3 [q]) := by simp
   have hHl := low.len
   have low1 : Low h.length h (H ++ [AE.Obj.row 3 [q]]) := low.push hHl
   have hk3' : (H ++ [AE.Obj.row 3 [q]])[k3]? = some (.row 3 [P]) := keepL hk3
   have hk6' : (H ++ [AE.Obj.row 3 [q]])[k6]? = some (.row 3 [encOp o]) := keepL hk6
   have A1 := A.push (o := AE.Obj.row 3 [q])
   generalize hH5 : H ++ [AE.Obj.row 3 [q]] = H5 at *
   have lq : loadAt true 3 (.ptr H.length 0 0 1) H5 = some q := by rw [ld_at kq]; exact bs
   obtain ⟨v', w', Ha, wsa, Hb, wsb, ap1, ap2, A2, keep, low2, hwb⟩ := app2_one A1 (by simp [szsI]; omega) (by rw [numL_len]; simp; omega) low1.len (wadd H.length ws) (x.nodes : Int) (x.num s)
   have hcast : ((1 + nodesL (l.take i) : Nat) : Int) + (x.nodes : Int) = ((1 + nodesL (l.take (i + 1)) : Nat) : Int) := by rw [hnt]; omega
   have w64 : IntKind.i64.wrap (((1 + nodesL (l.take i) : Nat) : Int) + (x.nodes : Int)) = ((1 + nodesL (l.take (i + 1)) : Nat) : Int) := by rw [wrap64 (by omega) (by omega), hcast]
   simp (disch := first | omega | decide | simp only [go_sem]) only [go_sem, a96b0, e0, e3, e6, e7, e8, e9, e33, e34, e35, h1, ga, bs, sb, hH5, lq, cb (evx _), hT.prim, primOf, fe_int, ap1, ap2, w64, List.length_cons, List.length_nil]
   refine ⟨g - 1, by omega, i + 1, Hb, wsb, v', w', by omega, low1.trans low2, fun y hy => ?_, keep _ _ _ hk3', keep _ _ _ hk6', ?_, rfl, rfl, ?_, rfl, rfl⟩
   · rcases hwb y hy with h | h
     · rcases mem_wadd h with h | h
       · rw [h]; exact hHl
       · exact hw y h
     · exact h
   · rw [htk, numL_app]
     simpa [szsI, numL] using A2
   · first | rfl | rw [hcast]
 · have : i = l.length := by omega
   subst this
   rw [List.take_length] at A e9
   simp (disch := first | omega | decide | simp only [go_sem]) only [go_sem, a96b0, e0, e3, e6, e7, e8, e9, e33, e34, e35, h1]
   exact hQ _ H ws v w low hw hk3 hk6 A (by simp (disch := first | omega | decide | simp only [go_sem]) only [go_sem, e0]) (by simp (disch := first | omega | decide | simp only [go_sem]) only [go_sem, e3]) (by simp (disch := first | omega | decide | simp only [go_sem]) only [go_sem, e6]) (by simp (disch := first | omega | decide | simp only [go_sem]) only [go_sem, e7]) (by simp (disch := first | omega | decide | simp only [go_sem]) only [go_sem, e8]) (by simp (disch := first | omega | decide | simp only [go_sem]) only [go_sem, e9])
end Go.Proofs.Tryz
/- number: the sums. -/
namespace Go.Proofs.Tryz
open Go Go.AE
variable {T : Tbl} (hT : Std T) {s : GSig}
theorem tab_t1 : sub false 1 (tabV s) 1 = some (.slice 3 (s.ops.map encOp) .any) := rfl
theorem tab_t3 : sub false 1 (tabV s) 3 = some (.slice 1 ((tabOf s).2.map fun r => .slice 61 (r.map arr) .any) .any) := rfl
@[go_sem] theorem encOp_sub2 {o : GOp} : sub false 1 (encOp o) 2 = some (.int .i64 o.res) := rfl
@[go_sem] theorem encOp_sub1 {o : GOp} : sub false 1 (encOp o) 1 = some (.slice 1 (o.args.map encI) .any) := rfl
include hT in
theorem number_b1 (hs : GOk s) {N p : Nat} (hN : N ≤ s.ops.length) (hp : p < 60) {H : List AE.Obj} {ws : List Nat} {e0 : List PV} {k3 k6 : Nat} {v w : PV} {o : GOp} {Q : AExit → List PV → St → Prop} (hk6 : H[k6]? = some (.row 3 [encOp o]))
 (f0 : eget e0 0 = .iptr (tabV s) 0) (f3 : eget e0 3 = .ptr k3 0 0 1) (f6 : eget e0 6 = .ptr k6 0 0 1) (f7 : eget e0 7 = v) (f8 : eget e0 8 = w) (f9 : eget e0 9 = .int .i64 ((p + 1 : Nat) : Int)) (f14 : eget e0 14 = .int .i64 0) (f58 : eget e0 58 = .int .i64 (N : Int)) (f59 : eget e0 59 = .int .i64 0)
 (hQ : ∀ e', eget e' 0 = .iptr (tabV s) 0 → eget e' 3 = .ptr k3 0 0 1 → eget e' 6 = .ptr k6 0 0 1 → eget e' 7 = v → eget e' 8 = w → eget e' 9 = .int .i64 ((p + 1 : Nat) : Int) → eget e' 14 = .int .i64 (cap (aT s.ops (tabOf s) o.res p N)) → Q (.exit 2) e' ⟨H, ws, []⟩) :
 wpC T (.loop a96b1) e0 ⟨H, ws, []⟩ Q := by
 have hnO := hs.nO
 obtain ⟨_, K⟩ := tabOf_sem hs.ops
 refine wpC.loopM (fun g e st => ∃ i : Nat, i + g = N ∧ eget e 0 = .iptr (tabV s) 0 ∧ eget e 3 = .ptr k3 0 0 1 ∧ eget e 6 = .ptr k6 0 0 1 ∧ eget e 7 = v ∧ eget e 8 = w ∧ eget e 9 = .int .i64 ((p + 1 : Nat) : Int) ∧ eget e 14 = .int .i64 (cap (aT s.ops (tabOf s) o.res p i)) ∧ eget e 58 = .int .i64 (N : Int) ∧ eget e 59 = .int .i64 (i : Int) ∧ st = ⟨H, ws, []⟩) ?_ N _ _
  ⟨0, by omega, f0, f3, f6, f7, f8, f9, f14, f58, f59, rfl⟩
 rintro g e st ⟨i, hi, e0, e3, e6, e7, e8, e9, e14, e58, e59, rfl⟩
 have l2 : loadAt false 1 (.ptr k6 0 2 1) H = some (.int .i64 o.res) := by rw [ld_at hk6]; rfl
 by_cases h1 : i < N
 · have hiO : i < s.ops.length := by omega
   have go := get_op hiO
   have ho : s.ops[i]? = some s.ops[i] := List.getElem?_eq_getElem hiO
   have C := nthC hs ho
   generalize s.ops[i] = oi at *
   have gr := C.gr
   have gk := get_arr C.okR (k := 0) (by rw [C.rl]; omega)
   have hr0 := (C.okR.get (k := 0) (by rw [C.rl]; omega)).2
   have hp61 : p < 61 := by omega
   have lw := ld_arr hr0 hp61
   have bw := (hr0.get hp61).2
   have a0 := aT_nn K (r := o.res) (p := p) i
   have c1 := fun h => plus_ev hT (h := h) (cap_nn a0) (cap_top _) bw.1 bw.2
   simp only [cap_def] at c1
   have hn1 : aT s.ops (tabOf s) o.res p (i + 1) = aT s.ops (tabOf s) o.res p i + if oi.res = o.res then (((tabOf s).2.getD i []).getD 0 []).getD p 0 else 0 := by simp only [aT, ho]
   by_cases hr : oi.res = o.res
   · rw [if_pos hr] at hn1
     have b1 : (oi.res == o.res) = true := by simpa using hr
     rw [cap_cap_add bw.1, ← hn1] at c1
     simp (disch := first | omega | decide | simp only [go_sem]) only [go_sem, a96b1, e0, e3, e6, e7, e8, e9, e14, e58, e59, h1, tab_t1, tab_t3, go, b1, l2, gr, gk, lw, hp61, cb (c1 _), hT.prim, primOf]
     exact ⟨g - 1, by omega, i + 1, by omega, rfl, rfl, trivial⟩
   · rw [if_neg hr, Int.add_zero] at hn1
     have b1 : (oi.res == o.res) = false := by simpa using hr
     simp (disch := first | omega | decide | simp only [go_sem]) only [go_sem, a96b1, e0, e3, e6, e7, e8, e9, e14, e58, e59, h1, tab_t1, tab_t3, go, b1, l2, hT.prim, primOf]
     exact ⟨g - 1, by omega, i + 1, by omega, by rw [hn1], rfl, trivial⟩
 · have : i = N := by omega
   subst this
   simp (disch := first | omega | decide | simp only [go_sem]) only [go_sem, a96b1, e0, e3, e6, e7, e8, e9, e14, e58, e59, h1]
   exact hQ _ (by simp (disch := first | omega | decide | simp only [go_sem]) only [go_sem, e0]) (by simp (disch := first | omega | decide | simp only [go_sem]) only [go_sem, e3]) (by simp (disch := first | omega | decide | simp only [go_sem]) only [go_sem, e6]) (by simp (disch := first | omega | decide | simp only [go_sem]) only [go_sem, e7]) (by simp (disch := first | omega | decide | simp only [go_sem]) only [go_sem, e8]) (by simp (disch := first | omega | decide | simp only [go_sem]) only [go_sem, e9]) (by simp (disch := first | omega | decide | simp only [go_sem]) only [go_sem, e14])
include hT in
theorem number_b2 (hs : GOk s) {N k a q sz : Nat} {o : GOp} (ho : s.ops[N]? = some o) (hk : k < o.args.length) (haa : (o.args.getD k 0).toNat = a) (hq : q < 60) (hsz : sz ≤ q) (hsz1 : 1 ≤ sz) {ah base : Int} (hah : 0 ≤ ah ∧ ah ≤ 1099511627776) (hbase : 0 ≤ base) {H : List AE.Obj} {ws : List Nat} {e0 : List PV} {k3 : Nat} {kk : Int} {Lz : PV} {zs : List PV} {m7 : SM} {Q : AExit → List PV → St → Prop}
 (hk3 : H[k3]? = some (.row 3 [.agg [.int .i64 kk, .int .i64 (N : Int), Lz]])) (gz : zs[k]? = some (.int .i64 (sz : Int)))
 (f0 : eget e0 0 = .iptr (tabV s) 0) (f3 : eget e0 3 = .ptr k3 0 0 1) (f7 : eget e0 7 = .slice 1 zs m7) (f14 : eget e0 14 = .int .i64 (cap base)) (f16 : eget e0 16 = .int .i64 (q : Int)) (f17 : eget e0 17 = .int .i64 ah) (f18 : eget e0 18 = .int .i64 (k : Int)) (f19 : eget e0 19 = .int .i64 (a : Int)) (f20 : eget e0 20 = .int .i64 1)
 (hQ : ∀ e', Same (fun j => j = 14 ∨ j = 20 ∨ 99 ≤ j) e0 e' → eget e' 14 = .int .i64 (cap (base + preP (svOf s o) (rvOf s N) ah k q (sz - 1))) → Q (.exit 6) e' ⟨H, ws, []⟩) :
 wpC T (.loop a96b2) e0 ⟨H, ws, []⟩ Q := by
 have C := nthC hs ho
 have S := sysOf hs.ops ho
 have hal := C.al
 obtain ⟨_, gl⟩ := C.args.get hk
 rw [haa] at gl
 have hso := (C.okS.get (k := a) (by rw [C.ro]; exact gl)).2
 have hr1 := (C.okR.get (k := k + 1) (by rw [C.rl]; omega)).2
 have gs := get_arr C.okS (k := a) (by rw [C.ro]; exact gl)
 have gk := get_arr C.okR (k := k + 1) (by rw [C.rl]; omega)
 have gr := C.gr
 have hnO := hs.nO
 have hNO : N < s.ops.length := (List.getElem?_eq_some_iff.1 ho).1
 have l1 : loadAt false 1 (.ptr k3 0 1 1) H = some (.int .i64 (N : Int)) := by rw [ld_at hk3]; rfl
 refine wpC.loopM (fun g e st => ∃ m : Nat, m + g = sz ∧ 1 ≤ m ∧ Same (fun j => j = 14 ∨ j = 20 ∨ 99 ≤ j) e0 e ∧ eget e 14 = .int .i64 (cap (base + preP (svOf s o) (rvOf s N) ah k q (m - 1))) ∧ eget e 20 = .int .i64 (m : Int) ∧ st = ⟨H, ws, []⟩) ?_ (sz - 1) _ _
  ⟨1, by omega, by omega, Same.refl _, by simpa [preP] using f14, f20, rfl⟩
 rintro g e st ⟨m, hm, hm1, hsm, e14, e20, rfl⟩
 have e0' := (hsm 0 (by omega)).trans f0
 have e3 := (hsm 3 (by omega)).trans f3
 have e7 := (hsm 7 (by omega)).trans f7
 have e16 := (hsm 16 (by omega)).trans f16
 have e17 := (hsm 17 (by omega)).trans f17
 have e18 := (hsm 18 (by omega)).trans f18
 have e19 := (hsm 19 (by omega)).trans f19
 by_cases h1 : m < sz
 · have hmq : m ≤ q := by omega
   have hm61 : m < 61 := by omega
   have hqm : q - m < 61 := by omega
   have ls := ld_arr hso hm61
   have lr := ld_arr hr1 hqm
   have b2 := (hso.get hm61).2
   have b1 := (hr1.get hqm).2
   have hp1 := Int.mul_nonneg hah.1 b2.1
   have c1 := fun h => times_ev hT (h := h) hah.1 hah.2 b2.1 b2.2
   have c2 := fun h => times_ev hT (h := h) (cap_nn hp1) (cap_top _) b1.1 b1.2
   simp only [cap_def] at c1 c2
   have hp2 := Int.mul_nonneg (cap_nn hp1) b1.1
   have hpre := preP_nn S hah.1 k q (m - 1)
   have hw0 := cap_nn hp2
   have c3 := fun h => plus_ev hT (h := h) (cap_nn (show 0 ≤ base + preP (svOf s o) (rvOf s N) ah k q (m - 1) by omega)) (cap_top _) hw0 (cap_top _)
   simp only [cap_def] at c3
   rw [cap_cap_add hw0] at c3
   have hstep : base + preP (svOf s o) (rvOf s N) ah k q (m - 1) + cap (cap (ah * ((tabOf s).1.getD a []).getD m 0) * (((tabOf s).2.getD N []).getD (k + 1) []).getD (q - m) 0) = base + preP (svOf s o) (rvOf s N) ah k q m := by
    obtain ⟨m', rfl⟩ : ∃ m', m = m' + 1 := ⟨m - 1, by omega⟩
    simp only [preP, Nat.add_sub_cancel, wayW, svOf, rvOf, haa]
    omega
   rw [hstep] at c3
   simp (disch := first | omega | decide | simp only [go_sem]) only [go_sem, a96b2, e0', e3, e7, e14, e16, e17, e18, e19, e20, gz, h1, tab_t2, tab_t3, gs, gk, gr, ls, lr, l1, cb (c1 _), cb (c2 _), cb (c3 _), hT.prim, primOf, cast_sub hmq, hm61, hqm]
   refine ⟨g - 1, by omega, m + 1, by omega, by omega, fun j hj => ?_, rfl, rfl, trivial⟩
   have h1 := hsm j hj
   simp only [not_or, Nat.not_le] at hj
   simp (disch := omega) only [eget_eput_ne]
   exact h1
 · have : m = sz := by omega
   subst this
   simp (disch := first | omega | decide | simp only [go_sem]) only [go_sem, a96b2, e0', e3, e7, e14, e16, e17, e18, e19, e20, gz, h1]
   refine hQ _ (fun j hj => ?_) (by simp (disch := first | omega | decide | simp only [go_sem]) only [go_sem, e14])
   have h1 := hsm j hj
   simp only [not_or, Nat.not_le] at hj
   simp (disch := omega) only [eget_eput_ne]
   exact h1
end Go.Proofs.Tryz
/- number: whole. -/
namespace Go.Proofs.Tryz
open Go Go.AE
variable {T : Tbl} (hT : Std T) {s : GSig}
structure NumH (s : GSig) (H : List AE.Obj) (k3 k6 N : Nat) (kk : Int) (Lz : PV) (o : GOp) (l : List Tm) (zs ns : List PV) (z1 z2 : Nat) : Prop where
 h3 : H[k3]? = some (.row 3 [.agg [.int .i64 kk, .int .i64 (N : Int), Lz]])
 h6 : H[k6]? = some (.row 3 [encOp o])
 ezs : zs = (szsI l).map encI
 ens : ns = (numL s l).map encI
 hz1 : zs = [] ∨ z1 = 1
 hz2 : ns = [] ∨ z2 = 1
include hT in
theorem number_b3 (hs : GOk s) {N : Nat} {o : GOp} (ho : s.ops[N]? = some o) {l : List Tm} (hl : l.length = o.args.length) (hN60 : nodesL l < 60) (F : Fit (svOf s o) o.args.length (nodesL l) (fun k => (l.map Tm.nodes).getD k 0)) {A : Int} (hA : 0 ≤ A)
 {H : List AE.Obj} {ws : List Nat} {e0 : List PV} {k3 k6 : Nat} {kk : Int} {Lz : PV} {zs ns : List PV} {z1 z2 : Nat} {m7 m8 : SM} (R : NumH s H k3 k6 N kk Lz o l zs ns z1 z2) {Q : AExit → List PV → St → Prop}
 (f0 : eget e0 0 = .iptr (tabV s) 0) (f3 : eget e0 3 = .ptr k3 0 0 1) (f7 : eget e0 7 = .slice z1 zs m7) (f14 : eget e0 14 = .int .i64 (cap A)) (f16 : eget e0 16 = .int .i64 (nodesL l : Int)) (f17 : eget e0 17 = .int .i64 1) (f92 : eget e0 92 = .slice 1 (o.args.map encI) .any) (f93 : eget e0 93 = .int .i64 (o.args.length : Int)) (f94 : eget e0 94 = .int .i64 0)
 (hQ : ∀ e', Same (fun j => 14 ≤ j ∧ j ≤ 20 ∨ 94 ≤ j) e0 e' → eget e' 14 = .int .i64 (cap (A + bsF (svOf s o) (rvOf s N) (fun k => (l.map Tm.nodes).getD k 0) (nodesL l) o.args.length)) → Q (.exit 4) e' ⟨H, ws, []⟩) :
 wpC T (.loop a96b3) e0 ⟨H, ws, []⟩ Q := by
 have C := nthC hs ho
 have S := sysOf hs.ops ho
 have hal := C.al
 generalize hszf : (fun k => (l.map Tm.nodes).getD k 0) = sz at *
 refine wpC.loopM (fun g e st => ∃ k : Nat, k + g = o.args.length ∧ Same (fun j => 14 ≤ j ∧ j ≤ 20 ∨ 94 ≤ j) e0 e ∧ eget e 14 = .int .i64 (cap (A + bsF (svOf s o) (rvOf s N) sz (nodesL l) k)) ∧ eget e 16 = .int .i64 (lfF sz (nodesL l) k : Int) ∧ eget e 17 = .int .i64 (ahF (svOf s o) sz k) ∧ eget e 94 = .int .i64 (k : Int) ∧ st = ⟨H, ws, []⟩) ?_ o.args.length _ _
  ⟨0, by omega, Same.refl _, by simpa [bsF] using f14, f16, f17, f94, rfl⟩
 rintro g e st ⟨k, hk0, hsm, e14, e16, e17, e94, rfl⟩
 have e0' := (hsm 0 (by omega)).trans f0
 have e3 := (hsm 3 (by omega)).trans f3
 have e7 := (hsm 7 (by omega)).trans f7
 have e92 := (hsm 92 (by omega)).trans f92
 have e93 := (hsm 93 (by omega)).trans f93
 by_cases hk : k < o.args.length
 · obtain ⟨ga, gl⟩ := C.args.get hk
   have gaE : (o.args.map encI)[k]? = some (.int .i64 (((o.args.getD k 0).toNat : Nat) : Int)) := by rw [List.getElem?_map, ga]; rfl
   have hsv : ∀ m, svOf s o k m = ((tabOf s).1.getD (o.args.getD k 0).toNat []).getD m 0 := fun m => rfl
   have hso := (C.okS.get (k := (o.args.getD k 0).toNat) (by rw [C.ro]; exact gl)).2
   have gs := get_arr C.okS (k := (o.args.getD k 0).toNat) (by rw [C.ro]; exact gl)
   have haa : (o.args.getD k 0).toNat = (o.args.getD k 0).toNat := rfl
   have gz : zs[k]? = some (.int .i64 (sz k : Int)) := by
    rw [R.ezs, ← hszf]
    exact (szsI_get (show k < l.length by omega)).2
   have hz1 : z1 = 1 := by
    rcases R.hz1 with h | h
    · rw [h] at gz; simp at gz
    · exact h
   subst hz1
   have hlo := F.lo k hk
   have hle := F.le k hk
   have hlf := lf_le sz (nodesL l) k
   have ahp := ah_pos F k (by omega)
   have b0 := bs_nn S F k (by omega)
   have hs61 : sz k < 61 := by omega
   have ls := ld_arr hso hs61
   have b2 := (hso.get hs61).2
   have c1 := fun h => times_ev hT (h := h) (show 0 ≤ ahF (svOf s o) sz k by omega) ahp.2 b2.1 b2.2
   simp only [cap_def] at c1
   have hbs : A + bsF (svOf s o) (rvOf s N) sz (nodesL l) k + preP (svOf s o) (rvOf s N) (ahF (svOf s o) sz k) k (lfF sz (nodesL l) k) (sz k - 1) = A + bsF (svOf s o) (rvOf s N) sz (nodesL l) (k + 1) := by simp only [bsF]; omega
   have hah : cap (ahF (svOf s o) sz k * ((tabOf s).1.getD (o.args.getD k 0).toNat []).getD (sz k) 0) = ahF (svOf s o) sz (k + 1) := rfl
   rw [hah] at c1
   generalize ha : (o.args.getD k 0).toNat = a at *
   simp (disch := first | omega | decide | simp only [go_sem]) only [go_sem, a96b3, e0', e3, e7, e14, e16, e17, e92, e93, e94, hk, gaE]
   refine number_b2 hT hs ho hk ha (m7 := m7) (q := lfF sz (nodesL l) k) (sz := sz k) (by omega) hle hlo ⟨by omega, ahp.2⟩ (base := A + bsF (svOf s o) (rvOf s N) sz (nodesL l) k) (by omega) R.h3 gz (by simp (disch := first | omega | decide | simp only [go_sem]) only [go_sem, e0']) (by simp (disch := first | omega | decide | simp only [go_sem]) only [go_sem, e3]) (by simp (disch := first | omega | decide | simp only [go_sem]) only [go_sem, e7]) (by simp (disch := first | omega | decide | simp only [go_sem]) only [go_sem, e14]) (by simp (disch := first | omega | decide | simp only [go_sem]) only [go_sem, e16]) (by simp (disch := first | omega | decide | simp only [go_sem]) only [go_sem, e17]) (by simp (disch := first | omega | decide | simp only [go_sem]) only [go_sem]) (by simp (disch := first | omega | decide | simp only [go_sem]) only [go_sem]) (by simp (disch := first | omega | decide | simp only [go_sem]) only [go_sem]) fun e' hs' e14' => ?_
   rw [hbs] at e14'
   have g0 : eget e' 0 = .iptr (tabV s) 0 := (hs' 0 (by omega)).trans (by simp (disch := first | omega | decide | simp only [go_sem]) only [go_sem, e0'])
   have g7 : eget e' 7 = .slice 1 zs m7 := (hs' 7 (by omega)).trans (by simp (disch := first | omega | decide | simp only [go_sem]) only [go_sem, e7])
   have g16 : eget e' 16 = .int .i64 (lfF sz (nodesL l) k : Int) := (hs' 16 (by omega)).trans (by simp (disch := first | omega | decide | simp only [go_sem]) only [go_sem, e16])
   have g17 : eget e' 17 = .int .i64 (ahF (svOf s o) sz k) := (hs' 17 (by omega)).trans (by simp (disch := first | omega | decide | simp only [go_sem]) only [go_sem, e17])
   have g18 : eget e' 18 = .int .i64 (k : Int) := (hs' 18 (by omega)).trans (by simp (disch := first | omega | decide | simp only [go_sem]) only [go_sem])
   have g19 : eget e' 19 = .int .i64 (a : Int) := (hs' 19 (by omega)).trans (by simp (disch := first | omega | decide | simp only [go_sem]) only [go_sem])
   have g94 : eget e' 94 = .int .i64 (k : Int) := (hs' 94 (by omega)).trans (by simp (disch := first | omega | decide | simp only [go_sem]) only [go_sem, e94])
   simp (disch := first | omega | decide | simp only [go_sem]) only [go_sem, g0, g7, g16, g17, g18, g19, g94, gz, tab_t2, gs, hs61, ls, cb (c1 _), hT.prim, primOf, cast_sub hle]
   refine ⟨g - 1, by omega, k + 1, by omega, fun j hj => ?_, e14', rfl, rfl, rfl, trivial⟩
   have h1 := hsm j hj
   simp only [not_or, not_and, Nat.not_le] at hj
   have h2 := hs' j (by omega)
   simp (disch := omega) only [eget_eput_ne] at h2 ⊢
   exact h2.trans h1
 · have : k = o.args.length := by omega
   subst this
   simp (disch := first | omega | decide | simp only [go_sem]) only [go_sem, a96b3, e0', e3, e7, e14, e16, e17, e92, e93, e94, hk]
   refine hQ _ (fun j hj => ?_) (by simp (disch := first | omega | decide | simp only [go_sem]) only [go_sem, e14])
   have h1 := hsm j hj
   simp only [not_or, not_and, Nat.not_le] at hj
   simp (disch := omega) only [eget_eput_ne]
   exact h1
include hT in
theorem number_b4 (hs : GOk s) {N : Nat} {o : GOp} (ho : s.ops[N]? = some o) {l : List Tm} (hl : l.length = o.args.length) (hN60 : nodesL l < 60) (F : Fit (svOf s o) o.args.length (nodesL l) (fun k => (l.map Tm.nodes).getD k 0)) (hnm : ∀ k, k < o.args.length → 0 ≤ (numL s l).getD k 0 ∧ (numL s l).getD k 0 ≤ 1099511627776) {A : Int} (hA : 0 ≤ A)
 {H : List AE.Obj} {ws : List Nat} {e0 : List PV} {k3 k6 : Nat} {kk : Int} {Lz : PV} {zs ns : List PV} {z1 z2 : Nat} {m7 m8 : SM} (R : NumH s H k3 k6 N kk Lz o l zs ns z1 z2) {Q : AExit → List PV → St → Prop}
 (f0 : eget e0 0 = .iptr (tabV s) 0) (f6 : eget e0 6 = .ptr k6 0 0 1) (f7 : eget e0 7 = .slice z1 zs m7) (f8 : eget e0 8 = .slice z2 ns m8) (f14 : eget e0 14 = .int .i64 (cap A)) (f21 : eget e0 21 = .int .i64 1) (f22 : eget e0 22 = .int .i64 ((o.args.length : Int) - 1))
 (hQ : ∀ e', Same (fun j => j = 14 ∨ j = 21 ∨ j = 22 ∨ 162 ≤ j) e0 e' → eget e' 14 = .int .i64 (cap (A + dnF (svOf s o) (fun k => (l.map Tm.nodes).getD k 0) (fun k => (numL s l).getD k 0) o.args.length o.args.length)) → Q (.exit 8) e' ⟨H, ws, []⟩) :
 wpC T (.loop a96b4) e0 ⟨H, ws, []⟩ Q := by
 have C := nthC hs ho
 have hal := C.al
 generalize hszf : (fun k => (l.map Tm.nodes).getD k 0) = sz at *
 generalize hnmf : (fun k => (numL s l).getD k 0) = nm at *
 have hnm' : ∀ k, k < o.args.length → 0 ≤ nm k ∧ nm k ≤ 1099511627776 := fun k hk => by rw [← hnmf]; exact hnm k hk
 refine wpC.loopM (fun d e st => d ≤ o.args.length ∧ Same (fun j => j = 14 ∨ j = 21 ∨ j = 22 ∨ 162 ≤ j) e0 e ∧ eget e 14 = .int .i64 (cap (A + dnF (svOf s o) sz nm o.args.length (o.args.length - d))) ∧ eget e 21 = .int .i64 (beF (svOf s o) sz o.args.length (o.args.length - d)) ∧ eget e 22 = .int .i64 ((d : Int) - 1) ∧ st = ⟨H, ws, []⟩) ?_ o.args.length _ _
  ⟨Nat.le_refl _, Same.refl _, by simpa [dnF] using f14, by simpa [beF] using f21, f22, rfl⟩
 rintro d e st ⟨hd, hsm, e14, e21, e22, rfl⟩
 have e0' := (hsm 0 (by omega)).trans f0
 have e6 := (hsm 6 (by omega)).trans f6
 have e7 := (hsm 7 (by omega)).trans f7
 have e8 := (hsm 8 (by omega)).trans f8
 cases d with
 | zero =>
   have c : ¬ ((0 : Int) ≤ ((0 : Nat) : Int) - 1) := by omega
   simp (disch := first | omega | decide | simp only [go_sem]) only [go_sem, a96b4, e0', e6, e7, e8, e14, e21, e22, c]
   refine hQ _ (fun j hj => ?_) (by simp (disch := first | omega | decide | simp only [go_sem]) only [go_sem, e14]; rfl)
   have h1 := hsm j hj
   simp only [not_or, Nat.not_le] at hj
   simp (disch := omega) only [eget_eput_ne]
   exact h1
 | succ k =>
   have c : (0 : Int) ≤ (k : Int) := by omega
   have hk : k < o.args.length := by omega
   obtain ⟨ga, gl⟩ := C.args.get hk
   have gaE : (o.args.map encI)[k]? = some (.int .i64 (((o.args.getD k 0).toNat : Nat) : Int)) := by rw [List.getElem?_map, ga]; rfl
   have hso := (C.okS.get (k := (o.args.getD k 0).toNat) (by rw [C.ro]; exact gl)).2
   have gs := get_arr C.okS (k := (o.args.getD k 0).toNat) (by rw [C.ro]; exact gl)
   have gz : zs[k]? = some (.int .i64 (sz k : Int)) := by
    rw [R.ezs, ← hszf]
    exact (szsI_get (show k < l.length by omega)).2
   have gn : ns[k]? = some (.int .i64 (nm k)) := by
    rw [R.ens, ← hnmf, List.getElem?_map]
    show Option.map encI (numL s l)[k]? = some (.int .i64 ((numL s l).getD k 0))
    rw [List.getD_eq_getElem?_getD, List.getElem?_eq_getElem (by rw [numL_len]; omega)]
    rfl
   have hz1 : z1 = 1 := by
    rcases R.hz1 with h | h
    · rw [h] at gz; simp at gz
    · exact h
   have hz2 : z2 = 1 := by
    rcases R.hz2 with h | h
    · rw [h] at gn; simp at gn
    · exact h
   subst hz1 hz2
   have hle := F.le k hk
   have hlf := lf_le sz (nodesL l) k
   have hs61 : sz k < 61 := by omega
   have ls := ld_arr hso hs61
   have b2 := (hso.get hs61).2
   obtain ⟨j, hj⟩ : ∃ j, o.args.length - (k + 1) = j := ⟨_, rfl⟩
   have hj1 : o.args.length - k = j + 1 := by omega
   have hj2 : o.args.length - 1 - j = k := by omega
   rw [hj] at e14 e21
   have bep := be_pos F j (by omega)
   have d0 := dn_nn F (fun k hk => (hnm' k hk).1) j (by omega)
   have nk := hnm' k hk
   have hp1 := Int.mul_nonneg nk.1 (show 0 ≤ beF (svOf s o) sz o.args.length j by omega)
   have c1 := fun h => times_ev hT (h := h) nk.1 nk.2 (show 0 ≤ beF (svOf s o) sz o.args.length j by omega) bep.2
   have c2 := fun h => plus_ev hT (h := h) (cap_nn (show 0 ≤ A + dnF (svOf s o) sz nm o.args.length j by omega)) (cap_top _) (cap_nn hp1) (cap_top _)
   have c3 := fun h => times_ev hT (h := h) (show 0 ≤ beF (svOf s o) sz o.args.length j by omega) bep.2 b2.1 b2.2
   simp only [cap_def] at c1 c2 c3
   have hout : cap (cap (A + dnF (svOf s o) sz nm o.args.length j) + cap (nm k * beF (svOf s o) sz o.args.length j)) = cap (A + dnF (svOf s o) sz nm o.args.length (j + 1)) := by
    rw [cap_cap_add (cap_nn hp1), cap_add_cap (by omega)]
    simp only [dnF, hj2]
    rw [Int.add_assoc]
   rw [hout] at c2
   have hbe : cap (beF (svOf s o) sz o.args.length j * ((tabOf s).1.getD (o.args.getD k 0).toNat []).getD (sz k) 0) = beF (svOf s o) sz o.args.length (j + 1) := by
    simp only [beF, hj2]
    rfl
   rw [hbe] at c3
   have lo : loadAt false 1 (.ptr k6 0 1 1) H = some (.slice 1 (o.args.map encI) .any) := by rw [ld_at R.h6]; rfl
   generalize (o.args.getD k 0).toNat = a at *
   simp (disch := first | omega | decide | simp only [go_sem]) only [go_sem, a96b4, e0', e6, e7, e8, e14, e21, e22, c, gn, gz, gaE, tab_t2, gs, hs61, ls, lo, cb (c1 _), cb (c2 _), cb (c3 _), hT.prim, primOf]
   refine ⟨k, by omega, by omega, fun j' hj' => ?_, by rw [hj1], by rw [hj1], rfl, trivial⟩
   have h1 := hsm j' hj'
   simp only [not_or, Nat.not_le] at hj'
   simp (disch := omega) only [eget_eput_ne]
   exact h1
end Go.Proofs.Tryz
/- number, ground, Number. -/
namespace Go.Proofs.Tryz
open Go Go.AE
variable {T : Tbl} (hT : Std T) {s : GSig}
theorem num_cap (t : Tm) : t.num s ≤ 1099511627776 := by
 obtain ⟨k, n, l⟩ := t
 simp only [Tm.num]
 split
 · exact cap_le_top _
 · decide
include hT in
theorem number_ev (hs : GOk s) {t : Tm} {p : PV} (ht : Enc t p) : ∀ (a : Int), WT s t a → t.nodes ≤ 60 → ∀ h : List AE.Obj, Ev T 96 [.iptr (tabV s) 0, p] h (.val (.tuple [.int .i64 (t.num s), .int .i64 (t.nodes : Int)]), ⟨h, [], []⟩) := by
 have hc := ht.cells
 have hf := ht.facts
 induction ht with
 | mk k n l sz es hz hl he ih =>
   intro a hw h60 h
   obtain ⟨rfl, hn, o, ho, hr, hls⟩ := hw
   obtain ⟨N, rfl⟩ := Int.eq_ofNat_of_zero_le hn
   simp only [Int.toNat_natCast] at ho
   have hlen := WTs_len hls
   simp only [Tm.nodes] at h60
   refine Ev.walk (hT.sp _ (by decide)) ((hT.fn _).trans fn96) (hT.mode _) rfl ?_
   obtain ⟨c1, c2, c3, c4⟩ := hc
   have evc : ∀ (i : Nat) (x : Tm) (p : PV), l[i]? = some x → es[i]? = some p → ∀ h, Ev T 96 [.iptr (tabV s) 0, p] h (.val (.tuple [.int .i64 (x.num s), .int .i64 (x.nodes : Int)]), ⟨h, [], []⟩) := fun i x q hx hq h => by
    have hE := he i x q hx hq
    have hm := nodesL_mem (List.mem_of_getElem? hx)
    exact ih i x q hx hq hE.cells hE.facts _ (WTs_get hls hx) (by omega) h
   have hNO : N < s.ops.length := (List.getElem?_eq_some_iff.1 ho).1
   have hnO := hs.nO
   obtain ⟨a1, a2, a3⟩ := hs.ops _ (List.mem_of_getElem? ho)
   have go : (s.ops.map encOp)[N]? = some (encOp o) := by rw [List.getElem?_map, ho]; rfl
   have soo : sub true 3 (encOp o) 0 = some (encOp o) := rfl
   have F : Fit (svOf s o) o.args.length (nodesL l) (fun k => (l.map Tm.nodes).getD k 0) := fitOf hlen fun k hk => by
    have hm := nodesL_mem (List.getElem_mem hk)
    exact (cnt_pos hs.ops _ l[k] _ (Nat.le_refl _) (by omega) (WTs_get hls (getD_mem hk))).2.2
   have hnm : ∀ k, k < o.args.length → 0 ≤ (numL s l).getD k 0 ∧ (numL s l).getD k 0 ≤ 1099511627776 := fun k hk => by
    have hk' : k < l.length := by omega
    have hm := nodesL_mem (List.getElem_mem hk')
    rw [numL_get (getD_mem hk')]
    exact ⟨num_nn hs.ops _ l[k] _ (Nat.le_refl _) (by omega) (WTs_get hls (getD_mem hk')), num_cap _⟩
   have hb0 := bs_nn (sysOf hs.ops ho) F o.args.length (Nat.le_refl _)
   obtain ⟨_, K⟩ := tabOf_sem hs.ops
   have hA0 := aT_nn K (r := o.res) (p := nodesL l) N
   have hnum : Tm.num s (.mk 2 (N : Int) l) = cap (aT s.ops (tabOf s) o.res (nodesL l) N + bsF (svOf s o) (rvOf s N) (fun k => (l.map Tm.nodes).getD k 0) (nodesL l) o.args.length + dnF (svOf s o) (fun k => (l.map Tm.nodes).getD k 0) (fun k => (numL s l).getD k 0) o.args.length o.args.length) := by
    simp only [Tm.num, Int.toNat_natCast, ho]
    rw [Int.add_assoc]
   have hnodes : ((Tm.mk 2 (N : Int) l).nodes : Int) = ((nodesL l + 1 : Nat) : Int) := by simp only [Tm.nodes]; omega
   rw [hnum, hnodes]
   generalize hP : PV.agg [.int .i64 2, .int .i64 (N : Int), .slice sz es .any] = P at *
   have kp : (h ++ [AE.Obj.row 3 [P]])[h.length]? = some (.row 3 [P]) := by simp
   have low1 : Low h.length h (h ++ [AE.Obj.row 3 [P]]) := (Low.refl _ _).push (Nat.le_refl _)
   have hl1 : (h ++ [AE.Obj.row 3 [P]]).length = h.length + 1 := by simp
   generalize hH1 : h ++ [AE.Obj.row 3 [P]] = H1 at *
   have kz : ∀ z, (H1 ++ [AE.Obj.row 3 [z]])[h.length]? = some (.row 3 [P]) := fun z => keepL kp
   have lz1 : ∀ z, loadAt false 1 (.ptr h.length 0 1 1) (H1 ++ [AE.Obj.row 3 [z]]) = some (.int .i64 (N : Int)) := fun z => by rw [ld_at (kz z), ← hP]; rfl
   have sb := fun ws => st_box (h := H1) (ws := ws) (ups := []) (z := .agg [(.str ⟨#[]⟩), (.slice 0 [] .nil), (.int .i64 0)]) (sz := 3) (c := encOp o) rfl rfl rfl (top_op _) ⟨_, rfl⟩ ⟨_, rfl⟩
   have ko : (H1 ++ [AE.Obj.row 3 [encOp o]])[H1.length]? = some (.row 3 [encOp o]) := by simp
   have kp2 : (H1 ++ [AE.Obj.row 3 [encOp o]])[h.length]? = some (.row 3 [P]) := keepL kp
   have low2 : Low h.length h (H1 ++ [AE.Obj.row 3 [encOp o]]) := low1.push (by omega)
   have lz2 : loadAt false 1 (.ptr h.length 0 2 1) (H1 ++ [AE.Obj.row 3 [encOp o]]) = some (.slice sz es .any) := by rw [ld_at kp2, ← hP]; rfl
   generalize hH2 : H1 ++ [AE.Obj.row 3 [encOp o]] = H2 at *
   simp (disch := first | omega | decide | simp only [go_sem]) only [go_sem, hH1, c1, c3, List.length_cons, List.length_nil, tab_t1, lz1, go, soo, sb, hH2, lz2]
   refine number_b0 hT (o := o) hz hl he (by omega) evc (h := h) low2 (fun x hx => by
    rcases mem_wall hx with hx | hx
    · rcases mem_wadd hx with hx | hx
      · omega
      · cases hx
    · cases hx) kp2 ko (by simp (disch := first | omega | decide | simp only [go_sem]) only [go_sem]) (by simp (disch := first | omega | decide | simp only [go_sem]) only [go_sem]) (by simp (disch := first | omega | decide | simp only [go_sem]) only [go_sem]) (by simp (disch := first | omega | decide | simp only [go_sem]) only [go_sem]) (by simp (disch := first | omega | decide | simp only [go_sem]) only [go_sem]) (by simp (disch := first | omega | decide | simp only [go_sem]) only [go_sem]) (by simp (disch := first | omega | decide | simp only [go_sem]) only [go_sem]) (by simp (disch := first | omega | decide | simp only [go_sem]) only [go_sem]) (by simp (disch := first | omega | decide | simp only [go_sem]) only [go_sem]) fun e1' H3 ws3 v w low3 hw3 kp3 ko3 A2 g0 g3 g6 g7 g8 g9 => ?_
   obtain ⟨z1, m1, z2, m2, rfl, rfl, hz1, hz2⟩ := A2.slices
   have l31 : loadAt false 1 (.ptr h.length 0 1 1) H3 = some (.int .i64 (N : Int)) := by rw [ld_at kp3, ← hP]; rfl
   have l61 : loadAt false 1 (.ptr H1.length 0 1 1) H3 = some (.slice 1 (o.args.map encI) .any) := by rw [ld_at ko3]; rfl
   have R : NumH s H3 h.length H1.length N 2 (.slice sz es .any) o l ((szsI l).map encI) ((numL s l).map encI) z1 z2 := ⟨by rw [kp3, ← hP], ko3, rfl, rfl, by rcases hz1 with h | h; exact .inl (by rw [h]; rfl); exact .inr h, by rcases hz2 with h | h; exact .inl (by rw [h]; rfl); exact .inr h⟩
   have g9' : eget e1' 9 = .int .i64 ((nodesL l + 1 : Nat) : Int) := by rw [g9, Nat.add_comm]
   simp (disch := first | omega | decide | simp only [go_sem]) only [go_sem, g0, g3, g6, g7, g8, g9', l31]
   refine number_b1 hT hs (o := o) (N := N) (p := nodesL l) (k3 := h.length) (k6 := H1.length) (v := .slice z1 ((szsI l).map encI) m1) (w := .slice z2 ((numL s l).map encI) m2) (by omega) (by omega) ko3 (by simp (disch := first | omega | decide | simp only [go_sem]) only [go_sem, g0]) (by simp (disch := first | omega | decide | simp only [go_sem]) only [go_sem, g3]) (by simp (disch := first | omega | decide | simp only [go_sem]) only [go_sem, g6]) (by simp (disch := first | omega | decide | simp only [go_sem]) only [go_sem, g7]) (by simp (disch := first | omega | decide | simp only [go_sem]) only [go_sem, g8]) (by simp (disch := first | omega | decide | simp only [go_sem]) only [go_sem, g9']) (by simp (disch := first | omega | decide | simp only [go_sem]) only [go_sem]) (by simp (disch := first | omega | decide | simp only [go_sem]) only [go_sem]) (by simp (disch := first | omega | decide | simp only [go_sem]) only [go_sem]) fun e2' q0 q3 q6 q7 q8 q9 q14 => ?_
   simp (disch := first | omega | decide | simp only [go_sem]) only [go_sem, q0, q3, q6, q7, q8, q9, q14, l61]
   refine number_b3 hT hs ho hlen (by omega) F hA0 (m8 := m2) R (m7 := m1) (by simp (disch := first | omega | decide | simp only [go_sem]) only [go_sem, q0]) (by simp (disch := first | omega | decide | simp only [go_sem]) only [go_sem, q3]) (by simp (disch := first | omega | decide | simp only [go_sem]) only [go_sem, q7]) (by simp (disch := first | omega | decide | simp only [go_sem]) only [go_sem, q14]) (by simp (disch := first | omega | decide | simp only [go_sem]) only [go_sem]) (by simp (disch := first | omega | decide | simp only [go_sem]) only [go_sem]) (by simp (disch := first | omega | decide | simp only [go_sem]) only [go_sem]) (by simp (disch := first | omega | decide | simp only [go_sem]) only [go_sem]) (by simp (disch := first | omega | decide | simp only [go_sem]) only [go_sem]) fun e3' hs3 r14 => ?_
   have r0 : eget e3' 0 = .iptr (tabV s) 0 := (hs3 0 (by omega)).trans (by simp (disch := first | omega | decide | simp only [go_sem]) only [go_sem, q0])
   have r6 : eget e3' 6 = .ptr H1.length 0 0 1 := (hs3 6 (by omega)).trans (by simp (disch := first | omega | decide | simp only [go_sem]) only [go_sem, q6])
   have r7 : eget e3' 7 = .slice z1 ((szsI l).map encI) m1 := (hs3 7 (by omega)).trans (by simp (disch := first | omega | decide | simp only [go_sem]) only [go_sem, q7])
   have r8 : eget e3' 8 = .slice z2 ((numL s l).map encI) m2 := (hs3 8 (by omega)).trans (by simp (disch := first | omega | decide | simp only [go_sem]) only [go_sem, q8])
   have r9 : eget e3' 9 = .int .i64 ((nodesL l + 1 : Nat) : Int) := (hs3 9 (by omega)).trans (by simp (disch := first | omega | decide | simp only [go_sem]) only [go_sem, q9])
   simp (disch := first | omega | decide | simp only [go_sem]) only [go_sem, r0, r6, r7, r8, r9, r14, l61]
   refine number_b4 hT hs ho hlen (by omega) F hnm (show 0 ≤ aT s.ops (tabOf s) o.res (nodesL l) N + bsF (svOf s o) (rvOf s N) (fun k => (l.map Tm.nodes).getD k 0) (nodesL l) o.args.length by omega) R (m7 := m1) (m8 := m2) (by simp (disch := first | omega | decide | simp only [go_sem]) only [go_sem, r0]) (by simp (disch := first | omega | decide | simp only [go_sem]) only [go_sem, r6]) (by simp (disch := first | omega | decide | simp only [go_sem]) only [go_sem, r7]) (by simp (disch := first | omega | decide | simp only [go_sem]) only [go_sem, r8]) (by simp (disch := first | omega | decide | simp only [go_sem]) only [go_sem, r14]) (by simp (disch := first | omega | decide | simp only [go_sem]) only [go_sem]) (by simp (disch := first | omega | decide | simp only [go_sem]) only [go_sem]) fun e4' hs4 t14 => ?_
   have t9 : eget e4' 9 = .int .i64 ((nodesL l + 1 : Nat) : Int) := (hs4 9 (by omega)).trans (by simp (disch := first | omega | decide | simp only [go_sem]) only [go_sem, r9])
   simp (disch := first | omega | decide | simp only [go_sem]) only [go_sem, t9, t14]
   exact tidy_low rfl rfl low3 hw3
end Go.Proofs.Tryz
/- The specification's number. -/
namespace Go.Proofs.Tryz
open Go Go.AE
variable {T : Tbl} (hT : Std T) {s : GSig}
include hT in
theorem rnum_b3 (hs : GOk s) {M : Nat} {zs : List (List Int)} (R : RTab s M zs) (hM : M ≤ 60) {H : List AE.Obj} {ws : List Nat} {o : GOp} {N N0 k3 k5 k9 sz : Nat} {l : List Tm} {es : List PV} {e0 : List PV} {Q : AExit → List PV → St → Prop} (ho : s.ops[N]? = some o) (hsz : es = [] ∨ sz = 3) (hel : es.length = l.length) (hl : l.length = o.args.length) (he : ∀ (i : Nat) (x : Tm) (p : PV), l[i]? = some x → es[i]? = some p → Enc x p)
 (hN0 : nodesL l = N0) (hNM : N0 ≤ M) (h60 : N0 < 60) (F : Fit (svOf s o) o.args.length N0 (fun k => (l.map Tm.nodes).getD k 0)) (hnm : ∀ k, k < o.args.length → 0 ≤ (numL s l).getD k 0 ∧ (numL s l).getD k 0 ≤ 1099511627776)
 (IH : ∀ (i : Nat) (x : Tm) (p : PV), l[i]? = some x → es[i]? = some p → ∀ h, Ev T 100 [encSig s, .slice 1 (rowsV zs) .any, p] h (.val (.int .i64 (x.num s)), ⟨h, [], []⟩)) (B : NumM s H zs o N k3 k5 k9 (.slice sz es .any) e0)
 (e19 : eget e0 19 = .int .i64 0) (e20 : eget e0 20 = .int .i64 0)
 (hQ : ∀ e', Same (fun j => 19 ≤ j) e0 e' → eget e' 19 = .int .i64 (hoF (svOf s o) (fun k => (l.map Tm.nodes).getD k 0) (fun k => (numL s l).getD k 0) o.args.length) → Q (.exit 6) e' ⟨H, ws, []⟩) : wpC T (.loop a100b3) e0 ⟨H, ws, []⟩ Q := by
 obtain ⟨a1, a2, a3⟩ := hs.ops _ (List.mem_of_getElem? ho)
 have S := sysOf hs.ops ho
 refine wpC.loopM (fun d e st => ∃ i : Nat, i + d = es.length ∧ Same (fun j => 19 ≤ j) e0 e ∧ eget e 19 = .int .i64 (hoF (svOf s o) (fun k => (l.map Tm.nodes).getD k 0) (fun k => (numL s l).getD k 0) i) ∧ eget e 20 = .int .i64 (i : Int) ∧ st = ⟨H, ws, []⟩) ?_ es.length _ _
  ⟨0, by omega, Same.refl _, by rw [e19]; rfl, e20, rfl⟩
 rintro d e st ⟨i, hd, hsm, e19, e20, rfl⟩
 obtain ⟨k3', k5', k9', f1, f3, f5, f9⟩ := B.same hsm (fun j hj => by omega)
 have l5 : loadAt false 1 (.ptr k5 0 2 1) H = some (.slice sz es .any) := by rw [ld_at k5']; rfl
 by_cases hi : i < es.length
 · have hiL : i < o.args.length := by omega
   obtain ⟨x, q, hx, hq, hE⟩ := enc_mem hel he hi
   have ih := IH i x q hx hq
   have hs3 : sz = 3 := by
    rcases hsz with rfl | h
    · simp at hi
    · exact h
   subst hs3
   have hm := nodesL_mem (List.mem_of_getElem? hx)
   have bs := hE.sub
   obtain ⟨dd, ev, _⟩ := rsize_ev hT hE (by omega) H
   have hxz : (l.map Tm.nodes).getD i 0 = x.nodes := szs_get hx
   have hxn : (numL s l).getD i 0 = x.num s := numL_get hx
   have hn1 := hnm i hiL
   rw [hxn] at hn1
   have l3 : loadAt true 2 (.ptr k3 0 0 1) H = some (encSig s) := by rw [ld_at k3']; rfl
   have l9 : loadAt false 1 (.ptr k9 0 1 1) H = some (.slice 1 (o.args.map encI) .any) := by rw [ld_at k9']; rfl
   obtain ⟨ga, gl⟩ := a1.get hiL
   have gaE : (o.args.map encI)[i]? = some (.int .i64 (((o.args.getD i 0).toNat : Nat) : Int)) := by rw [List.getElem?_map, ga]; rfl
   obtain ⟨zr, gz, gc⟩ := R.row (show x.nodes ≤ M by omega)
   have gc := gc _ gl
   have hcn : cntOf s (o.args.getD i 0).toNat x.nodes = svOf s o i x.nodes := rfl
   rw [hcn] at gc
   have s0 := S.s0 i x.nodes
   have sc := sv_top hs.ops a1 hiL (show x.nodes < 61 by omega)
   obtain ⟨h0, h1⟩ := ho_nn (L := o.args.length) (sv := svOf s o) (sz := fun k => (l.map Tm.nodes).getD k 0) (nm := fun k => (numL s l).getD k 0) (fun k hk => by have := F.pos k hk; omega) (fun k hk => (hnm k hk).1) i (by omega)
   have hoS : hoF (svOf s o) (fun k => (l.map Tm.nodes).getD k 0) (fun k => (numL s l).getD k 0) (i + 1) = cap (cap (hoF (svOf s o) (fun k => (l.map Tm.nodes).getD k 0) (fun k => (numL s l).getD k 0) i * svOf s o i x.nodes) + x.num s) := by
    simp only [hoF]; rw [hxz, hxn]
   generalize hoF (svOf s o) (fun k => (l.map Tm.nodes).getD k 0) (fun k => (numL s l).getD k 0) i = ho' at *
   have p0 := Int.mul_nonneg h0 s0
   have c1 := fun h => rproduct_ev hT ⟨h0, h1⟩ ⟨s0, sc⟩ h
   have q0 := cap_nn' p0
   have q1 := cap_le_top (ho' * svOf s o i x.nodes)
   have c2 := fun h => rcapped_ev hT (n := cap (ho' * svOf s o i x.nodes) + x.num s) (by omega) h
   rw [← hoS] at c2
   simp (disch := first | omega | decide | simp only [go_sem]) only [go_sem, a100b3, f1, f3, f5, f9, e19, e20, l5, l3, l9, hi, hq, bs, cb ev, cb (ih _), gaE, gz, gc, cb (c1 _), cb (c2 _), hT.prim, primOf]
   refine ⟨d - 1, by omega, i + 1, by omega, fun j hj => ?_, rfl, rfl, trivial⟩
   have h1 := hsm j hj
   simp only [not_or, Nat.not_le] at hj
   simp (disch := omega) only [eget_eput_ne]
   exact h1
 · have hiL : i = o.args.length := by omega
   subst hiL
   simp (disch := first | omega | decide | simp only [go_sem]) only [go_sem, a100b3, f5, e20, l5, hi]
   refine hQ _ (fun j hj => ?_) (by simp (disch := first | omega | decide | simp only [go_sem]) only [go_sem, e19])
   have h1 := hsm j hj
   simp only [Nat.not_le] at hj
   simp (disch := omega) only [eget_eput_ne]
   exact h1
include hT in
theorem rnumber_ev (hs : GOk s) {M : Nat} {zs : List (List Int)} (R : RTab s M zs) (hM : M ≤ 60) {t : Tm} {p : PV} (ht : Enc t p) : ∀ (a : Int), WT s t a → t.nodes ≤ M → ∀ h : List AE.Obj, Ev T 100 [encSig s, .slice 1 (rowsV zs) .any, p] h (.val (.int .i64 (t.num s)), ⟨h, [], []⟩) := by
 have hc := ht.cells
 have hsz2 := fun hn h => rsize_ev hT ht hn h
 induction ht with
 | mk k n l sz es hz hl he ih =>
   intro a hw h60 h
   obtain ⟨rfl, hn, o, ho, hr, hls⟩ := hw
   obtain ⟨N, rfl⟩ := Int.eq_ofNat_of_zero_le hn
   simp only [Int.toNat_natCast] at ho
   have hlen := WTs_len hls
   obtain ⟨dd, evz, _⟩ := hsz2 (by omega) ((h ++ [AE.Obj.row 2 [encSig s]]) ++ [AE.Obj.row 3 [.agg [.int .i64 2, .int .i64 (N : Int), .slice sz es .any]]])
   simp only [Tm.nodes] at h60 evz
   refine Ev.walk (hT.sp _ (by decide)) ((hT.fn _).trans fn100) (hT.mode _) rfl ?_
   obtain ⟨c1, c2, c3, c4⟩ := hc
   have hNO : N < s.ops.length := (List.getElem?_eq_some_iff.1 ho).1
   have hnO := hs.nO
   obtain ⟨a1, a2, a3⟩ := hs.ops _ (List.mem_of_getElem? ho)
   have go : (s.ops.map encOp)[N]? = some (encOp o) := by rw [List.getElem?_map, ho]; rfl
   have soo : sub true 3 (encOp o) 0 = some (encOp o) := rfl
   have F : Fit (svOf s o) o.args.length (nodesL l) (fun k => (l.map Tm.nodes).getD k 0) := fitOf hlen fun k hk => by
    have hm := nodesL_mem (List.getElem_mem hk)
    exact (cnt_pos hs.ops _ l[k] _ (Nat.le_refl _) (by omega) (WTs_get hls (getD_mem hk))).2.2
   have hnm : ∀ k, k < o.args.length → 0 ≤ (numL s l).getD k 0 ∧ (numL s l).getD k 0 ≤ 1099511627776 := fun k hk => by
    have hk' : k < l.length := by omega
    have hm := nodesL_mem (List.getElem_mem hk')
    rw [numL_get (getD_mem hk')]
    exact ⟨num_nn hs.ops _ l[k] _ (Nat.le_refl _) (by omega) (WTs_get hls (getD_mem hk')), num_cap _⟩
   have evc : ∀ (i : Nat) (x : Tm) (p : PV), l[i]? = some x → es[i]? = some p → ∀ h, Ev T 100 [encSig s, .slice 1 (rowsV zs) .any, p] h (.val (.int .i64 (x.num s)), ⟨h, [], []⟩) := fun i x q hx hq h => by
    have hE := he i x q hx hq
    have hm := nodesL_mem (List.mem_of_getElem? hx)
    exact ih i x q hx hq hE.cells (fun hn h => rsize_ev hT hE hn h) _ (WTs_get hls hx) (by omega) h
   have hb0 := bs_nn (sysOf hs.ops ho) F o.args.length (Nat.le_refl _)
   obtain ⟨_, K⟩ := tabOf_sem hs.ops
   have hA0 := aT_nn K (r := o.res) (p := nodesL l) N
   have hd0 := dn_nn F (fun k hk => (hnm k hk).1) o.args.length (Nat.le_refl _)
   have hho := ho_all F (fun k hk => (hnm k hk).1)
   have hnum : Tm.num s (.mk 2 (N : Int) l) = cap (cap (aT s.ops (tabOf s) o.res (nodesL l) N + bsF (svOf s o) (rvOf s N) (fun k => (l.map Tm.nodes).getD k 0) (nodesL l) o.args.length) + hoF (svOf s o) (fun k => (l.map Tm.nodes).getD k 0) (fun k => (numL s l).getD k 0) o.args.length) := by
    simp only [Tm.num, Int.toNat_natCast, ho]
    rw [hho, cap_cap_add (cap_nn' hd0), cap_add_cap (by omega), Int.add_assoc]
   have hq0 := cap_nn' (show 0 ≤ aT s.ops (tabOf s) o.res (nodesL l) N + bsF (svOf s o) (rvOf s N) (fun k => (l.map Tm.nodes).getD k 0) (nodesL l) o.args.length by omega)
   have hq1 := cap_le_top (aT s.ops (tabOf s) o.res (nodesL l) N + bsF (svOf s o) (rvOf s N) (fun k => (l.map Tm.nodes).getD k 0) (nodesL l) o.args.length)
   have hh0 := cap_nn' hd0
   have hh1 := cap_le_top (dnF (svOf s o) (fun k => (l.map Tm.nodes).getD k 0) (fun k => (numL s l).getD k 0) o.args.length o.args.length)
   rw [← hho] at hh0 hh1
   have cf := fun h => rcapped_ev hT (n := cap (aT s.ops (tabOf s) o.res (nodesL l) N + bsF (svOf s o) (rvOf s N) (fun k => (l.map Tm.nodes).getD k 0) (nodesL l) o.args.length) + hoF (svOf s o) (fun k => (l.map Tm.nodes).getD k 0) (fun k => (numL s l).getD k 0) o.args.length) (by omega) h
   rw [← hnum] at cf
   generalize hP : PV.agg [.int .i64 2, .int .i64 (N : Int), .slice sz es .any] = P at *
   have k3 : ((h ++ [AE.Obj.row 2 [encSig s]]) ++ [AE.Obj.row 3 [P]])[h.length]? = some (.row 2 [encSig s]) := keepL (by simp)
   have k5 : ((h ++ [AE.Obj.row 2 [encSig s]]) ++ [AE.Obj.row 3 [P]])[(h ++ [AE.Obj.row 2 [encSig s]]).length]? = some (.row 3 [P]) := by simp
   have low : Low h.length h ((h ++ [AE.Obj.row 2 [encSig s]]) ++ [AE.Obj.row 3 [P]]) := ((Low.refl _ _).push (Nat.le_refl _)).push (by simp)
   have hlo : h.length ≤ ((h ++ [AE.Obj.row 2 [encSig s]]) ++ [AE.Obj.row 3 [P]]).length := by simp
   generalize hkp : (h ++ [AE.Obj.row 2 [encSig s]]).length = kp at *
   generalize hH : (h ++ [AE.Obj.row 2 [encSig s]]) ++ [AE.Obj.row 3 [P]] = H at *
   have hsub : sub true 3 P 0 = some P := by rw [← hP]; rfl
   have lP : loadAt true 3 (.ptr kp 0 0 1) H = some P := by rw [ld_at k5]; exact hsub
   have l51 : loadAt false 1 (.ptr kp 0 1 1) H = some (.int .i64 (N : Int)) := by rw [ld_at k5, ← hP]; rfl
   have l31 : loadAt false 1 (.ptr h.length 0 1 1) H = some (.slice 3 (s.ops.map encOp) .any) := by rw [ld_at k3]; rfl
   have sb := fun ws => st_box (h := H) (ws := ws) (ups := []) (z := .agg [(.str ⟨#[]⟩), (.slice 0 [] .nil), (.int .i64 0)]) (sz := 3) (c := encOp o) rfl rfl rfl (top_op _) ⟨_, rfl⟩ ⟨_, rfl⟩
   have j3 : (H ++ [AE.Obj.row 3 [encOp o]])[h.length]? = some (.row 2 [encSig s]) := keepL k3
   have j5 : (H ++ [AE.Obj.row 3 [encOp o]])[kp]? = some (.row 3 [P]) := keepL k5
   have j9 : (H ++ [AE.Obj.row 3 [encOp o]])[H.length]? = some (.row 3 [encOp o]) := by simp
   have low2 : Low h.length h (H ++ [AE.Obj.row 3 [encOp o]]) := low.push hlo
   generalize hH2 : H ++ [AE.Obj.row 3 [encOp o]] = H2 at *
   rw [← hP] at j5
   have hnd : ((1 + nodesL l : Nat) : Int) = ((nodesL l + 1 : Nat) : Int) := by omega
   rw [hnd] at evz
   simp (disch := first | omega | decide | simp only [go_sem]) only [go_sem, hkp, hH, c1, c3, lP, cb evz, hT.prim, primOf, l51, l31, go, soo, sb, hH2, List.length_cons, List.length_nil]
   have hsub1 : ((nodesL l + 1 : Nat) : Int) - 1 = (nodesL l : Int) := by omega
   refine rnum_b0 hT hs R hM (p := nodesL l) (N := N) (k3 := h.length) (k5 := kp) (k9 := H.length) (v := .slice sz es .any) (o := o) (by omega) (by omega) (by omega) ⟨j3, j5, j9, by simp (disch := first | omega | decide | simp only [go_sem]) only [go_sem], by simp (disch := first | omega | decide | simp only [go_sem]) only [go_sem], by simp (disch := first | omega | decide | simp only [go_sem]) only [go_sem], by simp (disch := first | omega | decide | simp only [go_sem]) only [go_sem]⟩ (by simp (disch := first | omega | decide | simp only [go_sem]) only [go_sem]) (by simp (disch := first | omega | decide | simp only [go_sem]) only [go_sem]) (by simp (disch := first | omega | decide | simp only [go_sem]) only [go_sem]) fun e1 hs1 e10 => ?_
   have B1 : NumM s H2 zs o N h.length kp H.length (.slice sz es .any) e1 := ⟨j3, j5, j9, (hs1 1 (by omega)).trans (by simp (disch := first | omega | decide | simp only [go_sem]) only [go_sem]), (hs1 3 (by omega)).trans (by simp (disch := first | omega | decide | simp only [go_sem]) only [go_sem]), (hs1 5 (by omega)).trans (by simp (disch := first | omega | decide | simp only [go_sem]) only [go_sem]), (hs1 9 (by omega)).trans (by simp (disch := first | omega | decide | simp only [go_sem]) only [go_sem])⟩
   have g7 : eget e1 7 = .int .i64 ((nodesL l + 1 : Nat) : Int) := (hs1 7 (by omega)).trans (by simp (disch := first | omega | decide | simp only [go_sem]) only [go_sem])
   have g1 := B1.e1
   have g3 := B1.e3
   have g5 := B1.e5
   have g9 := B1.e9
   simp (disch := first | omega | decide | simp only [go_sem]) only [go_sem, g7, e10, g1, g3, g5, g9]
   refine rnum_b2 hT hs R hM (N := N) (N0 := nodesL l) (k3 := h.length) (k5 := kp) (k9 := H.length) (sz := sz) (l := l) (es := es) (c0 := aT s.ops (tabOf s) o.res (nodesL l) N) ho hz hl hlen he rfl (by omega) (by omega) F hA0 ⟨j3, j5, j9, by simp (disch := first | omega | decide | simp only [go_sem]) only [go_sem, g1], by simp (disch := first | omega | decide | simp only [go_sem]) only [go_sem, g3], by simp (disch := first | omega | decide | simp only [go_sem]) only [go_sem, g5], by simp (disch := first | omega | decide | simp only [go_sem]) only [go_sem, g9]⟩ (by simp (disch := first | omega | decide | simp only [go_sem]) only [go_sem, e10]) (by simp (disch := first | omega | decide | simp only [go_sem]) only [go_sem]) (by simp (disch := first | omega | decide | simp only [go_sem]) only [go_sem]) (by simp (disch := first | omega | decide | simp only [go_sem]) only [go_sem]) fun e2 hs2 e10 => ?_
   have g1 : eget e2 1 = .slice 1 (rowsV zs) .any := (hs2 1 (by omega)).trans (by simp (disch := first | omega | decide | simp only [go_sem]) only [go_sem, g1])
   have g3 : eget e2 3 = .ptr h.length 0 0 1 := (hs2 3 (by omega)).trans (by simp (disch := first | omega | decide | simp only [go_sem]) only [go_sem, g3])
   have g5 : eget e2 5 = .ptr kp 0 0 1 := (hs2 5 (by omega)).trans (by simp (disch := first | omega | decide | simp only [go_sem]) only [go_sem, g5])
   have g9 : eget e2 9 = .ptr H.length 0 0 1 := (hs2 9 (by omega)).trans (by simp (disch := first | omega | decide | simp only [go_sem]) only [go_sem, g9])
   simp (disch := first | omega | decide | simp only [go_sem]) only [go_sem, e10, g1, g3, g5, g9]
   refine rnum_b3 hT hs R hM (N := N) (N0 := nodesL l) (k3 := h.length) (k5 := kp) (k9 := H.length) (sz := sz) (l := l) (es := es) ho hz hl hlen he rfl (by omega) (by omega) F hnm evc ⟨j3, j5, j9, by simp (disch := first | omega | decide | simp only [go_sem]) only [go_sem, g1], by simp (disch := first | omega | decide | simp only [go_sem]) only [go_sem, g3], by simp (disch := first | omega | decide | simp only [go_sem]) only [go_sem, g5], by simp (disch := first | omega | decide | simp only [go_sem]) only [go_sem, g9]⟩ (by simp (disch := first | omega | decide | simp only [go_sem]) only [go_sem]) (by simp (disch := first | omega | decide | simp only [go_sem]) only [go_sem]) fun e3 hs3 e19 => ?_
   have g10 := (hs3 10 (by omega)).trans (show _ = PV.int .i64 (cap (aT s.ops (tabOf s) o.res (nodesL l) N + bsF (svOf s o) (rvOf s N) (fun k => (l.map Tm.nodes).getD k 0) (nodesL l) o.args.length)) by simp (disch := first | omega | decide | simp only [go_sem]) only [go_sem, e10])
   simp (disch := first | omega | decide | simp only [go_sem]) only [go_sem, g10, e19, cb (cf _), hT.prim, primOf]
   exact tidy_low rfl rfl low2 (wadd_low hlo (by simp))
end Go.Proofs.Tryz
/- ground, Number. -/
namespace Go.Proofs.Tryz
open Go Go.AE
variable {T : Tbl} (hT : Std T) {s : GSig}
include hT in
theorem ground_ev (hs : GOk s) (E87 : ∀ h, Ev T 87 [encSig s] h (.val (.int .i64 0), ⟨h, [], []⟩)) {t : Tm} {p : PV} (ht : Enc t p) (hn : t.nodes ≤ 200) (h : List AE.Obj) :
 Ev T 95 [encSig s, p] h (.val (.bool ((sortR s t).2 == 0)), ⟨h, [], []⟩) := by
 refine Ev.walk (hT.sp _ (by decide)) ((hT.fn _).trans fn95) (hT.mode _) rfl ?_
 have hsub := ht.sub
 obtain ⟨c1, c2, c3, c4⟩ := ht.cells
 have c45 := fun h => sort_ev hT hs E87 ht hn h
 have kg : ((h ++ [AE.Obj.row 2 [encSig s]]) ++ [AE.Obj.row 3 [p]])[h.length]? = some (.row 2 [encSig s]) := keepL (by simp)
 have kp : ((h ++ [AE.Obj.row 2 [encSig s]]) ++ [AE.Obj.row 3 [p]])[(h ++ [AE.Obj.row 2 [encSig s]]).length]? = some (.row 3 [p]) := by simp
 have low : Low h.length h ((h ++ [AE.Obj.row 2 [encSig s]]) ++ [AE.Obj.row 3 [p]]) := (((Low.refl _ _).push (Nat.le_refl _)).push (by simp))
 generalize hk1 : (h ++ [AE.Obj.row 2 [encSig s]]).length = k1 at *
 generalize hH : (h ++ [AE.Obj.row 2 [encSig s]]) ++ [AE.Obj.row 3 [p]] = H at *
 have lg : loadAt true 2 (.ptr h.length 0 0 1) H = some (encSig s) := by rw [ld_at kg]; rfl
 have lp : loadAt true 3 (.ptr k1 0 0 1) H = some p := by rw [ld_at kp]; exact hsub
 simp (disch := first | omega | decide | simp only [go_sem]) only [go_sem, hk1, hH, c1, c3, lg, lp, cb (c45 _), hT.prim, primOf]
 exact tidy_low rfl rfl low (by simp)
def numR (s : GSig) (t : Tm) : Int × Int := if (sortR s t).2 = 0 then (if t.nodes ≤ 60 then (if t.num s < 1099511627776 then (t.num s, 0) else (0, 2)) else (0, 2)) else (0, 4)
include hT in
theorem numb_err {r : Int} (hr : r ≠ 0) (E87 : ∀ h, Ev T 87 [encSig s] h (.val (.int .i64 r), ⟨h, [], []⟩)) {t : Tm} {p : PV} (ht : Enc t p) (h : List AE.Obj) : Ev T 20 [encSig s, p] h (.val (.tuple [.int .i64 0, .int .i64 r]), ⟨h, [], []⟩) := by
 refine Ev.walk (hT.sp _ (by decide)) ((hT.fn _).trans fn20) (hT.mode _) rfl ?_
 obtain ⟨c1, c2, c3, c4⟩ := ht.cells
 have hr' : (r != 0) = true := by simpa using hr
 have kg : ((h ++ [AE.Obj.row 2 [encSig s]]) ++ [AE.Obj.row 3 [p]])[h.length]? = some (.row 2 [encSig s]) := keepL (by simp)
 have low : Low h.length h ((h ++ [AE.Obj.row 2 [encSig s]]) ++ [AE.Obj.row 3 [p]]) := (((Low.refl _ _).push (Nat.le_refl _)).push (by simp))
 generalize hH : (h ++ [AE.Obj.row 2 [encSig s]]) ++ [AE.Obj.row 3 [p]] = H at *
 have lg : loadAt true 2 (.ptr h.length 0 0 1) H = some (encSig s) := by rw [ld_at kg]; rfl
 simp (disch := first | omega | decide | simp only [go_sem]) only [go_sem, hH, c1, c3, lg, cb (E87 _), hT.prim, primOf, hr']
 exact tidy_low rfl rfl low (by simp)
include hT in
theorem numb_ev (hs : GOk s) (E87 : ∀ h, Ev T 87 [encSig s] h (.val (.int .i64 0), ⟨h, [], []⟩)) {t : Tm} {p : PV} (ht : Enc t p) (hn : t.nodes ≤ 200) (h : List AE.Obj) :
 Ev T 20 [encSig s, p] h (.val (.tuple [.int .i64 (numR s t).1, .int .i64 (numR s t).2]), ⟨h, [], []⟩) := by
 refine Ev.walk (hT.sp _ (by decide)) ((hT.fn _).trans fn20) (hT.mode _) rfl ?_
 have hsub := ht.sub
 obtain ⟨c1, c2, c3, c4⟩ := ht.cells
 have c95 := fun h => ground_ev hT hs E87 ht hn h
 have c90 := fun h => counted_ev hT hs (h := h)
 rw [encTab_eq] at c90
 have kg : ((h ++ [AE.Obj.row 2 [encSig s]]) ++ [AE.Obj.row 3 [p]])[h.length]? = some (.row 2 [encSig s]) := keepL (by simp)
 have kp : ((h ++ [AE.Obj.row 2 [encSig s]]) ++ [AE.Obj.row 3 [p]])[(h ++ [AE.Obj.row 2 [encSig s]]).length]? = some (.row 3 [p]) := by simp
 have low : Low h.length h ((h ++ [AE.Obj.row 2 [encSig s]]) ++ [AE.Obj.row 3 [p]]) := (((Low.refl _ _).push (Nat.le_refl _)).push (by simp))
 generalize hk1 : (h ++ [AE.Obj.row 2 [encSig s]]).length = k1 at *
 generalize hH : (h ++ [AE.Obj.row 2 [encSig s]]) ++ [AE.Obj.row 3 [p]] = H at *
 have lg : loadAt true 2 (.ptr h.length 0 0 1) H = some (encSig s) := by rw [ld_at kg]; rfl
 have lp : loadAt true 3 (.ptr k1 0 0 1) H = some p := by rw [ld_at kp]; exact hsub
 have td : ∀ a b, tidy 0 h.length (.val (.tuple [.int .i64 a, .int .i64 b])) ⟨H, [], []⟩ = (.val (.tuple [.int .i64 a, .int .i64 b]), ⟨h, [], []⟩) := fun a b => tidy_low rfl rfl low (by simp)
 obtain ⟨d, c46, _⟩ := size_ev hT ht hn H
 unfold numR
 by_cases h0 : (sortR s t).2 = 0
 · have h0' : ((sortR s t).2 == 0) = true := by simpa using h0
   rw [if_pos h0]
   rw [h0'] at c95
   by_cases h60 : t.nodes ≤ 60
   · have h60' : ¬ ((60 : Int) < (t.nodes : Int)) := by omega
     rw [if_pos h60]
     have c96 := fun h => number_ev hT hs ht _ (sortR_WT h0) h60 h
     by_cases hc : t.num s < 1099511627776
     · have hc' : ¬ (1099511627776 : Int) ≤ t.num s := by omega
       rw [if_pos hc]
       simp (disch := first | omega | decide | simp only [go_sem]) only [go_sem, hk1, hH, c1, c3, lg, lp, cb (E87 _), bne_self_eq_false, cb (c95 _), cb c46, hT.prim, primOf, h60', cb (c90 _), cb (c96 _), hc', td]
     · have hc' : (1099511627776 : Int) ≤ t.num s := by omega
       rw [if_neg hc]
       simp (disch := first | omega | decide | simp only [go_sem]) only [go_sem, hk1, hH, c1, c3, lg, lp, cb (E87 _), bne_self_eq_false, cb (c95 _), cb c46, hT.prim, primOf, h60', cb (c90 _), cb (c96 _), hc', td]
   · have h60' : ((60 : Int) < (t.nodes : Int)) := by omega
     rw [if_neg h60]
     simp (disch := first | omega | decide | simp only [go_sem]) only [go_sem, hk1, hH, c1, c3, lg, lp, cb (E87 _), bne_self_eq_false, cb (c95 _), cb c46, hT.prim, primOf, h60', td]
 · have h0' : ((sortR s t).2 == 0) = false := by simpa using h0
   rw [if_neg h0]
   rw [h0'] at c95
   simp (disch := first | omega | decide | simp only [go_sem]) only [go_sem, hk1, hH, c1, c3, lg, lp, cb (E87 _), bne_self_eq_false, cb (c95 _), hT.prim, primOf, td]
end Go.Proofs.Tryz
/- The specification's Number. -/
namespace Go.Proofs.Tryz
open Go Go.AE
variable {T : Tbl} (hT : Std T) {s : GSig}
include hT in
theorem rnumb_top (hf : Fits s) {t : Tm} {p : PV} (ht : Enc t p) (hn : t.nodes ≤ 200) (h : List AE.Obj) : ∃ r : Int × Int, Ev T 21 [encSig s, p] h (.val (.tuple [.int .i64 r.1, .int .i64 r.2]), ⟨h, [], []⟩) ∧ ((¬ sigP s ∧ r = (0, 40)) ∨ (sigP s ∧ r = numR s t)) := by
 refine Ev.walkP (r := fun (r : Int × Int) => (.val (.tuple [.int .i64 r.1, .int .i64 r.2]), ⟨h, [], []⟩)) (hT.sp _ (by decide)) ((hT.fn _).trans fn21) (hT.mode _) rfl ?_
 have hsub := ht.sub
 obtain ⟨c1, c2, c3, c4⟩ := ht.cells
 have kg : ((h ++ [AE.Obj.row 2 [encSig s]]) ++ [AE.Obj.row 3 [p]])[h.length]? = some (.row 2 [encSig s]) := keepL (by simp)
 have kp : ((h ++ [AE.Obj.row 2 [encSig s]]) ++ [AE.Obj.row 3 [p]])[(h ++ [AE.Obj.row 2 [encSig s]]).length]? = some (.row 3 [p]) := by simp
 have low : Low h.length h ((h ++ [AE.Obj.row 2 [encSig s]]) ++ [AE.Obj.row 3 [p]]) := (((Low.refl _ _).push (Nat.le_refl _)).push (by simp))
 generalize hk1 : (h ++ [AE.Obj.row 2 [encSig s]]).length = k1 at *
 generalize hH : (h ++ [AE.Obj.row 2 [encSig s]]) ++ [AE.Obj.row 3 [p]] = H at *
 have lg : loadAt true 2 (.ptr h.length 0 0 1) H = some (encSig s) := by rw [ld_at kg]; rfl
 have lp : loadAt true 3 (.ptr k1 0 0 1) H = some p := by rw [ld_at kp]; exact hsub
 have td : ∀ a b, tidy 0 h.length (.val (.tuple [.int .i64 a, .int .i64 b])) ⟨H, [], []⟩ = (.val (.tuple [.int .i64 a, .int .i64 b]), ⟨h, [], []⟩) := fun a b => tidy_low rfl rfl low (by simp)
 obtain ⟨r, hr, kr⟩ := rcheck_exact hT s hf H
 rcases kr with ⟨rfl, hp⟩ | ⟨rfl, hp⟩
 · have c98 := rsort_ev hT hp hf ht hn H
   by_cases h0 : (sortR s t).2 = 0
   · rw [h0] at c98
     obtain ⟨d, c99, _⟩ := rsize_ev hT ht hn H
     by_cases h60 : t.nodes ≤ 60
     · have h60' : ¬ ((60 : Int) < (t.nodes : Int)) := by omega
       obtain ⟨zs, hzs, hl, okz, ex⟩ := rtable_ev hT hf hp.okOps (most := t.nodes) (by omega) H
       have R : RTab s t.nodes zs := ⟨hl, okz, ex⟩
       have hzs' : Ev T 93 [encSig s, .int .i64 (t.nodes : Int)] H (.val (.slice 1 (rowsV zs) .any), ⟨H, [], []⟩) := hzs
       have c100 := rnumber_ev hT hp.gok R (by omega) ht _ (sortR_WT h0) (Nat.le_refl _) H
       by_cases hc : t.num s < 1099511627776
       · have hc' : ¬ (1099511627776 : Int) ≤ t.num s := by omega
         simp (disch := first | omega | decide | simp only [go_sem]) only [go_sem, hk1, hH, c1, c3, lg, lp, cb hr, bne_self_eq_false, cb c98, cb c99, hT.prim, primOf, h60', cb hzs', cb c100, hc', td]
         exact ⟨(t.num s, 0), rfl, .inr ⟨hp, by simp [numR, h0, h60, hc]⟩⟩
       · have hc' : (1099511627776 : Int) ≤ t.num s := by omega
         simp (disch := first | omega | decide | simp only [go_sem]) only [go_sem, hk1, hH, c1, c3, lg, lp, cb hr, bne_self_eq_false, cb c98, cb c99, hT.prim, primOf, h60', cb hzs', cb c100, hc', td]
         exact ⟨(0, 2), rfl, .inr ⟨hp, by simp [numR, h0, h60, hc]⟩⟩
     · have h60' : ((60 : Int) < (t.nodes : Int)) := by omega
       simp (disch := first | omega | decide | simp only [go_sem]) only [go_sem, hk1, hH, c1, c3, lg, lp, cb hr, bne_self_eq_false, cb c98, cb c99, hT.prim, primOf, h60', td]
       exact ⟨(0, 2), rfl, .inr ⟨hp, by simp [numR, h0, h60]⟩⟩
   · have h0' : ((sortR s t).2 != 0) = true := by simpa using h0
     simp (disch := first | omega | decide | simp only [go_sem]) only [go_sem, hk1, hH, c1, c3, lg, lp, cb hr, bne_self_eq_false, cb c98, hT.prim, primOf, h0', td]
     exact ⟨(0, 4), rfl, .inr ⟨hp, by simp [numR, h0]⟩⟩
 · have b1 : ((40 : Int) != 0) = true := rfl
   simp (disch := first | omega | decide | simp only [go_sem]) only [go_sem, hk1, hH, c1, c3, lg, lp, cb hr, hT.prim, primOf, b1, td]
   exact ⟨(0, 40), rfl, .inl ⟨hp, rfl⟩⟩
end Go.Proofs.Tryz
/- Two values of one term are the same. -/
namespace Go.Proofs.Tryz
open Go Go.AE
variable {T : Tbl} (hT : Std T)
include hT in
theorem equalE_ev {l : List Tm} {sz sz' : Nat} {es fs : List PV} (hs : es = [] ∨ sz = 3) (hs' : fs = [] ∨ sz' = 3) (hl : es.length = l.length) (hl' : fs.length = l.length) (hb : l.length < 5000) (he : ∀ (i : Nat) (x : Tm) (p : PV), l[i]? = some x → es[i]? = some p → Enc x p) (hf : ∀ (i : Nat) (x : Tm) (p : PV), l[i]? = some x → fs[i]? = some p → Enc x p)
 (ih : ∀ (i : Nat) (x : Tm) (p q : PV), l[i]? = some x → es[i]? = some p → fs[i]? = some q → ∀ h, Ev T 22 [p, q] h (.val (.bool true), ⟨h, [], []⟩)) (h : List AE.Obj) :
 Ev T 32 [.slice sz es .any, .slice sz' fs .any, .func (.func 22) [] []] h (.val (.bool true), ⟨h, [], []⟩) := by
 refine Ev.walk (hT.sp _ (by decide)) ((hT.fn _).trans fn32) (hT.mode _) rfl ?_
 have hlen : es.length = fs.length := by omega
 simp (disch := first | omega | decide | simp only [go_sem]) only [go_sem, bne_self_eq_false, hlen]
 refine wpC.loopM (fun n e st => ∃ (i : Nat) (H : List AE.Obj) (ws : List Nat), i + n = fs.length ∧ Low h.length h H ∧ (∀ k ∈ ws, h.length ≤ k) ∧ eget e 1 = .slice sz' fs .any ∧ eget e 2 = .func (.func 22) [] [] ∧ eget e 15 = .slice sz es .any ∧ eget e 16 = .int .i64 (fs.length : Int) ∧ eget e 17 = .int .i64 (i : Int) ∧ st = ⟨H, ws, []⟩) ?_ fs.length _ _ ⟨0, h, [], by omega, Low.refl _ _, by simp, by simp (disch := first | omega | decide | simp only [go_sem]) only [go_sem], by simp (disch := first | omega | decide | simp only [go_sem]) only [go_sem], by simp (disch := first | omega | decide | simp only [go_sem]) only [go_sem], by simp (disch := first | omega | decide | simp only [go_sem]) only [go_sem], by simp (disch := first | omega | decide | simp only [go_sem]) only [go_sem]; rfl, rfl⟩
 rintro n e st ⟨i, H, ws, hi, low, hw, e1, e2, e15, e16, e17, rfl⟩
 by_cases h1 : i < fs.length
 · have ga := get_lt (show i < es.length by omega)
   have gb := get_lt h1
   have gl := getD_mem (show i < l.length by omega)
   have tx := he i _ _ gl ga
   have ty := hf i _ _ gl gb
   have ex := ih i _ _ _ gl ga gb
   have hsz : sz = 3 := by
    rcases hs with rfl | h
    · simp at hlen; omega
    · exact h
   have hsz' : sz' = 3 := by
    rcases hs' with rfl | h
    · simp at h1
    · exact h
   subst hsz hsz'
   obtain ⟨c1, c2, c3, c4⟩ := tx.cells
   have tt := tx.facts.1
   have ts := tx.sub
   obtain ⟨d1, d2, d3, d4⟩ := ty.cells
   have dt := ty.facts.1
   have ds := ty.sub
   generalize fs[i] = y at *
   generalize es[i]'(by omega) = x at *
   have s1 := st_box (h := H) (ws := ws) (ups := []) (z := .agg [(.int .i64 0), (.int .i64 0), (.slice 0 [] .nil)]) (sz := 3) (c := x) c1 rfl c2 tt ⟨_, rfl⟩ c4
   have s2 := st_box (h := H ++ [AE.Obj.row 3 [x]]) (ws := wadd H.length ws) (ups := []) (z := .agg [(.int .i64 0), (.int .i64 0), (.slice 0 [] .nil)]) (sz := 3) (c := y) d1 rfl d2 dt ⟨_, rfl⟩ d4
   have b1 : (H ++ [AE.Obj.row 3 [x]])[H.length]? = some (.row 3 [x]) := by simp
   have b1' : ((H ++ [AE.Obj.row 3 [x]]) ++ [AE.Obj.row 3 [y]])[H.length]? = some (.row 3 [x]) := keepL b1
   have b2 : ((H ++ [AE.Obj.row 3 [x]]) ++ [AE.Obj.row 3 [y]])[(H ++ [AE.Obj.row 3 [x]]).length]? = some (.row 3 [y]) := by simp
   have low2 : Low h.length h ((H ++ [AE.Obj.row 3 [x]]) ++ [AE.Obj.row 3 [y]]) := by
    have := low.len
    exact (low.push (by omega)).push (by simp; omega)
   have hHl := low.len
   generalize hk2 : (H ++ [AE.Obj.row 3 [x]]).length = k2 at *
   have hk2' : h.length ≤ k2 := by rw [← hk2]; simp; omega
   generalize hH2 : (H ++ [AE.Obj.row 3 [x]]) ++ [AE.Obj.row 3 [y]] = H2 at *
   have l1 : loadAt true 3 (.ptr H.length 0 0 1) H2 = some x := by rw [ld_at b1', ts]
   have l2 : loadAt true 3 (.ptr k2 0 0 1) H2 = some y := by rw [ld_at b2, ds]
   simp (disch := first | omega | decide | simp only [go_sem]) only [go_sem, a32b0, e1, e2, e15, e16, e17, h1, ga, gb, s1, s2, hk2, ts, ds, l1, l2, cb (ex H2), hT.prim, primOf, List.length_cons, List.length_nil]
   exact ⟨n - 1, by omega, i + 1, H2, wadd k2 (wadd H.length ws), by omega, low2, wadd_low (by omega) (wadd_low (by omega) hw), rfl, rfl⟩
 · simp (disch := first | omega | decide | simp only [go_sem]) only [go_sem, a32b0, e1, e2, e15, e16, e17, h1]
   exact tidy_low rfl rfl low hw
include hT in
theorem sameE_ev {t : Tm} {p : PV} (hp : Enc t p) : ∀ q, Enc t q → t.nodes ≤ 4000 → ∀ h, Ev T 22 [p, q] h (.val (.bool true), ⟨h, [], []⟩) := by
 induction hp with
 | mk k n l sz es hs hl he ih =>
   intro q hq hn h
   obtain ⟨sz', fs, hs', hl', hf, rfl⟩ : ∃ (sz' : Nat) (fs : List PV), (fs = [] ∨ sz' = 3) ∧ fs.length = l.length ∧ (∀ (i : Nat) (x : Tm) (p : PV), l[i]? = some x → fs[i]? = some p → Enc x p) ∧ q = .agg [.int .i64 k, .int .i64 n, .slice sz' fs .any] := by
    cases hq with
    | mk k n l sz' fs hs' hl' hf => exact ⟨sz', fs, hs', hl', hf, rfl⟩
   refine Ev.walk (hT.sp _ (by decide)) ((hT.fn _).trans fn22) (hT.mode _) rfl ?_
   simp only [Tm.nodes] at hn
   have hll := nodesL_len l
   have b1 : (h ++ [AE.Obj.row 3 [PV.agg [.int .i64 k, .int .i64 n, .slice sz es .any]]])[h.length]? = some (.row 3 [PV.agg [.int .i64 k, .int .i64 n, .slice sz es .any]]) := by simp
   generalize hH1 : h ++ [AE.Obj.row 3 [PV.agg [.int .i64 k, .int .i64 n, .slice sz es .any]]] = H1 at *
   have b1' : (H1 ++ [AE.Obj.row 3 [PV.agg [.int .i64 k, .int .i64 n, .slice sz' fs .any]]])[h.length]? = some (.row 3 [PV.agg [.int .i64 k, .int .i64 n, .slice sz es .any]]) := keepL b1
   have b2 : (H1 ++ [AE.Obj.row 3 [PV.agg [.int .i64 k, .int .i64 n, .slice sz' fs .any]]])[H1.length]? = some (.row 3 [PV.agg [.int .i64 k, .int .i64 n, .slice sz' fs .any]]) := by simp
   have low : Low h.length h (H1 ++ [AE.Obj.row 3 [PV.agg [.int .i64 k, .int .i64 n, .slice sz' fs .any]]]) := by
    rw [← hH1]
    exact ((Low.refl _ _).push (Nat.le_refl _)).push (by simp)
   generalize hH2 : H1 ++ [AE.Obj.row 3 [PV.agg [.int .i64 k, .int .i64 n, .slice sz' fs .any]]] = H2 at *
   have l0 : ∀ j : Nat, loadAt false 1 (.ptr h.length 0 j 1) H2 = ([PV.int .i64 k, .int .i64 n, .slice sz es .any])[j]? := fun j => by rw [ld_at b1']; rfl
   have l1 : ∀ j : Nat, loadAt false 1 (.ptr H1.length 0 j 1) H2 = ([PV.int .i64 k, .int .i64 n, .slice sz' fs .any])[j]? := fun j => by rw [ld_at b2]; rfl
   have g0 : ([PV.int .i64 k, .int .i64 n, .slice sz es .any])[0]? = some (.int .i64 k) := rfl
   have g1 : ([PV.int .i64 k, .int .i64 n, .slice sz es .any])[1]? = some (.int .i64 n) := rfl
   have g2 : ([PV.int .i64 k, .int .i64 n, .slice sz es .any])[2]? = some (.slice sz es .any) := rfl
   have f0 : ([PV.int .i64 k, .int .i64 n, .slice sz' fs .any])[0]? = some (.int .i64 k) := rfl
   have f1 : ([PV.int .i64 k, .int .i64 n, .slice sz' fs .any])[1]? = some (.int .i64 n) := rfl
   have f2 : ([PV.int .i64 k, .int .i64 n, .slice sz' fs .any])[2]? = some (.slice sz' fs .any) := rfl
   have eq := equalE_ev hT hs hs' hl hl' (by omega) he hf (fun i x p q hx hp hq => by
    have hm := nodesL_mem (List.mem_of_getElem? hx)
    exact ih i x p hx hp q (hf i x q hx hq) (by omega)) H2
   have td : tidy 0 h.length (.val (.bool true)) ⟨H2, [], []⟩ = (.val (.bool true), ⟨h, [], []⟩) := tidy_low rfl rfl low (by simp)
   simp (disch := first | omega | decide | simp only [go_sem]) only [go_sem, hH1, hH2, l0, l1, g0, g1, g2, f0, f1, f2, cb eq, hT.prim, primOf, td, List.length_cons, List.length_nil]
end Go.Proofs.Tryz
/- few: its closures write one old object. -/
namespace Go.Proofs.Tryz
open Go Go.AE
variable {T : Tbl} (hT : Std T)
def lRow (x : Int) : AE.Obj := .row 1 [.int .i64 x]
def fRow (kl kw : Nat) : AE.Obj := .row 1 [.func (.func 84) [] [.ptr kl 0 0 1, .ptr kw 0 0 1]]
theorem st1_0 {H : List AE.Obj} {ws : List Nat} {ups : List (Nat × Nat)} {k : Nat} {x v : Int} (hk : H[k]? = some (lRow x)) :
 storeAt 1 (.ptr k 0 0 1) (.int .i64 v) ⟨H, ws, ups⟩ = some ⟨H.set k (lRow v), wadd k ws, ups⟩ := by
 unfold lRow at *
 have hu : upd (.int .i64 x) 0 (.int .i64 v) = some (.int .i64 v) := rfl
 simp only [storeAt, hk, List.length_cons, List.length_nil, PV.cells, List.all_cons, List.all_nil, PV.isCell, Bool.and_self, and_self, if_true, List.getElem?_cons_zero, hu, Option.map, List.set_cons_zero, PV.top, wrote_none]
def FewR (T : Tbl) (f : FuncId) (args : List PV) (H : List AE.Obj) (kl : Nat) (lf : Int) (nd : Nat) (neg : Bool) : Prop := ∃ x : Bool × Int × List Nat, Ev T f args H (.val (.bool (neg ^^ x.1)), ⟨H.set kl (lRow x.2.1), x.2.2, []⟩) ∧ (-1 ≤ x.2.1 ∧ x.2.1 < lf) ∧ (x.1 = true → 0 ≤ x.2.1 ∧ x.2.1 + nd = lf) ∧ ∀ y ∈ x.2.2, y = kl
include hT in
theorem index135_w {g : FuncId} {cap : List PV} {H0 : List AE.Obj} {kl : Nat} {left0 : Int} (hg : T.prim g = none) (hk : H0[kl]? = some (lRow left0)) (h0 : 0 ≤ left0 ∧ left0 ≤ 100) {l : List Tm} {sz : Nat} {es : List PV} {m : SM} (hs : es = [] ∨ sz = 3) (hl : es.length = l.length) (he : ∀ (i : Nat) (x : Tm) (p : PV), l[i]? = some x → es[i]? = some p → Enc x p)
 (hf : ∀ (i : Nat) (x : Tm) (p : PV), l[i]? = some x → es[i]? = some p → ∀ lf, 0 ≤ lf → lf ≤ left0 → FewR T g (p :: cap) (H0.set kl (lRow lf)) kl lf x.nodes true) :
 ∃ r : Int × Int × List Nat, Ev T 135 [.slice sz es m, .func (.func g) [] cap] H0 (.val (.int .i64 r.1), ⟨H0.set kl (lRow r.2.1), r.2.2, []⟩) ∧ (-1 ≤ r.2.1 ∧ r.2.1 ≤ left0) ∧ (¬ 0 ≤ r.1 → 0 ≤ r.2.1 ∧ r.2.1 + nodesL l = left0) ∧ ∀ y ∈ r.2.2, y = kl := by
 refine Ev.walkP (r := fun (r : Int × Int × List Nat) => (.val (.int .i64 r.1), ⟨H0.set kl (lRow r.2.1), r.2.2, []⟩)) (hT.sp _ (by decide)) ((hT.fn _).trans fn135) (hT.mode _) rfl ?_
 simp (disch := first | omega | decide | simp only [go_sem]) only [go_sem]
 have hH0 : (⟨H0, [], []⟩ : St) = ⟨H0.set kl (lRow left0), [], []⟩ := by rw [set_self hk]
 rw [hH0]
 refine wpC.loopM (fun n e s => ∃ (i : Nat) (lf : Int) (ws : List Nat), i + n = es.length ∧ eget e 0 = .slice sz es m ∧ eget e 1 = .func (.func g) [] cap ∧ eget e 7 = .int .i64 (es.length : Int) ∧ eget e 8 = .int .i64 (i : Int) ∧ 0 ≤ lf ∧ lf + nodesL (l.take i) = left0 ∧ (∀ y ∈ ws, y = kl) ∧ s = ⟨H0.set kl (lRow lf), ws, []⟩) ?_ es.length _ _ ⟨0, left0, [], by simp, by simp (disch := first | omega | decide | simp only [go_sem]) only [go_sem], by simp (disch := first | omega | decide | simp only [go_sem]) only [go_sem], by simp (disch := first | omega | decide | simp only [go_sem]) only [go_sem], by simp (disch := first | omega | decide | simp only [go_sem]) only [go_sem]; rfl, h0.1, by simp [nodesL], by simp, rfl⟩
 rintro n e s ⟨i, lf, ws, hi, e0, e1, e7, e8, hlf, hsum, hw, rfl⟩
 have M : ∀ z, Mod H0 (H0.set kl (lRow z)) kl (lRow z) := fun z => (Mod.refl hk).put
 have W0 : ∀ ws : List Nat, (∀ y ∈ ws, y = kl) → okWs H0 kl ws := fun ws h x hx => .inl (h x hx)
 by_cases h1 : i < es.length
 · have ga := get_lt h1
   have hx : l[i]? = some l[i] := List.getElem?_eq_getElem (by omega)
   have hE := he i l[i] es[i] hx ga
   have hlen := nodesL_len (l.take i)
   rw [List.length_take] at hlen
   obtain ⟨⟨b, lf', ws'⟩, ev, hb1, hb2, hb3⟩ := hf i l[i] es[i] hx ga lf hlf (by omega)
   have htk := nodesL_take hx
   have bs := hE.sub
   have hsz : sz = 3 := by
    rcases hs with rfl | h
    · simp at h1
    · exact h
   subst hsz
   simp only [List.set_set, Bool.true_xor] at ev hb1 hb2 hb3
   have hww : ∀ y ∈ wall ws' ws, y = kl := fun y hy => by
    rcases mem_wall hy with h | h
    · exact hb3 y h
    · exact hw y h
   cases b
   · obtain ⟨wz, t1, t2⟩ := tidy_mod (v := .int .i64 (i : Int)) rfl (M lf') (W0 _ hww)
     simp (disch := first | omega | decide | simp only [go_sem]) only [go_sem, a135b0, e0, e1, e7, e8, h1, ga, bs, hg, cb ev, Bool.not_false, t1]
     exact ⟨((i : Int), lf', wz), rfl, ⟨hb1.1, by dsimp only; omega⟩, fun h => absurd (by dsimp only; omega) h, t2⟩
   · obtain ⟨q1, q2⟩ := hb2 rfl
     simp (disch := first | omega | decide | simp only [go_sem]) only [go_sem, a135b0, e0, e1, e7, e8, h1, ga, bs, hg, cb ev, Bool.not_true]
     exact ⟨n - 1, by omega, i + 1, lf', wall ws' ws, by omega, rfl, q1, by omega, hww, rfl⟩
 · obtain ⟨wz, t1, t2⟩ := tidy_mod (v := .int .i64 (-1)) rfl (M lf) (W0 _ hw)
   have hil : i = l.length := by omega
   subst hil
   rw [List.take_length] at hsum
   simp (disch := first | omega | decide | simp only [go_sem]) only [go_sem, a135b0, e0, e1, e7, e8, h1, t1]
   exact ⟨(-1, lf, wz), rfl, ⟨by dsimp only; omega, by dsimp only; omega⟩, fun _ => ⟨hlf, hsum⟩, t2⟩
include hT in
theorem contains48_w {g : FuncId} {cap : List PV} {H0 : List AE.Obj} {kl : Nat} {left0 : Int} (hg : T.prim g = none) (hk : H0[kl]? = some (lRow left0)) (h0 : 0 ≤ left0 ∧ left0 ≤ 100) {l : List Tm} {sz : Nat} {es : List PV} {m : SM} (hs : es = [] ∨ sz = 3) (hl : es.length = l.length) (he : ∀ (i : Nat) (x : Tm) (p : PV), l[i]? = some x → es[i]? = some p → Enc x p)
 (hf : ∀ (i : Nat) (x : Tm) (p : PV), l[i]? = some x → es[i]? = some p → ∀ lf, 0 ≤ lf → lf ≤ left0 → FewR T g (p :: cap) (H0.set kl (lRow lf)) kl lf x.nodes true) :
 ∃ r : Bool × Int × List Nat, Ev T 48 [.slice sz es m, .func (.func g) [] cap] H0 (.val (.bool r.1), ⟨H0.set kl (lRow r.2.1), r.2.2, []⟩) ∧ (-1 ≤ r.2.1 ∧ r.2.1 ≤ left0) ∧ (r.1 = false → 0 ≤ r.2.1 ∧ r.2.1 + nodesL l = left0) ∧ ∀ y ∈ r.2.2, y = kl := by
 obtain ⟨⟨r, lf, ws⟩, ev, h1, h2, h3⟩ := index135_w hT (m := m) hg hk h0 hs hl he hf
 refine Ev.walkP (r := fun (r : Bool × Int × List Nat) => (.val (.bool r.1), ⟨H0.set kl (lRow r.2.1), r.2.2, []⟩)) (hT.sp _ (by decide)) ((hT.fn _).trans fn48) (hT.mode _) rfl ?_
 obtain ⟨wz, t1, t2⟩ := tidy_mod (v := .bool (decide (0 ≤ r))) (ws := wall ws []) rfl ((Mod.refl hk).put (o' := lRow lf)) (fun x hx => .inl (by
  rcases mem_wall hx with h | h
  · exact h3 x h
  · cases h))
 simp (disch := first | omega | decide | simp only [go_sem]) only [go_sem, cb ev, hT.prim, primOf, t1]
 exact ⟨(decide (0 ≤ r), lf, wz), rfl, h1, fun h => h2 (by simpa using h), t2⟩
end Go.Proofs.Tryz
/- few. -/
namespace Go.Proofs.Tryz
open Go Go.AE
variable {T : Tbl} (hT : Std T)
theorem ld_l {H : List AE.Obj} {k : Nat} {x : Int} (hk : H[k]? = some (lRow x)) : loadAt false 1 (.ptr k 0 0 1) H = some (.int .i64 x) := by rw [ld_at hk]; rfl
theorem ld_f {H : List AE.Obj} {k kl kw : Nat} (hk : H[k]? = some (fRow kl kw)) : loadAt false 1 (.ptr k 0 0 1) H = some (.func (.func 84) [] [.ptr kl 0 0 1, .ptr kw 0 0 1]) := by rw [ld_at hk]; rfl
include hT in
theorem few85 {x : Tm} {p : PV} (hx : Enc x p) {H : List AE.Obj} {kl kw kd : Nat} {lf deep : Int} (h1 : H[kl]? = some (lRow lf)) (h2 : H[kw]? = some (fRow kl kw)) (h3 : H[kd]? = some (lRow deep)) (hd : 0 ≤ deep ∧ deep < 100)
 (E84 : ∀ H', H'[kl]? = some (lRow lf) → H'[kw]? = some (fRow kl kw) → FewR T 84 [p, .int .i64 (deep + 1), .ptr kl 0 0 1, .ptr kw 0 0 1] H' kl lf x.nodes false) : FewR T 85 [p, .ptr kw 0 0 1, .ptr kd 0 0 1] H kl lf x.nodes true := by
 refine Ev.walkP (r := fun (x : Bool × Int × List Nat) => (.val (.bool (true ^^ x.1)), ⟨H.set kl (lRow x.2.1), x.2.2, []⟩)) (hT.sp _ (by decide)) ((hT.fn _).trans fn85) (hT.mode _) rfl ?_
 obtain ⟨c1, c2, c3, c4⟩ := hx.cells
 have hsub := hx.sub
 have M1 : Mod H (H ++ [AE.Obj.row 3 [p]]) kl (lRow lf) := (Mod.refl h1).push
 have k1 : (H ++ [AE.Obj.row 3 [p]])[kl]? = some (lRow lf) := keepL h1
 have k2 : (H ++ [AE.Obj.row 3 [p]])[kw]? = some (fRow kl kw) := keepL h2
 have k3 : (H ++ [AE.Obj.row 3 [p]])[kd]? = some (lRow deep) := keepL h3
 have k4 : (H ++ [AE.Obj.row 3 [p]])[H.length]? = some (.row 3 [p]) := by simp
 generalize hH1 : H ++ [AE.Obj.row 3 [p]] = H1 at *
 have lp : loadAt true 3 (.ptr H.length 0 0 1) H1 = some p := by rw [ld_at k4]; exact hsub
 obtain ⟨⟨b, lf', ws⟩, ev, q1, q2, q3⟩ := E84 H1 k1 k2
 simp only [Bool.false_xor] at ev q1 q2 q3
 obtain ⟨wz, t1, t2⟩ := tidy_mod (v := .bool (!b)) (ws := wall ws []) rfl (M1.put (o' := lRow lf')) (fun x hx => .inl (by
  rcases mem_wall hx with h | h
  · exact q3 x h
  · cases h))
 simp (disch := first | omega | decide | simp only [go_sem]) only [go_sem, hH1, c1, c3, ld_l k3, ld_f k2, lp, cb ev, hT.prim, primOf, t1]
 exact ⟨(b, lf', wz), by simp only [Bool.true_xor], q1, q2, t2⟩
include hT in
theorem few84 {t : Tm} {p : PV} (ht : Enc t p) : ∀ (H : List AE.Obj) (kl kw : Nat) (lf deep : Int), H[kl]? = some (lRow lf) → H[kw]? = some (fRow kl kw) → kl ≠ kw → 0 ≤ lf ∧ lf ≤ 100 → 0 ≤ deep ∧ deep ≤ 100 → FewR T 84 [p, .int .i64 deep, .ptr kl 0 0 1, .ptr kw 0 0 1] H kl lf t.nodes false := by
 have hc := ht.cells
 induction ht with
 | mk k n l sz es hs hl he ih =>
   intro H kl kw lf deep h1 h2 hne hlf hdp
   refine Ev.walkP (r := fun (x : Bool × Int × List Nat) => (.val (.bool (false ^^ x.1)), ⟨H.set kl (lRow x.2.1), x.2.2, []⟩)) (hT.sp _ (by decide)) ((hT.fn _).trans fn84) (hT.mode _) rfl ?_
   obtain ⟨c1, c2, c3, c4⟩ := hc
   generalize hP : PV.agg [.int .i64 k, .int .i64 n, .slice sz es .any] = P at *
   have hlt := (List.getElem?_eq_some_iff.1 h1).1
   have hltw := (List.getElem?_eq_some_iff.1 h2).1
   have M2 : Mod H ((H ++ [AE.Obj.row 3 [P]]) ++ [AE.Obj.row 1 [.int .i64 deep]]) kl (lRow lf) := (Mod.refl h1).push.push
   have k1 : ((H ++ [AE.Obj.row 3 [P]]) ++ [AE.Obj.row 1 [.int .i64 deep]])[kl]? = some (lRow lf) := keepL (keepL h1)
   have k2 : ((H ++ [AE.Obj.row 3 [P]]) ++ [AE.Obj.row 1 [.int .i64 deep]])[kw]? = some (fRow kl kw) := keepL (keepL h2)
   have k3 : ((H ++ [AE.Obj.row 3 [P]]) ++ [AE.Obj.row 1 [.int .i64 deep]])[(H ++ [AE.Obj.row 3 [P]]).length]? = some (lRow deep) := by simp [lRow]
   have k4 : ((H ++ [AE.Obj.row 3 [P]]) ++ [AE.Obj.row 1 [.int .i64 deep]])[H.length]? = some (.row 3 [P]) := keepL (by simp)
   have hkd : kl < (H ++ [AE.Obj.row 3 [P]]).length := by simp; omega
   have hkP : kl < H.length := hlt
   generalize hkd' : (H ++ [AE.Obj.row 3 [P]]).length = kd at *
   generalize hH2 : (H ++ [AE.Obj.row 3 [P]]) ++ [AE.Obj.row 1 [.int .i64 deep]] = H2 at *
   have s1 := fun ws ups => st1_0 (ws := ws) (ups := ups) (v := lf - 1) k1
   have M3 := M2.put (o' := lRow (lf - 1))
   have j1 : (H2.set kl (lRow (lf - 1)))[kl]? = some (lRow (lf - 1)) := get_set k1
   have j2 : (H2.set kl (lRow (lf - 1)))[kw]? = some (fRow kl kw) := get_set_ne k2 hne
   have j3 : (H2.set kl (lRow (lf - 1)))[kd]? = some (lRow deep) := get_set_ne k3 (by omega)
   have j4 : (H2.set kl (lRow (lf - 1)))[H.length]? = some (.row 3 [P]) := get_set_ne k4 (by omega)
   generalize hH3 : H2.set kl (lRow (lf - 1)) = H3 at *
   have lP : loadAt false 1 (.ptr H.length 0 2 1) H3 = some (.slice sz es .any) := by rw [ld_at j4, ← hP]; rfl
   obtain ⟨wz, t1, t2⟩ := tidy_mod (v := .bool false) (ws := wadd kl []) rfl M3 (fun x hx => by
    rcases mem_wadd hx with h | h
    · exact .inl h
    · cases h)
   by_cases hz : lf = 0
   · have b0 : ¬ (0 : Int) ≤ lf - 1 := by omega
     simp (disch := first | omega | decide | simp only [go_sem]) only [go_sem, c1, c3, hkd', hH2, ld_l k1, s1, hH3, ld_l j1, b0, t1]
     exact ⟨(false, lf - 1, wz), rfl, ⟨by dsimp only; omega, by dsimp only; omega⟩, (fun h => by cases h), t2⟩
   · have b0 : (0 : Int) ≤ lf - 1 := by omega
     by_cases hd : deep < 100
     · obtain ⟨⟨r, lf', ws⟩, ev, q1, q2, q3⟩ := contains48_w hT (g := 85) (cap := [.ptr kw 0 0 1, .ptr kd 0 0 1]) (left0 := lf - 1) (m := .any) (by rw [hT.prim]; rfl) j1 ⟨b0, by omega⟩ hs hl he fun i x p hx hp lf' hl0 hl1 => few85 hT (he i x p hx hp) (get_set j1) (get_set_ne j2 hne) (get_set_ne j3 (by omega)) ⟨hdp.1, hd⟩ fun H' g1 g2 => ih i x p hx hp (he i x p hx hp).cells H' kl kw lf' (deep + 1) g1 g2 hne ⟨hl0, by omega⟩ ⟨by omega, by omega⟩
       obtain ⟨wy, u1, u2⟩ := tidy_mod (v := .bool (!r)) (ws := wall ws (wadd kl [])) rfl (M3.put (o' := lRow lf')) (fun x hx => .inl (by
        rcases mem_wall hx with h | h
        · exact q3 x h
        · rcases mem_wadd h with h | h
          · exact h
          · cases h))
       simp (disch := first | omega | decide | simp only [go_sem]) only [go_sem, c1, c3, hkd', hH2, ld_l k1, s1, hH3, ld_l j1, b0, ld_l j3, hd, lP, cb ev, hT.prim, primOf, u1]
       refine ⟨(!r, lf', wy), by simp only [Bool.false_xor], ⟨q1.1, by have := q1.2; dsimp only at *; omega⟩, fun h => ?_, u2⟩
       have hr : r = false := by simpa using h
       obtain ⟨a1, a2⟩ := q2 hr
       simp only [Tm.nodes]
       dsimp only at *
       omega
     · simp (disch := first | omega | decide | simp only [go_sem]) only [go_sem, c1, c3, hkd', hH2, ld_l k1, s1, hH3, ld_l j1, b0, ld_l j3, hd, t1]
       exact ⟨(false, lf - 1, wz), rfl, ⟨by dsimp only; omega, by dsimp only; omega⟩, (fun h => by cases h), t2⟩
include hT in
theorem few86 {x : Tm} {p : PV} (hx : Enc x p) {H : List AE.Obj} {kl kw : Nat} {lf : Int} (h1 : H[kl]? = some (lRow lf)) (h2 : H[kw]? = some (fRow kl kw)) (hne : kl ≠ kw) (hlf : 0 ≤ lf ∧ lf ≤ 100) : FewR T 86 [p, .ptr kw 0 0 1] H kl lf x.nodes true := by
 refine Ev.walkP (r := fun (x : Bool × Int × List Nat) => (.val (.bool (true ^^ x.1)), ⟨H.set kl (lRow x.2.1), x.2.2, []⟩)) (hT.sp _ (by decide)) ((hT.fn _).trans fn86) (hT.mode _) rfl ?_
 obtain ⟨c1, c2, c3, c4⟩ := hx.cells
 have hsub := hx.sub
 have M1 : Mod H (H ++ [AE.Obj.row 3 [p]]) kl (lRow lf) := (Mod.refl h1).push
 have k1 : (H ++ [AE.Obj.row 3 [p]])[kl]? = some (lRow lf) := keepL h1
 have k2 : (H ++ [AE.Obj.row 3 [p]])[kw]? = some (fRow kl kw) := keepL h2
 have k4 : (H ++ [AE.Obj.row 3 [p]])[H.length]? = some (.row 3 [p]) := by simp
 generalize hH1 : H ++ [AE.Obj.row 3 [p]] = H1 at *
 have lp : loadAt true 3 (.ptr H.length 0 0 1) H1 = some p := by rw [ld_at k4]; exact hsub
 obtain ⟨⟨b, lf', ws⟩, ev, q1, q2, q3⟩ := few84 hT hx H1 kl kw lf 0 k1 k2 hne hlf ⟨by omega, by omega⟩
 simp only [Bool.false_xor] at ev q1 q2 q3
 obtain ⟨wz, t1, t2⟩ := tidy_mod (v := .bool (!b)) (ws := wall ws []) rfl (M1.put (o' := lRow lf')) (fun x hx => .inl (by
  rcases mem_wall hx with h | h
  · exact q3 x h
  · cases h))
 simp (disch := first | omega | decide | simp only [go_sem]) only [go_sem, hH1, c1, c3, ld_f k2, lp, cb ev, hT.prim, primOf, t1]
 exact ⟨(b, lf', wz), by simp only [Bool.true_xor], q1, q2, t2⟩
theorem st_fn {H : List AE.Obj} {ws : List Nat} {ups : List (Nat × Nat)} {k kl kw : Nat} (hk : H[k]? = some (.row 1 [.nilFunc])) :
 ∃ ups', storeAt 1 (.ptr k 0 0 1) (.func (.func 84) [] [.ptr kl 0 0 1, .ptr kw 0 0 1]) ⟨H, ws, ups⟩ = some ⟨H.set k (fRow kl kw), wadd k ws, ups'⟩ ∧ ∀ x ∈ ups', x ∈ ups ∨ x.1 = k := by
 have hu : upd .nilFunc 0 (.func (.func 84) [] [.ptr kl 0 0 1, .ptr kw 0 0 1]) = some (.func (.func 84) [] [.ptr kl 0 0 1, .ptr kw 0 0 1]) := rfl
 have h1 : storeAt 1 (.ptr k 0 0 1) (.func (.func 84) [] [.ptr kl 0 0 1, .ptr kw 0 0 1]) ⟨H, ws, ups⟩ = some (wrote k (fRow kl kw) (PV.func (.func 84) [] [.ptr kl 0 0 1, .ptr kw 0 0 1]).top ⟨H, ws, ups⟩) := by
  simp only [storeAt, hk, List.length_cons, List.length_nil, PV.cells, List.all_cons, List.all_nil, PV.isCell, Bool.and_self, and_self, if_true, List.getElem?_cons_zero, hu, Option.map, List.set_cons_zero, fRow]
 rw [h1]
 cases (PV.func (.func 84) [] [.ptr kl 0 0 1, .ptr kw 0 0 1]).top with
 | none => exact ⟨ups, by rw [wrote_none], fun x hx => .inl hx⟩
 | some j =>
   refine ⟨_, by rw [wrote_some], fun x hx => ?_⟩
   split at hx
   · rcases List.mem_cons.1 hx with rfl | h
     · exact .inr rfl
     · exact .inl h
   · exact .inl hx
include hT in
theorem few_ev {t : Tm} {p : PV} (ht : Enc t p) (h : List AE.Obj) : ∃ b : Bool, Ev T 17 [.int .i64 100, .slice 3 [p] .lit] h (.val (.bool b), ⟨h, [], []⟩) ∧ (b = true → t.nodes ≤ 100) := by
 refine Ev.walkP (r := fun (b : Bool) => (.val (.bool b), ⟨h, [], []⟩)) (hT.sp _ (by decide)) ((hT.fn _).trans fn17) (hT.mode _) rfl ?_
 have low : Low h.length h ((h ++ [AE.Obj.row 1 [.int .i64 100]]) ++ [AE.Obj.row 1 [.nilFunc]]) := ((Low.refl _ _).push (Nat.le_refl _)).push (by simp)
 have k1 : ((h ++ [AE.Obj.row 1 [.int .i64 100]]) ++ [AE.Obj.row 1 [.nilFunc]])[h.length]? = some (lRow 100) := keepL (by simp [lRow])
 have k2 : ((h ++ [AE.Obj.row 1 [.int .i64 100]]) ++ [AE.Obj.row 1 [.nilFunc]])[(h ++ [AE.Obj.row 1 [.int .i64 100]]).length]? = some (.row 1 [.nilFunc]) := by simp
 have hkw : (h ++ [AE.Obj.row 1 [.int .i64 100]]).length = h.length + 1 := by simp
 generalize hkw' : (h ++ [AE.Obj.row 1 [.int .i64 100]]).length = kw at *
 generalize hH : (h ++ [AE.Obj.row 1 [.int .i64 100]]) ++ [AE.Obj.row 1 [.nilFunc]] = H at *
 obtain ⟨ups, sf, hu⟩ := st_fn (ws := []) (ups := []) (kl := h.length) (kw := kw) k2
 have j1 : (H.set kw (fRow h.length kw))[h.length]? = some (lRow 100) := get_set_ne k1 (by omega)
 have j2 : (H.set kw (fRow h.length kw))[kw]? = some (fRow h.length kw) := get_set k2
 have low2 : Low h.length h (H.set kw (fRow h.length kw)) := low.trans (.set (by omega))
 generalize hH1 : H.set kw (fRow h.length kw) = H1 at *
 have hx1 : ∀ (i : Nat) (x : Tm) (q : PV), [t][i]? = some x → [p][i]? = some q → Enc x q := fun i x q h1 h2 => by
  cases i with
  | zero => simp at h1 h2; subst h1 h2; exact ht
  | succ i => simp at h1
 obtain ⟨⟨r, lf', ws⟩, ev, q1, q2, q3⟩ := contains48_w hT (g := 86) (cap := [.ptr kw 0 0 1]) (left0 := 100) (m := .lit) (sz := 3) (by rw [hT.prim]; rfl) j1 ⟨by omega, by omega⟩ (.inr rfl) (show [p].length = [t].length from rfl) hx1 fun i x q hx hq lf' hl0 hl1 => few86 hT (hx1 i x q hx hq) (get_set j1) (get_set_ne j2 (by omega)) (by omega) ⟨hl0, hl1⟩
 dsimp only at ev q1 q2 q3
 have td : tidy 0 h.length (.val (.bool (!r))) ⟨H1.set h.length (lRow lf'), wall ws (wadd kw []), ups⟩ = (.val (.bool (!r)), ⟨h, [], []⟩) := tidy_ups rfl (low2.trans (.set (Nat.le_refl _))) (fun x hx => by
  rcases mem_wall hx with h | h
  · have := q3 x h; omega
  · rcases mem_wadd h with h | h
    · omega
    · cases h) (fun x hx => by
  rcases hu x hx with h | h
  · cases h
  · omega)
 simp (disch := first | omega | decide | simp only [go_sem]) only [go_sem, hkw', hH, sf, hH1, cb ev, hT.prim, primOf, td]
 refine ⟨!r, rfl, fun h => ?_⟩
 have hr : r = false := by simpa using h
 obtain ⟨a1, a2⟩ := q2 hr
 simp only [nodesL] at a2
 omega
end Go.Proofs.Tryz
/- ValsInverse: from a term to its number and back. -/
namespace Go.Proofs.Tryz
open Go Go.AE
variable {T : Tbl} (hT : Std T) {s : GSig}
def Nth6 (T : Tbl) (s : GSig) : Prop := ∀ (a m : Nat) (n : Int), a < s.sorts.length → 1 ≤ m → m ≤ 60 → 0 ≤ n → n < cntOf s a m → ∃ p, Nth91 s a m n p ∧ ∀ h, Ev T 91 [encTab s, .int .i64 (a : Int), .int .i64 (m : Int), .int .i64 n] h (.val p, ⟨h, [], []⟩)
end Go.Proofs.Tryz
