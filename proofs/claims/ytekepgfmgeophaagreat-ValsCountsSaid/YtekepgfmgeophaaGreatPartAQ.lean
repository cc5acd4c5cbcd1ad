/- Texts of the proof, one behind the other: ValFnsR2, ValR3, ValM8, ValR4, ValR5, ValM1, ValM2, ValM3, ValM4, ValM5, ValM9, ValM10, ValP8, ValP9, ValP10, ValP11, ValP12, ValP13, ValL13, ValL14, ValP14, ValL4, ValN7, ValN8, ValN9, ValN10, ValN11, ValN12, ValN13, ValN14, ValN15. -/
import Derived.Test.YtekepgfmgeophaaGreatPartAJ
import Derived.Test.YtekepgfmgeophaaGreatPartAP
import Derived.Test.YtekepgfmgeophaaGreatPartAN
import Derived.Test.YtekepgfmgeophaaGreatPartAO
set_option linter.unusedVariables false
set_option linter.unusedSimpArgs false
/- Functions of the specification as the evaluator has them: printed (counting). -/
namespace Go.Proofs.Tryz
open Go Go.AE
def a58 : AFunc := ⟨3, 30, (.seq (.reg [
 rp 3 (.box 2 (.t 0)),
 ro 6 (.move (ci 0)),
 ro 7 (.move (ci 0))])
 (.seq (.reg [
 rp 9 (.load true 2 (.t 3)),
 mv 10 1,
 rp 11 (.call (.f 92) [(.t 9), (.t 10)]),
 mv 8 11])
 (.seq (.seq (.reg [
 mv 12 8,
 ro 13 (.bin .neq (.t 12) (ci 0))])
 (.cond (.t 13)
 (.seq (.reg [
 mv 14 8,
 ro 6 (.move (ci 0)),
 mv 7 14])
 .ret)
 .skip))
 (.seq (.seq (.reg [
 mv 15 2,
 ro 16 (.bin .lss (.t 15) (ci 0)),
 mv 17 16,
 rg 18 (.move (.t 2)) 17 false,
 rg 19 (.bin .gtr (.t 18) (ci 60)) 17 false,
 ro 20 (.pick (.t 17) (.c (.bool true)) (.t 19))])
 (.cond (.t 20)
 (.seq (.reg [
 ro 6 (.move (ci 0)),
 ro 7 (.move (ci 1))])
 .ret)
 .skip))
 (.seq (.reg [
 rp 21 (.load true 2 (.t 3)),
 mv 22 2,
 rp 23 (.call (.f 93) [(.t 21), (.t 22)]),
 mv 24 2,
 ro 25 (.idxAddr 1 (.t 23) (.t 24)),
 rp 26 (.load false 1 (.t 25)),
 mv 27 1,
 ro 28 (.idxAddr 1 (.t 26) (.t 27)),
 rp 29 (.load false 1 (.t 28)),
 mv 6 29,
 ro 7 (.move (ci 0))])
 .ret))))), [.t 6, .t 7]⟩
theorem fn58 : fnOf 58 = some a58 := by kernel_rfl
def a92 : AFunc := ⟨2, 20, (.seq (.reg [
 rp 2 (.box 2 (.t 0)),
 ro 4 (.move (ci 0))])
 (.seq (.reg [
 rp 6 (.load true 2 (.t 2)),
 rp 7 (.call (.f 97) [(.t 6)]),
 mv 5 7])
 (.seq (.seq (.reg [
 mv 8 5,
 ro 9 (.bin .neq (.t 8) (ci 0))])
 (.cond (.t 9)
 (.seq (.reg [
 mv 10 5,
 mv 4 10])
 .ret)
 .skip))
 (.seq (.seq (.reg [
 mv 11 1,
 ro 12 (.bin .lss (.t 11) (ci 0)),
 mv 13 12,
 rg 14 (.move (.t 1)) 13 false,
 rg 15 (.fieldAddr 0 (.t 2)) 13 false,
 rh 16 (.load false 1 (.t 15)) 13 false,
 rg 17 (.lenL (.t 16)) 13 false,
 rg 18 (.bin .geq (.t 14) (.t 17)) 13 false,
 ro 19 (.pick (.t 13) (.c (.bool true)) (.t 18))])
 (.cond (.t 19)
 (.seq (.reg [
 ro 4 (.move (ci 1))])
 .ret)
 .skip))
 (.seq (.reg [
 ro 4 (.move (ci 0))])
 .ret))))), [.t 4]⟩
theorem fn92 : fnOf 92 = some a92 := by kernel_rfl
def a93b0 : ACode :=
 (.seq (.seq (.reg [
 mv 24 8,
 ro 25 (.fieldAddr 1 (.t 2)),
 rp 26 (.load false 1 (.t 25)),
 ro 27 (.lenL (.t 26)),
 ro 28 (.bin .lss (.t 24) (.t 27))])
 (.cond (.t 28)
 .skip
 (.exit 2)))
 (.seq (.block 3 (.seq (.reg [
 ro 31 (.fieldAddr 1 (.t 2)),
 rp 32 (.load false 1 (.t 31)),
 mv 33 8,
 ro 34 (.idxAddr 3 (.t 32) (.t 33)),
 ro 35 (.fieldAddr 1 (.t 34)),
 rp 36 (.load false 1 (.t 35)),
 mv 37 6,
 ro 38 (.bin .sub (.t 37) (ci 1)),
 mv 39 5,
 rp 40 (.call (.f 166) [(.t 36), (.t 38), (.t 39)]),
 mv 9 40])
 (.regD [
 mv 41 7,
 rd 42 (.fieldAddr 1 (.t 2)) false 1 0 false,
 rd 43 (.load false 1 (.t 42)) true 2 2 false,
 rd 44 (.move (.t 8)) false 3 0 false,
 rd 45 (.idxAddr 3 (.t 43) (.t 44)) false 4 14 false,
 rd 46 (.fieldAddr 2 (.t 45)) false 5 30 false,
 rd 47 (.load false 1 (.t 46)) true 6 62 false,
 rd 48 (.move (.t 7)) false 7 0 false,
 rd 49 (.fieldAddr 1 (.t 2)) false 8 0 false,
 rd 50 (.load false 1 (.t 49)) true 9 256 false,
 rd 51 (.move (.t 8)) false 10 0 false,
 rd 52 (.idxAddr 3 (.t 50) (.t 51)) false 11 1792 false,
 rd 53 (.fieldAddr 2 (.t 52)) false 12 3840 false,
 rd 54 (.load false 1 (.t 53)) true 13 7936 false,
 rd 55 (.idxAddr 1 (.t 48) (.t 54)) false 14 16256 false,
 rd 56 (.load false 1 (.t 55)) true 15 32640 false,
 rd 57 (.move (.t 9)) false 16 0 true,
 rd 58 (.bin .add (.t 56) (.t 57)) false 17 130944 true,
 rd 59 (.call (.f 145) [(.t 58)]) true 18 262016 true,
 rd 60 (.idxAddr 1 (.t 41) (.t 47)) false 19 524287 true,
 wr (.store 1 (.t 60) (.t 59)) 20 1048575 true])))
 (.reg [
 mv 29 8,
 ro 30 (.bin .add (.t 29) (ci 1)),
 mv 8 30])))
def a93b1 : ACode :=
 (.seq (.seq (.reg [
 mv 15 6,
 mv 16 1,
 ro 17 (.bin .leq (.t 15) (.t 16))])
 (.cond (.t 17)
 .skip
 (.exit 0)))
 (.seq (.block 1 (.seq (.reg [
 ro 20 (.fieldAddr 0 (.t 2)),
 rp 21 (.load false 1 (.t 20)),
 ro 22 (.lenL (.t 21)),
 rp 23 (.makeSlice 1 (.int .i64 0) 8 (.t 22) (.t 22)),
 mv 7 23])
 (.seq (.seq (.reg [
 ro 8 (.move (ci 0))])
 (.block 2 (.loop a93b0)))
 (.reg [
 mv 61 5,
 mv 62 7,
 ro 63 (.buildSlice 1 (.slice 0 [] .nil) 1 [(0, (.t 62))]),
 rp 64 (.append 1 24 (.t 61) (.t 63)),
 mv 5 64]))))
 (.reg [
 mv 18 6,
 ro 19 (.bin .add (.t 18) (ci 1)),
 mv 6 19])))
def a93 : AFunc := ⟨2, 66, (.seq (.reg [
 rp 2 (.box 2 (.t 0)),
 ro 4 (.move (.c (.slice 0 [] .nil)))])
 (.seq (.reg [
 ro 10 (.fieldAddr 0 (.t 2)),
 rp 11 (.load false 1 (.t 10)),
 ro 12 (.lenL (.t 11)),
 rp 13 (.makeSlice 1 (.int .i64 0) 8 (.t 12) (.t 12)),
 ro 14 (.buildSlice 1 (.slice 0 [] .nil) 1 [(0, (.t 13))]),
 mv 5 14])
 (.seq (.seq (.reg [
 ro 6 (.move (ci 1))])
 (.block 0 (.loop a93b1)))
 (.seq (.reg [
 mv 65 5,
 mv 4 65])
 .ret)))), [.t 4]⟩
theorem fn93 : fnOf 93 = some a93 := by kernel_rfl
def a145 : AFunc := ⟨1, 6, (.seq (.reg [
 ro 2 (.move (ci 0))])
 (.seq (.seq (.reg [
 mv 3 0,
 ro 4 (.bin .gtr (.t 3) (ci 1099511627776))])
 (.cond (.t 4)
 (.seq (.reg [
 ro 2 (.move (ci 1099511627776))])
 .ret)
 .skip))
 (.seq (.reg [
 mv 5 0,
 mv 2 5])
 .ret))), [.t 2]⟩
theorem fn145 : fnOf 145 = some a145 := by kernel_rfl
def a166b0 : ACode :=
 (.seq (.seq (.reg [
 mv 41 11,
 mv 42 10,
 ro 43 (.bin .leq (.t 41) (.t 42)),
 mv 44 43,
 rg 45 (.move (.t 11)) 44 true,
 rg 46 (.move (.t 2)) 44 true,
 rg 47 (.lenL (.t 46)) 44 true,
 rg 48 (.bin .lss (.t 45) (.t 47)) 44 true,
 ro 49 (.pick (.t 44) (.t 48) (.c (.bool false)))])
 (.cond (.t 49)
 .skip
 (.exit 4)))
 (.seq (.block 5 (.regD [
 mv 52 9,
 rd 53 (.move (.t 10)) false 1 0 false,
 rd 54 (.move (.t 9)) false 2 0 false,
 rd 55 (.move (.t 10)) false 3 0 false,
 rd 56 (.idxAddr 1 (.t 54) (.t 55)) false 4 12 false,
 rd 57 (.load false 1 (.t 56)) true 5 28 false,
 rd 58 (.move (.t 2)) false 6 0 false,
 rd 59 (.move (.t 11)) false 7 0 false,
 rd 60 (.idxAddr 1 (.t 58) (.t 59)) false 8 192 false,
 rd 61 (.load false 1 (.t 60)) true 9 448 false,
 rd 62 (.move (.t 0)) false 10 0 false,
 rd 63 (.move (.t 8)) false 11 0 false,
 rd 64 (.idxAddr 1 (.t 62) (.t 63)) false 12 3072 false,
 rd 65 (.load false 1 (.t 64)) true 13 7168 false,
 rd 66 (.idxAddr 1 (.t 61) (.t 65)) false 14 16320 false,
 rd 67 (.load false 1 (.t 66)) true 15 32704 false,
 rd 68 (.move (.t 7)) false 16 0 false,
 rd 69 (.move (.t 10)) false 17 0 false,
 rd 70 (.move (.t 11)) false 18 0 true,
 rd 71 (.bin .sub (.t 69) (.t 70)) false 19 393216 true,
 rd 72 (.idxAddr 1 (.t 68) (.t 71)) false 20 983040 true,
 rd 73 (.load false 1 (.t 72)) true 21 2031616 true,
 rd 74 (.call (.f 174) [(.t 67), (.t 73)]) true 22 4194240 true,
 rd 75 (.bin .add (.t 57) (.t 74)) false 23 8388604 true,
 rd 76 (.call (.f 145) [(.t 75)]) true 24 16777212 true,
 rd 77 (.idxAddr 1 (.t 52) (.t 53)) false 25 33554431 true,
 wr (.store 1 (.t 77) (.t 76)) 26 67108863 true]))
 (.reg [
 mv 50 11,
 ro 51 (.bin .add (.t 50) (ci 1)),
 mv 11 51])))
def a166b1 : ACode :=
 (.seq (.seq (.reg [
 mv 36 10,
 mv 37 1,
 ro 38 (.bin .leq (.t 36) (.t 37))])
 (.cond (.t 38)
 .skip
 (.exit 2)))
 (.seq (.block 3 (.seq (.reg [
 ro 11 (.move (ci 1))])
 (.block 4 (.loop a166b0))))
 (.reg [
 mv 39 10,
 ro 40 (.bin .add (.t 39) (ci 1)),
 mv 10 40])))
def a166b2 : ACode :=
 (.seq (.seq (.reg [
 mv 29 8,
 ro 30 (.bin .geq (.t 29) (ci 0))])
 (.cond (.t 30)
 .skip
 (.exit 0)))
 (.seq (.block 1 (.seq (.reg [
 mv 33 1,
 ro 34 (.bin .add (.t 33) (ci 1)),
 rp 35 (.makeSlice 1 (.int .i64 0) 8 (.t 34) (.t 34)),
 mv 9 35])
 (.seq (.seq (.reg [
 ro 10 (.move (ci 0))])
 (.block 2 (.loop a166b1)))
 (.reg [
 mv 78 9,
 mv 7 78]))))
 (.reg [
 mv 31 8,
 ro 32 (.bin .sub (.t 31) (ci 1)),
 mv 8 32])))
def a166 : AFunc := ⟨3, 83, (.seq (.reg [
 ro 6 (.move (ci 0))])
 (.seq (.seq (.reg [
 mv 12 0,
 ro 13 (.lenL (.t 12)),
 ro 14 (.bin .eql (.t 13) (ci 0))])
 (.cond (.t 14)
 (.seq (.seq (.reg [
 mv 15 1,
 ro 16 (.bin .eql (.t 15) (ci 0))])
 (.cond (.t 16)
 (.seq (.reg [
 ro 6 (.move (ci 1))])
 .ret)
 .skip))
 (.seq (.reg [
 ro 6 (.move (ci 0))])
 .ret))
 .skip))
 (.seq (.seq (.reg [
 mv 17 1,
 mv 18 0,
 ro 19 (.lenL (.t 18)),
 ro 20 (.bin .lss (.t 17) (.t 19))])
 (.cond (.t 20)
 (.seq (.reg [
 ro 6 (.move (ci 0))])
 .ret)
 .skip))
 (.seq (.reg [
 mv 21 1,
 ro 22 (.bin .add (.t 21) (ci 1)),
 rp 23 (.makeSlice 1 (.int .i64 0) 8 (.t 22) (.t 22)),
 mv 7 23])
 (.seq (.reg [
 mv 24 7,
 ro 25 (.idxAddr 1 (.t 24) (ci 0)),
 wr (.store 1 (.t 25) (ci 1)) 0 0 false])
 (.seq (.seq (.reg [
 mv 26 0,
 ro 27 (.lenL (.t 26)),
 ro 28 (.bin .sub (.t 27) (ci 1)),
 mv 8 28])
 (.block 0 (.loop a166b2)))
 (.seq (.reg [
 mv 79 7,
 mv 80 1,
 ro 81 (.idxAddr 1 (.t 79) (.t 80)),
 rp 82 (.load false 1 (.t 81)),
 mv 6 82])
 .ret))))))), [.t 6]⟩
theorem fn166 : fnOf 166 = some a166 := by kernel_rfl
def a174 : AFunc := ⟨2, 18, (.seq (.reg [
 ro 4 (.move (ci 0))])
 (.seq (.seq (.reg [
 mv 5 0,
 ro 6 (.bin .eql (.t 5) (ci 0)),
 mv 7 6,
 rg 8 (.move (.t 1)) 7 false,
 rg 9 (.bin .eql (.t 8) (ci 0)) 7 false,
 ro 10 (.pick (.t 7) (.c (.bool true)) (.t 9))])
 (.cond (.t 10)
 (.seq (.reg [
 ro 4 (.move (ci 0))])
 .ret)
 .skip))
 (.seq (.seq (.reg [
 mv 11 0,
 mv 12 1,
 ro 13 (.bin .quo (ci 1099511627776) (.t 12)),
 ro 14 (.bin .gtr (.t 11) (.t 13))])
 (.cond (.t 14)
 (.seq (.reg [
 ro 4 (.move (ci 1099511627776))])
 .ret)
 .skip))
 (.seq (.reg [
 mv 15 0,
 mv 16 1,
 ro 17 (.bin .mul (.t 15) (.t 16)),
 mv 4 17])
 .ret)))), [.t 4]⟩
theorem fn174 : fnOf 174 = some a174 := by kernel_rfl
end Go.Proofs.Tryz
/- The specification counts, exact: products, ways. -/
namespace Go.Proofs.Tryz
open Go Go.AE
variable {T : Tbl} (hT : Std T)
def okN (v : Int) : Prop := 0 ≤ v ∧ v ≤ 1099511627776
theorem okN_cap {x : Int} (h : 0 ≤ x) : okN (cap x) := ⟨cap_nn' h, cap_le_top x⟩
include hT in
theorem rcapped_ev {n : Int} (hn : 0 ≤ n) (h : List AE.Obj) : Ev T 145 [.int .i64 n] h (.val (.int .i64 (cap n)), ⟨h, [], []⟩) := by
 refine Ev.walk (hT.sp _ (by decide)) ((hT.fn _).trans fn145) (hT.mode _) rfl ?_
 by_cases hc : 1099511627776 < n
 · have : cap n = 1099511627776 := by unfold cap; omega
   rw [this]
   simp (disch := first | omega | decide | simp only [go_sem]) only [go_sem, hc]
 · have : cap n = n := by unfold cap; omega
   rw [this]
   simp (disch := first | omega | decide | simp only [go_sem]) only [go_sem, hc]
include hT in
theorem rproduct_ev {a b : Int} (ha : okN a) (hb : okN b) (h : List AE.Obj) : Ev T 174 [.int .i64 a, .int .i64 b] h (.val (.int .i64 (cap (a * b))), ⟨h, [], []⟩) := by
 refine Ev.walk (hT.sp _ (by decide)) ((hT.fn _).trans fn174) (hT.mode _) rfl ?_
 obtain ⟨ha0, ha1⟩ := ha
 obtain ⟨hb0, hb1⟩ := hb
 by_cases hz : a = 0
 · subst hz
   have h1 : ((0 : Int) == 0) = true := rfl
   rw [Int.zero_mul]
   simp (disch := first | omega | decide | simp only [go_sem]) only [go_sem, h1]
   rfl
 · have h1 : (a == 0) = false := by simpa using hz
   by_cases hy : b = 0
   · subst hy
     have h2 : ((0 : Int) == 0) = true := rfl
     rw [Int.mul_zero]
     simp (disch := first | omega | decide | simp only [go_sem]) only [go_sem, h1, h2]
     rfl
   · have h2 : (b == 0) = false := by simpa using hy
     have hq : Int.tdiv 1099511627776 b = 1099511627776 / b := Int.tdiv_eq_ediv_of_nonneg (by omega)
     have hq0 : 0 ≤ 1099511627776 / b := Int.ediv_nonneg (by omega) hb0
     have hq1 : 1099511627776 / b ≤ 1099511627776 := Int.ediv_le_self _ (by omega)
     have hb2 : 0 < b := by omega
     have hm0 : 0 ≤ a * b := Int.mul_nonneg ha0 hb0
     by_cases hg : Int.tdiv 1099511627776 b < a
     · have hm : 1099511627776 < a * b := by
        rw [hq] at hg
        exact (Int.ediv_lt_iff_lt_mul hb2).1 hg
       have : cap (a * b) = 1099511627776 := by unfold cap; omega
       rw [this]
       simp (disch := first | omega | decide | simp only [go_sem]) only [go_sem, h1, h2, hy, hg]
     · have hm : a * b ≤ 1099511627776 := by
        have h2 : a ≤ 1099511627776 / b := by rw [← hq]; omega
        exact (Int.le_ediv_iff_mul_le hb2).1 h2
       have hc : cap (a * b) = a * b := by unfold cap; omega
       have hw : IntKind.i64.wrap (a * b) = a * b := wrap64 (by omega) (by omega)
       rw [hc]
       simp (disch := first | omega | decide | simp only [go_sem]) only [go_sem, h1, h2, hy, hg, hw]
structure okV (x : List Int) (n : Nat) : Prop where
 len : x.length = n
 ok : ∀ v ∈ x, okN v
theorem okV.get {x : List Int} {n j : Nat} (h : okV x n) (hj : j < n) : okN (x.getD j 0) := by
 have hl : j < x.length := by rw [h.len]; exact hj
 have e2 : x.getD j 0 = x[j] := by simp [List.getD_eq_getElem?_getD, hl]
 rw [e2]
 exact h.ok _ (List.getElem_mem hl)
theorem okV.set {x : List Int} {n j : Nat} {v : Int} (h : okV x n) (hv : okN v) : okV (x.set j v) n :=
 ⟨by simpa using h.len, fun u hu => by
  rcases List.mem_or_eq_of_mem_set hu with h' | rfl
  · exact h.ok _ h'
  · exact hv⟩
theorem okV.zeros (n : Nat) : okV (List.replicate n 0) n := ⟨by simp, fun v hv => by
 have := (List.mem_replicate.1 hv).2
 subst this
 exact ⟨by omega, by omega⟩⟩
def RowsX (h : List AE.Obj) (refs : List PV) (nS : Nat) (args : List Int) (sv : Nat → Nat → Int) : Prop := ∀ k, k < refs.length → ∃ z, okV z nS ∧ (∀ i, i < args.length → z.getD (args.getD i 0).toNat 0 = sv i k) ∧ ((∃ j, refs[k]? = some (.aref j 1 0 nS nS) ∧ j < h.length ∧ h[j]? = some (.row 1 (z.map encI))) ∨ refs[k]? = some (.slice 1 (z.map encI) .any))
structure WRows (h H : List AE.Obj) (a b : Nat) (x y : List Int) (n : Nat) : Prop where
 low : Low h.length h H
 ha : H[a]? = some (.row 1 (x.map encI))
 hb : H[b]? = some (.row 1 (y.map encI))
 ab : a ≠ b
 la : h.length ≤ a
 lb : h.length ≤ b
 okx : okV x n
 oky : okV y n
structure WSl (e : List PV) (args : List Int) (size : Nat) (refs : List PV) (m : SM) (a b i : Nat) : Prop where
 e0 : eget e 0 = .slice 1 (args.map encI) .any
 e1 : eget e 1 = .int .i64 (size : Int)
 e2 : eget e 2 = .slice 1 refs m
 e7 : eget e 7 = .aref a 1 0 (size + 1) (size + 1)
 e8 : eget e 8 = .int .i64 (i : Int)
 e9 : eget e 9 = .aref b 1 0 (size + 1) (size + 1)
theorem WRows.set {h H : List AE.Obj} {a b n i : Nat} {x y : List Int} {v : Int} (W : WRows h H a b x y n) (hv : okN v) : WRows h (H.set b (.row 1 ((y.set i v).map encI))) a b x (y.set i v) n :=
 ⟨W.low.trans (.set W.lb), get_set_ne W.ha (Ne.symm W.ab), get_set W.hb, W.ab, W.la, W.lb, W.okx, W.oky.set hv⟩
theorem get_getD {x : List Int} {j : Nat} (h : j < x.length) : (x.map encI)[j]? = some (.int .i64 (x.getD j 0)) := by
 rw [get_enc h, List.getD_eq_getElem?_getD, List.getElem?_eq_getElem h]; rfl
theorem set_getD {x : List Int} {j : Nat} (h : x.getD j 0 = 0) : x.set j 0 = x := by
 by_cases hj : j < x.length
 · refine set_self ?_
   rw [List.getD_eq_getElem?_getD, List.getElem?_eq_getElem hj] at h
   rw [List.getElem?_eq_getElem hj]
   exact congrArg some h
 · exact List.set_eq_of_length_le (by omega)
include hT in
theorem ways_b0 {h : List AE.Obj} {args : List Int} {size nS i a b nn : Nat} {refs : List PV} {m : SM} {x : List Int} {sv rv : Nat → Nat → Int} (S : Sys sv rv args.length) (rows : RowsX h refs nS args sv) (hrl : size < refs.length) (h60 : size < 60) (hxv : ∀ q, q ≤ size → x.getD q 0 = rv (i + 1) q) (hargs : okArgs args nS) (hi : i < args.length) (hsz : size < 1000) (hnn : nn ≤ size) (hr : refs.length < 1000)
 {Q : AExit → List PV → St → Prop} {e : List PV} {H : List AE.Obj} {ws : List Nat} {y : List Int} (W : WRows h H a b x y (size + 1)) (E : WSl e args size refs m a b i) (e10 : eget e 10 = .int .i64 (nn : Int)) (e11 : eget e 11 = .int .i64 1) (hw : ∀ k ∈ ws, h.length ≤ k) (hy0 : y.getD nn 0 = 0)
 (hQ : ∀ H' e' ws' c, okN c → c = rv i nn → WRows h H' a b x (y.set nn c) (size + 1) → WSl e' args size refs m a b i → eget e' 10 = .int .i64 (nn : Int) → (∀ k ∈ ws', h.length ≤ k) → Q (.exit 4) e' ⟨H', ws', []⟩) : wpC T (.loop a166b0) e ⟨H, ws, []⟩ Q := by
 refine wpC.loopM (fun n e st => ∃ (k : Nat) (H : List AE.Obj) (ws : List Nat) (c : Int), k + n = nn + 1 ∧ 1 ≤ k ∧ okN c ∧ c = cap (sumS sv rv i nn (k - 1)) ∧ WRows h H a b x (y.set nn c) (size + 1) ∧ WSl e args size refs m a b i ∧ eget e 10 = .int .i64 (nn : Int) ∧ eget e 11 = .int .i64 (k : Int) ∧ (∀ k ∈ ws, h.length ≤ k) ∧ st = ⟨H, ws, []⟩) ?_ nn _ _ ⟨1, H, ws, 0, by omega, by omega, ⟨by omega, by omega⟩, rfl, by rw [set_getD hy0]; exact W, E, e10, e11, hw, rfl⟩
 rintro n e st ⟨k, H, ws, c0, hk, hk1, okc0, hc0, W, E, e10, e11, hw, rfl⟩
 obtain ⟨e0, e1, e2, e7, e8, e9⟩ := E
 have hyl : nn < y.length := by have := W.oky.len; simp at this; omega
 have last : nn < k → ∀ e', WSl e' args size refs m a b i → eget e' 10 = .int .i64 (nn : Int) → Q (.exit 4) e' ⟨H, ws, []⟩ := fun hk2 e' h1 h2 => hQ H e' ws c0 okc0 (by rw [hc0, show k - 1 = nn by omega, S.eq i nn hi (by omega)]) W h1 h2 hw
 by_cases c1 : k ≤ nn
 · have c2 : k < refs.length := by omega
   obtain ⟨z, okz, hz2, hkind⟩ := rows k c2
   obtain ⟨ga, hga⟩ := hargs.get hi
   have hz3 := hz2 i hi
   have ga' : (args.map encI)[i]? = some (.int .i64 (((args.getD i 0).toNat : Nat) : Int)) := by
    rw [List.getElem?_map, ga]; rfl
   have okzi := okz.get hga
   rw [hz3] at okzi
   have fl1 := ld_v W.hb W.oky.len (show nn < size + 1 by omega)
   rw [getD_set hyl, if_pos rfl] at fl1
   have fl3 := ld_v W.ha W.okx.len (show nn - k < size + 1 by omega)
   rw [hxv (nn - k) (by omega)] at fl3
   have okx1 := W.okx.get (show nn - k < size + 1 by omega)
   rw [hxv (nn - k) (by omega)] at okx1
   have hp := rproduct_ev hT okzi okx1 H
   have pn := Int.mul_nonneg okzi.1 okx1.1
   have okp := okN_cap pn
   have hc := rcapped_ev hT (n := c0 + cap (sv i k * rv (i + 1) (nn - k))) (by have := okp.1; have := okc0.1; omega) H
   have okc := okN_cap (x := c0 + cap (sv i k * rv (i + 1) (nn - k))) (by have := okp.1; have := okc0.1; omega)
   have hsum : cap (c0 + cap (sv i k * rv (i + 1) (nn - k))) = cap (sumS sv rv i nn k) := by
    obtain ⟨j, rfl⟩ : ∃ j, k = j + 1 := ⟨k - 1, by omega⟩
    have hs := sumS_nn S i nn j
    rw [hc0, Nat.add_sub_cancel, cap_add_cap (cap_nn' hs), cap_cap_add pn]
    rfl
   generalize cap (sv i k * rv (i + 1) (nn - k)) = pv at *
   generalize cap (c0 + pv) = cv at *
   have fs := st_v (ws := []) (ups := []) (v := cv) W.hb W.oky.len (show nn < size + 1 by omega)
   rw [List.set_set] at fs
   have W' : WRows h (H.set b (.row 1 ((y.set nn cv).map encI))) a b x (y.set nn cv) (size + 1) := by
    have := W.set (i := nn) okc
    rwa [List.set_set] at this
   obtain ⟨op1, op2⟩ := okp
   obtain ⟨oy1, oy2⟩ := okc0
   have h1 : nn < size + 1 := by omega
   have h2 : nn - k < size + 1 := by omega
   rcases hkind with ⟨j, gr, hj, hz⟩ | gr
   · have fl2 := ld_v (W.low.get hj hz) okz.len hga
     rw [hz3] at fl2
     simp (disch := first | omega | decide | simp only [go_sem]) only [go_sem, a166b0, e0, e1, e2, e7, e8, e9, e10, e11, c1, c2, gr, ga', hga, fl1, fl2, fl3, cb hp, cb hc, hT.prim, primOf, cast_sub, h1, h2, fs, allocOp]
     exact ⟨n - 1, by omega, k + 1, _, _, cv, by omega, by omega, okc, by rw [hsum]; rfl, W', ⟨by simp only [go_sem, e0], by simp only [go_sem, e1], by simp only [go_sem, e2], by simp only [go_sem, e7], by simp only [go_sem, e8], by simp only [go_sem, e9]⟩, rfl, wadd_low W.lb hw, rfl⟩
   · have fl2 : (z.map encI)[(args.getD i 0).toNat]? = some (.int .i64 (sv i k)) := by
      rw [← hz3]
      exact get_getD (by rw [okz.len]; exact hga)
     simp (disch := first | omega | decide | simp only [go_sem]) only [go_sem, a166b0, e0, e1, e2, e7, e8, e9, e10, e11, c1, c2, gr, ga', hga, fl1, fl2, fl3, cb hp, cb hc, hT.prim, primOf, cast_sub, h1, h2, fs, allocOp]
     exact ⟨n - 1, by omega, k + 1, _, _, cv, by omega, by omega, okc, by rw [hsum]; rfl, W', ⟨by simp only [go_sem, e0], by simp only [go_sem, e1], by simp only [go_sem, e2], by simp only [go_sem, e7], by simp only [go_sem, e8], by simp only [go_sem, e9]⟩, rfl, wadd_low W.lb hw, rfl⟩
 · simp (disch := first | omega | decide | simp only [go_sem]) only [go_sem, a166b0, e0, e1, e2, e7, e8, e9, e10, e11, c1]
   exact last (by omega) _ ⟨by simp only [go_sem, e0], by simp only [go_sem, e1], by simp only [go_sem, e2], by simp only [go_sem, e7], by simp only [go_sem, e8], by simp only [go_sem, e9]⟩ (by simp only [go_sem, e10])
structure WOne (h H : List AE.Obj) (a : Nat) (x : List Int) (n : Nat) : Prop where
 low : Low h.length h H
 ha : H[a]? = some (.row 1 (x.map encI))
 la : h.length ≤ a
 okx : okV x n
theorem WOne.push {h H : List AE.Obj} {a n : Nat} {x : List Int} (W : WOne h H a x n) : WRows h (H ++ [.row 1 ((List.replicate n 0).map encI)]) a H.length x (List.replicate n 0) n := by
 have hl := (List.getElem?_eq_some_iff.1 W.ha).1
 refine ⟨W.low.push (by have := W.low.len; omega), ?_, by simp, by omega, W.la, by have := W.low.len; omega, W.okx, .zeros n⟩
 rw [List.getElem?_append_left hl]
 exact W.ha
include hT in
theorem ways_b1 {h : List AE.Obj} {args : List Int} {size nS i a b : Nat} {refs : List PV} {m : SM} {x : List Int} {sv rv : Nat → Nat → Int} (S : Sys sv rv args.length) (rows : RowsX h refs nS args sv) (hrl : size < refs.length) (h60 : size < 60) (hxv : ∀ q, q ≤ size → x.getD q 0 = rv (i + 1) q) (hargs : okArgs args nS) (hi : i < args.length) (hsz : size < 1000) (hr : refs.length < 1000)
 {Q : AExit → List PV → St → Prop} {e : List PV} {H : List AE.Obj} {ws : List Nat} {y : List Int} (W : WRows h H a b x y (size + 1)) (E : WSl e args size refs m a b i) (e10 : eget e 10 = .int .i64 0) (hw : ∀ k ∈ ws, h.length ≤ k) (hy0 : ∀ q, y.getD q 0 = 0)
 (hQ : ∀ H' e' ws' y', (∀ q, q ≤ size → y'.getD q 0 = rv i q) → WRows h H' a b x y' (size + 1) → WSl e' args size refs m a b i → (∀ k ∈ ws', h.length ≤ k) → Q (.exit 2) e' ⟨H', ws', []⟩) : wpC T (.loop a166b1) e ⟨H, ws, []⟩ Q := by
 refine wpC.loopM (fun n e st => ∃ (nn : Nat) (H : List AE.Obj) (ws : List Nat) (y : List Int), nn + n = size + 1 ∧ (∀ q, q < nn → y.getD q 0 = rv i q) ∧ (∀ q, nn ≤ q → y.getD q 0 = 0) ∧ WRows h H a b x y (size + 1) ∧ WSl e args size refs m a b i ∧ eget e 10 = .int .i64 (nn : Int) ∧ (∀ k ∈ ws, h.length ≤ k) ∧ st = ⟨H, ws, []⟩) ?_ (size + 1) _ _ ⟨0, H, ws, y, by omega, fun q hq => by omega, fun q _ => hy0 q, W, E, e10, hw, rfl⟩
 rintro n e st ⟨nn, H, ws, y, hnn, hlo, hhi, W, E, e10, hw, rfl⟩
 obtain ⟨e0, e1, e2, e7, e8, e9⟩ := E
 by_cases c1 : nn ≤ size
 · simp (disch := first | omega | decide | simp only [go_sem]) only [go_sem, a166b1, e1, e10, c1]
   refine ways_b0 hT (m := m) S rows hrl h60 hxv hargs hi hsz c1 hr W ⟨by simp only [go_sem, e0], by simp only [go_sem, e1], by simp only [go_sem, e2], by simp only [go_sem, e7], by simp only [go_sem, e8], by simp only [go_sem, e9]⟩ (by simp only [go_sem, e10]) (by simp only [go_sem]) hw (hhi nn (Nat.le_refl _)) fun H' e' ws' c okc hc W' E' e10' hw' => ?_
   simp (disch := first | omega | decide | simp only [go_sem]) only [go_sem, e10']
   obtain ⟨e0, e1, e2, e7, e8, e9⟩ := E'
   have hyl : nn < y.length := by have := W.oky.len; omega
   exact ⟨n - 1, by omega, nn + 1, _, _, y.set nn c, by omega, fun q hq => by
    by_cases hqn : q = nn
    · subst hqn; rw [getD_set hyl, if_pos rfl, hc]
    · rw [getD_set_ne (by omega)]; exact hlo q (by omega), fun q hq => by rw [getD_set_ne (by omega)]; exact hhi q (by omega), W', ⟨by simp only [go_sem, e0], by simp only [go_sem, e1], by simp only [go_sem, e2], by simp only [go_sem, e7], by simp only [go_sem, e8], by simp only [go_sem, e9]⟩, rfl, hw', rfl⟩
 · simp (disch := first | omega | decide | simp only [go_sem]) only [go_sem, a166b1, e1, e10, c1]
   exact hQ _ _ _ _ (fun q hq => hlo q (by omega)) W ⟨by simp only [go_sem, e0], by simp only [go_sem, e1], by simp only [go_sem, e2], by simp only [go_sem, e7], by simp only [go_sem, e8], by simp only [go_sem, e9]⟩ hw
theorem rv_zero {sv rv : Nat → Nat → Int} {L : Nat} (S : Sys sv rv L) : ∀ j k q, k + j = L → q < j → q < 60 → rv k q = 0
 | 0, _, _, _, h, _ => by omega
 | j + 1, k, q, hk, hq, h60 => by
   rw [S.eq k q (by omega) h60]
   have : ∀ i, i ≤ q → sumS sv rv k q i = 0 := fun i => by
    induction i with
    | zero => intro _; rfl
    | succ i ih =>
      intro hi
      simp only [sumS]
      rw [ih (by omega), rv_zero S j (k + 1) (q - (i + 1)) (by omega) (by omega) (by omega), Int.mul_zero, Int.add_zero]
   rw [this q (Nat.le_refl _)]; rfl
include hT in
theorem rways_ev {h : List AE.Obj} {args : List Int} {size nS : Nat} {refs : List PV} {m : SM} {sv rv : Nat → Nat → Int} (S : Sys sv rv args.length) (rows : RowsX h refs nS args sv) (hrl : size < refs.length) (h60 : size < 60) (hargs : okArgs args nS) (hal : args.length < 900) (hsz : size < 1000) (hr : refs.length < 1000) :
 Ev T 166 [.slice 1 (args.map encI) .any, .int .i64 (size : Int), .slice 1 refs m] h (.val (.int .i64 (rv 0 size)), ⟨h, [], []⟩) := by
 refine Ev.walk (hT.sp _ (by decide)) ((hT.fn _).trans fn166) (hT.mode _) rfl ?_
 have hmk := mk_ok (sz := 1) (bytes := 8) (n := size + 1) (z := .int .i64 0) (by omega) (by omega) rfl
 have hrep : List.replicate (size + 1) (PV.int .i64 0) = (List.replicate (size + 1) (0 : Int)).map encI := by simp [encI]
 have h0 : 0 < size + 1 := by omega
 generalize hH : h ++ [AE.Obj.row 1 ((List.replicate (size + 1) (0 : Int)).map encI)] = H
 have hHk : H[h.length]? = some (.row 1 ((List.replicate (size + 1) (0 : Int)).map encI)) := by rw [← hH]; simp
 have fs := st_v (ws := []) (ups := []) (v := 1) hHk (by simp) h0
 by_cases hL : args.length = 0
 · have b0 : ((args.length : Int) == 0) = true := by simp [hL]
   have hl := S.last size
   rw [hL] at hl
   by_cases hs0 : size = 0
   · have b1 : ((size : Int) == 0) = true := by simp [hs0]
     rw [hl, if_pos hs0]
     simp (disch := first | omega | decide | simp only [go_sem]) only [go_sem, b0, b1]
   · have b1 : ((size : Int) == 0) = false := by simp [hs0]
     rw [hl, if_neg hs0]
     simp (disch := first | omega | decide | simp only [go_sem]) only [go_sem, b0, b1]
 have b0 : ((args.length : Int) == 0) = false := by simpa using hL
 by_cases hsl : size < args.length
 · have hl := rv_zero S args.length 0 size (by omega) (by omega) h60
   rw [hl]
   simp (disch := first | omega | decide | simp only [go_sem]) only [go_sem, b0, hsl]
 simp (disch := first | omega | decide | simp only [go_sem]) only [go_sem, hmk, hrep, hH, h0, fs, Nat.zero_lt_succ, b0, hsl]
 have W0 : WOne h (H.set h.length (.row 1 (((List.replicate (size + 1) (0 : Int)).set 0 1).map encI))) h.length ((List.replicate (size + 1) (0 : Int)).set 0 1) (size + 1) :=
  ⟨.trans (by rw [← hH]; exact (Low.refl _ _).push (Nat.le_refl _)) (.set (Nat.le_refl _)), get_set hHk, Nat.le_refl _, (okV.zeros _).set ⟨by omega, by omega⟩⟩
 refine wpC.loopM (fun n e st => ∃ (H : List AE.Obj) (ws : List Nat) (a : Nat) (x : List Int), n ≤ args.length ∧ (∀ q, q ≤ size → x.getD q 0 = rv n q) ∧ WOne h H a x (size + 1) ∧ eget e 0 = .slice 1 (args.map encI) .any ∧ eget e 1 = .int .i64 (size : Int) ∧ eget e 2 = .slice 1 refs m ∧ eget e 7 = .aref a 1 0 (size + 1) (size + 1) ∧ eget e 8 = .int .i64 ((n : Int) - 1) ∧ (∀ k ∈ ws, h.length ≤ k) ∧ st = ⟨H, ws, []⟩) ?_ args.length _ _ ⟨_, _, _, _, Nat.le_refl _, fun q hq => by
  rw [S.last]
  by_cases hq0 : q = 0
  · subst hq0; rw [getD_set (by simp), if_pos rfl, if_pos rfl]
  · rw [if_neg hq0, getD_set_ne (by omega)]; simp only [List.getD_eq_getElem?_getD, List.getElem?_replicate]; split <;> rfl, W0, by simp only [go_sem], by simp only [go_sem], by simp only [go_sem], by simp only [go_sem], by simp only [go_sem], wadd_low (Nat.le_refl _) (by simp), rfl⟩
 rintro n e st ⟨H, ws, a, x, hn, hxv, W, e0, e1, e2, e7, e8, hw, rfl⟩
 cases n with
 | zero =>
   have c : ¬ ((0 : Int) ≤ ((0 : Nat) : Int) - 1) := by omega
   have fl := ld_v W.ha W.okx.len (show size < size + 1 by omega)
   have c2 : size < size + 1 := by omega
   rw [hxv size (Nat.le_refl _)] at fl
   simp (disch := first | omega | decide | simp only [go_sem]) only [go_sem, a166b2, e0, e1, e2, e7, e8, c, fl, c2]
   exact tidy_low rfl rfl W.low hw
 | succ k =>
   have c : (0 : Int) ≤ (k : Int) := by omega
   have W1 := W.push
   generalize hH2 : H ++ [AE.Obj.row 1 ((List.replicate (size + 1) (0 : Int)).map encI)] = H2 at W1
   simp (disch := first | omega | decide | simp only [go_sem]) only [go_sem, a166b2, e0, e1, e2, e7, e8, c, hmk, hrep, hH2]
   refine ways_b1 hT (m := m) (i := k) S rows hrl h60 hxv hargs (by omega) hsz hr W1 ⟨by simp only [go_sem, e0], by simp only [go_sem, e1], by simp only [go_sem, e2], by simp only [go_sem, e7], by simp only [go_sem, e8], by simp only [go_sem]⟩ (by simp only [go_sem]) hw (fun q => by simp only [List.getD_eq_getElem?_getD, List.getElem?_replicate]; split <;> rfl) fun H' e' ws' y' hy' W' E' hw' => ?_
   obtain ⟨e0, e1, e2, e7, e8, e9⟩ := E'
   simp (disch := first | omega | decide | simp only [go_sem]) only [go_sem, e8, e9]
   exact ⟨k, by omega, _, _, _, _, by omega, hy', ⟨W'.low, W'.hb, W'.lb, W'.oky⟩, e0, e1, e2, rfl, rfl, hw', rfl⟩
end Go.Proofs.Tryz
/- The specification's sort of a term. -/
namespace Go.Proofs.Tryz
open Go Go.AE
variable {T : Tbl} (hT : Std T) {s : GSig}
end Go.Proofs.Tryz
/- The specification's table, exact. -/
namespace Go.Proofs.Tryz
open Go Go.AE
variable {T : Tbl} (hT : Std T)
def refOf (nS j : Nat) : PV := .aref j 1 0 nS nS
structure TS (h H : List AE.Obj) (s : GSig) (js : List Nat) (zs : List (List Int)) : Prop where
 low : Low h.length h H
 box : H[h.length]? = some (.row 2 [encSig s])
 len : zs.length = js.length
 rows : ∀ (i j : Nat) (z : List Int), js[i]? = some j → zs[i]? = some z → H[j]? = some (.row 1 (z.map encI))
 ok : ∀ z ∈ zs, okV z s.sorts.length
 ex : ∀ (k : Nat) (z : List Int), zs[k]? = some z → ∀ a, a < s.sorts.length → z.getD a 0 = cntOf s a k
 big : ∀ j ∈ js, h.length < j
theorem TS.rowsX {h H : List AE.Obj} {s : GSig} {js : List Nat} {zs : List (List Int)} (G : TS h H s js zs) {o : GOp} (ho : okArgs o.args s.sorts.length) : RowsX H (js.map (refOf s.sorts.length)) s.sorts.length o.args (svOf s o) := by
 intro k hk
 have hk1 : k < js.length := by simpa using hk
 have hk2 : k < zs.length := by rw [G.len]; exact hk1
 have hz := List.getElem?_eq_getElem hk2
 have h1 := G.rows k js[k] zs[k] (List.getElem?_eq_getElem hk1) hz
 exact ⟨zs[k], G.ok _ (List.getElem_mem hk2), fun i hi => G.ex k _ hz _ (ho.get hi).2, .inl ⟨js[k], by simp [hk1, refOf], (List.getElem?_eq_some_iff.1 h1).1, h1⟩⟩
theorem TS.set {h H : List AE.Obj} {s : GSig} {js : List Nat} {zs : List (List Int)} (G : TS h H s js zs) {r : Nat} {o : AE.Obj} (hr : h.length < r) (hn : r ∉ js) : TS h (H.set r o) s js zs :=
 ⟨G.low.trans (.set (by omega)), get_set_ne G.box (by omega), G.len, fun i j z a b => get_set_ne (G.rows i j z a b) (by rintro rfl; exact hn (List.mem_of_getElem? a)), G.ok, G.ex, G.big⟩
theorem TS.push {h H : List AE.Obj} {s : GSig} {js : List Nat} {zs : List (List Int)} (G : TS h H s js zs) {o : AE.Obj} : TS h (H ++ [o]) s js zs := by
 have keep : ∀ {k : Nat} {ob : AE.Obj}, H[k]? = some ob → (H ++ [o])[k]? = some ob := fun hx => by
  rw [List.getElem?_append_left (List.getElem?_eq_some_iff.1 hx).1]; exact hx
 exact ⟨G.low.push (by have := G.low.len; omega), keep G.box, G.len, fun i j z a b => keep (G.rows i j z a b), G.ok, G.ex, G.big⟩
theorem TS.more {h H : List AE.Obj} {s : GSig} {js : List Nat} {zs : List (List Int)} (G : TS h H s js zs) {r : Nat} {x : List Int} (hr : h.length < r) (hx : H[r]? = some (.row 1 (x.map encI))) (ok : okV x s.sorts.length) (ex : ∀ a, a < s.sorts.length → x.getD a 0 = cntOf s a js.length) : TS h H s (js ++ [r]) (zs ++ [x]) := by
 refine ⟨G.low, G.box, by simp [G.len], fun i j z a b => ?_, fun z hz => ?_, fun k z hz a ha => ?_, fun j hj => ?_⟩
 · by_cases hi : i < js.length
   · rw [List.getElem?_append_left hi] at a
     rw [List.getElem?_append_left (by rw [G.len]; exact hi)] at b
     exact G.rows i j z a b
   · have hi2 : i = js.length := by
      have := (List.getElem?_eq_some_iff.1 a).1
      simp at this
      omega
     subst hi2
     simp at a
     rw [← G.len] at b
     simp at b
     subst a b
     exact hx
 · rcases List.mem_append.1 hz with h | h
   · exact G.ok z h
   · rw [List.mem_singleton.1 h]; exact ok
 · by_cases hk : k < zs.length
   · rw [List.getElem?_append_left hk] at hz
     exact G.ex k z hz a ha
   · have hk2 : k = zs.length := by
      have := (List.getElem?_eq_some_iff.1 hz).1
      simp at this
      omega
     subst hk2
     simp at hz
     subst hz
     rw [G.len]
     exact ex a ha
 · rcases List.mem_append.1 hj with h | h
   · exact G.big j h
   · rw [List.mem_singleton.1 h]; exact hr
structure TSl (h : List AE.Obj) (s : GSig) (js : List Nat) (m : SM) (p r : Nat) (v : PV) (e : List PV) : Prop where
 e1 : eget e 1 = v
 e2 : eget e 2 = .ptr h.length 0 0 1
 e5 : eget e 5 = .slice 1 (js.map (refOf s.sorts.length)) m
 e6 : eget e 6 = .int .i64 ((p + 1 : Nat) : Int)
 e7 : eget e 7 = .aref r 1 0 s.sorts.length s.sorts.length
include hT in
theorem table_step {h : List AE.Obj} {s : GSig} (hs : Fits s) (hops : okOps s.ops s.sorts.length) {js : List Nat} {zs : List (List Int)} {r p i : Nat} {m : SM} {v : PV} (hp : p < 60) (hjs : js.length = p + 1) (c1 : i < s.ops.length)
 {Q : AExit → List PV → St → Prop} {e : List PV} {H : List AE.Obj} {ws : List Nat} {x : List Int} (G : TS h H s js zs) (hx : H[r]? = some (.row 1 (x.map encI))) (okx : okV x s.sorts.length) (E : TSl h s js m p r v e) (e8 : eget e 8 = .int .i64 (i : Int))
 (hQ : ∀ e' c, okN c → c = cap (x.getD s.ops[i].res.toNat 0 + rvOf s i 0 p) → TSl h s js m p r v e' → eget e' 8 = .int .i64 ((i + 1 : Nat) : Int) → Q .normal e' ⟨H.set r (.row 1 ((x.set s.ops[i].res.toNat c).map encI)), wadd r ws, []⟩) : wpC T a93b0 e ⟨H, ws, []⟩ Q := by
 obtain ⟨e1, e2, e5, e6, e7⟩ := E
 have hs1 := hs.nS
 have hs2 := hs.nO
 have fb1 : loadAt false 1 (.ptr h.length 0 1 1) H = some (.slice 3 (s.ops.map encOp) .any) := by rw [ld_at G.box]; rfl
 have go := get_op c1
 obtain ⟨k1, ⟨k2, k3⟩, k4⟩ := hops _ (List.getElem_mem c1)
 obtain ⟨rn, hrn⟩ := Int.eq_ofNat_of_zero_le k2
 have hrn2 : rn < s.sorts.length := by omega
 have ho : s.ops[i]? = some s.ops[i] := List.getElem?_eq_getElem c1
 have S := sysOf hops ho
 have hw1 := rways_ev hT (m := m) (size := p) S (G.rowsX k1) (by simp; omega) hp k1 k4 (by omega) (by simp; omega)
 have okw : okN (rvOf s i 0 p) := ⟨S.r0 0 p, S.rc 0 p⟩
 have hrt : s.ops[i].res.toNat = rn := by omega
 rw [hrt] at hQ
 have fl := ld_v hx okx.len hrn2
 have ox := okx.get hrn2
 have hc := rcapped_ev hT (n := x.getD rn 0 + rvOf s i 0 p) (by have := okw.1; have := ox.1; omega) H
 have okc := okN_cap (x := x.getD rn 0 + rvOf s i 0 p) (by have := okw.1; have := ox.1; omega)
 have hQ := hQ
 generalize rvOf s i 0 p = w at *
 obtain ⟨c, hcc⟩ : ∃ c, c = cap (x.getD rn 0 + w) := ⟨_, rfl⟩
 rw [← hcc] at hc okc
 have fs := st_v (ws := []) (ups := []) (v := c) hx okx.len hrn2
 obtain ⟨ow1, ow2⟩ := okw
 obtain ⟨ox1, ox2⟩ := ox
 simp (disch := first | omega | decide | simp only [go_sem]) only [go_sem, a93b0, e2, e5, e6, e7, e8, c1, fb1, go, cb hw1, cb hc, hT.prim, primOf, hrn, hrn2, fl, fs, allocOp]
 exact hQ _ _ okc hcc ⟨by simp only [go_sem, e1], by simp only [go_sem, e2], by simp only [go_sem, e5], by simp only [go_sem, e6], by simp only [go_sem, e7]⟩ (by simp only [go_sem])
include hT in
theorem table_b0 {h : List AE.Obj} {s : GSig} (hs : Fits s) (hops : okOps s.ops s.sorts.length) {js : List Nat} {zs : List (List Int)} {r p : Nat} {m : SM} {v : PV} (hp : p < 60) (hjs : js.length = p + 1) (hr : h.length < r) (hrj : r ∉ js)
 {Q : AExit → List PV → St → Prop} {e : List PV} {H : List AE.Obj} {ws : List Nat} {x : List Int} (G : TS h H s js zs) (hx : H[r]? = some (.row 1 (x.map encI))) (okx : okV x s.sorts.length) (E : TSl h s js m p r v e) (e8 : eget e 8 = .int .i64 0) (hw : ∀ k ∈ ws, h.length ≤ k) (hx0 : ∀ a, x.getD a 0 = 0)
 (hQ : ∀ H' e' ws' x', TS h H' s js zs → H'[r]? = some (.row 1 (x'.map encI)) → okV x' s.sorts.length → (∀ a, a < s.sorts.length → x'.getD a 0 = cntOf s a (p + 1)) → (∀ k o, H[k]? = some o → k ≠ r → H'[k]? = some o) → TSl h s js m p r v e' → (∀ k ∈ ws', h.length ≤ k) → Q (.exit 2) e' ⟨H', ws', []⟩) :
 wpC T (.loop a93b0) e ⟨H, ws, []⟩ Q := by
 have hs1 := hs.nS
 have hs2 := hs.nO
 refine wpC.loopM (fun n e st => ∃ (i : Nat) (H' : List AE.Obj) (ws : List Nat) (x : List Int), i + n = s.ops.length ∧ TS h H' s js zs ∧ H'[r]? = some (.row 1 (x.map encI)) ∧ okV x s.sorts.length ∧ (∀ a : Nat, a < s.sorts.length → x.getD a 0 = cap (aT s.ops (tabOf s) (a : Int) p i)) ∧ (∀ k o, H[k]? = some o → k ≠ r → H'[k]? = some o) ∧ TSl h s js m p r v e ∧ eget e 8 = .int .i64 (i : Int) ∧ (∀ k ∈ ws, h.length ≤ k) ∧ st = ⟨H', ws, []⟩) ?_ s.ops.length _ _
  ⟨0, H, ws, x, by omega, G, hx, okx, fun a _ => by rw [hx0]; rfl, fun _ _ h _ => h, E, e8, hw, rfl⟩
 rintro n e st ⟨i, H', ws, x, hi, G, hx, okx, hxe, same, E, e8, hw, rfl⟩
 by_cases c1 : i < s.ops.length
 · refine table_step hT hs hops hp hjs c1 G hx okx E e8 fun e' c okc hcc E' e8' => ?_
   have ho : s.ops[i]? = some s.ops[i] := List.getElem?_eq_getElem c1
   obtain ⟨_, ⟨k2, k3⟩, _⟩ := hops _ (List.getElem_mem c1)
   have S := sysOf hops ho
   have r0 := S.r0 0 p
   obtain ⟨_, K⟩ := tabOf_sem hops
   exact ⟨n - 1, by omega, i + 1, _, _, _, by omega, G.set hr hrj, get_set hx, okx.set okc, fun a ha => by
    have hrl : s.ops[i].res.toNat < x.length := by rw [okx.len]; omega
    have hstep : aT s.ops (tabOf s) (a : Int) p (i + 1) = aT s.ops (tabOf s) (a : Int) p i + if s.ops[i].res = (a : Int) then rvOf s i 0 p else 0 := by simp only [aT, ho]; rfl
    rw [hstep]
    by_cases hra : s.ops[i].res = (a : Int)
    · have : s.ops[i].res.toNat = a := by omega
      rw [getD_set hrl, if_pos this, if_pos hra, hcc, this, hxe a ha, cap_cap_add r0]
    · rw [getD_set_ne (by omega), if_neg hra, Int.add_zero]
      exact hxe a ha, fun k o hk hne => get_set_ne (same k o hk hne) (Ne.symm hne), E', e8', wadd_low (by omega) hw, rfl⟩
 · have fb1 : loadAt false 1 (.ptr h.length 0 1 1) H' = some (.slice 3 (s.ops.map encOp) .any) := by rw [ld_at G.box]; rfl
   obtain ⟨e1, e2, e5, e6, e7⟩ := E
   simp (disch := first | omega | decide | simp only [go_sem]) only [go_sem, a93b0, e2, e5, e6, e7, e8, c1, fb1]
   have hil : i = s.ops.length := by omega
   subst hil
   exact hQ _ _ _ _ G hx okx (fun a ha => by rw [hxe a ha]; exact (tabOf_cnt hops ha hp).symm) same ⟨by simp only [go_sem, e1], by simp only [go_sem, e2], by simp only [go_sem, e5], by simp only [go_sem, e6], by simp only [go_sem, e7]⟩ hw
def Mark (h H : List AE.Obj) (n : Nat) (js : List Nat) (m : SM) : Prop := m = .lit ∨ ∃ k, m = .tok k ∧ H[k]? = some (.tok 1 n) ∧ k ∉ js ∧ h.length < k
theorem append_ref {h H : List AE.Obj} {s : GSig} {js : List Nat} {zs : List (List Int)} {R n : Nat} {x : List Int} {m : SM} {ws : List Nat} (G : TS h H s js zs) (hx : H[R]? = some (.row 1 (x.map encI))) (okx : okV x s.sorts.length) (hxe : ∀ a, a < s.sorts.length → x.getD a 0 = cntOf s a js.length) (hr : h.length < R) (hjl : js.length = n) (hn : n < 1000) (M : Mark h H n js m) (hm : ∀ k, m = .tok k → k ≠ R)
 (hw : ∀ k ∈ ws, h.length ≤ k) :
 ∃ H2 m2 ws2, appendop 1 24 (.slice 1 (js.map (refOf s.sorts.length)) m) (.slice 1 [.aref R 1 0 s.sorts.length s.sorts.length] .lit) ⟨H, ws, []⟩ = some (.slice 1 ((js ++ [R]).map (refOf s.sorts.length)) m2, ⟨H2, ws2, []⟩) ∧ TS h H2 s (js ++ [R]) (zs ++ [x]) ∧ Mark h H2 (n + 1) (js ++ [R]) m2 ∧ (∀ k ∈ ws2, h.length ≤ k) := by
 have G2 := G.more hr hx okx hxe
 have hroom : (n + 1) * 24 ≤ room ∧ n + 1 ≤ room := by
  have : room = 4611686018427387903 ∨ 100000 ≤ room := .inr (by decide)
  constructor <;> rcases this with h | h <;> omega
 rcases M with rfl | ⟨k, rfl, h2, h3, h4⟩
 · refine ⟨H ++ [.tok 1 (n + 1)], .tok H.length, ws, ?_, G2.push, .inr ⟨H.length, rfl, by simp, fun hm => ?_, (List.getElem?_eq_some_iff.1 G.box).1⟩, hw⟩
   · simp [appendop, elems, hjl, PV.cells, PV.isCell, hroom, alloc, refOf]
   · obtain ⟨i, hi, hh⟩ := List.getElem_of_mem hm
     have := (List.getElem?_eq_some_iff.1 (G2.rows i _ ((zs ++ [x])[i]'(by rw [G2.len]; exact hi)) (List.getElem?_eq_getElem hi) (List.getElem?_eq_getElem _))).1
     omega
 · have hk : k ∉ js ++ [R] := fun hm' => by
    rcases List.mem_append.1 hm' with h | h
    · exact h3 h
    · exact hm k rfl (List.mem_singleton.1 h)
   refine ⟨H.set k (.tok 1 (n + 1)), .tok k, wadd k ws, ?_, G2.set h4 hk, .inr ⟨k, rfl, get_set h2, hk, h4⟩, wadd_low (by omega) hw⟩
   simp [appendop, elems, hjl, PV.cells, PV.isCell, hroom, wrote_none, refOf, h2]
def encRows (zs : List (List Int)) : PV := .slice 1 (zs.map fun z => .slice 1 (z.map encI) .any) .any
include hT in
theorem table_b1 {h : List AE.Obj} {s : GSig} (hs : Fits s) (hops : okOps s.ops s.sorts.length) {most : Nat} (hmost : most ≤ 60) {Q : AExit → List PV → St → Prop} {e : List PV} {H : List AE.Obj} {ws : List Nat} {j0 : Nat} {z0 : List Int} (G : TS h H s [j0] [z0])
 (e1 : eget e 1 = .int .i64 (most : Int)) (e2 : eget e 2 = .ptr h.length 0 0 1) (e5 : eget e 5 = .slice 1 [refOf s.sorts.length j0] .lit) (e6 : eget e 6 = .int .i64 1) (hw : ∀ k ∈ ws, h.length ≤ k)
 (hQ : ∀ H' e' ws' js zs m, TS h H' s js zs → zs.length = most + 1 → eget e' 5 = .slice 1 (js.map (refOf s.sorts.length)) m → (∀ k ∈ ws', h.length ≤ k) → Q (.exit 0) e' ⟨H', ws', []⟩) :
 wpC T (.loop a93b1) e ⟨H, ws, []⟩ Q := by
 have hs1 := hs.nS
 have hs2 := hs.nO
 refine wpC.loopM (fun n e st => ∃ (p : Nat) (H : List AE.Obj) (ws : List Nat) (js : List Nat) (zs : List (List Int)) (m : SM), p + n = most ∧ js.length = p + 1 ∧ TS h H s js zs ∧ Mark h H (p + 1) js m ∧ eget e 1 = .int .i64 (most : Int) ∧ eget e 2 = .ptr h.length 0 0 1 ∧ eget e 5 = .slice 1 (js.map (refOf s.sorts.length)) m ∧ eget e 6 = .int .i64 ((p + 1 : Nat) : Int) ∧ (∀ k ∈ ws, h.length ≤ k) ∧ st = ⟨H, ws, []⟩) ?_ most _ _
  ⟨0, H, ws, [j0], [z0], .lit, by omega, rfl, G, .inl rfl, e1, e2, e5, e6, hw, rfl⟩
 rintro n e st ⟨p, H, ws, js, zs, m, hp, hjl, G, M, e1, e2, e5, e6, hw, rfl⟩
 have fb0 : loadAt false 1 (.ptr h.length 0 0 1) H = some (.slice 1 (s.sorts.map .str) .any) := by rw [ld_at G.box]; rfl
 by_cases c1 : p + 1 ≤ most
 · have hmk := mk_ok (sz := 1) (bytes := 8) (n := s.sorts.length) (z := .int .i64 0) (by omega) (by omega) rfl
   have hrep : List.replicate s.sorts.length (PV.int .i64 0) = (List.replicate s.sorts.length (0 : Int)).map encI := by simp [encI]
   have G1 := G.push (o := .row 1 ((List.replicate s.sorts.length (0 : Int)).map encI))
   have hx1 : (H ++ [AE.Obj.row 1 ((List.replicate s.sorts.length (0 : Int)).map encI)])[H.length]? = some (.row 1 ((List.replicate s.sorts.length (0 : Int)).map encI)) := by simp
   have hr : h.length < H.length := (List.getElem?_eq_some_iff.1 G.box).1
   have hrj : H.length ∉ js := fun hm => by
    obtain ⟨i, hi, hh⟩ := List.getElem_of_mem hm
    have := (List.getElem?_eq_some_iff.1 (G.rows i _ (zs[i]'(by rw [G.len]; exact hi)) (List.getElem?_eq_getElem hi) (List.getElem?_eq_getElem _))).1
    omega
   have M1 : Mark h (H ++ [AE.Obj.row 1 ((List.replicate s.sorts.length (0 : Int)).map encI)]) (p + 1) js m := by
    rcases M with h | ⟨k, h1, h2, h3, h4⟩
    · exact .inl h
    · exact .inr ⟨k, h1, by rw [List.getElem?_append_left (List.getElem?_eq_some_iff.1 h2).1]; exact h2, h3, h4⟩
   have hne : ∀ k, m = .tok k → k ≠ H.length := fun k hk => by
    rcases M with h | ⟨k', h1, h2, h3, _⟩
    · rw [hk] at h; cases h
    · rw [hk] at h1; cases h1
      have := (List.getElem?_eq_some_iff.1 h2).1
      omega
   generalize hH1 : H ++ [AE.Obj.row 1 ((List.replicate s.sorts.length (0 : Int)).map encI)] = H1 at G1 hx1 M1
   generalize hRR : H.length = R at *
   simp (disch := first | omega | decide | simp only [go_sem]) only [go_sem, a93b1, e1, e2, e5, e6, c1, fb0, hmk, hrep, hH1, hRR]
   refine table_b0 hT hs hops (p := p) (m := m) (v := .int .i64 (most : Int)) (by omega) hjl hr hrj G1 hx1 (.zeros _) ⟨by simp only [go_sem, e1], by simp only [go_sem, e2], by simp only [go_sem, e5], by simp only [go_sem, e6], by simp only [go_sem]⟩ (by simp only [go_sem]) hw (fun a => by simp only [List.getD_eq_getElem?_getD, List.getElem?_replicate]; split <;> rfl) fun H' e' ws' x' G' hx' okx' hxe' same E' hw' => ?_
   obtain ⟨e1, e2, e5, e6, e7⟩ := E'
   have fe : fillE 1 (List.replicate 1 (PV.slice 0 [] .nil)) [(0, .aref R 1 0 s.sorts.length s.sorts.length)] = some [.aref R 1 0 s.sorts.length s.sorts.length] := rfl
   have M' : Mark h H' (p + 1) js m := by
    rcases M1 with h | ⟨k, h1, h2, h3, h4⟩
    · exact .inl h
    · exact .inr ⟨k, h1, same k _ h2 (hne k h1), h3, h4⟩
   obtain ⟨H2, m2, ws2, ha, G2, M2, hw2⟩ := append_ref (ws := ws') G' hx' okx' (by rw [hjl]; exact hxe') hr hjl (by omega) M' hne hw'
   simp (disch := first | omega | decide | simp only [go_sem]) only [go_sem, e1, e2, e5, e6, e7, fe, ha]
   exact ⟨n - 1, by omega, p + 1, H2, ws2, js ++ [R], zs ++ [x'], m2, by omega, by simp [hjl], G2, M2, rfl, rfl, hw2, rfl⟩
 · simp (disch := first | omega | decide | simp only [go_sem]) only [go_sem, a93b1, e1, e2, e5, e6, c1]
   exact hQ _ _ _ _ _ m G (by rw [G.len]; omega) (by simp only [go_sem, e5]) hw
theorem ints_pure : ∀ x : List Int, pures (x.map encI) = true ∧ weaks (x.map encI) = x.map encI
 | [] => ⟨rfl, rfl⟩
 | v :: x => by
   obtain ⟨a, b⟩ := ints_pure x
   exact ⟨by simp only [List.map_cons, pures, a]; rfl, by simp only [List.map_cons, weaks, b]; rfl⟩
theorem frz_ints {H : List AE.Obj} {n0 n : Nat} : ∀ x : List Int, optAll ((x.map encI).map (frz H n0 (n + 1))) = some (x.map encI)
 | [] => rfl
 | v :: x => by
   have h1 : frz H n0 (n + 1) (encI v) = some (encI v) := frz_pure rfl
   simp only [List.map_cons, h1, optAll, frz_ints x, Option.map]
theorem frz_row {H : List AE.Obj} {n0 n j nS : Nat} {z : List Int} (hj : H[j]? = some (.row 1 (z.map encI))) (hz : z.length = nS) (hn : n0 ≤ j) : frz H n0 (n + 2) (refOf nS j) = some (.slice 1 (z.map encI) .any) := by
 have h1 : ¬ (j < n0) := by omega
 have h2 : ((z.map encI).drop 0).take nS = z.map encI := by
  rw [List.drop_zero, List.take_of_length_le (by simp [hz])]
 rw [refOf, frz]
 simp only [PV.pure, Bool.false_eq_true, if_false, if_neg h1, hj, List.length_map, hz, Nat.zero_add, Nat.le_refl, and_self, if_true, h2, frz_ints, Option.map]
theorem frz_refs {H : List AE.Obj} {n0 n nS : Nat} : ∀ {js : List Nat} {zs : List (List Int)}, zs.length = js.length → (∀ (i j : Nat) (z : List Int), js[i]? = some j → zs[i]? = some z → H[j]? = some (.row 1 (z.map encI))) → (∀ z ∈ zs, z.length = nS) → (∀ j ∈ js, n0 ≤ j) →
 optAll ((js.map (refOf nS)).map (frz H n0 (n + 2))) = some (zs.map fun z => .slice 1 (z.map encI) .any)
 | [], [], _, _, _, _ => rfl
 | [], _ :: _, h, _, _, _ => by simp at h
 | _ :: _, [], h, _, _, _ => by simp at h
 | j :: js, z :: zs, hl, hr, hz, hj => by
   have h1 := frz_row (n := n) (hr 0 j z rfl rfl) (hz z (by simp)) (hj j (by simp))
   have h2 := frz_refs (n := n) (js := js) (zs := zs) (by simpa using hl) (fun i j' z' a b => hr (i + 1) j' z' (by simpa using a) (by simpa using b)) (fun z' h => hz z' (by simp [h])) (fun j' h => hj j' (by simp [h]))
   simp only [List.map_cons, h1, optAll, h2, Option.map]
theorem tidy_refs {h H : List AE.Obj} {s : GSig} {js : List Nat} {zs : List (List Int)} {m : SM} {ws : List Nat} (G : TS h H s js zs) (hne : js ≠ []) (hw : ∀ k ∈ ws, h.length ≤ k) : tidy 0 h.length (.val (.slice 1 (js.map (refOf s.sorts.length)) m)) ⟨H, ws, []⟩ = (.val (encRows zs), ⟨h, [], []⟩) := by
 have hb : below h.length ws = [] := List.filter_eq_nil_iff.2 fun k hk => by have := hw k hk; simp; omega
 have hp : (PV.slice 1 (js.map (refOf s.sorts.length)) m).pure = false := by
  cases js with
  | nil => exact absurd rfl hne
  | cons j js => simp [PV.pure, pures, refOf]
 have hf : frz H h.length 64 (.slice 1 (js.map (refOf s.sorts.length)) m) = some (encRows zs) := by
  rw [frz]
  simp only [hp, Bool.false_eq_true, if_false]
  rw [frz_refs (n := 61) G.len G.rows (fun z hz => (G.ok z hz).len) (fun j hj => by have := G.big j hj; omega)]
  rfl
 have ht : H.take h.length = h := by rw [G.low.take]; simp
 unfold tidy
 rw [if_neg (by decide), if_neg (by simp)]
 simp only [OR.v, hf, hb, ht, OR.put]
 rfl
include hT in
theorem rtable_ev {s : GSig} (hs : Fits s) (hops : okOps s.ops s.sorts.length) {most : Nat} (hmost : most ≤ 60) (h : List AE.Obj) : ∃ zs, Ev T 93 [encSig s, .int .i64 (most : Int)] h (.val (encRows zs), ⟨h, [], []⟩) ∧ zs.length = most + 1 ∧ (∀ z ∈ zs, okV z s.sorts.length) ∧ ∀ (k : Nat) (z : List Int), zs[k]? = some z → ∀ a, a < s.sorts.length → z.getD a 0 = cntOf s a k := by
 have hs1 := hs.nS
 refine Ev.walkP (hT.sp _ (by decide)) ((hT.fn _).trans fn93) (hT.mode _) rfl ?_
 have hmk := mk_ok (sz := 1) (bytes := 8) (n := s.sorts.length) (z := .int .i64 0) (by omega) (by omega) rfl
 have hrep : List.replicate s.sorts.length (PV.int .i64 0) = (List.replicate s.sorts.length (0 : Int)).map encI := by simp [encI]
 have fe : ∀ R, fillE 1 (List.replicate 1 (PV.slice 0 [] .nil)) [(0, .aref R 1 0 s.sorts.length s.sorts.length)] = some [.aref R 1 0 s.sorts.length s.sorts.length] := fun _ => rfl
 have G0 : TS h (h ++ [.row 2 [encSig s]]) s [] [] := ⟨(Low.refl _ _).push (Nat.le_refl _), by simp, rfl, fun i j z a => by simp at a, fun z hz => by simp at hz, fun k z hz => by simp at hz, fun j hj => by simp at hj⟩
 have G1 := (G0.push (o := .row 1 ((List.replicate s.sorts.length (0 : Int)).map encI))).more (r := (h ++ [AE.Obj.row 2 [encSig s]]).length) (x := List.replicate s.sorts.length 0) (by simp) (by simp) (.zeros _) (fun a ha => by rw [show ([] : List Nat).length = 0 from rfl, cnt0]; simp only [List.getD_eq_getElem?_getD, List.getElem?_replicate]; split <;> rfl)
 simp (disch := first | omega | decide | simp only [go_sem]) only [go_sem, hmk, hrep, fe]
 refine table_b1 hT hs hops hmost G1 (by simp only [go_sem]) (by simp only [go_sem]) (by simp only [go_sem]; rfl) (by simp only [go_sem]) (by simp) fun H' e' ws' js zs m G' hl e5 hw' => ?_
 simp (disch := first | omega | decide | simp only [go_sem]) only [go_sem, e5]
 exact ⟨zs, tidy_refs G' (by rintro rfl; have := G'.len; simp at this; subst this; simp at hl) hw', hl, G'.ok, G'.ex⟩
end Go.Proofs.Tryz
/- The specification counts. -/
namespace Go.Proofs.Tryz
open Go Go.AE
variable {T : Tbl} (hT : Std T)
include hT in
theorem rasked_exact {s : GSig} (hs : Fits s) (sort : Int) (h : List AE.Obj) : ∃ r : Int, Ev T 92 [encSig s, .int .i64 sort] h (.val (.int .i64 r), ⟨h, [], []⟩) ∧ ((r = 40 ∧ ¬ sigP s) ∨ (r = 1 ∧ sigP s ∧ isSortB sort s.sorts.length = false) ∨ (r = 0 ∧ sigP s ∧ isSortB sort s.sorts.length = true)) := by
 refine Ev.walkP (hT.sp _ (by decide)) ((hT.fn _).trans fn92) (hT.mode _) rfl ?_
 have hs1 := hs.nS
 obtain ⟨r, hr, kr⟩ := rcheck_exact hT s hs (h ++ [.row 2 [encSig s]])
 rcases kr with ⟨rfl, hp⟩ | ⟨rfl, hp⟩
 · simp (disch := first | omega | decide | simp only [go_sem]) only [go_sem, cb hr, hT.prim, primOf, bne_self_eq_false]
   refine bifs (fun h1 => ⟨1, rfl, .inr (.inl ⟨rfl, hp, ?_⟩)⟩) fun h1 => bifs (fun h2 => ⟨1, rfl, .inr (.inl ⟨rfl, hp, ?_⟩)⟩) fun h2 => ⟨0, rfl, .inr (.inr ⟨rfl, hp, ?_⟩)⟩
   · simp [isSortB] at h1 ⊢; omega
   · simp [isSortB] at h2 ⊢; omega
   · simp [isSortB] at h1 h2 ⊢; omega
 · have b1 : ((40 : Int) != 0) = true := rfl
   simp (disch := first | omega | decide | simp only [go_sem]) only [go_sem, cb hr, hT.prim, primOf, b1]
   exact ⟨40, rfl, .inl ⟨rfl, hp⟩⟩
theorem get_rows {zs : List (List Int)} {i : Nat} (hi : i < zs.length) : (zs.map fun z => PV.slice 1 (z.map encI) .any)[i]? = some (.slice 1 (zs[i].map encI) .any) := by simp [hi]
include hT in
theorem rcount_exact {s : GSig} (hs : Fits s) (sort size : Int) (h : List AE.Obj) : ∃ r : Int × Int, Ev T 58 [encSig s, .int .i64 sort, .int .i64 size] h (.val (.tuple [.int .i64 r.1, .int .i64 r.2]), ⟨h, [], []⟩) ∧ ((r = (0, 40) ∧ ¬ sigP s) ∨ (r = (0, 1) ∧ sigP s ∧ (isSortB sort s.sorts.length && sizedB size) = false) ∨ (r = (cntOf s sort.toNat size.toNat, 0) ∧ sigP s ∧ (isSortB sort s.sorts.length && sizedB size) = true)) := by
 refine Ev.walkP (hT.sp _ (by decide)) ((hT.fn _).trans fn58) (hT.mode _) rfl ?_
 obtain ⟨r, hr, kr⟩ := rasked_exact hT hs sort (h ++ [.row 2 [encSig s]])
 rcases kr with ⟨rfl, hp⟩ | ⟨rfl, hp, hb⟩ | ⟨rfl, hp, hb⟩
 · have b1 : ((40 : Int) != 0) = true := rfl
   simp (disch := first | omega | decide | simp only [go_sem]) only [go_sem, cb hr, hT.prim, primOf, b1]
   exact ⟨(0, 40), rfl, .inl ⟨rfl, hp⟩⟩
 · have b1 : ((1 : Int) != 0) = true := rfl
   simp (disch := first | omega | decide | simp only [go_sem]) only [go_sem, cb hr, hT.prim, primOf, b1]
   exact ⟨(0, 1), rfl, .inr (.inl ⟨rfl, hp, by rw [hb]; rfl⟩)⟩
 · by_cases c : 0 ≤ size ∧ size ≤ 60
   · obtain ⟨c2, c3⟩ := c
     have k23 := hb
     simp only [isSortB, Bool.and_eq_true, decide_eq_true_eq] at k23
     obtain ⟨k2, k3⟩ := k23
     obtain ⟨n, rfl⟩ := Int.eq_ofNat_of_zero_le c2
     obtain ⟨t, rfl⟩ := Int.eq_ofNat_of_zero_le k2
     obtain ⟨zs, hz, hl, okz, ex⟩ := rtable_ev hT hs hp.okOps (most := n) (by omega) (h ++ [.row 2 [encSig s]])
     have hnl : n < zs.length := by omega
     have gz := get_rows hnl
     have ok1 := okz _ (List.getElem_mem hnl)
     have htl : t < zs[n].length := by rw [ok1.len]; omega
     have gt := get_getD htl
     rw [ex n _ (List.getElem?_eq_getElem hnl) t (by omega)] at gt
     have hn : ¬ ((n : Int) < 0) := by omega
     have hn2 : ¬ ((60 : Int) < (n : Int)) := by omega
     simp (disch := first | omega | decide | simp only [go_sem]) only [go_sem, cb hr, cb hz, hT.prim, primOf, encRows, gz, gt, hn, hn2, bne_self_eq_false]
     exact ⟨(cntOf s t n, 0), rfl, .inr (.inr ⟨by simp, hp, by simp [hb, sizedB]; omega⟩)⟩
   · have hz : sizedB size = false := by simp [sizedB]; omega
     simp (disch := first | omega | decide | simp only [go_sem]) only [go_sem, cb hr, hT.prim, primOf, bne_self_eq_false]
     refine bifs (fun _ => ⟨(0, 1), rfl, .inr (.inl ⟨rfl, hp, by rw [hz, Bool.and_false]⟩)⟩) fun h2 => bifs (fun _ => ⟨(0, 1), rfl, .inr (.inl ⟨rfl, hp, by rw [hz, Bool.and_false]⟩)⟩) fun h3 => ?_
     exact absurd ⟨by simpa using h2, by simpa using h3⟩ c
include hT in
theorem rcount_tot {s : GSig} (hs : Fits s) (sort size : Int) (h : List AE.Obj) : ∃ r : Int × Int, Ev T 58 [encSig s, .int .i64 sort, .int .i64 size] h (.val (.tuple [.int .i64 r.1, .int .i64 r.2]), ⟨h, [], []⟩) ∧ okN r.1 := by
 obtain ⟨r, hr, kr⟩ := rcount_exact hT hs sort size h
 refine ⟨r, hr, ?_⟩
 rcases kr with ⟨rfl, _⟩ | ⟨rfl, _⟩ | ⟨rfl, hp, hb⟩
 · exact ⟨by omega, by omega⟩
 · exact ⟨by omega, by omega⟩
 · simp only [isSortB, sizedB, Bool.and_eq_true, decide_eq_true_eq] at hb
   obtain ⟨_, K⟩ := tabOf_sem hp.okOps
   have h1 : sort.toNat < (tabOf s).1.length := by rw [K.sl]; omega
   exact ((K.so.get h1).2.get (show size.toNat < 61 by omega)).2
end Go.Proofs.Tryz
/- The specification's nth: the sizes of the arguments. -/
namespace Go.Proofs.Tryz
open Go Go.AE
variable {T : Tbl} (hT : Std T) {s : GSig}
@[go_sem] theorem oax_none {e : List PV} : oax e none = none := rfl
@[go_sem] theorem oax_some {e : List PV} {x : AX} : oax e (some x) = some (ax e x) := rfl
structure RTab (s : GSig) (M : Nat) (zs : List (List Int)) : Prop where
 len : zs.length = M + 1
 ok : ∀ z ∈ zs, okV z s.sorts.length
 ex : ∀ (k : Nat) (z : List Int), zs[k]? = some z → ∀ a, a < s.sorts.length → z.getD a 0 = cntOf s a k
def rowsV (zs : List (List Int)) : List PV := zs.map fun z => .slice 1 (z.map encI) .any
theorem RTab.row {M : Nat} {zs : List (List Int)} (R : RTab s M zs) {k : Nat} (hk : k ≤ M) : ∃ z : List Int, (rowsV zs)[k]? = some (.slice 1 (z.map encI) .any) ∧ ∀ a, a < s.sorts.length → (z.map encI)[a]? = some (.int .i64 (cntOf s a k)) := by
 have hl : k < zs.length := by rw [R.len]; omega
 have hz := List.getElem?_eq_getElem hl
 refine ⟨zs[k], by simp [rowsV, hz], fun a ha => ?_⟩
 rw [← R.ex k _ hz a ha]
 exact get_getD (by rw [(R.ok _ (List.getElem_mem hl)).len]; exact ha)
theorem sumS_shift {sv rv : Nat → Nat → Int} (i k q : Nat) : ∀ j, sumS (fun k => sv (i + k)) (fun k => rv (i + k)) k q j = sumS sv rv (i + k) q j
 | 0 => rfl
 | j + 1 => by simp only [sumS]; rw [sumS_shift i k q j]; rfl
theorem Sys.drop {sv rv : Nat → Nat → Int} {L : Nat} (S : Sys sv rv L) {i : Nat} (hi : i ≤ L) : Sys (fun k => sv (i + k)) (fun k => rv (i + k)) (L - i) :=
 ⟨fun k m => S.s0 _ m, fun k q => S.r0 _ q, fun k q => S.rc _ q, fun k q hk hq => by rw [sumS_shift]; exact S.eq _ q (by omega) hq, fun q => by
  have := S.last q
  rw [← this]
  congr 1
  omega⟩
include hT in
theorem rwaysF {M : Nat} {zs : List (List Int)} (R : RTab s M zs) (hM : M ≤ 60) (hops : okOps s.ops s.sorts.length) {j : Nat} {o : GOp} (ho : s.ops[j]? = some o) {i0 q : Nat} (hi : i0 ≤ o.args.length) (hq : q ≤ M) (h60 : q < 60) (h : List AE.Obj) :
 Ev T 166 [.slice 1 ((o.args.drop i0).map encI) .any, .int .i64 (q : Int), .slice 1 (rowsV zs) .any] h (.val (.int .i64 (rvOf s j i0 q)), ⟨h, [], []⟩) := by
 obtain ⟨a1, a2, a3⟩ := hops _ (List.mem_of_getElem? ho)
 have S := (sysOf hops ho).drop hi
 have hd : ∀ i, (o.args.drop i0).getD i 0 = o.args.getD (i0 + i) 0 := fun i => by simp [List.getD_eq_getElem?_getD, List.getElem?_drop]
 have rows : RowsX h (rowsV zs) s.sorts.length (o.args.drop i0) (fun k => svOf s o (i0 + k)) := fun k hk => by
  have hl : k < zs.length := by simpa [rowsV] using hk
  have hz := List.getElem?_eq_getElem hl
  refine ⟨zs[k], R.ok _ (List.getElem_mem hl), fun i hi2 => ?_, .inr (by simp [rowsV, hz])⟩
  rw [hd]
  rw [List.length_drop] at hi2
  exact R.ex k _ hz _ (a1.get (show i0 + i < o.args.length by omega)).2
 exact rways_ev hT (m := .any) (rv := fun k => rvOf s j (i0 + k)) (by rw [List.length_drop]; exact S) rows (by simp [rowsV, R.len]; omega) h60 (fun a ha => a1 a (List.mem_of_mem_drop ha)) (by rw [List.length_drop]; omega) (by omega) (by simp [rowsV, R.len]; omega)
theorem slice_suf {es : List PV} {l : Nat} (hl : l ≤ es.length) : sliceop 1 (.slice 1 es .any) (some (.int .i64 (l : Int))) none none = some (.slice 1 (es.drop l) .any) := by
 have h1 : sbound (some (.int .i64 (l : Int))) 0 es.length = some l := by simp [sbound]; omega
 simp only [sliceop, true_or, if_true]
 have h2 : sbound none es.length es.length = some es.length := rfl
 simp only [h2, h1, if_true]
 rw [List.take_of_length_le (by simp)]
theorem fe_i (n : Int) : fillE 1 (List.replicate 1 (PV.int .i64 0)) [(0, .int .i64 n)] = some [.int .i64 n] := rfl
def AppI (H : List AE.Obj) (v : PV) (xs : List Int) (lo : Nat) : Prop := (xs = [] ∧ v = .slice 0 [] .nil) ∨ ∃ k, v = .slice 1 (xs.map encI) (.tok k) ∧ H[k]? = some (.tok 1 xs.length) ∧ lo ≤ k
theorem AppI.slice {H : List AE.Obj} {v : PV} {xs : List Int} {lo : Nat} (A : AppI H v xs lo) : ∃ z m, v = .slice z (xs.map encI) m ∧ (xs = [] ∨ z = 1) := by
 rcases A with ⟨rfl, rfl⟩ | ⟨k, rfl, _⟩
 · exact ⟨0, .nil, rfl, .inl rfl⟩
 · exact ⟨1, _, rfl, .inr rfl⟩
theorem appI_one {H : List AE.Obj} {v : PV} {xs : List Int} {lo : Nat} (A : AppI H v xs lo) (hx : xs.length < 100000) (hlo : lo ≤ H.length) (ws : List Nat) (m : Int) :
 ∃ v' H1 ws1, (∀ ups, appendop 1 8 v (.slice 1 [.int .i64 m] .lit) ⟨H, ws, ups⟩ = some (v', ⟨H1, ws1, ups⟩)) ∧ AppI H1 v' (xs ++ [m]) lo ∧ Low lo H H1 ∧ lo ≤ H1.length ∧ ∀ x ∈ ws1, x ∈ ws ∨ lo ≤ x := by
 have hr : (xs.length + 1) * 8 ≤ room ∧ xs.length + 1 ≤ room := by
  have : 10000000 ≤ room := by decide
  constructor <;> omega
 have ci : ∀ n : Int, (PV.int .i64 n).cells.all PV.isCell = true := fun _ => rfl
 rcases A with ⟨rfl, rfl⟩ | ⟨k, rfl, h3, h5⟩
 · simp at hr
   refine ⟨.slice 1 [.int .i64 m] (.tok H.length), H ++ [.tok 1 1], ws, fun ups => ?_, .inr ⟨H.length, rfl, by simp, hlo⟩, (Low.refl _ _).push hlo, by simp; omega, fun x hx => .inl hx⟩
   simp [appendop, elems, ci, hr, alloc]
 · refine ⟨.slice 1 ((xs ++ [m]).map encI) (.tok k), H.set k (.tok 1 (xs.length + 1)), wadd k ws, fun ups => ?_, .inr ⟨k, rfl, by rw [get_set h3]; simp, h5⟩, .set h5, by simpa using hlo, fun x hx => ?_⟩
   · simp [appendop, elems, ci, hr, h3, wrote_none, encI]
   · rcases mem_wadd hx with h | h
     · rw [h]; exact .inr h5
     · exact .inl h
include hT in
theorem split_b0 {M : Nat} {zs : List (List Int)} (R : RTab s M zs) (hM : M ≤ 60) (hops : okOps s.ops s.sorts.length) {j : Nat} {o : GOp} (ho : s.ops[j]? = some o) {k left lo : Nat} {ahead n0 : Int} {xs : List Int} {v : PV} {h0 H : List AE.Obj} {ws : List Nat} {e0 : List PV} {Q : AExit → List PV → St → Prop}
 (hk : k < o.args.length) (hleft : left ≤ M) (hl60 : left < 60) (hah : 0 ≤ ahead ∧ ahead ≤ 1099511627776) (hn : 0 ≤ n0 ∧ n0 ≤ 1099511627776) (hsum : n0 < preP (svOf s o) (rvOf s j) ahead k left left) (A : AppI H v xs lo) (hxl : xs.length < 1000) (low : Low lo h0 H) (hlo : lo ≤ H.length) (hw : ∀ x ∈ ws, lo ≤ x)
 (e0' : eget e0 0 = .slice 1 (rowsV zs) .any) (e1 : eget e0 1 = .slice 1 (o.args.map encI) .any) (e2 : eget e0 2 = .int .i64 (left : Int)) (e3 : eget e0 3 = .int .i64 n0) (e10 : eget e0 10 = v) (e11 : eget e0 11 = .int .i64 ahead) (e12 : eget e0 12 = .int .i64 (k : Int)) (e13 : eget e0 13 = .int .i64 1)
 (hQ : ∀ e' (m : Nat) (n' : Int) v' H' ws', eget e' 0 = .slice 1 (rowsV zs) .any → eget e' 1 = .slice 1 (o.args.map encI) .any → eget e' 2 = .int .i64 ((left - m : Nat) : Int) → eget e' 3 = .int .i64 n' → eget e' 10 = v' → eget e' 11 = .int .i64 (cap (ahead * svOf s o k m)) → eget e' 12 = .int .i64 (k : Int) → AppI H' v' (xs ++ [(m : Int)]) lo → Low lo h0 H' → lo ≤ H'.length → (∀ x ∈ ws', lo ≤ x) →
  1 ≤ m → m ≤ left → 0 ≤ n' → n' ≤ 1099511627776 → n' < wayW (svOf s o) (rvOf s j) ahead k left m → n' = n0 - preP (svOf s o) (rvOf s j) ahead k left (m - 1) → Q (.exit 2) e' ⟨H', ws', []⟩) :
 wpC T (.loop a209b0) e0 ⟨H, ws, []⟩ Q := by
 obtain ⟨a1, a2, a3⟩ := hops _ (List.mem_of_getElem? ho)
 have S := sysOf hops ho
 obtain ⟨ga, gl⟩ := a1.get hk
 have gaE : (o.args.map encI)[k]? = some (.int .i64 (((o.args.getD k 0).toNat : Nat) : Int)) := by rw [List.getElem?_map, ga]; rfl
 obtain ⟨z, m10, rfl, _⟩ := A.slice
 refine wpC.loopM (fun d e st => ∃ (m : Nat) (n : Int), m + d = left + 1 ∧ 1 ≤ m ∧ (0 ≤ n ∧ n ≤ 1099511627776) ∧ n = n0 - preP (svOf s o) (rvOf s j) ahead k left (m - 1) ∧ eget e 0 = .slice 1 (rowsV zs) .any ∧ eget e 1 = .slice 1 (o.args.map encI) .any ∧ eget e 2 = .int .i64 (left : Int) ∧ eget e 3 = .int .i64 n ∧ eget e 10 = .slice z (xs.map encI) m10 ∧ eget e 11 = .int .i64 ahead ∧ eget e 12 = .int .i64 (k : Int) ∧ eget e 13 = .int .i64 (m : Int) ∧ st = ⟨H, ws, []⟩) ?_ left _ _
  ⟨1, n0, by omega, by omega, hn, by simp [preP], e0', e1, e2, e3, e10, e11, e12, e13, rfl⟩
 rintro d e st ⟨m, n, hd, hm1, hn, hpre, e0', e1, e2, e3, e10, e11, e12, e13, rfl⟩
 by_cases hml : m ≤ left
 · obtain ⟨zr, gz, gc⟩ := R.row (show m ≤ M by omega)
   have gc := gc _ gl
   have hcn : cntOf s (o.args.getD k 0).toNat m = svOf s o k m := rfl
   rw [hcn] at gc
   have s0 := S.s0 k m
   have sc : svOf s o k m ≤ 1099511627776 := by
    obtain ⟨_, K⟩ := tabOf_sem hops
    exact ((K.so.get (show (o.args.getD k 0).toNat < (tabOf s).1.length by rw [K.sl]; exact gl)).2.get (show m < 61 by omega)).2.2
   have r0 := S.r0 (k + 1) (left - m)
   have rc := S.rc (k + 1) (left - m)
   have hp1 := Int.mul_nonneg hah.1 s0
   have c1 := fun h => rproduct_ev hT ⟨hah.1, hah.2⟩ ⟨s0, sc⟩ h
   have c2 := fun h => rwaysF hT R hM hops ho (i0 := k + 1) (q := left - m) (by omega) (by omega) (by omega) h
   have c3 := fun h => rproduct_ev hT (okN_cap hp1) ⟨r0, rc⟩ h
   have hway : wayW (svOf s o) (rvOf s j) ahead k left m = cap (cap (ahead * svOf s o k m) * rvOf s j (k + 1) (left - m)) := rfl
   rw [← hway] at c3
   have hw0 : 0 ≤ wayW (svOf s o) (rvOf s j) ahead k left m := wayW_nn S hah.1 k left m
   have hw1 : wayW (svOf s o) (rvOf s j) ahead k left m ≤ 1099511627776 := cap_le_top _
   have hstep : preP (svOf s o) (rvOf s j) ahead k left m = preP (svOf s o) (rvOf s j) ahead k left (m - 1) + wayW (svOf s o) (rvOf s j) ahead k left m := by
    obtain ⟨i, rfl⟩ : ∃ i, m = i + 1 := ⟨m - 1, by omega⟩
    rfl
   have hrl : (rowsV zs).length = M + 1 := by simp [rowsV, R.len]
   have hmM : m < M + 1 := by omega
   have sl := slice_suf (es := o.args.map encI) (l := k + 1) (by simp; omega)
   rw [← List.map_drop] at sl
   generalize hwy : wayW (svOf s o) (rvOf s j) ahead k left m = ways at *
   by_cases hlt : n < ways
   · obtain ⟨v', H1, ws1, ap, A', lowA, hloA, hwA⟩ := appI_one A (by omega) hlo ws (m : Int)
     simp (disch := first | omega | decide | simp only [go_sem]) only [go_sem, a209b0, e0', e1, e2, e3, e10, e11, e12, e13, hml, hrl, hmM, gaE, gz, gc, cb (c1 _), cb (c2 _), cb (c3 _), hT.prim, primOf, cast_sub hml, sl, hlt, fe_i, ap]
     exact hQ _ m n v' H1 _ (by simp only [go_sem, e0']) (by simp only [go_sem, e1]) (by simp only [go_sem]) (by simp only [go_sem, e3]) (by simp only [go_sem]) (by simp only [go_sem]) (by simp only [go_sem, e12]) A' (low.trans lowA) hloA (fun x hx => by
      rcases hwA x hx with h | h
      · exact hw x h
      · exact h) hm1 hml hn.1 hn.2 (by rw [hwy]; exact hlt) hpre
   · simp (disch := first | omega | decide | simp only [go_sem]) only [go_sem, a209b0, e0', e1, e2, e3, e10, e11, e12, e13, hml, hrl, hmM, gaE, gz, gc, cb (c1 _), cb (c2 _), cb (c3 _), hT.prim, primOf, cast_sub hml, sl, hlt]
     exact ⟨d - 1, by omega, m + 1, n - ways, by omega, by omega, by omega, by rw [Nat.add_sub_cancel, hstep]; omega, rfl, rfl, trivial⟩
 · exfalso
   have : m - 1 = left := by omega
   rw [this] at hpre
   omega
end Go.Proofs.Tryz
/- The specification's nth: the sizes of all arguments. -/
namespace Go.Proofs.Tryz
open Go Go.AE
variable {T : Tbl} (hT : Std T) {s : GSig}
structure SplitR (s : GSig) (o : GOp) (j N : Nat) (n0 n' : Int) (xs : List Int) : Prop where
 len : xs.length = o.args.length
 fit : Fit (svOf s o) o.args.length N (szF xs)
 nat : ∀ k, k < o.args.length → xs.getD k 0 = (szF xs k : Int)
 num : n' = n0 - bsF (svOf s o) (rvOf s j) (szF xs) N o.args.length
 lt : n' < ahF (svOf s o) (szF xs) o.args.length
 nn : 0 ≤ n'
theorem szF_app {xs : List Int} {m : Int} {j : Nat} (h : j < xs.length) : szF (xs ++ [m]) j = szF xs j := by
 simp [szF, List.getD_eq_getElem?_getD, List.getElem?_append_left h]
theorem getD_app {xs : List Int} {m : Int} {j : Nat} (h : j < xs.length) : (xs ++ [m]).getD j 0 = xs.getD j 0 := by
 simp [List.getD_eq_getElem?_getD, List.getElem?_append_left h]
theorem getD_last {xs : List Int} {m : Int} : (xs ++ [m]).getD xs.length 0 = m := by
 simp [List.getD_eq_getElem?_getD]
include hT in
theorem split_ev {M : Nat} {zs : List (List Int)} (R : RTab s M zs) (hM : M ≤ 60) (hops : okOps s.ops s.sorts.length) {j : Nat} {o : GOp} (ho : s.ops[j]? = some o) {N : Nat} {n0 : Int} (hN : N ≤ M) (hN60 : N < 60) (hn0 : 0 ≤ n0) (hlt0 : n0 < rvOf s j 0 N) (h : List AE.Obj) :
 ∃ x : Nat × List Int × Int, Ev T 209 [.slice 1 (rowsV zs) .any, .slice 1 (o.args.map encI) .any, .int .i64 (N : Int), .int .i64 n0] h (.val (.tuple [.slice x.1 (x.2.1.map encI) .any, .int .i64 x.2.2]), ⟨h, [], []⟩) ∧ (x.2.1 = [] ∨ x.1 = 1) ∧ SplitR s o j N n0 x.2.2 x.2.1 := by
 refine Ev.walkP (r := fun (x : Nat × List Int × Int) => (.val (.tuple [.slice x.1 (x.2.1.map encI) .any, .int .i64 x.2.2]), ⟨h, [], []⟩)) (hT.sp _ (by decide)) ((hT.fn _).trans fn209) (hT.mode _) rfl ?_
 obtain ⟨a1, a2, a3⟩ := hops _ (List.mem_of_getElem? ho)
 have S := sysOf hops ho
 have hrc := S.rc 0 N
 simp (disch := first | omega | decide | simp only [go_sem]) only [go_sem]
 refine wpC.loopM (fun d e st => ∃ (k left : Nat) (n ahead : Int) (xs : List Int) (v : PV) (H : List AE.Obj) (ws : List Nat), k + d = o.args.length ∧ xs.length = k ∧ left ≤ N ∧ (0 ≤ n ∧ n ≤ 1099511627776) ∧ (1 ≤ ahead ∧ ahead ≤ 1099511627776) ∧ n < cap (ahead * rvOf s j k left) ∧ left = lfF (szF xs) N k ∧ ahead = ahF (svOf s o) (szF xs) k ∧ n = n0 - bsF (svOf s o) (rvOf s j) (szF xs) N k ∧ (∀ i, i < k → xs.getD i 0 = (szF xs i : Int) ∧ 1 ≤ szF xs i ∧ szF xs i ≤ lfF (szF xs) N i ∧ 1 ≤ svOf s o i (szF xs i)) ∧
  AppI H v xs h.length ∧ Low h.length h H ∧ h.length ≤ H.length ∧ (∀ x ∈ ws, h.length ≤ x) ∧ eget e 0 = .slice 1 (rowsV zs) .any ∧ eget e 1 = .slice 1 (o.args.map encI) .any ∧ eget e 2 = .int .i64 (left : Int) ∧ eget e 3 = .int .i64 n ∧ eget e 10 = v ∧ eget e 11 = .int .i64 ahead ∧ eget e 12 = .int .i64 (k : Int) ∧ st = ⟨H, ws, []⟩) ?_ o.args.length _ _
  ⟨0, N, n0, 1, [], _, h, [], by omega, rfl, Nat.le_refl _, ⟨hn0, by omega⟩, by omega, by rw [Int.one_mul]; unfold cap; omega, rfl, rfl, by simp [bsF], fun i hi => by omega, .inl ⟨rfl, rfl⟩, Low.refl _ _, Nat.le_refl _, by simp, by simp only [go_sem], by simp only [go_sem], by simp only [go_sem], by simp only [go_sem], by simp only [go_sem], by simp only [go_sem], by simp only [go_sem]; rfl, rfl⟩
 rintro d e st ⟨k, left, n, ahead, xs, v, H, ws, hd, hxl, hleft, hn, hah, hlt, hl1, ha1, hn1, hok, A, low, hlo, hw, e0, e1, e2, e3, e10, e11, e12, rfl⟩
 by_cases hk : k < o.args.length
 · have hall := preP_all S (show 0 ≤ ahead by omega) hk (show left < 60 by omega)
   have hsum : n < preP (svOf s o) (rvOf s j) ahead k left left := by
    rw [← hall] at hlt
    have := cap_le (preP (svOf s o) (rvOf s j) ahead k left left)
    omega
   simp (disch := first | omega | decide | simp only [go_sem]) only [go_sem, a209b1, e0, e1, e2, e3, e10, e11, e12, hk]
   refine split_b0 hT R hM hops ho (k := k) (left := left) (lo := h.length) (ahead := ahead) (n0 := n) (xs := xs) (v := v) (h0 := h) hk (by omega) (by omega) (by omega) hn hsum A (by omega) low hlo hw (by simp only [go_sem, e0]) (by simp only [go_sem, e1]) (by simp only [go_sem, e2]) (by simp only [go_sem, e3]) (by simp only [go_sem, e10]) (by simp only [go_sem, e11]) (by simp only [go_sem, e12]) (by simp only [go_sem]) fun e' m n' v' H' ws' f0 f1 f2 f3 f10 f11 f12 A' low' hlo' hw' hm1 hml hq1 hq2 hlt' hpre => ?_
   obtain ⟨z', m', rfl, hz'⟩ := A'.slice
   have hxl' : (xs ++ [(m : Int)]).length = k + 1 := by simp [hxl]
   have zk : szF (xs ++ [(m : Int)]) k = m := by
    unfold szF
    rw [← hxl, getD_last]; rfl
   have zc : ∀ i, i < k → szF (xs ++ [(m : Int)]) i = szF xs i := fun i hi => szF_app (by omega)
   have g1 : lfF (szF (xs ++ [(m : Int)])) N k = left := by rw [lf_congr k zc, hl1]
   have g2 : ahF (svOf s o) (szF (xs ++ [(m : Int)])) k = ahead := by rw [ah_congr k zc, ha1]
   have g3 : bsF (svOf s o) (rvOf s j) (szF (xs ++ [(m : Int)])) N k = bsF (svOf s o) (rvOf s j) (szF xs) N k := bs_congr k zc
   have s0 := S.s0 k m
   have r0 := S.r0 (k + 1) (left - m)
   have hp1 := Int.mul_nonneg (show 0 ≤ ahead by omega) s0
   have hw3 : wayW (svOf s o) (rvOf s j) ahead k left m = cap (cap (ahead * svOf s o k m) * rvOf s j (k + 1) (left - m)) := rfl
   have hah' : 1 ≤ cap (ahead * svOf s o k m) := by
    have := cap_nn' hp1
    by_cases hz : cap (ahead * svOf s o k m) = 0
    · rw [hw3, hz, Int.zero_mul] at hlt'
      have h00 : cap 0 = 0 := rfl
      omega
    · omega
   have hxs : 1 ≤ svOf s o k m := by
    by_cases hz : svOf s o k m = 0
    · rw [hz, Int.mul_zero] at hah'
      have h00 : cap 0 = 0 := rfl
      omega
    · omega
   generalize hX : xs ++ [(m : Int)] = xs' at *
   have hbn : ((((k + 1 : Nat) : Int)) != ((k + 1 : Nat) : Int)) = false := by simp
   simp (disch := first | omega | decide | simp only [go_sem]) only [go_sem, f0, f1, f2, f3, f10, f11, f12, List.length_map, hxl', hbn]
   exact ⟨d - 1, by omega, k + 1, left - m, n', cap (ahead * svOf s o k m), xs', _, H', _, by omega, hxl', by omega, ⟨hq1, hq2⟩, ⟨hah', cap_le_top _⟩, hlt', by simp only [lfF, g1, zk], by simp only [ahF, g2, zk], by simp only [bsF, g1, g2, g3, zk]; omega, fun i hi => by
    by_cases hik : i = k
    · subst hik
      exact ⟨by rw [zk, ← hX, ← hxl, getD_last], by rw [zk]; exact hm1, by rw [zk, g1]; exact hml, by rw [zk]; exact hxs⟩
    · have hi' : i < k := by omega
      obtain ⟨p1, p2, p3, p4⟩ := hok i hi'
      exact ⟨by rw [zc i hi', ← hX, getD_app (by omega)]; exact p1, by rw [zc i hi']; exact p2, by rw [zc i hi', lf_congr i fun i' hi2 => zc i' (by omega)]; exact p3, by rw [zc i hi']; exact p4⟩, A', low', hlo', hw', rfl, rfl, rfl, rfl, rfl, rfl⟩
 · have hkl : k = o.args.length := by omega
   subst hkl
   obtain ⟨z', m', rfl, hz'⟩ := A.slice
   have hlast := S.last left
   rw [hlast] at hlt
   have hl0 : left = 0 := by
    by_cases h : left = 0
    · exact h
    · rw [if_neg h, Int.mul_zero] at hlt
      have h00 : cap 0 = 0 := rfl
      omega
   rw [if_pos hl0, Int.mul_one, cap_self hah.2] at hlt
   have td : tidy 0 h.length (.val (.tuple [.slice z' (xs.map encI) m', .int .i64 n])) ⟨H, ws, []⟩ = (.val (.tuple [.slice z' (xs.map encI) .any, .int .i64 n]), ⟨h, [], []⟩) := by
    obtain ⟨p1, p2⟩ := ints_pure xs
    have := tidy_ups (v := .tuple [.slice z' (xs.map encI) m', .int .i64 n]) (ws := ws) (ups := []) (by simp [PV.pure, pures, p1]) low hw (by simp)
    rw [this]
    simp [PV.weak, weaks, p2]
   simp (disch := first | omega | decide | simp only [go_sem]) only [go_sem, a209b1, e0, e1, e2, e3, e10, e11, e12, hk, td]
   exact ⟨(z', xs, n), rfl, hz', hxl, ⟨fun i hi => (hok i hi).2.1, fun i hi => (hok i hi).2.2.1, by rw [← hl1, hl0], fun i hi => (hok i hi).2.2.2⟩, fun i hi => (hok i hi).1, hn1, by rw [← ha1]; exact hlt, hn.1⟩
end Go.Proofs.Tryz
/- The specification's nth: the lists of arguments. -/
namespace Go.Proofs.Tryz
open Go Go.AE
variable {T : Tbl} (hT : Std T) {s : GSig}
theorem lf_shift {sz : Nat → Nat} {N : Nat} (i : Nat) : ∀ k, lfF (fun k => sz (i + k)) (lfF sz N i) k = lfF sz N (i + k)
 | 0 => rfl
 | k + 1 => by simp only [lfF]; rw [lf_shift i k]; rfl
theorem Fit.drop {sv : Nat → Nat → Int} {L N : Nat} {sz : Nat → Nat} (F : Fit sv L N sz) {i : Nat} (hi : i ≤ L) : Fit (fun k => sv (i + k)) (L - i) (lfF sz N i) (fun k => sz (i + k)) :=
 ⟨fun k hk => F.lo _ (by omega), fun k hk => by rw [lf_shift]; exact F.le _ (by omega), by rw [lf_shift, show i + (L - i) = L by omega]; exact F.all, fun k hk => F.pos _ (by omega)⟩
theorem be_shift {sv : Nat → Nat → Int} {L : Nat} {sz : Nat → Nat} {i : Nat} : ∀ j, j ≤ L - i → beF (fun k => sv (i + k)) (fun k => sz (i + k)) (L - i) j = beF sv sz L j
 | 0, _ => rfl
 | j + 1, hj => by
   simp only [beF]
   rw [be_shift j (by omega), show i + (L - i - 1 - j) = L - 1 - j by omega]
include hT in
theorem list_b0 {M : Nat} {zs : List (List Int)} (R : RTab s M zs) (hM : M ≤ 60) (hops : okOps s.ops s.sorts.length) {j : Nat} {o : GOp} (ho : s.ops[j]? = some o) {N : Nat} {n0 n' : Int} {xs : List Int} (X : SplitR s o j N n0 n' xs) (hN : N ≤ M) {i : Nat} (hi : i < o.args.length) {m : SM} {st : St} {e0 : List PV} {Q : AExit → List PV → St → Prop} (hst : st.ups = [])
 (e1 : eget e0 1 = .slice 1 (rowsV zs) .any) (e2 : eget e0 2 = .slice 1 (o.args.map encI) .any) (e11 : eget e0 11 = .slice 1 (xs.map encI) m) (e15 : eget e0 15 = .int .i64 1) (e16 : eget e0 16 = .int .i64 ((i + 1 : Nat) : Int))
 (hQ : ∀ e', Same (fun j => j = 15 ∨ j = 16 ∨ 34 ≤ j) e0 e' → eget e' 15 = .int .i64 (beF (svOf s o) (szF xs) o.args.length (o.args.length - (i + 1))) → Q (.exit 2) e' st) :
 wpC T (.loop a167b0) e0 st Q := by
 obtain ⟨a1, a2, a3⟩ := hops _ (List.mem_of_getElem? ho)
 have F' := X.fit.drop (i := i + 1) (by omega)
 have hla := ah_last F'
 rw [be_shift _ (Nat.le_refl _)] at hla
 obtain ⟨H, ws, ups⟩ := st
 dsimp only at hst
 subst hst
 refine wpC.loopM (fun d e st => ∃ t : Nat, i + 1 + t + d = o.args.length ∧ Same (fun j => j = 15 ∨ j = 16 ∨ 34 ≤ j) e0 e ∧ eget e 15 = .int .i64 (ahF (fun k => svOf s o (i + 1 + k)) (fun k => szF xs (i + 1 + k)) t) ∧ eget e 16 = .int .i64 ((i + 1 + t : Nat) : Int) ∧ st = ⟨H, ws, []⟩) ?_ (o.args.length - (i + 1)) _ _
  ⟨0, by omega, Same.refl _, e15, e16, rfl⟩
 rintro d e st ⟨t, hd, hs, e15, e16, rfl⟩
 have f1 := (hs 1 (by omega)).trans e1
 have f2 := (hs 2 (by omega)).trans e2
 have f11 := (hs 11 (by omega)).trans e11
 have hxl := X.len
 by_cases hk : i + 1 + t < xs.length
 · obtain ⟨ga, gl⟩ := a1.get (show i + 1 + t < o.args.length by omega)
   have gaE : (o.args.map encI)[i + 1 + t]? = some (.int .i64 (((o.args.getD (i + 1 + t) 0).toNat : Nat) : Int)) := by rw [List.getElem?_map, ga]; rfl
   have gx := get_getD hk
   rw [X.nat _ (by omega)] at gx
   have hm : szF xs (i + 1 + t) ≤ M := by
    have h1 := X.fit.le (i + 1 + t) (by omega)
    have h2 := lf_le (szF xs) N (i + 1 + t)
    omega
   obtain ⟨zr, gz, gc⟩ := R.row hm
   have gc := gc _ gl
   have hcn : cntOf s (o.args.getD (i + 1 + t) 0).toNat (szF xs (i + 1 + t)) = svOf s o (i + 1 + t) (szF xs (i + 1 + t)) := rfl
   rw [hcn] at gc
   have s0 := X.fit.pos (i + 1 + t) (by omega)
   have sc : svOf s o (i + 1 + t) (szF xs (i + 1 + t)) ≤ 1099511627776 := by
    obtain ⟨_, K⟩ := tabOf_sem hops
    exact ((K.so.get (show (o.args.getD (i + 1 + t) 0).toNat < (tabOf s).1.length by rw [K.sl]; exact gl)).2.get (show szF xs (i + 1 + t) < 61 by omega)).2.2
   obtain ⟨ap1, ap2⟩ := ah_pos F' t (by omega)
   have c1 := fun h => rproduct_ev hT ⟨show 0 ≤ ahF (fun k => svOf s o (i + 1 + k)) (fun k => szF xs (i + 1 + k)) t by omega, ap2⟩ ⟨show 0 ≤ svOf s o (i + 1 + t) (szF xs (i + 1 + t)) by omega, sc⟩ h
   simp (disch := first | omega | decide | simp only [go_sem]) only [go_sem, a167b0, f1, f2, f11, e15, e16, List.length_map, hk, gaE, gx, gz, gc, cb (c1 _), hT.prim, primOf]
   refine ⟨d - 1, by omega, t + 1, by omega, fun j hj => ?_, rfl, rfl, trivial⟩
   have h1 := hs j hj
   simp only [not_or, Nat.not_le] at hj
   simp (disch := omega) only [eget_eput_ne]
   exact h1
 · simp (disch := first | omega | decide | simp only [go_sem]) only [go_sem, a167b0, f1, f2, f11, e15, e16, List.length_map, hk]
   have ht : t = o.args.length - (i + 1) := by omega
   refine hQ _ (fun j hj => ?_) (by simp only [go_sem, e15]; rw [ht, hla])
   have h1 := hs j hj
   simp only [not_or, Nat.not_le] at hj
   simp (disch := omega) only [eget_eput_ne]
   exact h1
end Go.Proofs.Tryz
/- The specification's nth: the arguments. -/
namespace Go.Proofs.Tryz
open Go Go.AE
variable {T : Tbl} (hT : Std T) {s : GSig}
def RNthIH (T : Tbl) (s : GSig) (zs : List (List Int)) (N : Nat) : Prop := ∀ (a m : Nat) (n : Int) (h : List AE.Obj), a < s.sorts.length → 1 ≤ m → m ≤ N → 0 ≤ n → n < cntOf s a m → ∃ p, Ev T 94 [encSig s, .slice 1 (rowsV zs) .any, .int .i64 (a : Int), .int .i64 (m : Int), .int .i64 n] h (.val p, ⟨h, [], []⟩) ∧ Nth91 s a m n p
include hT in
theorem list_ev {M : Nat} {zs : List (List Int)} (R : RTab s M zs) (hM : M ≤ 60) (hops : okOps s.ops s.sorts.length) {j : Nat} {o : GOp} (ho : s.ops[j]? = some o) {N : Nat} {n0 : Int} (hN : N ≤ M) (hN60 : N < 60) (IH : RNthIH T s zs N) (hn0 : 0 ≤ n0) (hlt0 : n0 < rvOf s j 0 N) (h : List AE.Obj) :
 ∃ x : Nat × List PV, Ev T 167 [encSig s, .slice 1 (rowsV zs) .any, .slice 1 (o.args.map encI) .any, .int .i64 (N : Int), .int .i64 n0] h (.val (.slice x.1 x.2 .any), ⟨h, [], []⟩) ∧ (x.2 = [] ∨ x.1 = 3) ∧ ∃ (szs : List Int) (n' : Int) (xs : List Tm), SplitR s o j N n0 n' szs ∧ NthX s o (tabOf s).1 szs n' 0 x.2 xs ∧ xs.length = o.args.length := by
 refine Ev.walkP (r := fun (x : Nat × List PV) => (.val (.slice x.1 x.2 .any), ⟨h, [], []⟩)) (hT.sp _ (by decide)) ((hT.fn _).trans fn167) (hT.mode _) rfl ?_
 obtain ⟨a1, a2, a3⟩ := hops _ (List.mem_of_getElem? ho)
 have S := sysOf hops ho
 obtain ⟨⟨z, szs, n'⟩, evS, hz, X⟩ := split_ev hT R hM hops ho hN hN60 hn0 hlt0 (h ++ [AE.Obj.row 2 [encSig s]])
 dsimp only at evS hz X
 have F := X.fit
 have hbe0 : n' < beF (svOf s o) (szF szs) o.args.length o.args.length := by rw [← ah_last F]; exact X.lt
 have kb : (h ++ [AE.Obj.row 2 [encSig s]])[h.length]? = some (.row 2 [encSig s]) := by simp
 have low0 : Low h.length h (h ++ [AE.Obj.row 2 [encSig s]]) := (Low.refl _ _).push (Nat.le_refl _)
 have hlo0 : h.length ≤ (h ++ [AE.Obj.row 2 [encSig s]]).length := by simp
 generalize hH0 : h ++ [AE.Obj.row 2 [encSig s]] = H0 at *
 simp (disch := first | omega | decide | simp only [go_sem]) only [go_sem, hH0, cb evS, hT.prim, primOf, List.length_cons, List.length_nil]
 refine wpC.loopM (fun d e st => ∃ (k : Nat) (n : Int) (v : PV) (es : List PV) (xs : List Tm) (H : List AE.Obj) (ws : List Nat), k + d = o.args.length ∧ es.length = k ∧ (0 ≤ n ∧ n < beF (svOf s o) (szF szs) o.args.length (o.args.length - k)) ∧ (∀ x, x ∈ es → IsT x) ∧ NthX s o (tabOf s).1 szs n' n es xs ∧ AppL H v es h.length ∧ Low h.length h H ∧ h.length ≤ H.length ∧ H[h.length]? = some (.row 2 [encSig s]) ∧ (∀ x ∈ ws, h.length ≤ x) ∧ eget e 1 = .slice 1 (rowsV zs) .any ∧ eget e 2 = .slice 1 (o.args.map encI) .any ∧ eget e 5 = .ptr h.length 0 0 1 ∧ eget e 11 = .slice z (szs.map encI) .any ∧ eget e 12 = .int .i64 n ∧ eget e 13 = v ∧ eget e 14 = .int .i64 (k : Int) ∧ st = ⟨H, ws, []⟩) ?_ o.args.length _ _
  ⟨0, n', _, [], [], H0, _, by omega, rfl, ⟨X.nn, hbe0⟩, by simp, ⟨rfl, by simp, by simp, by simp [upF]⟩, .inl ⟨rfl, rfl⟩, low0, hlo0, kb, by simp, by simp only [go_sem], by simp only [go_sem], by simp only [go_sem], by simp only [go_sem], by simp only [go_sem], by simp only [go_sem], by simp only [go_sem]; rfl, rfl⟩
 rintro d e st ⟨k, n, v, es, xs, H, ws, hd, hel, hn, hes, NX, A, low, hlo, kb, hw, e1, e2, e5, e11, e12, e13, e14, rfl⟩
 by_cases hk : k < szs.length
 · have hk' : k < o.args.length := by rw [← X.len]; exact hk
   have hz1 : z = 1 := by
    rcases hz with rfl | h
    · simp at hk
    · exact h
   subst hz1
   obtain ⟨ga, gl⟩ := a1.get hk'
   have gaE : (o.args.map encI)[k]? = some (.int .i64 (((o.args.getD k 0).toNat : Nat) : Int)) := by rw [List.getElem?_map, ga]; rfl
   have gx := get_getD hk
   rw [X.nat _ hk'] at gx
   have hm1 := F.lo k hk'
   have hmN : szF szs k ≤ N := by
    have h1 := F.le k hk'
    have h2 := lf_le (szF szs) N k
    omega
   simp (disch := first | omega | decide | simp only [go_sem]) only [go_sem, a167b1, e1, e2, e5, e11, e12, e13, e14, List.length_map, hk]
   refine list_b0 hT R hM hops ho X hN (i := k) (m := .any) hk' rfl (by simp only [go_sem, e1]) (by simp only [go_sem, e2]) (by simp only [go_sem, e11]) (by simp only [go_sem]) (by simp only [go_sem]) fun e' hs f15 => ?_
   have f1 : eget e' 1 = .slice 1 (rowsV zs) .any := (hs 1 (by omega)).trans (by simp only [go_sem, e1])
   have f2 : eget e' 2 = .slice 1 (o.args.map encI) .any := (hs 2 (by omega)).trans (by simp only [go_sem, e2])
   have f5 : eget e' 5 = .ptr h.length 0 0 1 := (hs 5 (by omega)).trans (by simp only [go_sem, e5])
   have f11 : eget e' 11 = .slice 1 (szs.map encI) .any := (hs 11 (by omega)).trans (by simp only [go_sem, e11])
   have f12 : eget e' 12 = .int .i64 n := (hs 12 (by omega)).trans (by simp only [go_sem, e12])
   have f13 : eget e' 13 = v := (hs 13 (by omega)).trans (by simp only [go_sem, e13])
   have f14 : eget e' 14 = .int .i64 (k : Int) := (hs 14 (by omega)).trans (by simp only [go_sem, e14])
   obtain ⟨bp1, bp2⟩ := be_pos F (o.args.length - (k + 1)) (by omega)
   have hnb := hn.2
   rw [show o.args.length - k = (o.args.length - (k + 1)) + 1 by omega] at hnb
   simp only [beF] at hnb
   rw [show o.args.length - 1 - (o.args.length - (k + 1)) = k by omega] at hnb
   have hnT : n ≤ 1099511627776 := by have := cap_le_top (beF (svOf s o) (szF szs) o.args.length (o.args.length - (k + 1)) * svOf s o k (szF szs k)); omega
   generalize hbv : beF (svOf s o) (szF szs) o.args.length (o.args.length - (k + 1)) = bv at *
   have hq : n.tdiv bv = n / bv := Int.tdiv_eq_ediv_of_nonneg hn.1
   have hq0 : 0 ≤ n.tdiv bv := by rw [hq]; exact Int.ediv_nonneg hn.1 (by omega)
   have hq1 : n.tdiv bv ≤ n := by rw [hq]; exact Int.ediv_le_self _ hn.1
   have hmd := Int.emod_add_mul_ediv n bv
   have hr0 := Int.emod_nonneg n (show bv ≠ 0 by omega)
   have hrl := Int.emod_lt_of_pos n (show 0 < bv by omega)
   have hrest : n - n.tdiv bv * bv = n % bv := by rw [hq, Int.mul_comm]; omega
   have hprod0 : 0 ≤ n.tdiv bv * bv := Int.mul_nonneg hq0 (by omega)
   have hb0 : ¬ bv = 0 := by omega
   have hql : n.tdiv bv < cntOf s (o.args.getD k 0).toNat (szF szs k) := by
    rw [hq]
    refine Int.ediv_lt_of_lt_mul (by omega) ?_
    have h1 := cap_le (bv * svOf s o k (szF szs k))
    have h2 : n < bv * svOf s o k (szF szs k) := by omega
    rw [Int.mul_comm]
    exact h2
   obtain ⟨p, hp, x, hx, hxw, hxn, hxq⟩ := IH (o.args.getD k 0).toNat (szF szs k) (n.tdiv bv) H gl hm1 hmN hq0 hql
   have tp : IsT p := hx.isT (by omega)
   have hxl : xs.length = k := by rw [← NX.len]; exact hel
   have hga : o.args.getD k 0 = ((o.args.getD k 0).toNat : Int) := by
    have := a1 (o.args.getD k 0) (List.mem_of_getElem? (by rw [ga]; congr 1; have := (a1.get hk').1; rw [List.getD_eq_getElem?_getD, this]; simp))
    omega
   have hnn : n = n.tdiv bv * bv + n % bv := by omega
   have X' : NthX s o (tabOf s).1 szs n' (n % bv) (es ++ [p]) (xs ++ [x]) := NX.snoc (q := n.tdiv bv) (b := bv) hx (by rw [hxl, hga]; exact hxw) (by rw [hxl]; exact hxn) hxq (by rw [← hbv, hxl]; show beF (svOf s o) (szF szs) _ _ = beF (svOf s o) (szF szs) _ _; congr 1; omega) hnn
   obtain ⟨v', H', ws', ap, A', _, keep', low', hw'⟩ := append_one A tp (by omega) hlo
   have fe : fillE 3 (List.replicate 1 (.agg [(.int .i64 0), (.int .i64 0), (.slice 0 [] .nil)])) [(0, p)] = some [p] := by
    obtain ⟨c1, c2, c3, c4⟩ := tp.cells
    simp [fillE, c1, c3]
   have l5 : loadAt true 2 (.ptr h.length 0 0 1) H = some (encSig s) := by rw [ld_at kb]; rfl
   simp (disch := first | omega | decide | simp only [go_sem]) only [go_sem, f1, f2, f5, f11, f12, f13, f14, f15, gaE, gx, hb0, hrest, l5, cb hp, hT.prim, primOf, fe, ap]
   refine ⟨d - 1, by omega, k + 1, n % bv, v', es ++ [p], xs ++ [x], H', _, by omega, by simp [hel], ⟨hr0, by rw [hbv]; exact hrl⟩, fun y hy => ?_, X', A', low.trans low', by have := low'.len; omega, keep' _ _ _ kb, fun y hy => ?_, rfl, rfl, rfl, rfl⟩
   · rcases List.mem_append.1 hy with h | h
     · exact hes y h
     · rw [List.mem_singleton.1 h]; exact tp
   · rcases mem_wall hy with h | h
     · exact hw' y h
     · exact hw y h
 · have hkl : k = o.args.length := by have := X.len; omega
   have hn0' : n = 0 := by
    have h := hn.2
    rw [show o.args.length - k = 0 by omega] at h
    simp only [beF] at h
    omega
   subst hn0'
   obtain ⟨z', m', rfl, hz'⟩ := A.slice
   obtain ⟨pes, wes⟩ := weaks_terms hes
   have td : tidy 0 h.length (.val (.slice z' es m')) ⟨H, ws, []⟩ = (.val (.slice z' es .any), ⟨h, [], []⟩) := by
    rw [tidy_ups (v := .slice z' es m') (ws := ws) (ups := []) (by simp [PV.pure, pes]) low hw (by simp)]
    simp [PV.weak, wes]
   simp (disch := first | omega | decide | simp only [go_sem]) only [go_sem, a167b1, e1, e2, e5, e11, e12, e13, e14, List.length_map, hk, td]
   exact ⟨(z', es), rfl, hz', szs, n', xs, X, NX, by rw [← NX.len]; omega⟩
end Go.Proofs.Tryz
/- The specification's nth: the term of that number. -/
namespace Go.Proofs.Tryz
open Go Go.AE
variable {T : Tbl} (hT : Std T) {s : GSig}
include hT in
theorem rnth_step (hs : GOk s) {M : Nat} {zs : List (List Int)} (R : RTab s M zs) (hM : M ≤ 60) {N : Nat} (hN : N < M) (IH : RNthIH T s zs N) (a : Nat) (n0 : Int) (h : List AE.Obj) (ha : a < s.sorts.length) (hn0 : 0 ≤ n0 ∧ n0 < cntOf s a (N + 1)) :
 ∃ p, Ev T 94 [encSig s, .slice 1 (rowsV zs) .any, .int .i64 (a : Int), .int .i64 ((N + 1 : Nat) : Int), .int .i64 n0] h (.val p, ⟨h, [], []⟩) ∧ Nth91 s a (N + 1) n0 p := by
 have hops := hs.ops
 have hnO := hs.nO
 have hcnt : cntOf s a (N + 1) = cap (aT s.ops (tabOf s) (a : Int) N s.ops.length) := tabOf_cnt hs.ops ha (by omega)
 have h0T : n0 ≤ 1099511627776 := by have := cap_le_top (aT s.ops (tabOf s) (a : Int) N s.ops.length); omega
 refine Ev.walkP (r := fun (p : PV) => (.val p, ⟨h, [], []⟩)) (hT.sp _ (by decide)) ((hT.fn _).trans fn94) (hT.mode _) rfl ?_
 have k5 : ((h ++ [AE.Obj.row 2 [encSig s]]) ++ [AE.Obj.row 3 [PV.agg [.int .i64 0, .int .i64 0, .slice 0 [] .nil]]])[h.length]? = some (.row 2 [encSig s]) := keepL (by simp)
 have k10 : ((h ++ [AE.Obj.row 2 [encSig s]]) ++ [AE.Obj.row 3 [PV.agg [.int .i64 0, .int .i64 0, .slice 0 [] .nil]]])[(h ++ [AE.Obj.row 2 [encSig s]]).length]? = some (.row 3 [PV.agg [.int .i64 0, .int .i64 0, .slice 0 [] .nil]]) := by simp
 have low : Low h.length h ((h ++ [AE.Obj.row 2 [encSig s]]) ++ [AE.Obj.row 3 [PV.agg [.int .i64 0, .int .i64 0, .slice 0 [] .nil]]]) := ((Low.refl _ _).push (Nat.le_refl _)).push (by simp)
 have hkh : h.length ≤ (h ++ [AE.Obj.row 2 [encSig s]]).length := by simp
 generalize hkx : (h ++ [AE.Obj.row 2 [encSig s]]).length = kx at *
 generalize hH : (h ++ [AE.Obj.row 2 [encSig s]]) ++ [AE.Obj.row 3 [PV.agg [.int .i64 0, .int .i64 0, .slice 0 [] .nil]]] = H at *
 have l1 : loadAt false 1 (.ptr h.length 0 1 1) H = some (.slice 3 (s.ops.map encOp) .any) := by rw [ld_at k5]; rfl
 have l5 : loadAt true 2 (.ptr h.length 0 0 1) H = some (encSig s) := by rw [ld_at k5]; rfl
 simp (disch := first | omega | decide | simp only [go_sem]) only [go_sem, hkx, hH, List.length_cons, List.length_nil]
 refine wpC.loopM (fun d e st => ∃ (i : Nat) (n : Int), i + d = s.ops.length ∧ (0 ≤ n ∧ n ≤ 1099511627776 ∧ n = n0 - aT s.ops (tabOf s) (a : Int) N i) ∧ eget e 1 = .slice 1 (rowsV zs) .any ∧ eget e 2 = .int .i64 (a : Int) ∧ eget e 3 = .int .i64 ((N + 1 : Nat) : Int) ∧ eget e 4 = .int .i64 n ∧ eget e 5 = .ptr h.length 0 0 1 ∧ eget e 10 = .ptr kx 0 0 1 ∧ eget e 11 = .int .i64 (i : Int) ∧ st = ⟨H, [], []⟩) ?_ s.ops.length _ _
  ⟨0, n0, by omega, ⟨hn0.1, h0T, by simp [aT]⟩, by simp only [go_sem], by simp only [go_sem], by simp only [go_sem], by simp only [go_sem], by simp only [go_sem], by simp only [go_sem], by simp only [go_sem]; rfl, rfl⟩
 rintro d e st ⟨i, n, hd, hn, e1, e2, e3, e4, e5, e10, e11, rfl⟩
 by_cases hi : i < s.ops.length
 · have ho : s.ops[i]? = some s.ops[i] := List.getElem?_eq_getElem hi
   have go := get_op hi
   have haT : aT s.ops (tabOf s) (a : Int) N (i + 1) = aT s.ops (tabOf s) (a : Int) N i + if s.ops[i].res = (a : Int) then rvOf s i 0 N else 0 := by simp only [aT, ho]; rfl
   generalize s.ops[i] = o at *
   have so1 : sub false 1 (encOp o) 1 = some (.slice 1 (o.args.map encI) .any) := rfl
   have so2 : sub false 1 (encOp o) 2 = some (.int .i64 o.res) := rfl
   by_cases hres : o.res = (a : Int)
   · have S := sysOf hops ho
     have r0 := S.r0 0 N
     have rc := S.rc 0 N
     have cw := fun h => rwaysF hT R hM hops ho (i0 := 0) (q := N) (by omega) (by omega) (by omega) h
     rw [List.drop_zero] at cw
     rw [if_pos hres] at haT
     by_cases hlt : n < rvOf s i 0 N
     · obtain ⟨⟨sz, es⟩, evL, hsz, szs, n', xs, X, NX, hxl⟩ := list_ev hT R hM hops ho (N := N) (by omega) (by omega) IH hn.1 hlt H
       dsimp only at evL hsz NX
       have fc : fillC [PV.int .i64 0, .int .i64 0, .slice 0 [] .nil] [(0, 1, .int .i64 2), (1, 1, .int .i64 (i : Int)), (2, 1, .slice sz es .any)] = some [.int .i64 2, .int .i64 (i : Int), .slice sz es .any] := rfl
       obtain ⟨ups', sv, hups⟩ := st_k3 (ws := []) (ups := []) (x := 2) (y := (i : Int)) (sz := sz) (es := es) (m := .any) k10
       have ll : loadAt true 3 (.ptr kx 0 0 1) (H.set kx (.row 3 [PV.agg [.int .i64 2, .int .i64 (i : Int), .slice sz es .any]])) = some (PV.agg [.int .i64 2, .int .i64 (i : Int), .slice sz es .any]) := by rw [ld_at (get_set k10)]; rfl
       have hE := nth_end (sz := sz) ho hres X.fit NX hxl X.num hn.2.2 h0T hsz
       obtain ⟨x, hx, _⟩ := hE
       have hpf := hx.facts.2
       generalize hways : rvOf s i 0 N = ways at *
       simp (disch := first | omega | decide | simp only [go_sem]) only [go_sem, a94b0, e1, e2, e3, e4, e5, e10, e11, hi, l1, l5, go, so1, so2, hres, bne_self_eq_false, cb (cw _), cb evL, hT.prim, primOf, hlt, fc, sv, resv, ll]
       refine ⟨_, (tidy_ups (v := .agg [.int .i64 2, .int .i64 (i : Int), .slice sz es .any]) hpf.1 (low.trans (.set hkh)) (show ∀ k ∈ wadd kx [], h.length ≤ k from wadd_low hkh (by simp)) (fun y hy => by
        rcases hups y hy with h | h
        · cases h
        · omega)).trans (by rw [hpf.2]), nth_end (sz := sz) ho hres X.fit NX hxl X.num hn.2.2 h0T hsz⟩
     · generalize hways : rvOf s i 0 N = ways at *
       simp (disch := first | omega | decide | simp only [go_sem]) only [go_sem, a94b0, e1, e2, e3, e4, e5, e10, e11, hi, l1, l5, go, so1, so2, hres, bne_self_eq_false, cb (cw _), hT.prim, primOf, hlt]
       exact ⟨d - 1, by omega, i + 1, n - ways, by omega, by omega, rfl, rfl, trivial⟩
   · have hres' : (o.res != (a : Int)) = true := by simpa using hres
     rw [if_neg hres] at haT
     simp (disch := first | omega | decide | simp only [go_sem]) only [go_sem, a94b0, e1, e2, e3, e4, e5, e10, e11, hi, l1, go, so1, so2, hres']
     exact ⟨d - 1, by omega, i + 1, n, by omega, by omega, rfl, rfl, trivial⟩
 · exfalso
   have : i = s.ops.length := by omega
   subst this
   have := cap_le (aT s.ops (tabOf s) (a : Int) N s.ops.length)
   omega
include hT in
theorem rnth_ev (hs : GOk s) {M : Nat} {zs : List (List Int)} (R : RTab s M zs) (hM : M ≤ 60) : ∀ N, N ≤ M → RNthIH T s zs N
 | 0, _ => fun a m n h _ h1 h2 => by omega
 | N + 1, hN => fun a m n h ha h1 h2 hn0 hn1 => by
   have ih := rnth_ev hs R hM N (by omega)
   by_cases hm : m ≤ N
   · exact ih a m n h ha h1 hm hn0 hn1
   · have : m = N + 1 := by omega
     subst this
     exact rnth_step hT hs R hM (by omega) ih a n h ha ⟨hn0, hn1⟩
end Go.Proofs.Tryz
/- The specification's Sort and Nth. -/
namespace Go.Proofs.Tryz
open Go Go.AE
variable {T : Tbl} (hT : Std T) {s : GSig}
theorem sigP.gok {s : GSig} (h : sigP s) : GOk s := ⟨h.okOps, by have := h.nS; omega, by have := h.nO; omega⟩
end Go.Proofs.Tryz
/- The specification's Nth. -/
namespace Go.Proofs.Tryz
open Go Go.AE
variable {T : Tbl} (hT : Std T) {s : GSig}
def zTerm : PV := .agg [.int .i64 0, .int .i64 0, .slice 0 [] .any]
end Go.Proofs.Tryz
/- vals.Least. -/
namespace Go.Proofs.Tryz
open Go Go.AE
variable {T : Tbl} (hT : Std T) {s : GSig}
def zeroZ (n : Nat) : List Int := List.replicate n 0
def leastZ (s : GSig) : List Int := finZ s.ops (zeroZ s.sorts.length)
def leastO (s : GSig) (sort : Int) : Option Tm × Int :=
 if isSortB sort s.sorts.length = false then (none, 1)
 else if (leastZ s).getD sort.toNat 0 = 0 then (none, 3)
 else if 2000 < (leastZ s).getD sort.toNat 0 then (none, 2)
 else if 200 < (buildT s.ops (leastZ s) 2000 sort.toNat).deep then (none, 2)
 else (some (buildT s.ops (leastZ s) 2000 sort.toNat), 0)
def LeastIs (s : GSig) (sort : Int) (x : PV × Int) : Prop := x.2 = (leastO s sort).2 ∧ match (leastO s sort).1 with
 | some t => Enc t x.1 ∧ t.nodes ≤ 2000
 | none => x.1 = zTerm
theorem Low.comp {n0 n1 : Nat} {h H H' : List AE.Obj} (L : Low n0 h H) (L' : Low n1 H H') (hn : n0 ≤ n1) : Low n0 h H' := by
 refine ⟨?_, Nat.le_trans L.len L'.len⟩
 have h1 : H'.take n0 = (H'.take n1).take n0 := by rw [List.take_take, Nat.min_eq_left hn]
 rw [h1, L'.take, List.take_take, Nat.min_eq_left hn, L.take]
theorem st_any {H : List AE.Obj} {ws : List Nat} {ups : List (Nat × Nat)} {k : Nat} {c v : PV} (hk : H[k]? = some (.row 1 [c])) (hc : upd c 0 v = some v) (hv : v.cells.length = 1 ∧ v.cells.all PV.isCell = true) :
 ∃ ups', storeAt 1 (.ptr k 0 0 1) v ⟨H, ws, ups⟩ = some ⟨H.set k (.row 1 [v]), wadd k ws, ups'⟩ ∧ ∀ x ∈ ups', x ∈ ups ∨ x.1 = k := by
 have h1 : storeAt 1 (.ptr k 0 0 1) v ⟨H, ws, ups⟩ = some (wrote k (.row 1 [v]) v.top ⟨H, ws, ups⟩) := by
  simp only [storeAt, hk, List.length_cons, List.length_nil, hv.1, hv.2, and_self, if_true, List.getElem?_cons_zero, hc, Option.map, List.set_cons_zero]
 rw [h1]
 cases v.top with
 | none => exact ⟨ups, by rw [wrote_none], fun x hx => .inl hx⟩
 | some j =>
   refine ⟨_, by rw [wrote_some], fun x hx => ?_⟩
   split at hx
   · rcases List.mem_cons.1 hx with rfl | h
     · exact .inr rfl
     · exact .inl h
   · exact .inl hx
theorem getD_rep {n a : Nat} {v : Int} : (List.replicate n v).getD a 0 = if a < n then v else 0 := by
 rw [List.getD_eq_getElem?_getD, List.getElem?_replicate]
 split <;> rfl
theorem BZ_zero (n : Nat) : BZ (zeroZ n) (List.replicate n (-1)) := by
 refine ⟨by simp [zeroZ], fun a => ?_⟩
 rw [zeroZ, getD_rep, getD_rep, List.length_replicate]
 split <;> simp_all
theorem okZ_zero (n : Nat) : okZ (zeroZ n) := fun v hv => by
 rw [(List.mem_replicate.1 hv).2]
 decide
theorem AttZ_zero (os : List GOp) (n : Nat) : AttZ os (zeroZ n) := fun k hk => by
 rw [zeroZ, getD_rep] at hk
 split at hk <;> omega
theorem build_shaped {os : List GOp} {nS : Nat} {z : List Int} (L : LeastZ os nS z) (h8 : ∀ o ∈ os, o.args.length ≤ 8) : ∀ (d k : Nat), 0 < z.getD k 0 → z.getD k 0 ≤ 2000 → z.getD k 0 ≤ d → shapedF (buildT os z d k) = true
 | 0, k, h1, _, h3 => by omega
 | d + 1, k, h1, h2, h3 => by
   obtain ⟨i, o, e1, e2, e3, e4, e5, e6⟩ := good_ex L h1 h2
   rw [buildT_eq e1 e2]
   have := h8 o (List.mem_of_getElem? e2)
   simp only [shapedF, shapedL_all, List.length_map, List.all_map, Bool.and_eq_true, decide_eq_true_eq, List.all_eq_true, Function.comp]
   refine ⟨⟨⟨⟨by omega, rfl⟩, rfl⟩, this⟩, fun a ha => ?_⟩
   obtain ⟨f1, f2⟩ := e6 a ha
   unfold zAt at f1 f2
   exact build_shaped L h8 d a.toNat f1 (by omega) (by omega)
include hT in
theorem least_ev (hG : GOk s) (h8 : ∀ o ∈ s.ops, o.args.length ≤ 8) (E87 : ∀ h, Ev T 87 [encSig s] h (.val (.int .i64 0), ⟨h, [], []⟩)) (sort : Int) (h : List AE.Obj) :
 ∃ x : PV × Int, Ev T 56 [encSig s, .int .i64 sort] h (.val (.tuple [x.1, .int .i64 x.2]), ⟨h, [], []⟩) ∧ LeastIs s sort x := by
 refine Ev.walkP (r := fun x : PV × Int => (.val (.tuple [x.1, .int .i64 x.2]), ⟨h, [], []⟩)) (hT.sp _ (by decide)) ((hT.fn _).trans fn56) (hT.mode _) rfl ?_
 have td : ∀ (H' : List AE.Obj) (ws' : List Nat) (ups' : List (Nat × Nat)) (e : Int), Low h.length h H' → (∀ k ∈ ws', h.length ≤ k) → (∀ x ∈ ups', h.length ≤ x.1) → tidy 0 h.length (.val (.tuple [.agg [.int .i64 0, .int .i64 0, .slice 0 [] .nil], .int .i64 e])) ⟨H', ws', ups'⟩ = (.val (.tuple [zTerm, .int .i64 e]), ⟨h, [], []⟩) := fun H' ws' ups' e low hw hu => tidy_ups rfl low hw hu
 have ko : (h ++ [AE.Obj.row 2 [encSig s]])[h.length]? = some (.row 2 [encSig s]) := by simp
 have low1 : Low h.length h (h ++ [AE.Obj.row 2 [encSig s]]) := (Low.refl _ _).push (Nat.le_refl _)
 have hl1 : (h ++ [AE.Obj.row 2 [encSig s]]).length = h.length + 1 := by simp
 generalize hH1 : h ++ [AE.Obj.row 2 [encSig s]] = H1 at *
 have ko2 : (H1 ++ [AE.Obj.row 3 [.agg [.int .i64 0, .int .i64 0, .slice 0 [] .nil]]])[h.length]? = some (.row 2 [encSig s]) := keepL ko
 have k42 : (H1 ++ [AE.Obj.row 3 [.agg [.int .i64 0, .int .i64 0, .slice 0 [] .nil]]])[H1.length]? = some (.row 3 [.agg [.int .i64 0, .int .i64 0, .slice 0 [] .nil]]) := by simp
 have low2 : Low h.length h (H1 ++ [AE.Obj.row 3 [.agg [.int .i64 0, .int .i64 0, .slice 0 [] .nil]]]) := low1.push (by omega)
 have hl2 : (H1 ++ [AE.Obj.row 3 [.agg [.int .i64 0, .int .i64 0, .slice 0 [] .nil]]]).length = h.length + 2 := by simp; omega
 generalize hH2 : H1 ++ [AE.Obj.row 3 [.agg [.int .i64 0, .int .i64 0, .slice 0 [] .nil]]] = H2 at *
 generalize hk4 : H1.length = k4 at *
 have lo2 : loadAt true 2 (.ptr h.length 0 0 1) H2 = some (encSig s) := by rw [ld_at ko2]; rfl
 have ls2 : loadAt false 1 (.ptr h.length 0 0 1) H2 = some (.slice 1 (s.sorts.map .str) .any) := by rw [ld_at ko2]; rfl
 have is := isSort_ev hT (s := s) sort H2
 have fc : fillC [PV.int .i64 0, .int .i64 0, .slice 0 [] .nil] [] = some [.int .i64 0, .int .i64 0, .slice 0 [] .nil] := rfl
 have l4 : ∀ H' : List AE.Obj, H'[k4]? = some (.row 3 [.agg [.int .i64 0, .int .i64 0, .slice 0 [] .nil]]) → loadAt true 3 (.ptr k4 0 0 1) (H'.set k4 (.row 3 [.agg [.int .i64 0, .int .i64 0, .slice 0 [] .nil]])) = some (.agg [.int .i64 0, .int .i64 0, .slice 0 [] .nil]) := fun H' hk => by rw [ld_at (get_set hk)]; rfl
 cases hs : isSortB sort s.sorts.length
 · rw [hs] at is
   obtain ⟨u2, sv, hu2⟩ := st_k3 (ws := []) (ups := []) (x := 0) (y := 0) (sz := 0) (es := []) (m := .nil) k42
   simp (disch := first | omega | decide | simp only [go_sem]) only [go_sem, hH1, hk4, hH2, lo2, cb (E87 _), cb is, hT.prim, primOf, List.length_cons, List.length_nil, fc, sv, resv, l4 _ k42]
   refine ⟨(zTerm, 1), td _ _ _ _ (low2.trans (.set (by omega))) (wadd_low (by omega) (by simp)) (fun x hx => ?_), by simp [LeastIs, leastO, hs]⟩
   rcases hu2 x hx with h | h
   · cases h
   · omega
 · rw [hs] at is
   have hb : 0 ≤ sort ∧ sort < (s.sorts.length : Int) := by simpa [isSortB] using hs
   obtain ⟨a, rfl⟩ := Int.eq_ofNat_of_zero_le hb.1
   have ha : a < s.sorts.length := by omega
   have hnS := hG.nS
   have hO : ∀ o ∈ s.ops, 0 ≤ o.res ∧ o.res < (s.sorts.length : Int) := fun o ho => (hG.ops o ho).2.1
   have mk := mk_ok (sz := 1) (bytes := 8) (n := s.sorts.length) (z := .int .i64 0) (by omega) (by omega) rfl
   have fe : fillE 1 (List.replicate 1 (PV.int .i64 0)) [(0, .int .i64 (-1))] = some [.int .i64 (-1)] := rfl
   have ez : AE.Obj.row 1 (List.replicate s.sorts.length (.int .i64 0)) = .row 1 ((zeroZ s.sorts.length).map encI) := by simp [zeroZ, encI]
   have eb : AE.Obj.row 1 ((List.replicate s.sorts.length (-1 : Int)).map encI) = .row 1 ((List.replicate s.sorts.length (-1 : Int)).map encI) := rfl
   have a3 : (H2 ++ [AE.Obj.row 1 [.slice 0 [] .nil]])[H2.length]? = some (.row 1 [.slice 0 [] .nil]) := by simp
   have m3 : ∀ (k : Nat) (o : AE.Obj), H2[k]? = some o → (H2 ++ [AE.Obj.row 1 [.slice 0 [] .nil]])[k]? = some o := fun k o h => keepL h
   have n3 : (H2 ++ [AE.Obj.row 1 [.slice 0 [] .nil]]).length = H2.length + 1 := by simp
   have low3 : Low h.length h (H2 ++ [AE.Obj.row 1 [.slice 0 [] .nil]]) := low2.push (by omega)
   generalize hH3 : H2 ++ [AE.Obj.row 1 [.slice 0 [] .nil]] = H3 at *
   have a4 : (H3 ++ [AE.Obj.row 1 [.slice 0 [] .nil]])[H3.length]? = some (.row 1 [.slice 0 [] .nil]) := by simp
   have m4 : ∀ (k : Nat) (o : AE.Obj), H3[k]? = some o → (H3 ++ [AE.Obj.row 1 [.slice 0 [] .nil]])[k]? = some o := fun k o h => keepL h
   have n4 : (H3 ++ [AE.Obj.row 1 [.slice 0 [] .nil]]).length = H3.length + 1 := by simp
   have low4 : Low h.length h (H3 ++ [AE.Obj.row 1 [.slice 0 [] .nil]]) := low3.push (by omega)
   generalize hH4 : H3 ++ [AE.Obj.row 1 [.slice 0 [] .nil]] = H4 at *
   have ls4 : loadAt false 1 (.ptr h.length 0 0 1) H4 = some (.slice 1 (s.sorts.map .str) .any) := by rw [ld_at (m4 _ _ (m3 _ _ ko2))]; rfl
   have a5 : (H4 ++ [AE.Obj.row 1 ((zeroZ s.sorts.length).map encI)])[H4.length]? = some (.row 1 ((zeroZ s.sorts.length).map encI)) := by simp
   have m5 : ∀ (k : Nat) (o : AE.Obj), H4[k]? = some o → (H4 ++ [AE.Obj.row 1 ((zeroZ s.sorts.length).map encI)])[k]? = some o := fun k o h => keepL h
   have n5 : (H4 ++ [AE.Obj.row 1 ((zeroZ s.sorts.length).map encI)]).length = H4.length + 1 := by simp
   have low5 : Low h.length h (H4 ++ [AE.Obj.row 1 ((zeroZ s.sorts.length).map encI)]) := low4.push (by omega)
   rw [← ez] at a5 m5 n5 low5
   generalize hH5 : H4 ++ [AE.Obj.row 1 (List.replicate s.sorts.length (.int .i64 0))] = H5 at *
   rw [ez] at a5
   have ls5 : loadAt false 1 (.ptr h.length 0 0 1) H5 = some (.slice 1 (s.sorts.map .str) .any) := by rw [ld_at (m5 _ _ (m4 _ _ (m3 _ _ ko2)))]; rfl
   have rp5 := repeat_ev hT (n := s.sorts.length) (m := .lit) (by omega) (-1) H5
   have a6 : (H5 ++ [AE.Obj.row 1 ((List.replicate s.sorts.length (-1 : Int)).map encI)])[H5.length]? = some (.row 1 ((List.replicate s.sorts.length (-1 : Int)).map encI)) := by simp
   have m6 : ∀ (k : Nat) (o : AE.Obj), H5[k]? = some o → (H5 ++ [AE.Obj.row 1 ((List.replicate s.sorts.length (-1 : Int)).map encI)])[k]? = some o := fun k o h => keepL h
   have n6 : (H5 ++ [AE.Obj.row 1 ((List.replicate s.sorts.length (-1 : Int)).map encI)]).length = H5.length + 1 := by simp
   have low6 : Low h.length h (H5 ++ [AE.Obj.row 1 ((List.replicate s.sorts.length (-1 : Int)).map encI)]) := low5.push (by omega)
   generalize hH6 : H5 ++ [AE.Obj.row 1 ((List.replicate s.sorts.length (-1 : Int)).map encI)] = H6 at *
   have b7 := m6 _ _ (m5 _ _ (m4 _ _ a3))
   have b8 := m6 _ _ (m5 _ _ a4)
   obtain ⟨u7, s7, hu7⟩ := st_any (ws := []) (ups := []) (v := .aref H4.length 1 0 s.sorts.length s.sorts.length) b7 rfl ⟨rfl, rfl⟩
   have b8' : (H6.set H2.length (.row 1 [.aref H4.length 1 0 s.sorts.length s.sorts.length]))[H3.length]? = some (.row 1 [.slice 0 [] .nil]) := get_set_ne b8 (by omega)
   obtain ⟨u8, s8, hu8⟩ := st_any (ws := []) (ups := u7) (v := .aref H5.length 1 0 s.sorts.length s.sorts.length) b8' rfl ⟨rfl, rfl⟩
   have L8 : LMem ((H6.set H2.length (.row 1 [.aref H4.length 1 0 s.sorts.length s.sorts.length])).set H3.length (.row 1 [.aref H5.length 1 0 s.sorts.length s.sorts.length])) h.length H2.length H3.length H4.length H5.length s (zeroZ s.sorts.length) (List.replicate s.sorts.length (-1)) := by
    refine ⟨get_set_ne (get_set_ne (m6 _ _ (m5 _ _ (m4 _ _ (m3 _ _ ko2)))) (by omega)) (by omega), get_set_ne (by rw [zeroZ, List.length_replicate]; exact get_set b7) (by omega), by rw [List.length_replicate]; exact get_set b8', get_set_ne (get_set_ne (m6 _ _ a5) (by omega)) (by omega), get_set_ne (get_set_ne a6 (by omega)) (by omega), by omega, by omega, by omega, by omega⟩
   have k48 : ((H6.set H2.length (.row 1 [.aref H4.length 1 0 s.sorts.length s.sorts.length])).set H3.length (.row 1 [.aref H5.length 1 0 s.sorts.length s.sorts.length]))[k4]? = some (.row 3 [.agg [.int .i64 0, .int .i64 0, .slice 0 [] .nil]]) := get_set_ne (get_set_ne (m6 _ _ (m5 _ _ (m4 _ _ (m3 _ _ k42)))) (by omega)) (by omega)
   have low8 : Low h.length h ((H6.set H2.length (.row 1 [.aref H4.length 1 0 s.sorts.length s.sorts.length])).set H3.length (.row 1 [.aref H5.length 1 0 s.sorts.length s.sorts.length])) := (low6.trans (.set (by omega))).trans (.set (by omega))
   have n8 : ((H6.set H2.length (.row 1 [.aref H4.length 1 0 s.sorts.length s.sorts.length])).set H3.length (.row 1 [.aref H5.length 1 0 s.sorts.length s.sorts.length])).length = H4.length + 2 := by simp; omega
   have hu8' : ∀ x ∈ u8, h.length ≤ x.1 := fun x hx => by
    rcases hu8 x hx with h | h
    · rcases hu7 x h with h | h
      · cases h
      · omega
    · omega
   simp (disch := first | omega | decide | simp only [go_sem]) only [go_sem, hH1, hk4, hH2, lo2, cb (E87 _), cb is, hT.prim, primOf, List.length_cons, List.length_nil, bne_self_eq_false, hH3, hH4, ls4, mk, hH5, fe, ls5, cb rp5, hH6, s7, s8, List.length_map]
   generalize hH8 : (H6.set H2.length (.row 1 [.aref H4.length 1 0 s.sorts.length s.sorts.length])).set H3.length (.row 1 [.aref H5.length 1 0 s.sorts.length s.sorts.length]) = H8 at *
   generalize hkz : H4.length = kz at *
   generalize hkb : H5.length = kb at *
   generalize hk7 : H2.length = k7 at *
   generalize hk8 : H3.length = k8 at *
   have hc4 : k4 < k7 := by omega
   have bad : ∀ (H' : List AE.Obj) (ws' : List Nat) (ups' : List (Nat × Nat)), Low k7 H8 H' → (∀ k ∈ ws', k7 ≤ k) → (∀ x ∈ ups', h.length ≤ x.1) → ∃ u, storeAt 3 (.ptr k4 0 0 1) (.agg [.int .i64 0, .int .i64 0, .slice 0 [] .nil]) ⟨H', ws', ups'⟩ = some ⟨H'.set k4 (.row 3 [.agg [.int .i64 0, .int .i64 0, .slice 0 [] .nil]]), wadd k4 ws', u⟩ ∧ loadAt true 3 (.ptr k4 0 0 1) (H'.set k4 (.row 3 [.agg [.int .i64 0, .int .i64 0, .slice 0 [] .nil]])) = some (.agg [.int .i64 0, .int .i64 0, .slice 0 [] .nil]) ∧
    ∀ e : Int, tidy 0 h.length (.val (.tuple [.agg [.int .i64 0, .int .i64 0, .slice 0 [] .nil], .int .i64 e])) ⟨H'.set k4 (.row 3 [.agg [.int .i64 0, .int .i64 0, .slice 0 [] .nil]]), wadd k4 ws', u⟩ = (.val (.tuple [zTerm, .int .i64 e]), ⟨h, [], []⟩) := fun H' ws' ups' low hw hu => by
    have hk := low.get hc4 k48
    obtain ⟨u, sv, hu2⟩ := st_k3 (ws := ws') (ups := ups') (x := 0) (y := 0) (sz := 0) (es := []) (m := .nil) hk
    refine ⟨u, sv, l4 _ hk, fun e => td _ _ _ e ((low8.comp low (by omega)).trans (.set (by omega))) (wadd_low (by omega) fun k hk => by have := hw k hk; omega) fun x hx => ?_⟩
    rcases hu2 x hx with h | h
    · exact hu x h
    · omega
   clear td low1 low2 low3 low4 low5 low6
   refine least_b2 hG L8 (by simp [zeroZ]) (okZ_zero _) (AttZ_zero _ _) (BZ_zero _) (n0 := k7) (by omega) (Low.refl k7 H8) (by omega) (fun x hx => by repeat' first | omega | (cases hx; done) | (rcases mem_wall hx with hx | hx) | (rcases mem_wadd hx with hx | hx)) (by simp only [go_sem]) (by simp only [go_sem]) (by simp only [go_sem]) (by simp only [go_sem]) fun e9 H9 ws9 b9 hS9 L9 B9 LZ low9 hn9 hw9 => ?_
   have g1 : eget e9 1 = .int .i64 (a : Int) := (hS9 1 (by omega)).trans (by simp only [go_sem])
   have g2 : eget e9 2 = .ptr h.length 0 0 1 := (hS9 2 (by omega)).trans (by simp only [go_sem])
   have g4 : eget e9 4 = .ptr k4 0 0 1 := (hS9 4 (by omega)).trans (by simp only [go_sem])
   have g7 : eget e9 7 = .ptr k7 0 0 1 := (hS9 7 (by omega)).trans (by simp only [go_sem])
   have g8 : eget e9 8 = .ptr k8 0 0 1 := (hS9 8 (by omega)).trans (by simp only [go_sem])
   clear hS9
   have hZ : finZ s.ops (zeroZ s.sorts.length) = leastZ s := rfl
   rw [hZ] at L9 B9 LZ
   have hZl := LZ.len
   have hbl := B9.1
   have haz : a < (leastZ s).length := by omega
   have hab : a < b9.length := by omega
   have p8 := L9.l8
   have p7 := L9.l7
   have lb := ld_v (i := a) L9.rb rfl hab
   have lz := ld_v (i := a) L9.rz rfl haz
   have z1 := LZ.ok.at (a : Int)
   simp only [zAt, Int.toNat_natCast] at z1
   obtain ⟨u9, st9, ld9, td9⟩ := bad H9 ws9 u8 low9 hw9 hu8'
   have hba := B9.2 a
   by_cases hb9 : b9.getD a 0 < 0
   · have hz0 := (hba.1 hb9).2
     simp (disch := first | omega | decide | simp only [go_sem]) only [go_sem, g1, g2, g4, g7, g8, p8, lb, haz, hab, hb9, fc, st9, resv, ld9]
     exact ⟨(zTerm, 3), td9 3, by simp [LeastIs, leastO, hs, List.getD_eq_getElem?_getD] at hz0 ⊢; simp [hz0]⟩
   · have hz0 : (leastZ s).getD a 0 ≠ 0 := fun h => hb9 (hba.2 ⟨haz, h⟩)
     by_cases hz2 : 2000 < (leastZ s).getD a 0
     · simp (disch := first | omega | decide | simp only [go_sem]) only [go_sem, g1, g2, g4, g7, g8, p8, p7, lb, lz, haz, hab, hb9, hz2, fc, st9, resv, ld9]
       exact ⟨(zTerm, 2), td9 2, by simp only [LeastIs, leastO, hs, Int.toNat_natCast]; rw [if_neg (by simp), if_neg hz0, if_pos hz2]; exact ⟨rfl, trivial⟩⟩
     · have F9 : FixInv s.ops (leastZ s) b9 0 := ⟨hbl, fun j hj => by omega, fun j hj => by omega, fun j _ => B9.2 j⟩
       simp (disch := first | omega | decide | simp only [go_sem]) only [go_sem, g1, g2, g4, g7, g8, p8, p7, lb, lz, haz, hab, hb9, hz2]
       refine least_b3 hT hG LZ L9 F9 (n0 := k7) (by omega) low9 hn9 hw9 (by simp only [go_sem, g2]) (by simp only [go_sem, g7]) (by simp only [go_sem, g8]) (by simp only [go_sem, hbl]) (by simp only [go_sem]) fun e10 H10 ws10 b10 hS10 L10 F10 low10 hn10 hw10 => ?_
       have q1 : eget e10 1 = .int .i64 (a : Int) := (hS10 1 (by omega)).trans (by simp only [go_sem, g1])
       have q2 : eget e10 2 = .ptr h.length 0 0 1 := (hS10 2 (by omega)).trans (by simp only [go_sem, g2])
       have q4 : eget e10 4 = .ptr k4 0 0 1 := (hS10 4 (by omega)).trans (by simp only [go_sem, g4])
       have q8 : eget e10 8 = .ptr k8 0 0 1 := (hS10 8 (by omega)).trans (by simp only [go_sem, g8])
       clear hS10
       have c17 : (H10 ++ [AE.Obj.row 1 [.nilFunc]])[H10.length]? = some (.row 1 [.nilFunc]) := by simp
       have n11 : (H10 ++ [AE.Obj.row 1 [.nilFunc]]).length = H10.length + 1 := by simp
       have low11 : Low k7 H8 (H10 ++ [AE.Obj.row 1 [.nilFunc]]) := low10.push hn10
       have r1 := (List.getElem?_eq_some_iff.1 L10.sg).1
       have r2 := (List.getElem?_eq_some_iff.1 L10.b8).1
       have r3 := (List.getElem?_eq_some_iff.1 L10.rb).1
       have d1 := keepL (o2 := .row 1 [.nilFunc]) L10.sg
       have d2 := keepL (o2 := .row 1 [.nilFunc]) L10.b8
       have d3 := keepL (o2 := .row 1 [.nilFunc]) L10.rb
       generalize hH11 : H10 ++ [AE.Obj.row 1 [.nilFunc]] = H11 at *
       generalize hk17 : H10.length = k17 at *
       obtain ⟨u17, s17, hu17⟩ := st_any (ws := ws10) (ups := u8) (v := .func (.func 141) [] [.ptr k8 0 0 1, .ptr h.length 0 0 1, .ptr k17 0 0 1]) c17 rfl ⟨rfl, rfl⟩
       have BM : BMem (H11.set k17 (.row 1 [.func (.func 141) [] [.ptr k8 0 0 1, .ptr h.length 0 0 1, .ptr k17 0 0 1]])) h.length k8 kb k17 s b10 := ⟨get_set_ne d1 (by omega), get_set_ne d2 (by omega), get_set_ne d3 (by omega), get_set c17⟩
       have low12 : Low k7 H8 (H11.set k17 (.row 1 [.func (.func 141) [] [.ptr k8 0 0 1, .ptr h.length 0 0 1, .ptr k17 0 0 1]])) := low11.trans (.set hn10)
       have n12 : (H11.set k17 (.row 1 [.func (.func 141) [] [.ptr k8 0 0 1, .ptr h.length 0 0 1, .ptr k17 0 0 1]])).length = k17 + 1 := by simp [n11]
       generalize hH12 : H11.set k17 (.row 1 [.func (.func 141) [] [.ptr k8 0 0 1, .ptr h.length 0 0 1, .ptr k17 0 0 1]]) = H12 at *
       have l17 : loadAt false 1 (.ptr k17 0 0 1) H12 = some (.func (.func 141) [] [.ptr k8 0 0 1, .ptr h.length 0 0 1, .ptr k17 0 0 1]) := by rw [ld_at BM.fn]; rfl
       obtain ⟨p, evp, hx, tp⟩ := build_ev hT hG LZ F10 2000 a (by omega) (by omega) (by omega) haz H12 BM
       have hnod := build_nodes LZ 2000 a (by omega) (by omega) (by omega)
       have hshp := build_shaped LZ h8 2000 a (by omega) (by omega) (by omega)
       generalize hbt : buildT s.ops (leastZ s) 2000 a = bt at *
       obtain ⟨b1, b2, b3, b4⟩ := hx.cells
       have sb := fun ws => st_box (h := H12) (ws := ws) (ups := u17) (z := .agg [(.int .i64 0), (.int .i64 0), (.slice 0 [] .nil)]) (sz := 3) (c := p) b1 rfl b2 hx.facts.1 ⟨_, rfl⟩ b4
       have c18 : (H12 ++ [AE.Obj.row 3 [p]])[H12.length]? = some (.row 3 [p]) := by simp
       have low13 : Low k7 H8 (H12 ++ [AE.Obj.row 3 [p]]) := low12.push (by omega)
       generalize hH13 : H12 ++ [AE.Obj.row 3 [p]] = H13 at *
       generalize hk18 : H12.length = k18 at *
       have l18 : loadAt true 3 (.ptr k18 0 0 1) H13 = some p := by rw [ld_at c18]; exact hx.sub
       have tr := treeE_ev hT hx H13
       have htb : treeB bt = decide (bt.deep ≤ 200) := by
        unfold treeB
        rw [decide_eq_true (show bt.nodes ≤ 2000 by omega), hshp, Bool.true_and, Bool.and_true]
       have hu17' : ∀ x ∈ u17, h.length ≤ x.1 := fun x hx => by
        rcases hu17 x hx with h | h
        · exact hu8' x h
        · omega
       have hw13 : ∀ k ∈ wadd k18 (wadd k17 ws10), k7 ≤ k := wadd_low (by omega) (wadd_low hn10 hw10)
       by_cases hdp : 200 < bt.deep
       · rw [htb, decide_eq_false (by omega)] at tr
         obtain ⟨u13, st13, ld13, td13⟩ := bad H13 _ u17 low13 hw13 hu17'
         simp (disch := first | omega | decide | simp only [go_sem]) only [go_sem, q1, q2, q4, q8, hH11, hk17, s17, hH12, l17, cb evp, hT.prim, primOf, b1, b3, sb, hH13, hk18, l18, cb tr, List.length_cons, List.length_nil, Bool.false_eq_true, fc, st13, resv, ld13]
         exact ⟨(zTerm, 2), td13 2, by simp only [LeastIs, leastO, hs, Int.toNat_natCast]; rw [if_neg (by simp), if_neg hz0, if_neg hz2, hbt, if_pos hdp]; exact ⟨rfl, trivial⟩⟩
       · rw [htb, decide_eq_true (by omega)] at tr
         have hp4 := low13.get hc4 k48
         obtain ⟨x, y, sz, es, hp⟩ : ∃ x y sz es, p = .agg [.int .i64 x, .int .i64 y, .slice sz es .any] := by cases hx; exact ⟨_, _, _, _, rfl⟩
         obtain ⟨u14, sv, hu14⟩ := st_k3 (ws := wadd k18 (wadd k17 ws10)) (ups := u17) (x := x) (y := y) (sz := sz) (es := es) (m := .any) hp4
         rw [← hp] at sv
         have l14 : loadAt true 3 (.ptr k4 0 0 1) (H13.set k4 (.row 3 [p])) = some p := by rw [ld_at (get_set hp4)]; exact hx.sub
         obtain ⟨_, f1, f2⟩ := hx.facts
         simp (disch := first | omega | decide | simp only [go_sem]) only [go_sem, q1, q2, q4, q8, hH11, hk17, s17, hH12, l17, cb evp, hT.prim, primOf, b1, b3, sb, hH13, hk18, l18, cb tr, List.length_cons, List.length_nil, sv, resv, l14, bne_self_eq_false]
         refine ⟨(p, 0), ?_, by simp only [LeastIs, leastO, hs, Int.toNat_natCast]; rw [if_neg (by simp), if_neg hz0, if_neg hz2, hbt, if_neg hdp]; exact ⟨rfl, hx, by omega⟩⟩
         have := tidy_ups (h := h) (v := .tuple [p, .int .i64 0]) (ws := wadd k4 (wadd k18 (wadd k17 ws10))) (ups := u14) (by simp [PV.pure, pures, f1]) ((low8.comp low13 (by omega)).trans (.set (k := k4) (o := .row 3 [p]) (by omega))) (wadd_low (by omega) fun k hk => by have := hw13 k hk; omega) fun x hx => by
          rcases hu14 x hx with h | h
          · exact hu17' x h
          · omega
         simpa [PV.weak, weaks, f2, tupled] using this
end Go.Proofs.Tryz
/- The specification's least sizes. -/
namespace Go.Proofs.Tryz
open Go Go.AE
variable {T : Tbl} (hT : Std T) {s : GSig} {H : List AE.Obj} {ws : List Nat} {ups : List (Nat × Nat)} {ko kz : Nat} {z : List Int}
structure RMem (H : List AE.Obj) (ko kz : Nat) (s : GSig) (z : List Int) : Prop where
 sg : H[ko]? = some (.row 2 [encSig s])
 rz : H[kz]? = some (.row 1 (z.map encI))
 ne : kz ≠ ko
theorem RMem.ops (L : RMem H ko kz s z) : loadAt false 1 (.ptr ko 0 1 1) H = some (.slice 3 (s.ops.map encOp) .any) := by rw [ld_at L.sg]; rfl
theorem RMem.set (L : RMem H ko kz s z) {z' : List Int} : RMem (H.set kz (.row 1 (z'.map encI))) ko kz s z' := ⟨get_set_ne L.sg L.ne, get_set L.rz, L.ne⟩
theorem rleast_b0 (hG : GOk s) (L : RMem H ko kz s z) (hz : okZ z) (hzl : z.length = s.sorts.length) {i : Nat} {o : GOp} (ho : s.ops[i]? = some o) {e : List PV} {Q : AExit → List PV → St → Prop}
 (e1 : eget e 1 = .ptr ko 0 0 1) (e3 : eget e 3 = .aref kz 1 0 z.length z.length) (e5 : eget e 5 = .int .i64 (i : Int)) (e6 : eget e 6 = .int .i64 1) (e7 : eget e 7 = .bool true) (e8 : eget e 8 = .int .i64 0)
 (hQ : ∀ e', Same (fun j => (6 ≤ j ∧ j ≤ 9) ∨ 23 ≤ j) e e' → eget e' 6 = .int .i64 (sumZ z o.args 1) → eget e' 7 = .bool (wholeZ z o.args) → Q (.exit 4) e' ⟨H, ws, ups⟩) : wpC T (.loop a142b0) e ⟨H, ws, ups⟩ Q := by
 have lo := L.ops
 obtain ⟨oa, _, ol⟩ := hG.ops o (List.mem_of_getElem? ho)
 rw [← hzl] at oa
 have go : (s.ops.map encOp)[i]? = some (encOp o) := by rw [List.getElem?_map, ho]; rfl
 have la : loadAt false 1 (.iptr (encOp o) 1) H = some (.slice 1 (o.args.map encI) .any) := rfl
 refine wpC.loopM (fun d e' st => ∃ (k : Nat) (n : Int) (w : Bool), k + d = o.args.length ∧ (0 ≤ n ∧ n ≤ 1 + 2001 * k) ∧ sumZ z (o.args.drop k) n = sumZ z o.args 1 ∧ (w && wholeZ z (o.args.drop k)) = wholeZ z o.args ∧ Same (fun j => (6 ≤ j ∧ j ≤ 9) ∨ 23 ≤ j) e e' ∧ (eget e' 6 = .int .i64 n ∧ eget e' 7 = .bool w ∧ eget e' 8 = .int .i64 (k : Int)) ∧ st = ⟨H, ws, ups⟩) ?_ o.args.length _ _ ⟨0, 1, true, by omega, by omega, by rw [List.drop_zero], by rw [List.drop_zero, Bool.true_and], Same.refl e, ⟨e6, e7, e8⟩, rfl⟩
 rintro d e' st ⟨k, n, w, hd, hn, hc, hw, hS, ⟨f6, f7, f8⟩, rfl⟩
 have f1 := (hS 1 (by omega)).trans e1
 have f3 := (hS 3 (by omega)).trans e3
 have f5 := (hS 5 (by omega)).trans e5
 by_cases hk : k < o.args.length
 · have hk1 : (k : Int) < (o.args.length : Int) := by omega
   obtain ⟨g1, g2⟩ := oa.get hk
   have hdr : o.args.drop k = ((o.args.getD k 0).toNat : Int) :: o.args.drop (k + 1) := by
    rw [List.drop_eq_getElem_cons hk]
    rw [List.getElem?_eq_getElem hk] at g1
    rw [Option.some.inj g1]
   generalize ha : (o.args.getD k 0).toNat = a at *
   have g3 : (o.args.map encI)[k]? = some (.int .i64 (a : Int)) := by rw [List.getElem?_map, g1]; rfl
   have lz := ld_v (i := a) L.rz rfl g2
   have z1 := hz.at (a : Int)
   have z2 : zAt z (a : Int) = z.getD a 0 := by simp [zAt]
   rw [z2] at z1
   rw [hdr] at hc hw
   simp only [sumZ, z2] at hc
   have hw2 : ((w && decide (0 < z.getD a 0)) && wholeZ z (o.args.drop (k + 1))) = wholeZ z o.args := by
    rw [← hw, Bool.and_assoc]
    simp only [wholeZ, List.all_cons, z2]
   cases w
   · simp (disch := first | omega | decide | simp only [go_sem]) only [go_sem, a142b0, f1, f3, f5, f6, f7, f8, lo, go, la, hk1, g3, g2, lz, List.length_map]
     exact ⟨d - 1, by omega, k + 1, n + z.getD a 0, false, by omega, by omega, hc, by rw [← hw2]; rfl, hS.trans fun j hj => by simp (disch := omega) only [eget_eput_ne], ⟨rfl, rfl, rfl⟩, trivial⟩
   · simp (disch := first | omega | decide | simp only [go_sem]) only [go_sem, a142b0, f1, f3, f5, f6, f7, f8, lo, go, la, hk1, g3, g2, lz, List.length_map]
     exact ⟨d - 1, by omega, k + 1, n + z.getD a 0, decide (0 < z.getD a 0), by omega, by omega, hc, by rw [← hw2]; rfl, hS.trans fun j hj => by simp (disch := omega) only [eget_eput_ne], ⟨rfl, rfl, rfl⟩, trivial⟩
 · have hk1 : ¬ (k : Int) < (o.args.length : Int) := by omega
   rw [List.drop_eq_nil_of_le (by omega)] at hc hw
   have hw : w = wholeZ z o.args := by rw [← hw]; simp [wholeZ]
   have hc : n = sumZ z o.args 1 := hc
   simp (disch := first | omega | decide | simp only [go_sem]) only [go_sem, a142b0, f1, f3, f5, f6, f7, f8, lo, go, la, hk1, List.length_map]
   exact hQ _ (hS.trans fun j hj => by simp (disch := omega) only [eget_eput_ne]) (by simp only [go_sem, f6, hc]) (by simp only [go_sem, f7, hw])
set_option maxHeartbeats 800000 in
theorem rleast_b1 (hG : GOk s) (L : RMem H ko kz s z) (hz : okZ z) (hzl : z.length = s.sorts.length) {n0 : Nat} (hn0 : n0 ≤ kz) {h : List AE.Obj} (low : Low n0 h H) (hnH : n0 ≤ H.length) (hw : ∀ k ∈ ws, n0 ≤ k) {e : List PV} {Q : AExit → List PV → St → Prop}
 (e1 : eget e 1 = .ptr ko 0 0 1) (e3 : eget e 3 = .aref kz 1 0 s.sorts.length s.sorts.length) (e4 : eget e 4 = .bool false) (e5 : eget e 5 = .int .i64 0)
 (hQ : ∀ e' H' ws' z' c, Same (fun j => 4 ≤ j) e e' → RMem H' ko kz s z' → roundZ s.ops z false = (z', c) → eget e' 4 = .bool c → Low n0 h H' → n0 ≤ H'.length → (∀ k ∈ ws', n0 ≤ k) → Q (.exit 2) e' ⟨H', ws', ups⟩) : wpC T (.loop a142b1) e ⟨H, ws, ups⟩ Q := by
 refine wpC.loopM (fun d e' st => ∃ (i : Nat) (H' : List AE.Obj) (ws' : List Nat) (z' : List Int) (c : Bool), i + d = s.ops.length ∧ RMem H' ko kz s z' ∧ z'.length = s.sorts.length ∧ okZ z' ∧ roundZ (s.ops.drop i) z' c = roundZ s.ops z false ∧ Low n0 h H' ∧ n0 ≤ H'.length ∧ (∀ k ∈ ws', n0 ≤ k) ∧ Same (fun j => 4 ≤ j) e e' ∧ (eget e' 4 = .bool c ∧ eget e' 5 = .int .i64 (i : Int)) ∧ st = ⟨H', ws', ups⟩) ?_ s.ops.length _ _ ⟨0, H, ws, z, false, by omega, L, hzl, hz, by rw [List.drop_zero], low, hnH, hw, Same.refl e, ⟨e4, e5⟩, rfl⟩
 clear L hzl hz low hnH hw
 rintro d e' st ⟨i, H, ws, z', c, hd, L, hzl, hz, hR, low, hnH, hw, hS, ⟨f4, f5⟩, rfl⟩
 generalize hz' : z' = zz at *
 have f1 := (hS 1 (by omega)).trans e1
 have f3 := (hS 3 (by omega)).trans e3
 have lo := L.ops
 have hO := hG.nO
 by_cases hi : i < s.ops.length
 · have hi1 : (i : Int) < (s.ops.length : Int) := by omega
   have hdr : s.ops.drop i = s.ops[i] :: s.ops.drop (i + 1) := List.drop_eq_getElem_cons hi
   have ga := get_op hi
   have gi : s.ops[i]? = some s.ops[i] := List.getElem?_eq_getElem hi
   obtain ⟨oa, ⟨or0, or1⟩, ol⟩ := hG.ops _ (List.getElem_mem hi)
   rw [hdr] at hR
   simp only [roundZ] at hR
   generalize s.ops[i] = o at *
   rw [← hzl] at or1
   obtain ⟨r, hr⟩ := Int.eq_ofNat_of_zero_le or0
   have hrz : r < zz.length := by omega
   have hrS : r < s.sorts.length := by omega
   simp (disch := first | omega | decide | simp only [go_sem]) only [go_sem, a142b1, f1, f3, f4, f5, lo, hi1, List.length_map]
   refine rleast_b0 hG L hz hzl gi (by simp only [go_sem, f1]) (by simp only [go_sem, f3, hzl]) (by simp only [go_sem, f5]) (by simp only [go_sem]) (by simp only [go_sem]) (by simp only [go_sem]) fun e2 hS2 g6 g7 => ?_
   have g1 : eget e2 1 = .ptr ko 0 0 1 := (hS2 1 (by omega)).trans (by simp only [go_sem, f1])
   have g3 : eget e2 3 = .aref kz 1 0 s.sorts.length s.sorts.length := (hS2 3 (by omega)).trans (by simp only [go_sem, f3])
   have g4 : eget e2 4 = .bool c := (hS2 4 (by omega)).trans (by simp only [go_sem, f4])
   have g5 : eget e2 5 = .int .i64 (i : Int) := (hS2 5 (by omega)).trans (by simp only [go_sem, f5])
   have hS3 : Same (fun j => 4 ≤ j) e e2 := fun j hj => by
    refine (hS2 j (by omega)).trans (Eq.trans ?_ (hS j hj))
    simp (disch := omega) only [eget_eput_ne]
   clear hS2
   have lres : loadAt false 1 (.iptr (encOp o) 2) H = some (.int .i64 (r : Int)) := by rw [← hr]; rfl
   have lz := ld_v (i := r) L.rz hzl hrS
   have zr : zAt zz o.res = zz.getD r 0 := by simp [zAt, hr]
   have z1 := hz.at o.res
   have p1 := sumZ_le hz o.args 1
   have p2 := sumZ_up hz o.args 1
   rw [zr] at z1
   cases hwh : wholeZ zz o.args
   · rw [hwh] at g7
     have hst : stepZ zz o = (zz, false) := by
      unfold stepZ
      rw [if_neg fun h => by rw [hwh] at h; simp at h]
     rw [hst, Bool.false_or] at hR
     by_cases hb : 2001 < sumZ zz o.args 1
     · simp (disch := first | omega | decide | simp only [go_sem]) only [go_sem, g1, g3, g4, g5, g6, g7, hb, lo, ga, lres]
       exact ⟨d - 1, by omega, i + 1, _, _, zz, c, by omega, L, hzl, hz, hR, low, hnH, hw, hS3.trans fun j hj => by simp (disch := omega) only [eget_eput_ne], ⟨rfl, rfl⟩, rfl⟩
     · simp (disch := first | omega | decide | simp only [go_sem]) only [go_sem, g1, g3, g4, g5, g6, g7, hb, lo, ga, lres]
       exact ⟨d - 1, by omega, i + 1, _, _, zz, c, by omega, L, hzl, hz, hR, low, hnH, hw, hS3.trans fun j hj => by simp (disch := omega) only [eget_eput_ne], ⟨rfl, rfl⟩, rfl⟩
   · rw [hwh] at g7
     by_cases hc : zz.getD r 0 = 0 ∨ min (sumZ zz o.args 1) 2001 < zz.getD r 0
     · have hst : stepZ zz o = (zz.set r (min (sumZ zz o.args 1) 2001), true) := by
        unfold stepZ opZ
        rw [if_pos ⟨hwh, by rw [zr]; exact hc⟩, hr]
        rfl
       rw [hst, Bool.true_or] at hR
       dsimp only at hR
       have st1 := fun (v : Int) ws => st_v (ws := ws) (ups := ups) (v := v) L.rz hzl hrS
       have L2 := L.set (z' := zz.set r (min (sumZ zz o.args 1) 2001))
       have low2 : Low n0 h (H.set kz (.row 1 ((zz.set r (min (sumZ zz o.args 1) 2001)).map encI))) := low.trans (Low.set hn0)
       have z2 := hz.set (k := r) (v := min (sumZ zz o.args 1) 2001) ⟨by omega, by omega⟩
       have zl2 : (zz.set r (min (sumZ zz o.args 1) 2001)).length = s.sorts.length := by simpa using hzl
       generalize hv : min (sumZ zz o.args 1) 2001 = v at *
       by_cases hb : 2001 < sumZ zz o.args 1
       · have hv2 : v = 2001 := by omega
         subst hv2
         by_cases h0 : zz.getD r 0 = 0
         · have h0' : (zz.getD r 0 == 0) = true := by simpa using h0
           simp (disch := first | omega | decide | simp only [go_sem]) only [go_sem, g1, g3, g4, g5, g6, g7, hb, lo, ga, lres, hrS, lz, h0', st1]
           exact ⟨d - 1, by omega, i + 1, _, _, _, true, by omega, L2, zl2, z2, hR, low2, by simpa using hnH, wadd_low hn0 hw, hS3.trans fun j hj => by simp (disch := omega) only [eget_eput_ne], ⟨rfl, rfl⟩, rfl⟩
         · have h0' : (zz.getD r 0 == 0) = false := by simpa using h0
           have h1' : 2001 < zz.getD r 0 := by omega
           simp (disch := first | omega | decide | simp only [go_sem]) only [go_sem, g1, g3, g4, g5, g6, g7, hb, lo, ga, lres, hrS, lz, h0', h1', st1]
           exact ⟨d - 1, by omega, i + 1, _, _, _, true, by omega, L2, zl2, z2, hR, low2, by simpa using hnH, wadd_low hn0 hw, hS3.trans fun j hj => by simp (disch := omega) only [eget_eput_ne], ⟨rfl, rfl⟩, rfl⟩
       · have hv2 : v = sumZ zz o.args 1 := by omega
         subst hv2
         by_cases h0 : zz.getD r 0 = 0
         · have h0' : (zz.getD r 0 == 0) = true := by simpa using h0
           simp (disch := first | omega | decide | simp only [go_sem]) only [go_sem, g1, g3, g4, g5, g6, g7, hb, lo, ga, lres, hrS, lz, h0', st1]
           exact ⟨d - 1, by omega, i + 1, _, _, _, true, by omega, L2, zl2, z2, hR, low2, by simpa using hnH, wadd_low hn0 hw, hS3.trans fun j hj => by simp (disch := omega) only [eget_eput_ne], ⟨rfl, rfl⟩, rfl⟩
         · have h0' : (zz.getD r 0 == 0) = false := by simpa using h0
           have h1' : sumZ zz o.args 1 < zz.getD r 0 := by omega
           simp (disch := first | omega | decide | simp only [go_sem]) only [go_sem, g1, g3, g4, g5, g6, g7, hb, lo, ga, lres, hrS, lz, h0', h1', st1]
           exact ⟨d - 1, by omega, i + 1, _, _, _, true, by omega, L2, zl2, z2, hR, low2, by simpa using hnH, wadd_low hn0 hw, hS3.trans fun j hj => by simp (disch := omega) only [eget_eput_ne], ⟨rfl, rfl⟩, rfl⟩
     · have hst : stepZ zz o = (zz, false) := by
        unfold stepZ opZ
        rw [if_neg fun h => hc (by rw [← zr]; exact h.2)]
       rw [hst, Bool.false_or] at hR
       have h0' : (zz.getD r 0 == 0) = false := by simpa using fun h => hc (.inl h)
       by_cases hb : 2001 < sumZ zz o.args 1
       · have h1' : ¬ 2001 < zz.getD r 0 := by omega
         simp (disch := first | omega | decide | simp only [go_sem]) only [go_sem, g1, g3, g4, g5, g6, g7, hb, lo, ga, lres, hrS, lz, h0', h1']
         exact ⟨d - 1, by omega, i + 1, _, _, zz, c, by omega, L, hzl, hz, hR, low, hnH, hw, hS3.trans fun j hj => by simp (disch := omega) only [eget_eput_ne], ⟨rfl, rfl⟩, rfl⟩
       · have h1' : ¬ sumZ zz o.args 1 < zz.getD r 0 := by omega
         simp (disch := first | omega | decide | simp only [go_sem]) only [go_sem, g1, g3, g4, g5, g6, g7, hb, lo, ga, lres, hrS, lz, h0', h1']
         exact ⟨d - 1, by omega, i + 1, _, _, zz, c, by omega, L, hzl, hz, hR, low, hnH, hw, hS3.trans fun j hj => by simp (disch := omega) only [eget_eput_ne], ⟨rfl, rfl⟩, rfl⟩
 · have hi1 : ¬ (i : Int) < (s.ops.length : Int) := by omega
   rw [List.drop_eq_nil_of_le (by omega)] at hR
   simp (disch := first | omega | decide | simp only [go_sem]) only [go_sem, a142b1, f1, f4, f5, lo, hi1, List.length_map]
   exact hQ _ _ _ zz c (hS.trans fun j hj => by simp (disch := omega) only [eget_eput_ne]) L hR.symm (by simp only [go_sem, f4]) low hnH hw
end Go.Proofs.Tryz
/- The specification's leasts, whole. -/
namespace Go.Proofs.Tryz
open Go Go.AE
variable {T : Tbl} (hT : Std T) {s : GSig} {H : List AE.Obj} {ws : List Nat} {ups : List (Nat × Nat)} {ko kz : Nat} {z : List Int}
theorem rleast_b2 (hG : GOk s) {e : List PV} {Q : AExit → List PV → St → Prop} (L : RMem H ko kz s z) (hzl : z.length = s.sorts.length) (hz : okZ z) (hA : AttZ s.ops z) {n0 : Nat} (hn0 : n0 ≤ kz) {h : List AE.Obj} (low : Low n0 h H) (hnH : n0 ≤ H.length) (hw : ∀ k ∈ ws, n0 ≤ k)
 (e1 : eget e 1 = .ptr ko 0 0 1) (e3 : eget e 3 = .aref kz 1 0 s.sorts.length s.sorts.length) (e4 : eget e 4 = .bool true)
 (hQ : ∀ e' H' ws', Same (fun j => 4 ≤ j) e e' → RMem H' ko kz s (finZ s.ops z) → LeastZ s.ops s.sorts.length (finZ s.ops z) → Low n0 h H' → n0 ≤ H'.length → (∀ k ∈ ws', n0 ≤ k) → Q (.exit 0) e' ⟨H', ws', ups⟩) : wpC T (.loop a142b2) e ⟨H, ws, ups⟩ Q := by
 have hO : ∀ o ∈ s.ops, 0 ≤ o.res ∧ o.res < (s.sorts.length : Int) := fun o ho => (hG.ops o ho).2.1
 refine wpC.loopM (fun d e' st => ∃ (H' : List AE.Obj) (ws' : List Nat) (z' : List Int) (c : Bool), RMem H' ko kz s z' ∧ z'.length = s.sorts.length ∧ okZ z' ∧ AttZ s.ops z' ∧ finZ s.ops z' = finZ s.ops z ∧ (c = true → d = potZ z' + 1) ∧ (c = false → (roundZ s.ops z' false).2 = false) ∧ Low n0 h H' ∧ n0 ≤ H'.length ∧ (∀ k ∈ ws', n0 ≤ k) ∧ Same (fun j => 4 ≤ j) e e' ∧ eget e' 4 = .bool c ∧ st = ⟨H', ws', ups⟩) ?_ (potZ z + 1) _ _ ⟨H, ws, z, true, L, hzl, hz, hA, rfl, fun _ => rfl, fun h => by simp at h, low, hnH, hw, Same.refl e, e4, rfl⟩
 clear L hzl hz low hnH hw hA
 rintro d e' st ⟨H, ws, z', c, L, hzl, hz, hA, hF, hc1, hc0, low, hnH, hw, hS, f4, rfl⟩
 have f1 := (hS 1 (by omega)).trans e1
 have f3 := (hS 3 (by omega)).trans e3
 cases c
 · have hstop := hc0 rfl
   have hz' : finZ s.ops z' = z' := finZ_stop hstop
   simp (disch := first | omega | decide | simp only [go_sem]) only [go_sem, a142b2, f4]
   exact hQ _ _ _ (hS.trans fun j hj => by simp (disch := omega) only [eget_eput_ne]) (by rw [← hF, hz']; exact L) (by rw [← hF, hz']; exact .of_stop hO hz hzl hA hstop) low hnH hw
 · have hd := hc1 rfl
   simp (disch := first | omega | decide | simp only [go_sem]) only [go_sem, a142b2, f4]
   refine rleast_b1 hG L hz hzl hn0 low hnH hw (by simp only [go_sem, f1]) (by simp only [go_sem, f3]) (by simp only [go_sem]) (by simp only [go_sem]) fun e3 H3 ws3 z3 c3 hS3 L3 hR g4 low3 hnH3 hw3 => ?_
   obtain ⟨a1, a2, a3, a4, a5⟩ := roundZ_ok s.ops z' false hz hzl hO
   have A3 := AttZ.round (os := s.ops) s.ops z' false (fun o ho => ⟨ho, hO o ho⟩) hzl hz hA
   have hF3 : finZ s.ops z3 = finZ s.ops z' := by
    cases c3
    · have := (a4 (by rw [hR])).1
      rw [hR] at this
      dsimp only at this
      rw [this]
    · have := finZ_step hO hz hzl (by rw [hR])
      rw [hR] at this
      exact this
   rw [hR] at a1 a2 a3 a4 A3
   dsimp only at a1 a2 a3 a4 A3
   have hS4 : Same (fun j => 4 ≤ j) e e3 := fun j hj => by
    refine (hS3 j hj).trans (Eq.trans ?_ (hS j hj))
    simp (disch := omega) only [eget_eput_ne]
   simp (disch := first | omega | decide | simp only [go_sem]) only [go_sem]
   cases c3
   · exact ⟨0, by omega, H3, ws3, z3, false, L3, a2, a1, A3, hF3.trans hF, fun h => by simp at h, fun _ => by rw [(a4 rfl).1, hR], low3, hnH3, hw3, hS4, g4, rfl⟩
   · have := a3 rfl rfl
     exact ⟨potZ z3 + 1, by omega, H3, ws3, z3, true, L3, a2, a1, A3, hF3.trans hF, fun _ => rfl, fun h => by simp at h, low3, hnH3, hw3, hS4, g4, rfl⟩
theorem tidy_row {h H : List AE.Obj} {k n : Nat} {z : List Int} {ws : List Nat} (hk : H[k]? = some (.row 1 (z.map encI))) (hz : z.length = n) (hkh : h.length ≤ k) (L : Low h.length h H) (hw : ∀ k ∈ ws, h.length ≤ k) : tidy 0 h.length (.val (.aref k 1 0 n n)) ⟨H, ws, []⟩ = (.val (.slice 1 (z.map encI) .any), ⟨h, [], []⟩) := by
 have hb : below h.length ws = [] := List.filter_eq_nil_iff.2 fun k hk => by have := hw k hk; simp; omega
 have hf : frz H h.length 64 (.aref k 1 0 n n) = some (.slice 1 (z.map encI) .any) := frz_row hk hz hkh
 have ht : H.take h.length = h := by rw [L.take]; simp
 unfold tidy
 rw [if_neg (by decide), if_neg (by simp)]
 simp only [OR.v, hf, hb, ht, OR.put]
 rfl
include hT in
theorem rleasts_ev (hG : GOk s) (h : List AE.Obj) : Ev T 142 [encSig s] h (.val (.slice 1 ((leastZ s).map encI) .any), ⟨h, [], []⟩) ∧ LeastZ s.ops s.sorts.length (leastZ s) := by
 have main : ∃ x : Unit, Ev T 142 [encSig s] h (.val (.slice 1 ((leastZ s).map encI) .any), ⟨h, [], []⟩) ∧ LeastZ s.ops s.sorts.length (leastZ s) := by
  refine Ev.walkP (r := fun _ : Unit => (.val (.slice 1 ((leastZ s).map encI) .any), ⟨h, [], []⟩)) (hT.sp _ (by decide)) ((hT.fn _).trans fn142) (hT.mode _) rfl ?_
  have hnS := hG.nS
  have mk := mk_ok (sz := 1) (bytes := 8) (n := s.sorts.length) (z := .int .i64 0) (by omega) (by omega) rfl
  have ez : List.replicate s.sorts.length (PV.int .i64 0) = (zeroZ s.sorts.length).map encI := by simp [zeroZ, encI]
  have k1 : (h ++ [AE.Obj.row 2 [encSig s]])[h.length]? = some (.row 2 [encSig s]) := by simp
  have low1 : Low h.length h (h ++ [AE.Obj.row 2 [encSig s]]) := (Low.refl _ _).push (Nat.le_refl _)
  have hl1 : (h ++ [AE.Obj.row 2 [encSig s]]).length = h.length + 1 := by simp
  generalize hH1 : h ++ [AE.Obj.row 2 [encSig s]] = H1 at *
  have ls : loadAt false 1 (.ptr h.length 0 0 1) H1 = some (.slice 1 (s.sorts.map .str) .any) := by rw [ld_at k1]; rfl
  have k2 : (H1 ++ [AE.Obj.row 1 (List.replicate s.sorts.length (.int .i64 0))])[H1.length]? = some (.row 1 ((zeroZ s.sorts.length).map encI)) := by rw [ez]; simp
  have L2 : RMem (H1 ++ [AE.Obj.row 1 (List.replicate s.sorts.length (.int .i64 0))]) h.length H1.length s (zeroZ s.sorts.length) := ⟨keepL k1, k2, by omega⟩
  have low2 : Low h.length h (H1 ++ [AE.Obj.row 1 (List.replicate s.sorts.length (.int .i64 0))]) := low1.push (by omega)
  have hn2 : h.length ≤ (H1 ++ [AE.Obj.row 1 (List.replicate s.sorts.length (.int .i64 0))]).length := by simp; omega
  generalize hH2 : H1 ++ [AE.Obj.row 1 (List.replicate s.sorts.length (.int .i64 0))] = H2 at *
  simp (disch := first | omega | decide | simp only [go_sem]) only [go_sem, hH1, ls, List.length_map, mk, hH2, List.length_cons, List.length_nil]
  refine rleast_b2 hG L2 (by simp [zeroZ]) (okZ_zero _) (AttZ_zero _ _) (n0 := h.length) (by omega) low2 hn2 (by simp) (by simp only [go_sem]) (by simp only [go_sem]) (by simp only [go_sem]) fun e' H' ws' hS L' LZ low' hn' hw' => ?_
  have g3 : eget e' 3 = .aref H1.length 1 0 s.sorts.length s.sorts.length := (hS 3 (by omega)).trans (by simp only [go_sem])
  have td := tidy_row (h := h) L'.rz LZ.len (by omega) low' hw'
  simp (disch := first | omega | decide | simp only [go_sem]) only [go_sem, g3, td]
  exact ⟨(), rfl, LZ⟩
 obtain ⟨_, h1, h2⟩ := main
 exact ⟨h1, h2⟩
end Go.Proofs.Tryz
/- The specification's least. -/
namespace Go.Proofs.Tryz
open Go Go.AE
variable {T : Tbl} (hT : Std T) {s : GSig} {z : List Int}
theorem nleast_b0 (hG : GOk s) (hz : okZ z) (hzl : z.length = s.sorts.length) {H : List AE.Obj} {ws : List Nat} {ups : List (Nat × Nat)} {ko : Nat} (ksg : H[ko]? = some (.row 2 [encSig s])) {i : Nat} {o : GOp} (ho : s.ops[i]? = some o) {e : List PV} {Q : AExit → List PV → St → Prop}
 (e1 : eget e 1 = .slice 1 (z.map encI) .any) (e4 : eget e 4 = .ptr ko 0 0 1) (e10 : eget e 10 = .int .i64 (i : Int)) (e11 : eget e 11 = .int .i64 1) (e12 : eget e 12 = .bool true) (e13 : eget e 13 = .int .i64 0)
 (hQ : ∀ e', Same (fun j => (11 ≤ j ∧ j ≤ 14) ∨ 37 ≤ j) e e' → eget e' 11 = .int .i64 (sumZ z o.args 1) → eget e' 12 = .bool (wholeZ z o.args) → Q (.exit 2) e' ⟨H, ws, ups⟩) : wpC T (.loop a143b0) e ⟨H, ws, ups⟩ Q := by
 have lo : loadAt false 1 (.ptr ko 0 1 1) H = some (.slice 3 (s.ops.map encOp) .any) := by rw [ld_at ksg]; rfl
 obtain ⟨oa, _, ol⟩ := hG.ops o (List.mem_of_getElem? ho)
 rw [← hzl] at oa
 have go : (s.ops.map encOp)[i]? = some (encOp o) := by rw [List.getElem?_map, ho]; rfl
 have la : loadAt false 1 (.iptr (encOp o) 1) H = some (.slice 1 (o.args.map encI) .any) := rfl
 refine wpC.loopM (fun d e' st => ∃ (k : Nat) (n : Int) (w : Bool), k + d = o.args.length ∧ (0 ≤ n ∧ n ≤ 1 + 2001 * k) ∧ sumZ z (o.args.drop k) n = sumZ z o.args 1 ∧ (w && wholeZ z (o.args.drop k)) = wholeZ z o.args ∧ Same (fun j => (11 ≤ j ∧ j ≤ 14) ∨ 37 ≤ j) e e' ∧ (eget e' 11 = .int .i64 n ∧ eget e' 12 = .bool w ∧ eget e' 13 = .int .i64 (k : Int)) ∧ st = ⟨H, ws, ups⟩) ?_ o.args.length _ _ ⟨0, 1, true, by omega, by omega, by rw [List.drop_zero], by rw [List.drop_zero, Bool.true_and], Same.refl e, ⟨e11, e12, e13⟩, rfl⟩
 rintro d e' st ⟨k, n, w, hd, hn, hc, hw, hS, ⟨f11, f12, f13⟩, rfl⟩
 have f1 := (hS 1 (by omega)).trans e1
 have f4 := (hS 4 (by omega)).trans e4
 have f10 := (hS 10 (by omega)).trans e10
 by_cases hk : k < o.args.length
 · have hk1 : (k : Int) < (o.args.length : Int) := by omega
   obtain ⟨g1, g2⟩ := oa.get hk
   have hdr : o.args.drop k = ((o.args.getD k 0).toNat : Int) :: o.args.drop (k + 1) := by
    rw [List.drop_eq_getElem_cons hk]
    rw [List.getElem?_eq_getElem hk] at g1
    rw [Option.some.inj g1]
   generalize ha : (o.args.getD k 0).toNat = a at *
   have g3 : (o.args.map encI)[k]? = some (.int .i64 (a : Int)) := by rw [List.getElem?_map, g1]; rfl
   have gz : (z.map encI)[a]? = some (.int .i64 (z.getD a 0)) := by
    rw [List.getElem?_map, List.getElem?_eq_getElem g2, List.getD_eq_getElem?_getD, List.getElem?_eq_getElem g2]; rfl
   have z1 := hz.at (a : Int)
   have z2 : zAt z (a : Int) = z.getD a 0 := by simp [zAt]
   rw [z2] at z1
   rw [hdr] at hc hw
   simp only [sumZ, z2] at hc
   have hw2 : ((w && decide (0 < z.getD a 0)) && wholeZ z (o.args.drop (k + 1))) = wholeZ z o.args := by
    rw [← hw, Bool.and_assoc]
    simp only [wholeZ, List.all_cons, z2]
   have li : loadAt false 1 (.iptr (.int .i64 (z.getD a 0)) 0) H = some (.int .i64 (z.getD a 0)) := rfl
   cases w
   · simp (disch := first | omega | decide | simp only [go_sem]) only [go_sem, a143b0, f1, f4, f10, f11, f12, f13, lo, go, la, hk1, g3, gz, li, List.length_map]
     exact ⟨d - 1, by omega, k + 1, n + z.getD a 0, false, by omega, by omega, hc, by rw [← hw2]; rfl, hS.trans fun j hj => by simp (disch := omega) only [eget_eput_ne], ⟨rfl, rfl, rfl⟩, trivial⟩
   · simp (disch := first | omega | decide | simp only [go_sem]) only [go_sem, a143b0, f1, f4, f10, f11, f12, f13, lo, go, la, hk1, g3, gz, li, List.length_map]
     exact ⟨d - 1, by omega, k + 1, n + z.getD a 0, decide (0 < z.getD a 0), by omega, by omega, hc, by rw [← hw2]; rfl, hS.trans fun j hj => by simp (disch := omega) only [eget_eput_ne], ⟨rfl, rfl, rfl⟩, trivial⟩
 · have hk1 : ¬ (k : Int) < (o.args.length : Int) := by omega
   rw [List.drop_eq_nil_of_le (by omega)] at hc hw
   have hw : w = wholeZ z o.args := by rw [← hw]; simp [wholeZ]
   have hc : n = sumZ z o.args 1 := hc
   simp (disch := first | omega | decide | simp only [go_sem]) only [go_sem, a143b0, f1, f4, f10, f11, f12, f13, lo, go, la, hk1, List.length_map]
   exact hQ _ (hS.trans fun j hj => by simp (disch := omega) only [eget_eput_ne]) (by simp only [go_sem, f11, hc]) (by simp only [go_sem, f12, hw])
def LeastR (t : Tm) (deep : Int) (x : PV × Bool) : Prop := ((t.deep : Int) ≤ deep → x.2 = true ∧ Enc t x.1 ∧ IsT x.1) ∧ (¬ (t.deep : Int) ≤ deep → x.2 = false ∧ x.1 = zTerm)
theorem enc_zTerm : Enc (.mk 0 0 []) zTerm := .mk 0 0 [] 0 [] (.inl rfl) rfl fun i x p h => by simp at h
theorem LeastR.enc {t : Tm} {deep : Int} {x : PV × Bool} (h : LeastR t deep x) : ∃ t', Enc t' x.1 := by
 by_cases hd : (t.deep : Int) ≤ deep
 · exact ⟨_, (h.1 hd).2.1⟩
 · rw [(h.2 hd).2]; exact ⟨_, enc_zTerm⟩
theorem deepL_mem {l : List Tm} {i : Nat} {t : Tm} (h : l[i]? = some t) : t.deep ≤ deepL l := by
 have h1 := deepL_take h
 have h2 := deepL_le l (i + 1)
 omega
theorem AppL.push {H : List AE.Obj} {v : PV} {es : List PV} {lo : Nat} {o : AE.Obj} (A : AppL H v es lo) : AppL (H ++ [o]) v es lo := by
 rcases A with h | ⟨kt, h1, h2, h3⟩
 · exact .inl h
 · exact .inr ⟨kt, h1, keepL h2, h3⟩
theorem append_W {H : List AE.Obj} {v p : PV} {es : List PV} {lo : Nat} (A : AppL H v es lo) (hp : IsT p) (hl : es.length < 100000) (hlo : lo ≤ H.length) :
 ∃ (H' : List AE.Obj) (fw : List Nat → List Nat) (kt : Nat), (∀ ws ups, appendop 3 40 v (.slice 3 [p] .lit) ⟨H, ws, ups⟩ = some (.slice 3 (es ++ [p]) (.tok kt), ⟨H', fw ws, ups⟩)) ∧ AppL H' (.slice 3 (es ++ [p]) (.tok kt)) (es ++ [p]) lo ∧ (∀ (j sz : Nat) (r : List PV), H[j]? = some (.row sz r) → H'[j]? = some (.row sz r)) ∧ Low lo H H' ∧ ∀ ws, (∀ x ∈ ws, lo ≤ x) → ∀ x ∈ fw ws, lo ≤ x := by
 obtain ⟨c1, c2, c3, c4⟩ := hp.cells
 have hroom : (es.length + 1) * 40 ≤ room ∧ es.length + 1 ≤ room := by
  have : 10000000 ≤ room := by decide
  constructor <;> omega
 rcases A with ⟨rfl, rfl⟩ | ⟨kt, rfl, h2, h3⟩
 · simp at hroom
   refine ⟨H ++ [.tok 3 1], fun ws => ws, H.length, fun ws ups => ?_, .inr ⟨H.length, rfl, by simp, hlo⟩, fun j sz r hj => keepL hj, (Low.refl _ _).push hlo, fun ws hx => hx⟩
   simp [appendop, elems, c2, hroom, alloc]
 · refine ⟨H.set kt (.tok 3 (es.length + 1)), wadd kt, kt, fun ws ups => ?_, .inr ⟨kt, rfl, by rw [get_set h2]; simp, h3⟩, fun j sz r hj => get_set_ne hj ?_, .set h3, fun ws hx => wadd_low h3 hx⟩
   · simp [appendop, elems, c2, hroom, h2, wrote_none]
   · rintro rfl
     rw [h2] at hj
     cases hj
theorem wrote_ups {k : Nat} {o : AE.Obj} {up : Option Nat} {H : List AE.Obj} {ups : List (Nat × Nat)} : ∃ ups', (∀ ws, wrote k o up ⟨H, ws, ups⟩ = ⟨H.set k o, wadd k ws, ups'⟩) ∧ ∀ x ∈ ups', x ∈ ups ∨ x.1 = k := by
 cases up with
 | none => exact ⟨ups, fun ws => by rw [wrote_none], fun x hx => .inl hx⟩
 | some j =>
   refine ⟨_, fun ws => by rw [wrote_some], fun x hx => ?_⟩
   split at hx
   · rcases List.mem_cons.1 hx with rfl | h
     · exact .inr rfl
     · exact .inl h
   · exact .inl hx
theorem st_f2W {H : List AE.Obj} {ups : List (Nat × Nat)} {kx kt : Nat} {a b v : PV} {es : List PV} (hk : H[kx]? = some (.row 3 [.agg [a, b, v]])) :
 ∃ ups', (∀ ws, storeAt 1 (.ptr kx 0 2 1) (.slice 3 es (.tok kt)) ⟨H, ws, ups⟩ = some ⟨H.set kx (.row 3 [.agg [a, b, .slice 3 es (.tok kt)]]), wadd kx ws, ups'⟩) ∧ ∀ x ∈ ups', x ∈ ups ∨ x.1 = kx := by
 have hu : upd (.agg [a, b, v]) 2 (.slice 3 es (.tok kt)) = some (.agg [a, b, .slice 3 es (.tok kt)]) := rfl
 obtain ⟨u, h1, h2⟩ := wrote_ups (k := kx) (o := .row 3 [.agg [a, b, .slice 3 es (.tok kt)]]) (up := (PV.slice 3 es (.tok kt)).top) (H := H) (ups := ups)
 refine ⟨u, fun ws => ?_, h2⟩
 rw [← h1 ws]
 simp only [storeAt, hk, List.length_cons, List.length_nil, PV.cells, List.all_cons, List.all_nil, PV.isCell, Bool.and_self, and_self, if_true, List.getElem?_cons_zero, hu, Option.map, List.set_cons_zero]
theorem st_k3W {H : List AE.Obj} {ups : List (Nat × Nat)} {k sz : Nat} {a b c : PV} {x y : Int} {es : List PV} {m : SM} (hk : H[k]? = some (.row 3 [.agg [a, b, c]])) :
 ∃ ups', (∀ ws, storeAt 3 (.ptr k 0 0 1) (.agg [.int .i64 x, .int .i64 y, .slice sz es m]) ⟨H, ws, ups⟩ = some ⟨H.set k (.row 3 [.agg [.int .i64 x, .int .i64 y, .slice sz es m]]), wadd k ws, ups'⟩) ∧ ∀ x ∈ ups', x ∈ ups ∨ x.1 = k := by
 have hu : upd (.agg [a, b, c]) 0 (.agg [.int .i64 x, .int .i64 y, .slice sz es m]) = some (.agg [.int .i64 x, .int .i64 y, .slice sz es m]) := rfl
 obtain ⟨u, h1, h2⟩ := wrote_ups (k := k) (o := .row 3 [.agg [.int .i64 x, .int .i64 y, .slice sz es m]]) (up := (PV.agg [.int .i64 x, .int .i64 y, .slice sz es m]).top) (H := H) (ups := ups)
 refine ⟨u, fun ws => ?_, h2⟩
 rw [← h1 ws]
 simp only [storeAt, hk, List.length_cons, List.length_nil, PV.cells, List.all_cons, List.all_nil, PV.isCell, Bool.and_self, and_self, if_true, List.getElem?_cons_zero, hu, Option.map, List.set_cons_zero]
def RLeastIH (T : Tbl) (s : GSig) (z : List Int) (d : Nat) : Prop := ∀ k : Nat, 0 < z.getD k 0 → z.getD k 0 ≤ 2000 → z.getD k 0 ≤ d → k < z.length → ∀ (deep : Int) (H : List AE.Obj), 0 ≤ deep ∧ deep ≤ 200 → ∃ x : PV × Bool, Ev T 143 [encSig s, .slice 1 (z.map encI) .any, .int .i64 (k : Int), .int .i64 deep] H (.val (.tuple [x.1, .bool x.2]), ⟨H, [], []⟩) ∧ LeastR (buildT s.ops z d k) deep x
include hT in
theorem nleast_b1 {d : Nat} (IH : RLeastIH T s z d) {k i : Nat} {o : GOp} (ho : s.ops[i]? = some o) (oa : okArgs o.args z.length) (ol : o.args.length < 900) (hz2 : z.getD k 0 ≤ 2000) (hzd : z.getD k 0 ≤ d + 1) (e6 : ∀ a ∈ o.args, 0 < zAt z a ∧ zAt z a < z.getD k 0) {deep : Int} (hdp : 1 ≤ deep ∧ deep ≤ 200)
 {h H0 : List AE.Obj} {ws0 : List Nat} {ko k8 kx : Nat} {e0 : List PV} {Q : AExit → List PV → St → Prop} (hkx : kx ≠ ko ∧ kx ≠ k8) (hkl : h.length ≤ ko ∧ h.length ≤ k8 ∧ h.length ≤ kx) (ksg : H0[ko]? = some (.row 2 [encSig s])) (kr : H0[k8]? = some (.row 3 [.agg [.int .i64 0, .int .i64 0, .slice 0 [] .nil]])) (kx0 : H0[kx]? = some (.row 3 [.agg [.int .i64 2, .int .i64 (i : Int), .slice 0 [] .nil]])) (low0 : Low h.length h H0) (hn0 : h.length ≤ H0.length) (hw0 : ∀ x ∈ ws0, h.length ≤ x)
 (f1 : eget e0 1 = .slice 1 (z.map encI) .any) (f3 : eget e0 3 = .int .i64 deep) (f4 : eget e0 4 = .ptr ko 0 0 1) (f8 : eget e0 8 = .ptr k8 0 0 1) (f10 : eget e0 10 = .int .i64 (i : Int)) (f15 : eget e0 15 = .ptr kx 0 0 1) (f16 : eget e0 16 = .int .i64 0)
 (q1 : ¬ (1 + deepL (o.args.map fun a => buildT s.ops z d a.toNat) : Int) ≤ deep → ∀ e' H' ws' ups', eget e' 8 = .ptr k8 0 0 1 → eget e' 9 = .bool false → loadAt true 3 (.ptr k8 0 0 1) H' = some (.agg [.int .i64 0, .int .i64 0, .slice 0 [] .nil]) → Low h.length h H' → (∀ x ∈ ws', h.length ≤ x) → (∀ x ∈ ups', h.length ≤ x.1) → Q .ret e' ⟨H', ws', ups'⟩)
 (q2 : (1 + deepL (o.args.map fun a => buildT s.ops z d a.toNat) : Int) ≤ deep → ∀ e' H' ws' ups' (v : PV) (es : List PV), eget e' 8 = .ptr k8 0 0 1 → eget e' 15 = .ptr kx 0 0 1 → es.length = o.args.length → (∀ x, x ∈ es → IsT x) → (∀ (a : Nat) (x : Tm) (p : PV), (o.args.map fun a => buildT s.ops z d a.toNat)[a]? = some x → es[a]? = some p → Enc x p) → (∃ sz m, v = .slice sz es m ∧ (es = [] ∨ sz = 3)) → H'[kx]? = some (.row 3 [.agg [.int .i64 2, .int .i64 (i : Int), v]]) → H'[k8]? = some (.row 3 [.agg [.int .i64 0, .int .i64 0, .slice 0 [] .nil]]) → Low h.length h H' → (∀ x ∈ ws', h.length ≤ x) → (∀ x ∈ ups', h.length ≤ x.1) → Q (.exit 4) e' ⟨H', ws', ups'⟩) :
 wpC T (.loop a143b1) e0 ⟨H0, ws0, []⟩ Q := by
 have go : (s.ops.map encOp)[i]? = some (encOp o) := by rw [List.getElem?_map, ho]; rfl
 have la : ∀ H, loadAt false 1 (.iptr (encOp o) 1) H = some (.slice 1 (o.args.map encI) .any) := fun _ => rfl
 refine wpC.loopM (fun g e st => ∃ (j : Nat) (v : PV) (es : List PV) (Hx : List AE.Obj) (ws : List Nat) (ups : List (Nat × Nat)), j + g = o.args.length ∧ es.length = j ∧ (∀ x, x ∈ es → IsT x) ∧ (∀ (a : Nat) (x : Tm) (p : PV), ((o.args.take j).map fun a => buildT s.ops z d a.toNat)[a]? = some x → es[a]? = some p → Enc x p) ∧ (1 + deepL ((o.args.take j).map fun a => buildT s.ops z d a.toNat) : Int) ≤ deep ∧ AppL Hx v es h.length ∧ Hx[kx]? = some (.row 3 [.agg [.int .i64 2, .int .i64 (i : Int), v]]) ∧ Hx[ko]? = some (.row 2 [encSig s]) ∧ Hx[k8]? = some (.row 3 [.agg [.int .i64 0, .int .i64 0, .slice 0 [] .nil]]) ∧ Low h.length h Hx ∧ h.length ≤ Hx.length ∧ (∀ x ∈ ws, h.length ≤ x) ∧ (∀ x ∈ ups, h.length ≤ x.1) ∧
  (eget e 1 = .slice 1 (z.map encI) .any ∧ eget e 3 = .int .i64 deep ∧ eget e 4 = .ptr ko 0 0 1 ∧ eget e 8 = .ptr k8 0 0 1 ∧ eget e 10 = .int .i64 (i : Int) ∧ eget e 15 = .ptr kx 0 0 1 ∧ eget e 16 = .int .i64 (j : Int)) ∧ st = ⟨Hx, ws, ups⟩) ?_ o.args.length _ _
  ⟨0, .slice 0 [] .nil, [], H0, _, [], by omega, rfl, by simp, by simp, by simp [deepL]; omega, .inl ⟨rfl, rfl⟩, kx0, ksg, kr, low0, hn0, hw0, by simp, ⟨f1, f3, f4, f8, f10, f15, f16⟩, rfl⟩
 clear kx0 ksg kr low0 hn0 hw0 f1 f3 f4 f8 f10 f15 f16
 rintro g e st ⟨j, v, es, Hx, ws, ups, hg, hel, hes, hen, hdj, A, kxx, ksg, kr, low, hlo, hw, hu, ⟨f1, f3, f4, f8, f10, f15, f16⟩, rfl⟩
 have lo : loadAt false 1 (.ptr ko 0 1 1) Hx = some (.slice 3 (s.ops.map encOp) .any) := by rw [ld_at ksg]; rfl
 by_cases hj : j < o.args.length
 · have hj1 : (j : Int) < (o.args.length : Int) := by omega
   obtain ⟨g1, g2⟩ := oa.get hj
   have ham : ((o.args.getD j 0).toNat : Int) ∈ o.args := List.mem_of_getElem? g1
   obtain ⟨z1, z2⟩ := e6 _ ham
   have htk : (o.args.take (j + 1)).map (fun a => buildT s.ops z d a.toNat) = ((o.args.take j).map fun a => buildT s.ops z d a.toNat) ++ [buildT s.ops z d (o.args.getD j 0).toNat] := by
    rw [List.take_add_one, g1, List.map_append]; rfl
   have hgx : (o.args.map fun a => buildT s.ops z d a.toNat)[j]? = some (buildT s.ops z d (o.args.getD j 0).toNat) := by
    rw [List.getElem?_map, g1]; rfl
   have hdm := deepL_mem hgx
   have hdt := deepL_take hgx
   rw [← List.map_take, ← List.map_take] at hdt
   generalize ha : (o.args.getD j 0).toNat = a at *
   have g3 : (o.args.map encI)[j]? = some (.int .i64 (a : Int)) := by rw [List.getElem?_map, g1]; rfl
   simp only [zAt, Int.toNat_natCast] at z1 z2
   have b1 : ∀ o, (Hx ++ [o])[ko]? = some (.row 2 [encSig s]) := fun o => keepL ksg
   obtain ⟨⟨p, ok⟩, hp, hR⟩ := IH a z1 (by omega) (by omega) g2 (deep - 1) (Hx ++ [AE.Obj.row 3 [.agg [.int .i64 0, .int .i64 0, .slice 0 [] .nil]]]) (by omega)
   dsimp only at hp
   obtain ⟨t', ht'⟩ := hR.enc
   dsimp only at ht'
   obtain ⟨c1, c2, c3, c4⟩ := ht'.cells
   have sb := fun ws ups => st_box (h := Hx) (ws := ws) (ups := ups) (z := .agg [(.int .i64 0), (.int .i64 0), (.slice 0 [] .nil)]) (sz := 3) (c := p) c1 rfl c2 ht'.facts.1 ⟨_, rfl⟩ c4
   have lsg : loadAt true 2 (.ptr ko 0 0 1) (Hx ++ [AE.Obj.row 3 [.agg [.int .i64 0, .int .i64 0, .slice 0 [] .nil]]]) = some (encSig s) := by rw [ld_at (b1 _)]; rfl
   have lo2 : loadAt false 1 (.ptr ko 0 1 1) (Hx ++ [AE.Obj.row 3 [.agg [.int .i64 0, .int .i64 0, .slice 0 [] .nil]]]) = some (.slice 3 (s.ops.map encOp) .any) := by rw [ld_at (b1 _)]; rfl
   have kq : (Hx ++ [AE.Obj.row 3 [p]])[Hx.length]? = some (.row 3 [p]) := by simp
   have kx2 : (Hx ++ [AE.Obj.row 3 [p]])[kx]? = some (.row 3 [.agg [.int .i64 2, .int .i64 (i : Int), v]]) := keepL kxx
   have kr2 : (Hx ++ [AE.Obj.row 3 [p]])[k8]? = some (.row 3 [.agg [.int .i64 0, .int .i64 0, .slice 0 [] .nil]]) := keepL kr
   have ko2 : (Hx ++ [AE.Obj.row 3 [p]])[ko]? = some (.row 2 [encSig s]) := keepL ksg
   have low2 : Low h.length h (Hx ++ [AE.Obj.row 3 [p]]) := low.push hlo
   have hlo2 : h.length ≤ (Hx ++ [AE.Obj.row 3 [p]]).length := by simp; omega
   have A2 := A.push (o := .row 3 [p])
   generalize hH2 : Hx ++ [AE.Obj.row 3 [p]] = H2 at *
   generalize hkq : Hx.length = kk at *
   have hww : ∀ ws' : List Nat, (∀ x ∈ ws', x ∈ ws ∨ x = kk) → ∀ x ∈ ws', h.length ≤ x := fun ws' hh x hx => by
    rcases hh x hx with h | h
    · exact hw x h
    · omega
   have fc : fillC [PV.int .i64 0, .int .i64 0, .slice 0 [] .nil] [] = some [.int .i64 0, .int .i64 0, .slice 0 [] .nil] := rfl
   by_cases hda : ((buildT s.ops z d a).deep : Int) ≤ deep - 1
   · obtain ⟨r1, r2, tp⟩ := hR.1 hda
     dsimp only at r1 r2 tp
     subst r1
     have l17 : loadAt true 3 (.ptr kk 0 0 1) H2 = some p := by rw [ld_at kq]; exact r2.sub
     have lv : loadAt false 1 (.ptr kx 0 2 1) H2 = some v := by rw [ld_at kx2]; rfl
     have fe : fillE 3 (List.replicate 1 (.agg [(.int .i64 0), (.int .i64 0), (.slice 0 [] .nil)])) [(0, p)] = some [p] := by simp [fillE, c1, c3]
     obtain ⟨H', fw, kt, ap, A', keep', low', hfw⟩ := append_W A2 tp (by omega) hlo2
     have kx3 := keep' _ _ _ kx2
     obtain ⟨u3, sv, hu3⟩ := st_f2W (ups := ups) (kt := kt) (es := es ++ [p]) kx3
     simp (disch := first | omega | decide | simp only [go_sem]) only [go_sem, a143b1, f1, f3, f4, f8, f10, f15, f16, lo, go, la, hj1, g3, List.length_map, List.length_cons, List.length_nil, lsg, lo2, cb hp, hT.prim, primOf, sb, hH2, hkq, l17, lv, fe, ap, sv]
     refine ⟨g - 1, by omega, j + 1, _, es ++ [p], _, _, _, by omega, by simp [hel], fun x hx => ?_, ?_, ?_, A'.set kx3, get_set kx3, get_set_ne (keep' _ _ _ ko2) hkx.1, get_set_ne (keep' _ _ _ kr2) hkx.2, (low2.trans low').trans (.set hkl.2.2), ?_, fun x hx => ?_, fun x hx => ?_, rfl, rfl⟩
     · rcases List.mem_append.1 hx with h | h
       · exact hes x h
       · rw [List.mem_singleton.1 h]; exact tp
     · rw [htk]
       exact enc_snoc (by simp [hel]; omega) hen r2
     · rw [hdt]; omega
     · have := low'.len; simp; omega
     · rcases mem_wadd hx with h | h
       · omega
       · exact hfw _ (hww _ fun x hx => by repeat' first | exact .inl hx | exact .inr hx | (cases hx; done) | (rcases mem_wall hx with hx | hx) | (rcases mem_wadd hx with hx | hx)) x h
     · rcases hu3 x hx with h | h
       · exact hu x h
       · omega
   · obtain ⟨r1, r2⟩ := hR.2 hda
     dsimp only at r1 r2
     subst r1
     obtain ⟨u3, sv, hu3⟩ := st_k3W (ups := ups) (x := 0) (y := 0) (sz := 0) (es := []) (m := .nil) kr2
     simp (disch := first | omega | decide | simp only [go_sem]) only [go_sem, a143b1, f1, f3, f4, f8, f10, f15, f16, lo, go, la, hj1, g3, List.length_map, List.length_cons, List.length_nil, lsg, lo2, cb hp, hT.prim, primOf, sb, hH2, hkq, fc, sv]
     refine q1 (by omega) _ _ _ _ (by simp only [go_sem, f8]) (by simp only [go_sem]) (by rw [ld_at (get_set kr2)]; rfl) (low2.trans (.set hkl.2.1)) (fun x hx => ?_) fun x hx => ?_
     · rcases mem_wadd hx with h | h
       · omega
       · exact hww _ (fun x hx => by repeat' first | exact .inl hx | exact .inr hx | (cases hx; done) | (rcases mem_wall hx with hx | hx) | (rcases mem_wadd hx with hx | hx)) x h
     · rcases hu3 x hx with h | h
       · exact hu x h
       · omega
 · have hj1 : ¬ (j : Int) < (o.args.length : Int) := by omega
   have hjl : j = o.args.length := by omega
   rw [hjl, List.take_length] at hen hdj
   simp (disch := first | omega | decide | simp only [go_sem]) only [go_sem, a143b1, f4, f10, f16, lo, go, la, hj1, List.length_map]
   exact q2 hdj _ _ _ _ v es (by simp only [go_sem, f8]) (by simp only [go_sem, f15]) (by omega) hes hen A.slice kxx kr low hw hu
end Go.Proofs.Tryz
/- The specification's least, and Least. -/
namespace Go.Proofs.Tryz
open Go Go.AE
variable {T : Tbl} (hT : Std T) {s : GSig} {z : List Int}
include hT in
theorem rleast_ev (hG : GOk s) (hL : LeastZ s.ops s.sorts.length z) : ∀ d : Nat, RLeastIH T s z d
 | 0 => fun k h1 _ h3 => by omega
 | d + 1 => by
   intro k h1 h2 h3 hk deep h hdp
   have IH := rleast_ev hG hL d
   obtain ⟨i0, o0, g1, g2, g3, g4, g5, g6⟩ := good_ex hL h1 h2
   rw [buildT_eq g1 g2]
   obtain ⟨hi0, hgood, hnot⟩ := List.findIdx?_eq_some_iff_getElem.1 g1
   have hdT : (Tm.mk 2 (i0 : Int) (o0.args.map fun a => buildT s.ops z d a.toNat)).deep = 1 + deepL (o0.args.map fun a => buildT s.ops z d a.toNat) := by simp only [Tm.deep]
   refine Ev.walkP (r := fun x : PV × Bool => (.val (.tuple [x.1, .bool x.2]), ⟨h, [], []⟩)) (hT.sp _ (by decide)) ((hT.fn _).trans fn143) (hT.mode _) rfl ?_
   have hzl := hL.len
   have hnO := hG.nO
   have td : ∀ (H' : List AE.Obj) (ws' : List Nat) (ups' : List (Nat × Nat)), Low h.length h H' → (∀ k ∈ ws', h.length ≤ k) → (∀ x ∈ ups', h.length ≤ x.1) → tidy 0 h.length (.val (.tuple [.agg [.int .i64 0, .int .i64 0, .slice 0 [] .nil], .bool false])) ⟨H', ws', ups'⟩ = (.val (.tuple [zTerm, .bool false]), ⟨h, [], []⟩) := fun H' ws' ups' low hw hu => tidy_ups rfl low hw hu
   have ko1 : (h ++ [AE.Obj.row 2 [encSig s]])[h.length]? = some (.row 2 [encSig s]) := by simp
   have low1 : Low h.length h (h ++ [AE.Obj.row 2 [encSig s]]) := (Low.refl _ _).push (Nat.le_refl _)
   have hl1 : (h ++ [AE.Obj.row 2 [encSig s]]).length = h.length + 1 := by simp
   generalize hH1 : h ++ [AE.Obj.row 2 [encSig s]] = H1 at *
   have ko2 : (H1 ++ [AE.Obj.row 3 [.agg [.int .i64 0, .int .i64 0, .slice 0 [] .nil]]])[h.length]? = some (.row 2 [encSig s]) := keepL ko1
   have k82 : (H1 ++ [AE.Obj.row 3 [.agg [.int .i64 0, .int .i64 0, .slice 0 [] .nil]]])[H1.length]? = some (.row 3 [.agg [.int .i64 0, .int .i64 0, .slice 0 [] .nil]]) := by simp
   have low2 : Low h.length h (H1 ++ [AE.Obj.row 3 [.agg [.int .i64 0, .int .i64 0, .slice 0 [] .nil]]]) := low1.push (by omega)
   have hl2 : (H1 ++ [AE.Obj.row 3 [.agg [.int .i64 0, .int .i64 0, .slice 0 [] .nil]]]).length = h.length + 2 := by simp; omega
   generalize hH2 : H1 ++ [AE.Obj.row 3 [.agg [.int .i64 0, .int .i64 0, .slice 0 [] .nil]]] = H2 at *
   generalize hk8 : H1.length = k8 at *
   have fc : fillC [PV.int .i64 0, .int .i64 0, .slice 0 [] .nil] [] = some [.int .i64 0, .int .i64 0, .slice 0 [] .nil] := rfl
   have lo2 : loadAt false 1 (.ptr h.length 0 1 1) H2 = some (.slice 3 (s.ops.map encOp) .any) := by rw [ld_at ko2]; rfl
   have gz : (z.map encI)[k]? = some (.int .i64 (z.getD k 0)) := by
    rw [List.getElem?_map, List.getElem?_eq_getElem hk, List.getD_eq_getElem?_getD, List.getElem?_eq_getElem hk]; rfl
   by_cases hd1 : deep < 1
   · obtain ⟨u2, sv, hu2⟩ := st_k3W (ups := []) (x := 0) (y := 0) (sz := 0) (es := []) (m := .nil) k82
     have l8 : loadAt true 3 (.ptr k8 0 0 1) (H2.set k8 (.row 3 [.agg [.int .i64 0, .int .i64 0, .slice 0 [] .nil]])) = some (.agg [.int .i64 0, .int .i64 0, .slice 0 [] .nil]) := by rw [ld_at (get_set k82)]; rfl
     simp (disch := first | omega | decide | simp only [go_sem]) only [go_sem, hH1, hk8, hH2, List.length_cons, List.length_nil, hd1, fc, sv, resv, l8]
     refine ⟨(zTerm, false), td _ _ _ (low2.trans (.set (by omega))) (wadd_low (by omega) (by simp)) (fun x hx => ?_), fun h => ?_, fun _ => ⟨rfl, rfl⟩⟩
     · rcases hu2 x hx with h | h
       · cases h
       · omega
     · rw [hdT] at h; omega
   · have li : ∀ (n : Int) H, loadAt false 1 (.iptr (.int .i64 n) 0) H = some (.int .i64 n) := fun _ _ => rfl
     have lr : ∀ (o : GOp) H, loadAt false 1 (.iptr (encOp o) 2) H = some (.int .i64 o.res) := fun _ _ => rfl
     simp (disch := first | omega | decide | simp only [go_sem]) only [go_sem, hH1, hk8, hH2, List.length_cons, List.length_nil, hd1]
     refine wpC.loopM (fun g e st => ∃ i : Nat, i + g = i0 ∧ (eget e 1 = .slice 1 (z.map encI) .any ∧ eget e 2 = .int .i64 (k : Int) ∧ eget e 3 = .int .i64 deep ∧ eget e 4 = .ptr h.length 0 0 1 ∧ eget e 8 = .ptr k8 0 0 1 ∧ eget e 10 = .int .i64 (i : Int)) ∧ st = ⟨H2, [], []⟩) ?_ i0 _ _ ⟨0, by omega, by simp only [go_sem, Int.natCast_zero, and_self], rfl⟩
     rintro g e st ⟨i, hg, ⟨f1, f2, f3, f4, f8, f10⟩, rfl⟩
     have hi : i < s.ops.length := by omega
     have hi1 : (i : Int) < (s.ops.length : Int) := by omega
     have ga := get_op hi
     have gi : s.ops[i]? = some s.ops[i] := List.getElem?_eq_getElem hi
     have hng : i < i0 → goodZ z k s.ops[i] = false := fun h => by simpa using hnot i h
     have hgd : i = i0 → s.ops[i] = o0 := fun h => by
      subst h
      rw [gi] at g2
      exact Option.some.inj g2
     generalize s.ops[i] = o at *
     by_cases hres : o.res = (k : Int)
     · have hr' : (o.res != (k : Int)) = false := by simpa using hres
       simp (disch := first | omega | decide | simp only [go_sem]) only [go_sem, a143b2, f1, f2, f4, f8, f10, lo2, List.length_map, hi1, ga, lr, hr']
       refine nleast_b0 hG hL.ok hzl ko2 gi (by simp only [go_sem, f1]) (by simp only [go_sem, f4]) (by simp only [go_sem, f10]) (by simp only [go_sem]) (by simp only [go_sem]) (by simp only [go_sem]) fun e2 hS2 q11 q12 => ?_
       have q1 : eget e2 1 = .slice 1 (z.map encI) .any := (hS2 1 (by omega)).trans (by simp only [go_sem, f1])
       have q2 : eget e2 2 = .int .i64 (k : Int) := (hS2 2 (by omega)).trans (by simp only [go_sem, f2])
       have q3 : eget e2 3 = .int .i64 deep := (hS2 3 (by omega)).trans (by simp only [go_sem, f3])
       have q4 : eget e2 4 = .ptr h.length 0 0 1 := (hS2 4 (by omega)).trans (by simp only [go_sem, f4])
       have q8 : eget e2 8 = .ptr k8 0 0 1 := (hS2 8 (by omega)).trans (by simp only [go_sem, f8])
       have q10 : eget e2 10 = .int .i64 (i : Int) := (hS2 10 (by omega)).trans (by simp only [go_sem, f10])
       clear hS2
       by_cases hwh : wholeZ z o.args = true
       · rw [hwh] at q12
         by_cases hsm : sumZ z o.args 1 = z.getD k 0
         · have hsm' : (sumZ z o.args 1 != z.getD k 0) = false := by simpa using hsm
           have hii : i = i0 := by
            rcases Nat.lt_or_ge i i0 with h | h
            · have := hng h
              simp [goodZ, hres, hwh, opZ, hsm] at this
            · omega
           have := hgd hii
           subst this hii
           have fb : fillC [PV.int .i64 0, .int .i64 0, .slice 0 [] .nil] [(0, 1, .int .i64 2), (1, 1, .int .i64 (i : Int))] = some [.int .i64 2, .int .i64 (i : Int), .slice 0 [] .nil] := rfl
           have sb := fun ws => st_box (h := H2) (ws := ws) (ups := []) (z := .agg [(.int .i64 0), (.int .i64 0), (.slice 0 [] .nil)]) (sz := 3) (c := .agg [.int .i64 2, .int .i64 (i : Int), .slice 0 [] .nil]) rfl rfl rfl rfl ⟨_, rfl⟩ ⟨_, rfl⟩
           have ko3 : (H2 ++ [AE.Obj.row 3 [.agg [.int .i64 2, .int .i64 (i : Int), .slice 0 [] .nil]]])[h.length]? = some (.row 2 [encSig s]) := keepL ko2
           have k83 : (H2 ++ [AE.Obj.row 3 [.agg [.int .i64 2, .int .i64 (i : Int), .slice 0 [] .nil]]])[k8]? = some (.row 3 [.agg [.int .i64 0, .int .i64 0, .slice 0 [] .nil]]) := keepL k82
           have kx3 : (H2 ++ [AE.Obj.row 3 [.agg [.int .i64 2, .int .i64 (i : Int), .slice 0 [] .nil]]])[H2.length]? = some (.row 3 [.agg [.int .i64 2, .int .i64 (i : Int), .slice 0 [] .nil]]) := by simp
           have low3 : Low h.length h (H2 ++ [AE.Obj.row 3 [.agg [.int .i64 2, .int .i64 (i : Int), .slice 0 [] .nil]]]) := low2.push (by omega)
           have hl3 : h.length ≤ (H2 ++ [AE.Obj.row 3 [.agg [.int .i64 2, .int .i64 (i : Int), .slice 0 [] .nil]]]).length := by simp; omega
           simp (disch := first | omega | decide | simp only [go_sem]) only [go_sem, q1, q2, q4, q8, q10, q11, q12, gz, li, hsm', fb, sb, List.length_cons, List.length_nil]
           obtain ⟨oa, _, ol⟩ := hG.ops o (List.mem_of_getElem? gi)
           rw [← hzl] at oa
           refine nleast_b1 hT IH gi oa ol h2 (by omega) g6 (deep := deep) (by omega) (h := h) (ko := h.length) (k8 := k8) (kx := H2.length) ⟨by omega, by omega⟩ ⟨Nat.le_refl _, by omega, by omega⟩ ko3 k83 kx3 low3 hl3 (wadd_low (by omega) (by simp)) (by simp only [go_sem, q1]) (by simp only [go_sem, q3]) (by simp only [go_sem, q4]) (by simp only [go_sem, q8]) (by simp only [go_sem, q10]) (by simp only [go_sem]) (by simp only [go_sem]) (fun hnd e' H' ws' ups' r8 r9 l8 low' hw' hu' => ?_) fun hdd e' H' ws' ups' v es r8 r15 hel hes hen hv kx' kr' low' hw' hu' => ?_
           · simp (disch := first | omega | decide | simp only [go_sem]) only [go_sem, r8, r9, resv, l8]
             exact ⟨(zTerm, false), td _ _ _ low' hw' hu', fun h => by rw [hdT] at h; omega, fun _ => ⟨rfl, rfl⟩⟩
           · obtain ⟨sz, m, rfl, hsz⟩ := hv
             obtain ⟨u4, sv, hu4⟩ := st_k3W (ups := ups') (x := 2) (y := (i : Int)) (sz := sz) (es := es) (m := m) kr'
             have lx : loadAt true 3 (.ptr H2.length 0 0 1) H' = some (PV.agg [.int .i64 2, .int .i64 (i : Int), .slice sz es m]) := by rw [ld_at kx']; rfl
             have l8 : loadAt true 3 (.ptr k8 0 0 1) (H'.set k8 (.row 3 [.agg [.int .i64 2, .int .i64 (i : Int), .slice sz es m]])) = some (.agg [.int .i64 2, .int .i64 (i : Int), .slice sz es m]) := by rw [ld_at (get_set kr')]; rfl
             obtain ⟨pes, wes⟩ := weaks_terms hes
             simp (disch := first | omega | decide | simp only [go_sem]) only [go_sem, r8, r15, lx, sv, resv, l8]
             refine ⟨(.agg [.int .i64 2, .int .i64 (i : Int), .slice sz es .any], true), ?_, fun _ => ⟨rfl, .mk _ _ _ sz es hsz (by simp [hel]) hen, .mk _ _ sz es hsz (by omega) hes⟩, fun h => by rw [hdT] at h; omega⟩
             have := tidy_ups (h := h) (v := .tuple [.agg [.int .i64 2, .int .i64 (i : Int), .slice sz es m], .bool true]) (ws := wadd k8 ws') (ups := u4) (by simp [PV.pure, pures, pes]) (low'.trans (.set (k := k8) (o := .row 3 [.agg [.int .i64 2, .int .i64 (i : Int), .slice sz es m]]) (by omega))) (wadd_low (by omega) hw') fun x hx => by
              rcases hu4 x hx with h | h
              · exact hu' x h
              · omega
             simpa [PV.weak, weaks, wes, tupled] using this
         · have hsm' : (sumZ z o.args 1 != z.getD k 0) = true := by simpa using hsm
           have hii : i < i0 := by
            rcases Nat.lt_or_ge i i0 with h | h
            · exact h
            · have := hgd (by omega)
              subst this
              exact absurd g5 hsm
           simp (disch := first | omega | decide | simp only [go_sem]) only [go_sem, q1, q2, q3, q4, q8, q10, q11, q12, gz, li, hsm']
           exact ⟨g - 1, by omega, i + 1, by omega, rfl, trivial⟩
       · have hwf : wholeZ z o.args = false := by simpa using hwh
         rw [hwf] at q12
         have hii : i < i0 := by
          rcases Nat.lt_or_ge i i0 with h | h
          · exact h
          · have := hgd (by omega)
            subst this
            exact absurd g4 hwh
         simp (disch := first | omega | decide | simp only [go_sem]) only [go_sem, q1, q2, q3, q4, q8, q10, q11, q12]
         exact ⟨g - 1, by omega, i + 1, by omega, rfl, trivial⟩
     · have hr' : (o.res != (k : Int)) = true := by simpa using hres
       have hii : i < i0 := by
        rcases Nat.lt_or_ge i i0 with h | h
        · exact h
        · have := hgd (by omega)
          subst this
          exact absurd g3 hres
       simp (disch := first | omega | decide | simp only [go_sem]) only [go_sem, a143b2, f1, f2, f3, f4, f8, f10, lo2, List.length_map, hi1, ga, lr, hr']
       exact ⟨g - 1, by omega, i + 1, by omega, rfl, trivial⟩
end Go.Proofs.Tryz
/- Least on both sides: one answer. -/
namespace Go.Proofs.Tryz
open Go Go.AE
variable {T : Tbl} (hT : Std T) {s : GSig}
def LeastA (s : GSig) (sort : Int) (x : PV × Int) : Prop := (¬ sigP s ∧ x = (zTerm, 40)) ∨ (sigP s ∧ LeastIs s sort x)
include hT in
theorem rLeast_top (hf : Fits s) (sort : Int) (h : List AE.Obj) : ∃ x : PV × Int, Ev T 57 [encSig s, .int .i64 sort] h (.val (.tuple [x.1, .int .i64 x.2]), ⟨h, [], []⟩) ∧ LeastA s sort x := by
 refine Ev.walkP (r := fun (r : PV × Int) => (.val (.tuple [r.1, .int .i64 r.2]), ⟨h, [], []⟩)) (hT.sp _ (by decide)) ((hT.fn _).trans fn57) (hT.mode _) rfl ?_
 have k4 : ((h ++ [AE.Obj.row 2 [encSig s]]) ++ [AE.Obj.row 3 [PV.agg [.int .i64 0, .int .i64 0, .slice 0 [] .nil]]])[h.length]? = some (.row 2 [encSig s]) := keepL (by simp)
 have k8 : ((h ++ [AE.Obj.row 2 [encSig s]]) ++ [AE.Obj.row 3 [PV.agg [.int .i64 0, .int .i64 0, .slice 0 [] .nil]]])[(h ++ [AE.Obj.row 2 [encSig s]]).length]? = some (.row 3 [PV.agg [.int .i64 0, .int .i64 0, .slice 0 [] .nil]]) := by simp
 have low : Low h.length h ((h ++ [AE.Obj.row 2 [encSig s]]) ++ [AE.Obj.row 3 [PV.agg [.int .i64 0, .int .i64 0, .slice 0 [] .nil]]]) := ((Low.refl _ _).push (Nat.le_refl _)).push (by simp)
 have hlen : h.length ≤ ((h ++ [AE.Obj.row 2 [encSig s]]) ++ [AE.Obj.row 3 [PV.agg [.int .i64 0, .int .i64 0, .slice 0 [] .nil]]]).length := by simp
 have hkh : h.length ≤ (h ++ [AE.Obj.row 2 [encSig s]]).length := by simp
 generalize hkx : (h ++ [AE.Obj.row 2 [encSig s]]).length = kx at *
 generalize hH : (h ++ [AE.Obj.row 2 [encSig s]]) ++ [AE.Obj.row 3 [PV.agg [.int .i64 0, .int .i64 0, .slice 0 [] .nil]]] = H at *
 have l4 : loadAt true 2 (.ptr h.length 0 0 1) H = some (encSig s) := by rw [ld_at k4]; rfl
 have fc0 : fillC [PV.int .i64 0, .int .i64 0, .slice 0 [] .nil] [] = some [.int .i64 0, .int .i64 0, .slice 0 [] .nil] := rfl
 have bad : ∀ H' : List AE.Obj, H'[kx]? = some (.row 3 [PV.agg [.int .i64 0, .int .i64 0, .slice 0 [] .nil]]) → Low h.length h H' → ∃ u, (∀ ws, storeAt 3 (.ptr kx 0 0 1) (.agg [.int .i64 0, .int .i64 0, .slice 0 [] .nil]) ⟨H', ws, []⟩ = some ⟨H'.set kx (.row 3 [.agg [.int .i64 0, .int .i64 0, .slice 0 [] .nil]]), wadd kx ws, u⟩) ∧ loadAt true 3 (.ptr kx 0 0 1) (H'.set kx (.row 3 [.agg [.int .i64 0, .int .i64 0, .slice 0 [] .nil]])) = some (.agg [.int .i64 0, .int .i64 0, .slice 0 [] .nil]) ∧
  ∀ (a : Int) ws, (∀ x ∈ ws, h.length ≤ x) → tidy 0 h.length (.val (.tuple [.agg [.int .i64 0, .int .i64 0, .slice 0 [] .nil], .int .i64 a])) ⟨H'.set kx (.row 3 [.agg [.int .i64 0, .int .i64 0, .slice 0 [] .nil]]), wadd kx ws, u⟩ = (.val (.tuple [zTerm, .int .i64 a]), ⟨h, [], []⟩) := fun H' hk hl => by
  obtain ⟨u, sv, hu⟩ := st_k3W (ups := []) (x := 0) (y := 0) (sz := 0) (es := []) (m := .nil) hk
  refine ⟨u, sv, by rw [ld_at (get_set hk)]; rfl, fun a ws hw => tidy_ups rfl (hl.trans (.set hkh)) (wadd_low hkh hw) fun y hy => ?_⟩
  rcases hu y hy with h | h
  · cases h
  · omega
 obtain ⟨u0, sv, ll, tz⟩ := bad H k8 low
 have tz0 : ∀ a : Int, tidy 0 h.length (.val (.tuple [.agg [.int .i64 0, .int .i64 0, .slice 0 [] .nil], .int .i64 a])) ⟨H.set kx (.row 3 [.agg [.int .i64 0, .int .i64 0, .slice 0 [] .nil]]), wadd kx [], u0⟩ = (.val (.tuple [zTerm, .int .i64 a]), ⟨h, [], []⟩) := fun a => tz a [] (by simp)
 obtain ⟨r, hr, kr⟩ := rasked_exact hT hf sort H
 rcases kr with ⟨rfl, hp⟩ | ⟨rfl, hp, hb⟩ | ⟨rfl, hp, hb⟩
 · have b1 : ((40 : Int) != 0) = true := rfl
   simp (disch := first | omega | decide | simp only [go_sem]) only [go_sem, hkx, hH, l4, cb hr, hT.prim, primOf, b1, fc0, sv, resv, ll, tz0, List.length_cons, List.length_nil]
   exact ⟨(zTerm, 40), rfl, .inl ⟨hp, rfl⟩⟩
 · have b1 : ((1 : Int) != 0) = true := rfl
   simp (disch := first | omega | decide | simp only [go_sem]) only [go_sem, hkx, hH, l4, cb hr, hT.prim, primOf, b1, fc0, sv, resv, ll, tz0, List.length_cons, List.length_nil]
   exact ⟨(zTerm, 1), rfl, .inr ⟨hp, by simp [LeastIs, leastO, hb]⟩⟩
 · have hG := hp.gok
   have hb' : 0 ≤ sort ∧ sort < (s.sorts.length : Int) := by simpa [isSortB] using hb
   obtain ⟨a, rfl⟩ := Int.eq_ofNat_of_zero_le hb'.1
   obtain ⟨ev142, LZ⟩ := rleasts_ev hT hG H
   have haz : a < (leastZ s).length := by rw [LZ.len]; omega
   have gz : ((leastZ s).map encI)[a]? = some (.int .i64 ((leastZ s).getD a 0)) := by
    rw [List.getElem?_map, List.getElem?_eq_getElem haz, List.getD_eq_getElem?_getD, List.getElem?_eq_getElem haz]; rfl
   have li : ∀ (n : Int) H, loadAt false 1 (.iptr (.int .i64 n) 0) H = some (.int .i64 n) := fun _ _ => rfl
   have z1 := LZ.ok.at (a : Int)
   simp only [zAt, Int.toNat_natCast] at z1
   by_cases hz0 : (leastZ s).getD a 0 = 0
   · have b2 : ((leastZ s).getD a 0 == 0) = true := by simpa using hz0
     simp (disch := first | omega | decide | simp only [go_sem]) only [go_sem, hkx, hH, l4, cb hr, hT.prim, primOf, bne_self_eq_false, cb ev142, gz, li, b2, fc0, sv, resv, ll, tz0, List.length_cons, List.length_nil]
     exact ⟨(zTerm, 3), rfl, .inr ⟨hp, by simp only [LeastIs, leastO, hb, Int.toNat_natCast]; rw [if_neg (by simp), if_pos hz0]; exact ⟨rfl, trivial⟩⟩⟩
   · have b2 : ((leastZ s).getD a 0 == 0) = false := by simpa using hz0
     by_cases hz2 : 2000 < (leastZ s).getD a 0
     · simp (disch := first | omega | decide | simp only [go_sem]) only [go_sem, hkx, hH, l4, cb hr, hT.prim, primOf, bne_self_eq_false, cb ev142, gz, li, b2, hz2, fc0, sv, resv, ll, tz0, List.length_cons, List.length_nil]
       exact ⟨(zTerm, 2), rfl, .inr ⟨hp, by simp only [LeastIs, leastO, hb, Int.toNat_natCast]; rw [if_neg (by simp), if_neg hz0, if_pos hz2]; exact ⟨rfl, trivial⟩⟩⟩
     · obtain ⟨⟨p, ok⟩, evp, hR⟩ := rleast_ev hT hG LZ 2000 a (by omega) (by omega) (by omega) haz 200 H (by omega)
       dsimp only at evp
       obtain ⟨t', ht'⟩ := hR.enc
       dsimp only at ht'
       have hnod := build_nodes LZ 2000 a (by omega) (by omega) (by omega)
       generalize hbt : buildT s.ops (leastZ s) 2000 a = bt at *
       obtain ⟨c1, c2, c3, c4⟩ := ht'.cells
       have sb := fun ws => st_box (h := H) (ws := ws) (ups := []) (z := .agg [(.int .i64 0), (.int .i64 0), (.slice 0 [] .nil)]) (sz := 3) (c := p) c1 rfl c2 ht'.facts.1 ⟨_, rfl⟩ c4
       have k9 : (H ++ [AE.Obj.row 3 [p]])[H.length]? = some (.row 3 [p]) := by simp
       have k89 : (H ++ [AE.Obj.row 3 [p]])[kx]? = some (.row 3 [PV.agg [.int .i64 0, .int .i64 0, .slice 0 [] .nil]]) := keepL k8
       have low9 : Low h.length h (H ++ [AE.Obj.row 3 [p]]) := low.push hlen
       generalize hH9 : H ++ [AE.Obj.row 3 [p]] = H9 at *
       generalize hkp : H.length = kp at *
       by_cases hdp : 200 < bt.deep
       · obtain ⟨r1, r2⟩ := hR.2 (by omega)
         dsimp only at r1 r2
         subst r1
         obtain ⟨u9, sv9, ll9, tz9⟩ := bad H9 k89 low9
         simp (disch := first | omega | decide | simp only [go_sem]) only [go_sem, hkx, hH, l4, cb hr, hT.prim, primOf, bne_self_eq_false, cb ev142, gz, li, b2, hz2, cb evp, sb, hH9, hkp, fc0, sv9, resv, ll9, List.length_cons, List.length_nil]
         exact ⟨(zTerm, 2), tz9 2 _ fun x hx => by repeat' first | omega | (cases hx; done) | (rcases mem_wall hx with hx | hx) | (rcases mem_wadd hx with hx | hx), .inr ⟨hp, by simp only [LeastIs, leastO, hb, Int.toNat_natCast]; rw [if_neg (by simp), if_neg hz0, if_neg hz2, hbt, if_pos hdp]; exact ⟨rfl, trivial⟩⟩⟩
       · obtain ⟨r1, r2, tp⟩ := hR.1 (by omega)
         dsimp only at r1 r2 tp
         subst r1
         have l9 : loadAt true 3 (.ptr kp 0 0 1) H9 = some p := by rw [ld_at k9]; exact r2.sub
         obtain ⟨x, y, sz, es, hpe⟩ : ∃ x y sz es, p = .agg [.int .i64 x, .int .i64 y, .slice sz es .any] := by cases r2; exact ⟨_, _, _, _, rfl⟩
         obtain ⟨u9, sv9, hu9⟩ := st_k3W (ups := []) (x := x) (y := y) (sz := sz) (es := es) (m := .any) k89
         rw [← hpe] at sv9
         have l14 : loadAt true 3 (.ptr kx 0 0 1) (H9.set kx (.row 3 [p])) = some p := by rw [ld_at (get_set k89)]; exact r2.sub
         obtain ⟨_, f1, f2⟩ := r2.facts
         simp (disch := first | omega | decide | simp only [go_sem]) only [go_sem, hkx, hH, l4, cb hr, hT.prim, primOf, bne_self_eq_false, cb ev142, gz, li, b2, hz2, cb evp, sb, hH9, hkp, l9, sv9, resv, l14, List.length_cons, List.length_nil]
         refine ⟨(p, 0), ?_, .inr ⟨hp, by simp only [LeastIs, leastO, hb, Int.toNat_natCast]; rw [if_neg (by simp), if_neg hz0, if_neg hz2, hbt, if_neg hdp]; exact ⟨rfl, r2, by omega⟩⟩⟩
         have td := fun (ws : List Nat) (hw : ∀ x ∈ ws, h.length ≤ x) => tidy_ups (h := h) (v := .tuple [p, .int .i64 0]) (ws := ws) (ups := u9) (by simp [PV.pure, pures, f1]) (low9.trans (.set (k := kx) (o := .row 3 [p]) hkh)) hw fun x hx => by
          rcases hu9 x hx with h | h
          · cases h
          · omega
         simp only [PV.weak, weaks, f2] at td
         exact td _ fun x hx => by repeat' first | omega | (cases hx; done) | (rcases mem_wall hx with hx | hx) | (rcases mem_wadd hx with hx | hx)
include hT in
theorem least_err {r : Int} (hr : r ≠ 0) (E87 : ∀ h, Ev T 87 [encSig s] h (.val (.int .i64 r), ⟨h, [], []⟩)) (sort : Int) (h : List AE.Obj) : Ev T 56 [encSig s, .int .i64 sort] h (.val (.tuple [zTerm, .int .i64 r]), ⟨h, [], []⟩) := by
 refine Ev.walk (hT.sp _ (by decide)) ((hT.fn _).trans fn56) (hT.mode _) rfl ?_
 have k4 : ((h ++ [AE.Obj.row 2 [encSig s]]) ++ [AE.Obj.row 3 [PV.agg [.int .i64 0, .int .i64 0, .slice 0 [] .nil]]])[h.length]? = some (.row 2 [encSig s]) := keepL (by simp)
 have k8 : ((h ++ [AE.Obj.row 2 [encSig s]]) ++ [AE.Obj.row 3 [PV.agg [.int .i64 0, .int .i64 0, .slice 0 [] .nil]]])[(h ++ [AE.Obj.row 2 [encSig s]]).length]? = some (.row 3 [PV.agg [.int .i64 0, .int .i64 0, .slice 0 [] .nil]]) := by simp
 have low : Low h.length h ((h ++ [AE.Obj.row 2 [encSig s]]) ++ [AE.Obj.row 3 [PV.agg [.int .i64 0, .int .i64 0, .slice 0 [] .nil]]]) := ((Low.refl _ _).push (Nat.le_refl _)).push (by simp)
 have hkh : h.length ≤ (h ++ [AE.Obj.row 2 [encSig s]]).length := by simp
 generalize hkx : (h ++ [AE.Obj.row 2 [encSig s]]).length = kx at *
 generalize hH : (h ++ [AE.Obj.row 2 [encSig s]]) ++ [AE.Obj.row 3 [PV.agg [.int .i64 0, .int .i64 0, .slice 0 [] .nil]]] = H at *
 have l4 : loadAt true 2 (.ptr h.length 0 0 1) H = some (encSig s) := by rw [ld_at k4]; rfl
 have fc0 : fillC [PV.int .i64 0, .int .i64 0, .slice 0 [] .nil] [] = some [.int .i64 0, .int .i64 0, .slice 0 [] .nil] := rfl
 obtain ⟨u, sv, hu⟩ := st_k3W (ups := []) (x := 0) (y := 0) (sz := 0) (es := []) (m := .nil) k8
 have ll : loadAt true 3 (.ptr kx 0 0 1) (H.set kx (.row 3 [PV.agg [.int .i64 0, .int .i64 0, .slice 0 [] .nil]])) = some (PV.agg [.int .i64 0, .int .i64 0, .slice 0 [] .nil]) := by rw [ld_at (get_set k8)]; rfl
 have b1 : (r != 0) = true := by simpa using hr
 simp (disch := first | omega | decide | simp only [go_sem]) only [go_sem, hkx, hH, l4, cb (E87 _), hT.prim, primOf, b1, fc0, sv, resv, ll, List.length_cons, List.length_nil]
 exact tidy_ups rfl (low.trans (.set hkh)) (wadd_low hkh (by simp)) fun y hy => by
  rcases hu y hy with h | h
  · cases h
  · omega
include hT in
theorem least_top {r0 : Int} (kr : (r0 = 0 ∧ sigP s) ∨ (r0 = 40 ∧ ¬ sigP s)) (E87 : ∀ h, Ev T 87 [encSig s] h (.val (.int .i64 r0), ⟨h, [], []⟩)) (sort : Int) (h : List AE.Obj) : ∃ x : PV × Int, Ev T 56 [encSig s, .int .i64 sort] h (.val (.tuple [x.1, .int .i64 x.2]), ⟨h, [], []⟩) ∧ LeastA s sort x := by
 rcases kr with ⟨rfl, hp⟩ | ⟨rfl, hp⟩
 · obtain ⟨x, h1, h2⟩ := least_ev hT hp.gok (fun o ho => by
    obtain ⟨i, hi, rfl⟩ := List.getElem_of_mem ho
    exact (hp.ops i hi).2.2.2.2.2) E87 sort h
   exact ⟨x, h1, .inr ⟨hp, h2⟩⟩
 · exact ⟨(zTerm, 40), least_err hT (by decide) E87 sort h, .inl ⟨hp, rfl⟩⟩
theorem leastA_same {sort : Int} {x y : PV × Int} (h : LeastA s sort x) (h' : LeastA s sort y) : x.2 = y.2 ∧ ∃ t, Enc t x.1 ∧ Enc t y.1 ∧ t.nodes ≤ 2000 := by
 have z : Tm.nodes (.mk 0 0 []) ≤ 2000 := by simp [Tm.nodes, nodesL]
 rcases h with ⟨a, rfl⟩ | ⟨a, b1, b2⟩ <;> rcases h' with ⟨a', rfl⟩ | ⟨a', c1, c2⟩
 · exact ⟨rfl, _, enc_zTerm, enc_zTerm, z⟩
 · exact absurd a' a
 · exact absurd a a'
 · refine ⟨by rw [b1, c1], ?_⟩
   cases ho : (leastO s sort).1 with
   | none =>
     rw [ho] at b2 c2
     rw [show x.1 = zTerm from b2, show y.1 = zTerm from c2]
     exact ⟨_, enc_zTerm, enc_zTerm, z⟩
   | some t =>
     rw [ho] at b2 c2
     exact ⟨t, b2.1, c2.1, b2.2⟩
end Go.Proofs.Tryz
/- terms: the list of all terms up to a size. -/
namespace Go.Proofs.Tryz
open Go Go.AE
variable {T : Tbl} (hT : Std T) {s : GSig}
def sumOf (s : GSig) (a : Nat) : Nat → Int
 | 0 => 0
 | n + 1 => sumOf s a n + cntOf s a (n + 1)
def termsL (s : GSig) (a : Nat) (pv : Nat → Nat → PV) : Nat → List PV
 | 0 => []
 | n + 1 => termsL s a pv n ++ (List.range (cntOf s a (n + 1)).toNat).map (pv (n + 1))
theorem cnt_nn (hs : GOk s) {a : Nat} (ha : a < s.sorts.length) (m : Nat) : 0 ≤ cntOf s a m ∧ cntOf s a m ≤ 1099511627776 := ⟨(cnt_ok hs ha).1.nonneg m, (cnt_ok hs ha).1.le m⟩
theorem sum_nn (hs : GOk s) {a : Nat} (ha : a < s.sorts.length) : ∀ n, 0 ≤ sumOf s a n
 | 0 => by simp [sumOf]
 | n + 1 => by have := sum_nn hs ha n; have := (cnt_nn hs ha (n + 1)).1; simp only [sumOf]; omega
theorem sum_mono (hs : GOk s) {a : Nat} (ha : a < s.sorts.length) : ∀ {n m : Nat}, n ≤ m → sumOf s a n ≤ sumOf s a m
 | n, 0, h => by
   have : n = 0 := by omega
   subst this
   exact Int.le_refl _
 | n, m + 1, h => by
   by_cases hn : n = m + 1
   · subst hn; exact Int.le_refl _
   · have := sum_mono hs ha (n := n) (m := m) (by omega)
     have := (cnt_nn hs ha (m + 1)).1
     simp only [sumOf]
     omega
theorem termsL_len (hs : GOk s) {a : Nat} (ha : a < s.sorts.length) {pv : Nat → Nat → PV} : ∀ n, ((termsL s a pv n).length : Int) = sumOf s a n
 | 0 => rfl
 | n + 1 => by
   have h1 := termsL_len hs ha (pv := pv) n
   have h2 := (cnt_nn hs ha (n + 1)).1
   simp only [termsL, sumOf, List.length_append, List.length_map, List.length_range]
   omega
include hT in
theorem terms_b0 (hs : GOk s) {a size : Nat} (ha : a < s.sorts.length) (hz : size ≤ 60) {h : List AE.Obj} {e0 : List PV} {Q : AExit → List PV → St → Prop}
 (f0 : eget e0 0 = .iptr (tabV s) 0) (f1 : eget e0 1 = .int .i64 (a : Int)) (f2 : eget e0 2 = .int .i64 (size : Int)) (f8 : eget e0 8 = .int .i64 0) (f9 : eget e0 9 = .int .i64 1)
 (hQ : ∀ e', eget e' 0 = .iptr (tabV s) 0 → eget e' 1 = .int .i64 (a : Int) → eget e' 2 = .int .i64 (size : Int) → eget e' 8 = .int .i64 (cap (sumOf s a size)) → Q (.exit 0) e' ⟨h, [], []⟩) : wpC T (.loop a144b0) e0 ⟨h, [], []⟩ Q := by
 refine wpC.loopM (fun d e st => ∃ n : Nat, n + d = size ∧ eget e 0 = .iptr (tabV s) 0 ∧ eget e 1 = .int .i64 (a : Int) ∧ eget e 2 = .int .i64 (size : Int) ∧ eget e 8 = .int .i64 (cap (sumOf s a n)) ∧ eget e 9 = .int .i64 ((n + 1 : Nat) : Int) ∧ st = ⟨h, [], []⟩) ?_ size _ _ ⟨0, by omega, f0, f1, f2, f8, f9, rfl⟩
 rintro d e st ⟨n, hd, e0, e1, e2, e8, e9, rfl⟩
 obtain ⟨k1, k2⟩ := cnt_ok hs ha
 by_cases h1 : n + 1 ≤ size
 · have hm61 : n + 1 < 61 := by omega
   have ls := ld_arr k1 hm61
   have c0 := cnt_nn hs ha (n + 1)
   have s0 := sum_nn hs ha n
   have c1 := fun h => plus_ev hT (h := h) (cap_nn s0) (cap_top _) c0.1 c0.2
   have hc : min (cap (sumOf s a n) + cntOf s a (n + 1)) 1099511627776 = cap (sumOf s a (n + 1)) := by
    simp only [sumOf]
    unfold cap
    omega
   rw [hc] at c1
   have hcnt : ((tabOf s).1.getD a []).getD (n + 1) 0 = cntOf s a (n + 1) := rfl
   rw [hcnt] at ls
   simp (disch := first | omega | decide | simp only [go_sem]) only [go_sem, a144b0, e0, e1, e2, e8, e9, h1, tab_t2, k2, hm61, ls, cb (c1 _), hT.prim, primOf]
   exact ⟨d - 1, by omega, n + 1, by omega, rfl, rfl, trivial⟩
 · have : n = size := by omega
   subst this
   simp (disch := first | omega | decide | simp only [go_sem]) only [go_sem, a144b0, e0, e1, e2, e8, e9, h1]
   exact hQ _ (by simp only [go_sem, e0]) (by simp only [go_sem, e1]) (by simp only [go_sem, e2]) (by simp only [go_sem, e8])
theorem range_succ_map {α : Type} (f : Nat → α) (k : Nat) : (List.range (k + 1)).map f = (List.range k).map f ++ [f k] := by
 rw [List.range_succ, List.map_append]; rfl
theorem fe_one {p : PV} (tp : IsT p) : fillE 3 (List.replicate 1 (.agg [(.int .i64 0), (.int .i64 0), (.slice 0 [] .nil)])) [(0, p)] = some [p] := by
 obtain ⟨c1, c2, c3, c4⟩ := tp.cells
 simp [fillE, c1, c3]
theorem append_ws {H : List AE.Obj} {v p : PV} {es : List PV} {lo : Nat} (A : AppL H v es lo) (hp : IsT p) (hl : es.length < 100000) (hlo : lo ≤ H.length) (ws : List Nat) :
 ∃ v' H' ws', (∀ ups, appendop 3 40 v (.slice 3 [p] .lit) ⟨H, ws, ups⟩ = some (v', ⟨H', ws', ups⟩)) ∧ AppL H' v' (es ++ [p]) lo ∧ Low lo H H' ∧ ∀ x ∈ ws', x ∈ ws ∨ lo ≤ x := by
 obtain ⟨c1, c2, c3, c4⟩ := hp.cells
 have hroom : (es.length + 1) * 40 ≤ room ∧ es.length + 1 ≤ room := by
  have : 10000000 ≤ room := by decide
  constructor <;> omega
 rcases A with ⟨rfl, rfl⟩ | ⟨kt, rfl, h2, h3⟩
 · simp at hroom
   refine ⟨.slice 3 [p] (.tok H.length), H ++ [.tok 3 1], ws, fun ups => ?_, .inr ⟨H.length, rfl, by simp, hlo⟩, (Low.refl _ _).push hlo, fun x hx => .inl hx⟩
   simp [appendop, elems, c2, hroom, alloc]
 · refine ⟨.slice 3 (es ++ [p]) (.tok kt), H.set kt (.tok 3 (es.length + 1)), wadd kt ws, fun ups => ?_, .inr ⟨kt, rfl, by rw [get_set h2]; simp, h3⟩, .set h3, fun x hx => ?_⟩
   · simp [appendop, elems, c2, hroom, h2, wrote_none]
   · rcases mem_wadd hx with h | h
     · rw [h]; exact .inr h3
     · exact .inl h
include hT in
theorem terms_b1 (hs : GOk s) {a n size : Nat} {pv : Nat → Nat → PV} (ha : a < s.sorts.length) (hn : n + 1 ≤ 60) {c : Nat} (hc : cntOf s a (n + 1) = (c : Int))
 (hpv : ∀ k : Nat, k < c → IsT (pv (n + 1) k) ∧ ∀ h, Ev T 91 [encTab s, .int .i64 (a : Int), .int .i64 ((n + 1 : Nat) : Int), .int .i64 (k : Int)] h (.val (pv (n + 1) k), ⟨h, [], []⟩))
 {L0 : List PV} (hL : L0.length + c ≤ 4000) {h H0 : List AE.Obj} {v0 : PV} {ws0 : List Nat} {e0 : List PV} {Q : AExit → List PV → St → Prop} (A0 : AppL H0 v0 L0 h.length) (low0 : Low h.length h H0) (hw0 : ∀ x ∈ ws0, h.length ≤ x)
 (f0 : eget e0 0 = .iptr (tabV s) 0) (f1 : eget e0 1 = .int .i64 (a : Int)) (f2 : eget e0 2 = .int .i64 (size : Int)) (f10 : eget e0 10 = v0) (f11 : eget e0 11 = .int .i64 ((n + 1 : Nat) : Int)) (f44 : eget e0 44 = .int .i64 (c : Int)) (f45 : eget e0 45 = .int .i64 0)
 (hQ : ∀ e' H ws v, AppL H v (L0 ++ (List.range c).map (pv (n + 1))) h.length → Low h.length h H → (∀ x ∈ ws, h.length ≤ x) → eget e' 0 = .iptr (tabV s) 0 → eget e' 1 = .int .i64 (a : Int) → eget e' 2 = .int .i64 (size : Int) → eget e' 10 = v → eget e' 11 = .int .i64 ((n + 1 : Nat) : Int) → Q (.exit 4) e' ⟨H, ws, []⟩) : wpC T (.loop a144b1) e0 ⟨H0, ws0, []⟩ Q := by
 refine wpC.loopM (fun d e st => ∃ (k : Nat) (H : List AE.Obj) (ws : List Nat) (v : PV), k + d = c ∧ AppL H v (L0 ++ (List.range k).map (pv (n + 1))) h.length ∧ Low h.length h H ∧ (∀ x ∈ ws, h.length ≤ x) ∧ eget e 0 = .iptr (tabV s) 0 ∧ eget e 1 = .int .i64 (a : Int) ∧ eget e 2 = .int .i64 (size : Int) ∧ eget e 10 = v ∧ eget e 11 = .int .i64 ((n + 1 : Nat) : Int) ∧ eget e 44 = .int .i64 (c : Int) ∧ eget e 45 = .int .i64 (k : Int) ∧ st = ⟨H, ws, []⟩) ?_ c _ _
  ⟨0, H0, ws0, v0, by omega, by simpa using A0, low0, hw0, f0, f1, f2, f10, f11, f44, f45, rfl⟩
 rintro d e st ⟨k, H, ws, v, hd, A, low, hw, e0, e1, e2, e10, e11, e44, e45, rfl⟩
 by_cases h1 : k < c
 · obtain ⟨tp, ep⟩ := hpv k h1
   rw [encTab_eq] at ep
   obtain ⟨v', H', ws', ap, A', low', hw'⟩ := append_ws A tp (by simp; omega) low.len ws
   have fe := fe_one tp
   rw [List.append_assoc, ← range_succ_map] at A'
   simp (disch := first | omega | decide | simp only [go_sem]) only [go_sem, a144b1, e0, e1, e2, e10, e11, e44, e45, h1, cb (ep _), hT.prim, primOf, fe, ap]
   refine ⟨d - 1, by omega, k + 1, _, _, v', by omega, A', low.trans low', fun x hx => ?_, rfl, rfl, rfl⟩
   rcases hw' x hx with h | h
   · exact hw x h
   · exact h
 · have : k = c := by omega
   subst this
   simp (disch := first | omega | decide | simp only [go_sem]) only [go_sem, a144b1, e0, e1, e2, e10, e11, e44, e45, h1]
   exact hQ _ H ws v A low hw (by simp only [go_sem, e0]) (by simp only [go_sem, e1]) (by simp only [go_sem, e2]) (by simp only [go_sem, e10]) (by simp only [go_sem, e11])
include hT in
theorem terms_ev (hs : GOk s) {a size : Nat} {pv : Nat → Nat → PV} (ha : a < s.sorts.length) (hz : size ≤ 60)
 (hpv : ∀ m k : Nat, 1 ≤ m → m ≤ 60 → (k : Int) < cntOf s a m → IsT (pv m k) ∧ ∀ h, Ev T 91 [encTab s, .int .i64 (a : Int), .int .i64 (m : Int), .int .i64 (k : Int)] h (.val (pv m k), ⟨h, [], []⟩)) (h : List AE.Obj) :
 (4000 < cap (sumOf s a size) ∧ Ev T 144 [encTab s, .int .i64 (a : Int), .int .i64 (size : Int)] h (.val (.tuple [.slice 0 [] .any, .int .i64 2]), ⟨h, [], []⟩)) ∨
 (cap (sumOf s a size) ≤ 4000 ∧ ∃ sz, (termsL s a pv size = [] ∨ sz = 3) ∧ Ev T 144 [encTab s, .int .i64 (a : Int), .int .i64 (size : Int)] h (.val (.tuple [.slice sz (termsL s a pv size) .any, .int .i64 0]), ⟨h, [], []⟩)) := by
 by_cases hm : 4000 < cap (sumOf s a size)
 · refine .inl ⟨hm, ?_⟩
   refine Ev.walk (hT.sp _ (by decide)) ((hT.fn _).trans fn144) (hT.mode _) rfl ?_
   simp (disch := first | omega | decide | simp only [go_sem]) only [go_sem, encTab_eq]
   refine terms_b0 hT hs ha hz (by simp only [go_sem]) (by simp only [go_sem]) (by simp only [go_sem]) (by simp only [go_sem]) (by simp only [go_sem]) fun e' e0 e1 e2 e8 => ?_
   simp (disch := first | omega | decide | simp only [go_sem]) only [go_sem, e8, hm]
   rfl
 · refine .inr ⟨by omega, ?_⟩
   have hS : sumOf s a size ≤ 4000 := by
    unfold cap at hm
    omega
   have hw : ∃ sz, Ev T 144 [encTab s, .int .i64 (a : Int), .int .i64 (size : Int)] h (.val (.tuple [.slice sz (termsL s a pv size) .any, .int .i64 0]), ⟨h, [], []⟩) ∧ (termsL s a pv size = [] ∨ sz = 3) := by
    refine Ev.walkP (hT.sp _ (by decide)) ((hT.fn _).trans fn144) (hT.mode _) rfl ?_
    simp (disch := first | omega | decide | simp only [go_sem]) only [go_sem, encTab_eq]
    refine terms_b0 hT hs ha hz (by simp only [go_sem]) (by simp only [go_sem]) (by simp only [go_sem]) (by simp only [go_sem]) (by simp only [go_sem]) fun e' e0 e1 e2 e8 => ?_
    simp (disch := first | omega | decide | simp only [go_sem]) only [go_sem, e8, hm]
    refine wpC.loopM (fun d e st => ∃ (n : Nat) (H : List AE.Obj) (ws : List Nat) (v : PV), n + d = size ∧ AppL H v (termsL s a pv n) h.length ∧ Low h.length h H ∧ (∀ x ∈ ws, h.length ≤ x) ∧ eget e 0 = .iptr (tabV s) 0 ∧ eget e 1 = .int .i64 (a : Int) ∧ eget e 2 = .int .i64 (size : Int) ∧ eget e 10 = v ∧ eget e 11 = .int .i64 ((n + 1 : Nat) : Int) ∧ st = ⟨H, ws, []⟩) ?_ size _ _
     ⟨0, h, [], .slice 0 [] .nil, by omega, .inl ⟨rfl, rfl⟩, Low.refl _ _, by simp, by simp only [go_sem, e0], by simp only [go_sem, e1], by simp only [go_sem, e2], by simp only [go_sem], by simp only [go_sem]; rfl, rfl⟩
    rintro d e st ⟨n, H, ws, v, hd, A, low, hw, e0, e1, e2, e10, e11, rfl⟩
    by_cases h1 : n + 1 ≤ size
    · obtain ⟨k1, k2⟩ := cnt_ok hs ha
      have hm61 : n + 1 < 61 := by omega
      have ls := ld_arr k1 hm61
      have hcnt : ((tabOf s).1.getD a []).getD (n + 1) 0 = cntOf s a (n + 1) := rfl
      rw [hcnt] at ls
      obtain ⟨c, hc⟩ := Int.eq_ofNat_of_zero_le (cnt_nn hs ha (n + 1)).1
      have hmono := sum_mono hs ha (n := n + 1) (m := size) h1
      have hlen := termsL_len hs ha (pv := pv) n
      simp only [sumOf] at hmono
      rw [hc] at ls
      simp (disch := first | omega | decide | simp only [go_sem]) only [go_sem, a144b2, e0, e1, e2, e10, e11, h1, tab_t2, k2, hm61, ls]
      refine terms_b1 hT hs (n := n) (size := size) ha (by omega) hc (fun k hk => hpv (n + 1) k (by omega) (by omega) (by rw [hc]; omega)) (L0 := termsL s a pv n) (by omega) A low hw (by simp only [go_sem, e0]) (by simp only [go_sem, e1]) (by simp only [go_sem, e2]) (by simp only [go_sem, e10]) (by simp only [go_sem, e11]) (by simp only [go_sem]) (by simp only [go_sem]) fun e' H' ws' v' A' low' hw' e0 e1 e2 e10 e11 => ?_
      simp (disch := first | omega | decide | simp only [go_sem]) only [go_sem, e0, e1, e2, e10, e11]
      have hT' : termsL s a pv (n + 1) = termsL s a pv n ++ (List.range c).map (pv (n + 1)) := by
       simp only [termsL, hc, Int.toNat_natCast]
      exact ⟨d - 1, by omega, n + 1, H', ws', v', by omega, by rw [hT']; exact A', low', hw', rfl, rfl, rfl⟩
    · have : n = size := by omega
      subst this
      obtain ⟨sz, m, rfl, hsz⟩ := A.slice
      simp (disch := first | omega | decide | simp only [go_sem]) only [go_sem, a144b2, e0, e1, e2, e10, e11, h1]
      have hall : ∀ n, n ≤ 60 → sumOf s a n ≤ 4000 → ∀ x, x ∈ termsL s a pv n → IsT x := fun n => by
       induction n with
       | zero => intro _ _ x hx; simp [termsL] at hx
       | succ n ih =>
         intro hn hle x hx
         have c0 := (cnt_nn hs ha (n + 1)).1
         have s0 := sum_nn hs ha n
         simp only [sumOf] at hle
         simp only [termsL, List.mem_append, List.mem_map, List.mem_range] at hx
         rcases hx with h | ⟨k, hk, rfl⟩
         · exact ih (by omega) (by omega) x h
         · exact (hpv (n + 1) k (by omega) (by omega) (by omega)).1
      obtain ⟨p1, p2⟩ := weaks_terms (hall n (by omega) hS)
      refine ⟨sz, ?_, hsz⟩
      have := tidy_ups (h := h) (H := H) (v := .tuple [.slice sz (termsL s a pv n) m, .int .i64 0]) (ws := ws) (ups := []) (by simp [PV.pure, pures, p1]) low hw (by simp)
      rw [this]
      simp [PV.weak, weaks, p2]
   obtain ⟨sz, h1, h2⟩ := hw
   exact ⟨sz, h2, h1⟩
end Go.Proofs.Tryz
/- Terms. -/
namespace Go.Proofs.Tryz
open Go Go.AE
variable {T : Tbl} (hT : Std T) {s : GSig}
include hT in
theorem terms_err {r : Int} (hr : r ≠ 0) (E87 : ∀ h, Ev T 87 [encSig s] h (.val (.int .i64 r), ⟨h, [], []⟩)) (sort size : Int) (h : List AE.Obj) : Ev T 59 [encSig s, .int .i64 sort, .int .i64 size] h (.val (.tuple [.slice 0 [] .any, .int .i64 r]), ⟨h, [], []⟩) := by
 refine Ev.walk (hT.sp _ (by decide)) ((hT.fn _).trans fn59) (hT.mode _) rfl ?_
 have hr' : (r != 0) = true := by simpa using hr
 simp (disch := first | omega | decide | simp only [go_sem]) only [go_sem, encSig_ld, cb (E87 _), hT.prim, primOf, hr']
 exact tidy_ups rfl ((Low.refl _ _).push (Nat.le_refl _)) (by simp) (by simp)
include hT in
theorem terms_arg (E87 : ∀ h, Ev T 87 [encSig s] h (.val (.int .i64 0), ⟨h, [], []⟩)) {sort size : Int} (hb : (isSortB sort s.sorts.length && sizedB size) = false) (h : List AE.Obj) : Ev T 59 [encSig s, .int .i64 sort, .int .i64 size] h (.val (.tuple [.slice 0 [] .any, .int .i64 1]), ⟨h, [], []⟩) := by
 refine Ev.walk (hT.sp _ (by decide)) ((hT.fn _).trans fn59) (hT.mode _) rfl ?_
 have c1 := fun h => isSort_ev hT (s := s) sort h
 have c2 := fun h => sized_ev hT size h
 cases h1 : isSortB sort s.sorts.length
 · rw [h1] at c1
   simp (disch := first | omega | decide | simp only [go_sem]) only [go_sem, encSig_ld, cb (E87 _), hT.prim, primOf, bne_self_eq_false, cb (c1 _)]
   exact tidy_ups rfl ((Low.refl _ _).push (Nat.le_refl _)) (by simp) (by simp)
 · rw [h1, Bool.true_and] at hb
   rw [h1] at c1
   rw [hb] at c2
   simp (disch := first | omega | decide | simp only [go_sem]) only [go_sem, encSig_ld, cb (E87 _), hT.prim, primOf, bne_self_eq_false, cb (c1 _), cb (c2 _)]
   exact tidy_ups rfl ((Low.refl _ _).push (Nat.le_refl _)) (by simp) (by simp)
include hT in
theorem terms_ok (hs : GOk s) (E87 : ∀ h, Ev T 87 [encSig s] h (.val (.int .i64 0), ⟨h, [], []⟩)) {a m sz : Nat} {L : List PV} {r : Int} (ha : a < s.sorts.length) (hm : m ≤ 60) (pL : pures L = true) (wL : weaks L = L) {h : List AE.Obj} (E144 : Ev T 144 [encTab s, .int .i64 (a : Int), .int .i64 (m : Int)] (h ++ [AE.Obj.row 2 [encSig s]]) (.val (.tuple [.slice sz L .any, .int .i64 r]), ⟨h ++ [AE.Obj.row 2 [encSig s]], [], []⟩)) :
 Ev T 59 [encSig s, .int .i64 (a : Int), .int .i64 (m : Int)] h (.val (.tuple [.slice sz L .any, .int .i64 r]), ⟨h, [], []⟩) := by
 refine Ev.walk (hT.sp _ (by decide)) ((hT.fn _).trans fn59) (hT.mode _) rfl ?_
 have c1 := fun h => isSort_ev hT (s := s) (a : Int) h
 have c2 := fun h => sized_ev hT (m : Int) h
 have h1 : isSortB (a : Int) s.sorts.length = true := by simp [isSortB]; omega
 have h2 : sizedB (m : Int) = true := by simp [sizedB]; omega
 rw [h1] at c1
 rw [h2] at c2
 have c3 := fun h => counted_ev hT hs (h := h)
 simp (disch := first | omega | decide | simp only [go_sem]) only [go_sem, encSig_ld, cb (E87 _), hT.prim, primOf, bne_self_eq_false, cb (c1 _), cb (c2 _), cb (c3 _), cb E144]
 refine (tidy_ups (by simp [PV.pure, pures, pL]) ((Low.refl _ _).push (Nat.le_refl _)) (by simp) (by simp)).trans ?_
 simp [PV.weak, weaks, wL]
end Go.Proofs.Tryz
/- The terms up to a size, as terms; the specification's Terms. -/
namespace Go.Proofs.Tryz
open Go Go.AE
variable {T : Tbl} (hT : Std T) {s : GSig}
open Classical in
noncomputable def tmOf (s : GSig) (a m k : Nat) : Tm := if h : ∃ x, WT s x (a : Int) ∧ x.nodes = m ∧ x.num s = (k : Int) then h.choose else .mk 0 0 []
theorem tmOf_enc (hG : GOk s) {a m k : Nat} {p : PV} (ha : a < s.sorts.length) (hm : m ≤ 60) (hk : (k : Int) < cntOf s a m) (h : Nth91 s a m (k : Int) p) : Enc (tmOf s a m k) p ∧ (tmOf s a m k).nodes = m := by
 obtain ⟨x, hx, hw, hz, hn⟩ := h
 have hex : ∃ x, WT s x (a : Int) ∧ x.nodes = m ∧ x.num s = (k : Int) := ⟨x, hw, hz, hn⟩
 have e : tmOf s a m k = hex.choose := by unfold tmOf; rw [dif_pos hex]
 obtain ⟨c1, c2, c3⟩ := hex.choose_spec
 rw [e]
 have hlt : x.num s < 1099511627776 := by have := (cnt_nn hG ha m).2; omega
 have := num_inj hG.ops _ x hex.choose _ (Nat.le_refl _) (by omega) (by omega) hw c1 hlt (by omega)
 rw [← this]
 exact ⟨hx, hz⟩
noncomputable def termsT (s : GSig) (a : Nat) : Nat → List Tm
 | 0 => []
 | n + 1 => termsT s a n ++ (List.range (cntOf s a (n + 1)).toNat).map (tmOf s a (n + 1))
theorem termsT_len (hs : GOk s) {a : Nat} (ha : a < s.sorts.length) : ∀ n, ((termsT s a n).length : Int) = sumOf s a n
 | 0 => rfl
 | n + 1 => by
   have h1 := termsT_len hs ha n
   have h2 := (cnt_nn hs ha (n + 1)).1
   simp only [termsT, sumOf, List.length_append, List.length_map, List.length_range]
   omega
def EncL (l : List Tm) (es : List PV) : Prop := es.length = l.length ∧ ∀ (i : Nat) (x : Tm) (p : PV), l[i]? = some x → es[i]? = some p → Enc x p
theorem EncL.snoc {l : List Tm} {es : List PV} (h : EncL l es) {x : Tm} {p : PV} (hx : Enc x p) : EncL (l ++ [x]) (es ++ [p]) := ⟨by simp [h.1], enc_snoc h.1 h.2 hx⟩
theorem termsL_enc (hG : GOk s) {a : Nat} (ha : a < s.sorts.length) {pv : Nat → Nat → PV} (hpv : ∀ m k : Nat, 1 ≤ m → m ≤ 60 → (k : Int) < cntOf s a m → Nth91 s a m (k : Int) (pv m k)) : ∀ n, n ≤ 60 → EncL (termsT s a n) (termsL s a pv n)
 | 0, _ => ⟨rfl, fun i x p h => by simp [termsT] at h⟩
 | n + 1, hn => by
   have ih := termsL_enc hG ha hpv n (by omega)
   simp only [termsT, termsL]
   have key : ∀ c : Nat, (c : Int) ≤ cntOf s a (n + 1) → EncL (termsT s a n ++ (List.range c).map (tmOf s a (n + 1))) (termsL s a pv n ++ (List.range c).map (pv (n + 1))) := fun c => by
    induction c with
    | zero => intro _; simpa using ih
    | succ c ihc =>
      intro hc
      rw [range_succ_map, range_succ_map, ← List.append_assoc, ← List.append_assoc]
      exact (ihc (by omega)).snoc (tmOf_enc hG ha (by omega) (by omega) (hpv (n + 1) c (by omega) (by omega) (by omega))).1
   refine key _ ?_
   have := (cnt_nn hG ha (n + 1)).1
   omega
include hT in
theorem rterms_b0 (hG : GOk s) {a size : Nat} (ha : a < s.sorts.length) (hz : size ≤ 60) {zs : List (List Int)} (R : RTab s size zs) {st : St} {e0 : List PV} {Q : AExit → List PV → St → Prop}
 (f1 : eget e0 1 = .int .i64 (a : Int)) (f2 : eget e0 2 = .int .i64 (size : Int)) (f9 : eget e0 9 = .slice 1 (rowsV zs) .any) (f10 : eget e0 10 = .int .i64 0) (f11 : eget e0 11 = .int .i64 1)
 (hQ : ∀ e', Same (fun j => j = 10 ∨ j = 11 ∨ 31 ≤ j) e0 e' → eget e' 10 = .int .i64 (cap (sumOf s a size)) → Q (.exit 0) e' st) : wpC T (.loop a60b0) e0 st Q := by
 obtain ⟨H, ws, ups⟩ := st
 refine wpC.loopM (fun d e st => ∃ n : Nat, n + d = size ∧ Same (fun j => j = 10 ∨ j = 11 ∨ 31 ≤ j) e0 e ∧ (eget e 10 = .int .i64 (cap (sumOf s a n)) ∧ eget e 11 = .int .i64 ((n + 1 : Nat) : Int)) ∧ st = ⟨H, ws, ups⟩) ?_ size _ _ ⟨0, by omega, Same.refl _, ⟨f10, f11⟩, rfl⟩
 rintro d e st ⟨n, hd, hS, ⟨e10, e11⟩, rfl⟩
 have e1 := (hS 1 (by omega)).trans f1
 have e2 := (hS 2 (by omega)).trans f2
 have e9 := (hS 9 (by omega)).trans f9
 by_cases h1 : n + 1 ≤ size
 · obtain ⟨zr, gz, gc⟩ := R.row h1
   have gc := gc a ha
   have c0 := cnt_nn hG ha (n + 1)
   have s0 := sum_nn hG ha n
   have cc1 := cap_nn s0
   have cc2 := cap_top (sumOf s a n)
   have c1 := fun h => rcapped_ev hT (show 0 ≤ cap (sumOf s a n) + cntOf s a (n + 1) by omega) h
   have hc : cap (cap (sumOf s a n) + cntOf s a (n + 1)) = cap (sumOf s a (n + 1)) := by
    simp only [sumOf]
    unfold cap
    omega
   rw [hc] at c1
   simp (disch := first | omega | decide | simp only [go_sem]) only [go_sem, a60b0, e1, e2, e9, e10, e11, h1, gz, gc, cb (c1 _), hT.prim, primOf]
   exact ⟨d - 1, by omega, n + 1, by omega, hS.trans fun j hj => by simp (disch := omega) only [eget_eput_ne], ⟨rfl, rfl⟩, trivial⟩
 · have hn : n = size := by omega
   subst hn
   simp (disch := first | omega | decide | simp only [go_sem]) only [go_sem, a60b0, e2, e11, h1]
   exact hQ _ (hS.trans fun j hj => by simp (disch := omega) only [eget_eput_ne]) (by simp only [go_sem, e10])
include hT in
theorem rterms_b1 (hG : GOk s) {a n size : Nat} (ha : a < s.sorts.length) (hn : n + 1 ≤ size) (hz : size ≤ 60) {zs : List (List Int)} (R : RTab s size zs) {c : Nat} (hc : cntOf s a (n + 1) = (c : Int))
 {L0 : List PV} (hL : L0.length + c ≤ 4000) (hE0 : EncL (termsT s a n) L0) (hT0 : ∀ x ∈ L0, IsT x) {h H0 : List AE.Obj} {v0 : PV} {ws0 : List Nat} {e0 : List PV} {Q : AExit → List PV → St → Prop} (A0 : AppL H0 v0 L0 h.length) (low0 : Low h.length h H0) (hw0 : ∀ x ∈ ws0, h.length ≤ x) (hsg : H0[h.length]? = some (.row 2 [encSig s]))
 (f1 : eget e0 1 = .int .i64 (a : Int)) (f3 : eget e0 3 = .ptr h.length 0 0 1) (f9 : eget e0 9 = .slice 1 (rowsV zs) .any) (f12 : eget e0 12 = v0) (f13 : eget e0 13 = .int .i64 ((n + 1 : Nat) : Int)) (f14 : eget e0 14 = .int .i64 0)
 (hQ : ∀ e' H ws v L, AppL H v L h.length → EncL (termsT s a (n + 1)) L → (∀ x ∈ L, IsT x) → L.length = L0.length + c → Low h.length h H → (∀ x ∈ ws, h.length ≤ x) → H[h.length]? = some (.row 2 [encSig s]) → Same (fun j => j = 12 ∨ j = 14 ∨ j = 15 ∨ 53 ≤ j) e0 e' → eget e' 12 = v → Q (.exit 4) e' ⟨H, ws, []⟩) : wpC T (.loop a60b1) e0 ⟨H0, ws0, []⟩ Q := by
 obtain ⟨zr, gz, gc⟩ := R.row hn
 have gc := gc a ha
 rw [hc] at gc
 refine wpC.loopM (fun d e st => ∃ (k : Nat) (H : List AE.Obj) (ws : List Nat) (v : PV) (L : List PV), k + d = c ∧ L.length = L0.length + k ∧ AppL H v L h.length ∧ EncL (termsT s a n ++ (List.range k).map (tmOf s a (n + 1))) L ∧ (∀ x ∈ L, IsT x) ∧ Low h.length h H ∧ (∀ x ∈ ws, h.length ≤ x) ∧ H[h.length]? = some (.row 2 [encSig s]) ∧ Same (fun j => j = 12 ∨ j = 14 ∨ j = 15 ∨ 53 ≤ j) e0 e ∧ (eget e 12 = v ∧ eget e 14 = .int .i64 (k : Int)) ∧ st = ⟨H, ws, []⟩) ?_ c _ _
  ⟨0, H0, ws0, v0, L0, by omega, by omega, A0, by simpa using hE0, hT0, low0, hw0, hsg, Same.refl _, ⟨f12, f14⟩, rfl⟩
 rintro d e st ⟨k, H, ws, v, L, hd, hLl, A, hE, hTL, low, hw, hsg, hS, ⟨e12, e14⟩, rfl⟩
 have e1 := (hS 1 (by omega)).trans f1
 have e3 := (hS 3 (by omega)).trans f3
 have e9 := (hS 9 (by omega)).trans f9
 have e13 := (hS 13 (by omega)).trans f13
 by_cases h1 : k < c
 · have h1' : (k : Int) < (c : Int) := by omega
   have ls : loadAt true 2 (.ptr h.length 0 0 1) H = some (encSig s) := by rw [ld_at hsg]; rfl
   obtain ⟨p, hp, N91⟩ := rnth_ev hT hG R hz size (Nat.le_refl _) a (n + 1) (k : Int) H ha (by omega) hn (by omega) (by omega)
   obtain ⟨hx, hxn⟩ := tmOf_enc hG ha (by omega) (by omega) N91
   have tp : IsT p := hx.isT (by omega)
   obtain ⟨c1, c2, c3, c4⟩ := hx.cells
   have sb := fun ws => st_box (h := H) (ws := ws) (ups := []) (z := .agg [(.int .i64 0), (.int .i64 0), (.slice 0 [] .nil)]) (sz := 3) (c := p) c1 rfl c2 hx.facts.1 ⟨_, rfl⟩ c4
   have A2 := A.push (o := .row 3 [p])
   have low2 : Low h.length h (H ++ [AE.Obj.row 3 [p]]) := low.push low.len
   have hsg2 : (H ++ [AE.Obj.row 3 [p]])[h.length]? = some (.row 2 [encSig s]) := keepL hsg
   have kp : (H ++ [AE.Obj.row 3 [p]])[H.length]? = some (.row 3 [p]) := by simp
   have hlo := low.len
   generalize hH2 : H ++ [AE.Obj.row 3 [p]] = H2 at *
   generalize hkq : H.length = kq at *
   have lp : loadAt true 3 (.ptr kq 0 0 1) H2 = some p := by rw [ld_at kp]; exact hx.sub
   have fe := fe_one tp
   obtain ⟨H', fw, kt, ap, A', keep', low', hfw⟩ := append_W A2 tp (by omega) low2.len
   simp (disch := first | omega | decide | simp only [go_sem]) only [go_sem, a60b1, e1, e3, e9, e12, e13, e14, gz, gc, h1', ls, cb hp, hT.prim, primOf, sb, hH2, hkq, lp, fe, ap, List.length_cons, List.length_nil]
   refine ⟨d - 1, by omega, k + 1, _, _, _, L ++ [p], by omega, by simp; omega, A', ?_, fun x hx => ?_, low2.trans low', hfw _ fun x hx => ?_, keep' _ _ _ hsg2, hS.trans fun j hj => by simp (disch := omega) only [eget_eput_ne], ⟨rfl, rfl⟩, rfl⟩
   · rw [range_succ_map, ← List.append_assoc]
     exact hE.snoc hx
   · rcases List.mem_append.1 hx with h | h
     · exact hTL x h
     · rw [List.mem_singleton.1 h]; exact tp
   · repeat' first | exact hw x hx | omega | (cases hx; done) | (rcases mem_wall hx with hx | hx) | (rcases mem_wadd hx with hx | hx)
 · have h1' : ¬ (k : Int) < (c : Int) := by omega
   have hk : k = c := by omega
   subst hk
   simp (disch := first | omega | decide | simp only [go_sem]) only [go_sem, a60b1, e1, e9, e13, e14, gz, gc, h1']
   refine hQ _ H ws v L A ?_ hTL hLl low hw hsg (hS.trans fun j hj => by simp (disch := omega) only [eget_eput_ne]) (by simp only [go_sem, e12])
   have hcn : (cntOf s a (n + 1)).toNat = k := by omega
   simp only [termsT, hcn]
   exact hE
def TermsA (s : GSig) (sort size : Int) (x : (Nat × List PV) × Int) : Prop :=
 (¬ sigP s ∧ x.1.2 = [] ∧ x.2 = 40) ∨ (sigP s ∧ (isSortB sort s.sorts.length && sizedB size) = false ∧ x.1.2 = [] ∧ x.2 = 1) ∨
 (sigP s ∧ (isSortB sort s.sorts.length && sizedB size) = true ∧ 4000 < sumOf s sort.toNat size.toNat ∧ x.1.2 = [] ∧ x.2 = 2) ∨
 (sigP s ∧ (isSortB sort s.sorts.length && sizedB size) = true ∧ sumOf s sort.toNat size.toNat ≤ 4000 ∧ (x.1.2 = [] ∨ x.1.1 = 3) ∧ EncL (termsT s sort.toNat size.toNat) x.1.2 ∧ x.2 = 0)
include hT in
theorem rterms_top (hf : Fits s) (sort size : Int) (h : List AE.Obj) : ∃ x : (Nat × List PV) × Int, Ev T 60 [encSig s, .int .i64 sort, .int .i64 size] h (.val (.tuple [.slice x.1.1 x.1.2 .any, .int .i64 x.2]), ⟨h, [], []⟩) ∧ TermsA s sort size x := by
 refine Ev.walkP (r := fun (x : (Nat × List PV) × Int) => (.val (.tuple [.slice x.1.1 x.1.2 .any, .int .i64 x.2]), ⟨h, [], []⟩)) (hT.sp _ (by decide)) ((hT.fn _).trans fn60) (hT.mode _) rfl ?_
 have ko : (h ++ [AE.Obj.row 2 [encSig s]])[h.length]? = some (.row 2 [encSig s]) := by simp
 have low : Low h.length h (h ++ [AE.Obj.row 2 [encSig s]]) := (Low.refl _ _).push (Nat.le_refl _)
 generalize hH : h ++ [AE.Obj.row 2 [encSig s]] = H at *
 have ls : loadAt true 2 (.ptr h.length 0 0 1) H = some (encSig s) := by rw [ld_at ko]; rfl
 have td : ∀ a : Int, tidy 0 h.length (.val (.tuple [.slice 0 [] .nil, .int .i64 a])) ⟨H, [], []⟩ = (.val (.tuple [.slice 0 [] .any, .int .i64 a]), ⟨h, [], []⟩) := fun a => tidy_ups rfl low (by simp) (by simp)
 obtain ⟨r, hr, kr⟩ := rasked_exact hT hf sort H
 rcases kr with ⟨rfl, hp⟩ | ⟨rfl, hp, hb⟩ | ⟨rfl, hp, hb⟩
 · have b1 : ((40 : Int) != 0) = true := rfl
   simp (disch := first | omega | decide | simp only [go_sem]) only [go_sem, hH, ls, cb hr, hT.prim, primOf, b1, td]
   exact ⟨((0, []), 40), rfl, .inl ⟨hp, rfl, rfl⟩⟩
 · have b1 : ((1 : Int) != 0) = true := rfl
   simp (disch := first | omega | decide | simp only [go_sem]) only [go_sem, hH, ls, cb hr, hT.prim, primOf, b1, td]
   exact ⟨((0, []), 1), rfl, .inr (.inl ⟨hp, by rw [hb]; rfl, rfl, rfl⟩)⟩
 · by_cases hz1 : size < 0
   · simp (disch := first | omega | decide | simp only [go_sem]) only [go_sem, hH, ls, cb hr, hT.prim, primOf, bne_self_eq_false, hz1, td]
     exact ⟨((0, []), 1), rfl, .inr (.inl ⟨hp, by simp [sizedB]; omega, rfl, rfl⟩)⟩
   · by_cases hz2 : 60 < size
     · simp (disch := first | omega | decide | simp only [go_sem]) only [go_sem, hH, ls, cb hr, hT.prim, primOf, bne_self_eq_false, hz1, hz2, td]
       exact ⟨((0, []), 1), rfl, .inr (.inl ⟨hp, by simp [sizedB]; omega, rfl, rfl⟩)⟩
     · have hsz : (isSortB sort s.sorts.length && sizedB size) = true := by simp [hb, sizedB]; omega
       obtain ⟨m, rfl⟩ := Int.eq_ofNat_of_zero_le (show 0 ≤ size by omega)
       have hb' : 0 ≤ sort ∧ sort < (s.sorts.length : Int) := by simpa [isSortB] using hb
       obtain ⟨a, rfl⟩ := Int.eq_ofNat_of_zero_le hb'.1
       have ha : a < s.sorts.length := by omega
       have hm : m ≤ 60 := by omega
       have hG := hp.gok
       obtain ⟨zs, hzs, hl, okz, ex⟩ := rtable_ev hT hf hp.okOps (most := m) hm H
       have R : RTab s m zs := ⟨hl, okz, ex⟩
       have hzs' : Ev T 93 [encSig s, .int .i64 (m : Int)] H (.val (.slice 1 (rowsV zs) .any), ⟨H, [], []⟩) := hzs
       have s0 := sum_nn hG ha m
       simp (disch := first | omega | decide | simp only [go_sem]) only [go_sem, hH, ls, cb hr, hT.prim, primOf, bne_self_eq_false, hz1, hz2, cb hzs']
       refine rterms_b0 hT hG ha hm R (by simp only [go_sem]) (by simp only [go_sem]) (by simp only [go_sem]) (by simp only [go_sem]) (by simp only [go_sem]) fun e1 hS1 q10 => ?_
       have q1 : eget e1 1 = .int .i64 (a : Int) := (hS1 1 (by omega)).trans (by simp only [go_sem])
       have q2 : eget e1 2 = .int .i64 (m : Int) := (hS1 2 (by omega)).trans (by simp only [go_sem])
       have q3 : eget e1 3 = .ptr h.length 0 0 1 := (hS1 3 (by omega)).trans (by simp only [go_sem])
       have q9 : eget e1 9 = .slice 1 (rowsV zs) .any := (hS1 9 (by omega)).trans (by simp only [go_sem])
       clear hS1
       by_cases hmany : 4000 < cap (sumOf s a m)
       · simp (disch := first | omega | decide | simp only [go_sem]) only [go_sem, q10, hmany, td]
         exact ⟨((0, []), 2), rfl, .inr (.inr (.inl ⟨hp, hsz, by simp only [Int.toNat_natCast]; unfold cap at hmany; omega, rfl, rfl⟩))⟩
       · have hle : sumOf s a m ≤ 4000 := by unfold cap at hmany; omega
         simp (disch := first | omega | decide | simp only [go_sem]) only [go_sem, q10, hmany]
         refine wpC.loopM (fun d e st => ∃ (n : Nat) (H : List AE.Obj) (ws : List Nat) (v : PV) (L : List PV), n + d = m ∧ (L.length : Int) = sumOf s a n ∧ AppL H v L h.length ∧ EncL (termsT s a n) L ∧ (∀ x ∈ L, IsT x) ∧ Low h.length h H ∧ (∀ x ∈ ws, h.length ≤ x) ∧ H[h.length]? = some (.row 2 [encSig s]) ∧ (eget e 1 = .int .i64 (a : Int) ∧ eget e 2 = .int .i64 (m : Int) ∧ eget e 3 = .ptr h.length 0 0 1 ∧ eget e 9 = .slice 1 (rowsV zs) .any ∧ eget e 12 = v ∧ eget e 13 = .int .i64 ((n + 1 : Nat) : Int)) ∧ st = ⟨H, ws, []⟩) ?_ m _ _
          ⟨0, H, [], .slice 0 [] .nil, [], by omega, rfl, .inl ⟨rfl, rfl⟩, ⟨rfl, fun i x p h => by simp [termsT] at h⟩, by simp, low, by simp, ko, by simp only [go_sem, q1, q2, q3, q9, and_self, Int.natCast_one], rfl⟩
         rintro d e st ⟨n, H', ws, v, L, hd, hLl, A, hE, hTL, low', hw, hsg, ⟨f1, f2, f3, f9, f12, f13⟩, rfl⟩
         by_cases h1 : n + 1 ≤ m
         · obtain ⟨c, hc⟩ := Int.eq_ofNat_of_zero_le (cnt_nn hG ha (n + 1)).1
           have hmono := sum_mono hG ha (n := n + 1) (m := m) h1
           simp only [sumOf] at hmono
           simp (disch := first | omega | decide | simp only [go_sem]) only [go_sem, a60b2, f1, f2, f3, f9, f12, f13, h1]
           refine rterms_b1 hT hG ha h1 hm R hc (L0 := L) (by omega) hE hTL A low' hw hsg (by simp only [go_sem, f1]) (by simp only [go_sem, f3]) (by simp only [go_sem, f9]) (by simp only [go_sem, f12]) (by simp only [go_sem, f13]) (by simp only [go_sem]) fun e2 H2 ws2 v2 L2 A2 hE2 hTL2 hL2 low2 hw2 hsg2 hS2 g12 => ?_
           have g1 : eget e2 1 = .int .i64 (a : Int) := (hS2 1 (by omega)).trans (by simp only [go_sem, f1])
           have g2 : eget e2 2 = .int .i64 (m : Int) := (hS2 2 (by omega)).trans (by simp only [go_sem, f2])
           have g3 : eget e2 3 = .ptr h.length 0 0 1 := (hS2 3 (by omega)).trans (by simp only [go_sem, f3])
           have g9 : eget e2 9 = .slice 1 (rowsV zs) .any := (hS2 9 (by omega)).trans (by simp only [go_sem, f9])
           have g13 : eget e2 13 = .int .i64 ((n + 1 : Nat) : Int) := (hS2 13 (by omega)).trans (by simp only [go_sem, f13])
           clear hS2
           simp (disch := first | omega | decide | simp only [go_sem]) only [go_sem, g1, g2, g3, g9, g12, g13]
           exact ⟨d - 1, by omega, n + 1, _, _, v2, L2, by omega, by simp only [sumOf]; omega, A2, hE2, hTL2, low2, hw2, hsg2, ⟨rfl, rfl⟩, rfl⟩
         · have hn : n = m := by omega
           subst hn
           obtain ⟨z', m', rfl, hz'⟩ := A.slice
           obtain ⟨pes, wes⟩ := weaks_terms hTL
           simp (disch := first | omega | decide | simp only [go_sem]) only [go_sem, a60b2, f1, f2, f12, f13, h1]
           refine ⟨((z', L), 0), ?_, .inr (.inr (.inr ⟨hp, hsz, hle, hz', hE, rfl⟩))⟩
           have := tidy_ups (h := h) (v := .tuple [.slice z' L m', .int .i64 0]) (ws := ws) (ups := []) (by simp [PV.pure, pures, pes]) low' hw (by simp)
           simpa [PV.weak, weaks, wes] using this
end Go.Proofs.Tryz
/- brief: total. -/
namespace Go.Proofs.Tryz
open Go Go.AE
variable {T : Tbl} (hT : Std T)
include hT in
theorem brief_b0 {s : GSig} (hs : Fits s) {size : Int} {h : List AE.Obj} {L : Nat} {Q : AExit → List PV → St → Prop} {i n : Nat} {many : Int} {e : List PV} (hm : 0 ≤ many ∧ many ≤ 300)
 (e1 : eget e 1 = .int .i64 size) (e2 : eget e 2 = .ptr h.length 0 0 1) (e5 : eget e 5 = .int .i64 (i : Int)) (e6 : eget e 6 = .int .i64 many) (e7 : eget e 7 = .int .i64 (n : Int)) (hn : n ≤ 13) (e34 : eget e 34 = .int .i64 (L : Int)) (e35 : eget e 35 = .int .i64 (i : Int))
 (q1 : ∀ e', eget e' 4 = .bool false → Q .ret e' ⟨h ++ [.row 2 [encSig s]], [], []⟩)
 (q2 : ∀ e', eget e' 1 = .int .i64 size → eget e' 2 = .ptr h.length 0 0 1 → eget e' 34 = .int .i64 (L : Int) → eget e' 35 = .int .i64 (i : Int) → Q (.exit 2) e' ⟨h ++ [.row 2 [encSig s]], [], []⟩) : wpC T (.loop a27b0) e ⟨h ++ [.row 2 [encSig s]], [], []⟩ Q := by
 have hk : (h ++ [AE.Obj.row 2 [encSig s]])[h.length]? = some (.row 2 [encSig s]) := by simp
 have ll : loadAt true 2 (.ptr h.length 0 0 1) (h ++ [AE.Obj.row 2 [encSig s]]) = some (encSig s) := by rw [ld_at hk]; rfl
 refine wpC.loopM (fun d e st => ∃ (n : Nat) (many : Int), n + d = 13 ∧ (0 ≤ many ∧ many ≤ 300) ∧ eget e 1 = .int .i64 size ∧ eget e 2 = .ptr h.length 0 0 1 ∧ eget e 5 = .int .i64 (i : Int) ∧ eget e 6 = .int .i64 many ∧ eget e 7 = .int .i64 (n : Int) ∧ eget e 34 = .int .i64 (L : Int) ∧ eget e 35 = .int .i64 (i : Int) ∧ st = ⟨h ++ [.row 2 [encSig s]], [], []⟩) ?_ (13 - n) _ _ ⟨n, many, by omega, hm, e1, e2, e5, e6, e7, e34, e35, rfl⟩
 rintro d e st ⟨n, many, hd, hm, e1, e2, e5, e6, e7, e34, e35, rfl⟩
 by_cases h1 : (n : Int) ≤ min size 12
 · obtain ⟨r, hr, kr⟩ := rcount_tot hT hs (i : Int) (n : Int) (h ++ [.row 2 [encSig s]])
   obtain ⟨k1, k2⟩ := kr
   simp (disch := first | omega | decide | simp only [go_sem]) only [go_sem, a27b0, e1, e2, e5, e6, e7, e34, e35, h1, ll, cb hr, hT.prim, primOf, wrap64 (show -9223372036854775808 ≤ many + r.1 by omega) (show many + r.1 ≤ 9223372036854775807 by omega)]
   refine bifs (fun _ => q1 _ (by simp only [go_sem])) fun _ => bifs (fun _ => q1 _ (by simp only [go_sem])) fun h3 => ?_
   have h3' : many + r.1 ≤ 300 := by simpa using h3
   exact ⟨d - 1, by omega, n + 1, many + r.1, by omega, ⟨by omega, h3'⟩, rfl, rfl, trivial⟩
 · simp (disch := first | omega | decide | simp only [go_sem]) only [go_sem, a27b0, e1, e2, e5, e6, e7, e34, e35, h1]
   exact q2 _ (by simp only [go_sem, e1]) (by simp only [go_sem, e2]) (by simp only [go_sem, e34]) (by simp only [go_sem, e35])
include hT in
theorem brief_tot {s : GSig} (hsm : smallB s = true) (size : Int) (h : List AE.Obj) : ∃ r, Ev T 27 [encSig s, .int .i64 size] h (.val (.bool r), ⟨h, [], []⟩) ∧ True := by
 refine Ev.walkP (hT.sp _ (by decide)) ((hT.fn _).trans fn27) (hT.mode _) rfl ?_
 have hs := smallB_fits hsm
 have hs1 := hs.nS
 have hk : (h ++ [AE.Obj.row 2 [encSig s]])[h.length]? = some (.row 2 [encSig s]) := by simp
 have ll : loadAt true 2 (.ptr h.length 0 0 1) (h ++ [AE.Obj.row 2 [encSig s]]) = some (encSig s) := by rw [ld_at hk]; rfl
 have l0 : loadAt false 1 (.ptr h.length 0 0 1) (h ++ [AE.Obj.row 2 [encSig s]]) = some (.slice 1 (s.sorts.map .str) .any) := by rw [ld_at hk]; rfl
 have td : ∀ b, ∃ a, tidy 0 h.length (.val (.bool b)) ⟨h ++ [AE.Obj.row 2 [encSig s]], [], []⟩ = (.val (.bool a), ⟨h, [], []⟩) ∧ True := fun b => ⟨b, tidy_low rfl rfl ((Low.refl _ _).push (Nat.le_refl _)) (by simp), trivial⟩
 have sm := small_ev hT s (h ++ [AE.Obj.row 2 [encSig s]])
 rw [hsm] at sm
 obtain ⟨c, hc, _⟩ := rcheck_tot hT s hs (h ++ [AE.Obj.row 2 [encSig s]])
 have main : ∀ (Q : AExit → List PV → St → Prop) (e : List PV), eget e 1 = .int .i64 size → eget e 2 = .ptr h.length 0 0 1 → eget e 34 = .int .i64 (s.sorts.length : Int) → eget e 35 = .int .i64 0 →
  (∀ e', eget e' 4 = .bool false → Q .ret e' ⟨h ++ [.row 2 [encSig s]], [], []⟩) → (∀ e', Q (.exit 0) e' ⟨h ++ [.row 2 [encSig s]], [], []⟩) → wpC T (.loop a27b1) e ⟨h ++ [.row 2 [encSig s]], [], []⟩ Q := by
  intro Q e e1 e2 e34 e35 q1 q2
  refine wpC.loopM (fun d e st => ∃ i : Nat, i + d = s.sorts.length ∧ eget e 1 = .int .i64 size ∧ eget e 2 = .ptr h.length 0 0 1 ∧ eget e 34 = .int .i64 (s.sorts.length : Int) ∧ eget e 35 = .int .i64 (i : Int) ∧ st = ⟨h ++ [.row 2 [encSig s]], [], []⟩) ?_ s.sorts.length _ _ ⟨0, by omega, e1, e2, e34, e35, rfl⟩
  rintro d e st ⟨i, hd, e1, e2, e34, e35, rfl⟩
  by_cases h1 : i < s.sorts.length
  · simp (disch := first | omega | decide | simp only [go_sem]) only [go_sem, a27b1, e1, e2, e34, e35, h1]
    refine brief_b0 hT hs (i := i) (n := 1) (many := 0) (L := s.sorts.length) (size := size) (by omega) (by simp only [go_sem, e1]) (by simp only [go_sem, e2]) (by simp only [go_sem]) (by simp only [go_sem]) (by simp only [go_sem]; rfl) (by omega) (by simp only [go_sem, e34]) (by simp only [go_sem, e35]) (fun e' h4 => ?_) (fun e' e1 e2 e34 e35 => ?_)
    · exact q1 _ h4
    · simp (disch := first | omega | decide | simp only [go_sem]) only [go_sem, e1, e2, e34, e35]
      exact ⟨d - 1, by omega, i + 1, by omega, rfl, trivial⟩
  · simp (disch := first | omega | decide | simp only [go_sem]) only [go_sem, a27b1, e1, e2, e34, e35, h1]
    exact q2 _
 simp (disch := first | omega | decide | simp only [go_sem]) only [go_sem, ll, l0, cb sm, cb hc, hT.prim, primOf]
 repeat' first | exact ⟨_, rfl, trivial⟩ | exact td _ | refine bifs (fun _ => ?_) (fun _ => ?_)
 all_goals
  refine main _ _ (by simp only [go_sem]) (by simp only [go_sem]) (by simp only [go_sem]) (by simp only [go_sem]) (fun e' h4 => ?_) (fun e' => ?_)
  · simp (disch := first | omega | decide | simp only [go_sem]) only [go_sem, h4]
    exact ⟨_, rfl, trivial⟩
  · simp (disch := first | omega | decide | simp only [go_sem]) only [go_sem]
    exact ⟨_, rfl, trivial⟩
end Go.Proofs.Tryz
/- number: what it adds up. -/
namespace Go.Proofs.Tryz
open Go Go.AE
variable {T : Tbl} (hT : Std T) {s : GSig}
def App2 (H : List AE.Obj) (v w : PV) (xs ys : List Int) (lo : Nat) : Prop := (xs = [] ∧ ys = [] ∧ v = .slice 0 [] .nil ∧ w = .slice 0 [] .nil) ∨
 ∃ k1 k2, k1 ≠ k2 ∧ v = .slice 1 (xs.map encI) (.tok k1) ∧ w = .slice 1 (ys.map encI) (.tok k2) ∧ H[k1]? = some (.tok 1 xs.length) ∧ H[k2]? = some (.tok 1 ys.length) ∧ lo ≤ k1 ∧ lo ≤ k2
theorem App2.push {H : List AE.Obj} {o : AE.Obj} {v w : PV} {xs ys : List Int} {lo : Nat} (A : App2 H v w xs ys lo) : App2 (H ++ [o]) v w xs ys lo := by
 rcases A with h | ⟨k1, k2, h0, h1, h2, h3, h4, h5, h6⟩
 · exact .inl h
 · exact .inr ⟨k1, k2, h0, h1, h2, keepL h3, keepL h4, h5, h6⟩
end Go.Proofs.Tryz
/- number: the sums. -/
namespace Go.Proofs.Tryz
open Go Go.AE
variable {T : Tbl} (hT : Std T) {s : GSig}
@[go_sem] theorem encOp_sub2 {o : GOp} : sub false 1 (encOp o) 2 = some (.int .i64 o.res) := rfl
@[go_sem] theorem encOp_sub1 {o : GOp} : sub false 1 (encOp o) 1 = some (.slice 1 (o.args.map encI) .any) := rfl
end Go.Proofs.Tryz
/- number: whole. -/
namespace Go.Proofs.Tryz
open Go Go.AE
variable {T : Tbl} (hT : Std T) {s : GSig}
end Go.Proofs.Tryz
/- number, ground, Number. -/
namespace Go.Proofs.Tryz
open Go Go.AE
variable {T : Tbl} (hT : Std T) {s : GSig}
end Go.Proofs.Tryz
/- ground, Number. -/
namespace Go.Proofs.Tryz
open Go Go.AE
variable {T : Tbl} (hT : Std T) {s : GSig}
end Go.Proofs.Tryz
/- Two values of one term are the same. -/
namespace Go.Proofs.Tryz
open Go Go.AE
variable {T : Tbl} (hT : Std T)
include hT in
theorem equalE_ev {l : List Tm} {sz sz' : Nat} {es fs : List PV} (hs : es = [] ∨ sz = 3) (hs' : fs = [] ∨ sz' = 3) (hl : es.length = l.length) (hl' : fs.length = l.length) (hb : l.length < 5000) (he : ∀ (i : Nat) (x : Tm) (p : PV), l[i]? = some x → es[i]? = some p → Enc x p) (hf : ∀ (i : Nat) (x : Tm) (p : PV), l[i]? = some x → fs[i]? = some p → Enc x p)
 (ih : ∀ (i : Nat) (x : Tm) (p q : PV), l[i]? = some x → es[i]? = some p → fs[i]? = some q → ∀ h, Ev T 22 [p, q] h (.val (.bool true), ⟨h, [], []⟩)) (h : List AE.Obj) :
 Ev T 32 [.slice sz es .any, .slice sz' fs .any, .func (.func 22) [] []] h (.val (.bool true), ⟨h, [], []⟩) := by
 refine Ev.walk (hT.sp _ (by decide)) ((hT.fn _).trans fn32) (hT.mode _) rfl ?_
 have hlen : es.length = fs.length := by omega
 simp (disch := first | omega | decide | simp only [go_sem]) only [go_sem, bne_self_eq_false, hlen]
 refine wpC.loopM (fun n e st => ∃ (i : Nat) (H : List AE.Obj) (ws : List Nat), i + n = fs.length ∧ Low h.length h H ∧ (∀ k ∈ ws, h.length ≤ k) ∧ eget e 1 = .slice sz' fs .any ∧ eget e 2 = .func (.func 22) [] [] ∧ eget e 15 = .slice sz es .any ∧ eget e 16 = .int .i64 (fs.length : Int) ∧ eget e 17 = .int .i64 (i : Int) ∧ st = ⟨H, ws, []⟩) ?_ fs.length _ _ ⟨0, h, [], by omega, Low.refl _ _, by simp, by simp only [go_sem], by simp only [go_sem], by simp only [go_sem], by simp only [go_sem], by simp only [go_sem]; rfl, rfl⟩
 rintro n e st ⟨i, H, ws, hi, low, hw, e1, e2, e15, e16, e17, rfl⟩
 by_cases h1 : i < fs.length
 · have ga := get_lt (show i < es.length by omega)
   have gb := get_lt h1
   have gl := getD_mem (show i < l.length by omega)
   have tx := he i _ _ gl ga
   have ty := hf i _ _ gl gb
   have ex := ih i _ _ _ gl ga gb
   have hsz : sz = 3 := by
    rcases hs with rfl | h
    · simp at hlen; omega
    · exact h
   have hsz' : sz' = 3 := by
    rcases hs' with rfl | h
    · simp at h1
    · exact h
   subst hsz hsz'
   obtain ⟨c1, c2, c3, c4⟩ := tx.cells
   have tt := tx.facts.1
   have ts := tx.sub
   obtain ⟨d1, d2, d3, d4⟩ := ty.cells
   have dt := ty.facts.1
   have ds := ty.sub
   generalize fs[i] = y at *
   generalize es[i]'(by omega) = x at *
   have s1 := st_box (h := H) (ws := ws) (ups := []) (z := .agg [(.int .i64 0), (.int .i64 0), (.slice 0 [] .nil)]) (sz := 3) (c := x) c1 rfl c2 tt ⟨_, rfl⟩ c4
   have s2 := st_box (h := H ++ [AE.Obj.row 3 [x]]) (ws := wadd H.length ws) (ups := []) (z := .agg [(.int .i64 0), (.int .i64 0), (.slice 0 [] .nil)]) (sz := 3) (c := y) d1 rfl d2 dt ⟨_, rfl⟩ d4
   have b1 : (H ++ [AE.Obj.row 3 [x]])[H.length]? = some (.row 3 [x]) := by simp
   have b1' : ((H ++ [AE.Obj.row 3 [x]]) ++ [AE.Obj.row 3 [y]])[H.length]? = some (.row 3 [x]) := keepL b1
   have b2 : ((H ++ [AE.Obj.row 3 [x]]) ++ [AE.Obj.row 3 [y]])[(H ++ [AE.Obj.row 3 [x]]).length]? = some (.row 3 [y]) := by simp
   have low2 : Low h.length h ((H ++ [AE.Obj.row 3 [x]]) ++ [AE.Obj.row 3 [y]]) := by
    have := low.len
    exact (low.push (by omega)).push (by simp; omega)
   have hHl := low.len
   generalize hk2 : (H ++ [AE.Obj.row 3 [x]]).length = k2 at *
   have hk2' : h.length ≤ k2 := by rw [← hk2]; simp; omega
   generalize hH2 : (H ++ [AE.Obj.row 3 [x]]) ++ [AE.Obj.row 3 [y]] = H2 at *
   have l1 : loadAt true 3 (.ptr H.length 0 0 1) H2 = some x := by rw [ld_at b1', ts]
   have l2 : loadAt true 3 (.ptr k2 0 0 1) H2 = some y := by rw [ld_at b2, ds]
   simp (disch := first | omega | decide | simp only [go_sem]) only [go_sem, a32b0, e1, e2, e15, e16, e17, h1, ga, gb, s1, s2, hk2, ts, ds, l1, l2, cb (ex H2), hT.prim, primOf, List.length_cons, List.length_nil]
   exact ⟨n - 1, by omega, i + 1, H2, wadd k2 (wadd H.length ws), by omega, low2, wadd_low (by omega) (wadd_low (by omega) hw), rfl, rfl⟩
 · simp (disch := first | omega | decide | simp only [go_sem]) only [go_sem, a32b0, e1, e2, e15, e16, e17, h1]
   exact tidy_low rfl rfl low hw
include hT in
theorem sameE_ev {t : Tm} {p : PV} (hp : Enc t p) : ∀ q, Enc t q → t.nodes ≤ 4000 → ∀ h, Ev T 22 [p, q] h (.val (.bool true), ⟨h, [], []⟩) := by
 induction hp with
 | mk k n l sz es hs hl he ih =>
   intro q hq hn h
   obtain ⟨sz', fs, hs', hl', hf, rfl⟩ : ∃ (sz' : Nat) (fs : List PV), (fs = [] ∨ sz' = 3) ∧ fs.length = l.length ∧ (∀ (i : Nat) (x : Tm) (p : PV), l[i]? = some x → fs[i]? = some p → Enc x p) ∧ q = .agg [.int .i64 k, .int .i64 n, .slice sz' fs .any] := by
    cases hq with
    | mk k n l sz' fs hs' hl' hf => exact ⟨sz', fs, hs', hl', hf, rfl⟩
   refine Ev.walk (hT.sp _ (by decide)) ((hT.fn _).trans fn22) (hT.mode _) rfl ?_
   simp only [Tm.nodes] at hn
   have hll := nodesL_len l
   have b1 : (h ++ [AE.Obj.row 3 [PV.agg [.int .i64 k, .int .i64 n, .slice sz es .any]]])[h.length]? = some (.row 3 [PV.agg [.int .i64 k, .int .i64 n, .slice sz es .any]]) := by simp
   generalize hH1 : h ++ [AE.Obj.row 3 [PV.agg [.int .i64 k, .int .i64 n, .slice sz es .any]]] = H1 at *
   have b1' : (H1 ++ [AE.Obj.row 3 [PV.agg [.int .i64 k, .int .i64 n, .slice sz' fs .any]]])[h.length]? = some (.row 3 [PV.agg [.int .i64 k, .int .i64 n, .slice sz es .any]]) := keepL b1
   have b2 : (H1 ++ [AE.Obj.row 3 [PV.agg [.int .i64 k, .int .i64 n, .slice sz' fs .any]]])[H1.length]? = some (.row 3 [PV.agg [.int .i64 k, .int .i64 n, .slice sz' fs .any]]) := by simp
   have low : Low h.length h (H1 ++ [AE.Obj.row 3 [PV.agg [.int .i64 k, .int .i64 n, .slice sz' fs .any]]]) := by
    rw [← hH1]
    exact ((Low.refl _ _).push (Nat.le_refl _)).push (by simp)
   generalize hH2 : H1 ++ [AE.Obj.row 3 [PV.agg [.int .i64 k, .int .i64 n, .slice sz' fs .any]]] = H2 at *
   have l0 : ∀ j : Nat, loadAt false 1 (.ptr h.length 0 j 1) H2 = ([PV.int .i64 k, .int .i64 n, .slice sz es .any])[j]? := fun j => by rw [ld_at b1']; rfl
   have l1 : ∀ j : Nat, loadAt false 1 (.ptr H1.length 0 j 1) H2 = ([PV.int .i64 k, .int .i64 n, .slice sz' fs .any])[j]? := fun j => by rw [ld_at b2]; rfl
   have g0 : ([PV.int .i64 k, .int .i64 n, .slice sz es .any])[0]? = some (.int .i64 k) := rfl
   have g1 : ([PV.int .i64 k, .int .i64 n, .slice sz es .any])[1]? = some (.int .i64 n) := rfl
   have g2 : ([PV.int .i64 k, .int .i64 n, .slice sz es .any])[2]? = some (.slice sz es .any) := rfl
   have f0 : ([PV.int .i64 k, .int .i64 n, .slice sz' fs .any])[0]? = some (.int .i64 k) := rfl
   have f1 : ([PV.int .i64 k, .int .i64 n, .slice sz' fs .any])[1]? = some (.int .i64 n) := rfl
   have f2 : ([PV.int .i64 k, .int .i64 n, .slice sz' fs .any])[2]? = some (.slice sz' fs .any) := rfl
   have eq := equalE_ev hT hs hs' hl hl' (by omega) he hf (fun i x p q hx hp hq => by
    have hm := nodesL_mem (List.mem_of_getElem? hx)
    exact ih i x p hx hp q (hf i x q hx hq) (by omega)) H2
   have td : tidy 0 h.length (.val (.bool true)) ⟨H2, [], []⟩ = (.val (.bool true), ⟨h, [], []⟩) := tidy_low rfl rfl low (by simp)
   simp (disch := first | omega | decide | simp only [go_sem]) only [go_sem, hH1, hH2, l0, l1, g0, g1, g2, f0, f1, f2, cb eq, hT.prim, primOf, td, List.length_cons, List.length_nil]
end Go.Proofs.Tryz
/- few: its closures write one old object. -/
namespace Go.Proofs.Tryz
open Go Go.AE
variable {T : Tbl} (hT : Std T)
end Go.Proofs.Tryz
/- few. -/
namespace Go.Proofs.Tryz
open Go Go.AE
variable {T : Tbl} (hT : Std T)
end Go.Proofs.Tryz
/- ValsInverse: from a term to its number and back. -/
namespace Go.Proofs.Tryz
open Go Go.AE
variable {T : Tbl} (hT : Std T) {s : GSig}
def Nth6 (T : Tbl) (s : GSig) : Prop := ∀ (a m : Nat) (n : Int), a < s.sorts.length → 1 ≤ m → m ≤ 60 → 0 ≤ n → n < cntOf s a m → ∃ p, Nth91 s a m n p ∧ ∀ h, Ev T 91 [encTab s, .int .i64 (a : Int), .int .i64 (m : Int), .int .i64 n] h (.val p, ⟨h, [], []⟩)
end Go.Proofs.Tryz
