/- Texts of the proof, one behind the other: ValN16, ValEntT. -/
import Derived.Test.YtekepgfmgeophaaGreatPartAO
import Derived.Test.YtekepgfmgeophaaGreatPartAH
import Derived.Test.YtekepgfmgeophaaGreatPartAN
set_option linter.unusedVariables false
set_option linter.unusedSimpArgs false
/- The law ValsInverse, whole. -/
namespace Go.Proofs.Tryz
open Go Go.AE
variable {T : Tbl} (hT : Std T) {s : GSig}

theorem opStep_c0 {p i a : Nat} {t : Tab} {o : GOp} : (((opStep p t i o).1.getD a []).getD 0 0) = ((t.1.getD a []).getD 0 0) := by
  simp only [opStep]
  by_cases hr : o.res.toNat < t.1.length
  · by_cases ha : o.res.toNat = a
    · subst ha
      rw [getD_set hr, if_pos rfl, getD_set_ne (by omega)]
    · rw [getD_set_ne ha]
  · rw [List.set_eq_of_length_le (by omega)]
theorem opsFrom_c0 {p a : Nat} : ∀ (os : List GOp) (i : Nat) (t : Tab), (((opsFrom p os i t).1.getD a []).getD 0 0) = ((t.1.getD a []).getD 0 0)
  | [], _, _ => rfl
  | o :: os, i, t => by simp only [opsFrom]; rw [opsFrom_c0 os, opStep_c0]
theorem sizesFrom_c0 {ops : List GOp} {a : Nat} : ∀ (d p : Nat) (t : Tab), (((sizesFrom ops d p t).1.getD a []).getD 0 0) = ((t.1.getD a []).getD 0 0)
  | 0, _, _ => rfl
  | d + 1, p, t => by simp only [sizesFrom]; rw [sizesFrom_c0 d, opsFrom_c0]
theorem cnt0 (a : Nat) : cntOf s a 0 = 0 := by
  unfold cntOf tabOf
  rw [sizesFrom_c0]
  simp only [tab0, zeros, List.getD_eq_getElem?_getD, List.getElem?_replicate]
  split
  · simp only [Option.getD_some, List.getElem?_replicate]
    split <;> rfl
  · rfl
include hT in
theorem inv_i (hs : GOk s) (h8 : ∀ o ∈ s.ops, o.args.length ≤ 8) (E87 : ∀ h, Ev T 87 [encSig s] h (.val (.int .i64 0), ⟨h, [], []⟩)) (E91 : Nth6 T s) {a z : Nat} {k : Int} (ha : a < s.sorts.length) (hz : z ≤ 60) (hk : 0 ≤ k ∧ k < cntOf s a z) {h H : List AE.Obj} {ws : List Nat} {lo k5 k9 : Nat} {P : AE.Obj} {e : List PV} {Q : AExit → List PV → St → Prop}
    (k5' : H[k5]? = some (.row 2 [encSig s])) (k9' : H[k9]? = some P) (low : Low lo h H) (hlo : lo ≤ H.length) (hw : ∀ x ∈ ws, lo ≤ x) (e1 : eget e 1 = .int .i64 (a : Int)) (e2 : eget e 2 = .int .i64 (z : Int)) (e3 : eget e 3 = .int .i64 k) (e5 : eget e 5 = .ptr k5 0 0 1) (e9 : eget e 9 = .ptr k9 0 0 1)
    (hQ : ∀ e' H' ws', eget e' 5 = .ptr k5 0 0 1 → eget e' 9 = .ptr k9 0 0 1 → H'[k5]? = some (.row 2 [encSig s]) → H'[k9]? = some P → Low lo h H' → lo ≤ H'.length → (∀ x ∈ ws', lo ≤ x) → Q .normal e' ⟨H', ws', []⟩) : wpC T a6i e ⟨H, ws, []⟩ Q := by
  have l5 : loadAt true 2 (.ptr k5 0 0 1) H = some (encSig s) := by rw [ld_at k5']; rfl
  have hz1 : 1 ≤ z := by
    rcases Nat.eq_zero_or_pos z with h | h
    · subst h
      have := cnt0 (s := s) a
      omega
    · exact h
  obtain ⟨q, ⟨x, hx, hxw, hxn, hxq⟩, e91⟩ := E91 a z k ha hz1 hz hk.1 hk.2
  obtain ⟨q1, q2⟩ := cnt_ok hs ha
  have hkT : k < 1099511627776 := by
    have := (q1.get (show z < 61 by omega)).2.2
    have := hk.2
    unfold cntOf at this
    omega
  have hsr := sortR_of h8 hxw
  have hnr : numR s x = (k, 0) := by simp [numR, hsr, hxn, hz, hxq, hkT]
  have c18 := fun h => nth_ok hT hs E87 ha hz hk (hx.isT (by omega)) e91 h
  have c20 := fun h => numb_ev hT hs E87 hx (by omega) h
  have c45 := fun h => sort_ev hT hs E87 hx (by omega) h
  rw [hnr] at c20
  rw [hsr] at c45
  obtain ⟨d1, d2, d3, d4⟩ := hx.cells
  have sb := fun ws => st_box (h := H) (ws := ws) (ups := []) (z := .agg [(.int .i64 0), (.int .i64 0), (.slice 0 [] .nil)]) (sz := 3) (c := q) d1 rfl d2 hx.facts.1 ⟨_, rfl⟩ d4
  have kq : (H ++ [AE.Obj.row 3 [q]])[H.length]? = some (.row 3 [q]) := by simp
  have j5 : (H ++ [AE.Obj.row 3 [q]])[k5]? = some (.row 2 [encSig s]) := keepL k5'
  have j9 : (H ++ [AE.Obj.row 3 [q]])[k9]? = some P := keepL k9'
  have low2 : Low lo h (H ++ [AE.Obj.row 3 [q]]) := low.push hlo
  have hlo2 : lo ≤ (H ++ [AE.Obj.row 3 [q]]).length := by simp; omega
  generalize hH1 : H ++ [AE.Obj.row 3 [q]] = H1 at *
  have lq : loadAt true 3 (.ptr H.length 0 0 1) H1 = some q := by rw [ld_at kq]; exact hx.sub
  have m5 : loadAt true 2 (.ptr k5 0 0 1) H1 = some (encSig s) := by rw [ld_at j5]; rfl
  obtain ⟨d, c46, _⟩ := size_ev hT hx (by omega) H1
  rw [hxn] at c46
  simp (disch := first | omega | decide | (simp only [eget_eput', ↓reduceIte, Nat.reduceEqDiff]; done)) only [go_sem, ↓reduceIte, Nat.reduceEqDiff, Nat.reduceAdd, Nat.reduceMul, reduceCtorEq, a6i, e1, e2, e3, e5, e9, l5, cb (c18 _), sb, hH1, lq, m5, cb (c20 _), cb (c45 _), cb c46, bne_self_eq_false, beq_self_eq_true, List.length_cons, List.length_nil, hT.prim, primOf]
  exact hQ _ _ _ (by simp (disch := first | omega | decide | (simp only [eget_eput', ↓reduceIte, Nat.reduceEqDiff]; done)) only [go_sem, ↓reduceIte, Nat.reduceEqDiff, Nat.reduceAdd, Nat.reduceMul, reduceCtorEq, e5]) (by simp (disch := first | omega | decide | (simp only [eget_eput', ↓reduceIte, Nat.reduceEqDiff]; done)) only [go_sem, ↓reduceIte, Nat.reduceEqDiff, Nat.reduceAdd, Nat.reduceMul, reduceCtorEq, e9]) j5 j9 low2 hlo2 (wadd_low hlo hw)

include hT in
theorem inverse_law (E15 : ∀ h, Ev T 15 [] h (.val (.bool true), ⟨h, [], []⟩))
    (E87 : Fits s → ∃ r : Int, (r = 0 → okOps8 s.ops s.sorts.length) ∧ ∀ h, Ev T 87 [encSig s] h (.val (.int .i64 r), ⟨h, [], []⟩))
    (E91 : GOk s → Nth6 T s) (sort size k : Int) {t : Tm} {p : PV} (ht : Enc t p) (h : List AE.Obj) : Ev T 6 [encSig s, .int .i64 sort, .int .i64 size, .int .i64 k, p] h (.val (.bool true), ⟨h, [], []⟩) := by
  refine Ev.walk (hT.sp _ (by decide)) ((hT.fn _).trans fn6) (hT.mode _) rfl ?_
  obtain ⟨d1, d2, d3, d4⟩ := ht.cells
  have hsub := ht.sub
  have k5' : ((h ++ [AE.Obj.row 2 [encSig s]]) ++ [AE.Obj.row 3 [p]])[h.length]? = some (.row 2 [encSig s]) := keepL (by simp)
  have k9' : ((h ++ [AE.Obj.row 2 [encSig s]]) ++ [AE.Obj.row 3 [p]])[(h ++ [AE.Obj.row 2 [encSig s]]).length]? = some (.row 3 [p]) := by simp
  have low : Low h.length h ((h ++ [AE.Obj.row 2 [encSig s]]) ++ [AE.Obj.row 3 [p]]) := ((Low.refl _ _).push (Nat.le_refl _)).push (by simp)
  have hlo : h.length ≤ ((h ++ [AE.Obj.row 2 [encSig s]]) ++ [AE.Obj.row 3 [p]]).length := by simp
  generalize hk9 : (h ++ [AE.Obj.row 2 [encSig s]]).length = k9 at *
  generalize hH : (h ++ [AE.Obj.row 2 [encSig s]]) ++ [AE.Obj.row 3 [p]] = H at *
  have l5 : loadAt true 2 (.ptr h.length 0 0 1) H = some (encSig s) := by rw [ld_at k5']; rfl
  have l9 : loadAt true 3 (.ptr k9 0 0 1) H = some p := by rw [ld_at k9']; exact hsub
  have td : tidy 0 h.length (.val (.bool true)) ⟨H, [], []⟩ = (.val (.bool true), ⟨h, [], []⟩) := tidy_low rfl rfl low (by simp)
  have c16 := fun h => small_ev hT s h
  have fe : fillE 3 (List.replicate 1 (.agg [(.int .i64 0), (.int .i64 0), (.slice 0 [] .nil)])) [(0, p)] = some [p] := by simp [fillE, d1, d3]
  cases hsm : smallB s
  · rw [hsm] at c16
    simp (disch := first | omega | decide | (simp only [eget_eput', ↓reduceIte, Nat.reduceEqDiff]; done)) only [go_sem, ↓reduceIte, Nat.reduceEqDiff, Nat.reduceAdd, Nat.reduceMul, reduceCtorEq, hk9, hH, d1, d3, l5, cb (E15 _), cb (c16 _), hT.prim, primOf, td]
  · rw [hsm] at c16
    have hs := smallB_fits hsm
    obtain ⟨b, c17, hb⟩ := few_ev hT ht H
    cases b
    · simp (disch := first | omega | decide | (simp only [eget_eput', ↓reduceIte, Nat.reduceEqDiff]; done)) only [go_sem, ↓reduceIte, Nat.reduceEqDiff, Nat.reduceAdd, Nat.reduceMul, reduceCtorEq, hk9, hH, d1, d3, l5, l9, cb (E15 _), cb (c16 _), fe, cb c17, hT.prim, primOf, td]
    · have hn := hb rfl
      obtain ⟨r, kr, e87⟩ := E87 hs
      by_cases hr : r = 0
      · subst hr
        have h8 := kr rfl
        have hg : GOk s := ⟨h8.ops, hs.nS, hs.nO⟩
        have h88 : ∀ o ∈ s.ops, o.args.length ≤ 8 := fun o ho => (h8 o ho).2.2
        have e91 := E91 hg
        cases hok : isSortB sort s.sorts.length && sizedB size
        · have eC := fun h => count_arg hT e87 hok h
          have b1 : ((1 : Int) == 0) = false := rfl
          simp (disch := first | omega | decide | (simp only [eget_eput', ↓reduceIte, Nat.reduceEqDiff]; done)) only [go_sem, ↓reduceIte, Nat.reduceEqDiff, Nat.reduceAdd, Nat.reduceMul, reduceCtorEq, hk9, hH, d1, d3, l5, l9, cb (E15 _), cb (c16 _), fe, cb c17, hT.prim, primOf, cb (eC _), b1]
          refine inv_t_ok hT hg e87 e91 ht hn k5' k9' low hlo (by simp) (by simp (disch := first | omega | decide | (simp only [eget_eput', ↓reduceIte, Nat.reduceEqDiff]; done)) only [go_sem, ↓reduceIte, Nat.reduceEqDiff, Nat.reduceAdd, Nat.reduceMul, reduceCtorEq]) (by simp (disch := first | omega | decide | (simp only [eget_eput', ↓reduceIte, Nat.reduceEqDiff]; done)) only [go_sem, ↓reduceIte, Nat.reduceEqDiff, Nat.reduceAdd, Nat.reduceMul, reduceCtorEq]) fun e' H' ws' e10 low' hw' => ?_
          simp (disch := first | omega | decide | (simp only [eget_eput', ↓reduceIte, Nat.reduceEqDiff]; done)) only [go_sem, ↓reduceIte, Nat.reduceEqDiff, Nat.reduceAdd, Nat.reduceMul, reduceCtorEq, e10]
          exact tidy_low rfl rfl low' hw'
        · simp only [isSortB, sizedB, Bool.and_eq_true, decide_eq_true_eq] at hok
          obtain ⟨⟨ha0, ha1⟩, hz0, hz1⟩ := hok
          obtain ⟨a, rfl⟩ := Int.eq_ofNat_of_zero_le ha0
          obtain ⟨z, rfl⟩ := Int.eq_ofNat_of_zero_le hz0
          have ha : a < s.sorts.length := by omega
          have hz : z ≤ 60 := by omega
          have eC := fun h => count_ok hT hg e87 ha hz h
          by_cases hk0 : 0 ≤ k
          · by_cases hk1 : k < cntOf s a z
            · simp (disch := first | omega | decide | (simp only [eget_eput', ↓reduceIte, Nat.reduceEqDiff]; done)) only [go_sem, ↓reduceIte, Nat.reduceEqDiff, Nat.reduceAdd, Nat.reduceMul, reduceCtorEq, hk9, hH, d1, d3, l5, l9, cb (E15 _), cb (c16 _), fe, cb c17, hT.prim, primOf, cb (eC _), beq_self_eq_true, hk0, hk1]
              refine inv_i hT hg h88 e87 e91 ha hz ⟨hk0, hk1⟩ k5' k9' low hlo (by simp) (by simp (disch := first | omega | decide | (simp only [eget_eput', ↓reduceIte, Nat.reduceEqDiff]; done)) only [go_sem, ↓reduceIte, Nat.reduceEqDiff, Nat.reduceAdd, Nat.reduceMul, reduceCtorEq]) (by simp (disch := first | omega | decide | (simp only [eget_eput', ↓reduceIte, Nat.reduceEqDiff]; done)) only [go_sem, ↓reduceIte, Nat.reduceEqDiff, Nat.reduceAdd, Nat.reduceMul, reduceCtorEq]) (by simp (disch := first | omega | decide | (simp only [eget_eput', ↓reduceIte, Nat.reduceEqDiff]; done)) only [go_sem, ↓reduceIte, Nat.reduceEqDiff, Nat.reduceAdd, Nat.reduceMul, reduceCtorEq]) (by simp (disch := first | omega | decide | (simp only [eget_eput', ↓reduceIte, Nat.reduceEqDiff]; done)) only [go_sem, ↓reduceIte, Nat.reduceEqDiff, Nat.reduceAdd, Nat.reduceMul, reduceCtorEq]) (by simp (disch := first | omega | decide | (simp only [eget_eput', ↓reduceIte, Nat.reduceEqDiff]; done)) only [go_sem, ↓reduceIte, Nat.reduceEqDiff, Nat.reduceAdd, Nat.reduceMul, reduceCtorEq]) fun e' H' ws' g5 g9 j5 j9 low' hlo' hw' => ?_
              refine inv_t_ok hT hg e87 e91 ht hn j5 j9 low' hlo' hw' g5 g9 fun e' H' ws' e10 low' hw' => ?_
              simp (disch := first | omega | decide | (simp only [eget_eput', ↓reduceIte, Nat.reduceEqDiff]; done)) only [go_sem, ↓reduceIte, Nat.reduceEqDiff, Nat.reduceAdd, Nat.reduceMul, reduceCtorEq, e10]
              exact tidy_low rfl rfl low' hw'
            · simp (disch := first | omega | decide | (simp only [eget_eput', ↓reduceIte, Nat.reduceEqDiff]; done)) only [go_sem, ↓reduceIte, Nat.reduceEqDiff, Nat.reduceAdd, Nat.reduceMul, reduceCtorEq, hk9, hH, d1, d3, l5, l9, cb (E15 _), cb (c16 _), fe, cb c17, hT.prim, primOf, cb (eC _), beq_self_eq_true, hk0, hk1]
              refine inv_t_ok hT hg e87 e91 ht hn k5' k9' low hlo (by simp) (by simp (disch := first | omega | decide | (simp only [eget_eput', ↓reduceIte, Nat.reduceEqDiff]; done)) only [go_sem, ↓reduceIte, Nat.reduceEqDiff, Nat.reduceAdd, Nat.reduceMul, reduceCtorEq]) (by simp (disch := first | omega | decide | (simp only [eget_eput', ↓reduceIte, Nat.reduceEqDiff]; done)) only [go_sem, ↓reduceIte, Nat.reduceEqDiff, Nat.reduceAdd, Nat.reduceMul, reduceCtorEq]) fun e' H' ws' e10 low' hw' => ?_
              simp (disch := first | omega | decide | (simp only [eget_eput', ↓reduceIte, Nat.reduceEqDiff]; done)) only [go_sem, ↓reduceIte, Nat.reduceEqDiff, Nat.reduceAdd, Nat.reduceMul, reduceCtorEq, e10]
              exact tidy_low rfl rfl low' hw'
          · simp (disch := first | omega | decide | (simp only [eget_eput', ↓reduceIte, Nat.reduceEqDiff]; done)) only [go_sem, ↓reduceIte, Nat.reduceEqDiff, Nat.reduceAdd, Nat.reduceMul, reduceCtorEq, hk9, hH, d1, d3, l5, l9, cb (E15 _), cb (c16 _), fe, cb c17, hT.prim, primOf, cb (eC _), beq_self_eq_true, hk0]
            refine inv_t_ok hT hg e87 e91 ht hn k5' k9' low hlo (by simp) (by simp (disch := first | omega | decide | (simp only [eget_eput', ↓reduceIte, Nat.reduceEqDiff]; done)) only [go_sem, ↓reduceIte, Nat.reduceEqDiff, Nat.reduceAdd, Nat.reduceMul, reduceCtorEq]) (by simp (disch := first | omega | decide | (simp only [eget_eput', ↓reduceIte, Nat.reduceEqDiff]; done)) only [go_sem, ↓reduceIte, Nat.reduceEqDiff, Nat.reduceAdd, Nat.reduceMul, reduceCtorEq]) fun e' H' ws' e10 low' hw' => ?_
            simp (disch := first | omega | decide | (simp only [eget_eput', ↓reduceIte, Nat.reduceEqDiff]; done)) only [go_sem, ↓reduceIte, Nat.reduceEqDiff, Nat.reduceAdd, Nat.reduceMul, reduceCtorEq, e10]
            exact tidy_low rfl rfl low' hw'
      · have eC := fun h => count_err hT hr e87 sort size h
        have b1 : (r == 0) = false := by simpa using hr
        simp (disch := first | omega | decide | (simp only [eget_eput', ↓reduceIte, Nat.reduceEqDiff]; done)) only [go_sem, ↓reduceIte, Nat.reduceEqDiff, Nat.reduceAdd, Nat.reduceMul, reduceCtorEq, hk9, hH, d1, d3, l5, l9, cb (E15 _), cb (c16 _), fe, cb c17, hT.prim, primOf, cb (eC _), b1]
        refine inv_t_err hT hr e87 ht k5' k9' low (by simp) (by simp (disch := first | omega | decide | (simp only [eget_eput', ↓reduceIte, Nat.reduceEqDiff]; done)) only [go_sem, ↓reduceIte, Nat.reduceEqDiff, Nat.reduceAdd, Nat.reduceMul, reduceCtorEq]) (by simp (disch := first | omega | decide | (simp only [eget_eput', ↓reduceIte, Nat.reduceEqDiff]; done)) only [go_sem, ↓reduceIte, Nat.reduceEqDiff, Nat.reduceAdd, Nat.reduceMul, reduceCtorEq]) fun e' H' ws' e10 low' hw' => ?_
        simp (disch := first | omega | decide | (simp only [eget_eput', ↓reduceIte, Nat.reduceEqDiff]; done)) only [go_sem, ↓reduceIte, Nat.reduceEqDiff, Nat.reduceAdd, Nat.reduceMul, reduceCtorEq, e10]
        exact tidy_low rfl rfl low' hw'
end Go.Proofs.Tryz
/- From the reading of a term to its value. -/
namespace Go.Proofs.Tryz
open Go Go.AE

mutual
def encT : Tm → PV
  | .mk k n l => .agg [.int .i64 k, .int .i64 n, .slice 3 (encTL l) .any]
def encTL : List Tm → List PV
  | [] => []
  | t :: l => encT t :: encTL l
end
theorem encTL_map : ∀ l : List Tm, encTL l = l.map encT
  | [] => rfl
  | t :: l => by rw [encTL, encTL_map l]; rfl
mutual
theorem enc_encT : ∀ t : Tm, Enc t (encT t)
  | .mk k n l => by
    rw [encT]
    obtain ⟨h1, h2⟩ := enc_encTL l
    exact .mk k n l 3 (encTL l) (.inr rfl) h1 h2
theorem enc_encTL : ∀ l : List Tm, (encTL l).length = l.length ∧ ∀ (i : Nat) (x : Tm) (p : PV), l[i]? = some x → (encTL l)[i]? = some p → Enc x p
  | [] => ⟨rfl, fun i x p h => by simp at h⟩
  | t :: l => by
    obtain ⟨h1, h2⟩ := enc_encTL l
    have h0 := enc_encT t
    rw [encTL]
    refine ⟨by simp [h1], fun i x p hx hp => ?_⟩
    cases i with
    | zero => simp at hx hp; subst hx hp; exact h0
    | succ i => exact h2 i x p (by simpa using hx) (by simpa using hp)
end
theorem cells28 : Tryz.prog.cellsOf 28 = 3 := by kernel_rfl
theorem cells26 : Tryz.prog.cellsOf 26 = 1 := by kernel_rfl
section
variable {H : Type} {enc : TypeId × Value → H} {w : World} {base : Nat} {spare : Nat → Bool} {held : Bool} {ρ : Nat → Row}

theorem encT_cells (t : Tm) : (encT t).cells.length = 3 := by
  cases t
  rw [encT]; rfl
theorem rd_term : ∀ n : Nat, Rd enc Tryz.prog w base spare held ρ n 28 (fun _ : Tm => True) encT
  | 0 => fun fuel cs d ps hle h => by
    have : fuel = 0 := by omega
    subst this
    simp [DataW.trod] at h
  | n + 1 => fun fuel cs d ps hle h => by
    cases fuel with
    | zero => simp [DataW.trod] at h
    | succ fuel =>
      have Pt := trod_struct (ρ := ρ) Tryz.underlying28 (by simp [fieldsAt, cells3]) (by simp [sumCells, cells3, cells26, cells28]) h
      cases Pt with
      | cons f fs c1 c' d1 p1 h1 l1 r1 =>
        cases r1 with
        | cons f fs c2 c' d2 p2 h2 l2 r2 =>
          cases r2 with
          | cons f fs c3 c' d3 p3 h3 l3 r3 =>
            cases r3
            obtain ⟨x1, _, k1⟩ := rd_int (n := fuel) (ρ := ρ) Tryz.underlying3 fuel _ _ _ (Nat.le_refl _) h1
            obtain ⟨x2, _, k2⟩ := rd_int (n := fuel) (ρ := ρ) Tryz.underlying3 fuel _ _ _ (Nat.le_refl _) h2
            obtain ⟨x3, _, k3⟩ := rd_slice (n := n) (ρ := ρ) (en := encT) Tryz.underlying26 cells28 (by decide) (fun t _ => encT_cells t) (rd_term n) fuel _ _ _ (by omega) h3
            refine ⟨.mk x1 x2 x3, trivial, ?_⟩
            rw [List.append_nil, encT, encTL_map]
            exact k1.append (k2.append k3)
/-- A term that comes in. -/
theorem term_in {cs : Array Value} {d : DataW H} {ps : List MemPlace} (h : DataW.Trod enc Tryz.prog w base spare held 28 (.agg cs) d ps) : ∃ (t : Tm) (p : PV), Enc t p ∧ VR w (oldI w) noD ρ p (.agg cs) := by
  obtain ⟨fuel, hf⟩ := h
  obtain ⟨t, _, k1, k2⟩ := rd_term (ρ := ρ) fuel fuel _ _ _ (Nat.le_refl _) hf
  refine ⟨t, encT t, enc_encT t, ?_⟩
  cases t with
  | mk k n l =>
    rw [encT] at k1 k2 ⊢
    exact .agg _ cs (by simpa [Value.cells, PV.cells] using k1) fun j => k2 j
end
end Go.Proofs.Tryz
