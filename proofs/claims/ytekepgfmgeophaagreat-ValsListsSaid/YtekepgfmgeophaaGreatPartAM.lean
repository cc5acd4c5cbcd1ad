/- The specification's check of a signature ends; what it accepts has its sorts in range. -/
import Derived.Test.YtekepgfmgeophaaGreatPartAL
set_option linter.unusedVariables false
set_option linter.unusedSimpArgs false
namespace Go.Proofs.Tryz
open Go Go.AE
variable {T : Tbl} (hT : Std T)

theorem get_str {l : List ByteArray} {i : Nat} (h : i < l.length) : (l.map PV.str)[i]? = some (.str l[i]) := by simp [h]
theorem get_op {l : List GOp} {i : Nat} (h : i < l.length) : (l.map encOp)[i]? = some (encOp l[i]) := by simp [h]

include hT in
theorem rissig_tot (s : GSig) (hs : Fits s) (h : List AE.Obj) : ∃ r, Ev T 168 [encSig s] h (.val (.bool r), ⟨h, [], []⟩) ∧ (r = true → okOps s.ops s.sorts.length) := by
  refine Ev.walkP (hT.sp _ (by decide)) ((hT.fn _).trans fn168) (hT.mode _) rfl ?_
  have hs1 := hs.nS
  have hs2 := hs.nO
  have ss := fun i (hi : i < s.sorts.length) => hs.sorts _ (List.getElem_mem hi)
  have so := fun i (hi : i < s.ops.length) => hs.ops _ (List.getElem_mem hi)
  simp (disch := first | omega | decide | (simp only [eget_eput', ↓reduceIte, Nat.reduceEqDiff]; done)) only [go_sem, ↓reduceIte, Nat.reduceEqDiff, Nat.reduceAdd, Nat.reduceMul, reduceCtorEq]
  have main : ∀ (Q : AExit → List PV → St → Prop) (e : List PV), eget e 1 = .ptr h.length 0 0 1 → eget e 3 = .int .i64 0 → (∀ e', eget e' 2 = .bool false → Q .ret e' ⟨h ++ [.row 2 [encSig s]], [], []⟩) → (∀ e', eget e' 1 = .ptr h.length 0 0 1 → Q (.exit 0) e' ⟨h ++ [.row 2 [encSig s]], [], []⟩) → wpC T (.loop a168b1) e ⟨h ++ [.row 2 [encSig s]], [], []⟩ Q := by
    intro Q e e1 e3 q1 q2
    refine wpC.loopM (fun n e st => ∃ i : Nat, i + n = s.sorts.length ∧ eget e 1 = .ptr h.length 0 0 1 ∧ eget e 3 = .int .i64 (i : Int) ∧ st = ⟨h ++ [.row 2 [encSig s]], [], []⟩) ?_ s.sorts.length _ _ ⟨0, by simp, e1, e3, rfl⟩
    rintro n e st ⟨i, hi, e1, e3, rfl⟩
    by_cases h1 : i < s.sorts.length
    · have ga := get_str h1
      have := ss i h1
      obtain ⟨m, hm, _⟩ := blanks_tot hT s.sorts[i] (by omega) (h ++ [.row 2 [encSig s]])
      obtain ⟨b, hb, _⟩ := rname_tot hT s.sorts[i] (by omega) (h ++ [.row 2 [encSig s]])
      simp (disch := first | omega | decide | (simp only [eget_eput', ↓reduceIte, Nat.reduceEqDiff]; done)) only [go_sem, ↓reduceIte, Nat.reduceEqDiff, Nat.reduceAdd, Nat.reduceMul, reduceCtorEq, a168b1, e1, e3, h1, ga, cb hm, cb hb, hT.prim, primOf]
      refine bifs (fun _ => q1 _ (by simp (disch := first | omega | decide | (simp only [eget_eput', ↓reduceIte, Nat.reduceEqDiff]; done)) only [go_sem, ↓reduceIte, Nat.reduceEqDiff, Nat.reduceAdd, Nat.reduceMul, reduceCtorEq])) (fun _ => bifs (fun _ => q1 _ (by simp (disch := first | omega | decide | (simp only [eget_eput', ↓reduceIte, Nat.reduceEqDiff]; done)) only [go_sem, ↓reduceIte, Nat.reduceEqDiff, Nat.reduceAdd, Nat.reduceMul, reduceCtorEq])) fun _ => ?_)
      refine wpC.loopM (fun n e st => ∃ k : Nat, k + n = i ∧ eget e 1 = .ptr h.length 0 0 1 ∧ eget e 3 = .int .i64 (i : Int) ∧ eget e 4 = .int .i64 (k : Int) ∧ st = ⟨h ++ [.row 2 [encSig s]], [], []⟩) ?_ i _ _ ⟨0, by simp, by simp (disch := first | omega | decide | (simp only [eget_eput', ↓reduceIte, Nat.reduceEqDiff]; done)) only [go_sem, ↓reduceIte, Nat.reduceEqDiff, Nat.reduceAdd, Nat.reduceMul, reduceCtorEq, e1], by simp (disch := first | omega | decide | (simp only [eget_eput', ↓reduceIte, Nat.reduceEqDiff]; done)) only [go_sem, ↓reduceIte, Nat.reduceEqDiff, Nat.reduceAdd, Nat.reduceMul, reduceCtorEq, e3], by simp (disch := first | omega | decide) only [go_sem, ↓reduceIte, Nat.reduceEqDiff, Nat.reduceAdd, Nat.reduceMul, reduceCtorEq]; rfl, rfl⟩
      rintro d e st ⟨k, hk, e1, e3, e4, rfl⟩
      by_cases h2 : k < i
      · have gk := get_str (l := s.sorts) (i := k) (by omega)
        simp (disch := first | omega | decide | (simp only [eget_eput', ↓reduceIte, Nat.reduceEqDiff]; done)) only [go_sem, ↓reduceIte, Nat.reduceEqDiff, Nat.reduceAdd, Nat.reduceMul, reduceCtorEq, a168b0, e1, e3, e4, h2, ga, gk]
        refine bifs (fun _ => q1 _ (by simp (disch := first | omega | decide | (simp only [eget_eput', ↓reduceIte, Nat.reduceEqDiff]; done)) only [go_sem, ↓reduceIte, Nat.reduceEqDiff, Nat.reduceAdd, Nat.reduceMul, reduceCtorEq])) (fun _ => ⟨d - 1, by omega, k + 1, by omega, rfl, trivial⟩)
      · simp (disch := first | omega | decide | (simp only [eget_eput', ↓reduceIte, Nat.reduceEqDiff]; done)) only [go_sem, ↓reduceIte, Nat.reduceEqDiff, Nat.reduceAdd, Nat.reduceMul, reduceCtorEq, a168b0, e1, e3, e4, h2]
        exact ⟨n - 1, by omega, i + 1, by omega, rfl, trivial⟩
    · simp (disch := first | omega | decide | (simp only [eget_eput', ↓reduceIte, Nat.reduceEqDiff]; done)) only [go_sem, ↓reduceIte, Nat.reduceEqDiff, Nat.reduceAdd, Nat.reduceMul, reduceCtorEq, a168b1, e1, e3, h1]
      exact q2 _ (by simp (disch := first | omega | decide | (simp only [eget_eput', ↓reduceIte, Nat.reduceEqDiff]; done)) only [go_sem, ↓reduceIte, Nat.reduceEqDiff, Nat.reduceAdd, Nat.reduceMul, reduceCtorEq, e1])
  have main2 : ∀ (Q : AExit → List PV → St → Prop) (e : List PV), eget e 1 = .ptr h.length 0 0 1 → eget e 5 = .int .i64 0 → (∀ e', eget e' 2 = .bool false → Q .ret e' ⟨h ++ [.row 2 [encSig s]], [], []⟩) → (okOps s.ops s.sorts.length → ∀ e', Q (.exit 4) e' ⟨h ++ [.row 2 [encSig s]], [], []⟩) → wpC T (.loop a168b3) e ⟨h ++ [.row 2 [encSig s]], [], []⟩ Q := by
    intro Q e e1 e5 q1 q2
    refine wpC.loopM (fun n e st => ∃ i : Nat, i + n = s.ops.length ∧ eget e 1 = .ptr h.length 0 0 1 ∧ eget e 5 = .int .i64 (i : Int) ∧ (∀ j (hj : j < s.ops.length), j < i → okArgs s.ops[j].args s.sorts.length ∧ 0 ≤ s.ops[j].res ∧ s.ops[j].res < (s.sorts.length : Int)) ∧ st = ⟨h ++ [.row 2 [encSig s]], [], []⟩) ?_ s.ops.length _ _ ⟨0, by simp, e1, e5, fun j _ hj => by omega, rfl⟩
    rintro n e st ⟨i, hi, e1, e5, hp, rfl⟩
    by_cases h1 : i < s.ops.length
    · have ga := get_op h1
      obtain ⟨b, hb, kb⟩ := rop_tot hT s hs s.ops[i] (so i h1) (h ++ [.row 2 [encSig s]])
      simp (disch := first | omega | decide | (simp only [eget_eput', ↓reduceIte, Nat.reduceEqDiff]; done)) only [go_sem, ↓reduceIte, Nat.reduceEqDiff, Nat.reduceAdd, Nat.reduceMul, reduceCtorEq, a168b3, e1, e5, h1, ga, cb hb, hT.prim, primOf]
      refine bifs (fun _ => q1 _ (by simp (disch := first | omega | decide | (simp only [eget_eput', ↓reduceIte, Nat.reduceEqDiff]; done)) only [go_sem, ↓reduceIte, Nat.reduceEqDiff, Nat.reduceAdd, Nat.reduceMul, reduceCtorEq])) fun hb2 => ?_
      refine wpC.loopM (fun n e st => ∃ k : Nat, k + n = i ∧ eget e 1 = .ptr h.length 0 0 1 ∧ eget e 5 = .int .i64 (i : Int) ∧ eget e 6 = .int .i64 (k : Int) ∧ st = ⟨h ++ [.row 2 [encSig s]], [], []⟩) ?_ i _ _ ⟨0, by simp, by simp (disch := first | omega | decide | (simp only [eget_eput', ↓reduceIte, Nat.reduceEqDiff]; done)) only [go_sem, ↓reduceIte, Nat.reduceEqDiff, Nat.reduceAdd, Nat.reduceMul, reduceCtorEq, e1], by simp (disch := first | omega | decide | (simp only [eget_eput', ↓reduceIte, Nat.reduceEqDiff]; done)) only [go_sem, ↓reduceIte, Nat.reduceEqDiff, Nat.reduceAdd, Nat.reduceMul, reduceCtorEq, e5], by simp (disch := first | omega | decide) only [go_sem, ↓reduceIte, Nat.reduceEqDiff, Nat.reduceAdd, Nat.reduceMul, reduceCtorEq]; rfl, rfl⟩
      rintro d e st ⟨k, hk, e1, e5, e6, rfl⟩
      by_cases h2 : k < i
      · have gk := get_op (l := s.ops) (i := k) (by omega)
        have := (so k (by omega)).2
        obtain ⟨c, hc, _⟩ := rsame_tot hT (s.ops[k]'(by omega)).args s.ops[i].args (by omega) (h ++ [.row 2 [encSig s]])
        simp (disch := first | omega | decide | (simp only [eget_eput', ↓reduceIte, Nat.reduceEqDiff]; done)) only [go_sem, ↓reduceIte, Nat.reduceEqDiff, Nat.reduceAdd, Nat.reduceMul, reduceCtorEq, a168b2, e1, e5, e6, h2, ga, gk, cb hc, hT.prim, primOf]
        repeat' first | exact q1 _ (by simp (disch := first | omega | decide | (simp only [eget_eput', ↓reduceIte, Nat.reduceEqDiff]; done)) only [go_sem, ↓reduceIte, Nat.reduceEqDiff, Nat.reduceAdd, Nat.reduceMul, reduceCtorEq]) | exact ⟨d - 1, by omega, k + 1, by omega, rfl, trivial⟩ | refine bifs (fun _ => ?_) (fun _ => ?_)
      · simp (disch := first | omega | decide | (simp only [eget_eput', ↓reduceIte, Nat.reduceEqDiff]; done)) only [go_sem, ↓reduceIte, Nat.reduceEqDiff, Nat.reduceAdd, Nat.reduceMul, reduceCtorEq, a168b2, e1, e5, e6, h2]
        refine ⟨n - 1, by omega, i + 1, by omega, rfl, fun j hj hji => ?_, trivial⟩
        by_cases hjj : j = i
        · subst hjj
          exact kb (by simpa using hb2)
        · exact hp j hj (by omega)
    · simp (disch := first | omega | decide | (simp only [eget_eput', ↓reduceIte, Nat.reduceEqDiff]; done)) only [go_sem, ↓reduceIte, Nat.reduceEqDiff, Nat.reduceAdd, Nat.reduceMul, reduceCtorEq, a168b3, e1, e5, h1]
      refine q2 (fun o ho => ?_) _
      obtain ⟨j, hj, rfl⟩ := List.getElem_of_mem ho
      obtain ⟨x1, x2⟩ := hp j hj (by omega)
      exact ⟨x1, x2, (so j hj).2⟩
  repeat' first | exact ⟨false, rfl, fun h => by cases h⟩ | refine bifs (fun _ => ?_) (fun _ => ?_)
  all_goals
    refine main _ _ (by simp (disch := first | omega | decide | (simp only [eget_eput', ↓reduceIte, Nat.reduceEqDiff]; done)) only [go_sem, ↓reduceIte, Nat.reduceEqDiff, Nat.reduceAdd, Nat.reduceMul, reduceCtorEq]) (by simp (disch := first | omega | decide | (simp only [eget_eput', ↓reduceIte, Nat.reduceEqDiff]; done)) only [go_sem, ↓reduceIte, Nat.reduceEqDiff, Nat.reduceAdd, Nat.reduceMul, reduceCtorEq]) (fun e' h2 => ?_) (fun e' h1 => ?_)
    · simp (disch := first | omega | decide | (simp only [eget_eput', ↓reduceIte, Nat.reduceEqDiff]; done)) only [go_sem, ↓reduceIte, Nat.reduceEqDiff, Nat.reduceAdd, Nat.reduceMul, reduceCtorEq, h2]
      exact ⟨false, rfl, fun h => by cases h⟩
    · simp (disch := first | omega | decide | (simp only [eget_eput', ↓reduceIte, Nat.reduceEqDiff]; done)) only [go_sem, ↓reduceIte, Nat.reduceEqDiff, Nat.reduceAdd, Nat.reduceMul, reduceCtorEq]
      refine main2 _ _ (by simp (disch := first | omega | decide | (simp only [eget_eput', ↓reduceIte, Nat.reduceEqDiff]; done)) only [go_sem, ↓reduceIte, Nat.reduceEqDiff, Nat.reduceAdd, Nat.reduceMul, reduceCtorEq, h1]) (by simp (disch := first | omega | decide | (simp only [eget_eput', ↓reduceIte, Nat.reduceEqDiff]; done)) only [go_sem, ↓reduceIte, Nat.reduceEqDiff, Nat.reduceAdd, Nat.reduceMul, reduceCtorEq]) (fun e2 h2 => ?_) (fun ok e2 => ?_)
      · simp (disch := first | omega | decide | (simp only [eget_eput', ↓reduceIte, Nat.reduceEqDiff]; done)) only [go_sem, ↓reduceIte, Nat.reduceEqDiff, Nat.reduceAdd, Nat.reduceMul, reduceCtorEq, h2]
        exact ⟨false, rfl, fun h => by cases h⟩
      · simp (disch := first | omega | decide | (simp only [eget_eput', ↓reduceIte, Nat.reduceEqDiff]; done)) only [go_sem, ↓reduceIte, Nat.reduceEqDiff, Nat.reduceAdd, Nat.reduceMul, reduceCtorEq]
        exact ⟨true, rfl, fun _ => ok⟩
include hT in
theorem rcheck_tot (s : GSig) (hs : Fits s) (h : List AE.Obj) : ∃ r : Int, Ev T 97 [encSig s] h (.val (.int .i64 r), ⟨h, [], []⟩) ∧ (r = 0 → okOps s.ops s.sorts.length) := by
  refine Ev.walkP (hT.sp _ (by decide)) ((hT.fn _).trans fn97) (hT.mode _) rfl ?_
  obtain ⟨b, hb, kb⟩ := rissig_tot hT s hs (h ++ [.row 2 [encSig s]])
  simp (disch := first | omega | decide | (simp only [eget_eput', ↓reduceIte, Nat.reduceEqDiff]; done)) only [go_sem, ↓reduceIte, Nat.reduceEqDiff, Nat.reduceAdd, Nat.reduceMul, reduceCtorEq, cb hb, hT.prim, primOf]
  refine bifs (fun _ => ⟨40, rfl, fun h => by cases h⟩) (fun h => ⟨0, rfl, fun _ => kb (by simpa using h)⟩)
end Go.Proofs.Tryz
