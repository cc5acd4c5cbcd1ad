/- The specification's check of a signature, exact. -/
import Derived.Test.YtekepgfmgeophaaGreatPartAO
import Derived.Test.YtekepgfmgeophaaGreatPartAL
set_option linter.unusedVariables false
set_option linter.unusedSimpArgs false
namespace Go.Proofs.Tryz
open Go Go.AE
variable {T : Tbl} (hT : Std T)
include hT in
theorem rsig_m1 (s : GSig) (hs : Fits s) (h : List AE.Obj) : ∀ (Q : AExit → List PV → St → Prop) (e : List PV), eget e 1 = .ptr h.length 0 0 1 → eget e 3 = .int .i64 0 → (¬ sigP s → ∀ e', eget e' 2 = .bool false → Q .ret e' ⟨h ++ [.row 2 [encSig s]], [], []⟩) → ((∀ i (hi : i < s.sorts.length), nameP s.sorts[i] ∧ blk s.sorts[i] = 0) → (∀ i k (hi : i < s.sorts.length) (hk : k < i), s.sorts[k]'(by omega) ≠ s.sorts[i]) → ∀ e', eget e' 1 = .ptr h.length 0 0 1 → Q (.exit 0) e' ⟨h ++ [.row 2 [encSig s]], [], []⟩) → wpC T (.loop a168b1) e ⟨h ++ [.row 2 [encSig s]], [], []⟩ Q := by
 have hs1 := hs.nS
 have ss := fun i (hi : i < s.sorts.length) => hs.sorts _ (List.getElem_mem hi)
 intro Q e e1 e3 q1 q2
 refine wpC.loopM (fun n e st => ∃ i : Nat, i + n = s.sorts.length ∧ eget e 1 = .ptr h.length 0 0 1 ∧ eget e 3 = .int .i64 (i : Int) ∧ (∀ j (hj : j < s.sorts.length), j < i → nameP s.sorts[j] ∧ blk s.sorts[j] = 0) ∧ (∀ j k (hj : j < s.sorts.length) (hk : k < j), j < i → s.sorts[k]'(by omega) ≠ s.sorts[j]) ∧ st = ⟨h ++ [.row 2 [encSig s]], [], []⟩) ?_ s.sorts.length _ _ ⟨0, by simp, e1, e3, fun j _ h => by omega, fun j k _ _ h => by omega, rfl⟩
 rintro n e st ⟨i, hi, e1, e3, kna, kdf, rfl⟩
 by_cases h1 : i < s.sorts.length
 · have ga := get_str h1
   have := ss i h1
   have hm := blanks_ev hT s.sorts[i] (by omega) (h ++ [.row 2 [encSig s]])
   obtain ⟨b, hb, kb⟩ := rname_tot hT s.sorts[i] (by omega) (h ++ [.row 2 [encSig s]])
   simp (disch := first | omega | decide | simp only [go_sem]) only [go_sem, a168b1, e1, e3, h1, ga, cb hm, cb hb, hT.prim, primOf]
   refine bifs (fun hb2 => q1 (fun hp => by rw [kb.2 (hp.sorts i h1).1] at hb2; cases hb2) _ (by simp only [go_sem])) (fun hb2 => bifs (fun hb3 => q1 (fun hp => by rw [(hp.sorts i h1).2] at hb3; cases hb3) _ (by simp only [go_sem])) fun hb3 => ?_)
   refine wpC.loopM (fun n e st => ∃ k : Nat, k + n = i ∧ eget e 1 = .ptr h.length 0 0 1 ∧ eget e 3 = .int .i64 (i : Int) ∧ eget e 4 = .int .i64 (k : Int) ∧ (∀ j (hj : j < k) (hk : k ≤ i), s.sorts[j]'(by omega) ≠ s.sorts[i]) ∧ st = ⟨h ++ [.row 2 [encSig s]], [], []⟩) ?_ i _ _ ⟨0, by simp, by simp only [go_sem, e1], by simp only [go_sem, e3], by simp (disch := first | omega | decide) only [go_sem, ↓reduceIte, Nat.reduceEqDiff, Nat.reduceAdd, Nat.reduceMul, reduceCtorEq]; rfl, fun j h => by omega, rfl⟩
   rintro d e st ⟨k, hk, e1, e3, e4, kd2, rfl⟩
   by_cases h2 : k < i
   · have gk := get_str (l := s.sorts) (i := k) (by omega)
     simp (disch := first | omega | decide | simp only [go_sem]) only [go_sem, a168b0, e1, e3, e4, h2, ga, gk]
     refine bifs (fun hx => q1 (fun hp => hp.diff i k h1 h2 (str_eq.1 hx)) _ (by simp only [go_sem])) (fun hx => ⟨d - 1, by omega, k + 1, by omega, rfl, fun j hj hk2 => ?_, trivial⟩)
     by_cases hjk : j = k
     · subst hjk
       exact fun he => by rw [str_eq.2 he] at hx; cases hx
     · exact kd2 j (by omega) (by omega)
   · simp (disch := first | omega | decide | simp only [go_sem]) only [go_sem, a168b0, e1, e3, e4, h2]
     refine ⟨n - 1, by omega, i + 1, by omega, rfl, fun j hj hji => ?_, fun j m hj hm hji => ?_, trivial⟩
     · by_cases hjj : j = i
       · subst hjj
         refine ⟨kb.1 (by simpa using hb2), ?_⟩
         simpa using hb3
       · exact kna j hj (by omega)
     · by_cases hjj : j = i
       · subst hjj
         exact kd2 m (by omega) (by omega)
       · exact kdf j m hj hm (by omega)
 · simp (disch := first | omega | decide | simp only [go_sem]) only [go_sem, a168b1, e1, e3, h1]
   exact q2 (fun j hj => kna j hj (by omega)) (fun j m hj hm => kdf j m hj hm (by omega)) _ (by simp only [go_sem, e1])
include hT in
theorem rsig_m2 (s : GSig) (hs : Fits s) (h : List AE.Obj) : ∀ (Q : AExit → List PV → St → Prop) (e : List PV), eget e 1 = .ptr h.length 0 0 1 → eget e 5 = .int .i64 0 → (¬ sigP s → ∀ e', eget e' 2 = .bool false → Q .ret e' ⟨h ++ [.row 2 [encSig s]], [], []⟩) → ((∀ i (hi : i < s.ops.length), opP s.sorts.length s.ops[i]) → (∀ i k (hi : i < s.ops.length) (hk : k < i), s.ops[k]'(by omega) ≠ s.ops[i]) → ∀ e', Q (.exit 4) e' ⟨h ++ [.row 2 [encSig s]], [], []⟩) → wpC T (.loop a168b3) e ⟨h ++ [.row 2 [encSig s]], [], []⟩ Q := by
 have hs2 := hs.nO
 have so := fun i (hi : i < s.ops.length) => hs.ops _ (List.getElem_mem hi)
 intro Q e e1 e5 q1 q2
 refine wpC.loopM (fun n e st => ∃ i : Nat, i + n = s.ops.length ∧ eget e 1 = .ptr h.length 0 0 1 ∧ eget e 5 = .int .i64 (i : Int) ∧ (∀ j (hj : j < s.ops.length), j < i → opP s.sorts.length s.ops[j]) ∧ (∀ j k (hj : j < s.ops.length) (hk : k < j), j < i → s.ops[k]'(by omega) ≠ s.ops[j]) ∧ st = ⟨h ++ [.row 2 [encSig s]], [], []⟩) ?_ s.ops.length _ _ ⟨0, by simp, e1, e5, fun j _ hj => by omega, fun j k _ _ h => by omega, rfl⟩
 rintro n e st ⟨i, hi, e1, e5, hp, kdf, rfl⟩
 by_cases h1 : i < s.ops.length
 · have ga := get_op h1
   obtain ⟨b, hb, kb⟩ := rop_tot hT s hs s.ops[i] (so i h1) (h ++ [.row 2 [encSig s]])
   simp (disch := first | omega | decide | simp only [go_sem]) only [go_sem, a168b3, e1, e5, h1, ga, cb hb, hT.prim, primOf]
   refine bifs (fun hb2 => q1 (fun hq => by rw [kb.2 (hq.ops i h1)] at hb2; cases hb2) _ (by simp only [go_sem])) fun hb2 => ?_
   refine wpC.loopM (fun n e st => ∃ k : Nat, k + n = i ∧ eget e 1 = .ptr h.length 0 0 1 ∧ eget e 5 = .int .i64 (i : Int) ∧ eget e 6 = .int .i64 (k : Int) ∧ (∀ j (hj : j < k) (hk : k ≤ i), s.ops[j]'(by omega) ≠ s.ops[i]) ∧ st = ⟨h ++ [.row 2 [encSig s]], [], []⟩) ?_ i _ _ ⟨0, by simp, by simp only [go_sem, e1], by simp only [go_sem, e5], by simp (disch := first | omega | decide) only [go_sem, ↓reduceIte, Nat.reduceEqDiff, Nat.reduceAdd, Nat.reduceMul, reduceCtorEq]; rfl, fun j h => by omega, rfl⟩
   rintro d e st ⟨k, hk, e1, e5, e6, kd2, rfl⟩
   by_cases h2 : k < i
   · have gk := get_op (l := s.ops) (i := k) (by omega)
     have := (so k (by omega)).2
     have next : (s.ops[k]'(by omega) ≠ s.ops[i]) → (∀ (j : Nat) (hj : j < k + 1) (hk : k + 1 ≤ i), s.ops[j]'(by omega) ≠ s.ops[i]) ∧ True := fun hne => ⟨fun j hj hk2 => by
      by_cases hjk : j = k
      · subst hjk; exact hne
      · exact kd2 j (by omega) (by omega), trivial⟩
     have bad : s.ops[k]'(by omega) = s.ops[i] → ¬ sigP s := fun he hq => hq.diffO i k h1 h2 he
     obtain ⟨ok, hok⟩ : ∃ o, o = s.ops[k]'(by omega) := ⟨_, rfl⟩
     obtain ⟨oi, hoi⟩ : ∃ o, o = s.ops[i] := ⟨_, rfl⟩
     rw [← hok] at gk this
     rw [← hoi] at ga
     have next := fun (hne : ok ≠ oi) => next (by rw [← hok, ← hoi]; exact hne)
     have bad := fun (he : ok = oi) => bad (by rw [← hok, ← hoi]; exact he)
     obtain ⟨c, hc, kc⟩ := rsame_tot hT ok.args oi.args (by omega) (h ++ [.row 2 [encSig s]])
     clear kd2 hp kdf hok hoi
     by_cases x1 : ok.name = oi.name
     · have b1 : (ok.name.toList == oi.name.toList) = true := str_eq.2 x1
       by_cases x2 : ok.res = oi.res
       · have b2 : (ok.res == oi.res) = true := by simp [x2]
         cases c
         · simp (disch := first | omega | decide | simp only [go_sem]) only [go_sem, a168b2, e1, e5, e6, h2, ga, gk, cb hc, hT.prim, primOf, b1, b2]
           exact ⟨d - 1, by omega, k + 1, by omega, rfl, next fun he => by have hx := kc.2 (by rw [he]); cases hx⟩
         · simp (disch := first | omega | decide | simp only [go_sem]) only [go_sem, a168b2, e1, e5, e6, h2, ga, gk, cb hc, hT.prim, primOf, b1, b2]
           exact q1 (bad (by
            have x3 := kc.1 rfl
            obtain ⟨a, b, c⟩ := ok
            obtain ⟨a', b', c'⟩ := oi
            dsimp only at x1 x2 x3
            rw [x1, x2, x3])) _ (by simp only [go_sem])
       · have b2 : (ok.res == oi.res) = false := by simp [x2]
         simp (disch := first | omega | decide | simp only [go_sem]) only [go_sem, a168b2, e1, e5, e6, h2, ga, gk, b1, b2]
         exact ⟨d - 1, by omega, k + 1, by omega, rfl, next fun he => x2 (by rw [he])⟩
     · have b1 : (ok.name.toList == oi.name.toList) = false := by
        cases hb : (ok.name.toList == oi.name.toList)
        · rfl
        · exact absurd (str_eq.1 hb) x1
       simp (disch := first | omega | decide | simp only [go_sem]) only [go_sem, a168b2, e1, e5, e6, h2, ga, gk, b1]
       exact ⟨d - 1, by omega, k + 1, by omega, rfl, next fun he => x1 (by rw [he])⟩
   · simp (disch := first | omega | decide | simp only [go_sem]) only [go_sem, a168b2, e1, e5, e6, h2]
     refine ⟨n - 1, by omega, i + 1, by omega, rfl, fun j hj hji => ?_, fun j m hj hm hji => ?_, trivial⟩
     · by_cases hjj : j = i
       · subst hjj
         exact kb.1 (by simpa using hb2)
       · exact hp j hj (by omega)
     · by_cases hjj : j = i
       · subst hjj
         exact kd2 m (by omega) (by omega)
       · exact kdf j m hj hm (by omega)
 · simp (disch := first | omega | decide | simp only [go_sem]) only [go_sem, a168b3, e1, e5, h1]
   exact q2 (fun j hj => hp j hj (by omega)) (fun j m hj hm => kdf j m hj hm (by omega)) _
include hT in
theorem rissig_tot (s : GSig) (hs : Fits s) (h : List AE.Obj) : ∃ r : Bool, Ev T 168 [encSig s] h (.val (.bool r), ⟨h, [], []⟩) ∧ (r = true ↔ sigP s) := by
 refine Ev.walkP (hT.sp _ (by decide)) ((hT.fn _).trans fn168) (hT.mode _) rfl ?_
 have hs1 := hs.nS
 have hs2 := hs.nO
 have ss := fun i (hi : i < s.sorts.length) => hs.sorts _ (List.getElem_mem hi)
 have so := fun i (hi : i < s.ops.length) => hs.ops _ (List.getElem_mem hi)
 simp (disch := first | omega | decide | simp only [go_sem]) only [go_sem]
 refine bifs (fun h1 => ⟨false, rfl, nofun, fun hp => by have := hp.nS; simp only [decide_eq_true_eq] at h1; omega⟩) fun h64 => bifs (fun h1 => ⟨false, rfl, nofun, fun hp => by have := hp.nO; simp only [decide_eq_true_eq] at h1; omega⟩) fun h256 => ?_
 simp only [decide_eq_false_iff_not] at h64 h256
 refine rsig_m1 hT s hs h _ _ (by simp only [go_sem]) (by simp only [go_sem]) (fun hn e' h2 => ?_) (fun sr1 sr2 e' h1 => ?_)
 · simp (disch := first | omega | decide | simp only [go_sem]) only [go_sem, h2]
   exact ⟨false, rfl, nofun, fun hp => absurd hp hn⟩
 · simp (disch := first | omega | decide | simp only [go_sem]) only [go_sem]
   refine rsig_m2 hT s hs h _ _ (by simp only [go_sem, h1]) (by simp only [go_sem]) (fun hn e2 h2 => ?_) (fun op1 op2 e2 => ?_)
   · simp (disch := first | omega | decide | simp only [go_sem]) only [go_sem, h2]
     exact ⟨false, rfl, nofun, fun hp => absurd hp hn⟩
   · simp (disch := first | omega | decide | simp only [go_sem]) only [go_sem]
     exact ⟨true, rfl, fun _ => ⟨by omega, by omega, sr1, sr2, op1, op2⟩, fun _ => rfl⟩
theorem sigP.okOps {s : GSig} (h : sigP s) : okOps s.ops s.sorts.length := fun o ho => by
 obtain ⟨i, hi, rfl⟩ := List.getElem_of_mem ho
 obtain ⟨_, _, _, h1, h2, h3⟩ := h.ops i hi
 exact ⟨h1, h2, by omega⟩
include hT in
theorem rcheck_exact (s : GSig) (hs : Fits s) (h : List AE.Obj) : ∃ r : Int, Ev T 97 [encSig s] h (.val (.int .i64 r), ⟨h, [], []⟩) ∧ ((r = 0 ∧ sigP s) ∨ (r = 40 ∧ ¬ sigP s)) := by
 refine Ev.walkP (hT.sp _ (by decide)) ((hT.fn _).trans fn97) (hT.mode _) rfl ?_
 obtain ⟨b, hb, kb⟩ := rissig_tot hT s hs (h ++ [.row 2 [encSig s]])
 simp (disch := first | omega | decide | simp only [go_sem]) only [go_sem, cb hb, hT.prim, primOf]
 refine bifs (fun h => ⟨40, rfl, .inr ⟨rfl, fun hp => by rw [kb.2 hp] at h; cases h⟩⟩) (fun h => ⟨0, rfl, .inl ⟨rfl, kb.1 (by simpa using h)⟩⟩)
include hT in
theorem rcheck_tot (s : GSig) (hs : Fits s) (h : List AE.Obj) : ∃ r : Int, Ev T 97 [encSig s] h (.val (.int .i64 r), ⟨h, [], []⟩) ∧ (r = 0 → okOps s.ops s.sorts.length) := by
 obtain ⟨r, hr, kr⟩ := rcheck_exact hT s hs h
 refine ⟨r, hr, fun h0 => ?_⟩
 rcases kr with ⟨_, h2⟩ | ⟨h2, _⟩
 · exact h2.okOps
 · omega
end Go.Proofs.Tryz
