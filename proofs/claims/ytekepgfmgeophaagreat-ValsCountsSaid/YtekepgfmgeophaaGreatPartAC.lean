/- Texts of the proof, one behind the other: AeYield3, AeRounds, AeTidy, AeCode, AeRange, AeRange2, AeBody, AeCall. -/
import Derived.Test.YtekepgfmgeophaaGreatPartAB
import Derived.ControlIn
import Derived.LoopNIn
import Derived.RangeFuncIn
set_option linter.unusedVariables false
set_option linter.unusedSimpArgs false
/- An iterator's whole code; what it is to whom it yields. -/
namespace Go.AE
open Go
section
variable {P : Program} {T : Tbl} {call : FuncId → List PV → List Obj → Option CallRes} {rows : List Nat} {nt : Nat} {l lo : Nat} {b : Nat → Bool} {yss : Yss} {R : Nat → World → (Nat → Nat → Prop) → (Nat → Prop) → Prop}
def exitOf : AExit → Exit
 | .normal => .normal
 | .exit i => .exit i
 | .ret => .ret
 | .pan _ => .normal
theorem noDefer_spec {ops : Array Oper} (h : noDefer ops = true) (i : Nat) (o : Oper) (ho : ops[i]? = some o) (c : Call) : o.op ≠ .defer c := by
 intro hc
 unfold noDefer at h
 obtain ⟨hi, rfl⟩ := Array.getElem?_eq_some_iff.1 ho
 have := (Array.all_eq_true.1 h) i hi
 simp [hc] at this
theorem yCode_noPan {n : Nat} : ∀ {c : ACode} {e : List PV} {s : St} {g : Log} {p : PV} {e' : List PV} {s' : St} {g' : Log}, yCode T call b n c e s g ≠ some (.pan p, e', s', g')
 | .skip, e, s, g, p, e', s', g', h => by simp [yCode] at h
 | .reg ops, e, s, g, p, e', s', g', h => by
   simp only [yCode] at h
   split at h <;> cases h
 | .regD ops, e, s, g, p, e', s', g', h => by
   simp only [yCode] at h
   split at h <;> cases h
 | .seq a c, e, s, g, p, e', s', g', h => by
   simp only [yCode] at h
   split at h
   · exact yCode_noPan h
   · exact yCode_noPan h
 | .cond c x y, e, s, g, p, e', s', g', h => by
   simp only [yCode] at h
   split at h
   · exact yCode_noPan h
   · exact yCode_noPan h
   · cases h
 | .block id c, e, s, g, p, e', s', g', h => by
   simp only [yCode] at h
   split at h
   · split at h <;> cases h
   · exact yCode_noPan h
 | .loop c, e, s, g, p, e', s', g', h => by
   simp only [yCode] at h
   have key : ∀ (m : Nat) (e : List PV) (s : St) (g : Log), yLoop (yCode T call b n c) m e s g ≠ some (.pan p, e', s', g') := by
    intro m
    induction m with
    | zero => intro e s g h; simp [yLoop] at h
    | succ m ih =>
      intro e s g h
      simp only [yLoop] at h
      split at h
      · exact ih _ _ _ h
      · exact yCode_noPan h
   exact key _ _ _ _ h
 | .exit id, e, s, g, p, e', s', g', h => by simp [yCode] at h
 | .ret, e, s, g, p, e', s', g', h => by simp [yCode] at h
 | .range .., e, s, g, p, e', s', g', h => by simp [yCode] at h
 | .bad, e, s, g, p, e', s', g', h => by simp [yCode] at h
theorem AfterY.stay {D : Nat → Prop} {ds : List Deferred} {s : St} {g : Log} {e : List PV} {K : Act → World → Prop} {a : Act} {w : World} {I : Nat → Nat → Prop} {ρ : Nat → Row} {X : Nat → Prop}
 (A : AfterY lo R D nt ds s s g e K) (J : Joint lo R g.length w I D ρ s.h X) (E : EnvR w I D ρ nt e a) (hds : a.defers = ds) : K a w :=
 A a w I ρ X (by rw [ext_self]; exact J) (by rw [ext_self]; exact E) hds
theorem AfterY.from {D : Nat → Prop} {ds : List Deferred} {s s1 s2 : St} {g : Log} {e : List PV} {K : Act → World → Prop} (h1 : s.h.length ≤ s1.h.length) (h2 : s1.h.length ≤ s2.h.length)
 (A : AfterY lo R D nt ds s s2 g e K) : AfterY lo R (ext D s.h.length s1.h.length) nt ds s1 s2 g e K := by
 intro a' w' I' ρ' X' J E hd
 rw [ext_ext D h1 h2] at J E
 exact A a' w' I' ρ' X' J E hd
theorem yCode_wp (hm : P.follows .mixedOrders = true) (hT : ∀ f p, T.prim f = some p → PrimOK P f p) (hC : CallOK P call) (hS : CallStep call) (Pt : Party P l lo b yss R) (n : Nat) {k : Nat} {ds : List Deferred} :
 ∀ (c : Code) {e : List PV} {s : St} {g : Log} {x : AExit} {e' : List PV} {s' : St} {g' : Log} {a : Act} {w : World} {I : Nat → Nat → Prop} {D : Nat → Prop} {ρ : Nat → Row} {X : Nat → Prop} {Q : Exit → Act → World → Prop},
   yCode T call b n (comp P rows nt c) e s g = some (x, e', s', g') → Pre l g' yss → Joint lo R g.length w I D ρ s.h X → EnvR w I D ρ nt e a → a.defers = ds → (∀ a w, ¬ Q .outgrown a w) → AfterY lo R D nt ds s s' g' e' (Q (exitOf x)) → c.wpIn (wr none) k P Q a w := by
 intro c
 induction c with
 | skip =>
   intro e s g x e' s' g' a w I D ρ X Q h hp J E hds hQ A
   simp only [comp, yCode] at h
   cases h
   exact wpIn_skip (A.stay J E hds)
 | label l =>
   intro e s g x e' s' g' a w I D ρ X Q h hp J E hds hQ A
   simp only [comp, yCode] at h
   cases h
   exact wpIn_label (A.stay J E hds)
 | region id ops d =>
   intro e s g x e' s' g' a w I D ρ X Q h hp J E hds hQ A
   cases d with
   | false =>
     simp only [comp] at h
     split at h
     · rename_i hnd
       simp only [yCode] at h
       refine wpIn_region ?_
       rw [List.range_eq_range']
       split at h
       · rename_i e1 s1 g1 h1
         cases h
         exact yOps_wp hT hC hS Pt ops (noDefer_spec hnd) Q ops.size 0 (by omega) hds (by simpa using h1) hp J E A
       · cases h
     · simp only [yCode] at h; cases h
   | true =>
     simp only [comp] at h
     split at h
     · rename_i hc
       simp only [Bool.and_eq_true] at hc
       simp only [yCode] at h
       split at h
       · rename_i e1 s1 h1
         cases h
         refine wpIn_region_any hm (anyIn_of (.inl rfl) hQ _ _ _ _ (evOpsD_wp hT hC hS hc.1.1.1.2 hc.1.1.2 hc.1.2 hc.2 h1 J.sim E hds ⟨fun _ a' w' I' ρ' N S' E' hd' => ?_, fun p hp => by cases hp⟩))
         exact A a' w' I' ρ' X (J.own Pt N S') E' hd'
       · cases h
     · simp only [yCode] at h; cases h
 | seq y z ihb ihc =>
   intro e s g x e' s' g' a w I D ρ X Q h hp J E hds hQ A
   simp only [comp, yCode] at h
   refine wpIn_seq ?_
   split at h
   · rename_i e1 s1 g1 h1
     obtain ⟨st1, t1, rfl⟩ := yCode_step hS n h1
     obtain ⟨st2, t2, rfl⟩ := yCode_step hS n h
     refine ihb h1 hp.of_append J E hds (fun a w => hQ a w) fun a1 w1 I1 ρ1 X1 J1 E1 hd1 => ?_
     exact ihc h hp J1 E1 hd1 hQ (A.from st1.len st2.len)
   · rename_i hne
     refine ihb h hp J E hds (fun a w => hQ a w) ?_
     cases x with
     | normal => exact absurd h (hne _ _ _)
     | exit id => exact A
     | ret => exact A
     | pan p => exact absurd h yCode_noPan
 | cond c t f iht ihf =>
   intro e s g x e' s' g' a w I D ρ X Q h hp J E hds hQ A
   simp only [comp, yCode] at h
   have hc := E.eval c
   split at h
   · rename_i hk
     rw [hk] at hc
     generalize hv : a.eval c = v at hc
     cases hc
     exact wpIn_cond_true hv (iht h hp J E hds hQ A)
   · rename_i hk
     rw [hk] at hc
     generalize hv : a.eval c = v at hc
     cases hc
     exact wpIn_cond_false hv (ihf h hp J E hds hQ A)
   · cases h
 | block id c ih =>
   intro e s g x e' s' g' a w I D ρ X Q h hp J E hds hQ A
   simp only [comp, yCode] at h
   refine wpIn_block ?_
   split at h
   · rename_i i e1 s1 g1 h1
     split at h
     · rename_i hi
       cases h
       subst hi
       refine ih h1 hp J E hds (fun a w => hQ a w) fun a1 w1 I1 ρ1 X1 J1 E1 hd1 => ?_
       simp only [exitOf, Exit.inBlock, if_true]
       exact A a1 w1 I1 ρ1 X1 J1 E1 hd1
     · rename_i hi
       cases h
       refine ih h1 hp J E hds (fun a w => hQ a w) fun a1 w1 I1 ρ1 X1 J1 E1 hd1 => ?_
       simp only [exitOf, Exit.inBlock, if_neg hi]
       exact A a1 w1 I1 ρ1 X1 J1 E1 hd1
   · rename_i hne
     refine ih h hp J E hds (fun a w => hQ a w) ?_
     cases x with
     | normal => exact A
     | exit id => exact absurd h (hne _ _ _ _)
     | ret => exact A
     | pan p => exact absurd h yCode_noPan
 | loop c ih =>
   intro e s g x e' s' g' a w I D ρ X Q h hp J E hds hQ A
   simp only [comp, yCode] at h
   refine wpIn_loop_rounds n ?_
   have key : ∀ (m : Nat) {e : List PV} {s : St} {g : Log} {a : Act} {w : World} {I : Nat → Nat → Prop} {D : Nat → Prop} {ρ : Nat → Row} {X : Nat → Prop},
    yLoop (yCode T call b n (comp P rows nt c)) m e s g = some (x, e', s', g') → Joint lo R g.length w I D ρ s.h X → EnvR w I D ρ nt e a → a.defers = ds → AfterY lo R D nt ds s s' g' e' (Q (exitOf x)) → Code.roundsIn (wr none) k P c Q m a w := by
    intro m
    induction m with
    | zero => intro e s g a w I D ρ X h; simp [yLoop] at h
    | succ m ihm =>
      intro e s g a w I D ρ X h J E hds A
      simp only [yLoop] at h
      rw [roundsIn_succ]
      split at h
      · rename_i e1 s1 g1 h1
        obtain ⟨st1, t1, rfl⟩ := yCode_step hS n h1
        obtain ⟨st2, t2, e2⟩ := yLoop_step (fun h => yCode_step hS n h) h
        refine ih h1 (by rw [e2] at hp; exact hp.of_append) J E hds (fun a w => hQ a w) fun a1 w1 I1 ρ1 X1 J1 E1 hd1 => ?_
        exact ihm h J1 E1 hd1 (A.from st1.len st2.len)
      · rename_i hne
        refine ih h hp J E hds (fun a w => hQ a w) ?_
        cases x with
        | normal => exact absurd h (hne _ _ _)
        | exit id => exact A
        | ret => exact A
        | pan p => exact absurd h yCode_noPan
   exact key n h J E hds A
 | exit id =>
   intro e s g x e' s' g' a w I D ρ X Q h hp J E hds hQ A
   simp only [comp, yCode] at h
   cases h
   exact wpIn_exit (A.stay J E hds)
 | ret =>
   intro e s g x e' s' g' a w I D ρ X Q h hp J E hds hQ A
   simp only [comp, yCode] at h
   cases h
   exact wpIn_ret (A.stay J E hds)
 | rangeFunc gf ps y z =>
   intro e s g x e' s' g' a w I D ρ X Q h hp J E hds hQ A
   simp only [comp] at h
   split at h <;> (simp only [yCode] at h; cases h)
 | _ =>
   intro e s g x e' s' g' a w I D ρ X Q h hp J E hds hQ A
   simp only [comp, yCode] at h
   cases h
def upTo (stop : Option Nat) (yss : Yss) : Yss := match stop with | none => yss | some k => yss.take (k + 1)
def upN (stop : Option Nat) (n : Nat) : Nat := match stop with | none => n | some k => min n (k + 1)
theorem upTo_spec (stop : Option Nat) (yss : Yss) : (upTo stop yss).length = upN stop yss.length ∧ ∀ (i : Nat) (ys : List PV), (upTo stop yss)[i]? = some ys → yss[i]? = some ys := by
 cases stop with
 | none => exact ⟨rfl, fun i ys h => h⟩
 | some k =>
   refine ⟨by simp [upTo, upN, Nat.min_comm], fun i ys h => ?_⟩
   simp only [upTo, List.getElem?_take] at h
   split at h
   · exact h
   · cases h
def IterSem (P : Program) (gf : FuncId) (captured : List PV) (yss : Yss) : Prop :=
 Enters P gf ∧ ∀ (stop : Option Nat) (l lo : Nat) (R : Nat → World → (Nat → Nat → Prop) → (Nat → Prop) → Prop) (w : World) (I : Nat → Nat → Prop) (D : Nat → Prop) (ρ : Nat → Row) (X : Nat → Prop) (vs : List Value),
  Party P l lo (fun i => decide (stop ≠ some i)) (upTo stop yss) R → R 0 w I X → (∀ k o, I k o → k < w.heap.size) → lo ≤ w.heap.size → VRs w I D ρ captured vs →
   CallsIn (wr none) 0 P gf (#[.func (.yield l) #[] #[]] ++ vs.toArray) w fun en w' => (∃ v, en = .returned v) ∧ ∃ I' X', R (upN stop yss.length) w' I' X'
theorem iterSem_of (hm : P.follows .mixedOrders = true) (hT : ∀ f p, T.prim f = some p → PrimOK P f p) {gf : FuncId} {fn : Func} {af : AFunc} (hf : P.funcs[gf]? = some fn) (hname : (fn.name == "runtime.NumGoroutine") = false) (hcomp : compFn P rows fn = some af)
 {captured : List PV} {yss : Yss} (hpu : pures captured = true)
 (hev : ∀ (l : Nat) (stop : Option Nat), ∃ call n, CallOK P call ∧ CallStep call ∧ yBody T call (fun i => decide (stop ≠ some i)) n af (.func (.yield l) [] [] :: weaks captured) = some ((upTo stop yss).map fun ys => (l, ys))) : IterSem P gf captured yss := by
 refine ⟨⟨fn, hf, hname, ?_⟩, fun stop l lo R w I D ρ X vs Pt hR him hlo V => ?_⟩
 · unfold compFn at hcomp
   split at hcomp
   · rename_i c res hb _
     rw [hb]; rfl
   · cases hcomp
 · obtain ⟨call, n, hC, hS, hy⟩ := hev l stop
   unfold compFn at hcomp
   split at hcomp
   · rename_i c res hc hres
     split at hcomp
     · rename_i hnt
       cases hcomp
       unfold yBody at hy
       split at hy
       · rename_i hargs
         obtain ⟨hargs, hnil⟩ := hargs
         have hV := VRs_weak V hpu (fun _ => False) ρ
         have hsz : vs.length = (weaks captured).length := hV.1
         have hle : vs.length + 1 ≤ fn.ntmps := by simp at hargs; omega
         have E0 : EnvR w I (fun _ => False) ρ fn.ntmps (.func (.yield l) [] [] :: weaks captured) { tmps := (#[.func (.yield l) #[] #[]] ++ vs.toArray) ++ Array.replicate (fn.ntmps - (#[Value.func (.yield l) #[] #[]] ++ vs.toArray).size) undef, defers := [] } := by
          refine ⟨by simp; omega, by simp; omega, fun t => ?_⟩
          rw [eget_getD]
          by_cases ht : t < (PV.func (.yield l) [] [] :: weaks captured).length
          · have e1 : ((#[Value.func (.yield l) #[] #[]] ++ vs.toArray) ++ Array.replicate (fn.ntmps - (#[Value.func (.yield l) #[] #[]] ++ vs.toArray).size) undef).getD t undef = (Value.func (.yield l) #[] #[] :: vs).getD t undef := by
             rw [Array.getD_eq_getD_getElem?, List.getD_eq_getElem?_getD, Array.getElem?_append_left (by simp at ht ⊢; omega)]
             cases t <;> simp
            rw [e1]
            cases t with
            | zero => exact .func _ [] [] #[] #[] rfl rfl (fun j => .undef _) (fun j => .undef _)
            | succ t => exact hV.2 t
          · rw [getD_map_ne _ t _ ht]; exact .undef _
         have J0 : Joint lo R ([] : Log).length w I (fun _ => False) ρ ({ h := [], ws := [], ups := [] } : St).h X :=
          ⟨⟨fun _ h => h.elim, fun _ _ h => h.elim, fun _ _ h => h.elim, him⟩, hR, fun _ h => h.elim, fun _ h => h.elim, hlo⟩
         have hresn : fn.results.toList = [] := by
          subst hnil
          cases hr : fn.results.toList with
          | nil => rfl
          | cons r rs =>
            rw [hr] at hres
            cases r with
            | tmp t => simp [compRes] at hres
            | cell t ty =>
              simp only [compRes] at hres
              split at hres <;> simp at hres
         have fin : ∀ {x : AExit} {e : List PV} {s : St} {g : Log}, (x = .ret ∨ x = .normal) → yCode T call (fun i => decide (stop ≠ some i)) n (comp P rows fn.ntmps c) (.func (.yield l) [] [] :: weaks captured) { h := [], ws := [], ups := [] } [] = some (x, e, s, g) →
          g = ((upTo stop yss).map fun ys => (l, ys)) → CallsIn (wr none) 0 P gf (#[.func (.yield l) #[] #[]] ++ vs.toArray) w fun en w' => (∃ v, en = .returned v) ∧ ∃ I' X', R (upN stop yss.length) w' I' X' := by
          intro x e s g hx hy hg
          subst hg
          obtain ⟨h1, h2⟩ := upTo_spec stop yss
          have hpre : Pre l ((upTo stop yss).map fun ys => (l, ys)) (upTo stop yss) := fun i k ys hi => by
           simp only [List.getElem?_map, Option.map_eq_some_iff] at hi
           obtain ⟨y, hy, he⟩ := hi
           cases he
           exact ⟨rfl, hy⟩
          have h1' : ((upTo stop yss).map fun ys => (l, ys)).length = upN stop yss.length := by rw [List.length_map]; exact h1
          refine callsIn_of_wp hf hc trivial (yCode_wp hm hT hC hS Pt n c hy hpre J0 E0 rfl (fun a w h => by obtain ⟨⟨v, h⟩, _⟩ := h; cases h) fun a' w' I' ρ' X' J' E' hd' => ?_)
          have hrun : (results fn a'.tmps).run P w' = .ok (if hs : ([] : List Value).toArray.size = 1 then ([] : List Value).toArray[0] else .tuple ([] : List Value).toArray) w' := results_eq (by rw [hresn]; rfl)
          have key : bodyPost P fn (fun en w' => (∃ v, en = .returned v) ∧ ∃ I' X', R (upN stop yss.length) w' I' X') .ret a' w' :=
           ⟨hd', _, hrun, ⟨_, rfl⟩, I', X', by rw [← h1']; exact J'.r⟩
          rcases hx with rfl | rfl <;> exact key
         split at hy
         · rename_i e s g hcode
           exact fin (.inl rfl) hcode (Option.some.inj hy)
         · rename_i e s g hcode
           exact fin (.inr rfl) hcode (Option.some.inj hy)
         · cases hy
       · cases hy
     · cases hcomp
   · cases hcomp
end
end Go.AE
/- The rounds of a range over a function, told one by one. -/
namespace Go.AE
open Go
structure Round1 (fa fb : List PV → St → Option (AExit × List PV × St)) (ps : List Nat) (e : List PV) (ys : List PV) (s s' : St) (x : AExit) : Prop where
 len : ys.length = ps.length
 run : ∃ e1 s1 e2, fa (puts e ps ys) s = some (.normal, e1, s1) ∧ fb e1 s1 = some (x, e2, s')
structure RTrace (fa fb : List PV → St → Option (AExit × List PV × St)) (ps : List Nat) (e : List PV) (yss : List (List PV)) (s : St) (x : AExit) (s' : St) (stop : Option Nat) (H : Nat → St) : Prop where
 first : H 0 = s
 last : H (upN stop yss.length) = s'
 rounds : ∀ i ys, yss[i]? = some ys → i < upN stop yss.length → Round1 fa fb ps e ys (H i) (H (i + 1)) (if stop = some i then x else .normal)
 out : (stop = none → x = .normal) ∧ (stop ≠ none → x = .ret ∨ ∃ j, x = .exit j)
 lt : ∀ j, stop = some j → j < yss.length
def hcons (s : St) (H : Nat → St) : Nat → St
 | 0 => s
 | i + 1 => H i
theorem upN_succ (stop : Option Nat) (n : Nat) : upN (stop.map (· + 1)) (n + 1) = upN stop n + 1 := by
 cases stop with
 | none => rfl
 | some k => simp only [upN, Option.map_some]; omega
theorem evRounds_trace {fa fb : List PV → St → Option (AExit × List PV × St)} {ps : List Nat} {e : List PV} : ∀ {yss : List (List PV)} {s : St} {x : AExit} {e' : List PV} {s' : St}, evRounds fa fb ps e yss s = some (x, e', s') →
 e' = e ∧ ∃ stop H, RTrace fa fb ps e yss s x s' stop H
 | [], s, x, e', s', h => by
   simp only [evRounds] at h
   cases h
   exact ⟨rfl, none, fun _ => s, rfl, rfl, fun i ys hi => by simp at hi, ⟨fun _ => rfl, fun h => absurd rfl h⟩, (fun _ h => by cases h)⟩
 | ys :: rest, s, x, e', s', h => by
   simp only [evRounds] at h
   split at h
   · rename_i hlen
     split at h
     · rename_i e1 s1 h1
       have stopped : ∀ {x' : AExit} {e2 : List PV} {s2 : St}, fb e1 s1 = some (x', e2, s2) → (x' = .ret ∨ ∃ j, x' = .exit j) → ∃ stop H, RTrace fa fb ps e (ys :: rest) s x' s2 stop H := by
        intro x' e2 s2 h2 hx
        refine ⟨some 0, hcons s fun _ => s2, rfl, by simp [upN, hcons], fun i ys' hi hlt => ?_, ⟨(fun h => by cases h), fun _ => hx⟩, fun j hj => by cases hj; simp⟩
        have : i = 0 := by simp [upN] at hlt; omega
        subst this
        simp at hi
        subst hi
        exact ⟨hlen, e1, s1, e2, h1, by simpa [hcons] using h2⟩
       split at h
       · rename_i e2 s2 h2
         obtain ⟨rfl, stop, H, Tr⟩ := evRounds_trace h
         refine ⟨rfl, stop.map (· + 1), hcons s H, rfl, ?_, fun i ys' hi hlt => ?_, ⟨fun h => Tr.out.1 (by cases stop <;> simp_all), fun h => Tr.out.2 (by cases stop <;> simp_all)⟩, fun j hj => ?_⟩
         · rw [List.length_cons, upN_succ]
           exact Tr.last
         · cases i with
           | zero =>
             simp at hi
             subst hi
             refine ⟨hlen, e1, s1, e2, h1, ?_⟩
             have : (if (stop.map (· + 1)) = some 0 then x else AExit.normal) = .normal := by cases stop <;> simp
             rw [this]
             show fb e1 s1 = some (.normal, e2, H 0)
             rw [Tr.first]
             exact h2
           | succ i =>
             have hlt' : i < upN stop rest.length := by
              rw [List.length_cons, upN_succ] at hlt
              omega
             have := Tr.rounds i ys' (by simpa using hi) hlt'
             have he : (if (stop.map (· + 1)) = some (i + 1) then x else AExit.normal) = (if stop = some i then x else .normal) := by cases stop <;> simp
             rw [he]
             exact this
         · cases stop with
           | none => simp at hj
           | some k =>
             simp at hj
             have := Tr.lt k rfl
             simp; omega
       · rename_i e2 s2 h2
         cases h
         exact ⟨rfl, stopped h2 (.inl rfl)⟩
       · rename_i i e2 s2 h2
         cases h
         exact ⟨rfl, stopped h2 (.inr ⟨i, rfl⟩)⟩
       · cases h
     · cases h
   · cases h
end Go.AE
/- The end of a call: its own objects are given up. -/
namespace Go.AE
open Go
section
variable {w : World} {I : Nat → Nat → Prop} {D : Nat → Prop} {ρ : Nat → Row}
theorem keepNil_VR {h : List Obj} {n0 n : Nat} (S : Sim w I D ρ h) {I2 : Nat → Nat → Prop} {D2 : Nat → Prop} {o p : PV} {v : Value} (hf : frz h n0 n o = some p) (hv : VR w I D ρ o v) (hp : VR w I2 D2 ρ p v) : VR w I2 D2 ρ (keepNil o p) v := by
 cases n with
 | zero => simp [frz] at hf
 | succ n =>
 unfold keepNil
 split
 · rename_i sz0 es0 m sz es m'
   cases hp with
   | slice _ _ _ a cap b oo vs hsz hm hne hcap hlen hat hvv =>
     generalize hL : es.length = L at hv
     cases hv with
     | slice _ _ _ a2 cap2 b2 oo2 vs2 hsz2 hm2 hne2 hcap2 hlen2 hat2 hvv2 =>
       rw [← hL]
       refine .slice sz es _ a cap b oo vs hsz ?_ hne hcap hlen hat hvv
       cases m with
       | nil => obtain ⟨h1, h2, h3⟩ := hm2; exact ⟨h1, h2, by omega⟩
       | lit => obtain ⟨h1, h2⟩ := hm2; exact ⟨h1, by omega⟩
       | tok k => exact hm2.2.1
       | nonnil => exact hm2
       | any => trivial
       | full => trivial
 · rename_i k asz off len tip sz es m'
   cases hp with
   | slice _ _ _ a cap b oo vs hsz hm hne hcap hlen hat hvv =>
     cases hv with
     | aref _ _ _ _ _ a2 cap2 hD htip hs hlc hA =>
       refine .slice sz es _ a cap b oo vs hsz ?_ hne hcap hlen hat hvv
       split
       · rename_i hc
         rcases hc with h0 | h0
         · simp only [frz] at hf
           rw [if_neg (by simp [PV.pure])] at hf
           split at hf
           · cases hf
           · split at hf
             · rename_i sz' es' hkk
               split at hf
               · rename_i ht
                 have hok := S.obj k _ hD hkk
                 obtain ⟨_, _, _, a4⟩ := hA (by rw [hok.1, ht.1])
                 show a.isSome = true
                 rw [a4 (.inr h0)]; rfl
               · cases hf
             · cases hf
         · exact hs h0
       · trivial
 · exact hp
theorem frz_tuple {h : List Obj} {n0 n : Nat} {os : List PV} {p : PV} (hf : frz h n0 n (.tuple os) = some p) : ∃ ns, p = .tuple ns ∧ ns.length = os.length ∧ ∀ j, j < os.length → ∃ m, frz h n0 m (os.getD j .undef) = some (ns.getD j .undef) := by
 cases n with
 | zero => simp [frz] at hf
 | succ n =>
   simp only [frz] at hf
   split at hf
   · rename_i hp
     cases hf
     simp only [PV.pure] at hp
     refine ⟨weaks os, rfl, by simp [weaks_map], fun j hj => ⟨1, ?_⟩⟩
     rw [weaks_map, getD_weak]
     simp only [frz]
     rw [if_pos (pure_getD ((pures_all os).1 hp) j)]
   · simp only [Option.map_eq_some_iff] at hf
     obtain ⟨l, hl, rfl⟩ := hf
     obtain ⟨h1, h2⟩ := frz_list hl
     exact ⟨l, rfl, h1, fun j hj => ⟨n, h2 j hj⟩⟩
theorem keepNils_VR {h : List Obj} {n0 n : Nat} (S : Sim w I D ρ h) {I2 : Nat → Nat → Prop} {D2 : Nat → Prop} {o p : PV} {v : Value} (hf : frz h n0 n o = some p) (hv : VR w I D ρ o v) (hp : VR w I2 D2 ρ p v) : VR w I2 D2 ρ (keepNils o p) v := by
 unfold keepNils
 split
 · rename_i os ns
   obtain ⟨ns', he, hl, hj⟩ := frz_tuple hf
   cases he
   cases hv with
   | tuple _ vs hlen hvv =>
     cases hp with
     | tuple _ _ hlen2 hvv2 =>
       refine .tuple _ vs (by simpa using hlen2) fun j => ?_
       by_cases hjl : j < ns.length
       · obtain ⟨m, hm⟩ := hj j (by omega)
         have key := keepNil_VR S hm (hvv j) (hvv2 j)
         rw [List.getD_eq_getElem?_getD] at key ⊢
         simp only [List.getElem?_map, List.getElem?_zipIdx]
         rw [List.getD_eq_getElem?_getD, List.getElem?_eq_getElem hjl] at key
         rw [List.getElem?_eq_getElem hjl]
         simpa using key
       · rw [getD_map_ne _ j _ (by simpa using hjl)]; exact .undef _
 · exact keepNil_VR S hf hv hp
theorem top_row {k : Nat} {o : Obj} {N : Nat} (hD : ∀ k, D k → k < N) (h : OK w I D ρ k o) : ¬ ge N o.top := by
 cases o with
 | row sz es =>
   obtain ⟨_, _, _, _, _, c, E, fr, _, _, _, h9⟩ := h
   simp only [Obj.top]
   intro hg
   obtain ⟨x, hx, hg⟩ := ge_tops.1 hg
   obtain ⟨y, hy, hgy⟩ := ge_cells.2 hg
   have hmem : y ∈ flat es := List.mem_flatMap.2 ⟨x, hx, hy⟩
   obtain ⟨j, hjl, rfl⟩ := List.mem_iff_getElem.1 hmem
   have := (h9 j).top_in hD
   rw [List.getD_eq_getElem?_getD, List.getElem?_eq_getElem hjl] at this
   exact this hgy
 | tok sz m => exact ge_none
 | map es =>
   obtain ⟨_, _, ents, cl, _, _, h8⟩ := h
   simp only [Obj.top, ge_omax]
   rintro (hg | hg)
   · obtain ⟨x, hx, hg⟩ := ge_tops.1 hg
     obtain ⟨y, hy, rfl⟩ := List.mem_map.1 hx
     obtain ⟨j, hjl, rfl⟩ := List.mem_iff_getElem.1 hy
     have := (h8 j).1.top_in hD
     rw [List.getD_eq_getElem?_getD, List.getElem?_eq_getElem hjl] at this
     exact this hg
   · obtain ⟨x, hx, hg⟩ := ge_tops.1 hg
     obtain ⟨y, hy, rfl⟩ := List.mem_map.1 hx
     obtain ⟨j, hjl, rfl⟩ := List.mem_iff_getElem.1 hy
     have := (h8 j).2.top_in hD
     rw [List.getD_eq_getElem?_getD, List.getElem?_eq_getElem hjl] at this
     exact this hg
theorem VR.lower {I2 : Nat → Nat → Prop} {N : Nat} (hI : ∀ b o, I b o → I2 b o) {p : PV} {v : Value} (h : VR w I D ρ p v) (hn : ¬ ge N p.top) : VR w I2 (fun k => D k ∧ k < N) ρ p v :=
 (h.restrict hn).carry (fun b o hi => ⟨hI b o hi, rfl⟩) (fun _ h => h) (fun _ _ => ⟨Nat.le_refl _, fun _ => rfl⟩)
theorem OK.lower {k : Nat} {o : Obj} {I2 : Nat → Nat → Prop} {N : Nat} (hI : ∀ b o, I b o → I2 b o) (hI2 : ∀ o, I2 (ρ k).blk o → I (ρ k).blk o) (h : OK w I D ρ k o) (hn : ¬ ge N o.top) : OK w I2 (fun k => D k ∧ k < N) ρ k o := by
 cases o with
 | row sz es =>
   obtain ⟨h1, h2, h3, h4, h5, c, E, fr, h6, h7, h8, h9⟩ := h
   refine ⟨h1, h2, h3, h4, fun o ho => h5 o (hI2 o ho), c, E, fr, h6, h7, h8, fun j => (h9 j).lower hI fun hg => hn ?_⟩
   by_cases hj : j < (flat es).length
   · rw [List.getD_eq_getElem?_getD, List.getElem?_eq_getElem hj] at hg
     obtain ⟨x, hx, hy⟩ := List.mem_flatMap.1 (List.getElem_mem hj)
     exact ge_tops.2 ⟨x, hx, ge_cells.1 ⟨_, hy, hg⟩⟩
   · rw [getD_map_ne (flat es) j _ hj] at hg
     exact absurd hg ge_none
 | tok sz m =>
   obtain ⟨h1, h2, h3, h4, h5⟩ := h
   exact ⟨h1, h2, h3, fun o ho => h4 o (hI2 o ho), h5⟩
 | map es =>
   obtain ⟨h1, h5, ents, cl, h6, h7, h8⟩ := h
   simp only [Obj.top, ge_omax, not_or] at hn
   have one : ∀ j, ¬ ge N (es.getD j (.undef, .undef)).1.top ∧ ¬ ge N (es.getD j (.undef, .undef)).2.top := by
    intro j
    by_cases hj : j < es.length
    · rw [List.getD_eq_getElem?_getD, List.getElem?_eq_getElem hj]
      exact ⟨fun hg => hn.1 (ge_tops.2 ⟨_, List.mem_map.2 ⟨_, List.getElem_mem hj, rfl⟩, hg⟩), fun hg => hn.2 (ge_tops.2 ⟨_, List.mem_map.2 ⟨_, List.getElem_mem hj, rfl⟩, hg⟩)⟩
    · rw [List.getD_eq_getElem?_getD, List.getElem?_eq_none (by omega)]
      exact ⟨ge_none, ge_none⟩
   exact ⟨h1, fun o ho => h5 o (hI2 o ho), ents, cl, h6, h7, fun j => ⟨(h8 j).1.lower hI (one j).1, (h8 j).2.lower hI (one j).2⟩⟩
theorem tidy_sound {mode : Nat} {h : List Obj} {r r' : OR} {s s' : St} {en : Ending} {w' : World} (S0 : Sim w I D ρ h) (st : Step { h, ws := [], ups := [] } s)
 (hp : PostC w I D ρ h r s en w') (ht : tidy mode h.length r s = (r', s')) : PostC w I D ρ h r' s' en w' := by
 have same : ∀ l, (r, { s with ws := l }) = (r', s') → PostC w I D ρ h r' s' en w' := by
  intro l he
  cases he
  exact hp
 unfold tidy at ht
 split at ht
 · exact same _ ht
 · split at ht
   · exact same _ ht
   · rename_i hups
     split at ht
     · exact same _ ht
     · rename_i p' hf
       cases ht
       obtain ⟨I', ρ', N, S, En⟩ := hp
       have hlen : h.length ≤ s.h.length := st.len
       have hDlt : ∀ k, D k → k < h.length := S0.lt
       have hDD : (fun k => ext D h.length s.h.length k ∧ k < h.length) = D := by
        funext k
        apply propext
        constructor
        · rintro ⟨h1 | h1, h2⟩
          · exact h1
          · omega
        · exact fun hk => ⟨.inl hk, hDlt k hk⟩
       have htk : (s.h.take h.length).length = h.length := by simp; omega
       have hcl : ∀ b o, I' b o → claimOwn I' (ext D h.length s.h.length) ρ' h.length b o := fun _ _ hi => .inl hi
       have hclD : ∀ k, D k → ∀ o, claimOwn I' (ext D h.length s.h.length) ρ' h.length (ρ' k).blk o → I' (ρ' k).blk o := by
        rintro k hk o (hi | ⟨k', hk', hge, he⟩)
        · exact hi
        · have := S.inj k k' (.inl hk) hk' he
          have := hDlt k hk
          omega
       have hval : VR w' (claimOwn I' (ext D h.length s.h.length) ρ' h.length) D ρ' (if mode = 2 then keepNils r.v p' else p') (match en with | .returned v => v | .panicked (c :: _) => c.v | _ => undef) := by
        have key : ∀ v, VR w' I' (ext D h.length s.h.length) ρ' r.v v → VR w' (claimOwn I' (ext D h.length s.h.length) ρ' h.length) D ρ' (if mode = 2 then keepNils r.v p' else p') v := by
         intro v hv
         have h1 := frz_sound S 64 hf hv
         rw [hDD] at h1
         split
         · exact keepNils_VR S hf hv h1
         · exact h1
        cases r <;> cases en <;> simp only [EndR] at En
        · exact key _ En
        · obtain ⟨v, rfl, hv⟩ := En
          exact key _ hv
       refine ⟨claimOwn I' (ext D h.length s.h.length) ρ' h.length, ρ', ?_, ?_, ?_⟩
       all_goals simp only [htk, ext_self]
       · exact {
          os := N.os, tape := N.tape, output := N.output, size := N.size, keep := N.keep
          immI := fun b o hi => .inl (N.immI b o hi)
          immC := N.immC
          immN := by
           rintro b o (hi | ⟨k, hk, hge, rfl⟩)
           · exact N.immN b o hi
           · exact .inr (.inl (N.blkN k hk fun hd => by have := hDlt k hd; omega))
          dom := fun _ h => h
          rho := N.rho
          blk := N.blk
          blkN := fun k h1 h2 => absurd h1 h2 }
       · exact {
          lt := fun k hk => by rw [htk]; exact hDlt k hk
          obj := fun k o hk ho => by
           have hkl := hDlt k hk
           rw [List.getElem?_take, if_pos hkl] at ho
           have hok := (S.obj k o (.inl hk) ho).lower (N := h.length) hcl (hclD k hk) (fun hg => ?_)
           · rw [hDD] at hok; exact hok
           · rcases st.up h.length (Nat.le_refl _) k hkl (by rw [ho]; exact hg) with h1 | ⟨x, hx, h1, h2⟩
             · have h1' : ge h.length ((h[k]?).bind Obj.top) := h1
               rw [List.getElem?_eq_getElem hkl] at h1'
               exact top_row hDlt (S0.obj k _ hk (List.getElem?_eq_getElem hkl)) h1'
             · refine hups (List.any_eq_true.2 ⟨x, hx, ?_⟩)
               obtain ⟨x1, x2⟩ := x
               simp at h1 h2 ⊢
               exact ⟨h1, h2⟩
          inj := fun k k' hk hk' he => S.inj k k' (.inl hk) (.inl hk') he
          imm := by
           rintro b o (hi | ⟨k, hk, hge, rfl⟩)
           · exact S.imm b o hi
           · exact S.blk_lt k hk }
       · cases r <;> cases en <;> simp only [EndR] at En
         · exact hval
         · obtain ⟨v, rfl, hv⟩ := En
           exact ⟨v, rfl, hval⟩
end
end Go.AE
/- The code of a function, its body, calls. -/
namespace Go.AE
open Go
section
variable {P : Program} {T : Tbl} {call : FuncId → List PV → List Obj → Option CallRes} {rows : List Nat} {nt base : Nat}
def AfterCode (base : Nat) (w : World) (I : Nat → Nat → Prop) (D : Nat → Prop) (ρ : Nat → Row) (nt : Nat) (s s' : St) (x : AExit) (e' : List PV) (Q : Exit → Act → World → Prop) : Prop :=
 match x with
 | .normal => ∀ a' w' I' ρ', Nxt w I D ρ w' I' (ext D s.h.length s'.h.length) ρ' → Sim w' I' (ext D s.h.length s'.h.length) ρ' s'.h → EnvR w' I' (ext D s.h.length s'.h.length) ρ' nt e' a' → Marks base w' I' (ext D s.h.length s'.h.length) ρ' a'.defers → Q .normal a' w'
 | .exit id => ∀ a' w' I' ρ', Nxt w I D ρ w' I' (ext D s.h.length s'.h.length) ρ' → Sim w' I' (ext D s.h.length s'.h.length) ρ' s'.h → EnvR w' I' (ext D s.h.length s'.h.length) ρ' nt e' a' → Marks base w' I' (ext D s.h.length s'.h.length) ρ' a'.defers → Q (.exit id) a' w'
 | .ret => ∀ a' w' I' ρ', Nxt w I D ρ w' I' (ext D s.h.length s'.h.length) ρ' → Sim w' I' (ext D s.h.length s'.h.length) ρ' s'.h → EnvR w' I' (ext D s.h.length s'.h.length) ρ' nt e' a' → Marks base w' I' (ext D s.h.length s'.h.length) ρ' a'.defers → Q .ret a' w'
 | .pan p => ∀ a' w' I' ρ' v, Nxt w I D ρ w' I' (ext D s.h.length s'.h.length) ρ' → Sim w' I' (ext D s.h.length s'.h.length) ρ' s'.h → VR w' I' (ext D s.h.length s'.h.length) ρ' p v → Marks base w' I' (ext D s.h.length s'.h.length) ρ' a'.defers → Q (.panic [{ v, recovered := false }]) a' w'
variable {w : World} {I : Nat → Nat → Prop} {D : Nat → Prop} {ρ : Nat → Row}
theorem AfterCode.from {s s1 s2 : St} (S : Sim w I D ρ s.h) {w1 : World} {I1 : Nat → Nat → Prop} {ρ1 : Nat → Row} (h1 : s.h.length ≤ s1.h.length) (h2 : s1.h.length ≤ s2.h.length)
 (N : Nxt w I D ρ w1 I1 (ext D s.h.length s1.h.length) ρ1) {x : AExit} {e' : List PV} {Q : Exit → Act → World → Prop} (A : AfterCode base w I D ρ nt s s2 x e' Q) :
 AfterCode base w1 I1 (ext D s.h.length s1.h.length) ρ1 nt s1 s2 x e' Q := by
 have he := ext_ext D h1 h2
 have hb : ∀ k, D k → (ρ k).blk < w.heap.size := fun k hk => S.blk_lt k hk
 cases x <;> simp only [AfterCode, he] at A ⊢
 · exact fun a' w' I' ρ' n S' E' => A a' w' I' ρ' (Nxt.trans hb N n) S' E'
 · exact fun a' w' I' ρ' n S' E' => A a' w' I' ρ' (Nxt.trans hb N n) S' E'
 · exact fun a' w' I' ρ' n S' E' => A a' w' I' ρ' (Nxt.trans hb N n) S' E'
 · exact fun a' w' I' ρ' v n S' E' => A a' w' I' ρ' v (Nxt.trans hb N n) S' E'
theorem AfterCode.stay {e : List PV} {s : St} {a : Act} (S : Sim w I D ρ s.h) (E : EnvR w I D ρ nt e a) (M : Marks base w I D ρ a.defers) {x : AExit} {Q : Exit → Act → World → Prop} (A : AfterCode base w I D ρ nt s s x e Q) :
 match x with | .normal => Q .normal a w | .exit id => Q (.exit id) a w | .ret => Q .ret a w | .pan _ => True := by
 cases x <;> simp only [AfterCode, ext_self] at A ⊢
 · exact A a w I ρ (Nxt.refl _ _ _ _) S E M
 · exact A a w I ρ (Nxt.refl _ _ _ _) S E M
 · exact A a w I ρ (Nxt.refl _ _ _ _) S E M
theorem AfterOps.of_code {s s' : St} {po : Option PV} {e' : List PV} {ds : List Deferred} (M : Marks base w I D ρ ds) {Q : Exit → Act → World → Prop} (h : ∀ x, (po = none → x = .normal) → (∀ p, po = some p → x = .pan p) → AfterCode base w I D ρ nt s s' x e' Q) : AfterOps w I D ρ nt ds s s' po e' Q where
 fin hp a' w' I' ρ' N S E hd := by subst hp; exact h .normal (fun _ => rfl) (fun _ hp => by cases hp) a' w' I' ρ' N S E (by rw [hd]; exact M.next N)
 pan p hp a' w' I' ρ' v N S V hd := by subst hp; exact h (.pan p) (fun hp => by cases hp) (fun _ hp => by cases hp; rfl) a' w' I' ρ' v N S V (by rw [hd]; exact M.next N)
def ItersOK (P : Program) (T : Tbl) : Prop := ∀ gf it, T.iter gf = some it → ∀ captured yss, it captured = some yss → IterSem P gf captured yss
def RangeWp (P : Program) (T : Tbl) (call : FuncId → List PV → List Obj → Option CallRes) (rows : List Nat) (nt n k : Nat) (g : Operand) (ps : Array Tmp) (c1 c2 : Code) : Prop :=
 ∀ {base : Nat} {e : List PV} {s : St} {x : AExit} {e' : List PV} {s' : St} {a : Act} {w : World} {I : Nat → Nat → Prop} {D : Nat → Prop} {ρ : Nat → Row} {Q : Exit → Act → World → Prop},
  evCode T call n (comp P rows nt (.rangeFunc g ps c1 c2)) e s = some (x, e', s') → Sim w I D ρ s.h → EnvR w I D ρ nt e a → Marks base w I D ρ a.defers → base ≤ w.heap.size → (∀ a w, ¬ Q .outgrown a w) → AfterCode base w I D ρ nt s s' x e' Q → (Code.rangeFunc g ps c1 c2).wpIn (wr none) k P Q a w
theorem comp_wpIn (hm : P.follows .mixedOrders = true) (hT : ∀ f p, T.prim f = some p → PrimOK P f p) (hC : CallOK P call) (hS : CallStep call) (n k : Nat) {r : Option Nat} (hrange : r = none → ∀ g ps c1 c2, roundOk c1 = true → roundOk c2 = true → RangeWp P T call rows nt n k g ps c1 c2) :
 ∀ (c : Code), (r = none ∨ roundOk c = true) → ∀ {base : Nat} {e : List PV} {s : St} {x : AExit} {e' : List PV} {s' : St} {a : Act} {w : World} {I : Nat → Nat → Prop} {D : Nat → Prop} {ρ : Nat → Row} {Q : Exit → Act → World → Prop},
   evCode T call n (comp P rows nt c) e s = some (x, e', s') → Sim w I D ρ s.h → EnvR w I D ρ nt e a → Marks base w I D ρ a.defers → base ≤ w.heap.size → (∀ a w, ¬ Q .outgrown a w) → AfterCode base w I D ρ nt s s' x e' Q → c.wpIn (wr r) k P Q a w := by
 intro c
 induction c with
 | skip =>
   intro _ base e s x e' s' a w I D ρ Q h S E M hb hQ A
   simp only [comp, evCode] at h
   cases h
   exact wpIn_skip (A.stay S E M)
 | label l =>
   intro _ base e s x e' s' a w I D ρ Q h S E M hb hQ A
   simp only [comp, evCode] at h
   cases h
   exact wpIn_label (A.stay S E M)
 | region id ops d =>
   intro _ base e s x e' s' a w I D ρ Q h S E M hb hQ A
   cases d with
   | false =>
     simp only [comp] at h
     split at h
     · rename_i hnd
       simp only [evCode] at h
       refine wpIn_region ?_
       rw [List.range_eq_range']
       split at h
       · rename_i e1 s1 h1
         cases h
         exact opsIn_of (.inr (noDefer_spec hnd)) hQ _ _ _ (evOps_wp hT hC hS ops Q ops.size 0 _ _ _ _ _ _ _ _ _ _ (by omega) rfl (by simpa using h1) S E (.of_code M fun x h1 _ => by rw [h1 rfl]; exact A))
       · rename_i p e1 s1 h1
         cases h
         exact opsIn_of (.inr (noDefer_spec hnd)) hQ _ _ _ (evOps_wp hT hC hS ops Q ops.size 0 _ _ _ _ _ _ _ _ _ _ (by omega) rfl (by simpa using h1) S E (.of_code M fun x _ h1 => by rw [h1 _ rfl]; exact A))
       · cases h
     · simp only [evCode] at h; cases h
   | true =>
     simp only [comp] at h
     split at h
     · rename_i hc
       simp only [Bool.and_eq_true] at hc
       simp only [evCode] at h
       split at h
       · rename_i e1 s1 h1
         cases h
         exact wpIn_region_any hm (anyIn_of (.inr (noDefer_spec hc.1.1.1.1)) hQ _ _ _ _ (evOpsD_wp hT hC hS hc.1.1.1.2 hc.1.1.2 hc.1.2 hc.2 h1 S E rfl (.of_code M fun x h1 _ => by rw [h1 rfl]; exact A)))
       · rename_i p e1 s1 h1
         cases h
         exact wpIn_region_any hm (anyIn_of (.inr (noDefer_spec hc.1.1.1.1)) hQ _ _ _ _ (evOpsD_wp hT hC hS hc.1.1.1.2 hc.1.1.2 hc.1.2 hc.2 h1 S E rfl (.of_code M fun x _ h1 => by rw [h1 _ rfl]; exact A)))
       · cases h
     · simp only [evCode] at h; cases h
 | seq b c ihb ihc =>
   intro hr base e s x e' s' a w I D ρ Q h S E M hb hQ A
   have hrb : r = none ∨ roundOk b = true := hr.imp id fun h => by simp only [roundOk, Bool.and_eq_true] at h; exact h.1
   have hrc : r = none ∨ roundOk c = true := hr.imp id fun h => by simp only [roundOk, Bool.and_eq_true] at h; exact h.2
   simp only [comp, evCode] at h
   refine wpIn_seq ?_
   split at h
   · rename_i e1 s1 h1
     have st1 := evCode_step hS n h1
     have st2 := evCode_step hS n h
     refine ihb hrb h1 S E M hb (fun a w => hQ a w) fun a1 w1 I1 ρ1 N1 S1 E1 M1 => ?_
     exact ihc hrc h S1 E1 M1 (Nat.le_trans hb N1.size) hQ (A.from S st1.len st2.len N1)
   · rename_i hne
     refine ihb hrb h S E M hb (fun a w => hQ a w) ?_
     cases x with
     | normal => exact absurd h (hne _ _)
     | exit id => exact A
     | ret => exact A
     | pan p => exact A
 | cond c t f iht ihf =>
   intro hr base e s x e' s' a w I D ρ Q h S E M hb hQ A
   have hrb : r = none ∨ roundOk t = true := hr.imp id fun h => by simp only [roundOk, Bool.and_eq_true] at h; exact h.1
   have hrc : r = none ∨ roundOk f = true := hr.imp id fun h => by simp only [roundOk, Bool.and_eq_true] at h; exact h.2
   simp only [comp, evCode] at h
   have hc := E.eval c
   split at h
   · rename_i hk
     rw [hk] at hc
     generalize hv : a.eval c = v at hc
     cases hc
     exact wpIn_cond_true hv (iht hrb h S E M hb hQ A)
   · rename_i hk
     rw [hk] at hc
     generalize hv : a.eval c = v at hc
     cases hc
     exact wpIn_cond_false hv (ihf hrc h S E M hb hQ A)
   · cases h
 | block id b ih =>
   intro hr base e s x e' s' a w I D ρ Q h S E M hb hQ A
   have hrb : r = none ∨ roundOk b = true := hr.imp (fun h => h) fun h => by simpa only [roundOk] using h
   simp only [comp, evCode] at h
   refine wpIn_block ?_
   split at h
   · rename_i i e1 s1 h1
     split at h
     · rename_i hi
       cases h
       subst hi
       refine ih hrb h1 S E M hb (fun a w => hQ a w) fun a1 w1 I1 ρ1 N1 S1 E1 M1 => ?_
       simp only [Exit.inBlock, if_true]
       exact A a1 w1 I1 ρ1 N1 S1 E1 M1
     · rename_i hi
       cases h
       refine ih hrb h1 S E M hb (fun a w => hQ a w) fun a1 w1 I1 ρ1 N1 S1 E1 M1 => ?_
       simp only [Exit.inBlock, if_neg hi]
       exact A a1 w1 I1 ρ1 N1 S1 E1 M1
   · rename_i hne
     refine ih hrb h S E M hb (fun a w => hQ a w) ?_
     cases x with
     | normal => exact A
     | exit id => exact absurd h (hne _ _ _)
     | ret => exact A
     | pan p => exact A
 | loop b ih =>
   intro hr base e s x e' s' a w I D ρ Q h S E M hb hQ A
   have hrb : r = none ∨ roundOk b = true := hr.imp (fun h => h) fun h => by simpa only [roundOk] using h
   simp only [comp, evCode] at h
   refine wpIn_loop_rounds n ?_
   have key : ∀ (m : Nat) {e : List PV} {s : St} {a : Act} {w : World} {I : Nat → Nat → Prop} {D : Nat → Prop} {ρ : Nat → Row},
    evLoop (evCode T call n (comp P rows nt b)) m e s = some (x, e', s') → Sim w I D ρ s.h → EnvR w I D ρ nt e a → Marks base w I D ρ a.defers → base ≤ w.heap.size → AfterCode base w I D ρ nt s s' x e' Q → Code.roundsIn (wr r) k P b Q m a w := by
    intro m
    induction m with
    | zero => intro e s a w I D ρ h; simp [evLoop] at h
    | succ m ihm =>
      intro e s a w I D ρ h S E M hb A
      simp only [evLoop] at h
      rw [roundsIn_succ]
      split at h
      · rename_i e1 s1 h1
        have st1 := evCode_step hS n h1
        have st2 := evLoop_step (fun e s x e' s' h => evCode_step hS n h) h
        refine ih hrb h1 S E M hb (fun a w => hQ a w) fun a1 w1 I1 ρ1 N1 S1 E1 M1 => ?_
        exact ihm h S1 E1 M1 (Nat.le_trans hb N1.size) (A.from S st1.len st2.len N1)
      · rename_i hne
        refine ih hrb h S E M hb (fun a w => hQ a w) ?_
        cases x with
        | normal => exact absurd h (hne _ _)
        | exit id => exact A
        | ret => exact A
        | pan p => exact A
   exact key n h S E M hb A
 | exit id =>
   intro _ base e s x e' s' a w I D ρ Q h S E M hb hQ A
   simp only [comp, evCode] at h
   cases h
   exact wpIn_exit (A.stay S E M)
 | ret =>
   intro _ base e s x e' s' a w I D ρ Q h S E M hb hQ A
   simp only [comp, evCode] at h
   cases h
   exact wpIn_ret (A.stay S E M)
 | rangeFunc g ps c1 c2 =>
   intro hr base e s x e' s' a w I D ρ Q h S E M hb hQ A
   rcases hr with rfl | hr
   · have hok : roundOk c1 = true ∧ roundOk c2 = true := by
      simp only [comp] at h
      split at h
      · rename_i hc
        simp only [Bool.and_eq_true] at hc
        exact ⟨hc.1.2, hc.2⟩
      · simp only [evCode] at h; cases h
     exact hrange rfl g ps c1 c2 hok.1 hok.2 h S E M hb hQ A
   · simp [roundOk] at hr
 | _ =>
   intro _ base e s x e' s' a w I D ρ Q h S E M hb hQ A
   simp only [comp, evCode] at h
   cases h
end
end Go.AE
/- A range over a function. -/
namespace Go.AE
open Go
section
variable {P : Program} {T : Tbl} {call : FuncId → List PV → List Obj → Option CallRes} {rows : List Nat} {nt : Nat}
theorem puts_env {w : World} {I : Nat → Nat → Prop} {D : Nat → Prop} {ρ : Nat → Row} : ∀ {ps : List Nat} {ys : List PV} {us : List Value} {e : List PV} {tmps : Array Value} {ds ds' : List Deferred}, ys.length = ps.length → (∀ p ∈ ps, p < nt) → VRs w I D ρ ys us → EnvR w I D ρ nt e { tmps, defers := ds } →
 EnvR w I D ρ nt (puts e ps ys) { tmps := (ps.zip us).foldl (fun t (p, v) => t.setIfInBounds p v) tmps, defers := ds' }
 | [], ys, us, e, tmps, ds, ds', hl, _, V, E => by
   cases ys with
   | nil => exact ⟨E.size, E.len, E.at_⟩
   | cons y ys => simp at hl
 | p :: ps, [], us, e, tmps, ds, ds', hl, _, V, E => by simp at hl
 | p :: ps, y :: ys, us, e, tmps, ds, ds', hl, hp, V, E => by
   cases us with
   | nil => have := V.1; simp at this
   | cons u us =>
     have h1 := E.put (some p) (fun i hi => by cases hi; exact hp p (by simp)) (V.2 0)
     simp only [putD, Act.put] at h1
     have V' : VRs w I D ρ ys us := ⟨by have := V.1; simpa using this, fun j => V.2 (j + 1)⟩
     exact puts_env (ps := ps) (by simpa using hl) (fun q hq => hp q (by simp [hq])) V' h1
def recOf (fn : FuncId) (tmps : Array Value) (ps : Array Tmp) (c1 c2 : Code) (D : Nat) (st : LoopState) (pe : Option Code) : Loop := { state := st, pending := pe, fn, tmps, params := ps, assign := c1, body := c2, defers := D }
def jumpOf : AExit → Option Code
 | .ret => some .ret
 | .exit i => some (.exit i)
 | _ => none
def recAt (fn : FuncId) (tmps : Array Value) (ps : Array Tmp) (c1 c2 : Code) (D : Nat) (stop : Option Nat) (x : AExit) (i : Nat) : Loop :=
 if ∃ j, stop = some j ∧ i = j + 1 then recOf fn tmps ps c1 c2 D .done (jumpOf x) else recOf fn tmps ps c1 c2 D .ready none
structure Betw (w : World) (I : Nat → Nat → Prop) (D : Nat → Prop) (ρ : Nat → Row) (h0 : List Obj) (rec : Nat → Loop) (H : Nat → St) (N i : Nat) (W : World) (I' : Nat → Nat → Prop) (X : Nat → Prop) (ρ' : Nat → Row) : Prop where
 le : i ≤ N
 len : h0.length ≤ (H i).h.length
 nxt : Nxt w I D ρ W I' (ext D h0.length (H i).h.length) ρ'
 sim : Sim W I' (ext D h0.length (H i).h.length) ρ' (H i).h
 loop : W.heap[w.heap.size + 1]? = some (.loop (rec i))
 mark : W.heap[w.heap.size]? = some (.deferred (some []))
 notI : ∀ o, ¬ I' w.heap.size o ∧ ¬ I' (w.heap.size + 1) o
 own : ∀ b, X b ↔ (rowsOf (ext D h0.length (H i).h.length) ρ' b ∨ b = w.heap.size ∨ b = w.heap.size + 1)
theorem Sim.notRow {w : World} {I : Nat → Nat → Prop} {D : Nat → Prop} {ρ : Nat → Row} {h : List Obj} (S : Sim w I D ρ h) {b : Nat} {o : Go.Obj} (ho : w.heap[b]? = some o) (h1 : ∀ c E fr, o ≠ .cells c E fr) (h2 : ∀ e c, o ≠ .map e c) : ¬ rowsOf D ρ b := by
 rintro ⟨k, hk, rfl⟩
 rcases S.kind hk with ⟨c, E, fr, h⟩ | ⟨e, c, h⟩
 · rw [ho] at h; cases h; exact h1 _ _ _ rfl
 · rw [ho] at h; cases h; exact h2 _ _ rfl
variable {w : World} {I : Nat → Nat → Prop} {D : Nat → Prop} {ρ : Nat → Row} {h0 : List Obj} {rec : Nat → Loop} {H : Nat → St} {N i : Nat} {W : World} {I' : Nat → Nat → Prop} {X : Nat → Prop} {ρ' : Nat → Row}
theorem Betw.rowL (B : Betw w I D ρ h0 rec H N i W I' X ρ') : ¬ rowsOf (ext D h0.length (H i).h.length) ρ' (w.heap.size + 1) := B.sim.notRow B.loop (by simp) (by simp)
theorem Betw.rowM (B : Betw w I D ρ h0 rec H N i W I' X ρ') : ¬ rowsOf (ext D h0.length (H i).h.length) ρ' w.heap.size := B.sim.notRow B.mark (by simp) (by simp)
theorem Betw.stp (B : Betw w I D ρ h0 rec H N i W I' X ρ') {w' : World} {I'' : Nat → Nat → Prop} {Y : Nat → Prop} (s : Stp Y W I' w' I'') (hY : ∀ k, Y k → ¬ X k) (hlo : ∀ k, Y k → w.heap.size ≤ k) (him : ∀ k o, I'' k o → k < w'.heap.size) : Betw w I D ρ h0 rec H N i w' I'' X ρ' where
 le := B.le
 len := B.len
 nxt := B.nxt.stp_after s hlo
 sim := B.sim.stp s (fun k hk hy => hY _ hy ((B.own _).2 (.inl ⟨k, hk, rfl⟩))) him
 loop := (s.keep _ (Array.getElem?_eq_some_iff.1 B.loop).1 fun hy => hY _ hy ((B.own _).2 (.inr (.inr rfl)))).trans B.loop
 mark := (s.keep _ (Array.getElem?_eq_some_iff.1 B.mark).1 fun hy => hY _ hy ((B.own _).2 (.inr (.inl rfl)))).trans B.mark
 notI o := by
  have h1 := (Array.getElem?_eq_some_iff.1 B.loop).1
  refine ⟨fun ho => ?_, fun ho => ?_⟩
  · rcases s.immN _ _ ho with h | h | h
    · exact (B.notI o).1 h
    · omega
    · exact hY _ h ((B.own _).2 (.inr (.inl rfl)))
  · rcases s.immN _ _ ho with h | h | h
    · exact (B.notI o).2 h
    · omega
    · exact hY _ h ((B.own _).2 (.inr (.inr rfl)))
 own := B.own
theorem Marks.stp {base : Nat} {w : World} {I : Nat → Nat → Prop} {D : Nat → Prop} {ρ : Nat → Row} {w' : World} {I' : Nat → Nat → Prop} {X : Nat → Prop} {ds : List Deferred} (M : Marks base w I D ρ ds) (s : Stp X w I w' I')
 (hX : ∀ d ∈ ds, ∀ b, d.target = .collected b → ¬ X b) : Marks base w' I' D ρ ds := by
 refine ⟨M.nodup, fun d hd => ?_⟩
 obtain ⟨b, rfl, h2, h3, h4, h5⟩ := M.at_ d hd
 have hb := hX _ hd b rfl
 have hlt := (Array.getElem?_eq_some_iff.1 h2).1
 refine ⟨b, rfl, (s.keep b hlt hb).trans h2, h3, fun o ho => ?_, h5⟩
 rcases s.immN _ _ ho with h | h | h
 · exact h4 o h
 · omega
 · exact hb h
theorem zip_fold (ps : Array Tmp) (us : List Value) (tmps : Array Value) : (ps.zip us.toArray).foldl (fun tmps (t, a) => tmps.setIfInBounds t a) tmps = (ps.toList.zip us).foldl (fun t (p, v) => t.setIfInBounds p v) tmps := by
 rw [← Array.foldl_toList, Array.toList_zip]
theorem round_wp (hm : P.follows .mixedOrders = true) (hT : ∀ f p, T.prim f = some p → PrimOK P f p) (hC : CallOK P call) (hS : CallStep call) {n : Nat} {fn : FuncId} {a : Act} {ps : Array Tmp} {c1 c2 : Code} (hok1 : roundOk c1 = true) (hok2 : roundOk c2 = true) (hps : ∀ p ∈ ps.toList, p < nt)
 {stop : Option Nat} {x : AExit} (hx : stop ≠ none → x = .ret ∨ ∃ j, x = .exit j) {e : List PV} {ys : List PV} {us : List Value} (S0 : Sim w I D ρ h0) (E : EnvR w I D ρ nt e a)
 (B : Betw w I D ρ h0 (recAt fn a.tmps ps c1 c2 w.heap.size stop x) H N i W I' X ρ') (hi : i < N) (hN : ∀ j, stop = some j → N ≤ j + 1)
 (R1 : Round1 (evCode T call n (comp P rows nt c1)) (evCode T call n (comp P rows nt c2)) ps.toList e ys (H i) (H (i + 1)) (if stop = some i then x else .normal)) (V : ∀ D ρ, VRs W I' D ρ ys us) :
 ∃ fn' tmps assign body, (Instr.yield (w.heap.size + 1) us.toArray).run P W = .ok (.round (w.heap.size + 1) fn' tmps assign body) W ∧ ∀ k, RoundIn (wr none) k P (w.heap.size + 1) fn' tmps assign body W fun en w' =>
   en = .returned (.bool (decide (stop ≠ some i))) ∧ ∃ I'' X'', (∃ ρ'', Betw w I D ρ h0 (recAt fn a.tmps ps c1 c2 w.heap.size stop x) H N (i + 1) w' I'' X'' ρ'') ∧ Stp X W I' w' I'' ∧ (∀ k, X'' k → X k ∨ W.heap.size ≤ k) ∧ ∀ k o, I'' k o → k < w'.heap.size := by
 obtain ⟨hlen, e1, s1, e2, h1, h2⟩ := R1
 have hready : recAt fn a.tmps ps c1 c2 w.heap.size stop x i = recOf fn a.tmps ps c1 c2 w.heap.size .ready none := by
  unfold recAt
  rw [if_neg]
  rintro ⟨j, hj, rfl⟩
  have := hN j hj
  omega
 have hl : W.heap[w.heap.size + 1]? = some (.loop (recOf fn a.tmps ps c1 c2 w.heap.size .ready none)) := by rw [← hready]; exact B.loop
 have hlt : w.heap.size + 1 < W.heap.size := (Array.getElem?_eq_some_iff.1 hl).1
 have hbw : ∀ k, D k → (ρ k).blk < w.heap.size := fun k hk => S0.blk_lt k hk
 have hus : us.toArray.size = ps.size := by
  have := (V D ρ).1
  simp only [List.size_toArray]
  rw [this, hlen]; simp
 refine ⟨fn, _, c1, c2, run_yield hl hus, fun k => roundIn_of_wpIn (F := wr none) trivial ?_⟩
 have st1 := evCode_step hS n h1
 have st2 := evCode_step hS n h2
 have E0 : EnvR W I' (ext D h0.length (H i).h.length) ρ' nt (puts e ps.toList ys) { tmps := (ps.zip us.toArray).foldl (fun tmps (t, a) => tmps.setIfInBounds t a) a.tmps, defers := [] } := by
  rw [zip_fold]
  exact puts_env (ds := a.defers) hlen hps (V _ _) (E.next B.nxt)
 refine comp_wpIn hm hT hC hS n k (r := some (w.heap.size + 1)) (fun h => by cases h) c1 (.inr hok1) (base := 0) h1 B.sim E0 Marks.nil (Nat.zero_le _) (fun a w h => h) fun a1 w1 I1 ρ1 N1 S1 E1 M1 => ?_
 have hl1 : w1.heap[w.heap.size + 1]? = some (.loop (recOf fn a.tmps ps c1 c2 w.heap.size .ready none)) := (N1.stp.keep _ hlt B.rowL).trans hl
 have hI1 : ∀ o, ¬ I1 (w.heap.size + 1) o := fun o ho => by
  rcases N1.stp.immN _ _ ho with h | h | h
  · exact (B.notI o).2 h
  · omega
  · exact B.rowL h
 have hlt1 : w.heap.size + 1 < w1.heap.size := (Array.getElem?_eq_some_iff.1 hl1).1
 refine ⟨_, run_beginRound hl1 rfl, ?_⟩
 generalize hw2 : w1.putObj (w.heap.size + 1) (.loop { recOf fn a.tmps ps c1 c2 w.heap.size .ready none with state := .busy }) = w2
 have stp1 : Stp (fun b => b = w.heap.size + 1) w1 I1 w2 I1 := by rw [← hw2]; exact stp_putObj hl1 (by simp) (by simp) hI1
 have hl2 : w2.heap[w.heap.size + 1]? = some (.loop { recOf fn a.tmps ps c1 c2 w.heap.size .ready none with state := .busy }) := by rw [← hw2]; exact World.putObj_heap_same hlt1
 have hsz2 : w2.heap.size = w1.heap.size := by rw [← hw2]; simp
 have hrow1 : ∀ k, ext (ext D h0.length (H i).h.length) (H i).h.length s1.h.length k → (ρ1 k).blk ≠ w.heap.size + 1 := fun k hk e => S1.notRow hl1 (by simp) (by simp) ⟨k, hk, e.symm⟩
 have S2 := S1.stp stp1 (fun k hk e => hrow1 k hk e) (fun b o h => by rw [hsz2]; exact S1.imm b o h)
 have M2 := M1.stp stp1 (fun d hd b ht hb => by
  obtain ⟨b', rfl, h2, _⟩ := M1.at_ d hd
  simp at ht
  subst ht hb
  rw [hl1] at h2
  cases h2)
 have hm1 : w1.heap[w.heap.size]? = some (.deferred (some [])) := (N1.stp.keep _ (by omega) B.rowM).trans B.mark
 have hm2 : w2.heap[w.heap.size]? = some (.deferred (some [])) := (stp1.keep _ (by omega) (by omega)).trans hm1
 have finish : ∀ (jump : Option Code) (a3 : Act) (w3 : World) (I3 : Nat → Nat → Prop) (ρ3 : Nat → Row), recAt fn a.tmps ps c1 c2 w.heap.size stop x (i + 1) = recOf fn a.tmps ps c1 c2 w.heap.size (if jump.isNone then .ready else .done) jump → decide (stop ≠ some i) = jump.isNone →
  Nxt w2 I1 (ext (ext D h0.length (H i).h.length) (H i).h.length s1.h.length) ρ1 w3 I3 (ext (ext (ext D h0.length (H i).h.length) (H i).h.length s1.h.length) s1.h.length (H (i + 1)).h.length) ρ3 →
  Sim w3 I3 (ext (ext (ext D h0.length (H i).h.length) (H i).h.length s1.h.length) s1.h.length (H (i + 1)).h.length) ρ3 (H (i + 1)).h →
  ∃ v w', (Instr.endRound (w.heap.size + 1) jump).run P w3 = .ok v w' ∧ Ending.returned v = .returned (.bool (decide (stop ≠ some i))) ∧ ∃ I'' X'', (∃ ρ'', Betw w I D ρ h0 (recAt fn a.tmps ps c1 c2 w.heap.size stop x) H N (i + 1) w' I'' X'' ρ'') ∧ Stp X W I' w' I'' ∧ (∀ k, X'' k → X k ∨ W.heap.size ≤ k) ∧ ∀ k o, I'' k o → k < w'.heap.size := by
  intro jump a3 w3 I3 ρ3 hrec hb N3 S3
  have hrow2 : ¬ rowsOf (ext (ext D h0.length (H i).h.length) (H i).h.length s1.h.length) ρ1 (w.heap.size + 1) := fun ⟨k, hk, e⟩ => hrow1 k hk e.symm
  have hrowM2 : ¬ rowsOf (ext (ext D h0.length (H i).h.length) (H i).h.length s1.h.length) ρ1 w.heap.size := S1.notRow hm1 (by simp) (by simp)
  have hl3 := (N3.stp.keep _ (by omega) hrow2).trans hl2
  have hm3 := (N3.stp.keep _ (by omega) hrowM2).trans hm2
  have hI3 : ∀ o, ¬ I3 (w.heap.size + 1) o := fun o ho => by
   rcases N3.stp.immN _ _ ho with h | h | h
   · exact hI1 o h
   · omega
   · exact hrow2 h
  have hIM3 : ∀ o, ¬ I3 w.heap.size o := fun o ho => by
   rcases N3.stp.immN _ _ ho with h | h | h
   · rcases N1.stp.immN _ _ h with h | h | h
     · exact (B.notI o).1 h
     · omega
     · exact B.rowM h
   · omega
   · exact hrowM2 h
  have hlt3 := (Array.getElem?_eq_some_iff.1 hl3).1
  have stp3 := stp_putObj (I := I3) (o' := .loop { recOf fn a.tmps ps c1 c2 w.heap.size .ready none with state := if jump.isNone then .ready else .done, pending := jump }) hl3 (by simp) (by simp) hI3
  have hX2 : ext (ext (ext D h0.length (H i).h.length) (H i).h.length s1.h.length) s1.h.length (H (i + 1)).h.length = ext D h0.length (H (i + 1)).h.length := by
   rw [ext_ext D B.len st1.len, ext_ext D (Nat.le_trans B.len st1.len) st2.len]
  have hX1 : ext (ext D h0.length (H i).h.length) (H i).h.length s1.h.length = ext D h0.length s1.h.length := ext_ext D B.len st1.len
  have Nw1 : Nxt w I D ρ w2 I1 (ext (ext D h0.length (H i).h.length) (H i).h.length s1.h.length) ρ1 := (Nxt.trans hbw B.nxt N1).stp_after stp1 (fun b hb => by omega)
  have Nw3 := (Nxt.trans hbw Nw1 N3).stp_after stp3 (fun b hb => by omega)
  have hrow3 : ¬ rowsOf (ext (ext (ext D h0.length (H i).h.length) (H i).h.length s1.h.length) s1.h.length (H (i + 1)).h.length) ρ3 (w.heap.size + 1) := S3.notRow hl3 (by simp) (by simp)
  have S4 := S3.stp stp3 (fun k hk e => hrow3 ⟨k, hk, e.symm⟩) (fun b o h => by rw [World.putObj_size]; exact S3.imm b o h)
  refine ⟨_, _, run_endRound jump hl3, by rw [hb], I3, fun b => rowsOf (ext D h0.length (H (i + 1)).h.length) ρ3 b ∨ b = w.heap.size ∨ b = w.heap.size + 1, ⟨ρ3, ?_⟩, ?_, ?_, ?_⟩
  · rw [hX2] at Nw3 S4
    refine ⟨hi, Nat.le_trans B.len (Nat.le_trans st1.len st2.len), Nw3, S4, ?_, ?_, fun o => ⟨hIM3 o, hI3 o⟩, fun b => Iff.rfl⟩
    · rw [hrec]; exact World.putObj_heap_same hlt3
    · exact (World.putObj_heap_other (by omega)).trans hm3
  · have a1 : Stp X W I' w1 I1 := N1.stp.mono fun b hb => .inl ((B.own b).2 (.inl hb))
    have a2 : Stp X W I' w2 I1 := a1.trans stp1 fun b hb => .inl ((B.own b).2 (.inr (.inr hb)))
    have a3 : Stp X W I' w3 I3 := a2.trans N3.stp fun b ⟨k, hk, hb⟩ => by
     by_cases hd : ext D h0.length (H i).h.length k
     · rcases N1.blk k hd with h | h
       · exact .inl ((B.own b).2 (.inl ⟨k, hd, hb.trans h⟩))
       · exact .inr (hb ▸ h)
     · exact .inr (hb ▸ N1.blkN k hk hd)
    exact a3.trans stp3 fun b hb => .inl ((B.own b).2 (.inr (.inr hb)))
  · rintro b (⟨k, hk, hb⟩ | hb)
    · have hb2 : W.heap.size ≤ w2.heap.size := by rw [hsz2]; exact N1.size
      rw [← hX2] at hk
      by_cases hd1 : ext (ext D h0.length (H i).h.length) (H i).h.length s1.h.length k
      · rcases N3.blk k hd1 with h | h
        · by_cases hd : ext D h0.length (H i).h.length k
          · rcases N1.blk k hd with h' | h'
            · exact .inl ((B.own b).2 (.inl ⟨k, hd, hb.trans (h.trans h')⟩))
            · exact .inr (by rw [hb, h]; exact h')
          · exact .inr (by rw [hb, h]; exact N1.blkN k hd1 hd)
        · exact .inr (by rw [hb]; omega)
      · have := N3.blkN k hk hd1
        exact .inr (by rw [hb]; omega)
    · exact .inl ((B.own b).2 (.inr hb))
  · exact fun k o h => by rw [World.putObj_size]; exact S3.imm k o h
 refine comp_wpIn hm hT hC hS n k (r := some (w.heap.size + 1)) (fun h => by cases h) c2 (.inr hok2) (base := 0) h2 S2 (E1.stp stp1) M2 (Nat.zero_le _) (fun a w h => h) ?_
 by_cases hs : stop = some i
 · have hxx := hx (by rw [hs]; simp)
   rw [if_pos hs]
   have hr : recAt fn a.tmps ps c1 c2 w.heap.size stop x (i + 1) = recOf fn a.tmps ps c1 c2 w.heap.size .done (jumpOf x) := by
    unfold recAt
    rw [if_pos ⟨i, hs, rfl⟩]
   rcases hxx with rfl | ⟨j, rfl⟩
   · intro a3 w3 I3 ρ3 N3 S3 E3 M3
     exact finish (some .ret) a3 w3 I3 ρ3 (by rw [hr]; rfl) (by simp [hs]) N3 S3
   · intro a3 w3 I3 ρ3 N3 S3 E3 M3
     exact finish (some (.exit j)) a3 w3 I3 ρ3 (by rw [hr]; rfl) (by simp [hs]) N3 S3
 · rw [if_neg hs]
   intro a3 w3 I3 ρ3 N3 S3 E3 M3
   refine finish none a3 w3 I3 ρ3 ?_ (by simp [hs]) N3 S3
   unfold recAt
   rw [if_neg]
   · rfl
   · rintro ⟨j, hj, he⟩
     exact hs (by rw [hj]; congr 1; omega)
end
end Go.AE
/- A range over a function: the whole statement. -/
namespace Go.AE
open Go
section
variable {P : Program} {T : Tbl} {call : FuncId → List PV → List Obj → Option CallRes} {rows : List Nat} {nt : Nat}
theorem upTo_get {stop : Option Nat} {yss : Yss} {i : Nat} {ys : List PV} (h : (upTo stop yss)[i]? = some ys) : yss[i]? = some ys ∧ i < upN stop yss.length := by
 have h1 := (upTo_spec stop yss).2 i ys h
 refine ⟨h1, ?_⟩
 rw [← (upTo_spec stop yss).1]
 exact (List.getElem?_eq_some_iff.1 h).1
theorem rangeWp (hm : P.follows .mixedOrders = true) (hT : ∀ f p, T.prim f = some p → PrimOK P f p) (hC : CallOK P call) (hS : CallStep call) (hIt : ItersOK P T) (n k : Nat) (g : Operand) (ps : Array Tmp) (c1 c2 : Code) (hok1 : roundOk c1 = true) (hok2 : roundOk c2 = true) :
 RangeWp P T call rows nt n k g ps c1 c2 := by
 intro base e s x e' s' a w I D ρ Q h S E M hb hQ A
 have hstep := evCode_step hS n h
 simp only [comp] at h
 split at h
 · rename_i hc
   simp only [Bool.and_eq_true] at hc
   have hps : ∀ p ∈ ps.toList, p < nt := fun p hp => by
    have := hc.1.1
    rw [Array.all_eq_true] at this
    obtain ⟨i, hi, rfl⟩ := List.getElem_of_mem hp
    have := this i (by simpa using hi)
    simpa using this
   simp only [evCode] at h
   have hg := E.eval g
   split at h
   · rename_i gf captured hk
     rw [hk] at hg
     generalize hv : a.eval g = vg at hg
     cases hg with
     | func _ _ _ fv lb g1 g2 g3 g4 =>
       have efv : fv = #[] := Array.eq_empty_of_size_eq_zero (by simpa using g1)
       subst efv
       split at h
       · rename_i it hit
         split at h
         · rename_i yss hyss
           obtain ⟨rfl, stop, H, Tr⟩ := evRounds_trace h
           obtain ⟨hent, hsem⟩ := hIt gf it hit captured yss hyss
           have hV0 : VRs w I D ρ captured lb.toList := ⟨by simpa using g2, g4⟩
           refine wpIn_rangeFunc fun fn _ => ?_
           generalize hW1 : (w.alloc (.deferred (some []))).alloc (.loop (recOf fn a.tmps ps c1 c2 w.heap.size .ready none)) = W1
           have hsz1 : W1.heap.size = w.heap.size + 2 := by rw [← hW1]; simp
           have hL1 : W1.heap[w.heap.size + 1]? = some (.loop (recOf fn a.tmps ps c1 c2 w.heap.size .ready none)) := by
            rw [← hW1]; have := World.alloc_heap_new (w.alloc (.deferred (some []))) (.loop (recOf fn a.tmps ps c1 c2 w.heap.size .ready none)); rwa [World.size_alloc] at this
           have hK1 : W1.heap[w.heap.size]? = some (.deferred (some [])) := by
            rw [← hW1]; exact (Go.RowKit.Below.heap_alloc _ _ _ (by simp)).trans (World.alloc_heap_new w _)
           have stp1 : Stp (fun _ => False) w I W1 I := by
            rw [← hW1]
            exact (stp_alloc _ S.imm).trans (stp_alloc _ fun b o h => by have := S.imm b o h; simp; omega) fun _ (h : False) => h.elim
           have him1 : ∀ b o, I b o → b < W1.heap.size := fun b o h => by have := S.imm b o h; omega
           have S1 := S.stp stp1 (fun _ _ h => h) him1
           have N1 := (Nxt.refl w I D ρ).stp_after stp1 (fun _ (h : False) => h.elim)
           have hrec0 : recAt fn a.tmps ps c1 c2 w.heap.size stop x 0 = recOf fn a.tmps ps c1 c2 w.heap.size .ready none := by
            unfold recAt
            rw [if_neg]
            rintro ⟨j, _, he⟩
            omega
           have B0 : Betw w I D ρ s.h (recAt fn a.tmps ps c1 c2 w.heap.size stop x) H (upN stop yss.length) 0 W1 I (fun b => rowsOf D ρ b ∨ b = w.heap.size ∨ b = w.heap.size + 1) ρ := by
            refine ⟨Nat.zero_le _, by rw [Tr.first]; exact Nat.le_refl _, by rw [Tr.first, ext_self]; exact N1, by rw [Tr.first, ext_self]; exact S1, by rw [hrec0]; exact hL1, hK1, fun o => ⟨fun h => ?_, fun h => ?_⟩, fun b => by rw [Tr.first, ext_self]⟩
            · have := S.imm _ _ h; omega
            · have := S.imm _ _ h; omega
           have hlo : ∀ {i : Nat} {W : World} {I' : Nat → Nat → Prop} {X : Nat → Prop} {ρ' : Nat → Row}, Betw w I D ρ s.h (recAt fn a.tmps ps c1 c2 w.heap.size stop x) H (upN stop yss.length) i W I' X ρ' → ∀ b, X b → b < W.heap.size := by
            intro i W I' X ρ' B b hx
            rcases (B.own b).1 hx with ⟨k, hk, rfl⟩ | rfl | rfl
            · exact B.sim.blk_lt k hk
            · exact (Array.getElem?_eq_some_iff.1 B.mark).1
            · exact (Array.getElem?_eq_some_iff.1 B.loop).1
           have hNj : ∀ j, stop = some j → upN stop yss.length ≤ j + 1 := fun j hj => by subst hj; simp only [upN]; omega
           have Pt : Party P (w.heap.size + 1) W1.heap.size (fun i => decide (stop ≠ some i)) (upTo stop yss) (fun i W I' X => ∃ ρ', Betw w I D ρ s.h (recAt fn a.tmps ps c1 c2 w.heap.size stop x) H (upN stop yss.length) i W I' X ρ') := by
            refine ⟨fun i W I' X W' I'' Y ⟨ρ', B⟩ st hY hl him => ⟨ρ', B.stp st hY (fun k hk => by have := hl k hk; omega) him⟩, fun i W I' X ⟨ρ', B⟩ => hlo B, fun i W I' X ys us ⟨ρ', B⟩ him hsz hy V => ?_⟩
            obtain ⟨hy1, hy2⟩ := upTo_get hy
            obtain ⟨fn', ts, as, bd, r1, r2⟩ := round_wp hm hT hC hS hok1 hok2 hps Tr.out.2 S E B hy2 hNj (Tr.rounds i ys hy1 hy2) V
            refine ⟨fn', ts, as, bd, r1, fun n => (r2 n).mono fun en w' hh => ?_⟩
            obtain ⟨he, rest⟩ := hh
            exact ⟨he, rest⟩
           have hV1 := hV0.stp stp1
           have hcalls := hsem stop (w.heap.size + 1) W1.heap.size _ W1 I D ρ _ lb.toList Pt ⟨ρ, B0⟩ him1 (Nat.le_refl _) hV1
           have hinv : (callFunc gf (#[.func (.yield (w.heap.size + 1)) #[] #[]] ++ lb)).run P W1 = .ok (.enter gf (#[.func (.yield (w.heap.size + 1)) #[] #[]] ++ lb)) W1 := run_callFunc_enter (P := P) hent _ W1
           refine ⟨w.heap.size + 1, [{ target := .collected w.heap.size, args := #[] }], W1, { target := .fn (.func gf) lb, args := #[.func (.yield (w.heap.size + 1)) #[] #[]] }, W1, gf,
            #[.func (.yield (w.heap.size + 1)) #[] #[]] ++ lb, W1, ?_, ?_, fun _ _ => trivial, ?_, (fun h => by cases h), ?_⟩
           · rw [← hW1]; exact run_enterLoop_outer _ _ _ _ _
           · simp only [resolve, hv]
             simp [go_sem]
           · simp [invoke, go_sem, hinv]
           · have e0 : lb.toList.toArray = lb := by simp
             rw [e0] at hcalls
             refine (callsIn_wr hcalls).mono ?_
             rintro en W3 ⟨⟨v, rfl⟩, I3, X3, ρ3, B3⟩
             have hlt3 := (Array.getElem?_eq_some_iff.1 B3.loop).1
             have hfin : ∃ st pe, recAt fn a.tmps ps c1 c2 w.heap.size stop x (upN stop yss.length) = recOf fn a.tmps ps c1 c2 w.heap.size st pe ∧ st ≠ .busy ∧ pe = jumpOf x := by
              cases stop with
              | none =>
                refine ⟨.ready, none, ?_, by simp, by rw [Tr.out.1 rfl]; rfl⟩
                unfold recAt
                rw [if_neg]
                rintro ⟨j, h, _⟩
                cases h
              | some j =>
                have hj := Tr.lt j rfl
                refine ⟨.done, jumpOf x, ?_, by simp, rfl⟩
                unfold recAt
                rw [if_pos ⟨j, rfl, by simp only [upN]; omega⟩]
             obtain ⟨st, pe, hrec, hst, hpe⟩ := hfin
             have hl3 := B3.loop
             rw [hrec] at hl3
             have stp3 := stp_putObj (I := I3) (o' := .loop { recOf fn a.tmps ps c1 c2 w.heap.size st pe with state := .exhausted }) hl3 (by simp) (by simp) (fun o => (B3.notI o).2)
             have N4 := B3.nxt.stp_after stp3 (fun b hb => by omega)
             have S4 := B3.sim.stp stp3 (fun k hk e => B3.rowL ⟨k, hk, e.symm⟩) (fun b o h => by rw [World.putObj_size]; exact B3.sim.imm b o h)
             rw [Tr.last] at N4 S4
             generalize hW4 : W3.putObj (w.heap.size + 1) (.loop { recOf fn a.tmps ps c1 c2 w.heap.size st pe with state := .exhausted }) = W4 at N4 S4 stp3
             have hK4 : W4.heap[w.heap.size]? = some (.deferred (some [])) := by rw [← hW4]; exact (World.putObj_heap_other (by omega)).trans B3.mark
             have M4 : Marks base W4 I3 (ext D s.h.length s'.h.length) ρ3 ({ target := .collected w.heap.size, args := #[] } :: a.defers) := by
              have Mo := M.next N4
              refine ⟨?_, fun d hd => ?_⟩
              · simp only [List.map_cons, List.nodup_cons]
                refine ⟨fun hmem => ?_, Mo.nodup⟩
                obtain ⟨d, hd, he⟩ := List.mem_map.1 hmem
                obtain ⟨b, rfl, hb1, _⟩ := M.at_ d hd
                simp at he
                subst he
                have := (Array.getElem?_eq_some_iff.1 hb1).1
                omega
              · rcases List.mem_cons.1 hd with rfl | hd
                · exact ⟨_, rfl, hK4, hb, fun o => (B3.notI o).1, fun k hk he => S4.notRow hK4 (by simp) (by simp) ⟨k, hk, he.symm⟩⟩
                · exact Mo.at_ d hd
             have E4 : EnvR W4 I3 (ext D s.h.length s'.h.length) ρ3 nt e' { a with defers := [{ target := .collected w.heap.size, args := #[] }] ++ a.defers } := by
              have := E.next N4
              exact ⟨this.size, this.len, this.at_⟩
             refine ⟨jumpOf x, W4, ?_, ?_⟩
             · rw [← hW4, ← hpe]
               exact run_endLoop hl3 hst
             · cases x with
               | normal => exact A _ _ _ _ N4 S4 E4 M4
               | ret => exact wpIn_ret (A _ _ _ _ N4 S4 E4 M4)
               | exit j => exact wpIn_exit (A _ _ _ _ N4 S4 E4 M4)
               | pan p =>
                 exfalso
                 cases stop with
                 | none => have := Tr.out.1 rfl; cases this
                 | some j => rcases Tr.out.2 (by simp) with h | ⟨_, h⟩ <;> cases h
         · cases h
       · cases h
   · cases h
 · simp only [evCode] at h; cases h
theorem leaves_marks {k : Nat} {fn : Func} {tmps : Array Value} {R : Ending → World → Prop} {w wE : World} {I : Nat → Nat → Prop} {D : Nat → Prop} {ρ : Nat → Row} {I' : Nat → Nat → Prop} {D' : Nat → Prop} {ρ' : Nat → Row} {h' : List Obj} {u : FrameMode} (hu : u ≠ .run)
 (hfin : ∀ w', Nxt w I D ρ w' I' D' ρ' → Sim w' I' D' ρ' h' → (∀ p v, VR wE I' D' ρ' p v → VR w' I' D' ρ' p v) → LeavesIn (wr none) k P fn tmps R [] u w') :
 ∀ (ds : List Deferred) (w' : World), Nxt w I D ρ w' I' D' ρ' → Sim w' I' D' ρ' h' → (∀ p v, VR wE I' D' ρ' p v → VR w' I' D' ρ' p v) → Marks w.heap.size w' I' D' ρ' ds → LeavesInM (wr none) k P fn tmps R ds u w'
 | [], w', N, S, V, M => hfin w' N S V
 | d :: ds, w', N, S, V, M => by
   obtain ⟨b, rfl, h2, h3, h4, h5⟩ := M.at_ d (by simp)
   have st := stp_putObj (I := I') (o' := .deferred none) h2 (by simp) (by simp) h4
   have hnd := M.nodup
   simp only [List.map_cons, List.nodup_cons] at hnd
   refine ⟨hu, .inl ⟨b, _, rfl, run_takeDeferred h2, ?_⟩⟩
   refine leaves_marks hu hfin ds _ (N.stp_after st fun x hx => by omega) (S.stp st (fun k hk e => h5 k hk e) fun b' o h => by rw [World.putObj_size]; exact S.imm b' o h) (fun p v h => (V p v h).stp st) ?_
   have Mt : Marks w.heap.size w' I' D' ρ' ds := ⟨hnd.2, fun d hd => M.at_ d (by simp [hd])⟩
   refine Mt.stp st fun d hd b' ht hb => hnd.1 ?_
   rw [← hb, ← ht]
   exact List.mem_map.2 ⟨d, hd, rfl⟩
end
end Go.AE
/- A function's body. -/
namespace Go.AE
open Go
section
variable {P : Program} {T : Tbl} {call : FuncId → List PV → List Obj → Option CallRes} {rows : List Nat}
variable {w : World} {I : Nat → Nat → Prop} {D : Nat → Prop} {ρ : Nat → Row}
theorem evBody_sound (hm : P.follows .mixedOrders = true) (hT : ∀ f p, T.prim f = some p → PrimOK P f p) (hIt : ItersOK P T) (hC : CallOK P call) (hS : CallStep call) {n mode f : Nat} {fn : Func} {af : AFunc} (hf : P.funcs[f]? = some fn) (hcomp : compFn P rows fn = some af)
 {args : List PV} {h : List Obj} {r : OR} {s' : St} (hb : evBody T call n mode af args h = some (r, s')) {vs : List Value} (S : Sim w I D ρ h) (V : VRs w I D ρ args vs) : Calls P f vs.toArray w (PostC w I D ρ h r s') := by
 unfold compFn at hcomp
 split at hcomp
 · rename_i c res hc hres
   split at hcomp
   · rename_i hnt
     cases hcomp
     unfold evBody at hb
     split at hb
     · rename_i hargs
       refine (callsIn_wide (n := 0)).1 (callsIn_of_wp_marks hf hc trivial ?_)
       have hsz : vs.length = args.length := V.1
       have hle : vs.length ≤ fn.ntmps := by simp at hargs; omega
       have E0 : EnvR w I D ρ fn.ntmps args { tmps := vs.toArray ++ Array.replicate (fn.ntmps - vs.toArray.size) undef, defers := [] } := by
        refine ⟨by simp; omega, by omega, fun t => ?_⟩
        rw [eget_getD]
        by_cases ht : t < args.length
        · have := V.2 t
          have e1 : (vs.toArray ++ Array.replicate (fn.ntmps - vs.toArray.size) undef).getD t undef = vs.getD t undef := by
           rw [Array.getD_eq_getD_getElem?, List.getD_eq_getElem?_getD, Array.getElem?_append_left (by simp; omega)]
           simp
          rw [e1]; exact this
        · rw [getD_map_ne _ t _ ht]; exact .undef _
       have fin : ∀ {e : List PV} {s : St} {vals : List PV} {a' : Act} {w' : World} {I' : Nat → Nat → Prop} {ρ' : Nat → Row}, Step { h, ws := [], ups := [] } s → resv e s.h res = some vals → tidy mode h.length (.val (tupled vals)) s = (r, s') →
        Nxt w I D ρ w' I' (ext D h.length s.h.length) ρ' → Sim w' I' (ext D h.length s.h.length) ρ' s.h → EnvR w' I' (ext D h.length s.h.length) ρ' fn.ntmps e a' → Marks w.heap.size w' I' (ext D h.length s.h.length) ρ' a'.defers →
        LeavesInM Fence.wide 0 P fn a'.tmps (PostC w I D ρ h r s') a'.defers .returning w' := by
        intro e s vals a' w' I' ρ' st hv ht N' S' E' M'
        refine leaves_marks (wE := w') (by simp) (fun w2 N2 S2 V2 => ?_) a'.defers w' N' S' (fun _ _ h => h) M'
        have E2 : EnvR w2 I' (ext D h.length s.h.length) ρ' fn.ntmps e a' := ⟨E'.size, E'.len, fun t => V2 _ _ (E'.at_ t)⟩
        obtain ⟨us, h1, h2⟩ := results_run (P := P) S2 E2 fn.results.toList res vals hres hv
        refine ⟨if hs : us.toArray.size = 1 then us.toArray[0] else .tuple us.toArray, ?_, ?_⟩
        · exact results_eq h1
        · exact tidy_sound S st (r := .val (tupled vals)) ⟨I', ρ', N2, S2, tupled_VR h2⟩ ht
       have hQ : ∀ (a : Act) (w' : World), ¬ bodyPostM Fence.wide 0 P fn (PostC w I D ρ h r s') .outgrown a w' := by
        rintro a w' ⟨I', ρ', N, S', hE⟩
        cases r <;> exact hE.elim
       have hrange : (none : Option Nat) = none → ∀ g ps c1 c2, roundOk c1 = true → roundOk c2 = true → RangeWp P T call rows fn.ntmps n 0 g ps c1 c2 := fun _ g ps c1 c2 h1 h2 => rangeWp hm hT hC hS hIt n 0 g ps c1 c2 h1 h2
       split at hb
       · rename_i e s hev
         simp only [Option.map_eq_some_iff] at hb
         obtain ⟨vals, hv, ht⟩ := hb
         have st := evCode_step hS n hev
         exact comp_wpIn hm hT hC hS n 0 (r := none) hrange c (.inl rfl) hev S E0 Marks.nil (Nat.le_refl _) hQ fun a' w' I' ρ' N' S' E' M' => fin st hv ht N' S' E' M'
       · rename_i e s hev
         simp only [Option.map_eq_some_iff] at hb
         obtain ⟨vals, hv, ht⟩ := hb
         have st := evCode_step hS n hev
         exact comp_wpIn hm hT hC hS n 0 (r := none) hrange c (.inl rfl) hev S E0 Marks.nil (Nat.le_refl _) hQ fun a' w' I' ρ' N' S' E' M' => fin st hv ht N' S' E' M'
       · rename_i p e s hev
         have ht := Option.some.inj hb
         have st := evCode_step hS n hev
         refine comp_wpIn hm hT hC hS n 0 (r := none) hrange c (.inl rfl) hev S E0 Marks.nil (Nat.le_refl _) hQ fun a' w' I' ρ' v N' S' V' M' => ?_
         refine leaves_marks (wE := w') (by simp) (fun w2 N2 S2 V2 => ?_) a'.defers w' N' S' (fun _ _ h => h) M'
         exact tidy_sound S st (r := .pan p) ⟨I', ρ', N2, S2, v, rfl, V2 _ _ V'⟩ ht
       · cases hb
     · cases hb
   · cases hcomp
 · cases hcomp
end
end Go.AE
/- Calls, to any depth. -/
namespace Go.AE
open Go
structure TblOK (P : Program) (T : Tbl) : Prop where
 mixed : P.follows .mixedOrders = true
 prim : ∀ f p, T.prim f = some p → PrimOK P f p
 iter : ItersOK P T
 fn : ∀ f af, T.fn f = some af → ∃ fn rows, P.funcs[f]? = some fn ∧ compFn P rows fn = some af ∧ (fn.name == "runtime.NumGoroutine") = false
 step : ∀ f sp, T.sp f = some sp → ∀ call, CallStep call → ∀ args h r s', sp call args h = some (r, s') → Step { h, ws := [], ups := [] } s'
 sp : ∀ f sp, T.sp f = some sp → ∀ call, CallStep call → CallOK P call → ∀ args h r s', sp call args h = some (r, s') → Enters P f ∧ h.length ≤ s'.h.length ∧
  ∀ w I D ρ vs, Sim w I D ρ h → VRs w I D ρ args vs → Calls P f vs.toArray w (PostC w I D ρ h r s')
theorem evCall_sound {P : Program} {T : Tbl} (O : TblOK P T) : ∀ n, CallOK P (evCall T n)
 | 0, f, args, h, r, s', hc => by simp [evCall] at hc
 | n + 1, f, args, h, r, s', hc => by
   have ih := evCall_sound O n
   have st := evCall_step O.step (n + 1) f args h r s' hc
   simp only [evCall] at hc
   split at hc
   · rename_i sp hsp
     exact O.sp f sp hsp _ (evCall_step O.step n) ih args h r s' hc
   · split at hc
     · rename_i af haf
       obtain ⟨fn, rows, h1, h2, h3⟩ := O.fn f af haf
       refine ⟨⟨fn, h1, h3, ?_⟩, st.len, fun w I D ρ vs S V => evBody_sound O.mixed O.prim O.iter ih (evCall_step O.step n) h1 h2 hc S V⟩
       unfold compFn at h2
       split at h2
       · rename_i c res hb _
         rw [hb]; rfl
       · cases h2
     · cases hc
end Go.AE
