/- The table for the laws: sane, sig.Check and nth answer each call by one value. -/
import Derived.Test.YtekepgfmgeophaaGreatPartAO
import Derived.Test.YtekepgfmgeophaaGreatPartAS
import Derived.Test.YtekepgfmgeophaaGreatPartBD
set_option linter.unusedVariables false
set_option linter.unusedSimpArgs false
namespace Go.Proofs.Tryz
open Go Go.AE
def good15 (_ : List PV) (v : PV) : Prop := v = .bool true
def good87 (key : List PV) (v : PV) : Prop := ∃ r : Int, v = .int .i64 r ∧ ∀ s : GSig, key = [encSig s] → (r = 0 ∧ sigP s) ∨ (r = 40 ∧ ¬ sigP s)
def good91 (key : List PV) (v : PV) : Prop := ∀ (s : GSig) (a m : Nat) (n : Int), key = [encTab s, .int .i64 (a : Int), .int .i64 (m : Int), .int .i64 n] → Nth91 s a m n v ∧ IsT v
def goods (f : FuncId) : Option (List PV → PV → Prop) := if f = 15 then some good15 else if f = 87 then some good87 else if f = 91 then some good91 else none
noncomputable def TL : Tbl := T0.knows Tryz.prog 200 goods
theorem TL_ok : TblOK Tryz.prog TL := Tbl.knows_ok T0_ok
theorem TL_std : Std TL where
 sp f h := by
  have h2 : f ≠ 15 ∧ f ≠ 87 ∧ f ≠ 91 := by
   simp only [spList, List.mem_cons, List.not_mem_nil, or_false, not_or] at h
   exact ⟨h.2.2.2.2.2.1, h.2.2.2.2.2.2.1, h.2.2.2.2.2.2.2⟩
  have e : goods f = none := by simp [goods, h2]
  rw [TL, Tbl.knows_sp e]
  exact T0_std.sp f h
 fn f := by rw [TL, Tbl.knows_fn]; exact T0_std.fn f
 prim := by rw [TL, Tbl.knows_prim]; exact T0_std.prim
 mode f := by rw [TL, Tbl.knows_mode]; exact T0_std.mode f
theorem sane_ev (h : List AE.Obj) : Ev TL 15 [] h (.val (.bool true), ⟨h, [], []⟩) := by
 obtain ⟨v, hv, _, ev⟩ := Ev.knows (T := T0) (N := 200) (m := goods) (f := 15) (good := good15) rfl (args := []) rfl rfl sane_known rfl
 cases hv
 exact ev h
theorem T0_sp87 : T0.sp 87 = none := by rw [T0_sp]; rfl
theorem T0_sp91 : T0.sp 91 = none := by rw [T0_sp]; rfl
theorem T0_sp208 : T0.sp 208 = some (cloneSp af208) := by rw [T0_sp]; rfl
theorem encSig_pw (s : GSig) : (encSig s).pure = true ∧ (encSig s).weak = encSig s := by
 obtain ⟨⟨a, b⟩, c, d⟩ := enc_pure s
 refine ⟨?_, ?_⟩
 · simp only [encSig, PV.pure, pures, Bool.and_true] at a c ⊢
   rw [a, c]; rfl
 · simp only [encSig, PV.weak, weaks] at b d ⊢
   rw [(PV.slice.inj b).2.1, (PV.slice.inj d).2.1]
theorem encOp_inj {o o' : GOp} (h : encOp o = encOp o') : o = o' := by
 obtain ⟨n, a, r⟩ := o
 obtain ⟨n', a', r'⟩ := o'
 simp only [encOp, PV.agg.injEq, List.cons.injEq, PV.str.injEq, PV.slice.injEq, PV.int.injEq] at h
 obtain ⟨rfl, ⟨_, ha, _⟩, ⟨_, rfl⟩, _⟩ := h
 have : a = a' := (List.map_inj_right (fun x y hxy => (PV.int.inj hxy).2)).1 ha
 subst this
 rfl
theorem encSig_inj {s s' : GSig} (h : encSig s = encSig s') : s = s' := by
 obtain ⟨a, b⟩ := s
 obtain ⟨a', b'⟩ := s'
 simp only [encSig, PV.agg.injEq, List.cons.injEq, PV.slice.injEq] at h
 obtain ⟨⟨_, h1, _⟩, ⟨_, h2, _⟩, _⟩ := h
 have e1 : a = a' := (List.map_inj_right (fun x y hxy => PV.str.inj hxy)).1 h1
 have e2 : b = b' := (List.map_inj_right (fun x y hxy => encOp_inj hxy)).1 h2
 subst e1 e2
 rfl
theorem check_exact {s : GSig} (hs : Fits s) : ∃ r : Int, ((r = 0 ∧ sigP s) ∨ (r = 40 ∧ ¬ sigP s)) ∧ ∀ h, Ev TL 87 [encSig s] h (.val (.int .i64 r), ⟨h, [], []⟩) := by
 obtain ⟨r, ev, kr⟩ := check_tot T0_std T0_sp87 T0_sp208 hs []
 obtain ⟨p1, p2⟩ := encSig_pw s
 obtain ⟨v, ⟨r', rfl, h2⟩, _, ev'⟩ := Ev.knows (T := T0) (N := 200) (m := goods) (f := 87) (good := good87) rfl (args := [encSig s]) (by simp [pures, p1]) (by simp [weaks, p2]) (Known.of_ev T0_ok rfl ev) ⟨r, rfl, fun s' he => by
  have := encSig_inj (List.cons.inj he).1
  subst this
  exact kr⟩
 exact ⟨r', h2 s rfl, ev'⟩
theorem encTab_pw (s : GSig) : (encTab s).pure = true ∧ (encTab s).weak = encTab s := by
 obtain ⟨⟨a, b⟩, c, d⟩ := enc_pure s
 have hr : ∀ l : List (List Int), pures (l.map arr) = true ∧ weaks (l.map arr) = l.map arr := fun l => by
  induction l with
  | nil => exact ⟨rfl, rfl⟩
  | cons x l ih =>
    obtain ⟨x1, x2⟩ := arr_pure x
    simp [pures, weaks, ih, x1, x2]
 have hr2 : ∀ l : List (List (List Int)), pures (l.map fun r => PV.slice 61 (r.map arr) .any) = true ∧ weaks (l.map fun r => PV.slice 61 (r.map arr) .any) = l.map fun r => PV.slice 61 (r.map arr) .any := fun l => by
  induction l with
  | nil => exact ⟨rfl, rfl⟩
  | cons x l ih =>
    obtain ⟨x1, x2⟩ := hr x
    simp [pures, weaks, PV.pure, PV.weak, ih, x1, x2]
 obtain ⟨r1, r2⟩ := hr (tabOf s).1
 obtain ⟨r3, r4⟩ := hr2 (tabOf s).2
 refine ⟨?_, ?_⟩
 · simp only [encTab, PV.pure, pures, Bool.and_true] at a c ⊢
   rw [a, c, r1, r3]; rfl
 · simp only [encTab, PV.weak, weaks] at b d ⊢
   rw [(PV.slice.inj b).2.1, (PV.slice.inj d).2.1, r2, r4]
theorem encTab_inj {s s' : GSig} (h : encTab s = encTab s') : s = s' := by
 obtain ⟨a, b⟩ := s
 obtain ⟨a', b'⟩ := s'
 simp only [encTab, PV.iptr.injEq, PV.agg.injEq, List.cons.injEq, PV.slice.injEq] at h
 obtain ⟨⟨⟨_, h1, _⟩, ⟨_, h2, _⟩, _⟩, _⟩ := h
 have e1 : a = a' := (List.map_inj_right (fun x y hxy => PV.str.inj hxy)).1 h1
 have e2 : b = b' := (List.map_inj_right (fun x y hxy => encOp_inj hxy)).1 h2
 subst e1 e2
 rfl
theorem nth_ev {s : GSig} (hs : GOk s) {a m : Nat} {n : Int} (ha : a < s.sorts.length) (h1 : 1 ≤ m) (h2 : m ≤ 60) (hn0 : 0 ≤ n) (hn1 : n < cntOf s a m) :
 ∃ p, Nth91 s a m n p ∧ ∀ h, Ev TL 91 [encTab s, .int .i64 (a : Int), .int .i64 (m : Int), .int .i64 n] h (.val p, ⟨h, [], []⟩) := by
 obtain ⟨p, ev, tp⟩ := nth_tot T0_std hs T0_sp91 60 (by omega) a m n [] ha h1 h2 hn0 hn1
 have tT : IsT p := by
  obtain ⟨x, hx, _, hz, _⟩ := tp
  exact hx.isT (by omega)
 obtain ⟨p1, p2⟩ := encTab_pw s
 obtain ⟨v, tv, _, ev'⟩ := Ev.knows (T := T0) (N := 200) (m := goods) (f := 91) (good := good91) rfl (args := [encTab s, .int .i64 (a : Int), .int .i64 (m : Int), .int .i64 n]) (by simp [pures, p1, PV.pure]) (by simp [weaks, p2, PV.weak]) (Known.of_ev T0_ok tT.pureW.1 ev) fun s' a' m' n' he => by
  simp only [List.cons.injEq, PV.int.injEq, true_and, and_true] at he
  obtain ⟨e1, e2, e3, e4⟩ := he
  have := encTab_inj e1
  subst this
  have : a = a' := by omega
  subst this
  have : m = m' := by omega
  subst this e4
  exact ⟨tp, tT⟩
 obtain ⟨tv1, tv2⟩ := tv s a m n rfl
 refine ⟨v, tv1, fun h => ?_⟩
 have := ev' h
 rwa [tv2.pureW.2] at this
end Go.Proofs.Tryz
