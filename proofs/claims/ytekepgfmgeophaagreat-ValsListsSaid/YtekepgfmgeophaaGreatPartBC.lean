/- Texts of the proof, one behind the other: ValL11, ValL15, ValL16. -/
import Derived.Test.YtekepgfmgeophaaGreatPartAP
import Derived.Test.YtekepgfmgeophaaGreatPartAQ
import Derived.Test.YtekepgfmgeophaaGreatPartBB
set_option linter.unusedVariables false
set_option linter.unusedSimpArgs false
/- The table for the laws: sane, sig.Check and nth answer each call by one value. -/
namespace Go.Proofs.Tryz
open Go Go.AE

def good15 (_ : List PV) (v : PV) : Prop := v = .bool true
def good87 (key : List PV) (v : PV) : Prop := ∃ r : Int, v = .int .i64 r ∧ ∀ s : GSig, key = [encSig s] → r = 0 → okOps s.ops s.sorts.length
def good91 (_ : List PV) (v : PV) : Prop := IsT v
def goods (f : FuncId) : Option (List PV → PV → Prop) := if f = 15 then some good15 else if f = 87 then some good87 else if f = 91 then some good91 else none
noncomputable def TL : Tbl := T0.knows Tryz.prog 200 goods
theorem TL_ok : TblOK Tryz.prog TL := Tbl.knows_ok T0_ok
theorem TL_std : Std TL where
  sp f h := by
    have h2 : f ≠ 15 ∧ f ≠ 87 ∧ f ≠ 91 := by
      simp only [spList, List.mem_cons, List.not_mem_nil, or_false, not_or] at h
      exact ⟨h.2.2.2.2.2.1, h.2.2.2.2.2.2.1, h.2.2.2.2.2.2.2⟩
    have e : goods f = none := by simp [goods, h2]
    rw [TL, Tbl.knows_sp e]
    exact T0_std.sp f h
  fn f := by rw [TL, Tbl.knows_fn]; exact T0_std.fn f
  prim := by rw [TL, Tbl.knows_prim]; exact T0_std.prim
  mode f := by rw [TL, Tbl.knows_mode]; exact T0_std.mode f
theorem sane_ev (h : List AE.Obj) : Ev TL 15 [] h (.val (.bool true), ⟨h, [], []⟩) := by
  obtain ⟨v, hv, _, ev⟩ := Ev.knows (T := T0) (N := 200) (m := goods) (f := 15) (good := good15) rfl (args := []) rfl rfl sane_known rfl
  cases hv
  exact ev h
theorem T0_sp87 : T0.sp 87 = none := by rw [T0_sp]; rfl
theorem T0_sp91 : T0.sp 91 = none := by rw [T0_sp]; rfl
theorem T0_sp208 : T0.sp 208 = some (cloneSp af208) := by rw [T0_sp]; rfl
theorem encSig_pw (s : GSig) : (encSig s).pure = true ∧ (encSig s).weak = encSig s := by
  obtain ⟨⟨a, b⟩, c, d⟩ := enc_pure s
  refine ⟨?_, ?_⟩
  · simp only [encSig, PV.pure, pures, Bool.and_true] at a c ⊢
    rw [a, c]; rfl
  · simp only [encSig, PV.weak, weaks] at b d ⊢
    rw [(PV.slice.inj b).2.1, (PV.slice.inj d).2.1]
theorem encOp_inj {o o' : GOp} (h : encOp o = encOp o') : o = o' := by
  obtain ⟨n, a, r⟩ := o
  obtain ⟨n', a', r'⟩ := o'
  simp only [encOp, PV.agg.injEq, List.cons.injEq, PV.str.injEq, PV.slice.injEq, PV.int.injEq] at h
  obtain ⟨rfl, ⟨_, ha, _⟩, ⟨_, rfl⟩, _⟩ := h
  have : a = a' := (List.map_inj_right (fun x y hxy => (PV.int.inj hxy).2)).1 ha
  subst this
  rfl
theorem encSig_inj {s s' : GSig} (h : encSig s = encSig s') : s = s' := by
  obtain ⟨a, b⟩ := s
  obtain ⟨a', b'⟩ := s'
  simp only [encSig, PV.agg.injEq, List.cons.injEq, PV.slice.injEq] at h
  obtain ⟨⟨_, h1, _⟩, ⟨_, h2, _⟩, _⟩ := h
  have e1 : a = a' := (List.map_inj_right (fun x y hxy => PV.str.inj hxy)).1 h1
  have e2 : b = b' := (List.map_inj_right (fun x y hxy => encOp_inj hxy)).1 h2
  subst e1 e2
  rfl
theorem check_ev {s : GSig} (hs : Fits s) : ∃ r : Int, (r = 0 → okOps s.ops s.sorts.length) ∧ ∀ h, Ev TL 87 [encSig s] h (.val (.int .i64 r), ⟨h, [], []⟩) := by
  obtain ⟨r, ev, kr⟩ := check_tot T0_std T0_sp87 T0_sp208 hs []
  obtain ⟨p1, p2⟩ := encSig_pw s
  obtain ⟨v, ⟨r', rfl, h2⟩, _, ev'⟩ := Ev.knows (T := T0) (N := 200) (m := goods) (f := 87) (good := good87) rfl (args := [encSig s]) (by simp [pures, p1]) (by simp [weaks, p2]) (Known.of_ev T0_ok rfl ev) ⟨r, rfl, fun s' he h0 => by
    have := encSig_inj (List.cons.inj he).1
    subst this
    exact kr h0⟩
  exact ⟨r', h2 s rfl, ev'⟩
theorem encTab_pw (s : GSig) : (encTab s).pure = true ∧ (encTab s).weak = encTab s := by
  obtain ⟨⟨a, b⟩, c, d⟩ := enc_pure s
  have hr : ∀ l : List (List Int), pures (l.map arr) = true ∧ weaks (l.map arr) = l.map arr := fun l => by
    induction l with
    | nil => exact ⟨rfl, rfl⟩
    | cons x l ih =>
      obtain ⟨x1, x2⟩ := arr_pure x
      simp [pures, weaks, ih, x1, x2]
  have hr2 : ∀ l : List (List (List Int)), pures (l.map fun r => PV.slice 61 (r.map arr) .any) = true ∧ weaks (l.map fun r => PV.slice 61 (r.map arr) .any) = l.map fun r => PV.slice 61 (r.map arr) .any := fun l => by
    induction l with
    | nil => exact ⟨rfl, rfl⟩
    | cons x l ih =>
      obtain ⟨x1, x2⟩ := hr x
      simp [pures, weaks, PV.pure, PV.weak, ih, x1, x2]
  obtain ⟨r1, r2⟩ := hr (tabOf s).1
  obtain ⟨r3, r4⟩ := hr2 (tabOf s).2
  refine ⟨?_, ?_⟩
  · simp only [encTab, PV.pure, pures, Bool.and_true] at a c ⊢
    rw [a, c, r1, r3]; rfl
  · simp only [encTab, PV.weak, weaks] at b d ⊢
    rw [(PV.slice.inj b).2.1, (PV.slice.inj d).2.1, r2, r4]
theorem nth_ev {s : GSig} (hs : GOk s) {a m : Nat} {n : Int} (ha : a < s.sorts.length) (h1 : 1 ≤ m) (h2 : m ≤ 60) (hn0 : 0 ≤ n) (hn1 : n ≤ 1099511627776) :
    ∃ p, IsT p ∧ ∀ h, Ev TL 91 [encTab s, .int .i64 (a : Int), .int .i64 (m : Int), .int .i64 n] h (.val p, ⟨h, [], []⟩) := by
  obtain ⟨p, ev, tp⟩ := nth_tot T0_std hs T0_sp91 60 (by omega) a m n [] ha h1 h2 hn0 hn1
  obtain ⟨p1, p2⟩ := encTab_pw s
  obtain ⟨v, tv, _, ev'⟩ := Ev.knows (T := T0) (N := 200) (m := goods) (f := 91) (good := good91) rfl (args := [encTab s, .int .i64 (a : Int), .int .i64 (m : Int), .int .i64 n]) (by simp [pures, p1, PV.pure]) (by simp [weaks, p2, PV.weak]) (Known.of_ev T0_ok tp.pureW.1 ev) tp
  refine ⟨v, tv, fun h => ?_⟩
  have := ev' h
  rwa [tv.pureW.2] at this
end Go.Proofs.Tryz
/- The law ValsLists, in the evaluator. -/
namespace Go.Proofs.Tryz
open Go Go.AE

section
variable {T : Tbl} (hT : Std T) {s : GSig}
include hT in
theorem lists_b0 (hs : GOk s) (E87 : ∀ h, Ev T 87 [encSig s] h (.val (.int .i64 0), ⟨h, [], []⟩)) {a n size sz : Nat} {pv : Nat → Nat → PV} (ha : a < s.sorts.length) (hn : n + 1 ≤ size) (hz : size ≤ 60) {c : Nat} (hc : cntOf s a (n + 1) = (c : Int))
    (hpv : ∀ k : Nat, k < c → IsT (pv (n + 1) k) ∧ ∀ h, Ev T 91 [encTab s, .int .i64 (a : Int), .int .i64 ((n + 1 : Nat) : Int), .int .i64 (k : Int)] h (.val (pv (n + 1) k), ⟨h, [], []⟩))
    (hsz : termsL s a pv size = [] ∨ sz = 3) (hL : (termsL s a pv size).length ≤ 4000) (hL2 : (termsL s a pv n).length + c ≤ (termsL s a pv size).length)
    {h H0 : List AE.Obj} {ws0 : List Nat} {e0 : List PV} {Q : AExit → List PV → St → Prop} (low0 : Low h.length h H0) (hb0 : H0[h.length]? = some (.row 2 [encSig s])) (hw0 : ∀ x ∈ ws0, h.length ≤ x)
    (f1 : eget e0 1 = .int .i64 (a : Int)) (f2 : eget e0 2 = .int .i64 (size : Int)) (f3 : eget e0 3 = .ptr h.length 0 0 1) (f7 : eget e0 7 = .slice sz (termsL s a pv size) .any) (f11 : eget e0 11 = .int .i64 ((termsL s a pv n).length : Int)) (f12 : eget e0 12 = .int .i64 ((n + 1 : Nat) : Int)) (f66 : eget e0 66 = .int .i64 (c : Int)) (f67 : eget e0 67 = .int .i64 0)
    (hQ : ∀ e' H ws, Low h.length h H → H[h.length]? = some (.row 2 [encSig s]) → (∀ x ∈ ws, h.length ≤ x) → eget e' 1 = .int .i64 (a : Int) → eget e' 2 = .int .i64 (size : Int) → eget e' 3 = .ptr h.length 0 0 1 → eget e' 7 = .slice sz (termsL s a pv size) .any → eget e' 11 = .int .i64 (((termsL s a pv n).length + c : Nat) : Int) → eget e' 12 = .int .i64 ((n + 1 : Nat) : Int) → Q (.exit 2) e' ⟨H, ws, []⟩) : wpC T (.loop a10b0) e0 ⟨H0, ws0, []⟩ Q := by
  refine wpC.loopM (fun d e st => ∃ (k : Nat) (H : List AE.Obj) (ws : List Nat), k + d = c ∧ Low h.length h H ∧ H[h.length]? = some (.row 2 [encSig s]) ∧ (∀ x ∈ ws, h.length ≤ x) ∧ eget e 1 = .int .i64 (a : Int) ∧ eget e 2 = .int .i64 (size : Int) ∧ eget e 3 = .ptr h.length 0 0 1 ∧ eget e 7 = .slice sz (termsL s a pv size) .any ∧ eget e 11 = .int .i64 (((termsL s a pv n).length + k : Nat) : Int) ∧ eget e 12 = .int .i64 ((n + 1 : Nat) : Int) ∧ eget e 66 = .int .i64 (c : Int) ∧ eget e 67 = .int .i64 (k : Int) ∧ st = ⟨H, ws, []⟩) ?_ c _ _
    ⟨0, H0, ws0, by omega, low0, hb0, hw0, f1, f2, f3, f7, f11, f12, f66, f67, rfl⟩
  rintro d e st ⟨k, H, ws, hd, low, hb, hw, e1, e2, e3, e7, e11, e12, e66, e67, rfl⟩
  by_cases h1 : k < c
  · obtain ⟨tp, ep⟩ := hpv k h1
    have hk0 : (0 : Int) ≤ (k : Int) ∧ (k : Int) < cntOf s a (n + 1) := by omega
    have eN := fun h => nth_ok hT hs E87 (a := a) (m := n + 1) (k := (k : Int)) ha (by omega) hk0 tp ep h
    have eS := same_ev hT tp
    have hget := termsL_get (s := s) (a := a) (pv := pv) (n := n) (k := k) (by omega) size hn
    have hlt := (List.getElem?_eq_some_iff.1 hget).1
    have hsz3 : sz = 3 := by
      rcases hsz with h | h
      · rw [h] at hlt; simp at hlt
      · exact h
    subst hsz3
    generalize hq : (termsL s a pv n).length + k = q at *
    have hlen : ((termsL s a pv size).length : Int) = ((termsL s a pv size).length : Int) := rfl
    have hle : ¬ (termsL s a pv size).length ≤ q := by omega
    obtain ⟨p1, p2, p3, p4⟩ := tp.cells
    have tsub := tp.sub
    have ttop := tp.top
    generalize pv (n + 1) k = p at *
    have ll : loadAt true 2 (.ptr h.length 0 0 1) H = some (encSig s) := by rw [ld_at hb]; rfl
    have sb := st_box (h := H) (ws := ws) (ups := []) (z := .agg [(.int .i64 0), (.int .i64 0), (.slice 0 [] .nil)]) (sz := 3) (c := p) p1 rfl p2 ttop ⟨_, rfl⟩ p4
    have kp : (H ++ [AE.Obj.row 3 [p]])[H.length]? = some (.row 3 [p]) := by simp
    have hHl : h.length < H.length := (List.getElem?_eq_some_iff.1 hb).1
    have hb' : (H ++ [AE.Obj.row 3 [p]])[h.length]? = some (.row 2 [encSig s]) := keepL hb
    have low' : Low h.length h (H ++ [AE.Obj.row 3 [p]]) := low.push (by omega)
    have lp : loadAt true 3 (.ptr H.length 0 0 1) (H ++ [AE.Obj.row 3 [p]]) = some p := by rw [ld_at kp]; exact tsub
    generalize hH1 : H ++ [AE.Obj.row 3 [p]] = H1 at *
    simp (disch := first | omega | decide | (simp only [eget_eput', ↓reduceIte, Nat.reduceEqDiff]; done)) only [go_sem, ↓reduceIte, Nat.reduceEqDiff, Nat.reduceAdd, Nat.reduceMul, reduceCtorEq, a10b0, List.length_cons, List.length_nil, e1, e2, e3, e7, e11, e12, e66, e67, h1, hle, ll, cb (eN _), cb (eS _), hT.prim, primOf, sb, hH1, lp, hget, tsub, bne_self_eq_false]
    exact ⟨d - 1, by omega, k + 1, H1, _, by omega, low', hb', wadd_low (by omega) hw, by rw [← Nat.add_assoc, hq], rfl, rfl⟩
  · have : k = c := by omega
    subst this
    simp (disch := first | omega | decide | (simp only [eget_eput', ↓reduceIte, Nat.reduceEqDiff]; done)) only [go_sem, ↓reduceIte, Nat.reduceEqDiff, Nat.reduceAdd, Nat.reduceMul, reduceCtorEq, a10b0, e1, e2, e3, e7, e11, e12, e66, e67, h1]
    exact hQ _ H ws low hb hw (by simp (disch := first | omega | decide | (simp only [eget_eput', ↓reduceIte, Nat.reduceEqDiff]; done)) only [go_sem, ↓reduceIte, Nat.reduceEqDiff, Nat.reduceAdd, Nat.reduceMul, reduceCtorEq, e1]) (by simp (disch := first | omega | decide | (simp only [eget_eput', ↓reduceIte, Nat.reduceEqDiff]; done)) only [go_sem, ↓reduceIte, Nat.reduceEqDiff, Nat.reduceAdd, Nat.reduceMul, reduceCtorEq, e2]) (by simp (disch := first | omega | decide | (simp only [eget_eput', ↓reduceIte, Nat.reduceEqDiff]; done)) only [go_sem, ↓reduceIte, Nat.reduceEqDiff, Nat.reduceAdd, Nat.reduceMul, reduceCtorEq, e3]) (by simp (disch := first | omega | decide | (simp only [eget_eput', ↓reduceIte, Nat.reduceEqDiff]; done)) only [go_sem, ↓reduceIte, Nat.reduceEqDiff, Nat.reduceAdd, Nat.reduceMul, reduceCtorEq, e7]) (by simp (disch := first | omega | decide | (simp only [eget_eput', ↓reduceIte, Nat.reduceEqDiff]; done)) only [go_sem, ↓reduceIte, Nat.reduceEqDiff, Nat.reduceAdd, Nat.reduceMul, reduceCtorEq, e11]) (by simp (disch := first | omega | decide | (simp only [eget_eput', ↓reduceIte, Nat.reduceEqDiff]; done)) only [go_sem, ↓reduceIte, Nat.reduceEqDiff, Nat.reduceAdd, Nat.reduceMul, reduceCtorEq, e12])
end
end Go.Proofs.Tryz
/- The law ValsLists, whole. -/
namespace Go.Proofs.Tryz
open Go Go.AE

section
variable {T : Tbl} (hT : Std T) {s : GSig}
include hT in
theorem lists_law (E15 : ∀ h, Ev T 15 [] h (.val (.bool true), ⟨h, [], []⟩))
    (E87 : Fits s → ∃ r : Int, (r = 0 → okOps s.ops s.sorts.length) ∧ ∀ h, Ev T 87 [encSig s] h (.val (.int .i64 r), ⟨h, [], []⟩))
    (E91 : GOk s → ∀ (a m : Nat) (n : Int), a < s.sorts.length → 1 ≤ m → m ≤ 60 → 0 ≤ n → n ≤ 1099511627776 → ∃ p, IsT p ∧ ∀ h, Ev T 91 [encTab s, .int .i64 (a : Int), .int .i64 (m : Int), .int .i64 n] h (.val p, ⟨h, [], []⟩))
    (sort size : Int) (h : List AE.Obj) : Ev T 10 [encSig s, .int .i64 sort, .int .i64 size] h (.val (.bool true), ⟨h, [], []⟩) := by
  refine Ev.walk (hT.sp _ (by decide)) ((hT.fn _).trans fn10) (hT.mode _) rfl ?_
  have td : ∀ b, tidy 0 h.length (.val (.bool b)) ⟨h ++ [AE.Obj.row 2 [encSig s]], [], []⟩ = (.val (.bool b), ⟨h, [], []⟩) := fun b => tidy_low rfl rfl ((Low.refl _ _).push (Nat.le_refl _)) (by simp)
  have c16 := fun h => small_ev hT s h
  cases hsm : smallB s
  · rw [hsm] at c16
    simp (disch := first | omega | decide | (simp only [eget_eput', ↓reduceIte, Nat.reduceEqDiff]; done)) only [go_sem, ↓reduceIte, Nat.reduceEqDiff, Nat.reduceAdd, Nat.reduceMul, reduceCtorEq, encSig_ld, cb (E15 _), cb (c16 _), hT.prim, primOf]
  · rw [hsm] at c16
    have hs := smallB_fits hsm
    obtain ⟨b, hb, _⟩ := brief_tot hT hsm size (h ++ [AE.Obj.row 2 [encSig s]])
    cases b
    · simp (disch := first | omega | decide | (simp only [eget_eput', ↓reduceIte, Nat.reduceEqDiff]; done)) only [go_sem, ↓reduceIte, Nat.reduceEqDiff, Nat.reduceAdd, Nat.reduceMul, reduceCtorEq, encSig_ld, cb (E15 _), cb (c16 _), cb hb, hT.prim, primOf]
    · obtain ⟨r, kr, e87⟩ := E87 hs
      by_cases hr : r = 0
      · subst hr
        have hg : GOk s := ⟨kr rfl, hs.nS, hs.nO⟩
        cases hok : isSortB sort s.sorts.length && sizedB size
        · have eT := fun h => terms_arg hT e87 hok h
          have eC := fun h => count_arg hT e87 hok h
          have b1 : ((1 : Int) != 0) = true := rfl
          simp (disch := first | omega | decide | (simp only [eget_eput', ↓reduceIte, Nat.reduceEqDiff]; done)) only [go_sem, ↓reduceIte, Nat.reduceEqDiff, Nat.reduceAdd, Nat.reduceMul, reduceCtorEq, encSig_ld, cb (E15 _), cb (c16 _), cb hb, cb (eT _), cb (eC _), hT.prim, primOf, b1]
        · simp only [isSortB, sizedB, Bool.and_eq_true, decide_eq_true_eq] at hok
          obtain ⟨⟨ha0, ha1⟩, hz0, hz1⟩ := hok
          obtain ⟨a, rfl⟩ := Int.eq_ofNat_of_zero_le ha0
          obtain ⟨z, rfl⟩ := Int.eq_ofNat_of_zero_le hz0
          have ha : a < s.sorts.length := by omega
          have hz : z ≤ 60 := by omega
          have ch : ∀ x : Nat × Nat, ∃ p, 1 ≤ x.1 → x.1 ≤ 60 → (x.2 : Int) ≤ 4000 → IsT p ∧ ∀ h, Ev T 91 [encTab s, .int .i64 (a : Int), .int .i64 (x.1 : Int), .int .i64 (x.2 : Int)] h (.val p, ⟨h, [], []⟩) := fun x => by
            by_cases hx : 1 ≤ x.1 ∧ x.1 ≤ 60 ∧ (x.2 : Int) ≤ 4000
            · obtain ⟨p, h1, h2⟩ := E91 hg a x.1 (x.2 : Int) ha hx.1 hx.2.1 (by omega) (by omega)
              exact ⟨p, fun _ _ _ => ⟨h1, h2⟩⟩
            · exact ⟨.undef, fun h1 h2 h3 => absurd ⟨h1, h2, h3⟩ hx⟩
          obtain ⟨pv0, hpv0⟩ := Classical.axiomOfChoice ch
          have hpv : ∀ m k : Nat, 1 ≤ m → m ≤ 60 → (k : Int) ≤ 4000 → IsT ((fun m k => pv0 (m, k)) m k) ∧ ∀ h, Ev T 91 [encTab s, .int .i64 (a : Int), .int .i64 (m : Int), .int .i64 (k : Int)] h (.val ((fun m k => pv0 (m, k)) m k), ⟨h, [], []⟩) := fun m k h1 h2 h3 => hpv0 (m, k) h1 h2 h3
          generalize (fun m k => pv0 (m, k)) = pv at hpv
          have hS : cap (sumOf s a z) ≤ 4000 → sumOf s a z ≤ 4000 := fun hh => by
            unfold cap at hh
            omega
          have hall : ∀ n, n ≤ 60 → sumOf s a n ≤ 4000 → ∀ x, x ∈ termsL s a pv n → IsT x := fun n => by
            induction n with
            | zero => intro _ _ x hx; simp [termsL] at hx
            | succ n ih =>
              intro hn hle x hx
              have c0 := (cnt_nn hg ha (n + 1)).1
              have s0 := sum_nn hg ha n
              simp only [sumOf] at hle
              simp only [termsL, List.mem_append, List.mem_map, List.mem_range] at hx
              rcases hx with h | ⟨k, hk, rfl⟩
              · exact ih (by omega) (by omega) x h
              · exact (hpv (n + 1) k (by omega) (by omega) (by omega)).1
          have b2 : ((2 : Int) != 0) = true := rfl
          by_cases hmany : 4000 < cap (sumOf s a z)
          · have E144 : ∀ h, Ev T 144 [encTab s, .int .i64 (a : Int), .int .i64 (z : Int)] h (.val (.tuple [.slice 0 [] .any, .int .i64 2]), ⟨h, [], []⟩) := fun h => by
              rcases terms_ev hT hg ha hz hpv h with ⟨_, h⟩ | ⟨h, _⟩
              · exact h
              · omega
            have eT := fun h => terms_ok hT hg e87 ha hz (h := h) rfl rfl (E144 _)
            have eC := fun h => count_ok hT hg e87 ha hz h
            have b3 : ((2 : Int) == 0) = false := rfl
            simp (disch := first | omega | decide | (simp only [eget_eput', ↓reduceIte, Nat.reduceEqDiff]; done)) only [go_sem, ↓reduceIte, Nat.reduceEqDiff, Nat.reduceAdd, Nat.reduceMul, reduceCtorEq, encSig_ld, cb (E15 _), cb (c16 _), cb hb, cb (eT _), cb (eC _), hT.prim, primOf, b2, b3]
          · have hle : sumOf s a z ≤ 4000 := hS (by omega)
            obtain ⟨pL, wL⟩ := weaks_terms (hall z hz hle)
            have hE : ∀ h, ∃ sz, (termsL s a pv z = [] ∨ sz = 3) ∧ Ev T 144 [encTab s, .int .i64 (a : Int), .int .i64 (z : Int)] h (.val (.tuple [.slice sz (termsL s a pv z) .any, .int .i64 0]), ⟨h, [], []⟩) := fun h => by
              rcases terms_ev hT hg ha hz hpv h with ⟨h, _⟩ | ⟨_, h⟩
              · omega
              · exact h
            obtain ⟨sz, hsz, e144⟩ := hE ((h ++ [AE.Obj.row 2 [encSig s]]) ++ [AE.Obj.row 2 [encSig s]])
            have eT := terms_ok hT hg e87 ha hz (h := h ++ [AE.Obj.row 2 [encSig s]]) pL wL e144
            have hL : (termsL s a pv z).length ≤ 4000 := by
              have := termsL_len hg ha (pv := pv) z
              omega
            simp (disch := first | omega | decide | (simp only [eget_eput', ↓reduceIte, Nat.reduceEqDiff]; done)) only [go_sem, ↓reduceIte, Nat.reduceEqDiff, Nat.reduceAdd, Nat.reduceMul, reduceCtorEq, encSig_ld, cb (E15 _), cb (c16 _), cb hb, cb eT, hT.prim, primOf, bne_self_eq_false]
            have hbx : (h ++ [AE.Obj.row 2 [encSig s]])[h.length]? = some (.row 2 [encSig s]) := by simp
            refine wpC.loopM (fun d e st => ∃ (n : Nat) (H : List AE.Obj) (ws : List Nat), n + d = z ∧ Low h.length h H ∧ H[h.length]? = some (.row 2 [encSig s]) ∧ (∀ x ∈ ws, h.length ≤ x) ∧ eget e 1 = .int .i64 (a : Int) ∧ eget e 2 = .int .i64 (z : Int) ∧ eget e 3 = .ptr h.length 0 0 1 ∧ eget e 7 = .slice sz (termsL s a pv z) .any ∧ eget e 11 = .int .i64 ((termsL s a pv n).length : Int) ∧ eget e 12 = .int .i64 ((n + 1 : Nat) : Int) ∧ st = ⟨H, ws, []⟩) ?_ z _ _
              ⟨0, h ++ [AE.Obj.row 2 [encSig s]], [], by omega, (Low.refl _ _).push (Nat.le_refl _), hbx, by simp, by simp (disch := first | omega | decide | (simp only [eget_eput', ↓reduceIte, Nat.reduceEqDiff]; done)) only [go_sem, ↓reduceIte, Nat.reduceEqDiff, Nat.reduceAdd, Nat.reduceMul, reduceCtorEq], by simp (disch := first | omega | decide | (simp only [eget_eput', ↓reduceIte, Nat.reduceEqDiff]; done)) only [go_sem, ↓reduceIte, Nat.reduceEqDiff, Nat.reduceAdd, Nat.reduceMul, reduceCtorEq], by simp (disch := first | omega | decide | (simp only [eget_eput', ↓reduceIte, Nat.reduceEqDiff]; done)) only [go_sem, ↓reduceIte, Nat.reduceEqDiff, Nat.reduceAdd, Nat.reduceMul, reduceCtorEq], by simp (disch := first | omega | decide | (simp only [eget_eput', ↓reduceIte, Nat.reduceEqDiff]; done)) only [go_sem, ↓reduceIte, Nat.reduceEqDiff, Nat.reduceAdd, Nat.reduceMul, reduceCtorEq], by simp (disch := first | omega | decide | (simp only [eget_eput', ↓reduceIte, Nat.reduceEqDiff]; done)) only [go_sem, ↓reduceIte, Nat.reduceEqDiff, Nat.reduceAdd, Nat.reduceMul, reduceCtorEq]; rfl, by simp (disch := first | omega | decide | (simp only [eget_eput', ↓reduceIte, Nat.reduceEqDiff]; done)) only [go_sem, ↓reduceIte, Nat.reduceEqDiff, Nat.reduceAdd, Nat.reduceMul, reduceCtorEq]; rfl, rfl⟩
            rintro d e st ⟨n, H, ws, hd, low, hb, hw, e1, e2, e3, e7, e11, e12, rfl⟩
            by_cases h1 : n + 1 ≤ z
            · obtain ⟨c, hc⟩ := Int.eq_ofNat_of_zero_le (cnt_nn hg ha (n + 1)).1
              have hmono := sum_mono hg ha (n := n + 1) (m := z) h1
              have hl1 := termsL_len hg ha (pv := pv) n
              have hl2 := termsL_len hg ha (pv := pv) z
              have s0 := sum_nn hg ha n
              simp only [sumOf] at hmono
              have ll : loadAt true 2 (.ptr h.length 0 0 1) H = some (encSig s) := by rw [ld_at hb]; rfl
              have eC := fun h => count_ok hT hg e87 (a := a) (m := n + 1) ha (by omega) h
              rw [hc] at eC
              simp (disch := first | omega | decide | (simp only [eget_eput', ↓reduceIte, Nat.reduceEqDiff]; done)) only [go_sem, ↓reduceIte, Nat.reduceEqDiff, Nat.reduceAdd, Nat.reduceMul, reduceCtorEq, a10b1, e1, e2, e3, e7, e11, e12, h1, ll, cb (eC _), hT.prim, primOf, bne_self_eq_false]
              refine lists_b0 hT hg e87 (n := n) (size := z) (sz := sz) (pv := pv) ha h1 hz hc (fun k hk => hpv (n + 1) k (by omega) (by omega) (by omega)) hsz hL (by omega) low hb hw (by simp (disch := first | omega | decide | (simp only [eget_eput', ↓reduceIte, Nat.reduceEqDiff]; done)) only [go_sem, ↓reduceIte, Nat.reduceEqDiff, Nat.reduceAdd, Nat.reduceMul, reduceCtorEq, e1]) (by simp (disch := first | omega | decide | (simp only [eget_eput', ↓reduceIte, Nat.reduceEqDiff]; done)) only [go_sem, ↓reduceIte, Nat.reduceEqDiff, Nat.reduceAdd, Nat.reduceMul, reduceCtorEq, e2]) (by simp (disch := first | omega | decide | (simp only [eget_eput', ↓reduceIte, Nat.reduceEqDiff]; done)) only [go_sem, ↓reduceIte, Nat.reduceEqDiff, Nat.reduceAdd, Nat.reduceMul, reduceCtorEq, e3]) (by simp (disch := first | omega | decide | (simp only [eget_eput', ↓reduceIte, Nat.reduceEqDiff]; done)) only [go_sem, ↓reduceIte, Nat.reduceEqDiff, Nat.reduceAdd, Nat.reduceMul, reduceCtorEq, e7]) (by simp (disch := first | omega | decide | (simp only [eget_eput', ↓reduceIte, Nat.reduceEqDiff]; done)) only [go_sem, ↓reduceIte, Nat.reduceEqDiff, Nat.reduceAdd, Nat.reduceMul, reduceCtorEq, e11]) (by simp (disch := first | omega | decide | (simp only [eget_eput', ↓reduceIte, Nat.reduceEqDiff]; done)) only [go_sem, ↓reduceIte, Nat.reduceEqDiff, Nat.reduceAdd, Nat.reduceMul, reduceCtorEq, e12]) (by simp (disch := first | omega | decide | (simp only [eget_eput', ↓reduceIte, Nat.reduceEqDiff]; done)) only [go_sem, ↓reduceIte, Nat.reduceEqDiff, Nat.reduceAdd, Nat.reduceMul, reduceCtorEq]) (by simp (disch := first | omega | decide | (simp only [eget_eput', ↓reduceIte, Nat.reduceEqDiff]; done)) only [go_sem, ↓reduceIte, Nat.reduceEqDiff, Nat.reduceAdd, Nat.reduceMul, reduceCtorEq]) fun e' H' ws' low' hb' hw' e1 e2 e3 e7 e11 e12 => ?_
              simp (disch := first | omega | decide | (simp only [eget_eput', ↓reduceIte, Nat.reduceEqDiff]; done)) only [go_sem, ↓reduceIte, Nat.reduceEqDiff, Nat.reduceAdd, Nat.reduceMul, reduceCtorEq, e1, e2, e3, e7, e11, e12]
              exact ⟨d - 1, by omega, n + 1, H', ws', by omega, low', hb', hw', by simp [termsL, hc], rfl, rfl⟩
            · have : n = z := by omega
              subst this
              have b0 : (((termsL s a pv n).length : Int) == ((termsL s a pv n).length : Int)) = true := by simp
              simp (disch := first | omega | decide | (simp only [eget_eput', ↓reduceIte, Nat.reduceEqDiff]; done)) only [go_sem, ↓reduceIte, Nat.reduceEqDiff, Nat.reduceAdd, Nat.reduceMul, reduceCtorEq, a10b1, e1, e2, e3, e7, e11, e12, h1, b0]
              exact tidy_low rfl rfl low hw
      · have eT := fun h => terms_err hT hr e87 sort size h
        have eC := fun h => count_err hT hr e87 sort size h
        have b1 : (r != 0) = true := by simpa using hr
        simp (disch := first | omega | decide | (simp only [eget_eput', ↓reduceIte, Nat.reduceEqDiff]; done)) only [go_sem, ↓reduceIte, Nat.reduceEqDiff, Nat.reduceAdd, Nat.reduceMul, reduceCtorEq, encSig_ld, cb (E15 _), cb (c16 _), cb hb, cb (eT _), cb (eC _), hT.prim, primOf, b1]
end
end Go.Proofs.Tryz
