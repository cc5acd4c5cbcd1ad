/- The law ValsCounts, whole. -/
import Derived.Test.YtekepgfmgeophaaGreatPartAQ
set_option linter.unusedVariables false
set_option linter.unusedSimpArgs false
namespace Go.Proofs.Tryz
open Go Go.AE
variable {T : Tbl} (hT : Std T) {s : GSig}
theorem tmOf_nodes {a m k : Nat} (hm : 1 ≤ m ∧ m ≤ 60) : (tmOf s a m k).nodes ≤ 60 := by
 unfold tmOf
 split
 · rename_i h
   have := h.choose_spec.2.1
   omega
 · simp [Tm.nodes, nodesL]
theorem termsT_nodes {a : Nat} : ∀ n, n ≤ 60 → ∀ x ∈ termsT s a n, x.nodes ≤ 60
 | 0, _, x, hx => by simp [termsT] at hx
 | n + 1, hn, x, hx => by
   simp only [termsT, List.mem_append, List.mem_map] at hx
   rcases hx with h | ⟨k, _, rfl⟩
   · exact termsT_nodes n (by omega) x h
   · exact tmOf_nodes ⟨by omega, hn⟩
include hT in
theorem terms_top {r0 : Int} (kr : (r0 = 0 ∧ sigP s) ∨ (r0 = 40 ∧ ¬ sigP s)) (E87 : ∀ h, Ev T 87 [encSig s] h (.val (.int .i64 r0), ⟨h, [], []⟩)) (E91 : GOk s → Nth6 T s) (sort size : Int) (h : List AE.Obj) : ∃ x : (Nat × List PV) × Int, Ev T 59 [encSig s, .int .i64 sort, .int .i64 size] h (.val (.tuple [.slice x.1.1 x.1.2 .any, .int .i64 x.2]), ⟨h, [], []⟩) ∧ TermsA s sort size x := by
 rcases kr with ⟨rfl, hp⟩ | ⟨rfl, hp⟩
 · have hG := hp.gok
   cases hok : isSortB sort s.sorts.length && sizedB size
   · exact ⟨((0, []), 1), terms_arg hT E87 hok h, .inr (.inl ⟨hp, hok, rfl, rfl⟩)⟩
   · have hok' := hok
     simp only [isSortB, sizedB, Bool.and_eq_true, decide_eq_true_eq] at hok'
     obtain ⟨⟨ha0, ha1⟩, hz0, hz1⟩ := hok'
     obtain ⟨a, rfl⟩ := Int.eq_ofNat_of_zero_le ha0
     obtain ⟨z, rfl⟩ := Int.eq_ofNat_of_zero_le hz0
     have ha : a < s.sorts.length := by omega
     have hz : z ≤ 60 := by omega
     have ch : ∀ x : Nat × Nat, ∃ p, 1 ≤ x.1 → x.1 ≤ 60 → (x.2 : Int) < cntOf s a x.1 → Nth91 s a x.1 (x.2 : Int) p ∧ ∀ h, Ev T 91 [encTab s, .int .i64 (a : Int), .int .i64 (x.1 : Int), .int .i64 (x.2 : Int)] h (.val p, ⟨h, [], []⟩) := fun x => by
      by_cases hx : 1 ≤ x.1 ∧ x.1 ≤ 60 ∧ (x.2 : Int) < cntOf s a x.1
      · obtain ⟨p, h1, h2⟩ := E91 hG a x.1 (x.2 : Int) ha hx.1 hx.2.1 (by omega) hx.2.2
        exact ⟨p, fun _ _ _ => ⟨h1, h2⟩⟩
      · exact ⟨.undef, fun h1 h2 h3 => absurd ⟨h1, h2, h3⟩ hx⟩
     obtain ⟨pv0, hpv0⟩ := Classical.axiomOfChoice ch
     have hpv : ∀ m k : Nat, 1 ≤ m → m ≤ 60 → (k : Int) < cntOf s a m → Nth91 s a m (k : Int) ((fun m k => pv0 (m, k)) m k) ∧ ∀ h, Ev T 91 [encTab s, .int .i64 (a : Int), .int .i64 (m : Int), .int .i64 (k : Int)] h (.val ((fun m k => pv0 (m, k)) m k), ⟨h, [], []⟩) := fun m k h1 h2 h3 => hpv0 (m, k) h1 h2 h3
     generalize (fun m k => pv0 (m, k)) = pv at hpv
     have hpv1 : ∀ m k : Nat, 1 ≤ m → m ≤ 60 → (k : Int) < cntOf s a m → IsT (pv m k) ∧ ∀ h, Ev T 91 [encTab s, .int .i64 (a : Int), .int .i64 (m : Int), .int .i64 (k : Int)] h (.val (pv m k), ⟨h, [], []⟩) := fun m k h1 h2 h3 => by
      obtain ⟨⟨x, hx, _, hxn, _⟩, ev⟩ := hpv m k h1 h2 h3
      exact ⟨hx.isT (by omega), ev⟩
     have hE := termsL_enc hG ha (pv := pv) (fun m k h1 h2 h3 => (hpv m k h1 h2 h3).1) z hz
     by_cases hmany : 4000 < cap (sumOf s a z)
     · have E144 : ∀ h, Ev T 144 [encTab s, .int .i64 (a : Int), .int .i64 (z : Int)] h (.val (.tuple [.slice 0 [] .any, .int .i64 2]), ⟨h, [], []⟩) := fun h => by
        rcases terms_ev hT hG ha hz hpv1 h with ⟨_, h⟩ | ⟨h, _⟩
        · exact h
        · omega
       exact ⟨((0, []), 2), terms_ok hT hG E87 ha hz rfl rfl (E144 _), .inr (.inr (.inl ⟨hp, hok, by simp only [Int.toNat_natCast]; unfold cap at hmany; omega, rfl, rfl⟩))⟩
     · have hle : sumOf s a z ≤ 4000 := by unfold cap at hmany; omega
       have hIs : ∀ x ∈ termsL s a pv z, IsT x := fun x hx => by
        obtain ⟨i, hi, rfl⟩ := List.getElem_of_mem hx
        have hl : i < (termsT s a z).length := by have := hE.1; omega
        have := termsT_nodes z hz _ (List.getElem_mem hl)
        exact (hE.2 i _ _ (List.getElem?_eq_getElem hl) (List.getElem?_eq_getElem hi)).isT (by omega)
       obtain ⟨pL, wL⟩ := weaks_terms hIs
       rcases terms_ev hT hG ha hz hpv1 (h ++ [AE.Obj.row 2 [encSig s]]) with ⟨h1, _⟩ | ⟨_, sz, hsz, e144⟩
       · omega
       · exact ⟨((sz, termsL s a pv z), 0), terms_ok hT hG E87 ha hz pL wL e144, .inr (.inr (.inr ⟨hp, hok, hle, hsz, hE, rfl⟩))⟩
 · exact ⟨((0, []), 40), terms_err hT (by decide) E87 sort size h, .inl ⟨hp, rfl, rfl⟩⟩
include hT in
theorem terms_same (hf : Fits s) {sort size : Int} {x y : (Nat × List PV) × Int} (h : TermsA s sort size x) (h' : TermsA s sort size y) : x.2 = y.2 ∧ ∀ h, Ev T 32 [.slice x.1.1 x.1.2 .any, .slice y.1.1 y.1.2 .any, .func (.func 22) [] []] h (.val (.bool true), ⟨h, [], []⟩) := by
 have emp : x.1.2 = [] → y.1.2 = [] → ∀ h, Ev T 32 [.slice x.1.1 x.1.2 .any, .slice y.1.1 y.1.2 .any, .func (.func 22) [] []] h (.val (.bool true), ⟨h, [], []⟩) := fun e1 e2 h => by
  rw [e1, e2]
  exact equalE_ev hT (l := []) (.inl rfl) (.inl rfl) rfl rfl (by decide) (fun i x p h => by simp at h) (fun i x p h => by simp at h) (fun i x p q h => by simp at h) h
 rcases h with ⟨a1, a2, a3⟩ | ⟨a1, a2, a3, a4⟩ | ⟨a1, a2, a3, a4, a5⟩ | ⟨a1, a2, a3, a4, a5, a6⟩ <;> rcases h' with ⟨b1, b2, b3⟩ | ⟨b1, b2, b3, b4⟩ | ⟨b1, b2, b3, b4, b5⟩ | ⟨b1, b2, b3, b4, b5, b6⟩
 · exact ⟨by rw [a3, b3], emp a2 b2⟩
 · exact absurd b1 a1
 · exact absurd b1 a1
 · exact absurd b1 a1
 · exact absurd a1 b1
 · exact ⟨by rw [a4, b4], emp a3 b3⟩
 · rw [a2] at b2; cases b2
 · rw [a2] at b2; cases b2
 · exact absurd a1 b1
 · rw [a2] at b2; cases b2
 · exact ⟨by rw [a5, b5], emp a4 b4⟩
 · omega
 · exact absurd a1 b1
 · rw [a2] at b2; cases b2
 · omega
 · have hok := a2
   simp only [isSortB, sizedB, Bool.and_eq_true, decide_eq_true_eq] at hok
   obtain ⟨⟨ha0, ha1⟩, hz0, hz1⟩ := hok
   have hlen := termsT_len a1.gok (a := sort.toNat) (by omega) size.toNat
   refine ⟨by rw [a6, b6], fun h => equalE_ev hT (l := termsT s sort.toNat size.toNat) a4 b4 a5.1 b5.1 (by omega) a5.2 b5.2 (fun i t p q h1 h2 h3 => sameE_ev hT (a5.2 i t p h1 h2) q (b5.2 i t q h1 h3) (by have := termsT_nodes (s := s) (a := sort.toNat) size.toNat (by omega) t (List.mem_of_getElem? h1); omega)) h⟩
def CountA (s : GSig) (sort size : Int) (r : Int × Int) : Prop := (r = (0, 40) ∧ ¬ sigP s) ∨ (r = (0, 1) ∧ sigP s ∧ (isSortB sort s.sorts.length && sizedB size) = false) ∨ (r = (cntOf s sort.toNat size.toNat, 0) ∧ sigP s ∧ (isSortB sort s.sorts.length && sizedB size) = true)
theorem countA_same {sort size : Int} {x y : Int × Int} (h : CountA s sort size x) (h' : CountA s sort size y) : x = y := by
 rcases h with ⟨a, b⟩ | ⟨a, b, c⟩ | ⟨a, b, c⟩ <;> rcases h' with ⟨a', b'⟩ | ⟨a', b', c'⟩ | ⟨a', b', c'⟩ <;> first
  | exact a.trans a'.symm
  | exact absurd b' b
  | exact absurd b b'
  | (rw [c] at c'; cases c')
include hT in
theorem count_top {r0 : Int} (kr : (r0 = 0 ∧ sigP s) ∨ (r0 = 40 ∧ ¬ sigP s)) (E87 : ∀ h, Ev T 87 [encSig s] h (.val (.int .i64 r0), ⟨h, [], []⟩)) (sort size : Int) (h : List AE.Obj) : ∃ r : Int × Int, Ev T 44 [encSig s, .int .i64 sort, .int .i64 size] h (.val (.tuple [.int .i64 r.1, .int .i64 r.2]), ⟨h, [], []⟩) ∧ CountA s sort size r := by
 rcases kr with ⟨rfl, hp⟩ | ⟨rfl, hp⟩
 · cases hok : isSortB sort s.sorts.length && sizedB size
   · exact ⟨(0, 1), count_arg hT E87 hok h, .inr (.inl ⟨rfl, hp, hok⟩)⟩
   · have hok' := hok
     simp only [isSortB, sizedB, Bool.and_eq_true, decide_eq_true_eq] at hok'
     obtain ⟨⟨ha0, ha1⟩, hz0, hz1⟩ := hok'
     obtain ⟨a, rfl⟩ := Int.eq_ofNat_of_zero_le ha0
     obtain ⟨z, rfl⟩ := Int.eq_ofNat_of_zero_le hz0
     exact ⟨(cntOf s a z, 0), count_ok hT hp.gok E87 (by omega) (by omega) h, .inr (.inr ⟨rfl, hp, hok⟩)⟩
 · exact ⟨(0, 40), count_err hT (by decide) E87 sort size h, .inl ⟨rfl, hp⟩⟩
set_option maxRecDepth 20000 in
include hT in
theorem counts_law (E15 : ∀ h, Ev T 15 [] h (.val (.bool true), ⟨h, [], []⟩))
 (E87 : Fits s → ∃ r : Int, ((r = 0 ∧ sigP s) ∨ (r = 40 ∧ ¬ sigP s)) ∧ ∀ h, Ev T 87 [encSig s] h (.val (.int .i64 r), ⟨h, [], []⟩))
 (E91 : GOk s → Nth6 T s) (sort size : Int) (h : List AE.Obj) : Ev T 9 [encSig s, .int .i64 sort, .int .i64 size] h (.val (.bool true), ⟨h, [], []⟩) := by
 refine Ev.walk (hT.sp _ (by decide)) ((hT.fn _).trans fn9) (hT.mode _) rfl ?_
 have k3 : (h ++ [AE.Obj.row 2 [encSig s]])[h.length]? = some (.row 2 [encSig s]) := by simp
 have low : Low h.length h (h ++ [AE.Obj.row 2 [encSig s]]) := (Low.refl _ _).push (Nat.le_refl _)
 have hlo : h.length ≤ (h ++ [AE.Obj.row 2 [encSig s]]).length := by simp
 generalize hH : h ++ [AE.Obj.row 2 [encSig s]] = H at *
 have l3 : loadAt true 2 (.ptr h.length 0 0 1) H = some (encSig s) := by rw [ld_at k3]; rfl
 have td : tidy 0 h.length (.val (.bool true)) ⟨H, [], []⟩ = (.val (.bool true), ⟨h, [], []⟩) := tidy_low rfl rfl low (by simp)
 have c16 := fun h => small_ev hT s h
 cases hsm : smallB s
 · rw [hsm] at c16
   simp (disch := first | omega | decide | simp only [go_sem]) only [go_sem, hH, l3, cb (E15 _), cb (c16 _), hT.prim, primOf, td]
 · rw [hsm] at c16
   have hs := smallB_fits hsm
   obtain ⟨r0, kr, e87⟩ := E87 hs
   obtain ⟨⟨q1, v1⟩, c56, R1⟩ := least_top hT kr e87 sort H
   dsimp only at c56
   obtain ⟨_, x1, hx1, _⟩ := leastA_same R1 R1
   dsimp only at hx1
   obtain ⟨b1, b2, b3, b4⟩ := hx1.cells
   have sb1 := fun ws => st_box (h := H) (ws := ws) (ups := []) (z := .agg [(.int .i64 0), (.int .i64 0), (.slice 0 [] .nil)]) (sz := 3) (c := q1) b1 rfl b2 hx1.facts.1 ⟨_, rfl⟩ b4
   have m7 : (H ++ [AE.Obj.row 3 [q1]])[H.length]? = some (.row 3 [q1]) := by simp
   have m3 : (H ++ [AE.Obj.row 3 [q1]])[h.length]? = some (.row 2 [encSig s]) := keepL k3
   have low1 : Low h.length h (H ++ [AE.Obj.row 3 [q1]]) := low.push hlo
   have hlo1 : h.length ≤ (H ++ [AE.Obj.row 3 [q1]]).length := by simp; omega
   generalize hH1 : H ++ [AE.Obj.row 3 [q1]] = H1 at *
   generalize hk7 : H.length = k7 at *
   obtain ⟨⟨q2, v2⟩, c57, R2⟩ := rLeast_top hT hs sort H1
   dsimp only at c57
   obtain ⟨hv, x, hx, hy, hxn⟩ := leastA_same R1 R2
   dsimp only at hv hx hy
   subst hv
   obtain ⟨e1, e2, e3, e4⟩ := hy.cells
   have sb2 := fun ws => st_box (h := H1) (ws := ws) (ups := []) (z := .agg [(.int .i64 0), (.int .i64 0), (.slice 0 [] .nil)]) (sz := 3) (c := q2) e1 rfl e2 hy.facts.1 ⟨_, rfl⟩ e4
   have o9 : (H1 ++ [AE.Obj.row 3 [q2]])[H1.length]? = some (.row 3 [q2]) := by simp
   have o7 : (H1 ++ [AE.Obj.row 3 [q2]])[k7]? = some (.row 3 [q1]) := keepL m7
   have o3 : (H1 ++ [AE.Obj.row 3 [q2]])[h.length]? = some (.row 2 [encSig s]) := keepL m3
   have low2 : Low h.length h (H1 ++ [AE.Obj.row 3 [q2]]) := low1.push hlo1
   generalize hH2 : H1 ++ [AE.Obj.row 3 [q2]] = H2 at *
   generalize hk9 : H1.length = k9 at *
   have n3 : loadAt true 2 (.ptr h.length 0 0 1) H1 = some (encSig s) := by rw [ld_at m3]; rfl
   have w3 : loadAt true 2 (.ptr h.length 0 0 1) H2 = some (encSig s) := by rw [ld_at o3]; rfl
   have w7 : loadAt true 3 (.ptr k7 0 0 1) H2 = some q1 := by rw [ld_at o7]; exact hx.sub
   have w9 : loadAt true 3 (.ptr k9 0 0 1) H2 = some q2 := by rw [ld_at o9]; exact hy.sub
   have c22 := sameE_ev hT hx q2 hy (by omega) H2
   obtain ⟨⟨n1, n2⟩, c44, A1⟩ := count_top hT kr e87 sort size H2
   dsimp only at c44
   obtain ⟨⟨m1, m2⟩, c58, A2⟩ := rcount_exact hT hs sort size H2
   dsimp only at c58
   have hcc := countA_same A1 A2
   simp only [Prod.mk.injEq] at hcc
   obtain ⟨rfl, rfl⟩ := hcc
   obtain ⟨b, c27, _⟩ := brief_tot hT hsm size H2
   have tdf : ∀ ws, (∀ x ∈ ws, h.length ≤ x) → tidy 0 h.length (.val (.bool true)) ⟨H2, ws, []⟩ = (.val (.bool true), ⟨h, [], []⟩) := fun ws hw => tidy_low rfl rfl low2 hw
   cases b
   · simp (disch := first | omega | decide | simp only [go_sem]) only [go_sem, hH, hk7, l3, cb (E15 _), cb (c16 _), hT.prim, primOf, cb c56, b1, b3, sb1, hH1, n3, cb c57, sb2, hH2, hk9, w3, w7, w9, cb c44, cb c58, cb c22, bne_self_eq_false, cb c27, List.length_cons, List.length_nil]
     exact tdf _ fun x hx => by repeat' first | omega | (cases hx; done) | (rcases mem_wall hx with hx | hx) | (rcases mem_wadd hx with hx | hx)
   · obtain ⟨⟨⟨z1, L1⟩, f1⟩, c59, T1⟩ := terms_top hT kr e87 E91 sort size H2
     obtain ⟨⟨⟨z2, L2⟩, f2⟩, c60, T2⟩ := rterms_top hT hs sort size H2
     dsimp only at c59 c60
     obtain ⟨hf, c32⟩ := terms_same hT hs T1 T2
     dsimp only at hf c32
     subst hf
     simp (disch := first | omega | decide | simp only [go_sem]) only [go_sem, hH, hk7, l3, cb (E15 _), cb (c16 _), hT.prim, primOf, cb c56, b1, b3, sb1, hH1, n3, cb c57, sb2, hH2, hk9, w3, w7, w9, cb c44, cb c58, cb c22, bne_self_eq_false, cb c27, cb c59, cb c60, cb (c32 _), beq_self_eq_true, List.length_cons, List.length_nil]
     exact tdf _ fun x hx => by repeat' first | omega | (cases hx; done) | (rcases mem_wall hx with hx | hx) | (rcases mem_wadd hx with hx | hx)
end Go.Proofs.Tryz
