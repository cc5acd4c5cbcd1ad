/- Texts of the proof, one behind the other: ValM11, ValM16, ValEntT. -/
import Derived.Test.YtekepgfmgeophaaGreatPartAQ
import Derived.Test.YtekepgfmgeophaaGreatPartAH
import Derived.Test.YtekepgfmgeophaaGreatPartAN
set_option linter.unusedVariables false
set_option linter.unusedSimpArgs false
/- Nth, with all its errors. -/
namespace Go.Proofs.Tryz
open Go Go.AE
variable {T : Tbl} (hT : Std T) {s : GSig}
include hT in
theorem nth_top {r0 : Int} (kr : (r0 = 0 ∧ sigP s) ∨ (r0 = 40 ∧ ¬ sigP s)) (E87 : ∀ h, Ev T 87 [encSig s] h (.val (.int .i64 r0), ⟨h, [], []⟩)) (E91 : GOk s → Nth6 T s) (sort size n : Int) (h : List AE.Obj) : ∃ r : PV × Int, Ev T 18 [encSig s, .int .i64 sort, .int .i64 size, .int .i64 n] h (.val (.tuple [r.1, .int .i64 r.2]), ⟨h, [], []⟩) ∧ NthR s sort size n r := by
 by_cases hall : sigP s ∧ nthOk s sort size n
 · obtain ⟨hp, ho⟩ := hall
   rcases kr with ⟨rfl, _⟩ | ⟨_, hn⟩
   · have hb := ho.1
     simp only [isSortB, Bool.and_eq_true, decide_eq_true_eq] at hb
     obtain ⟨k2, k3⟩ := hb
     obtain ⟨⟨z1, z2⟩, n0, n1⟩ := ho.2
     obtain ⟨a, rfl⟩ := Int.eq_ofNat_of_zero_le k2
     obtain ⟨m, rfl⟩ := Int.eq_ofNat_of_zero_le (show 0 ≤ size by omega)
     simp only [Int.toNat_natCast] at n1
     obtain ⟨p, hN, e91⟩ := E91 hp.gok a m n (by omega) (by omega) (by omega) n0 n1
     have tT : IsT p := by
      obtain ⟨x, hx, _, hz, _⟩ := hN
      exact hx.isT (by omega)
     exact ⟨(p, 0), nth_ok hT hp.gok E87 (by omega) (by omega) ⟨n0, n1⟩ tT e91 h, .inr (.inr ⟨hp, ho, rfl, by simpa using hN⟩)⟩
   · exact absurd hp hn
 · refine Ev.walkP (r := fun (r : PV × Int) => (.val (.tuple [r.1, .int .i64 r.2]), ⟨h, [], []⟩)) (hT.sp _ (by decide)) ((hT.fn _).trans fn18) (hT.mode _) rfl ?_
   have k4 : ((h ++ [AE.Obj.row 2 [encSig s]]) ++ [AE.Obj.row 3 [PV.agg [.int .i64 0, .int .i64 0, .slice 0 [] .nil]]])[h.length]? = some (.row 2 [encSig s]) := keepL (by simp)
   have k8 : ((h ++ [AE.Obj.row 2 [encSig s]]) ++ [AE.Obj.row 3 [PV.agg [.int .i64 0, .int .i64 0, .slice 0 [] .nil]]])[(h ++ [AE.Obj.row 2 [encSig s]]).length]? = some (.row 3 [PV.agg [.int .i64 0, .int .i64 0, .slice 0 [] .nil]]) := by simp
   have low : Low h.length h ((h ++ [AE.Obj.row 2 [encSig s]]) ++ [AE.Obj.row 3 [PV.agg [.int .i64 0, .int .i64 0, .slice 0 [] .nil]]]) := ((Low.refl _ _).push (Nat.le_refl _)).push (by simp)
   have hkh : h.length ≤ (h ++ [AE.Obj.row 2 [encSig s]]).length := by simp
   generalize hkx : (h ++ [AE.Obj.row 2 [encSig s]]).length = kx at *
   generalize hH : (h ++ [AE.Obj.row 2 [encSig s]]) ++ [AE.Obj.row 3 [PV.agg [.int .i64 0, .int .i64 0, .slice 0 [] .nil]]] = H at *
   have l4 : loadAt true 2 (.ptr h.length 0 0 1) H = some (encSig s) := by rw [ld_at k4]; rfl
   have fc0 : fillC [PV.int .i64 0, .int .i64 0, .slice 0 [] .nil] [] = some [.int .i64 0, .int .i64 0, .slice 0 [] .nil] := rfl
   obtain ⟨ups', sv, hups⟩ := st_k3 (ws := []) (ups := []) (x := 0) (y := 0) (sz := 0) (es := []) (m := .nil) k8
   have ll : loadAt true 3 (.ptr kx 0 0 1) (H.set kx (.row 3 [PV.agg [.int .i64 0, .int .i64 0, .slice 0 [] .nil]])) = some (PV.agg [.int .i64 0, .int .i64 0, .slice 0 [] .nil]) := by rw [ld_at (get_set k8)]; rfl
   have tz : ∀ a : Int, tidy 0 h.length (.val (.tuple [.agg [.int .i64 0, .int .i64 0, .slice 0 [] .nil], .int .i64 a])) ⟨H.set kx (.row 3 [PV.agg [.int .i64 0, .int .i64 0, .slice 0 [] .nil]]), wadd kx [], ups'⟩ = (.val (.tuple [zTerm, .int .i64 a]), ⟨h, [], []⟩) := fun a => by
    rw [tidy_ups (v := .tuple [.agg [.int .i64 0, .int .i64 0, .slice 0 [] .nil], .int .i64 a]) rfl (low.trans (.set hkh)) (show ∀ k ∈ wadd kx [], h.length ≤ k from wadd_low hkh (by simp)) (fun y hy => by
     rcases hups y hy with h | h
     · cases h
     · omega)]
    rfl
   rcases kr with ⟨rfl, hp⟩ | ⟨rfl, hp⟩
   · have bad : ¬ nthOk s sort size n := fun ho => hall ⟨hp, ho⟩
     have fin : ∃ r : PV × Int, (OR.val (PV.tuple [zTerm, .int .i64 1]), (⟨h, [], []⟩ : St)) = (OR.val (PV.tuple [r.1, .int .i64 r.2]), ⟨h, [], []⟩) ∧ NthR s sort size n r := ⟨(zTerm, 1), rfl, .inr (.inl ⟨hp, bad, rfl⟩)⟩
     have c1 := fun h => isSort_ev hT (s := s) sort h
     have c2 := fun h => sized_ev hT size h
     cases hb : isSortB sort s.sorts.length
     · rw [hb] at c1
       simp (disch := first | omega | decide | simp only [go_sem]) only [go_sem, hkx, hH, l4, cb (E87 _), hT.prim, primOf, bne_self_eq_false, cb (c1 _), fc0, sv, resv, ll, tz, List.length_cons, List.length_nil]
       exact fin
     · rw [hb] at c1
       cases hz : sizedB size
       · rw [hz] at c2
         simp (disch := first | omega | decide | simp only [go_sem]) only [go_sem, hkx, hH, l4, cb (E87 _), hT.prim, primOf, bne_self_eq_false, cb (c1 _), cb (c2 _), fc0, sv, resv, ll, tz, List.length_cons, List.length_nil]
         exact fin
       · rw [hz] at c2
         by_cases hn0 : n < 0
         · simp (disch := first | omega | decide | simp only [go_sem]) only [go_sem, hkx, hH, l4, cb (E87 _), hT.prim, primOf, bne_self_eq_false, cb (c1 _), cb (c2 _), hn0, fc0, sv, resv, ll, tz, List.length_cons, List.length_nil]
           exact fin
         · have hb2 := hb
           have hz2 := hz
           simp only [isSortB, sizedB, Bool.and_eq_true, decide_eq_true_eq] at hb2 hz2
           obtain ⟨a, rfl⟩ := Int.eq_ofNat_of_zero_le hb2.1
           obtain ⟨m, rfl⟩ := Int.eq_ofNat_of_zero_le hz2.1
           have c3 := fun h => counted_ev hT hp.gok (h := h)
           rw [encTab_eq] at c3
           obtain ⟨k1, k2⟩ := cnt_ok hp.gok (show a < s.sorts.length by omega)
           have hm61 : m < 61 := by omega
           have ls := ld_arr k1 hm61
           have hk1 : ((tabOf s).1.getD a []).getD m 0 ≤ n := by
            have h0 := cnt0 (s := s) a
            by_cases hm : m = 0
            · subst hm
              unfold cntOf at h0
              omega
            · have : ¬ n < cntOf s a m := fun hlt => bad ⟨hb, ⟨by omega, by omega⟩, by omega, by simpa using hlt⟩
              unfold cntOf at this
              omega
           simp (disch := first | omega | decide | simp only [go_sem]) only [go_sem, hkx, hH, l4, cb (E87 _), hT.prim, primOf, bne_self_eq_false, cb (c1 _), cb (c2 _), cb (c3 _), hn0, tab_t2, k2, hm61, ls, hk1, fc0, sv, resv, ll, tz, List.length_cons, List.length_nil]
           exact fin
   · have b1 : ((40 : Int) != 0) = true := rfl
     simp (disch := first | omega | decide | simp only [go_sem]) only [go_sem, hkx, hH, l4, cb (E87 _), hT.prim, primOf, b1, fc0, sv, resv, ll, tz, List.length_cons, List.length_nil]
     exact ⟨(zTerm, 40), rfl, .inl ⟨hp, rfl⟩⟩
end Go.Proofs.Tryz
/- The law ValsNumbers, whole. -/
namespace Go.Proofs.Tryz
open Go Go.AE
variable {T : Tbl} (hT : Std T) {s : GSig}
theorem nthR_same {sort size n : Int} {r r' : PV × Int} (h : NthR s sort size n r) (h' : NthR s sort size n r') : r.2 = r'.2 ∧ ∃ x, Enc x r.1 ∧ Enc x r'.1 ∧ x.nodes ≤ 60 := by
 have z : ∃ x, Enc x zTerm ∧ Enc x zTerm ∧ x.nodes ≤ 60 := ⟨.mk 0 0 [], .mk 0 0 [] 0 [] (.inl rfl) rfl (fun i x p h => by simp at h), .mk 0 0 [] 0 [] (.inl rfl) rfl (fun i x p h => by simp at h), by simp [Tm.nodes, nodesL]⟩
 rcases h with ⟨p1, rfl⟩ | ⟨p1, q1, rfl⟩ | ⟨p1, q1, e1, N1⟩ <;> rcases h' with ⟨p2, rfl⟩ | ⟨p2, q2, rfl⟩ | ⟨p2, q2, e2, N2⟩
 · exact ⟨rfl, z⟩
 · exact absurd p2 p1
 · exact absurd p2 p1
 · exact absurd p1 p2
 · exact ⟨rfl, z⟩
 · exact absurd q2 q1
 · exact absurd p1 p2
 · exact absurd q1 q2
 · obtain ⟨x, hx, hw, hz, hn⟩ := N1
   obtain ⟨y, hy, hw', hz', hn'⟩ := N2
   obtain ⟨hb, hs, _, hc⟩ := q1
   simp only [isSortB, Bool.and_eq_true, decide_eq_true_eq] at hb
   obtain ⟨_, K⟩ := tabOf_sem p1.okOps
   have hl : sort.toNat < (tabOf s).1.length := by rw [K.sl]; omega
   have ht := ((K.so.get hl).2.get (show size.toNat < 61 by omega)).2.2
   have hlt : x.num s < 1099511627776 := by
    unfold cntOf at hc
    omega
   have := num_inj p1.okOps _ x y _ (Nat.le_refl _) (by omega) (by omega) hw hw' hlt (by omega)
   subst this
   exact ⟨by rw [e1, e2], x, hx, hy, by omega⟩
include hT in
theorem numbers_law (E15 : ∀ h, Ev T 15 [] h (.val (.bool true), ⟨h, [], []⟩))
 (E87 : Fits s → ∃ r : Int, ((r = 0 ∧ sigP s) ∨ (r = 40 ∧ ¬ sigP s)) ∧ ∀ h, Ev T 87 [encSig s] h (.val (.int .i64 r), ⟨h, [], []⟩))
 (E91 : GOk s → Nth6 T s) (sort size k : Int) {t : Tm} {p : PV} (ht : Enc t p) (h : List AE.Obj) : Ev T 3 [encSig s, .int .i64 sort, .int .i64 size, .int .i64 k, p] h (.val (.bool true), ⟨h, [], []⟩) := by
 refine Ev.walk (hT.sp _ (by decide)) ((hT.fn _).trans fn3) (hT.mode _) rfl ?_
 obtain ⟨d1, d2, d3, d4⟩ := ht.cells
 have hsub := ht.sub
 have k5' : ((h ++ [AE.Obj.row 2 [encSig s]]) ++ [AE.Obj.row 3 [p]])[h.length]? = some (.row 2 [encSig s]) := keepL (by simp)
 have k9' : ((h ++ [AE.Obj.row 2 [encSig s]]) ++ [AE.Obj.row 3 [p]])[(h ++ [AE.Obj.row 2 [encSig s]]).length]? = some (.row 3 [p]) := by simp
 have low : Low h.length h ((h ++ [AE.Obj.row 2 [encSig s]]) ++ [AE.Obj.row 3 [p]]) := ((Low.refl _ _).push (Nat.le_refl _)).push (by simp)
 have hlo : h.length ≤ ((h ++ [AE.Obj.row 2 [encSig s]]) ++ [AE.Obj.row 3 [p]]).length := by simp
 generalize hk9 : (h ++ [AE.Obj.row 2 [encSig s]]).length = k9 at *
 generalize hH : (h ++ [AE.Obj.row 2 [encSig s]]) ++ [AE.Obj.row 3 [p]] = H at *
 have l5 : loadAt true 2 (.ptr h.length 0 0 1) H = some (encSig s) := by rw [ld_at k5']; rfl
 have l9 : loadAt true 3 (.ptr k9 0 0 1) H = some p := by rw [ld_at k9']; exact hsub
 have td : tidy 0 h.length (.val (.bool true)) ⟨H, [], []⟩ = (.val (.bool true), ⟨h, [], []⟩) := tidy_low rfl rfl low (by simp)
 have c16 := fun h => small_ev hT s h
 have fe : fillE 3 (List.replicate 1 (.agg [(.int .i64 0), (.int .i64 0), (.slice 0 [] .nil)])) [(0, p)] = some [p] := by simp [fillE, d1, d3]
 cases hsm : smallB s
 · rw [hsm] at c16
   simp (disch := first | omega | decide | simp only [go_sem]) only [go_sem, hk9, hH, d1, d3, l5, cb (E15 _), cb (c16 _), hT.prim, primOf, td]
 · rw [hsm] at c16
   have hs := smallB_fits hsm
   obtain ⟨b, c17, hb⟩ := few_ev hT ht H
   cases b
   · simp (disch := first | omega | decide | simp only [go_sem]) only [go_sem, hk9, hH, d1, d3, l5, l9, cb (E15 _), cb (c16 _), fe, cb c17, hT.prim, primOf, td]
   · have hn := hb rfl
     obtain ⟨r0, kr, e87⟩ := E87 hs
     obtain ⟨⟨q1, v1⟩, c18, R1⟩ := nth_top hT kr e87 E91 sort size k H
     dsimp only at c18
     have hq1 : ∃ x, Enc x q1 := by
      obtain ⟨_, x, hx, _⟩ := nthR_same R1 R1
      exact ⟨x, hx⟩
     obtain ⟨x1, hx1⟩ := hq1
     obtain ⟨b1, b2, b3, b4⟩ := hx1.cells
     have sb1 := fun ws => st_box (h := H) (ws := ws) (ups := []) (z := .agg [(.int .i64 0), (.int .i64 0), (.slice 0 [] .nil)]) (sz := 3) (c := q1) b1 rfl b2 hx1.facts.1 ⟨_, rfl⟩ b4
     have m11 : (H ++ [AE.Obj.row 3 [q1]])[H.length]? = some (.row 3 [q1]) := by simp
     have m5 : (H ++ [AE.Obj.row 3 [q1]])[h.length]? = some (.row 2 [encSig s]) := keepL k5'
     have m9 : (H ++ [AE.Obj.row 3 [q1]])[k9]? = some (.row 3 [p]) := keepL k9'
     have low1 : Low h.length h (H ++ [AE.Obj.row 3 [q1]]) := low.push hlo
     have hlo1 : h.length ≤ (H ++ [AE.Obj.row 3 [q1]]).length := by simp; omega
     generalize hH1 : H ++ [AE.Obj.row 3 [q1]] = H1 at *
     obtain ⟨⟨q2, v2⟩, c19, R2⟩ := rnth_top hT hs sort size k H1
     dsimp only at c19
     obtain ⟨hv, x, hx, hy, hxn⟩ := nthR_same R1 R2
     dsimp only at hv hx hy
     subst hv
     obtain ⟨e1, e2, e3, e4⟩ := hy.cells
     have sb2 := fun ws => st_box (h := H1) (ws := ws) (ups := []) (z := .agg [(.int .i64 0), (.int .i64 0), (.slice 0 [] .nil)]) (sz := 3) (c := q2) e1 rfl e2 hy.facts.1 ⟨_, rfl⟩ e4
     have o13 : (H1 ++ [AE.Obj.row 3 [q2]])[H1.length]? = some (.row 3 [q2]) := by simp
     have o11 : (H1 ++ [AE.Obj.row 3 [q2]])[H.length]? = some (.row 3 [q1]) := keepL m11
     have o5 : (H1 ++ [AE.Obj.row 3 [q2]])[h.length]? = some (.row 2 [encSig s]) := keepL m5
     have o9 : (H1 ++ [AE.Obj.row 3 [q2]])[k9]? = some (.row 3 [p]) := keepL m9
     have low2 : Low h.length h (H1 ++ [AE.Obj.row 3 [q2]]) := low1.push hlo1
     generalize hH2 : H1 ++ [AE.Obj.row 3 [q2]] = H2 at *
     have n5 : loadAt true 2 (.ptr h.length 0 0 1) H1 = some (encSig s) := by rw [ld_at m5]; rfl
     have w5 : loadAt true 2 (.ptr h.length 0 0 1) H2 = some (encSig s) := by rw [ld_at o5]; rfl
     have w9 : loadAt true 3 (.ptr k9 0 0 1) H2 = some p := by rw [ld_at o9]; exact hsub
     have w11 : loadAt true 3 (.ptr H.length 0 0 1) H2 = some q1 := by rw [ld_at o11]; exact hx.sub
     have w13 : loadAt true 3 (.ptr H1.length 0 0 1) H2 = some q2 := by rw [ld_at o13]; exact hy.sub
     have c22 := sameE_ev hT hx q2 hy (by omega) H2
     obtain ⟨⟨a1, a2⟩, c21, R21⟩ := rnumb_top hT hs ht (by omega) H2
     dsimp only at c21
     have c20 : Ev T 20 [encSig s, p] H2 (.val (.tuple [.int .i64 a1, .int .i64 a2]), ⟨H2, [], []⟩) := by
      rcases kr with ⟨rfl, hp⟩ | ⟨rfl, hp⟩
      · rcases R21 with ⟨hp', _⟩ | ⟨_, hr⟩
        · exact absurd hp hp'
        · have := numb_ev hT hp.gok e87 ht (by omega) H2
          rw [← hr] at this
          exact this
      · rcases R21 with ⟨_, hr⟩ | ⟨hp', _⟩
        · have := numb_err hT (show (40 : Int) ≠ 0 by decide) e87 ht H2
          cases hr
          exact this
        · exact absurd hp' hp
     simp (disch := first | omega | decide | simp only [go_sem]) only [go_sem, hk9, hH, d1, d3, l5, l9, cb (E15 _), cb (c16 _), fe, cb c17, hT.prim, primOf, cb c18, sb1, hH1, n5, cb c19, sb2, hH2, w5, w9, w11, w13, cb c20, cb c21, cb c22, beq_self_eq_true, List.length_cons, List.length_nil]
     exact tidy_low rfl rfl low2 (wadd_low hlo1 (wadd_low hlo (by simp)))
end Go.Proofs.Tryz
/- From the reading of a term to its value. -/
namespace Go.Proofs.Tryz
open Go Go.AE
mutual
def encT : Tm → PV
 | .mk k n l => .agg [.int .i64 k, .int .i64 n, .slice 3 (encTL l) .any]
def encTL : List Tm → List PV
 | [] => []
 | t :: l => encT t :: encTL l
end
theorem encTL_map : ∀ l : List Tm, encTL l = l.map encT
 | [] => rfl
 | t :: l => by rw [encTL, encTL_map l]; rfl
mutual
theorem enc_encT : ∀ t : Tm, Enc t (encT t)
 | .mk k n l => by
   rw [encT]
   obtain ⟨h1, h2⟩ := enc_encTL l
   exact .mk k n l 3 (encTL l) (.inr rfl) h1 h2
theorem enc_encTL : ∀ l : List Tm, (encTL l).length = l.length ∧ ∀ (i : Nat) (x : Tm) (p : PV), l[i]? = some x → (encTL l)[i]? = some p → Enc x p
 | [] => ⟨rfl, fun i x p h => by simp at h⟩
 | t :: l => by
   obtain ⟨h1, h2⟩ := enc_encTL l
   have h0 := enc_encT t
   rw [encTL]
   refine ⟨by simp [h1], fun i x p hx hp => ?_⟩
   cases i with
   | zero => simp at hx hp; subst hx hp; exact h0
   | succ i => exact h2 i x p (by simpa using hx) (by simpa using hp)
end
theorem cells28 : Tryz.prog.cellsOf 28 = 3 := by kernel_rfl
theorem cells26 : Tryz.prog.cellsOf 26 = 1 := by kernel_rfl
section
variable {H : Type} {enc : TypeId × Value → H} {w : World} {base : Nat} {spare : Nat → Bool} {held : Bool} {ρ : Nat → Row}
theorem encT_cells (t : Tm) : (encT t).cells.length = 3 := by
 cases t
 rw [encT]; rfl
theorem rd_term : ∀ n : Nat, Rd enc Tryz.prog w base spare held ρ n 28 (fun _ : Tm => True) encT
 | 0 => fun fuel cs d ps hle h => by
   have : fuel = 0 := by omega
   subst this
   simp [DataW.trod] at h
 | n + 1 => fun fuel cs d ps hle h => by
   cases fuel with
   | zero => simp [DataW.trod] at h
   | succ fuel =>
     have Pt := trod_struct (ρ := ρ) Tryz.underlying28 (by simp [fieldsAt, cells3]) (by simp [sumCells, cells3, cells26, cells28]) h
     cases Pt with
     | cons f fs c1 c' d1 p1 h1 l1 r1 =>
       cases r1 with
       | cons f fs c2 c' d2 p2 h2 l2 r2 =>
         cases r2 with
         | cons f fs c3 c' d3 p3 h3 l3 r3 =>
           cases r3
           obtain ⟨x1, _, k1⟩ := rd_int (n := fuel) (ρ := ρ) Tryz.underlying3 fuel _ _ _ (Nat.le_refl _) h1
           obtain ⟨x2, _, k2⟩ := rd_int (n := fuel) (ρ := ρ) Tryz.underlying3 fuel _ _ _ (Nat.le_refl _) h2
           obtain ⟨x3, _, k3⟩ := rd_slice (n := n) (ρ := ρ) (en := encT) Tryz.underlying26 cells28 (by decide) (fun t _ => encT_cells t) (rd_term n) fuel _ _ _ (by omega) h3
           refine ⟨.mk x1 x2 x3, trivial, ?_⟩
           rw [List.append_nil, encT, encTL_map]
           exact k1.append (k2.append k3)
theorem term_in {cs : Array Value} {d : DataW H} {ps : List MemPlace} (h : DataW.Trod enc Tryz.prog w base spare held 28 (.agg cs) d ps) : ∃ (t : Tm) (p : PV), Enc t p ∧ VR w (oldI w) noD ρ p (.agg cs) := by
 obtain ⟨fuel, hf⟩ := h
 obtain ⟨t, _, k1, k2⟩ := rd_term (ρ := ρ) fuel fuel _ _ _ (Nat.le_refl _) hf
 refine ⟨t, encT t, enc_encT t, ?_⟩
 cases t with
 | mk k n l =>
   rw [encT] at k1 k2 ⊢
   exact .agg _ cs (by simpa [Value.cells, PV.cells] using k1) fun j => k2 j
end
end Go.Proofs.Tryz
