/- Texts of the proof, one behind the other: ValL9, ValFnsI, ValN3, ValN4, ValL10, ValL12, ValN5, ValN6, ValP4, ValP7, ValFnsN, ValM6, ValM7, ValFnsR, ValR1. -/
import Derived.Test.YtekepgfmgeophaaGreatPartAN
import Derived.Test.YtekepgfmgeophaaGreatPartAJ
import Derived.Test.YtekepgfmgeophaaGreatPartAL
set_option linter.unusedVariables false
set_option linter.unusedSimpArgs false
/- nth: total; its result is a term. -/
namespace Go.Proofs.Tryz
open Go Go.AE
variable {T : Tbl} (hT : Std T)
variable {s : GSig} {TAB : PV} {i : Nat} {o : GOp} {so ri : List (List Int)} {rest : List PV}
@[go_sem] theorem idx_slice0 {sz sz' : Nat} {es : List PV} {m : SM} {k : IntKind} : idxaddr sz (.slice sz' es m) (.int k 0) = if sz' = sz then (es[0]?).map fun c => .iptr c 0 else none := idx_slice (n := 0)
theorem tidy_ups {h H : List AE.Obj} {v : PV} {ws : List Nat} {ups : List (Nat × Nat)} (hp : v.pure = true) (L : Low h.length h H) (hw : ∀ k ∈ ws, h.length ≤ k) (hu : ∀ x ∈ ups, h.length ≤ x.1) : tidy 0 h.length (.val v) ⟨H, ws, ups⟩ = (.val v.weak, ⟨h, [], []⟩) := by
 have hb : below h.length ws = [] := List.filter_eq_nil_iff.2 fun k hk => by have := hw k hk; simp; omega
 have hua : (ups.any fun (k, j) => k < h.length && h.length ≤ j) = false := by
  rw [List.any_eq_false]
  rintro ⟨k, j⟩ hx
  have := hu _ hx
  simp at this ⊢
  omega
 have huf : ups.filter (fun (k, _) => k < h.length) = [] := List.filter_eq_nil_iff.2 fun x hx => by have := hu x hx; simp; omega
 have ht : H.take h.length = h := by rw [L.take]; simp
 have hf : frz H h.length 64 v = some v.weak := frz_pure hp
 unfold tidy
 rw [if_neg (by decide), if_neg (by simpa using hua)]
 simp only [OR.v, hf, hb, huf, ht, OR.put]
 rfl
theorem st_k3 {H : List AE.Obj} {ws : List Nat} {ups : List (Nat × Nat)} {k sz : Nat} {a b c : PV} {x y : Int} {es : List PV} {m : SM} (hk : H[k]? = some (.row 3 [.agg [a, b, c]])) :
 ∃ ups', storeAt 3 (.ptr k 0 0 1) (.agg [.int .i64 x, .int .i64 y, .slice sz es m]) ⟨H, ws, ups⟩ = some ⟨H.set k (.row 3 [.agg [.int .i64 x, .int .i64 y, .slice sz es m]]), wadd k ws, ups'⟩ ∧ ∀ x ∈ ups', x ∈ ups ∨ x.1 = k := by
 have hu : upd (.agg [a, b, c]) 0 (.agg [.int .i64 x, .int .i64 y, .slice sz es m]) = some (.agg [.int .i64 x, .int .i64 y, .slice sz es m]) := rfl
 have h1 : storeAt 3 (.ptr k 0 0 1) (.agg [.int .i64 x, .int .i64 y, .slice sz es m]) ⟨H, ws, ups⟩ = some (wrote k (.row 3 [.agg [.int .i64 x, .int .i64 y, .slice sz es m]]) (PV.agg [.int .i64 x, .int .i64 y, .slice sz es m]).top ⟨H, ws, ups⟩) := by
  simp only [storeAt, hk, List.length_cons, List.length_nil, PV.cells, List.all_cons, List.all_nil, PV.isCell, Bool.and_self, and_self, if_true, List.getElem?_cons_zero, hu, Option.map, List.set_cons_zero]
 rw [h1]
 cases (PV.agg [.int .i64 x, .int .i64 y, .slice sz es m]).top with
 | none => exact ⟨ups, by rw [wrote_none], fun x hx => .inl hx⟩
 | some j =>
   refine ⟨_, by rw [wrote_some], fun x hx => ?_⟩
   split at hx
   · rcases List.mem_cons.1 hx with rfl | h
     · exact .inr rfl
     · exact .inl h
   · exact .inl hx
theorem AppL.slice {H : List AE.Obj} {v : PV} {es : List PV} {lo : Nat} (A : AppL H v es lo) : ∃ sz m, v = .slice sz es m ∧ (es = [] ∨ sz = 3) := by
 rcases A with ⟨rfl, rfl⟩ | ⟨kt, rfl, _, _⟩
 · exact ⟨0, .nil, rfl, .inl rfl⟩
 · exact ⟨3, _, rfl, .inr rfl⟩
theorem weaks_terms : ∀ {es : List PV}, (∀ x, x ∈ es → IsT x) → pures es = true ∧ weaks es = es
 | [], _ => ⟨rfl, rfl⟩
 | x :: es, h => by
   obtain ⟨a, b⟩ := (h x (by simp)).pureW
   obtain ⟨c, d⟩ := weaks_terms (es := es) fun y hy => h y (by simp [hy])
   simp [pures, weaks, a, b, c, d]
theorem nth_end {s : GSig} {i : Nat} {o : GOp} {N a sz : Nat} {n n' n0 : Int} {szs : List Int} {es : List PV} {xs : List Tm} (ho : s.ops[i]? = some o) (hres : o.res = (a : Int)) (F : Fit (nsv o (tabOf s).1) o.args.length N (szF szs)) (X : NthX s o (tabOf s).1 szs n' 0 es xs) (hxl : xs.length = o.args.length)
 (hn' : n' = n - bsF (nsv o (tabOf s).1) (nrv ((tabOf s).2.getD i [])) (szF szs) N o.args.length) (hn : n = n0 - aT s.ops (tabOf s) (a : Int) N i) (h0 : n0 ≤ 1099511627776) (hsz : es = [] ∨ sz = 3) : Nth91 s a (N + 1) n0 (.agg [.int .i64 2, .int .i64 (i : Int), .slice sz es .any]) := by
 have hl := lf_sum hxl (fun j x h => (X.wt j x h).2) F.le o.args.length (Nat.le_refl _)
 rw [F.all, ← hxl, List.take_length] at hl
 have hz : ∀ k, k < o.args.length → (fun k => (xs.map Tm.nodes).getD k 0) k = szF szs k := fun k hk => by
  have hg := getD_mem (show k < xs.length by omega)
  have := (X.wt k _ hg).2
  simp only [szs_get hg, this]
 have hN : nodesL xs = N := by omega
 have hX := X.num
 rw [hxl, up_all] at hX
 refine ⟨.mk 2 i xs, .mk 2 i xs sz es hsz X.len X.enc, ⟨rfl, by omega, o, by simpa using ho, hres, WTs_mk hxl fun j x h => (X.wt j x h).1⟩, by simp only [Tm.nodes]; omega, ?_⟩
 have e1 : bsF (svOf s o) (rvOf s i) (fun k => (xs.map Tm.nodes).getD k 0) N o.args.length = bsF (nsv o (tabOf s).1) (nrv ((tabOf s).2.getD i [])) (szF szs) N o.args.length := bs_congr _ hz
 have e2 : dnF (svOf s o) (fun k => (xs.map Tm.nodes).getD k 0) (fun k => (numL s xs).getD k 0) o.args.length o.args.length = dnF (nsv o (tabOf s).1) (szF szs) (fun k => (numL s xs).getD k 0) o.args.length o.args.length := dn_congr hz _ (Nat.le_refl _)
 simp only [Tm.num, Int.toNat_natCast, ho]
 rw [hN, hres, e1, e2, cap_self (by omega)]
 omega
include hT in
theorem nth_step (hs : GOk s) (h91 : T.sp 91 = none) {N : Nat} (hN : N < 60)
 (CC : ∀ i o, s.ops[i]? = some o → NthC s TAB i o so ((tabOf s).2.getD i []) rest) (t1 : sub false 1 TAB 1 = some (.slice 3 (s.ops.map encOp) .any)) (hso : so = (tabOf s).1) (IH : NthIH T s TAB N) (a : Nat) (n0 : Int) (h : List AE.Obj) (ha : a < s.sorts.length) (hn0 : 0 ≤ n0 ∧ n0 < cntOf s a (N + 1)) :
 ∃ p, Ev T 91 [.iptr TAB 0, .int .i64 (a : Int), .int .i64 ((N + 1 : Nat) : Int), .int .i64 n0] h (.val p, ⟨h, [], []⟩) ∧ Nth91 s a (N + 1) n0 p := by
 have hcnt : cntOf s a (N + 1) = cap (aT s.ops (tabOf s) (a : Int) N s.ops.length) := tabOf_cnt hs.ops ha hN
 have h0T : n0 ≤ 1099511627776 := by have := cap_le_top (aT s.ops (tabOf s) (a : Int) N s.ops.length); omega
 subst hso
 refine Ev.walkP h91 ((hT.fn _).trans fn91) (hT.mode _) rfl ?_
 have hnO := hs.nO
 generalize hH0 : h ++ [AE.Obj.row 3 [PV.agg [.int .i64 0, .int .i64 0, .slice 0 [] .nil]]] = H0
 have k0 : H0[h.length]? = some (.row 3 [PV.agg [.int .i64 0, .int .i64 0, .slice 0 [] .nil]]) := by rw [← hH0]; simp
 have low0 : Low h.length h H0 := by rw [← hH0]; exact (Low.refl _ _).push (Nat.le_refl _)
 simp (disch := first | omega | decide | simp only [go_sem]) only [go_sem, hH0, t1, List.length_cons, List.length_nil]
 refine wpC.loopM (fun d e st => ∃ (i : Nat) (n : Int) (H : List AE.Obj) (ws : List Nat), i + d = s.ops.length ∧ (0 ≤ n ∧ n ≤ 1099511627776 ∧ n = n0 - aT s.ops (tabOf s) (a : Int) N i) ∧ Low h.length h H ∧ H[h.length]? = some (.row 3 [PV.agg [.int .i64 0, .int .i64 0, .slice 0 [] .nil]]) ∧ (∀ x ∈ ws, h.length ≤ x) ∧
  eget e 0 = .iptr TAB 0 ∧ eget e 1 = .int .i64 (a : Int) ∧ eget e 2 = .int .i64 ((N + 1 : Nat) : Int) ∧ eget e 3 = .int .i64 n ∧ eget e 8 = .ptr h.length 0 0 1 ∧ eget e 28 = .slice 3 (s.ops.map encOp) .any ∧ eget e 29 = .int .i64 (s.ops.length : Int) ∧ eget e 30 = .int .i64 (i : Int) ∧ st = ⟨H, ws, []⟩) ?_ s.ops.length _ _
  ⟨0, n0, H0, [], by omega, ⟨hn0.1, h0T, by simp [aT]⟩, low0, k0, by simp, by simp only [go_sem], by simp only [go_sem], by simp only [go_sem], by simp only [go_sem], by simp only [go_sem], by simp only [go_sem], by simp only [go_sem], by simp only [go_sem]; rfl, rfl⟩
 rintro d e st ⟨i, n, H, ws, hd, hn, low, k8, hw, e0, e1, e2, e3, e8, e28, e29, e30, rfl⟩
 by_cases hi : i < s.ops.length
 · have ho : s.ops[i]? = some s.ops[i] := List.getElem?_eq_getElem hi
   have C := CC i _ ho
   have go := get_op hi
   generalize s.ops[i] = o at *
   generalize hri : (tabOf s).2.getD i [] = ri at *
   have hal := C.al
   have soo : sub true 3 (encOp o) 0 = some (encOp o) := rfl
   have sb := st_box (h := H) (ws := ws) (ups := []) (z := .agg [(.str ⟨#[]⟩), (.slice 0 [] .nil), (.int .i64 0)]) (sz := 3) (c := encOp o) rfl rfl rfl (top_op _) ⟨_, rfl⟩ ⟨_, rfl⟩
   have hHl : h.length < H.length := (List.getElem?_eq_some_iff.1 k8).1
   have ko : (H ++ [AE.Obj.row 3 [encOp o]])[H.length]? = some (.row 3 [encOp o]) := by simp
   have k81 : (H ++ [AE.Obj.row 3 [encOp o]])[h.length]? = some (.row 3 [PV.agg [.int .i64 0, .int .i64 0, .slice 0 [] .nil]]) := keepL k8
   have low1 : Low h.length h (H ++ [AE.Obj.row 3 [encOp o]]) := low.push (by omega)
   have hlen1 : (H ++ [AE.Obj.row 3 [encOp o]]).length = H.length + 1 := by simp
   generalize hH1 : H ++ [AE.Obj.row 3 [encOp o]] = H1 at *
   have l2 : loadAt false 1 (.ptr H.length 0 2 1) H1 = some (.int .i64 o.res) := by rw [ld_at ko]; rfl
   have l1 : loadAt false 1 (.ptr H.length 0 1 1) H1 = some (.slice 1 (o.args.map encI) .any) := by rw [ld_at ko]; rfl
   have t3 := C.t3
   have gr := C.gr
   have gk := get_arr C.okR (k := 0) (by rw [C.rl]; omega)
   have hr0 := (C.okR.get (k := 0) (by rw [C.rl]; omega)).2
   have lw := ld_arr hr0 (show N < 61 by omega)
   have bw := (hr0.get (show N < 61 by omega)).2
   have haT : aT s.ops (tabOf s) (a : Int) N (i + 1) = aT s.ops (tabOf s) (a : Int) N i + if o.res = (a : Int) then (ri.getD 0 []).getD N 0 else 0 := by simp only [aT, ho, hri]
   generalize hways : (ri.getD 0 []).getD N 0 = ways at *
   have hN61 : N < 61 := by omega
   have h061 : (0 : Nat) < ri.length := by rw [C.rl]; omega
   by_cases hres : o.res = (a : Int)
   · by_cases hnw : ways ≤ n
     · simp (disch := first | omega | decide | simp only [go_sem]) only [go_sem, a91b4, List.length_cons, List.length_nil, e0, e1, e2, e3, e8, e28, e29, e30, hi, go, soo, sb, hH1, l2, l1, hres, bne_self_eq_false, t3, gr, gk, lw, hN61, hnw]
       rw [if_pos hres] at haT
       exact ⟨d - 1, by omega, i + 1, n - ways, H1, _, by omega, by omega, low1, k81, wadd_low (by omega) hw, rfl, rfl, rfl⟩
     · have fc2 : fillC [PV.int .i64 0, .int .i64 0, .slice 0 [] .nil] [(0, 1, .int .i64 2), (1, 1, .int .i64 (i : Int))] = some [.int .i64 2, .int .i64 (i : Int), .slice 0 [] .nil] := rfl
       have sb2 := st_box (h := H1) (ws := wadd H.length ws) (ups := []) (z := .agg [(.int .i64 0), (.int .i64 0), (.slice 0 [] .nil)]) (sz := 3) (c := .agg [.int .i64 2, .int .i64 (i : Int), .slice 0 [] .nil]) rfl rfl rfl rfl ⟨_, rfl⟩ ⟨_, rfl⟩
       have hkx2 : (H1 ++ [AE.Obj.row 3 [PV.agg [.int .i64 2, .int .i64 (i : Int), .slice 0 [] .nil]]])[H1.length]? = some (.row 3 [PV.agg [.int .i64 2, .int .i64 (i : Int), .slice 0 [] .nil]]) := by simp
       have ko2 : (H1 ++ [AE.Obj.row 3 [PV.agg [.int .i64 2, .int .i64 (i : Int), .slice 0 [] .nil]]])[H.length]? = some (.row 3 [encOp o]) := keepL ko
       have k82 : (H1 ++ [AE.Obj.row 3 [PV.agg [.int .i64 2, .int .i64 (i : Int), .slice 0 [] .nil]]])[h.length]? = some (.row 3 [PV.agg [.int .i64 0, .int .i64 0, .slice 0 [] .nil]]) := keepL k81
       have low2 : Low h.length h (H1 ++ [AE.Obj.row 3 [PV.agg [.int .i64 2, .int .i64 (i : Int), .slice 0 [] .nil]]]) := low1.push (by omega)
       have hlen2 : (H1 ++ [AE.Obj.row 3 [PV.agg [.int .i64 2, .int .i64 (i : Int), .slice 0 [] .nil]]]).length = H.length + 2 := by simp [hlen1]
       generalize hH2 : H1 ++ [AE.Obj.row 3 [PV.agg [.int .i64 2, .int .i64 (i : Int), .slice 0 [] .nil]]] = H2 at *
       have hmk1 := mk_ok (sz := 1) (bytes := 8) (n := o.args.length) (z := .int .i64 0) (by omega) (by omega) rfl
       have hmk2 := mk_ok (sz := 1) (bytes := 8) (n := o.args.length + 1) (z := .int .i64 0) (by omega) (by omega) rfl
       have hrep : ∀ n, List.replicate n (PV.int .i64 0) = (List.replicate n (0 : Int)).map encI := fun n => by simp [encI]
       have hks3 : (H2 ++ [AE.Obj.row 1 ((List.replicate o.args.length (0 : Int)).map encI)])[H2.length]? = some (.row 1 ((List.replicate o.args.length (0 : Int)).map encI)) := by simp
       have hkx3 : (H2 ++ [AE.Obj.row 1 ((List.replicate o.args.length (0 : Int)).map encI)])[H1.length]? = some (.row 3 [PV.agg [.int .i64 2, .int .i64 (i : Int), .slice 0 [] .nil]]) := keepL hkx2
       have ko3 : (H2 ++ [AE.Obj.row 1 ((List.replicate o.args.length (0 : Int)).map encI)])[H.length]? = some (.row 3 [encOp o]) := keepL ko2
       have k83 : (H2 ++ [AE.Obj.row 1 ((List.replicate o.args.length (0 : Int)).map encI)])[h.length]? = some (.row 3 [PV.agg [.int .i64 0, .int .i64 0, .slice 0 [] .nil]]) := keepL k82
       have low3 : Low h.length h (H2 ++ [AE.Obj.row 1 ((List.replicate o.args.length (0 : Int)).map encI)]) := low2.push (by omega)
       have hlen3 : (H2 ++ [AE.Obj.row 1 ((List.replicate o.args.length (0 : Int)).map encI)]).length = H.length + 3 := by simp [hlen2]
       have l12 : loadAt false 1 (.ptr H.length 0 1 1) H2 = some (.slice 1 (o.args.map encI) .any) := by rw [ld_at ko2]; rfl
       generalize hH3 : H2 ++ [AE.Obj.row 1 ((List.replicate o.args.length (0 : Int)).map encI)] = H3 at *
       have l13 : loadAt false 1 (.ptr H.length 0 1 1) H3 = some (.slice 1 (o.args.map encI) .any) := by rw [ld_at ko3]; rfl
       simp (disch := first | omega | decide | simp only [go_sem]) only [go_sem, a91b4, List.length_cons, List.length_nil, e0, e1, e2, e3, e8, e28, e29, e30, hi, go, soo, sb, hH1, l2, l1, hres, bne_self_eq_false, t3, gr, gk, lw, hN61, hnw, fc2, sb2, hH2, hmk1, hrep, hH3, l12, l13]
       refine nth_b1 hT C (N := N) (ks := H2.length) (n0 := n) (szs0 := List.replicate o.args.length 0) hN ⟨hn.1, hn.2.1⟩ (by rw [hways]; omega) hks3 (by simp) (by simp only [go_sem, e0]) (by simp only [go_sem, e3]) (by simp only [go_sem]) (by simp only [go_sem]) (by simp only [go_sem]) (by simp only [go_sem]) (by simp only [go_sem]) (by simp only [go_sem]) (by simp only [go_sem]) fun e' n' szs ws' hs' e3' hn1 hn2 hsl hok F hbs hlt hw' => ?_
       have g0 : eget e' 0 = .iptr TAB 0 := (hs' 0 (by omega)).trans (by simp only [go_sem, e0])
       have g8 : eget e' 8 = .ptr h.length 0 0 1 := (hs' 8 (by omega)).trans (by simp only [go_sem, e8])
       have g10 : eget e' 10 = .ptr H.length 0 0 1 := (hs' 10 (by omega)).trans (by simp only [go_sem])
       have g12 : eget e' 12 = .ptr H1.length 0 0 1 := (hs' 12 (by omega)).trans (by simp only [go_sem])
       have g13 : eget e' 13 = .aref H2.length 1 0 o.args.length o.args.length := (hs' 13 (by omega)).trans (by simp only [go_sem])
       have ks4 : (H3.set H2.length (AE.Obj.row 1 (szs.map encI)))[H2.length]? = some (.row 1 (szs.map encI)) := get_set hks3
       have kx4 : (H3.set H2.length (AE.Obj.row 1 (szs.map encI)))[H1.length]? = some (.row 3 [PV.agg [.int .i64 2, .int .i64 (i : Int), .slice 0 [] .nil]]) := get_set_ne hkx3 (by omega)
       have ko4 : (H3.set H2.length (AE.Obj.row 1 (szs.map encI)))[H.length]? = some (.row 3 [encOp o]) := get_set_ne ko3 (by omega)
       have k84 : (H3.set H2.length (AE.Obj.row 1 (szs.map encI)))[h.length]? = some (.row 3 [PV.agg [.int .i64 0, .int .i64 0, .slice 0 [] .nil]]) := get_set_ne k83 (by omega)
       have low4 : Low h.length h (H3.set H2.length (AE.Obj.row 1 (szs.map encI))) := low3.trans (.set (by omega))
       have hlen4 : (H3.set H2.length (AE.Obj.row 1 (szs.map encI))).length = H.length + 3 := by simp [hlen3]
       generalize hH4 : H3.set H2.length (AE.Obj.row 1 (szs.map encI)) = H4 at *
       have l14 : loadAt false 1 (.ptr H.length 0 1 1) H4 = some (.slice 1 (o.args.map encI) .any) := by rw [ld_at ko4]; rfl
       have kb5 : (H4 ++ [AE.Obj.row 1 ((List.replicate (o.args.length + 1) (0 : Int)).map encI)])[H4.length]? = some (.row 1 ((List.replicate (o.args.length + 1) (0 : Int)).map encI)) := by simp
       have ks5 : (H4 ++ [AE.Obj.row 1 ((List.replicate (o.args.length + 1) (0 : Int)).map encI)])[H2.length]? = some (.row 1 (szs.map encI)) := keepL ks4
       have kx5 : (H4 ++ [AE.Obj.row 1 ((List.replicate (o.args.length + 1) (0 : Int)).map encI)])[H1.length]? = some (.row 3 [PV.agg [.int .i64 2, .int .i64 (i : Int), .slice 0 [] .nil]]) := keepL kx4
       have ko5 : (H4 ++ [AE.Obj.row 1 ((List.replicate (o.args.length + 1) (0 : Int)).map encI)])[H.length]? = some (.row 3 [encOp o]) := keepL ko4
       have k85 : (H4 ++ [AE.Obj.row 1 ((List.replicate (o.args.length + 1) (0 : Int)).map encI)])[h.length]? = some (.row 3 [PV.agg [.int .i64 0, .int .i64 0, .slice 0 [] .nil]]) := keepL k84
       have low5 : Low h.length h (H4 ++ [AE.Obj.row 1 ((List.replicate (o.args.length + 1) (0 : Int)).map encI)]) := low4.push (by omega)
       generalize hH5 : H4 ++ [AE.Obj.row 1 ((List.replicate (o.args.length + 1) (0 : Int)).map encI)] = H5 at *
       have l15 : loadAt false 1 (.ptr H.length 0 1 1) H5 = some (.slice 1 (o.args.map encI) .any) := by rw [ld_at ko5]; rfl
       have hL1 : o.args.length < o.args.length + 1 := by omega
       have sv5 := fun ws => st_v (ws := ws) (ups := []) (v := 1) kb5 (by simp) hL1
       have kb6 : (H5.set H4.length (AE.Obj.row 1 (((List.replicate (o.args.length + 1) (0 : Int)).set o.args.length 1).map encI)))[H4.length]? = some (.row 1 (((List.replicate (o.args.length + 1) (0 : Int)).set o.args.length 1).map encI)) := get_set kb5
       have ks6 : (H5.set H4.length (AE.Obj.row 1 (((List.replicate (o.args.length + 1) (0 : Int)).set o.args.length 1).map encI)))[H2.length]? = some (.row 1 (szs.map encI)) := get_set_ne ks5 (by omega)
       have kx6 : (H5.set H4.length (AE.Obj.row 1 (((List.replicate (o.args.length + 1) (0 : Int)).set o.args.length 1).map encI)))[H1.length]? = some (.row 3 [PV.agg [.int .i64 2, .int .i64 (i : Int), .slice 0 [] .nil]]) := get_set_ne kx5 (by omega)
       have ko6 : (H5.set H4.length (AE.Obj.row 1 (((List.replicate (o.args.length + 1) (0 : Int)).set o.args.length 1).map encI)))[H.length]? = some (.row 3 [encOp o]) := get_set_ne ko5 (by omega)
       have k86 : (H5.set H4.length (AE.Obj.row 1 (((List.replicate (o.args.length + 1) (0 : Int)).set o.args.length 1).map encI)))[h.length]? = some (.row 3 [PV.agg [.int .i64 0, .int .i64 0, .slice 0 [] .nil]]) := get_set_ne k85 (by omega)
       have low6 : Low h.length h (H5.set H4.length (AE.Obj.row 1 (((List.replicate (o.args.length + 1) (0 : Int)).set o.args.length 1).map encI))) := low5.trans (.set (by omega))
       have hb06 : okBh o.args.length o.args.length ((List.replicate (o.args.length + 1) (0 : Int)).set o.args.length 1) := fun j h1 h2 => by
        have : j = o.args.length := by omega
        subst this
        rw [getD_set (by simp), if_pos rfl]
        omega
       have hbe6 : beH o (tabOf s).1 szs o.args.length ((List.replicate (o.args.length + 1) (0 : Int)).set o.args.length 1) := fun j h1 h2 => by
        have : j = o.args.length := by omega
        subst this
        rw [getD_set (by simp), if_pos rfl, Nat.sub_self]; rfl
       have hbl6 : ((List.replicate (o.args.length + 1) (0 : Int)).set o.args.length 1).length = o.args.length + 1 := by simp
       generalize ((List.replicate (o.args.length + 1) (0 : Int)).set o.args.length 1) = bh0 at *
       generalize hH6 : H5.set H4.length (AE.Obj.row 1 (bh0.map encI)) = H6 at *
       have l16 : loadAt false 1 (.ptr H.length 0 1 1) H6 = some (.slice 1 (o.args.map encI) .any) := by rw [ld_at ko6]; rfl
       simp (disch := first | omega | decide | simp only [go_sem]) only [go_sem, List.length_cons, List.length_nil, g0, g8, g10, g12, g13, e3', l14, hmk2, hrep, hH5, l15, hL1, sv5, l16]
       refine nth_b2 hT C (N := N) (ks := H2.length) (kb := H4.length) (ko := H.length) (szs := szs) (bh0 := bh0) hN hok hb06 hbe6 ks6 hsl kb6 hbl6 ko6 ⟨by omega, by omega⟩ (by simp only [go_sem, g0]) (by simp only [go_sem, g10]) (by simp only [go_sem, g13]) (by simp only [go_sem]) (by simp only [go_sem]) fun e2' bh ws2 hs2 hbl hb hbe hw2 => ?_
       have q0 : eget e2' 0 = .iptr TAB 0 := (hs2 0 (by omega)).trans (by simp only [go_sem, g0])
       have q3 : eget e2' 3 = .int .i64 n' := (hs2 3 (by omega)).trans (by simp only [go_sem, e3'])
       have q8 : eget e2' 8 = .ptr h.length 0 0 1 := (hs2 8 (by omega)).trans (by simp only [go_sem, g8])
       have q10 : eget e2' 10 = .ptr H.length 0 0 1 := (hs2 10 (by omega)).trans (by simp only [go_sem, g10])
       have q12 : eget e2' 12 = .ptr H1.length 0 0 1 := (hs2 12 (by omega)).trans (by simp only [go_sem, g12])
       have q13 : eget e2' 13 = .aref H2.length 1 0 o.args.length o.args.length := (hs2 13 (by omega)).trans (by simp only [go_sem, g13])
       have q20 : eget e2' 20 = .aref H4.length 1 0 (o.args.length + 1) (o.args.length + 1) := (hs2 20 (by omega)).trans (by simp only [go_sem])
       have kb7 : (H6.set H4.length (AE.Obj.row 1 (bh.map encI)))[H4.length]? = some (.row 1 (bh.map encI)) := get_set kb6
       have ks7 : (H6.set H4.length (AE.Obj.row 1 (bh.map encI)))[H2.length]? = some (.row 1 (szs.map encI)) := get_set_ne ks6 (by omega)
       have kx7 : (H6.set H4.length (AE.Obj.row 1 (bh.map encI)))[H1.length]? = some (.row 3 [PV.agg [.int .i64 2, .int .i64 (i : Int), .slice 0 [] .nil]]) := get_set_ne kx6 (by omega)
       have ko7 : (H6.set H4.length (AE.Obj.row 1 (bh.map encI)))[H.length]? = some (.row 3 [encOp o]) := get_set_ne ko6 (by omega)
       have k87 : (H6.set H4.length (AE.Obj.row 1 (bh.map encI)))[h.length]? = some (.row 3 [PV.agg [.int .i64 0, .int .i64 0, .slice 0 [] .nil]]) := get_set_ne k86 (by omega)
       have low7 : Low h.length h (H6.set H4.length (AE.Obj.row 1 (bh.map encI))) := low6.trans (.set (by omega))
       generalize hH7 : H6.set H4.length (AE.Obj.row 1 (bh.map encI)) = H7 at *
       have l17 : loadAt false 1 (.ptr H.length 0 1 1) H7 = some (.slice 1 (o.args.map encI) .any) := by rw [ld_at ko7]; rfl
       have hw7 : ∀ x ∈ ws2, h.length ≤ x := fun x hx => by
        rcases hw2 x hx with hx | hx
        · rcases mem_wadd hx with hx | hx
          · omega
          · rcases hw' x hx with hx | hx
            · rcases mem_wadd hx with hx | hx
              · omega
              · rcases mem_wadd hx with hx | hx
                · omega
                · exact hw x hx
            · omega
        · omega
       simp (disch := first | omega | decide | simp only [go_sem]) only [go_sem, List.length_cons, List.length_nil, q10, l17]
       refine nth_b3 hT C (N := N) (ks := H2.length) (kb := H4.length) (kx := H1.length) (lo := h.length) (n0 := n') (szs := szs) (bh := bh) (h0 := h) h91 IH hN rfl hbe hok hb ⟨hn1, by rw [← ah_last F]; exact hlt⟩ ks7 hsl kb7 hbl kx7 ⟨by omega, by omega⟩ low7 ⟨Nat.le_refl _, by omega⟩ hw7 (by simp only [go_sem, q0]) (by simp only [go_sem, q3]) (by simp only [go_sem, q12]) (by simp only [go_sem, q13]) (by simp only [go_sem, q20]) (by simp only [go_sem]) (by simp only [go_sem]) (by simp only [go_sem]) fun e3'' v es H8 ws8 ups8 hs3 hel hes ⟨xs, X, hxl⟩ A kx8 keep8 low8 hw8 hu8 => ?_
       have r8 : eget e3'' 8 = .ptr h.length 0 0 1 := (hs3 8 (by omega)).trans (by simp only [go_sem, q8])
       have r12 : eget e3'' 12 = .ptr H1.length 0 0 1 := (hs3 12 (by omega)).trans (by simp only [go_sem, q12])
       have k88 := keep8 _ _ _ (by omega) k87
       obtain ⟨sz, m, rfl, hsz⟩ := A.slice
       obtain ⟨ups', sv, hups⟩ := st_k3 (ws := ws8) (ups := ups8) (x := 2) (y := (i : Int)) (sz := sz) (es := es) (m := m) k88
       have lx : loadAt true 3 (.ptr H1.length 0 0 1) H8 = some (PV.agg [.int .i64 2, .int .i64 (i : Int), .slice sz es m]) := by rw [ld_at kx8]; rfl
       have ll : loadAt true 3 (.ptr h.length 0 0 1) (H8.set h.length (.row 3 [PV.agg [.int .i64 2, .int .i64 (i : Int), .slice sz es m]])) = some (PV.agg [.int .i64 2, .int .i64 (i : Int), .slice sz es m]) := by rw [ld_at (get_set k88)]; rfl
       obtain ⟨pes, wes⟩ := weaks_terms hes
       simp (disch := first | omega | decide | simp only [go_sem]) only [go_sem, List.length_cons, List.length_nil, r8, r12, lx, sv, resv, ll]
       have tT : Nth91 s a (N + 1) n0 (PV.agg [.int .i64 2, .int .i64 (i : Int), .slice sz es m]).weak := by
        simp only [PV.weak, weaks, wes]
        exact nth_end ho hres F X hxl (by rw [hri]; exact hbs) hn.2.2 h0T hsz
       refine ⟨_, tidy_ups (by simp [PV.pure, pures, pes]) (low8.trans (.set (Nat.le_refl _))) (fun x hx => ?_) (fun x hx => ?_), tT⟩
       · rcases mem_wadd hx with h | h
         · omega
         · exact hw8 x h
       · rcases hups x hx with h | h
         · exact hu8 x h
         · omega
   · have hres' : (o.res != (a : Int)) = true := by simpa using hres
     simp (disch := first | omega | decide | simp only [go_sem]) only [go_sem, a91b4, List.length_cons, List.length_nil, e0, e1, e2, e3, e8, e28, e29, e30, hi, go, soo, sb, hH1, l2, hres']
     rw [if_neg hres] at haT
     exact ⟨d - 1, by omega, i + 1, n, H1, _, by omega, by omega, low1, k81, wadd_low (by omega) hw, rfl, rfl, rfl⟩
 · exfalso
   have : i = s.ops.length := by omega
   subst this
   have := cap_le (aT s.ops (tabOf s) (a : Int) N s.ops.length)
   omega
end Go.Proofs.Tryz
/- Functions of ValsInverse, as the evaluator sees them: printed by tools/Print.lean. -/
namespace Go.Proofs.Tryz
open Go Go.AE
def a6t : ACode :=
 (.seq (.reg [
 rp 110 (.load true 2 (.t 5)),
 rp 111 (.load true 3 (.t 9)),
 rp 112 (.call (.f 45) [(.t 110), (.c (.slice 0 [] .nil)), (.t 111)]),
 mv 109 112,
 ro 113 (.extract (.t 109) 0),
 ro 114 (.extract (.t 109) 1),
 mv 21 113,
 mv 22 114])
 (.seq (.seq (.reg [
 mv 115 22,
 ro 116 (.bin .neq (.t 115) (ci 0))])
 (.cond (.t 116)
 (.seq (.reg [
 ro 10 (.move (.c (.bool true)))])
 .ret)
 .skip))
 (.seq (.reg [
 rp 118 (.load true 3 (.t 9)),
 rp 119 (.call (.f 46) [(.t 118)]),
 mv 117 119,
 ro 120 (.extract (.t 117) 0),
 ro 121 (.extract (.t 117) 1),
 mv 23 120,
 mv 24 121])
 (.seq (.reg [
 rp 123 (.load true 2 (.t 5)),
 rp 124 (.load true 3 (.t 9)),
 rp 125 (.call (.f 20) [(.t 123), (.t 124)]),
 mv 122 125,
 ro 126 (.extract (.t 122) 0),
 ro 127 (.extract (.t 122) 1),
 mv 25 126,
 mv 22 127])
 (.seq (.seq (.reg [
 mv 128 22,
 ro 129 (.bin .neq (.t 128) (ci 0))])
 (.cond (.t 129)
 (.seq (.reg [
 mv 130 22,
 ro 131 (.bin .eql (.t 130) (ci 2)),
 mv 10 131])
 .ret)
 .skip))
 (.seq (.reg [
 rp 133 (.load true 2 (.t 5)),
 mv 134 21,
 mv 135 23,
 rp 136 (.call (.f 44) [(.t 133), (.t 134), (.t 135)]),
 mv 132 136,
 ro 137 (.extract (.t 132) 0),
 ro 138 (.extract (.t 132) 1),
 mv 26 137,
 mv 27 138])
 (.seq (.reg [
 rp 140 (.load true 2 (.t 5)),
 mv 141 21,
 mv 142 23,
 mv 143 25,
 rp 144 (.call (.f 18) [(.t 140), (.t 141), (.t 142), (.t 143)]),
 mv 139 144,
 ro 145 (.extract (.t 139) 0),
 ro 146 (.extract (.t 139) 1),
 rp 28 (.box 3 (.c (.agg [(.int .i64 0), (.int .i64 0), (.slice 0 [] .nil)]))),
 wr (.store 3 (.t 28) (.t 145)) 0 0 false,
 mv 29 146])
 (.seq (.reg [
 mv 147 27,
 ro 148 (.bin .eql (.t 147) (ci 0)),
 mv 149 148,
 rg 150 (.move (.t 25)) 149 true,
 rg 151 (.bin .geq (.t 150) (ci 0)) 149 true,
 ro 152 (.pick (.t 149) (.t 151) (.c (.bool false))),
 mv 153 152,
 rg 154 (.move (.t 25)) 153 true,
 rg 155 (.move (.t 26)) 153 true,
 rg 156 (.bin .lss (.t 154) (.t 155)) 153 true,
 ro 157 (.pick (.t 153) (.t 156) (.c (.bool false))),
 mv 158 157,
 rg 159 (.move (.t 29)) 158 true,
 rg 160 (.bin .eql (.t 159) (ci 0)) 158 true,
 ro 161 (.pick (.t 158) (.t 160) (.c (.bool false))),
 mv 162 161,
 rh 163 (.load true 3 (.t 28)) 162 true,
 rh 164 (.load true 3 (.t 9)) 162 true,
 rh 165 (.call (.f 22) [(.t 163), (.t 164)]) 162 true,
 ro 166 (.pick (.t 162) (.t 165) (.c (.bool false))),
 mv 10 166])
 .ret))))))))
def a6i : ACode :=
 (.seq (.reg [
 rp 60 (.load true 2 (.t 5)),
 mv 61 1,
 mv 62 2,
 mv 63 3,
 rp 64 (.call (.f 18) [(.t 60), (.t 61), (.t 62), (.t 63)]),
 mv 59 64,
 ro 65 (.extract (.t 59) 0),
 ro 66 (.extract (.t 59) 1),
 rp 13 (.box 3 (.c (.agg [(.int .i64 0), (.int .i64 0), (.slice 0 [] .nil)]))),
 wr (.store 3 (.t 13) (.t 65)) 0 0 false,
 mv 14 66])
 (.seq (.reg [
 rp 68 (.load true 2 (.t 5)),
 rp 69 (.load true 3 (.t 13)),
 rp 70 (.call (.f 20) [(.t 68), (.t 69)]),
 mv 67 70,
 ro 71 (.extract (.t 67) 0),
 ro 72 (.extract (.t 67) 1),
 mv 15 71,
 mv 16 72])
 (.seq (.reg [
 rp 74 (.load true 2 (.t 5)),
 rp 75 (.load true 3 (.t 13)),
 rp 76 (.call (.f 45) [(.t 74), (.c (.slice 0 [] .nil)), (.t 75)]),
 mv 73 76,
 ro 77 (.extract (.t 73) 0),
 ro 78 (.extract (.t 73) 1),
 mv 17 77,
 mv 18 78])
 (.seq (.reg [
 rp 80 (.load true 3 (.t 13)),
 rp 81 (.call (.f 46) [(.t 80)]),
 mv 79 81,
 ro 82 (.extract (.t 79) 0),
 ro 83 (.extract (.t 79) 1),
 mv 19 82,
 mv 20 83])
 (.seq (.reg [
 mv 84 14,
 ro 85 (.bin .neq (.t 84) (ci 0)),
 mv 86 85,
 rg 87 (.move (.t 16)) 86 false,
 rg 88 (.bin .neq (.t 87) (ci 0)) 86 false,
 ro 89 (.pick (.t 86) (.c (.bool true)) (.t 88)),
 mv 90 89,
 rg 91 (.move (.t 15)) 90 false,
 rg 92 (.move (.t 3)) 90 false,
 rg 93 (.bin .neq (.t 91) (.t 92)) 90 false,
 ro 94 (.pick (.t 90) (.c (.bool true)) (.t 93)),
 mv 95 94,
 rg 96 (.move (.t 18)) 95 false,
 rg 97 (.bin .neq (.t 96) (ci 0)) 95 false,
 ro 98 (.pick (.t 95) (.c (.bool true)) (.t 97)),
 mv 99 98,
 rg 100 (.move (.t 17)) 99 false,
 rg 101 (.move (.t 1)) 99 false,
 rg 102 (.bin .neq (.t 100) (.t 101)) 99 false,
 ro 103 (.pick (.t 99) (.c (.bool true)) (.t 102)),
 mv 104 103,
 rg 105 (.move (.t 19)) 104 false,
 rg 106 (.move (.t 2)) 104 false,
 rg 107 (.bin .neq (.t 105) (.t 106)) 104 false,
 ro 108 (.pick (.t 104) (.c (.bool true)) (.t 107))])
 (.cond (.t 108)
 (.seq (.reg [
 ro 10 (.move (.c (.bool false)))])
 .ret)
 .skip))))))
def a6 : AFunc := ⟨5, 167, (.seq (.reg [
 rp 5 (.box 2 (.t 0)),
 rp 9 (.box 3 (.t 4)),
 ro 10 (.move (.c (.bool false)))])
 (.seq (.seq (.reg [
 rp 30 (.call (.f 15) []),
 ro 31 (.un .not (.t 30))])
 (.cond (.t 31)
 (.seq (.reg [
 ro 10 (.move (.c (.bool false)))])
 .ret)
 .skip))
 (.seq (.seq (.reg [
 rp 32 (.load true 2 (.t 5)),
 rp 33 (.call (.f 16) [(.t 32)]),
 ro 34 (.un .not (.t 33)),
 mv 35 34,
 rh 36 (.load true 3 (.t 9)) 35 false,
 rg 37 (.buildSlice 3 (.agg [(.int .i64 0), (.int .i64 0), (.slice 0 [] .nil)]) 1 [(0, (.t 36))]) 35 false,
 rh 38 (.call (.f 17) [(ci 100), (.t 37)]) 35 false,
 rg 39 (.un .not (.t 38)) 35 false,
 ro 40 (.pick (.t 35) (.c (.bool true)) (.t 39))])
 (.cond (.t 40)
 (.seq (.reg [
 ro 10 (.move (.c (.bool true)))])
 .ret)
 .skip))
 (.seq (.seq (.reg [
 rp 42 (.load true 2 (.t 5)),
 mv 43 1,
 mv 44 2,
 rp 45 (.call (.f 44) [(.t 42), (.t 43), (.t 44)]),
 mv 41 45,
 ro 46 (.extract (.t 41) 0),
 ro 47 (.extract (.t 41) 1),
 mv 11 46,
 mv 12 47])
 (.seq (.reg [
 mv 48 12,
 ro 49 (.bin .eql (.t 48) (ci 0)),
 mv 50 49,
 rg 51 (.move (.t 3)) 50 true,
 rg 52 (.bin .geq (.t 51) (ci 0)) 50 true,
 ro 53 (.pick (.t 50) (.t 52) (.c (.bool false))),
 mv 54 53,
 rg 55 (.move (.t 3)) 54 true,
 rg 56 (.move (.t 11)) 54 true,
 rg 57 (.bin .lss (.t 55) (.t 56)) 54 true,
 ro 58 (.pick (.t 54) (.t 57) (.c (.bool false)))])
 (.cond (.t 58)
 a6i
 .skip)))
 a6t)))), [.t 10]⟩
def a48 : AFunc := ⟨2, 9, (.seq (.reg [
 ro 4 (.move (.c (.bool false)))])
 (.seq (.reg [
 mv 5 0,
 mv 6 1,
 rp 7 (.call (.f 135) [(.t 5), (.t 6)]),
 ro 8 (.bin .geq (.t 7) (ci 0)),
 mv 4 8])
 .ret)), [.t 4]⟩
theorem fn48 : fnOf 48 = some a48 := by kernel_rfl
def a135b0 : ACode :=
 (.seq (.reg [
 ro 9 (.bin .lss (.t 8) (.t 7))])
 (.seq (.cond (.t 9)
 .skip
 (.exit 0))
 (.seq (.block 1 (.seq (.reg [
 mv 10 8,
 mv 5 10])
 (.seq (.reg [
 mv 11 1,
 mv 12 0,
 mv 13 5,
 ro 14 (.idxAddr 3 (.t 12) (.t 13)),
 rp 15 (.load true 3 (.t 14)),
 rp 16 (.call (.t 11) [(.t 15)])])
 (.cond (.t 16)
 (.seq (.reg [
 mv 17 5,
 mv 4 17])
 .ret)
 .skip))))
 (.reg [
 ro 18 (.bin .add (.t 8) (ci 1)),
 mv 8 18]))))
def a135 : AFunc := ⟨2, 19, (.seq (.reg [
 ro 4 (.move (ci 0))])
 (.seq (.seq (.reg [
 mv 6 0,
 ro 7 (.lenL (.t 6)),
 ro 8 (.move (ci 0))])
 (.block 0 (.loop a135b0)))
 (.seq (.reg [
 ro 4 (.move (ci (-1)))])
 .ret))), [.t 4]⟩
theorem fn135 : fnOf 135 = some a135 := by kernel_rfl
def a130 : AFunc := ⟨1, 12, (.seq (.reg [
 rp 1 (.box 3 (.t 0)),
 ro 2 (.move (.c (.bool false)))])
 (.seq (.reg [
 rp 3 (.box 2 (.c (.agg [(.int .i64 0), (.int .i64 0)])))])
 (.seq (.reg [
 rp 4 (.load true 3 (.t 1)),
 rp 5 (.call (.f 133) [(.t 3), (.t 4), (ci 1)])])
 (.seq (.reg [
 rp 6 (.call (.f 134) [(.t 3)]),
 ro 7 (.un .not (.t 6)),
 mv 8 7,
 rh 9 (.load true 3 (.t 1)) 8 true,
 rh 10 (.call (.f 185) [(.t 9)]) 8 true,
 ro 11 (.pick (.t 8) (.t 10) (.c (.bool false))),
 mv 2 11])
 .ret)))), [.t 2]⟩
theorem fn130 : fnOf 130 = some a130 := by kernel_rfl
def a133b0 : ACode :=
 (.seq (.reg [
 ro 28 (.bin .lss (.t 27) (.t 26))])
 (.seq (.cond (.t 28)
 .skip
 (.exit 0))
 (.seq (.block 1 (.seq (.reg [
 ro 29 (.idxAddr 3 (.t 25) (.t 27)),
 rp 30 (.load true 3 (.t 29)),
 rp 7 (.box 3 (.c (.agg [(.int .i64 0), (.int .i64 0), (.slice 0 [] .nil)]))),
 wr (.store 3 (.t 7) (.t 30)) 0 0 false])
 (.seq (.seq (.reg [
 mv 31 0,
 ro 32 (.nilCheck (.t 31)),
 ro 33 (.fieldAddr 0 (.t 32)),
 rp 34 (.load false 1 (.t 33)),
 ro 35 (.bin .gtr (.t 34) (ci 2000)),
 mv 36 35,
 rg 37 (.move (.t 0)) 36 false,
 rg 38 (.nilCheck (.t 37)) 36 false,
 rg 39 (.fieldAddr 1 (.t 38)) 36 false,
 rh 40 (.load false 1 (.t 39)) 36 false,
 rg 41 (.bin .gtr (.t 40) (ci 200)) 36 false,
 ro 42 (.pick (.t 36) (.c (.bool true)) (.t 41))])
 (.cond (.t 42)
 .ret
 .skip))
 (.reg [
 mv 43 0,
 rp 44 (.load true 3 (.t 7)),
 mv 45 2,
 ro 46 (.bin .add (.t 45) (ci 1)),
 rp 47 (.call (.f 133) [(.t 43), (.t 44), (.t 46)])]))))
 (.reg [
 ro 48 (.bin .add (.t 27) (ci 1)),
 mv 27 48]))))
def a133 : AFunc := ⟨3, 49, (.seq (.reg [
 rp 4 (.box 3 (.t 1))])
 (.seq (.reg [
 mv 8 0,
 ro 9 (.nilCheck (.t 8)),
 ro 10 (.fieldAddr 0 (.t 9)),
 rp 11 (.load false 1 (.t 10)),
 ro 12 (.bin .add (.t 11) (ci 1)),
 ro 13 (.nilCheck (.t 8)),
 ro 14 (.fieldAddr 0 (.t 13)),
 wr (.store 1 (.t 14) (.t 12)) 0 0 false])
 (.seq (.reg [
 mv 15 0,
 mv 16 0,
 ro 17 (.nilCheck (.t 16)),
 ro 18 (.fieldAddr 1 (.t 17)),
 rp 19 (.load false 1 (.t 18)),
 mv 20 2,
 ro 21 (.min true [(.t 19), (.t 20)]),
 ro 22 (.nilCheck (.t 15)),
 ro 23 (.fieldAddr 1 (.t 22)),
 wr (.store 1 (.t 23) (.t 21)) 0 0 false])
 (.seq (.reg [
 ro 24 (.fieldAddr 2 (.t 4)),
 rp 25 (.load false 1 (.t 24)),
 ro 26 (.lenL (.t 25)),
 ro 27 (.move (ci 0))])
 (.block 0 (.loop a133b0)))))), []⟩
theorem fn133 : fnOf 133 = some a133 := by kernel_rfl
def a134 : AFunc := ⟨1, 15, (.seq (.reg [
 ro 2 (.move (.c (.bool false)))])
 (.seq (.reg [
 mv 3 0,
 ro 4 (.nilCheck (.t 3)),
 ro 5 (.fieldAddr 0 (.t 4)),
 rp 6 (.load false 1 (.t 5)),
 ro 7 (.bin .gtr (.t 6) (ci 2000)),
 mv 8 7,
 rg 9 (.move (.t 0)) 8 false,
 rg 10 (.nilCheck (.t 9)) 8 false,
 rg 11 (.fieldAddr 1 (.t 10)) 8 false,
 rh 12 (.load false 1 (.t 11)) 8 false,
 rg 13 (.bin .gtr (.t 12) (ci 200)) 8 false,
 ro 14 (.pick (.t 8) (.c (.bool true)) (.t 13)),
 mv 2 14])
 .ret)), [.t 2]⟩
theorem fn134 : fnOf 134 = some a134 := by kernel_rfl
def a185 : AFunc := ⟨1, 32, (.seq (.reg [
 rp 1 (.box 3 (.t 0)),
 ro 2 (.move (.c (.bool false)))])
 (.seq (.block 0 (.seq (.seq (.reg [
 ro 4 (.fieldAddr 1 (.t 1)),
 rp 5 (.load false 1 (.t 4)),
 ro 6 (.bin .lss (.t 5) (ci 0)),
 mv 3 6])
 (.cond (.t 3)
 .skip
 (.seq (.reg [
 ro 7 (.fieldAddr 0 (.t 1)),
 rp 8 (.load false 1 (.t 7)),
 ro 9 (.bin .eql (.t 8) (ci 1)),
 mv 10 9,
 rg 11 (.fieldAddr 2 (.t 1)) 10 true,
 rh 12 (.load false 1 (.t 11)) 10 true,
 rg 13 (.lenL (.t 12)) 10 true,
 rg 14 (.bin .gtr (.t 13) (ci 0)) 10 true,
 ro 15 (.pick (.t 10) (.t 14) (.c (.bool false))),
 mv 3 15])
 (.cond (.t 3)
 .skip
 (.seq (.reg [
 ro 16 (.fieldAddr 0 (.t 1)),
 rp 17 (.load false 1 (.t 16)),
 ro 18 (.bin .neq (.t 17) (ci 1)),
 mv 19 18,
 rg 20 (.fieldAddr 0 (.t 1)) 19 true,
 rh 21 (.load false 1 (.t 20)) 19 true,
 rg 22 (.bin .neq (.t 21) (ci 2)) 19 true,
 ro 23 (.pick (.t 19) (.t 22) (.c (.bool false))),
 mv 3 23])
 (.cond (.t 3)
 .skip
 (.reg [
 ro 24 (.fieldAddr 2 (.t 1)),
 rp 25 (.load false 1 (.t 24)),
 ro 26 (.lenL (.t 25)),
 ro 27 (.bin .gtr (.t 26) (ci 8)),
 mv 3 27])))))))
 (.cond (.t 3)
 (.seq (.reg [
 ro 2 (.move (.c (.bool false)))])
 .ret)
 .skip)))
 (.seq (.reg [
 ro 28 (.fieldAddr 2 (.t 1)),
 rp 29 (.load false 1 (.t 28)),
 rp 30 (.call (.f 48) [(.t 29), (.f 232)]),
 ro 31 (.un .not (.t 30)),
 mv 2 31])
 .ret))), [.t 2]⟩
theorem fn185 : fnOf 185 = some a185 := by kernel_rfl
def a232 : AFunc := ⟨1, 6, (.seq (.reg [
 rp 1 (.box 3 (.t 0)),
 ro 2 (.move (.c (.bool false)))])
 (.seq (.reg [
 rp 3 (.load true 3 (.t 1)),
 rp 4 (.call (.f 185) [(.t 3)]),
 ro 5 (.un .not (.t 4)),
 mv 2 5])
 .ret)), [.t 2]⟩
theorem fn232 : fnOf 232 = some a232 := by kernel_rfl
end Go.Proofs.Tryz
/- Terms as values; a part of the heap that is written; count, over, Size. -/
namespace Go.Proofs.Tryz
open Go Go.AE
variable {T : Tbl} (hT : Std T)
theorem Enc.facts {t : Tm} {p : PV} (h : Enc t p) : p.top = none ∧ (p.pure = true ∧ p.weak = p) := by
 induction h with
 | mk k n l sz es hs hl he ih =>
   have hall : ∀ p ∈ es, p.top = none ∧ (p.pure = true ∧ p.weak = p) := fun p hp => by
    obtain ⟨i, hi, rfl⟩ := List.getElem_of_mem hp
    exact ih i l[i] _ (List.getElem?_eq_getElem (by omega)) (List.getElem?_eq_getElem hi)
   have h1 : ∀ l : List PV, (∀ x ∈ l, x.top = none ∧ (x.pure = true ∧ x.weak = x)) → tops l = none ∧ pures l = true ∧ weaks l = l := fun l => by
    induction l with
    | nil => intro _; exact ⟨rfl, rfl, rfl⟩
    | cons x l ihl =>
      intro hx
      obtain ⟨a, b, c⟩ := ihl fun y hy => hx y (by simp [hy])
      obtain ⟨d, e, f⟩ := hx x (by simp)
      simp [tops, omax, pures, weaks, a, b, c, d, e, f]
   obtain ⟨a, b, c⟩ := h1 es hall
   simp [PV.top, tops, omax, PV.pure, pures, PV.weak, weaks, a, b, c]
theorem Enc.cells {t : Tm} {p : PV} (h : Enc t p) : p.cells.length = 3 ∧ p.cells.all PV.isCell = true ∧ p.isDef = true ∧ ∃ cs, p = .agg cs := by
 cases h
 exact ⟨rfl, rfl, rfl, _, rfl⟩
theorem Enc.sub {t : Tm} {p : PV} (h : Enc t p) : sub true 3 p 0 = some p := by
 cases h
 rfl
structure Mod (h H : List AE.Obj) (km : Nat) (o : AE.Obj) : Prop where
 take : H.take h.length = h.set km o
 len : h.length ≤ H.length
 lt : km < h.length
theorem Mod.refl {h : List AE.Obj} {km : Nat} {o : AE.Obj} (hk : h[km]? = some o) : Mod h h km o := ⟨by rw [List.take_length, set_self hk], Nat.le_refl _, (List.getElem?_eq_some_iff.1 hk).1⟩
theorem Mod.get {h H : List AE.Obj} {km : Nat} {o : AE.Obj} (M : Mod h H km o) : H[km]? = some o := by
 have h1 : (H.take h.length)[km]? = some o := by rw [M.take, List.getElem?_set_self M.lt]
 rwa [List.getElem?_take_of_lt M.lt] at h1
theorem Mod.old {h H : List AE.Obj} {km k : Nat} {o x : AE.Obj} (M : Mod h H km o) (hk : h[k]? = some x) (hne : km ≠ k) : H[k]? = some x := by
 have hl := (List.getElem?_eq_some_iff.1 hk).1
 have h1 : (H.take h.length)[k]? = some x := by rw [M.take, List.getElem?_set_ne hne]; exact hk
 rwa [List.getElem?_take_of_lt hl] at h1
theorem Mod.push {h H : List AE.Obj} {km : Nat} {o o' : AE.Obj} (M : Mod h H km o) : Mod h (H ++ [o']) km o := ⟨by rw [List.take_append_of_le_length M.len]; exact M.take, by have := M.len; simp; omega, M.lt⟩
theorem Mod.put {h H : List AE.Obj} {km : Nat} {o o' : AE.Obj} (M : Mod h H km o) : Mod h (H.set km o') km o' := by
 refine ⟨?_, by simpa using M.len, M.lt⟩
 rw [List.take_set, M.take, List.set_set]
def okWs (h : List AE.Obj) (km : Nat) (ws : List Nat) : Prop := ∀ x ∈ ws, x = km ∨ h.length ≤ x
theorem okWs.add {h : List AE.Obj} {km k : Nat} {ws : List Nat} (W : okWs h km ws) (hk : k = km ∨ h.length ≤ k) : okWs h km (wadd k ws) := fun x hx => by
 rcases mem_wadd hx with rfl | hx
 · exact hk
 · exact W x hx
theorem okWs.wall {h : List AE.Obj} {km : Nat} {a b : List Nat} (A : okWs h km a) (B : okWs h km b) : okWs h km (wall a b) := fun x hx => by
 rcases mem_wall hx with hx | hx
 · exact A x hx
 · exact B x hx
theorem tidy_mod {h H : List AE.Obj} {km : Nat} {o : AE.Obj} {v : PV} {ws : List Nat} (hp : v.pure = true) (M : Mod h H km o) (W : okWs h km ws) : ∃ ws', tidy 0 h.length (.val v) ⟨H, ws, []⟩ = (.val v.weak, ⟨h.set km o, ws', []⟩) ∧ ∀ x ∈ ws', x = km := by
 refine ⟨below h.length ws, ?_, fun x hx => ?_⟩
 · unfold tidy
   have hf : frz H h.length 64 v = some v.weak := frz_pure hp
   simp [OR.v, hf, M.take, OR.put]
 · obtain ⟨h1, h2⟩ := List.mem_filter.1 hx
   have h2 : x < h.length := by simpa using h2
   rcases W x h1 with h | h
   · exact h
   · omega
@[go_sem] theorem tupled_nil : tupled [] = .tuple [] := rfl
theorem st2_0 {H : List AE.Obj} {ws : List Nat} {ups : List (Nat × Nat)} {k : Nat} {a b : PV} {v : Int} (hk : H[k]? = some (.row 2 [.agg [a, b]])) :
 storeAt 1 (.ptr k 0 0 1) (.int .i64 v) ⟨H, ws, ups⟩ = some ⟨H.set k (.row 2 [.agg [.int .i64 v, b]]), wadd k ws, ups⟩ := by
 have hu : upd (.agg [a, b]) 0 (.int .i64 v) = some (.agg [.int .i64 v, b]) := rfl
 simp only [storeAt, hk, List.length_cons, List.length_nil, PV.cells, List.all_cons, List.all_nil, PV.isCell, Bool.and_self, and_self, if_true, List.getElem?_cons_zero, hu, Option.map, List.set_cons_zero, PV.top, wrote_none]
theorem st2_1 {H : List AE.Obj} {ws : List Nat} {ups : List (Nat × Nat)} {k : Nat} {a b : PV} {v : Int} (hk : H[k]? = some (.row 2 [.agg [a, b]])) :
 storeAt 1 (.ptr k 0 1 1) (.int .i64 v) ⟨H, ws, ups⟩ = some ⟨H.set k (.row 2 [.agg [a, .int .i64 v]]), wadd k ws, ups⟩ := by
 have hu : upd (.agg [a, b]) 1 (.int .i64 v) = some (.agg [a, .int .i64 v]) := rfl
 simp only [storeAt, hk, List.length_cons, List.length_nil, PV.cells, List.all_cons, List.all_nil, PV.isCell, Bool.and_self, and_self, if_true, List.getElem?_cons_zero, hu, Option.map, List.set_cons_zero, PV.top, wrote_none]
def mRow (nd dp : Int) : AE.Obj := .row 2 [.agg [.int .i64 nd, .int .i64 dp]]
end Go.Proofs.Tryz
/- over, Size, shaped, isTree. -/
namespace Go.Proofs.Tryz
open Go Go.AE
variable {T : Tbl} (hT : Std T)
mutual
def shapedF : Tm → Bool
 | .mk k n l => decide (0 ≤ n) && !(k == 1 && decide (0 < l.length)) && (k == 1 || k == 2) && decide (l.length ≤ 8) && shapedL l
def shapedL : List Tm → Bool
 | [] => true
 | t :: l => shapedF t && shapedL l
end
theorem shapedL_all : ∀ l : List Tm, shapedL l = l.all shapedF
 | [] => rfl
 | t :: l => by simp only [shapedL, List.all_cons, shapedL_all l]
include hT in
theorem index135_tot {g : FuncId} {cap : List PV} {f : Tm → Bool} {h : List AE.Obj} (hg : T.prim g = none) {l : List Tm} {sz : Nat} {es : List PV} {m : SM} (hs : es = [] ∨ sz = 3) (hl : es.length = l.length) (he : ∀ (i : Nat) (x : Tm) (p : PV), l[i]? = some x → es[i]? = some p → Enc x p)
 (hf : ∀ (i : Nat) (x : Tm) (p : PV), l[i]? = some x → es[i]? = some p → Ev T g (p :: cap) h (.val (.bool (f x)), ⟨h, [], []⟩)) (hal : es.length < 1000000) :
 ∃ r : Int, Ev T 135 [.slice sz es m, .func (.func g) [] cap] h (.val (.int .i64 r), ⟨h, [], []⟩) ∧ (decide (0 ≤ r) = l.any f) := by
 refine Ev.walkP (hT.sp _ (by decide)) ((hT.fn _).trans fn135) (hT.mode _) rfl ?_
 simp (disch := first | omega | decide | simp only [go_sem]) only [go_sem]
 refine wpC.loopM (fun n e s => ∃ i : Nat, i + n = es.length ∧ eget e 0 = .slice sz es m ∧ eget e 1 = .func (.func g) [] cap ∧ eget e 7 = .int .i64 (es.length : Int) ∧ eget e 8 = .int .i64 (i : Int) ∧ (∀ j (hj : j < l.length), j < i → f l[j] = false) ∧ s = ⟨h, [], []⟩) ?_ es.length _ _ ⟨0, by simp, by simp only [go_sem], by simp only [go_sem], by simp only [go_sem], by simp only [go_sem]; rfl, fun j _ hj => by omega, rfl⟩
 rintro n e s ⟨i, hi, e0, e1, e7, e8, hp, rfl⟩
 by_cases h1 : i < es.length
 · have ga := get_lt h1
   have hx : l[i]? = some l[i] := List.getElem?_eq_getElem (by omega)
   have hE := he i l[i] es[i] hx ga
   have ev := hf i l[i] es[i] hx ga
   have bs := hE.sub
   have hsz : sz = 3 := by
    rcases hs with rfl | h
    · simp at h1
    · exact h
   subst hsz
   simp (disch := first | omega | decide | simp only [go_sem]) only [go_sem, a135b0, e0, e1, e7, e8, h1, ga, bs, hg, cb ev]
   refine bifs (fun hpi => ⟨(i : Int), rfl, by rw [any_of (show i < l.length by omega) hpi]; simp⟩) (fun hpi => ⟨n - 1, by omega, i + 1, by omega, rfl, fun j hj hji => ?_, trivial⟩)
   by_cases hjj : j = i
   · subst hjj; exact hpi
   · exact hp j hj (by omega)
 · simp (disch := first | omega | decide | simp only [go_sem]) only [go_sem, a135b0, e0, e1, e7, e8, h1]
   exact ⟨_, rfl, by rw [any_none fun j hj => hp j hj (by omega)]; rfl⟩
include hT in
theorem contains48_ev {g : FuncId} {cap : List PV} {f : Tm → Bool} {h : List AE.Obj} (hg : T.prim g = none) {l : List Tm} {sz : Nat} {es : List PV} {m : SM} (hs : es = [] ∨ sz = 3) (hl : es.length = l.length) (he : ∀ (i : Nat) (x : Tm) (p : PV), l[i]? = some x → es[i]? = some p → Enc x p)
 (hf : ∀ (i : Nat) (x : Tm) (p : PV), l[i]? = some x → es[i]? = some p → Ev T g (p :: cap) h (.val (.bool (f x)), ⟨h, [], []⟩)) (hal : es.length < 1000000) :
 Ev T 48 [.slice sz es m, .func (.func g) [] cap] h (.val (.bool (l.any f)), ⟨h, [], []⟩) := by
 obtain ⟨r, hr, kr⟩ := index135_tot hT (m := m) hg hs hl he hf hal
 rw [← kr]
 refine Ev.walk (hT.sp _ (by decide)) ((hT.fn _).trans fn48) (hT.mode _) rfl ?_
 simp (disch := first | omega | decide | simp only [go_sem]) only [go_sem, cb hr, hT.prim, primOf]
include hT in
theorem shaped_ev {t : Tm} {p : PV} (ht : Enc t p) : ∀ h : List AE.Obj, Ev T 185 [p] h (.val (.bool (shapedF t)), ⟨h, [], []⟩) := by
 have hc := ht.cells
 induction ht with
 | mk k n l sz es hs hl he ih =>
   intro h
   refine Ev.walk (hT.sp _ (by decide)) ((hT.fn _).trans fn185) (hT.mode _) rfl ?_
   obtain ⟨c1, c2, c3, c4⟩ := hc
   generalize hP : PV.agg [.int .i64 k, .int .i64 n, .slice sz es .any] = P at *
   have kb : (h ++ [AE.Obj.row 3 [P]])[h.length]? = some (.row 3 [P]) := by simp
   have low : Low h.length h (h ++ [AE.Obj.row 3 [P]]) := (Low.refl _ _).push (Nat.le_refl _)
   generalize hH1 : h ++ [AE.Obj.row 3 [P]] = H1 at *
   have l0 : loadAt false 1 (.ptr h.length 0 0 1) H1 = some (.int .i64 k) := by rw [ld_at kb, ← hP]; rfl
   have l1 : loadAt false 1 (.ptr h.length 0 1 1) H1 = some (.int .i64 n) := by rw [ld_at kb, ← hP]; rfl
   have l2 : loadAt false 1 (.ptr h.length 0 2 1) H1 = some (.slice sz es .any) := by rw [ld_at kb, ← hP]; rfl
   have td : ∀ b, tidy 0 h.length (.val (.bool b)) ⟨H1, [], []⟩ = (.val (.bool b), ⟨h, [], []⟩) := fun b => tidy_low rfl rfl low (by simp)
   have sh1 : ∀ (i : Nat) (x : Tm) (p : PV), l[i]? = some x → es[i]? = some p → Ev T 232 [p] H1 (.val (.bool (!shapedF x)), ⟨H1, [], []⟩) := fun i x q hx hq => by
    have hE := he i x q hx hq
    have ev := ih i x q hx hq hE.cells
    obtain ⟨b1, b2, b3, b4⟩ := hE.cells
    refine Ev.walk (hT.sp _ (by decide)) ((hT.fn _).trans fn232) (hT.mode _) rfl ?_
    have kq : (H1 ++ [AE.Obj.row 3 [q]])[H1.length]? = some (.row 3 [q]) := by simp
    have lowq : Low H1.length H1 (H1 ++ [AE.Obj.row 3 [q]]) := (Low.refl _ _).push (Nat.le_refl _)
    have lq : loadAt true 3 (.ptr H1.length 0 0 1) (H1 ++ [AE.Obj.row 3 [q]]) = some q := by rw [ld_at kq]; exact hE.sub
    simp (disch := first | omega | decide | simp only [go_sem]) only [go_sem, b1, b3, lq, cb (ev _), hT.prim, primOf]
   by_cases hn : 0 ≤ n
   · have hn' : ¬ n < 0 := by omega
     by_cases h8 : l.length ≤ 8
     · have h8' : ¬ (8 : Int) < (es.length : Int) := by omega
       have ct := contains48_ev hT (g := 232) (cap := []) (f := fun x => !shapedF x) (m := .any) (by rw [hT.prim]; rfl) hs hl he sh1 (by omega)
       have hany : (!l.any fun x => !shapedF x) = shapedL l := by rw [shapedL_all, List.all_eq_not_any_not]
       by_cases k1 : k = 1
       · subst k1
         by_cases hz : 0 < l.length
         · have hz' : (0 : Int) < (es.length : Int) := by omega
           have b11 : ((1 : Int) == 1) = true := rfl
           simp (disch := first | omega | decide | simp only [go_sem]) only [go_sem, hH1, c1, c3, l0, l1, l2, hn', hz', b11, td]
           simp [shapedF, hn, hz]
         · have hz' : ¬ (0 : Int) < (es.length : Int) := by omega
           have b11 : ((1 : Int) == 1) = true := rfl
           have b12 : ((1 : Int) != 1) = false := rfl
           simp (disch := first | omega | decide | simp only [go_sem]) only [go_sem, hH1, c1, c3, l0, l1, l2, hn', hz', b11, b12, h8', cb ct, hT.prim, primOf, td]
           rw [hany]
           simp [shapedF, hn, hz, h8]
       · have b1 : (k == 1) = false := by simpa using k1
         have b2 : (k != 1) = true := by simpa using k1
         by_cases k2 : k = 2
         · subst k2
           have b3 : ((2 : Int) != 2) = false := rfl
           simp (disch := first | omega | decide | simp only [go_sem]) only [go_sem, hH1, c1, c3, l0, l1, l2, hn', b1, b2, b3, h8', cb ct, hT.prim, primOf, td]
           rw [hany]
           simp [shapedF, hn, h8]
         · have b3 : (k != 2) = true := by simpa using k2
           simp (disch := first | omega | decide | simp only [go_sem]) only [go_sem, hH1, c1, c3, l0, l1, l2, hn', b1, b2, b3, h8', td]
           simp [shapedF, k1, k2]
     · have h8' : (8 : Int) < (es.length : Int) := by omega
       have hf : shapedF (.mk k n l) = false := by simp [shapedF]; intros; omega
       rw [hf]
       by_cases k1 : k = 1
       · subst k1
         have hz' : (0 : Int) < (es.length : Int) := by omega
         have b11 : ((1 : Int) == 1) = true := rfl
         simp (disch := first | omega | decide | simp only [go_sem]) only [go_sem, hH1, c1, c3, l0, l1, l2, hn', hz', b11, td]
       · have b1 : (k == 1) = false := by simpa using k1
         have b2 : (k != 1) = true := by simpa using k1
         by_cases k2 : k = 2
         · subst k2
           have b3 : ((2 : Int) != 2) = false := rfl
           simp (disch := first | omega | decide | simp only [go_sem]) only [go_sem, hH1, c1, c3, l0, l1, l2, hn', b1, b2, b3, h8', td]
         · have b3 : (k != 2) = true := by simpa using k2
           simp (disch := first | omega | decide | simp only [go_sem]) only [go_sem, hH1, c1, c3, l0, l1, l2, hn', b1, b2, b3, h8', td]
   · have hn' : n < 0 := by omega
     have hf : shapedF (.mk k n l) = false := by simp [shapedF, hn]
     rw [hf]
     simp (disch := first | omega | decide | simp only [go_sem]) only [go_sem, hH1, c1, c3, l0, l1, l2, hn', td]
end Go.Proofs.Tryz
/- nth: total at all sizes. -/
namespace Go.Proofs.Tryz
open Go Go.AE
variable {T : Tbl} (hT : Std T)
def tabV (s : GSig) : PV := .agg [.slice 1 (s.sorts.map .str) .any, .slice 3 (s.ops.map encOp) .any, .slice 61 ((tabOf s).1.map arr) .any, .slice 1 ((tabOf s).2.map fun r => .slice 61 (r.map arr) .any) .any]
theorem encTab_eq (s : GSig) : encTab s = .iptr (tabV s) 0 := rfl
theorem nthC {s : GSig} (hs : GOk s) {i : Nat} {o : GOp} (ho : s.ops[i]? = some o) : NthC s (tabV s) i o (tabOf s).1 ((tabOf s).2.getD i []) ((tabOf s).2.map fun r => .slice 61 (r.map arr) .any) := by
 obtain ⟨S, K⟩ := tabOf_sem hs.ops
 obtain ⟨a1, a2, a3⟩ := hs.ops o (List.mem_of_getElem? ho)
 have hi : i < (tabOf s).2.length := by rw [K.len]; exact (List.getElem?_eq_some_iff.1 ho).1
 have e1 : (tabOf s).2[i]? = some ((tabOf s).2.getD i []) := by
  rw [List.getD_eq_getElem?_getD, List.getElem?_eq_getElem hi]; rfl
 obtain ⟨q1, q2⟩ := K.rows i o _ ho e1
 exact ⟨rfl, rfl, rfl, K.sl, K.so, ho, a1, a3, by rw [List.getElem?_map, e1]; rfl, q2, q1, fun k q hk hq => S.eq i o k q ho hk hq, sysOf hs.ops ho⟩
include hT in
theorem nth_tot {s : GSig} (hs : GOk s) (h91 : T.sp 91 = none) : ∀ N, N ≤ 60 → NthIH T s (tabV s) N
 | 0, _ => fun a m n h _ h1 h2 => by omega
 | N + 1, hN => fun a m n h ha h1 h2 hn0 hn1 => by
   have ih := nth_tot hs h91 N (by omega)
   by_cases hm : m ≤ N
   · exact ih a m n h ha h1 hm hn0 hn1
   · have : m = N + 1 := by omega
     subst this
     exact nth_step hT hs h91 (by omega) (fun i o ho => nthC hs ho) rfl rfl ih a n h ha ⟨hn0, hn1⟩
end Go.Proofs.Tryz
/- Count, Nth. -/
namespace Go.Proofs.Tryz
open Go Go.AE
variable {T : Tbl} (hT : Std T) {s : GSig}
theorem encSig_ld {h : List AE.Obj} : loadAt true 2 (.ptr h.length 0 0 1) (h ++ [AE.Obj.row 2 [encSig s]]) = some (encSig s) := by
 have hk : (h ++ [AE.Obj.row 2 [encSig s]])[h.length]? = some (.row 2 [encSig s]) := by simp
 rw [ld_at hk]; rfl
include hT in
theorem count_err {r : Int} (hr : r ≠ 0) (E87 : ∀ h, Ev T 87 [encSig s] h (.val (.int .i64 r), ⟨h, [], []⟩)) (sort size : Int) (h : List AE.Obj) : Ev T 44 [encSig s, .int .i64 sort, .int .i64 size] h (.val (.tuple [.int .i64 0, .int .i64 r]), ⟨h, [], []⟩) := by
 refine Ev.walk (hT.sp _ (by decide)) ((hT.fn _).trans fn44) (hT.mode _) rfl ?_
 have hr' : (r != 0) = true := by simpa using hr
 simp (disch := first | omega | decide | simp only [go_sem]) only [go_sem, encSig_ld, cb (E87 _), hT.prim, primOf, hr']
include hT in
theorem count_arg (E87 : ∀ h, Ev T 87 [encSig s] h (.val (.int .i64 0), ⟨h, [], []⟩)) {sort size : Int} (hb : (isSortB sort s.sorts.length && sizedB size) = false) (h : List AE.Obj) : Ev T 44 [encSig s, .int .i64 sort, .int .i64 size] h (.val (.tuple [.int .i64 0, .int .i64 1]), ⟨h, [], []⟩) := by
 refine Ev.walk (hT.sp _ (by decide)) ((hT.fn _).trans fn44) (hT.mode _) rfl ?_
 have c1 := fun h => isSort_ev hT (s := s) sort h
 have c2 := fun h => sized_ev hT size h
 cases h1 : isSortB sort s.sorts.length
 · rw [h1] at c1
   simp (disch := first | omega | decide | simp only [go_sem]) only [go_sem, encSig_ld, cb (E87 _), hT.prim, primOf, bne_self_eq_false, cb (c1 _)]
 · rw [h1, Bool.true_and] at hb
   rw [h1] at c1
   rw [hb] at c2
   simp (disch := first | omega | decide | simp only [go_sem]) only [go_sem, encSig_ld, cb (E87 _), hT.prim, primOf, bne_self_eq_false, cb (c1 _), cb (c2 _)]
theorem cnt_ok {s : GSig} (hs : GOk s) {a : Nat} (ha : a < s.sorts.length) : okRow ((tabOf s).1.getD a []) ∧ ((tabOf s).1.map arr)[a]? = some (arr ((tabOf s).1.getD a [])) := by
 obtain ⟨S, K⟩ := tabOf_sem hs.ops
 have hl : a < (tabOf s).1.length := by rw [K.sl]; exact ha
 exact ⟨(K.so.get hl).2, get_arr K.so hl⟩
theorem tab_t2 : sub false 1 (tabV s) 2 = some (.slice 61 ((tabOf s).1.map arr) .any) := rfl
include hT in
theorem count_ok (hs : GOk s) (E87 : ∀ h, Ev T 87 [encSig s] h (.val (.int .i64 0), ⟨h, [], []⟩)) {a m : Nat} (ha : a < s.sorts.length) (hm : m ≤ 60) (h : List AE.Obj) : Ev T 44 [encSig s, .int .i64 (a : Int), .int .i64 (m : Int)] h (.val (.tuple [.int .i64 (cntOf s a m), .int .i64 0]), ⟨h, [], []⟩) := by
 refine Ev.walk (hT.sp _ (by decide)) ((hT.fn _).trans fn44) (hT.mode _) rfl ?_
 have c1 := fun h => isSort_ev hT (s := s) (a : Int) h
 have c2 := fun h => sized_ev hT (m : Int) h
 have h1 : isSortB (a : Int) s.sorts.length = true := by simp [isSortB]; omega
 have h2 : sizedB (m : Int) = true := by simp [sizedB]; omega
 rw [h1] at c1
 rw [h2] at c2
 have c3 := fun h => counted_ev hT hs (h := h)
 obtain ⟨k1, k2⟩ := cnt_ok hs ha
 have hm61 : m < 61 := by omega
 have ls := ld_arr k1 hm61
 simp (disch := first | omega | decide | simp only [go_sem]) only [go_sem, encSig_ld, cb (E87 _), hT.prim, primOf, bne_self_eq_false, cb (c1 _), cb (c2 _), cb (c3 _), encTab_eq, tab_t2, k2, hm61, ls]
 rfl
end Go.Proofs.Tryz
/- typed, Sort, ground. -/
namespace Go.Proofs.Tryz
open Go Go.AE
variable {T : Tbl} (hT : Std T) {s : GSig}
end Go.Proofs.Tryz
/- Sort, ground: what they say is what is so. -/
namespace Go.Proofs.Tryz
open Go Go.AE
variable {T : Tbl} (hT : Std T) {s : GSig}
end Go.Proofs.Tryz
/- sig: count, isTree and Tree, whatever the term. -/
namespace Go.Proofs.Tryz
open Go Go.AE
variable {T : Tbl} (hT : Std T)
theorem deepL_take {l : List Tm} {i : Nat} {t : Tm} (h : l[i]? = some t) : deepL (l.take (i + 1)) = max (deepL (l.take i)) t.deep := by
 induction l generalizing i with
 | nil => simp at h
 | cons x l ih =>
   cases i with
   | zero =>
     simp only [List.getElem?_cons_zero, Option.some.injEq] at h
     subst h
     simp [deepL]
   | succ i =>
     have := ih (by simpa using h)
     simp only [List.take_succ_cons, deepL]
     omega
theorem deepL_le : ∀ (l : List Tm) (i : Nat), deepL (l.take i) ≤ deepL l
 | [], i => by simp
 | x :: l, 0 => by simp [deepL]
 | x :: l, i + 1 => by
   have := deepL_le l i
   simp only [List.take_succ_cons, deepL]
   omega
theorem nodesL_le : ∀ (l : List Tm) (i : Nat), nodesL (l.take i) ≤ nodesL l
 | [], i => by simp
 | x :: l, 0 => by simp [nodesL]
 | x :: l, i + 1 => by
   have := nodesL_le l i
   simp only [List.take_succ_cons, nodesL]
   omega
def CountP (nd dp d : Int) (n dt : Nat) (nd' dp' : Int) : Prop :=
 (nd + n ≤ 2000 ∧ d - 1 + dt ≤ 200 ∧ nd' = nd + n ∧ dp' = max dp (d - 1 + dt)) ∨ (¬ (nd + n ≤ 2000 ∧ d - 1 + dt ≤ 200) ∧ (nd' ≤ 2001 ∧ dp' ≤ 201) ∧ (2000 < nd' ∨ 200 < dp') ∧ 0 ≤ nd' ∧ 0 ≤ dp')
include hT in
theorem countG_ev {t : Tm} {p : PV} (ht : Enc t p) : ∀ (h : List AE.Obj) (km : Nat) (nd dp d : Int), h[km]? = some (mRow nd dp) → 0 ≤ nd ∧ nd ≤ 2000 → 0 ≤ dp ∧ dp ≤ 200 → 1 ≤ d ∧ d ≤ 201 →
 ∃ nd' dp' ws', Ev T 133 [.ptr km 0 0 1, p, .int .i64 d] h (.val (.tuple []), ⟨h.set km (mRow nd' dp'), ws', []⟩) ∧ CountP nd dp d t.nodes t.deep nd' dp' ∧ ∀ x ∈ ws', x = km := by
 have hc := ht.cells
 have hf := ht.facts
 induction ht with
 | mk k n l sz es hs hl he ih =>
   intro h km nd dp d hk hnd hdp hd
   have W : ∃ (x : Int × Int × List Nat), Ev T 133 [.ptr km 0 0 1, .agg [.int .i64 k, .int .i64 n, .slice sz es .any], .int .i64 d] h (.val (.tuple []), ⟨h.set km (mRow x.1 x.2.1), x.2.2, []⟩) ∧ (CountP nd dp d (Tm.mk k n l).nodes (Tm.mk k n l).deep x.1 x.2.1 ∧ ∀ y ∈ x.2.2, y = km) := by
    refine Ev.walkP (r := fun (x : Int × Int × List Nat) => (.val (.tuple []), ⟨h.set km (mRow x.1 x.2.1), x.2.2, []⟩)) (hT.sp _ (by decide)) ((hT.fn _).trans fn133) (hT.mode _) rfl ?_
    simp only [Tm.nodes, Tm.deep]
    have hlt := (List.getElem?_eq_some_iff.1 hk).1
    have M0 := Mod.refl hk
    generalize hP : PV.agg [.int .i64 k, .int .i64 n, .slice sz es .any] = P at *
    have M1 : Mod h (h ++ [AE.Obj.row 3 [P]]) km (mRow nd dp) := M0.push
    have kb : (h ++ [AE.Obj.row 3 [P]])[h.length]? = some (.row 3 [P]) := by simp
    generalize hH1 : h ++ [AE.Obj.row 3 [P]] = H1 at *
    have l0 : loadAt false 1 (.ptr km 0 0 1) H1 = some (.int .i64 nd) := by rw [ld_at M1.get]; rfl
    have s0 := fun ws ups => st2_0 (ws := ws) (ups := ups) (v := nd + 1) M1.get
    have M2 := M1.put (o' := mRow (nd + 1) dp)
    have kb2 : (H1.set km (mRow (nd + 1) dp))[h.length]? = some (.row 3 [P]) := get_set_ne kb (by omega)
    have e2 : H1.set km (.row 2 [.agg [.int .i64 (nd + 1), .int .i64 dp]]) = H1.set km (mRow (nd + 1) dp) := rfl
    generalize hH2 : H1.set km (mRow (nd + 1) dp) = H2 at *
    have l1 : loadAt false 1 (.ptr km 0 1 1) H2 = some (.int .i64 dp) := by rw [ld_at M2.get]; rfl
    have s1 := fun ws ups => st2_1 (ws := ws) (ups := ups) (v := max dp d) M2.get
    have M3 := M2.put (o' := mRow (nd + 1) (max dp d))
    have kb3 : (H2.set km (mRow (nd + 1) (max dp d)))[h.length]? = some (.row 3 [P]) := get_set_ne kb2 (by omega)
    have e3 : H2.set km (.row 2 [.agg [.int .i64 (nd + 1), .int .i64 (max dp d)]]) = H2.set km (mRow (nd + 1) (max dp d)) := rfl
    generalize hH3 : H2.set km (mRow (nd + 1) (max dp d)) = H3 at *
    have l2 : loadAt false 1 (.ptr h.length 0 2 1) H3 = some (.slice sz es .any) := by rw [ld_at kb3, ← hP]; rfl
    obtain ⟨c1, c2, c3, c4⟩ := hc
    simp (disch := first | omega | decide | simp only [go_sem]) only [go_sem, hH1, l0, s0, e2, l1, s1, e3, l2, c1, c3, List.length_cons, List.length_nil]
    refine wpC.loopM (fun g e st => ∃ (i : Nat) (nd1 dp1 : Int) (H : List AE.Obj) (ws : List Nat), i + g = es.length ∧ Mod h H km (mRow nd1 dp1) ∧ CountP nd dp d (1 + nodesL (l.take i)) (1 + deepL (l.take i)) nd1 dp1 ∧ okWs h km ws ∧ (eget e 0 = .ptr km 0 0 1 ∧ eget e 2 = .int .i64 d ∧ eget e 25 = .slice sz es .any ∧ eget e 26 = .int .i64 (es.length : Int) ∧ eget e 27 = .int .i64 (i : Int)) ∧ st = ⟨H, ws, []⟩) ?_ es.length _ _
     ⟨0, nd + 1, max dp d, H3, _, by omega, M3, ?_, okWs.add (okWs.add (fun x hx => by simp at hx) (.inl rfl)) (.inl rfl), by simp only [go_sem, Int.natCast_zero], rfl⟩
    · rintro g e st ⟨i, nd1, dp1, H, ws, hi, M, C, W, ⟨e0, e2, e25, e26, e27⟩, rfl⟩
      by_cases h1 : i < es.length
      · have h1' : (i : Int) < (es.length : Int) := by omega
        have ga := get_lt h1
        have hx : l[i]? = some l[i] := List.getElem?_eq_getElem (by omega)
        have hE := he i l[i] es[i] hx ga
        have ihx := ih i l[i] es[i] hx ga hE.cells hE.facts
        have htk := nodesL_take hx
        have hdk := deepL_take hx
        have ll1 := nodesL_le l (i + 1)
        have ll2 := deepL_le l (i + 1)
        have hlen : i ≤ nodesL (l.take i) := by
         have := nodesL_len (l.take i)
         rw [List.length_take] at this
         omega
        have hpos := nodes_pos l[i]
        generalize l[i] = x at *
        have hsz : sz = 3 := by
         rcases hs with rfl | h
         · simp at h1
         · exact h
        subst hsz
        obtain ⟨b1, b2, b3, b4⟩ := hE.cells
        have bt := hE.facts.1
        have bs := hE.sub
        generalize es[i] = q at *
        have sb := st_box (h := H) (ws := ws) (ups := []) (z := .agg [(.int .i64 0), (.int .i64 0), (.slice 0 [] .nil)]) (sz := 3) (c := q) b1 rfl b2 bt ⟨_, rfl⟩ b4
        have M1 := M.push (o' := AE.Obj.row 3 [q])
        have kq : (H ++ [AE.Obj.row 3 [q]])[H.length]? = some (.row 3 [q]) := by simp
        generalize hH5 : H ++ [AE.Obj.row 3 [q]] = H5 at *
        have ln : loadAt false 1 (.ptr km 0 0 1) H5 = some (.int .i64 nd1) := by rw [ld_at M1.get]; rfl
        have ld : loadAt false 1 (.ptr km 0 1 1) H5 = some (.int .i64 dp1) := by rw [ld_at M1.get]; rfl
        have lq : loadAt true 3 (.ptr H.length 0 0 1) H5 = some q := by rw [ld_at kq]; exact bs
        have hMl := M.len
        by_cases ho : 2000 < nd1 ∨ 200 < dp1
        · have C2 : CountP nd dp d (1 + nodesL l) (1 + deepL l) nd1 dp1 := by
           have ll3 := nodesL_le l i
           have ll4 := deepL_le l i
           rcases C with ⟨a1, a2, a3, a4⟩ | ⟨a1, a2, a3, a4⟩
           · omega
           · exact .inr ⟨fun h => a1 ⟨by omega, by omega⟩, a2, a3, a4⟩
          obtain ⟨ws', ht1, ht2⟩ := tidy_mod (v := .tuple []) rfl M1 (W.add (k := H.length) (.inr hMl))
          by_cases n1 : 2000 < nd1
          · simp (disch := first | omega | decide | simp only [go_sem]) only [go_sem, a133b0, e0, e2, e25, e26, e27, h1', ga, bs, sb, hH5, ln, ld, n1, List.length_cons, List.length_nil, ht1]
            exact ⟨(nd1, dp1, ws'), rfl, C2, ht2⟩
          · have n2 : 200 < dp1 := by omega
            simp (disch := first | omega | decide | simp only [go_sem]) only [go_sem, a133b0, e0, e2, e25, e26, e27, h1', ga, bs, sb, hH5, ln, ld, n1, n2, List.length_cons, List.length_nil, ht1]
            exact ⟨(nd1, dp1, ws'), rfl, C2, ht2⟩
        · have n1 : ¬ (2000 : Int) < nd1 := by omega
          have n2 : ¬ (200 : Int) < dp1 := by omega
          have C1 : nd + (1 + nodesL (l.take i) : Nat) ≤ 2000 ∧ d - 1 + (1 + deepL (l.take i) : Nat) ≤ 200 ∧ nd1 = nd + (1 + nodesL (l.take i) : Nat) ∧ dp1 = max dp (d - 1 + (1 + deepL (l.take i) : Nat)) := by
           rcases C with C | ⟨a1, a2, a3, a4⟩
           · exact C
           · omega
          obtain ⟨q1, q2, q3, q4⟩ := C1
          obtain ⟨nd2, dp2, ws2, ev, P2, hw2⟩ := ihx H5 km nd1 dp1 (d + 1) M1.get (by omega) (by omega) (by omega)
          simp (disch := first | omega | decide | simp only [go_sem]) only [go_sem, a133b0, e0, e2, e25, e26, e27, h1', ga, bs, sb, hH5, ln, ld, lq, n1, n2, cb ev, hT.prim, primOf, List.length_cons, List.length_nil]
          refine ⟨g - 1, by omega, i + 1, nd2, dp2, _, _, by omega, M1.put, ?_, okWs.wall (fun y hy => .inl (hw2 y hy)) (W.add (.inr hMl)), rfl, rfl⟩
          rw [htk, hdk]
          rcases P2 with ⟨a1, a2, a3, a4⟩ | ⟨a1, a2, a3, a4⟩
          · exact .inl ⟨by omega, by omega, by omega, by omega⟩
          · exact .inr ⟨fun h => a1 ⟨by omega, by omega⟩, a2, a3, a4⟩
      · have h1' : ¬ (i : Int) < (es.length : Int) := by omega
        have : i = l.length := by omega
        subst this
        obtain ⟨ws', ht1, ht2⟩ := tidy_mod (v := .tuple []) rfl M W
        simp (disch := first | omega | decide | simp only [go_sem]) only [go_sem, a133b0, e0, e2, e25, e26, e27, h1', ht1]
        rw [List.take_length] at C
        exact ⟨(nd1, dp1, ws'), rfl, C, ht2⟩
    · simp only [List.take_zero, nodesL, deepL]
      by_cases hf : nd + 1 ≤ 2000 ∧ d ≤ 200
      · exact .inl ⟨by omega, by omega, by omega, by omega⟩
      · exact .inr ⟨fun h => hf ⟨by omega, by omega⟩, ⟨by omega, by omega⟩, by omega, by omega, by omega⟩
   obtain ⟨x, h1, h2, h3⟩ := W
   exact ⟨x.1, x.2.1, x.2.2, h1, h2, h3⟩
include hT in
theorem overG_ev {h : List AE.Obj} {km : Nat} {nd dp : Int} (hk : h[km]? = some (mRow nd dp)) : Ev T 134 [.ptr km 0 0 1] h (.val (.bool (decide (2000 < nd) || decide (200 < dp))), ⟨h, [], []⟩) := by
 refine Ev.walk (hT.sp _ (by decide)) ((hT.fn _).trans fn134) (hT.mode _) rfl ?_
 have l0 : loadAt false 1 (.ptr km 0 0 1) h = some (.int .i64 nd) := by rw [ld_at hk]; rfl
 have l1 : loadAt false 1 (.ptr km 0 1 1) h = some (.int .i64 dp) := by rw [ld_at hk]; rfl
 by_cases n1 : (2000 : Int) < nd
 · simp (disch := first | omega | decide | simp only [go_sem]) only [go_sem, l0, l1, n1, Bool.true_or]
 · simp (disch := first | omega | decide | simp only [go_sem]) only [go_sem, l0, l1, n1, Bool.false_or]
def treeB (t : Tm) : Bool := decide (t.nodes ≤ 2000) && decide (t.deep ≤ 200) && shapedF t
include hT in
theorem treeG_ev {t : Tm} {p : PV} (ht : Enc t p) (h : List AE.Obj) : Ev T 130 [p] h (.val (.bool (treeB t)), ⟨h, [], []⟩) := by
 refine Ev.walk (hT.sp _ (by decide)) ((hT.fn _).trans fn130) (hT.mode _) rfl ?_
 obtain ⟨c1, c2, c3, c4⟩ := ht.cells
 have hs := ht.sub
 have kp : (h ++ [AE.Obj.row 3 [p]])[h.length]? = some (.row 3 [p]) := by simp
 have low1 : Low h.length h (h ++ [AE.Obj.row 3 [p]]) := (Low.refl _ _).push (Nat.le_refl _)
 have hl1 : (h ++ [AE.Obj.row 3 [p]]).length = h.length + 1 := by simp
 generalize hH1 : h ++ [AE.Obj.row 3 [p]] = H1 at *
 have km : (H1 ++ [AE.Obj.row 2 [PV.agg [.int .i64 0, .int .i64 0]]])[H1.length]? = some (mRow 0 0) := by simp [mRow]
 have kp2 : (H1 ++ [AE.Obj.row 2 [PV.agg [.int .i64 0, .int .i64 0]]])[h.length]? = some (.row 3 [p]) := keepL kp
 have low2 : Low h.length h (H1 ++ [AE.Obj.row 2 [PV.agg [.int .i64 0, .int .i64 0]]]) := low1.push (by omega)
 generalize hH2 : H1 ++ [AE.Obj.row 2 [PV.agg [.int .i64 0, .int .i64 0]]] = H2 at *
 have lp : loadAt true 3 (.ptr h.length 0 0 1) H2 = some p := by rw [ld_at kp2]; exact hs
 obtain ⟨nd, dp, ws, ev, C, hw⟩ := countG_ev hT ht H2 H1.length 0 0 1 km (by omega) (by omega) (by omega)
 have km3 : (H2.set H1.length (mRow nd dp))[H1.length]? = some (mRow nd dp) := get_set km
 have kp3 : (H2.set H1.length (mRow nd dp))[h.length]? = some (.row 3 [p]) := get_set_ne kp2 (by omega)
 have low3 : Low h.length h (H2.set H1.length (mRow nd dp)) := low2.trans (.set (by omega))
 generalize hH3 : H2.set H1.length (mRow nd dp) = H3 at *
 have ov := overG_ev hT km3
 have lp3 : loadAt true 3 (.ptr h.length 0 0 1) H3 = some p := by rw [ld_at kp3]; exact hs
 have sh := shaped_ev hT ht H3
 have td := fun b ws' (hx : ∀ x ∈ ws', h.length ≤ x) => tidy_low (v := .bool b) (ws := ws') rfl rfl low3 hx
 have hww : ∀ x ∈ ws, h.length ≤ x := fun x hx => by have := hw x hx; omega
 by_cases hf : t.nodes ≤ 2000 ∧ t.deep ≤ 200
 · have o1 : (decide (2000 < nd) || decide (200 < dp)) = false := by
    rcases C with ⟨a1, a2, a3, a4⟩ | ⟨a1, _⟩
    · rw [decide_eq_false (by omega), decide_eq_false (by omega)]; rfl
    · exact absurd ⟨by omega, by omega⟩ a1
   have tb : treeB t = shapedF t := by simp [treeB, hf]
   rw [o1] at ov
   rw [tb]
   simp (disch := first | omega | decide | simp only [go_sem]) only [go_sem, hH1, c1, c3, List.length_cons, List.length_nil, hH2, lp, cb ev, cb ov, lp3, cb sh, hT.prim, primOf]
   exact tidy_low rfl rfl low3 (fun x hx => by
    repeat' first | exact hww x hx | (cases hx; done) | (rcases mem_wall hx with hx | hx))
 · have o1 : (decide (2000 < nd) || decide (200 < dp)) = true := by
    rcases C with ⟨a1, a2, _⟩ | ⟨_, _, a1, _⟩
    · exact absurd ⟨by omega, by omega⟩ hf
    · rcases a1 with a1 | a1 <;> simp [a1]
   have tb : treeB t = false := by
    unfold treeB
    rcases Nat.lt_or_ge 2000 t.nodes with h1 | h1
    · rw [decide_eq_false (by omega)]; rfl
    · rw [decide_eq_false (show ¬ t.deep ≤ 200 by omega), Bool.and_false]; rfl
   rw [o1] at ov
   rw [tb]
   simp (disch := first | omega | decide | simp only [go_sem]) only [go_sem, hH1, c1, c3, List.length_cons, List.length_nil, hH2, lp, cb ev, cb ov, hT.prim, primOf]
   exact tidy_low rfl rfl low3 (fun x hx => by
    repeat' first | exact hww x hx | (cases hx; done) | (rcases mem_wall hx with hx | hx))
include hT in
theorem treeE_ev {t : Tm} {p : PV} (ht : Enc t p) (h : List AE.Obj) : Ev T 125 [p] h (.val (.int .i64 (if treeB t = true then 0 else 4)), ⟨h, [], []⟩) := by
 refine Ev.walk (hT.sp _ (by decide)) ((hT.fn _).trans fn125) (hT.mode _) rfl ?_
 have c := treeG_ev hT ht
 obtain ⟨c1, c2, c3, c4⟩ := ht.cells
 have hs := ht.sub
 have low1 : Low h.length h (h ++ [AE.Obj.row 3 [p]]) := (Low.refl _ _).push (Nat.le_refl _)
 cases hb : treeB t
 · rw [hb] at c
   simp (disch := first | omega | decide | simp only [go_sem]) only [go_sem, hT.prim, primOf, c1, c3, hs, cb (c _)]
 · rw [hb] at c
   simp (disch := first | omega | decide | simp only [go_sem]) only [go_sem, hT.prim, primOf, c1, c3, hs, cb (c _)]
end Go.Proofs.Tryz
/- vals.Least: the operations, and the term. -/
namespace Go.Proofs.Tryz
open Go Go.AE
variable {T : Tbl} (hT : Std T) {H : List AE.Obj} {ws : List Nat} {ups : List (Nat × Nat)} {ko k7 k8 kz kb : Nat} {s : GSig} {z b : List Int}
include hT in
theorem least_b3 (hG : GOk s) (hL : LeastZ s.ops s.sorts.length z) {e : List PV} {Q : AExit → List PV → St → Prop} (L : LMem H ko k7 k8 kz kb s z b) (F : FixInv s.ops z b 0) {n0 : Nat} (hn0 : n0 ≤ kz) {h : List AE.Obj} (low : Low n0 h H) (hnH : n0 ≤ H.length) (hw : ∀ k ∈ ws, n0 ≤ k)
 (e2 : eget e 2 = .ptr ko 0 0 1) (e7 : eget e 7 = .ptr k7 0 0 1) (e8 : eget e 8 = .ptr k8 0 0 1) (e107 : eget e 107 = .int .i64 (z.length : Int)) (e108 : eget e 108 = .int .i64 0)
 (hQ : ∀ e' H' ws' b', Same (fun j => j = 16 ∨ 108 ≤ j) e e' → LMem H' ko k7 k8 kz kb s z b' → FixInv s.ops z b' z.length → Low n0 h H' → n0 ≤ H'.length → (∀ k ∈ ws', n0 ≤ k) → Q (.exit 6) e' ⟨H', ws', ups⟩) : wpC T (.loop a56b3) e ⟨H, ws, ups⟩ Q := by
 have hzl := hL.len
 have hO : ∀ o ∈ s.ops, okArgs o.args s.sorts.length := fun o ho => (hG.ops o ho).1
 have hnS := hG.nS
 have hnO := hG.nO
 refine wpC.loopM (fun d e' st => ∃ (k : Nat) (H' : List AE.Obj) (ws' : List Nat) (b' : List Int), k + d = z.length ∧ LMem H' ko k7 k8 kz kb s z b' ∧ FixInv s.ops z b' k ∧ Low n0 h H' ∧ n0 ≤ H'.length ∧ (∀ k ∈ ws', n0 ≤ k) ∧ Same (fun j => j = 16 ∨ 108 ≤ j) e e' ∧ eget e' 108 = .int .i64 (k : Int) ∧ st = ⟨H', ws', ups⟩) ?_ z.length _ _ ⟨0, H, ws, b, by omega, L, F, low, hnH, hw, Same.refl e, e108, rfl⟩
 clear L F low hnH hw
 rintro d e' st ⟨k, H, ws, b, hd, L, F, low, hnH, hw, hS, f108, rfl⟩
 have f2 := (hS 2 (by omega)).trans e2
 have f7 := (hS 7 (by omega)).trans e7
 have f8 := (hS 8 (by omega)).trans e8
 have f107 := (hS 107 (by omega)).trans e107
 by_cases hk : k < z.length
 · have hk1 : (k : Int) < (z.length : Int) := by omega
   have hkb : k < b.length := by rw [F.len]; exact hk
   have L1 := L.push (o := .row 1 [.int .i64 (k : Int)])
   have k16 : (H ++ [AE.Obj.row 1 [.int .i64 (k : Int)]])[H.length]? = some (.row 1 [.int .i64 (k : Int)]) := by simp
   have low1 : Low n0 h (H ++ [AE.Obj.row 1 [.int .i64 (k : Int)]]) := low.push hnH
   have hnH1 : n0 ≤ (H ++ [AE.Obj.row 1 [.int .i64 (k : Int)]]).length := by simp; omega
   have sb := fun ws => st_last (h := H) (ws := ws) (ups := ups) (sz := 1) (c := .int .i64 0) (v := .int .i64 (k : Int)) rfl ⟨rfl, rfl⟩ (by simp [PV.top])
   generalize hH1 : H ++ [AE.Obj.row 1 [.int .i64 (k : Int)]] = H1 at *
   have l8 := L1.l8
   have lo := L1.ops
   have l16 : loadAt false 1 (.ptr H.length 0 0 1) H1 = some (.int .i64 (k : Int)) := by rw [ld_at k16]; rfl
   have c139 := index139_ex hT (m := .any) (g := 140) (cap := [.ptr k8 0 0 1, .ptr k7 0 0 1, .ptr H.length 0 0 1]) (p := predB b z k) (h := H1) (by rw [hT.prim]; rfl) (ops := s.ops) (fun o ho => least1_ev hT L1 hL.ok F.len k16 hk (by rw [hzl]; exact hO o ho) (hG.ops o ho).2.2) (by omega)
   have st1 := fun ws => st_v (ws := ws) (ups := ups) (v := idxI (predB b z k) s.ops) L1.rb rfl hkb
   have L2 := L1.setB (b' := b.set k (idxI (predB b z k) s.ops)) (by simp)
   obtain ⟨o1, o2, o3, o4⟩ := L.ord
   have F2 := F.step hL hO hk
   have low2 : Low n0 h (H1.set kb (.row 1 ((b.set k (idxI (predB b z k) s.ops)).map encI))) := low1.trans (Low.set (by omega))
   simp (disch := first | omega | decide | simp only [go_sem]) only [go_sem, a56b3, f2, f7, f8, f107, f108, hk1, hkb, sb, hH1, l8, lo, l16, cb c139, st1, hT.prim, primOf]
   exact ⟨d - 1, by omega, k + 1, _, _, _, by omega, L2, F2, low2, by simpa using hnH1, wadd_low (by omega) (wadd_low hnH hw), hS.trans fun j hj => by simp (disch := omega) only [eget_eput_ne], rfl, rfl⟩
 · have hk1 : ¬ (k : Int) < (z.length : Int) := by omega
   have hkl : k = z.length := by omega
   subst hkl
   simp (disch := first | omega | decide | simp only [go_sem]) only [go_sem, a56b3, f107, f108, hk1]
   exact hQ _ _ _ b (hS.trans fun j hj => by simp (disch := omega) only [eget_eput_ne]) L F low hnH hw
structure BMem (H : List AE.Obj) (ko k8 kb k17 : Nat) (s : GSig) (b : List Int) : Prop where
 sg : H[ko]? = some (.row 2 [encSig s])
 b8 : H[k8]? = some (.row 1 [.aref kb 1 0 b.length b.length])
 rb : H[kb]? = some (.row 1 (b.map encI))
 fn : H[k17]? = some (.row 1 [.func (.func 141) [] [.ptr k8 0 0 1, .ptr ko 0 0 1, .ptr k17 0 0 1]])
variable {k17 : Nat}
theorem BMem.push {o : AE.Obj} (L : BMem H ko k8 kb k17 s b) : BMem (H ++ [o]) ko k8 kb k17 s b := ⟨keepL L.sg, keepL L.b8, keepL L.rb, keepL L.fn⟩
theorem enc_snoc {xs : List Tm} {es : List PV} (hl : es.length = xs.length) (he : ∀ (j : Nat) (x : Tm) (p : PV), xs[j]? = some x → es[j]? = some p → Enc x p) {x : Tm} {p : PV} (hx : Enc x p) : ∀ (j : Nat) (y : Tm) (q : PV), (xs ++ [x])[j]? = some y → (es ++ [p])[j]? = some q → Enc y q := fun j y q h1 h2 => by
 rcases Nat.lt_trichotomy j xs.length with h | h | h
 · rw [List.getElem?_append_left h] at h1
   rw [List.getElem?_append_left (by omega)] at h2
   exact he j y q h1 h2
 · subst h
   rw [List.getElem?_append_right (Nat.le_refl _), Nat.sub_self] at h1
   rw [← hl, List.getElem?_append_right (Nat.le_refl _), Nat.sub_self] at h2
   cases h1; cases h2
   exact hx
 · rw [List.getElem?_eq_none (by simp; omega)] at h1
   cases h1
include hT in
theorem build_ev (hG : GOk s) (hL : LeastZ s.ops s.sorts.length z) (F : FixInv s.ops z b z.length) : ∀ (d k : Nat), 0 < z.getD k 0 → z.getD k 0 ≤ 2000 → z.getD k 0 ≤ d → k < z.length → ∀ H, BMem H ko k8 kb k17 s b →
 ∃ p, Ev T 141 [.int .i64 (k : Int), .ptr k8 0 0 1, .ptr ko 0 0 1, .ptr k17 0 0 1] H (.val p, ⟨H, [], []⟩) ∧ (Enc (buildT s.ops z d k) p ∧ IsT p) := by
 intro d
 induction d with
 | zero => intro k h1 _ h3; omega
 | succ d ih =>
   intro k h1 h2 h3 hk H B
   obtain ⟨i, o, e1, e2, e3, e4, e5, e6⟩ := good_ex hL h1 h2
   obtain ⟨i', e1', hbi⟩ := F.done k hk h1 h2
   rw [e1] at e1'
   cases e1'
   rw [buildT_eq e1 e2]
   have hO := hG.ops o (List.mem_of_getElem? e2)
   obtain ⟨oa, _, ol⟩ := hO
   rw [← hL.len] at oa
   refine Ev.walkP (r := fun p => (.val p, ⟨H, [], []⟩)) (hT.sp _ (by decide)) ((hT.fn _).trans fn141) (hT.mode _) rfl ?_
   have hkb : k < b.length := by rw [F.len]; exact hk
   have go : (s.ops.map encOp)[i]? = some (encOp o) := by rw [List.getElem?_map, e2]; rfl
   have B1 := B.push (o := .row 3 [.agg [.int .i64 0, .int .i64 0, .slice 0 [] .nil]])
   have k51 : (H ++ [AE.Obj.row 3 [.agg [.int .i64 0, .int .i64 0, .slice 0 [] .nil]]])[H.length]? = some (.row 3 [.agg [.int .i64 0, .int .i64 0, .slice 0 [] .nil]]) := by simp
   have low1 : Low H.length H (H ++ [AE.Obj.row 3 [.agg [.int .i64 0, .int .i64 0, .slice 0 [] .nil]]]) := (Low.refl _ _).push (Nat.le_refl _)
   have hn1 : H.length < (H ++ [AE.Obj.row 3 [.agg [.int .i64 0, .int .i64 0, .slice 0 [] .nil]]]).length := by simp
   generalize hH1 : H ++ [AE.Obj.row 3 [.agg [.int .i64 0, .int .i64 0, .slice 0 [] .nil]]] = H1 at *
   have l8 : loadAt false 1 (.ptr k8 0 0 1) H1 = some (.aref kb 1 0 b.length b.length) := by rw [ld_at B1.b8]; rfl
   have lb := ld_v (i := k) B1.rb rfl hkb
   rw [hbi] at lb
   have B2 := B1.push (o := .row 3 [.agg [.int .i64 2, .int .i64 (i : Int), .slice 0 [] .nil]])
   have k52 : (H1 ++ [AE.Obj.row 3 [.agg [.int .i64 2, .int .i64 (i : Int), .slice 0 [] .nil]]])[H.length]? = some (.row 3 [.agg [.int .i64 0, .int .i64 0, .slice 0 [] .nil]]) := keepL k51
   have k62 : (H1 ++ [AE.Obj.row 3 [.agg [.int .i64 2, .int .i64 (i : Int), .slice 0 [] .nil]]])[H1.length]? = some (.row 3 [.agg [.int .i64 2, .int .i64 (i : Int), .slice 0 [] .nil]]) := by simp
   have low2 : Low H.length H (H1 ++ [AE.Obj.row 3 [.agg [.int .i64 2, .int .i64 (i : Int), .slice 0 [] .nil]]]) := low1.push (by omega)
   have hn2 : H.length ≤ (H1 ++ [AE.Obj.row 3 [.agg [.int .i64 2, .int .i64 (i : Int), .slice 0 [] .nil]]]).length := by simp; omega
   have sb := fun ws => st_box (h := H1) (ws := ws) (ups := []) (z := .agg [(.int .i64 0), (.int .i64 0), (.slice 0 [] .nil)]) (sz := 3) (c := .agg [.int .i64 2, .int .i64 (i : Int), .slice 0 [] .nil]) rfl rfl rfl rfl ⟨_, rfl⟩ ⟨_, rfl⟩
   have fc : fillC [PV.int .i64 0, .int .i64 0, .slice 0 [] .nil] [(0, 1, .int .i64 2), (1, 1, .int .i64 (i : Int))] = some [.int .i64 2, .int .i64 (i : Int), .slice 0 [] .nil] := rfl
   generalize hH2 : H1 ++ [AE.Obj.row 3 [.agg [.int .i64 2, .int .i64 (i : Int), .slice 0 [] .nil]]] = H2 at *
   have lo2 : loadAt false 1 (.ptr ko 0 1 1) H2 = some (.slice 3 (s.ops.map encOp) .any) := by rw [ld_at B2.sg]; rfl
   have l61 : loadAt false 1 (.ptr H1.length 0 1 1) H2 = some (.int .i64 (i : Int)) := by rw [ld_at k62]; rfl
   have la : loadAt false 1 (.iptr (encOp o) 1) H2 = some (.slice 1 (o.args.map encI) .any) := rfl
   have lenb : o.args.length < 900 := ol
   have go2 : ∀ (k : Nat) (sz : Nat) (r : List PV), H[k]? = some (.row sz r) → H2[k]? = some (.row sz r) := fun k sz r h => by rw [← hH2, ← hH1]; exact keepL (keepL h)
   simp (disch := first | omega | decide | simp only [go_sem]) only [go_sem, hH1, hkb, l8, lb, fc, sb, hH2, lo2, l61, go, la, List.length_cons, List.length_nil]
   refine wpC.loopM (fun g e st => ∃ (j : Nat) (v : PV) (es : List PV) (Hx : List AE.Obj) (ws : List Nat) (ups : List (Nat × Nat)), j + g = o.args.length ∧ es.length = j ∧ (∀ x, x ∈ es → IsT x) ∧ (∀ (a : Nat) (x : Tm) (p : PV), ((o.args.take j).map fun a => buildT s.ops z d a.toNat)[a]? = some x → es[a]? = some p → Enc x p) ∧ AppL Hx v es H.length ∧ Hx[H1.length]? = some (.row 3 [.agg [.int .i64 2, .int .i64 (i : Int), v]]) ∧ (∀ (a sz : Nat) (r : List PV), a ≠ H1.length → H2[a]? = some (.row sz r) → Hx[a]? = some (.row sz r)) ∧ Low H.length H Hx ∧ H.length ≤ Hx.length ∧ (∀ x ∈ ws, H.length ≤ x) ∧ (∀ x ∈ ups, H.length ≤ x.1) ∧
    (eget e 3 = .ptr k17 0 0 1 ∧ eget e 5 = .ptr H.length 0 0 1 ∧ eget e 6 = .ptr H1.length 0 0 1 ∧ eget e 20 = .slice 1 (o.args.map encI) .any ∧ eget e 21 = .int .i64 (o.args.length : Int) ∧ eget e 22 = .int .i64 (j : Int)) ∧ st = ⟨Hx, ws, ups⟩) ?_ o.args.length _ _
    ⟨0, .slice 0 [] .nil, [], H2, _, [], by omega, rfl, by simp, by simp, .inl ⟨rfl, rfl⟩, k62, fun _ _ _ _ h => h, low2, hn2, wadd_low (by omega) (by simp), by simp, by simp only [go_sem, Int.natCast_zero, List.length_map], rfl⟩
   rintro g e st ⟨j, v, es, Hx, ws, ups, hg, hel, hes, hen, A, kx, keep, low, hlo, hw, hu, ⟨f3, f5, f6, f20, f21, f22⟩, rfl⟩
   have hne : H1.length ≠ ko ∧ H1.length ≠ k8 ∧ H1.length ≠ kb ∧ H1.length ≠ k17 ∧ H1.length ≠ H.length := by
    have q1 := (List.getElem?_eq_some_iff.1 B.sg).1
    have q2 := (List.getElem?_eq_some_iff.1 B.b8).1
    have q3 := (List.getElem?_eq_some_iff.1 B.rb).1
    have q4 := (List.getElem?_eq_some_iff.1 B.fn).1
    omega
   have Bx : BMem Hx ko k8 kb k17 s b := ⟨keep _ _ _ (Ne.symm hne.1) B2.sg, keep _ _ _ (Ne.symm hne.2.1) B2.b8, keep _ _ _ (Ne.symm hne.2.2.1) B2.rb, keep _ _ _ (Ne.symm hne.2.2.2.1) B2.fn⟩
   have kx5 := keep _ _ _ (Ne.symm hne.2.2.2.2) k52
   by_cases hj : j < o.args.length
   · have hj1 : (j : Int) < (o.args.length : Int) := by omega
     obtain ⟨g1, g2⟩ := oa.get hj
     have ham : ((o.args.getD j 0).toNat : Int) ∈ o.args := List.mem_of_getElem? g1
     obtain ⟨z1, z2⟩ := e6 _ ham
     have htk : (o.args.take (j + 1)).map (fun a => buildT s.ops z d a.toNat) = ((o.args.take j).map fun a => buildT s.ops z d a.toNat) ++ [buildT s.ops z d (o.args.getD j 0).toNat] := by
      rw [List.take_add_one, g1, List.map_append]; rfl
     generalize ha : (o.args.getD j 0).toNat = a at *
     have g3 : (o.args.map encI)[j]? = some (.int .i64 (a : Int)) := by rw [List.getElem?_map, g1]; rfl
     simp only [zAt, Int.toNat_natCast] at z1 z2
     obtain ⟨p, hp, hx, tp⟩ := ih a z1 (by omega) (by omega) g2 Hx Bx
     obtain ⟨v', H', ws', ap, A', ⟨kt, hv'⟩, keep', low', hw'⟩ := append_one A tp (by omega) hlo
     have hkx' := keep' _ _ _ kx
     have lv : loadAt false 1 (.ptr H1.length 0 2 1) Hx = some v := by rw [ld_at kx]; rfl
     have l17 : loadAt false 1 (.ptr k17 0 0 1) Hx = some (.func (.func 141) [] [.ptr k8 0 0 1, .ptr ko 0 0 1, .ptr k17 0 0 1]) := by rw [ld_at Bx.fn]; rfl
     have fe : fillE 3 (List.replicate 1 (.agg [(.int .i64 0), (.int .i64 0), (.slice 0 [] .nil)])) [(0, p)] = some [p] := by
      obtain ⟨c1, c2, c3, c4⟩ := tp.cells
      simp [fillE, c1, c3]
     subst hv'
     obtain ⟨ups', sv, hups⟩ := st_f2 (ws := []) (ups := ups) (kt := kt) (es := es ++ [p]) hkx'
     simp (disch := first | omega | decide | simp only [go_sem]) only [go_sem, a141b0, f3, f5, f6, f20, f21, f22, hj1, g3, lv, l17, cb hp, hT.prim, primOf, fe, ap, sv]
     refine ⟨g - 1, by omega, j + 1, .slice 3 (es ++ [p]) (.tok kt), es ++ [p], _, _, _, by omega, by simp [hel], fun x hx => ?_, ?_, A'.set hkx', get_set hkx', fun a sz r ha h => get_set_ne (keep' _ _ _ (keep _ _ _ ha h)) (Ne.symm ha), (low.trans low').trans (.set (by omega)), by have := low'.len; simp; omega, fun x hx => ?_, fun x hx => ?_, rfl, rfl⟩
     · rcases List.mem_append.1 hx with h | h
       · exact hes x h
       · rw [List.mem_singleton.1 h]; exact tp
     · rw [htk]
       exact enc_snoc (by simp [hel]; omega) hen hx
     · rcases mem_wall hx with h | h
       · rcases mem_wadd h with h | h
         · omega
         · cases h
       · rcases mem_wall h with h | h
         · exact hw' x h
         · exact hw x h
     · rcases hups x hx with h | h
       · exact hu x h
       · omega
   · have hj1 : ¬ (j : Int) < (o.args.length : Int) := by omega
     have hjl : j = o.args.length := by omega
     rw [hjl, List.take_length] at hen
     obtain ⟨sz, m, rfl, hsz⟩ := A.slice
     obtain ⟨ups', sv, hups⟩ := st_k3 (ws := ws) (ups := ups) (x := 2) (y := (i : Int)) (sz := sz) (es := es) (m := m) kx5
     have lx : loadAt true 3 (.ptr H1.length 0 0 1) Hx = some (PV.agg [.int .i64 2, .int .i64 (i : Int), .slice sz es m]) := by rw [ld_at kx]; rfl
     have ll : loadAt true 3 (.ptr H.length 0 0 1) (Hx.set H.length (.row 3 [PV.agg [.int .i64 2, .int .i64 (i : Int), .slice sz es m]])) = some (PV.agg [.int .i64 2, .int .i64 (i : Int), .slice sz es m]) := by rw [ld_at (get_set kx5)]; rfl
     obtain ⟨pes, wes⟩ := weaks_terms hes
     simp (disch := first | omega | decide | simp only [go_sem]) only [go_sem, a141b0, f5, f6, f21, f22, hj1, lx, sv, resv, ll]
     refine ⟨.agg [.int .i64 2, .int .i64 (i : Int), .slice sz es .any], ?_, .mk _ _ _ sz es hsz (by simp [hel]; omega) hen, .mk _ _ sz es hsz (by omega) hes⟩
     rw [tidy_ups (by simp [PV.pure, pures, pes]) (low.trans (.set (Nat.le_refl _))) (fun x hx => ?_) (fun x hx => ?_)]
     · simp [PV.weak, weaks, wes]
     · rcases mem_wadd hx with h | h
       · omega
       · exact hw x h
     · rcases hups x hx with h | h
       · exact hu x h
       · omega
end Go.Proofs.Tryz
/- Functions of ValsNumbers, as the evaluator sees them: printed by tools/Print.lean. -/
namespace Go.Proofs.Tryz
open Go Go.AE
def a3 : AFunc := ⟨5, 76, (.seq (.reg [
 rp 5 (.box 2 (.t 0)),
 rp 9 (.box 3 (.t 4)),
 ro 10 (.move (.c (.bool false)))])
 (.seq (.seq (.reg [
 rp 19 (.call (.f 15) []),
 ro 20 (.un .not (.t 19))])
 (.cond (.t 20)
 (.seq (.reg [
 ro 10 (.move (.c (.bool false)))])
 .ret)
 .skip))
 (.seq (.seq (.reg [
 rp 21 (.load true 2 (.t 5)),
 rp 22 (.call (.f 16) [(.t 21)]),
 ro 23 (.un .not (.t 22)),
 mv 24 23,
 rh 25 (.load true 3 (.t 9)) 24 false,
 rg 26 (.buildSlice 3 (.agg [(.int .i64 0), (.int .i64 0), (.slice 0 [] .nil)]) 1 [(0, (.t 25))]) 24 false,
 rh 27 (.call (.f 17) [(ci 100), (.t 26)]) 24 false,
 rg 28 (.un .not (.t 27)) 24 false,
 ro 29 (.pick (.t 24) (.c (.bool true)) (.t 28))])
 (.cond (.t 29)
 (.seq (.reg [
 ro 10 (.move (.c (.bool true)))])
 .ret)
 .skip))
 (.seq (.reg [
 rp 31 (.load true 2 (.t 5)),
 mv 32 1,
 mv 33 2,
 mv 34 3,
 rp 35 (.call (.f 18) [(.t 31), (.t 32), (.t 33), (.t 34)]),
 mv 30 35,
 ro 36 (.extract (.t 30) 0),
 ro 37 (.extract (.t 30) 1),
 rp 11 (.box 3 (.c (.agg [(.int .i64 0), (.int .i64 0), (.slice 0 [] .nil)]))),
 wr (.store 3 (.t 11) (.t 36)) 0 0 false,
 mv 12 37])
 (.seq (.reg [
 rp 39 (.load true 2 (.t 5)),
 mv 40 1,
 mv 41 2,
 mv 42 3,
 rp 43 (.call (.f 19) [(.t 39), (.t 40), (.t 41), (.t 42)]),
 mv 38 43,
 ro 44 (.extract (.t 38) 0),
 ro 45 (.extract (.t 38) 1),
 rp 13 (.box 3 (.c (.agg [(.int .i64 0), (.int .i64 0), (.slice 0 [] .nil)]))),
 wr (.store 3 (.t 13) (.t 44)) 0 0 false,
 mv 14 45])
 (.seq (.reg [
 rp 47 (.load true 2 (.t 5)),
 rp 48 (.load true 3 (.t 9)),
 rp 49 (.call (.f 20) [(.t 47), (.t 48)]),
 mv 46 49,
 ro 50 (.extract (.t 46) 0),
 ro 51 (.extract (.t 46) 1),
 mv 15 50,
 mv 16 51])
 (.seq (.reg [
 rp 53 (.load true 2 (.t 5)),
 rp 54 (.load true 3 (.t 9)),
 rp 55 (.call (.f 21) [(.t 53), (.t 54)]),
 mv 52 55,
 ro 56 (.extract (.t 52) 0),
 ro 57 (.extract (.t 52) 1),
 mv 17 56,
 mv 18 57])
 (.seq (.reg [
 rp 58 (.load true 3 (.t 11)),
 rp 59 (.load true 3 (.t 13)),
 rp 60 (.call (.f 22) [(.t 58), (.t 59)]),
 mv 61 60,
 rg 62 (.move (.t 12)) 61 true,
 rg 63 (.move (.t 14)) 61 true,
 rg 64 (.bin .eql (.t 62) (.t 63)) 61 true,
 ro 65 (.pick (.t 61) (.t 64) (.c (.bool false))),
 mv 66 65,
 rg 67 (.move (.t 15)) 66 true,
 rg 68 (.move (.t 17)) 66 true,
 rg 69 (.bin .eql (.t 67) (.t 68)) 66 true,
 ro 70 (.pick (.t 66) (.t 69) (.c (.bool false))),
 mv 71 70,
 rg 72 (.move (.t 16)) 71 true,
 rg 73 (.move (.t 18)) 71 true,
 rg 74 (.bin .eql (.t 72) (.t 73)) 71 true,
 ro 75 (.pick (.t 71) (.t 74) (.c (.bool false))),
 mv 10 75])
 .ret)))))))), [.t 10]⟩
def a94b0 : ACode :=
 (.seq (.seq (.reg [
 mv 13 11,
 ro 14 (.fieldAddr 1 (.t 5)),
 rp 15 (.load false 1 (.t 14)),
 ro 16 (.lenL (.t 15)),
 ro 17 (.bin .lss (.t 13) (.t 16))])
 (.cond (.t 17)
 .skip
 (.exit 0)))
 (.seq (.block 1 (.seq (.seq (.reg [
 ro 20 (.fieldAddr 1 (.t 5)),
 rp 21 (.load false 1 (.t 20)),
 mv 22 11,
 ro 23 (.idxAddr 3 (.t 21) (.t 22)),
 ro 24 (.fieldAddr 2 (.t 23)),
 rp 25 (.load false 1 (.t 24)),
 mv 26 2,
 ro 27 (.bin .neq (.t 25) (.t 26))])
 (.cond (.t 27)
 (.exit 1)
 .skip))
 (.seq (.reg [
 ro 28 (.fieldAddr 1 (.t 5)),
 rp 29 (.load false 1 (.t 28)),
 mv 30 11,
 ro 31 (.idxAddr 3 (.t 29) (.t 30)),
 ro 32 (.fieldAddr 1 (.t 31)),
 rp 33 (.load false 1 (.t 32)),
 mv 34 3,
 ro 35 (.bin .sub (.t 34) (ci 1)),
 mv 36 1,
 rp 37 (.call (.f 166) [(.t 33), (.t 35), (.t 36)]),
 mv 12 37])
 (.seq (.seq (.reg [
 mv 38 4,
 mv 39 12,
 ro 40 (.bin .lss (.t 38) (.t 39))])
 (.cond (.t 40)
 (.seq (.regD [
 mv 41 11,
 rd 42 (.load true 2 (.t 5)) true 1 0 false,
 rd 43 (.move (.t 1)) false 2 0 false,
 rd 44 (.fieldAddr 1 (.t 5)) false 3 0 false,
 rd 45 (.load false 1 (.t 44)) true 4 8 false,
 rd 46 (.move (.t 11)) false 5 0 false,
 rd 47 (.idxAddr 3 (.t 45) (.t 46)) false 6 56 false,
 rd 48 (.fieldAddr 1 (.t 47)) false 7 120 false,
 rd 49 (.load false 1 (.t 48)) true 8 248 false,
 rd 50 (.move (.t 3)) false 9 0 false,
 rd 51 (.bin .sub (.t 50) (ci 1)) false 10 512 false,
 rd 52 (.move (.t 4)) false 11 0 true,
 rd 53 (.call (.f 167) [(.t 42), (.t 43), (.t 49), (.t 51), (.t 52)]) true 12 4094 true,
 rd 54 (.build [(.int .i64 0), (.int .i64 0), (.slice 0 [] .nil)] [(0, 1, (ci 2)), (1, 1, (.t 41)), (2, 1, (.t 53))]) false 13 8191 true,
 wr (.store 3 (.t 10) (.t 54)) 14 16383 true])
 .ret)
 .skip))
 (.reg [
 mv 55 4,
 mv 56 12,
 ro 57 (.bin .sub (.t 55) (.t 56)),
 mv 4 57])))))
 (.reg [
 mv 18 11,
 ro 19 (.bin .add (.t 18) (ci 1)),
 mv 11 19])))
def a94 : AFunc := ⟨5, 59, (.seq (.reg [
 rp 5 (.box 2 (.t 0)),
 rp 10 (.box 3 (.c (.agg [(.int .i64 0), (.int .i64 0), (.slice 0 [] .nil)])))])
 (.seq (.seq (.reg [
 ro 11 (.move (ci 0))])
 (.block 0 (.loop a94b0)))
 (.seq (.reg [
 ro 58 (.build [(.int .i64 0), (.int .i64 0), (.slice 0 [] .nil)] []),
 wr (.store 3 (.t 10) (.t 58)) 0 0 false])
 .ret))), [.cell 10 true 3]⟩
theorem fn94 : fnOf 94 = some a94 := by kernel_rfl
def a167b0 : ACode :=
 (.seq (.seq (.reg [
 mv 34 16,
 mv 35 11,
 ro 36 (.lenL (.t 35)),
 ro 37 (.bin .lss (.t 34) (.t 36))])
 (.cond (.t 37)
 .skip
 (.exit 2)))
 (.seq (.block 3 (.regD [
 mv 40 15,
 rd 41 (.move (.t 1)) false 1 0 false,
 rd 42 (.move (.t 11)) false 2 0 false,
 rd 43 (.move (.t 16)) false 3 0 false,
 rd 44 (.idxAddr 1 (.t 42) (.t 43)) false 4 12 false,
 rd 45 (.load false 1 (.t 44)) true 5 28 false,
 rd 46 (.idxAddr 1 (.t 41) (.t 45)) false 6 62 false,
 rd 47 (.load false 1 (.t 46)) true 7 126 false,
 rd 48 (.move (.t 2)) false 8 0 false,
 rd 49 (.move (.t 16)) false 9 0 true,
 rd 50 (.idxAddr 1 (.t 48) (.t 49)) false 10 768 true,
 rd 51 (.load false 1 (.t 50)) true 11 1792 true,
 rd 52 (.idxAddr 1 (.t 47) (.t 51)) false 12 4094 true,
 rd 53 (.load false 1 (.t 52)) true 13 8190 true,
 rd 54 (.call (.f 174) [(.t 40), (.t 53)]) true 14 16383 true,
 rd 15 (.move (.t 54)) false 15 32767 true]))
 (.reg [
 mv 38 16,
 ro 39 (.bin .add (.t 38) (ci 1)),
 mv 16 39])))
def a167b1 : ACode :=
 (.seq (.seq (.reg [
 mv 26 14,
 mv 27 11,
 ro 28 (.lenL (.t 27)),
 ro 29 (.bin .lss (.t 26) (.t 28))])
 (.cond (.t 29)
 .skip
 (.exit 0)))
 (.seq (.block 1 (.seq (.reg [
 ro 15 (.move (ci 1))])
 (.seq (.seq (.reg [
 mv 32 14,
 ro 33 (.bin .add (.t 32) (ci 1)),
 mv 16 33])
 (.block 2 (.loop a167b0)))
 (.seq (.reg [
 mv 55 12,
 mv 56 15,
 ro 57 (.bin .quo (.t 55) (.t 56)),
 mv 17 57])
 (.seq (.reg [
 mv 58 12,
 mv 59 17,
 mv 60 15,
 ro 61 (.bin .mul (.t 59) (.t 60)),
 ro 62 (.bin .sub (.t 58) (.t 61)),
 mv 12 62])
 (.regD [
 mv 63 13,
 rd 64 (.load true 2 (.t 5)) true 1 0 false,
 rd 65 (.move (.t 1)) false 2 0 false,
 rd 66 (.move (.t 2)) false 3 0 false,
 rd 67 (.move (.t 14)) false 4 0 false,
 rd 68 (.idxAddr 1 (.t 66) (.t 67)) false 5 24 false,
 rd 69 (.load false 1 (.t 68)) true 6 56 false,
 rd 70 (.move (.t 11)) false 7 0 false,
 rd 71 (.move (.t 14)) false 8 0 false,
 rd 72 (.idxAddr 1 (.t 70) (.t 71)) false 9 384 false,
 rd 73 (.load false 1 (.t 72)) true 10 896 false,
 rd 74 (.move (.t 17)) false 11 0 true,
 rd 75 (.call (.f 94) [(.t 64), (.t 65), (.t 69), (.t 73), (.t 74)]) true 12 4094 true,
 rd 76 (.buildSlice 3 (.agg [(.int .i64 0), (.int .i64 0), (.slice 0 [] .nil)]) 1 [(0, (.t 75))]) false 13 8190 true,
 rd 77 (.append 3 40 (.t 63) (.t 76)) true 14 16383 true,
 rd 13 (.move (.t 77)) false 15 32767 true]))))))
 (.reg [
 mv 30 14,
 ro 31 (.bin .add (.t 30) (ci 1)),
 mv 14 31])))
def a167 : AFunc := ⟨5, 79, (.seq (.reg [
 rp 5 (.box 2 (.t 0)),
 ro 10 (.move (.c (.slice 0 [] .nil)))])
 (.seq (.reg [
 mv 19 1,
 mv 20 2,
 mv 21 3,
 mv 22 4,
 rp 23 (.call (.f 209) [(.t 19), (.t 20), (.t 21), (.t 22)]),
 mv 18 23,
 ro 24 (.extract (.t 18) 0),
 ro 25 (.extract (.t 18) 1),
 mv 11 24,
 mv 12 25])
 (.seq (.reg [
 ro 13 (.move (.c (.slice 0 [] .nil)))])
 (.seq (.seq (.reg [
 ro 14 (.move (ci 0))])
 (.block 0 (.loop a167b1)))
 (.seq (.reg [
 mv 78 13,
 mv 10 78])
 .ret))))), [.t 10]⟩
theorem fn167 : fnOf 167 = some a167 := by kernel_rfl
def a209b0 : ACode :=
 (.seq (.seq (.reg [
 mv 21 13,
 mv 22 0,
 ro 23 (.lenL (.t 22)),
 ro 24 (.bin .lss (.t 21) (.t 23)),
 mv 25 24,
 rg 26 (.move (.t 13)) 25 true,
 rg 27 (.move (.t 2)) 25 true,
 rg 28 (.bin .leq (.t 26) (.t 27)) 25 true,
 ro 29 (.pick (.t 25) (.t 28) (.c (.bool false)))])
 (.cond (.t 29)
 .skip
 (.exit 2)))
 (.seq (.block 3 (.seq (.regD [
 mv 32 11,
 rd 33 (.move (.t 0)) false 1 0 false,
 rd 34 (.move (.t 13)) false 2 0 false,
 rd 35 (.idxAddr 1 (.t 33) (.t 34)) false 3 6 false,
 rd 36 (.load false 1 (.t 35)) true 4 14 false,
 rd 37 (.move (.t 1)) false 5 0 false,
 rd 38 (.move (.t 12)) false 6 0 false,
 rd 39 (.idxAddr 1 (.t 37) (.t 38)) false 7 96 false,
 rd 40 (.load false 1 (.t 39)) true 8 224 false,
 rd 41 (.idxAddr 1 (.t 36) (.t 40)) false 9 510 false,
 rd 42 (.load false 1 (.t 41)) true 10 1022 false,
 rd 43 (.call (.f 174) [(.t 32), (.t 42)]) true 11 2047 false,
 rd 44 (.move (.t 1)) false 12 0 false,
 rd 45 (.move (.t 12)) false 13 0 false,
 rd 46 (.bin .add (.t 45) (ci 1)) false 14 8192 false,
 rd 47 (.slice 1 (.t 44) (some (.t 46)) none none) false 15 28672 false,
 rd 48 (.move (.t 2)) false 16 0 false,
 rd 49 (.move (.t 13)) false 17 0 false,
 rd 50 (.bin .sub (.t 48) (.t 49)) false 18 196608 false,
 rd 51 (.move (.t 0)) false 19 0 true,
 rd 52 (.call (.f 166) [(.t 47), (.t 50), (.t 51)]) true 20 1048575 true,
 rd 53 (.call (.f 174) [(.t 43), (.t 52)]) true 21 2097151 true,
 rd 14 (.move (.t 53)) false 22 4194303 true])
 (.seq (.seq (.reg [
 mv 54 3,
 mv 55 14,
 ro 56 (.bin .lss (.t 54) (.t 55))])
 (.cond (.t 56)
 (.seq (.reg [
 mv 57 10,
 mv 58 13,
 ro 59 (.buildSlice 1 (.int .i64 0) 1 [(0, (.t 58))]),
 rp 60 (.append 1 8 (.t 57) (.t 59)),
 mv 10 60])
 (.seq (.regD [
 mv 61 11,
 rd 62 (.move (.t 0)) false 1 0 false,
 rd 63 (.move (.t 13)) false 2 0 false,
 rd 64 (.idxAddr 1 (.t 62) (.t 63)) false 3 6 false,
 rd 65 (.load false 1 (.t 64)) true 4 14 false,
 rd 66 (.move (.t 1)) false 5 0 false,
 rd 67 (.move (.t 12)) false 6 0 true,
 rd 68 (.idxAddr 1 (.t 66) (.t 67)) false 7 96 true,
 rd 69 (.load false 1 (.t 68)) true 8 224 true,
 rd 70 (.idxAddr 1 (.t 65) (.t 69)) false 9 510 true,
 rd 71 (.load false 1 (.t 70)) true 10 1022 true,
 rd 72 (.call (.f 174) [(.t 61), (.t 71)]) true 11 2047 true,
 rd 11 (.move (.t 72)) false 12 4095 true])
 (.seq (.reg [
 mv 73 2,
 mv 74 13,
 ro 75 (.bin .sub (.t 73) (.t 74)),
 mv 2 75])
 (.exit 2))))
 .skip))
 (.reg [
 mv 76 3,
 mv 77 14,
 ro 78 (.bin .sub (.t 76) (.t 77)),
 mv 3 78]))))
 (.reg [
 mv 30 13,
 ro 31 (.bin .add (.t 30) (ci 1)),
 mv 13 31])))
def a209b1 : ACode :=
 (.seq (.seq (.reg [
 mv 15 12,
 mv 16 1,
 ro 17 (.lenL (.t 16)),
 ro 18 (.bin .lss (.t 15) (.t 17))])
 (.cond (.t 18)
 .skip
 (.exit 0)))
 (.seq (.block 1 (.seq (.seq (.reg [
 ro 13 (.move (ci 1))])
 (.block 2 (.loop a209b0)))
 (.seq (.reg [
 mv 79 10,
 ro 80 (.lenL (.t 79)),
 mv 81 12,
 ro 82 (.bin .add (.t 81) (ci 1)),
 ro 83 (.bin .neq (.t 80) (.t 82))])
 (.cond (.t 83)
 (.seq (.reg [
 mv 84 10,
 mv 85 3,
 mv 8 84,
 mv 9 85])
 .ret)
 .skip))))
 (.reg [
 mv 19 12,
 ro 20 (.bin .add (.t 19) (ci 1)),
 mv 12 20])))
def a209 : AFunc := ⟨4, 88, (.seq (.reg [
 ro 8 (.move (.c (.slice 0 [] .nil))),
 ro 9 (.move (ci 0))])
 (.seq (.reg [
 ro 10 (.move (.c (.slice 0 [] .nil)))])
 (.seq (.reg [
 ro 11 (.move (ci 1))])
 (.seq (.seq (.reg [
 ro 12 (.move (ci 0))])
 (.block 0 (.loop a209b1)))
 (.seq (.reg [
 mv 86 10,
 mv 87 3,
 mv 8 86,
 mv 9 87])
 .ret))))), [.t 8, .t 9]⟩
theorem fn209 : fnOf 209 = some a209 := by kernel_rfl
end Go.Proofs.Tryz
/- The specification's trees: how many nodes, how deep, all right. -/
namespace Go.Proofs.Tryz
open Go Go.AE
variable {T : Tbl} (hT : Std T) {s : GSig}
end Go.Proofs.Tryz
/- The specification's trees and terms: all nodes right; the sort. -/
namespace Go.Proofs.Tryz
open Go Go.AE
variable {T : Tbl} (hT : Std T) {s : GSig}
end Go.Proofs.Tryz
/- Functions of the specification as the evaluator has them: printed. -/
namespace Go.Proofs.Tryz
open Go Go.AE
def a97 : AFunc := ⟨1, 6, (.seq (.reg [
 rp 1 (.box 2 (.t 0)),
 ro 2 (.move (ci 0))])
 (.seq (.seq (.reg [
 rp 3 (.load true 2 (.t 1)),
 rp 4 (.call (.f 168) [(.t 3)]),
 ro 5 (.un .not (.t 4))])
 (.cond (.t 5)
 (.seq (.reg [
 ro 2 (.move (ci 40))])
 .ret)
 .skip))
 (.seq (.reg [
 ro 2 (.move (ci 0))])
 .ret))), [.t 2]⟩
theorem fn97 : fnOf 97 = some a97 := by kernel_rfl
def a168b0 : ACode :=
 (.seq (.seq (.reg [
 mv 40 4,
 mv 41 3,
 ro 42 (.bin .lss (.t 40) (.t 41))])
 (.cond (.t 42)
 .skip
 (.exit 2)))
 (.seq (.block 3 (.seq (.regD [
 ro 45 (.fieldAddr 0 (.t 1)),
 rd 46 (.load false 1 (.t 45)) true 1 1 false,
 rd 47 (.move (.t 4)) false 2 0 false,
 rd 48 (.idxAddr 1 (.t 46) (.t 47)) false 3 7 false,
 rd 49 (.load false 1 (.t 48)) true 4 15 false,
 rd 50 (.fieldAddr 0 (.t 1)) false 5 0 false,
 rd 51 (.load false 1 (.t 50)) true 6 32 false,
 rd 52 (.move (.t 3)) false 7 0 true,
 rd 53 (.idxAddr 1 (.t 51) (.t 52)) false 8 224 true,
 rd 54 (.load false 1 (.t 53)) true 9 480 true,
 rd 55 (.bin .eql (.t 49) (.t 54)) false 10 1023 true])
 (.cond (.t 55)
 (.seq (.reg [
 ro 2 (.move (.c (.bool false)))])
 .ret)
 .skip)))
 (.reg [
 mv 43 4,
 ro 44 (.bin .add (.t 43) (ci 1)),
 mv 4 44])))
def a168b1 : ACode :=
 (.seq (.seq (.reg [
 mv 17 3,
 ro 18 (.fieldAddr 0 (.t 1)),
 rp 19 (.load false 1 (.t 18)),
 ro 20 (.lenL (.t 19)),
 ro 21 (.bin .lss (.t 17) (.t 20))])
 (.cond (.t 21)
 .skip
 (.exit 0)))
 (.seq (.block 1 (.seq (.seq (.reg [
 ro 24 (.fieldAddr 0 (.t 1)),
 rp 25 (.load false 1 (.t 24)),
 mv 26 3,
 ro 27 (.idxAddr 1 (.t 25) (.t 26)),
 rp 28 (.load false 1 (.t 27)),
 rp 29 (.call (.f 210) [(.t 28)]),
 ro 30 (.un .not (.t 29)),
 mv 31 30,
 rg 32 (.fieldAddr 0 (.t 1)) 31 false,
 rh 33 (.load false 1 (.t 32)) 31 false,
 rg 34 (.move (.t 3)) 31 false,
 rg 35 (.idxAddr 1 (.t 33) (.t 34)) 31 false,
 rh 36 (.load false 1 (.t 35)) 31 false,
 rh 37 (.call (.f 211) [(.t 36)]) 31 false,
 rg 38 (.bin .gtr (.t 37) (ci 0)) 31 false,
 ro 39 (.pick (.t 31) (.c (.bool true)) (.t 38))])
 (.cond (.t 39)
 (.seq (.reg [
 ro 2 (.move (.c (.bool false)))])
 .ret)
 .skip))
 (.seq (.reg [
 ro 4 (.move (ci 0))])
 (.block 2 (.loop a168b0)))))
 (.reg [
 mv 22 3,
 ro 23 (.bin .add (.t 22) (ci 1)),
 mv 3 23])))
def a168b2 : ACode :=
 (.seq (.seq (.reg [
 mv 71 6,
 mv 72 5,
 ro 73 (.bin .lss (.t 71) (.t 72))])
 (.cond (.t 73)
 .skip
 (.exit 6)))
 (.seq (.block 7 (.seq (.regD [
 ro 76 (.fieldAddr 1 (.t 1)),
 rd 77 (.load false 1 (.t 76)) true 1 1 false,
 rd 78 (.move (.t 6)) false 2 0 false,
 rd 79 (.idxAddr 3 (.t 77) (.t 78)) false 3 7 false,
 rd 80 (.fieldAddr 0 (.t 79)) false 4 15 false,
 rd 81 (.load false 1 (.t 80)) true 5 31 false,
 rd 82 (.fieldAddr 1 (.t 1)) false 6 0 false,
 rd 83 (.load false 1 (.t 82)) true 7 64 false,
 rd 84 (.move (.t 5)) false 8 0 true,
 rd 85 (.idxAddr 3 (.t 83) (.t 84)) false 9 448 true,
 rd 86 (.fieldAddr 0 (.t 85)) false 10 960 true,
 rd 87 (.load false 1 (.t 86)) true 11 1984 true,
 rd 88 (.bin .eql (.t 81) (.t 87)) false 12 4095 true,
 rd 89 (.move (.t 88)) false 13 8191 true,
  ⟨(some 90), .fieldAddr 1 (.t 1), (some (89, true)), false, 14, 16383, false⟩,
  ⟨(some 91), .load false 1 (.t 90), (some (89, true)), true, 15, 32767, false⟩,
  ⟨(some 92), .move (.t 6), (some (89, true)), false, 16, 16383, false⟩,
  ⟨(some 93), .idxAddr 3 (.t 91) (.t 92), (some (89, true)), false, 17, 131071, false⟩,
  ⟨(some 94), .fieldAddr 2 (.t 93), (some (89, true)), false, 18, 262143, false⟩,
  ⟨(some 95), .load false 1 (.t 94), (some (89, true)), true, 19, 524287, false⟩,
  ⟨(some 96), .fieldAddr 1 (.t 1), (some (89, true)), false, 20, 16383, false⟩,
  ⟨(some 97), .load false 1 (.t 96), (some (89, true)), true, 21, 1064959, false⟩,
  ⟨(some 98), .move (.t 5), (some (89, true)), false, 22, 16383, true⟩,
  ⟨(some 99), .idxAddr 3 (.t 97) (.t 98), (some (89, true)), false, 23, 7356415, true⟩,
  ⟨(some 100), .fieldAddr 2 (.t 99), (some (89, true)), false, 24, 15745023, true⟩,
  ⟨(some 101), .load false 1 (.t 100), (some (89, true)), true, 25, 32522239, true⟩,
  ⟨(some 102), .bin .eql (.t 95) (.t 101), (some (89, true)), false, 26, 67108863, true⟩,
 rd 103 (.pick (.t 89) (.t 102) (.c (.bool false))) false 27 134217727 true,
 rd 104 (.move (.t 103)) false 28 268435455 true,
  ⟨(some 105), .fieldAddr 1 (.t 1), (some (104, true)), false, 29, 536870911, false⟩,
  ⟨(some 106), .load false 1 (.t 105), (some (104, true)), true, 30, 1073741823, false⟩,
  ⟨(some 107), .move (.t 6), (some (104, true)), false, 31, 536870911, false⟩,
  ⟨(some 108), .idxAddr 3 (.t 106) (.t 107), (some (104, true)), false, 32, 4294967295, false⟩,
  ⟨(some 109), .fieldAddr 1 (.t 108), (some (104, true)), false, 33, 8589934591, false⟩,
  ⟨(some 110), .load false 1 (.t 109), (some (104, true)), true, 34, 17179869183, false⟩,
  ⟨(some 111), .fieldAddr 1 (.t 1), (some (104, true)), false, 35, 536870911, false⟩,
  ⟨(some 112), .load false 1 (.t 111), (some (104, true)), true, 36, 34896609279, false⟩,
  ⟨(some 113), .move (.t 5), (some (104, true)), false, 37, 536870911, true⟩,
  ⟨(some 114), .idxAddr 3 (.t 112) (.t 113), (some (104, true)), false, 38, 241055039487, true⟩,
  ⟨(some 115), .fieldAddr 1 (.t 114), (some (104, true)), false, 39, 515932946431, true⟩,
  ⟨(some 116), .load false 1 (.t 115), (some (104, true)), true, 40, 1065688760319, true⟩,
  ⟨(some 117), .call (.f 213) [(.t 110), (.t 116)], (some (104, true)), true, 41, 2199023255551, true⟩,
 rd 118 (.pick (.t 104) (.t 117) (.c (.bool false))) false 42 4398046511103 true])
 (.cond (.t 118)
 (.seq (.reg [
 ro 2 (.move (.c (.bool false)))])
 .ret)
 .skip)))
 (.reg [
 mv 74 6,
 ro 75 (.bin .add (.t 74) (ci 1)),
 mv 6 75])))
def a168b3 : ACode :=
 (.seq (.seq (.reg [
 mv 56 5,
 ro 57 (.fieldAddr 1 (.t 1)),
 rp 58 (.load false 1 (.t 57)),
 ro 59 (.lenL (.t 58)),
 ro 60 (.bin .lss (.t 56) (.t 59))])
 (.cond (.t 60)
 .skip
 (.exit 4)))
 (.seq (.block 5 (.seq (.seq (.regD [
 rp 63 (.load true 2 (.t 1)),
 rd 64 (.fieldAddr 1 (.t 1)) false 1 0 false,
 rd 65 (.load false 1 (.t 64)) true 2 2 false,
 rd 66 (.move (.t 5)) false 3 0 true,
 rd 67 (.idxAddr 3 (.t 65) (.t 66)) false 4 14 true,
 rd 68 (.load true 3 (.t 67)) true 5 30 true,
 rd 69 (.call (.f 212) [(.t 63), (.t 68)]) true 6 63 true,
 rd 70 (.un .not (.t 69)) false 7 127 true])
 (.cond (.t 70)
 (.seq (.reg [
 ro 2 (.move (.c (.bool false)))])
 .ret)
 .skip))
 (.seq (.reg [
 ro 6 (.move (ci 0))])
 (.block 6 (.loop a168b2)))))
 (.reg [
 mv 61 5,
 ro 62 (.bin .add (.t 61) (ci 1)),
 mv 5 62])))
def a168 : AFunc := ⟨1, 119, (.seq (.reg [
 rp 1 (.box 2 (.t 0)),
 ro 2 (.move (.c (.bool false)))])
 (.seq (.seq (.reg [
 ro 7 (.fieldAddr 0 (.t 1)),
 rp 8 (.load false 1 (.t 7)),
 ro 9 (.lenL (.t 8)),
 ro 10 (.bin .gtr (.t 9) (ci 64)),
 mv 11 10,
 rg 12 (.fieldAddr 1 (.t 1)) 11 false,
 rh 13 (.load false 1 (.t 12)) 11 false,
 rg 14 (.lenL (.t 13)) 11 false,
 rg 15 (.bin .gtr (.t 14) (ci 256)) 11 false,
 ro 16 (.pick (.t 11) (.c (.bool true)) (.t 15))])
 (.cond (.t 16)
 (.seq (.reg [
 ro 2 (.move (.c (.bool false)))])
 .ret)
 .skip))
 (.seq (.seq (.reg [
 ro 3 (.move (ci 0))])
 (.block 0 (.loop a168b1)))
 (.seq (.seq (.reg [
 ro 5 (.move (ci 0))])
 (.block 4 (.loop a168b3)))
 (.seq (.reg [
 ro 2 (.move (.c (.bool true)))])
 .ret))))), [.t 2]⟩
theorem fn168 : fnOf 168 = some a168 := by kernel_rfl
def a169b0 : ACode :=
 (.seq (.seq (.reg [
 mv 6 5,
 mv 7 1,
 ro 8 (.lenL (.t 7)),
 ro 9 (.bin .lss (.t 6) (.t 8))])
 (.cond (.t 9)
 .skip
 (.exit 0)))
 (.seq (.block 1 (.seq (.regD [
 mv 12 1,
 rd 13 (.move (.t 5)) false 1 0 true,
 rd 14 (.idxAddr 1 (.t 12) (.t 13)) false 2 3 true,
 rd 15 (.load false 1 (.t 14)) true 3 7 true,
 rd 16 (.bin .lss (.t 15) (ci 0)) false 4 15 true,
 rd 17 (.move (.t 16)) false 5 31 true,
  ⟨(some 18), .move (.t 1), (some (17, false)), false, 6, 63, false⟩,
  ⟨(some 19), .move (.t 5), (some (17, false)), false, 7, 63, false⟩,
  ⟨(some 20), .idxAddr 1 (.t 18) (.t 19), (some (17, false)), false, 8, 255, false⟩,
  ⟨(some 21), .load false 1 (.t 20), (some (17, false)), true, 9, 511, false⟩,
  ⟨(some 22), .fieldAddr 0 (.t 2), (some (17, false)), false, 10, 63, true⟩,
  ⟨(some 23), .load false 1 (.t 22), (some (17, false)), true, 11, 1087, true⟩,
  ⟨(some 24), .lenL (.t 23), (some (17, false)), false, 12, 3135, true⟩,
  ⟨(some 25), .bin .geq (.t 21) (.t 24), (some (17, false)), false, 13, 8191, true⟩,
 rd 26 (.pick (.t 17) (.c (.bool true)) (.t 25)) false 14 16383 true])
 (.cond (.t 26)
 (.seq (.reg [
 ro 4 (.move (.c (.bool false)))])
 .ret)
 .skip)))
 (.reg [
 mv 10 5,
 ro 11 (.bin .add (.t 10) (ci 1)),
 mv 5 11])))
def a169 : AFunc := ⟨2, 27, (.seq (.reg [
 rp 2 (.box 2 (.t 0)),
 ro 4 (.move (.c (.bool false)))])
 (.seq (.seq (.reg [
 ro 5 (.move (ci 0))])
 (.block 0 (.loop a169b0)))
 (.seq (.reg [
 ro 4 (.move (.c (.bool true)))])
 .ret))), [.t 4]⟩
theorem fn169 : fnOf 169 = some a169 := by kernel_rfl
def a210b0 : ACode :=
 (.seq (.seq (.reg [
 mv 4 3,
 mv 5 0,
 ro 6 (.lenS (.t 5)),
 ro 7 (.bin .lss (.t 4) (.t 6))])
 (.cond (.t 7)
 .skip
 (.exit 0)))
 (.seq (.block 1 (.seq (.reg [
 mv 10 0,
 mv 11 3,
 ro 12 (.idxStr (.t 10) (.t 11)),
 ro 13 (.bin .lss (.t 12) (.c (.int .u8 33))),
 mv 14 13,
 rg 15 (.move (.t 0)) 14 false,
 rg 16 (.move (.t 3)) 14 false,
 rg 17 (.idxStr (.t 15) (.t 16)) 14 false,
 rg 18 (.bin .gtr (.t 17) (.c (.int .u8 126))) 14 false,
 ro 19 (.pick (.t 14) (.c (.bool true)) (.t 18)),
 mv 20 19,
 rg 21 (.move (.t 0)) 20 false,
 rg 22 (.move (.t 3)) 20 false,
 rg 23 (.idxStr (.t 21) (.t 22)) 20 false,
 rg 24 (.bin .eql (.t 23) (.c (.int .u8 40))) 20 false,
 ro 25 (.pick (.t 20) (.c (.bool true)) (.t 24)),
 mv 26 25,
 rg 27 (.move (.t 0)) 26 false,
 rg 28 (.move (.t 3)) 26 false,
 rg 29 (.idxStr (.t 27) (.t 28)) 26 false,
 rg 30 (.bin .eql (.t 29) (.c (.int .u8 41))) 26 false,
 ro 31 (.pick (.t 26) (.c (.bool true)) (.t 30)),
 mv 32 31,
 rg 33 (.move (.t 0)) 32 false,
 rg 34 (.move (.t 3)) 32 false,
 rg 35 (.idxStr (.t 33) (.t 34)) 32 false,
 rg 36 (.bin .eql (.t 35) (.c (.int .u8 44))) 32 false,
 ro 37 (.pick (.t 32) (.c (.bool true)) (.t 36))])
 (.cond (.t 37)
 (.seq (.reg [
 ro 2 (.move (.c (.bool false)))])
 .ret)
 .skip)))
 (.reg [
 mv 8 3,
 ro 9 (.bin .add (.t 8) (ci 1)),
 mv 3 9])))
def a210 : AFunc := ⟨1, 46, (.seq (.reg [
 ro 2 (.move (.c (.bool false)))])
 (.seq (.seq (.reg [
 ro 3 (.move (ci 0))])
 (.block 0 (.loop a210b0)))
 (.seq (.reg [
 mv 38 0,
 ro 39 (.lenS (.t 38)),
 ro 40 (.bin .geq (.t 39) (ci 1)),
 mv 41 40,
 rg 42 (.move (.t 0)) 41 true,
 rg 43 (.lenS (.t 42)) 41 true,
 rg 44 (.bin .leq (.t 43) (ci 32)) 41 true,
 ro 45 (.pick (.t 41) (.t 44) (.c (.bool false))),
 mv 2 45])
 .ret))), [.t 2]⟩
theorem fn210 : fnOf 210 = some a210 := by kernel_rfl
def a211b0 : ACode :=
 (.seq (.seq (.reg [
 mv 5 4,
 mv 6 0,
 ro 7 (.lenS (.t 6)),
 ro 8 (.bin .lss (.t 5) (.t 7))])
 (.cond (.t 8)
 .skip
 (.exit 0)))
 (.seq (.block 1 (.seq (.reg [
 mv 11 0,
 mv 12 4,
 ro 13 (.idxStr (.t 11) (.t 12)),
 ro 14 (.bin .eql (.t 13) (.c (.int .u8 95)))])
 (.cond (.t 14)
 (.reg [
 mv 15 3,
 ro 16 (.bin .add (.t 15) (ci 1)),
 mv 3 16])
 .skip)))
 (.reg [
 mv 9 4,
 ro 10 (.bin .add (.t 9) (ci 1)),
 mv 4 10])))
def a211 : AFunc := ⟨1, 18, (.seq (.reg [
 ro 2 (.move (ci 0))])
 (.seq (.reg [
 ro 3 (.move (ci 0))])
 (.seq (.seq (.reg [
 ro 4 (.move (ci 0))])
 (.block 0 (.loop a211b0)))
 (.seq (.reg [
 mv 17 3,
 mv 2 17])
 .ret)))), [.t 2]⟩
theorem fn211 : fnOf 211 = some a211 := by kernel_rfl
def a212 : AFunc := ⟨2, 48, (.seq (.reg [
 rp 2 (.box 2 (.t 0)),
 rp 3 (.box 3 (.t 1)),
 ro 4 (.move (.c (.bool false)))])
 (.seq (.reg [
 ro 6 (.fieldAddr 0 (.t 3)),
 rp 7 (.load false 1 (.t 6)),
 rp 8 (.call (.f 211) [(.t 7)]),
 mv 5 8])
 (.seq (.seq (.reg [
 ro 9 (.fieldAddr 0 (.t 3)),
 rp 10 (.load false 1 (.t 9)),
 rp 11 (.call (.f 210) [(.t 10)]),
 ro 12 (.un .not (.t 11)),
 mv 13 12,
 rg 14 (.move (.t 5)) 13 false,
 rg 15 (.fieldAddr 0 (.t 3)) 13 false,
 rh 16 (.load false 1 (.t 15)) 13 false,
 rg 17 (.lenS (.t 16)) 13 false,
 rg 18 (.bin .eql (.t 14) (.t 17)) 13 false,
 ro 19 (.pick (.t 13) (.c (.bool true)) (.t 18)),
 mv 20 19,
 rg 21 (.move (.t 5)) 20 false,
 rg 22 (.bin .gtr (.t 21) (ci 0)) 20 false,
 rg 23 (.move (.t 22)) 20 false,
 rg 24 (.move (.t 5)) 23 true,
 rg 25 (.fieldAddr 1 (.t 3)) 23 true,
 rh 26 (.load false 1 (.t 25)) 23 true,
 rg 27 (.lenL (.t 26)) 23 true,
 rg 28 (.bin .neq (.t 24) (.t 27)) 23 true,
 rg 29 (.pick (.t 23) (.t 28) (.c (.bool false))) 20 false,
 ro 30 (.pick (.t 20) (.c (.bool true)) (.t 29))])
 (.cond (.t 30)
 (.seq (.reg [
 ro 4 (.move (.c (.bool false)))])
 .ret)
 .skip))
 (.seq (.reg [
 ro 31 (.fieldAddr 1 (.t 3)),
 rp 32 (.load false 1 (.t 31)),
 ro 33 (.lenL (.t 32)),
 ro 34 (.bin .leq (.t 33) (ci 8)),
 mv 35 34,
 rh 36 (.load true 2 (.t 2)) 35 true,
 rg 37 (.fieldAddr 1 (.t 3)) 35 true,
 rh 38 (.load false 1 (.t 37)) 35 true,
 rh 39 (.call (.f 169) [(.t 36), (.t 38)]) 35 true,
 ro 40 (.pick (.t 35) (.t 39) (.c (.bool false))),
 mv 41 40,
 rh 42 (.load true 2 (.t 2)) 41 true,
 rg 43 (.fieldAddr 2 (.t 3)) 41 true,
 rh 44 (.load false 1 (.t 43)) 41 true,
 rg 45 (.buildSlice 1 (.int .i64 0) 1 [(0, (.t 44))]) 41 true,
 rh 46 (.call (.f 169) [(.t 42), (.t 45)]) 41 true,
 ro 47 (.pick (.t 41) (.t 46) (.c (.bool false))),
 mv 4 47])
 .ret)))), [.t 4]⟩
theorem fn212 : fnOf 212 = some a212 := by kernel_rfl
def a213b0 : ACode :=
 (.seq (.seq (.reg [
 mv 11 5,
 mv 12 0,
 ro 13 (.lenL (.t 12)),
 ro 14 (.bin .lss (.t 11) (.t 13))])
 (.cond (.t 14)
 .skip
 (.exit 0)))
 (.seq (.block 1 (.seq (.regD [
 mv 17 0,
 rd 18 (.move (.t 5)) false 1 0 false,
 rd 19 (.idxAddr 1 (.t 17) (.t 18)) false 2 3 false,
 rd 20 (.load false 1 (.t 19)) true 3 7 false,
 rd 21 (.move (.t 1)) false 4 0 false,
 rd 22 (.move (.t 5)) false 5 0 true,
 rd 23 (.idxAddr 1 (.t 21) (.t 22)) false 6 48 true,
 rd 24 (.load false 1 (.t 23)) true 7 112 true,
 rd 25 (.bin .neq (.t 20) (.t 24)) false 8 255 true])
 (.cond (.t 25)
 (.seq (.reg [
 ro 4 (.move (.c (.bool false)))])
 .ret)
 .skip)))
 (.reg [
 mv 15 5,
 ro 16 (.bin .add (.t 15) (ci 1)),
 mv 5 16])))
def a213 : AFunc := ⟨2, 26, (.seq (.reg [
 ro 4 (.move (.c (.bool false)))])
 (.seq (.seq (.reg [
 mv 6 0,
 ro 7 (.lenL (.t 6)),
 mv 8 1,
 ro 9 (.lenL (.t 8)),
 ro 10 (.bin .neq (.t 7) (.t 9))])
 (.cond (.t 10)
 (.seq (.reg [
 ro 4 (.move (.c (.bool false)))])
 .ret)
 .skip))
 (.seq (.seq (.reg [
 ro 5 (.move (ci 0))])
 (.block 0 (.loop a213b0)))
 (.seq (.reg [
 ro 4 (.move (.c (.bool true)))])
 .ret)))), [.t 4]⟩
theorem fn213 : fnOf 213 = some a213 := by kernel_rfl
end Go.Proofs.Tryz
/- The specification's checks of signatures, exact: names, blanks, sorts. -/
namespace Go.Proofs.Tryz
open Go Go.AE
variable {T : Tbl} (hT : Std T)
include hT in
theorem rname_tot (t : ByteArray) (ht : t.size < 1000000) (h : List AE.Obj) : ∃ b : Bool, Ev T 210 [.str t] h (.val (.bool b), ⟨h, [], []⟩) ∧ (b = true ↔ nameP t) := by
 refine Ev.walkP (hT.sp _ (by decide)) ((hT.fn _).trans fn210) (hT.mode _) rfl ?_
 simp (disch := first | omega | decide | simp only [go_sem]) only [go_sem]
 refine wpC.loopM (fun n e s => ∃ i : Nat, i + n = t.size ∧ eget e 0 = .str t ∧ eget e 3 = .int .i64 (i : Int) ∧ (∀ j c : Nat, j < i → strAt t (j : Int) = some c → byteP c) ∧ s = ⟨h, [], []⟩) ?_ t.size _ _ ⟨0, by simp, rfl, rfl, fun j c hj => by omega, rfl⟩
 rintro n e s ⟨i, hi, e0, e3, hp, rfl⟩
 by_cases h1 : i < t.size
 · obtain ⟨c, hc⟩ := strAt_lt h1
   by_cases h33 : c < 33
   · have h33' : ((c : Int) < 33) := by omega
     simp (disch := first | omega | decide | simp only [go_sem]) only [go_sem, a210b0, e0, e3, h1, hc, h33']
     exact ⟨false, rfl, nofun, fun h => by have := h.2 i c hc; unfold byteP at this; omega⟩
   · have h33' : ¬ ((c : Int) < 33) := by omega
     by_cases h126 : 126 < c
     · have h126' : ((126 : Int) < (c : Int)) := by omega
       simp (disch := first | omega | decide | simp only [go_sem]) only [go_sem, a210b0, e0, e3, h1, hc, h33', h126']
       exact ⟨false, rfl, nofun, fun h => by have := h.2 i c hc; unfold byteP at this; omega⟩
     · have h126' : ¬ ((126 : Int) < (c : Int)) := by omega
       by_cases p1 : c = 40
       · subst p1
         have b1 : (((40 : Nat) : Int) == 40) = true := rfl
         simp (disch := first | omega | decide | simp only [go_sem]) only [go_sem, a210b0, e0, e3, h1, hc, h33', h126', b1]
         exact ⟨false, rfl, nofun, fun h => by have := h.2 i _ hc; unfold byteP at this; omega⟩
       · have b1 : ((c : Int) == 40) = false := by simp; omega
         by_cases p2 : c = 41
         · subst p2
           have b2 : (((41 : Nat) : Int) == 41) = true := rfl
           simp (disch := first | omega | decide | simp only [go_sem]) only [go_sem, a210b0, e0, e3, h1, hc, h33', h126', b1, b2]
           exact ⟨false, rfl, nofun, fun h => by have := h.2 i _ hc; unfold byteP at this; omega⟩
         · have b2 : ((c : Int) == 41) = false := by simp; omega
           by_cases p3 : c = 44
           · subst p3
             have b3 : (((44 : Nat) : Int) == 44) = true := rfl
             simp (disch := first | omega | decide | simp only [go_sem]) only [go_sem, a210b0, e0, e3, h1, hc, h33', h126', b1, b2, b3]
             exact ⟨false, rfl, nofun, fun h => by have := h.2 i _ hc; unfold byteP at this; omega⟩
           · have b3 : ((c : Int) == 44) = false := by simp; omega
             simp (disch := first | omega | decide | simp only [go_sem]) only [go_sem, a210b0, e0, e3, h1, hc, h33', h126', b1, b2, b3]
             refine ⟨n - 1, by omega, i + 1, by omega, rfl, fun j d hj hd => ?_, trivial⟩
             by_cases hji : j = i
             · subst hji
               rw [hc] at hd
               cases hd
               unfold byteP
               omega
             · exact hp j d (by omega) hd
 · have hall : ∀ j c : Nat, strAt t (j : Int) = some c → byteP c := fun j c hc => hp j c (by have := (strAt_some hc).1; omega) hc
   by_cases q1 : 1 ≤ t.size
   · have q1' : ((1 : Int) ≤ (t.size : Int)) := by omega
     simp (disch := first | omega | decide | simp only [go_sem]) only [go_sem, a210b0, e0, e3, h1, q1']
     exact ⟨_, rfl, fun h => ⟨⟨q1, by simp only [decide_eq_true_eq] at h; omega⟩, hall⟩, fun h => by have := h.1.2; simp only [decide_eq_true_eq]; omega⟩
   · have q1' : ¬ ((1 : Int) ≤ (t.size : Int)) := by omega
     simp (disch := first | omega | decide | simp only [go_sem]) only [go_sem, a210b0, e0, e3, h1, q1']
     exact ⟨false, rfl, nofun, fun h => by have := h.1.1; omega⟩
include hT in
theorem blanks_ev (t : ByteArray) (ht : t.size < 1000000) (h : List AE.Obj) : Ev T 211 [.str t] h (.val (.int .i64 (blk t : Int)), ⟨h, [], []⟩) := by
 refine Ev.walk (hT.sp _ (by decide)) ((hT.fn _).trans fn211) (hT.mode _) rfl ?_
 simp (disch := first | omega | decide | simp only [go_sem]) only [go_sem]
 refine wpC.loopM (fun n e s => ∃ i : Nat, i + n = t.size ∧ eget e 0 = .str t ∧ eget e 4 = .int .i64 (i : Int) ∧ eget e 3 = .int .i64 (blkTo t i : Int) ∧ s = ⟨h, [], []⟩) ?_ t.size _ _ ⟨0, by simp, rfl, rfl, rfl, rfl⟩
 rintro n e s ⟨i, hi, e0, e4, e3, rfl⟩
 have hb : blkTo t i ≤ i := by
  have := List.countP_le_length (p := fun x : UInt8 => x == 95) (l := t.data.toList.take i)
  have h2 : (t.data.toList.take i).length ≤ i := by rw [List.length_take]; omega
  unfold blkTo
  omega
 by_cases h1 : i < t.size
 · obtain ⟨c, hc⟩ := strAt_lt h1
   have hs := blkTo_succ hc
   by_cases h95 : c = 95
   · subst h95
     rw [if_pos rfl] at hs
     have b1 : (((95 : Nat) : Int) == 95) = true := rfl
     simp (disch := first | omega | decide | simp only [go_sem]) only [go_sem, a211b0, e0, e3, e4, h1, hc, b1]
     exact ⟨n - 1, by omega, i + 1, by omega, rfl, by rw [hs]; first | done | rfl, trivial⟩
   · rw [if_neg h95] at hs
     have b1 : ((c : Int) == 95) = false := by simp; omega
     simp (disch := first | omega | decide | simp only [go_sem]) only [go_sem, a211b0, e0, e3, e4, h1, hc, b1]
     exact ⟨n - 1, by omega, i + 1, by omega, rfl, by rw [hs]; rfl, trivial⟩
 · rw [blkTo_all (by omega)] at e3
   simp (disch := first | omega | decide | simp only [go_sem]) only [go_sem, a211b0, e0, e3, e4, h1]
include hT in
theorem rsame_tot (a b : List Int) (ha : a.length < 1000000) (h : List AE.Obj) : ∃ r : Bool, Ev T 213 [.slice 1 (a.map encI) .any, .slice 1 (b.map encI) .any] h (.val (.bool r), ⟨h, [], []⟩) ∧ (r = true ↔ a = b) := by
 refine Ev.walkP (hT.sp _ (by decide)) ((hT.fn _).trans fn213) (hT.mode _) rfl ?_
 simp (disch := first | omega | decide | simp only [go_sem]) only [go_sem, List.length_map]
 refine bifs (fun hb => ⟨false, rfl, nofun, fun he => by subst he; simp at hb⟩) (fun hb => ?_)
 have hl : a.length = b.length := by
  simp only [bne_eq_false_iff_eq] at hb
  omega
 refine wpC.loopM (fun n e s => ∃ i : Nat, i + n = a.length ∧ eget e 0 = .slice 1 (a.map encI) .any ∧ eget e 1 = .slice 1 (b.map encI) .any ∧ eget e 5 = .int .i64 (i : Int) ∧ (∀ j, j < i → a[j]? = b[j]?) ∧ s = ⟨h, [], []⟩) ?_ a.length _ _ ⟨0, by simp, rfl, rfl, rfl, fun j hj => by omega, rfl⟩
 rintro n e s ⟨i, hi, e0, e1, e5, hp, rfl⟩
 by_cases h1 : i < a.length
 · have ga := get_enc h1
   have gb := get_enc (l := b) (i := i) (by omega)
   simp (disch := first | omega | decide | simp only [go_sem]) only [go_sem, a213b0, List.length_map, e0, e1, e5, h1, ga, gb]
   refine bifs (fun hx => ⟨false, rfl, nofun, fun he => by subst he; simp at hx⟩) (fun hx => ⟨n - 1, by omega, i + 1, by omega, rfl, fun j hj => ?_, trivial⟩)
   by_cases hji : j = i
   · subst hji
     simp only [bne_eq_false_iff_eq] at hx
     rw [List.getElem?_eq_getElem h1, List.getElem?_eq_getElem (show j < b.length by omega), hx]
   · exact hp j (by omega)
 · simp (disch := first | omega | decide | simp only [go_sem]) only [go_sem, a213b0, List.length_map, e0, e1, e5, h1]
   refine ⟨true, rfl, fun _ => List.ext_getElem? fun j => ?_, fun _ => rfl⟩
   by_cases hj : j < i
   · exact hp j hj
   · rw [List.getElem?_eq_none (by omega), List.getElem?_eq_none (by omega)]
include hT in
theorem rsorts_tot (s : GSig) (hs : s.sorts.length < 1000000) (l : List Int) (hl : l.length < 1000000) (m : SM) (h : List AE.Obj) : ∃ r : Bool, Ev T 169 [encSig s, .slice 1 (l.map encI) m] h (.val (.bool r), ⟨h, [], []⟩) ∧ (r = true ↔ okArgs l s.sorts.length) := by
 refine Ev.walkP (hT.sp _ (by decide)) ((hT.fn _).trans fn169) (hT.mode _) rfl ?_
 simp (disch := first | omega | decide | (simp only [eget_eput', ↓reduceIte, Nat.reduceEqDiff]; done)) only [go_sem, ↓reduceIte, Nat.reduceEqDiff, reduceCtorEq, List.length_map, fin_ret]
 refine wpC.loopM (fun n e st => ∃ i : Nat, i + n = l.length ∧ eget e 1 = .slice 1 (l.map encI) m ∧ eget e 2 = .ptr h.length 0 0 1 ∧ eget e 5 = .int .i64 (i : Int) ∧ (∀ j, j < i → 0 ≤ l.getD j 0 ∧ l.getD j 0 < (s.sorts.length : Int)) ∧ st = ⟨h ++ [.row 2 [encSig s]], [], []⟩) ?_ l.length _ _ ⟨0, by simp, rfl, rfl, rfl, fun j hj => by omega, rfl⟩
 rintro n e st ⟨i, hi, e1, e2, e5, hp, rfl⟩
 by_cases h1 : i < l.length
 · have ga := get_enc h1
   simp (disch := first | omega | decide | simp only [go_sem]) only [go_sem, a169b0, e1, e2, e5, h1, ga]
   have hmem : l[i] ∈ l := List.getElem_mem h1
   refine bifs (fun hb => ⟨false, rfl, nofun, fun ho => by have := ho _ hmem; simp only [decide_eq_true_eq] at hb; omega⟩) (fun h2 => bifs (fun hb => ⟨false, rfl, nofun, fun ho => by have := ho _ hmem; simp only [decide_eq_true_eq] at hb; omega⟩) fun h3 => ?_)
   refine ⟨n - 1, by omega, i + 1, by omega, rfl, fun j hj => ?_, trivial⟩
   by_cases hji : j = i
   · subst hji
     have : l.getD j 0 = l[j] := by simp [List.getD_eq_getElem?_getD, h1]
     simp at h2 h3
     omega
   · exact hp j (by omega)
 · simp (disch := first | omega | decide | simp only [go_sem]) only [go_sem, a169b0, e1, e2, e5, h1]
   refine ⟨true, rfl, fun _ a ha => ?_, fun _ => rfl⟩
   obtain ⟨j, hj, rfl⟩ := List.getElem_of_mem ha
   have := hp j (by omega)
   have e : l.getD j 0 = l[j] := by simp [List.getD_eq_getElem?_getD, hj]
   rwa [e] at this
include hT in
theorem rop_tot (s : GSig) (hs : Fits s) (o : GOp) (ho : o.name.size < 1000 ∧ o.args.length < 900) (h : List AE.Obj) : ∃ r : Bool, Ev T 212 [encSig s, encOp o] h (.val (.bool r), ⟨h, [], []⟩) ∧ (r = true ↔ opP s.sorts.length o) := by
 refine Ev.walkP (hT.sp _ (by decide)) ((hT.fn _).trans fn212) (hT.mode _) rfl ?_
 have hs1 := hs.nS
 have hn := blanks_ev hT o.name (by omega) ((h ++ [.row 2 [encSig s]]) ++ [.row 3 [encOp o]])
 obtain ⟨b, hb, kb⟩ := rname_tot hT o.name (by omega) ((h ++ [.row 2 [encSig s]]) ++ [.row 3 [encOp o]])
 obtain ⟨c, hc, kc⟩ := rsorts_tot hT s (by omega) o.args (by omega) .any ((h ++ [.row 2 [encSig s]]) ++ [.row 3 [encOp o]])
 obtain ⟨d, hd, kd⟩ := rsorts_tot hT s (by omega) [o.res] (by simp) .lit ((h ++ [.row 2 [encSig s]]) ++ [.row 3 [encOp o]])
 have hd' : Ev T 169 [encSig s, .slice 1 [.int .i64 o.res] .lit] ((h ++ [.row 2 [encSig s]]) ++ [.row 3 [encOp o]]) (.val (.bool d), ⟨(h ++ [.row 2 [encSig s]]) ++ [.row 3 [encOp o]], [], []⟩) := hd
 have kd' : d = true ↔ 0 ≤ o.res ∧ o.res < (s.sorts.length : Int) := kd.trans ⟨fun h => h _ (by simp), fun h a ha => by rw [List.mem_singleton.1 ha]; exact h⟩
 have fe : fillE 1 (List.replicate 1 (PV.int .i64 0)) [(0, .int .i64 o.res)] = some [.int .i64 o.res] := rfl
 cases b
 · simp (disch := first | omega | decide | simp only [go_sem]) only [go_sem, cb hn, cb hb, hT.prim, primOf, fe]
   exact ⟨false, rfl, nofun, fun hp => by have := kb.2 hp.1; cases this⟩
 · have hnm := kb.1 rfl
   by_cases q1 : blk o.name = o.name.size
   · have b1 : ((blk o.name : Int) == (o.name.size : Int)) = true := by simp [q1]
     simp (disch := first | omega | decide | simp only [go_sem]) only [go_sem, cb hn, cb hb, hT.prim, primOf, fe, b1]
     exact ⟨false, rfl, nofun, fun hp => absurd q1 hp.2.1⟩
   · have b1 : ((blk o.name : Int) == (o.name.size : Int)) = false := by simp; omega
     have fin : (blk o.name = 0 ∨ blk o.name = o.args.length) → o.args.length ≤ 8 → (d = true ∧ c = true ↔ opP s.sorts.length o) := fun q2 h8 => by
      rw [kd', kc]
      exact ⟨fun ⟨h1, h2⟩ => ⟨hnm, q1, q2, h2, h1, h8⟩, fun h => ⟨h.2.2.2.2.1, h.2.2.2.1⟩⟩
     have f8 : ¬ ((o.args.length : Int) ≤ 8) → ¬ opP s.sorts.length o := fun h8 hp => by
      have := hp.2.2.2.2.2
      omega
     by_cases q2 : 0 < blk o.name
     · have b2 : ((0 : Int) < (blk o.name : Int)) := by omega
       by_cases q3 : blk o.name = o.args.length
       · have b3 : ((blk o.name : Int) != (o.args.length : Int)) = false := by simp [q3]
         by_cases h8 : ((o.args.length : Int) ≤ 8)
         · have hfin := fin (.inr q3) (by omega)
           cases c
           · simp (disch := first | omega | decide | simp only [go_sem]) only [go_sem, cb hn, cb hb, cb hc, cb hd', hT.prim, primOf, fe, b1, b2, b3, h8]
             exact ⟨false, rfl, nofun, fun hp => by have := (hfin.2 hp).2; cases this⟩
           · simp (disch := first | omega | decide | simp only [go_sem]) only [go_sem, cb hn, cb hb, cb hc, cb hd', hT.prim, primOf, fe, b1, b2, b3, h8]
             exact ⟨d, rfl, fun h => hfin.1 ⟨h, rfl⟩, fun h => (hfin.2 h).1⟩
         · simp (disch := first | omega | decide | simp only [go_sem]) only [go_sem, cb hn, cb hb, cb hc, cb hd', hT.prim, primOf, fe, b1, b2, b3, h8]
           exact ⟨false, rfl, nofun, fun hp => absurd hp (f8 h8)⟩
       · have b3 : ((blk o.name : Int) != (o.args.length : Int)) = true := by simp; omega
         simp (disch := first | omega | decide | simp only [go_sem]) only [go_sem, cb hn, cb hb, hT.prim, primOf, fe, b1, b2, b3]
         exact ⟨false, rfl, nofun, fun hp => by have := hp.2.2.1; omega⟩
     · have b2 : ¬ ((0 : Int) < (blk o.name : Int)) := by omega
       by_cases h8 : ((o.args.length : Int) ≤ 8)
       · have hfin := fin (.inl (by omega)) (by omega)
         cases c
         · simp (disch := first | omega | decide | simp only [go_sem]) only [go_sem, cb hn, cb hb, cb hc, cb hd', hT.prim, primOf, fe, b1, b2, h8]
           exact ⟨false, rfl, nofun, fun hp => by have := (hfin.2 hp).2; cases this⟩
         · simp (disch := first | omega | decide | simp only [go_sem]) only [go_sem, cb hn, cb hb, cb hc, cb hd', hT.prim, primOf, fe, b1, b2, h8]
           exact ⟨d, rfl, fun h => hfin.1 ⟨h, rfl⟩, fun h => (hfin.2 h).1⟩
       · simp (disch := first | omega | decide | simp only [go_sem]) only [go_sem, cb hn, cb hb, cb hc, cb hd', hT.prim, primOf, fe, b1, b2, h8]
         exact ⟨false, rfl, nofun, fun hp => absurd hp (f8 h8)⟩
end Go.Proofs.Tryz
