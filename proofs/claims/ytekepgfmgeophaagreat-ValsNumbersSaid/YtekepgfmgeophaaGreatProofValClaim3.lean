/- ValsNumbers holds: Nth and Number match the specification; whatever the signature, the sort, the size, the number and the term. -/
import Derived.Test.YtekepgfmgeophaaGreatRows
import Derived.WalkKit
import Derived.ProofKit
import Derived.OpenShut
import Derived.Test.YtekepgfmgeophaaGreatPartAH
import Derived.Test.YtekepgfmgeophaaGreatPartAR
import Derived.Test.YtekepgfmgeophaaGreatPartBE
import Derived.Test.YtekepgfmgeophaaGreatPartBF
set_option linter.unusedVariables false
set_option linter.unusedSimpArgs false
namespace Go.Proofs.YtekepgfmgeophaaGreat.valsNumbers
open Go Go.ChangeShapes Go.WideShapes Go.ChangeAt Go.RowKit Go.AE Go.Proofs.Tryz
set_option linter.unusedVariables false
theorem own : ownKnob Tryz.prog.godebug = none := by kernel_rfl
theorem laid : laidOutB Tryz.prog = true := by kernel_rfl
theorem walk {s : GSig} {t : Tm} {p : PV} {a1 a2 a3 : Int} {cs ct : Array Value} {w : World} (ht : Enc t p) (V : VR w (oldI w) noD (fun _ => ⟨0, 0, 0, 0⟩) (encSig s) (.agg cs)) (Vt : VR w (oldI w) noD (fun _ => ⟨0, 0, 0, 0⟩) p (.agg ct)) :
 Calls Tryz.prog 3 #[.agg cs, .int .i64 a1, .int .i64 a2, .int .i64 a3, .agg ct] w fun e w' => e = .returned (.bool true) ∧ Below w.heap.size w w' := by
 obtain ⟨n, hn⟩ := numbers_law TL_std sane_ev check_exact (fun hs a m n ha h1 h2 h3 h4 => nth_ev hs ha h1 h2 h3 h4) (s := s) a1 a2 a3 ht []
 have V' : VRs w (oldI w) noD (fun _ => ⟨0, 0, 0, 0⟩) [encSig s, .int .i64 a1, .int .i64 a2, .int .i64 a3, p] [.agg cs, .int .i64 a1, .int .i64 a2, .int .i64 a3, .agg ct] := by
  refine ⟨rfl, fun j => ?_⟩
  match j with
  | 0 => exact V
  | 1 => exact .int _ _
  | 2 => exact .int _ _
  | 3 => exact .int _ _
  | 4 => exact Vt
  | j + 5 => exact .undef _
 exact law_calls TL_ok (hn n (Nat.le_refl _)) V'
set_option maxRecDepth 100000 in
theorem lifted (os : Os) (started : os.Started) (H : Type) (enc : TypeId × Value → H) :
 ReturnsInHanded {} Tryz.checked os 3 .any (Rows.valsNumbersSpec.pre6 enc Tryz.prog Tryz.f3 Rows.valsNumbersRow.domain false) (Rows.valsNumbersSpec.post enc Tryz.prog Tryz.f3 false true false false) := by
 refine returnsInHanded_of_change (C := Tryz.checked) own started (by kernel_rfl) Tryz.func3
  (ChangeSpec.witness6 (enc := enc) (C := Tryz.checked) false ⟨#[], #[.agg #[.slice none 0 0, .slice none 0 0], .int .i64 0, .int .i64 0, .int .i64 0, .agg #[.int .i64 0, .int .i64 0, .slice none 0 0]], []⟩ 8 (by kernel_rfl) (by kernel_rfl) (by kernel_rfl) (by kernel_rfl)) ?_
 intro W base args ds gs before hval0 hW hcnd _
 have hval : ∀ (j : Nat) t v, Tryz.f3.params[j]? = some t → args[j]? = some v → Value.okWide Tryz.prog W .any base t v := hval0
 have hW' := hW
 obtain ⟨p, q, hA0, hV, rfl, hfz, hnd⟩ := hW
 have hA : DataW.TrodAll enc Tryz.prog W 0 (fun _ => true) true Tryz.f3.params.toList args.toList ds p := hA0
 rw [Tryz.params3] at hA hval
 obtain ⟨v0, vs0, d0, ds0, p0, q0, hargs, rfl, rfl, h0, r0⟩ := trodAll_cons hA
 obtain ⟨v1, vs1, d1, ds1, p1, q1, rfl, rfl, rfl, h1, r1⟩ := trodAll_cons r0
 obtain ⟨v2, vs2, d2, ds2, p2, q2, rfl, rfl, rfl, h2, r2⟩ := trodAll_cons r1
 obtain ⟨v3, vs3, d3, ds3, p3, q3, rfl, rfl, rfl, h3, r3⟩ := trodAll_cons r2
 obtain ⟨v4, vs4, d4, ds4, p4, q4, rfl, rfl, rfl, h4, r4⟩ := trodAll_cons r3
 obtain ⟨rfl, rfl, rfl⟩ := trodAll_nil r4
 obtain rfl : args = #[v0, v1, v2, v3, v4] := by cases args; simp_all
 obtain ⟨rfl, rfl⟩ := trodVars_none hV
 obtain ⟨cs, rfl, _⟩ := okWide_struct Tryz.underlying25 (hval 0 25 v0 rfl rfl)
 obtain ⟨a1, rfl, rfl, rfl, w1⟩ := open_int Tryz.underlying3 (hval 1 3 v1 rfl rfl) h1
 obtain ⟨a2, rfl, rfl, rfl, w2⟩ := open_int Tryz.underlying3 (hval 2 3 v2 rfl rfl) h2
 obtain ⟨a3, rfl, rfl, rfl, w3⟩ := open_int Tryz.underlying3 (hval 3 3 v3 rfl rfl) h3
 obtain ⟨ct, rfl, _⟩ := okWide_struct Tryz.underlying28 (hval 4 28 v4 rfl rfl)
 clear hA0 hval0
 simp only [List.append_nil] at hW'
 have hlt : ∀ x ∈ p0, x.block < W.heap.size := fun x hx => hW'.lt x (by simp [hx])
 have hlt4 : ∀ x ∈ p4, x.block < W.heap.size := fun x hx => hW'.lt x (by simp [hx])
 obtain ⟨s, V⟩ := sig_in (ρ := fun _ => ⟨0, 0, 0, 0⟩) h0
 obtain ⟨t, p, ht, Vt⟩ := term_in (ρ := fun _ => ⟨0, 0, 0, 0⟩) h4
 refine (walk ht V Vt).mono fun e W' ⟨he, hb⟩ => ?_
 subst he
 refine ⟨_, rfl, _, _, _, [], p0 ++ ([] ++ ([] ++ ([] ++ (p4 ++ [])))), [], hW', trodAll_cons_mk (shut_bool Tryz.underlying4 _) trodAll_mk0, trodAll_cons_mk (Below.trod laid (by kernel_rfl) (of_decide_eq_true (by kernel_rfl)) h0 hb hlt) (trodAll_cons_mk (shut_int Tryz.underlying3 w1) (trodAll_cons_mk (shut_int Tryz.underlying3 w2) (trodAll_cons_mk (shut_int Tryz.underlying3 w3) (trodAll_cons_mk (Below.trod laid (by kernel_rfl) (of_decide_eq_true (by kernel_rfl)) h4 hb hlt4) trodAll_mk0)))), rfl, hb.frame _, fun h => by cases h⟩
theorem named : Tryz.pinned.checked.prog.funcNamed Rows.valsNumbersRow.func = some 3 := by kernel_rfl
theorem inst : Tryz.f3.isInstance Tryz.pinned.checked.prog Rows.valsNumbersRow.origin Rows.valsNumbersRow.targs := of_decide_eq_true (by kernel_rfl)
theorem wrap : Tryz.f3.isWrapper Tryz.pinned.checked.prog Rows.valsNumbersRow.wrapper Rows.valsNumbersRow.mainSum := by
 unfold Func.isWrapper
 rw [if_neg (by decide +kernel)]
 exact ⟨rfl, rfl⟩
theorem over : Rows.valsNumbersRow.holds Tryz.pinned (OpenSpec.ofChange Rows.valsNumbersSpec) :=
 OpenClaim.holds_of_wide 3 Tryz.f3 rfl rfl rfl rfl rfl rfl rfl ⟨rfl, rfl, rfl, rfl, rfl⟩ rfl rfl rfl rfl rfl named Tryz.func3 facts inst wrap
  (fun os started H enc _ => lifted os started H enc)
theorem proved : Rows.ValsNumbersSaid := over
end Go.Proofs.YtekepgfmgeophaaGreat.valsNumbers
