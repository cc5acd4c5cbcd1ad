/- ValsCounts holds: Least, Count and Terms match the specification; whatever the signature, the sort and the size. -/
import Derived.Test.YtekepgfmgeophaaGreatRows
import Derived.WalkKit
import Derived.ProofKit
import Derived.OpenShut
import Derived.Test.YtekepgfmgeophaaGreatPartAH
import Derived.Test.YtekepgfmgeophaaGreatPartAR
import Derived.Test.YtekepgfmgeophaaGreatPartBE
import Derived.Test.YtekepgfmgeophaaGreatPartBF
set_option linter.unusedVariables false
set_option linter.unusedSimpArgs false
namespace Go.Proofs.YtekepgfmgeophaaGreat.valsCounts
open Go Go.ChangeShapes Go.WideShapes Go.ChangeAt Go.RowKit Go.AE Go.Proofs.Tryz
set_option linter.unusedVariables false
theorem own : ownKnob Tryz.prog.godebug = none := by kernel_rfl
theorem laid : laidOutB Tryz.prog = true := by kernel_rfl
theorem walk {s : GSig} {a1 a2 : Int} {cs : Array Value} {w : World} (V : VR w (oldI w) noD (fun _ => ⟨0, 0, 0, 0⟩) (encSig s) (.agg cs)) :
 Calls Tryz.prog 9 #[.agg cs, .int .i64 a1, .int .i64 a2] w fun e w' => e = .returned (.bool true) ∧ Below w.heap.size w w' := by
 obtain ⟨n, hn⟩ := counts_law TL_std sane_ev check_exact (fun hs a m n ha h1 h2 h3 h4 => nth_ev hs ha h1 h2 h3 h4) (s := s) a1 a2 []
 have V' : VRs w (oldI w) noD (fun _ => ⟨0, 0, 0, 0⟩) [encSig s, .int .i64 a1, .int .i64 a2] [.agg cs, .int .i64 a1, .int .i64 a2] := by
  refine ⟨rfl, fun j => ?_⟩
  match j with
  | 0 => exact V
  | 1 => exact .int _ _
  | 2 => exact .int _ _
  | j + 3 => exact .undef _
 exact law_calls TL_ok (hn n (Nat.le_refl _)) V'
set_option maxRecDepth 100000 in
theorem lifted (os : Os) (started : os.Started) (H : Type) (enc : TypeId × Value → H) :
 ReturnsInHanded {} Tryz.checked os 9 .any (Rows.valsCountsSpec.pre6 enc Tryz.prog Tryz.f9 Rows.valsCountsRow.domain false) (Rows.valsCountsSpec.post enc Tryz.prog Tryz.f9 false true false false) := by
 refine returnsInHanded_of_change (C := Tryz.checked) own started (by kernel_rfl) Tryz.func9
  (ChangeSpec.witness6 (enc := enc) (C := Tryz.checked) false ⟨#[], #[.agg #[.slice none 0 0, .slice none 0 0], .int .i64 0, .int .i64 0], []⟩ 8 (by kernel_rfl) (by kernel_rfl) (by kernel_rfl) (by kernel_rfl)) ?_
 intro W base args ds gs before hval0 hW hcnd _
 have hval : ∀ (j : Nat) t v, Tryz.f9.params[j]? = some t → args[j]? = some v → Value.okWide Tryz.prog W .any base t v := hval0
 have hW' := hW
 obtain ⟨p, q, hA0, hV, rfl, hfz, hnd⟩ := hW
 have hA : DataW.TrodAll enc Tryz.prog W 0 (fun _ => true) true Tryz.f9.params.toList args.toList ds p := hA0
 rw [Tryz.params9] at hA hval
 obtain ⟨v0, vs0, d0, ds0, p0, q0, hargs, rfl, rfl, h0, r0⟩ := trodAll_cons hA
 obtain ⟨v1, vs1, d1, ds1, p1, q1, rfl, rfl, rfl, h1, r1⟩ := trodAll_cons r0
 obtain ⟨v2, vs2, d2, ds2, p2, q2, rfl, rfl, rfl, h2, r2⟩ := trodAll_cons r1
 obtain ⟨rfl, rfl, rfl⟩ := trodAll_nil r2
 obtain rfl : args = #[v0, v1, v2] := by cases args; simp_all
 obtain ⟨rfl, rfl⟩ := trodVars_none hV
 obtain ⟨cs, rfl, _⟩ := okWide_struct Tryz.underlying25 (hval 0 25 v0 rfl rfl)
 obtain ⟨a1, rfl, rfl, rfl, w1⟩ := open_int Tryz.underlying3 (hval 1 3 v1 rfl rfl) h1
 obtain ⟨a2, rfl, rfl, rfl, w2⟩ := open_int Tryz.underlying3 (hval 2 3 v2 rfl rfl) h2
 clear hA0 hval0
 simp only [List.append_nil] at hW'
 have hlt : ∀ x ∈ p0, x.block < W.heap.size := fun x hx => hW'.lt x (by simpa using hx)
 obtain ⟨s, V⟩ := sig_in (ρ := fun _ => ⟨0, 0, 0, 0⟩) h0
 refine (walk V).mono fun e W' ⟨he, hb⟩ => ?_
 subst he
 refine ⟨_, rfl, _, _, _, [], p0 ++ ([] ++ ([] ++ [])), [], hW', trodAll_cons_mk (shut_bool Tryz.underlying4 _) trodAll_mk0, trodAll_cons_mk (Below.trod laid (by kernel_rfl) (of_decide_eq_true (by kernel_rfl)) h0 hb hlt) (trodAll_cons_mk (shut_int Tryz.underlying3 w1) (trodAll_cons_mk (shut_int Tryz.underlying3 w2) trodAll_mk0)), rfl, hb.frame _, fun h => by cases h⟩
theorem named : Tryz.pinned.checked.prog.funcNamed Rows.valsCountsRow.func = some 9 := by kernel_rfl
theorem inst : Tryz.f9.isInstance Tryz.pinned.checked.prog Rows.valsCountsRow.origin Rows.valsCountsRow.targs := of_decide_eq_true (by kernel_rfl)
theorem wrap : Tryz.f9.isWrapper Tryz.pinned.checked.prog Rows.valsCountsRow.wrapper Rows.valsCountsRow.mainSum := by
 unfold Func.isWrapper
 rw [if_neg (by decide +kernel)]
 exact ⟨rfl, rfl⟩
theorem over : Rows.valsCountsRow.holds Tryz.pinned (OpenSpec.ofChange Rows.valsCountsSpec) :=
 OpenClaim.holds_of_wide 9 Tryz.f9 rfl rfl rfl rfl rfl rfl rfl ⟨rfl, rfl, rfl, rfl, rfl⟩ rfl rfl rfl rfl rfl named Tryz.func9 facts inst wrap
  (fun os started H enc _ => lifted os started H enc)
theorem proved : Rows.ValsCountsSaid := over
end Go.Proofs.YtekepgfmgeophaaGreat.valsCounts
