/- ValsCaught holds: a list with two values exchanged, with one of them twice, with one of another sort or one that is no normal form is no domain; whatever the type, the domain, the numbers and the term. -/
import Derived.Test.YtekepgfmgeophaaGreatRows
import Derived.WalkKit
import Derived.ProofKit
import Derived.OpenShut
import Derived.Test.YtekepgfmgeophaaGreatPartAH
import Derived.Test.YtekepgfmgeophaaGreatPartAR
import Derived.Test.YtekepgfmgeophaaGreatPartBD
import Derived.Test.YtekepgfmgeophaaGreatPartBE
set_option linter.unusedVariables false
set_option linter.unusedSimpArgs false
namespace Go.Proofs.YtekepgfmgeophaaGreat.valsCaught
open Go Go.ChangeShapes Go.WideShapes Go.ChangeAt Go.RowKit Go.AE Go.Proofs.Tryz
set_option linter.unusedVariables false
theorem own:ownKnob Tryz.prog.godebug=none:=by kernel_rfl
theorem laid:laidOutB Tryz.prog=true:=by kernel_rfl
theorem walk {t:GTy} {dom:List (List Tm)} {x:Tm} {a i k:Int} {cs ct:Array Value} {dv:Value} {w:World} (V:VR w (oldI w) noD (fun _ => ⟨0,0,0,0⟩) (encTy t) (.agg cs)) (Vd:VR w (oldI w) noD (fun _ => ⟨0,0,0,0⟩) (domV dom) dv) (Vt:VR w (oldI w) noD (fun _ => ⟨0,0,0,0⟩) (encT x) (.agg ct)) :
 Calls Tryz.prog 8 #[.agg cs,dv,.int .i64 a,.int .i64 i,.int .i64 k,.agg ct] w fun e w' => e=.returned (.bool true)∧Below w.heap.size w w':=by
 obtain ⟨n,hn⟩:=caught_law TC_std TC_sp54 TC_sp55 (fun h => sane_of rfl h) (t:=t) (fun h => type_law (smallB_fits h.small)) dom a i k x []
 have V':VRs w (oldI w) noD (fun _ => ⟨0,0,0,0⟩) [encTy t,domV dom,.int .i64 a,.int .i64 i,.int .i64 k,encT x] [.agg cs,dv,.int .i64 a,.int .i64 i,.int .i64 k,.agg ct]:=by
  refine ⟨rfl,fun j => ?_⟩
  match j with
  | 0 => exact V
  | 1 => exact Vd
  | 2 => exact .int _ _
  | 3 => exact .int _ _
  | 4 => exact .int _ _
  | 5 => exact Vt
  | j+6 => exact .undef _
 exact law_calls TC_ok (hn n (Nat.le_refl _)) V'
set_option maxRecDepth 100000 in
theorem lifted (os:Os) (started:os.Started) (H:Type) (enc:TypeId × Value→H) :
 ReturnsInHanded {} Tryz.checked os 8 .any (Rows.valsCaughtSpec.pre6 enc Tryz.prog Tryz.f8 Rows.valsCaughtRow.domain false) (Rows.valsCaughtSpec.post enc Tryz.prog Tryz.f8 false true false false):=by
 refine returnsInHanded_of_change (C:=Tryz.checked) own started (by kernel_rfl) Tryz.func8
  (ChangeSpec.witness6 (enc:=enc) (C:=Tryz.checked) false ⟨#[],#[.agg #[.slice none 0 0,.slice none 0 0,.slice none 0 0],.slice none 0 0,.int .i64 0,.int .i64 0,.int .i64 0,.agg #[.int .i64 0,.int .i64 0,.slice none 0 0]],[]⟩ 8 (by kernel_rfl) (by kernel_rfl) (by kernel_rfl) (by kernel_rfl)) ?_
 intro W base args ds gs before hval0 hW hcnd _
 have hval:∀ (j:Nat) t v,Tryz.f8.params[j]?=some t→args[j]?=some v→Value.okWide Tryz.prog W .any base t v:=hval0
 have hW':=hW
 obtain ⟨p,q,hA0,hV,rfl,hfz,hnd⟩:=hW
 have hA:DataW.TrodAll enc Tryz.prog W 0 (fun _ => true) true Tryz.f8.params.toList args.toList ds p:=hA0
 rw [Tryz.params8] at hA hval
 obtain ⟨v0,vs0,d0,ds0,p0,q0,hargs,rfl,rfl,h0,r0⟩:=trodAll_cons hA
 obtain ⟨v1,vs1,d1,ds1,p1,q1,rfl,rfl,rfl,h1,r1⟩:=trodAll_cons r0
 obtain ⟨v2,vs2,d2,ds2,p2,q2,rfl,rfl,rfl,h2,r2⟩:=trodAll_cons r1
 obtain ⟨v3,vs3,d3,ds3,p3,q3,rfl,rfl,rfl,h3,r3⟩:=trodAll_cons r2
 obtain ⟨v4,vs4,d4,ds4,p4,q4,rfl,rfl,rfl,h4,r4⟩:=trodAll_cons r3
 obtain ⟨v5,vs5,d5,ds5,p5,q5,rfl,rfl,rfl,h5,r5⟩:=trodAll_cons r4
 obtain ⟨rfl,rfl,rfl⟩:=trodAll_nil r5
 obtain rfl:args=#[v0,v1,v2,v3,v4,v5]:=by cases args; simp_all
 obtain ⟨rfl,rfl⟩:=trodVars_none hV
 obtain ⟨cs,rfl,_⟩:=okWide_struct Tryz.underlying41 (hval 0 41 v0 rfl rfl)
 obtain ⟨da,dl,dc,rfl⟩:=okWide_slice Tryz.underlying43 (hval 1 43 v1 rfl rfl)
 obtain ⟨a2,rfl,rfl,rfl,w2⟩:=open_int Tryz.underlying3 (hval 2 3 v2 rfl rfl) h2
 obtain ⟨a3,rfl,rfl,rfl,w3⟩:=open_int Tryz.underlying3 (hval 3 3 v3 rfl rfl) h3
 obtain ⟨a4,rfl,rfl,rfl,w4⟩:=open_int Tryz.underlying3 (hval 4 3 v4 rfl rfl) h4
 obtain ⟨ct,rfl,_⟩:=okWide_struct Tryz.underlying28 (hval 5 28 v5 rfl rfl)
 clear hA0 hval0
 simp only [List.append_nil] at hW'
 have hlt:∀ x∈p0,x.block < W.heap.size:=fun x hx => hW'.lt x (by simp [hx])
 have hlt1:∀ x∈p1,x.block < W.heap.size:=fun x hx => hW'.lt x (by simp [hx])
 have hlt5:∀ x∈p5,x.block < W.heap.size:=fun x hx => hW'.lt x (by simp [hx])
 obtain ⟨t,V⟩:=ty_in (ρ:=fun _ => ⟨0,0,0,0⟩) h0
 obtain ⟨dom,Vd⟩:=dom_in (ρ:=fun _ => ⟨0,0,0,0⟩) h1
 obtain ⟨x,Vt⟩:=term_inE (ρ:=fun _ => ⟨0,0,0,0⟩) h5
 refine (walk V Vd Vt).mono fun e W' ⟨he,hb⟩ => ?_
 subst he
 refine ⟨_,rfl,_,_,_,[],p0 ++ (p1 ++ ([] ++ ([] ++ ([] ++ (p5 ++ []))))),[],hW',trodAll_cons_mk (shut_bool Tryz.underlying4 _) trodAll_mk0,trodAll_cons_mk (Below.trod laid (by kernel_rfl) (of_decide_eq_true (by kernel_rfl)) h0 hb hlt) (trodAll_cons_mk (Below.trod laid (by kernel_rfl) (of_decide_eq_true (by kernel_rfl)) h1 hb hlt1) (trodAll_cons_mk (shut_int Tryz.underlying3 w2) (trodAll_cons_mk (shut_int Tryz.underlying3 w3) (trodAll_cons_mk (shut_int Tryz.underlying3 w4) (trodAll_cons_mk (Below.trod laid (by kernel_rfl) (of_decide_eq_true (by kernel_rfl)) h5 hb hlt5) trodAll_mk0))))),rfl,hb.frame _,fun h => by cases h⟩
theorem named:Tryz.pinned.checked.prog.funcNamed Rows.valsCaughtRow.func=some 8:=by kernel_rfl
theorem inst:Tryz.f8.isInstance Tryz.pinned.checked.prog Rows.valsCaughtRow.origin Rows.valsCaughtRow.targs:=of_decide_eq_true (by kernel_rfl)
theorem wrap:Tryz.f8.isWrapper Tryz.pinned.checked.prog Rows.valsCaughtRow.wrapper Rows.valsCaughtRow.mainSum:=by
 unfold Func.isWrapper
 rw [if_neg (by decide +kernel)]
 exact ⟨rfl,rfl⟩
theorem over:Rows.valsCaughtRow.holds Tryz.pinned (OpenSpec.ofChange Rows.valsCaughtSpec) :=
 OpenClaim.holds_of_wide 8 Tryz.f8 rfl rfl rfl rfl rfl rfl rfl ⟨rfl,rfl,rfl,rfl,rfl⟩ rfl rfl rfl rfl rfl named Tryz.func8 facts inst wrap
  (fun os started H enc _ => lifted os started H enc)
theorem proved:Rows.ValsCaughtSaid:=over
end Go.Proofs.YtekepgfmgeophaaGreat.valsCaught
