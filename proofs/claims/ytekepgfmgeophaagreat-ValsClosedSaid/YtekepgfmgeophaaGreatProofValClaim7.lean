/- ValsClosed holds: where a domain is not closed, Open hands back an operation and values for it that lead out of the domain; where it is closed, each closed term has its value in it; whatever the type, the domain and the term. -/
import Derived.Test.YtekepgfmgeophaaGreatRows
import Derived.WalkKit
import Derived.ProofKit
import Derived.OpenShut
import Derived.Test.YtekepgfmgeophaaGreatPartAG
import Derived.Test.YtekepgfmgeophaaGreatPartAQ
import Derived.Test.YtekepgfmgeophaaGreatPartBE
import Derived.Test.YtekepgfmgeophaaGreatPartBF
set_option linter.unusedVariables false
set_option linter.unusedSimpArgs false
namespace Go.Proofs.YtekepgfmgeophaaGreat.valsClosed
open Go Go.ChangeShapes Go.WideShapes Go.ChangeAt Go.RowKit Go.AE Go.Proofs.Tryz
set_option linter.unusedVariables false
theorem own:ownKnob Tryz.prog.godebug=none:=by kernel_rfl
theorem laid:laidOutB Tryz.prog=true:=by kernel_rfl
theorem walk{t:GTy}{dom:List (List Tm)}{x:Tm}{cs ct:Array Value}{dv:Value}{w:World}(V:VR w (oldI w) noD (fun _=>⟨0,0,0,0⟩) (encTy t) (.agg cs))(Vd:VR w (oldI w) noD (fun _=>⟨0,0,0,0⟩) (domV dom) dv)(Vt:VR w (oldI w) noD (fun _=>⟨0,0,0,0⟩) (encT x) (.agg ct)):
 Calls Tryz.prog 7 #[.agg cs,dv,.agg ct] w fun e w'=>e=.returned (.bool true)∧Below w.heap.size w w':=by
 obtain⟨n,hn⟩:=closed_law TD_std TD_iter (fun h=>saneD_ev h) (t:=t) (fun h=>by obtain⟨r,I⟩:=tyinD (smallB_fits h.small);exact⟨r,I,ntmD (smallB_fits h.small)⟩) dom x []
 have V':VRs w (oldI w) noD (fun _=>⟨0,0,0,0⟩) [encTy t,domV dom,encT x] [.agg cs,dv,.agg ct]:=by
  refine⟨rfl,fun j=>?_⟩
  match j with
  |0=>exact V
  |1=>exact Vd
  |2=>exact Vt
  |j+3=>exact .undef _
 exact law_calls TD_ok (hn n (Nat.le_refl _)) V'
set_option maxRecDepth 100000 in
theorem lifted(os:Os)(started:os.Started)(H:Type)(enc:TypeId×Value→H):
 ReturnsInHanded {} Tryz.checked os 7 .any (Rows.valsClosedSpec.pre6 enc Tryz.prog Tryz.f7 Rows.valsClosedRow.domain false) (Rows.valsClosedSpec.post enc Tryz.prog Tryz.f7 false true false false):=by
 refine returnsInHanded_of_change (C:=Tryz.checked) own started (by kernel_rfl) Tryz.func7
  (ChangeSpec.witness6 (enc:=enc) (C:=Tryz.checked) false ⟨#[],#[.agg #[.slice none 0 0,.slice none 0 0,.slice none 0 0],.slice none 0 0,.agg #[.int .i64 0,.int .i64 0,.slice none 0 0]],[]⟩ 7 (by kernel_rfl) (by kernel_rfl) (by kernel_rfl) (by kernel_rfl)) ?_
 intro W base args ds gs before hval0 hW hcnd _;have hval:∀(j:Nat) t v,Tryz.f7.params[j]?=some t→args[j]?=some v→Value.okWide Tryz.prog W .any base t v:=hval0;have hW':=hW;obtain⟨p,q,hA0,hV,rfl,hfz,hnd⟩:=hW;have hA:DataW.TrodAll enc Tryz.prog W 0 (fun _=>true) true Tryz.f7.params.toList args.toList ds p:=hA0;rw[Tryz.params7]at hA hval;obtain⟨v0,vs0,d0,ds0,p0,q0,hargs,rfl,rfl,h0,r0⟩:=trodAll_cons hA;obtain⟨v1,vs1,d1,ds1,p1,q1,rfl,rfl,rfl,h1,r1⟩:=trodAll_cons r0;obtain⟨v2,vs2,d2,ds2,p2,q2,rfl,rfl,rfl,h2,r2⟩:=trodAll_cons r1;obtain⟨rfl,rfl,rfl⟩:=trodAll_nil r2;obtain rfl:args=#[v0,v1,v2]:=by cases args;simp_all
 obtain⟨rfl,rfl⟩:=trodVars_none hV;obtain⟨cs,rfl,_⟩:=okWide_struct Tryz.underlying41 (hval 0 41 v0 rfl rfl);obtain⟨da,dl,dc,rfl⟩:=okWide_slice Tryz.underlying43 (hval 1 43 v1 rfl rfl);obtain⟨ct,rfl,_⟩:=okWide_struct Tryz.underlying28 (hval 2 28 v2 rfl rfl);clear hA0 hval0;simp only[List.append_nil]at hW';have hlt:∀x∈p0,x.block<W.heap.size:=fun x hx=>hW'.lt x (by simp[hx]);have hlt1:∀x∈p1,x.block<W.heap.size:=fun x hx=>hW'.lt x (by simp[hx]);have hlt2:∀x∈p2,x.block<W.heap.size:=fun x hx=>hW'.lt x (by simp[hx]);obtain⟨t,V⟩:=ty_in (ρ:=fun _=>⟨0,0,0,0⟩) h0;obtain⟨dom,Vd⟩:=dom_in (ρ:=fun _=>⟨0,0,0,0⟩) h1;obtain⟨x,Vt⟩:=term_inE (ρ:=fun _=>⟨0,0,0,0⟩) h2;refine(walk V Vd Vt).mono fun e W' ⟨he,hb⟩=>?_;subst he;refine⟨_,rfl,_,_,_,[],p0++(p1++(p2++[])),[],hW',trodAll_cons_mk (shut_bool Tryz.underlying4 _) trodAll_mk0,trodAll_cons_mk (Below.trod laid (by kernel_rfl) (of_decide_eq_true (by kernel_rfl)) h0 hb hlt) (trodAll_cons_mk (Below.trod laid (by kernel_rfl) (of_decide_eq_true (by kernel_rfl)) h1 hb hlt1) (trodAll_cons_mk (Below.trod laid (by kernel_rfl) (of_decide_eq_true (by kernel_rfl)) h2 hb hlt2) trodAll_mk0)),rfl,hb.frame _,fun h=>by cases h⟩
theorem named:Tryz.pinned.checked.prog.funcNamed Rows.valsClosedRow.func=some 7:=by kernel_rfl
theorem inst:Tryz.f7.isInstance Tryz.pinned.checked.prog Rows.valsClosedRow.origin Rows.valsClosedRow.targs:=of_decide_eq_true (by kernel_rfl)
theorem wrap:Tryz.f7.isWrapper Tryz.pinned.checked.prog Rows.valsClosedRow.wrapper Rows.valsClosedRow.mainSum:=by unfold Func.isWrapper;rw[if_neg (by decide+kernel)];exact⟨rfl,rfl⟩
theorem over:Rows.valsClosedRow.holds Tryz.pinned (OpenSpec.ofChange Rows.valsClosedSpec):=
 OpenClaim.holds_of_wide 7 Tryz.f7 rfl rfl rfl rfl rfl rfl rfl ⟨rfl,rfl,rfl,rfl,rfl⟩ rfl rfl rfl rfl rfl named Tryz.func7 facts inst wrap
  (fun os started H enc _=>lifted os started H enc)
theorem proved:Rows.ValsClosedSaid:=over
end Go.Proofs.YtekepgfmgeophaaGreat.valsClosed
