/- ValsSolutions holds: what Solve hands back is over the domain and satisfies all pairs, in order, and all others satisfy one of them not; pairs in another order and with their sides exchanged have the same solutions; with one less there are no fewer; whatever the type, the domain, the sorts and the conditions. -/
import Derived.Test.YtekepgfmgeophaaGreatRows
import Derived.WalkKit
import Derived.ProofKit
import Derived.OpenShut
import Derived.Test.YtekepgfmgeophaaGreatPartAG
import Derived.Test.YtekepgfmgeophaaGreatPartAS
import Derived.Test.YtekepgfmgeophaaGreatPartBI
import Derived.Test.YtekepgfmgeophaaGreatPartBJ
set_option linter.unusedVariables false
set_option linter.unusedSimpArgs false
namespace Go.Proofs.YtekepgfmgeophaaGreat.valsSolutions
open Go Go.ChangeShapes Go.WideShapes Go.ChangeAt Go.RowKit Go.AE Go.Proofs.Tryz
set_option linter.unusedVariables false
theorem own:ownKnob Tryz.prog.godebug=none:=by kernel_rfl
theorem laid:laidOutB Tryz.prog=true:=by kernel_rfl
theorem ints_in{H:Type}{enc:TypeId×Value→H}{w:World}{base:Nat}{spare:Nat→Bool}{held:Bool}{ρ:Nat→AE.Row}{a:Option Addr}{len cap:Nat}{d:DataW H}{ps:List MemPlace}(h:DataW.Trod enc Tryz.prog w base spare held 42 (.slice a len cap) d ps):∃l:List Int,VR w (oldI w) noD ρ (.slice 1 (l.map encI) .any) (.slice a len cap):=by obtain⟨fuel,hf⟩:=h;obtain⟨x,_,k1,k2⟩:=qsl (ρ:=ρ) fuel fuel _ _ _ (nR0 _) hf;exact⟨x,by simpa[PV.cells,Value.cells]using k2 0⟩
theorem pairs_in{H:Type}{enc:TypeId×Value→H}{w:World}{base:Nat}{spare:Nat→Bool}{held:Bool}{ρ:Nat→AE.Row}{a:Option Addr}{len cap:Nat}{d:DataW H}{ps:List MemPlace}(h:DataW.Trod enc Tryz.prog w base spare held 58 (.slice a len cap) d ps):∃l:List (Tm×Tm),VR w (oldI w) noD ρ (.slice 6 (l.map qag) .any) (.slice a len cap):=by obtain⟨fuel,hf⟩:=h;obtain⟨x,_,k1,k2⟩:=rd_pairs (ρ:=ρ) fuel fuel _ _ _ (nR0 _) hf;exact⟨x,by simpa[PV.cells,Value.cells]using k2 0⟩
theorem walk{t:GTy}{dom:List (List Tm)}{vs:List Int}{cs:List (Tm×Tm)}{ct:Array Value}{dv vv cv:Value}{w:World}(V0:VR w (oldI w) noD (fun _=>⟨0,0,0,0⟩) (qai t) (.agg ct))(V1:VR w (oldI w) noD (fun _=>⟨0,0,0,0⟩) (domV dom) dv)(V2:VR w (oldI w) noD (fun _=>⟨0,0,0,0⟩) (.slice 1 (vs.map encI) .any) vv)(V3:VR w (oldI w) noD (fun _=>⟨0,0,0,0⟩) (.slice 6 (cs.map qag) .any) cv):
 Calls Tryz.prog 13 #[.agg ct,dv,vv,cv] w fun e w'=>e=.returned (.bool true)∧Below w.heap.size w w':=by
 obtain⟨st,ST⟩:=stS;obtain⟨n,hn⟩:=qow TZ_std TZ_sp137 TZ_iter.1 TZ_iter.2 (fun h=>saneS_ev h) ST (t:=t) (fun h=>by obtain⟨r,I⟩:=tyinS (qlu h.small);exact⟨r,I,ntmS (qlu h.small)⟩) dom (vs:=vs) (cs:=cs) []
 have V':VRs w (oldI w) noD (fun _=>⟨0,0,0,0⟩) [qai t,domV dom,.slice 1 (vs.map encI) .any,.slice 6 (cs.map qag) .any] [.agg ct,dv,vv,cv]:=by
  refine⟨rfl,fun j=>?_⟩
  match j with
  |0=>exact V0
  |1=>exact V1
  |2=>exact V2
  |3=>exact V3
  |j+4=>exact .undef _
 exact law_calls TZ_ok (hn n (nR0 _)) V'
set_option maxRecDepth 100000 in
theorem lifted(os:Os)(started:os.Started)(H:Type)(enc:TypeId×Value→H):
 ReturnsInHanded {} Tryz.checked os 13 .any (Rows.valsSolutionsSpec.pre6 enc Tryz.prog Tryz.f13 Rows.valsSolutionsRow.domain false) (Rows.valsSolutionsSpec.post enc Tryz.prog Tryz.f13 false true false false):=by
 refine returnsInHanded_of_change (C:=Tryz.checked) own started (by kernel_rfl) Tryz.func13
  (ChangeSpec.witness6 (enc:=enc) (C:=Tryz.checked) false ⟨#[],#[.agg #[.slice none 0 0,.slice none 0 0,.slice none 0 0],.slice none 0 0,.slice none 0 0,.slice none 0 0],[]⟩ 13 (by kernel_rfl) (by kernel_rfl) (by kernel_rfl) (by kernel_rfl)) ?_
 intro W base args ds gs before hval0 hW hcnd _;have hval:∀(j:Nat) t v,Tryz.f13.params[j]?=some t→args[j]?=some v→Value.okWide Tryz.prog W .any base t v:=hval0;have hW':=hW;obtain⟨p,q,hA0,hV,rfl,hfz,hnd⟩:=hW;have hA:DataW.TrodAll enc Tryz.prog W 0 (fun _=>true) true Tryz.f13.params.toList args.toList ds p:=hA0;rw[Tryz.params13]at hA hval;obtain⟨v0,vs0,d0,ds0,p0,q0,hargs,rfl,rfl,h0,r0⟩:=trodAll_cons hA;obtain⟨v1,vs1,d1,ds1,p1,q1,rfl,rfl,rfl,h1,r1⟩:=trodAll_cons r0;obtain⟨v2,vs2,d2,ds2,p2,q2,rfl,rfl,rfl,h2,r2⟩:=trodAll_cons r1;obtain⟨v3,vs3,d3,ds3,p3,q3,rfl,rfl,rfl,h3,r3⟩:=trodAll_cons r2;obtain⟨rfl,rfl,rfl⟩:=trodAll_nil r3;obtain rfl:args=#[v0,v1,v2,v3]:=by cases args;simp_all
 obtain⟨rfl,rfl⟩:=trodVars_none hV;obtain⟨ct,rfl,_⟩:=okWide_struct Tryz.underlying41 (hval 0 41 v0 rfl rfl);obtain⟨a1,l1,c1,rfl⟩:=okWide_slice Tryz.underlying43 (hval 1 43 v1 rfl rfl);obtain⟨a2,l2,c2,rfl⟩:=okWide_slice Tryz.underlying42 (hval 2 42 v2 rfl rfl);obtain⟨a3,l3,c3,rfl⟩:=okWide_slice Tryz.underlying58 (hval 3 58 v3 rfl rfl);clear hA0 hval0;simp only[List.append_nil]at hW';have hlt0:∀x∈p0,x.block<W.heap.size:=fun x hx=>hW'.lt x (by simp[hx]);have hlt1:∀x∈p1,x.block<W.heap.size:=fun x hx=>hW'.lt x (by simp[hx]);have hlt2:∀x∈p2,x.block<W.heap.size:=fun x hx=>hW'.lt x (by simp[hx]);have hlt3:∀x∈p3,x.block<W.heap.size:=fun x hx=>hW'.lt x (by simp[hx]);obtain⟨x0,V0⟩:=ty_in (ρ:=fun _=>⟨0,0,0,0⟩) h0;obtain⟨x1,V1⟩:=dom_in (ρ:=fun _=>⟨0,0,0,0⟩) h1;obtain⟨x2,V2⟩:=ints_in (ρ:=fun _=>⟨0,0,0,0⟩) h2;obtain⟨x3,V3⟩:=pairs_in (ρ:=fun _=>⟨0,0,0,0⟩) h3;refine(walk V0 V1 V2 V3).mono fun e W' ⟨he,hb⟩=>?_;subst he;refine⟨_,rfl,_,_,_,[],p0++(p1++(p2++(p3++[]))),[],hW',trodAll_cons_mk (shut_bool Tryz.underlying4 _) trodAll_mk0,trodAll_cons_mk (Below.trod laid (by kernel_rfl) (of_decide_eq_true (by kernel_rfl)) h0 hb hlt0) (trodAll_cons_mk (Below.trod laid (by kernel_rfl) (of_decide_eq_true (by kernel_rfl)) h1 hb hlt1) (trodAll_cons_mk (Below.trod laid (by kernel_rfl) (of_decide_eq_true (by kernel_rfl)) h2 hb hlt2) (trodAll_cons_mk (Below.trod laid (by kernel_rfl) (of_decide_eq_true (by kernel_rfl)) h3 hb hlt3) trodAll_mk0))),rfl,hb.frame _,fun h=>by cases h⟩
theorem named:Tryz.pinned.checked.prog.funcNamed Rows.valsSolutionsRow.func=some 13:=by kernel_rfl
theorem inst:Tryz.f13.isInstance Tryz.pinned.checked.prog Rows.valsSolutionsRow.origin Rows.valsSolutionsRow.targs:=of_decide_eq_true (by kernel_rfl)
theorem wrap:Tryz.f13.isWrapper Tryz.pinned.checked.prog Rows.valsSolutionsRow.wrapper Rows.valsSolutionsRow.mainSum:=by unfold Func.isWrapper;rw[if_neg (by decide+kernel)];exact⟨rfl,rfl⟩
theorem over:Rows.valsSolutionsRow.holds Tryz.pinned (OpenSpec.ofChange Rows.valsSolutionsSpec):=
 OpenClaim.holds_of_wide 13 Tryz.f13 rfl rfl rfl rfl rfl rfl rfl ⟨rfl,rfl,rfl,rfl,rfl⟩ rfl rfl rfl rfl rfl named Tryz.func13 facts inst wrap
  (fun os started H enc _=>lifted os started H enc)
theorem proved:Rows.ValsSolutionsSaid:=over
end Go.Proofs.YtekepgfmgeophaaGreat.valsSolutions
