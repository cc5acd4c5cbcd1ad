/- ValsParts holds: the solutions of conditions over variables of their own, put behind each other, are those of both together, each with each, in the order of the first; unless Solve hands back an error; whatever the type, the domain, the sorts and the conditions. -/
import Derived.Test.YtekepgfmgeophaaGreatRows
import Derived.WalkKit
import Derived.ProofKit
import Derived.OpenShut
import Derived.Test.YtekepgfmgeophaaGreatPartAG
import Derived.Test.YtekepgfmgeophaaGreatPartAS
import Derived.SizedLaws
import Derived.Test.YtekepgfmgeophaaGreatPartBG
import Derived.Test.YtekepgfmgeophaaGreatPartBH
set_option linter.unusedVariables false
set_option linter.unusedSimpArgs false
namespace Go.Proofs.YtekepgfmgeophaaGreat.valsParts
open Go Go.ChangeShapes Go.WideShapes Go.ChangeAt Go.RowKit Go.AE Go.Proofs.Tryz
set_option linter.unusedVariables false
theorem own:ownKnob Tryz.prog.godebug=none:=by kernel_rfl
theorem laid:laidOutB Tryz.prog=true:=by kernel_rfl
theorem vr_len{w:World}{I:Nat->Nat->Prop}{D:Nat->Prop}{ρ:Nat->AE.Row}{sz:Nat}{es:List PV}{m:SM}{a:Option Addr}{len cap:Nat}(V:VR w I D ρ (.slice sz es m) (.slice a len cap)):len=es.length:=by cases V;rfl
theorem reach{H:Type}{enc:TypeId×Value->H}{w:World}{base:Nat}{spare:Nat->Bool}{held:Bool}{a:Option Addr}{len cap:Nat}{d:DataW H}{ps:List MemPlace}{ts:List TypeId}{ds:List (DataW H)}{t e:TypeId}{j:Nat}(hu:Tryz.prog.underlying t=some (.slice e))(hb:8≤Tryz.prog.bytesOf e)(h:DataW.Trod enc Tryz.prog w base spare held t (.slice a len cap) d ps)(hsz:(DataW.weightsEach Tryz.prog ts ds).all (·≤reachBytes)=true)(ht:ts[j]?=some t)(hd:ds[j]?=some d):len≤35184372088832:=by
 obtain⟨fuel,hf⟩:=h;rcases DataW.trod_slice hu hf with⟨h1,h2⟩|⟨a',len',cap',qb6,rest,n,_,h1,h2,_,_,_,h3,_⟩
 · simp only[Value.cells]at h1;injection h1 with h1
   injection h1 with _ h1 _;omega
 · simp only[Value.cells]at h1;injection h1 with h1
   injection h1 with _ h1 _;injection h2 with h2 _
   rw[h2]at hd;have hr:=sized_slice hsz ht hd hu;have h4:(List.map (·.1) qb6).length=len:=by rw[lM];omega
   have h5:((List.map (·.1) qb6).length+(List.map (·.1) rest).length) *8≤reachBytes:=nT (Nat.mul_le_mul_left _ hb) hr;have h6:=reachBytes_lt;omega
theorem ints_in{H:Type}{enc:TypeId×Value->H}{w:World}{base:Nat}{spare:Nat->Bool}{held:Bool}{ρ:Nat->AE.Row}{a:Option Addr}{len cap:Nat}{d:DataW H}{ps:List MemPlace}(h:DataW.Trod enc Tryz.prog w base spare held 42 (.slice a len cap) d ps):∃l:List Int,VR w (oldI w) noD ρ (.slice 1 (l.map encI) .any) (.slice a len cap)∧l.length=len:=by
 obtain⟨fuel,hf⟩:=h;obtain⟨x,_,k1,k2⟩:=qr7 (ρ:=ρ) fuel fuel _ _ _ (nR _) hf;have V:VR w (oldI w) noD ρ (.slice 1 (x.map encI) .any) (.slice a len cap):=by simpa[PV.cells,Value.cells]using k2 0
 exact⟨x,V,by have:=vr_len V;simpa using this.symm⟩
theorem pairs_in{H:Type}{enc:TypeId×Value->H}{w:World}{base:Nat}{spare:Nat->Bool}{held:Bool}{ρ:Nat->AE.Row}{a:Option Addr}{len cap:Nat}{d:DataW H}{ps:List MemPlace}(h:DataW.Trod enc Tryz.prog w base spare held 58 (.slice a len cap) d ps):∃l:List (Tm×Tm),VR w (oldI w) noD ρ (.slice 6 (l.map qah) .any) (.slice a len cap)∧l.length=len:=by
 obtain⟨fuel,hf⟩:=h;obtain⟨x,_,k1,k2⟩:=rd_pairs (ρ:=ρ) fuel fuel _ _ _ (nR _) hf;have V:VR w (oldI w) noD ρ (.slice 6 (x.map qah) .any) (.slice a len cap):=by simpa[PV.cells,Value.cells]using k2 0
 exact⟨x,V,by have:=vr_len V;simpa using this.symm⟩
theorem TD_sp75:TD.sp 75=some (qby af75):=(TD_sp rfl).trans (by rw[qk4];rfl)
theorem TD_sp154:TD.sp 154=some (qcj 6 80):=(TD_sp rfl).trans (by rw[qk4];rfl)
theorem TD_sp155:TD.sp 155=some (qcj 1 8):=(TD_sp rfl).trans (by rw[qk4];rfl)
theorem TD_sp159:TD.sp 159=some (qcj 3 40):=(TD_sp rfl).trans (by rw[qk4];rfl)
theorem walk{t:GTy}{dom:List (List Tm)}{vs ws:List Int}{cs os:List (Tm×Tm)}{ct:Array Value}{dv vv wv cv ov:Value}{w:World}(V0:VR w (oldI w) noD (fun _=>⟨0,0,0,0⟩) (qan t) (.agg ct))(V1:VR w (oldI w) noD (fun _=>⟨0,0,0,0⟩) (domV dom) dv)(V2:VR w (oldI w) noD (fun _=>⟨0,0,0,0⟩) (.slice 1 (vs.map encI) .any) vv)(V3:VR w (oldI w) noD (fun _=>⟨0,0,0,0⟩) (.slice 1 (ws.map encI) .any) wv)(V4:VR w (oldI w) noD (fun _=>⟨0,0,0,0⟩) (.slice 6 (cs.map qah) .any) cv)(V5:VR w (oldI w) noD (fun _=>⟨0,0,0,0⟩) (.slice 6 (os.map qah) .any) ov)(lv:vs.length≤35184372088832)(lw:ws.length≤35184372088832)(lc:cs.length≤35184372088832)(lo:os.length≤35184372088832):
 Calls Tryz.prog 14 #[.agg ct,dv,vv,wv,cv,ov] w fun e w'=>e=.returned (.bool true)∧Below w.heap.size w w':=by
 obtain⟨n,hn⟩:=parts_law TD_std TD_sp75 TD_sp154 TD_sp155 TD_sp159 TD_iter (fun h=>saneD_ev h) (t:=t) (fun h=>by obtain⟨r,I⟩:=tyinD (qlu h.small);exact⟨r,I,ntmD (qlu h.small)⟩) dom lv lw lc lo []
 have V':VRs w (oldI w) noD (fun _=>⟨0,0,0,0⟩) [qan t,domV dom,.slice 1 (vs.map encI) .any,.slice 1 (ws.map encI) .any,.slice 6 (cs.map qah) .any,.slice 6 (os.map qah) .any] [.agg ct,dv,vv,wv,cv,ov]:=by
  refine⟨rfl,fun j=>?_⟩
  match j with
  |0=>exact V0
  |1=>exact V1
  |2=>exact V2
  |3=>exact V3
  |4=>exact V4
  |5=>exact V5
  |j+6=>exact .undef _
 exact law_calls TD_ok (hn n (nR _)) V'
set_option maxRecDepth 100000 in
theorem lifted(os:Os)(started:os.Started)(H:Type)(enc:TypeId×Value->H):
 ReturnsInHanded {} Tryz.checked os 14 .any (Rows.valsPartsSpec.pre6 enc Tryz.prog Tryz.f14 Rows.valsPartsRow.domain false) (Rows.valsPartsSpec.post enc Tryz.prog Tryz.f14 false true false false):=by
 refine returnsInHanded_of_change_sized (C:=Tryz.checked) own started (by kernel_rfl) Tryz.func14
  (ChangeSpec.witness6 (enc:=enc) (C:=Tryz.checked) false ⟨#[],#[.agg #[.slice none 0 0,.slice none 0 0,.slice none 0 0],.slice none 0 0,.slice none 0 0,.slice none 0 0,.slice none 0 0,.slice none 0 0],[]⟩ 14 (by kernel_rfl) (by kernel_rfl) (by kernel_rfl) (by kernel_rfl)) ?_
 intro W base args ds gs before hval0 hW hcnd hsz _;have hval:∀(j:Nat) t v,Tryz.f14.params[j]?=some t->args[j]?=some v->Value.okWide Tryz.prog W .any base t v:=hval0;have hW':=hW;obtain⟨p,q,hA0,hV,rfl,hfz,hnd⟩:=hW;have hA:DataW.TrodAll enc Tryz.prog W 0 (fun _=>true) true Tryz.f14.params.toList args.toList ds p:=hA0;rw[Tryz.params14]at hA hval;obtain⟨v0,vs0,d0,ds0,p0,q0,hargs,rfl,rfl,h0,r0⟩:=trodAll_cons hA;obtain⟨v1,vs1,d1,ds1,p1,q1,rfl,rfl,rfl,h1,r1⟩:=trodAll_cons r0;obtain⟨v2,vs2,d2,ds2,p2,q2,rfl,rfl,rfl,h2,r2⟩:=trodAll_cons r1;obtain⟨v3,vs3,d3,ds3,p3,q3,rfl,rfl,rfl,h3,r3⟩:=trodAll_cons r2;obtain⟨v4,vs4,d4,ds4,p4,q4,rfl,rfl,rfl,h4,r4⟩:=trodAll_cons r3;obtain⟨v5,vs5,d5,ds5,p5,q5,rfl,rfl,rfl,h5,r5⟩:=trodAll_cons r4;obtain⟨rfl,rfl,rfl⟩:=trodAll_nil r5;obtain rfl:args=#[v0,v1,v2,v3,v4,v5]:=by cases args;simp_all
 obtain⟨rfl,rfl⟩:=trodVars_none hV;obtain⟨ct,rfl,_⟩:=okWide_struct Tryz.underlying41 (hval 0 41 v0 rfl rfl);obtain⟨a1,l1,c1,rfl⟩:=okWide_slice Tryz.underlying43 (hval 1 43 v1 rfl rfl);obtain⟨a2,l2,c2,rfl⟩:=okWide_slice Tryz.underlying42 (hval 2 42 v2 rfl rfl);obtain⟨a3,l3,c3,rfl⟩:=okWide_slice Tryz.underlying42 (hval 3 42 v3 rfl rfl);obtain⟨a4,l4,c4,rfl⟩:=okWide_slice Tryz.underlying58 (hval 4 58 v4 rfl rfl);obtain⟨a5,l5,c5,rfl⟩:=okWide_slice Tryz.underlying58 (hval 5 58 v5 rfl rfl);clear hA0 hval0;simp only[List.append_nil]at hW';have hlt0:∀x∈p0,x.block<W.heap.size:=fun x hx=>hW'.lt x (by simp[hx]);have hlt1:∀x∈p1,x.block<W.heap.size:=fun x hx=>hW'.lt x (by simp[hx]);have hlt2:∀x∈p2,x.block<W.heap.size:=fun x hx=>hW'.lt x (by simp[hx]);have hlt3:∀x∈p3,x.block<W.heap.size:=fun x hx=>hW'.lt x (by simp[hx]);have hlt4:∀x∈p4,x.block<W.heap.size:=fun x hx=>hW'.lt x (by simp[hx]);have hlt5:∀x∈p5,x.block<W.heap.size:=fun x hx=>hW'.lt x (by simp[hx]);obtain⟨x0,V0⟩:=ty_in (ρ:=fun _=>⟨0,0,0,0⟩) h0;obtain⟨x1,V1⟩:=dom_in (ρ:=fun _=>⟨0,0,0,0⟩) h1;obtain⟨x2,V2,e2⟩:=ints_in (ρ:=fun _=>⟨0,0,0,0⟩) h2;have m2:=reach (j:=2) Tryz.underlying42 (by decide+kernel) h2 hsz rfl rfl;obtain⟨x3,V3,e3⟩:=ints_in (ρ:=fun _=>⟨0,0,0,0⟩) h3;have m3:=reach (j:=3) Tryz.underlying42 (by decide+kernel) h3 hsz rfl rfl;obtain⟨x4,V4,e4⟩:=pairs_in (ρ:=fun _=>⟨0,0,0,0⟩) h4;have m4:=reach (j:=4) Tryz.underlying58 (by decide+kernel) h4 hsz rfl rfl;obtain⟨x5,V5,e5⟩:=pairs_in (ρ:=fun _=>⟨0,0,0,0⟩) h5;have m5:=reach (j:=5) Tryz.underlying58 (by decide+kernel) h5 hsz rfl rfl;refine(walk V0 V1 V2 V3 V4 V5 (by omega) (by omega) (by omega) (by omega)).mono fun e W' ⟨he,hb⟩=>?_;subst he;refine⟨_,rfl,_,_,_,[],p0++(p1++(p2++(p3++(p4++(p5++[]))))),[],hW',trodAll_cons_mk (shut_bool Tryz.underlying4 _) trodAll_mk0,trodAll_cons_mk (Below.trod laid (by kernel_rfl) (of_decide_eq_true (by kernel_rfl)) h0 hb hlt0) (trodAll_cons_mk (Below.trod laid (by kernel_rfl) (of_decide_eq_true (by kernel_rfl)) h1 hb hlt1) (trodAll_cons_mk (Below.trod laid (by kernel_rfl) (of_decide_eq_true (by kernel_rfl)) h2 hb hlt2) (trodAll_cons_mk (Below.trod laid (by kernel_rfl) (of_decide_eq_true (by kernel_rfl)) h3 hb hlt3) (trodAll_cons_mk (Below.trod laid (by kernel_rfl) (of_decide_eq_true (by kernel_rfl)) h4 hb hlt4) (trodAll_cons_mk (Below.trod laid (by kernel_rfl) (of_decide_eq_true (by kernel_rfl)) h5 hb hlt5) trodAll_mk0))))),rfl,hb.frame _,fun h=>by cases h⟩
theorem named:Tryz.pinned.checked.prog.funcNamed Rows.valsPartsRow.func=some 14:=by kernel_rfl
theorem inst:Tryz.f14.isInstance Tryz.pinned.checked.prog Rows.valsPartsRow.origin Rows.valsPartsRow.targs:=of_decide_eq_true (by kernel_rfl)
theorem wrap:Tryz.f14.isWrapper Tryz.pinned.checked.prog Rows.valsPartsRow.wrapper Rows.valsPartsRow.mainSum:=by unfold Func.isWrapper;rw[if_neg (by decide+kernel)];exact⟨rfl,rfl⟩
theorem over:Rows.valsPartsRow.holds Tryz.pinned (OpenSpec.ofChange Rows.valsPartsSpec):=
 OpenClaim.holds_of_wide 14 Tryz.f14 rfl rfl rfl rfl rfl rfl rfl ⟨rfl,rfl,rfl,rfl,rfl⟩ rfl rfl rfl rfl rfl named Tryz.func14 facts inst wrap
  (fun os started H enc _=>lifted os started H enc)
theorem proved:Rows.ValsPartsSaid:=over
end Go.Proofs.YtekepgfmgeophaaGreat.valsParts
