/- All calls that are qo8, with a property: each is answered by one value. -/
import Derived.Test.YtekepgfmgeophaaGreatPartAK
import Derived.Test.YtekepgfmgeophaaGreatPartAI
set_option linter.unusedVariables false
set_option linter.unusedSimpArgs false
namespace Go.AE
open Go
theorem known_ok'{P:Program}{f:FuncId}{args:List PV}{res:PV}(K:qbd P f (qaq args) res){h:List Obj}(hp:qas args=true):
 Enters P f∧∀w I D ρ vs,Sim w I D ρ h→VRs w I D ρ args vs→Calls P f vs.toArray w (qfy w I D ρ h (.val res.weak) {h,ws:=[],ups:=[]}):=by
 obtain⟨hr,T,n,O,he⟩:=K;obtain⟨h1,_,h3⟩:=qc4 O n f (qaq args) [] _ _ he;refine⟨h1,fun w I D ρ vs S V=>?_⟩;have V':VRs w I (fun _=>False) ρ (qaq args) vs:=by refine⟨by rw[qce];simpa using V.1,fun j=>?_⟩;rw[qce,qc3];exact(V.2 j).pureWeak (qc0 ((qcz args).1 hp) j)
 have S0:Sim w I (fun _=>False) ρ ([]:List Obj):=⟨fun _ h=>h.elim,fun _ _ h=>h.elim,fun _ _ h=>h.elim,S.imm⟩;refine(h3 w I _ ρ vs S0 V').mono fun en w' hpost=>?_;obtain⟨I',ρ',N,S',E⟩:=hpost;have st:Stp (fun _=>False) w I w' I':=N.stp.mono fun b ⟨k,hk,_⟩=>hk.elim;refine⟨I',ρ,?_,?_,?_⟩
 ·rw[qay];exact(Nxt.refl w I D ρ).stp_after st fun _ (h:False)=>h.elim
 ·rw[qay];exact S.stp st (fun _ _ h=>h) S'.imm
 · rw[qay];cases en with
   |returned v=>exact VR.pureWeak E hr
   |panicked ch=>exact E.elim
   |outgrown=>exact E.elim
open Classical in
noncomputable def qo8(P:Program)(f:FuncId)(good:List PV→PV→Prop)(key:List PV):Option PV:=if h:∃v,qbd P f key v∧good key v then some h.choose else none
theorem qhs{P:Program}{f:FuncId}{good:List PV→PV→Prop}{key:List PV}{v:PV}(h:qo8 P f good key=some v):qbd P f key v∧good key v:=by
 unfold qo8 at h;split at h
 ·grind
 ·cases h
theorem known_of{P:Program}{f:FuncId}{good:List PV→PV→Prop}{key:List PV}{v:PV}(h:qbd P f key v)(hg:good key v):∃v',qo8 P f good key=some v':=by unfold qo8;rw[dif_pos ⟨v,h,hg⟩];exact⟨_,rfl⟩
noncomputable def qj0(P:Program)(f:FuncId)(good:List PV→PV→Prop)(els:SpFn):SpFn:=fun call args h=>
 if qas args=true then
  match qo8 P f good (qaq args)with
  |some v=>some (.val v.weak,{h,ws:=[],ups:=[]})
  |none=>els call args h
 else els call args h
theorem knownSp_ok{P:Program}{f:FuncId}{good:List PV→PV→Prop}{els:SpFn}(he:SpOK P f els):SpOK P f (qj0 P f good els)where
 step call hS args h r s' hc:=by
  unfold qj0 at hc;split at hc
  · split at hc
    ·cases hc;exact .refl _
    ·exact he.step call hS args h r s' hc
  ·exact he.step call hS args h r s' hc
 sp call hS hC args h r s' hc:=by
  unfold qj0 at hc;split at hc
  next hp=>
    split at hc
    next v hv=>
      cases hc;obtain⟨a,b⟩:=known_ok' (qhs hv).1 (h:=h) hp;exact⟨a,nR0 _,b⟩
    ·exact he.sp call hS hC args h r s' hc
  ·exact he.sp call hS hC args h r s' hc
noncomputable def Tbl.knows(T:Tbl)(P:Program)(N:Nat)(m:FuncId→Option (List PV→PV→Prop)):Tbl:=
 {T with sp:=fun f=>match m f with
     |some good=>some (qj0 P f good (qtf T N f))
     |none=>T.sp f}
theorem Tbl.knows_fn{T:Tbl}{P:Program}{N:Nat}{m:FuncId→Option (List PV→PV→Prop)}:(T.knows P N m).fn=T.fn:=rfl
theorem Tbl.knows_prim{T:Tbl}{P:Program}{N:Nat}{m:FuncId→Option (List PV→PV→Prop)}:(T.knows P N m).prim=T.prim:=rfl
theorem Tbl.knows_mode{T:Tbl}{P:Program}{N:Nat}{m:FuncId→Option (List PV→PV→Prop)}:(T.knows P N m).mode=T.mode:=rfl
theorem Tbl.knows_sp{T:Tbl}{P:Program}{N:Nat}{m:FuncId→Option (List PV→PV→Prop)}{f:FuncId}(h:m f=none):(T.knows P N m).sp f=T.sp f:=by simp only[Tbl.knows,h]
theorem Tbl.knows_ok{P:Program}{T:Tbl}(O:TblOK P T){N:Nat}{m:FuncId→Option (List PV→PV→Prop)}:TblOK P (T.knows P N m):=by
 have key:∀f sp,(T.knows P N m).sp f=some sp→SpOK P f sp:=by
  intro f sp hsp;simp only[Tbl.knows]at hsp;split at hsp
  · cases hsp;exact knownSp_ok (qpg O N f)
  ·exact⟨fun call hS=>O.step f sp hsp call hS,fun call hS hC=>O.sp f sp hsp call hS hC⟩
 exact⟨O.mixed,O.prim,O.iter,O.fn,fun f sp h=>(key f sp h).step,fun f sp h=>(key f sp h).sp⟩
theorem qbd.of_ev{P:Program}{T:Tbl}(O:TblOK P T){f:FuncId}{key:List PV}{v:PV}(hv:v.pure=true)(h:Ev T f key [] (.val v,⟨[],[],[]⟩)):qbd P f key v:=by obtain⟨N,hN⟩:=h;exact⟨hv,T,N,O,hN N (nR0 _)⟩
theorem Ev.knows{P:Program}{T:Tbl}{N:Nat}{m:FuncId→Option (List PV→PV→Prop)}{f:FuncId}{good:List PV→PV→Prop}(hm:m f=some good){args:List PV}{v:PV}(hp:qas args=true)(hw:qaq args=args)(hk:qbd P f args v)(hg:good args v):
 ∃v',good args v'∧v'.pure=true∧∀h,Ev (T.knows P N m) f args h (.val v'.weak,⟨h,[],[]⟩):=by
 obtain⟨v',hv'⟩:=known_of (good:=good) hk hg;obtain⟨k1,k2⟩:=qhs hv';refine⟨v',k2,k1.1,fun h=>⟨1,fun n hn=>?_⟩⟩;obtain⟨n,rfl⟩:∃k,n=k+1:=⟨n - 1,by omega⟩;have e:(T.knows P N m).sp f=some (qj0 P f good (qtf T N f)):=by simp only[Tbl.knows,hm]
 simp only[qbz,e,qj0,hp,if_true,hw,hv']
end Go.AE
