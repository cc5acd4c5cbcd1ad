/- Calls that are qo8, by keys: arguments with one key are answered by one value. -/
import Derived.Test.YtekepgfmgeophaaGreatPartAR
set_option linter.unusedVariables false
set_option linter.unusedSimpArgs false
namespace Go.AE
open Go
open Classical in
noncomputable def qht(P:Program)(f:FuncId)(good:List PV→PV→Prop)(κ:List PV→List PV)(els:SpFn):SpFn:=fun call args h=>
 if qas args=true∧(κ args=qaq args∨qbw (qaq args) (κ args)=true)then
  match qo8 P f good (κ args)with
  |some v=>some (.val v.weak,{h,ws:=[],ups:=[]})
  |none=>els call args h
 else els call args h
theorem qsv{P:Program}{f:FuncId}{good:List PV→PV→Prop}{κ:List PV→List PV}{els:SpFn}(he:SpOK P f els):SpOK P f (qht P f good κ els)where
 step call hS args h r s' hc:=by
  unfold qht at hc;split at hc
  · split at hc
    ·cases hc;exact .refl _
    ·exact he.step call hS args h r s' hc
  ·exact he.step call hS args h r s' hc
 sp call hS hC args h r s' hc:=by
  unfold qht at hc;split at hc
  next hp=>
    split at hc
    next v hv=>
      cases hc;obtain⟨h1,h2⟩:=hp;have hk:=(qhs hv).1;rcases h2 with h2|h2
      · rw[h2]at hk;obtain⟨a,b⟩:=known_ok' hk (h:=h) h1;exact⟨a,nR0 _,b⟩
      · obtain⟨a,b⟩:=known_ok hk (h:=h) h1 h2;exact⟨a,nR0 _,b⟩
    ·exact he.sp call hS hC args h r s' hc
  ·exact he.sp call hS hC args h r s' hc
noncomputable def Tbl.knowsK(T:Tbl)(P:Program)(N:Nat)(m:FuncId→Option (List PV→PV→Prop))(κ:FuncId→List PV→List PV):Tbl:=
 {T with sp:=fun f=>match m f with
     |some good=>some (qht P f good (κ f) (qtf T N f))
     |none=>T.sp f}
section
variable {P:Program}{T:Tbl}{N:Nat}{m:FuncId→Option (List PV→PV→Prop)}{κ:FuncId→List PV→List PV}{f:FuncId}
theorem Tbl.knowsK_fn:(T.knowsK P N m κ).fn=T.fn:=rfl
theorem Tbl.knowsK_prim:(T.knowsK P N m κ).prim=T.prim:=rfl
theorem Tbl.knowsK_mode:(T.knowsK P N m κ).mode=T.mode:=rfl
theorem Tbl.knowsK_iter:(T.knowsK P N m κ).iter=T.iter:=rfl
theorem Tbl.knowsK_sp(h:m f=none):(T.knowsK P N m κ).sp f=T.sp f:=by simp only[Tbl.knowsK,h]
theorem Tbl.knowsK_ok(O:TblOK P T):TblOK P (T.knowsK P N m κ):=by
 have key:∀f sp,(T.knowsK P N m κ).sp f=some sp→SpOK P f sp:=by
  intro f sp hsp;simp only[Tbl.knowsK]at hsp;split at hsp
  · cases hsp;exact qsv (qpg O N f)
  ·exact⟨fun call hS=>O.step f sp hsp call hS,fun call hS hC=>O.sp f sp hsp call hS hC⟩
 exact⟨O.mixed,O.prim,O.iter,O.fn,fun f sp h=>(key f sp h).step,fun f sp h=>(key f sp h).sp⟩
theorem Ev.knowsK{good:List PV→PV→Prop}(hm:m f=some good){key:List PV}{v:PV}(hk:qbd P f key v)(hg:good key v):
 ∃v',good key v'∧v'.pure=true∧∀args,qas args=true→κ f args=key→(key=qaq args∨qbw (qaq args) key=true)→∀h,Ev (T.knowsK P N m κ) f args h (.val v'.weak,⟨h,[],[]⟩):=by
 obtain⟨v',hv'⟩:=known_of (good:=good) hk hg;obtain⟨k1,k2⟩:=qhs hv';refine⟨v',k2,k1.1,fun args hp hkey hal h=>⟨1,fun n hn=>?_⟩⟩;obtain⟨n,rfl⟩:∃k,n=k+1:=⟨n - 1,by omega⟩;have e:(T.knowsK P N m κ).sp f=some (qht P f good (κ f) (qtf T N f)):=by simp only[Tbl.knowsK,hm]
 subst hkey;simp only[qbz,e,qht];rw[if_pos ⟨hp,hal⟩];simp only[hv']
end
end Go.AE
