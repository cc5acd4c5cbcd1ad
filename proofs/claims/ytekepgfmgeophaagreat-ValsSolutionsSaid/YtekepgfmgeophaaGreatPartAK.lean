/- Calls that have been evaluated once: their results are handed back. -/
import Derived.Test.YtekepgfmgeophaaGreatPartAD
import Derived.Test.YtekepgfmgeophaaGreatPartAB
set_option linter.unusedVariables false
set_option linter.unusedSimpArgs false
namespace Go.AE
open Go
mutual
def peq:PV→PV→Bool
 |.bool a,.bool b=>a==b
 |.int k a,.int k' b=>decide (k=k')&&decide (a=b)
 |.str a,.str b=>decide (a.data.toList=b.data.toList)
 |.slice n es m,.slice n' es' m'=>decide (m=m')&&decide (n=n')&&peqs es es'
 |.iptr c o,.iptr c' o'=>peq c c'&&decide (o=o')
 |.agg cs,.agg cs'=>peqs cs cs'
 |.tuple cs,.tuple cs'=>peqs cs cs'
 |.nilptr,.nilptr=>true
 |_,_=>false
def peqs:List PV→List PV→Bool
 |[],[]=>true
 |x::xs,y::ys=>peq x y&&peqs xs ys
 |_,_=>false
end
mutual
theorem qqn:∀{p q:PV},peq p q=true→p=q
 |.bool a,q,h=>by
   cases q<;>simp[peq]at h;rw[h]
 |.int k a,q,h=>by
   cases q<;>simp[peq]at h;rw[h.1,h.2]
 |.str a,q,h=>by
   cases q<;>simp[peq]at h;rename_i b;obtain⟨⟨a⟩⟩:=a;obtain⟨⟨b⟩⟩:=b;simp at h;rw[h]
 |.slice n es m,q,h=>by
   cases q<;>simp[peq]at h;rw[h.1.1,h.1.2,qd8 h.2]
 |.iptr c o,q,h=>by
   cases q<;>simp[peq]at h;rw[qqn h.1,h.2]
 |.agg cs,q,h=>by
   cases q<;>simp[peq]at h;rw[qd8 h]
 |.tuple cs,q,h=>by
   cases q<;>simp[peq]at h;rw[qd8 h]
 |.nilptr,q,h=>by cases q<;>simp[peq]at h;rfl
 |.undef,q,h=>by cases q<;>simp[peq]at h
 |.aref ..,q,h=>by cases q<;>simp[peq]at h
 |.ptr ..,q,h=>by cases q<;>simp[peq]at h
 |.map _,q,h=>by cases q<;>simp[peq]at h
 |.func ..,q,h=>by cases q<;>simp[peq]at h
 |.nilFunc,q,h=>by cases q<;>simp[peq]at h
 |.iface ..,q,h=>by cases q<;>simp[peq]at h
 |.nilIface,q,h=>by cases q<;>simp[peq]at h
theorem qd8:∀{ps qs:List PV},peqs ps qs=true→ps=qs
 |[],qs,h=>by cases qs<;>simp[peqs]at h;rfl
 |x::xs,qs,h=>by cases qs<;>simp[peqs]at h;rw[qqn h.1,qd8 h.2]
end
mutual
def alike:PV→PV→Bool
 |.undef,.undef=>true
 |.bool a,.bool b=>a==b
 |.int k a,.int k' b=>decide (k=k')&&decide (a=b)
 |.str a,.str b=>decide (a.data.toList=b.data.toList)
 |.slice n es _,.slice n' es' m'=>decide (m'=.any)&& ((es.isEmpty&&es'.isEmpty)||(decide (n=n')&&qbw es es'))
 |.iptr c o,.iptr c' o'=>alike c c'&&decide (o=o')
 |.agg cs,.agg cs'=>qbw cs cs'
 |.tuple cs,.tuple cs'=>qbw cs cs'
 |.nilptr,.nilptr=>true
 |_,_=>false
def qbw:List PV→List PV→Bool
 |[],[]=>true
 |x::xs,y::ys=>alike x y&&qbw xs ys
 |_,_=>false
end
theorem qds:∀{ps qs:List PV},qbw ps qs=true→ps.length=qs.length
 |[],qs,h=>by cases qs<;>simp[qbw]at h;rfl
 |x::xs,qs,h=>by cases qs<;>simp[qbw]at h;simp[qds h.2]
theorem qeh:∀{ps qs:List PV}(j:Nat),qbw ps qs=true→alike (ps.getD j .undef) (qs.getD j .undef)=true
 |[],qs,j,h=>by cases qs<;>simp[qbw]at h;simp[alike]
 |x::xs,qs,j,h=>by
   cases qs<;>simp[qbw]at h;cases j with
   |zero=>simpa using h.1
   |succ j=>simpa using qeh j h.2
theorem qdp{p q:PV}(h:alike p q=true):qbw p.cells q.cells=true:=by cases p<;>cases q<;>simp[alike]at h<;>simp[PV.cells,qbw,alike,h]
theorem qdz:∀{a b c d:List PV},qbw a b=true→qbw c d=true→qbw (a++c) (b++d)=true
 |[],b,c,d,h,h2=>by cases b<;>simp[qbw]at h;simpa using h2
 |x::xs,b,c,d,h,h2=>by cases b<;>simp[qbw]at h;simp only[List.cons_append,qbw,bA0];exact⟨h.1,qdz h.2 h2⟩
theorem qmr:∀{es es':List PV},qbw es es'=true→qbw (flat es) (flat es')=true
 |[],es',h=>by cases es'<;>simp[qbw]at h;rfl
 |x::xs,es',h=>by cases es'<;>simp[qbw]at h;rw[qbg,qbg];exact qdz (qdp h.1) (qmr h.2)
section
variable {w:World}{I:Nat→Nat→Prop}{D:Nat→Prop}{ρ:Nat→Row}
theorem VR.alike{p:PV}{v:Value}(h:VR w I D ρ p v):∀q,alike p q=true→VR w I D ρ q v:=by
 induction h with
 |undef v=>intro q hq;cases q<;>simp[AE.alike]at hq;exact .undef v
 |bool b=>intro q hq;cases q<;>simp[AE.alike]at hq;subst hq;exact .bool _
 |int k n=>intro q hq;cases q<;>simp[AE.alike]at hq;obtain⟨rfl,rfl⟩:=hq;exact .int _ _
 |str s=>
   intro q hq;cases q<;>simp[AE.alike]at hq;rename_i b;obtain⟨⟨a⟩⟩:=s;obtain⟨⟨b⟩⟩:=b;simp at hq;subst hq;exact .str _
 |slice sz es m a cap b o vs hsz hm hne hcap hlen hat hv ih=>
   intro q hq;cases q<;>simp[AE.alike]at hq;rename_i sz' es' m';obtain⟨rfl,hq⟩:=hq;rcases hq with⟨rfl,rfl⟩|⟨rfl,hq⟩
   ·exact .slice sz' [] .any a cap b o vs (by simp) trivial (by simp) hcap hlen hat hv
   · have hl:=qds hq;have hf:=qmr hq;rw[hl]at hcap⊢;refine .slice sz es' .any a cap b o vs (fun e he=>?_) trivial (fun hn=>hne (by rintro rfl;simp at hl;exact hn (List.eq_nil_of_length_eq_zero hl.symm))) hcap (by rw[hlen,qds hf]) hat fun j=>ih j _ (qeh j hf);obtain⟨i,hi,rfl⟩:=List.getElem_of_mem he;have h1:=qeh i hq;rw[gD0,gD0,gE0 hi,gE0 (by omega)]at h1;have h2:=qds (qdp h1);simp only[Option.getD_some]at h2;rw[←h2];exact hsz _ (gX0 _)
 |aref=>intro q hq;cases q<;>simp[AE.alike]at hq
 |ptr=>intro q hq;cases q<;>simp[AE.alike]at hq
 |iptr c off b o vs hlen hat hv ih=>
   intro q hq;cases q<;>simp[AE.alike]at hq;rename_i c' o';obtain⟨hq,rfl⟩:=hq;have hc:=qdp hq;exact .iptr c' off b o vs (by rw[hlen,qds hc]) hat fun j=>ih j _ (qeh j hc)
 |nilptr=>intro q hq;cases q<;>simp[AE.alike]at hq;exact .nilptr
 |mapNil=>intro q hq;cases q<;>simp[AE.alike]at hq
 |map=>intro q hq;cases q<;>simp[AE.alike]at hq
 |func=>intro q hq;cases q<;>simp[AE.alike]at hq
 |nilFunc=>intro q hq;cases q<;>simp[AE.alike]at hq
 |iface=>intro q hq;cases q<;>simp[AE.alike]at hq
 |nilIface=>intro q hq;cases q<;>simp[AE.alike]at hq
 |agg cs vs hlen hv ih=>
   intro q hq;cases q<;>simp[AE.alike]at hq;rename_i cs';exact .agg cs' vs (by rw[hlen,qds hq]) fun j=>ih j _ (qeh j hq)
 |tuple ps vs hlen hv ih=>
   intro q hq;cases q<;>simp[AE.alike]at hq;rename_i cs';exact .tuple cs' vs (by rw[hlen,qds hq]) fun j=>ih j _ (qeh j hq)
end
abbrev SpFn:=(FuncId→List PV→List Obj→Option qam)→List PV→List Obj→Option qam
def memoSp(tbl:List (List PV×PV))(els:SpFn):SpFn:=fun call args h=>
 match tbl.find? (fun p=>qbw (qaq args) p.1&&qas args)with
 |some p=>some (.val p.2.weak,{h,ws:=[],ups:=[]})
 |none=>els call args h
structure SpOK (P:Program)(f:FuncId)(sp:SpFn):Prop where
 step:∀call,qa7 call→∀args h r s',sp call args h=some (r,s')→Step {h,ws:=[],ups:=[]} s'
 sp:∀call,qa7 call→qd0 P call→∀args h r s',sp call args h=some (r,s')→Enters P f∧h.length≤s'.h.length∧
  ∀w I D ρ vs,Sim w I D ρ h→VRs w I D ρ args vs→Calls P f vs.toArray w (qfy w I D ρ h r s')
def qbd(P:Program)(f:FuncId)(key:List PV)(res:PV):Prop:=res.pure=true∧∃T n,TblOK P T∧qbz T n f key []=some (.val res,{h:=[],ws:=[],ups:=[]})
theorem known_ok{P:Program}{f:FuncId}{key:List PV}{res:PV}(K:qbd P f key res){args:List PV}{h:List Obj}(hp:qas args=true)(hk:qbw (qaq args) key=true):
 Enters P f∧∀w I D ρ vs,Sim w I D ρ h→VRs w I D ρ args vs→Calls P f vs.toArray w (qfy w I D ρ h (.val res.weak) {h,ws:=[],ups:=[]}):=by
 obtain⟨hr,T,n,O,he⟩:=K;obtain⟨h1,_,h3⟩:=qc4 O n f key [] _ _ he;refine⟨h1,fun w I D ρ vs S V=>?_⟩;have V':VRs w I (fun _=>False) ρ key vs:=by refine⟨by rw[←qds hk,qce];simpa using V.1,fun j=>?_⟩;have h1:=qeh j hk;rw[qce,qc3]at h1;exact((V.2 j).pureWeak (qc0 ((qcz args).1 hp) j)).alike _ h1
 have S0:Sim w I (fun _=>False) ρ ([]:List Obj):=⟨fun _ h=>h.elim,fun _ _ h=>h.elim,fun _ _ h=>h.elim,S.imm⟩;refine(h3 w I _ ρ vs S0 V').mono fun en w' hpost=>?_;obtain⟨I',ρ',N,S',E⟩:=hpost;have st:Stp (fun _=>False) w I w' I':=N.stp.mono fun b ⟨k,hk,_⟩=>hk.elim;refine⟨I',ρ,?_,?_,?_⟩
 ·rw[qay];exact(Nxt.refl w I D ρ).stp_after st fun _ (h:False)=>h.elim
 ·rw[qay];exact S.stp st (fun _ _ h=>h) S'.imm
 · rw[qay];cases en with
   |returned v=>exact VR.pureWeak E hr
   |panicked ch=>exact E.elim
   |outgrown=>exact E.elim
theorem memoSp_ok{P:Program}{f:FuncId}{tbl:List (List PV×PV)}{els:SpFn}(hk:∀p∈tbl,qbd P f p.1 p.2)(he:SpOK P f els):SpOK P f (memoSp tbl els)where
 step call hS args h r s' hc:=by
  unfold memoSp at hc;split at hc
  ·cases hc;exact .refl _
  ·exact he.step call hS args h r s' hc
 sp call hS hC args h r s' hc:=by
  unfold memoSp at hc;split at hc
  next p hf=>
    cases hc;have h1:=List.find?_some hf;simp only[bA0]at h1;obtain⟨a,b⟩:=known_ok (hk p (List.mem_of_find?_eq_some hf)) (h:=h) h1.2 h1.1;exact⟨a,nR0 _,b⟩
  ·exact he.sp call hS hC args h r s' hc
def qtf(T:Tbl)(N:Nat)(f:FuncId):SpFn:=match T.sp f with
 |some sp=>sp
 |none=>fun call args h=>match T.fn f with
   |some af=>qfg T call N (T.mode f) af args h
   |none=>none
theorem qpg{P:Program}{T:Tbl}(O:TblOK P T)(N:Nat)(f:FuncId):SpOK P f (qtf T N f):=by
 unfold qtf;split
 next sp hsp=>
   exact⟨fun call hS=>O.step f sp hsp call hS,fun call hS hC=>O.sp f sp hsp call hS hC⟩
 · refine⟨fun call hS args h r s' hc=>?_,fun call hS hC args h r s' hc=>?_⟩
   · split at hc
     ·exact qgj hS hc
     ·cases hc
   · split at hc
     next af haf=>
       obtain⟨fn,rows,h1,h2,h3⟩:=O.fn f af haf;exact(qpn O.mixed O.prim O.iter h1 h3 h2 hS hC hc).2
     ·cases hc
def Tbl.with(T:Tbl)(N:Nat)(m:List (FuncId×List PV×PV)):Tbl:={T with sp:=fun f=>if m.any (fun p=>p.1==f)=true then some (memoSp ((m.filter fun p=>p.1==f).map (·.2)) (qtf T N f))else T.sp f}
theorem Tbl.with_ok{P:Program}{T:Tbl}(O:TblOK P T){N:Nat}{m:List (FuncId×List PV×PV)}(hm:∀p∈m,qbd P p.1 p.2.1 p.2.2):TblOK P (T.with N m):=by
 have key:∀f sp,(T.with N m).sp f=some sp→SpOK P f sp:=by
  intro f sp hsp;simp only[Tbl.with]at hsp;split at hsp
  · cases hsp;refine memoSp_ok (fun p hp=>?_) (qpg O N f);obtain⟨q,hq,rfl⟩:=mM0.1 hp;obtain⟨q1,q2⟩:=List.mem_filter.1 hq;have e:q.1=f:=by simpa using q2
    have:=hm q q1;rw[e]at this;exact this
  ·exact⟨fun call hS=>O.step f sp hsp call hS,fun call hS hC=>O.sp f sp hsp call hS hC⟩
 exact⟨O.mixed,O.prim,O.iter,O.fn,fun f sp h=>(key f sp h).step,fun f sp h=>(key f sp h).sp⟩
end Go.AE
