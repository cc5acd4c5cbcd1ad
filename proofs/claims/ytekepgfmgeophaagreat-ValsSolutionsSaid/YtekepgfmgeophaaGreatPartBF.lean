/- A call that was evaluated in a small memory, in a greater one that holds it. -/
import Derived.Test.YtekepgfmgeophaaGreatPartAR
set_option linter.unusedVariables false
set_option linter.unusedSimpArgs false
namespace Go.AE
open Go
def SM.ren(ι:Nat→Nat):SM→SM
 |.tok k=>.tok (ι k)
 |m=>m
mutual
def PV.ren(ι:Nat→Nat):PV→PV
 |.slice sz es m=>.slice sz (rens ι es) (m.ren ι)
 |.aref k sz off len tip=>.aref (ι k) sz off len tip
 |.ptr k i off tip=>.ptr (ι k) i off tip
 |.iptr c off=>.iptr (c.ren ι) off
 |.map r=>.map (r.map ι)
 |.func fn f c=>.func fn (rens ι f) (rens ι c)
 |.iface t v=>.iface t (v.ren ι)
 |.agg cs=>.agg (rens ι cs)
 |.tuple vs=>.tuple (rens ι vs)
 |.undef=>.undef
 |.bool b=>.bool b
 |.int k n=>.int k n
 |.str s=>.str s
 |.nilptr=>.nilptr
 |.nilFunc=>.nilFunc
 |.nilIface=>.nilIface
def rens(ι:Nat→Nat):List PV→List PV
 |[]=>[]
 |p::ps=>p.ren ι::rens ι ps
end
theorem qel(ι:Nat→Nat):∀l:List PV,rens ι l=l.map (PV.ren ι)
 |[]=>rfl
 |p::ps=>by simp only[rens,List.map_cons,qel ι ps]
theorem qbp(ι:Nat→Nat)(l:List PV):(rens ι l).length=l.length:=by rw[qel];simp
theorem qcp(ι:Nat→Nat)(l:List PV)(j:Nat):(rens ι l).getD j .undef=(l.getD j .undef).ren ι:=by rw[qel,gD0,gD0,gM0];cases l[j]? <;>simp[PV.ren]
theorem qdv(ι:Nat→Nat)(p:PV):(p.ren ι).cells=rens ι p.cells:=by cases p<;>simp[PV.ren,PV.cells,rens]
theorem qsk(ι:Nat→Nat)(a b:List PV):rens ι (a++b)=rens ι a++rens ι b:=by simp[qel]
theorem qff(ι:Nat→Nat):∀l:List PV,flat (rens ι l)=rens ι (flat l)
 |[]=>rfl
 |p::ps=>by have:=qff ι ps;simp only[flat,rens,List.flatMap_cons,qdv,qsk]at this⊢;rw[this]
theorem smok_ren{D:Nat→Prop}{ρ:Nat→Row}{ι:Nat→Nat}{n sz:Nat}{m:SM}{a:Option Addr}{cap:Nat}:SMok D ρ n sz (m.ren ι) a cap↔SMok (fun k=>D (ι k)) (fun k=>ρ (ι k)) n sz m a cap:=by cases m<;>exact Iff.rfl
section
variable {w:World}{I:Nat→Nat→Prop}{D:Nat→Prop}{ρ:Nat→Row}{ι:Nat→Nat}
theorem VR.back{p:PV}{v:Value}(h:VR w I D ρ (p.ren ι) v):VR w I (fun k=>D (ι k)) (fun k=>ρ (ι k)) p v:=by
 generalize hq:p.ren ι=q at h;induction h generalizing p with
 |undef v=>cases p<;>simp only[PV.ren,reduceCtorEq]at hq;exact .undef v
 |bool b=>cases p<;>simp only[PV.ren,reduceCtorEq]at hq;cases hq;exact .bool b
 |int k n=>cases p<;>simp only[PV.ren,reduceCtorEq]at hq;cases hq;exact .int k n
 |str s=>cases p<;>simp only[PV.ren,reduceCtorEq]at hq;cases hq;exact .str s
 |slice sz es m a cap b o vs hsz hm hne hcap hlen hat hv ih=>
   cases p<;>simp only[PV.ren,reduceCtorEq]at hq;rename_i sz0 es0 m0;injection hq with e1 e2 e3
   subst e1 e2 e3;have hl:=qbp ι es0;rw[qff,qbp]at hlen
   have:=VR.slice (w:=w) (I:=I) (D:=fun k=>D (ι k)) (ρ:=fun k=>ρ (ι k)) sz0 es0 m0 a cap b o vs (fun e he=>by
    have h1:=hsz (e.ren ι) (by rw[qel];exact mM0.2 ⟨e,he,rfl⟩)
    rwa [qdv,qbp]at h1) (by rw[hl]at hm;exact smok_ren.1 hm) (fun hn=>hne (by rw[qel];simpa using hn)) (by rw[hl]at hcap;exact hcap) hlen hat (fun j=>ih j (by rw[qff,qcp]))
   rw[hl];exact this
 |aref k sz off len tip a cap hD htip hs hlc h=>
   cases p<;>simp only[PV.ren,reduceCtorEq]at hq;cases hq;exact .aref _ _ _ _ _ _ _ hD htip hs hlc h
 |ptr k i off tip a hD htip h=>
   cases p<;>simp only[PV.ren,reduceCtorEq]at hq;cases hq;exact .ptr _ _ _ _ _ hD htip h
 |iptr c off b o vs hlen hat hv ih=>
   cases p<;>simp only[PV.ren,reduceCtorEq]at hq;injection hq with e1 e2
   subst e1 e2;rw[qdv,qbp]at hlen;exact .iptr _ _ _ _ _ hlen hat fun j=>ih j (by rw[qdv,qcp])
 |nilptr=>cases p<;>simp only[PV.ren,reduceCtorEq]at hq;exact .nilptr
 |mapNil=>
   cases p<;>simp only[PV.ren,reduceCtorEq]at hq;rename_i r;cases r with
   |none=>exact .mapNil
   |some r=>cases hq
 |map k r hD h=>
   cases p<;>simp only[PV.ren,reduceCtorEq]at hq;rename_i r0;cases r0 with
   |none=>cases hq
   |some r0=>cases hq;exact .map _ _ hD h
 |func fn f c fv cv hf hc hfv hcv ih1 ih2=>
   cases p<;>simp only[PV.ren,reduceCtorEq]at hq;injection hq with e1 e2 e3
   subst e1 e2 e3;rw[qbp]at hf hc;exact .func _ _ _ _ _ hf hc (fun j=>ih1 j (by rw[qcp])) (fun j=>ih2 j (by rw[qcp]))
 |nilFunc=>cases p<;>simp only[PV.ren,reduceCtorEq]at hq;exact .nilFunc
 |iface t p0 v h ih=>
   cases p<;>simp only[PV.ren,reduceCtorEq]at hq;injection hq with e1 e2
   subst e1;exact .iface _ _ _ (ih e2)
 |nilIface=>cases p<;>simp only[PV.ren,reduceCtorEq]at hq;exact .nilIface
 |agg cs vs hlen hv ih=>
   cases p<;>simp only[PV.ren,reduceCtorEq]at hq;injection hq with e1
   subst e1;rw[qbp]at hlen;exact .agg _ _ hlen fun j=>ih j (by rw[qcp])
 |tuple ps vs hlen hv ih=>
   cases p<;>simp only[PV.ren,reduceCtorEq]at hq;injection hq with e1
   subst e1;rw[qbp]at hlen;exact .tuple _ _ hlen fun j=>ih j (by rw[qcp])
theorem VR.forth{p:PV}{v:Value}(h:VR w I (fun k=>D (ι k)) (fun k=>ρ (ι k)) p v):VR w I D ρ (p.ren ι) v:=by
 induction h with
 |undef v=>exact .undef v
 |bool b=>exact .bool b
 |int k n=>exact .int k n
 |str s=>exact .str s
 |slice sz es m a cap b o vs hsz hm hne hcap hlen hat hv ih=>
   have hl:=qbp ι es;have:=VR.slice (w:=w) (I:=I) (D:=D) (ρ:=ρ) sz (rens ι es) (m.ren ι) a cap b o vs (fun e he=>by rw[qel]at he;obtain⟨x,hx,rfl⟩:=mM0.1 he;rw[qdv,qbp];exact hsz x hx) (by rw[hl];exact smok_ren.2 hm) (fun hn=>hne (by rw[qel]at hn;simpa using hn)) (by rw[hl];exact hcap) (by rw[qff,qbp];exact hlen) hat (fun j=>by rw[qff,qcp];exact ih j);rw[hl]at this;exact this
 |aref k sz off len tip a cap hD htip hs hlc h=>exact .aref _ _ _ _ _ _ _ hD htip hs hlc h
 |ptr k i off tip a hD htip h=>exact .ptr _ _ _ _ _ hD htip h
 |iptr c off b o vs hlen hat hv ih=>exact .iptr _ _ _ _ _ (by rw[qdv,qbp];exact hlen) hat fun j=>by rw[qdv,qcp];exact ih j
 |nilptr=>exact .nilptr
 |mapNil=>exact .mapNil
 |map k r hD h=>exact .map _ _ hD h
 |func fn f c fv cv hf hc hfv hcv ih1 ih2=>exact .func _ _ _ _ _ (by rw[qbp];exact hf) (by rw[qbp];exact hc) (fun j=>by rw[qcp];exact ih1 j) (fun j=>by rw[qcp];exact ih2 j)
 |nilFunc=>exact .nilFunc
 |iface t p v h ih=>exact .iface _ _ _ ih
 |nilIface=>exact .nilIface
 |agg cs vs hlen hv ih=>exact .agg _ _ (by rw[qbp];exact hlen) fun j=>by rw[qcp];exact ih j
 |tuple ps vs hlen hv ih=>exact .tuple _ _ (by rw[qbp];exact hlen) fun j=>by rw[qcp];exact ih j
def Obj.ren(ι:Nat→Nat):Obj→Obj
 |.row sz es=>.row sz (rens ι es)
 |.tok sz m=>.tok sz m
 |.map es=>.map (es.map fun x=>(x.1.ren ι,x.2.ren ι))
theorem qk7(es:List (PV×PV))(j:Nat):((es.map fun x=>(x.1.ren ι,x.2.ren ι)).getD j (.undef,.undef)).1=(es.getD j (.undef,.undef)).1.ren ι∧((es.map fun x=>(x.1.ren ι,x.2.ren ι)).getD j (.undef,.undef)).2=(es.getD j (.undef,.undef)).2.ren ι:=by rw[gD0,gD0,gM0];cases es[j]? <;>simp[PV.ren]
theorem OK.back{k:Nat}{o:Obj}(h:OK w I D ρ (ι k) (o.ren ι)):OK w I (fun k=>D (ι k)) (fun k=>ρ (ι k)) k o:=by
 cases o with
 |row sz es=>
   obtain⟨h1,h2,h3,h4,h5,c,E,fr,h6,h7,h8,h9⟩:=h;rw[qbp]at h1 h3;refine⟨h1,h2,h3,fun e he=>?_,h5,c,E,fr,h6,h7,h8,fun j=>VR.back (by have:=h9 j;rwa [qff,qcp]at this)⟩;have:=h4 (e.ren ι) (by rw[qel];exact mM0.2 ⟨e,he,rfl⟩)
   rwa [qdv,qbp]at this
 |tok sz m=>exact h
 |map es=>
   obtain⟨h1,h2,ents,cl,h3,h4,h5⟩:=h;refine⟨h1,h2,ents,cl,h3,by simpa using h4,fun j=>?_⟩;have:=h5 j;rw[(qk7 es j).1,(qk7 es j).2]at this;exact⟨this.1.back,this.2.back⟩
theorem OK.forth{k:Nat}{o:Obj}(h:OK w I (fun k=>D (ι k)) (fun k=>ρ (ι k)) k o):OK w I D ρ (ι k) (o.ren ι):=by
 cases o with
 |row sz es=>
   obtain⟨h1,h2,h3,h4,h5,c,E,fr,h6,h7,h8,h9⟩:=h;refine⟨by rw[qbp];exact h1,h2,by rw[qbp];exact h3,fun e he=>?_,h5,c,E,fr,h6,h7,h8,fun j=>by rw[qff,qcp];exact(h9 j).forth⟩;rw[qel]at he;obtain⟨x,hx,rfl⟩:=mM0.1 he;rw[qdv,qbp];exact h4 x hx
 |tok sz m=>exact h
 |map es=>
   obtain⟨h1,h2,ents,cl,h3,h4,h5⟩:=h;refine⟨h1,h2,ents,cl,h3,by simpa using h4,fun j=>?_⟩;rw[(qk7 es j).1,(qk7 es j).2];exact⟨(h5 j).1.forth,(h5 j).2.forth⟩
end
structure Emb (core h:List Obj)(ι:Nat→Nat):Prop where
 inj:∀j k,j<core.length→k<core.length→ι j=ι k→j=k
 at_:∀(k:Nat)(o:Obj),core[k]?=some o→h[ι k]?=some (o.ren ι)
 out:∀k,core.length≤k→h.length≤ι k
theorem at_ok{P:Program}{T:Tbl}{f n:Nat}{core:List Obj}{key:List PV}{res:PV}(O:TblOK P T)(hr:res.pure=true)(he:qbz T n f key core=some (.val res,⟨core,[],[]⟩)){h:List Obj}{ι:Nat→Nat}{args:List PV}(E:Emb core h ι)(hargs:∀w I D ρ vs,VRs w I D ρ args vs→VRs w I D ρ (rens ι key) vs):
 Enters P f∧∀w I D ρ vs,Sim w I D ρ h→VRs w I D ρ args vs→Calls P f vs.toArray w (qfy w I D ρ h (.val res.weak) ⟨h,[],[]⟩):=by
 obtain⟨h1,_,h3⟩:=qc4 O n f key core _ _ he;refine⟨h1,fun w I D ρ vs S V=>?_⟩
 have hlt:∀k,D (ι k)→k<core.length:=fun k hk=>by
  have h1:=S.lt _ hk;rcases Nat.lt_or_ge k core.length with h|h
  ·exact h
  ·have:=E.out k h;omega
 have V':VRs w I (fun k=>D (ι k)) (fun k=>ρ (ι k)) key vs:=by
  have hv:=hargs w I D ρ vs V;refine⟨by rw[hv.1,qbp],fun j=>VR.back ?_⟩;have:=hv.2 j
  rwa [qcp]at this
 have Sc:Sim w I (fun k=>D (ι k)) (fun k=>ρ (ι k)) core:=
  ⟨hlt,fun k o hk ho=>(S.obj _ _ hk (E.at_ k o ho)).back,fun k k' hk hk' e=>E.inj k k' (hlt k hk) (hlt k' hk') (S.inj _ _ hk hk' e),S.imm⟩
 refine(h3 w I _ _ vs Sc V').mono fun en w' hpost=>?_;obtain⟨I',ρc,N,S',R⟩:=hpost;rw[qay]at N S' R
 classical
 let ρ':Nat→Row:=fun k=>if hk:∃j,j<core.length∧ι j=k then ρc hk.choose else ρ k
 have hin:∀j,j<core.length→ρ' (ι j)=ρc j:=fun j hj=>by have hx:∃i,i<core.length∧ι i=ι j:=⟨j,hj,rfl⟩;have:hx.choose=j:=E.inj _ _ hx.choose_spec.1 hj hx.choose_spec.2;simp only[ρ'];rw[dif_pos hx,this]
 have hnot:∀k,(¬∃j,j<core.length∧ι j=k)→ρ' k=ρ k:=fun k hk=>by simp only[ρ'];rw[dif_neg hk]
 have hrho:∀k,D k→(ρ k).len≤(ρ' k).len∧((ρ' k).len=(ρ k).len→ρ' k=ρ k):=fun k hk=>by
  by_cases hx:∃j,j<core.length∧ι j=k
  · obtain⟨j,hj,rfl⟩:=hx;rw[hin j hj];exact N.rho j hk
  ·grind
 have hblk:∀k,D k→(ρ' k).blk=(ρ k).blk∨w.heap.size≤(ρ' k).blk:=fun k hk=>by
  by_cases hx:∃j,j<core.length∧ι j=k
  · obtain⟨j,hj,rfl⟩:=hx;rw[hin j hj];exact N.blk j hk
  ·grind
 have hap:∀k,D k→(¬∃j,j<core.length∧ι j=k)→∀j,D (ι j)→(ρ k).blk≠(ρ (ι j)).blk:=fun k hk hx j hj e=>hx ⟨j,hlt j hj,(S.inj _ _ hk hj e).symm⟩;refine⟨I',ρ',?_,?_,?_⟩
 · rw[qay]
   exact⟨N.os,N.tape,N.output,N.size,fun b hb hk=>N.keep b hb fun j hj=>hk _ hj,N.immI,N.immC,fun b o hi=>by
    rcases N.immN b o hi with h|h|⟨j,hj,h⟩
    ·exact .inl h
    ·omega
    ·exact .inr (.inr ⟨_,hj,h⟩),fun _ h=>h,hrho,hblk,fun k hk hd=>absurd hk hd⟩
 · rw[qay];refine⟨S.lt,fun k o hk ho=>?_,fun k k' hk hk' e=>?_,S'.imm⟩
   · by_cases hx:∃j,j<core.length∧ι j=k
     · obtain⟨j,hj,rfl⟩:=hx;have ha:=E.at_ j _ (gE0 hj);rw[ho]at ha;cases ha;have h1:=S'.obj j _ hk (gE0 hj);refine OK.forth (OK.carry (w':=w') (I':=I') (D':=fun k=>D (ι k)) (ρ':=fun k=>ρ' (ι k)) (fun b o hi=>⟨hi,rfl⟩) (fun _ h=>h) (fun i hi=>?_) (hin j hj) rfl (fun _ h=>h) h1);rw[hin i (hlt i hi)];exact⟨nR0 _,fun _=>rfl⟩
     · have hb:=S.blk_lt k hk;refine(S.obj k o hk ho).carry (fun b o hi=>⟨N.immI b o hi,N.immC b o hi⟩) (fun _ h=>h) hrho (hnot k hx) (N.keep _ hb fun j hj=>hap k hk hx j hj) fun o' ho'=>?_;rcases N.immN _ _ ho' with h|h|⟨j,hj,h⟩
       ·exact h
       ·omega
       ·grind
   · by_cases hx:∃j,j<core.length∧ι j=k
     · obtain⟨j,hj,rfl⟩:=hx;by_cases hx':∃j,j<core.length∧ι j=k'
       · obtain⟨j',hj',rfl⟩:=hx';rw[hin j hj,hin j' hj']at e;rw[S'.inj j j' hk hk' e]
       · rw[hnot k' hx']at e;have hb:=S.blk_lt k' hk';rcases hblk _ hk with h|h
         ·grind
         ·omega
     · rw[hnot k hx]at e;have hb:=S.blk_lt k hk;by_cases hx':∃j,j<core.length∧ι j=k'
       ·grind
       · rw[hnot k' hx']at e;exact S.inj _ _ hk hk' e
 · rw[qay];cases en with
   |returned v=>exact VR.pureWeak R hr
   |panicked ch=>exact R.elim
   |outgrown=>exact R.elim
end Go.AE
