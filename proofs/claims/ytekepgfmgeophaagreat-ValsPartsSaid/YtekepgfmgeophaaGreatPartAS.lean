/- Texts of the proof, one behind the other: ValQW, ValEntY, ValYA, ValYB, ValYC, ValYD, ValQX, ValQY. -/
import Derived.Test.YtekepgfmgeophaaGreatPartAQ
import Derived.Test.YtekepgfmgeophaaGreatPartAR
import Derived.Test.YtekepgfmgeophaaGreatPartAN
import Derived.Test.YtekepgfmgeophaaGreatPartAB
set_option linter.unusedVariables false
set_option linter.unusedSimpArgs false
namespace Go.Proofs.Tryz
open Go Go.AE
open Go.AE.Obj (row)
variable {T:Tbl}(hT:Std T){s:GSig}
theorem qpx{i:Nat}{l:List Tm}(h:RowOk s i l):∀(d p:Nat)(x y:Tm),l[p]?=some x->l[p+d+1]?=some y->tmC x y<0
 |0,p,x,y,hx,hy=>(h.2 (p+1) y hy).2 x (by omega) hx
 |d+1,p,x,y,hx,hy=>by have hlt:=(gI.1 hy).1;have hz:l[p+d+1]?=some l[p+d+1]:=Ab (by omega);exact qpo _ _ _ (qpx h d p x _ hx hz) ((h.2 (p+d+1+1) y hy).2 _ (by omega) hz)
theorem sorted_ne{i:Nat}{l:List Tm}(h:RowOk s i l){p q:Nat}{x y:Tm}(hpq:p<q)(hx:l[p]?=some x)(hy:l[q]?=some y):tmC x y<0:=by obtain⟨d,rfl⟩:∃d,q=p+d+1:=⟨q - p - 1,by omega⟩;exact qpx h d p x y hx hy
def domV(dom:List (List Tm)):PV:=.slice 1 (dom.map encL) .any
def vssOf(dom:List (List Tm)):List (List PV):=dom.map fun l=>l.map encT
theorem domV_ok(dom:List (List Tm))(H:Hp):DomV H (domV dom) dom (dom.map encL) (vssOf dom):=by
 refine⟨.inl ⟨1,.any,rfl,.inr rfl⟩,by simp,by simp[vssOf],fun i v es h1 h2=>?_,fun i l es h1 h2=>?_,fun v hv=>?_⟩
 · simp only[gM,vssOf]at h1 h2;cases hd:dom[i]? with
   |none=>rw[hd]at h1;cases h1
   |some l=>
     rw[hd]at h1 h2;cases h1;cases h2;exact .inl ⟨3,.any,rfl,.inr rfl⟩
 · simp only[gM,vssOf,h1]at h2;cases h2;exact qgj l
 · obtain⟨l,_,rfl⟩:=mM.1 hv;rfl
theorem qr5{H:Hp}{ws:List Nat}{ups:List (Nat×Nat)}{k n A:Nat}{xs:List PV}{z v:PV}(hk:H[k]?=some (.row 1 xs))(hn:xs.length=n)(hz:xs[A]?=some z)(hzc:∀cs,z≠.agg cs)(hv:v.cells=[v]∧v.isCell=true)(ht:∀j,v.top=some j->j≤k):
 storeAt 1 (.ptr k A 0 n) v ⟨H,ws,ups⟩=some ⟨H.set k (.row 1 (xs.set A v)),wadd k ws,ups⟩:=by
 have hva:∀cs,v≠.agg cs:=fun cs h=>by rw[h]at hv;cases hv.2
 have hu:upd z 0 v=some v:=by
  unfold upd;split
  ·rename_i cs _;exact absurd rfl (hzc _)
  · split
    ·exact absurd rfl (hva _)
    ·rfl
 simp only[storeAt,hk,hn,hv.1,Ae,Nat.zero_add,List.all_cons,List.all_nil,hv.2,Bool.and_self,and_self,if_true,hz,hu,Option.map];cases htop:v.top with
 |none=>rw[qas]
 |some j=>
   have:=ht j htop;rw[qch,if_neg (by omega)]
end Go.Proofs.Tryz
namespace Go.Proofs.Tryz
open Go Go.AE
theorem cells41:Tryz.prog.cellsOf 41=3:=by kernel_rfl
theorem cells39:Tryz.prog.cellsOf 39=1:=by kernel_rfl
theorem cells135:Tryz.prog.cellsOf 135=8:=by kernel_rfl
theorem cells98:Tryz.prog.cellsOf 98=6:=by kernel_rfl
theorem cells58:Tryz.prog.cellsOf 58=1:=by kernel_rfl
section
variable {H:Type}{enc:TypeId×Value->H}{w:World}{base:Nat}{spare:Nat->Bool}{held:Bool}{ρ:Nat->Row}
theorem qox(p:Tm×Tm):(qah p).cells.length=6:=(qlb p).1
theorem qq7(e:GEqn):(qak e).cells.length=8:=(qik e).1
theorem rd_pair(n:Nat):Rd enc Tryz.prog w base spare held ρ n 98 (fun _:Tm×Tm=>True) qah:=by
 intro fuel cs d ps _ h;cases fuel with
 |zero=>simp[DataW.trod]at h
 |succ fuel=>
   have Pt:=qd4 (ρ:=ρ) Tryz.underlying98 (by simp[qe7,qim]) (by simp[qds,qim,cells98]) h;cases Pt with
   |cons f fs c1 c' d1 p1 h1 l1 r1=>
     cases r1 with
     |cons f fs c2 c' d2 p2 h2 l2 r2=>
       cases r2;obtain⟨x1,_,k1⟩:=qj0 (ρ:=ρ) fuel fuel _ _ _ (nR _) h1;obtain⟨x2,_,k2⟩:=qj0 (ρ:=ρ) fuel fuel _ _ _ (nR _) h2;refine⟨(x1,x2),trivial,?_⟩;rw[List.append_nil];exact k1.append k2
theorem rd_pairs(n:Nat):Rd enc Tryz.prog w base spare held ρ n 58 (fun l:List (Tm×Tm)=> ∀x∈l,True) (fun l=>.slice 6 (l.map qah) .any):=
 Rd.mono (qfq (n:=n) (en:=qah) Tryz.underlying58 cells98 (by decide) (fun p _=>qox p) (rd_pair n)) (by omega)
theorem rd_eqn(n:Nat):Rd enc Tryz.prog w base spare held ρ n 135 (fun _:GEqn=>True) qak:=by
 intro fuel cs d ps _ h;cases fuel with
 |zero=>simp[DataW.trod]at h
 |succ fuel=>
   have Pt:=qd4 (ρ:=ρ) Tryz.underlying135 (by simp[qe7,qo3,cells58,qim]) (by simp[qds,qo3,cells58,qim,cells135]) h;cases Pt with
   |cons f fs c1 c' d1 p1 h1 l1 r1=>
     cases r1 with
     |cons f fs c2 c' d2 p2 h2 l2 r2=>
       cases r2 with
       |cons f fs c3 c' d3 p3 h3 l3 r3=>
         cases r3 with
         |cons f fs c4 c' d4 p4 h4 l4 r4=>
           cases r4;obtain⟨x1,_,k1⟩:=qr7 (ρ:=ρ) fuel fuel _ _ _ (nR _) h1;obtain⟨x2,_,k2⟩:=rd_pairs (ρ:=ρ) fuel fuel _ _ _ (nR _) h2;obtain⟨x3,_,k3⟩:=qj0 (ρ:=ρ) fuel fuel _ _ _ (nR _) h3;obtain⟨x4,_,k4⟩:=qj0 (ρ:=ρ) fuel fuel _ _ _ (nR _) h4;refine⟨⟨x1,x2,x3,x4⟩,trivial,?_⟩;rw[List.append_nil];exact k1.append (k2.append (k3.append k4))
theorem rd_eqns(n:Nat):Rd enc Tryz.prog w base spare held ρ n 39 (fun l:List GEqn=> ∀x∈l,True) (fun l=>.slice 8 (l.map qak) .any):=
 Rd.mono (qfq (n:=n) (en:=qak) Tryz.underlying39 cells135 (by decide) (fun e _=>qq7 e) (rd_eqn n)) (by omega)
theorem rd_ty(n:Nat):Rd enc Tryz.prog w base spare held ρ n 41 (fun _:GTy=>True) qan:=by
 intro fuel cs d ps _ h;cases fuel with
 |zero=>simp[DataW.trod]at h
 |succ fuel=>
   have Pt:=qd4 (ρ:=ρ) Tryz.underlying41 (by simp[qe7,qtc]) (by simp[qds,qtc,cells39,cells41]) h;cases Pt with
   |cons f fs c1 c' d1 p1 h1 l1 r1=>
     cases r1 with
     |cons f fs c2 c' d2 p2 h2 l2 r2=>
       cases r2;obtain⟨x1,_,k1⟩:=rd_sig (ρ:=ρ) fuel fuel _ _ _ (nR _) h1;obtain⟨x2,_,k2⟩:=rd_eqns (ρ:=ρ) fuel fuel _ _ _ (nR _) h2;refine⟨⟨x1,x2⟩,trivial,?_⟩;rw[List.append_nil];exact k1.append k2
theorem rd_dom (n:Nat):Rd enc Tryz.prog w base spare held ρ n 43 (fun _:List (List Tm)=>True) domV:=by intro fuel cs d ps hle h;have:=qfq (n:=n) (ρ:=ρ) (en:=encL) (q:=fun _:List Tm=>True) Tryz.underlying43 cells26 (by decide) (fun _ _=>rfl) (fun fuel cs d ps hle h=>by obtain⟨x,_,k⟩:=Rd.mono (qfq (n:=n) (ρ:=ρ) (en:=encT) Tryz.underlying26 qim (by decide) (fun t _=>qfc t) (qj0 n)) (by omega:n≤n+1) fuel cs d ps hle h;exact⟨x,trivial,k⟩) fuel cs d ps (by omega) h;obtain⟨x,_,k⟩:=this;exact⟨x,trivial,k⟩
theorem ty_in{cs:Array Value}{d:DataW H}{ps:List MemPlace}(h:DataW.Trod enc Tryz.prog w base spare held 41 (.agg cs) d ps):∃t:GTy,VR w (oldI w) noD ρ (qan t) (.agg cs):=by obtain⟨fuel,hf⟩:=h;obtain⟨s,_,k1,k2⟩:=rd_ty (ρ:=ρ) fuel fuel _ _ _ (nR _) hf;exact⟨s,.agg _ cs (by simpa[Value.cells,qan,PV.cells]using k1) fun j=>k2 j⟩
theorem dom_in{a:Option Addr}{len cap:Nat}{d:DataW H}{ps:List MemPlace}(h:DataW.Trod enc Tryz.prog w base spare held 43 (.slice a len cap) d ps):∃dom:List (List Tm),VR w (oldI w) noD ρ (domV dom) (.slice a len cap):=by obtain⟨fuel,hf⟩:=h;obtain⟨x,_,_,k2⟩:=rd_dom (ρ:=ρ) fuel fuel _ _ _ (nR _) hf;exact⟨x,by simpa[domV,PV.cells,Value.cells]using k2 0⟩
end
end Go.Proofs.Tryz
namespace Go.Proofs.Tryz
open Go Go.AE
def qd7:ACode->Bool
 |.seq a b=>qd7 a&&qd7 b
 |.cond _ a b=>qd7 a&&qd7 b
 |.block _ a=>qd7 a
 |.loop a=>qd7 a
 |.range .. =>false
 |_=>true
theorem yOp_ev{T:Tbl}{call:qn6}{b:Nat->Bool}{o:AOp}{e:List PV}{s s':St}{v:PV}(g:Log)(h:evOp T call o e s=some (.val v,s')):yOp T call b o e s g=some (v,s',g):=by
 unfold yOp;split
 · rename_i f args;split
   · rename_i l hf;simp only[evOp,hf]at h;cases h
   ·rw[h]
 · rename_i x;split
   · rename_i l hf;simp only[evOp,hf]at h;cases h
   ·rw[h]
 ·rw[h]
theorem qrw{T:Tbl}{call:qn6}{b:Nat->Bool}:∀{os:List AOper}{e:List PV}{s:St}{e':List PV}{s':St}(g:Log),qgg T call os e s=some (none,e',s')->yOps T call b os e s g=some (e',s',g)
 |[],e,s,e',s',g,h=>by simp only[qgg]at h;cases h;rfl
 |o::os,e,s,e',s',g,h=>by
   simp only[qgg]at h;simp only[yOps];split at h
   ·cases h
   · rename_i hw;simp only[hw];exact qrw g h
   · rename_i hw;simp only[hw];split at h
     · rename_i h1;rw[yOp_ev g h1];exact qrw g h
     ·cases h
     ·cases h
theorem yLoop_ev{f:List PV->St->Option (AExit×List PV×St)}{F:List PV->St->Log->Option (AExit×List PV×St×Log)}(hf:∀{e s x e' s'}(g:Log),f e s=some (x,e',s')->(∀v,x≠.pan v)->F e s g=some (x,e',s',g)):
 ∀{m:Nat}{e:List PV}{s:St}{x:AExit}{e':List PV}{s':St}(g:Log),qfu f m e s=some (x,e',s')->(∀v,x≠.pan v)->qhz F m e s g=some (x,e',s',g)
 |0,_,_,_,_,_,_,h,_=>by simp[qfu]at h
 |m+1,e,s,x,e',s',g,h,hx=>by
   simp only[qfu]at h;simp only[qhz];split at h
   · rename_i h1;rw[hf g h1 (by simp)];exact yLoop_ev hf g h hx
   · rename_i hne;rw[hf g h hx];split
     · rename_i h1;cases h1;exact absurd h (hne _ _)
     ·rfl
theorem qe2{T:Tbl}{call:qn6}{b:Nat->Bool}{n:Nat}:∀{c:ACode}{e:List PV}{s:St}{x:AExit}{e':List PV}{s':St}(g:Log),qd7 c=true->qay T call n c e s=some (x,e',s')->(∀v,x≠.pan v)->qbh T call b n c e s g=some (x,e',s',g)
 |.skip,e,s,x,e',s',g,_,h,_=>by simp only[qay]at h;cases h;rfl
 |.reg os,e,s,x,e',s',g,_,h,hx=>by
   simp only[qay]at h;simp only[qbh];split at h
   · rename_i h1;cases h;rw[qrw g h1]
   · cases h;exact absurd rfl (hx _)
   ·cases h
 |.regD os,e,s,x,e',s',g,_,h,hx=>by
   simp only[qay]at h;simp only[qbh];split at h
   · rename_i h1;cases h;rw[h1]
   · cases h;exact absurd rfl (hx _)
   · split at h
     · cases h;exact absurd rfl (hx _)
     ·cases h
   ·cases h
 |.seq a c,e,s,x,e',s',g,hr,h,hx=>by
   simp only[qd7,bA]at hr;simp only[qay]at h;simp only[qbh];split at h
   · rename_i h1;rw[qe2 g hr.1 h1 (by simp)];exact qe2 g hr.2 h hx
   · rename_i hne;rw[qe2 g hr.1 h hx];split
     · rename_i h1;cases h1;exact absurd h (hne _ _)
     ·rfl
 |.cond c a d,e,s,x,e',s',g,hr,h,hx=>by
   simp only[qd7,bA]at hr;simp only[qay]at h;simp only[qbh];split at h
   · rename_i hc;simp only[hc];exact qe2 g hr.1 h hx
   · rename_i hc;simp only[hc];exact qe2 g hr.2 h hx
   ·cases h
 |.block id c,e,s,x,e',s',g,hr,h,hx=>by
   simp only[qd7]at hr;simp only[qay]at h;simp only[qbh];split at h
   · rename_i i e1 s1 h1;rw[qe2 g hr h1 (by simp)];simp only;split at h
     · rename_i hi;cases h;rw[if_pos hi]
     · rename_i hi;cases h;rw[if_neg hi]
   · rename_i hne;rw[qe2 g hr h hx];cases x with
     |exit i=>exact absurd h (hne i e' s')
     |normal=>rfl
     |ret=>rfl
     |pan v=>rfl
 |.loop c,e,s,x,e',s',g,hr,h,hx=>by
   simp only[qd7]at hr;simp only[qay]at h;simp only[qbh];exact yLoop_ev (f:=qay T call n c) (F:=qbh T call b n c) (fun g h hx=>qe2 g hr h hx) g h hx
 |.range ..,_,_,_,_,_,_,hr,_,_=>by simp[qd7]at hr
 |.exit id,e,s,x,e',s',g,_,h,_=>by simp only[qay]at h;cases h;rfl
 |.ret,e,s,x,e',s',g,_,h,_=>by simp only[qay]at h;cases h;rfl
 |.bad,e,s,x,e',s',g,_,h,_=>by simp only[qay]at h;cases h
def YC(b:Nat->Bool)(c:ACode)(e:List PV)(s:St)(g:Log)(x:AExit×List PV×St×Log):Prop:=∃N,∀n,N≤n->qbh qem (qbw qem n) b n c e s g=some x
section
variable {b:Nat->Bool}{e e1:List PV}{s s1:St}{g g1:Log}
theorem YC.of{c:ACode}{x:AExit}(hr:qd7 c=true)(h:EvC qem c e s (x,e1,s1))(hx:∀v,x≠.pan v):YC b c e s g (x,e1,s1,g):=by obtain⟨N,h⟩:=h;exact⟨N,fun n hn=>qe2 g hr (h n hn) hx⟩
theorem YC.seq{a c:ACode}{x:AExit×List PV×St×Log}(h1:YC b a e s g (.normal,e1,s1,g1))(h2:YC b c e1 s1 g1 x):YC b (.seq a c) e s g x:=by obtain⟨N1,h1⟩:=h1;obtain⟨N2,h2⟩:=h2;refine⟨max N1 N2,fun n hn=>?_⟩;simp only[qbh,h1 n (by omega),h2 n (by omega)]
theorem YC.seqOut{a c:ACode}{x:AExit}(h1:YC b a e s g (x,e1,s1,g1))(hx:x≠.normal):YC b (.seq a c) e s g (x,e1,s1,g1):=by
 obtain⟨N1,h1⟩:=h1;refine⟨N1,fun n hn=>?_⟩;simp only[qbh,h1 n hn];cases x with
 |normal=>exact absurd rfl hx
 |exit i=>rfl
 |ret=>rfl
 |pan v=>rfl
theorem YC.block{id:Nat}{c:ACode}{x:AExit}(h:YC b c e s g (x,e1,s1,g1))(hx:∀i,x≠.exit i):YC b (.block id c) e s g (x,e1,s1,g1):=by
 obtain⟨N,h⟩:=h;refine⟨N,fun n hn=>?_⟩;simp only[qbh,h n hn];cases x with
 |exit i=>exact absurd rfl (hx i)
 |normal=>rfl
 |ret=>rfl
 |pan v=>rfl
inductive YRounds (b:Nat->Bool)(c:ACode):List PV->St->Log->AExit×List PV×St×Log->Prop
 |out {e s g x e1 s1 g1}(h:YC b c e s g (x,e1,s1,g1))(hx:x≠.normal):YRounds b c e s g (x,e1,s1,g1)
 |round {e s g e1 s1 g1 x}(h:YC b c e s g (.normal,e1,s1,g1))(hr:YRounds b c e1 s1 g1 x):YRounds b c e s g x
theorem YRounds.ev{c:ACode}{x:AExit×List PV×St×Log}(h:YRounds b c e s g x):∃N,∀n,N≤n->∀m,N≤m->qhz (qbh qem (qbw qem n) b n c) m e s g=some x:=by
 induction h with
 |out h hx=>
   rename_i x _ _ _;obtain⟨N,h⟩:=h;refine⟨N+1,fun n hn m hm=>?_⟩;obtain⟨m,rfl⟩:∃k,m=k+1:=⟨m - 1,by omega⟩;simp only[qhz,h n (by omega)];cases x with
   |normal=>exact absurd rfl hx
   |exit i=>rfl
   |ret=>rfl
   |pan v=>rfl
 |round h hr ih=>
   obtain⟨N,h⟩:=h;obtain⟨N2,ih⟩:=ih;refine⟨max N N2+1,fun n hn m hm=>?_⟩;obtain⟨m,rfl⟩:∃k,m=k+1:=⟨m - 1,by omega⟩;simp only[qhz,h n (by omega)];exact ih n (by omega) m (by omega)
theorem YC.loop{c:ACode}{x:AExit×List PV×St×Log}(h:YRounds b c e s g x):YC b (.loop c) e s g x:=by obtain⟨N,h⟩:=h.ev;exact⟨N,fun n hn=>by simp only[qbh];exact h n hn n hn⟩
end
def qda{α:Type}:List (List α)->List (List α)
 |[]=>[[]]
 |l::ls=>l.flatMap fun x=>(qda ls).map (x:: ·)
def allI(ns:List Nat):List (List Nat):=qda (ns.map List.range)
def qms:List Nat->List Nat->List (List Nat)
 |n::ns,a::bs=>(qms ns bs).map (a:: ·)++(((List.range n).drop (a+1)).flatMap fun x=>(allI ns).map (x:: ·))
 |_,_=>[[]]
def nxt:List Nat->List Nat->Option (List Nat)
 |n::ns,a::bs=>match nxt ns bs with
   |some cs=>some (a::cs)
   |none=>if a+1<n then some ((a+1)::bs.map fun _=>0)else none
 |_,_=>none
def inI:List Nat->List Nat->Prop
 |n::ns,a::bs=>a<n∧inI ns bs
 |[],[]=>True
 |_,_=>False
theorem inI_zero:∀{ns bs:List Nat},inI ns bs->inI ns (bs.map fun _=>0)
 |[],[],_=>trivial
 |_::_,a::_,h=>⟨Nat.lt_of_le_of_lt (Nat.zero_le a) h.1,inI_zero h.2⟩
 |[],_::_,h=>h.elim
 |_::_,[],h=>h.elim
theorem qjy:∀{ns bs:List Nat},inI ns bs->qms ns (bs.map fun _=>0)=allI ns
 |[],[],_=>rfl
 |n::ns,a::bs,h=>by
   have hn:0<n:=by have:=h.1;omega
   have hr:List.range n=0::(List.range n).drop (0+1):=by have:=List.drop_eq_getElem_cons (l:=List.range n) (i:=0) (by simpa using hn);simpa using this
   simp only[List.map_cons,qms,qjy h.2];show _=(List.range n).flatMap fun x=>(allI ns).map (x:: ·)
   conv=>rhs;rw[hr]
   rw[List.flatMap_cons]
 |[],_::_,h=>h.elim
 |_::_,[],h=>h.elim
theorem nxt_in:∀{ns bs cs:List Nat},inI ns bs->nxt ns bs=some cs->inI ns cs∧cs.length=bs.length
 |[],[],_,_,h=>by cases h
 |n::ns,a::bs,cs,h,hx=>by
   simp only[nxt]at hx;split at hx
   · rename_i ds h1;cases hx;obtain⟨h2,h3⟩:=nxt_in h.2 h1;exact⟨⟨h.1,h2⟩,by simp[h3]⟩
   · split at hx
     · rename_i h1;cases hx;exact⟨⟨h1,inI_zero h.2⟩,by simp⟩
     ·cases hx
 |[],_::_,_,h,_=>h.elim
 |_::_,[],_,h,_=>h.elim
theorem qjz:∀{ns bs:List Nat},inI ns bs->qms ns bs=bs::(match nxt ns bs with|some cs=>qms ns cs|none=>[])
 |[],[],_=>rfl
 |n::ns,a::bs,h=>by
   have ih:=qjz h.2;simp only[qms,nxt];rw[ih];cases hx:nxt ns bs with
   |some cs=>simp only[List.map_cons,List.cons_append,qms]
   |none=>
     simp only[List.map_cons,List.map_nil,List.cons_append,List.nil_append];by_cases hn:a+1<n
     · rw[if_pos hn];have hr:(List.range n).drop (a+1)=(a+1)::(List.range n).drop (a+1+1):=by have:=List.drop_eq_getElem_cons (l:=List.range n) (i:=a+1) (by simpa using hn);simpa using this
       simp only[qms,qjy h.2];rw[hr,List.flatMap_cons]
     · rw[if_neg hn];have hr:(List.range n).drop (a+1)=[]:=List.drop_eq_nil_of_le (by simp;omega);rw[hr];rfl
 |[],_::_,h=>h.elim
 |_::_,[],h=>h.elim
theorem qok:∀{ns bs:List Nat},(∀i (h1:i<ns.length)(h2:i<bs.length),bs[i]+1=ns[i])->nxt ns bs=none
 |[],_,_=>by simp[nxt]
 |_::_,[],_=>by simp[nxt]
 |n::ns,a::bs,h=>by
   have h0:=h 0 (by simp) (by simp);simp only[List.getElem_cons_zero]at h0;have:=qok (ns:=ns) (bs:=bs) fun i h1 h2=>by have:=h (i+1) (by simpa using h1) (by simpa using h2);simpa using this
   simp only[nxt,this];rw[if_neg (by omega)]
theorem nxt_mid:∀{ns bs:List Nat}{j:Nat}(hj1:j<ns.length)(hj2:j<bs.length),bs[j]+1<ns[j]->(∀i (h1:i<ns.length)(h2:i<bs.length),j<i->bs[i]+1=ns[i])->nxt ns bs=some (bs.take j++(bs[j]+1)::(bs.drop (j+1)).map fun _=>0)
 |n::ns,a::bs,0,_,_,hlt,hmax=>by
   have:=qok (ns:=ns) (bs:=bs) fun i h1 h2=>by have:=hmax (i+1) (by simpa using h1) (by simpa using h2) (by omega);simpa using this
   simp only[List.getElem_cons_zero]at hlt;simp only[nxt,this];rw[if_pos hlt];rfl
 |n::ns,a::bs,j+1,hj1,hj2,hlt,hmax=>by
   have:=nxt_mid (ns:=ns) (bs:=bs) (j:=j) (by simpa using hj1) (by simpa using hj2) (by simpa using hlt) fun i h1 h2 h3=>by have:=hmax (i+1) (by simpa using h1) (by simpa using h2) (by omega);simpa using this
   simp only[nxt,this];rfl
 |[],_,_,h,_,_,_=>by simp at h
 |_::_,[],_,_,h,_,_=>by simp at h
def qe4{α:Type}:List (List α)->List Nat->List α
 |l::ls,a::bs=>(match l[a]? with|some x=>[x]|none=>[])++qe4 ls bs
 |_,_=>[]
theorem qon{α:Type}(l:List α):((List.range l.length).flatMap fun a=>match l[a]? with|some x=>[x]|none=>[])=l:=by
 induction l with
 |nil=>rfl
 |cons x l ih=>
   rw[List.length_cons,List.range_succ_eq_map,List.flatMap_cons,List.flatMap_map];simp only[List.getElem?_cons_zero,List.getElem?_cons_succ,Nat.succ_eq_add_one];rw[ih];rfl
theorem qqz{α β:Type}{l:List β}{f g:β->List α}(h:∀a∈l,f a=g a):l.flatMap f=l.flatMap g:=by
 induction l with
 |nil=>rfl
 |cons x l ih=>rw[List.flatMap_cons,List.flatMap_cons,h x (by simp),ih fun a ha=>h a (by simp[ha])]
theorem qni{α:Type}:∀ls:List (List α),qda ls=(allI (ls.map List.length)).map (qe4 ls)
 |[]=>rfl
 |l::ls=>by
   have ih:=qni ls;show(l.flatMap fun x=>(qda ls).map (x:: ·))=(((List.range l.length).flatMap fun x=>(allI (ls.map List.length)).map (x:: ·))).map (qe4 (l::ls));rw[List.map_flatMap]
   conv=>lhs;rw[←qon l]
   rw[List.flatMap_assoc,ih];refine qqz fun a ha=>?_;have hal:a<l.length:=by simpa using ha
   cases hla:l[a]? with
   |none=>
     rw[Ab hal]at hla;cases hla
   |some x=>
     simp only[List.flatMap_cons,List.flatMap_nil,List.append_nil,List.map_map]
     congr 1
     funext bs
     simp[qe4,hla]
end Go.Proofs.Tryz
namespace Go.Proofs.Tryz
open Go Go.AE
def a182b0:ACode:=
 (Aa [
 ro 16 (.bin .lss (.t 15) (.t 14))]
 (.seq (cn 16
 .skip
 (.exit 0))
 (.seq (.block 1 (Aa [
 ro 17 (.idxAddr 1 (.t 13) (.t 15)),
 rp 18 (.load false 1 (.t 17)),
 mv 5 18]
 (Aa [
 mv 19 5,
 ro 20 (.lenL (.t 19)),
 ro 21 (.bin .eql (.t 20) (ci 0))]
 (cn 21
 .ret
 .skip))))
 (.reg [
 ro 22 (.bin .add (.t 15) (ci 1)),
 mv 15 22]))))
def a182b1:ACode:=
 (Aa [
 ro 26 (.bin .lss (.t 25) (.t 24))]
 (.seq (cn 26
 .skip
 (.exit 4))
 (.seq (.block 5 (Aa [
 mv 27 25,
 ro 28 (.idxAddr 1 (.t 23) (.t 25)),
 rp 29 (.load false 1 (.t 28)),
 mv 7 27,
 mv 8 29]
 (.reg [
 mv 30 6,
 rp 31 (.load false 1 (.t 1)),
 mv 32 7,
 ro 33 (.idxAddr 1 (.t 31) (.t 32)),
 rp 34 (.load false 1 (.t 33)),
 mv 35 8,
 ro 36 (.idxAddr 3 (.t 34) (.t 35)),
 rp 37 (.load true 3 (.t 36)),
 ro 38 (.buildSlice 3 zq3 1 [(0,(.t 37))]),
 rp 39 (.append 3 40 (.t 30) (.t 38)),
 mv 6 39])))
 (.reg [
 ro 40 (.bin .add (.t 25) (ci 1)),
 mv 25 40]))))
def a182b2:ACode:=
 (.seq (sd [
 rd 48 (.move (.t 9)) false 0 0 true,
 rd 49 (.bin .geq (.t 48) (ci 0)) false 1 1 true,
 rd 50 (.move (.t 49)) false 2 3 true,
  ⟨(some 51),.move (.t 3),(some (50,true)),false,3,7,false⟩,
  ⟨(some 52),.move (.t 9),(some (50,true)),false,4,7,false⟩,
  ⟨(some 53),.idxAddr 1 (.t 51) (.t 52),(some (50,true)),false,5,31,false⟩,
  ⟨(some 54),.load false 1 (.t 53),(some (50,true)),true,6,63,false⟩,
  ⟨(some 55),.load false 1 (.t 1),(some (50,true)),true,7,7,false⟩,
  ⟨(some 56),.move (.t 9),(some (50,true)),false,8,7,true⟩,
  ⟨(some 57),.idxAddr 1 (.t 55) (.t 56),(some (50,true)),false,9,391,true⟩,
  ⟨(some 58),.load false 1 (.t 57),(some (50,true)),true,10,903,true⟩,
  ⟨(some 59),.lenL (.t 58),(some (50,true)),false,11,1927,true⟩,
  ⟨(some 60),.bin .sub (.t 59) (ci 1),(some (50,true)),false,12,3975,true⟩,
  ⟨(some 61),.bin .eql (.t 54) (.t 60),(some (50,true)),false,13,8191,true⟩,
 rd 62 (.pick (.t 50) (.t 61) (.c (.bool false))) false 14 16383 true]
 (cn 62
 .skip
 (.exit 6)))
 (.block 7 (Aa [
 mv 63 3,
 mv 64 9,
 ro 65 (.idxAddr 1 (.t 63) (.t 64)),
 wr (.store 1 (.t 65) (ci 0)) 0 0 false]
 (.reg [
 mv 66 9,
 ro 67 (.bin .sub (.t 66) (ci 1)),
 mv 9 67]))))
def y3R:ACode:=.reg [ro 6 (.move (.c (.slice 0 [] .nil)))]
def y3P:ACode:=(Aa [
 mv 23 3,
 ro 24 (.lenL (.t 23)),
 ro 25 (.move (ci 0))]
 (Ad 4 a182b1))
def y3Y:ACode:=(Aa [
 mv 41 0,
 mv 42 6,
 rp 43 (.call (.t 41) [(.t 42)]),
 ro 44 (.un .not (.t 43))]
 (cn 44
 .ret
 .skip))
def y3C:ACode:=(Aa [
 mv 45 3,
 ro 46 (.lenL (.t 45)),
 ro 47 (.bin .sub (.t 46) (ci 1)),
 mv 9 47]
 (.seq (Ad 6 a182b2)
 (.seq (Aa [
 mv 68 9,
 ro 69 (.bin .lss (.t 68) (ci 0))]
 (cn 69
 .ret
 .skip))
 (.reg [
 mv 70 3,
 mv 71 9,
 ro 72 (.idxAddr 1 (.t 70) (.t 71)),
 rp 73 (.load false 1 (.t 72)),
 ro 74 (.bin .add (.t 73) (ci 1)),
 ro 75 (.idxAddr 1 (.t 70) (.t 71)),
 wr (.store 1 (.t 75) (.t 74)) 0 0 false]))))
def y3:ACode:=.block 3 (.seq y3R (.seq y3P (.seq y3Y y3C)))
def y0A:ACode:=(.reg [
 rp 10 (.load false 1 (.t 1)),
 ro 11 (.lenL (.t 10)),
 rp 12 (.makeSlice 1 (iv 0) 8 (.t 11) (.t 11)),
 mv 3 12])
def y0B:ACode:=(Aa [
 rp 13 (.load false 1 (.t 1)),
 ro 14 (.lenL (.t 13)),
 ro 15 (.move (ci 0))]
 (Ad 0 a182b0))
def a182:AFunc:=⟨2,76,.seq y0A (.seq y0B (Ad 2 y3)),[]⟩
theorem af182_eq:af182=a182:=by kernel_rfl
def qb4:PV->List PV
 |.slice _ es _=>es
 |_=>[]
def qc3(vs:List PV):List Nat:=vs.map fun v=>(qb4 v).length
def isTm:PV->Bool
 |.agg [a,b,c]=>a.isCell&&b.isCell&&c.isCell
 |_=>false
theorem isTm_facts{x:PV}(h:isTm x=true):x.cells.length=3∧x.cells.all PV.isCell=true∧x.isDef=true∧AE.sub true 3 x 0=some x:=by
 unfold isTm at h;split at h
 · simp only[bA]at h;exact⟨rfl,by simp[PV.cells,h.1.1,h.1.2,h.2],rfl,rfl⟩
 ·cases h
def okYV(v:PV):Bool:=match v with
 |.slice z es _=>decide (es.length≤1000)&& (es.isEmpty||z==3)&&es.all isTm
 |_=>false
structure ListsOk (S:PV)(vs:List PV):Prop where
 eq:∃z m,S=.slice z vs m∧(vs=[]∨z=1)
 len:vs.length≤500
 all:∀v∈vs,okYV v=true
theorem qhn{v:PV}(h:okYV v=true):∃z m,v=.slice z (qb4 v) m∧(qb4 v=[]∨z=3)∧(qb4 v).length≤1000∧∀x∈qb4 v,isTm x=true:=by
 unfold okYV at h;split at h
 · rename_i z es m;simp only[bA,dE,Bool.or_eq_true,List.isEmpty_iff,beq_iff_eq,List.all_eq_true]at h;exact⟨z,m,rfl,h.1.2,h.1.1,h.2⟩
 ·cases h
def encN(n:Nat):PV:=iv (n:Int)
structure AtS (l:Nat)(S:PV)(vs:List PV)(e:List PV)(H:Hp)(bs:List Nat):Prop where
 e0:eget e 0=.func (.yield l) [] []
 e1:eget e 1=.iptr S 0
 e3:eget e 3=.aref 0 1 0 vs.length vs.length
 row:H[0]?=some (.row 1 (bs.map encN))
 len:bs.length=vs.length
 ok:inI (qc3 vs) bs
theorem qsq:∀{ns bs:List Nat},inI ns bs->∀(i:Nat)(n b:Nat),ns[i]?=some n->bs[i]?=some b->b<n
 |[],[],_,i,n,b,h,_=>by simp at h
 |n::ns,b::bs,h,0,n',b',h1,h2=>by
   simp only[List.getElem?_cons_zero,Option.some.injEq]at h1 h2;subst h1 h2;exact h.1
 |_::ns,_::bs,h,i+1,n',b',h1,h2=>qsq h.2 i n' b' (by simpa using h1) (by simpa using h2)
 |[],_::_,h,_,_,_,_,_=>h.elim
 |_::_,[],h,_,_,_,_,_=>h.elim
theorem qnj:∀{ls:List (List PV)}{bs:List Nat}{i:Nat}{l:List PV}{b:Nat}{x:PV},ls[i]?=some l->bs[i]?=some b->l[b]?=some x->qe4 (ls.take (i+1)) (bs.take (i+1))=qe4 (ls.take i) (bs.take i)++[x]
 |l::ls,b::bs,0,l',b',x,h1,h2,h3=>by
   simp only[List.getElem?_cons_zero,Option.some.injEq]at h1 h2;subst h1 h2;simp[qe4,h3]
 |l::ls,b::bs,i+1,l',b',x,h1,h2,h3=>by
   have:=qnj (ls:=ls) (bs:=bs) (i:=i) (by simpa using h1) (by simpa using h2) h3;simp only[List.take_succ_cons,qe4,this,List.append_assoc]
 |[],_,_,_,_,_,h,_,_=>by simp at h
 |_::_,[],_,_,_,_,_,h,_=>by simp at h
theorem y3P_ev{l:Nat}{S:PV}{vs:List PV}{e:List PV}{H:Hp}{bs:List Nat}(O:ListsOk S vs)(A:AtS l S vs e H bs)(e6:eget e 6=.slice 0 [] .nil)(ws:List Nat):
 ∃e' H' ws' v,EvC qem y3P e ⟨H,ws,[]⟩ (.normal,e',⟨H',ws',[]⟩)∧AtS l S vs e' H' bs∧eget e' 6=v∧AppL H' v (qe4 (vs.map qb4) bs) 0∧(vs=[]->v=.slice 0 [] .nil):=by
 obtain⟨z,m,hS,hz⟩:=O.eq;obtain⟨a0,a1,a3,hrow,hlen,hin⟩:=A;have hvl:=O.len
 have key:wpC qem y3P e ⟨H,ws,[]⟩ fun x e' st=>x=.normal∧∃H' ws' v,st=⟨H',ws',[]⟩∧AtS l S vs e' H' bs∧eget e' 6=v∧AppL H' v (qe4 (vs.map qb4) bs) 0∧(vs=[]->v=.slice 0 [] .nil):=by
  unfold y3P;simp(disch:=omega) only[go_sem,a3,lenOf]
  refine wpC.loopM (fun g e st=> ∃(i:Nat)(H:Hp)(ws:List Nat)(v:PV),i+g=vs.length∧AppL H v (qe4 ((vs.map qb4).take i) (bs.take i)) 0∧(qe4 ((vs.map qb4).take i) (bs.take i)).length=i∧(i=0->v=.slice 0 [] .nil)∧H[0]?=some (.row 1 (bs.map encN))∧(eget e 0=.func (.yield l) [] []∧eget e 1=.iptr S 0∧eget e 3=.aref 0 1 0 vs.length vs.length∧eget e 6=v∧eget e 23=.aref 0 1 0 vs.length vs.length∧eget e 24=iv (vs.length:Int)∧eget e 25=iv (i:Int))∧st=⟨H,ws,[]⟩) ?_ vs.length _ _
   ⟨0,H,ws,_,by omega,.inl ⟨by cases vs<;>cases bs<;>rfl,rfl⟩,by cases vs<;>cases bs<;>rfl,(fun _=>rfl),hrow,by simp only[go_sem,a0,a1,a3,e6,Ag],rfl⟩
  rintro g e st ⟨i,H,ws,v,hi,hA,hpl,hnil,hrow,⟨e0,e1,e3,e6,e23,e24,e25⟩,rfl⟩;by_cases h1:i<vs.length
  · have h1':(i:Int)< (vs.length:Int):=by omega
    have gv:vs[i]?=some vs[i]:=Ab h1;have gb:bs[i]?=some (bs[i]'(by omega)):=Ab _;have hov:=O.all _ (Af h1);generalize vs[i]=u at*;generalize bs[i]'(by omega)=c at*;obtain⟨zu,mu,hu,hzu,_,hut⟩:=qhn hov;have hc:c< (qb4 u).length:=qsq hin i _ c (by rw[qc3,gM,gv];rfl) gb;have gx:(qb4 u)[c]?=some (qb4 u)[c]:=Ab hc;have hx:=hut _ (Af hc);have hpk:=qnj (ls:=vs.map qb4) (bs:=bs) (i:=i) (by rw[gM,gv];rfl) gb gx;generalize(qb4 u)[c]=x at*;obtain⟨x1,x2,x3,x4⟩:=isTm_facts hx;have gr:(bs.map encN)[i]?=some (iv (c:Int)):=by rw[gM,gb];rfl
    have lr:loadAt false 1 (.ptr 0 i 0 vs.length) H=some (iv (c:Int)):=by simp only[loadAt,hrow,lM,hlen,if_true,gr];rfl
    have lS:loadAt false 1 (.iptr S 0) H=some S:=by rw[hS];rfl
    have ixS:qb2 1 S (iv (i:Int))=some (.iptr u 0):=by
     have hz1:z=1:=by
      rcases hz with rfl|h
      ·simp at h1
      ·exact h
     rw[hS,qdb,if_pos hz1,gv];rfl
    have su:AE.sub false 1 u 0=some u:=by rw[hu];rfl
    have ixu:qb2 3 u (iv (c:Int))=some (.iptr x 0):=by
     have hz3:zu=3:=by
      rcases hzu with h|h
      ·rw[h]at hc;simp at hc
      ·exact h
     rw[hu,qdb,if_pos hz3,gx];rfl
    have f1:=fe_1 (p:=x) ⟨x1,x3⟩;obtain⟨H',fw,kt,ap,A',hrow',_,_⟩:=qjj hA x2 (by omega) (Nat.zero_le _);simp(disch:=omega) only[go_sem,a182b1,e0,e1,e3,e6,e23,e24,e25,h1,h1',lr,lS,ixS,su,ixu,x4,f1,ap,List.length_cons];refine⟨g - 1,by omega,i+1,H',_,_,by omega,?_,?_,(fun h=>by omega),hrow' _ _ _ hrow,⟨rfl,rfl⟩,rfl⟩
    ·rw[hpk];exact A'
    ·rw[hpk];simp[hpl]
  · have h1':¬(i:Int)< (vs.length:Int):=by omega
    have hil:i=vs.length:=by omega
    subst hil;rw[tL (by simp),tL (by omega)]at hA;simp(disch:=omega) only[go_sem,a182b1,e6,e24,e25,h1'];exact⟨H,ws,_,rfl,⟨by simp only[go_sem,e0],by simp only[go_sem,e1],by simp only[go_sem,e3],hrow,hlen,hin⟩,by simp only[go_sem],hA,fun h=>hnil (by rw[h];rfl)⟩
 obtain⟨x,e1,s1,ev,rfl,H',ws',v,rfl,h1,h2,h3,h4⟩:=wpC.sound key;exact⟨e1,H',ws',v,ev,h1,h2,h3,h4⟩
end Go.Proofs.Tryz
namespace Go.Proofs.Tryz
open Go Go.AE
theorem y3Y_ev{b:Nat->Bool}{l:Nat}{e:List PV}{st:St}{g:Log}{v:PV}(e0:eget e 0=.func (.yield l) [] [])(e6:eget e 6=v)(hv:v.pure=true):
 ∃e',YC b y3Y e st g (if b g.length=true then .normal else .ret,e',st,g++[(l,[v.weak])])∧∀k,k<40->eget e' k=eget e k:=by
 refine⟨eput (eput (eput (eput e 41 (.func (.yield l) [] [])) 42 v) 43 (.bool (b g.length))) 44 (.bool !(b g.length)),⟨0,fun n _=>?_⟩,fun k hk=>?_⟩
 · have hp:qat [v]=true:=by simp[qat,hv]
   have g6:eget (eput e 41 (.func (.yield l) [] [])) 6=v:=by rw[qaf (by decide),e6]
   have q42:eget (eput (eput e 41 (.func (.yield l) [] [])) 42 v) 41=.func (.yield l) [] []:=by rw[qaf (by decide),qao]
   have q42':eget (eput (eput e 41 (.func (.yield l) [] [])) 42 v) 42=v:=qao ..;simp only[y3Y,qbh,yOps,qbl,yOp,evOp,ax,e0,g6,putD,q42,List.map_cons,List.map_nil,q42',hp,if_true,qao,qau];cases b g.length<;>rfl
 ·rw[qaf (by omega),qaf (by omega),qaf (by omega),qaf (by omega)]
theorem y3C_ev{l:Nat}{S:PV}{vs:List PV}{e:List PV}{H:Hp}{bs:List Nat}(O:ListsOk S vs)(A:AtS l S vs e H bs)(ws:List Nat):
 ∃x e' H' ws',EvC qem y3C e ⟨H,ws,[]⟩ (x,e',⟨H',ws',[]⟩)∧((nxt (qc3 vs) bs=none∧x=.ret)∨∃cs,nxt (qc3 vs) bs=some cs∧x=.normal∧AtS l S vs e' H' cs):=by
 obtain⟨z,m,hS,hz⟩:=O.eq;obtain⟨a0,a1,a3,hrow,hlen,hin⟩:=A;have hvl:=O.len;have hll:(qc3 vs).length=vs.length:=by simp[qc3]
 have key:wpC qem y3C e ⟨H,ws,[]⟩ fun x e' st=> ∃H' ws',st=⟨H',ws',[]⟩∧((nxt (qc3 vs) bs=none∧x=.ret)∨∃cs,nxt (qc3 vs) bs=some cs∧x=.normal∧AtS l S vs e' H' cs):=by
  unfold y3C;simp(disch:=omega) only[go_sem,a3,lenOf]
  refine wpC.loopM (fun g e st=> ∃(H:Hp)(ws:List Nat),g≤vs.length∧H[0]?=some (.row 1 ((bs.take g++(bs.drop g).map fun _=>0).map encN))∧(∀i (h1:i< (qc3 vs).length)(h2:i<bs.length),g≤i->bs[i]+1=(qc3 vs)[i])∧(eget e 0=.func (.yield l) [] []∧eget e 1=.iptr S 0∧eget e 3=.aref 0 1 0 vs.length vs.length∧eget e 9=iv ((g:Int) - 1))∧st=⟨H,ws,[]⟩) ?_ vs.length _ _
   ⟨H,ws,nR _,by rw[tL (by omega),List.drop_of_length_le (by omega)];simpa using hrow,fun i h1 h2 h3=>by omega,by simp only[go_sem,a0,a1,a3],rfl⟩
  clear hrow a0 a1 a3;rintro g e st ⟨H,ws,hg,hrow,hmax,⟨e0,e1,e3,e9⟩,rfl⟩;have lS:loadAt false 1 (.iptr S 0) H=some S:=by rw[hS];rfl
  have hcl:(bs.take g++(bs.drop g).map fun _=>0).length=vs.length:=by simp;omega
  rcases Nat.eq_zero_or_pos g with rfl|hgp
  · have e9':eget e 9=iv (-1):=e9;have h0:¬(0:Int)≤-1:=by decide
    have h01:(-1:Int)<0:=by decide
    simp(disch:=first|omega|decide|simp only[go_sem]) only[go_sem,a182b2,e9',h0,h01];exact⟨H,ws,rfl,.inl ⟨qok fun i h1 h2=>hmax i h1 h2 (Nat.zero_le _),trivial⟩⟩
  · obtain⟨j,rfl⟩:∃j,g=j+1:=⟨g - 1,by omega⟩;have e9':eget e 9=iv (j:Int):=by rw[e9];congr 1;omega
    have h0:(0:Int)≤(j:Int):=by omega
    have hj:j<vs.length:=by omega
    have hj':j<bs.length:=by omega
    have gv:vs[j]?=some vs[j]:=Ab hj;have hov:=O.all _ (Af hj);have hlj:(qc3 vs)[j]'(by omega)=(qb4 vs[j]).length:=by simp[qc3]
    generalize vs[j]=u at*;obtain⟨zu,mu,hu,_,hul,_⟩:=qhn hov;have gc:((bs.take (j+1)++(bs.drop (j+1)).map fun _=>0))[j]?=some bs[j]:=by rw[gL (by simp;omega),List.getElem?_take,if_pos (by omega),Ab hj']
    have gr:((bs.take (j+1)++(bs.drop (j+1)).map fun _=>0).map encN)[j]?=some (iv (bs[j]:Int)):=by rw[gM,gc];rfl
    have lr:loadAt false 1 (.ptr 0 j 0 vs.length) H=some (iv (bs[j]:Int)):=by simp only[loadAt,hrow,lM,hcl,if_true,gr];rfl
    have ixS:qb2 1 S (iv (j:Int))=some (.iptr u 0):=by
     have hz1:z=1:=by
      rcases hz with rfl|h
      ·simp at hj
      ·exact h
     rw[hS,qdb,if_pos hz1,gv];rfl
    have su:AE.sub false 1 u 0=some u:=by rw[hu];rfl
    have lu:lenOf u=some (qb4 u).length:=by
     have:lenOf (.slice zu (qb4 u) mu)=some (qb4 u).length:=rfl
     rwa [←hu]at this
    have hbj:=qsq hin j _ _ (by rw[Ab (by omega:j< (qc3 vs).length),hlj]) (Ab hj');by_cases hb:bs[j]+1=(qb4 u).length
    · have hbq:((bs[j]:Int)==((qb4 u).length:Int) - 1)=true:=by simp only[beq_iff_eq];omega
      have sv:=fun ws ups=>qr5 (v:=iv 0) (ws:=ws) (ups:=ups) (n:=vs.length) (A:=j) hrow (by simpa using hcl) gr (fun cs h=>by cases h) ⟨rfl,rfl⟩ (fun j hj=>by cases hj);simp(disch:=first|omega|decide|simp only[go_sem]) only[go_sem,a182b2,e0,e1,e3,e9',h0,hj,lr,lS,ixS,su,lu,hbq,sv,List.length_cons];refine⟨j,by omega,_,_,by omega,?_,fun i h1 h2 h3=>?_,rfl,rfl⟩
      · rw[qai hrow]
        congr 3
        refine List.ext_getElem? fun i=>?_;rw[List.getElem?_set];simp only[gM,List.getElem?_append,lT,List.getElem?_take,List.getElem?_drop];have e1:min (j+1) bs.length=j+1:=by omega
        have e2:min j bs.length=j:=by omega
        rw[e1,e2];by_cases hij:j=i
        · subst hij;have h3:¬j<j:=by omega
          have hlt:j< ((bs.take (j+1)++(bs.drop (j+1)).map fun _=>0).map encN).length:=by simp;omega
          simp only[if_true,hlt,h3,if_false,Nat.sub_self,Nat.add_zero,Ab hj',Option.map];rfl
        · simp only[hij,if_false];by_cases hlt:i<j
          · have h1:i<j+1:=by omega
            simp only[h1,hlt,if_true]
          · have h1:¬i<j+1:=by omega
            simp only[h1,hlt,if_false];have e3:j+1+(i - (j+1))=i:=by omega
            have e4:j+(i - j)=i:=by omega
            rw[e3,e4]
      · by_cases hij:i=j
        · subst hij;rw[hlj];exact hb
        ·exact hmax i h1 h2 (by omega)
    · have hbq:((bs[j]:Int)==((qb4 u).length:Int) - 1)=false:=by simp only[beq_eq_false_iff_ne];omega
      have hn0:¬(j:Int)<0:=by omega
      have sv:=fun ws ups=>qr5 (v:=iv ((bs[j]+1:Nat):Int)) (ws:=ws) (ups:=ups) (n:=vs.length) (A:=j) hrow (by simpa using hcl) gr (fun cs h=>by cases h) ⟨rfl,rfl⟩ (fun j hj=>by cases hj);simp(disch:=first|omega|decide|simp only[go_sem]) only[go_sem,a182b2,e1,e3,e9',h0,hn0,hj,lr,lS,ixS,su,lu,hbq,sv,List.length_cons];have hnx:=nxt_mid (ns:=qc3 vs) (bs:=bs) (j:=j) (by omega) hj' (by rw[hlj];omega) fun i h1 h2 h3=>hmax i h1 h2 (by omega);obtain⟨q1,q2⟩:=nxt_in hin hnx;refine⟨_,_,rfl,.inr ⟨_,hnx,⟨by simp only[go_sem,e0],by simp only[go_sem,e1],by simp only[go_sem,e3],?_,by rw[q2,hlen],q1⟩⟩⟩;rw[qai hrow]
      congr 3
      refine List.ext_getElem? fun i=>?_;rw[List.getElem?_set];simp only[gM,List.getElem?_append,lT,List.getElem?_take,List.getElem?_drop];have e1:min (j+1) bs.length=j+1:=by omega
      have e2:min j bs.length=j:=by omega
      rw[e1,e2];by_cases hij:j=i
      · subst hij;have h3:¬j<j:=by omega
        have hlt:j< ((bs.take (j+1)++(bs.drop (j+1)).map fun _=>0).map encN).length:=by simp;omega
        simp only[if_true,hlt,h3,if_false,Nat.sub_self,List.getElem?_cons_zero,Option.map];rfl
      · simp only[hij,if_false];by_cases hlt:i<j
        · have h1:i<j+1:=by omega
          simp only[h1,hlt,if_true]
        · have h1:¬i<j+1:=by omega
          simp only[h1,hlt,if_false];obtain⟨d,rfl⟩:∃d,i=j+1+d:=⟨i - (j+1),by omega⟩;have e3:j+1+d - j=d+1:=by omega
          rw[e3,List.getElem?_cons_succ,gM,List.getElem?_drop];simp
 obtain⟨x,e1,s1,ev,H',ws',rfl,h⟩:=wpC.sound key;exact⟨x,e1,H',ws',ev,h⟩
end Go.Proofs.Tryz
namespace Go.Proofs.Tryz
open Go Go.AE
theorem noTbl_ok{P:Program}(hm:P.follows .mixedOrders=true):TblOK P qem where
 mixed:=hm
 prim f p h:=by cases h
 iter f it h:=by cases h
 fn f af h:=by cases h
 step f sp h:=by cases h
 sp f sp h:=by cases h
def outV(vs es:List PV):PV:=.slice (if vs.isEmpty then 0 else 3) (qau es) .any
def emit{α:Type}(b:Nat->Bool):Nat->List α->List α
 |_,[]=>[]
 |k,x::xs=>x::if b k=true then emit b (k+1) xs else []
theorem qq8{α:Type}{s:Nat}:∀(xs:List α)(k:Nat),k≤s->emit (fun i=>decide (some s≠some i)) k xs=xs.take (s - k+1)
 |[],k,_=>by simp[emit]
 |x::xs,k,h=>by
   simp only[emit,List.take_succ_cons]
   congr 1
   by_cases hk:k=s
   · subst hk;simp
   · have h1:decide (some s≠some k)=true:=by simp;omega
     rw[if_pos h1,qq8 xs (k+1) (by omega)]
     congr 1;omega
theorem emit_all{α:Type}:∀(xs:List α)(k:Nat),emit (fun i=>decide (none≠some i)) k xs=xs
 |[],_=>rfl
 |x::xs,k=>by simp only[emit];rw[if_pos (by simp)];exact congrArg _ (emit_all xs (k+1))
theorem emit_upTo(stop:Option Nat)(yss:Yss):emit (fun i=>decide (stop≠some i)) 0 yss=upTo stop yss:=by
 cases stop with
 |none=>exact emit_all yss 0
 |some s=>
   have:=qq8 (s:=s) yss 0 (Nat.zero_le _);simpa[upTo]using this
theorem qp4{l:List PV}(h:qat l=true):∀x∈l,x.pure=true:=fun x hx=>by
 induction l with
 |nil=>cases hx
 |cons y l ih=>
   simp only[qat,bA]at h;rcases mN.1 hx with rfl|hx
   ·exact h.1
   ·exact ih h.2 hx
theorem pures_of{l:List PV}(h:∀x∈l,x.pure=true):qat l=true:=by
 induction l with
 |nil=>rfl
 |cons y l ih=>simp[qat,h y (by simp),ih fun x hx=>h x (by simp[hx])]
theorem qp7{α:Type}:∀{ls:List (List α)}{bs:List Nat}{x:α},x∈qe4 ls bs->∃l∈ls,x∈l
 |l::ls,b::bs,x,h=>by
   simp only[qe4,mA]at h;rcases h with h|h
   · split at h
     · rename_i y hy;simp only[mS]at h;subst h;exact⟨l,by simp,mG hy⟩
     ·cases h
   · obtain⟨l',h1,h2⟩:=qp7 h;exact⟨l',by simp[h1],h2⟩
 |[],_,_,h=>by simp[qe4]at h
 |_::_,[],_,h=>by simp[qe4]at h
theorem qp8:∀{vs:List PV}{bs:List Nat},inI (qc3 vs) bs->(qe4 (vs.map qb4) bs).length=vs.length
 |[],[],_=>rfl
 |v::vs,b::bs,h=>by
   have h1:b< (qb4 v).length:=h.1;have:=qp8 (vs:=vs) (bs:=bs) h.2;simp only[List.map_cons,qe4,Ab h1,Ah,Ae,this];omega
 |[],_::_,h=>h.elim
 |_::_,[],h=>h.elim
theorem AtS.ext{l:Nat}{S:PV}{vs e e':List PV}{H:Hp}{bs:List Nat}(A:AtS l S vs e H bs)(h:∀k,k<40->eget e' k=eget e k):AtS l S vs e' H bs:=
 ⟨by rw[h 0 (by omega)];exact A.e0,by rw[h 1 (by omega)];exact A.e1,by rw[h 3 (by omega)];exact A.e3,A.row,A.len,A.ok⟩
theorem y3_ev{b:Nat->Bool}{l:Nat}{S:PV}{vs:List PV}{e:List PV}{H:Hp}{bs:List Nat}(O:ListsOk S vs)(hp:∀v∈vs,v.pure=true)(A:AtS l S vs e H bs)(ws:List Nat)(g:Log):
 ∃x e' H' ws',YC b y3 e ⟨H,ws,[]⟩ g (x,e',⟨H',ws',[]⟩,g++[(l,[outV vs (qe4 (vs.map qb4) bs)])])∧((b g.length=false∧x=.ret)∨(b g.length=true∧nxt (qc3 vs) bs=none∧x=.ret)∨(b g.length=true∧∃cs,nxt (qc3 vs) bs=some cs∧x=.normal∧AtS l S vs e' H' cs)):=by
 have r0:EvC qem y3R e ⟨H,ws,[]⟩ (.normal,eput e 6 (.slice 0 [] .nil),⟨H,ws,[]⟩):=⟨0,fun n _=>rfl⟩;have A1:AtS l S vs (eput e 6 (.slice 0 [] .nil)) H bs:=⟨by rw[qaf (by decide)];exact A.e0,by rw[qaf (by decide)];exact A.e1,by rw[qaf (by decide)];exact A.e3,A.row,A.len,A.ok⟩;obtain⟨e2,H2,ws2,v,r1,A2,e26,hA,hnil⟩:=y3P_ev O A1 (qao ..) ws;have hes:qat (qe4 (vs.map qb4) bs)=true:=pures_of fun x hx=>by obtain⟨l',h1,h2⟩:=qp7 hx;obtain⟨u,hu,rfl⟩:=mM.1 h1;obtain⟨z,m,hue,_⟩:=qhn (O.all u hu);have:=hp u hu;rw[hue]at this;exact qp4 this x h2
 have hvp:v.pure=true∧v.weak=outV vs (qe4 (vs.map qb4) bs):=by
  have hl:=qp8 A.ok;rcases hA with⟨h1,rfl⟩|⟨kt,rfl,_,_⟩
  · rw[h1]at hl⊢;have:vs=[]:=lZ.1 hl.symm;subst this;exact⟨rfl,rfl⟩
  · refine⟨hes,?_⟩;cases vs with
    |nil=>cases hnil rfl
    |cons u vs=>rfl
 obtain⟨e3,r2,hk⟩:=y3Y_ev (b:=b) (st:=⟨H2,ws2,[]⟩) (g:=g) A2.e0 e26 hvp.1;rw[hvp.2]at r2;cases hb:b g.length
 · rw[hb]at r2;simp only[bF,if_false]at r2;exact⟨.ret,e3,H2,ws2,.block (.seq (.of rfl r0 (by simp)) (.seq (.of rfl r1 (by simp)) (.seqOut r2 (by simp)))) (by simp),.inl ⟨rfl,rfl⟩⟩
 · rw[hb]at r2;simp only[if_true]at r2;obtain⟨x,e4,H4,ws4,r3,hx⟩:=y3C_ev O (A2.ext hk) ws2;have hnp:(∀v,x≠.pan v)∧∀i,x≠.exit i:=by rcases hx with⟨_,rfl⟩|⟨_,_,rfl,_⟩<;>exact⟨fun _=>by simp,fun _=>by simp⟩
   refine⟨x,e4,H4,ws4,.block (.seq (.of rfl r0 (by simp)) (.seq (.of rfl r1 (by simp)) (.seq r2 (.of rfl r3 hnp.1)))) hnp.2,.inr ?_⟩;rcases hx with⟨h1,h2⟩|⟨cs,h1,h2,h3⟩
   ·exact .inl ⟨rfl,h1,h2⟩
   ·exact .inr ⟨rfl,cs,h1,h2,h3⟩
theorem y3_loop{b:Nat->Bool}{l:Nat}{S:PV}{vs:List PV}(O:ListsOk S vs)(hp:∀v∈vs,v.pure=true):∀(N:Nat){e:List PV}{H:Hp}{bs:List Nat}{ws:List Nat}{g:Log},(qms (qc3 vs) bs).length≤N->AtS l S vs e H bs->
 ∃e' st',YRounds b y3 e ⟨H,ws,[]⟩ g (.ret,e',st',g++(emit b g.length ((qms (qc3 vs) bs).map fun cs=>[outV vs (qe4 (vs.map qb4) cs)])).map fun ys=>(l,ys))
 |0,e,H,bs,ws,g,hN,A=>by
   rw[qjz A.ok]at hN;simp at hN
 |N+1,e,H,bs,ws,g,hN,A=>by
   have hst:=qjz A.ok;rw[hst]at hN⊢;obtain⟨x,e',H',ws',hY,h⟩:=y3_ev (b:=b) O hp A ws g;rcases h with⟨hb,rfl⟩|⟨hb,hn,rfl⟩|⟨hb,cs,hn,rfl,A'⟩
   · refine⟨e',⟨H',ws',[]⟩,?_⟩;have:=YRounds.out hY (by simp);simp only[List.map_cons,emit,hb,bF,if_false,List.map_nil];exact this
   · refine⟨e',⟨H',ws',[]⟩,?_⟩;have:=YRounds.out hY (by simp);simp only[hn,List.map_cons,emit,hb,if_true,List.map_nil];exact this
   · rw[hn]at hN⊢;simp only[List.length_cons]at hN;obtain⟨e2,st2,h2⟩:=y3_loop O hp N (ws:=ws') (g:=g++[(l,[outV vs (qe4 (vs.map qb4) bs)])]) (by omega) A';refine⟨e2,st2,.round hY ?_⟩;simp only[List.map_cons,emit,hb,if_true];simp only[Ah,Ae,Nat.zero_add,List.append_assoc,List.cons_append,List.nil_append]at h2;exact h2
end Go.Proofs.Tryz
namespace Go.Proofs.Tryz
open Go Go.AE
open Go.AE.Obj (row)
variable {T:Tbl}(hT:Std T){s:GSig}
structure Law8 (H:Hp)(n0:Nat)(t:GTy)(dom:List (List Tm))(A:Nat)(X:PV):Prop where
 k6:H[n0]?=some (.row 3 [qan t])
 k7:H[n0+1]?=some (.row 1 [domV dom])
 k8:H[n0+2]?=some (.row 1 [.int .i64 (A:Int)])
 k11:H[n0+3]?=some (.row 3 [X])
theorem Law8.low{h H:Hp}{n0:Nat}{t:GTy}{dom:List (List Tm)}{A:Nat}{X:PV}(L:Law8 h n0 t dom A X)(hl:Low h.length h H):Law8 H n0 t dom A X:=by obtain⟨a,b,c,d⟩:=L;have q:=fun{k:Nat}{o:AE.Obj}(x:h[k]?=some o)=>hl.get (gI.1 x).1 x;exact⟨q a,q b,q c,q d⟩
end Go.Proofs.Tryz
