/- Texts of the proof, one behind the other: ValUA, ValYA, ValYB, ValYC, ValYD, ValYE. -/
import Derived.Test.YtekepgfmgeophaaGreatPartAQ
import Derived.Test.YtekepgfmgeophaaGreatPartBE
import Derived.Test.YtekepgfmgeophaaGreatPartBF
import Derived.Test.YtekepgfmgeophaaGreatPartAS
import Derived.Test.YtekepgfmgeophaaGreatPartAB
set_option linter.unusedVariables false
set_option linter.unusedSimpArgs false
namespace Go.Proofs.Tryz
open Go Go.AE
mutual
theorem ren_pw(ι:Nat→Nat):∀p:PV,p.pure=true→p.weak=p→p.ren ι=p
 |.slice sz es m,h1,h2=>by
   simp only[PV.pure]at h1;simp only[PV.weak,PV.slice.injEq,true_and]at h2;obtain⟨h2,rfl⟩:=h2;simp only[PV.ren,SM.ren,qg0 ι es h1 h2]
 |.aref ..,h1,_=>by simp[PV.pure]at h1
 |.ptr ..,h1,_=>by simp[PV.pure]at h1
 |.iptr c off,h1,h2=>by
   simp only[PV.pure]at h1;simp only[PV.weak,PV.iptr.injEq,and_true]at h2;simp only[PV.ren,ren_pw ι c h1 h2]
 |.map none,_,_=>rfl
 |.map (some _),h1,_=>by simp[PV.pure]at h1
 |.func fn f c,h1,h2=>by
   simp only[PV.pure,bA0]at h1;simp only[PV.weak,PV.func.injEq,true_and]at h2;simp only[PV.ren,qg0 ι f h1.1 h2.1,qg0 ι c h1.2 h2.2]
 |.iface t v,h1,h2=>by
   simp only[PV.pure]at h1;simp only[PV.weak,PV.iface.injEq,true_and]at h2;simp only[PV.ren,ren_pw ι v h1 h2]
 |.agg cs,h1,h2=>by
   simp only[PV.pure]at h1;simp only[PV.weak,PV.agg.injEq]at h2;simp only[PV.ren,qg0 ι cs h1 h2]
 |.tuple vs,h1,h2=>by
   simp only[PV.pure]at h1;simp only[PV.weak,PV.tuple.injEq]at h2;simp only[PV.ren,qg0 ι vs h1 h2]
 |.undef,_,_=>rfl
 |.bool _,_,_=>rfl
 |.int _ _,_,_=>rfl
 |.str _,_,_=>rfl
 |.nilptr,_,_=>rfl
 |.nilFunc,_,_=>rfl
 |.nilIface,_,_=>rfl
theorem qg0(ι:Nat→Nat):∀l:PL,qas l=true→qaq l=l→rens ι l=l
 |[],_,_=>rfl
 |p::ps,h1,h2=>by simp only[qas,bA0]at h1;simp only[qaq,List.cons.injEq]at h2;simp only[rens,ren_pw ι p h1.1 h2.1,qg0 ι ps h1.2 h2.2]
end
def entC:List (Int×IL)→Nat→List Ent
 |[],_=>[]
 |b::B,k=>(b.1,b.2,k)::entC B (k+1)
theorem qpd:∀(B:List (Int×IL))(k i:Nat),(entC B k)[i]?=B[i]?.map fun b=>(b.1,b.2,k+i)
 |[],_,_=>by simp[entC]
 |b::B,k,0=>rfl
 |b::B,k,i+1=>by
   simp only[entC,List.getElem?_cons_succ,qpd B (k+1) i]
   congr 1
   funext b
   rw[show k+1+i=k+(i+1) by omega]
def qph(t:GTy):Hp:=[.row 5 [sysV t 1 2],.map (setE (entC (byN t.eqns t.eqns.length) 3)),.row 1 [.ptr 0 0 0 1]]++(byN t.eqns t.eqns.length).map fun b=>.tok 1 b.2.length
def qm3(n ks kf kb:Nat)(L:List Ent)(k:Nat):Nat:=if k=0 then ks else if k=1 then kb else if k=2 then kf else match L[k - 3]? with
 |some x=>x.2.2
 |none=>n+k
theorem qrl(t:GTy){L:List Ent}(h:conE L=byN t.eqns t.eqns.length):(qph t).length=3+L.length:=by unfold qph;rw[←h];simp[conE];omega
theorem qrk{t:GTy}{L:List Ent}(h:conE L=byN t.eqns t.eqns.length)(i:Nat):(qph t)[3+i]?=L[i]?.map fun x=>.tok 1 x.2.1.length:=by unfold qph;rw[←h,List.getElem?_append_right (by simp),conE];simp only[ll0,Nat.zero_add,Nat.reduceAdd,Nat.add_sub_cancel_left,gM0];cases L[i]? <;>rfl
theorem sysV_ren(t:GTy)(ι:Nat→Nat):(sysV t 1 2).ren ι=sysV t (ι 1) (ι 2):=by
 obtain⟨p1,p2⟩:=qk9 t;have h1:qas [.slice 1 (t.sig.sorts.map .str) .any,.slice 3 (t.sig.ops.map qao) .any,.slice 8 (t.eqns.map qaj) .any]=true:=p1;have h2:qaq [.slice 1 (t.sig.sorts.map .str) .any,.slice 3 (t.sig.ops.map qao) .any,.slice 8 (t.eqns.map qaj) .any]=[.slice 1 (t.sig.sorts.map .str) .any,.slice 3 (t.sig.ops.map qao) .any,.slice 8 (t.eqns.map qaj) .any]:=by have:PV.agg (qaq [.slice 1 (t.sig.sorts.map .str) .any,.slice 3 (t.sig.ops.map qao) .any,.slice 8 (t.eqns.map qaj) .any])=qai t:=p2;exact PV.agg.inj this
 have h3:=qg0 ι _ h1 h2;have h4:rens ι [.slice 1 (t.sig.sorts.map .str) .any,.slice 3 (t.sig.ops.map qao) .any,.slice 8 (t.eqns.map qaj) .any,.map (some 1),.func (.func 233) [] [.ptr 2 0 0 1]]=rens ι [.slice 1 (t.sig.sorts.map .str) .any,.slice 3 (t.sig.ops.map qao) .any,.slice 8 (t.eqns.map qaj) .any]++[.map (some (ι 1)),.func (.func 233) [] [.ptr (ι 2) 0 0 1]]:=rfl;show PV.agg (rens ι _)=_;rw[h4,h3];rfl
theorem setE_ren(ι:Nat→Nat):∀(L:List Ent)(k:Nat),(∀(i:Nat)(x:Ent),L[i]?=some x→ι (k+i)=x.2.2)→(setE (entC (conE L) k)).map (fun x=>(x.1.ren ι,x.2.ren ι))=setE L
 |[],_,_=>rfl
 |x::L,k,h=>by
   have ih:=setE_ren ι L (k+1) fun i y hy=>by have:=h (i+1) y (by simpa using hy);rw[show k+1+i=k+(i+1) by omega];exact this
   have h0:=h 0 x rfl;have hr:rens ι (x.2.1.map encI)=x.2.1.map encI:=qg0 ι _ (qhb _).1 (qhb _).2;simp only[Nat.add_zero]at h0;simp only[setE,conE,List.map_cons,entC,PV.ren,SM.ren,hr,h0]at ih⊢;rw[ih]
theorem emb_sys{H:Hp}{ks kf kb:Nat}{t:GTy}{L:List Ent}(E:SysE H ks kf kb t L):Emb (qph t) H (qm3 H.length ks kf kb L)where
 inj:=by
  have hlen:=qrl t E.con;have hT:∀i,i<L.length→∃x,L[i]?=some x∧qm3 H.length ks kf kb L (3+i)=x.2.2∧H[x.2.2]?=some (.tok 1 x.2.1.length):=fun i hi=>by refine⟨L[i],gE0 hi,?_,E.tok _ (gX0 hi)⟩;unfold qm3;rw[if_neg (by omega),if_neg (by omega),if_neg (by omega),show 3+i - 3=i by omega,gE0 hi]
  have hobj:∀k,k<3+L.length→∃o,H[qm3 H.length ks kf kb L k]?=some o∧((k=0∧o=.row 5 [sysV t kb kf])∨(k=1∧o=.map (setE L))∨(k=2∧o=.row 1 [.pb ks])∨(3≤k∧∃n,o=.tok 1 n)):=fun k hk=>by
   by_cases h0:k=0
   ·subst h0;exact⟨_,E.S.sys,.inl ⟨rfl,rfl⟩⟩
   by_cases h1:k=1
   ·subst h1;exact⟨_,E.S.mp,.inr (.inl ⟨rfl,rfl⟩)⟩
   by_cases h2:k=2
   ·subst h2;exact⟨_,E.S.fb,.inr (.inr (.inl ⟨rfl,rfl⟩))⟩
   obtain⟨x,_,he,ho⟩:=hT (k - 3) (by omega);rw[show 3+(k - 3)=k by omega]at he;exact⟨_,by rw[he];exact ho,.inr (.inr (.inr ⟨by omega,_,rfl⟩))⟩
  intro j k hj hk e;rw[hlen]at hj hk;obtain⟨o,ho,h1⟩:=hobj j hj;obtain⟨o',ho',h2⟩:=hobj k hk;rw[e,ho']at ho;cases ho;rcases h1 with⟨rfl,a⟩|⟨rfl,a⟩|⟨rfl,a⟩|⟨h3,n,a⟩<;>rcases h2 with⟨rfl,b⟩|⟨rfl,b⟩|⟨rfl,b⟩|⟨h4,m,b⟩<;>first|rfl|(rw[a]at b;cases b;done)|skip
  obtain⟨x,hx,ex,_⟩:=hT (j - 3) (by omega);obtain⟨y,hy,ey,_⟩:=hT (k - 3) (by omega);rw[show 3+(j - 3)=j by omega]at ex;rw[show 3+(k - 3)=k by omega]at ey;have hxy:x.2.2=y.2.2:=by rw[←ex,←ey,e]
  have h5:(L.map (·.2.2))[j - 3]?=some x.2.2:=by rw[gM0,hx];rfl
  have h6:(L.map (·.2.2))[k - 3]?=some x.2.2:=by rw[gM0,hy,hxy];rfl
  have hn:=List.pairwise_iff_getElem.1 E.nd;obtain⟨b5,g5⟩:=gI0.1 h5;obtain⟨b6,g6⟩:=gI0.1 h6;by_cases hjk:j=k
  ·exact hjk
  ·grind
 at_:=by
  intro k o hk;by_cases h0:k=0
  · subst h0;cases hk;simp only[AE.Obj.ren,rens,sysV_ren];exact E.S.sys
  by_cases h1:k=1
  · subst h1;cases hk;simp only[AE.Obj.ren];rw[←E.con,setE_ren (qm3 H.length ks kf kb L) L 3 fun i x hx=>by unfold qm3;rw[if_neg (by omega),if_neg (by omega),if_neg (by omega),show 3+i - 3=i by omega,hx]];exact E.S.mp
  by_cases h2:k=2
  · subst h2;cases hk;exact E.S.fb
  have e3:3+(k - 3)=k:=by omega
  have:=qrk E.con (k - 3);rw[e3,hk]at this;cases hx:L[k - 3]? with
  |none=>rw[hx]at this;cases this
  |some x=>
    rw[hx]at this;cases this;have:qm3 H.length ks kf kb L k=x.2.2:=by unfold qm3;rw[if_neg h0,if_neg h1,if_neg h2,hx]
    rw[this];exact E.tok _ (mG0 hx)
 out:=by intro k hk;rw[qrl t E.con]at hk;unfold qm3;rw[if_neg (by omega),if_neg (by omega),if_neg (by omega),List.getElem?_eq_none (by omega)];simp only;omega
end Go.Proofs.Tryz
namespace Go.Proofs.Tryz
open Go Go.AE
def qea:ACode→Bool
 |.seq a b=>qea a&&qea b
 |.cond _ a b=>qea a&&qea b
 |.block _ a=>qea a
 |.loop a=>qea a
 |.range .. =>false
 |_=>true
theorem yOp_ev{T:Tbl}{call:qon}{b:Nat→Bool}{o:AOp}{e:PL}{s s':St}{v:PV}(g:Log)(h:evOp T call o e s=some (.val v,s')):yOp T call b o e s g=some (v,s',g):=by
 unfold yOp;split
 next f args=>
   split
   next l hf=>
     simp only[evOp,hf]at h;cases h
   ·rw[h]
 next x=>
   split
   next l hf=>
     simp only[evOp,hf]at h;cases h
   ·rw[h]
 ·rw[h]
theorem qr8{T:Tbl}{call:qon}{b:Nat→Bool}:∀{os:List AOper}{e:PL}{s:St}{e':PL}{s':St}(g:Log),qgp T call os e s=some (none,e',s')→yOps T call b os e s g=some (e',s',g)
 |[],e,s,e',s',g,h=>by simp only[qgp]at h;cases h;rfl
 |o::os,e,s,e',s',g,h=>by
   simp only[qgp]at h;simp only[yOps];split at h
   ·cases h
   next hw=>
     simp only[hw];exact qr8 g h
   next hw=>
     simp only[hw];split at h
     next h1=>
       rw[yOp_ev g h1];exact qr8 g h
     ·cases h
     ·cases h
theorem yLoop_ev{f:PL→St→Option (AExit×PL×St)}{F:PL→St→Log→Option (AExit×PL×St×Log)}(hf:∀{e s x e' s'}(g:Log),f e s=some (x,e',s')→(∀v,x≠.pan v)→F e s g=some (x,e',s',g)):
 ∀{m:Nat}{e:PL}{s:St}{x:AExit}{e':PL}{s':St}(g:Log),qfr f m e s=some (x,e',s')→(∀v,x≠.pan v)→qh2 F m e s g=some (x,e',s',g)
 |0,_,_,_,_,_,_,h,_=>by simp[qfr]at h
 |m+1,e,s,x,e',s',g,h,hx=>by
   simp only[qfr]at h;simp only[qh2];split at h
   next h1=>
     rw[hf g h1 (by simp)];exact yLoop_ev hf g h hx
   next hne=>
     rw[hf g h hx];split
     ·simp_all
     ·rfl
theorem qe0{T:Tbl}{call:qon}{b:Nat→Bool}{n:Nat}:∀{c:ACode}{e:PL}{s:St}{x:AExit}{e':PL}{s':St}(g:Log),qea c=true→qa0 T call n c e s=some (x,e',s')→(∀v,x≠.pan v)→qbe T call b n c e s g=some (x,e',s',g)
 |.skip,e,s,x,e',s',g,_,h,_=>by simp only[qa0]at h;cases h;rfl
 |.reg os,e,s,x,e',s',g,_,h,hx=>by
   simp only[qa0]at h;simp only[qbe];split at h
   next h1=>
     cases h;rw[qr8 g h1]
   ·grind
   ·cases h
 |.regD os,e,s,x,e',s',g,_,h,hx=>by
   simp only[qa0]at h;simp only[qbe];split at h
   ·grind
   ·grind
   ·grind
   ·cases h
 |.seq a c,e,s,x,e',s',g,hr,h,hx=>by
   simp only[qea,bA0]at hr;simp only[qa0]at h;simp only[qbe];split at h
   next h1=>
     rw[qe0 g hr.1 h1 (by simp)];exact qe0 g hr.2 h hx
   next hne=>
     rw[qe0 g hr.1 h hx];split
     ·simp_all
     ·rfl
 |.cond c a d,e,s,x,e',s',g,hr,h,hx=>by
   simp only[qea,bA0]at hr;simp only[qa0]at h;simp only[qbe];split at h
   next hc=>
     simp only[hc];exact qe0 g hr.1 h hx
   next hc=>
     simp only[hc];exact qe0 g hr.2 h hx
   ·cases h
 |.block id c,e,s,x,e',s',g,hr,h,hx=>by
   simp only[qea]at hr;simp only[qa0]at h;simp only[qbe];split at h
   next i e1 s1 h1=>
     rw[qe0 g hr h1 (by simp)];simp only;split at h
     ·grind
     ·grind
   next hne=>
     rw[qe0 g hr h hx];cases x with
     |exit i=>exact absurd h (hne i e' s')
     |normal=>rfl
     |ret=>rfl
     |pan v=>rfl
 |.loop c,e,s,x,e',s',g,hr,h,hx=>by
   simp only[qea]at hr;simp only[qa0]at h;simp only[qbe];exact yLoop_ev (f:=qa0 T call n c) (F:=qbe T call b n c) (fun g h hx=>qe0 g hr h hx) g h hx
 |.range ..,_,_,_,_,_,_,hr,_,_=>by simp[qea]at hr
 |.exit id,e,s,x,e',s',g,_,h,_=>by simp only[qa0]at h;cases h;rfl
 |.ret,e,s,x,e',s',g,_,h,_=>by simp only[qa0]at h;cases h;rfl
 |.bad,e,s,x,e',s',g,_,h,_=>by simp only[qa0]at h;cases h
def YC(b:Nat→Bool)(c:ACode)(e:PL)(s:St)(g:Log)(x:AExit×PL×St×Log):Prop:=∃N,∀n,N≤n→qbe qde (qbz qde n) b n c e s g=some x
section
variable {b:Nat→Bool}{e e1:PL}{s s1:St}{g g1:Log}
theorem YC.of{c:ACode}{x:AExit}(hr:qea c=true)(h:EvC qde c e s (x,e1,s1))(hx:∀v,x≠.pan v):YC b c e s g (x,e1,s1,g):=by obtain⟨N,h⟩:=h;exact⟨N,fun n hn=>qe0 g hr (h n hn) hx⟩
theorem YC.seq{a c:ACode}{x:AExit×PL×St×Log}(h1:YC b a e s g (.normal,e1,s1,g1))(h2:YC b c e1 s1 g1 x):YC b (.seq a c) e s g x:=by obtain⟨N1,h1⟩:=h1;obtain⟨N2,h2⟩:=h2;refine⟨max N1 N2,fun n hn=>?_⟩;simp only[qbe,h1 n (by omega),h2 n (by omega)]
theorem YC.seqOut{a c:ACode}{x:AExit}(h1:YC b a e s g (x,e1,s1,g1))(hx:x≠.normal):YC b (.seq a c) e s g (x,e1,s1,g1):=by
 obtain⟨N1,h1⟩:=h1;refine⟨N1,fun n hn=>?_⟩;simp only[qbe,h1 n hn];cases x with
 |normal=>exact absurd rfl hx
 |exit i=>rfl
 |ret=>rfl
 |pan v=>rfl
theorem YC.block{id:Nat}{c:ACode}{x:AExit}(h:YC b c e s g (x,e1,s1,g1))(hx:∀i,x≠.exit i):YC b (.block id c) e s g (x,e1,s1,g1):=by
 obtain⟨N,h⟩:=h;refine⟨N,fun n hn=>?_⟩;simp only[qbe,h n hn];cases x with
 |exit i=>exact absurd rfl (hx i)
 |normal=>rfl
 |ret=>rfl
 |pan v=>rfl
inductive YRounds (b:Nat→Bool)(c:ACode):PL→St→Log→AExit×PL×St×Log→Prop
 |out {e s g x e1 s1 g1}(h:YC b c e s g (x,e1,s1,g1))(hx:x≠.normal):YRounds b c e s g (x,e1,s1,g1)
 |round {e s g e1 s1 g1 x}(h:YC b c e s g (.normal,e1,s1,g1))(hr:YRounds b c e1 s1 g1 x):YRounds b c e s g x
theorem YRounds.ev{c:ACode}{x:AExit×PL×St×Log}(h:YRounds b c e s g x):∃N,∀n,N≤n→∀m,N≤m→qh2 (qbe qde (qbz qde n) b n c) m e s g=some x:=by
 induction h with
 |out h hx=>
   rename_i x _ _ _;obtain⟨N,h⟩:=h;refine⟨N+1,fun n hn m hm=>?_⟩;obtain⟨m,rfl⟩:∃k,m=k+1:=⟨m - 1,by omega⟩;simp only[qh2,h n (by omega)];cases x with
   |normal=>exact absurd rfl hx
   |exit i=>rfl
   |ret=>rfl
   |pan v=>rfl
 |round h hr ih=>
   obtain⟨N,h⟩:=h;obtain⟨N2,ih⟩:=ih;refine⟨max N N2+1,fun n hn m hm=>?_⟩;obtain⟨m,rfl⟩:∃k,m=k+1:=⟨m - 1,by omega⟩;simp only[qh2,h n (by omega)];exact ih n (by omega) m (by omega)
theorem YC.loop{c:ACode}{x:AExit×PL×St×Log}(h:YRounds b c e s g x):YC b (.loop c) e s g x:=by obtain⟨N,h⟩:=h.ev;exact⟨N,fun n hn=>by simp only[qbe];exact h n hn n hn⟩
end
def qca{α:Type}:List (List α)→List (List α)
 |[]=>[[]]
 |l::ls=>l.flatMap fun x=>(qca ls).map (x:: ·)
def allI(ns:NL):List (NL):=qca (ns.map List.range)
def qm0:NL→NL→List (NL)
 |n::ns,a::bs=>(qm0 ns bs).map (a:: ·)++(((List.range n).drop (a+1)).flatMap fun x=>(allI ns).map (x:: ·))
 |_,_=>[[]]
def nxt:NL→NL→Option (NL)
 |n::ns,a::bs=>match nxt ns bs with
   |some cs=>some (a::cs)
   |none=>if a+1<n then some ((a+1)::bs.map fun _=>0)else none
 |_,_=>none
def inI:NL→NL→Prop
 |n::ns,a::bs=>a<n∧inI ns bs
 |[],[]=>True
 |_,_=>False
theorem inI_zero:∀{ns bs:NL},inI ns bs→inI ns (bs.map fun _=>0)
 |[],[],_=>trivial
 |_::_,a::_,h=>⟨Nat.lt_of_le_of_lt (Nat.zero_le a) h.1,inI_zero h.2⟩
 |[],_::_,h=>h.elim
 |_::_,[],h=>h.elim
theorem qjv:∀{ns bs:NL},inI ns bs→qm0 ns (bs.map fun _=>0)=allI ns
 |[],[],_=>rfl
 |n::ns,a::bs,h=>by
   have hn:0<n:=by have:=h.1;omega
   have hr:List.range n=0::(List.range n).drop (0+1):=by have:=List.drop_eq_getElem_cons (l:=List.range n) (i:=0) (by simpa using hn);simpa using this
   simp only[List.map_cons,qm0,qjv h.2];show _=(List.range n).flatMap fun x=>(allI ns).map (x:: ·)
   conv=>rhs;rw[hr]
   rw[List.flatMap_cons]
 |[],_::_,h=>h.elim
 |_::_,[],h=>h.elim
theorem nxt_in:∀{ns bs cs:NL},inI ns bs→nxt ns bs=some cs→inI ns cs∧cs.length=bs.length
 |[],[],_,_,h=>by cases h
 |n::ns,a::bs,cs,h,hx=>by
   simp only[nxt]at hx;split at hx
   next ds h1=>
     cases hx;obtain⟨h2,h3⟩:=nxt_in h.2 h1;exact⟨⟨h.1,h2⟩,by simp[h3]⟩
   · split at hx
     next h1=>
       cases hx;exact⟨⟨h1,inI_zero h.2⟩,by simp⟩
     ·cases hx
 |[],_::_,_,h,_=>h.elim
 |_::_,[],_,h,_=>h.elim
theorem qjw:∀{ns bs:NL},inI ns bs→qm0 ns bs=bs::(match nxt ns bs with|some cs=>qm0 ns cs|none=>[])
 |[],[],_=>rfl
 |n::ns,a::bs,h=>by
   have ih:=qjw h.2;simp only[qm0,nxt];rw[ih];cases hx:nxt ns bs with
   |some cs=>simp only[List.map_cons,List.cons_append,qm0]
   |none=>
     simp only[List.map_cons,List.map_nil,List.cons_append,List.nil_append];by_cases hn:a+1<n
     · rw[if_pos hn];have hr:(List.range n).drop (a+1)=(a+1)::(List.range n).drop (a+1+1):=by have:=List.drop_eq_getElem_cons (l:=List.range n) (i:=a+1) (by simpa using hn);simpa using this
       simp only[qm0,qjv h.2];rw[hr,List.flatMap_cons]
     · rw[if_neg hn];have hr:(List.range n).drop (a+1)=[]:=List.drop_eq_nil_of_le (by simp;omega);rw[hr];rfl
 |[],_::_,h=>h.elim
 |_::_,[],h=>h.elim
theorem qo2:∀{ns bs:NL},(∀i (h1:i<ns.length)(h2:i<bs.length),bs[i]+1=ns[i])→nxt ns bs=none
 |[],_,_=>by simp[nxt]
 |_::_,[],_=>by simp[nxt]
 |n::ns,a::bs,h=>by
   have h0:=h 0 (by simp) (by simp);simp only[List.getElem_cons_zero]at h0;have:=qo2 (ns:=ns) (bs:=bs) fun i h1 h2=>by have:=h (i+1) (by simpa using h1) (by simpa using h2);simpa using this
   simp only[nxt,this];rw[if_neg (by omega)]
theorem nxt_mid:∀{ns bs:NL}{j:Nat}(hj1:j<ns.length)(hj2:j<bs.length),bs[j]+1<ns[j]→(∀i (h1:i<ns.length)(h2:i<bs.length),j<i→bs[i]+1=ns[i])→nxt ns bs=some (bs.take j++(bs[j]+1)::(bs.drop (j+1)).map fun _=>0)
 |n::ns,a::bs,0,_,_,hlt,hmax=>by
   have:=qo2 (ns:=ns) (bs:=bs) fun i h1 h2=>by have:=hmax (i+1) (by simpa using h1) (by simpa using h2) (by omega);simpa using this
   simp only[List.getElem_cons_zero]at hlt;simp only[nxt,this];rw[if_pos hlt];rfl
 |n::ns,a::bs,j+1,hj1,hj2,hlt,hmax=>by
   have:=nxt_mid (ns:=ns) (bs:=bs) (j:=j) (by simpa using hj1) (by simpa using hj2) (by simpa using hlt) fun i h1 h2 h3=>by have:=hmax (i+1) (by simpa using h1) (by simpa using h2) (by omega);simpa using this
   simp only[nxt,this];rfl
 |[],_,_,h,_,_,_=>by simp at h
 |_::_,[],_,_,h,_,_=>by simp at h
def qe2{α:Type}:List (List α)→NL→List α
 |l::ls,a::bs=>(match l[a]? with|some x=>[x]|none=>[])++qe2 ls bs
 |_,_=>[]
theorem qo4{α:Type}(l:List α):((List.range l.length).flatMap fun a=>match l[a]? with|some x=>[x]|none=>[])=l:=by
 induction l with
 |nil=>rfl
 |cons x l ih=>
   rw[List.length_cons,List.range_succ_eq_map,List.flatMap_cons,List.flatMap_map];simp only[List.getElem?_cons_zero,List.getElem?_cons_succ,Nat.succ_eq_add_one];rw[ih];rfl
theorem qrc{α β:Type}{l:List β}{f g:β→List α}(h:∀a∈l,f a=g a):l.flatMap f=l.flatMap g:=by
 induction l with
 |nil=>rfl
 |cons x l ih=>rw[List.flatMap_cons,List.flatMap_cons,h x (by simp),ih fun a ha=>h a (by simp[ha])]
theorem qnu{α:Type}:∀ls:List (List α),qca ls=(allI (ls.map List.length)).map (qe2 ls)
 |[]=>rfl
 |l::ls=>by
   have ih:=qnu ls;show(l.flatMap fun x=>(qca ls).map (x:: ·))=(((List.range l.length).flatMap fun x=>(allI (ls.map List.length)).map (x:: ·))).map (qe2 (l::ls));rw[List.map_flatMap]
   conv=>lhs;rw[←qo4 l]
   rw[List.flatMap_assoc,ih];refine qrc fun a ha=>?_;have hal:a<l.length:=by simpa using ha
   cases hla:l[a]? with
   |none=>
     rw[gE0 hal]at hla;cases hla
   |some x=>
     simp only[List.flatMap_cons,List.flatMap_nil,List.append_nil,List.map_map]
     congr 1
     funext bs
     simp[qe2,hla]
end Go.Proofs.Tryz
namespace Go.Proofs.Tryz
open Go Go.AE
def a182b0:ACode:=
 (sr0 [
 ro 16 (.bin .lss (.t 15) (.t 14))]
 (.seq (cn0 16
 .skip
 (.exit 0))
 (.seq (.block 1 (sr0 [
 ro 17 (.idxAddr 1 (.t 13) (.t 15)),
 rp 18 (.load false 1 (.t 17)),
 mv 5 18]
 (sr0 [
 mv 19 5,
 ro 20 (.lenL (.t 19)),
 ro 21 (.bin .eql (.t 20) (ci 0))]
 (cn0 21
 .ret
 .skip))))
 (.reg [
 ro 22 (.bin .add (.t 15) (ci 1)),
 mv 15 22]))))
def a182b1:ACode:=
 (sr0 [
 ro 26 (.bin .lss (.t 25) (.t 24))]
 (.seq (cn0 26
 .skip
 (.exit 4))
 (.seq (.block 5 (sr0 [
 mv 27 25,
 ro 28 (.idxAddr 1 (.t 23) (.t 25)),
 rp 29 (.load false 1 (.t 28)),
 mv 7 27,
 mv 8 29]
 (.reg [
 mv 30 6,
 rp 31 (.load false 1 (.t 1)),
 mv 32 7,
 ro 33 (.idxAddr 1 (.t 31) (.t 32)),
 rp 34 (.load false 1 (.t 33)),
 mv 35 8,
 ro 36 (.idxAddr 3 (.t 34) (.t 35)),
 rp 37 (.load true 3 (.t 36)),
 ro 38 (.buildSlice 3 zq3 1 [(0,(.t 37))]),
 rp 39 (.append 3 40 (.t 30) (.t 38)),
 mv 6 39])))
 (.reg [
 ro 40 (.bin .add (.t 25) (ci 1)),
 mv 25 40]))))
def a182b2:ACode:=
 (.seq (sd0 [
 rd 48 (.move (.t 9)) false 0 0 true,
 rd 49 (.bin .geq (.t 48) (ci 0)) false 1 1 true,
 rd 50 (.move (.t 49)) false 2 3 true,
  ⟨(some 51),.move (.t 3),(some (50,true)),false,3,7,false⟩,
  ⟨(some 52),.move (.t 9),(some (50,true)),false,4,7,false⟩,
  ⟨(some 53),.idxAddr 1 (.t 51) (.t 52),(some (50,true)),false,5,31,false⟩,
  ⟨(some 54),.load false 1 (.t 53),(some (50,true)),true,6,63,false⟩,
  ⟨(some 55),.load false 1 (.t 1),(some (50,true)),true,7,7,false⟩,
  ⟨(some 56),.move (.t 9),(some (50,true)),false,8,7,true⟩,
  ⟨(some 57),.idxAddr 1 (.t 55) (.t 56),(some (50,true)),false,9,391,true⟩,
  ⟨(some 58),.load false 1 (.t 57),(some (50,true)),true,10,903,true⟩,
  ⟨(some 59),.lenL (.t 58),(some (50,true)),false,11,1927,true⟩,
  ⟨(some 60),.bin .sub (.t 59) (ci 1),(some (50,true)),false,12,3975,true⟩,
  ⟨(some 61),.bin .eql (.t 54) (.t 60),(some (50,true)),false,13,8191,true⟩,
 rd 62 (.pick (.t 50) (.t 61) cF) false 14 16383 true]
 (cn0 62
 .skip
 (.exit 6)))
 (.block 7 (sr0 [
 mv 63 3,
 mv 64 9,
 ro 65 (.idxAddr 1 (.t 63) (.t 64)),
 wr (.store 1 (.t 65) (ci 0)) 0 0 false]
 (.reg [
 mv 66 9,
 ro 67 (.bin .sub (.t 66) (ci 1)),
 mv 9 67]))))
def y3R:ACode:=.reg [ro 6 (.move (.c .sn))]
def y3P:ACode:=(sr0 [
 mv 23 3,
 ro 24 (.lenL (.t 23)),
 ro 25 (.move (ci 0))]
 (bl0 4 a182b1))
def y3Y:ACode:=(sr0 [
 mv 41 0,
 mv 42 6,
 rp 43 (.call (.t 41) [(.t 42)]),
 ro 44 (.un .not (.t 43))]
 (cn0 44
 .ret
 .skip))
def y3C:ACode:=(sr0 [
 mv 45 3,
 ro 46 (.lenL (.t 45)),
 ro 47 (.bin .sub (.t 46) (ci 1)),
 mv 9 47]
 (.seq (bl0 6 a182b2)
 (.seq (sr0 [
 mv 68 9,
 ro 69 (.bin .lss (.t 68) (ci 0))]
 (cn0 69
 .ret
 .skip))
 (.reg [
 mv 70 3,
 mv 71 9,
 ro 72 (.idxAddr 1 (.t 70) (.t 71)),
 rp 73 (.load false 1 (.t 72)),
 ro 74 (.bin .add (.t 73) (ci 1)),
 ro 75 (.idxAddr 1 (.t 70) (.t 71)),
 wr (.store 1 (.t 75) (.t 74)) 0 0 false]))))
def y3:ACode:=.block 3 (.seq y3R (.seq y3P (.seq y3Y y3C)))
def y0A:ACode:=(.reg [
 rp 10 (.load false 1 (.t 1)),
 ro 11 (.lenL (.t 10)),
 rp 12 (.makeSlice 1 (iv0 0) 8 (.t 11) (.t 11)),
 mv 3 12])
def y0B:ACode:=(sr0 [
 rp 13 (.load false 1 (.t 1)),
 ro 14 (.lenL (.t 13)),
 ro 15 (.move (ci 0))]
 (bl0 0 a182b0))
def a182:AFunc:=⟨2,76,.seq y0A (.seq y0B (bl0 2 y3)),[]⟩
theorem af182_eq:af182=a182:=by kernel_rfl
def qb4:PV→PL
 |.slice _ es _=>es
 |_=>[]
def qc1(vs:PL):NL:=vs.map fun v=>(qb4 v).length
def isTm:PV→Bool
 |.agg [a,b,c]=>a.isCell&&b.isCell&&c.isCell
 |_=>false
theorem isTm_facts{x:PV}(h:isTm x=true):x.cells.length=3∧x.cells.all PV.isCell=true∧x.isDef=true∧AE.sub true 3 x 0=some x:=by
 unfold isTm at h;split at h
 · simp only[bA0]at h;exact⟨rfl,by simp[PV.cells,h.1.1,h.1.2,h.2],rfl,rfl⟩
 ·cases h
def okYV(v:PV):Bool:=match v with
 |.slice z es _=>decide (es.length≤1000)&& (es.isEmpty||z==3)&&es.all isTm
 |_=>false
structure ListsOk (S:PV)(vs:PL):Prop where
 eq:∃z m,S=.slice z vs m∧(vs=[]∨z=1)
 len:vs.length≤500
 all:∀v∈vs,okYV v=true
theorem qhr{v:PV}(h:okYV v=true):∃z m,v=.slice z (qb4 v) m∧(qb4 v=[]∨z=3)∧(qb4 v).length≤1000∧∀x∈qb4 v,isTm x=true:=by
 unfold okYV at h;split at h
 next z es m=>
   simp only[bA0,dE0,Bool.or_eq_true,List.isEmpty_iff,beq_iff_eq,List.all_eq_true]at h;exact⟨z,m,rfl,h.1.2,h.1.1,h.2⟩
 ·cases h
def encN(n:Nat):PV:=iv0 (n:Int)
structure AtS (l:Nat)(S:PV)(vs:PL)(e:PL)(H:Hp)(bs:NL):Prop where
 e0:eget e 0=.func (.yield l) [] []
 e1:eget e 1=.iptr S 0
 e3:eget e 3=.aref 0 1 0 vs.length vs.length
 row:H[0]?=some (.row 1 (bs.map encN))
 len:bs.length=vs.length
 ok:inI (qc1 vs) bs
theorem qs2:∀{ns bs:NL},inI ns bs→∀(i:Nat)(n b:Nat),ns[i]?=some n→bs[i]?=some b→b<n
 |[],[],_,i,n,b,h,_=>by simp at h
 |n::ns,b::bs,h,0,n',b',h1,h2=>by
   simp only[List.getElem?_cons_zero,Option.some.injEq]at h1 h2;subst h1 h2;exact h.1
 |_::ns,_::bs,h,i+1,n',b',h1,h2=>qs2 h.2 i n' b' (by simpa using h1) (by simpa using h2)
 |[],_::_,h,_,_,_,_,_=>h.elim
 |_::_,[],h,_,_,_,_,_=>h.elim
theorem qnv:∀{ls:List (PL)}{bs:NL}{i:Nat}{l:PL}{b:Nat}{x:PV},ls[i]?=some l→bs[i]?=some b→l[b]?=some x→qe2 (ls.take (i+1)) (bs.take (i+1))=qe2 (ls.take i) (bs.take i)++[x]
 |l::ls,b::bs,0,l',b',x,h1,h2,h3=>by
   simp only[List.getElem?_cons_zero,Option.some.injEq]at h1 h2;subst h1 h2;simp[qe2,h3]
 |l::ls,b::bs,i+1,l',b',x,h1,h2,h3=>by
   have:=qnv (ls:=ls) (bs:=bs) (i:=i) (by simpa using h1) (by simpa using h2) h3;simp only[List.take_succ_cons,qe2,this,List.append_assoc]
 |[],_,_,_,_,_,h,_,_=>by simp at h
 |_::_,[],_,_,_,_,_,h,_=>by simp at h
theorem y3P_ev{l:Nat}{S:PV}{vs:PL}{e:PL}{H:Hp}{bs:NL}(O:ListsOk S vs)(A:AtS l S vs e H bs)(e6:eget e 6=.sn)(ws:NL):
 ∃e' H' ws' v,EvC qde y3P e ⟨H,ws,[]⟩ (.normal,e',⟨H',ws',[]⟩)∧AtS l S vs e' H' bs∧eget e' 6=v∧AppL H' v (qe2 (vs.map qb4) bs) 0∧(vs=[]→v=.sn):=by
 obtain⟨z,m,hS,hz⟩:=O.eq;obtain⟨a0,a1,a3,hrow,hlen,hin⟩:=A;have hvl:=O.len
 have key:wpC qde y3P e ⟨H,ws,[]⟩ fun x e' st=>x=.normal∧∃H' ws' v,st=⟨H',ws',[]⟩∧AtS l S vs e' H' bs∧eget e' 6=v∧AppL H' v (qe2 (vs.map qb4) bs) 0∧(vs=[]→v=.sn):=by
  unfold y3P;simp(disch:=omega) only[go_sem,a3,lenOf]
  refine wpC.loopM (fun g e st=> ∃(i:Nat)(H:Hp)(ws:NL)(v:PV),i+g=vs.length∧AppL H v (qe2 ((vs.map qb4).take i) (bs.take i)) 0∧(qe2 ((vs.map qb4).take i) (bs.take i)).length=i∧(i=0→v=.sn)∧H[0]?=some (.row 1 (bs.map encN))∧(eget e 0=.func (.yield l) [] []∧eget e 1=.iptr S 0∧eget e 3=.aref 0 1 0 vs.length vs.length∧eget e 6=v∧eget e 23=.aref 0 1 0 vs.length vs.length∧eget e 24=iv0 (vs.length:Int)∧eget e 25=iv0 (i:Int))∧st=⟨H,ws,[]⟩) ?_ vs.length _ _
   ⟨0,H,ws,_,by omega,.inl ⟨by cases vs<;>cases bs<;>rfl,rfl⟩,by cases vs<;>cases bs<;>rfl,(fun _=>rfl),hrow,by simp only[go_sem,a0,a1,a3,e6,zN0],rfl⟩
  rintro g e st ⟨i,H,ws,v,hi,hA,hpl,hnil,hrow,⟨e0,e1,e3,e6,e23,e24,e25⟩,rfl⟩;by_cases h1:i<vs.length
  · have h1':(i:Int)< (vs.length:Int):=by omega
    have gv:vs[i]?=some vs[i]:=gE0 h1;have gb:bs[i]?=some (bs[i]'(by omega)):=gE0 _;have hov:=O.all _ (gX0 h1);generalize vs[i]=u at*;generalize bs[i]'(by omega)=c at*;obtain⟨zu,mu,hu,hzu,_,hut⟩:=qhr hov;have hc:c< (qb4 u).length:=qs2 hin i _ c (by rw[qc1,gM0,gv];rfl) gb;have gx:(qb4 u)[c]?=some (qb4 u)[c]:=gE0 hc;have hx:=hut _ (gX0 hc);have hpk:=qnv (ls:=vs.map qb4) (bs:=bs) (i:=i) (by rw[gM0,gv];rfl) gb gx;generalize(qb4 u)[c]=x at*;obtain⟨x1,x2,x3,x4⟩:=isTm_facts hx;have gr:(bs.map encN)[i]?=some (iv0 (c:Int)):=by rw[gM0,gb];rfl
    have lr:loadAt false 1 (.ptr 0 i 0 vs.length) H=some (iv0 (c:Int)):=by simp only[loadAt,hrow,lM0,hlen,if_true,gr];rfl
    have lS:loadAt false 1 (.iptr S 0) H=some S:=by rw[hS];rfl
    have ixS:qcq 1 S (iv0 (i:Int))=some (.iptr u 0):=by
     have hz1:z=1:=by
      rcases hz with rfl|h
      ·simp at h1
      ·exact h
     rw[hS,qc2,if_pos hz1,gv];rfl
    have su:AE.sub false 1 u 0=some u:=by rw[hu];rfl
    have ixu:qcq 3 u (iv0 (c:Int))=some (.iptr x 0):=by
     have hz3:zu=3:=by
      rcases hzu with h|h
      ·rw[h]at hc;simp at hc
      ·exact h
     rw[hu,qc2,if_pos hz3,gx];rfl
    have f1:=fe_1 (p:=x) ⟨x1,x3⟩;obtain⟨H',fw,kt,ap,A',hrow',_,_⟩:=qlf hA x2 (by omega) (Nat.zero_le _);simp(disch:=omega) only[go_sem,a182b1,e0,e1,e3,e6,e23,e24,e25,h1,h1',lr,lS,ixS,su,ixu,x4,f1,ap,List.length_cons];refine⟨g - 1,by omega,i+1,H',_,_,by omega,?_,?_,(fun h=>by omega),hrow' _ _ _ hrow,⟨rfl,rfl⟩,rfl⟩
    ·grind
    ·grind
  · have h1':¬(i:Int)< (vs.length:Int):=by omega
    have hil:i=vs.length:=by omega
    subst hil;rw[tL0 (by simp),tL0 (by omega)]at hA;simp(disch:=omega) only[go_sem,a182b1,e6,e24,e25,h1'];exact⟨H,ws,_,rfl,⟨by simp only[go_sem,e0],by simp only[go_sem,e1],by simp only[go_sem,e3],hrow,hlen,hin⟩,by simp only[go_sem],hA,fun h=>hnil (by rw[h];rfl)⟩
 obtain⟨x,e1,s1,ev,rfl,H',ws',v,rfl,h1,h2,h3,h4⟩:=wpC.sound key;exact⟨e1,H',ws',v,ev,h1,h2,h3,h4⟩
end Go.Proofs.Tryz
namespace Go.Proofs.Tryz
open Go Go.AE
theorem y3Y_ev{b:Nat→Bool}{l:Nat}{e:PL}{st:St}{g:Log}{v:PV}(e0:eget e 0=.func (.yield l) [] [])(e6:eget e 6=v)(hv:v.pure=true):
 ∃e',YC b y3Y e st g (if b g.length=true then .normal else .ret,e',st,g++[(l,[v.weak])])∧∀k,k<40→eget e' k=eget e k:=by
 refine⟨eput (eput (eput (eput e 41 (.func (.yield l) [] [])) 42 v) 43 (.bool (b g.length))) 44 (.bool !(b g.length)),⟨0,fun n _=>?_⟩,fun k hk=>?_⟩
 · have hp:qas [v]=true:=by simp[qas,hv]
   have g6:eget (eput e 41 (.func (.yield l) [] [])) 6=v:=by rw[qac (by decide),e6]
   have q42:eget (eput (eput e 41 (.func (.yield l) [] [])) 42 v) 41=.func (.yield l) [] []:=by rw[qac (by decide),qal]
   have q42':eget (eput (eput e 41 (.func (.yield l) [] [])) 42 v) 42=v:=qal ..;simp only[y3Y,qbe,yOps,qbk,yOp,evOp,ax,e0,g6,putD,q42,List.map_cons,List.map_nil,q42',hp,if_true,qal,qaq];cases b g.length<;>rfl
 ·rw[qac (by omega),qac (by omega),qac (by omega),qac (by omega)]
theorem y3C_ev{l:Nat}{S:PV}{vs:PL}{e:PL}{H:Hp}{bs:NL}(O:ListsOk S vs)(A:AtS l S vs e H bs)(ws:NL):
 ∃x e' H' ws',EvC qde y3C e ⟨H,ws,[]⟩ (x,e',⟨H',ws',[]⟩)∧((nxt (qc1 vs) bs=none∧x=.ret)∨∃cs,nxt (qc1 vs) bs=some cs∧x=.normal∧AtS l S vs e' H' cs):=by
 obtain⟨z,m,hS,hz⟩:=O.eq;obtain⟨a0,a1,a3,hrow,hlen,hin⟩:=A;have hvl:=O.len;have hll:(qc1 vs).length=vs.length:=by simp[qc1]
 have key:wpC qde y3C e ⟨H,ws,[]⟩ fun x e' st=> ∃H' ws',st=⟨H',ws',[]⟩∧((nxt (qc1 vs) bs=none∧x=.ret)∨∃cs,nxt (qc1 vs) bs=some cs∧x=.normal∧AtS l S vs e' H' cs):=by
  unfold y3C;simp(disch:=omega) only[go_sem,a3,lenOf]
  refine wpC.loopM (fun g e st=> ∃(H:Hp)(ws:NL),g≤vs.length∧H[0]?=some (.row 1 ((bs.take g++(bs.drop g).map fun _=>0).map encN))∧(∀i (h1:i< (qc1 vs).length)(h2:i<bs.length),g≤i→bs[i]+1=(qc1 vs)[i])∧(eget e 0=.func (.yield l) [] []∧eget e 1=.iptr S 0∧eget e 3=.aref 0 1 0 vs.length vs.length∧eget e 9=iv0 ((g:Int) - 1))∧st=⟨H,ws,[]⟩) ?_ vs.length _ _
   ⟨H,ws,nR0 _,by rw[tL0 (by omega),List.drop_of_length_le (by omega)];simpa using hrow,fun i h1 h2 h3=>by omega,by simp only[go_sem,a0,a1,a3],rfl⟩
  clear hrow a0 a1 a3;rintro g e st ⟨H,ws,hg,hrow,hmax,⟨e0,e1,e3,e9⟩,rfl⟩;have lS:loadAt false 1 (.iptr S 0) H=some S:=by rw[hS];rfl
  have hcl:(bs.take g++(bs.drop g).map fun _=>0).length=vs.length:=by simp;omega
  rcases Nat.eq_zero_or_pos g with rfl|hgp
  · have e9':eget e 9=iv0 (-1):=e9;have h0:¬(0:Int)≤-1:=by decide
    have h01:(-1:Int)<0:=by decide
    simp(disch:=first|omega|decide|simp only[go_sem]) only[go_sem,a182b2,e9',h0,h01];exact⟨H,ws,rfl,.inl ⟨qo2 fun i h1 h2=>hmax i h1 h2 (Nat.zero_le _),trivial⟩⟩
  · obtain⟨j,rfl⟩:∃j,g=j+1:=⟨g - 1,by omega⟩;have e9':eget e 9=iv0 (j:Int):=by rw[e9];congr 1;omega
    have h0:(0:Int)≤(j:Int):=by omega
    have hj:j<vs.length:=by omega
    have hj':j<bs.length:=by omega
    have gv:vs[j]?=some vs[j]:=gE0 hj;have hov:=O.all _ (gX0 hj);have hlj:(qc1 vs)[j]'(by omega)=(qb4 vs[j]).length:=by simp[qc1]
    generalize vs[j]=u at*;obtain⟨zu,mu,hu,_,hul,_⟩:=qhr hov;have gc:((bs.take (j+1)++(bs.drop (j+1)).map fun _=>0))[j]?=some bs[j]:=by grind
    have gr:((bs.take (j+1)++(bs.drop (j+1)).map fun _=>0).map encN)[j]?=some (iv0 (bs[j]:Int)):=by rw[gM0,gc];rfl
    have lr:loadAt false 1 (.ptr 0 j 0 vs.length) H=some (iv0 (bs[j]:Int)):=by simp only[loadAt,hrow,lM0,hcl,if_true,gr];rfl
    have ixS:qcq 1 S (iv0 (j:Int))=some (.iptr u 0):=by
     have hz1:z=1:=by
      rcases hz with rfl|h
      ·simp at hj
      ·exact h
     rw[hS,qc2,if_pos hz1,gv];rfl
    have su:AE.sub false 1 u 0=some u:=by rw[hu];rfl
    have lu:lenOf u=some (qb4 u).length:=by
     have:lenOf (.slice zu (qb4 u) mu)=some (qb4 u).length:=rfl
     rwa [←hu]at this
    have hbj:=qs2 hin j _ _ (by rw[gE0 (by omega:j< (qc1 vs).length),hlj]) (gE0 hj');by_cases hb:bs[j]+1=(qb4 u).length
    · have hbq:((bs[j]:Int)==((qb4 u).length:Int) - 1)=true:=by simp only[beq_iff_eq];omega
      have sv:=fun ws ups=>qsi (v:=iv0 0) (ws:=ws) (ups:=ups) (n:=vs.length) (A:=j) hrow (by simpa using hcl) gr (fun cs h=>by cases h) ⟨rfl,rfl⟩ (fun j hj=>by cases hj);simp(disch:=first|omega|decide|simp only[go_sem]) only[go_sem,a182b2,e0,e1,e3,e9',h0,hj,lr,lS,ixS,su,lu,hbq,sv,List.length_cons];refine⟨j,by omega,_,_,by omega,?_,fun i h1 h2 h3=>?_,rfl,rfl⟩
      · rw[qak hrow]
        congr 3
        refine List.ext_getElem? fun i=>?_;rw[List.getElem?_set];simp only[gM0,List.getElem?_append,lT0,List.getElem?_take,List.getElem?_drop];have e1:min (j+1) bs.length=j+1:=by omega
        have e2:min j bs.length=j:=by omega
        rw[e1,e2];by_cases hij:j=i
        · subst hij;have h3:¬j<j:=by omega
          have hlt:j< ((bs.take (j+1)++(bs.drop (j+1)).map fun _=>0).map encN).length:=by simp;omega
          simp only[if_true,hlt,h3,if_false,Nat.sub_self,Nat.add_zero,gE0 hj',Option.map];rfl
        · simp only[hij,if_false];by_cases hlt:i<j
          · have h1:i<j+1:=by omega
            simp only[h1,hlt,if_true]
          · have h1:¬i<j+1:=by omega
            simp only[h1,hlt,if_false];have e3:j+1+(i - (j+1))=i:=by omega
            have e4:j+(i - j)=i:=by omega
            rw[e3,e4]
      ·grind
    · have hbq:((bs[j]:Int)==((qb4 u).length:Int) - 1)=false:=by simp only[beq_eq_false_iff_ne];omega
      have hn0:¬(j:Int)<0:=by omega
      have sv:=fun ws ups=>qsi (v:=iv0 ((bs[j]+1:Nat):Int)) (ws:=ws) (ups:=ups) (n:=vs.length) (A:=j) hrow (by simpa using hcl) gr (fun cs h=>by cases h) ⟨rfl,rfl⟩ (fun j hj=>by cases hj);simp(disch:=first|omega|decide|simp only[go_sem]) only[go_sem,a182b2,e1,e3,e9',h0,hn0,hj,lr,lS,ixS,su,lu,hbq,sv,List.length_cons];have hnx:=nxt_mid (ns:=qc1 vs) (bs:=bs) (j:=j) (by omega) hj' (by rw[hlj];omega) fun i h1 h2 h3=>hmax i h1 h2 (by omega);obtain⟨q1,q2⟩:=nxt_in hin hnx;refine⟨_,_,rfl,.inr ⟨_,hnx,⟨by simp only[go_sem,e0],by simp only[go_sem,e1],by simp only[go_sem,e3],?_,by rw[q2,hlen],q1⟩⟩⟩;rw[qak hrow]
      congr 3
      refine List.ext_getElem? fun i=>?_;rw[List.getElem?_set];simp only[gM0,List.getElem?_append,lT0,List.getElem?_take,List.getElem?_drop];have e1:min (j+1) bs.length=j+1:=by omega
      have e2:min j bs.length=j:=by omega
      rw[e1,e2];by_cases hij:j=i
      · subst hij;have h3:¬j<j:=by omega
        have hlt:j< ((bs.take (j+1)++(bs.drop (j+1)).map fun _=>0).map encN).length:=by simp;omega
        simp only[if_true,hlt,h3,if_false,Nat.sub_self,List.getElem?_cons_zero,Option.map];rfl
      ·grind
 obtain⟨x,e1,s1,ev,H',ws',rfl,h⟩:=wpC.sound key;exact⟨x,e1,H',ws',ev,h⟩
end Go.Proofs.Tryz
namespace Go.Proofs.Tryz
open Go Go.AE
theorem noTbl_ok{P:Program}(hm:P.follows .mixedOrders=true):TblOK P qde where
 mixed:=hm
 prim f p h:=by cases h
 iter f it h:=by cases h
 fn f af h:=by cases h
 step f sp h:=by cases h
 sp f sp h:=by cases h
def outV(vs es:PL):PV:=.slice (if vs.isEmpty then 0 else 3) (qaq es) .any
def emit{α:Type}(b:Nat→Bool):Nat→List α→List α
 |_,[]=>[]
 |k,x::xs=>x::if b k=true then emit b (k+1) xs else []
theorem qrh{α:Type}{s:Nat}:∀(xs:List α)(k:Nat),k≤s→emit (fun i=>decide (some s≠some i)) k xs=xs.take (s - k+1)
 |[],k,_=>by simp[emit]
 |x::xs,k,h=>by
   simp only[emit,List.take_succ_cons]
   congr 1
   by_cases hk:k=s
   ·simp_all
   · have h1:decide (some s≠some k)=true:=by simp;omega
     rw[if_pos h1,qrh xs (k+1) (by omega)]
     congr 1;omega
theorem emit_all{α:Type}:∀(xs:List α)(k:Nat),emit (fun i=>decide (none≠some i)) k xs=xs
 |[],_=>rfl
 |x::xs,k=>by simp only[emit];rw[if_pos (by simp)];exact congrArg _ (emit_all xs (k+1))
theorem qrg(stop:Option Nat)(yss:Yss):emit (fun i=>decide (stop≠some i)) 0 yss=upTo stop yss:=by
 cases stop with
 |none=>exact emit_all yss 0
 |some s=>
   have:=qrh (s:=s) yss 0 (Nat.zero_le _);simpa[upTo]using this
theorem qlv{l:PL}(h:qas l=true):∀x∈l,x.pure=true:=fun x hx=>by
 induction l with
 |nil=>cases hx
 |cons y l ih=>
   simp only[qas,bA0]at h;rcases mN0.1 hx with rfl|hx
   ·exact h.1
   ·grind
theorem pures_of{l:PL}(h:∀x∈l,x.pure=true):qas l=true:=by
 induction l with
 |nil=>rfl
 |cons y l ih=>simp[qas,h y (by simp),ih fun x hx=>h x (by simp[hx])]
theorem qql{α:Type}:∀{ls:List (List α)}{bs:NL}{x:α},x∈qe2 ls bs→∃l∈ls,x∈l
 |l::ls,b::bs,x,h=>by
   simp only[qe2,mA0]at h;rcases h with h|h
   · split at h
     next y hy=>
       simp only[mS0]at h;subst h;exact⟨l,by simp,mG0 hy⟩
     ·cases h
   · obtain⟨l',h1,h2⟩:=qql h;exact⟨l',by simp[h1],h2⟩
 |[],_,_,h=>by simp[qe2]at h
 |_::_,[],_,h=>by simp[qe2]at h
theorem qqm:∀{vs:PL}{bs:NL},inI (qc1 vs) bs→(qe2 (vs.map qb4) bs).length=vs.length
 |[],[],_=>rfl
 |v::vs,b::bs,h=>by
   have h1:b< (qb4 v).length:=h.1;have:=qqm (vs:=vs) (bs:=bs) h.2;simp only[List.map_cons,qe2,gE0 h1,lA0,ll0,this];omega
 |[],_::_,h=>h.elim
 |_::_,[],h=>h.elim
theorem AtS.ext{l:Nat}{S:PV}{vs e e':PL}{H:Hp}{bs:NL}(A:AtS l S vs e H bs)(h:∀k,k<40→eget e' k=eget e k):AtS l S vs e' H bs:=
 ⟨by rw[h 0 (by omega)];exact A.e0,by rw[h 1 (by omega)];exact A.e1,by rw[h 3 (by omega)];exact A.e3,A.row,A.len,A.ok⟩
theorem y3_ev{b:Nat→Bool}{l:Nat}{S:PV}{vs:PL}{e:PL}{H:Hp}{bs:NL}(O:ListsOk S vs)(hp:∀v∈vs,v.pure=true)(A:AtS l S vs e H bs)(ws:NL)(g:Log):
 ∃x e' H' ws',YC b y3 e ⟨H,ws,[]⟩ g (x,e',⟨H',ws',[]⟩,g++[(l,[outV vs (qe2 (vs.map qb4) bs)])])∧((b g.length=false∧x=.ret)∨(b g.length=true∧nxt (qc1 vs) bs=none∧x=.ret)∨(b g.length=true∧∃cs,nxt (qc1 vs) bs=some cs∧x=.normal∧AtS l S vs e' H' cs)):=by
 have r0:EvC qde y3R e ⟨H,ws,[]⟩ (.normal,eput e 6 .sn,⟨H,ws,[]⟩):=⟨0,fun n _=>rfl⟩;have A1:AtS l S vs (eput e 6 .sn) H bs:=⟨by rw[qac (by decide)];exact A.e0,by rw[qac (by decide)];exact A.e1,by rw[qac (by decide)];exact A.e3,A.row,A.len,A.ok⟩;obtain⟨e2,H2,ws2,v,r1,A2,e26,hA,hnil⟩:=y3P_ev O A1 (qal ..) ws;have hes:qas (qe2 (vs.map qb4) bs)=true:=pures_of fun x hx=>by obtain⟨l',h1,h2⟩:=qql hx;obtain⟨u,hu,rfl⟩:=mM0.1 h1;obtain⟨z,m,hue,_⟩:=qhr (O.all u hu);have:=hp u hu;rw[hue]at this;exact qlv this x h2
 have hvp:v.pure=true∧v.weak=outV vs (qe2 (vs.map qb4) bs):=by
  have hl:=qqm A.ok;rcases hA with⟨h1,rfl⟩|⟨kt,rfl,_,_⟩
  · rw[h1]at hl⊢;have:vs=[]:=lZ0.1 hl.symm;subst this;exact⟨rfl,rfl⟩
  · refine⟨hes,?_⟩;cases vs with
    |nil=>cases hnil rfl
    |cons u vs=>rfl
 obtain⟨e3,r2,hk⟩:=y3Y_ev (b:=b) (st:=⟨H2,ws2,[]⟩) (g:=g) A2.e0 e26 hvp.1;rw[hvp.2]at r2;cases hb:b g.length
 · rw[hb]at r2;simp only[bF0,if_false]at r2;exact⟨.ret,e3,H2,ws2,.block (.seq (.of rfl r0 (by simp)) (.seq (.of rfl r1 (by simp)) (.seqOut r2 (by simp)))) (by simp),.inl ⟨rfl,rfl⟩⟩
 · rw[hb]at r2;simp only[if_true]at r2;obtain⟨x,e4,H4,ws4,r3,hx⟩:=y3C_ev O (A2.ext hk) ws2;have hnp:(∀v,x≠.pan v)∧∀i,x≠.exit i:=by grind
   refine⟨x,e4,H4,ws4,.block (.seq (.of rfl r0 (by simp)) (.seq (.of rfl r1 (by simp)) (.seq r2 (.of rfl r3 hnp.1)))) hnp.2,.inr ?_⟩;rcases hx with⟨h1,h2⟩|⟨cs,h1,h2,h3⟩
   ·grind
   ·grind
theorem y3_loop{b:Nat→Bool}{l:Nat}{S:PV}{vs:PL}(O:ListsOk S vs)(hp:∀v∈vs,v.pure=true):∀(N:Nat){e:PL}{H:Hp}{bs:NL}{ws:NL}{g:Log},(qm0 (qc1 vs) bs).length≤N→AtS l S vs e H bs→
 ∃e' st',YRounds b y3 e ⟨H,ws,[]⟩ g (.ret,e',st',g++(emit b g.length ((qm0 (qc1 vs) bs).map fun cs=>[outV vs (qe2 (vs.map qb4) cs)])).map fun ys=>(l,ys))
 |0,e,H,bs,ws,g,hN,A=>by
   rw[qjw A.ok]at hN;simp at hN
 |N+1,e,H,bs,ws,g,hN,A=>by
   have hst:=qjw A.ok;rw[hst]at hN⊢;obtain⟨x,e',H',ws',hY,h⟩:=y3_ev (b:=b) O hp A ws g;rcases h with⟨hb,rfl⟩|⟨hb,hn,rfl⟩|⟨hb,cs,hn,rfl,A'⟩
   · refine⟨e',⟨H',ws',[]⟩,?_⟩;have:=YRounds.out hY (by simp);simp only[List.map_cons,emit,hb,bF0,if_false,List.map_nil];exact this
   · refine⟨e',⟨H',ws',[]⟩,?_⟩;have:=YRounds.out hY (by simp);simp only[hn,List.map_cons,emit,hb,if_true,List.map_nil];exact this
   · rw[hn]at hN⊢;simp only[List.length_cons]at hN;obtain⟨e2,st2,h2⟩:=y3_loop O hp N (ws:=ws') (g:=g++[(l,[outV vs (qe2 (vs.map qb4) bs)])]) (by omega) A';refine⟨e2,st2,.round hY ?_⟩;simp only[List.map_cons,emit,hb,if_true];simp only[lA0,ll0,Nat.zero_add,List.append_assoc,List.cons_append,List.nil_append]at h2;exact h2
end Go.Proofs.Tryz
namespace Go.Proofs.Tryz
open Go Go.AE
theorem y0A_ev{l:Nat}{S:PV}{vs:PL}(O:ListsOk S vs):∃e',EvC qde y0A [.func (.yield l) [] [],.iptr S 0] ⟨[],[],[]⟩ (.normal,e',⟨[.row 1 (List.replicate vs.length (iv0 0))],[],[]⟩)∧eget e' 0=.func (.yield l) [] []∧eget e' 1=.iptr S 0∧eget e' 3=.aref 0 1 0 vs.length vs.length:=by
 obtain⟨z,m,hS,_⟩:=O.eq;have hvl:=O.len;have mk:=mk_ok (sz:=1) (bytes:=8) (n:=vs.length) (z:=iv0 0) (by omega) (by omega) rfl;have lS:loadAt false 1 (.iptr S 0) []=some S:=by rw[hS];rfl
 have lu:lenOf S=some vs.length:=by rw[hS];rfl
 have key:wpC qde y0A [.func (.yield l) [] [],.iptr S 0] ⟨[],[],[]⟩ fun x e' st=>x=.normal∧st=⟨[.row 1 (List.replicate vs.length (iv0 0))],[],[]⟩∧eget e' 0=.func (.yield l) [] []∧eget e' 1=.iptr S 0∧eget e' 3=.aref 0 1 0 vs.length vs.length:=by unfold y0A;simp(disch:=omega) only[go_sem,lS,lu,mk,List.length_nil]
 obtain⟨x,e1,s1,ev,rfl,rfl,h⟩:=wpC.sound key;exact⟨e1,ev,h⟩
theorem y0B_ev{l:Nat}{S:PV}{vs:PL}(O:ListsOk S vs){e:PL}{H:Hp}(e0:eget e 0=.func (.yield l) [] [])(e1:eget e 1=.iptr S 0)(e3:eget e 3=.aref 0 1 0 vs.length vs.length):
 ∃x e',EvC qde y0B e ⟨H,[],[]⟩ (x,e',⟨H,[],[]⟩)∧((x=.normal∧(∀v∈vs,qb4 v≠[])∧eget e' 0=.func (.yield l) [] []∧eget e' 1=.iptr S 0∧eget e' 3=.aref 0 1 0 vs.length vs.length)∨(x=.ret∧∃v∈vs,qb4 v=[])):=by
 obtain⟨z,m,hS,hz⟩:=O.eq;have hvl:=O.len;have lS:loadAt false 1 (.iptr S 0) H=some S:=by rw[hS];rfl
 have lu:lenOf S=some vs.length:=by rw[hS];rfl
 have key:wpC qde y0B e ⟨H,[],[]⟩ fun x e' st=>st=⟨H,[],[]⟩∧((x=.normal∧(∀v∈vs,qb4 v≠[])∧eget e' 0=.func (.yield l) [] []∧eget e' 1=.iptr S 0∧eget e' 3=.aref 0 1 0 vs.length vs.length)∨(x=.ret∧∃v∈vs,qb4 v=[])):=by
  unfold y0B;simp(disch:=omega) only[go_sem,e1,lS,lu]
  refine wpC.loopM (fun g e st=> ∃i:Nat,i+g=vs.length∧(∀j (hj:j<vs.length),j<i→qb4 vs[j]≠[])∧(eget e 0=.func (.yield l) [] []∧eget e 1=.iptr S 0∧eget e 3=.aref 0 1 0 vs.length vs.length∧eget e 13=S∧eget e 14=iv0 (vs.length:Int)∧eget e 15=iv0 (i:Int))∧st=⟨H,[],[]⟩) ?_ vs.length _ _
   ⟨0,by omega,fun j _ hj=>by omega,by simp only[go_sem,e0,e1,e3,zN0],rfl⟩
  clear e0 e1 e3;rintro g e st ⟨i,hi,hne,⟨e0,e1,e3,e13,e14,e15⟩,rfl⟩;by_cases h1:i<vs.length
  · have h1':(i:Int)< (vs.length:Int):=by omega
    have gv:vs[i]?=some vs[i]:=gE0 h1;have hm:=gX0 h1;have hov:=O.all _ hm
    have hni:qb4 vs[i]≠[]→∀j (hj:j<vs.length),j<i+1→qb4 vs[j]≠[]:=fun h j hj hji=>by
     by_cases hjj:j=i
     ·grind
     ·grind
    generalize vs[i]=u at*;obtain⟨zu,mu,hu,_,hul,_⟩:=qhr hov
    have ixS:qcq 1 S (iv0 (i:Int))=some (.iptr u 0):=by
     have hz1:z=1:=by
      rcases hz with rfl|h
      ·simp at h1
      ·exact h
     rw[hS,qc2,if_pos hz1,gv];rfl
    have su:AE.sub false 1 u 0=some u:=by rw[hu];rfl
    have luu:lenOf u=some (qb4 u).length:=by
     have:lenOf (.slice zu (qb4 u) mu)=some (qb4 u).length:=rfl
     rwa [←hu]at this
    by_cases hem:qb4 u=[]
    · have hb:(((qb4 u).length:Int)==0)=true:=by rw[hem];rfl
      simp(disch:=omega) only[go_sem,a182b0,e0,e1,e3,e13,e14,e15,h1',ixS,su,luu,hb];exact .inr ⟨u,hm,hem⟩
    · have hb:(((qb4 u).length:Int)==0)=false:=by have:0< (qb4 u).length:=List.length_pos_iff.2 hem;simp only[beq_eq_false_iff_ne];omega
      simp(disch:=omega) only[go_sem,a182b0,e0,e1,e3,e13,e14,e15,h1',ixS,su,luu,hb];exact⟨g - 1,by omega,i+1,by omega,hni hem,rfl,trivial⟩
  · have h1':¬(i:Int)< (vs.length:Int):=by omega
    simp(disch:=omega) only[go_sem,a182b0,e0,e1,e3,e14,e15,h1'];refine .inl ⟨fun v hv=>?_,trivial⟩;obtain⟨j,hj,rfl⟩:=List.getElem_of_mem hv;exact hne j hj (by omega)
 obtain⟨x,e',s1,ev,rfl,h⟩:=wpC.sound key;exact⟨x,e',ev,h⟩
theorem qlx{α:Type}:∀{ls:List (List α)},[]∈ls→qca ls=[]
 |l::ls,h=>by
   rcases mN0.1 h with h|h
   ·subst h;rfl
   · simp only[qca,qlx h,List.map_nil];exact List.flatMap_eq_nil_iff.2 fun _ _=>rfl
def qpu(vs:PL):Yss:=(qca (vs.map qb4)).map fun es=>[outV vs es]
theorem zero_in:∀{vs:PL},(∀v∈vs,qb4 v≠[])→inI (qc1 vs) (List.replicate vs.length 0)
 |[],_=>trivial
 |v::vs,h=>⟨List.length_pos_iff.2 (h v (by simp)),zero_in fun u hu=>h u (by simp[hu])⟩
mutual
theorem qlg:∀p:PV,p.pure=true→p.weak.pure=true
 |.slice _ es _,h=>qd4 es h
 |.iptr c _,h=>qlg c h
 |.func _ f c,h=>by
   simp only[PV.pure,bA0]at h;simp only[PV.weak,PV.pure,qd4 f h.1,qd4 c h.2,Bool.and_self]
 |.iface _ v,h=>qlg v h
 |.agg cs,h=>qd4 cs h
 |.tuple vs,h=>qd4 vs h
 |.undef,_=>rfl
 |.bool _,_=>rfl
 |.int _ _,_=>rfl
 |.str _,_=>rfl
 |.aref ..,h=>h
 |.ptr ..,h=>h
 |.nilptr,_=>rfl
 |.map _,h=>h
 |.nilFunc,_=>rfl
 |.nilIface,_=>rfl
theorem qd4:∀l:PL,qas l=true→qas (qaq l)=true
 |[],_=>rfl
 |x::l,h=>by simp only[qas,bA0]at h;simp only[qaq,qas,qlg x h.1,qd4 l h.2,Bool.and_self]
end
theorem sem182G{S:PV}{vs:PL}(O:ListsOk S vs){captured:PL}(hcp:qas captured=true)(hc:qaq captured=[.iptr S 0]):qfz Tryz.prog 182 captured (qpu vs):=by
 have hSp:S.pure=true:=by
  have h:qas (qaq captured)=true:=by
   exact qd4 captured hcp
  rw[hc]at h
  simpa[qas,PV.pure]using h
 have hp:∀v∈vs,v.pure=true:=by
  obtain⟨z,m,hS,_⟩:=O.eq
  rw[hS]at hSp
  exact qlv hSp
 refine qj1 (T:=qde) mixed (fun _ _ h=>by cases h) Tryz.func182 (by decide) comp182 hcp fun l stop=>?_
 have key:∃e' st',YC (fun i=>decide (stop≠some i)) a182.code [.func (.yield l) [] [],.iptr S 0] ⟨[],[],[]⟩ [] (.ret,e',st',(upTo stop (qpu vs)).map fun ys=>(l,ys)):=by
  obtain⟨e1,rA,a0,a1,a3⟩:=y0A_ev (l:=l) O
  obtain⟨x,e2,rB,hB⟩:=y0B_ev O (H:=[.row 1 (List.replicate vs.length (iv0 0))]) a0 a1 a3
  rcases hB with⟨rfl,hne,b0,b1,b3⟩|⟨rfl,v,hv,hve⟩
  · have hz:=zero_in hne
    have A:AtS l S vs e2 [.row 1 (List.replicate vs.length (iv0 0))] (List.replicate vs.length 0):=⟨b0,b1,b3,by simp[encN],by simp,hz⟩
    obtain⟨e3,st3,h3⟩:=y3_loop (b:=fun i=>decide (stop≠some i)) O hp _ (ws:=[]) (g:=[]) (nR0 _) A
    have hr:=qjv hz
    simp only[List.map_replicate]at hr
    rw[hr]at h3
    have hy:(allI (qc1 vs)).map (fun cs=>[outV vs (qe2 (vs.map qb4) cs)])=qpu vs:=by
     unfold qpu
     rw[qnu,List.map_map]
     have:(vs.map qb4).map List.length=qc1 vs:=by simp[qc1]
     rw[this];rfl
    rw[hy,List.nil_append,List.length_nil,qrg]at h3
    exact⟨e3,st3,.seq (.of rfl rA (by simp)) (.seq (.of rfl rB (by simp)) (.block (.loop h3) (by simp)))⟩
  · refine⟨e2,⟨[.row 1 (List.replicate vs.length (iv0 0))],[],[]⟩,?_⟩
    have hy:qpu vs=[]:=by
     unfold qpu
     rw[qlx];·rfl
     exact mM0.2 ⟨v,hv,hve⟩
    have hu:upTo stop ([]:Yss)=[]:=by cases stop<;>rfl
    rw[hy,hu]
    exact .seq (.of rfl rA (by simp)) (.seqOut (.of rfl rB (by simp)) (by simp))
 obtain⟨e',st',N,hN⟩:=key
 refine⟨qbz qde N,N,qc4 (noTbl_ok mixed) N,qdn (fun _ _ h=>by cases h) N,?_⟩
 rw[hc,af182_eq]
 have h1:([PV.func (.yield l) [] [],.iptr S 0]:PL).length=a182.np∧a182.res=[]:=⟨rfl,rfl⟩
 unfold yBody
 rw[if_pos h1,hN N (nR0 _)]
def qo1(vs:PL)(z:Nat):Bool:=decide (vs.length≤500)&& (vs.isEmpty||z==1)&&vs.all okYV
def itG(captured:PL):Option (List (PL)):=
 if qas captured=true then
  match qaq captured with
  |[.iptr (.slice z vs _) 0]=>if qo1 vs z=true then some (qpu vs)else none
  |_=>none
 else none
theorem itG_ok{captured:PL}{yss:Yss}(h:itG captured=some yss):qfz Tryz.prog 182 captured yss:=by
 unfold itG at h;split at h
 next hp=>
   split at h
   next z vs m hw=>
     split at h
     next ho=>
       cases h;simp only[qo1,bA0,dE0,Bool.or_eq_true,List.isEmpty_iff,beq_iff_eq,List.all_eq_true]at ho;exact sem182G ⟨⟨z,m,rfl,ho.1.2⟩,ho.1.1,ho.2⟩ hp hw
     ·cases h
   ·cases h
 ·cases h
end Go.Proofs.Tryz
