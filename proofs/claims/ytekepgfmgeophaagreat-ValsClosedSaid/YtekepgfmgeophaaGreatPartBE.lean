/- Texts of the proof, one behind the other: ValYF, ValYJ, ValYK, ValYL, ValYM, ValYN, ValYO, ValYP. -/
import Derived.Test.YtekepgfmgeophaaGreatPartBC
import Derived.Test.YtekepgfmgeophaaGreatPartBD
import Derived.Test.YtekepgfmgeophaaGreatPartAQ
set_option linter.unusedVariables false
set_option linter.unusedSimpArgs false
namespace Go.Proofs.Tryz
open Go Go.AE
noncomputable def T9:Tbl:={T0 with iter:=fun f=>if f=182 then some itG else none}
theorem T9_sp:T9.sp=T0.sp:=by unfold T9;with_reducible rfl
theorem T9_fn:T9.fn=T0.fn:=by unfold T9;with_reducible rfl
theorem T9_prim:T9.prim=T0.prim:=by unfold T9;with_reducible rfl
theorem T9_mode:T9.mode=T0.mode:=by unfold T9;with_reducible rfl
theorem T9_iter:T9.iter=fun f=>if f=182 then some itG else none:=by unfold T9;with_reducible rfl
theorem T9_ok:TblOK Tryz.prog T9:=by
 have O:=T0_ok
 have it:ItersOK Tryz.prog T9:=fun f it h captured yss hc=>by
  rw[T9_iter]at h;have h:(if f=182 then some itG else none)=some it:=h;split at h
  · rename_i e;cases e;cases h;exact itG_ok hc
  ·cases h
 refine⟨O.mixed,fun f p h=>O.prim f p (by rw[←T9_prim];exact h),it,fun f af h=>O.fn f af (by rw[←T9_fn];exact h),fun f sp h=>O.step f sp (by rw[←T9_sp];exact h),fun f sp h=>O.sp f sp (by rw[←T9_sp];exact h)⟩
noncomputable def canT(X:PV):PV:=by
 classical
 exact if h:∃u,Enc u X then encT h.choose else X
theorem canT_eq{u:Tm}{X:PV}(h:Enc u X):canT X=encT u:=by have hx:∃u,Enc u X:=⟨u,h⟩;unfold canT;rw[dif_pos hx,hx.choose_spec.inj h]
noncomputable def kapN(f:FuncId)(args:List PV):List PV:=if f=50 then(match args with|[a,X]=>[a,canT X]|l=>weaks l)else weaks args
mutual
theorem alike_enc:∀{u:Tm}{X:PV},Enc u X→alike X (encT u)=true
 |.mk k n l,X,h=>by
   obtain⟨k',n',l',sz,es,e,rfl,hz,hE⟩:=h.eq;cases e;simp only[encT,alike,alikes,decide_true,Bool.true_and,Bool.and_true];have:=alikes_enc hE;rcases hz with rfl|rfl
   · have hl:l=[]:=List.length_eq_zero_iff.1 hE.1.symm;subst hl;rfl
   ·simp[this]
theorem alikes_enc:∀{l:List Tm}{es:List PV},EncL l es→alikes es (encTL l)=true
 |[],es,h=>by
   have:es=[]:=List.length_eq_zero_iff.1 h.1;subst this;rfl
 |t::l,[],h=>by have:=h.1;simp at this
 |t::l,e::es,h=>by have a:=alike_enc (h.2 0 t e rfl rfl);have b:=alikes_enc (l:=l) (es:=es) ⟨by have:=h.1;simpa using this,fun i x p hx hp=>h.2 (i+1) x p hx hp⟩;simp only[encTL,alikes,a,b,Bool.and_self]
end
theorem alikes_map{α:Type}{f:α→PV}(h:∀x,alike (f x) (f x)=true):∀l:List α,alikes (l.map f) (l.map f)=true
 |[]=>rfl
 |x::l=>by simp only[List.map_cons,alikes,h x,alikes_map h l,Bool.and_self]
theorem alike_sl{sz:Nat}{es:List PV}(h:alikes es es=true):alike (.slice sz es .any) (.slice sz es .any)=true:=by simp[alike,h]
theorem alike_encT(u:Tm):alike (encT u) (encT u)=true:=alike_enc (enc_encT u)
theorem alike_ty(t:GTy):alike (encTy t) (encTy t)=true:=by
 have h1:∀b:ByteArray,alike (.str b) (.str b)=true:=fun b=>by simp[alike]
 have hi:∀n:Int,alike (encI n) (encI n)=true:=fun n=>by simp[alike,encI]
 have h2:∀o:GOp,alike (encOp o) (encOp o)=true:=fun o=>by have:=alike_sl (sz:=1) (alikes_map hi o.args);show(alike (.str o.name) (.str o.name)&& (alike (.slice 1 (o.args.map encI) .any) (.slice 1 (o.args.map encI) .any)&& (alike (.int .i64 o.res) (.int .i64 o.res)&&true)))=true;rw[h1,this];simp[alike]
 have hp:∀p:Tm×Tm,alike (encPair p) (encPair p)=true:=fun p=>alikes_append (alike_cells (alike_encT _)) (alike_cells (alike_encT _));have h3:∀e:GEqn,alike (encEqn e) (encEqn e)=true:=fun e=>by refine alikes_append ?_ (alikes_append (alike_cells (alike_encT _)) (alike_cells (alike_encT _)));simp only[alikes,alike_sl (sz:=1) (alikes_map hi e.vars),alike_sl (sz:=6) (alikes_map hp e.conds),Bool.and_self]
 show(alike (.slice 1 (t.sig.sorts.map .str) .any) (.slice 1 (t.sig.sorts.map .str) .any)&& (alike (.slice 3 (t.sig.ops.map encOp) .any) (.slice 3 (t.sig.ops.map encOp) .any)&& (alike (.slice 8 (t.eqns.map encEqn) .any) (.slice 8 (t.eqns.map encEqn) .any)&&true)))=true;rw[alike_sl (sz:=1) (alikes_map h1 t.sig.sorts),alike_sl (sz:=3) (alikes_map h2 t.sig.ops),alike_sl (sz:=8) (alikes_map h3 t.eqns)];rfl
noncomputable def TD:Tbl:=T9.knowsK Tryz.prog 200 goodsC kapN
theorem TD_ok:TblOK Tryz.prog TD:=Tbl.knowsK_ok T9_ok
theorem TD_sp{f:FuncId}(h:goodsC f=none):TD.sp f=T0.sp f:=by rw[TD,Tbl.knowsK_sp h,T9_sp]
theorem TD_std:Std TD where
 sp f h:=by rw[TD_sp (goodsC_none h)];exact T0_std.sp f h
 fn f:=by rw[TD,Tbl.knowsK_fn,T9_fn];exact T0_std.fn f
 prim:=by rw[TD,Tbl.knowsK_prim,T9_prim];exact T0_std.prim
 mode f:=by rw[TD,Tbl.knowsK_mode,T9_mode];exact T0_std.mode f
theorem TD_iter:TD.iter 182=some itG:=by rw[TD,Tbl.knowsK_iter,T9_iter];rfl
theorem kap_other{f:FuncId}(h:f≠50)(args:List PV):kapN f args=weaks args:=by simp[kapN,h]
theorem saneD_ev(h:Hp):Ev TD 15 [] h (.val (.bool true),⟨h,[],[]⟩):=by obtain⟨v,hv,_,ev⟩:=Ev.knowsK (T:=T9) (N:=200) (m:=goodsC) (κ:=kapN) (f:=15) (good:=good15) rfl sane_known rfl;cases hv;exact ev [] rfl rfl (.inl rfl) h
theorem tyinD{t:GTy}(hs:Fits t.sig):∃r,TyIn TD t r:=by
 obtain⟨r0,ev0,kr0⟩:=check_tot T0_std T0_sp87 T0_sp208 hs [];obtain⟨p1,p2⟩:=encSig_pw t.sig;obtain⟨v,⟨r1,rfl,k1⟩,_,ev1⟩:=Ev.knowsK (T:=T9) (N:=200) (m:=goodsC) (κ:=kapN) (f:=87) (good:=good87) rfl (Known.of_ev T0_ok rfl ev0) ⟨r0,rfl,fun s' he=>by have:=encSig_inj (List.cons.inj he).1;subst this;exact kr0⟩;have e87:=fun h=>ev1 [encSig t.sig] (by simp[pures,p1]) (by rw[kap_other (by decide)];simp[weaks,p2]) (.inl (by simp[weaks,p2])) h;obtain⟨r2,hr2,ev2⟩:=tcheck_of (m:=goodsB) rfl hs;obtain⟨q1,q2⟩:=encTy_pw t;obtain⟨v,⟨r3,rfl,k3⟩,_,ev3⟩:=Ev.knowsK (T:=T9) (N:=200) (m:=goodsC) (κ:=kapN) (f:=103) (good:=good103) rfl (Known.of_ev TB_ok rfl (ev2 [])) ⟨r2,rfl,fun t' he=>by have:=encTy_inj (List.cons.inj he).1;subst this;exact hr2⟩
 have hok:r3=0→TypP t:=fun h=>by
  rcases k3 t rfl with⟨_,h2⟩|h2
  ·exact h2
  ·omega
 refine⟨r3,fun h=>ev3 [encTy t] (by simp[pures,q1]) (by rw[kap_other (by decide)];simp[weaks,q2]) (.inl (by simp[weaks,q2])) h,hok,fun h=>(hok h).sig.gok,fun h=>?_⟩;rcases k1 t.sig rfl with⟨h1,_⟩|⟨_,h1⟩
 ·rw[←h1];exact e87
 ·exact absurd (hok h).sig h1
structure NTm (T:Tbl)(t:GTy)(nt:Tm→PV×Int):Prop where
 nx:∀u,NormX (nt u)
 ev:∀(u:Tm)(X:PV),Enc u X→∀h,Ev T 50 [encTy t,X] h (.val (.tuple [(nt u).1,.int .i64 (nt u).2]),⟨h,[],[]⟩)
theorem ntmD{t:GTy}(hs:Fits t.sig):∃nt,NTm TD t nt:=by
 classical
 have key:∀u:Tm,∃x:PV×Int,NormX x∧∀X,Enc u X→∀h,Ev TD 50 [encTy t,X] h (.val (.tuple [x.1,.int .i64 x.2]),⟨h,[],[]⟩):=fun u=>by
  obtain⟨r',I'⟩:=tyin_of (m:=goodsB) rfl rfl hs;obtain⟨x,ev,hx⟩:=normal50_ev TB_std TB_sp50 TB_sp189 I' (enc_encT u) [];obtain⟨p1,p2⟩:=encTy_pw t;obtain⟨_,_,_,_,f1,f2,_⟩:=hx.facts;obtain⟨v,⟨y,rfl,hy⟩,_,ev'⟩:=Ev.knowsK (T:=T9) (N:=200) (m:=goodsC) (κ:=kapN) (f:=50) (good:=good50) rfl (Known.of_ev TB_ok (by simp[PV.pure,pures,f1]) ev) ⟨x,rfl,hx⟩;obtain⟨_,_,_,_,g1,g2,_⟩:=hy.facts;refine⟨y,hy,fun X hX h=>?_⟩;obtain⟨_,q1,q2⟩:=hX.facts;have hw:weaks [encTy t,X]=[encTy t,X]:=by simp[weaks,p2,q2]
  have:=ev' [encTy t,X] (by simp[pures,p1,q1]) (by simp only[kapN,if_true];rw[canT_eq hX]) (.inr (by rw[hw];simp only[alikes,alike_ty,alike_enc hX,Bool.and_self])) h;have hv:(PV.tuple [y.1,.int .i64 y.2]).weak=.tuple [y.1,.int .i64 y.2]:=by simp[PV.weak,weaks,g2]
  rw[hv]at this;exact this
 exact⟨fun u=>(key u).choose,fun u=>(key u).choose_spec.1,fun u=>(key u).choose_spec.2⟩
theorem NTm.val{T:Tbl}{t:GTy}{nt:Tm→PV×Int}(N:NTm T t nt):∃nv,NVal T t nv∧∀u X,Enc u X→nv X=nt u:=by
 classical
 have e:∀u X,Enc u X→(fun X=>if h:∃u,Enc u X then nt h.choose else(zTerm,1)) X=nt u:=fun u X hX=>by have hx:∃u,Enc u X:=⟨u,hX⟩;simp only[dif_pos hx];rw[hx.choose_spec.inj hX]
 refine⟨_,fun u X hX=>?_,e⟩;have:=e u X hX;simp only at this;rw[this];exact⟨N.nx u,N.ev u X hX⟩
end Go.Proofs.Tryz
namespace Go.Proofs.Tryz
open Go Go.AE
variable {T:Tbl}(hT:Std T){s:GSig}
theorem rangeI{T:Tbl}{g:AX}{ps:List Nat}{a b:ACode}{e:List PV}{st:St}{Q:AExit→List PV→St→Prop}{gf:FuncId}{captured:List PV}{it:List PV→Option (List (List PV))}{yss:List (List PV)}(hg:ax e g=.func (.func gf) [] captured)(hi:T.iter gf=some it)(hc:it captured=some yss)(I:Nat→St→Prop)(h0:I 0 st)
 (hstep:∀(i:Nat)(ys:List PV)(s:St)(K:St→Prop),yss[i]?=some ys→I i s→(∀s2,I (i+1) s2→K s2)→ys.length=ps.length∧wpC T a (puts e ps ys) s fun x e1 s1=>x=.normal∧wpC T b e1 s1 fun x _ s2=>match x with
  |.normal=>K s2
  |.ret=>Q .ret e s2
  |.exit j=>Q (.exit j) e s2
  |.pan _=>False)
 (hend:∀s,I yss.length s→Q .normal e s):wpC T (.range g ps a b) e st Q:=by
 refine⟨gf,captured,it,yss,hg,hi,hc,?_⟩
 have key:∀(rest:List (List PV))(i:Nat)(s:St),yss.drop i=rest→i≤yss.length→I i s→wpRounds (wpC T a) (wpC T b) ps e Q rest s:=by
  intro rest;induction rest with
  |nil=>
    intro i s hd hil hI;have:i=yss.length:=by have:=congrArg List.length hd;simp at this;omega
    subst this;exact hend s hI
  |cons ys rest ih=>
    intro i s hd hil hI;have hlt:i<yss.length:=by have:=congrArg List.length hd;simp at this;omega
    have hy:yss[i]?=some ys:=by have:=List.drop_eq_getElem_cons hlt;rw[hd]at this;rw[List.getElem?_eq_getElem hlt,←(List.cons.inj this).1]
    have hr:yss.drop (i+1)=rest:=by have:=List.drop_eq_getElem_cons hlt;rw[hd]at this;exact(List.cons.inj this).2.symm
    exact hstep i ys s _ hy hI fun s2 h2=>ih (i+1) s2 hr (by omega) h2
 exact key yss 0 st rfl (Nat.zero_le _) h0
theorem prodL_map{α β:Type}(f:α→β):∀ls:List (List α),prodL (ls.map (List.map f))=(prodL ls).map (List.map f)
 |[]=>rfl
 |l::ls=>by simp only[List.map_cons,prodL,prodL_map f ls,List.map_flatMap,List.flatMap_map,List.map_map];rfl
theorem mem_prodL{α:Type}:∀{ls:List (List α)}{us:List α},us∈prodL ls→us.length=ls.length∧∀(i:Nat)(u:α)(l:List α),us[i]?=some u→ls[i]?=some l→u∈l
 |[],us,h=>by
   simp only[prodL,List.mem_singleton]at h;subst h;exact⟨rfl,fun i u l h=>by simp at h⟩
 |l::ls,us,h=>by
   simp only[prodL,List.mem_flatMap,List.mem_map]at h;obtain⟨x,hx,vs,hv,rfl⟩:=h;obtain⟨h1,h2⟩:=mem_prodL hv;refine⟨by simp[h1],fun i u l' hu hl=>?_⟩;cases i with
   |zero=>
     simp only[List.getElem?_cons_zero,Option.some.injEq]at hu hl;subst hu hl;exact hx
   |succ i=>exact h2 i u l' (by simpa using hu) (by simpa using hl)
theorem prodL_mem{α:Type}:∀{ls:List (List α)}{us:List α},us.length=ls.length→(∀(i:Nat)(u:α)(l:List α),us[i]?=some u→ls[i]?=some l→u∈l)→us∈prodL ls
 |[],us,h,_=>by
   have:us=[]:=List.length_eq_zero_iff.1 h;subst this;simp[prodL]
 |l::ls,[],h,_=>by simp at h
 |l::ls,u::us,h,hm=>by simp only[prodL,List.mem_flatMap,List.mem_map];exact⟨u,hm 0 u l rfl rfl,us,prodL_mem (by simpa using h) fun i u l h1 h2=>hm (i+1) u l (by simpa using h1) (by simpa using h2),rfl⟩
def outT(n:Nat)(us:List Tm):PV:=.slice (if n=0 then 0 else 3) (us.map encT) .any
theorem okYV_encL{l:List Tm}(h:l.length≤1000):okYV (encL l)=true:=by
 have h2:(l.map encT).all isTm=true:=by rw[List.all_eq_true];intro x hx;obtain⟨⟨k,n,ts⟩,_,rfl⟩:=List.mem_map.1 hx;rfl
 simp[okYV,encL,h,h2]
theorem iter_dom{z:Nat}{ls:List (List Tm)}(hz:ls=[]∨z=1)(hn:ls.length≤500)(hl:∀l∈ls,l.length≤1000):itG [.iptr (.slice z (ls.map encL) .any) 0]=some ((prodL ls).map fun us=>[outT ls.length us]):=by
 obtain⟨p1,p2⟩:=map_pwL encLs_pw ls;have hp:pures [PV.iptr (.slice z (ls.map encL) .any) 0]=true:=by simp[pures,PV.pure,p1]
 have hw:weaks [PV.iptr (.slice z (ls.map encL) .any) 0]=[PV.iptr (.slice z (ls.map encL) .any) 0]:=by simp only[weaks,PV.weak,p2]
 have ho:okLists (ls.map encL) z=true:=by simp only[okLists,Bool.and_eq_true,decide_eq_true_eq,Bool.or_eq_true,List.isEmpty_iff,beq_iff_eq,List.all_eq_true];refine⟨⟨by simpa using hn,hz.imp (fun h=>by simp[h]) id⟩,fun v hv=>?_⟩;obtain⟨l,h1,rfl⟩:=List.mem_map.1 hv;exact okYV_encL (hl l h1)
 unfold itG;rw[if_pos hp,hw];simp only[ho,if_true];have hr:(ls.map encL).map rowOf=ls.map (List.map encT):=by rw[List.map_map];rfl
 unfold yssOf;rw[hr,prodL_map,List.map_map]
 congr 2
 funext us
 simp only[Function.comp,outV,outT];have hw2:weaks (us.map encT)=us.map encT:=(map_pwL encT_pw us).2;rw[hw2];cases ls<;>rfl
def tOf(i:Nat)(us:List Tm):Tm:=.mk 2 (i:Int) us
def GoodA(dom:List (List Tm))(nt:Tm→PV×Int)(i:Nat)(o:GOp)(us:List Tm):Prop:=(nt (tOf i us)).2=0∧∃w,Enc w (nt (tOf i us)).1∧w∈atL dom o.res
def BadA(dom:List (List Tm))(nt:Tm→PV×Int)(i:Nat)(o:GOp)(us:List Tm):Prop:=(nt (tOf i us)).2=0∧∃w,Enc w (nt (tOf i us)).1∧w∉atL dom o.res
structure OpenX9 where
 i:Int
 z:Nat
 es:List PV
 is:Bool
 e:Int
def OpenX9.v(x:OpenX9):PV:=.tuple [.int .i64 x.i,.slice x.z x.es .any,.bool x.is,.int .i64 x.e]
def OpenA(s:GSig)(dom:List (List Tm))(nt:Tm→PV×Int)(x:OpenX9):Prop:=x.e≠0∨(x.e=0∧Dom1 s dom∧
 ((x.is=false∧∀(i:Nat)(o:GOp)(us:List Tm),s.ops[i]?=some o→us∈prodL (o.args.map (atL dom))→GoodA dom nt i o us)∨
  (x.is=true∧∃(i:Nat)(o:GOp)(us:List Tm),x.i=(i:Int)∧s.ops[i]?=some o∧us∈prodL (o.args.map (atL dom))∧(x.es=[]∨x.z=3)∧EncL us x.es∧BadA dom nt i o us)))
theorem Dom1.sorted{dom:List (List Tm)}(D:Dom1 s dom){k:Nat}{l:List Tm}(h:dom[k]?=some l):SortedT l∧∀x∈l,treeB x=true:=by have hr:=D.2 k l h;refine⟨fun i j x y hij hx hy=>sorted_ne hr hij hx hy,fun x hx=>?_⟩;obtain⟨i,hi,rfl⟩:=List.getElem_of_mem hx;exact(hr.2 i _ (List.getElem?_eq_getElem hi)).1.tree
structure OpenB (H:Hp)(n0:Nat)(t:GTy)(dom:List (List Tm)):Prop where
 k2:H[n0]?=some (.row 3 [encTy t])
 k3:H[n0+1]?=some (.row 1 [domV dom])
 k4:H[n0+2]?=some (.row 1 [.int .i64 0])
 k5:H[n0+3]?=some (.row 1 [.slice 0 [] .nil])
 k6:H[n0+4]?=some (.row 1 [.bool false])
 k7:H[n0+5]?=some (.row 1 [.int .i64 0])
theorem OpenB.low{H H':Hp}{n0:Nat}{t:GTy}{dom:List (List Tm)}(B:OpenB H n0 t dom)(L:Low (n0+6) H H'):OpenB H' n0 t dom:=
 ⟨L.get (by omega) B.k2,L.get (by omega) B.k3,L.get (by omega) B.k4,L.get (by omega) B.k5,L.get (by omega) B.k6,L.get (by omega) B.k7⟩
theorem ret4{h H:Hp}{t:GTy}{dom:List (List Tm)}(low:Low h.length h H)(B:OpenB H h.length t dom)(a d:Int)(c:Bool){z:Nat}{es:List PV}{m:SM}(hp:pures es=true∧weaks es=es)(ht:tops es=none)(hm:∀k,m≠.tok k):
 ∃H4 H5 H6 H7,(∀ws,storeAt 1 (.ptr (h.length+2) 0 0 1) (.int .i64 a) ⟨H,ws,[]⟩=some ⟨H4,wadd (h.length+2) ws,[]⟩)∧(∀ws,storeAt 1 (.ptr (h.length+3) 0 0 1) (.slice z es m) ⟨H4,ws,[]⟩=some ⟨H5,wadd (h.length+3) ws,[]⟩)∧(∀ws,storeAt 1 (.ptr (h.length+4) 0 0 1) (.bool c) ⟨H5,ws,[]⟩=some ⟨H6,wadd (h.length+4) ws,[]⟩)∧(∀ws,storeAt 1 (.ptr (h.length+5) 0 0 1) (.int .i64 d) ⟨H6,ws,[]⟩=some ⟨H7,wadd (h.length+5) ws,[]⟩)∧
   loadAt false 1 (.ptr (h.length+2) 0 0 1) H7=some (.int .i64 a)∧loadAt false 1 (.ptr (h.length+3) 0 0 1) H7=some (.slice z es m)∧loadAt false 1 (.ptr (h.length+4) 0 0 1) H7=some (.bool c)∧loadAt false 1 (.ptr (h.length+5) 0 0 1) H7=some (.int .i64 d)∧
   ∀ws,(∀x∈ws,h.length≤x)→tidy 0 h.length (.val (.tuple [.int .i64 a,.slice z es m,.bool c,.int .i64 d])) ⟨H7,ws,[]⟩=(.val (.tuple [.int .i64 a,.slice z es .any,.bool c,.int .i64 d]),⟨h,[],[]⟩):=by
 obtain⟨_,_,k4,k5,k6,k7⟩:=B
 have st:(PV.slice z es m).top=none:=by
  cases m with
  |tok k=>exact absurd rfl (hm k)
  |_=>show omax none (tops es)=none;rw[ht];rfl
 have s4:=fun ws=>st_row1 (v:=.int .i64 a) (ws:=ws) (ups:=[]) (n:=1) (A:=0) k4 rfl rfl (fun cs h=>by cases h) ⟨rfl,rfl⟩ (fun j hj=>by cases hj);simp only[List.set_cons_zero]at s4;have k45:=get_set_ne (o':=AE.Obj.row 1 [.int .i64 a]) k5 (show h.length+2≠h.length+3 by omega);have k46:=get_set_ne (o':=AE.Obj.row 1 [.int .i64 a]) k6 (show h.length+2≠h.length+4 by omega);have k47:=get_set_ne (o':=AE.Obj.row 1 [.int .i64 a]) k7 (show h.length+2≠h.length+5 by omega);have k44:=get_set (o':=AE.Obj.row 1 [.int .i64 a]) k4;have low4:Low h.length h (H.set (h.length+2) (.row 1 [.int .i64 a])):=low.trans (.set (by omega));generalize H.set (h.length+2) (.row 1 [.int .i64 a])=H4 at*;have s5:=fun ws=>st_row1 (v:=.slice z es m) (ws:=ws) (ups:=[]) (n:=1) (A:=0) k45 rfl rfl (fun cs h=>by cases h) ⟨rfl,rfl⟩ (fun j hj=>by rw[st]at hj;cases hj);simp only[List.set_cons_zero]at s5;have k54:=get_set_ne (o':=AE.Obj.row 1 [.slice z es m]) k44 (show h.length+3≠h.length+2 by omega);have k56:=get_set_ne (o':=AE.Obj.row 1 [.slice z es m]) k46 (show h.length+3≠h.length+4 by omega);have k57:=get_set_ne (o':=AE.Obj.row 1 [.slice z es m]) k47 (show h.length+3≠h.length+5 by omega);have k55:=get_set (o':=AE.Obj.row 1 [.slice z es m]) k45;have low5:Low h.length h (H4.set (h.length+3) (.row 1 [.slice z es m])):=low4.trans (.set (by omega));generalize H4.set (h.length+3) (.row 1 [.slice z es m])=H5 at*;have s6:=fun ws=>st_row1 (v:=.bool c) (ws:=ws) (ups:=[]) (n:=1) (A:=0) k56 rfl rfl (fun cs h=>by cases h) ⟨rfl,rfl⟩ (fun j hj=>by cases hj);simp only[List.set_cons_zero]at s6;have k64:=get_set_ne (o':=AE.Obj.row 1 [.bool c]) k54 (show h.length+4≠h.length+2 by omega);have k65:=get_set_ne (o':=AE.Obj.row 1 [.bool c]) k55 (show h.length+4≠h.length+3 by omega);have k67:=get_set_ne (o':=AE.Obj.row 1 [.bool c]) k57 (show h.length+4≠h.length+5 by omega);have k66:=get_set (o':=AE.Obj.row 1 [.bool c]) k56;have low6:Low h.length h (H5.set (h.length+4) (.row 1 [.bool c])):=low5.trans (.set (by omega));generalize H5.set (h.length+4) (.row 1 [.bool c])=H6 at*;have s7:=fun ws=>st_row1 (v:=.int .i64 d) (ws:=ws) (ups:=[]) (n:=1) (A:=0) k67 rfl rfl (fun cs h=>by cases h) ⟨rfl,rfl⟩ (fun j hj=>by cases hj);simp only[List.set_cons_zero]at s7;have k74:=get_set_ne (o':=AE.Obj.row 1 [.int .i64 d]) k64 (show h.length+5≠h.length+2 by omega);have k75:=get_set_ne (o':=AE.Obj.row 1 [.int .i64 d]) k65 (show h.length+5≠h.length+3 by omega);have k76:=get_set_ne (o':=AE.Obj.row 1 [.int .i64 d]) k66 (show h.length+5≠h.length+4 by omega);have k77:=get_set (o':=AE.Obj.row 1 [.int .i64 d]) k67;have low7:Low h.length h (H6.set (h.length+5) (.row 1 [.int .i64 d])):=low6.trans (.set (by omega));generalize H6.set (h.length+5) (.row 1 [.int .i64 d])=H7 at*;refine⟨H4,H5,H6,H7,s4,s5,s6,s7,by rw[ld_at k74];rfl,by rw[ld_at k75];rfl,by rw[ld_at k76];rfl,by rw[ld_at k77];rfl,fun ws hw=>?_⟩;have:=tidy_ups (v:=.tuple [.int .i64 a,.slice z es m,.bool c,.int .i64 d]) (ups:=[]) (by simp only[PV.pure,pures,hp.1,Bool.and_self]) low7 hw (by simp);rw[this];simp only[PV.weak,weaks,hp.2]
theorem outT_enc{n i:Nat}{us:List Tm}(h:us.length=n):Enc (tOf i us) (.agg [.int .i64 2,.int .i64 (i:Int),outT n us]):=by
 unfold outT tOf;refine .mk _ _ _ _ _ ?_ (encL_map us).1 (encL_map us).2;by_cases hn:n=0
 · left;have:us=[]:=List.length_eq_zero_iff.1 (h.trans hn);rw[this];rfl
 ·right;rw[if_neg hn]
theorem encOp_top(o:GOp):(encOp o).top=none:=by
 have h1:tops (o.args.map encI)=none:=tops_none fun x hx=>by obtain⟨n,_,rfl⟩:=List.mem_map.1 hx;rfl
 show omax none (omax (omax none (tops (o.args.map encI))) (omax none none))=none;rw[h1];rfl
set_option maxRecDepth 8000 in
include hT in
theorem open_ev(hI:T.iter 182=some itG){t:GTy}{r:Int}(I:TyIn T t r){nt:Tm→PV×Int}(N:NTm T t nt){dom:List (List Tm)}(hd:dom.length<1000)(h:Hp):
 ∃x:OpenX9,Ev T 42 [encTy t,domV dom] h (.val x.v,⟨h,[],[]⟩)∧OpenA t.sig dom nt x∧(x.e=0→r=0):=by
 refine Ev.walkP (r:=fun x:OpenX9=>(.val x.v,⟨h,[],[]⟩)) (mode:=0) (hT.sp _ (by decide)) ((hT.fn _).trans fn42) (show T.mode 42=0 from hT.mode 42) rfl ?_;have cd:(domV dom).cells.length=1∧(domV dom).isDef=true:=⟨rfl,rfl⟩;have g2:∃H0,(((((h++[AE.Obj.row 3 [encTy t]])++[AE.Obj.row 1 [domV dom]])++[AE.Obj.row 1 [.int .i64 0]])++[AE.Obj.row 1 [.slice 0 [] .nil]])++[AE.Obj.row 1 [.bool false]])++[AE.Obj.row 1 [.int .i64 0]]=H0:=⟨_,rfl⟩;obtain⟨H0,hH0⟩:=g2;have low0:Low h.length h H0:=by rw[←hH0];exact((((((Low.refl _ _).push (Nat.le_refl _)).push (by simp)).push (by simp)).push (by simp)).push (by simp)).push (by simp)
 have hl0:H0.length=h.length+6:=by rw[←hH0];simp
 have B0:OpenB H0 h.length t dom:=by rw[←hH0];refine⟨?_,?_,?_,?_,?_,?_⟩<;>simp[List.getElem?_append]
 have w1:(h++[AE.Obj.row 3 [encTy t]]).length=h.length+1:=by simp
 have w2:((h++[AE.Obj.row 3 [encTy t]])++[AE.Obj.row 1 [domV dom]]).length=h.length+2:=by simp
 have w3:(((h++[AE.Obj.row 3 [encTy t]])++[AE.Obj.row 1 [domV dom]])++[AE.Obj.row 1 [.int .i64 0]]).length=h.length+3:=by simp
 have w4:((((h++[AE.Obj.row 3 [encTy t]])++[AE.Obj.row 1 [domV dom]])++[AE.Obj.row 1 [.int .i64 0]])++[AE.Obj.row 1 [.slice 0 [] .nil]]).length=h.length+4:=by simp
 have w5:(((((h++[AE.Obj.row 3 [encTy t]])++[AE.Obj.row 1 [domV dom]])++[AE.Obj.row 1 [.int .i64 0]])++[AE.Obj.row 1 [.slice 0 [] .nil]])++[AE.Obj.row 1 [.bool false]]).length=h.length+5:=by simp
 have lt:loadAt true 3 (.ptr h.length 0 0 1) H0=some (encTy t):=by rw[ld_at B0.k2];rfl
 have ld:loadAt false 1 (.ptr (h.length+1) 0 0 1) H0=some (domV dom):=by rw[ld_at B0.k3];rfl
 obtain⟨nv,NV,hnv⟩:=N.val;obtain⟨r',ev1,hr⟩:=askedV_ev hT I NV (domV_ok dom H0) (by omega);by_cases hr0:r'=0;rotate_left
 · have hb:(r' !=0)=true:=by simpa using hr0
   obtain⟨H4,H5,H6,H7,s4,s5,s6,s7,l4,l5,l6,l7,td⟩:=ret4 low0 B0 0 r' false (z:=0) (es:=[]) (m:=.nil) ⟨rfl,rfl⟩ rfl (by simp);have t1:=td (wadd (h.length+5) (wadd (h.length+4) (wadd (h.length+3) (wadd (h.length+2) [])))) (wadd_low (by omega) (wadd_low (by omega) (wadd_low (by omega) (wadd_low (by omega) (by simp)))));simp(disch:=first|omega|decide|simp only[go_sem]) only[go_sem,w1,w2,w3,w4,w5,hH0,cd.1,cd.2,ty_len,ty_def,lt,ld,cb ev1,hb,s4,s5,s6,s7,resv,l4,l5,l6,l7,hT.prim,primOf,List.length_cons,List.length_nil,t1];exact⟨⟨0,0,[],false,r'⟩,rfl,.inl hr0,fun h=>absurd h hr0⟩
 subst hr0;have hb0:((0:Int) !=0)=false:=rfl
 obtain⟨rfl,hD⟩:r=0∧DomR t.sig nv dom (vssOf dom) 0:=by
  rcases hr with⟨h1,h2⟩|h
  ·exact absurd h2.symm h1
  ·exact h
 have D1:=(hD.yes (by decide)).1;have hP:=I.ok rfl;have hnS:=hP.sig.nS;have hnO:=hP.sig.nO;have hops:=hP.sig.ops8;have hdl:∀l∈dom,l.length≤64:=fun l hl=>by obtain⟨i,hi,rfl⟩:=List.getElem_of_mem hl;exact(D1.2 i _ (List.getElem?_eq_getElem hi)).1
 have lg0:loadAt false 1 (.ptr h.length 0 1 1) H0=some (.slice 3 (t.sig.ops.map encOp) .any):=by rw[ld_at B0.k2];rfl
 simp(disch:=first|omega|decide|simp only[go_sem]) only[go_sem,w1,w2,w3,w4,w5,hH0,cd.1,cd.2,ty_len,ty_def,lt,ld,cb ev1,hb0,lg0,hT.prim,primOf,List.length_cons,List.length_nil,List.length_map]
 refine wpC.loopM (fun g e st=> ∃(i:Nat)(H:Hp)(ws:List Nat)(n:Int),i+g=t.sig.ops.length∧Low (h.length+6) H0 H∧(∀x∈ws,h.length≤x)∧0≤n∧n≤1099511627776∧(eget e 2=.ptr h.length 0 0 1∧eget e 3=.ptr (h.length+1) 0 0 1∧eget e 4=.ptr (h.length+2) 0 0 1∧eget e 5=.ptr (h.length+3) 0 0 1∧eget e 6=.ptr (h.length+4) 0 0 1∧eget e 7=.ptr (h.length+5) 0 0 1∧eget e 9=.int .i64 n∧eget e 32=.slice 3 (t.sig.ops.map encOp) .any∧eget e 33=.int .i64 (t.sig.ops.length:Int)∧eget e 34=.int .i64 (i:Int))∧st=⟨H,ws,[]⟩) ?_ t.sig.ops.length _ _
  ⟨0,H0,[],0,by omega,⟨rfl,Nat.le_refl _⟩,by simp,by omega,by omega,by simp only[go_sem,Int.natCast_zero],rfl⟩
 clear lt ld ev1 lg0;rintro g e st ⟨i,H,ws,n,hi,low,hw,hn0,hn1,⟨e2,e3,e4,e5,e6,e7,e9,e32,e33,e34⟩,rfl⟩;have hHl:=low.len;have B:=B0.low low;have lowh:Low h.length h H:=low0.comp low (by omega);by_cases h1:i<t.sig.ops.length
 · have h1':(i:Int)< (t.sig.ops.length:Int):=by omega
   have go:=get_op h1;obtain⟨a1,a2,a3⟩:=hops _ (List.getElem_mem h1);generalize t.sig.ops[i]=o at*;have so:AE.sub true 3 (encOp o) 0=some (encOp o):=rfl;have sb:=st_box (h:=H) (ws:=ws) (ups:=[]) (z:=.agg [(.str ⟨#[]⟩),(.slice 0 [] .nil),(.int .i64 0)]) (sz:=3) (c:=encOp o) rfl rfl rfl (encOp_top o) ⟨_,rfl⟩ ⟨_,rfl⟩;have k5:(H++[AE.Obj.row 3 [encOp o]])[H.length]?=some (.row 3 [encOp o]):=by simp
   have low5:Low (h.length+6) H0 (H++[AE.Obj.row 3 [encOp o]]):=low.push (by omega);have hw5:∀y∈wadd H.length ws,h.length≤y:=wadd_low (by omega) hw;generalize hH5:H++[AE.Obj.row 3 [encOp o]]=H5 at*;generalize hk5:H.length=ko at*;have B5:=B0.low low5;have ld5:loadAt false 1 (.ptr (h.length+1) 0 0 1) H5=some (domV dom):=by rw[ld_at B5.k3];rfl
   have lA:loadAt false 1 (.ptr ko 0 1 1) H5=some (.slice 1 (o.args.map encI) .any):=by rw[ld_at k5];rfl
   obtain⟨⟨z,q⟩,ev,hz,hq0,hq1⟩:=overV_ev hT (dom:=dom) (ks:=o.args) (m:=.any) (fun k hk=>by have:=a1 k hk;rw[D1.1];exact this) (by omega) (fun l hl=>by have:=hdl l hl;omega) H5;simp only at ev hq0 hq1;have evp:=plus_ev hT (a:=n) (b:=q) (h:=H5) hn0 hn1 hq0 hq1;simp(disch:=first|omega|decide|simp only[go_sem]) only[go_sem,a42b0,e2,e3,e4,e5,e6,e7,e9,e32,e33,e34,h1,h1',go,so,hk5,sb,hH5,ld5,lA,cb ev,cb evp,hT.prim,primOf,List.length_cons,List.length_nil];refine⟨g - 1,by omega,i+1,H5,_,_,by omega,low5,hw5,?_,?_,⟨rfl,rfl⟩,rfl⟩<;>omega
 · have h1':¬(i:Int)< (t.sig.ops.length:Int):=by omega
   by_cases hbig:200000<n
   · obtain⟨H4,H5,H6,H7,s4,s5,s6,s7,l4,l5,l6,l7,td⟩:=ret4 lowh B 0 2 false (z:=0) (es:=[]) (m:=.nil) ⟨rfl,rfl⟩ rfl (by simp);have t1:=td (wadd (h.length+5) (wadd (h.length+4) (wadd (h.length+3) (wadd (h.length+2) ws)))) (wadd_low (by omega) (wadd_low (by omega) (wadd_low (by omega) (wadd_low (by omega) hw))));simp(disch:=first|omega|decide|simp only[go_sem]) only[go_sem,a42b0,e2,e3,e4,e5,e6,e7,e9,e32,e33,e34,h1',hbig,s4,s5,s6,s7,resv,l4,l5,l6,l7,List.length_cons,List.length_nil,t1];exact⟨⟨0,0,[],false,2⟩,rfl,.inl (by simp),fun _=>trivial⟩
   have lg:loadAt false 1 (.ptr h.length 0 1 1) H=some (.slice 3 (t.sig.ops.map encOp) .any):=by rw[ld_at B.k2];rfl
   simp(disch:=first|omega|decide|simp only[go_sem]) only[go_sem,a42b0,e2,e3,e4,e5,e6,e7,e9,e32,e33,e34,h1',hbig,lg,List.length_map]
   refine wpC.loopM (fun g e st=> ∃(i:Nat)(H:Hp)(ws:List Nat),i+g=t.sig.ops.length∧Low (h.length+6) H0 H∧(∀x∈ws,h.length≤x)∧(∀(j:Nat)(o:GOp)(us:List Tm),j<i→t.sig.ops[j]?=some o→us∈prodL (o.args.map (atL dom))→GoodA dom nt j o us)∧(eget e 2=.ptr h.length 0 0 1∧eget e 3=.ptr (h.length+1) 0 0 1∧eget e 4=.ptr (h.length+2) 0 0 1∧eget e 5=.ptr (h.length+3) 0 0 1∧eget e 6=.ptr (h.length+4) 0 0 1∧eget e 7=.ptr (h.length+5) 0 0 1∧eget e 53=.slice 3 (t.sig.ops.map encOp) .any∧eget e 54=.int .i64 (t.sig.ops.length:Int)∧eget e 55=.int .i64 (i:Int))∧st=⟨H,ws,[]⟩) ?_ t.sig.ops.length _ _
    ⟨0,H,ws,by omega,low,hw,fun j o us hj=>by omega,by simp only[go_sem,e2,e3,e4,e5,e6,e7,Int.natCast_zero],rfl⟩
   clear e2 e3 e4 e5 e6 e7 e9 e32 e33 e34 low hw lg B lowh hHl h1 h1' hi;rintro g' e st ⟨i,H,ws,hi,low,hw,hgood,⟨e2,e3,e4,e5,e6,e7,e53,e54,e55⟩,rfl⟩;have hHl:=low.len;have B:=B0.low low;have lowh:Low h.length h H:=low0.comp low (by omega);by_cases h1:i<t.sig.ops.length;rotate_left
   · have h1':¬(i:Int)< (t.sig.ops.length:Int):=by omega
     obtain⟨H4,H5,H6,H7,s4,s5,s6,s7,l4,l5,l6,l7,td⟩:=ret4 lowh B 0 0 false (z:=0) (es:=[]) (m:=.nil) ⟨rfl,rfl⟩ rfl (by simp);have t1:=td (wadd (h.length+5) (wadd (h.length+4) (wadd (h.length+3) (wadd (h.length+2) ws)))) (wadd_low (by omega) (wadd_low (by omega) (wadd_low (by omega) (wadd_low (by omega) hw))));simp(disch:=first|omega|decide|simp only[go_sem]) only[go_sem,a42b1,e2,e3,e4,e5,e6,e7,e53,e54,e55,h1',s4,s5,s6,s7,resv,l4,l5,l6,l7,List.length_cons,List.length_nil,t1];exact⟨⟨0,0,[],false,0⟩,rfl,.inr ⟨rfl,D1,.inl ⟨rfl,fun j o us ho hu=>hgood j o us (by have:=(List.getElem?_eq_some_iff.1 ho).1;omega) ho hu⟩⟩,fun _=>trivial⟩
   have h1':(i:Int)< (t.sig.ops.length:Int):=by omega
   have go:=get_op h1;have hoi:t.sig.ops[i]?=some t.sig.ops[i]:=List.getElem?_eq_getElem h1;obtain⟨a1,a2,a3⟩:=hops _ (List.getElem_mem h1);generalize t.sig.ops[i]=o at*;have so:AE.sub true 3 (encOp o) 0=some (encOp o):=rfl;obtain⟨R,hR⟩:=Int.eq_ofNat_of_zero_le a2.1;have hRd:R<dom.length:=by rw[D1.1];omega
   have gR:=atL_get hRd;have hatR:atL dom o.res=atL dom (R:Int):=by rw[hR]
   have q14:(H++[AE.Obj.row 1 [.int .i64 0]])[H.length]?=some (.row 1 [.int .i64 0]):=by simp
   have low1:Low (h.length+6) H0 (H++[AE.Obj.row 1 [.int .i64 0]]):=low.push (by omega);have hl1:(H++[AE.Obj.row 1 [.int .i64 0]]).length=H.length+1:=by simp
   generalize hH1:H++[AE.Obj.row 1 [.int .i64 0]]=H1 at*;generalize hk14:H.length=k14 at*;have q15:(H1++[AE.Obj.row 3 [.agg [(.str ⟨#[]⟩),(.slice 0 [] .nil),(.int .i64 0)]]])[H1.length]?=some (.row 3 [.agg [(.str ⟨#[]⟩),(.slice 0 [] .nil),(.int .i64 0)]]):=by simp
   have q142:(H1++[AE.Obj.row 3 [.agg [(.str ⟨#[]⟩),(.slice 0 [] .nil),(.int .i64 0)]]])[k14]?=some (.row 1 [.int .i64 0]):=keepL q14;have low2:Low (h.length+6) H0 (H1++[AE.Obj.row 3 [.agg [(.str ⟨#[]⟩),(.slice 0 [] .nil),(.int .i64 0)]]]):=low1.push (by omega);have hl2:(H1++[AE.Obj.row 3 [.agg [(.str ⟨#[]⟩),(.slice 0 [] .nil),(.int .i64 0)]]]).length=k14+2:=by simp;omega
   generalize hH2:H1++[AE.Obj.row 3 [.agg [(.str ⟨#[]⟩),(.slice 0 [] .nil),(.int .i64 0)]]]=H2 at*;generalize hk15:H1.length=k15 at*;have s14:=fun ws=>st_row1 (v:=.int .i64 (i:Int)) (ws:=ws) (ups:=[]) (n:=1) (A:=0) q142 rfl rfl (fun cs h=>by cases h) ⟨rfl,rfl⟩ (fun j hj=>by cases hj);simp only[List.set_cons_zero]at s14;have q143:=get_set (o':=AE.Obj.row 1 [.int .i64 (i:Int)]) q142;have q153:=get_set_ne (o':=AE.Obj.row 1 [.int .i64 (i:Int)]) q15 (show k14≠k15 by omega);have low3:Low (h.length+6) H0 (H2.set k14 (.row 1 [.int .i64 (i:Int)])):=low2.trans (.set (by omega));have hl3:(H2.set k14 (.row 1 [.int .i64 (i:Int)])).length=k14+2:=by simp[hl2]
   generalize hH3:H2.set k14 (.row 1 [.int .i64 (i:Int)])=H3 at*;have s15:=fun ws=>st_slot (Q:=encOp o) (ws:=ws) (ups:=[]) (n:=1) (N:=0) q153 rfl rfl ⟨rfl,_,rfl⟩ ⟨rfl,rfl,_,rfl⟩ (encOp_top o);simp only[List.set_cons_zero]at s15;have q144:=get_set_ne (o':=AE.Obj.row 3 [encOp o]) q143 (show k15≠k14 by omega);have q154:=get_set (o':=AE.Obj.row 3 [encOp o]) q153;have low4:Low (h.length+6) H0 (H3.set k15 (.row 3 [encOp o])):=low3.trans (.set (by omega));have hl4:(H3.set k15 (.row 3 [encOp o])).length=k14+2:=by simp[hl3]
   generalize hH4:H3.set k15 (.row 3 [encOp o])=H4 at*;have B4:=B0.low low4;have hw4:∀x∈wadd k15 (wadd k14 ws),h.length≤x:=wadd_low (by omega) (wadd_low (by omega) hw);have ld4:loadAt false 1 (.ptr (h.length+1) 0 0 1) H4=some (domV dom):=by rw[ld_at B4.k3];rfl
   have lA:loadAt false 1 (.ptr k15 0 1 1) H4=some (.slice 1 (o.args.map encI) .any):=by rw[ld_at q154];rfl
   have hls:∀l∈o.args.map (atL dom),l.length≤64:=fun l hl=>by
    obtain⟨k,hk,rfl⟩:=List.mem_map.1 hl;have hka:=a1 k hk;obtain⟨K,rfl⟩:=Int.eq_ofNat_of_zero_le hka.1;have hKd:K<dom.length:=by rw[D1.1];omega
    exact hdl _ (List.mem_of_getElem? (atL_get hKd))
   obtain⟨⟨z,q⟩,ev,hz,hq0,hq1⟩:=overV_ev hT (dom:=dom) (ks:=o.args) (m:=.any) (fun k hk=>by have:=a1 k hk;rw[D1.1];exact this) (by omega) (fun l hl=>by have:=hdl l hl;omega) H4;simp only at ev hz hq0 hq1;have eva:=assign_ev hT (z:=z) (m:=.any) (map_pwL encLs_pw (o.args.map (atL dom))) H4;have hit:=iter_dom (z:=z) (ls:=o.args.map (atL dom)) (hz.imp (fun h=>by simp[h]) id) (by simp;omega) (fun l hl=>by have:=hls l hl;omega);have hl8:(o.args.map (atL dom)).length≤8:=by simpa using a3
   generalize hLS:o.args.map (atL dom)=ls at*;simp(disch:=first|omega|decide|simp only[go_sem]) only[go_sem,a42b1,e2,e3,e4,e5,e6,e7,e53,e54,e55,h1,h1',go,so,hk14,hH1,hk15,hH2,s14,hH3,s15,hH4,ld4,lA,cb ev,cb eva,hT.prim,primOf,List.length_cons,List.length_nil];refine rangeI (gf:=182) (captured:=[.iptr (.slice z (ls.map encL) .any) 0]) (it:=itG) (by simp only[go_sem]) hI hit (fun j st=> ∃(H:Hp)(ws:List Nat),st=⟨H,ws,[]⟩∧Low (k14+2) H4 H∧(∀x∈ws,h.length≤x)∧∀(k:Nat)(us:List Tm),k<j→(prodL ls)[k]?=some us→GoodA dom nt i o us) ⟨H4,_,rfl,⟨rfl,Nat.le_refl _⟩,hw4,fun k us hk=>by omega⟩ ?_ ?_;rotate_left
   · rintro st ⟨H',ws',rfl,low',hw',hg'⟩;simp(disch:=first|omega|decide|simp only[go_sem]) only[go_sem,e2,e3,e4,e5,e6,e7,e53,e54,e55];refine⟨g' - 1,by omega,i+1,H',ws',by omega,low4.comp low' (by omega),hw',fun j o' us hj ho hu=>?_,rfl,rfl⟩;by_cases hji:j=i
     · subst hji;rw[hoi]at ho;cases ho;rw[hLS]at hu;obtain⟨k,hk⟩:=List.getElem?_of_mem hu;refine hg' k us ?_ hk;have:=(List.getElem?_eq_some_iff.1 hk).1;simpa using this
     ·exact hgood j o' us (by omega) ho hu
   · rintro j ys st K hys ⟨H',ws',rfl,low',hw',hg'⟩ hK
     have hus:∃us,(prodL ls)[j]?=some us∧ys=[outT ls.length us]:=by
      rw[List.getElem?_map]at hys;cases hp:(prodL ls)[j]? with
      |none=>rw[hp]at hys;cases hys
      |some us=>rw[hp]at hys;cases hys;exact⟨us,rfl,rfl⟩
     obtain⟨us,hpu,rfl⟩:=hus;have hmu:us∈prodL ls:=List.mem_of_getElem? hpu;obtain⟨hul,hum⟩:=mem_prodL hmu;refine⟨rfl,?_⟩;have hpt:∀(e:List PV)(v:PV),puts e [69] [v]=eput e 69 v:=fun e v=>rfl;have hkk:k15=k14+1:=by omega
     have low0':Low (h.length+6) H0 H':=low4.comp low' (by omega);have hHl':=low0'.len;have hl4':=low'.len;have B':=B0.low low0';have r14:=low'.get (by omega) q144;have r15:=low'.get (by omega) q154;have l14:loadAt false 1 (.ptr k14 0 0 1) H'=some (.int .i64 (i:Int)):=by rw[ld_at r14];rfl
     have hE:=outT_enc (i:=i) hul;have fb:fillC [PV.int .i64 0,.int .i64 0,.slice 0 [] .nil] [(0,1,.int .i64 2),(1,1,.int .i64 (i:Int)),(2,1,outT ls.length us)]=some [.int .i64 2,.int .i64 (i:Int),outT ls.length us]:=rfl;generalize hX:PV.agg [.int .i64 2,.int .i64 (i:Int),outT ls.length us]=X at*;obtain⟨b1,b2,b3,b4⟩:=hE.cells;have bs:=hE.sub;have sb:=st_box (h:=H') (ws:=ws') (ups:=[]) (z:=zq3) (sz:=3) (c:=X) b1 rfl b2 hE.facts.1 ⟨_,rfl⟩ b4;have p19:(H'++[AE.Obj.row 3 [X]])[H'.length]?=some (.row 3 [X]):=by simp
     have low5:Low (k14+2) H4 (H'++[AE.Obj.row 3 [X]]):=low'.push (by omega);have hw5:∀y∈wadd H'.length ws',h.length≤y:=wadd_low (by omega) hw';have hl5:(H'++[AE.Obj.row 3 [X]]).length=H'.length+1:=by simp
     generalize hH5:H'++[AE.Obj.row 3 [X]]=H5 at*;generalize hk19:H'.length=k19 at*;have lx:loadAt true 3 (.ptr k19 0 0 1) H5=some X:=by rw[ld_at p19];exact bs
     have evt:=treeX_ev hT hE.m H5;have low05:Low (h.length+6) H0 H5:=low4.comp low5 (by omega);have B5:=B0.low low05;have lowh5:Low h.length h H5:=low0.comp low05 (by omega);by_cases htr:treeB (tOf i us)=true;rotate_left
     · rw[if_neg htr]at evt;obtain⟨G4,G5,G6,G7,s4,s5,s6,s7,l4,l5,l6,l7,td⟩:=ret4 lowh5 B5 0 2 false (z:=0) (es:=[]) (m:=.nil) ⟨rfl,rfl⟩ rfl (by simp);have t1:=td (wadd (h.length+5) (wadd (h.length+4) (wadd (h.length+3) (wadd (h.length+2) (wadd k19 ws'))))) (wadd_low (by omega) (wadd_low (by omega) (wadd_low (by omega) (wadd_low (by omega) hw5))));simp(disch:=first|omega|decide|simp only[go_sem]) only[hpt,go_sem,e2,e3,e4,e5,e6,e7,l14,fb,hX,hk19,sb,hH5,lx,cb evt,b1,b2,hT.prim,primOf,s4,s5,s6,s7,resv,l4,l5,l6,l7,t1,List.length_cons,List.length_nil];exact⟨⟨0,0,[],false,2⟩,rfl,.inl (by simp),fun _=>trivial⟩
     rw[if_pos htr]at evt;have lt5:loadAt true 3 (.ptr h.length 0 0 1) H5=some (encTy t):=by rw[ld_at B5.k2];rfl
     have evn:=N.ev (tOf i us) X hE H5;have hnx:=N.nx (tOf i us);obtain⟨n1,n2,n3,n4,n5,n6,n7⟩:=hnx.facts;have sbn:=fun ws=>st_box (h:=H5) (ws:=ws) (ups:=[]) (z:=zq3) (sz:=3) (c:=(nt (tOf i us)).1) n1 rfl n2 n4 ⟨_,rfl⟩ n3;have p20:(H5++[AE.Obj.row 3 [(nt (tOf i us)).1]])[H5.length]?=some (.row 3 [(nt (tOf i us)).1]):=by simp
     have p14:(H5++[AE.Obj.row 3 [(nt (tOf i us)).1]])[k14]?=some (.row 1 [.int .i64 (i:Int)]):=keepL (low5.get (by omega) q144);have p15:(H5++[AE.Obj.row 3 [(nt (tOf i us)).1]])[k15]?=some (.row 3 [encOp o]):=keepL (low5.get (by omega) q154);have low6:Low (k14+2) H4 (H5++[AE.Obj.row 3 [(nt (tOf i us)).1]]):=low5.push (by omega);have hw6:∀y∈wadd H5.length (wadd k19 ws'),h.length≤y:=wadd_low (by omega) hw5;have hl6:(H5++[AE.Obj.row 3 [(nt (tOf i us)).1]]).length=H5.length+1:=by simp
     generalize hH6:H5++[AE.Obj.row 3 [(nt (tOf i us)).1]]=H6 at*;generalize hk20:H5.length=k20 at*;have low06:Low (h.length+6) H0 H6:=low4.comp low6 (by omega);have B6:=B0.low low06;have lowh6:Low h.length h H6:=low0.comp low06 (by omega);have ld6:loadAt false 1 (.ptr (h.length+1) 0 0 1) H6=some (domV dom):=by rw[ld_at B6.k3];rfl
     have l146:loadAt false 1 (.ptr k14 0 0 1) H6=some (.int .i64 (i:Int)):=by rw[ld_at p14];rfl
     have lR:loadAt false 1 (.ptr k15 0 2 1) H6=some (.int .i64 (R:Int)):=by rw[ld_at p15,←hR];rfl
     have lN:loadAt true 3 (.ptr k20 0 0 1) H6=some (nt (tOf i us)).1:=by rw[ld_at p20];exact n7
     by_cases he:(nt (tOf i us)).2=0;rotate_left
     · have heb:((nt (tOf i us)).2 !=0)=true:=by simpa using he
       obtain⟨G4,G5,G6,G7,s4,s5,s6,s7,l4,l5,l6,l7,td⟩:=ret4 lowh6 B6 0 2 false (z:=0) (es:=[]) (m:=.nil) ⟨rfl,rfl⟩ rfl (by simp);have t1:=td (wadd (h.length+5) (wadd (h.length+4) (wadd (h.length+3) (wadd (h.length+2) (wadd k20 (wadd k19 ws')))))) (wadd_low (by omega) (wadd_low (by omega) (wadd_low (by omega) (wadd_low (by omega) hw6))));simp(disch:=first|omega|decide|simp only[go_sem]) only[hpt,go_sem,e2,e3,e4,e5,e6,e7,l14,fb,hX,hk19,sb,hH5,lx,cb evt,b1,b2,hb0,lt5,cb evn,hk20,sbn,hH6,heb,hT.prim,primOf,s4,s5,s6,s7,resv,l4,l5,l6,l7,t1,List.length_cons,List.length_nil];exact⟨⟨0,0,[],false,2⟩,rfl,.inl (by simp),fun _=>trivial⟩
     have heb:((nt (tOf i us)).2 !=0)=false:=by simpa using he
     obtain⟨w,hwE,_⟩:RowE (nt (tOf i us)).1:=by
      rcases hnx with⟨_,h⟩|⟨h,_⟩
      ·exact h
      ·exact absurd he h
     have ix:idxaddr 1 (domV dom) (.int .i64 (R:Int))=some (.iptr (encL (atL dom (R:Int))) 0):=by rw[domV,idx_slice,if_pos rfl,List.getElem?_map,gR];rfl
     obtain⟨DS,DT⟩:=D1.sorted gR;obtain⟨⟨si,sfound⟩,evs,hsf⟩:=search_ev hT (m:=.any) (.inr rfl) (encL_map' (atL dom (R:Int))) (by have:=hdl _ (List.mem_of_getElem? gR);omega) (fun x hx=>by have:=treeB_nodes (DT x hx);omega) DS hwE H6;simp only at evs hsf;have evs:Ev T 126 [encL (atL dom (R:Int)),(nt (tOf i us)).1,.func (.func 62) [] []] H6 (.val (.tuple [.int .i64 si,.bool sfound]),⟨H6,[],[]⟩):=evs;cases sfound
     · have htu:∀u∈us,treeB u=true:=fun u hu=>by
        obtain⟨q,hq,rfl⟩:=List.getElem_of_mem hu;have hql:q<ls.length:=by omega
        have hlq:ls[q]?=some ls[q]:=List.getElem?_eq_getElem hql;have hin:=hum q _ _ (List.getElem?_eq_getElem hq) hlq;have hml:ls[q]∈o.args.map (atL dom):=by rw[hLS];exact List.getElem_mem hql
        obtain⟨k,hk,hkl⟩:=List.mem_map.1 hml;have hka:=a1 k hk;obtain⟨K',rfl⟩:=Int.eq_ofNat_of_zero_le hka.1;have hKd:K'<dom.length:=by rw[D1.1];omega
        rw[←hkl]at hin;exact(D1.sorted (atL_get hKd)).2 _ hin
       have hz0:us.map encT=[]∨(if ls.length=0 then 0 else 3)=3:=by
        by_cases hn:ls.length=0
        · left;have:us=[]:=List.length_eq_zero_iff.1 (by omega);rw[this];rfl
        ·right;rw[if_neg hn]
       obtain⟨⟨zf,qs⟩,evf,hqz,hqs⟩:=freshL_ev hT (m:=.any) hz0 (encL_map' us) htu (by omega) H6;simp only at evf hqz hqs;have evf:Ev T 119 [outT ls.length us] H6 (.val (.slice zf qs .any),⟨H6,[],[]⟩):=evf;obtain⟨q1,q2⟩:=encL_pw hqs;have q3:tops qs=none:=tops_none fun x hx=>by obtain⟨j,hj,rfl⟩:=List.getElem_of_mem hx;have:=hqs.1;exact(hqs.2 j _ _ (List.getElem?_eq_getElem (by omega)) (List.getElem?_eq_getElem hj)).facts.1
       obtain⟨G4,G5,G6,G7,s4,s5,s6,s7,l4,l5,l6,l7,td⟩:=ret4 lowh6 B6 (i:Int) 0 true (z:=zf) (es:=qs) (m:=.any) ⟨q1,q2⟩ q3 (by simp);have t1:=td (wadd (h.length+5) (wadd (h.length+4) (wadd (h.length+3) (wadd (h.length+2) (wadd k20 (wadd k19 ws')))))) (wadd_low (by omega) (wadd_low (by omega) (wadd_low (by omega) (wadd_low (by omega) hw6))));simp(disch:=first|omega|decide|simp only[go_sem]) only[hpt,go_sem,e2,e3,e4,e5,e6,e7,l14,fb,hX,hk19,sb,hH5,lx,cb evt,b1,b2,hb0,lt5,cb evn,hk20,sbn,hH6,heb,ld6,lR,ix,encL_sub,lN,cb evs,l146,cb evf,hT.prim,primOf,s4,s5,s6,s7,resv,l4,l5,l6,l7,t1,List.length_cons,List.length_nil];have wl:=fun{k:Nat}{b:List Nat}(hk:h.length≤k)(hb:∀x∈b,h.length≤x)=>wall_low (n:=h.length) (a:=wadd k []) (wadd_low hk (by simp)) hb;exact⟨⟨(i:Int),zf,qs,true,0⟩,td _ (wl (by omega) (wl (by omega) (wl (by omega) (wl (by omega) hw6)))),.inr ⟨rfl,D1,.inr ⟨rfl,i,o,us,rfl,hoi,by rw[hLS];exact hmu,hqz,hqs,he,w,hwE,fun hm=>by rw[hatR]at hm;have:=hsf.2 hm;simp at this⟩⟩,fun _=>trivial⟩
     · simp(disch:=first|omega|decide|simp only[go_sem]) only[hpt,go_sem,e2,e3,e4,e5,e6,e7,l14,fb,hX,hk19,sb,hH5,lx,cb evt,b1,b2,hb0,lt5,cb evn,hk20,sbn,hH6,heb,ld6,lR,ix,encL_sub,lN,cb evs,hT.prim,primOf,List.length_cons,List.length_nil];refine hK _ ⟨H6,_,rfl,low6,hw6,fun k us' hk hu=>?_⟩;by_cases hkj:k=j
       · subst hkj;rw[hpu]at hu;cases hu;exact⟨he,w,hwE,by rw[hatR];exact hsf.1 rfl⟩
       ·exact hg' k us' (by omega) hu
include hT in
theorem contains48_e{F:Tm→Bool}{g:FuncId}{cap:List PV}{h:Hp}(hg:T.prim g=none){l:List Tm}{sz:Nat}{es:List PV}{m:SM}(hs:es=[]∨sz=3)(hE:EncL l es)
 (hf:∀(x:Tm)(p:PV),x∈l→Enc x p→Ev T g (p::cap) h (.val (.bool (F x)),⟨h,[],[]⟩))(hal:es.length<1000000):
 ∃b:Bool,Ev T 48 [.slice sz es m,.func (.func g) [] cap] h (.val (.bool b),⟨h,[],[]⟩)∧(b=true↔∃x∈l,F x=true):=by
 have hl:=hE.1
 have W:∃r:Int,Ev T 135 [.slice sz es m,.func (.func g) [] cap] h (.val (.int .i64 r),⟨h,[],[]⟩)∧(0≤r↔∃x∈l,F x=true):=by
  refine Ev.walkP (r:=fun r:Int=>(.val (.int .i64 r),⟨h,[],[]⟩)) (hT.sp _ (by decide)) ((hT.fn _).trans fn135) (hT.mode _) rfl ?_;simp(disch:=first|omega|decide|simp only[go_sem]) only[go_sem];refine wpC.loopM (fun n e s=> ∃i:Nat,i+n=es.length∧eget e 0=.slice sz es m∧eget e 1=.func (.func g) [] cap∧eget e 7=.int .i64 (es.length:Int)∧eget e 8=.int .i64 (i:Int)∧(∀j (hj:j<l.length),j<i→F l[j]=false)∧s=⟨h,[],[]⟩) ?_ es.length _ _ ⟨0,by simp,by simp only[go_sem],by simp only[go_sem],by simp only[go_sem],by simp only[go_sem];rfl,fun j _ hj=>by omega,rfl⟩;rintro n e s ⟨i,hi,e0,e1,e7,e8,hp,rfl⟩;by_cases h1:i<es.length
  · have ga:=get_lt h1;have hx:l[i]?=some l[i]:=List.getElem?_eq_getElem (by omega);have hEx:=hE.2 i l[i] es[i] hx ga;have ev:=hf l[i] es[i] (List.getElem_mem _) hEx;have bs:=hEx.sub
    have hsz:sz=3:=by
     rcases hs with rfl|h
     ·simp at h1
     ·exact h
    subst hsz;cases hb:F l[i]
    · rw[hb]at ev;simp(disch:=first|omega|decide|simp only[go_sem]) only[go_sem,a135b0,e0,e1,e7,e8,h1,ga,bs,hg,cb ev];refine⟨n - 1,by omega,i+1,by omega,rfl,fun j hj hji=>?_,trivial⟩;by_cases hjj:j=i
      ·subst hjj;exact hb
      ·exact hp j hj (by omega)
    · rw[hb]at ev;simp(disch:=first|omega|decide|simp only[go_sem]) only[go_sem,a135b0,e0,e1,e7,e8,h1,ga,bs,hg,cb ev];exact⟨(i:Int),rfl,fun _=>⟨_,List.getElem_mem _,hb⟩,fun _=>by omega⟩
  · simp(disch:=first|omega|decide|simp only[go_sem]) only[go_sem,a135b0,e0,e1,e7,e8,h1];refine⟨-1,rfl,fun h=>by omega,fun⟨x,hx,hF⟩=>?_⟩;obtain⟨j,hj,rfl⟩:=List.getElem_of_mem hx;rw[hp j hj (by omega)]at hF;cases hF
 obtain⟨r,ev,hr⟩:=W;refine Ev.walkP (r:=fun b:Bool=>(.val (.bool b),⟨h,[],[]⟩)) (hT.sp _ (by decide)) ((hT.fn _).trans fn48) (hT.mode _) rfl ?_;simp(disch:=first|omega|decide|simp only[go_sem]) only[go_sem,cb ev,hT.prim,primOf];exact⟨_,rfl,by simpa using hr⟩
include hT in
theorem same49_ev{H:Hp}{kp:Nat}{x u:Tm}{P X:PV}(hP:Enc x P)(hX:Enc u X)(hx:u.nodes≤4000)(k1:H[kp]?=some (.row 3 [X])):Ev T 49 [P,.ptr kp 0 0 1] H (.val (.bool (tmB u x)),⟨H,[],[]⟩):=by
 refine Ev.walk (hT.sp _ (by decide)) ((hT.fn _).trans fn49) (hT.mode _) rfl ?_;obtain⟨c1,c2,c3,c4⟩:=hP.cells;have k2:(H++[AE.Obj.row 3 [P]])[H.length]?=some (.row 3 [P]):=by simp
 have k3:(H++[AE.Obj.row 3 [P]])[kp]?=some (.row 3 [X]):=keepL k1;have low1:Low H.length H (H++[AE.Obj.row 3 [P]]):=(Low.refl _ _).push (Nat.le_refl _);generalize hH1:H++[AE.Obj.row 3 [P]]=H1 at*;have lp:loadAt true 3 (.ptr H.length 0 0 1) H1=some P:=by rw[ld_at k2];exact hP.sub
 have lx:loadAt true 3 (.ptr kp 0 0 1) H1=some X:=by rw[ld_at k3];exact hX.sub
 have ev:=sameX_ev hT hX x P hP hx H1;have td:=fun b:Bool=>tidy_low (v:=.bool b) rfl rfl low1 (ws:=[]) (by simp);simp(disch:=first|omega|decide|simp only[go_sem]) only[go_sem,hH1,c1,c3,lp,lx,cb ev,hT.prim,primOf,List.length_cons,List.length_nil,td]
include hT in
theorem in47_ev{H:Hp}{kd:Nat}{dom:List (List Tm)}(hk:H[kd]?=some (.row 1 [domV dom]))(hd:∀l∈dom,l.length≤1000){k:Int}(hk0:0≤k)(hk1:k< (dom.length:Int)){u:Tm}{X:PV}(hX:Enc u X)(hu:u.nodes≤4000):
 ∃b:Bool,Ev T 47 [.int .i64 k,X,.ptr kd 0 0 1] H (.val (.bool b),⟨H,[],[]⟩)∧(b=true↔u∈atL dom k):=by
 refine Ev.walkP (r:=fun b:Bool=>(.val (.bool b),⟨H,[],[]⟩)) (hT.sp _ (by decide)) ((hT.fn _).trans fn47) (hT.mode _) rfl ?_;obtain⟨c1,c2,c3,c4⟩:=hX.cells;have k2:(H++[AE.Obj.row 3 [X]])[H.length]?=some (.row 3 [X]):=by simp
 have k3:(H++[AE.Obj.row 3 [X]])[kd]?=some (.row 1 [domV dom]):=keepL hk;have low1:Low H.length H (H++[AE.Obj.row 3 [X]]):=(Low.refl _ _).push (Nat.le_refl _);generalize hH1:H++[AE.Obj.row 3 [X]]=H1 at*;have ld:loadAt false 1 (.ptr kd 0 0 1) H1=some (domV dom):=by rw[ld_at k3];rfl
 have lend:lenOf (domV dom)=some dom.length:=by simp[domV,lenOf]
 obtain⟨K,rfl⟩:=Int.eq_ofNat_of_zero_le hk0;have hK:K<dom.length:=by omega
 have gK:=atL_get hK;have ix:idxaddr 1 (domV dom) (.int .i64 (K:Int))=some (.iptr (encL (atL dom (K:Int))) 0):=by rw[domV,idx_slice,if_pos rfl,List.getElem?_map,gK];rfl
 have hl1:=hd _ (List.mem_of_getElem? gK);generalize hl:atL dom (K:Int)=l at*;obtain⟨b,ev,hb⟩:=contains48_e hT (F:=fun x=>tmB u x) (g:=49) (cap:=[.ptr H.length 0 0 1]) (h:=H1) (m:=.any) (by rw[hT.prim];rfl) (.inr rfl) (encL_map' l) (fun x p hx hp=>same49_ev hT hp hX hu k2) (by simp;omega);have ev:Ev T 48 [encL l,.func (.func 49) [] [.ptr H.length 0 0 1]] H1 _:=ev;have td:=fun b:Bool=>tidy_low (v:=.bool b) rfl rfl low1 (ws:=[]) (by simp);simp(disch:=first|omega|decide|simp only[go_sem]) only[go_sem,hH1,c1,c3,ld,lend,hk0,hk1,hK,ix,encL_sub,cb ev,hT.prim,primOf,List.length_cons,List.length_nil,td];refine⟨b,rfl,hb.trans ⟨fun⟨x,hx,he⟩=>?_,fun hm=>⟨u,hm,(tmB_iff u u).2 rfl⟩⟩⟩;have:=(tmB_iff u x).1 he;rw[this];exact hx
structure Val7 (H:Hp)(k3 k4 k11 k16:Nat)(t:GTy)(dom:List (List Tm)):Prop where
 q3:H[k3]?=some (.row 3 [encTy t])
 q4:H[k4]?=some (.row 1 [domV dom])
 q11:H[k11]?=some (.row 1 [.func (.func 47) [] [.ptr k4 0 0 1]])
 q16:H[k16]?=some (.row 1 [.func (.func 52) [] [.ptr k16 0 0 1,.ptr k3 0 0 1,.ptr k11 0 0 1]])
theorem Val7.low{h H:Hp}{k3 k4 k11 k16:Nat}{t:GTy}{dom:List (List Tm)}(V:Val7 h k3 k4 k11 k16 t dom)(L:Low h.length h H):Val7 H k3 k4 k11 k16 t dom:=by obtain⟨a,b,c,d⟩:=V;exact⟨L.get (List.getElem?_eq_some_iff.1 a).1 a,L.get (List.getElem?_eq_some_iff.1 b).1 b,L.get (List.getElem?_eq_some_iff.1 c).1 c,L.get (List.getElem?_eq_some_iff.1 d).1 d⟩
theorem enc_op{n:Nat}{us:List Tm}{z:Nat}{qs:List PV}(hz:qs=[]∨z=3)(hE:EncL us qs):Enc (tOf n us) (.agg [.int .i64 2,.int .i64 (n:Int),.slice z qs .any]):=.mk _ _ _ _ _ hz hE.1 hE.2
set_option maxRecDepth 8000 in
include hT in
theorem val52_ev{t:GTy}{nt:Tm→PV×Int}(N:NTm T t nt){dom:List (List Tm)}(hdn:dom.length=t.sig.sorts.length)(hops:okOps8 t.sig.ops t.sig.sorts.length)(hd:∀l∈dom,l.length≤1000)
 (hgood:∀(i:Nat)(o:GOp)(us:List Tm),t.sig.ops[i]?=some o→us∈prodL (o.args.map (atL dom))→GoodA dom nt i o us){x:Tm}{X:PV}(hX:Enc x X):
 ∀a:Int,WT t.sig x a→∀(h:Hp)(k3 k4 k11 k16:Nat),Val7 h k3 k4 k11 k16 t dom→∃V:PV,Ev T 52 [X,.ptr k16 0 0 1,.ptr k3 0 0 1,.ptr k11 0 0 1] h (.val (.tuple [V,.bool true]),⟨h,[],[]⟩)∧∃w,Enc w V∧w∈atL dom a:=by
 induction hX with
 |mk k n l sz es hs hl he ih=>
   intro a hWT h k3 k4 k11 k16 hV;obtain⟨rfl,hn0,o,ho,hres,hws⟩:=hWT;obtain⟨n,rfl⟩:=Int.eq_ofNat_of_zero_le hn0;simp only[Int.toNat_natCast]at ho;have hlo:=WTs_len hws;obtain⟨a1,a2,a3⟩:=hops o (List.mem_of_getElem? ho);refine Ev.walkP (r:=fun V:PV=>(.val (.tuple [V,.bool true]),⟨h,[],[]⟩)) (mode:=0) (hT.sp _ (by decide)) ((hT.fn _).trans fn52) (show T.mode 52=0 from hT.mode 52) rfl ?_;have hE:Enc (.mk 2 (n:Int) l) (.agg [.int .i64 2,.int .i64 (n:Int),.slice sz es .any]):=.mk _ _ _ _ _ hs hl he;have k1:(h++[AE.Obj.row 3 [.agg [.int .i64 2,.int .i64 (n:Int),.slice sz es .any]]])[h.length]?=some (.row 3 [.agg [.int .i64 2,.int .i64 (n:Int),.slice sz es .any]]):=by simp
   have lowA:Low h.length h (h++[AE.Obj.row 3 [.agg [.int .i64 2,.int .i64 (n:Int),.slice sz es .any]]]):=(Low.refl _ _).push (Nat.le_refl _);have hlA:(h++[AE.Obj.row 3 [.agg [.int .i64 2,.int .i64 (n:Int),.slice sz es .any]]]).length=h.length+1:=by simp
   generalize hHA:h++[AE.Obj.row 3 [.agg [.int .i64 2,.int .i64 (n:Int),.slice sz es .any]]]=HA at*;have k2:(HA++[AE.Obj.row 3 [zN]])[h.length]?=some (.row 3 [.agg [.int .i64 2,.int .i64 (n:Int),.slice sz es .any]]):=keepL k1;have z2:(HA++[AE.Obj.row 3 [zN]])[h.length+1]?=some (.row 3 [zN]):=by rw[←hlA];simp
   have lowB:Low h.length h (HA++[AE.Obj.row 3 [zN]]):=lowA.push (by omega);have hlB:(HA++[AE.Obj.row 3 [zN]]).length=h.length+2:=by simp;omega
   have e2:HA++[AE.Obj.row 3 [zq3]]=HA++[AE.Obj.row 3 [zN]]:=rfl;generalize hHB:HA++[AE.Obj.row 3 [zN]]=HB at*;have lB:loadAt false 1 (.ptr h.length 0 2 1) HB=some (.slice sz es .any):=by rw[ld_at k2];rfl
   obtain⟨c1,c2,c3,c4⟩:=hE.cells;simp(disch:=first|omega|decide|simp only[go_sem]) only[go_sem,hHA,hlA,e2,c1,c3,lB,List.length_cons,List.length_nil]
   refine wpC.loopM (fun g e st=> ∃(i:Nat)(H:Hp)(ws:List Nat)(v:PV)(us:List Tm)(qs:List PV),i+g=es.length∧Low (h.length+2) HB H∧(∀x∈ws,h.length+2≤x)∧AppL H v qs (h.length+2)∧us.length=i∧EncL us qs∧(∀(j:Nat)(u:Tm),us[j]?=some u→u∈atL dom (o.args.getD j 0))∧(eget e 1=.ptr k16 0 0 1∧eget e 2=.ptr k3 0 0 1∧eget e 3=.ptr k11 0 0 1∧eget e 4=.ptr h.length 0 0 1∧eget e 5=.ptr (h.length+1) 0 0 1∧eget e 7=v∧eget e 15=.slice sz es .any∧eget e 16=.int .i64 (es.length:Int)∧eget e 17=.int .i64 (i:Int))∧st=⟨H,ws,[]⟩) ?_ es.length _ _
    ⟨0,HB,[],_,[],[],by omega,Low.refl _ _,by simp,.inl ⟨rfl,rfl⟩,rfl,⟨by simp,by simp⟩,by simp,by simp only[go_sem,Int.natCast_zero],rfl⟩
   rintro g e st ⟨i,H,ws,v,us,qs,hi,low,hw,hA,hul,hQ,hin,⟨e1,e2',e3,e4,e5,e7,e15,e16,e17⟩,rfl⟩;have hHl:=low.len;have lowh:Low h.length h H:=lowB.comp low (by omega);have V0:=hV.low lowh;have hql:=hQ.1;by_cases h1:i<es.length
   · have h1':(i:Int)< (es.length:Int):=by omega
     have ga:=get_lt h1;have hx:l[i]?=some l[i]:=List.getElem?_eq_getElem (by omega);have hEx:=he i _ _ hx ga;have ih':=ih i _ _ hx ga (o.args.getD i 0) (WTs_get hws hx)
     have hsz:sz=3:=by
      rcases hs with rfl|h
      ·simp at h1
      ·exact h
     subst hsz;generalize l[i]=y at*;generalize es[i]=Y at*;obtain⟨b1,b2,b3,b4⟩:=hEx.cells;have bs:=hEx.sub;have sb:=st_box (h:=H) (ws:=ws) (ups:=[]) (z:=zq3) (sz:=3) (c:=Y) b1 rfl b2 hEx.facts.1 ⟨_,rfl⟩ b4;have k5:(H++[AE.Obj.row 3 [Y]])[H.length]?=some (.row 3 [Y]):=by simp
     have A5:=hA.push (o:=AE.Obj.row 3 [Y]);have low5:Low (h.length+2) HB (H++[AE.Obj.row 3 [Y]]):=low.push (by omega);have hw5:∀y∈wadd H.length ws,h.length+2≤y:=wadd_low (by omega) hw;have hl5:(H++[AE.Obj.row 3 [Y]]).length=H.length+1:=by simp
     generalize hH5:H++[AE.Obj.row 3 [Y]]=H5 at*;generalize hk5:H.length=kx at*;have V5:=hV.low (lowB.comp low5 (by omega));have lf:loadAt false 1 (.ptr k16 0 0 1) H5=some (.func (.func 52) [] [.ptr k16 0 0 1,.ptr k3 0 0 1,.ptr k11 0 0 1]):=by rw[ld_at V5.q16];rfl
     have lx:loadAt true 3 (.ptr kx 0 0 1) H5=some Y:=by rw[ld_at k5];exact bs
     obtain⟨V,ev,w,hwE,hwm⟩:=ih' H5 k3 k4 k11 k16 V5;obtain⟨x1,x2,x3,x4⟩:=hwE.cells;have sb2:=fun ws=>st_box (h:=H5) (ws:=ws) (ups:=[]) (z:=zq3) (sz:=3) (c:=V) x1 rfl x2 hwE.facts.1 ⟨_,rfl⟩ x4;have k6:(H5++[AE.Obj.row 3 [V]])[H5.length]?=some (.row 3 [V]):=by simp
     have A6:=A5.push (o:=AE.Obj.row 3 [V]);have low6:Low (h.length+2) HB (H5++[AE.Obj.row 3 [V]]):=low5.push (by omega);have hw6:∀y∈wadd H5.length (wadd kx ws),h.length+2≤y:=wadd_low (by omega) hw5;have hl6:(H5++[AE.Obj.row 3 [V]]).length=kx+2:=by simp;omega
     generalize hH6:H5++[AE.Obj.row 3 [V]]=H6 at*;generalize hk6:H5.length=kq at*;have lq:loadAt true 3 (.ptr kq 0 0 1) H6=some V:=by rw[ld_at k6];exact hwE.sub
     have f1:=fe_1 (p:=V) ⟨x1,x3⟩;obtain⟨H7,fw,kt,ap,A7,_,low7,hfw⟩:=append_E A6 x2 (by omega) (show h.length+2≤H6.length by omega);simp(disch:=first|omega|decide|simp only[go_sem]) only[go_sem,a52b0,e1,e2',e3,e4,e5,e7,e15,e16,e17,h1,h1',ga,bs,hk5,sb,hH5,lf,lx,cb ev,hk6,sb2,hH6,lq,f1,ap,hT.prim,primOf,List.length_cons,List.length_nil];refine⟨g - 1,by omega,i+1,H7,_,_,us++[w],_,by omega,low6.trans low7,hfw _ hw6,A7,by simp[hul],?_,fun j u hu=>?_,⟨rfl,rfl⟩,rfl⟩
     · have h2:=hQ.2;refine⟨by simp[hql],fun j u q hu hq=>?_⟩;by_cases hj:j<us.length
       · rw[List.getElem?_append_left hj]at hu;rw[List.getElem?_append_left (by omega)]at hq;exact h2 j u q hu hq
       · rw[List.getElem?_append_right (by omega)]at hu;rw[List.getElem?_append_right (by omega)]at hq;rw[hql]at hq;cases hjj:j - us.length with
         |zero=>
           rw[hjj]at hu hq;cases hu;cases hq;exact hwE
         |succ k=>rw[hjj]at hu;cases hu
     · by_cases hj:j<us.length
       · rw[List.getElem?_append_left hj]at hu;exact hin j u hu
       · rw[List.getElem?_append_right (by omega)]at hu;cases hjj:j - us.length with
         |zero=>
           rw[hjj]at hu;cases hu;have:j=i:=by omega
           rw[this];exact hwm
         |succ k=>rw[hjj]at hu;cases hu
   · have h1':¬(i:Int)< (es.length:Int):=by omega
     obtain⟨z,m,rfl,hz⟩:=hA.form;have hpw:=encL_pw hQ;have hET:=enc_op (n:=n) hz hQ
     have hmem:us∈prodL (o.args.map (atL dom)):=prodL_mem (by simp;omega) fun j u lj hu hj=>by
      rw[List.getElem?_map]at hj;cases hg:o.args[j]? with
      |none=>rw[hg]at hj;cases hj
      |some k=>
        rw[hg]at hj;cases hj;have:=hin j u hu;rw[List.getD_eq_getElem?_getD,hg]at this;exact this
     obtain⟨hz0,w,hwE,hwm⟩:=hgood n o us ho hmem;have hnx:=N.nx (tOf n us)
     have hwn:w.nodes≤4000:=by
      rcases hnx with⟨_,w',hw',ht⟩|⟨h,_⟩
      · have:=treeB_nodes ht;rw[hwE.inj hw'];omega
      ·exact absurd hz0 h
     have evn:=fun H=>N.ev (tOf n us) _ hET H;rw[hz0]at evn;generalize(nt (tOf n us)).1=V at*;obtain⟨x1,x2,x3,x4⟩:=hwE.cells;have kX:=low.get (by omega) k2;have z5:=low.get (by omega) z2;have z12:(H++[AE.Obj.row 3 [zN]])[H.length]?=some (.row 3 [zN]):=by simp
     have kXb:(H++[AE.Obj.row 3 [zN]])[h.length]?=_:=keepL kX;have z5b:(H++[AE.Obj.row 3 [zN]])[h.length+1]?=_:=keepL z5;have lowb:Low h.length h (H++[AE.Obj.row 3 [zN]]):=lowh.push (by omega);have eb:H++[AE.Obj.row 3 [zq3]]=H++[AE.Obj.row 3 [zN]]:=rfl;generalize hHb:H++[AE.Obj.row 3 [zN]]=Hb at*;generalize hk12:H.length=k12 at*;have Vb:=hV.low lowb;have ltb:loadAt true 3 (.ptr k3 0 0 1) Hb=some (encTy t):=by rw[ld_at Vb.q3];rfl
     have lnb:loadAt false 1 (.ptr h.length 0 1 1) Hb=some (.int .i64 (n:Int)):=by rw[ld_at kXb];rfl
     have ev51:=op51_ev hT (n:=(n:Int)) (z:=z) (m:=m) hpw Hb;have evn:=evn Hb;have sv:=fun ws ups=>st_slot (ws:=ws) (ups:=ups) (n:=1) (N:=0) z12 rfl rfl ⟨rfl,_,rfl⟩ ⟨x1,x2,x4⟩ hwE.facts.1;simp only[List.set_cons_zero]at sv;have k12c:=get_set (o':=AE.Obj.row 3 [V]) z12;have kXc:=get_set_ne (o':=AE.Obj.row 3 [V]) kXb (show k12≠h.length by omega);have z5c:=get_set_ne (o':=AE.Obj.row 3 [V]) z5b (show k12≠h.length+1 by omega);have lowc:Low h.length h (Hb.set k12 (.row 3 [V])):=lowb.trans (.set (by omega));generalize hHc:Hb.set k12 (.row 3 [V])=Hc at*;have Vc:=hV.low lowc;have lVc:loadAt true 3 (.ptr k12 0 0 1) Hc=some V:=by rw[ld_at k12c];exact hwE.sub
     have lfc:loadAt false 1 (.ptr k11 0 0 1) Hc=some (.func (.func 47) [] [.ptr k4 0 0 1]):=by rw[ld_at Vc.q11];rfl
     have lgc:loadAt false 1 (.ptr k3 0 1 1) Hc=some (.slice 3 (t.sig.ops.map encOp) .any):=by rw[ld_at Vc.q3];rfl
     have lnc:loadAt false 1 (.ptr h.length 0 1 1) Hc=some (.int .i64 (n:Int)):=by rw[ld_at kXc];rfl
     have go:(t.sig.ops.map encOp)[n]?=some (encOp o):=by rw[List.getElem?_map,ho];rfl
     have hno:=(List.getElem?_eq_some_iff.1 ho).1;have so:AE.sub false 1 (encOp o) 2=some (.int .i64 o.res):=rfl;obtain⟨b,ev47,hb⟩:=in47_ev hT Vc.q4 hd a2.1 (by rw[hdn];exact a2.2) hwE hwn;have hbt:b=true:=hb.2 hwm;subst hbt;have sv5:=fun ws ups=>st_slot (ws:=ws) (ups:=ups) (n:=1) (N:=0) z5c rfl rfl ⟨rfl,_,rfl⟩ ⟨x1,x2,x4⟩ hwE.facts.1;simp only[List.set_cons_zero]at sv5;have k5d:=get_set (o':=AE.Obj.row 3 [V]) z5c;have lowd:Low h.length h (Hc.set (h.length+1) (.row 3 [V])):=lowc.trans (.set (by omega));generalize hHd:Hc.set (h.length+1) (.row 3 [V])=Hd at*;have lVd:loadAt true 3 (.ptr (h.length+1) 0 0 1) Hd=some V:=by rw[ld_at k5d];exact hwE.sub
     have td:=fun ws hw=>tidy_low (v:=.tuple [V,.bool true]) (ws:=ws) (by simp[PV.pure,pures,hwE.facts.2.1]) (by simp[PV.weak,weaks,hwE.facts.2.2]) lowd hw;simp(disch:=first|omega|decide|simp only[go_sem]) only[go_sem,a52b0,e1,e2',e3,e4,e5,e7,e15,e16,e17,h1',eb,hk12,ltb,lnb,cb ev51,cb evn,sv,hHc,lVc,lfc,lgc,lnc,List.length_map,hno,go,so,cb ev47,sv5,hHd,resv,lVd,hT.prim,primOf,List.length_cons,List.length_nil];exact⟨V,td _ (wall_low (wadd_low (by omega) (by simp)) (wall_low (wadd_low (by omega) (by simp)) fun x hx=>by have:=hw x hx;omega)),w,hwE,by rw[←hres];exact hwm⟩
def a7m:ACode:=(.seq (.seq (.reg [
 mv 57 7,
 ro 58 (.bin .lss (.t 57) (ci 0)),
 mv 59 58,
 rg 60 (.move (.t 7)) 59 false,
 rg 61 (.fieldAddr 0 (.t 3)) 59 false,
 rg 62 (.fieldAddr 1 (.t 61)) 59 false,
 rh 63 (.load false 1 (.t 62)) 59 false,
 rg 64 (.lenL (.t 63)) 59 false,
 rg 65 (.bin .geq (.t 60) (.t 64)) 59 false,
 ro 66 (.pick (.t 59) (.c (.bool true)) (.t 65)),
 mv 67 66,
 rg 68 (.move (.t 8)) 67 false,
 rg 69 (.lenL (.t 68)) 67 false,
 rg 70 (.fieldAddr 0 (.t 3)) 67 false,
 rg 71 (.fieldAddr 1 (.t 70)) 67 false,
 rh 72 (.load false 1 (.t 71)) 67 false,
 rg 73 (.move (.t 7)) 67 false,
 rg 74 (.idxAddr 3 (.t 72) (.t 73)) 67 false,
 rg 75 (.fieldAddr 1 (.t 74)) 67 false,
 rh 76 (.load false 1 (.t 75)) 67 false,
 rg 77 (.lenL (.t 76)) 67 false,
 rg 78 (.bin .neq (.t 69) (.t 77)) 67 false,
 ro 79 (.pick (.t 67) (.c (.bool true)) (.t 78))])
 (.cond (.t 79)
 (.seq (.reg [
 ro 6 (.move (.c (.bool false)))])
 .ret)
 .skip))
 (.seq (.seq (.reg [
 mv 80 8,
 ro 81 (.lenL (.t 80)),
 ro 82 (.move (ci 0))])
 (.block 0 (.loop a7b0)))
 (.seq (.regD [
 rd 14 (.box 3 (.c zq3)) true 8 0 false,
 rp 103 (.load true 3 (.t 3)),
 rd 104 (.move (.t 7)) false 1 0 false,
 rd 105 (.move (.t 8)) false 2 0 true,
 rd 106 (.call (.f 51) [(.t 104),(.t 105)]) true 3 6 true,
 rd 107 (.call (.f 50) [(.t 103),(.t 106)]) true 4 15 true,
 rd 102 (.move (.t 107)) false 5 31 true,
 rd 108 (.extract (.t 102) 0) false 6 63 false,
 rd 109 (.extract (.t 102) 1) false 7 63 false,
 wr (.store 3 (.t 14) (.t 108)) 9 383 true,
 rd 15 (.move (.t 109)) false 10 1023 true])
 (.seq (.regD [
 rd 110 (.move (.t 15)) false 0 0 true,
 rd 111 (.bin .eql (.t 110) (ci 0)) false 1 1 true,
 rd 112 (.move (.t 111)) false 2 3 true,
  ⟨(some 113),.load false 1 (.t 11),(some (112,true)),true,3,7,false⟩,
  ⟨(some 114),.fieldAddr 0 (.t 3),(some (112,true)),false,4,7,false⟩,
  ⟨(some 115),.fieldAddr 1 (.t 114),(some (112,true)),false,5,23,false⟩,
  ⟨(some 116),.load false 1 (.t 115),(some (112,true)),true,6,55,false⟩,
  ⟨(some 117),.move (.t 7),(some (112,true)),false,7,7,false⟩,
  ⟨(some 118),.idxAddr 3 (.t 116) (.t 117),(some (112,true)),false,8,247,false⟩,
  ⟨(some 119),.fieldAddr 2 (.t 118),(some (112,true)),false,9,503,false⟩,
  ⟨(some 120),.load false 1 (.t 119),(some (112,true)),true,10,1015,false⟩,
  ⟨(some 121),.load true 3 (.t 14),(some (112,true)),true,11,7,true⟩,
  ⟨(some 122),.call (.t 113) [(.t 120),(.t 121)],(some (112,true)),true,12,4095,true⟩,
  ⟨(some 123),.un .not (.t 122),(some (112,true)),false,13,8191,true⟩,
 rd 124 (.pick (.t 112) (.t 123) (.c (.bool false))) false 14 16383 true,
 rd 6 (.move (.t 124)) false 15 32767 true])
 .ret))))
def a7r:ACode:=(.seq (.reg [
 rp 16 (.box 1 (.c .nilFunc))])
 (.seq (.reg [
 ro 125 (.mkFunc (.func 52) [] [(.t 16),(.t 3),(.t 11)]),
 wr (.store 1 (.t 16) (.t 125)) 0 0 false])
 (.seq (.seq (.reg [
 ro 127 (.fieldAddr 0 (.t 3)),
 rp 128 (.load true 2 (.t 127)),
 rp 129 (.load true 3 (.t 5)),
 rp 130 (.call (.f 45) [(.t 128),(.c (.slice 0 [] .nil)),(.t 129)]),
 mv 126 130,
 ro 131 (.extract (.t 126) 0),
 ro 132 (.extract (.t 126) 1),
 mv 17 131,
 mv 18 132])
 (.seq (.reg [
 mv 133 18,
 ro 134 (.bin .neq (.t 133) (ci 0))])
 (.cond (.t 134)
 (.seq (.reg [
 ro 6 (.move (.c (.bool true)))])
 .ret)
 .skip)))
 (.seq (.reg [
 rp 136 (.load false 1 (.t 16)),
 rp 137 (.load true 3 (.t 5)),
 rp 138 (.call (.t 136) [(.t 137)]),
 mv 135 138,
 ro 139 (.extract (.t 135) 0),
 ro 140 (.extract (.t 135) 1),
 rp 19 (.box 3 (.c zq3)),
 wr (.store 3 (.t 19) (.t 139)) 0 0 false,
 mv 20 140])
 (.seq (.reg [
 mv 141 20,
 mv 6 141])
 .ret)))))
def a7':AFunc:=⟨3,142,(.seq (.reg [
 rp 3 (.box 3 (.t 0)),
 rp 4 (.box 1 (.t 1)),
 rp 5 (.box 3 (.t 2)),
 ro 6 (.move (.c (.bool false)))])
 (.seq (.seq (.reg [
 rp 21 (.call (.f 15) []),
 ro 22 (.un .not (.t 21))])
 (.cond (.t 22)
 (.seq (.reg [
 ro 6 (.move (.c (.bool false)))])
 .ret)
 .skip))
 (.seq (.seq (.regD [
 rd 23 (.load true 3 (.t 3)) true 0 0 true,
 rd 24 (.call (.f 23) [(.t 23)]) true 1 1 true,
 rd 25 (.un .not (.t 24)) false 2 3 true,
 rd 26 (.move (.t 25)) false 3 7 true,
  ⟨(some 27),.load false 1 (.t 4),(some (26,false)),true,4,15,true⟩,
  ⟨(some 28),.call (.f 24) [(.t 27)],(some (26,false)),true,5,31,true⟩,
  ⟨(some 29),.un .not (.t 28),(some (26,false)),false,6,63,true⟩,
 rd 30 (.pick (.t 26) (.c (.bool true)) (.t 29)) false 7 127 true,
 rd 31 (.move (.t 30)) false 8 255 true,
  ⟨(some 32),.load true 3 (.t 5),(some (31,false)),true,9,511,true⟩,
  ⟨(some 33),.buildSlice 3 zq3 1 [(0,(.t 32))],(some (31,false)),false,10,1023,true⟩,
  ⟨(some 34),.call (.f 17) [(ci 60),(.t 33)],(some (31,false)),true,11,2047,true⟩,
  ⟨(some 35),.un .not (.t 34),(some (31,false)),false,12,4095,true⟩,
 rd 36 (.pick (.t 31) (.c (.bool true)) (.t 35)) false 13 8191 true,
 rd 37 (.move (.t 36)) false 14 16383 true,
  ⟨(some 38),.load false 1 (.t 4),(some (37,false)),true,15,32767,false⟩,
  ⟨(some 39),.fieldAddr 0 (.t 3),(some (37,false)),false,16,32767,true⟩,
  ⟨(some 40),.load true 2 (.t 39),(some (37,false)),true,17,98303,true⟩,
  ⟨(some 41),.call (.f 41) [(.t 40)],(some (37,false)),true,18,229375,true⟩,
  ⟨(some 42),.call (.f 38) [(.t 38),(.t 41)],(some (37,false)),true,19,524287,true⟩,
  ⟨(some 43),.un .not (.t 42),(some (37,false)),false,20,1048575,true⟩,
 rd 44 (.pick (.t 37) (.c (.bool true)) (.t 43)) false 21 2097151 true])
 (.cond (.t 44)
 (.seq (.reg [
 ro 6 (.move (.c (.bool true)))])
 .ret)
 .skip))
 (.seq (.reg [
 rp 46 (.load true 3 (.t 3)),
 rp 47 (.load false 1 (.t 4)),
 rp 48 (.call (.f 42) [(.t 46),(.t 47)]),
 mv 45 48,
 ro 49 (.extract (.t 45) 0),
 ro 50 (.extract (.t 45) 1),
 ro 51 (.extract (.t 45) 2),
 ro 52 (.extract (.t 45) 3),
 mv 7 49,
 mv 8 50,
 mv 9 51,
 mv 10 52])
 (.seq (.seq (.reg [
 mv 53 10,
 ro 54 (.bin .neq (.t 53) (ci 0))])
 (.cond (.t 54)
 (.seq (.reg [
 ro 6 (.move (.c (.bool true)))])
 .ret)
 .skip))
 (.seq (.reg [
 ro 55 (.mkFunc (.func 47) [] [(.t 4)]),
 rp 11 (.box 1 (.c .nilFunc)),
 wr (.store 1 (.t 11) (.t 55)) 0 0 false])
 (.seq (.seq (.reg [
 mv 56 9])
 (.cond (.t 56)
 a7m
 .skip))
 a7r))))))),[.t 6]⟩
theorem fn7':fnOf 7=some a7':=by kernel_rfl
theorem sortX_WT{s:GSig}{t:Tm}(h:(sortX s t).2=0):∃a,WT s t a:=by
 unfold sortX at h;split at h
 ·exact⟨_,sortR_WT h⟩
 ·exact absurd h (by decide)
set_option maxRecDepth 8000 in
include hT in
theorem rest7_ok{t:GTy}(I:TyIn T t 0){nt:Tm→PV×Int}(N:NTm T t nt){dom:List (List Tm)}(hdn:dom.length=t.sig.sorts.length)(hops:okOps8 t.sig.ops t.sig.sorts.length)(hd:∀l∈dom,l.length≤1000)
 (hgood:∀(i:Nat)(o:GOp)(us:List Tm),t.sig.ops[i]?=some o→us∈prodL (o.args.map (atL dom))→GoodA dom nt i o us){x:Tm}{X:PV}(hX:Enc x X)
 {h H:Hp}{ws:List Nat}{k3 k4 k5 k11:Nat}(low:Low h.length h H)(hw:∀x∈ws,h.length≤x)(q3:H[k3]?=some (.row 3 [encTy t]))(q4:H[k4]?=some (.row 1 [domV dom]))(q5:H[k5]?=some (.row 3 [X]))(q11:H[k11]?=some (.row 1 [.func (.func 47) [] [.ptr k4 0 0 1]]))
 {e:List PV}(e3:eget e 3=.ptr k3 0 0 1)(e5:eget e 5=.ptr k5 0 0 1)(e11:eget e 11=.ptr k11 0 0 1):
 wpC T a7r e ⟨H,ws,[]⟩ (fin [.t 6] 0 h.length fun p=>p=(.val (.bool true),⟨h,[],[]⟩)):=by
 have hHl:=low.len;have l3:=(List.getElem?_eq_some_iff.1 q3).1;have l11:=(List.getElem?_eq_some_iff.1 q11).1;have f0:(H++[AE.Obj.row 1 [.nilFunc]])[H.length]?=some (.row 1 [.nilFunc]):=by simp
 have r3:(H++[AE.Obj.row 1 [.nilFunc]])[k3]?=_:=keepL q3;have r4:(H++[AE.Obj.row 1 [.nilFunc]])[k4]?=_:=keepL q4;have r5:(H++[AE.Obj.row 1 [.nilFunc]])[k5]?=_:=keepL q5;have r11:(H++[AE.Obj.row 1 [.nilFunc]])[k11]?=_:=keepL q11;have l4:=(List.getElem?_eq_some_iff.1 q4).1;have l5:=(List.getElem?_eq_some_iff.1 q5).1;have low1:Low h.length h (H++[AE.Obj.row 1 [.nilFunc]]):=low.push hHl;generalize hH1:H++[AE.Obj.row 1 [.nilFunc]]=H1 at*;generalize hk16:H.length=k16 at*;have sv:=fun ws=>st_row1 (v:=.func (.func 52) [] [.ptr k16 0 0 1,.ptr k3 0 0 1,.ptr k11 0 0 1]) (ws:=ws) (ups:=[]) (n:=1) (A:=0) f0 rfl rfl (fun cs h=>by cases h) ⟨rfl,rfl⟩ (fun j hj=>by simp[PV.top,tops,omax]at hj;omega);simp only[List.set_cons_zero]at sv;have f2:=get_set (o':=AE.Obj.row 1 [.func (.func 52) [] [.ptr k16 0 0 1,.ptr k3 0 0 1,.ptr k11 0 0 1]]) f0;have s3:=get_set_ne (o':=AE.Obj.row 1 [.func (.func 52) [] [.ptr k16 0 0 1,.ptr k3 0 0 1,.ptr k11 0 0 1]]) r3 (show k16≠k3 by omega);have s4:=get_set_ne (o':=AE.Obj.row 1 [.func (.func 52) [] [.ptr k16 0 0 1,.ptr k3 0 0 1,.ptr k11 0 0 1]]) r4 (show k16≠k4 by omega);have s5:=get_set_ne (o':=AE.Obj.row 1 [.func (.func 52) [] [.ptr k16 0 0 1,.ptr k3 0 0 1,.ptr k11 0 0 1]]) r5 (show k16≠k5 by omega);have s11:=get_set_ne (o':=AE.Obj.row 1 [.func (.func 52) [] [.ptr k16 0 0 1,.ptr k3 0 0 1,.ptr k11 0 0 1]]) r11 (show k16≠k11 by omega);have low2:Low h.length h (H1.set k16 (.row 1 [.func (.func 52) [] [.ptr k16 0 0 1,.ptr k3 0 0 1,.ptr k11 0 0 1]])):=low1.trans (.set (by omega));generalize hH2:H1.set k16 (.row 1 [.func (.func 52) [] [.ptr k16 0 0 1,.ptr k3 0 0 1,.ptr k11 0 0 1]])=H2 at*;have V2:Val7 H2 k3 k4 k11 k16 t dom:=⟨s3,s4,s11,f2⟩;have hw2:∀x∈wadd k16 ws,h.length≤x:=wadd_low (by omega) hw;have lg:loadAt true 2 (.ptr k3 0 0 1) H2=some (encSig t.sig):=by rw[ld_at s3];rfl
 have lx:loadAt true 3 (.ptr k5 0 0 1) H2=some X:=by rw[ld_at s5];exact hX.sub
 have lf:loadAt false 1 (.ptr k16 0 0 1) H2=some (.func (.func 52) [] [.ptr k16 0 0 1,.ptr k3 0 0 1,.ptr k11 0 0 1]):=by rw[ld_at f2];rfl
 have evs:=sortX_ev hT (I.G rfl) (I.E87 rfl) hX H2;have hl2:=low2.len;unfold a7r;by_cases he:(sortX t.sig x).2=0;rotate_left
 · have hb:((sortX t.sig x).2 !=0)=true:=by simpa using he
   have td:=tidy_low (v:=.bool true) rfl rfl low2 hw2;simp(disch:=first|omega|decide|simp only[go_sem]) only[go_sem,e3,e5,e11,hk16,hH1,sv,hH2,lg,lx,cb evs,hb,hT.prim,primOf,List.length_cons,List.length_nil,td]
 have hb:((sortX t.sig x).2 !=0)=false:=by simpa using he
 obtain⟨a,hWT⟩:=sortX_WT he;obtain⟨V,ev,w,hwE,_⟩:=val52_ev hT N hdn hops hd hgood hX a hWT H2 k3 k4 k11 k16 V2;obtain⟨x1,x2,x3,x4⟩:=hwE.cells;have sb:=fun ws=>st_box (h:=H2) (ws:=ws) (ups:=[]) (z:=zq3) (sz:=3) (c:=V) x1 rfl x2 hwE.facts.1 ⟨_,rfl⟩ x4;have low3:Low h.length h (H2++[AE.Obj.row 3 [V]]):=low2.push (by omega);have td:=tidy_low (v:=.bool true) rfl rfl low3 (wadd_low (k:=H2.length) (by omega) hw2);simp(disch:=first|omega|decide|simp only[go_sem]) only[go_sem,e3,e5,e11,hk16,hH1,sv,hH2,lg,lx,cb evs,hb,lf,cb ev,sb,hT.prim,primOf,List.length_cons,List.length_nil,td]
set_option maxRecDepth 8000 in
include hT in
theorem is7_ok{t:GTy}{nt:Tm→PV×Int}(N:NTm T t nt){dom:List (List Tm)}(hdn:dom.length=t.sig.sorts.length)(D1:Dom1 t.sig dom)(hops:okOps8 t.sig.ops t.sig.sorts.length)(hd:∀l∈dom,l.length≤1000)
 {i:Nat}{o:GOp}{us:List Tm}(ho:t.sig.ops[i]?=some o)(hm:us∈prodL (o.args.map (atL dom))){z:Nat}{es:List PV}(hz:es=[]∨z=3)(hE:EncL us es)(hB:BadA dom nt i o us)
 {h H:Hp}{ws:List Nat}{k3 k4 k11:Nat}(low:Low h.length h H)(hw:∀x∈ws,h.length≤x)(q3:H[k3]?=some (.row 3 [encTy t]))(q4:H[k4]?=some (.row 1 [domV dom]))(q11:H[k11]?=some (.row 1 [.func (.func 47) [] [.ptr k4 0 0 1]]))
 {e:List PV}(e3:eget e 3=.ptr k3 0 0 1)(e7:eget e 7=.int .i64 (i:Int))(e8:eget e 8=.slice z es .any)(e11:eget e 11=.ptr k11 0 0 1){Q:AExit→List PV→St→Prop}(hQ:∀e' st,Q .ret e' st=fin [.t 6] 0 h.length (fun p=>p=(.val (.bool true),⟨h,[],[]⟩)) .ret e' st):
 wpC T a7m e ⟨H,ws,[]⟩ Q:=by
 have hHl:=low.len;have l3:=(List.getElem?_eq_some_iff.1 q3).1;have l4:=(List.getElem?_eq_some_iff.1 q4).1;have l11:=(List.getElem?_eq_some_iff.1 q11).1;obtain⟨hul,hum⟩:=mem_prodL hm;rw[List.length_map]at hul;have hel:=hE.1;obtain⟨a1,a2,a3⟩:=hops o (List.mem_of_getElem? ho);have go:(t.sig.ops.map encOp)[i]?=some (encOp o):=by rw[List.getElem?_map,ho];rfl
 have hno:=(List.getElem?_eq_some_iff.1 ho).1;have hno':¬(t.sig.ops.length:Int)≤(i:Int):=by omega
 have hi0:¬(i:Int)<0:=by omega
 have so1:AE.sub false 1 (encOp o) 1=some (.slice 1 (o.args.map encI) .any):=rfl;have so2:AE.sub false 1 (encOp o) 2=some (.int .i64 o.res):=rfl;have lg:loadAt false 1 (.ptr k3 0 1 1) H=some (.slice 3 (t.sig.ops.map encOp) .any):=by rw[ld_at q3];rfl
 have hlen:(((es.length:Nat):Int) !=((o.args.length:Nat):Int))=false:=by
  have:es.length=o.args.length:=by omega
  rw[this];simp
 unfold a7m;simp(disch:=first|omega|decide|simp only[go_sem]) only[go_sem,e3,e7,e8,e11,hi0,lg,hno',hno,go,so1,hlen,List.length_map]
 refine wpC.loopM (fun g e st=> ∃(j:Nat)(H':Hp)(ws':List Nat),j+g=es.length∧Low H.length H H'∧(∀x∈ws',h.length≤x)∧(eget e 3=.ptr k3 0 0 1∧eget e 7=.int .i64 (i:Int)∧eget e 8=.slice z es .any∧eget e 11=.ptr k11 0 0 1∧eget e 80=.slice z es .any∧eget e 81=.int .i64 (es.length:Int)∧eget e 82=.int .i64 (j:Int))∧st=⟨H',ws',[]⟩) ?_ es.length _ _
  ⟨0,H,ws,by omega,Low.refl _ _,hw,by simp only[go_sem,e3,e7,e8,e11,Int.natCast_zero],rfl⟩
 clear e3 e7 e8 e11 lg;rintro g e st ⟨j,H',ws',hj,low',hw',⟨e3,e7,e8,e11,e80,e81,e82⟩,rfl⟩;have hHl':=low'.len;have r3:=low'.get l3 q3;have r4:=low'.get l4 q4;have r11:=low'.get l11 q11;have lowh:Low h.length h H':=low.comp low' (by omega);by_cases h1:j<es.length
 · have h1':(j:Int)< (es.length:Int):=by omega
   have ga:=get_lt h1;have hx:us[j]?=some us[j]:=List.getElem?_eq_getElem (by omega);have hEx:=hE.2 j _ _ hx ga;have hja:j<o.args.length:=by omega
   have gk:=get_enc hja;have hka:=a1 _ (List.getElem_mem hja);have hmu:=hum j _ _ hx (show(o.args.map (atL dom))[j]?=some (atL dom o.args[j]) by rw[List.getElem?_map,List.getElem?_eq_getElem hja];rfl)
   have hsz:z=3:=by
    rcases hz with rfl|h
    ·simp at h1
    ·exact h
   subst hsz;generalize us[j]=u at*;generalize es[j]=X at*;generalize o.args[j]=k at*;obtain⟨K,rfl⟩:=Int.eq_ofNat_of_zero_le hka.1;have hun:u.nodes≤4000:=by have:=treeB_nodes ((D1.sorted (atL_get (by omega))).2 u hmu);omega
   obtain⟨b1,b2,b3,b4⟩:=hEx.cells;have bs:=hEx.sub;have sb:=st_box (h:=H') (ws:=ws') (ups:=[]) (z:=zq3) (sz:=3) (c:=X) b1 rfl b2 hEx.facts.1 ⟨_,rfl⟩ b4;have k5:(H'++[AE.Obj.row 3 [X]])[H'.length]?=some (.row 3 [X]):=by simp
   have s3:(H'++[AE.Obj.row 3 [X]])[k3]?=_:=keepL r3;have s4:(H'++[AE.Obj.row 3 [X]])[k4]?=_:=keepL r4;have s11:(H'++[AE.Obj.row 3 [X]])[k11]?=_:=keepL r11;have low5:Low H.length H (H'++[AE.Obj.row 3 [X]]):=low'.push (by omega);have hw5:∀y∈wadd H'.length ws',h.length≤y:=wadd_low (by omega) hw';generalize hH5:H'++[AE.Obj.row 3 [X]]=H5 at*;generalize hk5:H'.length=kx at*;have lx:loadAt true 3 (.ptr kx 0 0 1) H5=some X:=by rw[ld_at k5];exact bs
   have lf:loadAt false 1 (.ptr k11 0 0 1) H5=some (.func (.func 47) [] [.ptr k4 0 0 1]):=by rw[ld_at s11];rfl
   have lg:loadAt false 1 (.ptr k3 0 1 1) H5=some (.slice 3 (t.sig.ops.map encOp) .any):=by rw[ld_at s3];rfl
   obtain⟨b,ev,hb⟩:=in47_ev hT s4 hd hka.1 (by rw[hdn];exact hka.2) hEx hun;have hbt:b=true:=hb.2 hmu;subst hbt;simp(disch:=first|omega|decide|simp only[go_sem]) only[go_sem,a7b0,e3,e7,e8,e11,e80,e81,e82,h1,h1',ga,bs,hk5,sb,hH5,lf,lg,hno,go,so1,hja,gk,lx,cb ev,hT.prim,primOf,List.length_map,List.length_cons,List.length_nil];exact⟨g - 1,by omega,j+1,H5,_,by omega,low5,hw5,rfl,rfl⟩
 · have h1':¬(j:Int)< (es.length:Int):=by omega
   have hpw:=encL_pw hE;have hET:=enc_op (n:=i) hz hE;obtain⟨hz0,w,hwE,hwm⟩:=hB;have hnx:=N.nx (tOf i us)
   have hwn:w.nodes≤4000:=by
    rcases hnx with⟨_,w',hw',ht⟩|⟨h,_⟩
    · have:=treeB_nodes ht;rw[hwE.inj hw'];omega
    ·exact absurd hz0 h
   have evn:=fun H=>N.ev (tOf i us) _ hET H;rw[hz0]at evn;generalize(nt (tOf i us)).1=V at*;obtain⟨x1,x2,x3,x4⟩:=hwE.cells;have z12:(H'++[AE.Obj.row 3 [zN]])[H'.length]?=some (.row 3 [zN]):=by simp
   have s3:(H'++[AE.Obj.row 3 [zN]])[k3]?=_:=keepL r3;have s4:(H'++[AE.Obj.row 3 [zN]])[k4]?=_:=keepL r4;have s11:(H'++[AE.Obj.row 3 [zN]])[k11]?=_:=keepL r11;have lowb:Low h.length h (H'++[AE.Obj.row 3 [zN]]):=lowh.push (by omega);have eb:H'++[AE.Obj.row 3 [zq3]]=H'++[AE.Obj.row 3 [zN]]:=rfl;generalize hHb:H'++[AE.Obj.row 3 [zN]]=Hb at*;generalize hk12:H'.length=k12 at*;have ltb:loadAt true 3 (.ptr k3 0 0 1) Hb=some (encTy t):=by rw[ld_at s3];rfl
   have ev51:=op51_ev hT (n:=(i:Int)) (z:=z) (m:=.any) hpw Hb;have evn:=evn Hb;have sv:=fun ws ups=>st_slot (ws:=ws) (ups:=ups) (n:=1) (N:=0) z12 rfl rfl ⟨rfl,_,rfl⟩ ⟨x1,x2,x4⟩ hwE.facts.1;simp only[List.set_cons_zero]at sv;have k12c:=get_set (o':=AE.Obj.row 3 [V]) z12;have t3:=get_set_ne (o':=AE.Obj.row 3 [V]) s3 (show k12≠k3 by omega);have t4:=get_set_ne (o':=AE.Obj.row 3 [V]) s4 (show k12≠k4 by omega);have t11:=get_set_ne (o':=AE.Obj.row 3 [V]) s11 (show k12≠k11 by omega);have lowc:Low h.length h (Hb.set k12 (.row 3 [V])):=lowb.trans (.set (by omega));generalize hHc:Hb.set k12 (.row 3 [V])=Hc at*;have lVc:loadAt true 3 (.ptr k12 0 0 1) Hc=some V:=by rw[ld_at k12c];exact hwE.sub
   have lfc:loadAt false 1 (.ptr k11 0 0 1) Hc=some (.func (.func 47) [] [.ptr k4 0 0 1]):=by rw[ld_at t11];rfl
   have lgc:loadAt false 1 (.ptr k3 0 1 1) Hc=some (.slice 3 (t.sig.ops.map encOp) .any):=by rw[ld_at t3];rfl
   obtain⟨b,ev47,hb⟩:=in47_ev hT t4 hd a2.1 (by rw[hdn];exact a2.2) hwE hwn
   have hbt:b=false:=by
    cases b
    ·rfl
    ·exact absurd (hb.1 rfl) hwm
   subst hbt;have td:=fun ws hw=>tidy_low (v:=.bool true) (ws:=ws) rfl rfl lowc hw;simp(disch:=first|omega|decide|simp only[go_sem]) only[go_sem,a7b0,e3,e7,e8,e11,e80,e81,e82,h1',eb,hk12,ltb,cb ev51,cb evn,sv,hHc,lVc,lfc,lgc,List.length_map,hno,go,so2,cb ev47,hQ,hT.prim,primOf,List.length_cons,List.length_nil];exact td _ (wall_low (wadd_low (by omega) (by simp)) hw')
set_option maxRecDepth 20000 in
include hT in
theorem closed_law(hI:T.iter 182=some itG)(E15:∀h,Ev T 15 [] h (.val (.bool true),⟨h,[],[]⟩)){t:GTy}(ETy:LittleP t→∃r,TyIn T t r∧∃nt,NTm T t nt)(dom:List (List Tm))(x:Tm)(h:Hp):
 Ev T 7 [encTy t,domV dom,encT x] h (.val (.bool true),⟨h,[],[]⟩):=by
 refine Ev.walk (mode:=0) (hT.sp _ (by decide)) ((hT.fn _).trans fn7') (show T.mode 7=0 from hT.mode 7) rfl ?_;have hX:=enc_encT x;generalize encT x=X at*;obtain⟨c1,c2,c3,c4⟩:=hX.cells;have k61:(h++[AE.Obj.row 3 [encTy t]])[h.length]?=some (.row 3 [encTy t]):=by simp
 have low1:Low h.length h (h++[AE.Obj.row 3 [encTy t]]):=(Low.refl _ _).push (Nat.le_refl _);have hl1:(h++[AE.Obj.row 3 [encTy t]]).length=h.length+1:=by simp
 generalize hH1:h++[AE.Obj.row 3 [encTy t]]=H1 at*;have k72:(H1++[AE.Obj.row 1 [domV dom]])[h.length+1]?=some (.row 1 [domV dom]):=by rw[←hl1];simp
 have k62:(H1++[AE.Obj.row 1 [domV dom]])[h.length]?=some (.row 3 [encTy t]):=keepL k61;have low2:Low h.length h (H1++[AE.Obj.row 1 [domV dom]]):=low1.push (by omega);have hl2:(H1++[AE.Obj.row 1 [domV dom]]).length=h.length+2:=by simp;omega
 generalize hH2:H1++[AE.Obj.row 1 [domV dom]]=H2 at*;have k114:(H2++[AE.Obj.row 3 [X]])[h.length+2]?=some (.row 3 [X]):=by rw[←hl2];simp
 have k74:(H2++[AE.Obj.row 3 [X]])[h.length+1]?=some (.row 1 [domV dom]):=keepL k72;have k64:(H2++[AE.Obj.row 3 [X]])[h.length]?=some (.row 3 [encTy t]):=keepL k62;have low4:Low h.length h (H2++[AE.Obj.row 3 [X]]):=low2.push (by omega);have hl4:(H2++[AE.Obj.row 3 [X]]).length=h.length+3:=by simp;omega
 generalize hH4:H2++[AE.Obj.row 3 [X]]=H4 at*;have lt:loadAt true 3 (.ptr h.length 0 0 1) H4=some (encTy t):=by rw[ld_at k64];rfl
 have lg:loadAt true 2 (.ptr h.length 0 0 1) H4=some (encSig t.sig):=by rw[ld_at k64];rfl
 have l7:loadAt false 1 (.ptr (h.length+1) 0 0 1) H4=some (domV dom):=by rw[ld_at k74];rfl
 have lx:loadAt true 3 (.ptr (h.length+2) 0 0 1) H4=some X:=by rw[ld_at k114];exact hX.sub
 have cd:(domV dom).cells.length=1∧(domV dom).isDef=true:=⟨rfl,rfl⟩;have f1:=fe_1 (p:=X) ⟨c1,c3⟩;have td:tidy 0 h.length (.val (.bool true)) ⟨H4,[],[]⟩=(.val (.bool true),⟨h,[],[]⟩):=tidy_low rfl rfl low4 (by simp);have e15:=cb (E15 H4);obtain⟨b1,ev1,hb1⟩:=little_ev hT t H4;cases b1
 ·simp(disch:=first|omega|decide|simp only[go_sem]) only[go_sem,hH1,hl1,hH2,hl2,hH4,c1,c3,cd.1,cd.2,ty_len,ty_def,e15,lt,lg,l7,lx,cb ev1,Bool.not_false,Bool.not_true,hT.prim,primOf,List.length_cons,List.length_nil,td]
 have hLit:=hb1 rfl;obtain⟨r,I,nt,N⟩:=ETy hLit;obtain⟨b2,ev2,hb2⟩:=plain_ev hT dom H4;have ev2:Ev T 24 [domV dom] H4 _:=ev2;cases b2
 ·simp(disch:=first|omega|decide|simp only[go_sem]) only[go_sem,hH1,hl1,hH2,hl2,hH4,c1,c3,cd.1,cd.2,ty_len,ty_def,e15,lt,lg,l7,lx,cb ev1,cb ev2,Bool.not_false,Bool.not_true,hT.prim,primOf,List.length_cons,List.length_nil,td]
 obtain⟨hd,hpl⟩:=hb2 rfl
 obtain⟨b3,ev3,hb3⟩:=fewL_ev hT (lim:=60) ⟨by omega,by omega⟩ (l:=[x]) (sz:=3) (es:=[X]) (m:=.lit) (.inr rfl) rfl (fun i y q h1 h2=>by
  cases i with
  |zero=>simp at h1 h2;subst h1 h2;exact hX
  |succ i=>simp at h1) H4
 cases b3
 ·simp(disch:=first|omega|decide|simp only[go_sem]) only[go_sem,hH1,hl1,hH2,hl2,hH4,c1,c3,cd.1,cd.2,ty_len,ty_def,e15,lt,lg,l7,lx,f1,cb ev1,cb ev2,cb ev3,Bool.not_false,Bool.not_true,hT.prim,primOf,List.length_cons,List.length_nil,td]
 obtain⟨z4,ev4,hz4⟩:=args41_ev hT (s:=t.sig) (by have:=(smallB_fits hLit.small).nO;omega) H4;obtain⟨b5,ev5,_⟩:=light_ev hT (dom:=dom) (fun l hl=>by have:=(hpl l hl).1;omega) (lists:=t.sig.ops.map GOp.args) (z:=z4) (m:=.any) (hz4.imp (fun h=>by simp[h]) id) (by have:=(smallB_fits hLit.small).nO;simp;omega) H4;rw[List.map_map]at ev5;have ev5:Ev T 38 [domV dom,.slice z4 (t.sig.ops.map argsV) .any] H4 _:=ev5;cases b5
 ·simp(disch:=first|omega|decide|simp only[go_sem]) only[go_sem,hH1,hl1,hH2,hl2,hH4,c1,c3,cd.1,cd.2,ty_len,ty_def,e15,lt,lg,l7,lx,f1,cb ev1,cb ev2,cb ev3,cb ev4,cb ev5,Bool.not_false,Bool.not_true,hT.prim,primOf,List.length_cons,List.length_nil,td]
 obtain⟨y,ev6,hO,hr⟩:=open_ev hT hI I N (dom:=dom) (by omega) H4;obtain⟨yi,yz,yes,yis,ye⟩:=y;simp only[OpenX9.v]at ev6;simp only[OpenA]at hO;simp only at hr;by_cases hy:ye=0;rotate_left
 · have hb:(ye !=0)=true:=by simpa using hy
   simp(disch:=first|omega|decide|simp only[go_sem]) only[go_sem,hH1,hl1,hH2,hl2,hH4,c1,c3,cd.1,cd.2,ty_len,ty_def,e15,lt,lg,l7,lx,f1,cb ev1,cb ev2,cb ev3,cb ev4,cb ev5,cb ev6,hb,Bool.not_false,Bool.not_true,hT.prim,primOf,List.length_cons,List.length_nil,td]
 subst hy;have hb:((0:Int) !=0)=false:=rfl;cases hr rfl;have hP:=I.ok rfl;rcases hO with h0|⟨_,D1,hO⟩
 ·exact absurd rfl h0
 have hdn:=D1.1;have hops:=hP.sig.ops8;have hdl:∀l∈dom,l.length≤1000:=fun l hl=>by have:=(hpl l hl).1;omega
 have f0:(H4++[AE.Obj.row 1 [.nilFunc]])[h.length+3]?=some (.row 1 [.nilFunc]):=by rw[←hl4];simp
 have g3:(H4++[AE.Obj.row 1 [.nilFunc]])[h.length]?=_:=keepL k64;have g4:(H4++[AE.Obj.row 1 [.nilFunc]])[h.length+1]?=_:=keepL k74;have g5:(H4++[AE.Obj.row 1 [.nilFunc]])[h.length+2]?=_:=keepL k114;have low5:Low h.length h (H4++[AE.Obj.row 1 [.nilFunc]]):=low4.push (by omega);generalize hH5:H4++[AE.Obj.row 1 [.nilFunc]]=H5 at*;have sv:=fun ws=>st_row1 (v:=.func (.func 47) [] [.ptr (h.length+1) 0 0 1]) (ws:=ws) (ups:=[]) (n:=1) (A:=0) f0 rfl rfl (fun cs h=>by cases h) ⟨rfl,rfl⟩ (fun j hj=>by simp[PV.top,tops,omax]at hj;omega);simp only[List.set_cons_zero]at sv;have f2:=get_set (o':=AE.Obj.row 1 [.func (.func 47) [] [.ptr (h.length+1) 0 0 1]]) f0;have m3:=get_set_ne (o':=AE.Obj.row 1 [.func (.func 47) [] [.ptr (h.length+1) 0 0 1]]) g3 (show h.length+3≠h.length by omega);have m4:=get_set_ne (o':=AE.Obj.row 1 [.func (.func 47) [] [.ptr (h.length+1) 0 0 1]]) g4 (show h.length+3≠h.length+1 by omega);have m5:=get_set_ne (o':=AE.Obj.row 1 [.func (.func 47) [] [.ptr (h.length+1) 0 0 1]]) g5 (show h.length+3≠h.length+2 by omega);have low6:Low h.length h (H5.set (h.length+3) (.row 1 [.func (.func 47) [] [.ptr (h.length+1) 0 0 1]])):=low5.trans (.set (by omega));generalize hH6:H5.set (h.length+3) (.row 1 [.func (.func 47) [] [.ptr (h.length+1) 0 0 1]])=H6 at*;have hw6:∀x∈wadd (h.length+3) [],h.length≤x:=wadd_low (by omega) (by simp);rcases hO with⟨rfl,hgood⟩|⟨rfl,i,o,us,rfl,ho,hm,hz,hE,hB⟩
 · simp(disch:=first|omega|decide|simp only[go_sem]) only[go_sem,hH1,hl1,hH2,hl2,hH4,c1,c3,cd.1,cd.2,ty_len,ty_def,e15,lt,lg,l7,lx,f1,cb ev1,cb ev2,cb ev3,cb ev4,cb ev5,cb ev6,hb,hl4,hH5,sv,hH6,Bool.not_false,Bool.not_true,hT.prim,primOf,List.length_cons,List.length_nil];refine rest7_ok hT I N hdn hops hdl hgood hX low6 hw6 m3 m4 m5 f2 ?_ ?_ ?_<;>simp only[go_sem]
 · simp(disch:=first|omega|decide|simp only[go_sem]) only[go_sem,hH1,hl1,hH2,hl2,hH4,c1,c3,cd.1,cd.2,ty_len,ty_def,e15,lt,lg,l7,lx,f1,cb ev1,cb ev2,cb ev3,cb ev4,cb ev5,cb ev6,hb,hl4,hH5,sv,hH6,Bool.not_false,Bool.not_true,hT.prim,primOf,List.length_cons,List.length_nil];refine is7_ok hT N hdn D1 hops hdl ho hm hz hE hB low6 hw6 m3 m4 f2 ?_ ?_ ?_ ?_ (fun e' st=>by simp only[go_sem,resv])<;>simp only[go_sem]
end Go.Proofs.Tryz
