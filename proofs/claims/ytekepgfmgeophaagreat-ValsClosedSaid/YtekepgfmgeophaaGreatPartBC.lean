/- Texts of the proof, one behind the other: ValL11, ValQZ, ValYE. -/
import Derived.Test.YtekepgfmgeophaaGreatPartAL
import Derived.Test.YtekepgfmgeophaaGreatPartAP
import Derived.Test.YtekepgfmgeophaaGreatPartBB
import Derived.Test.YtekepgfmgeophaaGreatPartAQ
set_option linter.unusedVariables false
set_option linter.unusedSimpArgs false
namespace Go.Proofs.Tryz
open Go Go.AE
def good15(_:List PV)(v:PV):Prop:=v=.bool true
def good87(key:List PV)(v:PV):Prop:=∃r:Int,v=.int .i64 r∧∀s:GSig,key=[encSig s]→(r=0∧sigP s)∨(r=40∧¬sigP s)
def good91(key:List PV)(v:PV):Prop:=∀(s:GSig)(a m:Nat)(n:Int),key=[encTab s,.int .i64 (a:Int),.int .i64 (m:Int),.int .i64 n]→Nth91 s a m n v∧IsT v
def goods(f:FuncId):Option (List PV→PV→Prop):=if f=15 then some good15 else if f=87 then some good87 else if f=91 then some good91 else none
noncomputable def TL:Tbl:=T0.knows Tryz.prog 200 goods
theorem TL_ok:TblOK Tryz.prog TL:=Tbl.knows_ok T0_ok
theorem TL_std:Std TL where
 sp f h:=by
  have h2:f≠15∧f≠87∧f≠91:=by simp only[spList,List.mem_cons,List.not_mem_nil,or_false,not_or]at h;exact⟨h.2.2.2.2.2.1,h.2.2.2.2.2.2.1,h.2.2.2.2.2.2.2.1⟩
  have e:goods f=none:=by simp[goods,h2]
  rw[TL,Tbl.knows_sp e];exact T0_std.sp f h
 fn f:=by rw[TL,Tbl.knows_fn];exact T0_std.fn f
 prim:=by rw[TL,Tbl.knows_prim];exact T0_std.prim
 mode f:=by rw[TL,Tbl.knows_mode];exact T0_std.mode f
theorem T0_sp87:T0.sp 87=none:=by rw[T0_sp];rfl
theorem T0_sp208:T0.sp 208=some (cloneSp af208):=by rw[T0_sp];rfl
theorem encSig_pw(s:GSig):(encSig s).pure=true∧(encSig s).weak=encSig s:=by
 obtain⟨⟨a,b⟩,c,d⟩:=enc_pure s;refine⟨?_,?_⟩
 · simp only[encSig,PV.pure,pures,Bool.and_true]at a c⊢;rw[a,c];rfl
 · simp only[encSig,PV.weak,weaks]at b d⊢;rw[(PV.slice.inj b).2.1,(PV.slice.inj d).2.1]
theorem encOp_inj{o o':GOp}(h:encOp o=encOp o'):o=o':=by obtain⟨n,a,r⟩:=o;obtain⟨n',a',r'⟩:=o';simp only[encOp,PV.agg.injEq,List.cons.injEq,PV.str.injEq,PV.slice.injEq,PV.int.injEq]at h;obtain⟨rfl,⟨_,ha,_⟩,⟨_,rfl⟩,_⟩:=h;have:a=a':=(List.map_inj_right (fun x y hxy=>(PV.int.inj hxy).2)).1 ha;subst this;rfl
theorem encSig_inj{s s':GSig}(h:encSig s=encSig s'):s=s':=by obtain⟨a,b⟩:=s;obtain⟨a',b'⟩:=s';simp only[encSig,PV.agg.injEq,List.cons.injEq,PV.slice.injEq]at h;obtain⟨⟨_,h1,_⟩,⟨_,h2,_⟩,_⟩:=h;have e1:a=a':=(List.map_inj_right (fun x y hxy=>PV.str.inj hxy)).1 h1;have e2:b=b':=(List.map_inj_right (fun x y hxy=>encOp_inj hxy)).1 h2;subst e1 e2;rfl
theorem check_exact{s:GSig}(hs:Fits s):∃r:Int,((r=0∧sigP s)∨(r=40∧¬sigP s))∧∀h,Ev TL 87 [encSig s] h (.val (.int .i64 r),⟨h,[],[]⟩):=by obtain⟨r,ev,kr⟩:=check_tot T0_std T0_sp87 T0_sp208 hs [];obtain⟨p1,p2⟩:=encSig_pw s;obtain⟨v,⟨r',rfl,h2⟩,_,ev'⟩:=Ev.knows (T:=T0) (N:=200) (m:=goods) (f:=87) (good:=good87) rfl (args:=[encSig s]) (by simp[pures,p1]) (by simp[weaks,p2]) (Known.of_ev T0_ok rfl ev) ⟨r,rfl,fun s' he=>by have:=encSig_inj (List.cons.inj he).1;subst this;exact kr⟩;exact⟨r',h2 s rfl,ev'⟩
end Go.Proofs.Tryz
namespace Go.Proofs.Tryz
open Go Go.AE
theorem encT_pw(t:Tm):(encT t).pure=true∧(encT t).weak=encT t:=(enc_encT t).facts.2
theorem pures_append{a b:List PV}(ha:pures a=true)(hb:pures b=true):pures (a++b)=true:=by
 induction a with
 |nil=>exact hb
 |cons x a ih=>
   simp only[pures,Bool.and_eq_true]at ha;simp only[List.cons_append,pures,ha.1,ih ha.2,Bool.and_self]
theorem weaks_append{a b:List PV}:weaks (a++b)=weaks a++weaks b:=by
 induction a with
 |nil=>rfl
 |cons x a ih=>simp only[List.cons_append,weaks,ih]
theorem encT_cpw(t:Tm):pures (encT t).cells=true∧weaks (encT t).cells=(encT t).cells:=by obtain⟨h1,h2⟩:=encT_pw t;obtain⟨cs,hc⟩:=(enc_encT t).cells.2.2.2;rw[hc]at h1 h2⊢;exact⟨h1,by simpa[PV.weak,PV.cells]using h2⟩
theorem map_pw{α:Type}{f:α→PV}(h:∀x,(f x).pure=true∧(f x).weak=f x)(l:List α):pures (l.map f)=true∧weaks (l.map f)=l.map f:=by
 induction l with
 |nil=>exact⟨rfl,rfl⟩
 |cons x l ih=>simp[pures,weaks,h x,ih]
theorem encPair_pw(p:Tm×Tm):(encPair p).pure=true∧(encPair p).weak=encPair p:=by obtain⟨a1,a2⟩:=encT_cpw p.1;obtain⟨b1,b2⟩:=encT_cpw p.2;exact⟨pures_append a1 b1,by simp only[encPair,PV.weak,weaks_append,a2,b2]⟩
theorem encEqn_pw(e:GEqn):(encEqn e).pure=true∧(encEqn e).weak=encEqn e:=by
 obtain⟨a1,a2⟩:=encT_cpw e.A;obtain⟨b1,b2⟩:=encT_cpw e.B;obtain⟨v1,v2⟩:=encI_weak e.vars;obtain⟨c1,c2⟩:=map_pw encPair_pw e.conds;refine⟨pures_append ?_ (pures_append a1 b1),?_⟩
 ·simp[pures,PV.pure,v1,c1]
 ·simp only[encEqn,PV.weak,weaks_append,a2,b2,weaks,v2,c2]
theorem encTy_pw(t:GTy):(encTy t).pure=true∧(encTy t).weak=encTy t:=by
 obtain⟨h1,h2⟩:=encSig_pw t.sig;obtain⟨c1,c2⟩:=map_pw encEqn_pw t.eqns;simp only[encSig,PV.pure,pures,Bool.and_true,Bool.and_eq_true]at h1;simp only[encSig,PV.weak,weaks,PV.agg.injEq,List.cons.injEq,and_true]at h2;refine⟨?_,?_⟩
 ·simp only[encTy,PV.pure,pures,h1.1,h1.2,c1,Bool.and_self]
 ·simp only[encTy,PV.weak,weaks,h2.1,h2.2,c2]
theorem encT_inj{t t':Tm}(h:encT t=encT t'):t=t':=(enc_encT t).inj (h▸enc_encT t')
theorem encPair_inj{p p':Tm×Tm}(h:encPair p=encPair p'):p=p':=by
 obtain⟨⟨k,n,l⟩,⟨k',n',l'⟩⟩:=p;obtain⟨⟨j,m,r⟩,⟨j',m',r'⟩⟩:=p';have h1:encT (.mk k n l)=encT (.mk j m r)∧encT (.mk k' n' l')=encT (.mk j' m' r'):=by simp only[encPair,encT,PV.cells,PV.agg.injEq,List.cons_append,List.nil_append,List.cons.injEq,and_true]at h⊢;exact⟨⟨h.1,h.2.1,h.2.2.1⟩,h.2.2.2⟩
 rw[encT_inj h1.1,encT_inj h1.2]
theorem encEqn_inj{e e':GEqn}(h:encEqn e=encEqn e'):e=e':=by
 obtain⟨v,c,⟨k,n,l⟩,⟨k',n',l'⟩⟩:=e;obtain⟨w,d,⟨j,m,r⟩,⟨j',m',r'⟩⟩:=e';simp only[encEqn,encT,PV.cells,PV.agg.injEq,List.cons_append,List.nil_append,List.cons.injEq,and_true,PV.slice.injEq,true_and]at h;obtain⟨h1,h2,h3,h4,h5,h6,h7,h8⟩:=h;have e1:v=w:=(List.map_inj_right (fun x y hxy=>(PV.int.inj hxy).2)).1 h1;have e2:c=d:=(List.map_inj_right (fun x y hxy=>encPair_inj hxy)).1 h2;have e3:encT (.mk k n l)=encT (.mk j m r):=by simp only[encT,h3,h4,h5]
 have e4:encT (.mk k' n' l')=encT (.mk j' m' r'):=by simp only[encT,h6,h7,h8]
 rw[e1,e2,encT_inj e3,encT_inj e4]
theorem encTy_inj{t t':GTy}(h:encTy t=encTy t'):t=t':=by obtain⟨s,e⟩:=t;obtain⟨s',e'⟩:=t';simp only[encTy,PV.agg.injEq,List.cons.injEq,and_true,PV.slice.injEq,true_and]at h;obtain⟨h1,h2,h3⟩:=h;have e1:s=s':=encSig_inj (by simp only[encSig,h1,h2]);have e2:e=e':=(List.map_inj_right (fun x y hxy=>encEqn_inj hxy)).1 h3;rw[e1,e2]
def good103(key:List PV)(v:PV):Prop:=∃r:Int,v=.int .i64 r∧∀t:GTy,key=[encTy t]→(r=0∧TypP t)∨r=5
def good50(_:List PV)(v:PV):Prop:=∃x:PV×Int,v=.tuple [x.1,.int .i64 x.2]∧NormX x
def goodsB(f:FuncId):Option (List PV→PV→Prop):=if f=103 then some good103 else goods f
def goodsC(f:FuncId):Option (List PV→PV→Prop):=if f=50 then some good50 else goodsB f
noncomputable def TB:Tbl:=T0.knows Tryz.prog 200 goodsB
theorem TB_ok:TblOK Tryz.prog TB:=Tbl.knows_ok T0_ok
theorem std_of{m:FuncId→Option (List PV→PV→Prop)}(hm:∀f,f∉spList→m f=none):Std (T0.knows Tryz.prog 200 m)where
 sp f h:=by rw[Tbl.knows_sp (hm f h)];exact T0_std.sp f h
 fn f:=by rw[Tbl.knows_fn];exact T0_std.fn f
 prim:=by rw[Tbl.knows_prim];exact T0_std.prim
 mode f:=by rw[Tbl.knows_mode];exact T0_std.mode f
theorem goodsC_none{f:FuncId}(h:f∉spList):goodsC f=none:=by simp only[spList,List.mem_cons,List.not_mem_nil,or_false,not_or]at h;simp[goodsC,goodsB,goods,h]
theorem goodsB_none{f:FuncId}(h:f∉spList):goodsB f=none:=by simp only[spList,List.mem_cons,List.not_mem_nil,or_false,not_or]at h;simp[goodsB,goods,h]
theorem TB_std:Std TB:=std_of fun _ h=>goodsB_none h
theorem T0_sp189:T0.sp 189=some (AE'.guardedSp 260 2):=by rw[T0_sp];rfl
theorem T0_sp50:T0.sp 50=none:=by rw[T0_sp];rfl
theorem T0_sp103:T0.sp 103=none:=by rw[T0_sp];rfl
theorem TL_sp103:TL.sp 103=none:=by rw[TL,Tbl.knows_sp rfl];exact T0_sp103
theorem TB_sp50:TB.sp 50=none:=by rw[TB,Tbl.knows_sp rfl];exact T0_sp50
theorem TB_sp189:TB.sp 189=some (AE'.guardedSp 260 2):=by rw[TB,Tbl.knows_sp rfl];exact T0_sp189
theorem check_of{m:FuncId→Option (List PV→PV→Prop)}(hm:m 87=some good87){s:GSig}(hs:Fits s):∃r:Int,((r=0∧sigP s)∨(r=40∧¬sigP s))∧∀h,Ev (T0.knows Tryz.prog 200 m) 87 [encSig s] h (.val (.int .i64 r),⟨h,[],[]⟩):=by obtain⟨r,ev,kr⟩:=check_tot T0_std T0_sp87 T0_sp208 hs [];obtain⟨p1,p2⟩:=encSig_pw s;obtain⟨v,⟨r',rfl,h2⟩,_,ev'⟩:=Ev.knows (T:=T0) (N:=200) (m:=m) (f:=87) (good:=good87) hm (args:=[encSig s]) (by simp[pures,p1]) (by simp[weaks,p2]) (Known.of_ev T0_ok rfl ev) ⟨r,rfl,fun s' he=>by have:=encSig_inj (List.cons.inj he).1;subst this;exact kr⟩;exact⟨r',h2 s rfl,ev'⟩
theorem tcheck_of{m:FuncId→Option (List PV→PV→Prop)}(hm:m 103=some good103){t:GTy}(hs:Fits t.sig):∃r:Int,((r=0∧TypP t)∨r=5)∧∀h,Ev (T0.knows Tryz.prog 200 m) 103 [encTy t] h (.val (.int .i64 r),⟨h,[],[]⟩):=by
 obtain⟨r0,kr,e87⟩:=check_exact hs
 obtain⟨r,ev,hr⟩:=tcheck_ev TL_std TL_sp103 kr (fun h=>by
  rcases kr with⟨_,h⟩|⟨h,_⟩
  ·exact h.gok
  ·omega) e87 []
 obtain⟨p1,p2⟩:=encTy_pw t;obtain⟨v,⟨r',rfl,h2⟩,_,ev'⟩:=Ev.knows (T:=T0) (N:=200) (m:=m) (f:=103) (good:=good103) hm (args:=[encTy t]) (by simp[pures,p1]) (by simp[weaks,p2]) (Known.of_ev TL_ok rfl ev) ⟨r,rfl,fun t' he=>by have:=encTy_inj (List.cons.inj he).1;subst this;exact hr⟩;exact⟨r',h2 t rfl,ev'⟩
theorem tyin_of{m:FuncId→Option (List PV→PV→Prop)}(h87:m 87=some good87)(h103:m 103=some good103){t:GTy}(hs:Fits t.sig):∃r,TyIn (T0.knows Tryz.prog 200 m) t r:=by
 obtain⟨r0,kr,e87⟩:=check_of h87 hs;obtain⟨r,hr,ev⟩:=tcheck_of h103 hs
 have hok:r=0→TypP t:=fun h=>by
  rcases hr with⟨_,h2⟩|h2
  ·exact h2
  ·omega
 refine⟨r,ev,hok,fun h=>(hok h).sig.gok,fun h=>?_⟩;rcases kr with⟨h1,_⟩|⟨_,h1⟩
 ·rw[←h1];exact e87
 ·exact absurd (hok h).sig h1
end Go.Proofs.Tryz
namespace Go.Proofs.Tryz
open Go Go.AE
theorem y0A_ev{l:Nat}{S:PV}{vs:List PV}(O:ListsOk S vs):∃e',EvC noTbl y0A [.func (.yield l) [] [],.iptr S 0] ⟨[],[],[]⟩ (.normal,e',⟨[.row 1 (List.replicate vs.length (.int .i64 0))],[],[]⟩)∧eget e' 0=.func (.yield l) [] []∧eget e' 1=.iptr S 0∧eget e' 3=.aref 0 1 0 vs.length vs.length:=by
 obtain⟨z,m,hS,hz⟩:=O.eq;have hvl:=O.len;have mk:=mk_ok (sz:=1) (bytes:=8) (n:=vs.length) (z:=.int .i64 0) (by omega) (by omega) rfl;have lS:loadAt false 1 (.iptr S 0) []=some S:=by rw[hS];rfl
 have lu:lenOf S=some vs.length:=by rw[hS];rfl
 have key:wpC noTbl y0A [.func (.yield l) [] [],.iptr S 0] ⟨[],[],[]⟩ fun x e' st=>x=.normal∧st=⟨[.row 1 (List.replicate vs.length (.int .i64 0))],[],[]⟩∧eget e' 0=.func (.yield l) [] []∧eget e' 1=.iptr S 0∧eget e' 3=.aref 0 1 0 vs.length vs.length:=by unfold y0A;simp(disch:=first|omega|decide|simp only[go_sem]) only[go_sem,lS,lu,mk,List.length_nil]
 obtain⟨x,e1,s1,ev,rfl,rfl,h⟩:=wpC.sound key;exact⟨e1,ev,h⟩
theorem y0B_ev{l:Nat}{S:PV}{vs:List PV}(O:ListsOk S vs){e:List PV}{H:Hp}(e0:eget e 0=.func (.yield l) [] [])(e1:eget e 1=.iptr S 0)(e3:eget e 3=.aref 0 1 0 vs.length vs.length):
 ∃x e',EvC noTbl y0B e ⟨H,[],[]⟩ (x,e',⟨H,[],[]⟩)∧((x=.normal∧(∀v∈vs,rowOf v≠[])∧eget e' 0=.func (.yield l) [] []∧eget e' 1=.iptr S 0∧eget e' 3=.aref 0 1 0 vs.length vs.length)∨(x=.ret∧∃v∈vs,rowOf v=[])):=by
 obtain⟨z,m,hS,hz⟩:=O.eq;have hvl:=O.len;have lS:loadAt false 1 (.iptr S 0) H=some S:=by rw[hS];rfl
 have lu:lenOf S=some vs.length:=by rw[hS];rfl
 have key:wpC noTbl y0B e ⟨H,[],[]⟩ fun x e' st=>st=⟨H,[],[]⟩∧((x=.normal∧(∀v∈vs,rowOf v≠[])∧eget e' 0=.func (.yield l) [] []∧eget e' 1=.iptr S 0∧eget e' 3=.aref 0 1 0 vs.length vs.length)∨(x=.ret∧∃v∈vs,rowOf v=[])):=by
  unfold y0B;simp(disch:=first|omega|decide|simp only[go_sem]) only[go_sem,e1,lS,lu]
  refine wpC.loopM (fun g e st=> ∃i:Nat,i+g=vs.length∧(∀j (hj:j<vs.length),j<i→rowOf vs[j]≠[])∧(eget e 0=.func (.yield l) [] []∧eget e 1=.iptr S 0∧eget e 3=.aref 0 1 0 vs.length vs.length∧eget e 13=S∧eget e 14=.int .i64 (vs.length:Int)∧eget e 15=.int .i64 (i:Int))∧st=⟨H,[],[]⟩) ?_ vs.length _ _
   ⟨0,by omega,fun j _ hj=>by omega,by simp only[go_sem,e0,e1,e3,Int.natCast_zero],rfl⟩
  clear e0 e1 e3;rintro g e st ⟨i,hi,hne,⟨e0,e1,e3,e13,e14,e15⟩,rfl⟩;by_cases h1:i<vs.length
  · have h1':(i:Int)< (vs.length:Int):=by omega
    have gv:vs[i]?=some vs[i]:=List.getElem?_eq_getElem h1;have hm:=List.getElem_mem h1;have hov:=O.all _ hm
    have hni:rowOf vs[i]≠[]→∀j (hj:j<vs.length),j<i+1→rowOf vs[j]≠[]:=fun h j hj hji=>by
     by_cases hjj:j=i
     ·subst hjj;exact h
     ·exact hne j hj (by omega)
    generalize vs[i]=u at*;obtain⟨zu,mu,hu,hzu,hul,hut⟩:=okYV_facts hov
    have ixS:idxaddr 1 S (.int .i64 (i:Int))=some (.iptr u 0):=by
     have hz1:z=1:=by
      rcases hz with rfl|h
      ·simp at h1
      ·exact h
     rw[hS,idx_slice,if_pos hz1,gv];rfl
    have su:AE.sub false 1 u 0=some u:=by rw[hu];rfl
    have luu:lenOf u=some (rowOf u).length:=by
     have:lenOf (.slice zu (rowOf u) mu)=some (rowOf u).length:=rfl
     rwa [←hu]at this
    by_cases hem:rowOf u=[]
    · have hb:(((rowOf u).length:Int)==0)=true:=by rw[hem];rfl
      simp(disch:=first|omega|decide|simp only[go_sem]) only[go_sem,a182b0,e0,e1,e3,e13,e14,e15,h1,h1',ixS,su,luu,hb];exact .inr ⟨u,hm,hem⟩
    · have hb:(((rowOf u).length:Int)==0)=false:=by have:0< (rowOf u).length:=List.length_pos_iff.2 hem;simp only[beq_eq_false_iff_ne];omega
      simp(disch:=first|omega|decide|simp only[go_sem]) only[go_sem,a182b0,e0,e1,e3,e13,e14,e15,h1,h1',ixS,su,luu,hb];exact⟨g - 1,by omega,i+1,by omega,hni hem,rfl,trivial⟩
  · have h1':¬(i:Int)< (vs.length:Int):=by omega
    simp(disch:=first|omega|decide|simp only[go_sem]) only[go_sem,a182b0,e0,e1,e3,e13,e14,e15,h1'];refine .inl ⟨fun v hv=>?_,trivial⟩;obtain⟨j,hj,rfl⟩:=List.getElem_of_mem hv;exact hne j hj (by omega)
 obtain⟨x,e',s1,ev,rfl,h⟩:=wpC.sound key;exact⟨x,e',ev,h⟩
theorem prodL_empty{α:Type}:∀{ls:List (List α)},[]∈ls→prodL ls=[]
 |l::ls,h=>by
   rcases List.mem_cons.1 h with h|h
   ·subst h;rfl
   · simp only[prodL,prodL_empty h,List.map_nil];exact List.flatMap_eq_nil_iff.2 fun _ _=>rfl
def yssOf(vs:List PV):Yss:=(prodL (vs.map rowOf)).map fun es=>[outV vs es]
theorem zero_in:∀{vs:List PV},(∀v∈vs,rowOf v≠[])→inI (lensOf vs) (List.replicate vs.length 0)
 |[],_=>trivial
 |v::vs,h=>⟨List.length_pos_iff.2 (h v (by simp)),zero_in fun u hu=>h u (by simp[hu])⟩
mutual
theorem weak_pure:∀p:PV,p.pure=true→p.weak.pure=true
 |.slice _ es _,h=>weaks_pure es h
 |.iptr c _,h=>weak_pure c h
 |.func _ f c,h=>by
   simp only[PV.pure,Bool.and_eq_true]at h;simp only[PV.weak,PV.pure,weaks_pure f h.1,weaks_pure c h.2,Bool.and_self]
 |.iface _ v,h=>weak_pure v h
 |.agg cs,h=>weaks_pure cs h
 |.tuple vs,h=>weaks_pure vs h
 |.undef,_=>rfl
 |.bool _,_=>rfl
 |.int _ _,_=>rfl
 |.str _,_=>rfl
 |.aref ..,h=>h
 |.ptr ..,h=>h
 |.nilptr,_=>rfl
 |.map _,h=>h
 |.nilFunc,_=>rfl
 |.nilIface,_=>rfl
theorem weaks_pure:∀l:List PV,pures l=true→pures (weaks l)=true
 |[],_=>rfl
 |x::l,h=>by simp only[pures,Bool.and_eq_true]at h;simp only[weaks,pures,weak_pure x h.1,weaks_pure l h.2,Bool.and_self]
end
theorem sem182G{S:PV}{vs:List PV}(O:ListsOk S vs){captured:List PV}(hcp:pures captured=true)(hc:weaks captured=[.iptr S 0]):IterSem Tryz.prog 182 captured (yssOf vs):=by
 have hSp:S.pure=true:=by
  have h:pures (weaks captured)=true:=by
   exact weaks_pure captured hcp
  rw[hc]at h
  simpa[pures,PV.pure]using h
 have hp:∀v∈vs,v.pure=true:=by
  obtain⟨z,m,hS,_⟩:=O.eq
  rw[hS]at hSp
  exact pures_mem hSp
 refine iterSem_of (T:=noTbl) mixed (fun _ _ h=>by cases h) Tryz.func182 (by decide) comp182 hcp fun l stop=>?_
 have key:∃e' st',YC (fun i=>decide (stop≠some i)) a182.code [.func (.yield l) [] [],.iptr S 0] ⟨[],[],[]⟩ [] (.ret,e',st',(upTo stop (yssOf vs)).map fun ys=>(l,ys)):=by
  obtain⟨e1,rA,a0,a1,a3⟩:=y0A_ev (l:=l) O
  obtain⟨x,e2,rB,hB⟩:=y0B_ev O (H:=[.row 1 (List.replicate vs.length (.int .i64 0))]) a0 a1 a3
  rcases hB with⟨rfl,hne,b0,b1,b3⟩|⟨rfl,v,hv,hve⟩
  · have hz:=zero_in hne
    have A:AtS l S vs e2 [.row 1 (List.replicate vs.length (.int .i64 0))] (List.replicate vs.length 0):=⟨b0,b1,b3,by simp[encN],by simp,hz⟩
    obtain⟨e3,st3,h3⟩:=y3_loop (b:=fun i=>decide (stop≠some i)) O hp _ (ws:=[]) (g:=[]) (Nat.le_refl _) A
    have hr:=restI_zero hz
    simp only[List.map_replicate]at hr
    rw[hr]at h3
    have hy:(allI (lensOf vs)).map (fun cs=>[outV vs (pickI (vs.map rowOf) cs)])=yssOf vs:=by
     unfold yssOf
     rw[prodL_pick,List.map_map]
     have:(vs.map rowOf).map List.length=lensOf vs:=by simp[lensOf]
     rw[this];rfl
    rw[hy,List.nil_append,List.length_nil,emit_upTo]at h3
    exact⟨e3,st3,.seq (.of rfl rA (by simp)) (.seq (.of rfl rB (by simp)) (.block (.loop h3) (by simp)))⟩
  · refine⟨e2,⟨[.row 1 (List.replicate vs.length (.int .i64 0))],[],[]⟩,?_⟩
    have hy:yssOf vs=[]:=by
     unfold yssOf
     rw[prodL_empty];·rfl
     exact List.mem_map.2 ⟨v,hv,hve⟩
    have hu:upTo stop ([]:Yss)=[]:=by cases stop<;>rfl
    rw[hy,hu]
    exact .seq (.of rfl rA (by simp)) (.seqOut (.of rfl rB (by simp)) (by simp))
 obtain⟨e',st',N,hN⟩:=key
 refine⟨evCall noTbl N,N,evCall_sound (noTbl_ok mixed) N,evCall_step (fun _ _ h=>by cases h) N,?_⟩
 rw[hc,af182_eq]
 have h1:([PV.func (.yield l) [] [],.iptr S 0]:List PV).length=a182.np∧a182.res=[]:=⟨rfl,rfl⟩
 unfold yBody
 rw[if_pos h1,hN N (Nat.le_refl _)]
def okLists(vs:List PV)(z:Nat):Bool:=decide (vs.length≤500)&& (vs.isEmpty||z==1)&&vs.all okYV
def itG(captured:List PV):Option (List (List PV)):=
 if pures captured=true then
  match weaks captured with
  |[.iptr (.slice z vs _) 0]=>if okLists vs z=true then some (yssOf vs)else none
  |_=>none
 else none
theorem itG_ok{captured:List PV}{yss:Yss}(h:itG captured=some yss):IterSem Tryz.prog 182 captured yss:=by
 unfold itG at h;split at h
 · rename_i hp;split at h
   · rename_i z vs m hw;split at h
     · rename_i ho;cases h;simp only[okLists,Bool.and_eq_true,decide_eq_true_eq,Bool.or_eq_true,List.isEmpty_iff,beq_iff_eq,List.all_eq_true]at ho;exact sem182G ⟨⟨z,m,rfl,ho.1.2⟩,ho.1.1,ho.2⟩ hp hw
     ·cases h
   ·cases h
 ·cases h
end Go.Proofs.Tryz
