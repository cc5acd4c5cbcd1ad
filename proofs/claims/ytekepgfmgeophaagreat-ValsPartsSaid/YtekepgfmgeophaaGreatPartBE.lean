/- Texts of the proof, one behind the other: ValL11, ValQZ, ValYE. -/
import Derived.Test.YtekepgfmgeophaaGreatPartAN
import Derived.Test.YtekepgfmgeophaaGreatPartAR
import Derived.Test.YtekepgfmgeophaaGreatPartBD
import Derived.Test.YtekepgfmgeophaaGreatPartAS
set_option linter.unusedVariables false
set_option linter.unusedSimpArgs false
namespace Go.Proofs.Tryz
open Go Go.AE
def good15(_:List PV)(v:PV):Prop:=v=.bool true
def qnu(key:List PV)(v:PV):Prop:=∃r:Int,v=.int .i64 r∧∀s:GSig,key=[qae s]->(r=0∧sigP s)∨(r=40∧¬sigP s)
def good91(key:List PV)(v:PV):Prop:=∀(s:GSig)(a m:Nat)(n:Int),key=[encTab s,.int .i64 (a:Int),.int .i64 (m:Int),.int .i64 n]->Nth91 s a m n v∧IsT v
def qsw(f:FuncId):Option (List PV->PV->Prop):=if f=15 then some good15 else if f=87 then some qnu else if f=91 then some good91 else none
noncomputable def TL:Tbl:=T0.knows Tryz.prog 200 qsw
theorem TL_ok:TblOK Tryz.prog TL:=Tbl.knows_ok qpd
theorem TL_std:Std TL where
 sp f h:=by
  have h2:f≠15∧f≠87∧f≠91:=by simp only[qh1,mN,List.not_mem_nil,or_false,not_or]at h;exact⟨h.2.2.2.2.2.1,h.2.2.2.2.2.2.1,h.2.2.2.2.2.2.2.1⟩
  have e:qsw f=none:=by simp[qsw,h2]
  rw[TL,Tbl.knows_sp e];exact qe1.sp f h
 fn f:=by rw[TL,Tbl.knows_fn];exact qe1.fn f
 prim:=by rw[TL,Tbl.knows_prim];exact qe1.prim
 mode f:=by rw[TL,Tbl.knows_mode];exact qe1.mode f
theorem qth:T0.sp 87=none:=by rw[qk4];rfl
theorem qpc:T0.sp 208=some (qby qpa):=by rw[qk4];rfl
theorem qjf(s:GSig):(qae s).pure=true∧(qae s).weak=qae s:=by
 obtain⟨⟨a,b⟩,c,d⟩:=enc_pure s;refine⟨?_,?_⟩
 · simp only[qae,PV.pure,qat,Bool.and_true]at a c⊢;rw[a,c];rfl
 · simp only[qae,PV.weak,qau]at b d⊢;rw[(PV.slice.inj b).2.1,(PV.slice.inj d).2.1]
theorem encOp_inj{o o':GOp}(h:qap o=qap o'):o=o':=by obtain⟨n,a,r⟩:=o;obtain⟨n',a',r'⟩:=o';simp only[qap,PV.agg.injEq,List.cons.injEq,PV.str.injEq,PV.slice.injEq,PV.int.injEq]at h;obtain⟨rfl,⟨_,ha,_⟩,⟨_,rfl⟩,_⟩:=h;have:a=a':=(List.map_inj_right (fun x y hxy=>(PV.int.inj hxy).2)).1 ha;subst this;rfl
theorem qht{s s':GSig}(h:qae s=qae s'):s=s':=by obtain⟨a,b⟩:=s;obtain⟨a',b'⟩:=s';simp only[qae,PV.agg.injEq,List.cons.injEq,PV.slice.injEq]at h;obtain⟨⟨_,h1,_⟩,⟨_,h2,_⟩,_⟩:=h;have e1:a=a':=(List.map_inj_right (fun x y hxy=>PV.str.inj hxy)).1 h1;have e2:b=b':=(List.map_inj_right (fun x y hxy=>encOp_inj hxy)).1 h2;subst e1 e2;rfl
theorem qtb{s:GSig}(hs:Fits s):∃r:Int,((r=0∧sigP s)∨(r=40∧¬sigP s))∧∀h,Ev TL 87 [qae s] h (.val (.int .i64 r),⟨h,[],[]⟩):=by obtain⟨r,ev,kr⟩:=qmi qe1 qth qpc hs [];obtain⟨p1,p2⟩:=qjf s;obtain⟨v,⟨r',rfl,h2⟩,_,ev'⟩:=Ev.knows (T:=T0) (N:=200) (m:=qsw) (f:=87) (good:=qnu) rfl (args:=[qae s]) (by simp[qat,p1]) (by simp[qau,p2]) (qbd.of_ev qpd rfl ev) ⟨r,rfl,fun s' he=>by have:=qht (List.cons.inj he).1;subst this;exact kr⟩;exact⟨r',h2 s rfl,ev'⟩
end Go.Proofs.Tryz
namespace Go.Proofs.Tryz
open Go Go.AE
theorem encT_pw(t:Tm):(encT t).pure=true∧(encT t).weak=encT t:=(qa8 t).facts.2
theorem qgz{a b:List PV}(ha:qat a=true)(hb:qat b=true):qat (a++b)=true:=by
 induction a with
 |nil=>exact hb
 |cons x a ih=>
   simp only[qat,bA]at ha;simp only[List.cons_append,qat,ha.1,ih ha.2,Bool.and_self]
theorem qkf{a b:List PV}:qau (a++b)=qau a++qau b:=by
 induction a with
 |nil=>rfl
 |cons x a ih=>simp only[List.cons_append,qau,ih]
theorem qlf(t:Tm):qat (encT t).cells=true∧qau (encT t).cells=(encT t).cells:=by obtain⟨h1,h2⟩:=encT_pw t;obtain⟨cs,hc⟩:=(qa8 t).cells.2.2.2;rw[hc]at h1 h2⊢;exact⟨h1,by simpa[PV.weak,PV.cells]using h2⟩
theorem map_pw{α:Type}{f:α->PV}(h:∀x,(f x).pure=true∧(f x).weak=f x)(l:List α):qat (l.map f)=true∧qau (l.map f)=l.map f:=by
 induction l with
 |nil=>exact⟨rfl,rfl⟩
 |cons x l ih=>simp[qat,qau,h x,ih]
theorem encPair_pw(p:Tm×Tm):(qah p).pure=true∧(qah p).weak=qah p:=by obtain⟨a1,a2⟩:=qlf p.1;obtain⟨b1,b2⟩:=qlf p.2;exact⟨qgz a1 b1,by simp only[qah,PV.weak,qkf,a2,b2]⟩
theorem encEqn_pw(e:GEqn):(qak e).pure=true∧(qak e).weak=qak e:=by
 obtain⟨a1,a2⟩:=qlf e.A;obtain⟨b1,b2⟩:=qlf e.B;obtain⟨v1,v2⟩:=qfj e.vars;obtain⟨c1,c2⟩:=map_pw encPair_pw e.conds;refine⟨qgz ?_ (qgz a1 b1),?_⟩
 ·simp[qat,PV.pure,v1,c1]
 ·simp only[qak,PV.weak,qkf,a2,b2,qau,v2,c2]
theorem qow(t:GTy):(qan t).pure=true∧(qan t).weak=qan t:=by
 obtain⟨h1,h2⟩:=qjf t.sig;obtain⟨c1,c2⟩:=map_pw encEqn_pw t.eqns;simp only[qae,PV.pure,qat,Bool.and_true,bA]at h1;simp only[qae,PV.weak,qau,PV.agg.injEq,List.cons.injEq,and_true]at h2;refine⟨?_,?_⟩
 ·simp only[qan,PV.pure,qat,h1.1,h1.2,c1,Bool.and_self]
 ·simp only[qan,PV.weak,qau,h2.1,h2.2,c2]
theorem qle{t t':Tm}(h:encT t=encT t'):t=t':=(qa8 t).inj (h▸qa8 t')
theorem qs3{p p':Tm×Tm}(h:qah p=qah p'):p=p':=by
 obtain⟨⟨k,n,l⟩,⟨k',n',l'⟩⟩:=p;obtain⟨⟨j,m,r⟩,⟨j',m',r'⟩⟩:=p';have h1:encT (.mk k n l)=encT (.mk j m r)∧encT (.mk k' n' l')=encT (.mk j' m' r'):=by simp only[qah,encT,PV.cells,PV.agg.injEq,List.cons_append,List.nil_append,List.cons.injEq,and_true]at h⊢;exact⟨⟨h.1,h.2.1,h.2.2.1⟩,h.2.2.2⟩
 rw[qle h1.1,qle h1.2]
theorem encEqn_inj{e e':GEqn}(h:qak e=qak e'):e=e':=by
 obtain⟨v,c,⟨k,n,l⟩,⟨k',n',l'⟩⟩:=e;obtain⟨w,d,⟨j,m,r⟩,⟨j',m',r'⟩⟩:=e';simp only[qak,encT,PV.cells,PV.agg.injEq,List.cons_append,List.nil_append,List.cons.injEq,and_true,PV.slice.injEq,true_and]at h;obtain⟨h1,h2,h3,h4,h5,h6,h7,h8⟩:=h;have e1:v=w:=(List.map_inj_right (fun x y hxy=>(PV.int.inj hxy).2)).1 h1;have e2:c=d:=(List.map_inj_right (fun x y hxy=>qs3 hxy)).1 h2;have e3:encT (.mk k n l)=encT (.mk j m r):=by simp only[encT,h3,h4,h5]
 have e4:encT (.mk k' n' l')=encT (.mk j' m' r'):=by simp only[encT,h6,h7,h8]
 rw[e1,e2,qle e3,qle e4]
theorem qq3{t t':GTy}(h:qan t=qan t'):t=t':=by obtain⟨s,e⟩:=t;obtain⟨s',e'⟩:=t';simp only[qan,PV.agg.injEq,List.cons.injEq,and_true,PV.slice.injEq,true_and]at h;obtain⟨h1,h2,h3⟩:=h;have e1:s=s':=qht (by simp only[qae,h1,h2]);have e2:e=e':=(List.map_inj_right (fun x y hxy=>encEqn_inj hxy)).1 h3;rw[e1,e2]
def ql3(key:List PV)(v:PV):Prop:=∃r:Int,v=.int .i64 r∧∀t:GTy,key=[qan t]->(r=0∧TypP t)∨r=5
def good50(_:List PV)(v:PV):Prop:=∃x:PV×Int,v=.tuple [x.1,.int .i64 x.2]∧qrt x
def ql2(f:FuncId):Option (List PV->PV->Prop):=if f=103 then some ql3 else qsw f
def qkr(f:FuncId):Option (List PV->PV->Prop):=if f=50 then some good50 else ql2 f
noncomputable def TB:Tbl:=T0.knows Tryz.prog 200 ql2
theorem TB_ok:TblOK Tryz.prog TB:=Tbl.knows_ok qpd
theorem std_of{m:FuncId->Option (List PV->PV->Prop)}(hm:∀f,f∉qh1->m f=none):Std (T0.knows Tryz.prog 200 m)where
 sp f h:=by rw[Tbl.knows_sp (hm f h)];exact qe1.sp f h
 fn f:=by rw[Tbl.knows_fn];exact qe1.fn f
 prim:=by rw[Tbl.knows_prim];exact qe1.prim
 mode f:=by rw[Tbl.knows_mode];exact qe1.mode f
theorem qsu{f:FuncId}(h:f∉qh1):qkr f=none:=by simp only[qh1,mN,List.not_mem_nil,or_false,not_or]at h;simp[qkr,ql2,qsw,h]
theorem qsv{f:FuncId}(h:f∉qh1):ql2 f=none:=by simp only[qh1,mN,List.not_mem_nil,or_false,not_or]at h;simp[ql2,qsw,h]
theorem TB_std:Std TB:=std_of fun _ h=>qsv h
theorem T0_sp189:T0.sp 189=some (AE'.guardedSp 260 2):=by rw[qk4];rfl
theorem T0_sp50:T0.sp 50=none:=by rw[qk4];rfl
theorem T0_sp103:T0.sp 103=none:=by rw[qk4];rfl
theorem TL_sp103:TL.sp 103=none:=by rw[TL,Tbl.knows_sp rfl];exact T0_sp103
theorem TB_sp50:TB.sp 50=none:=by rw[TB,Tbl.knows_sp rfl];exact T0_sp50
theorem TB_sp189:TB.sp 189=some (AE'.guardedSp 260 2):=by rw[TB,Tbl.knows_sp rfl];exact T0_sp189
theorem check_of{m:FuncId->Option (List PV->PV->Prop)}(hm:m 87=some qnu){s:GSig}(hs:Fits s):∃r:Int,((r=0∧sigP s)∨(r=40∧¬sigP s))∧∀h,Ev (T0.knows Tryz.prog 200 m) 87 [qae s] h (.val (.int .i64 r),⟨h,[],[]⟩):=by obtain⟨r,ev,kr⟩:=qmi qe1 qth qpc hs [];obtain⟨p1,p2⟩:=qjf s;obtain⟨v,⟨r',rfl,h2⟩,_,ev'⟩:=Ev.knows (T:=T0) (N:=200) (m:=m) (f:=87) (good:=qnu) hm (args:=[qae s]) (by simp[qat,p1]) (by simp[qau,p2]) (qbd.of_ev qpd rfl ev) ⟨r,rfl,fun s' he=>by have:=qht (List.cons.inj he).1;subst this;exact kr⟩;exact⟨r',h2 s rfl,ev'⟩
theorem qpr{m:FuncId->Option (List PV->PV->Prop)}(hm:m 103=some ql3){t:GTy}(hs:Fits t.sig):∃r:Int,((r=0∧TypP t)∨r=5)∧∀h,Ev (T0.knows Tryz.prog 200 m) 103 [qan t] h (.val (.int .i64 r),⟨h,[],[]⟩):=by
 obtain⟨r0,kr,e87⟩:=qtb hs
 obtain⟨r,ev,hr⟩:=tcheck_ev TL_std TL_sp103 kr (fun h=>by
  rcases kr with⟨_,h⟩|⟨h,_⟩
  ·exact h.gok
  ·omega) e87 []
 obtain⟨p1,p2⟩:=qow t;obtain⟨v,⟨r',rfl,h2⟩,_,ev'⟩:=Ev.knows (T:=T0) (N:=200) (m:=m) (f:=103) (good:=ql3) hm (args:=[qan t]) (by simp[qat,p1]) (by simp[qau,p2]) (qbd.of_ev TL_ok rfl ev) ⟨r,rfl,fun t' he=>by have:=qq3 (List.cons.inj he).1;subst this;exact hr⟩;exact⟨r',h2 t rfl,ev'⟩
theorem tyin_of{m:FuncId->Option (List PV->PV->Prop)}(h87:m 87=some qnu)(h103:m 103=some ql3){t:GTy}(hs:Fits t.sig):∃r,TyIn (T0.knows Tryz.prog 200 m) t r:=by
 obtain⟨r0,kr,e87⟩:=check_of h87 hs;obtain⟨r,hr,ev⟩:=qpr h103 hs
 have hok:r=0->TypP t:=fun h=>by
  rcases hr with⟨_,h2⟩|h2
  ·exact h2
  ·omega
 refine⟨r,ev,hok,fun h=>(hok h).sig.gok,fun h=>?_⟩;rcases kr with⟨h1,_⟩|⟨_,h1⟩
 ·rw[←h1];exact e87
 ·exact absurd (hok h).sig h1
end Go.Proofs.Tryz
namespace Go.Proofs.Tryz
open Go Go.AE
theorem y0A_ev{l:Nat}{S:PV}{vs:List PV}(O:ListsOk S vs):∃e',EvC qem y0A [.func (.yield l) [] [],.iptr S 0] ⟨[],[],[]⟩ (.normal,e',⟨[.row 1 (List.replicate vs.length (iv 0))],[],[]⟩)∧eget e' 0=.func (.yield l) [] []∧eget e' 1=.iptr S 0∧eget e' 3=.aref 0 1 0 vs.length vs.length:=by
 obtain⟨z,m,hS,_⟩:=O.eq;have hvl:=O.len;have mk:=mk_ok (sz:=1) (bytes:=8) (n:=vs.length) (z:=iv 0) (by omega) (by omega) rfl;have lS:loadAt false 1 (.iptr S 0) []=some S:=by rw[hS];rfl
 have lu:lenOf S=some vs.length:=by rw[hS];rfl
 have key:wpC qem y0A [.func (.yield l) [] [],.iptr S 0] ⟨[],[],[]⟩ fun x e' st=>x=.normal∧st=⟨[.row 1 (List.replicate vs.length (iv 0))],[],[]⟩∧eget e' 0=.func (.yield l) [] []∧eget e' 1=.iptr S 0∧eget e' 3=.aref 0 1 0 vs.length vs.length:=by unfold y0A;simp(disch:=omega) only[go_sem,lS,lu,mk,List.length_nil]
 obtain⟨x,e1,s1,ev,rfl,rfl,h⟩:=wpC.sound key;exact⟨e1,ev,h⟩
theorem y0B_ev{l:Nat}{S:PV}{vs:List PV}(O:ListsOk S vs){e:List PV}{H:Hp}(e0:eget e 0=.func (.yield l) [] [])(e1:eget e 1=.iptr S 0)(e3:eget e 3=.aref 0 1 0 vs.length vs.length):
 ∃x e',EvC qem y0B e ⟨H,[],[]⟩ (x,e',⟨H,[],[]⟩)∧((x=.normal∧(∀v∈vs,qb4 v≠[])∧eget e' 0=.func (.yield l) [] []∧eget e' 1=.iptr S 0∧eget e' 3=.aref 0 1 0 vs.length vs.length)∨(x=.ret∧∃v∈vs,qb4 v=[])):=by
 obtain⟨z,m,hS,hz⟩:=O.eq;have hvl:=O.len;have lS:loadAt false 1 (.iptr S 0) H=some S:=by rw[hS];rfl
 have lu:lenOf S=some vs.length:=by rw[hS];rfl
 have key:wpC qem y0B e ⟨H,[],[]⟩ fun x e' st=>st=⟨H,[],[]⟩∧((x=.normal∧(∀v∈vs,qb4 v≠[])∧eget e' 0=.func (.yield l) [] []∧eget e' 1=.iptr S 0∧eget e' 3=.aref 0 1 0 vs.length vs.length)∨(x=.ret∧∃v∈vs,qb4 v=[])):=by
  unfold y0B;simp(disch:=omega) only[go_sem,e1,lS,lu]
  refine wpC.loopM (fun g e st=> ∃i:Nat,i+g=vs.length∧(∀j (hj:j<vs.length),j<i->qb4 vs[j]≠[])∧(eget e 0=.func (.yield l) [] []∧eget e 1=.iptr S 0∧eget e 3=.aref 0 1 0 vs.length vs.length∧eget e 13=S∧eget e 14=iv (vs.length:Int)∧eget e 15=iv (i:Int))∧st=⟨H,[],[]⟩) ?_ vs.length _ _
   ⟨0,by omega,fun j _ hj=>by omega,by simp only[go_sem,e0,e1,e3,Ag],rfl⟩
  clear e0 e1 e3;rintro g e st ⟨i,hi,hne,⟨e0,e1,e3,e13,e14,e15⟩,rfl⟩;by_cases h1:i<vs.length
  · have h1':(i:Int)< (vs.length:Int):=by omega
    have gv:vs[i]?=some vs[i]:=Ab h1;have hm:=Af h1;have hov:=O.all _ hm
    have hni:qb4 vs[i]≠[]->∀j (hj:j<vs.length),j<i+1->qb4 vs[j]≠[]:=fun h j hj hji=>by
     by_cases hjj:j=i
     ·subst hjj;exact h
     ·exact hne j hj (by omega)
    generalize vs[i]=u at*;obtain⟨zu,mu,hu,_,hul,_⟩:=qhn hov
    have ixS:qb2 1 S (iv (i:Int))=some (.iptr u 0):=by
     have hz1:z=1:=by
      rcases hz with rfl|h
      ·simp at h1
      ·exact h
     rw[hS,qdb,if_pos hz1,gv];rfl
    have su:AE.sub false 1 u 0=some u:=by rw[hu];rfl
    have luu:lenOf u=some (qb4 u).length:=by
     have:lenOf (.slice zu (qb4 u) mu)=some (qb4 u).length:=rfl
     rwa [←hu]at this
    by_cases hem:qb4 u=[]
    · have hb:(((qb4 u).length:Int)==0)=true:=by rw[hem];rfl
      simp(disch:=omega) only[go_sem,a182b0,e0,e1,e3,e13,e14,e15,h1',ixS,su,luu,hb];exact .inr ⟨u,hm,hem⟩
    · have hb:(((qb4 u).length:Int)==0)=false:=by have:0< (qb4 u).length:=List.length_pos_iff.2 hem;simp only[beq_eq_false_iff_ne];omega
      simp(disch:=omega) only[go_sem,a182b0,e0,e1,e3,e13,e14,e15,h1',ixS,su,luu,hb];exact⟨g - 1,by omega,i+1,by omega,hni hem,rfl,trivial⟩
  · have h1':¬(i:Int)< (vs.length:Int):=by omega
    simp(disch:=omega) only[go_sem,a182b0,e0,e1,e3,e14,e15,h1'];refine .inl ⟨fun v hv=>?_,trivial⟩;obtain⟨j,hj,rfl⟩:=List.getElem_of_mem hv;exact hne j hj (by omega)
 obtain⟨x,e',s1,ev,rfl,h⟩:=wpC.sound key;exact⟨x,e',ev,h⟩
theorem qlw{α:Type}:∀{ls:List (List α)},[]∈ls->qda ls=[]
 |l::ls,h=>by
   rcases mN.1 h with h|h
   ·subst h;rfl
   · simp only[qda,qlw h,List.map_nil];exact List.flatMap_eq_nil_iff.2 fun _ _=>rfl
def qpg(vs:List PV):Yss:=(qda (vs.map qb4)).map fun es=>[outV vs es]
theorem zero_in:∀{vs:List PV},(∀v∈vs,qb4 v≠[])->inI (qc3 vs) (List.replicate vs.length 0)
 |[],_=>trivial
 |v::vs,h=>⟨List.length_pos_iff.2 (h v (by simp)),zero_in fun u hu=>h u (by simp[hu])⟩
mutual
theorem qli:∀p:PV,p.pure=true->p.weak.pure=true
 |.slice _ es _,h=>qd0 es h
 |.iptr c _,h=>qli c h
 |.func _ f c,h=>by
   simp only[PV.pure,bA]at h;simp only[PV.weak,PV.pure,qd0 f h.1,qd0 c h.2,Bool.and_self]
 |.iface _ v,h=>qli v h
 |.agg cs,h=>qd0 cs h
 |.tuple vs,h=>qd0 vs h
 |.undef,_=>rfl
 |.bool _,_=>rfl
 |.int _ _,_=>rfl
 |.str _,_=>rfl
 |.aref ..,h=>h
 |.ptr ..,h=>h
 |.nilptr,_=>rfl
 |.map _,h=>h
 |.nilFunc,_=>rfl
 |.nilIface,_=>rfl
theorem qd0:∀l:List PV,qat l=true->qat (qau l)=true
 |[],_=>rfl
 |x::l,h=>by simp only[qat,bA]at h;simp only[qau,qat,qli x h.1,qd0 l h.2,Bool.and_self]
end
theorem sem182G{S:PV}{vs:List PV}(O:ListsOk S vs){captured:List PV}(hcp:qat captured=true)(hc:qau captured=[.iptr S 0]):qhc Tryz.prog 182 captured (qpg vs):=by
 have hSp:S.pure=true:=by
  have h:qat (qau captured)=true:=by
   exact qd0 captured hcp
  rw[hc]at h
  simpa[qat,PV.pure]using h
 have hp:∀v∈vs,v.pure=true:=by
  obtain⟨z,m,hS,_⟩:=O.eq
  rw[hS]at hSp
  exact qp4 hSp
 refine qns (T:=qem) mixed (fun _ _ h=>by cases h) Tryz.func182 (by decide) comp182 hcp fun l stop=>?_
 have key:∃e' st',YC (fun i=>decide (stop≠some i)) a182.code [.func (.yield l) [] [],.iptr S 0] ⟨[],[],[]⟩ [] (.ret,e',st',(upTo stop (qpg vs)).map fun ys=>(l,ys)):=by
  obtain⟨e1,rA,a0,a1,a3⟩:=y0A_ev (l:=l) O
  obtain⟨x,e2,rB,hB⟩:=y0B_ev O (H:=[.row 1 (List.replicate vs.length (iv 0))]) a0 a1 a3
  rcases hB with⟨rfl,hne,b0,b1,b3⟩|⟨rfl,v,hv,hve⟩
  · have hz:=zero_in hne
    have A:AtS l S vs e2 [.row 1 (List.replicate vs.length (iv 0))] (List.replicate vs.length 0):=⟨b0,b1,b3,by simp[encN],by simp,hz⟩
    obtain⟨e3,st3,h3⟩:=y3_loop (b:=fun i=>decide (stop≠some i)) O hp _ (ws:=[]) (g:=[]) (nR _) A
    have hr:=qjy hz
    simp only[List.map_replicate]at hr
    rw[hr]at h3
    have hy:(allI (qc3 vs)).map (fun cs=>[outV vs (qe4 (vs.map qb4) cs)])=qpg vs:=by
     unfold qpg
     rw[qni,List.map_map]
     have:(vs.map qb4).map List.length=qc3 vs:=by simp[qc3]
     rw[this];rfl
    rw[hy,List.nil_append,List.length_nil,emit_upTo]at h3
    exact⟨e3,st3,.seq (.of rfl rA (by simp)) (.seq (.of rfl rB (by simp)) (.block (.loop h3) (by simp)))⟩
  · refine⟨e2,⟨[.row 1 (List.replicate vs.length (iv 0))],[],[]⟩,?_⟩
    have hy:qpg vs=[]:=by
     unfold qpg
     rw[qlw];·rfl
     exact mM.2 ⟨v,hv,hve⟩
    have hu:upTo stop ([]:Yss)=[]:=by cases stop<;>rfl
    rw[hy,hu]
    exact .seq (.of rfl rA (by simp)) (.seqOut (.of rfl rB (by simp)) (by simp))
 obtain⟨e',st',N,hN⟩:=key
 refine⟨qbw qem N,N,qeq (noTbl_ok mixed) N,qeb (fun _ _ h=>by cases h) N,?_⟩
 rw[hc,af182_eq]
 have h1:([PV.func (.yield l) [] [],.iptr S 0]:List PV).length=a182.np∧a182.res=[]:=⟨rfl,rfl⟩
 unfold yBody
 rw[if_pos h1,hN N (nR _)]
def qoj(vs:List PV)(z:Nat):Bool:=decide (vs.length≤500)&& (vs.isEmpty||z==1)&&vs.all okYV
def itG(captured:List PV):Option (List (List PV)):=
 if qat captured=true then
  match qau captured with
  |[.iptr (.slice z vs _) 0]=>if qoj vs z=true then some (qpg vs)else none
  |_=>none
 else none
theorem itG_ok{captured:List PV}{yss:Yss}(h:itG captured=some yss):qhc Tryz.prog 182 captured yss:=by
 unfold itG at h;split at h
 · rename_i hp;split at h
   · rename_i z vs m hw;split at h
     · rename_i ho;cases h;simp only[qoj,bA,dE,Bool.or_eq_true,List.isEmpty_iff,beq_iff_eq,List.all_eq_true]at ho;exact sem182G ⟨⟨z,m,rfl,ho.1.2⟩,ho.1.1,ho.2⟩ hp hw
     ·cases h
   ·cases h
 ·cases h
end Go.Proofs.Tryz
