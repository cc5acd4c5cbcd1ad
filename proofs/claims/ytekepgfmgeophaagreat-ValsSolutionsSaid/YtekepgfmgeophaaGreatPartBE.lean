/- Texts of the proof, one behind the other: ValL11, ValQZ. -/
import Derived.Test.YtekepgfmgeophaaGreatPartAN
import Derived.Test.YtekepgfmgeophaaGreatPartAR
import Derived.Test.YtekepgfmgeophaaGreatPartBD
import Derived.Test.YtekepgfmgeophaaGreatPartAS
set_option linter.unusedVariables false
set_option linter.unusedSimpArgs false
namespace Go.Proofs.Tryz
open Go Go.AE
def good15(_:PL)(v:PV):Prop:=v=.bool true
def good87(key:PL)(v:PV):Prop:=∃r:Int,v=.int .i64 r∧∀s:GSig,key=[qaf s]→(r=0∧sigP s)∨(r=40∧¬sigP s)
def good91(key:PL)(v:PV):Prop:=∀(s:GSig)(a m:Nat)(n:Int),key=[encTab s,.int .i64 (a:Int),.int .i64 (m:Int),.int .i64 n]→Nth91 s a m n v∧IsT v
def goods(f:FuncId):Option (PL→PV→Prop):=if f=15 then some good15 else if f=87 then some good87 else if f=91 then some good91 else none
noncomputable def TL:Tbl:=T0.knows Tryz.prog 200 goods
theorem TL_ok:TblOK Tryz.prog TL:=Tbl.knows_ok qm9
theorem TL_std:Std TL where
 sp f h:=by
  have h2:f≠15∧f≠87∧f≠91:=by simp only[qgx,mN0,List.not_mem_nil,or_false,not_or]at h;exact⟨h.2.2.2.2.2.1,h.2.2.2.2.2.2.1,h.2.2.2.2.2.2.2.1⟩
  have e:goods f=none:=by simp[goods,h2]
  rw[TL,Tbl.knows_sp e];exact qfi.sp f h
 fn f:=by rw[TL,Tbl.knows_fn];exact qfi.fn f
 prim:=by rw[TL,Tbl.knows_prim];exact qfi.prim
 mode f:=by rw[TL,Tbl.knows_mode];exact qfi.mode f
theorem T0_sp87:T0.sp 87=none:=by rw[qm8];rfl
theorem T0_sp208:T0.sp 208=some (qcr qpq):=by rw[qm8];rfl
theorem qmj(s:GSig):(qaf s).pure=true∧(qaf s).weak=qaf s:=by
 obtain⟨⟨a,b⟩,c,d⟩:=enc_pure s;refine⟨?_,?_⟩
 · simp only[qaf,PV.pure,qas,Bool.and_true]at a c⊢;rw[a,c];rfl
 · simp only[qaf,PV.weak,qaq]at b d⊢;rw[(PV.slice.inj b).2.1,(PV.slice.inj d).2.1]
theorem encOp_inj{o o':GOp}(h:qao o=qao o'):o=o':=by obtain⟨n,a,r⟩:=o;obtain⟨n',a',r'⟩:=o';simp only[qao,PV.agg.injEq,List.cons.injEq,PV.str.injEq,PV.slice.injEq,PV.int.injEq]at h;obtain⟨rfl,⟨_,ha,_⟩,⟨_,rfl⟩,_⟩:=h;have:a=a':=(List.map_inj_right (fun x y hxy=>(PV.int.inj hxy).2)).1 ha;subst this;rfl
theorem qj6{s s':GSig}(h:qaf s=qaf s'):s=s':=by obtain⟨a,b⟩:=s;obtain⟨a',b'⟩:=s';simp only[qaf,PV.agg.injEq,List.cons.injEq,PV.slice.injEq]at h;obtain⟨⟨_,h1,_⟩,⟨_,h2,_⟩,_⟩:=h;have e1:a=a':=(List.map_inj_right (fun x y hxy=>PV.str.inj hxy)).1 h1;have e2:b=b':=(List.map_inj_right (fun x y hxy=>encOp_inj hxy)).1 h2;subst e1 e2;rfl
theorem qtk{s:GSig}(hs:Fits s):∃r:Int,((r=0∧sigP s)∨(r=40∧¬sigP s))∧∀h,Ev TL 87 [qaf s] h (ba (.int .i64 r) h):=by obtain⟨r,ev,kr⟩:=qrq qfi T0_sp87 T0_sp208 hs [];obtain⟨p1,p2⟩:=qmj s;obtain⟨v,⟨r',rfl,h2⟩,_,ev'⟩:=Ev.knows (T:=T0) (N:=200) (m:=goods) (f:=87) (good:=good87) rfl (args:=[qaf s]) (by simp[qas,p1]) (by simp[qaq,p2]) (qbd.of_ev qm9 rfl ev) ⟨r,rfl,fun s' he=>by have:=qj6 (List.cons.inj he).1;subst this;exact kr⟩;exact⟨r',h2 s rfl,ev'⟩
end Go.Proofs.Tryz
namespace Go.Proofs.Tryz
open Go Go.AE
theorem qtd(t:Tm):(encT t).pure=true∧(encT t).weak=encT t:=(qa6 t).facts.2
theorem qg3{a b:PL}(ha:qas a=true)(hb:qas b=true):qas (a++b)=true:=by
 induction a with
 |nil=>exact hb
 |cons x a ih=>
   simp only[qas,bA0]at ha;simp only[List.cons_append,qas,ha.1,ih ha.2,Bool.and_self]
theorem qkd{a b:PL}:qaq (a++b)=qaq a++qaq b:=by
 induction a with
 |nil=>rfl
 |cons x a ih=>simp only[List.cons_append,qaq,ih]
theorem qla(t:Tm):qas (encT t).cells=true∧qaq (encT t).cells=(encT t).cells:=by obtain⟨h1,h2⟩:=qtd t;obtain⟨cs,hc⟩:=(qa6 t).cells.2.2.2;rw[hc]at h1 h2⊢;exact⟨h1,by simpa[PV.weak,PV.cells]using h2⟩
theorem map_pw{α:Type}{f:α→PV}(h:∀x,(f x).pure=true∧(f x).weak=f x)(l:List α):qas (l.map f)=true∧qaq (l.map f)=l.map f:=by
 induction l with
 |nil=>exact⟨rfl,rfl⟩
 |cons x l ih=>simp[qas,qaq,h x,ih]
theorem encPair_pw(p:Tm×Tm):(qag p).pure=true∧(qag p).weak=qag p:=by obtain⟨a1,a2⟩:=qla p.1;obtain⟨b1,b2⟩:=qla p.2;exact⟨qg3 a1 b1,by simp only[qag,PV.weak,qkd,a2,b2]⟩
theorem encEqn_pw(e:GEqn):(qaj e).pure=true∧(qaj e).weak=qaj e:=by
 obtain⟨a1,a2⟩:=qla e.A;obtain⟨b1,b2⟩:=qla e.B;obtain⟨v1,v2⟩:=qhb e.vars;obtain⟨c1,c2⟩:=map_pw encPair_pw e.conds;refine⟨qg3 ?_ (qg3 a1 b1),?_⟩
 ·simp[qas,PV.pure,v1,c1]
 ·simp only[qaj,PV.weak,qkd,a2,b2,qaq,v2,c2]
theorem qk9(t:GTy):(qai t).pure=true∧(qai t).weak=qai t:=by
 obtain⟨h1,h2⟩:=qmj t.sig;obtain⟨c1,c2⟩:=map_pw encEqn_pw t.eqns;simp only[qaf,PV.pure,qas,Bool.and_true,bA0]at h1;simp only[qaf,PV.weak,qaq,PV.agg.injEq,List.cons.injEq,and_true]at h2;refine⟨?_,?_⟩
 ·simp only[qai,PV.pure,qas,h1.1,h1.2,c1,Bool.and_self]
 ·simp only[qai,PV.weak,qaq,h2.1,h2.2,c2]
theorem qhx{t t':Tm}(h:encT t=encT t'):t=t':=(qa6 t).inj (h▸qa6 t')
theorem qte{p p':Tm×Tm}(h:qag p=qag p'):p=p':=by
 obtain⟨⟨k,n,l⟩,⟨k',n',l'⟩⟩:=p;obtain⟨⟨j,m,r⟩,⟨j',m',r'⟩⟩:=p';have h1:encT (.mk k n l)=encT (.mk j m r)∧encT (.mk k' n' l')=encT (.mk j' m' r'):=by simp only[qag,encT,PV.cells,PV.agg.injEq,List.cons_append,List.nil_append,List.cons.injEq,and_true]at h⊢;exact⟨⟨h.1,h.2.1,h.2.2.1⟩,h.2.2.2⟩
 rw[qhx h1.1,qhx h1.2]
theorem encEqn_inj{e e':GEqn}(h:qaj e=qaj e'):e=e':=by
 obtain⟨v,c,⟨k,n,l⟩,⟨k',n',l'⟩⟩:=e;obtain⟨w,d,⟨j,m,r⟩,⟨j',m',r'⟩⟩:=e';simp only[qaj,encT,PV.cells,PV.agg.injEq,List.cons_append,List.nil_append,List.cons.injEq,and_true,PV.slice.injEq,true_and]at h;obtain⟨h1,h2,h3,h4,h5,h6,h7,h8⟩:=h;have e1:v=w:=(List.map_inj_right (fun x y hxy=>(PV.int.inj hxy).2)).1 h1;have e2:c=d:=(List.map_inj_right (fun x y hxy=>qte hxy)).1 h2;have e3:encT (.mk k n l)=encT (.mk j m r):=by simp only[encT,h3,h4,h5]
 have e4:encT (.mk k' n' l')=encT (.mk j' m' r'):=by simp only[encT,h6,h7,h8]
 rw[e1,e2,qhx e3,qhx e4]
theorem qjd{t t':GTy}(h:qai t=qai t'):t=t':=by obtain⟨s,e⟩:=t;obtain⟨s',e'⟩:=t';simp only[qai,PV.agg.injEq,List.cons.injEq,and_true,PV.slice.injEq,true_and]at h;obtain⟨h1,h2,h3⟩:=h;have e1:s=s':=qj6 (by simp only[qaf,h1,h2]);have e2:e=e':=(List.map_inj_right (fun x y hxy=>encEqn_inj hxy)).1 h3;rw[e1,e2]
def ql8(key:PL)(v:PV):Prop:=∃r:Int,v=.int .i64 r∧∀t:GTy,key=[qai t]→(r=0∧TypP t)∨r=5
def qn8(f:FuncId):Option (PL→PV→Prop):=if f=103 then some ql8 else goods f
noncomputable def TB:Tbl:=T0.knows Tryz.prog 200 qn8
theorem TB_ok:TblOK Tryz.prog TB:=Tbl.knows_ok qm9
theorem std_of{m:FuncId→Option (PL→PV→Prop)}(hm:∀f,f∉qgx→m f=none):Std (T0.knows Tryz.prog 200 m)where
 sp f h:=by rw[Tbl.knows_sp (hm f h)];exact qfi.sp f h
 fn f:=by rw[Tbl.knows_fn];exact qfi.fn f
 prim:=by rw[Tbl.knows_prim];exact qfi.prim
 mode f:=by rw[Tbl.knows_mode];exact qfi.mode f
theorem qij{f:FuncId}(h:f∉qgx):qn8 f=none:=by simp only[qgx,mN0,List.not_mem_nil,or_false,not_or]at h;simp[qn8,goods,h]
theorem TB_std:Std TB:=std_of fun _ h=>qij h
theorem T0_sp189:T0.sp 189=some (AE'.guardedSp 260 2):=by rw[qm8];rfl
theorem T0_sp103:T0.sp 103=none:=by rw[qm8];rfl
theorem TL_sp103:TL.sp 103=none:=by rw[TL,Tbl.knows_sp rfl];exact T0_sp103
theorem TB_sp137:TB.sp 137=none:=by rw[TB,Tbl.knows_sp rfl,qm8];rfl
theorem TB_sp189:TB.sp 189=some (AE'.guardedSp 260 2):=by rw[TB,Tbl.knows_sp rfl];exact T0_sp189
theorem tcheck_of{m:FuncId→Option (PL→PV→Prop)}(hm:m 103=some ql8){t:GTy}(hs:Fits t.sig):∃r:Int,((r=0∧TypP t)∨r=5)∧∀h,Ev (T0.knows Tryz.prog 200 m) 103 [qai t] h (ba (.int .i64 r) h):=by
 obtain⟨r0,kr,e87⟩:=qtk hs
 obtain⟨r,ev,hr⟩:=tcheck_ev TL_std TL_sp103 kr (fun h=>by
  rcases kr with⟨_,h⟩|⟨h,_⟩
  ·exact h.gok
  ·omega) e87 []
 obtain⟨p1,p2⟩:=qk9 t;obtain⟨v,⟨r',rfl,h2⟩,_,ev'⟩:=Ev.knows (T:=T0) (N:=200) (m:=m) (f:=103) (good:=ql8) hm (args:=[qai t]) (by simp[qas,p1]) (by simp[qaq,p2]) (qbd.of_ev TL_ok rfl ev) ⟨r,rfl,fun t' he=>by have:=qjd (List.cons.inj he).1;subst this;exact hr⟩;exact⟨r',h2 t rfl,ev'⟩
end Go.Proofs.Tryz
