/- Texts of the proof, one behind the other: ValYF, ValFnsY, ValYG, ValYH, ValYI, ValYJ, ValYK, ValYL, ValYM, ValYN, ValYO, ValYP, ValFnsZ, ValZA, ValZB, ValZC, ValZD, ValZE, ValZF, ValZG, ValZH, ValZI, ValZJ, ValZK, ValZL, ValZM, ValZN, ValZO, ValZP, ValZQ. -/
import Derived.Test.YtekepgfmgeophaaGreatPartBE
import Derived.Test.YtekepgfmgeophaaGreatPartBF
import Derived.Test.YtekepgfmgeophaaGreatPartAJ
import Derived.Test.YtekepgfmgeophaaGreatPartAS
import Derived.Test.YtekepgfmgeophaaGreatPartAM
set_option linter.unusedVariables false
set_option linter.unusedSimpArgs false
namespace Go.Proofs.Tryz
open Go Go.AE
noncomputable def T9:Tbl:={T0 with iter:=fun f=>if f=182 then some itG else none}
theorem T9_sp:T9.sp=T0.sp:=by unfold T9;with_reducible rfl
theorem T9_fn:T9.fn=T0.fn:=by unfold T9;with_reducible rfl
theorem T9_prim:T9.prim=T0.prim:=by unfold T9;with_reducible rfl
theorem T9_mode:T9.mode=T0.mode:=by unfold T9;with_reducible rfl
theorem T9_iter:T9.iter=fun f=>if f=182 then some itG else none:=by unfold T9;with_reducible rfl
theorem T9_ok:TblOK Tryz.prog T9:=by
 have O:=qpd
 have it:qkd Tryz.prog T9:=fun f it h captured yss hc=>by
  rw[T9_iter]at h;have h:(if f=182 then some itG else none)=some it:=h;split at h
  · rename_i e;cases e;cases h;exact itG_ok hc
  ·cases h
 refine⟨O.mixed,fun f p h=>O.prim f p (by rw[←T9_prim];exact h),it,fun f af h=>O.fn f af (by rw[←T9_fn];exact h),fun f sp h=>O.step f sp (by rw[←T9_sp];exact h),fun f sp h=>O.sp f sp (by rw[←T9_sp];exact h)⟩
noncomputable def canT(X:PV):PV:=by
 classical
 exact if h:∃u,Enc u X then encT h.choose else X
theorem canT_eq{u:Tm}{X:PV}(h:Enc u X):canT X=encT u:=by have hx:∃u,Enc u X:=⟨u,h⟩;unfold canT;rw[dif_pos hx,hx.choose_spec.inj h]
noncomputable def kapN(f:FuncId)(args:List PV):List PV:=if f=50 then(match args with|[a,X]=>[a,canT X]|l=>qau l)else qau args
mutual
theorem qml:∀{u:Tm}{X:PV},Enc u X->alike X (encT u)=true
 |.mk k n l,X,h=>by
   obtain⟨k',n',l',sz,es,e,rfl,hz,hE⟩:=h.eq;cases e;simp only[encT,alike,qbx,decide_true,Bool.true_and,Bool.and_true];have:=qn2 hE;rcases hz with rfl|rfl
   · have hl:l=[]:=lZ.1 hE.1.symm;subst hl;rfl
   ·simp[this]
theorem qn2:∀{l:List Tm}{es:List PV},EncL l es->qbx es (qmy l)=true
 |[],es,h=>by
   have:es=[]:=lZ.1 h.1;subst this;rfl
 |t::l,[],h=>by have:=h.1;simp at this
 |t::l,e::es,h=>by have a:=qml (h.2 0 t e rfl rfl);have b:=qn2 (l:=l) (es:=es) ⟨by have:=h.1;simpa using this,fun i x p hx hp=>h.2 (i+1) x p hx hp⟩;simp only[qmy,qbx,a,b,Bool.and_self]
end
theorem qed{α:Type}{f:α->PV}(h:∀x,alike (f x) (f x)=true):∀l:List α,qbx (l.map f) (l.map f)=true
 |[]=>rfl
 |x::l=>by simp only[List.map_cons,qbx,h x,qed h l,Bool.and_self]
theorem qhx{sz:Nat}{es:List PV}(h:qbx es es=true):alike (.slice sz es .any) (.slice sz es .any)=true:=by simp[alike,h]
theorem qhy(u:Tm):alike (encT u) (encT u)=true:=qml (qa8 u)
theorem alike_ty(t:GTy):alike (qan t) (qan t)=true:=by
 have h1:∀b:ByteArray,alike (.str b) (.str b)=true:=fun b=>by simp[alike]
 have hi:∀n:Int,alike (encI n) (encI n)=true:=fun n=>by simp[alike,encI]
 have h2:∀o:GOp,alike (qap o) (qap o)=true:=fun o=>by have:=qhx (sz:=1) (qed hi o.args);show(alike (.str o.name) (.str o.name)&& (alike (.slice 1 (o.args.map encI) .any) (.slice 1 (o.args.map encI) .any)&& (alike (.int .i64 o.res) (.int .i64 o.res)&&true)))=true;rw[h1,this];simp[alike]
 have hp:∀p:Tm×Tm,alike (qah p) (qah p)=true:=fun p=>qdw (qdo (qhy _)) (qdo (qhy _));have h3:∀e:GEqn,alike (qak e) (qak e)=true:=fun e=>by refine qdw ?_ (qdw (qdo (qhy _)) (qdo (qhy _)));simp only[qbx,qhx (sz:=1) (qed hi e.vars),qhx (sz:=6) (qed hp e.conds),Bool.and_self]
 show(alike (.slice 1 (t.sig.sorts.map .str) .any) (.slice 1 (t.sig.sorts.map .str) .any)&& (alike (.slice 3 (t.sig.ops.map qap) .any) (.slice 3 (t.sig.ops.map qap) .any)&& (alike (.slice 8 (t.eqns.map qak) .any) (.slice 8 (t.eqns.map qak) .any)&&true)))=true;rw[qhx (sz:=1) (qed h1 t.sig.sorts),qhx (sz:=3) (qed h2 t.sig.ops),qhx (sz:=8) (qed h3 t.eqns)];rfl
noncomputable def TD:Tbl:=T9.knowsK Tryz.prog 200 qkr kapN
theorem TD_ok:TblOK Tryz.prog TD:=Tbl.knowsK_ok T9_ok
theorem TD_sp{f:FuncId}(h:qkr f=none):TD.sp f=T0.sp f:=by rw[TD,Tbl.knowsK_sp h,T9_sp]
theorem TD_std:Std TD where
 sp f h:=by rw[TD_sp (qsu h)];exact qe1.sp f h
 fn f:=by rw[TD,Tbl.knowsK_fn,T9_fn];exact qe1.fn f
 prim:=by rw[TD,Tbl.knowsK_prim,T9_prim];exact qe1.prim
 mode f:=by rw[TD,Tbl.knowsK_mode,T9_mode];exact qe1.mode f
theorem TD_iter:TD.iter 182=some itG:=by rw[TD,Tbl.knowsK_iter,T9_iter];rfl
theorem qqo{f:FuncId}(h:f≠50)(args:List PV):kapN f args=qau args:=by simp[kapN,h]
theorem saneD_ev(h:Hp):Ev TD 15 [] h (.val (.bool true),⟨h,[],[]⟩):=by obtain⟨v,hv,_,ev⟩:=Ev.knowsK (T:=T9) (N:=200) (m:=qkr) (κ:=kapN) (f:=15) (good:=good15) rfl sane_known rfl;cases hv;exact ev [] rfl rfl (.inl rfl) h
theorem tyinD{t:GTy}(hs:Fits t.sig):∃r,TyIn TD t r:=by
 obtain⟨r0,ev0,kr0⟩:=qmi qe1 qth qpc hs [];obtain⟨p1,p2⟩:=qjf t.sig;obtain⟨v,⟨r1,rfl,k1⟩,_,ev1⟩:=Ev.knowsK (T:=T9) (N:=200) (m:=qkr) (κ:=kapN) (f:=87) (good:=qnu) rfl (qbd.of_ev qpd rfl ev0) ⟨r0,rfl,fun s' he=>by have:=qht (List.cons.inj he).1;subst this;exact kr0⟩;have e87:=fun h=>ev1 [qae t.sig] (by simp[qat,p1]) (by rw[qqo (by decide)];simp[qau,p2]) (.inl (by simp[qau,p2])) h;obtain⟨r2,hr2,ev2⟩:=qpr (m:=ql2) rfl hs;obtain⟨q1,q2⟩:=qow t;obtain⟨v,⟨r3,rfl,k3⟩,_,ev3⟩:=Ev.knowsK (T:=T9) (N:=200) (m:=qkr) (κ:=kapN) (f:=103) (good:=ql3) rfl (qbd.of_ev TB_ok rfl (ev2 [])) ⟨r2,rfl,fun t' he=>by have:=qq3 (List.cons.inj he).1;subst this;exact hr2⟩
 have hok:r3=0->TypP t:=fun h=>by
  rcases k3 t rfl with⟨_,h2⟩|h2
  ·exact h2
  ·omega
 refine⟨r3,fun h=>ev3 [qan t] (by simp[qat,q1]) (by rw[qqo (by decide)];simp[qau,q2]) (.inl (by simp[qau,q2])) h,hok,fun h=>(hok h).sig.gok,fun h=>?_⟩;rcases k1 t.sig rfl with⟨h1,_⟩|⟨_,h1⟩
 ·rw[←h1];exact e87
 ·exact absurd (hok h).sig h1
structure NTm (T:Tbl)(t:GTy)(nt:Tm->PV×Int):Prop where
 nx:∀u,qrt (nt u)
 ev:∀(u:Tm)(X:PV),Enc u X->∀h,Ev T 50 [qan t,X] h (.val (.tuple [(nt u).1,.int .i64 (nt u).2]),⟨h,[],[]⟩)
theorem ntmD{t:GTy}(hs:Fits t.sig):∃nt,NTm TD t nt:=by
 classical
 have key:∀u:Tm,∃x:PV×Int,qrt x∧∀X,Enc u X->∀h,Ev TD 50 [qan t,X] h (.val (.tuple [x.1,.int .i64 x.2]),⟨h,[],[]⟩):=fun u=>by
  obtain⟨r',I'⟩:=tyin_of (m:=ql2) rfl rfl hs;obtain⟨x,ev,hx⟩:=qse TB_std TB_sp50 TB_sp189 I' (qa8 u) [];obtain⟨p1,p2⟩:=qow t;obtain⟨_,_,_,_,f1,_,_⟩:=hx.facts;obtain⟨v,⟨y,rfl,hy⟩,_,ev'⟩:=Ev.knowsK (T:=T9) (N:=200) (m:=qkr) (κ:=kapN) (f:=50) (good:=good50) rfl (qbd.of_ev TB_ok (by simp[PV.pure,qat,f1]) ev) ⟨x,rfl,hx⟩;obtain⟨_,_,_,_,_,g2,_⟩:=hy.facts;refine⟨y,hy,fun X hX h=>?_⟩;obtain⟨_,q1,q2⟩:=hX.facts;have hw:qau [qan t,X]=[qan t,X]:=by simp[qau,p2,q2]
  have:=ev' [qan t,X] (by simp[qat,p1,q1]) (by simp only[kapN,if_true];rw[canT_eq hX]) (.inr (by rw[hw];simp only[qbx,alike_ty,qml hX,Bool.and_self])) h;have hv:(PV.tuple [y.1,.int .i64 y.2]).weak=.tuple [y.1,.int .i64 y.2]:=by simp[PV.weak,qau,g2]
  rw[hv]at this;exact this
 exact⟨fun u=>(key u).choose,fun u=>(key u).choose_spec.1,fun u=>(key u).choose_spec.2⟩
theorem NTm.val{T:Tbl}{t:GTy}{nt:Tm->PV×Int}(N:NTm T t nt):∃nv,NVal T t nv∧∀u X,Enc u X->nv X=nt u:=by
 classical
 have e:∀u X,Enc u X->(fun X=>if h:∃u,Enc u X then nt h.choose else(qeu,1)) X=nt u:=fun u X hX=>by have hx:∃u,Enc u X:=⟨u,hX⟩;simp only[dif_pos hx];rw[hx.choose_spec.inj hX]
 refine⟨_,fun u X hX=>?_,e⟩;have:=e u X hX;simp only at this;rw[this];exact⟨N.nx u,N.ev u X hX⟩
end Go.Proofs.Tryz
namespace Go.Proofs.Tryz
open Go Go.AE
def a38b0:ACode:=(Aa [lo 23 22 21] (.seq (cn 23 .skip (.exit 2)) (.seq (.block 3 (Aa [ro 24 (ix 1 20 22),rp 25 (l1 24),mv 10 25] (.seq (Aa [mv 26 10,ro 27 (bc .lss 26 0),mv 28 27,rg 29 (mo 10) 28 false,rg 30 (mo 0) 28 false,rg 31 (ll 30) 28 false,rg 32 (bi .geq 29 31) 28 false,ro 33 (.pick (.t 28) (.c (.bool true)) (.t 32))] (cn 33 (.exit 3) .skip)) (Aa [mv 34 8,mv 35 0,mv 36 10,ro 37 (ix 1 35 36),rp 38 (l1 37),ro 39 (ll 38),ro 40 (bi .mul 34 39),mv 8 40] (Aa [mv 41 8,ro 42 (bc .gtr 41 500)] (cn 42 (Aa [ro 4 (.move (.c (.bool false)))] .ret) .skip)))))) (.reg [nx 43 22,mv 22 43]))))
def a38b1:ACode:=(Aa [lo 14 13 12] (.seq (cn 14 .skip (.exit 0)) (.seq (.block 1 (Aa [ro 15 (ix 1 11 13),rp 16 (l1 15),mv 7 16] (Aa [ro 8 (.move (ci 1))] (.seq (Aa [mv 17 7,ro 18 (ll 17),ro 19 (bc .gtr 18 100)] (cn 19 (Aa [ro 4 (.move (.c (.bool false)))] .ret) .skip)) (.seq (Aa [mv 20 7,ro 21 (ll 20),c0 22] (Ad 2 a38b0)) (.reg [mv 44 5,mv 45 8,ro 46 (bi .add 44 45),mv 5 46])))))) (.reg [nx 47 13,mv 13 47]))))
def a38:AFunc:=⟨2,50,(Aa [ro 4 (.move (.c (.bool false)))] (Aa [c0 5] (.seq (Aa [mv 11 1,ro 12 (ll 11),c0 13] (Ad 0 a38b1)) (Aa [mv 48 5,ro 49 (bc .leq 48 2000),mv 4 49] .ret)))),[.t 4]⟩
theorem fn38:fnOf 38=some a38:=by kernel_rfl
def a114:AFunc:=⟨2,14,(Aa [rp 2 (.box 3 (.t 0)),c0 4] (.seq (Aa [rp 6 (l3 2),rp 7 (.call (.f 103) [(.t 6)]),mv 5 7] (Aa [mv 8 5,ro 9 (bc .neq 8 0)] (cn 9 (Aa [mv 10 5,mv 4 10] .ret) .skip))) (Aa [rp 11 (l3 2),mv 12 1,rp 13 (.call (.f 104) [(.t 11),(.t 12)]),mv 4 13] .ret))),[.t 4]⟩
theorem fn114:fnOf 114=some a114:=by kernel_rfl
def a116b0:ACode:=(Aa [lo 15 14 13] (.seq (cn 15 .skip (.exit 0)) (.seq (.block 1 (Aa [ro 16 (ix 1 12 14),rp 17 (l1 16),mv 9 17] (Aa [mv 18 6,mv 19 0,mv 20 9,ro 21 (ix 1 19 20),rp 22 (l1 21),ro 23 (.buildSlice 1 (.slice 0 [] .nil) 1 [(0,(.t 22))]),rp 24 (.append 1 24 (.t 18) (.t 23)),mv 6 24] (.reg [mv 25 7,mv 26 0,mv 27 9,ro 28 (ix 1 26 27),rp 29 (l1 28),ro 30 (ll 29),rp 31 (.call (.f 165) [(.t 25),(.t 30)]),mv 7 31])))) (.reg [nx 32 14,mv 14 32]))))
def a116b1:ACode:=(Aa [lo 36 35 34] (.seq (cn 36 .skip (.exit 2)) (.seq (.block 3 (Aa [ro 37 (ix 1 33 35),rp 38 (l1 37),mv 11 38] (Aa [mv 39 11,ro 40 (ll 39),ro 41 (bc .eql 40 0)] (cn 41 (Aa [mv 42 6,mv 4 42,c0 5] .ret) .skip)))) (.reg [nx 43 35,mv 35 43]))))
def a116:AFunc:=⟨2,46,(Aa [ro 4 (.move (.c (.slice 0 [] .nil))),c0 5] (Aa [ro 6 (.move (.c (.slice 0 [] .nil)))] (Aa [ro 7 (.move (ci 1))] (.seq (Aa [mv 12 1,ro 13 (ll 12),c0 14] (Ad 0 a116b0)) (.seq (Aa [mv 33 6,ro 34 (ll 33),c0 35] (Ad 2 a116b1)) (Aa [mv 44 6,mv 45 7,mv 4 44,mv 5 45] .ret)))))),[.t 4,.t 5]⟩
theorem fn116:fnOf 116=some a116:=by kernel_rfl
def a117:AFunc:=⟨1,4,(Aa [rp 1 (.box 1 (.t 0)),ro 2 (.move (.c .nilFunc))] (Aa [ro 3 (.mkFunc (.func 182) [] [(.t 1)]),mv 2 3] .ret)),[.t 2]⟩
theorem fn117:fnOf 117=some a117:=by kernel_rfl
def a119b0:ACode:=(Aa [lo 11 10 9] (.seq (cn 11 .skip (.exit 0)) (.seq (.block 1 (Aa [ro 12 (ix 3 8 10),rp 13 (l3 12),rp 5 (.box 3 (.c zq3)),ws 3 5 13] (Aa [rp 15 (l3 5),rp 16 (.call (.f 183) [(.t 15),(.c (.slice 0 [] .nil))]),mv 14 16,ro 17 (et 14 0),ro 18 (et 14 1),rp 6 (.box 3 (.c zq3)),ws 3 6 17,mv 7 18] (.reg [mv 19 3,rp 20 (l3 6),ro 21 (.buildSlice 3 zq3 1 [(0,(.t 20))]),rp 22 (.append 3 40 (.t 19) (.t 21)),mv 3 22])))) (.reg [nx 23 10,mv 10 23]))))
def a119:AFunc:=⟨1,25,(Aa [ro 2 (.move (.c (.slice 0 [] .nil)))] (Aa [ro 3 (.move (.c (.slice 0 [] .nil)))] (.seq (Aa [mv 8 0,ro 9 (ll 8),c0 10] (Ad 0 a119b0)) (Aa [mv 24 3,mv 2 24] .ret)))),[.t 2]⟩
theorem fn119:fnOf 119=some a119:=by kernel_rfl
def a183:AFunc:=⟨2,23,(Aa [rp 2 (.box 3 (.t 0)),rp 4 (.box 3 (.c zq3)),c0 5] (.seq (Aa [rp 8 (l3 2),rp 9 (.call (.f 130) [(.t 8)]),ro 10 (no 9)] (cn 10 (Aa [ro 11 (.build [(.int .i64 0),(.int .i64 0),(.slice 0 [] .nil)] []),ws 3 4 11,ro 5 (.move (ci 4))] .ret) .skip)) (Aa [rp 13 (l3 2),mv 14 1,rp 15 (.call (.f 225) [(.t 13),(.t 14)]),mv 12 15,ro 16 (et 12 0),ro 17 (et 12 1),rp 6 (.box 3 (.c zq3)),ws 3 6 16,mv 7 17] (.seq (Aa [mv 18 7,ro 19 (no 18)] (cn 19 (Aa [ro 20 (.build [(.int .i64 0),(.int .i64 0),(.slice 0 [] .nil)] []),ws 3 4 20,ro 5 (.move (ci 41))] .ret) .skip)) (Aa [rp 21 (l3 6),rp 22 (.call (.f 226) [(.t 21)]),ws 3 4 22,c0 5] .ret))))),[.cell 4 true 3,.t 5]⟩
theorem fn183:fnOf 183=some a183:=by kernel_rfl
def a225b0:ACode:=(Aa [lo 11 10 9] (.seq (cn 11 .skip (.exit 0)) (.seq (.block 1 (Aa [ro 12 (ix 1 8 10),rp 13 (l1 12),mv 7 13] (.seq (Aa [mv 14 7,ro 15 (bc .lss 14 0),mv 16 15,rg 17 (mo 7) 16 false,rg 18 (fa 2 2) 16 false,rh 19 (l1 18) 16 false,rg 20 (ll 19) 16 false,rg 21 (bi .geq 17 20) 16 false,ro 22 (.pick (.t 16) (.c (.bool true)) (.t 21))] (cn 22 (Aa [ro 23 (.build [(.int .i64 0),(.int .i64 0),(.slice 0 [] .nil)] []),ws 3 4 23,ro 5 (.move (.c (.bool false)))] .ret) .skip)) (.reg [ro 24 (fa 2 2),rp 25 (l1 24),mv 26 7,ro 27 (ix 3 25 26),rp 28 (l3 27),ws 3 2 28])))) (.reg [nx 29 10,mv 10 29]))))
def a225:AFunc:=⟨2,31,(Aa [rp 2 (.box 3 (.t 0)),rp 4 (.box 3 (.c zq3)),ro 5 (.move (.c (.bool false)))] (.seq (Aa [mv 8 1,ro 9 (ll 8),c0 10] (Ad 0 a225b0)) (Aa [rp 30 (l3 2),ws 3 4 30,ro 5 (.move (.c (.bool true)))] .ret))),[.cell 4 true 3,.t 5]⟩
theorem fn225:fnOf 225=some a225:=by kernel_rfl
end Go.Proofs.Tryz
namespace Go.Proofs.Tryz
open Go Go.AE
open Go.AE.Obj (row)
variable {T:Tbl}(hT:Std T){s:GSig}
include hT in
theorem at_ev{t:Tm}{p:PV}(ht:Enc t p)(h:Hp):Ev T 225 [p,.slice 0 [] .nil] h (.val (.tuple [p,.bool true]),⟨h,[],[]⟩):=by
 refine Ev.walk (hT.sp _ (by decide)) ((hT.fn _).trans fn225) (hT.mode _) rfl ?_;obtain⟨c1,c2,c3,c4⟩:=ht.cells;have k1:=gC (l:=h) (a:=row 3 [p]);have low1:Low h.length h (h++[row 3 [p]]):=(Low.refl _ _).push (nR _);have hl1:(h++[row 3 [p]]).length=h.length+1:=by simp
 generalize hH1:h++[row 3 [p]]=H1 at*;have z2:=gC (l:=H1) (a:=row 3 [zN]);have k2:=qag (o2:=row 3 [zN]) k1;have low2:=low1.push (o:=row 3 [zN]) (by omega);have e2:H1++[row 3 [zq3]]=H1++[row 3 [zN]]:=rfl;generalize H1++[row 3 [zN]]=H2 at*;generalize hkr:H1.length=kr at*;have lp:loadAt true 3 (.ptr h.length 0 0 1) H2=some p:=by rw[qac k2];exact ht.sub
 have sv:=fun ws ups=>qcz (ws:=ws) (ups:=ups) (n:=1) (N:=0) z2 rfl rfl ⟨rfl,_,rfl⟩ ⟨c1,c2,c4⟩ ht.facts.1;simp only[sC]at sv;have lo:loadAt true 3 (.ptr kr 0 0 1) (H2.set kr (.row 3 [p]))=some p:=by rw[qac (qai z2)];exact ht.sub
 have td:=qaj (v:=.tuple [p,.bool true]) (ws:=wadd kr []) (by simp[PV.pure,qat,ht.facts.2.1]) (by simp[PV.weak,qau,ht.facts.2.2]) (low2.trans (.set (show h.length≤kr by omega)):Low h.length h (H2.set kr (.row 3 [p]))) (qad (by omega) (by simp));have h0:¬(0:Int)< ((0:Nat):Int):=by decide
 simp(disch:=omega) only[go_sem,hH1,e2,hkr,c1,c3,Ae];refine qbt ?_;simp(disch:=omega) only[go_sem,a225b0,h0,lp,sv,resv,lo,td]
include hT in
theorem atX_ev{t:Tm}{p:PV}(ht:Enc t p)(hu:qa0 t=true)(h:Hp):∃q:PV,Ev T 183 [p,.slice 0 [] .nil] h (.val (.tuple [q,iv 0]),⟨h,[],[]⟩)∧Enc t q:=by
 refine Ev.walkP (r:=fun q:PV=>(.val (.tuple [q,iv 0]),⟨h,[],[]⟩)) (hT.sp _ (by decide)) ((hT.fn _).trans fn183) (hT.mode _) rfl ?_;obtain⟨c1,c2,c3,c4⟩:=ht.cells;have k1:=gC (l:=h) (a:=row 3 [p]);have low1:Low h.length h (h++[row 3 [p]]):=(Low.refl _ _).push (nR _);have hl1:(h++[row 3 [p]]).length=h.length+1:=by simp
 generalize hH1:h++[row 3 [p]]=H1 at*;have z2:=gC (l:=H1) (a:=row 3 [zN]);have k2:=qag (o2:=row 3 [zN]) k1;have low2:=low1.push (o:=row 3 [zN]) (by omega);have hl2:(H1++[row 3 [zN]]).length=h.length+2:=by simp;omega
 have e2:H1++[row 3 [zq3]]=H1++[row 3 [zN]]:=rfl;generalize H1++[row 3 [zN]]=H2 at*;generalize hkr:H1.length=kr at*;have lp:loadAt true 3 (.ptr h.length 0 0 1) H2=some p:=by rw[qac k2];exact ht.sub
 have evt:=qfp hT ht H2;rw[hu]at evt;have eva:=at_ev hT ht H2;have sb:=qa6 (h:=H2) (ws:=[]) (ups:=[]) (z:=zq3) (sz:=3) (c:=p) c1 rfl c2 ht.facts.1 ⟨_,rfl⟩ c4;have k3:=gC (l:=H2) (a:=row 3 [p]);have z3:=qag (o2:=row 3 [p]) z2;have low3:=low2.push (o:=row 3 [p]) (by omega);have hw3:∀x∈wadd H2.length [],h.length≤x:=qad (by omega) (by simp);generalize hH3:H2++[row 3 [p]]=H3 at*;generalize hk6:H2.length=k6 at*;have lp3:loadAt true 3 (.ptr k6 0 0 1) H3=some p:=by rw[qac k3];exact ht.sub
 obtain⟨q,evc,hq⟩:=qmd hT ht (qbi hu) (qav hu) H3;obtain⟨x1,x2,_,x4⟩:=hq.cells;have sv:=fun ws ups=>qcz (ws:=ws) (ups:=ups) (n:=1) (N:=0) z3 rfl rfl ⟨rfl,_,rfl⟩ ⟨x1,x2,x4⟩ hq.facts.1;simp only[sC]at sv;have lo:loadAt true 3 (.ptr kr 0 0 1) (H3.set kr (.row 3 [q]))=some q:=by rw[qac (qai z3)];exact hq.sub
 have td:=qaj (v:=.tuple [q,iv 0]) (ws:=wadd kr (wadd k6 [])) (by simp[PV.pure,qat,hq.facts.2.1]) (by simp[PV.weak,qau,hq.facts.2.2]) (low3.trans (.set (show h.length≤kr by omega)):Low h.length h (H3.set kr (.row 3 [q]))) (qad (by omega) hw3);simp(disch:=omega) only[go_sem,hH1,e2,hkr,c1,c3,lp,cb evt,Bool.not_true,cb eva,hk6,sb,lp3,cb evc,sv,resv,lo,hT.q,td];exact⟨q,rfl,hq⟩
theorem qj8:∀{us:List Tm}{qs:List PV},EncL us qs->qat qs=true∧qau qs=qs
 |[],qs,h=>by
   have:qs=[]:=lZ.1 h.1;subst this;exact⟨rfl,rfl⟩
 |u::us,[],h=>by have:=h.1;simp at this
 |u::us,q::qs,h=>by obtain⟨h1,h2⟩:=qj8 (us:=us) (qs:=qs) ⟨by have:=h.1;simpa using this,fun i x p hx hp=>h.2 (i+1) x p hx hp⟩;obtain⟨_,h3,h4⟩:=(h.2 0 u q rfl rfl).facts;simp[qat,qau,h1,h2,h3,h4]
include hT in
theorem freshL_ev{us:List Tm}{z:Nat}{es:List PV}{m:SM}(hz:es=[]∨z=3)(hE:EncL us es)(hu:∀u∈us,qa0 u=true)(hl:us.length≤1000)(h:Hp):∃x:Nat×List PV,Ev T 119 [.slice z es m] h (.val (.slice x.1 x.2 .any),⟨h,[],[]⟩)∧((x.2=[]∨x.1=3)∧EncL us x.2):=by
 refine Ev.walkP (r:=fun x:Nat×List PV=>(.val (.slice x.1 x.2 .any),⟨h,[],[]⟩)) (hT.sp _ (by decide)) ((hT.fn _).trans fn119) (hT.mode _) rfl ?_;have hel:=hE.1;simp(disch:=omega) only[go_sem]
 refine wpC.loopM (fun g e st=> ∃(i:Nat)(H:Hp)(ws:List Nat)(v:PV)(qs:List PV),i+g=es.length∧Low h.length h H∧(∀x∈ws,h.length≤x)∧AppL H v qs h.length∧EncL (us.take i) qs∧(eget e 3=v∧eget e 8=.slice z es m∧eget e 9=iv (es.length:Int)∧eget e 10=iv (i:Int))∧st=⟨H,ws,[]⟩) ?_ es.length _ _
  ⟨0,h,[],_,[],by omega,Low.refl _ _,by simp,.inl ⟨rfl,rfl⟩,⟨by simp,by simp⟩,by simp only[go_sem,Ag],rfl⟩
 rintro g e st ⟨i,H,ws,v,qs,hi,low,hw,hA,hQ,⟨e3,e8,e9,e10⟩,rfl⟩;have hHl:=low.len;have hql:=hQ.1;rw[lT]at hql;by_cases h1:i<es.length
 · have h1':(i:Int)< (es.length:Int):=by omega
   have ga:=qb1 h1;have hx:us[i]?=some us[i]:=Ab (by omega);have hEx:=hE.2 i _ _ hx ga;have hut:=hu _ (Af (by omega:i<us.length))
   have hsz:z=3:=by
    rcases hz with rfl|h
    ·simp at h1
    ·exact h
   subst hsz;generalize us[i]=u at*;generalize es[i]=X at*;obtain⟨b1,b2,_,b4⟩:=hEx.cells;have bs:=hEx.sub;have sb:=qa6 (h:=H) (ws:=ws) (ups:=[]) (z:=zq3) (sz:=3) (c:=X) b1 rfl b2 hEx.facts.1 ⟨_,rfl⟩ b4;have k5:=gC (l:=H) (a:=row 3 [X]);have A5:=hA.push (o:=row 3 [X]);have low5:=low.push (o:=row 3 [X]) hHl;have hw5:∀y∈wadd H.length ws,h.length≤y:=qad hHl hw;have hl5:(H++[row 3 [X]]).length=H.length+1:=by simp
   generalize hH5:H++[row 3 [X]]=H5 at*;generalize hk5:H.length=kx at*;have lx:loadAt true 3 (.ptr kx 0 0 1) H5=some X:=by rw[qac k5];exact bs
   obtain⟨q,ev,hq⟩:=atX_ev hT hEx hut H5;obtain⟨x1,x2,x3,x4⟩:=hq.cells;have sb2:=fun ws=>qa6 (h:=H5) (ws:=ws) (ups:=[]) (z:=zq3) (sz:=3) (c:=q) x1 rfl x2 hq.facts.1 ⟨_,rfl⟩ x4;have k6:=gC (l:=H5) (a:=row 3 [q]);have A6:=A5.push (o:=row 3 [q]);have low6:=low5.push (o:=row 3 [q]) (by omega);have hw6:∀y∈wadd H5.length (wadd kx ws),h.length≤y:=qad (by omega) hw5;have hl6:(H5++[row 3 [q]]).length=kx+2:=by simp;omega
   generalize hH6:H5++[row 3 [q]]=H6 at*;generalize hk6:H5.length=kq at*;have lq:loadAt true 3 (.ptr kq 0 0 1) H6=some q:=by rw[qac k6];exact hq.sub
   have f1:=fe_1 (p:=q) ⟨x1,x3⟩;obtain⟨H7,fw,kt,ap,A7,_,low7,hfw⟩:=qjj A6 x2 (by omega) (show h.length≤H6.length by omega);simp(disch:=omega) only[go_sem,a119b0,e3,e8,e9,e10,h1',ga,bs,hk5,sb,lx,cb ev,hk6,sb2,lq,f1,ap,hT.q];exact⟨g - 1,by omega,i+1,H7,_,_,_,by omega,low6.trans low7,hfw _ hw6,A7,hQ.snocT hx hq,⟨rfl,rfl⟩,rfl⟩
 · have h1':¬(i:Int)< (es.length:Int):=by omega
   rw[tL (by omega)]at hQ;obtain⟨z',m',rfl,hz'⟩:=hA.form;have hpw:=qj8 hQ;have td:=qa4 (v:=.slice z' qs m') (ups:=[]) hpw.1 low hw (by simp);have hwk:(PV.slice z' qs m').weak=.slice z' qs .any:=by simp only[PV.weak,hpw.2]
   rw[hwk]at td;simp(disch:=omega) only[go_sem,a119b0,e3,e9,e10,h1',td];exact⟨(z',qs),rfl,hz',hQ⟩
include hT in
theorem askedV_ev{t:GTy}{r:Int}(I:TyIn T t r){nv:PV->PV×Int}(N:NVal T t nv){h:Hp}{dv:PV}{dom:List (List Tm)}{vs:List PV}{vss:List (List PV)}(D:DomV h dv dom vs vss)(hd:dom.length<100000):
 ∃r':Int,Ev T 114 [qan t,dv] h (.val (iv r'),⟨h,[],[]⟩)∧((r≠0∧r'=r)∨(r=0∧DomR t.sig nv dom vss r')):=by
 refine Ev.walkP (r:=fun r:Int=>(.val (iv r),⟨h,[],[]⟩)) (hT.sp _ (by decide)) ((hT.fn _).trans fn114) (hT.mode _) rfl ?_;have k1:=gC (l:=h) (a:=row 3 [qan t]);have low1:Low h.length h (h++[row 3 [qan t]]):=(Low.refl _ _).push (nR _);generalize hH1:h++[row 3 [qan t]]=H1 at*;have l1:loadAt true 3 (.ptr h.length 0 0 1) H1=some (qan t):=by rw[qac k1];rfl
 have td:∀r:Int,tidy 0 h.length (.val (iv r)) ⟨H1,[],[]⟩=(.val (iv r),⟨h,[],[]⟩):=fun r=>qaj rfl rfl low1 (by simp);by_cases hr:r=0
 · subst hr;have hb:((0:Int) !=0)=false:=rfl;obtain⟨r',ev,hR⟩:=domain_ev hT I N (D.low low1) hd;simp(disch:=omega) only[go_sem,hH1,qbz,qb0,l1,cb (I.E103 H1),hb,cb ev,hT.prim,qab,td];exact⟨r',rfl,.inr hR⟩
 · have hb:(r !=0)=true:=by simpa using hr
   simp(disch:=omega) only[go_sem,hH1,qbz,qb0,l1,cb (I.E103 H1),hb,hT.prim,qab,td];exact⟨r,rfl,.inl ⟨hr,rfl⟩⟩
def AppS(H:Hp)(v:PV)(es:List PV)(lo:Nat):Prop:=(es=[]∧v=.slice 0 [] .nil)∨∃kt,v=.slice 1 es (.tok kt)∧H[kt]?=some (.tok 1 es.length)∧lo≤kt
theorem AppS.push{H:Hp}{v:PV}{es:List PV}{lo:Nat}{o:AE.Obj}(A:AppS H v es lo):AppS (H++[o]) v es lo:=by
 rcases A with h|⟨kt,h1,h2,h3⟩
 ·exact .inl h
 ·exact .inr ⟨kt,h1,qag h2,h3⟩
theorem AppS.form{H:Hp}{v:PV}{es:List PV}{lo:Nat}(A:AppS H v es lo):∃z m,v=.slice z es m∧(es=[]∨z=1):=by
 rcases A with⟨rfl,rfl⟩|⟨kt,rfl,_,_⟩
 ·exact⟨_,_,rfl,.inl rfl⟩
 ·exact⟨_,_,rfl,.inr rfl⟩
theorem append_S{H:Hp}{v p:PV}{es:List PV}{lo:Nat}(A:AppS H v es lo)(hp:p.cells.all PV.isCell=true)(hl:es.length<100000)(hlo:lo≤H.length):
 ∃(H':Hp)(fw:List Nat->List Nat)(kt:Nat),(∀ws ups,appendop 1 24 v (.slice 1 [p] .lit) ⟨H,ws,ups⟩=some (.slice 1 (es++[p]) (.tok kt),⟨H',fw ws,ups⟩))∧AppS H' (.slice 1 (es++[p]) (.tok kt)) (es++[p]) lo∧(∀(j:Nat)(o:AE.Obj),o.isTok=false->H[j]?=some o->H'[j]?=some o)∧Low lo H H'∧∀ws,(∀x∈ws,lo≤x)->∀x∈fw ws,lo≤x:=by
 have hroom:(es.length+1) *24≤room∧es.length+1≤room:=by
  have:10000000≤room:=by decide
  constructor<;>omega
 rcases A with⟨rfl,rfl⟩|⟨kt,rfl,h2,h3⟩
 · simp at hroom;refine⟨H++[.tok 1 1],fun ws=>ws,H.length,fun ws ups=>?_,.inr ⟨H.length,rfl,by simp,hlo⟩,fun j o _ hj=>qag hj,(Low.refl _ _).push hlo,fun ws hx=>hx⟩;simp[appendop,qb6,hp,hroom,alloc]
 · refine⟨H.set kt (.tok 1 (es.length+1)),wadd kt,kt,fun ws ups=>?_,.inr ⟨kt,rfl,by rw[qai h2];simp,h3⟩,fun j o ho hj=>qaa hj ?_,.set h3,fun ws hx=>qad h3 hx⟩
   ·simp[appendop,qb6,hp,hroom,h2,qas]
   · rintro rfl;rw[h2]at hj;cases hj;cases ho
theorem qoz(l:List Tm):(encL l).pure=true∧(encL l).weak=encL l:=by obtain⟨h1,h2⟩:=qj8 (qgj l);exact⟨h1,by simp only[encL,PV.weak,h2]⟩
theorem qoo{α:Type}{f:α->PV}(h:∀x,(f x).pure=true∧(f x).weak=f x)(l:List α):qat (l.map f)=true∧qau (l.map f)=l.map f:=by
 induction l with
 |nil=>exact⟨rfl,rfl⟩
 |cons x l ih=>simp[qat,qau,h x,ih]
def atL(dom:List (List Tm))(k:Int):List Tm:=dom.getD k.toNat []
theorem qo8{dom:List (List Tm)}{k:Nat}(h:k<dom.length):dom[k]?=some (atL dom (k:Int)):=by rw[Ab h,atL,Int.toNat_natCast,Ac,Ab h];rfl
include hT in
theorem overZ_ev{dom:List (List Tm)}{ks:List Int}{zk:Nat}{m:SM}(hzk:ks=[]∨zk=1)(hk:∀k∈ks,0≤k∧k< (dom.length:Int))(hkl:ks.length≤1000)(hdl:∀l∈dom,l.length≤1000000)(h:Hp):
 ∃x:Nat×Int,Ev T 116 [domV dom,.slice zk (ks.map encI) m] h (.val (.tuple [.slice x.1 ((ks.map (atL dom)).map encL) .any,iv x.2]),⟨h,[],[]⟩)∧((ks=[]∨x.1=1)∧0≤x.2∧x.2≤1099511627776):=by
 refine Ev.walkP (r:=fun x:Nat×Int=>(.val (.tuple [.slice x.1 ((ks.map (atL dom)).map encL) .any,iv x.2]),⟨h,[],[]⟩)) (hT.sp _ (by decide)) ((hT.fn _).trans fn116) (hT.mode _) rfl ?_;have td:∀(H:Hp)(ws:List Nat)(v:PV)(n:Int),Low h.length h H->(∀x∈ws,h.length≤x)->AppS H v ((ks.map (atL dom)).map encL) h.length->∃z,tidy 0 h.length (.val (.tuple [v,iv n])) ⟨H,ws,[]⟩=(.val (.tuple [.slice z ((ks.map (atL dom)).map encL) .any,iv n]),⟨h,[],[]⟩)∧(ks=[]∨z=1):=fun H ws v n L hw A=>by obtain⟨z,m,rfl,hz⟩:=A.form;obtain⟨p1,p2⟩:=qoo qoz (ks.map (atL dom));have:=qa4 (v:=.tuple [.slice z ((ks.map (atL dom)).map encL) m,iv n]) (ups:=[]) (by simp only[PV.pure,qat,p1,Bool.and_self]) L hw (by simp);refine⟨z,by rw[this];simp only[PV.weak,qau,p2],hz.imp (fun h=>by simpa using h) id⟩
 simp(disch:=omega) only[go_sem,lM]
 refine wpC.loopM (fun g e st=> ∃(i:Nat)(H:Hp)(ws:List Nat)(v:PV)(n:Int),i+g=ks.length∧Low h.length h H∧(∀x∈ws,h.length≤x)∧AppS H v (((ks.take i).map (atL dom)).map encL) h.length∧0≤n∧n≤1099511627776∧(eget e 0=domV dom∧eget e 6=v∧eget e 7=iv n∧eget e 12=.slice zk (ks.map encI) m∧eget e 13=iv (ks.length:Int)∧eget e 14=iv (i:Int))∧st=⟨H,ws,[]⟩) ?_ ks.length _ _
  ⟨0,h,[],_,1,by omega,Low.refl _ _,by simp,.inl ⟨rfl,rfl⟩,by omega,by omega,by simp only[go_sem,Ag],rfl⟩
 rintro g e st ⟨i,H,ws,v,n,hi,low,hw,hA,hn0,hn1,⟨e0,e6,e7,e12,e13,e14⟩,rfl⟩;have hHl:=low.len;by_cases h1:i<ks.length
 · have hzk1:zk=1:=by
    rcases hzk with rfl|h
    ·simp at h1
    ·exact h
   subst hzk1;have h1':(i:Int)< (ks.length:Int):=by omega
   have gk:=qc4 h1;have hkk:=hk _ (Af h1);have htk:ks.take (i+1)=ks.take i++[ks[i]]:=by rw[tS h1]
   generalize ks[i]=k at*;obtain⟨K,rfl⟩:=iZ hkk.1;have hK:K<dom.length:=by omega
   have hd:=qo8 hK;have hdl':=hdl _ (mG hd);have ix:qb2 1 (domV dom) (iv (K:Int))=some (.iptr (encL (atL dom (K:Int))) 0):=by rw[domV,qdb,if_pos rfl,gM,hd];rfl
   have lenl:lenOf (encL (atL dom (K:Int)))=some (atL dom (K:Int)).length:=by simp[encL,lenOf]
   have fe:qcw 1 (List.replicate 1 (.slice 0 [] .nil)) [(0,encL (atL dom (K:Int)))]=some [encL (atL dom (K:Int))]:=rfl;obtain⟨H',fw,kt,ap,A',_,low',hfw⟩:=append_S (p:=encL (atL dom (K:Int))) hA rfl (by simp;omega) hHl;have evt:=times_ev hT (a:=n) (b:=((atL dom (K:Int)).length:Int)) (h:=H') hn0 hn1 (by omega) (by omega);simp(disch:=omega) only[go_sem,a116b0,e0,e6,e7,e12,e13,e14,h1',gk,ix,qgi,fe,ap,lenl,cb evt,hT.q];refine⟨g - 1,by omega,i+1,H',_,_,_,by omega,low.trans low',?_,?_,?_,?_,⟨rfl,rfl,rfl⟩,rfl⟩
   · first
      |exact hfw _ hw
      |(intro x hx;exact hfw _ hw x hx)
   · rw[htk];simpa using A'
   · have:0≤n* ((atL dom (K:Int)).length:Int):=Int.mul_nonneg hn0 (by omega);omega
   ·omega
 · have h1':¬(i:Int)< (ks.length:Int):=by omega
   rw[tL (by omega)]at hA;obtain⟨z,m',rfl,hz⟩:=hA.form;simp(disch:=omega) only[go_sem,a116b0,e6,e13,e14,h1',lM]
   refine wpC.loopM (fun g e st=> ∃i:Nat,i+g=ks.length∧(eget e 6=.slice z ((ks.map (atL dom)).map encL) m'∧eget e 7=iv n∧eget e 33=.slice z ((ks.map (atL dom)).map encL) m'∧eget e 34=iv (ks.length:Int)∧eget e 35=iv (i:Int))∧st=⟨H,ws,[]⟩) ?_ ks.length _ _
    ⟨0,by omega,by simp only[go_sem,e6,e7,Ag],rfl⟩
   clear e0 e6 e7 e12 e13 e14 h1 h1' hi;rintro g' e st ⟨i,hi,⟨e6,e7,e33,e34,e35⟩,rfl⟩;by_cases h1:i<ks.length
   · have h1':(i:Int)< (ks.length:Int):=by omega
     have hz1:z=1:=by
      rcases hz with h|h
      · have:=congrArg List.length h;simp at this;rw[this]at h1;simp at h1
      ·exact h
     subst hz1;have ga:((ks.map (atL dom)).map encL)[i]?=some (encL (atL dom ks[i])):=by rw[gM,gM,Ab h1];rfl
     generalize atL dom ks[i]=l at*;have lenl:lenOf (encL l)=some l.length:=by simp[encL,lenOf]
     by_cases hl0:l.length=0
     · have hb:((l.length:Int)==0)=true:=by simp[hl0]
       obtain⟨z',t1,t2⟩:=td H ws _ 0 low hw hA;simp(disch:=omega) only[go_sem,a116b1,e6,e33,e34,e35,h1',ga,qgi,lenl,hb,t1];exact⟨(z',0),rfl,t2,by simp,by simp⟩
     · have hb:((l.length:Int)==0)=false:=by simpa using hl0
       simp(disch:=omega) only[go_sem,a116b1,e6,e7,e33,e34,e35,h1',ga,qgi,lenl,hb];exact⟨g' - 1,by omega,i+1,by omega,rfl,trivial⟩
   · have h1':¬(i:Int)< (ks.length:Int):=by omega
     obtain⟨z',t1,t2⟩:=td H ws _ n low hw hA;simp(disch:=omega) only[go_sem,a116b1,e6,e7,e34,e35,h1',t1];exact⟨(z',n),rfl,t2,hn0,hn1⟩
include hT in
theorem assign_ev{z:Nat}{vs:List PV}{m:SM}(hp:qat vs=true∧qau vs=vs)(h:Hp):Ev T 117 [.slice z vs m] h (.val (.func (.func 182) [] [.iptr (.slice z vs .any) 0]),⟨h,[],[]⟩):=by
 refine Ev.walk (mode:=0) (hT.sp _ (by decide)) ((hT.fn _).trans fn117) (show T.mode 117=0 from hT.mode 117) rfl ?_;have k1:=gC (l:=h) (a:=row 1 [.slice z vs m])
 have td:tidy 0 h.length (.val (.func (.func 182) [] [.ptr h.length 0 0 1])) ⟨h++[row 1 [.slice z vs m]],[],[]⟩=(.val (.func (.func 182) [] [.iptr (.slice z vs .any) 0]),⟨h,[],[]⟩):=by
  have f1:∀n,frz (h++[row 1 [.slice z vs m]]) h.length (n+1) (.slice z vs m)=some (.slice z vs .any):=fun n=>by rw[qb8 (by exact hp.1)];simp only[PV.weak,hp.2]
  have f2:∀n,frz (h++[row 1 [.slice z vs m]]) h.length (n+2) (.ptr h.length 0 0 1)=some (.iptr (.slice z vs .any) 0):=fun n=>by rw[frz];simp only[PV.pure,bF,if_false,k1,Ae,List.getElem?_cons_zero,f1,Option.map];rw[if_neg (by omega)];rfl
  have f3:frz (h++[row 1 [.slice z vs m]]) h.length 64 (.func (.func 182) [] [.ptr h.length 0 0 1])=some (.func (.func 182) [] [.iptr (.slice z vs .any) 0]):=by rw[frz];simp only[PV.pure,qat,Bool.false_and,Bool.and_false,bF,if_false,List.map_cons,List.map_nil,f2,qbu,Option.map]
  unfold tidy;simp[OR.v,f3,OR.put,AE.below]
 simp(disch:=omega) only[go_sem,td]
def SortedT(l:List Tm):Prop:=∀(i j:Nat)(x y:Tm),i<j->l[i]?=some x->l[j]?=some y->tmC x y<0
include hT in
theorem lightZ_ev{dom:List (List Tm)}(hd:∀l∈dom,l.length≤1000){z:Nat}{lists:List (List Int)}{f:List Int->Nat}(hf:∀l∈lists,l=[]∨f l=1){m:SM}(hz:lists=[]∨z=1)(hl:lists.length≤1000)(h:Hp):
 ∃b:Bool,Ev T 38 [domV dom,.slice z (lists.map fun l=>PV.slice (f l) (l.map encI) .any) m] h (.val (.bool b),⟨h,[],[]⟩)∧True:=by
 refine Ev.walkP (r:=fun b:Bool=>(.val (.bool b),⟨h,[],[]⟩)) (hT.sp _ (by decide)) ((hT.fn _).trans fn38) (hT.mode _) rfl ?_;have lend:lenOf (domV dom)=some dom.length:=by simp[domV,lenOf]
 simp(disch:=omega) only[go_sem,lM]
 refine wpC.loopM (fun g e st=> ∃(i:Nat)(n:Int),i+g=lists.length∧0≤n∧n≤500* (i:Int)∧(eget e 0=domV dom∧eget e 5=iv n∧eget e 11=.slice z (lists.map fun l=>PV.slice (f l) (l.map encI) .any) m∧eget e 12=iv (lists.length:Int)∧eget e 13=iv (i:Int))∧st=⟨h,[],[]⟩) ?_ lists.length _ _
  ⟨0,0,by omega,by omega,by omega,by simp only[go_sem,Ag],rfl⟩
 rintro g e st ⟨i,n,hi,hn0,hn1,⟨e0,e5,e11,e12,e13⟩,rfl⟩;by_cases h1:i<lists.length
 · have h1':(i:Int)< (lists.length:Int):=by omega
   have hz1:z=1:=by
    rcases hz with rfl|h
    ·simp at h1
    ·exact h
   subst hz1;have ga:(lists.map fun l=>PV.slice (f l) (l.map encI) .any)[i]?=some (.slice (f lists[i]) (lists[i].map encI) .any):=by rw[gM,Ab h1];rfl
   have hfi:=hf _ (Af h1);generalize lists[i]=l at*;by_cases h100:100<l.length
   · have hb:(100:Int)< (l.length:Int):=by omega
     simp(disch:=omega) only[go_sem,a38b1,e11,e12,e13,h1',ga,hb,lM];exact⟨false,rfl,trivial⟩
   have hb:¬(100:Int)< (l.length:Int):=by omega
   simp(disch:=omega) only[go_sem,a38b1,e11,e12,e13,h1',ga,hb,lM]
   refine wpC.loopM (fun g e st=> ∃(k:Nat)(c:Int),k+g=l.length∧0≤c∧c≤500∧(eget e 0=domV dom∧eget e 5=iv n∧eget e 8=iv c∧eget e 11=.slice 1 (lists.map fun l=>PV.slice (f l) (l.map encI) .any) m∧eget e 12=iv (lists.length:Int)∧eget e 13=iv (i:Int)∧eget e 20=.slice (f l) (l.map encI) .any∧eget e 21=iv (l.length:Int)∧eget e 22=iv (k:Int))∧st=⟨h,[],[]⟩) ?_ l.length _ _
    ⟨0,1,by omega,by omega,by omega,by simp only[go_sem,e0,e5,e11,e12,e13,Ag],rfl⟩
   clear e0 e5 e11 e12 e13;rintro g' e st ⟨k,c,hk,hc0,hc1,⟨e0,e5,e8,e11,e12,e13,e20,e21,e22⟩,rfl⟩;by_cases h2:k<l.length
   · have hf1:f l=1:=by
      rcases hfi with rfl|h
      ·simp at h2
      ·exact h
     rw[hf1]at e20;have h2':(k:Int)< (l.length:Int):=by omega
     have gk:=qc4 h2;generalize l[k]=v at*;by_cases hv:v<0
     · simp(disch:=omega) only[go_sem,a38b0,e0,e5,e8,e11,e12,e13,e20,e21,e22,h2',gk,hv];exact⟨g' - 1,by omega,k+1,c,by omega,hc0,hc1,⟨rfl,by rw[hf1],rfl⟩,trivial⟩
     obtain⟨V,rfl⟩:=iZ (show 0≤v by omega);by_cases hV:dom.length≤V
     · simp(disch:=omega) only[go_sem,a38b0,e0,e5,e8,e11,e12,e13,e20,e21,e22,h2',gk,hv,hV,lend];exact⟨g' - 1,by omega,k+1,c,by omega,hc0,hc1,⟨rfl,by rw[hf1],rfl⟩,trivial⟩
     have hV':V<dom.length:=by omega
     have hdl:=hd _ (Af hV');have ix:qb2 1 (domV dom) (iv (V:Int))=some (.iptr (encL dom[V]) 0):=by rw[domV,qdb,if_pos rfl,gM,Ab hV'];rfl
     generalize dom[V]=q at*;have lenq:lenOf (encL q)=some q.length:=by simp[encL,lenOf]
     have hcq:0≤c* (q.length:Int)∧c* (q.length:Int)≤500*1000:=by refine⟨Int.mul_nonneg hc0 (by omega),?_⟩;have h1:c* (q.length:Int)≤500* (q.length:Int):=Int.mul_le_mul_of_nonneg_right hc1 (by omega);omega
     by_cases hgt:500<c* (q.length:Int)
     · simp(disch:=omega) only[go_sem,a38b0,e0,e8,e20,e21,e22,h2',gk,hv,hV,lend,ix,qgi,lenq,hgt];exact⟨false,rfl,trivial⟩
     · simp(disch:=omega) only[go_sem,a38b0,e0,e5,e8,e11,e12,e13,e20,e21,e22,h2',gk,hv,hV,lend,ix,qgi,lenq,hgt];exact⟨g' - 1,by omega,k+1,_,by omega,hcq.1,by omega,⟨rfl,by rw[hf1],rfl⟩,trivial⟩
   · have h2':¬(k:Int)< (l.length:Int):=by omega
     simp(disch:=omega) only[go_sem,a38b0,e0,e5,e8,e11,e12,e13,e21,e22,h2'];exact⟨g - 1,by omega,i+1,n+c,by omega,by omega,by omega,⟨rfl,rfl⟩,trivial⟩
 · have h1':¬(i:Int)< (lists.length:Int):=by omega
   simp(disch:=omega) only[go_sem,a38b1,e5,e12,e13,h1'];exact⟨_,rfl,trivial⟩
theorem rangeI{T:Tbl}{g:AX}{ps:List Nat}{a b:ACode}{e:List PV}{st:St}{Q:AExit->List PV->St->Prop}{gf:FuncId}{captured:List PV}{it:List PV->Option (List (List PV))}{yss:List (List PV)}(hg:ax e g=.func (.func gf) [] captured)(hi:T.iter gf=some it)(hc:it captured=some yss)(I:Nat->St->Prop)(h0:I 0 st)
 (hstep:∀(i:Nat)(ys:List PV)(s:St)(K:St->Prop),yss[i]?=some ys->I i s->(∀s2,I (i+1) s2->K s2)->ys.length=ps.length∧wpC T a (puts e ps ys) s fun x e1 s1=>x=.normal∧wpC T b e1 s1 fun x _ s2=>match x with
  |.normal=>K s2
  |.ret=>Q .ret e s2
  |.exit j=>Q (.exit j) e s2
  |.pan _=>False)
 (hend:∀s,I yss.length s->Q .normal e s):wpC T (.range g ps a b) e st Q:=by
 refine⟨gf,captured,it,yss,hg,hi,hc,?_⟩
 have key:∀(rest:List (List PV))(i:Nat)(s:St),yss.drop i=rest->i≤yss.length->I i s->qga (wpC T a) (wpC T b) ps e Q rest s:=by
  intro rest;induction rest with
  |nil=>
    intro i s hd hil hI;have:i=yss.length:=by have:=congrArg List.length hd;simp at this;omega
    subst this;exact hend s hI
  |cons ys rest ih=>
    intro i s hd hil hI;have hlt:i<yss.length:=by have:=congrArg List.length hd;simp at this;omega
    have hy:yss[i]?=some ys:=by have:=List.drop_eq_getElem_cons hlt;rw[hd]at this;rw[Ab hlt,←(List.cons.inj this).1]
    have hr:yss.drop (i+1)=rest:=by have:=List.drop_eq_getElem_cons hlt;rw[hd]at this;exact(List.cons.inj this).2.symm
    exact hstep i ys s _ hy hI fun s2 h2=>ih (i+1) s2 hr (by omega) h2
 exact key yss 0 st rfl (Nat.zero_le _) h0
theorem qp5{α β:Type}(f:α->β):∀ls:List (List α),qda (ls.map (List.map f))=(qda ls).map (List.map f)
 |[]=>rfl
 |l::ls=>by simp only[List.map_cons,qda,qp5 f ls,List.map_flatMap,List.flatMap_map,List.map_map];rfl
theorem qi5{α:Type}:∀{ls:List (List α)}{us:List α},us∈qda ls->us.length=ls.length∧∀(i:Nat)(u:α)(l:List α),us[i]?=some u->ls[i]?=some l->u∈l
 |[],us,h=>by
   simp only[qda,mS]at h;subst h;exact⟨rfl,fun i u l h=>by simp at h⟩
 |l::ls,us,h=>by
   simp only[qda,List.mem_flatMap,mM]at h;obtain⟨x,hx,vs,hv,rfl⟩:=h;obtain⟨h1,h2⟩:=qi5 hv;refine⟨by simp[h1],fun i u l' hu hl=>?_⟩;cases i with
   |zero=>
     simp only[List.getElem?_cons_zero,Option.some.injEq]at hu hl;subst hu hl;exact hx
   |succ i=>exact h2 i u l' (by simpa using hu) (by simpa using hl)
def outT(n:Nat)(us:List Tm):PV:=.slice (if n=0 then 0 else 3) (us.map encT) .any
theorem okYV_encL{l:List Tm}(h:l.length≤1000):okYV (encL l)=true:=by
 have h2:(l.map encT).all isTm=true:=by rw[List.all_eq_true];intro x hx;obtain⟨⟨k,n,ts⟩,_,rfl⟩:=mM.1 hx;rfl
 simp[okYV,encL,h,h2]
theorem iter_dom{z:Nat}{ls:List (List Tm)}(hz:ls=[]∨z=1)(hn:ls.length≤500)(hl:∀l∈ls,l.length≤1000):itG [.iptr (.slice z (ls.map encL) .any) 0]=some ((qda ls).map fun us=>[outT ls.length us]):=by
 obtain⟨p1,p2⟩:=qoo qoz ls;have hp:qat [PV.iptr (.slice z (ls.map encL) .any) 0]=true:=by simp[qat,PV.pure,p1]
 have hw:qau [PV.iptr (.slice z (ls.map encL) .any) 0]=[PV.iptr (.slice z (ls.map encL) .any) 0]:=by simp only[qau,PV.weak,p2]
 have ho:qoj (ls.map encL) z=true:=by simp only[qoj,bA,dE,Bool.or_eq_true,List.isEmpty_iff,beq_iff_eq,List.all_eq_true];refine⟨⟨by simpa using hn,hz.imp (fun h=>by simp[h]) id⟩,fun v hv=>?_⟩;obtain⟨l,h1,rfl⟩:=mM.1 hv;exact okYV_encL (hl l h1)
 unfold itG;rw[if_pos hp,hw];simp only[ho,if_true];have hr:(ls.map encL).map qb4=ls.map (List.map encT):=by rw[List.map_map];rfl
 unfold qpg;rw[hr,qp5,List.map_map]
 congr 2
 funext us
 simp only[Function.comp,outV,outT];have hw2:qau (us.map encT)=us.map encT:=(qoo encT_pw us).2;rw[hw2];cases ls<;>rfl
structure OpenX9 where
 i:Int
 z:Nat
 es:List PV
 is:Bool
 e:Int
def OpenX9.v(x:OpenX9):PV:=.tuple [.int .i64 x.i,.slice x.z x.es .any,.bool x.is,.int .i64 x.e]
theorem Dom1.sorted{dom:List (List Tm)}(D:Dom1 s dom){k:Nat}{l:List Tm}(h:dom[k]?=some l):SortedT l∧∀x∈l,qa0 x=true:=by have hr:=D.2 k l h;refine⟨fun i j x y hij hx hy=>sorted_ne hr hij hx hy,fun x hx=>?_⟩;obtain⟨i,hi,rfl⟩:=List.getElem_of_mem hx;exact(hr.2 i _ (Ab hi)).1.tree
structure OpenB (H:Hp)(n0:Nat)(t:GTy)(dom:List (List Tm)):Prop where
 k2:H[n0]?=some (.row 3 [qan t])
 k3:H[n0+1]?=some (.row 1 [domV dom])
 k4:H[n0+2]?=some (.row 1 [.int .i64 0])
 k5:H[n0+3]?=some (.row 1 [.slice 0 [] .nil])
 k6:H[n0+4]?=some (.row 1 [.bool false])
 k7:H[n0+5]?=some (.row 1 [.int .i64 0])
theorem OpenB.low{H H':Hp}{n0:Nat}{t:GTy}{dom:List (List Tm)}(B:OpenB H n0 t dom)(L:Low (n0+6) H H'):OpenB H' n0 t dom:=
 ⟨L.get (by omega) B.k2,L.get (by omega) B.k3,L.get (by omega) B.k4,L.get (by omega) B.k5,L.get (by omega) B.k6,L.get (by omega) B.k7⟩
structure Val7 (H:Hp)(k3 k4 k11 k16:Nat)(t:GTy)(dom:List (List Tm)):Prop where
 q3:H[k3]?=some (.row 3 [qan t])
 q4:H[k4]?=some (.row 1 [domV dom])
 q11:H[k11]?=some (.row 1 [.func (.func 47) [] [.ptr k4 0 0 1]])
 q16:H[k16]?=some (.row 1 [.func (.func 52) [] [.ptr k16 0 0 1,.ptr k3 0 0 1,.ptr k11 0 0 1]])
theorem Val7.low{h H:Hp}{k3 k4 k11 k16:Nat}{t:GTy}{dom:List (List Tm)}(V:Val7 h k3 k4 k11 k16 t dom)(L:Low h.length h H):Val7 H k3 k4 k11 k16 t dom:=by obtain⟨a,b,c,d⟩:=V;exact⟨L.get (gI.1 a).1 a,L.get (gI.1 b).1 b,L.get (gI.1 c).1 c,L.get (gI.1 d).1 d⟩
end Go.Proofs.Tryz
namespace Go.Proofs.Tryz
open Go Go.AE
def a14b0:ACode:=(Aa [lo 100 99 98] (.seq (cn 100 .skip (.exit 0)) (.seq (.block 1 (Aa [ro 101 (ix 6 97 99),rp 102 (la true 6 101),rp 19 (.box 6 (.c zq6)),ws 6 19 102] (Aa [ro 104 (fa 0 19),rp 105 (l3 104),mv 106 2,ro 107 (ll 106),rp 108 (.call (.f 76) [(.t 105),(ci 0),(.t 107)]),mv 103 108,ro 109 (et 103 0),ro 110 (et 103 1),rp 20 (.box 3 (.c zq3)),ws 3 20 109,mv 21 110] (Aa [ro 112 (fa 3 19),rp 113 (l3 112),mv 114 2,ro 115 (ll 114),rp 116 (.call (.f 76) [(.t 113),(ci 0),(.t 115)]),mv 111 116,ro 117 (et 111 0),ro 118 (et 111 1),rp 22 (.box 3 (.c zq3)),ws 3 22 117,mv 23 118] (.seq (Aa [mv 119 21,ro 120 (bc .neq 119 0),mv 121 120,rg 122 (mo 23) 121 false,rg 123 (bc .neq 122 0) 121 false,ro 124 (.pick (.t 121) (.c (.bool true)) (.t 123))] (cn 124 (Aa [ro 12 (.move (.c (.bool true)))] .ret) .skip)) (.reg [mv 125 17,rp 126 (l3 20),rp 127 (l3 22),ro 128 (.build [(.int .i64 0),(.int .i64 0),(.slice 0 [] .nil),(.int .i64 0),(.int .i64 0),(.slice 0 [] .nil)] [(0,3,(.t 126)),(3,3,(.t 127))]),ro 129 (.buildSlice 6 zq6 1 [(0,(.t 128))]),rp 130 (.append 6 80 (.t 125) (.t 129)),mv 17 130])))))) (.reg [nx 131 99,mv 99 131]))))
def a14b1:ACode:=(Aa [lo 165 164 163] (.seq (cn 165 .skip (.exit 4)) (.seq (.block 5 (Aa [mv 166 164,ro 167 (ix 1 162 164),rp 168 (l1 167),mv 27 166,mv 28 168] (sd [mv 169 24,rd 170 (mo 25) false 1 0 false,rd 171 (mo 15) false 2 0 false,rd 172 (ll 171) false 3 4 false,rd 173 (bi .mul 170 172) false 4 14 false,rd 174 (mo 27) false 5 0 false,rd 175 (bi .add 173 174) false 6 62 false,rd 176 (ix 1 169 175) false 7 127 false,rd 177 (l1 176) true 8 255 false,rd 178 (mo 26) false 9 0 false,rd 179 (mo 28) false 10 0 true,rd 180 (.buildSlice 1 (.slice 0 [] .nil) 2 [(0,(.t 178)),(1,(.t 179))]) false 11 1536 true,rd 181 (.call (.f 77) [(.t 180)]) true 12 3584 true,rd 182 (.call (.f 32) [(.t 177),(.t 181),(.f 22)]) true 13 8191 true,rd 183 (no 182) false 14 16383 true] (cn 183 (Aa [ro 12 (.move (.c (.bool false)))] .ret) .skip)))) (.reg [nx 184 164,mv 164 184]))))
def a14b2:ACode:=(Aa [lo 158 157 156] (.seq (cn 158 .skip (.exit 2)) (.seq (.block 3 (Aa [mv 159 157,ro 160 (ix 1 155 157),rp 161 (l1 160),mv 25 159,mv 26 161] (Aa [mv 162 15,ro 163 (ll 162),c0 164] (Ad 4 a14b1)))) (.reg [nx 185 157,mv 157 185]))))
def a37b0:ACode:=(Aa [lo 9 8 7] (.seq (cn 9 .skip (.exit 0)) (.seq (.block 1 (Aa [ro 10 (ix 6 6 8),rp 11 (la true 6 10),rp 5 (.box 6 (.c zq6)),ws 6 5 11] (.reg [mv 12 3,ro 13 (fa 0 5),rp 14 (l3 13),ro 15 (fa 3 5),rp 16 (l3 15),ro 17 (.buildSlice 3 zq3 2 [(0,(.t 14)),(1,(.t 16))]),rp 18 (.append 3 40 (.t 12) (.t 17)),mv 3 18]))) (.reg [nx 19 8,mv 8 19]))))
def a37:AFunc:=⟨1,22,(Aa [ro 2 (.move (.c (.bool false)))] (Aa [ro 3 (.move (.c (.slice 0 [] .nil)))] (.seq (Aa [mv 6 0,ro 7 (ll 6),c0 8] (Ad 0 a37b0)) (Aa [mv 20 3,rp 21 (.call (.f 17) [(ci 100),(.t 20)]),mv 2 21] .ret)))),[.t 2]⟩
theorem fn37:fnOf 37=some a37:=by kernel_rfl
def qtg:ACode:=(Aa [lo 45 44 43] (.seq (cn 45 .skip (.exit 0)) (.seq (.block 1 (Aa [ro 46 (ix 6 42 44),rp 47 (la true 6 46),rp 12 (.box 6 (.c zq6)),ws 6 12 47] (Aa [ro 49 (fa 0 4),rp 50 (la true 2 49),mv 51 2,ro 52 (fa 0 12),rp 53 (l3 52),rp 54 (.call (.f 45) [(.t 50),(.t 51),(.t 53)]),mv 48 54,ro 55 (et 48 0),ro 56 (et 48 1),mv 13 55,mv 14 56] (Aa [ro 58 (fa 0 4),rp 59 (la true 2 58),mv 60 2,ro 61 (fa 3 12),rp 62 (l3 61),rp 63 (.call (.f 45) [(.t 59),(.t 60),(.t 62)]),mv 57 63,ro 64 (et 57 0),ro 65 (et 57 1),mv 15 64,mv 16 65] (Aa [mv 66 14,ro 67 (bc .neq 66 0),mv 68 67,rg 69 (mo 16) 68 false,rg 70 (bc .neq 69 0) 68 false,ro 71 (.pick (.t 68) (.c (.bool true)) (.t 70)),mv 72 71,rg 73 (mo 13) 72 false,rg 74 (mo 15) 72 false,rg 75 (bi .neq 73 74) 72 false,ro 76 (.pick (.t 72) (.c (.bool true)) (.t 75))] (cn 76 (Aa [wr (.store 1 (.t 8) (.c (.slice 0 [] .nil))) 0 0 false,wr (.store 1 (.t 9) (ci 4)) 0 0 false] .ret) .skip)))))) (.reg [nx 77 44,mv 44 77]))))
def a39:AFunc:=⟨4,109,(Aa [rp 4 (.box 3 (.t 0)),rp 7 (.box 1 (.t 3)),rp 8 (.box 1 (.c (.slice 0 [] .nil))),rp 9 (.box 1 (ci 0))] (.seq (Aa [rp 23 (l3 4),mv 24 1,rp 25 (.call (.f 114) [(.t 23),(.t 24)]),mv 10 25] (Aa [mv 26 10,ro 27 (bc .neq 26 0)] (cn 27 (Aa [mv 28 10,wr (.store 1 (.t 8) (.c (.slice 0 [] .nil))) 0 0 false,ws 1 9 28] .ret) .skip))) (.seq (Aa [mv 29 2,ro 30 (ll 29),ro 31 (bc .gtr 30 64),mv 32 31,rh 33 (l1 7) 32 false,rg 34 (ll 33) 32 false,rg 35 (bc .gtr 34 8) 32 false,ro 36 (.pick (.t 32) (.c (.bool true)) (.t 35)),mv 37 36,rg 38 (mo 2) 37 false,rg 39 (.mkFunc (.func 115) [] [(.t 4)]) 37 false,rh 40 (.call (.f 65) [(.t 38),(.t 39)]) 37 false,ro 41 (.pick (.t 37) (.c (.bool true)) (.t 40))] (cn 41 (Aa [wr (.store 1 (.t 8) (.c (.slice 0 [] .nil))) 0 0 false,wr (.store 1 (.t 9) (ci 1)) 0 0 false] .ret) .skip)) (.seq (Aa [rp 42 (l1 7),ro 43 (ll 42),c0 44] (Ad 0 qtg)) (Aa [mv 79 1,mv 80 2,rp 81 (.call (.f 116) [(.t 79),(.t 80)]),mv 78 81,ro 82 (et 78 0),ro 83 (et 78 1),mv 17 82,mv 18 83] (.seq (Aa [mv 84 18,ro 85 (bc .gtr 84 200000)] (cn 85 (Aa [wr (.store 1 (.t 8) (.c (.slice 0 [] .nil))) 0 0 false,wr (.store 1 (.t 9) (ci 2)) 0 0 false] .ret) .skip)) (Aa [rp 19 (.box 1 (.c (.slice 0 [] .nil)))] (.seq (Aa [mv 86 17,rp 87 (.call (.f 117) [(.t 86)])] (.block 2 (.range (.t 87) [88] (.reg [mv 20 88]) (.block 3 (Aa [rp 90 (l3 4),rp 91 (l1 7),mv 92 20,rp 93 (.call (.f 118) [(.t 90),(.t 91),(.t 92)]),mv 89 93,ro 94 (et 89 0),ro 95 (et 89 1),mv 21 94,mv 22 95] (.seq (Aa [mv 96 22,ro 97 (bc .neq 96 0)] (cn 97 (Aa [mv 98 22,wr (.store 1 (.t 8) (.c (.slice 0 [] .nil))) 0 0 false,ws 1 9 98] .ret) .skip)) (.seq (Aa [mv 99 21] (cn 99 (.regD [rp 100 (l1 19),rd 101 (mo 20) false 1 0 true,rd 102 (.call (.f 119) [(.t 101)]) true 2 2 true,rd 103 (.buildSlice 1 (.slice 0 [] .nil) 1 [(0,(.t 102))]) false 3 6 true,rd 104 (.append 1 24 (.t 100) (.t 103)) true 4 15 true,wr (so 1 19 104) 5 31 true]) .skip)) (Aa [rp 105 (l1 19),ro 106 (ll 105),ro 107 (bc .gtr 106 4000)] (cn 107 (Aa [wr (.store 1 (.t 8) (.c (.slice 0 [] .nil))) 0 0 false,wr (.store 1 (.t 9) (ci 2)) 0 0 false] .ret) .skip))))))))) (Aa [rp 108 (l1 19),ws 1 8 108,wr (.store 1 (.t 9) (ci 0)) 0 0 false] .ret))))))))),[.cell 8 false 1,.cell 9 false 1]⟩
theorem fn39:fnOf 39=some a39:=by kernel_rfl
def a73b0:ACode:=(Aa [lo 12 11 10] (.seq (cn 12 .skip (.exit 0)) (.seq (.block 1 (Aa [ro 13 (ix 1 9 11),rp 14 (l1 13),mv 5 14] (Aa [mv 15 3,mv 16 5,ro 17 (ll 16),ro 18 (bi .add 15 17),mv 3 18] (Aa [mv 19 3,ro 20 (bc .lss 19 0)] (cn 20 (.reg [ro 21 (.mkIface 9 (.c (.str ⟨#[108,101,110,32,111,117,116,32,111,102,32,114,97,110,103,101]⟩))),wr (.pan (.t 21)) 0 0 false]) .skip))))) (.reg [nx 22 11,mv 11 22]))))
def a73b1:ACode:=(Aa [lo 28 27 26] (.seq (cn 28 .skip (.exit 2)) (.seq (.block 3 (Aa [ro 29 (ix 1 25 27),rp 30 (l1 29),mv 8 30] (.reg [mv 31 6,mv 32 8,rp 33 (.append 6 80 (.t 31) (.t 32)),mv 6 33]))) (.reg [nx 34 27,mv 27 34]))))
def a73:AFunc:=⟨1,36,(Aa [ro 2 (.move (.c (.slice 0 [] .nil)))] (Aa [c0 3] (.seq (Aa [mv 9 0,ro 10 (ll 9),c0 11] (Ad 0 a73b0)) (Aa [mv 23 3,rp 24 (.call (.f 154) [(.c (.slice 0 [] .nil)),(.t 23)]),mv 6 24] (.seq (Aa [mv 25 0,ro 26 (ll 25),c0 27] (Ad 2 a73b1)) (Aa [mv 35 6,mv 2 35] .ret)))))),[.t 2]⟩
theorem fn73:fnOf 73=some a73:=by kernel_rfl
def a74b0:ACode:=(Aa [lo 12 11 10] (.seq (cn 12 .skip (.exit 0)) (.seq (.block 1 (Aa [ro 13 (ix 1 9 11),rp 14 (l1 13),mv 5 14] (Aa [mv 15 3,mv 16 5,ro 17 (ll 16),ro 18 (bi .add 15 17),mv 3 18] (Aa [mv 19 3,ro 20 (bc .lss 19 0)] (cn 20 (.reg [ro 21 (.mkIface 9 (.c (.str ⟨#[108,101,110,32,111,117,116,32,111,102,32,114,97,110,103,101]⟩))),wr (.pan (.t 21)) 0 0 false]) .skip))))) (.reg [nx 22 11,mv 11 22]))))
def a74b1:ACode:=(Aa [lo 28 27 26] (.seq (cn 28 .skip (.exit 2)) (.seq (.block 3 (Aa [ro 29 (ix 1 25 27),rp 30 (l1 29),mv 8 30] (.reg [mv 31 6,mv 32 8,rp 33 (.append 1 8 (.t 31) (.t 32)),mv 6 33]))) (.reg [nx 34 27,mv 27 34]))))
def a74:AFunc:=⟨1,36,(Aa [ro 2 (.move (.c (.slice 0 [] .nil)))] (Aa [c0 3] (.seq (Aa [mv 9 0,ro 10 (ll 9),c0 11] (Ad 0 a74b0)) (Aa [mv 23 3,rp 24 (.call (.f 155) [(.c (.slice 0 [] .nil)),(.t 23)]),mv 6 24] (.seq (Aa [mv 25 0,ro 26 (ll 25),c0 27] (Ad 2 a74b1)) (Aa [mv 35 6,mv 2 35] .ret)))))),[.t 2]⟩
theorem fn74:fnOf 74=some a74:=by kernel_rfl
def a76b0:ACode:=(Aa [lo 22 21 20] (.seq (cn 22 .skip (.exit 0)) (.seq (.block 1 (Aa [ro 23 (ix 1 19 21),rp 24 (l1 23),mv 9 24] (Aa [mv 25 9,rp 26 (l1 4),ro 27 (bi .geq 25 26),mv 28 27,rg 29 (mo 9) 28 true,rg 30 (bc .gtr 29 1000000) 28 true,rg 31 (mo 30) 28 true,rh 32 (l1 5) 31 true,rg 33 (bc .geq 32 0) 31 true,rg 34 (.pick (.t 31) (.t 33) (.c (.bool false))) 28 true,rg 35 (mo 34) 28 true,rh 36 (l1 5) 35 false,rg 37 (mo 9) 35 false,rg 38 (.min false [(.t 37),(ci 1000000)]) 35 false,rg 39 (.bin .sub (ci 1000000) (.t 38)) 35 false,rg 40 (bi .gtr 36 39) 35 false,rg 41 (mo 40) 35 false,rh 42 (l1 5) 41 true,rg 43 (bc .gtr 42 0) 41 true,rg 44 (.pick (.t 41) (.t 43) (.c (.bool false))) 35 false,rg 45 (.pick (.t 35) (.c (.bool true)) (.t 44)) 28 true,rg 46 (mo 45) 28 true,rh 47 (l1 5) 46 false,rg 48 (bc .lss 47 0) 46 false,rg 49 (mo 48) 46 false,rh 50 (l1 5) 49 true,rh 51 (l1 4) 49 true,rg 52 (mo 9) 49 true,rg 53 (bi .sub 51 52) 49 true,rg 54 (bi .lss 50 53) 49 true,rg 55 (mo 54) 49 true,rg 56 (mo 9) 55 false,rh 57 (l1 5) 55 false,rg 58 (bi .add 56 57) 55 false,rg 59 (bc .gtr 58 1000000) 55 false,rg 60 (.pick (.t 55) (.c (.bool true)) (.t 59)) 49 true,rg 61 (.pick (.t 49) (.t 60) (.c (.bool false))) 46 false,rg 62 (.pick (.t 46) (.c (.bool true)) (.t 61)) 28 true,ro 63 (.pick (.t 28) (.t 62) (.c (.bool false)))] (cn 63 (Aa [ro 64 (.build [(.int .i64 0),(.int .i64 0),(.slice 0 [] .nil)] []),ws 3 6 64,ro 7 (.move (ci 1))] .ret) .skip)))) (.reg [nx 65 21,mv 21 65]))))
def a76:AFunc:=⟨3,69,(Aa [rp 3 (.box 3 (.t 0)),rp 4 (.box 1 (.t 1)),rp 5 (.box 1 (.t 2)),rp 6 (.box 3 (.c zq3)),c0 7] (.seq (Aa [rp 10 (l3 3),rp 11 (.call (.f 130) [(.t 10)]),ro 12 (no 11)] (cn 12 (Aa [ro 13 (.build [(.int .i64 0),(.int .i64 0),(.slice 0 [] .nil)] []),ws 3 6 13,ro 7 (.move (ci 4))] .ret) .skip)) (.seq (Aa [rp 14 (l1 4),ro 15 (bc .lss 14 0)] (cn 15 (Aa [ro 16 (.build [(.int .i64 0),(.int .i64 0),(.slice 0 [] .nil)] []),ws 3 6 16,ro 7 (.move (ci 1))] .ret) .skip)) (.seq (Aa [rp 17 (l3 3),ro 18 (.buildSlice 3 zq3 1 [(0,(.t 17))]),rp 19 (.call (.f 156) [(.t 18)]),ro 20 (ll 19),c0 21] (Ad 0 a76b0)) (Aa [rp 66 (l3 3),ro 67 (.mkFunc (.func 158) [] [(.t 4),(.t 5)]),rp 68 (.call (.f 157) [(.t 66),(.t 67)]),ws 3 6 68,c0 7] .ret))))),[.cell 6 true 3,.t 7]⟩
theorem fn76:fnOf 76=some a76:=by kernel_rfl
def a77b0:ACode:=(Aa [lo 12 11 10] (.seq (cn 12 .skip (.exit 0)) (.seq (.block 1 (Aa [ro 13 (ix 1 9 11),rp 14 (l1 13),mv 5 14] (Aa [mv 15 3,mv 16 5,ro 17 (ll 16),ro 18 (bi .add 15 17),mv 3 18] (Aa [mv 19 3,ro 20 (bc .lss 19 0)] (cn 20 (.reg [ro 21 (.mkIface 9 (.c (.str ⟨#[108,101,110,32,111,117,116,32,111,102,32,114,97,110,103,101]⟩))),wr (.pan (.t 21)) 0 0 false]) .skip))))) (.reg [nx 22 11,mv 11 22]))))
def a77b1:ACode:=(Aa [lo 28 27 26] (.seq (cn 28 .skip (.exit 2)) (.seq (.block 3 (Aa [ro 29 (ix 1 25 27),rp 30 (l1 29),mv 8 30] (.reg [mv 31 6,mv 32 8,rp 33 (.append 3 40 (.t 31) (.t 32)),mv 6 33]))) (.reg [nx 34 27,mv 27 34]))))
def a77:AFunc:=⟨1,36,(Aa [ro 2 (.move (.c (.slice 0 [] .nil)))] (Aa [c0 3] (.seq (Aa [mv 9 0,ro 10 (ll 9),c0 11] (Ad 0 a77b0)) (Aa [mv 23 3,rp 24 (.call (.f 159) [(.c (.slice 0 [] .nil)),(.t 23)]),mv 6 24] (.seq (Aa [mv 25 0,ro 26 (ll 25),c0 27] (Ad 2 a77b1)) (Aa [mv 35 6,mv 2 35] .ret)))))),[.t 2]⟩
theorem fn77:fnOf 77=some a77:=by kernel_rfl
def a115:AFunc:=⟨2,9,(Aa [ro 3 (.move (.c (.bool false)))] (Aa [ro 4 (fa 0 1),rp 5 (la true 2 4),mv 6 0,rp 7 (.call (.f 88) [(.t 5),(.t 6)]),ro 8 (no 7),mv 3 8] .ret)),[.t 3]⟩
theorem fn115:fnOf 115=some a115:=by kernel_rfl
def qky:ACode:=(Aa [lo 28 27 26] (.seq (cn 28 .skip (.exit 2)) (.seq (.block 3 (Aa [mv 29 27,ro 30 (ix 3 25 27),rp 31 (l3 30),rp 12 (.box 3 (.c zq3)),mv 11 29,ws 3 12 31] (Aa [rp 33 (l3 12),mv 34 2,rp 35 (.call (.f 151) [(.t 33),(.t 34)]),mv 32 35,ro 36 (et 32 0),ro 37 (et 32 1),rp 13 (.box 3 (.c zq3)),ws 3 13 36,mv 14 37] (.seq (Aa [mv 38 14,ro 39 (bc .neq 38 0)] (cn 39 (Aa [ro 6 (.move (.c (.bool false))),ro 7 (.move (ci 2))] .ret) .skip)) (Aa [mv 41 11,rp 42 (l3 3),rp 43 (l3 13),rp 44 (.call (.f 50) [(.t 42),(.t 43)]),mv 40 44,ro 45 (et 40 0),ro 46 (et 40 1),ro 47 (.idxArr 2 3 (.t 10) (.t 41)),ws 3 47 45,mv 14 46] (Aa [mv 48 14,ro 49 (bc .neq 48 0)] (cn 49 (Aa [ro 6 (.move (.c (.bool false))),ro 7 (.move (ci 2))] .ret) .skip))))))) (.reg [nx 50 27,mv 27 50]))))
def a118b1:ACode:=(Aa [lo 18 17 16] (.seq (cn 18 .skip (.exit 0)) (.seq (.block 1 (Aa [ro 19 (ix 6 15 17),rp 20 (la true 6 19),rp 9 (.box 6 (.c zq6)),ws 6 9 20] (Aa [rp 10 (.box 6 (.c zq6))] (.seq (Aa [ro 21 (fa 0 9),rp 22 (l3 21),ro 23 (fa 3 9),rp 24 (l3 23),ro 25 (.buildSlice 3 zq3 2 [(0,(.t 22)),(1,(.t 24))]),ro 26 (ll 25),c0 27] (Ad 2 qky)) (Aa [ro 51 (.idxArr 2 3 (.t 10) (ci 0)),rp 52 (l3 51),ro 53 (.idxArr 2 3 (.t 10) (ci 1)),rp 54 (l3 53),rp 55 (.call (.f 22) [(.t 52),(.t 54)]),ro 56 (no 55)] (cn 56 (Aa [ro 6 (.move (.c (.bool false))),c0 7] .ret) .skip)))))) (.reg [nx 57 17,mv 17 57]))))
def a118:AFunc:=⟨3,58,(Aa [rp 3 (.box 3 (.t 0)),ro 6 (.move (.c (.bool false))),c0 7] (.seq (Aa [mv 15 1,ro 16 (ll 15),c0 17] (Ad 0 a118b1)) (Aa [ro 6 (.move (.c (.bool true))),c0 7] .ret))),[.t 6,.t 7]⟩
theorem fn118:fnOf 118=some a118:=by kernel_rfl
def qrq:ACode:=(Aa [lo 35 34 33] (.seq (cn 35 .skip (.exit 0)) (.seq (.block 1 (Aa [ro 36 (ix 3 32 34),rp 37 (l3 36),rp 8 (.box 3 (.c zq3)),ws 3 8 37] (Aa [rp 39 (l3 8),rp 40 (.call (.f 46) [(.t 39)]),mv 38 40,ro 41 (et 38 0),ro 42 (et 38 1),mv 9 41,mv 10 42] (.reg [mv 43 6,mv 44 6,ro 45 (nc 44),ro 46 (fa 1 45),rp 47 (l1 46),mv 48 9,ro 49 (.buildSlice 1 (.int .i64 0) 1 [(0,(.t 48))]),rp 50 (.append 1 8 (.t 47) (.t 49)),ro 51 (nc 43),ro 52 (fa 1 51),ws 1 52 50])))) (.reg [nx 53 34,mv 34 53]))))
def a151:AFunc:=⟨2,67,(Aa [rp 2 (.box 3 (.t 0)),rp 4 (.box 3 (.c zq3)),c0 5] (.seq (Aa [rp 13 (l3 2),rp 14 (.call (.f 130) [(.t 13)]),ro 15 (no 14),mv 16 15,rg 17 (mo 1) 16 false,rh 18 (.call (.f 195) [(.t 17)]) 16 false,rg 19 (bc .neq 18 0) 16 false,ro 20 (.pick (.t 16) (.c (.bool true)) (.t 19))] (cn 20 (Aa [ro 21 (.build [(.int .i64 0),(.int .i64 0),(.slice 0 [] .nil)] []),ws 3 4 21,ro 5 (.move (ci 4))] .ret) .skip)) (.seq (Aa [rp 22 (l3 2),ro 23 (.buildSlice 3 zq3 1 [(0,(.t 22))]),rp 24 (.call (.f 196) [(.t 23)]),mv 25 1,ro 26 (ll 25),ro 27 (bi .geq 24 26)] (cn 27 (Aa [ro 28 (.build [(.int .i64 0),(.int .i64 0),(.slice 0 [] .nil)] []),ws 3 4 28,ro 5 (.move (ci 1))] .ret) .skip)) (Aa [mv 29 1,ro 30 (.build [(.slice 0 [] .nil),(.slice 0 [] .nil),(.int .i64 0)] [(0,1,(.t 29)),(2,1,(ci 2000))]),rp 31 (.box 3 (.t 30)),mv 6 31] (.seq (Aa [mv 32 1,ro 33 (ll 32),c0 34] (Ad 0 qrq)) (Aa [mv 55 6,rp 56 (l3 2),rp 57 (.call (.f 197) [(.t 55),(.t 56)]),mv 54 57,ro 58 (et 54 0),ro 59 (et 54 1),rp 11 (.box 3 (.c zq3)),ws 3 11 58,mv 12 59] (.seq (Aa [mv 60 12,ro 61 (no 60)] (cn 61 (Aa [ro 62 (.build [(.int .i64 0),(.int .i64 0),(.slice 0 [] .nil)] []),ws 3 4 62,ro 5 (.move (ci 2))] .ret) .skip)) (Aa [rp 63 (l3 11),rp 64 (.call (.f 198) [(.t 63)]),ro 65 (et 64 0),ro 66 (et 64 1),ws 3 4 65,mv 5 66] .ret)))))))),[.cell 4 true 3,.t 5]⟩
theorem fn151:fnOf 151=some a151:=by kernel_rfl
def a158:AFunc:=⟨3,13,(Aa [rp 4 (.box 3 (.c zq3))] (.seq (Aa [mv 5 0,rp 6 (l1 1),ro 7 (bi .geq 5 6)] (cn 7 (.reg [mv 8 0,rp 9 (l1 2),ro 10 (bi .add 8 9),mv 0 10]) .skip)) (Aa [mv 11 0,ro 12 (.build [(.int .i64 0),(.int .i64 0),(.slice 0 [] .nil)] [(0,1,(ci 1)),(1,1,(.t 11))]),ws 3 4 12] .ret))),[.cell 4 true 3]⟩
theorem fn158:fnOf 158=some a158:=by kernel_rfl
def a197b0:ACode:=(Aa [lo 66 65 64] (.seq (cn 66 .skip (.exit 0)) (.seq (.block 1 (Aa [ro 67 (ix 3 63 65),rp 68 (l3 67),rp 8 (.box 3 (.c zq3)),ws 3 8 68] (Aa [mv 70 0,rp 71 (l3 8),rp 72 (.call (.f 197) [(.t 70),(.t 71)]),mv 69 72,ro 73 (et 69 0),ro 74 (et 69 1),rp 9 (.box 3 (.c zq3)),ws 3 9 73,mv 10 74] (.seq (Aa [mv 75 10,ro 76 (no 75)] (cn 76 (Aa [ro 77 (.build [(.int .i64 0),(.int .i64 0),(.slice 0 [] .nil)] []),ws 3 4 77,ro 5 (.move (.c (.bool false)))] .ret) .skip)) (.reg [ro 78 (fa 2 6),rp 79 (l1 78),rp 80 (l3 9),ro 81 (.buildSlice 3 zq3 1 [(0,(.t 80))]),rp 82 (.append 3 40 (.t 79) (.t 81)),ro 83 (fa 2 6),ws 1 83 82]))))) (.reg [nx 84 65,mv 65 84]))))
def a197:AFunc:=⟨2,86,(Aa [rp 3 (.box 3 (.t 1)),rp 4 (.box 3 (.c zq3)),ro 5 (.move (.c (.bool false)))] (.seq (Aa [ro 11 (fa 0 3),rp 12 (l1 11),ro 13 (bc .eql 12 1)] (cn 13 (.seq (sd [mv 14 0,rd 15 (nc 14) false 1 1 false,rd 16 (fa 2 15) false 2 3 false,rd 17 (l1 16) true 3 7 false,rd 18 (mo 0) false 4 0 false,rd 19 (nc 18) false 5 16 false,rd 20 (fa 1 19) false 6 48 false,rd 21 (l1 20) true 7 112 false,rd 22 (fa 1 3) false 8 0 true,rd 23 (l1 22) true 9 256 true,rd 24 (ix 1 21 23) false 10 1008 true,rd 25 (l1 24) true 11 2032 true,rd 26 (bi .sub 17 25) false 12 4095 true,rd 27 (nc 14) false 13 8191 true,rd 28 (fa 2 27) false 14 16383 true,wr (so 1 28 26) 15 32767 true] (Aa [mv 29 0,ro 30 (nc 29),ro 31 (fa 2 30),rp 32 (l1 31),ro 33 (bc .lss 32 0)] (cn 33 (Aa [ro 34 (.build [(.int .i64 0),(.int .i64 0),(.slice 0 [] .nil)] []),ws 3 4 34,ro 5 (.move (.c (.bool false)))] .ret) .skip))) (sd [mv 35 0,rd 36 (nc 35) false 1 1 false,rd 37 (fa 0 36) false 2 3 false,rd 38 (l1 37) true 3 7 false,rd 39 (fa 1 3) false 4 0 true,rd 40 (l1 39) true 5 16 true,rd 41 (ix 3 38 40) false 6 63 true,rd 42 (l3 41) true 7 127 true,rd 43 (.call (.f 226) [(.t 42)]) true 8 255 true,wr (so 3 4 43) 9 511 true,rd 5 (.move (.c (.bool true))) false 10 1023 true] .ret)) .skip)) (.seq (Aa [mv 44 0,ro 45 (nc 44),ro 46 (fa 2 45),rp 47 (l1 46),ro 48 (bc .sub 47 1),ro 49 (nc 44),ro 50 (fa 2 49),ws 1 50 48] (Aa [mv 51 0,ro 52 (nc 51),ro 53 (fa 2 52),rp 54 (l1 53),ro 55 (bc .lss 54 0)] (cn 55 (Aa [ro 56 (.build [(.int .i64 0),(.int .i64 0),(.slice 0 [] .nil)] []),ws 3 4 56,ro 5 (.move (.c (.bool false)))] .ret) .skip))) (Aa [ro 57 (fa 0 3),rp 58 (l1 57),ro 59 (fa 1 3),rp 60 (l1 59),ro 61 (.build [(.int .i64 0),(.int .i64 0),(.slice 0 [] .nil)] [(0,1,(.t 58)),(1,1,(.t 60))]),rp 6 (.box 3 (.c zq3)),ws 3 6 61] (.seq (Aa [ro 62 (fa 2 3),rp 63 (l1 62),ro 64 (ll 63),c0 65] (Ad 0 a197b0)) (Aa [rp 85 (l3 6),ws 3 4 85,ro 5 (.move (.c (.bool true)))] .ret)))))),[.cell 4 true 3,.t 5]⟩
theorem fn197:fnOf 197=some a197:=by kernel_rfl
def a198:AFunc:=⟨1,9,(Aa [rp 1 (.box 3 (.t 0)),rp 2 (.box 3 (.c zq3)),c0 3] (.seq (Aa [rp 4 (l3 1),rp 5 (.call (.f 130) [(.t 4)]),ro 6 (no 5)] (cn 6 (Aa [ro 7 (.build [(.int .i64 0),(.int .i64 0),(.slice 0 [] .nil)] []),ws 3 2 7,ro 3 (.move (ci 2))] .ret) .skip)) (Aa [rp 8 (l3 1),ws 3 2 8,c0 3] .ret))),[.cell 2 true 3,.t 3]⟩
theorem fn198:fnOf 198=some a198:=by kernel_rfl
end Go.Proofs.Tryz
namespace Go.Proofs.Tryz
open Go Go.AE
open Go.AE.Obj (row)
variable {T:Tbl}(hT:Std T){s:GSig}
def zTm:Tm:=.mk 0 0 []
mutual
def subT(l:List Tm):Tm->Tm
 |.mk k n ts=>if k=1 then l.getD n.toNat zTm else .mk k n (subL l ts)
def subL(l:List Tm):List Tm->List Tm
 |[]=>[]
 |t::ts=>subT l t::subL l ts
end
mutual
def qfd(m:Nat):Tm->Prop
 |.mk k n ts=>if k=1 then 0≤n∧n< (m:Int)else qgs m ts
def qgs(m:Nat):List Tm->Prop
 |[]=>True
 |t::ts=>qfd m t∧qgs m ts
end
theorem qjt{m:Nat}:∀{ts:List Tm}{x:Tm},qgs m ts->x∈ts->qfd m x
 |t::ts,x,h,hx=>by
   rcases mN.1 hx with rfl|hx
   ·exact h.1
   ·exact qjt h.2 hx
theorem qoc(l:List Tm):∀ts:List Tm,subL l ts=ts.map (subT l)
 |[]=>rfl
 |t::ts=>by rw[subL,qoc l ts];rfl
theorem qgv{h H:Hp}{km:Nat}{o:AE.Obj}{v:PV}{ws:List Nat}{ups:List (Nat×Nat)}(hp:v.pure=true)(M:Mod h H km o)(W:okWs h km ws)(hu:∀x∈ups,h.length≤x.1):∃ws',tidy 0 h.length (.val v) ⟨H,ws,ups⟩=(.val v.weak,⟨h.set km o,ws',[]⟩)∧∀x∈ws',x=km:=by
 refine⟨AE.below h.length ws,?_,fun x hx=>?_⟩
 · have hua:(ups.any fun(k,j)=>k<h.length&&h.length≤j)=false:=by rw[List.any_eq_false];rintro⟨k,j⟩ hx;have:=hu _ hx;simp at this⊢;omega
   have huf:ups.filter (fun(k,_)=>k<h.length)=[]:=List.filter_eq_nil_iff.2 fun x hx=>by have:=hu x hx;simp;omega
   have hf:frz H h.length 64 v=some v.weak:=qb8 hp;unfold tidy;rw[if_neg (by decide),if_neg (by simpa using hua)];simp only[OR.v,hf,huf,M.take,OR.put];rfl
 · obtain⟨h1,h2⟩:=List.mem_filter.1 hx;have h2:x<h.length:=by simpa using h2
   rcases W x h1 with h|h
   ·exact h
   ·omega
theorem st_f2i{H:Hp}{ws:List Nat}{ups:List (Nat×Nat)}{k:Nat}{a b:PV}{c v:Int}(hk:H[k]?=some (.row 3 [.agg [a,b,iv c]])):
 storeAt 1 (.ptr k 0 2 1) (iv v) ⟨H,ws,ups⟩=some ⟨H.set k (.row 3 [.agg [a,b,iv v]]),wadd k ws,ups⟩:=by
 have hu:upd (.agg [a,b,iv c]) 2 (iv v)=some (.agg [a,b,iv v]):=rfl;simp only[storeAt,hk,Ae,PV.cells,List.all_cons,List.all_nil,PV.isCell,Bool.and_self,and_self,if_true,List.getElem?_cons_zero,hu,Option.map,sC,PV.top,qas]
def qfn(lv sv:PV)(left:Int):AE.Obj:=.row 3 [.agg [lv,sv,iv left]]
theorem Mod.lowM{h H H':Hp}{km:Nat}{o:AE.Obj}(M:Mod h H km o)(L:Low h.length H H'):Mod h H' km o:=⟨by rw[L.take];exact M.take,nT M.len L.len,M.lt⟩
theorem append_K{H:Hp}{v p:PV}{es:List PV}{lo:Nat}(A:AppL H v es lo)(hp:p.cells.all PV.isCell=true)(hl:es.length<100000)(hlo:lo≤H.length):
 ∃(H':Hp)(fw:List Nat->List Nat)(kt:Nat),(∀ws ups,appendop 3 40 v (.slice 3 [p] .lit) ⟨H,ws,ups⟩=some (.slice 3 (es++[p]) (.tok kt),⟨H',fw ws,ups⟩))∧AppL H' (.slice 3 (es++[p]) (.tok kt)) (es++[p]) lo∧(∀(j sz:Nat)(r:List PV),H[j]?=some (.row sz r)->H'[j]?=some (.row sz r))∧Low lo H H'∧∀ws,∀x∈fw ws,x∈ws∨lo≤x:=by
 have hroom:(es.length+1) *40≤room∧es.length+1≤room:=by
  have:10000000≤room:=by decide
  constructor<;>omega
 rcases A with⟨rfl,rfl⟩|⟨kt,rfl,h2,h3⟩
 · simp at hroom;refine⟨H++[.tok 3 1],fun ws=>ws,H.length,fun ws ups=>?_,.inr ⟨H.length,rfl,by simp,hlo⟩,fun j sz r hj=>qag hj,(Low.refl _ _).push hlo,fun ws x hx=>.inl hx⟩;simp[appendop,qb6,hp,hroom,alloc]
 · refine⟨H.set kt (.tok 3 (es.length+1)),wadd kt,kt,fun ws ups=>?_,.inr ⟨kt,rfl,by rw[qai h2];simp,h3⟩,fun j sz r hj=>qaa hj ?_,.set h3,fun ws x hx=>?_⟩
   ·simp[appendop,qb6,hp,hroom,h2,qas]
   · rintro rfl;rw[h2]at hj;cases hj
   · rcases qbe hx with rfl|h
     ·exact .inr h3
     ·exact .inl h
theorem qgd{h:Hp}{km:Nat}:okWs h km []:=fun x hx=>by cases hx
set_option maxRecDepth 8000 in
include hT in
theorem put_ev{l:List Tm}{zl:Nat}{ls:List PV}{ml:SM}(hzl:ls=[]∨zl=3)(hL:EncL l ls)(hlt:∀x∈l,qa0 x=true){sv:PV}{zs:Nat}{ms:SM}(hsv:sv=.slice zs ((l.map fun x=>(x.nodes:Int)).map encI) ms)(hzs:l=[]∨zs=1){t:Tm}{p:PV}(ht:Enc t p):
 t.nodes≤2000->qal t=true->qfd l.length t->∀(h:Hp)(kf:Nat)(left:Int),h[kf]?=some (qfn (.slice zl ls ml) sv left)->0≤left∧left≤2000->
 ∃x:PV×Bool×Int×List Nat,Ev T 197 [.ptr kf 0 0 1,p] h (.val (.tuple [x.1,.bool x.2.1]),⟨h.set kf (qfn (.slice zl ls ml) sv x.2.2.1),x.2.2.2,[]⟩)∧((x.2.1=false∧x.1=qeu)∨(x.2.1=true∧Enc (subT l t) x.1∧0≤x.2.2.1))∧x.2.2.1≤left∧∀y∈x.2.2.2,y=kf:=by
 have hc:=ht.cells;have hsb:=ht.sub;induction ht with
 |mk k n ts sz es hz hl he ih=>
   intro hnd hsh hvb h kf left hkf hleft;simp only[qal,bA,dE,qbm]at hsh;obtain⟨⟨⟨⟨hn,_⟩,_⟩,hl8⟩,hall⟩:=hsh;refine Ev.walkP (r:=fun x:PV×Bool×Int×List Nat=>(.val (.tuple [x.1,.bool x.2.1]),⟨h.set kf (qfn (.slice zl ls ml) sv x.2.2.1),x.2.2.2,[]⟩)) (hT.sp _ (by decide)) ((hT.fn _).trans fn197) (hT.mode _) rfl ?_;obtain⟨c1,c2,c3,c4⟩:=hc;simp only[Tm.nodes]at hnd;have hP0:∃P,P=PV.agg [iv k,iv n,.slice sz es .any]:=⟨_,rfl⟩;obtain⟨P,hP⟩:=hP0;rw[←hP]at hsb c1 c2 c3 c4⊢;have hkl:=(gI.1 hkf).1;have k1:=gC (l:=h) (a:=row 3 [P]);have M1:Mod h (h++[row 3 [P]]) kf (qfn (.slice zl ls ml) sv left):=(Mod.refl hkf).push;have hl1:(h++[row 3 [P]]).length=h.length+1:=by simp
   generalize hH1:h++[row 3 [P]]=H1 at*;have k2:=gC (l:=H1) (a:=row 3 [zN]);have k12:=qag (o2:=row 3 [zN]) k1;have M2:Mod h (H1++[row 3 [zN]]) kf (qfn (.slice zl ls ml) sv left):=M1.push;have hl2:(H1++[row 3 [zN]]).length=h.length+2:=by simp;omega
   have e2:H1++[row 3 [zq3]]=H1++[row 3 [zN]]:=rfl;generalize H1++[row 3 [zN]]=H2 at*;generalize hkr:H1.length=kr at*;have l0:loadAt false 1 (.ptr h.length 0 0 1) H2=some (iv k):=by rw[qac k12,hP];rfl
   have l1:loadAt false 1 (.ptr h.length 0 1 1) H2=some (iv n):=by rw[qac k12,hP];rfl
   have f2:=M2.get;have lf2:loadAt false 1 (.ptr kf 0 2 1) H2=some (iv left):=by rw[qac f2];rfl
   by_cases hk:k=1
   · have hkb:(k==1)=true:=by simpa using hk
     have hv:0≤n∧n< (l.length:Int):=by simp only[qfd,if_pos hk]at hvb;exact hvb
     obtain⟨N,rfl⟩:=iZ hv.1;have hN:N<l.length:=by omega
     have lf1:loadAt false 1 (.ptr kf 0 1 1) H2=some sv:=by rw[qac f2];rw[hsv];rfl
     have hne:l≠[]:=fun h=>by rw[h]at hN;simp at hN
     have hzs1:zs=1:=hzs.resolve_left hne;subst hzs1;have hll':=hL.1
     have hzl3:zl=3:=by
      rcases hzl with rfl|h
      ·simp at hll';omega
      ·exact h
     subst hzl3;have hNn:N< (l.map fun x=>(x.nodes:Int)).length:=by simpa using hN
     have gn:=qc4 hNn;have gnv:(l.map fun x=>(x.nodes:Int))[N]=(l[N].nodes:Int):=by simp
     rw[gnv]at gn;have gl:=qb1 (show N<ls.length by omega);have hlN:l[N]?=some l[N]:=Ab hN;have hEN:=hL.2 N _ _ hlN gl;have hxt:=hlt _ (Af hN);have hxn:=qbi hxt;have hsub1:subT l (.mk k (N:Int) ts)=l[N]:=by simp only[subT,if_pos hk,Int.toNat_natCast,Ac,hlN,Option.getD_some]
     have ix:qb2 1 sv (iv (N:Int))=some (.iptr (iv (l[N].nodes:Int)) 0):=by rw[hsv,qdb,if_pos rfl,gn];rfl
     generalize l[N]=u at*;generalize ls[N]=U at*;have us:=hEN.sub;simp only[lM]at hNn;have hlen1:((l.map fun x=>(x.nodes:Int)).map encI).length=l.length:=by simp
     have s1:=fun ws=>st_f2i (ws:=ws) (ups:=[]) (v:=left - (u.nodes:Int)) f2;have f3:=qai (o':=row 3 [.agg [.slice 3 ls ml,sv,iv (left - (u.nodes:Int))]]) f2;have k23:=qaa (o':=row 3 [.agg [.slice 3 ls ml,sv,iv (left - (u.nodes:Int))]]) k2 (show kf≠kr by omega);have k13:=qaa (o':=row 3 [.agg [.slice 3 ls ml,sv,iv (left - (u.nodes:Int))]]) k12 (show kf≠h.length by omega);have M3:Mod h (H2.set kf (.row 3 [.agg [.slice 3 ls ml,sv,iv (left - (u.nodes:Int))]])) kf (qfn (.slice 3 ls ml) sv (left - (u.nodes:Int))):=M2.put;have hl3:(H2.set kf (.row 3 [.agg [.slice 3 ls ml,sv,iv (left - (u.nodes:Int))]])).length=h.length+2:=by simp[hl2]
     generalize hH3:H2.set kf (.row 3 [.agg [.slice 3 ls ml,sv,iv (left - (u.nodes:Int))]])=H3 at*;have lf3:loadAt false 1 (.ptr kf 0 2 1) H3=some (iv (left - (u.nodes:Int))):=by rw[qac f3];rfl
     by_cases hneg:left - (u.nodes:Int)<0
     · have fb:qdc [PV.int .i64 0,iv 0,.slice 0 [] .nil] []=some [iv 0,iv 0,.slice 0 [] .nil]:=rfl;obtain⟨u4,sv4,hu4⟩:=qex (ups:=[]) (x:=0) (y:=0) (sz:=0) (es:=[]) (m:=.nil) k23;have l8:loadAt true 3 (.ptr kr 0 0 1) (H3.set kr (.row 3 [.agg [iv 0,iv 0,.slice 0 [] .nil]]))=some (.agg [iv 0,iv 0,.slice 0 [] .nil]):=by rw[qac (qai k23)];rfl
       simp(disch:=first|omega|decide|simp only[go_sem]) only[go_sem,hH1,e2,hkr,c1,c3,Ae,l0,l1,hkb,lf2,lf1,ix,s1,lf3,hneg,fb,sv4,resv,l8,hT.prim]
       obtain⟨wz,t1,t2⟩:=qgv (v:=.tuple [.agg [iv 0,iv 0,.slice 0 [] .nil],.bool false]) rfl (M3.putNew (k:=kr) (o':=.row 3 [.agg [iv 0,iv 0,.slice 0 [] .nil]]) (by omega)) (ws:=wadd kr (wall (wadd kf []) [])) (okWs.add (okWs.wall (okWs.add qgd (.inl rfl)) qgd) (.inr (by omega))) (fun x hx=>by
        rcases hu4 x hx with h|h
        ·cases h
        ·omega)
       exact⟨(qeu,false,left - (u.nodes:Int),wz),t1,.inl ⟨rfl,rfl⟩,by simp only;omega,t2⟩
     · obtain⟨q,evc,hq⟩:=qmd hT hEN hxn (qav hxt) H3;obtain⟨x1,x2,_,x4⟩:=hq.cells;have lfa:loadAt false 1 (.ptr kf 0 0 1) H3=some (.slice 3 ls ml):=by rw[qac f3];rfl
       have ln3:loadAt false 1 (.ptr h.length 0 1 1) H3=some (iv (N:Int)):=by rw[qac k13,hP];rfl
       have hNs:N<ls.length:=by omega
       have sv5:=fun ws ups=>qcz (ws:=ws) (ups:=ups) (n:=1) (N:=0) k23 rfl rfl ⟨rfl,_,rfl⟩ ⟨x1,x2,x4⟩ hq.facts.1;simp only[sC]at sv5;have l8:loadAt true 3 (.ptr kr 0 0 1) (H3.set kr (.row 3 [q]))=some q:=by rw[qac (qai k23)];exact hq.sub
       simp(disch:=first|omega|decide|simp only[go_sem]) only[go_sem,hH1,e2,hkr,c1,c3,l0,l1,hkb,lf2,lf1,ix,s1,lf3,hneg,lfa,ln3,gl,us,cb evc,sv5,resv,l8,hT.q];obtain⟨wz,t1,t2⟩:=qgv (v:=.tuple [q,.bool true]) (ups:=[]) (by simp[PV.pure,qat,hq.facts.2.1]) (M3.putNew (k:=kr) (o':=.row 3 [q]) (by omega)) (ws:=wall (wadd kr []) (wall (wadd kf []) [])) (okWs.wall (okWs.add qgd (.inr (by omega))) (okWs.wall (okWs.add qgd (.inl rfl)) qgd)) (by simp);simp only[PV.weak,qau,hq.facts.2.2]at t1;exact⟨(q,true,left - (u.nodes:Int),wz),t1,.inr ⟨rfl,by rw[hsub1];exact hq,by simp only;omega⟩,by simp only;omega,t2⟩
   have hkb:(k==1)=false:=by simpa using hk
   have hsub1:subT l (.mk k n ts)=.mk k n (subL l ts):=by simp only[subT,if_neg hk]
   have hvs:qgs l.length ts:=by simpa only[qfd,if_neg hk]using hvb
   have s1:=fun ws=>st_f2i (ws:=ws) (ups:=[]) (v:=left - 1) f2;have k23:=qaa (o':=row 3 [.agg [.slice zl ls ml,sv,iv (left - 1)]]) k2 (show kf≠kr by omega);have k13:=qaa (o':=row 3 [.agg [.slice zl ls ml,sv,iv (left - 1)]]) k12 (show kf≠h.length by omega);have f3:=qai (o':=row 3 [.agg [.slice zl ls ml,sv,iv (left - 1)]]) f2;have M3:Mod h (H2.set kf (.row 3 [.agg [.slice zl ls ml,sv,iv (left - 1)]])) kf (qfn (.slice zl ls ml) sv (left - 1)):=M2.put;have hl3:(H2.set kf (.row 3 [.agg [.slice zl ls ml,sv,iv (left - 1)]])).length=h.length+2:=by simp[hl2]
   generalize hH3:H2.set kf (.row 3 [.agg [.slice zl ls ml,sv,iv (left - 1)]])=H3 at*;have lf3:loadAt false 1 (.ptr kf 0 2 1) H3=some (iv (left - 1)):=by rw[qac f3];rfl
   have fb0:qdc [PV.int .i64 0,iv 0,.slice 0 [] .nil] []=some [iv 0,iv 0,.slice 0 [] .nil]:=rfl;by_cases hneg:left - 1<0
   · obtain⟨u4,sv4,hu4⟩:=qex (ups:=[]) (x:=0) (y:=0) (sz:=0) (es:=[]) (m:=.nil) k23;have l8:loadAt true 3 (.ptr kr 0 0 1) (H3.set kr (.row 3 [.agg [iv 0,iv 0,.slice 0 [] .nil]]))=some (.agg [iv 0,iv 0,.slice 0 [] .nil]):=by rw[qac (qai k23)];rfl
     simp(disch:=omega) only[go_sem,hH1,e2,hkr,c1,c3,Ae,l0,hkb,lf2,s1,lf3,hneg,fb0,sv4,resv,l8,hT.prim]
     obtain⟨wz,t1,t2⟩:=qgv (v:=.tuple [.agg [iv 0,iv 0,.slice 0 [] .nil],.bool false]) rfl (M3.putNew (k:=kr) (o':=.row 3 [.agg [iv 0,iv 0,.slice 0 [] .nil]]) (by omega)) (ws:=wadd kr (wadd kf [])) (okWs.add (okWs.add qgd (.inl rfl)) (.inr (by omega))) (fun x hx=>by
      rcases hu4 x hx with h|h
      ·cases h
      ·omega)
     exact⟨(qeu,false,left - 1,wz),t1,.inl ⟨rfl,rfl⟩,by simp only;omega,t2⟩
   have fb:qdc [PV.int .i64 0,iv 0,.slice 0 [] .nil] [(0,1,iv k),(1,1,iv n)]=some [iv k,iv n,.slice 0 [] .nil]:=rfl;have l03:loadAt false 1 (.ptr h.length 0 0 1) H3=some (iv k):=by rw[qac k13,hP];rfl
   have l13:loadAt false 1 (.ptr h.length 0 1 1) H3=some (iv n):=by rw[qac k13,hP];rfl
   have sb:=fun ws=>qa6 (h:=H3) (ws:=ws) (ups:=[]) (z:=zq3) (sz:=3) (c:=.agg [iv k,iv n,.slice 0 [] .nil]) rfl rfl rfl rfl ⟨_,rfl⟩ ⟨_,rfl⟩;have k3:=gC (l:=H3) (a:=row 3 [.agg [iv k,iv n,.slice 0 [] .nil]]);have k24:=qag (o2:=row 3 [.agg [iv k,iv n,.slice 0 [] .nil]]) k23;have k14:=qag (o2:=row 3 [.agg [iv k,iv n,.slice 0 [] .nil]]) k13;have M4:Mod h (H3++[row 3 [.agg [iv k,iv n,.slice 0 [] .nil]]]) kf (qfn (.slice zl ls ml) sv (left - 1)):=M3.push;generalize hH4:H3++[row 3 [.agg [iv k,iv n,.slice 0 [] .nil]]]=H4 at*;generalize hkx:H3.length=kx at*;have lts:loadAt false 1 (.ptr h.length 0 2 1) H4=some (.slice sz es .any):=by rw[qac k14,hP];rfl
   simp(disch:=omega) only[go_sem,hH1,e2,hkr,c1,c3,Ae,l0,hkb,lf2,s1,lf3,hneg,l03,l13,fb,hkx,sb,lts,hT.prim]
   refine wpC.loopM (fun g e st=> ∃(i:Nat)(v:PV)(qs:List PV)(H:Hp)(ws:List Nat)(ups:List (Nat×Nat))(lf:Int),i+g=es.length∧EncL ((subL l ts).take i) qs∧AppL H v qs h.length∧H[kx]?=some (.row 3 [.agg [iv k,iv n,v]])∧H[kr]?=some (.row 3 [zN])∧Mod h H kf (qfn (.slice zl ls ml) sv lf)∧okWs h kf ws∧(∀x∈ups,h.length≤x.1)∧(0≤lf∧lf≤left - 1)∧(eget e 0=.ptr kf 0 0 1∧eget e 4=.ptr kr 0 0 1∧eget e 6=.ptr kx 0 0 1∧eget e 63=.slice sz es .any∧eget e 64=iv (es.length:Int)∧eget e 65=iv (i:Int))∧st=⟨H,ws,ups⟩) ?_ es.length _ _
    ⟨0,_,[],H4,_,[],left - 1,by omega,⟨by simp,by simp⟩,.inl ⟨rfl,rfl⟩,k3,k24,M4,okWs.add (okWs.add qgd (.inl rfl)) (.inr (by omega)),by simp,by omega,by simp only[go_sem,Ag],rfl⟩
   rintro g e st ⟨i,v,qs,H,ws,ups,lf,hi,hEq,hA,kx',kr',M,hw,hu,hlf,⟨e0,e4,e6,e63,e64,e65⟩,rfl⟩;have hHl:=M.len;have hsl:(subL l ts).length=ts.length:=by rw[qoc];simp
   by_cases h1:i<es.length
   · have h1':(i:Int)< (es.length:Int):=by omega
     have ga:=qb1 h1;have hx:ts[i]?=some ts[i]:=Ab (by omega);have hEx:=he i _ _ hx ga;have hmx:=mG hx;have hndx:=qcp hmx;have hsx:(subL l ts)[i]?=some (subT l ts[i]):=by rw[qoc,gM,hx];rfl
     have hsz:sz=3:=by
      rcases hz with rfl|h
      ·simp at h1
      ·exact h
     subst hsz;have ihx:=ih i _ _ hx ga hEx.cells hEx.sub (by omega) (List.all_eq_true.1 hall _ hmx) (qjt hvs hmx);generalize ts[i]=u at*;generalize es[i]=y at*;obtain⟨b1,b2,_,b4⟩:=hEx.cells;have bs:=hEx.sub;have sb:=qa6 (h:=H) (ws:=ws) (ups:=ups) (z:=zq3) (sz:=3) (c:=y) b1 rfl b2 hEx.facts.1 ⟨_,rfl⟩ b4;have kq:=gC (l:=H) (a:=row 3 [y]);have kx5:=qag (o2:=row 3 [y]) kx';have kr5:=qag (o2:=row 3 [y]) kr';have M5:Mod h (H++[row 3 [y]]) kf (qfn (.slice zl ls ml) sv lf):=M.push;have A5:=hA.push (o:=.row 3 [y]);have hw5:okWs h kf (wadd H.length ws):=okWs.add hw (.inr hHl);have hl5:(H++[row 3 [y]]).length=H.length+1:=by simp
     generalize hH5:H++[row 3 [y]]=H5 at*;generalize hkk:H.length=kk at*;have lq:loadAt true 3 (.ptr kk 0 0 1) H5=some y:=by rw[qac kq];exact bs
     obtain⟨⟨V,b,lf',wz⟩,ev,hV,hle,hwz⟩:=ihx H5 kf lf M5.get ⟨hlf.1,by omega⟩;simp only at ev hV hle hwz;have f5:=M5.get;have A6:=A5.set (r':=[.agg [.slice zl ls ml,sv,iv lf']]) f5;have kx6:=qaa (o':=qfn (.slice zl ls ml) sv lf') kx5 (show kf≠kx by omega);have kr6:=qaa (o':=qfn (.slice zl ls ml) sv lf') kr5 (show kf≠kr by omega);have M6:Mod h (H5.set kf (qfn (.slice zl ls ml) sv lf')) kf (qfn (.slice zl ls ml) sv lf'):=M5.put;have hl6:(H5.set kf (qfn (.slice zl ls ml) sv lf')).length=H5.length:=by simp
     have hw6:okWs h kf (wall wz (wadd kk ws)):=okWs.wall (fun x hx=>.inl (hwz x hx)) hw5;have A6:AppL (H5.set kf (qfn (.slice zl ls ml) sv lf')) v qs h.length:=A6;generalize hH6:H5.set kf (qfn (.slice zl ls ml) sv lf')=H6 at*
     have hVf:V.cells.length=3∧V.cells.all PV.isCell=true∧(∃cs,V=.agg cs)∧V.top=none∧V.isDef=true∧AE.sub true 3 V 0=some V:=by
      rcases hV with⟨_,rfl⟩|⟨_,hE',_⟩
      ·exact⟨rfl,rfl,⟨_,rfl⟩,rfl,rfl,rfl⟩
      · obtain⟨y1,y2,y3,y4⟩:=hE'.cells;exact⟨y1,y2,y4,hE'.facts.1,y3,hE'.sub⟩
     obtain⟨v1,v2,v3,v4,v5,v6⟩:=hVf;have sb2:=fun ws=>qa6 (h:=H6) (ws:=ws) (ups:=ups) (z:=zq3) (sz:=3) (c:=V) v1 rfl v2 v4 ⟨_,rfl⟩ v3;have k7:=gC (l:=H6) (a:=row 3 [V]);have kx7:=qag (o2:=row 3 [V]) kx6;have kr7:=qag (o2:=row 3 [V]) kr6;have M7:Mod h (H6++[row 3 [V]]) kf (qfn (.slice zl ls ml) sv lf'):=M6.push;have A7:=A6.push (o:=.row 3 [V]);have hw7:okWs h kf (wadd H6.length (wall wz (wadd kk ws))):=okWs.add hw6 (.inr (by omega));generalize hH7:H6++[row 3 [V]]=H7 at*;generalize hkq:H6.length=kq' at*;have hHl7:=M7.len;have lV:loadAt true 3 (.ptr kq' 0 0 1) H7=some V:=by rw[qac k7];exact v6
     rcases hV with⟨rfl,rfl⟩|⟨rfl,hE',h0⟩
     · obtain⟨u4,sv4,hu4⟩:=qex (ups:=ups) (x:=0) (y:=0) (sz:=0) (es:=[]) (m:=.nil) kr7;have l8:loadAt true 3 (.ptr kr 0 0 1) (H7.set kr (.row 3 [.agg [iv 0,iv 0,.slice 0 [] .nil]]))=some (.agg [iv 0,iv 0,.slice 0 [] .nil]):=by rw[qac (qai kr7)];rfl
       simp(disch:=omega) only[go_sem,a197b0,e0,e4,e63,e64,e65,h1',ga,bs,hkk,sb,lq,cb ev,hkq,sb2,fb0,sv4,resv,l8,hT.q]
       obtain⟨wy,t1,t2⟩:=qgv (v:=.tuple [.agg [iv 0,iv 0,.slice 0 [] .nil],.bool false]) rfl (M7.putNew (k:=kr) (o':=.row 3 [.agg [iv 0,iv 0,.slice 0 [] .nil]]) (by omega)) (ws:=wadd kr (wadd kq' (wall wz (wadd kk ws)))) (okWs.add hw7 (.inr (by omega))) (fun x hx=>by
        rcases hu4 x hx with h|h
        ·exact hu x h
        ·omega)
       exact⟨(qeu,false,lf',wy),t1,.inl ⟨rfl,rfl⟩,by simp only;omega,t2⟩
     · have lv:loadAt false 1 (.ptr kx 0 2 1) H7=some v:=by rw[qac kx7];rfl
       have fe:=fe_1 (p:=V) ⟨v1,v5⟩;have hql:=hEq.1;rw[lT]at hql;obtain⟨H',fw,kt,ap,A',keep',low',hfw⟩:=append_K A7 v2 (by omega) hHl7;have kx8:=keep' _ _ _ kx7;have kr8:=keep' _ _ _ kr7;obtain⟨u3,sv3,hu3⟩:=st_f2W (ups:=ups) (kt:=kt) (es:=qs++[V]) kx8;simp(disch:=omega) only[go_sem,a197b0,e0,e4,e6,e63,e64,e65,h1',ga,bs,hkk,sb,lq,cb ev,hkq,sb2,lv,lV,fe,ap,sv3,hT.q];refine⟨g - 1,by omega,i+1,_,qs++[V],_,_,_,lf',by omega,hEq.snocT hsx hE',A'.set kx8,qai kx8,qaa kr8 (by omega),(M7.lowM low').putNew (by omega),okWs.add (fun x hx=>?_) (.inr (by omega)),fun x hx=>?_,⟨h0,by omega⟩,rfl,rfl⟩
       · rcases hfw _ x hx with h|h
         ·exact hw7 x h
         ·exact .inr h
       · rcases hu3 x hx with h|h
         ·exact hu x h
         ·omega
   · have h1':¬(i:Int)< (es.length:Int):=by omega
     rw[tL (by omega)]at hEq;obtain⟨sz',m,rfl,hsz'⟩:=hA.slice;have lx:loadAt true 3 (.ptr kx 0 0 1) H=some (.agg [iv k,iv n,.slice sz' qs m]):=by rw[qac kx'];rfl
     obtain⟨u4,sv4,hu4⟩:=qex (ups:=ups) (x:=k) (y:=n) (sz:=sz') (es:=qs) (m:=m) kr';have l8:loadAt true 3 (.ptr kr 0 0 1) (H.set kr (.row 3 [.agg [iv k,iv n,.slice sz' qs m]]))=some (.agg [iv k,iv n,.slice sz' qs m]):=by rw[qac (qai kr')];rfl
     obtain⟨w1,w2⟩:=EncM.weak (t:=.mk k n (subL l ts)) (p:=.agg [iv k,iv n,.slice sz' qs m]) ⟨k,n,subL l ts,sz',qs,m,rfl,rfl,hsz',hEq⟩;simp(disch:=omega) only[go_sem,a197b0,e4,e6,e64,e65,h1',lx,sv4,resv,l8]
     obtain⟨wy,t1,t2⟩:=qgv (v:=.tuple [.agg [iv k,iv n,.slice sz' qs m],.bool true]) (by simpa[PV.pure,qat]using w1) (M.putNew (k:=kr) (o':=.row 3 [.agg [iv k,iv n,.slice sz' qs m]]) (by omega)) (ws:=wadd kr ws) (okWs.add hw (.inr (by omega))) (fun x hx=>by
      rcases hu4 x hx with h|h
      ·exact hu x h
      ·omega)
     simp only[PV.weak,qau]at t1 w2;exact⟨(_,true,lf,wy),t1,.inr ⟨rfl,by rw[hsub1];exact w2,hlf.1⟩,by simp only;omega,t2⟩
include hT in
theorem sizeG_ev{t:Tm}{p:PV}(ht:Enc t p)(hb:qa0 t=true)(h:Hp):∃d:Int,Ev T 46 [p] h (.val (.tuple [.int .i64 (t.nodes:Int),.int .i64 d]),⟨h,[],[]⟩)∧True:=by
 refine Ev.walkP (r:=fun d:Int=>(.val (.tuple [.int .i64 (t.nodes:Int),.int .i64 d]),⟨h,[],[]⟩)) (hT.sp _ (by decide)) ((hT.fn _).trans fn46) (hT.mode _) rfl ?_;obtain⟨c1,_,c3,_⟩:=ht.cells;have hs:=ht.sub;simp only[qa0,bA,dE]at hb;have kp:=gC (l:=h) (a:=row 3 [p]);have low1:Low h.length h (h++[row 3 [p]]):=(Low.refl _ _).push (nR _);have hl1:(h++[row 3 [p]]).length=h.length+1:=by simp
 generalize hH1:h++[row 3 [p]]=H1 at*;have km:(H1++[row 2 [PV.agg [.int .i64 0,.int .i64 0]]])[H1.length]?=some (mRow 0 0):=by simp[mRow]
 have kp2:=qag (o2:=row 2 [PV.agg [.int .i64 0,.int .i64 0]]) kp;have low2:=low1.push (o:=row 2 [PV.agg [.int .i64 0,.int .i64 0]]) (by omega);generalize hH2:H1++[row 2 [PV.agg [.int .i64 0,.int .i64 0]]]=H2 at*;have lp:loadAt true 3 (.ptr h.length 0 0 1) H2=some p:=by rw[qac kp2];exact hs
 obtain⟨nd,dp,ws,ev,C,hw⟩:=qmc hT ht H2 H1.length 0 0 1 km (by omega) (by omega) (by omega);have km3:(H2.set H1.length (mRow nd dp))[H1.length]?=some (mRow nd dp):=qai km;have low3:Low h.length h (H2.set H1.length (mRow nd dp)):=low2.trans (.set (by omega));generalize hH3:H2.set H1.length (mRow nd dp)=H3 at*;have ov:=qoh hT km3
 have hnd:nd=(t.nodes:Int)∧dp≤200:=by
  rcases C with⟨_,_,a3,a4⟩|⟨a1,a2⟩
  ·constructor<;>omega
  ·exfalso;omega
 obtain⟨rfl,hdp⟩:=hnd;have o1:(decide ((2000:Int)< (t.nodes:Int))||decide ((200:Int)<dp))=false:=by rw[decide_eq_false (by omega),decide_eq_false (by omega)];rfl
 rw[o1]at ov;have l0:loadAt false 1 (.ptr H1.length 0 0 1) H3=some (.int .i64 (t.nodes:Int)):=by rw[qac km3];rfl
 have l1:loadAt false 1 (.ptr H1.length 0 1 1) H3=some (.int .i64 dp):=by rw[qac km3];rfl
 simp(disch:=first|omega|decide|simp only[go_sem]) only[go_sem,hH1,c1,c3,hH2,lp,cb ev,cb ov,l0,l1,hT.q];refine⟨dp,?_,trivial⟩
 exact qaj rfl rfl low3 (fun x hx=>by
  repeat' first|(have:=hw x hx;omega)|(cases hx;done)|(rcases qaz hx with hx|hx))
include hT in
theorem bounded_ev{t:Tm}{p:PV}(ht:Enc t p)(h:Hp):Ev T 198 [p] h (.val (.tuple [if qa0 t=true then p else qeu,.int .i64 (if qa0 t=true then 0 else 2)]),⟨h,[],[]⟩):=by
 refine Ev.walk (hT.sp _ (by decide)) ((hT.fn _).trans fn198) (hT.mode _) rfl ?_;obtain⟨c1,c2,c3,c4⟩:=ht.cells;have k1:=gC (l:=h) (a:=row 3 [p]);have low1:Low h.length h (h++[row 3 [p]]):=(Low.refl _ _).push (nR _);have hl1:(h++[row 3 [p]]).length=h.length+1:=by simp
 generalize hH1:h++[row 3 [p]]=H1 at*;have z2:=gC (l:=H1) (a:=row 3 [zN]);have k2:=qag (o2:=row 3 [zN]) k1;have low2:=low1.push (o:=row 3 [zN]) (by omega);have e2:H1++[row 3 [zq3]]=H1++[row 3 [zN]]:=rfl;generalize H1++[row 3 [zN]]=H2 at*;generalize hkr:H1.length=kr at*;have lp:loadAt true 3 (.ptr h.length 0 0 1) H2=some p:=by rw[qac k2];exact ht.sub
 have evt:=qfp hT ht H2;by_cases hb:qa0 t=true
 · rw[if_pos hb,if_pos hb];rw[hb]at evt;have sv:=fun ws ups=>qcz (ws:=ws) (ups:=ups) (n:=1) (N:=0) z2 rfl rfl ⟨rfl,_,rfl⟩ ⟨c1,c2,c4⟩ ht.facts.1;simp only[sC]at sv;have l8:loadAt true 3 (.ptr kr 0 0 1) (H2.set kr (.row 3 [p]))=some p:=by rw[qac (qai z2)];exact ht.sub
   have td:=qaj (v:=.tuple [p,.int .i64 0]) (ws:=wadd kr []) (by simp[PV.pure,qat,ht.facts.2.1]) (by simp[PV.weak,qau,ht.facts.2.2]) (low2.trans (.set (show h.length≤kr by omega)):Low h.length h (H2.set kr (.row 3 [p]))) (qad (by omega) (by simp));simp(disch:=omega) only[go_sem,hH1,e2,hkr,c1,c3,lp,cb evt,Bool.not_true,sv,resv,l8,hT.q,td]
 · rw[if_neg hb,if_neg hb];have hb':qa0 t=false:=by simpa using hb
   rw[hb']at evt;have fb0:qdc [PV.int .i64 0,.int .i64 0,.slice 0 [] .nil] []=some [.int .i64 0,.int .i64 0,.slice 0 [] .nil]:=rfl;obtain⟨u4,sv4,hu4⟩:=qex (ups:=[]) (x:=0) (y:=0) (sz:=0) (es:=[]) (m:=.nil) z2;have l8:loadAt true 3 (.ptr kr 0 0 1) (H2.set kr (.row 3 [.agg [.int .i64 0,.int .i64 0,.slice 0 [] .nil]]))=some (.agg [.int .i64 0,.int .i64 0,.slice 0 [] .nil]):=by rw[qac (qai z2)];rfl
   simp(disch:=omega) only[go_sem,hH1,e2,hkr,c1,c3,lp,cb evt,Bool.not_false,fb0,sv4,resv,l8,hT.q]
   exact qa4 rfl (low2.trans (.set (by omega))) (qad (by omega) (by simp)) (fun x hx=>by
    rcases hu4 x hx with h|h
    ·cases h
    ·omega)
theorem varsB_of{m:Nat}:∀{t:Tm},qal t=true->grtF t< (m:Int)->qfd m t
 |.mk k n ts,hs,hg=>by
   simp only[qal,bA,dE,qbm]at hs;obtain⟨⟨⟨⟨hn,hk1⟩,hk12⟩,hl8⟩,hall⟩:=hs;simp only[grtF]at hg;unfold qfd;split
   · rename_i hk;rw[if_pos hk]at hg;exact⟨by omega,by omega⟩
   · have key:∀l:List Tm,(∀x∈l,x∈ts)->grtL l< (m:Int)->qgs m l:=by
      intro l;induction l with
      |nil=>intro _ _;trivial
      |cons x l ih=>
        intro hx hl;simp only[grtL]at hl;have hm:=hx x (List.mem_cons_self);have:x.nodes< (Tm.mk k n ts).nodes:=by have:=qcp hm;simp only[Tm.nodes];omega
        exact⟨varsB_of (List.all_eq_true.1 hall x hm) (by omega),ih (fun y hy=>hx y (mC _ hy)) (by omega)⟩
     exact key ts (fun _ h=>h) (by omega)
termination_by t=>t.nodes
def SubX(l:List Tm)(t:Tm)(x:PV×Int):Prop:=(x.2=0∧qa0 t=true∧l.all qa0=true∧grtF t< (l.length:Int)∧Enc (subT l t) x.1∧qa0 (subT l t)=true)∨(x.2≠0∧x.1=qeu)
theorem AppN.set'{H:Hp}{v:PV}{L:List Int}{lo k:Nat}{o o':AE.Obj}(A:AppN H v L lo)(hk:H[k]?=some o)(ho:o.isTok=false):AppN (H.set k o') v L lo:=by
 rcases A with h|⟨kt,h1,h2,h3⟩
 ·exact .inl h
 · refine .inr ⟨kt,h1,qaa h2 ?_,h3⟩;rintro rfl;rw[h2]at hk;cases hk;cases ho
theorem AppN.form{H:Hp}{v:PV}{L:List Int}{lo:Nat}(A:AppN H v L lo):∃z m,v=.slice z (L.map encI) m∧(L=[]∨z=1):=by
 rcases A with⟨rfl,rfl⟩|⟨k,rfl,_⟩
 ·exact⟨0,.nil,rfl,.inl rfl⟩
 ·exact⟨1,_,rfl,.inr rfl⟩
theorem st_f1W{H:Hp}{ups:List (Nat×Nat)}{kx kt:Nat}{a b v:PV}{es:List PV}(hk:H[kx]?=some (.row 3 [.agg [a,v,b]])):
 ∃ups',(∀ws,storeAt 1 (.ptr kx 0 1 1) (.slice 1 es (.tok kt)) ⟨H,ws,ups⟩=some ⟨H.set kx (.row 3 [.agg [a,.slice 1 es (.tok kt),b]]),wadd kx ws,ups'⟩)∧∀x∈ups',x∈ups∨x.1=kx:=by
 have hu:upd (.agg [a,v,b]) 1 (.slice 1 es (.tok kt))=some (.agg [a,.slice 1 es (.tok kt),b]):=rfl;obtain⟨u,h1,h2⟩:=qiq (k:=kx) (o:=.row 3 [.agg [a,.slice 1 es (.tok kt),b]]) (up:=(PV.slice 1 es (.tok kt)).top) (H:=H) (ups:=ups);refine⟨u,fun ws=>?_,h2⟩;rw[←h1 ws];simp only[storeAt,hk,Ae,PV.cells,List.all_cons,List.all_nil,PV.isCell,Bool.and_self,and_self,if_true,List.getElem?_cons_zero,hu,Option.map,sC]
set_option maxRecDepth 8000 in
include hT in
theorem subst_ev{l:List Tm}{zl:Nat}{ls:List PV}{ml:SM}(hzl:ls=[]∨zl=3)(hL:EncL l ls)(hln:l.length≤1000){t:Tm}{p:PV}(ht:Enc t p)(h:Hp):
 ∃x:PV×Int,Ev T 151 [p,.slice zl ls ml] h (.val (.tuple [x.1,iv x.2]),⟨h,[],[]⟩)∧SubX l t x:=by
 refine Ev.walkP (r:=fun x:PV×Int=>(.val (.tuple [x.1,iv x.2]),⟨h,[],[]⟩)) (hT.sp _ (by decide)) ((hT.fn _).trans fn151) (hT.mode _) rfl ?_;obtain⟨c1,_,c3,_⟩:=ht.cells;have hll:=hL.1;have k1:=gC (l:=h) (a:=row 3 [p]);have low1:Low h.length h (h++[row 3 [p]]):=(Low.refl _ _).push (nR _);have hl1:(h++[row 3 [p]]).length=h.length+1:=by simp
 generalize hH1:h++[row 3 [p]]=H1 at*;have z2:=gC (l:=H1) (a:=row 3 [zN]);have k2:=qag (o2:=row 3 [zN]) k1;have low2:=low1.push (o:=row 3 [zN]) (by omega);have hl2:(H1++[row 3 [zN]]).length=h.length+2:=by simp;omega
 have e2:H1++[row 3 [zq3]]=H1++[row 3 [zN]]:=rfl;generalize H1++[row 3 [zN]]=H2 at*;generalize hkr:H1.length=kr at*;have lp:loadAt true 3 (.ptr h.length 0 0 1) H2=some p:=by rw[qac k2];exact ht.sub
 have evt:=qfp hT ht H2;have fb0:qdc [PV.int .i64 0,iv 0,.slice 0 [] .nil] []=some [iv 0,iv 0,.slice 0 [] .nil]:=rfl
 have err:∀(H:Hp)(hk:H[kr]?=some (.row 3 [zN])),∃u4,(∀ws,storeAt 3 (.ptr kr 0 0 1) (.agg [iv 0,iv 0,.slice 0 [] .nil]) ⟨H,ws,[]⟩=some ⟨H.set kr (.row 3 [.agg [iv 0,iv 0,.slice 0 [] .nil]]),wadd kr ws,u4⟩)∧loadAt true 3 (.ptr kr 0 0 1) (H.set kr (.row 3 [.agg [iv 0,iv 0,.slice 0 [] .nil]]))=some (.agg [iv 0,iv 0,.slice 0 [] .nil])∧
  ∀(r:Int)(ws:List Nat),Low h.length h H->(∀x∈ws,h.length≤x)->tidy 0 h.length (.val (.tuple [.agg [iv 0,iv 0,.slice 0 [] .nil],iv r])) ⟨H.set kr (.row 3 [.agg [iv 0,iv 0,.slice 0 [] .nil]]),ws,u4⟩=(.val (.tuple [qeu,iv r]),⟨h,[],[]⟩):=fun H hk=>by
  obtain⟨u4,sv4,hu4⟩:=qex (ups:=[]) (x:=0) (y:=0) (sz:=0) (es:=[]) (m:=.nil) hk
  exact⟨u4,sv4,by rw[qac (qai hk)];rfl,fun r ws L hw=>qa4 rfl (L.trans (.set (by omega))) hw (fun x hx=>by
   rcases hu4 x hx with h|h
   ·cases h
   ·omega)⟩
 obtain⟨u2,sv2,l82,td2⟩:=err H2 z2;by_cases hb:qa0 t=true;rotate_left
 · have hb':qa0 t=false:=by simpa using hb
   rw[hb']at evt;have t1:=td2 4 (wadd kr []) low2 (qad (by omega) (by simp));simp(disch:=omega) only[go_sem,hH1,e2,hkr,c1,c3,lp,cb evt,Bool.not_false,fb0,sv2,resv,l82,hT.q,t1];exact⟨(qeu,4),rfl,.inr ⟨by simp,rfl⟩⟩
 rw[hb]at evt;have evs:=qk6 hT (m:=ml) hzl hL (by omega) H2;by_cases hls:l.all qa0=true;rotate_left
 · rw[if_neg hls]at evs;have t1:=td2 4 (wadd kr []) low2 (qad (by omega) (by simp));simp(disch:=omega) only[go_sem,hH1,e2,hkr,c1,c3,lp,cb evt,Bool.not_true,cb evs,fb0,sv2,resv,l82,hT.q,t1];exact⟨(qeu,4),rfl,.inr ⟨by simp,rfl⟩⟩
 rw[if_pos hls]at evs;have f1:=fe_1 (p:=p) ⟨c1,c3⟩;have hn2:=qbi hb
 have evg:=qii hT 2000 [t] 3 [p] .lit (by simp[qa3];omega) (by omega) (.inr rfl) ⟨rfl,fun i y q h1 h2=>by
  cases i with
  |zero=>simp at h1 h2;subst h1 h2;exact ht
  |succ i=>simp at h1⟩ H2
 have hgl:grtL [t]=grtF t:=by have:=(qsr t).1;simp only[grtL];omega
 rw[hgl]at evg;by_cases hg:grtF t< (l.length:Int);rotate_left
 · have hg':(ls.length:Int)≤grtF t:=by omega
   have t1:=td2 1 (wadd kr []) low2 (qad (by omega) (by simp));simp(disch:=omega) only[go_sem,hH1,e2,hkr,c1,c3,lp,cb evt,Bool.not_true,cb evs,f1,cb evg,hg',fb0,sv2,resv,l82,hT.q,t1];exact⟨(qeu,1),rfl,.inr ⟨by simp,rfl⟩⟩
 have hg':¬(ls.length:Int)≤grtF t:=by omega
 have hb0:((0:Int) !=0)=false:=rfl;have fbF:qdc [PV.slice 0 [] .nil,.slice 0 [] .nil,iv 0] [(0,1,.slice zl ls ml),(2,1,iv 2000)]=some [.slice zl ls ml,.slice 0 [] .nil,iv 2000]:=rfl;have kf3:=gC (l:=H2) (a:=row 3 [.agg [.slice zl ls ml,.slice 0 [] .nil,iv 2000]]);have kr3:=qag (o2:=row 3 [.agg [.slice zl ls ml,.slice 0 [] .nil,iv 2000]]) z2;have kp3:=qag (o2:=row 3 [.agg [.slice zl ls ml,.slice 0 [] .nil,iv 2000]]) k2;have low3:=low2.push (o:=row 3 [.agg [.slice zl ls ml,.slice 0 [] .nil,iv 2000]]) (by omega);generalize hH3:H2++[row 3 [.agg [.slice zl ls ml,.slice 0 [] .nil,iv 2000]]]=H3 at*;generalize hkf:H2.length=kf at*;have cf:(PV.agg [.slice zl ls ml,.slice 0 [] .nil,iv 2000]).cells.length=3∧(PV.agg [.slice zl ls ml,.slice 0 [] .nil,iv 2000]).isDef=true:=⟨rfl,rfl⟩;simp(disch:=omega) only[go_sem,hH1,e2,hkr,c1,c3,lp,cb evt,Bool.not_true,cb evs,f1,cb evg,hg',hb0,fbF,cf.1,cf.2,hkf,hH3,hT.q]
 refine wpC.loopM (fun g e st=> ∃(i:Nat)(H:Hp)(ws:List Nat)(ups:List (Nat×Nat))(v:PV),i+g=ls.length∧Low h.length h H∧(∀x∈ws,h.length≤x)∧(∀x∈ups,h.length≤x.1)∧AppN H v ((l.take i).map fun x=>(x.nodes:Int)) h.length∧H[kf]?=some (.row 3 [.agg [.slice zl ls ml,v,iv 2000]])∧H[kr]?=some (.row 3 [zN])∧H[h.length]?=some (.row 3 [p])∧(eget e 2=.ptr h.length 0 0 1∧eget e 4=.ptr kr 0 0 1∧eget e 6=.ptr kf 0 0 1∧eget e 32=.slice zl ls ml∧eget e 33=iv (ls.length:Int)∧eget e 34=iv (i:Int))∧st=⟨H,ws,ups⟩) ?_ ls.length _ _
  ⟨0,H3,_,[],_,by omega,low3,by simp,by simp,.inl ⟨rfl,rfl⟩,kf3,kr3,kp3,by simp only[go_sem,Ag],rfl⟩
 rintro g e st ⟨i,H,ws,ups,v,hi,low,hw,hu,hA,kf',kr',kp',⟨e2',e4,e6,e32,e33,e34⟩,rfl⟩;have hHl:=low.len;by_cases h1:i<ls.length
 · have h1':(i:Int)< (ls.length:Int):=by omega
   have ga:=qb1 h1;have hx:l[i]?=some l[i]:=Ab (by omega);have hEx:=hL.2 i _ _ hx ga;have htx:=List.all_eq_true.1 hls _ (mG hx);have htk:l.take (i+1)=l.take i++[l[i]]:=by rw[tS (by omega)]
   have hzl3:zl=3:=by
    rcases hzl with rfl|h
    ·simp at h1
    ·exact h
   subst hzl3;generalize l[i]=u at*;generalize ls[i]=y at*;obtain⟨b1,b2,_,b4⟩:=hEx.cells;have bs:=hEx.sub;have sb:=qa6 (h:=H) (ws:=ws) (ups:=ups) (z:=zq3) (sz:=3) (c:=y) b1 rfl b2 hEx.facts.1 ⟨_,rfl⟩ b4;have kq:=gC (l:=H) (a:=row 3 [y]);have kf5:=qag (o2:=row 3 [y]) kf';have kr5:=qag (o2:=row 3 [y]) kr';have kp5:=qag (o2:=row 3 [y]) kp';have low5:=low.push (o:=row 3 [y]) hHl;have hw5:∀z∈wadd H.length ws,h.length≤z:=qad hHl hw
   have A5:AppN (H++[row 3 [y]]) v ((l.take i).map fun x=>(x.nodes:Int)) h.length:=by
    rcases hA with h|⟨kt,q1,q2,q3⟩
    ·exact .inl h
    ·exact .inr ⟨kt,q1,qag q2,q3⟩
   generalize hH5:H++[row 3 [y]]=H5 at*;have hHl5:=low5.len;generalize hkk:H.length=kk at*;have lq:loadAt true 3 (.ptr kk 0 0 1) H5=some y:=by rw[qac kq];exact bs
   have lv:loadAt false 1 (.ptr kf 0 1 1) H5=some v:=by rw[qac kf5];rcases hA with⟨_,h⟩|⟨_,h,_⟩<;>rw[h]<;>rfl
   obtain⟨d,ev,_⟩:=sizeG_ev hT hEx htx H5;have fe:qcw 1 (List.replicate 1 (iv 0)) [(0,iv (u.nodes:Int))]=some [iv (u.nodes:Int)]:=rfl;obtain⟨H',fw,kt,ap,A',keep',low',hfw,_⟩:=append_N A5 (u.nodes:Int) (by simp;omega) hHl5;have kf6:=keep' _ _ rfl kf5;have kr6:=keep' _ _ rfl kr5;have kp6:=keep' _ _ rfl kp5;obtain⟨u3,sv3,hu3⟩:=st_f1W (ups:=ups) (kt:=kt) (es:=((((l.take i).map fun x=>(x.nodes:Int))++[(u.nodes:Int)]).map encI)) kf6;simp(disch:=omega) only[go_sem,qrq,e2',e4,e6,e32,e33,e34,h1',ga,bs,hkk,sb,lq,cb ev,lv,fe,ap,sv3,hT.q];refine⟨g - 1,by omega,i+1,_,_,_,_,by omega,(low5.trans low').trans (.set (by omega)),qad (by omega) (hfw _ hw5),fun x hx=>?_,?_,qai kf6,qaa kr6 (by omega),qaa kp6 (by omega),rfl,rfl⟩
   · rcases hu3 x hx with h|h
     ·exact hu x h
     ·omega
   · have hm:(l.take (i+1)).map (fun x=>(x.nodes:Int))=(l.take i).map (fun x=>(x.nodes:Int))++[(u.nodes:Int)]:=by rw[htk];simp
     rw[hm];exact A'.set' kf6 rfl
 · have h1':¬(i:Int)< (ls.length:Int):=by omega
   rw[tL (by omega)]at hA;obtain⟨zs,ms,hv,hzs⟩:=hA.form;have lp':loadAt true 3 (.ptr h.length 0 0 1) H=some p:=by rw[qac kp'];exact ht.sub
   have hkl:=(gI.1 kf').1;obtain⟨⟨V,b,left',wz⟩,ev,hV,hle,hwz⟩:=put_ev hT (ml:=ml) hzl hL (fun x hx=>List.all_eq_true.1 hls x hx) hv (hzs.imp (fun h=>by simpa using h) id) ht hn2 (qav hb) (varsB_of (qav hb) hg) H kf 2000 kf' ⟨by omega,by omega⟩;simp only at ev hV hwz;have kr6:=qaa (o':=qfn (.slice zl ls ml) v left') kr' (show kf≠kr by omega);have low6:Low h.length h (H.set kf (qfn (.slice zl ls ml) v left')):=low.trans (.set (by omega));have hl6:(H.set kf (qfn (.slice zl ls ml) v left')).length=H.length:=by simp
   have hw6:∀x∈wall wz ws,h.length≤x:=qhe (fun x hx=>by rw[hwz x hx];omega) hw;generalize hH6:H.set kf (qfn (.slice zl ls ml) v left')=H6 at*
   have hVf:V.cells.length=3∧V.cells.all PV.isCell=true∧(∃cs,V=.agg cs)∧V.top=none∧V.isDef=true∧AE.sub true 3 V 0=some V:=by
    rcases hV with⟨_,rfl⟩|⟨_,hE',_⟩
    ·exact⟨rfl,rfl,⟨_,rfl⟩,rfl,rfl,rfl⟩
    · obtain⟨y1,y2,y3,y4⟩:=hE'.cells;exact⟨y1,y2,y4,hE'.facts.1,y3,hE'.sub⟩
   obtain⟨v1,v2,v3,v4,v5,v6⟩:=hVf;have sb2:=fun ws=>qa6 (h:=H6) (ws:=ws) (ups:=ups) (z:=zq3) (sz:=3) (c:=V) v1 rfl v2 v4 ⟨_,rfl⟩ v3;have k7:=gC (l:=H6) (a:=row 3 [V]);have kr7:=qag (o2:=row 3 [V]) kr6;have low7:=low6.push (o:=row 3 [V]) (by omega);have hw7:∀x∈wadd H6.length (wall wz ws),h.length≤x:=qad (by omega) hw6;generalize hH7:H6++[row 3 [V]]=H7 at*;generalize hkq:H6.length=kq' at*;have lV:loadAt true 3 (.ptr kq' 0 0 1) H7=some V:=by rw[qac k7];exact v6
   rcases hV with⟨rfl,rfl⟩|⟨rfl,hE',_⟩
   · obtain⟨u4,sv4,hu4⟩:=qex (ups:=ups) (x:=0) (y:=0) (sz:=0) (es:=[]) (m:=.nil) kr7;have l8:loadAt true 3 (.ptr kr 0 0 1) (H7.set kr (.row 3 [.agg [iv 0,iv 0,.slice 0 [] .nil]]))=some (.agg [iv 0,iv 0,.slice 0 [] .nil]):=by rw[qac (qai kr7)];rfl
     simp(disch:=omega) only[go_sem,qrq,e2',e4,e6,e33,e34,h1',lp',cb ev,hkq,sb2,Bool.not_false,fb0,sv4,resv,l8,hT.q];refine⟨(qeu,2),qa4 rfl (low7.trans (.set (by omega))) (qad (by omega) hw7) (fun x hx=>?_),.inr ⟨by simp,rfl⟩⟩;rcases hu4 x hx with h|h
     ·exact hu x h
     ·omega
   · have evb:=bounded_ev hT hE' H7;by_cases hbs:qa0 (subT l t)=true
     · rw[if_pos hbs,if_pos hbs]at evb;have sv:=fun ws ups=>qcz (ws:=ws) (ups:=ups) (n:=1) (N:=0) kr7 rfl rfl ⟨rfl,_,rfl⟩ ⟨v1,v2,v3⟩ v4;simp only[sC]at sv;have l8:loadAt true 3 (.ptr kr 0 0 1) (H7.set kr (.row 3 [V]))=some V:=by rw[qac (qai kr7)];exact v6
       simp(disch:=omega) only[go_sem,qrq,e2',e4,e6,e33,e34,h1',lp',cb ev,hkq,sb2,Bool.not_true,lV,cb evb,sv,resv,l8,hT.q];have t1:=qa4 (v:=.tuple [V,iv 0]) (ups:=ups) (by simp[PV.pure,qat,hE'.facts.2.1]) (low7.trans (.set (show h.length≤kr by omega)):Low h.length h (H7.set kr (.row 3 [V]))) (qad (k:=kr) (by omega) hw7) hu;simp only[PV.weak,qau,hE'.facts.2.2]at t1;exact⟨(V,0),t1,.inl ⟨rfl,hb,hls,hg,hE',hbs⟩⟩
     · rw[if_neg hbs,if_neg hbs]at evb;have sv:=fun ws ups=>qcz (Q:=qeu) (ws:=ws) (ups:=ups) (n:=1) (N:=0) kr7 rfl rfl ⟨rfl,_,rfl⟩ ⟨rfl,rfl,_,rfl⟩ rfl;simp only[sC]at sv;have l8:loadAt true 3 (.ptr kr 0 0 1) (H7.set kr (.row 3 [qeu]))=some qeu:=by rw[qac (qai kr7)];rfl
       simp(disch:=omega) only[go_sem,qrq,e2',e4,e6,e33,e34,h1',lp',cb ev,hkq,sb2,Bool.not_true,lV,cb evb,sv,resv,l8,hT.q];have t1:=qa4 (v:=.tuple [qeu,iv 2]) (ups:=ups) rfl (low7.trans (.set (show h.length≤kr by omega)):Low h.length h (H7.set kr (.row 3 [qeu]))) (qad (k:=kr) (by omega) hw7) hu;exact⟨(qeu,2),t1,.inr ⟨by simp,rfl⟩⟩
end Go.Proofs.Tryz
namespace Go.Proofs.Tryz
open Go Go.AE
theorem qko{α:Type}:∀a b:List (List α),qda (a++b)=(qda a).flatMap fun x=>(qda b).map fun y=>x++y
 |[],b=>by simp[qda]
 |l::a,b=>by simp only[List.cons_append,qda,qko a b,List.flatMap_assoc,List.map_flatMap,List.flatMap_map,List.map_map];rfl
theorem qq0{α:Type}{a b:List (List α)}{P Q R:List α->Bool}(h:∀x∈qda a,∀y∈qda b,R (x++y)=(P x&&Q y)):(qda (a++b)).filter R=((qda a).filter P).flatMap fun x=>((qda b).filter Q).map fun y=>x++y:=by
 rw[qko];generalize qda a=A at*;generalize qda b=B at*;induction A with
 |nil=>rfl
 |cons x A ih=>
   have ih:=ih fun x hx=>h x (mC _ hx);have hx:=h x List.mem_cons_self;rw[List.flatMap_cons,List.filter_append,ih,List.filter_map];cases hP:P x
   · rw[List.filter_cons_of_neg (by simp[hP])];have:B.filter (R ∘ fun y=>x++y)=[]:=List.filter_eq_nil_iff.2 fun y hy=>by simp[hx y hy,hP]
     rw[this];rfl
   · rw[List.filter_cons_of_pos hP,List.flatMap_cons];have:B.filter (R ∘ fun y=>x++y)=B.filter Q:=List.filter_congr fun y hy=>by simp[hx y hy,hP]
     rw[this]
theorem get_parts{α:Type}{A B:List (List α)}{i k:Nat}{x y:List α}(hx:A[i]?=some x)(hy:B[k]?=some y):(A.flatMap fun x=>B.map fun y=>x++y)[i*B.length+k]?=some (x++y):=by
 induction A generalizing i with
 |nil=>simp at hx
 |cons z A ih=>
   have hk:=(gI.1 hy).1;rw[List.flatMap_cons];cases i with
   |zero=>
     simp only[List.getElem?_cons_zero,Option.some.injEq]at hx;subst hx;rw[Nat.zero_mul,Nat.zero_add,gL (by simpa using hk),gM,hy];rfl
   |succ i=>
     have:=ih (i:=i) (by simpa using hx);rw[gR (by simp only[lM,Nat.succ_mul];omega)];rw[lM];have he:(i+1) *B.length+k - B.length=i*B.length+k:=by rw[Nat.succ_mul];omega
     rw[he];exact this
theorem qqm{α:Type}{A B:List (List α)}:(A.flatMap fun x=>B.map fun y=>x++y).length=A.length*B.length:=by
 induction A with
 |nil=>simp
 |cons z A ih=>simp only[List.flatMap_cons,Ah,lM,ih,List.length_cons,Nat.succ_mul];omega
mutual
def shT(d:Nat):Tm->Tm
 |.mk k n ts=>if k=1 then .mk k (n+d) []else .mk k n (shL d ts)
def shL(d:Nat):List Tm->List Tm
 |[]=>[]
 |t::ts=>shT d t::shL d ts
end
mutual
def posV:Tm->Prop
 |.mk k n ts=>if k=1 then 0≤n else posL ts
def posL:List Tm->Prop
 |[]=>True
 |t::ts=>posV t∧posL ts
end
mutual
theorem qlo(x y:List Tm):∀t:Tm,posV t->subT (x++y) (shT x.length t)=subT y t
 |.mk k n ts,hp=>by
   simp only[shT];by_cases hk:k=1
   · simp only[posV,if_pos hk]at hp;rw[if_pos hk];simp only[subT,if_pos hk];have hn:(n+(x.length:Int)).toNat=x.length+n.toNat:=by omega
     rw[hn,Ac,Ac,gR (by omega)]
     congr 2
     omega
   · simp only[posV,if_neg hk]at hp;rw[if_neg hk];simp only[subT,if_neg hk,qm8 x y ts hp]
theorem qm8(x y:List Tm):∀ts:List Tm,posL ts->subL (x++y) (shL x.length ts)=subL y ts
 |[],_=>rfl
 |t::ts,hp=>by simp only[shL,subL,qlo x y t hp.1,qm8 x y ts hp.2]
end
mutual
theorem qlp(x y:List Tm):∀t:Tm,qfd x.length t->subT (x++y) t=subT x t
 |.mk k n ts,hv=>by
   by_cases hk:k=1
   · simp only[qfd,if_pos hk]at hv;simp only[subT,if_pos hk];rw[Ac,Ac,gL (by omega)]
   · simp only[qfd,if_neg hk]at hv;simp only[subT,if_neg hk,qm9 x y ts hv]
theorem qm9(x y:List Tm):∀ts:List Tm,qgs x.length ts->subL (x++y) ts=subL x ts
 |[],_=>rfl
 |t::ts,hv=>by simp only[subL,qlp x y t hv.1,qm9 x y ts hv.2]
end
noncomputable def valN(nt:Tm->PV×Int)(u:Tm):Tm:=by
 classical
 exact if h:∃w,Enc w (nt u).1 then h.choose else zTm
theorem valN_eq{nt:Tm->PV×Int}{u w:Tm}(h:Enc w (nt u).1):valN nt u=w:=by have hx:∃w,Enc w (nt u).1:=⟨w,h⟩;unfold valN;rw[dif_pos hx,hx.choose_spec.inj h]
noncomputable def qdq(nt:Tm->PV×Int)(l:List Tm):List (Tm×Tm)->Bool
 |[]=>true
 |c::cs=>tmB (valN nt (subT l c.1)) (valN nt (subT l c.2))&&qdq nt l cs
theorem qe6{nt:Tm->PV×Int}{l:List Tm}:∀cs ds:List (Tm×Tm),qdq nt l (cs++ds)=(qdq nt l cs&&qdq nt l ds)
 |[],ds=>by simp[qdq]
 |c::cs,ds=>by simp only[List.cons_append,qdq,qe6 cs ds,Bool.and_assoc]
theorem qkq{nt:Tm->PV×Int}{x y:List Tm}:∀cs:List (Tm×Tm),(∀c∈cs,qfd x.length c.1∧qfd x.length c.2)->qdq nt (x++y) cs=qdq nt x cs
 |[],_=>rfl
 |c::cs,h=>by have hc:=h c List.mem_cons_self;simp only[qdq,qlp x y _ hc.1,qlp x y _ hc.2,qkq cs fun c hc=>h c (mC _ hc)]
def shP(d:Nat)(c:Tm×Tm):Tm×Tm:=(shT d c.1,shT d c.2)
theorem qkp{nt:Tm->PV×Int}{x y:List Tm}:∀cs:List (Tm×Tm),(∀c∈cs,posV c.1∧posV c.2)->qdq nt (x++y) (cs.map (shP x.length))=qdq nt y cs
 |[],_=>rfl
 |c::cs,h=>by have hc:=h c List.mem_cons_self;simp only[List.map_cons,qdq,shP,qlo x y _ hc.1,qlo x y _ hc.2];rw[←qkp cs fun c hc=>h c (mC _ hc)]
end Go.Proofs.Tryz
namespace Go.Proofs.Tryz
open Go Go.AE
open Go.AE.Obj (row)
variable {T:Tbl}(hT:Std T){s:GSig}
def EncP(c:Tm×Tm)(p:PV):Prop:=∃ka na za ea kb nb zb eb,p=.agg [.int .i64 ka,.int .i64 na,.slice za ea .any,.int .i64 kb,.int .i64 nb,.slice zb eb .any]∧Enc c.1 (.agg [.int .i64 ka,.int .i64 na,.slice za ea .any])∧Enc c.2 (.agg [.int .i64 kb,.int .i64 nb,.slice zb eb .any])
def qjp(cs:List (Tm×Tm))(ps:List PV):Prop:=ps.length=cs.length∧∀(i:Nat)(c:Tm×Tm)(p:PV),cs[i]?=some c->ps[i]?=some p->EncP c p
theorem EncP.of{a b:Tm}{A B:PV}(ha:Enc a A)(hb:Enc b B):∃p,EncP (a,b) p∧p.cells=A.cells++B.cells:=by obtain⟨k,n,l,sz,es,rfl,rfl,_,_⟩:=ha.eq;obtain⟨k',n',l',sz',es',rfl,rfl,_,_⟩:=hb.eq;exact⟨_,⟨k,n,sz,es,k',n',sz',es',rfl,ha,hb⟩,rfl⟩
theorem qq5(c:Tm×Tm):EncP c (qah c):=by obtain⟨a,b⟩:=c;obtain⟨k,n,l⟩:=a;obtain⟨k',n',l'⟩:=b;have h1:=qa8 (.mk k n l);have h2:=qa8 (.mk k' n' l');simp only[encT]at h1 h2;exact⟨k,n,_,_,k',n',_,_,rfl,h1,h2⟩
theorem st6_0{H:Hp}{ws:List Nat}{ups:List (Nat×Nat)}{k:Nat}{a b c d e f:PV}{x y:Int}{sz:Nat}{es:List PV}(hk:H[k]?=some (.row 6 [.agg [a,b,c,d,e,f]]))(ht:(PV.agg [.int .i64 x,.int .i64 y,.slice sz es .any]).top=none):
 storeAt 3 (.ptr k 0 0 1) (.agg [.int .i64 x,.int .i64 y,.slice sz es .any]) ⟨H,ws,ups⟩=some ⟨H.set k (.row 6 [.agg [.int .i64 x,.int .i64 y,.slice sz es .any,d,e,f]]),wadd k ws,ups⟩:=by
 have hu:upd (.agg [a,b,c,d,e,f]) 0 (.agg [.int .i64 x,.int .i64 y,.slice sz es .any])=some (.agg [.int .i64 x,.int .i64 y,.slice sz es .any,d,e,f]):=rfl;simp only[storeAt,hk,Ae,PV.cells,List.all_cons,List.all_nil,PV.isCell,Bool.and_self,and_self,if_true,List.getElem?_cons_zero,hu,Option.map,sC,ht,qas]
theorem st6_3{H:Hp}{ws:List Nat}{ups:List (Nat×Nat)}{k:Nat}{a b c d e f:PV}{x y:Int}{sz:Nat}{es:List PV}(hk:H[k]?=some (.row 6 [.agg [a,b,c,d,e,f]]))(ht:(PV.agg [.int .i64 x,.int .i64 y,.slice sz es .any]).top=none):
 storeAt 3 (.ptr k 0 3 1) (.agg [.int .i64 x,.int .i64 y,.slice sz es .any]) ⟨H,ws,ups⟩=some ⟨H.set k (.row 6 [.agg [a,b,c,.int .i64 x,.int .i64 y,.slice sz es .any]]),wadd k ws,ups⟩:=by
 have hu:upd (.agg [a,b,c,d,e,f]) 3 (.agg [.int .i64 x,.int .i64 y,.slice sz es .any])=some (.agg [a,b,c,.int .i64 x,.int .i64 y,.slice sz es .any]):=rfl;simp only[storeAt,hk,Ae,PV.cells,List.all_cons,List.all_nil,PV.isCell,Bool.and_self,and_self,if_true,List.getElem?_cons_zero,hu,Option.map,sC,ht,qas]
set_option maxRecDepth 8000 in
include hT in
theorem holds_ev{t:GTy}{nt:Tm->PV×Int}(N:NTm T t nt){l:List Tm}{zl:Nat}{ls:List PV}{ml:SM}(hzl:ls=[]∨zl=3)(hL:EncL l ls)(hln:l.length≤1000){cs:List (Tm×Tm)}{zc:Nat}{ps:List PV}{mc:SM}(hzc:ps=[]∨zc=6)(hC:qjp cs ps)(hcn:cs.length≤1000)(h:Hp):
 ∃x:Bool×Int,Ev T 118 [qan t,.slice zc ps mc,.slice zl ls ml] h (.val (.tuple [.bool x.1,iv x.2]),⟨h,[],[]⟩)∧(x.2=0->x.1=qdq nt l cs)∧(x.2=0∨x.2=2):=by
 refine Ev.walkP (r:=fun x:Bool×Int=>(.val (.tuple [.bool x.1,iv x.2]),⟨h,[],[]⟩)) (hT.sp _ (by decide)) ((hT.fn _).trans fn118) (hT.mode _) rfl ?_;have k1:=gC (l:=h) (a:=row 3 [qan t]);have low1:Low h.length h (h++[row 3 [qan t]]):=(Low.refl _ _).push (nR _);have hl1:(h++[row 3 [qan t]]).length=h.length+1:=by simp
 generalize hH1:h++[row 3 [qan t]]=H1 at*;have hcl:=hC.1;simp(disch:=omega) only[go_sem,hH1,qbz,qb0,List.length_cons]
 refine wpC.loopM (fun g e st=> ∃(i:Nat)(H:Hp)(ws:List Nat),i+g=ps.length∧Low (h.length+1) H1 H∧(∀x∈ws,h.length≤x)∧qdq nt l (cs.take i)=true∧(eget e 2=.slice zl ls ml∧eget e 3=.ptr h.length 0 0 1∧eget e 15=.slice zc ps mc∧eget e 16=iv (ps.length:Int)∧eget e 17=iv (i:Int))∧st=⟨H,ws,[]⟩) ?_ ps.length _ _
  ⟨0,H1,[],by omega,Low.refl _ _,by simp,rfl,by simp only[go_sem,Ag],rfl⟩
 rintro g e st ⟨i,H,ws,hi,low,hw,hh,⟨e2,e3,e15,e16,e17⟩,rfl⟩;have hHl:=low.len;have lowh:Low h.length h H:=low1.comp low (by omega);have kt:=low.get (by omega) k1;by_cases h1:i<ps.length;rotate_left
 · have h1':¬(i:Int)< (ps.length:Int):=by omega
   rw[tL (by omega)]at hh;have td:=qaj (v:=.tuple [.bool true,iv 0]) rfl rfl lowh hw;simp(disch:=omega) only[go_sem,a118b1,e16,e17,h1',td];exact⟨(true,0),rfl,fun _=>hh.symm,.inl rfl⟩
 have h1':(i:Int)< (ps.length:Int):=by omega
 have ga:=qb1 h1;have hx:cs[i]?=some cs[i]:=Ab (by omega);have htk:cs.take (i+1)=cs.take i++[cs[i]]:=by rw[tS (by omega)]
 have hEP:=hC.2 i _ _ hx ga
 have hzc6:zc=6:=by
  rcases hzc with rfl|h
  ·simp at h1
  ·exact h
 subst hzc6;generalize cs[i]=c at*;obtain⟨ca,cb'⟩:=c;obtain⟨ka,na,za,ea,kb,nb,zb,eb,hp,hEa,hEb⟩:=hEP;simp only at hEa hEb;rw[hp]at ga;obtain⟨P,hP⟩:∃P,P=PV.agg [iv ka,iv na,.slice za ea .any,iv kb,iv nb,.slice zb eb .any]:=⟨_,rfl⟩;rw[←hP]at ga;have pf:P.cells.length=6∧P.cells.all PV.isCell=true∧(∃cs,P=.agg cs)∧P.top=none∧AE.sub true 6 P 0=some P:=by refine⟨by rw[hP];rfl,by rw[hP];rfl,⟨_,hP⟩,?_,by rw[hP];rfl⟩;have h1:=hEa.facts.1;have h2:=hEb.facts.1;rw[hP];simp only[PV.top,tops]at h1 h2⊢;revert h1 h2;cases tops ea<;>cases tops eb<;>simp[omax]
 obtain⟨p1,p2,p3,p4,p5⟩:=pf;have sb:=qa6 (h:=H) (ws:=ws) (ups:=[]) (z:=zq6) (sz:=6) (c:=P) p1 rfl p2 p4 ⟨_,rfl⟩ p3;have k9:=gC (l:=H) (a:=row 6 [P]);have kt9:=qag (o2:=row 6 [P]) kt;have low9:=low.push (o:=row 6 [P]) (by omega);have hw9:∀y∈wadd H.length ws,h.length≤y:=qad (by omega) hw;have hl9:(H++[row 6 [P]]).length=H.length+1:=by simp
 generalize hH9:H++[row 6 [P]]=H9 at*;generalize hk9:H.length=n9 at*;obtain⟨A,hA⟩:∃A,A=PV.agg [iv ka,iv na,.slice za ea .any]:=⟨_,rfl⟩;obtain⟨B,hB⟩:∃B,B=PV.agg [iv kb,iv nb,.slice zb eb .any]:=⟨_,rfl⟩;rw[←hA]at hEa;rw[←hB]at hEb;have kz:=gC (l:=H9) (a:=row 6 [zq6]);have k99:=qag (o2:=row 6 [zq6]) k9;have low10:=low9.push (o:=row 6 [zq6]) (by omega);generalize hH10:H9++[row 6 [zq6]]=H10 at*;generalize hk10:H9.length=n10 at*;have lA:loadAt true 3 (.ptr n9 0 0 1) H10=some A:=by rw[qac k99,hP,hA];rfl
 have lB:loadAt true 3 (.ptr n9 0 3 1) H10=some B:=by rw[qac k99,hP,hB];rfl
 have fe2:qcw 3 (List.replicate 2 (.agg [iv 0,iv 0,.slice 0 [] .nil])) [(0,A),(1,B)]=some [A,B]:=by obtain⟨x1,_,x3,_⟩:=hEa.cells;obtain⟨y1,_,y3,_⟩:=hEb.cells;simp[qcw,x1,x3,y1,y3]
 simp(disch:=omega) only[go_sem,a118b1,e15,e16,e17,h1',ga,p5,hk9,sb,hk10,hH10,lA,lB,fe2,Ae];clear lA lB fe2
 refine wpC.loopM (fun g' e st=> ∃(j:Nat)(H:Hp)(ws:List Nat)(a0 a1 a2 b0 b1 b2:PV),j+g'=2∧Low (h.length+1) H1 H∧(∀x∈ws,h.length≤x)∧H[n10]?=some (.row 6 [.agg [a0,a1,a2,b0,b1,b2]])∧(1≤j->Enc (valN nt (subT l ca)) (.agg [a0,a1,a2])∧qa0 (valN nt (subT l ca))=true)∧(2≤j->Enc (valN nt (subT l cb')) (.agg [b0,b1,b2])∧qa0 (valN nt (subT l cb'))=true)∧(eget e 2=.slice zl ls ml∧eget e 3=.ptr h.length 0 0 1∧eget e 10=.ptr n10 0 0 1∧eget e 15=.slice 6 ps mc∧eget e 16=iv (ps.length:Int)∧eget e 17=iv (i:Int)∧eget e 25=.slice 3 [A,B] .lit∧eget e 26=iv 2∧eget e 27=iv (j:Int))∧st=⟨H,ws,[]⟩) ?_ 2 _ _
  ⟨0,H10,_,_,_,_,_,_,_,by omega,low10,hw9,kz,by omega,by omega,by simp only[go_sem,e2,e3,e15,e16,e17,Ag];exact⟨rfl,trivial⟩,rfl⟩
 clear e2 e3 e15 e16 e17 kz low10 k99 hw;rintro g' e st ⟨j,H',ws',a0,a1',a2',b0,b1,b2,hj,low',hw',kz,hVa,hVb,⟨e2,e3,e10,e15,e16,e17,e25,e26,e27⟩,rfl⟩;have hHl':=low'.len;have lowh':Low h.length h H':=low1.comp low' (by omega);by_cases hj2:j<2
 · have hj2':(j:Int)<2:=by omega
   obtain⟨y,u,hy,hEy,hu⟩:∃y u,[A,B][j]?=some y∧Enc u y∧((j=0∧u=ca)∨(j=1∧u=cb')):=by
    match j,hj2 with
    |0,_=>exact⟨A,ca,rfl,hEa,.inl ⟨rfl,rfl⟩⟩
    |1,_=>exact⟨B,cb',rfl,hEb,.inr ⟨rfl,rfl⟩⟩
   have kt':=low'.get (by omega) k1;obtain⟨b1',b2',_,b4'⟩:=hEy.cells;have bs:=hEy.sub;have sbA:=qa6 (h:=H') (ws:=ws') (ups:=[]) (z:=zq3) (sz:=3) (c:=y) b1' rfl b2' hEy.facts.1 ⟨_,rfl⟩ b4';have kA:=gC (l:=H') (a:=row 3 [y]);have kzA:=qag (o2:=row 3 [y]) kz;have ktA:=qag (o2:=row 3 [y]) kt';have lowA:Low (h.length+1) H1 (H'++[row 3 [y]]):=low'.push (by omega);have hwA:∀z∈wadd H'.length ws',h.length≤z:=qad (by omega) hw';have hlA:(H'++[row 3 [y]]).length=H'.length+1:=by simp
   generalize hHA:H'++[row 3 [y]]=HA at*;generalize hkA:H'.length=nA at*;have ly:loadAt true 3 (.ptr nA 0 0 1) HA=some y:=by rw[qac kA];exact bs
   obtain⟨⟨V,e1⟩,evS,hS⟩:=subst_ev hT (ml:=ml) hzl hL hln hEy HA;simp only at evS
   have hVf:V.cells.length=3∧V.cells.all PV.isCell=true∧(∃cs,V=.agg cs)∧V.top=none∧V.isDef=true∧AE.sub true 3 V 0=some V:=by
    rcases hS with⟨_,_,_,_,hE',_⟩|⟨_,h⟩
    · obtain⟨y1,y2,y3,y4⟩:=hE'.cells;exact⟨y1,y2,y4,hE'.facts.1,y3,hE'.sub⟩
    · simp only at h;rw[h];exact⟨rfl,rfl,⟨_,rfl⟩,rfl,rfl,rfl⟩
   obtain⟨v1,v2,v3,v4,_,v6⟩:=hVf;have sbV:=fun ws=>qa6 (h:=HA) (ws:=ws) (ups:=[]) (z:=zq3) (sz:=3) (c:=V) v1 rfl v2 v4 ⟨_,rfl⟩ v3;have kV:=gC (l:=HA) (a:=row 3 [V]);have kzV:=qag (o2:=row 3 [V]) kzA;have ktV:=qag (o2:=row 3 [V]) ktA;have lowV:=lowA.push (o:=row 3 [V]) (by omega);have hwV:∀z∈wadd HA.length (wadd nA ws'),h.length≤z:=qad (by omega) hwA;generalize hHV:HA++[row 3 [V]]=HV at*;generalize hkV:HA.length=nV at*;have lowVh:Low h.length h HV:=low1.comp lowV (by omega);have td2:=qaj (v:=.tuple [.bool false,iv 2]) rfl rfl lowVh hwV;by_cases he1:e1=0;rotate_left
   · have hb1:(e1 !=0)=true:=by simpa using he1
     simp(disch:=omega) only[go_sem,qky,e2,e25,e26,e27,hj2',hy,bs,hkA,sbA,ly,cb evS,hkV,sbV,hb1,hT.q,td2];exact⟨(false,2),rfl,fun h=>by simp at h,.inr rfl⟩
   subst he1;have hb1:((0:Int) !=0)=false:=rfl
   obtain⟨hES,_⟩:Enc (subT l u) V∧qa0 (subT l u)=true:=by
    rcases hS with⟨_,_,_,_,q1,q2⟩|⟨q,_⟩
    ·exact⟨q1,q2⟩
    ·exact absurd rfl q
   have ltV:loadAt true 3 (.ptr h.length 0 0 1) HV=some (qan t):=by rw[qac ktV];rfl
   have lV:loadAt true 3 (.ptr nV 0 0 1) HV=some V:=by rw[qac kV];exact v6
   have evN:=N.ev (subT l u) V hES HV;have hnx:=N.nx (subT l u)
   obtain⟨x,y2,sz2,es2,hV2,htop⟩:∃x y2 sz2 es2,(nt (subT l u)).1=.agg [iv x,iv y2,.slice sz2 es2 .any]∧(PV.agg [iv x,iv y2,.slice sz2 es2 .any]).top=none:=by
    have htp:=hnx.facts.2.2.2.1;rcases hnx with⟨_,w,hw1,_⟩|⟨_,hz⟩
    · obtain⟨k',n',l',sz',es',_,hq,_,_⟩:=hw1.eq;exact⟨k',n',sz',es',hq,by rw[←hq];exact htp⟩
    ·exact⟨0,0,0,[],hz,rfl⟩
   rw[hV2]at evN;rcases hu with⟨rfl,rfl⟩|⟨rfl,rfl⟩
   · have ia:qh5 2 3 (.ptr n10 0 0 1) (iv ((0:Nat):Int))=some (.ptr n10 0 0 1):=rfl;have s6:=fun ws=>st6_0 (ws:=ws) (ups:=[]) (x:=x) (y:=y2) (sz:=sz2) (es:=es2) kzV htop;have kz2:=qai (o':=row 6 [.agg [iv x,iv y2,.slice sz2 es2 .any,b0,b1,b2]]) kzV;have low2:Low (h.length+1) H1 (HV.set n10 (.row 6 [.agg [iv x,iv y2,.slice sz2 es2 .any,b0,b1,b2]])):=lowV.trans (.set (by omega));have low2h:Low h.length h (HV.set n10 (.row 6 [.agg [iv x,iv y2,.slice sz2 es2 .any,b0,b1,b2]])):=low1.comp low2 (by omega);generalize hHW:HV.set n10 (.row 6 [.agg [iv x,iv y2,.slice sz2 es2 .any,b0,b1,b2]])=HW at*;have hwW:∀z∈wadd n10 (wadd nV (wadd nA ws')),h.length≤z:=qad (by omega) hwV;by_cases he2:(nt (subT l u)).2=0;rotate_left
     · have hb2:((nt (subT l u)).2 !=0)=true:=by simpa using he2
       have td3:=qaj (v:=.tuple [.bool false,iv 2]) rfl rfl low2h hwW;simp(disch:=omega) only[go_sem,qky,e2,e3,e10,e25,e26,e27,hj2',hy,bs,hkA,sbA,ly,cb evS,hkV,sbV,hb1,ltV,lV,cb evN,ia,s6,hb2,hT.q,td3];exact⟨(false,2),rfl,fun h=>by simp at h,.inr rfl⟩
     have hb2:((nt (subT l u)).2 !=0)=false:=by simpa using he2
     have hfin:Enc (valN nt (subT l u)) (.agg [iv x,iv y2,.slice sz2 es2 .any])∧qa0 (valN nt (subT l u))=true:=by
      rcases hnx with⟨_,w,hw1,hw2⟩|⟨hh1,_⟩
      ·rw[valN_eq hw1,←hV2];exact⟨hw1,hw2⟩
      ·exact absurd he2 hh1
     simp(disch:=omega) only[go_sem,qky,e2,e3,e10,e15,e16,e17,e25,e26,e27,hj2',hy,bs,hkA,sbA,ly,cb evS,hkV,sbV,hb1,ltV,lV,cb evN,ia,s6,hb2,hT.q];exact⟨g' - 1,by omega,0+1,HW,_,_,_,_,_,_,_,by omega,low2,hwW,kz2,fun _=>hfin,fun h=>by omega,rfl,rfl⟩
   · have ia:qh5 2 3 (.ptr n10 0 0 1) (iv ((1:Nat):Int))=some (.ptr n10 0 3 1):=rfl;have s6:=fun ws=>st6_3 (ws:=ws) (ups:=[]) (x:=x) (y:=y2) (sz:=sz2) (es:=es2) kzV htop;have kz2:=qai (o':=row 6 [.agg [a0,a1',a2',iv x,iv y2,.slice sz2 es2 .any]]) kzV;have low2:Low (h.length+1) H1 (HV.set n10 (.row 6 [.agg [a0,a1',a2',iv x,iv y2,.slice sz2 es2 .any]])):=lowV.trans (.set (by omega));have low2h:Low h.length h (HV.set n10 (.row 6 [.agg [a0,a1',a2',iv x,iv y2,.slice sz2 es2 .any]])):=low1.comp low2 (by omega);generalize hHW:HV.set n10 (.row 6 [.agg [a0,a1',a2',iv x,iv y2,.slice sz2 es2 .any]])=HW at*;have hwW:∀z∈wadd n10 (wadd nV (wadd nA ws')),h.length≤z:=qad (by omega) hwV;by_cases he2:(nt (subT l u)).2=0;rotate_left
     · have hb2:((nt (subT l u)).2 !=0)=true:=by simpa using he2
       have td3:=qaj (v:=.tuple [.bool false,iv 2]) rfl rfl low2h hwW;simp(disch:=omega) only[go_sem,qky,e2,e3,e10,e25,e26,e27,hj2',hy,bs,hkA,sbA,ly,cb evS,hkV,sbV,hb1,ltV,lV,cb evN,ia,s6,hb2,hT.q,td3];exact⟨(false,2),rfl,fun h=>by simp at h,.inr rfl⟩
     have hb2:((nt (subT l u)).2 !=0)=false:=by simpa using he2
     have hfin:Enc (valN nt (subT l u)) (.agg [iv x,iv y2,.slice sz2 es2 .any])∧qa0 (valN nt (subT l u))=true:=by
      rcases hnx with⟨_,w,hw1,hw2⟩|⟨hh1,_⟩
      ·rw[valN_eq hw1,←hV2];exact⟨hw1,hw2⟩
      ·exact absurd he2 hh1
     simp(disch:=omega) only[go_sem,qky,e2,e3,e10,e15,e16,e17,e25,e26,e27,hj2',hy,bs,hkA,sbA,ly,cb evS,hkV,sbV,hb1,ltV,lV,cb evN,ia,s6,hb2,hT.q];exact⟨g' - 1,by omega,1+1,HW,_,_,_,_,_,_,_,by omega,low2,hwW,kz2,fun _=>hVa (by omega),fun _=>hfin,rfl,rfl⟩
 · have hj2':¬(j:Int)<2:=by omega
   obtain⟨hEA,htA⟩:=hVa (by omega);obtain⟨hEB,_⟩:=hVb (by omega);have lA:loadAt true 3 (.ptr n10 0 0 1) H'=some (.agg [a0,a1',a2']):=by rw[qac kz];rfl
   have lB:loadAt true 3 (.ptr n10 0 3 1) H'=some (.agg [b0,b1,b2]):=by rw[qac kz];rfl
   have evs:=qhk hT hEA _ _ hEB (by have:=qbi htA;omega) H';have ia1:qh5 2 3 (.ptr n10 0 0 1) (iv 1)=some (.ptr n10 0 3 1):=rfl;have ia0:qh5 2 3 (.ptr n10 0 0 1) (iv 0)=some (.ptr n10 0 0 1):=rfl;have hcat:cs=cs.take i++((ca,cb')::cs.drop (i+1)):=by have:=List.take_append_drop (i+1) cs;rw[htk,List.append_assoc]at this;exact this.symm
   cases hsm:tmB (valN nt (subT l ca)) (valN nt (subT l cb'))
   · rw[hsm]at evs;have td:=qaj (v:=.tuple [.bool false,iv 0]) rfl rfl lowh' hw';simp(disch:=omega) only[go_sem,qky,e10,e26,e27,hj2',ia0,ia1,lA,lB,cb evs,hT.prim,qab,td];refine⟨(false,0),rfl,fun _=>?_,.inl rfl⟩;rw[hcat,qe6];simp[qdq,hsm]
   · rw[hsm]at evs;simp(disch:=omega) only[go_sem,qky,e2,e3,e10,e15,e16,e17,e26,e27,hj2',ia0,ia1,lA,lB,cb evs,hT.prim,qab];refine⟨g - 1,by omega,i+1,H',ws',by omega,low',hw',?_,rfl,rfl⟩;rw[htk,qe6,hh];simp[qdq,hsm]
mutual
def qci(s:GSig)(vs:List Int):Tm->Int->Bool
 |.mk k n l,a=>if k=1 then decide (n< (vs.length:Int))&&vs.getD n.toNat (-1)==a else(match s.ops[n.toNat]? with
   |some o=>o.res==a&&decide (o.args.length=l.length)&&qcr s vs l o.args
   |none=>false)
def qcr(s:GSig)(vs:List Int):List Tm->List Int->Bool
 |[],_=>true
 |t::l,bs=>qci s vs t (bs.getD 0 0)&&qcr s vs l (bs.drop 1)
end
theorem qiu{s:GSig}{vs:List Int}:∀{l:List Tm}{bs:List Int}(i:Nat){x:Tm},l[i]?=some x->qci s vs x (bs.getD i 0)=false->qcr s vs l bs=false
 |t::l,bs,0,x,hx,h=>by
   simp only[List.getElem?_cons_zero,Option.some.injEq]at hx;subst hx;simp only[qcr,h,Bool.false_and]
 |t::l,bs,i+1,x,hx,h=>by have:=qiu (s:=s) (vs:=vs) (l:=l) (bs:=bs.drop 1) i (x:=x) (by simpa using hx) (by rw[Ac,List.getElem?_drop,Nat.add_comm 1 i,←Ac];exact h);simp only[qcr,this,Bool.and_false]
theorem qkk{s:GSig}{vs:List Int}:∀{l:List Tm}{bs:List Int},(∀(i:Nat)(x:Tm),l[i]?=some x->qci s vs x (bs.getD i 0)=true)->qcr s vs l bs=true
 |[],_,_=>rfl
 |t::l,bs,h=>by
   have h1:=h 0 t rfl;have h2:=qkk (s:=s) (vs:=vs) (l:=l) (bs:=bs.drop 1) fun i x hx=>by have:=h (i+1) x (by simpa using hx);rw[Ac,List.getElem?_drop,Nat.add_comm 1 i,←Ac];exact this
   simp only[qcr,h1,h2,Bool.and_self]
include hT in
theorem varV_ev{vs:List Int}{zv:Nat}{mv:SM}(hzv:vs=[]∨zv=1){h:Hp}{kv:Nat}(hv:h[kv]?=some (.row 1 [.slice zv (vs.map encI) mv])){n a:Int}(hn:0≤n):Ev T 132 [iv n,iv a,.ptr kv 0 0 1] h (.val (.bool (decide (n< (vs.length:Int))&&vs.getD n.toNat (-1)==a)),⟨h,[],[]⟩):=by
 refine Ev.walk (hT.sp _ (by decide)) ((hT.fn _).trans fn132) (hT.mode _) rfl ?_;have lv:loadAt false 1 (.ptr kv 0 0 1) h=some (.slice zv (vs.map encI) mv):=by rw[qac hv];rfl
 obtain⟨N,rfl⟩:=iZ hn;by_cases hN:N<vs.length
 · have hN':(N:Int)< (vs.length:Int):=by omega
   have gk:=qc4 hN
   have hz:zv=1:=by
    rcases hzv with rfl|h
    ·simp at hN
    ·exact h
   subst hz;have gd:vs.getD N (-1)=vs[N]:=by simp[Ac,hN]
   simp only[decide_eq_true hN',Int.toNat_natCast,gd,Bool.true_and];simp(disch:=omega) only[go_sem,lv,hN',gk,lM]
 · have hN':¬(N:Int)< (vs.length:Int):=by omega
   simp only[decide_eq_false hN',Bool.false_and];simp(disch:=omega) only[go_sem,lv,hN',lM]
include hT in
theorem typedV_ev{vs:List Int}{zv:Nat}{mv:SM}(hzv:vs=[]∨zv=1)(hs:GOk s){t:Tm}{p:PV}(ht:Enc t p):qal t=true->∀(a:Int)(h:Hp)(kv:Nat),h[kv]?=some (.row 1 [.slice zv (vs.map encI) mv])->
 Ev T 131 [qae s,p,iv a,.func (.func 132) [] [.ptr kv 0 0 1]] h (.val (.bool (qci s vs t a)),⟨h,[],[]⟩):=by
 have hc:=ht.cells;have hf:=ht.facts;have hsb:=ht.sub;induction ht with
 |mk k n l sz es hz hl he ih=>
   intro hsh a h kv hv;refine Ev.walk (hT.sp _ (by decide)) ((hT.fn _).trans fn131) (hT.mode _) rfl ?_;obtain⟨c1,c2,c3,c4⟩:=hc;have hsh':=hsh;simp only[qal,bA,dE,qbm]at hsh;obtain⟨⟨⟨⟨hn,_⟩,hk12⟩,hl8⟩,hall⟩:=hsh;obtain⟨N,rfl⟩:=iZ hn;generalize hP:PV.agg [iv k,iv (N:Int),.slice sz es .any]=P at*;have kg:=gC (l:=h) (a:=row 2 [qae s]);have kv1:=qag (o2:=row 2 [qae s]) hv;have low1:Low h.length h (h++[row 2 [qae s]]):=(Low.refl _ _).push (nR _);have hl1:(h++[row 2 [qae s]]).length=h.length+1:=by simp
   generalize hH1:h++[row 2 [qae s]]=H1 at*;have kp:=gC (l:=H1) (a:=row 3 [P]);have kg2:=qag (o2:=row 3 [P]) kg;have kv2:=qag (o2:=row 3 [P]) kv1;have low2:=low1.push (o:=row 3 [P]) (by omega);have hl2:(H1++[row 3 [P]]).length=h.length+2:=by simp[hl1]
   generalize hH2:H1++[row 3 [P]]=H2 at*;have l0:loadAt false 1 (.ptr H1.length 0 0 1) H2=some (iv k):=by rw[qac kp,←hP];rfl
   have l1:loadAt false 1 (.ptr H1.length 0 1 1) H2=some (iv (N:Int)):=by rw[qac kp,←hP];rfl
   have l2:loadAt false 1 (.ptr H1.length 0 2 1) H2=some (.slice sz es .any):=by rw[qac kp,←hP];rfl
   have lg:loadAt false 1 (.ptr h.length 0 1 1) H2=some (.slice 3 (s.ops.map qap) .any):=by rw[qac kg2];rfl
   have td:∀b,tidy 0 h.length (.val (.bool b)) ⟨H2,[],[]⟩=(.val (.bool b),⟨h,[],[]⟩):=fun b=>qaj rfl rfl low2 (by simp);by_cases hk:k=1
   · subst hk;have e2:=varV_ev hT hzv kv2 (n:=(N:Int)) (a:=a) (by omega);have b11:((1:Int)==1)=true:=rfl;simp(disch:=omega) only[go_sem,hH1,hH2,c1,c3,l0,l1,b11,cb e2,hT.prim,qab,td];simp[qci]
   · have hkb:(k==1)=false:=by simpa using hk
     by_cases hNO:N<s.ops.length
     · have go:=qi7 hNO;have ho:s.ops[N]?=some s.ops[N]:=Ab hNO;obtain⟨a1,a2,a3⟩:=hs.ops _ (mG ho);generalize s.ops[N]=o at*;have hNO':¬s.ops.length≤N:=by omega
       have so2:sub false 1 (qap o) 2=some (iv o.res):=rfl;have so1:sub false 1 (qap o) 1=some (.slice 1 (o.args.map encI) .any):=rfl;by_cases hr:o.res=a
       · have hr':(o.res !=a)=false:=by simp[hr]
         by_cases hal:o.args.length=l.length
         · have hal':((o.args.length:Int) !=(es.length:Int))=false:=by simp;omega
           have hF:qci s vs (.mk k N l) a=qcr s vs l o.args:=by simp[qci,ho,hr,hal,hk]
           rw[hF];simp(disch:=first|omega|decide|simp only[go_sem]) only[go_sem,hH1,hH2,c1,c3,l0,l1,l2,lg,hkb,hNO',go,so2,so1,hr',hal',hT.prim]
           refine wpC.loopM (fun g e st=> ∃(i:Nat)(H:Hp)(ws:List Nat),i+g=es.length∧Low h.length h H∧H[h.length]?=some (.row 2 [qae s])∧H[H1.length]?=some (.row 3 [P])∧H[kv]?=some (.row 1 [.slice zv (vs.map encI) mv])∧(∀x∈ws,h.length≤x)∧(∀(j:Nat)(x:Tm),j<i->l[j]?=some x->qci s vs x (o.args.getD j 0)=true)∧eget e 3=.func (.func 132) [] [.ptr kv 0 0 1]∧eget e 4=.ptr h.length 0 0 1∧eget e 5=.ptr H1.length 0 0 1∧eget e 51=.slice sz es .any∧eget e 52=iv (es.length:Int)∧eget e 53=iv (i:Int)∧st=⟨H,ws,[]⟩) ?_ es.length _ _
            ⟨0,H2,[],by omega,low2,kg2,kp,kv2,by simp,fun j x hj=>by omega,by simp only[go_sem],by simp only[go_sem],by simp only[go_sem],by simp only[go_sem],by simp only[go_sem],by simp only[go_sem];rfl,rfl⟩
           rintro g e st ⟨i,H,ws,hi,low,kg,kp,kv',hw,hok,e3,e4,e5,e51,e52,e53,rfl⟩;by_cases h1:i<es.length
           · have ga:=qb1 h1;have hx:l[i]?=some l[i]:=Ab (by omega);have hE:=he i l[i] es[i] hx ga;have hshx:qal l[i]=true:=List.all_eq_true.1 hall _ (Af _);have ihx:=ih i l[i] es[i] hx ga hE.cells hE.facts hE.sub hshx;generalize l[i]=x at*
             have hsz:sz=3:=by
              rcases hz with rfl|h
              ·simp at h1
              ·exact h
             subst hsz;obtain⟨b1,b2,b3,b4⟩:=hE.cells;have bt:=hE.facts.1;have bs:=hE.sub;generalize es[i]=q at*;have sb:=qa6 (h:=H) (ws:=ws) (ups:=[]) (z:=zq3) (sz:=3) (c:=q) b1 rfl b2 bt ⟨_,rfl⟩ b4;have kq:=gC (l:=H) (a:=row 3 [q]);have kg3:=qag (o2:=row 3 [q]) kg;have kp3:=qag (o2:=row 3 [q]) kp;have kv3:=qag (o2:=row 3 [q]) kv';have hHl:=low.len;have low3:=low.push (o:=row 3 [q]) hHl;generalize hH5:H++[row 3 [q]]=H5 at*;have lq:loadAt true 3 (.ptr H.length 0 0 1) H5=some q:=by rw[qac kq];exact bs
             have m1:loadAt false 1 (.ptr H1.length 0 1 1) H5=some (iv (N:Int)):=by rw[qac kp3,←hP];rfl
             have mg:loadAt false 1 (.ptr h.length 0 1 1) H5=some (.slice 3 (s.ops.map qap) .any):=by rw[qac kg3];rfl
             have ms:loadAt true 2 (.ptr h.length 0 0 1) H5=some (qae s):=by rw[qac kg3];rfl
             have hia:i<o.args.length:=by omega
             have gA:=qc4 hia;have gD:o.args.getD i 0=o.args[i]:=by simp[Ac,hia]
             have ev:=ihx (o.args[i]) H5 kv kv3;have hw':∀x∈wadd H.length ws,h.length≤x:=qad hHl hw;cases hb:qci s vs x o.args[i]
             · rw[hb]at ev;have hfal:=qiu (s:=s) (vs:=vs) (bs:=o.args) i hx (by rw[gD];exact hb);rw[hfal];simp(disch:=first|omega|decide|simp only[go_sem]) only[go_sem,qh7,e3,e4,e5,e51,e52,e53,h1,ga,bs,sb,lq,m1,mg,ms,go,so1,gA,cb ev,hT.q];exact qaj rfl rfl low3 hw'
             · rw[hb]at ev;simp(disch:=first|omega|decide|simp only[go_sem]) only[go_sem,qh7,e3,e4,e5,e51,e52,e53,h1,ga,bs,sb,lq,m1,mg,ms,go,so1,gA,cb ev,hT.q];refine⟨g - 1,by omega,i+1,H5,_,by omega,low3,kg3,kp3,kv3,hw',fun j y hj hy=>?_,rfl,rfl⟩;by_cases hji:j=i
               · subst hji;rw[hx]at hy;cases hy;rw[gD];exact hb
               ·exact hok j y (by omega) hy
           · have htr:qcr s vs l o.args=true:=qkk fun i x hx=>hok i x (by have:=(gI.1 hx).1;omega) hx;rw[htr];simp(disch:=omega) only[go_sem,qh7,e52,e53,h1];exact qaj rfl rfl low hw
         · have hal':((o.args.length:Int) !=(es.length:Int))=true:=by simp;omega
           simp(disch:=first|omega|decide|simp only[go_sem]) only[go_sem,hH1,hH2,c1,c3,l0,l1,l2,lg,hkb,hNO',go,so2,so1,hr',hal',td];simp[qci,ho,hal,hk]
       · have hr':(o.res !=a)=true:=by simpa using hr
         simp(disch:=first|omega|decide|simp only[go_sem]) only[go_sem,hH1,hH2,c1,c3,l0,l1,lg,hkb,hNO',go,so2,hr',td];simp[qci,ho,hr,hk]
     · have hNO':s.ops.length≤N:=by omega
       simp(disch:=first|omega|decide|simp only[go_sem]) only[go_sem,hH1,hH2,c1,c3,l0,l1,lg,hkb,hNO',td];simp[qci,List.getElem?_eq_none hNO',hk]
include hT in
theorem sort129_ev{H:Hp}{kg:Nat}(hk:H[kg]?=some (.row 2 [qae s]))(hn:s.sorts.length≤1000)(a:Int):Ev T 129 [.int .i64 a,.ptr kg 0 0 1] H (.val (.bool (decide (a<0)||decide ((s.sorts.length:Int)≤a))),⟨H,[],[]⟩):=by
 refine Ev.walk (hT.sp _ (by decide)) ((hT.fn _).trans fn129) (hT.mode _) rfl ?_;have lg:loadAt false 1 (.ptr kg 0 0 1) H=some (.slice 1 (s.sorts.map .str) .any):=by rw[qac hk];rfl
 by_cases h0:a<0
 ·simp(disch:=omega) only[go_sem,h0,decide_true,Bool.true_or]
 · by_cases h1:(s.sorts.length:Int)≤a
   ·simp(disch:=omega) only[go_sem,h0,h1,lg,decide_true,decide_false,Bool.false_or,lM]
   ·simp(disch:=omega) only[go_sem,h0,h1,lg,decide_false,Bool.false_or,lM]
include hT in
theorem qg7{g:FuncId}{cap:List PV}{z:Nat}{m:SM}(h:Hp):Ev T 65 [.slice z [] m,.func (.func g) [] cap] h (.val (.bool false),⟨h,[],[]⟩):=by
 have i149:Ev T 149 [.slice z [] m,.func (.func g) [] cap] h (.val (.int .i64 (-1)),⟨h,[],[]⟩):=by
  refine Ev.walk (hT.sp _ (by decide)) ((hT.fn _).trans fn149) (hT.mode _) rfl ?_;simp(disch:=omega) only[go_sem,List.length_nil];refine qbt ?_;have n0:¬((0:Int)< ((0:Nat):Int)):=by omega
  simp(disch:=omega) only[go_sem,qrr,n0]
 refine Ev.walk (hT.sp _ (by decide)) ((hT.fn _).trans fn65) (hT.mode _) rfl ?_;have n1:¬((0:Int)≤-1):=by omega
 simp(disch:=omega) only[go_sem,cb i149,hT.prim,qab,n1]
include hT in
theorem vars65_ev{H:Hp}{kg:Nat}(hk:H[kg]?=some (.row 2 [qae s]))(hn:s.sorts.length≤1000){vs:List Int}{zv:Nat}{mv:SM}(hzv:vs=[]∨zv=1)(hvs:∀v∈vs,0≤v∧v< (s.sorts.length:Int))(hl:vs.length<1000000):
 Ev T 65 [.slice zv (vs.map encI) mv,.func (.func 129) [] [.ptr kg 0 0 1]] H (.val (.bool false),⟨H,[],[]⟩):=by
 rcases hzv with rfl|rfl
 ·exact qg7 hT H
 · obtain⟨r,ev,hr⟩:=qde hT (g:=129) (cap:=[.ptr kg 0 0 1]) (p:=fun a=>decide (a<0)||decide ((s.sorts.length:Int)≤a)) (m:=mv) (by rw[hT.prim];rfl) (fun a=>sort129_ev hT hk hn a) hl;have:r=false:=hr.2 fun a ha=>by obtain⟨h1,h2⟩:=hvs a ha;rw[decide_eq_false (by omega),decide_eq_false (by omega)];rfl
   rw[this]at ev;exact ev
def topV(s:GSig)(vs:List Int):Tm->Int
 |.mk k n _=>if k=1 then(if n< (vs.length:Int)then vs.getD n.toNat (-1)else -1)else(match s.ops[n.toNat]? with|some o=>o.res|none=> -1)
def qcs(s:GSig)(vs:List Int)(t:Tm):Int×Int:=if qa0 t=true∧0≤topV s vs t∧qci s vs t (topV s vs t)=true then(topV s vs t,0)else(0,4)
set_option maxRecDepth 8000 in
include hT in
theorem sortV_ev(hs:GOk s)(E87:∀h,Ev T 87 [qae s] h (.val (.int .i64 0),⟨h,[],[]⟩)){vs:List Int}{zv:Nat}{mv:SM}(hzv:vs=[]∨zv=1)(hvs:∀v∈vs,0≤v∧v< (s.sorts.length:Int))(hvl:vs.length<1000000)(hsl:s.sorts.length≤1000){t:Tm}{p:PV}(ht:Enc t p)(h:Hp):
 Ev T 45 [qae s,.slice zv (vs.map encI) mv,p] h (.val (.tuple [.int .i64 (qcs s vs t).1,.int .i64 (qcs s vs t).2]),⟨h,[],[]⟩):=by
 refine Ev.walk (hT.sp _ (by decide)) ((hT.fn _).trans fn45) (hT.mode _) rfl ?_;have htr:=qfp hT ht;have hty:=fun hsh a h kv hv=>typedV_ev hT (mv:=mv) hzv hs ht hsh a h kv hv;have hsub:=ht.sub;obtain⟨c1,c2,c3,c4⟩:=ht.cells;have cv:(PV.slice zv (vs.map encI) mv).cells.length=1∧(PV.slice zv (vs.map encI) mv).isDef=true:=⟨rfl,rfl⟩;have kg:(((h++[row 2 [qae s]])++[row 1 [PV.slice zv (vs.map encI) mv]])++[row 3 [p]])[h.length]?=some (.row 2 [qae s]):=qag (qag (by simp));have hl1:(h++[row 2 [qae s]]).length=h.length+1:=by simp
 have kv:(((h++[row 2 [qae s]])++[row 1 [PV.slice zv (vs.map encI) mv]])++[row 3 [p]])[(h++[row 2 [qae s]]).length]?=some (.row 1 [.slice zv (vs.map encI) mv]):=qag (by simp);have kp:=gC (l:=((h++[row 2 [qae s]])++[row 1 [PV.slice zv (vs.map encI) mv]])) (a:=row 3 [p]);have low:Low h.length h (((h++[row 2 [qae s]])++[row 1 [PV.slice zv (vs.map encI) mv]])++[row 3 [p]]):=(((Low.refl _ _).push (nR _)).push (by simp)).push (by simp);generalize hk1:(h++[row 2 [qae s]]).length=k1 at*;generalize hk2:((h++[row 2 [qae s]])++[row 1 [PV.slice zv (vs.map encI) mv]]).length=k2 at*;generalize hH:((h++[row 2 [qae s]])++[row 1 [PV.slice zv (vs.map encI) mv]])++[row 3 [p]]=H at*;have lg:loadAt true 2 (.ptr h.length 0 0 1) H=some (qae s):=by rw[qac kg];rfl
 have lg1:loadAt false 1 (.ptr h.length 0 1 1) H=some (.slice 3 (s.ops.map qap) .any):=by rw[qac kg];rfl
 have lv:loadAt false 1 (.ptr k1 0 0 1) H=some (.slice zv (vs.map encI) mv):=by rw[qac kv];rfl
 have lp:loadAt true 3 (.ptr k2 0 0 1) H=some p:=by rw[qac kp];exact hsub
 have c65':=vars65_ev hT kg hsl (mv:=mv) hzv hvs hvl;have td:∀a b,tidy 0 h.length (.val (.tuple [.int .i64 a,.int .i64 b])) ⟨H,[],[]⟩=(.val (.tuple [.int .i64 a,.int .i64 b]),⟨h,[],[]⟩):=fun a b=>qaj rfl rfl low (by simp);cases hbt:qa0 t
 · have hF:qcs s vs t=(0,4):=by simp[qcs,hbt]
   rw[hF];have htr:=htr H;rw[hbt]at htr;simp(disch:=omega) only[go_sem,hk1,hk2,hH,c1,c3,cv.1,cv.2,lg,cb (E87 _),lv,cb c65',lp,cb htr,bne_self_eq_false,hT.prim,qab,td]
 · have hsh:=qav hbt;have htq:=htr H;rw[hbt]at htq;have hV:qcs s vs t=if 0≤topV s vs t∧qci s vs t (topV s vs t)=true then(topV s vs t,0)else(0,4):=by simp[qcs,hbt]
   have ety:=fun a=>hty hsh a H k1 kv;cases ht with
   |mk k n l sz es hz hl he=>
     have lp0:loadAt false 1 (.ptr k2 0 0 1) H=some (.int .i64 k):=by rw[qac kp];rfl
     have lp1:loadAt false 1 (.ptr k2 0 1 1) H=some (.int .i64 n):=by rw[qac kp];rfl
     have hsh':=hsh;simp only[qal,bA,dE,Bool.or_eq_true,beq_iff_eq]at hsh;obtain⟨⟨⟨⟨hn0,_⟩,hk12⟩,_⟩,_⟩:=hsh;obtain⟨N,rfl⟩:=iZ hn0;have m1:((-1:Int)<0):=by omega
     rcases hk12 with rfl|rfl
     · have b11:((1:Int)==1)=true:=rfl;have b12:((1:Int)==2)=false:=rfl;by_cases hN:N<vs.length
       · have hN':(N:Int)< (vs.length:Int):=by omega
         have gk:=qc4 hN
         have hz1:zv=1:=by
          rcases hzv with rfl|h
          ·simp at hN
          ·exact h
         subst hz1;have gd:topV s vs (.mk 1 N l)=vs[N]:=by simp[topV,hN',Ac,hN]
         have hv0:=(hvs _ (Af hN)).1;rw[gd]at hV;have ety:=ety vs[N];generalize vs[N]=a at*;have a0:¬a<0:=by omega
         cases hb:qci s vs (.mk 1 N l) a
         · rw[hb]at ety;have hF:=hV.trans (if_neg (by simp[hb]));rw[hF];simp(disch:=omega) only[go_sem,hk1,hk2,hH,c1,c3,cv.1,cv.2,lg,cb (E87 _),lv,cb c65',lp,cb htq,bne_self_eq_false,hT.prim,qab,td,lp0,lp1,b11,hN',gk,a0,cb ety,lM]
         · rw[hb]at ety;have hF:=hV.trans (if_pos ⟨by omega,hb⟩);rw[hF];simp(disch:=omega) only[go_sem,hk1,hk2,hH,c1,c3,cv.1,cv.2,lg,cb (E87 _),lv,cb c65',lp,cb htq,bne_self_eq_false,hT.prim,qab,td,lp0,lp1,b11,hN',gk,a0,cb ety,lM]
       · have hN':¬(N:Int)< (vs.length:Int):=by omega
         have gd:topV s vs (.mk 1 N l)=-1:=by simp[topV,hN]
         rw[gd]at hV;have hF:=hV.trans (if_neg (by simp));rw[hF];simp(disch:=omega) only[go_sem,hk1,hk2,hH,c1,c3,cv.1,cv.2,lg,cb (E87 _),lv,cb c65',lp,cb htq,bne_self_eq_false,hT.prim,qab,td,lp0,lp1,b11,b12,hN',m1,lM]
     · have b11:((2:Int)==1)=false:=rfl;have b12:((2:Int)==2)=true:=rfl;by_cases hNO:N<s.ops.length
       · have go:=qi7 hNO;have ho:s.ops[N]?=some s.ops[N]:=Ab hNO;obtain⟨a1,a2,a3⟩:=hs.ops _ (mG ho);generalize s.ops[N]=o at*;have so2:sub false 1 (qap o) 2=some (.int .i64 o.res):=rfl;have r0:¬o.res<0:=by omega
         have gd:topV s vs (.mk 2 N l)=o.res:=by simp[topV,ho]
         rw[gd]at hV;have ety:=ety o.res;cases hb:qci s vs (.mk 2 N l) o.res
         · rw[hb]at ety;have hF:=hV.trans (if_neg (by simp[hb]));rw[hF];simp(disch:=omega) only[go_sem,hk1,hk2,hH,c1,c3,cv.1,cv.2,lg,lg1,cb (E87 _),lv,cb c65',lp,cb htq,bne_self_eq_false,hT.prim,qab,td,lp0,lp1,b11,b12,hNO,go,so2,r0,cb ety,lM]
         · rw[hb]at ety;have hF:=hV.trans (if_pos ⟨by omega,hb⟩);rw[hF];simp(disch:=omega) only[go_sem,hk1,hk2,hH,c1,c3,cv.1,cv.2,lg,lg1,cb (E87 _),lv,cb c65',lp,cb htq,bne_self_eq_false,hT.prim,qab,td,lp0,lp1,b11,b12,hNO,go,so2,r0,cb ety,lM]
       · have hNO':s.ops.length≤N:=by omega
         have gd:topV s vs (.mk 2 N l)=-1:=by simp[topV,List.getElem?_eq_none hNO']
         rw[gd]at hV;have hF:=hV.trans (if_neg (by simp));rw[hF];simp(disch:=omega) only[go_sem,hk1,hk2,hH,c1,c3,cv.1,cv.2,lg,lg1,cb (E87 _),lv,cb c65',lp,cb htq,bne_self_eq_false,hT.prim,qab,td,lp0,lp1,b11,b12,hNO,m1,lM]
def RowV(us:List Tm)(v:PV):Prop:=∃z es,v=.slice z es .any∧(es=[]∨z=3)∧EncL us es
def qjo(L:List (List Tm))(vs:List PV):Prop:=vs.length=L.length∧∀(i:Nat)(us:List Tm)(v:PV),L[i]?=some us->vs[i]?=some v->RowV us v
theorem qjo.snoc{L:List (List Tm)}{vs:List PV}{us:List Tm}{v:PV}(h:qjo L vs)(hv:RowV us v):qjo (L++[us]) (vs++[v]):=by
 have hl:=h.1;refine⟨by simp[hl],fun i us' v' h1 h2=>?_⟩;by_cases hi:i<L.length
 · rw[gL hi]at h1;rw[gL (by omega)]at h2;exact h.2 i _ _ h1 h2
 · rw[gR (by omega)]at h1;rw[gR (by omega),hl]at h2;cases hk:i - L.length with
   |zero=>
     rw[hk]at h1 h2;simp only[List.getElem?_cons_zero,Option.some.injEq]at h1 h2;subst h1 h2;exact hv
   |succ k=>
     rw[hk]at h1;simp at h1
theorem RowV.pw{us:List Tm}{v:PV}(h:RowV us v):v.pure=true∧v.weak=v:=by obtain⟨z,es,rfl,_,hE⟩:=h;obtain⟨h1,h2⟩:=qj8 hE;exact⟨h1,by simp only[PV.weak,h2]⟩
theorem rowsV_pw:∀{L:List (List Tm)}{vs:List PV},qjo L vs->qat vs=true∧qau vs=vs
 |[],vs,h=>by
   have:vs=[]:=lZ.1 h.1;subst this;exact⟨rfl,rfl⟩
 |us::L,[],h=>by have:=h.1;simp at this
 |us::L,v::vs,h=>by obtain⟨h1,h2⟩:=rowsV_pw (L:=L) (vs:=vs) ⟨by have:=h.1;simpa using this,fun i x p hx hp=>h.2 (i+1) x p hx hp⟩;obtain⟨h3,h4⟩:=(h.2 0 us v rfl rfl).pw;simp[qat,qau,h1,h2,h3,h4]
theorem EncP.facts{c:Tm×Tm}{P:PV}(h:EncP c P):P.cells.length=6∧P.cells.all PV.isCell=true∧(∃cs,P=.agg cs)∧P.top=none∧AE.sub true 6 P 0=some P∧P.isDef=true:=by obtain⟨ka,na,za,ea,kb,nb,zb,eb,hP,hEa,hEb⟩:=h;refine⟨by rw[hP];rfl,by rw[hP];rfl,⟨_,hP⟩,?_,by rw[hP];rfl,by rw[hP];rfl⟩;have h1:=hEa.facts.1;have h2:=hEb.facts.1;rw[hP];simp only[PV.top,tops]at h1 h2⊢;revert h1 h2;cases tops ea<;>cases tops eb<;>simp[omax]
theorem st_row1W{H:Hp}{ups:List (Nat×Nat)}{k n A:Nat}{xs:List PV}{z v:PV}(hk:H[k]?=some (.row 1 xs))(hn:xs.length=n)(hz:xs[A]?=some z)(hzc:∀cs,z≠.agg cs)(hv:v.cells=[v]∧v.isCell=true):
 ∃ups',(∀ws,storeAt 1 (.ptr k A 0 n) v ⟨H,ws,ups⟩=some ⟨H.set k (.row 1 (xs.set A v)),wadd k ws,ups'⟩)∧∀x∈ups',x∈ups∨x.1=k:=by
 have hva:∀cs,v≠.agg cs:=fun cs h=>by rw[h]at hv;cases hv.2
 have hu:upd z 0 v=some v:=by
  unfold upd;split
  ·rename_i cs _;exact absurd rfl (hzc _)
  · split
    ·exact absurd rfl (hva _)
    ·rfl
 obtain⟨u,h1,h2⟩:=qiq (k:=k) (o:=.row 1 (xs.set A v)) (up:=v.top) (H:=H) (ups:=ups);refine⟨u,fun ws=>?_,h2⟩;rw[←h1 ws];simp only[storeAt,hk,hn,hv.1,Ae,Nat.zero_add,List.all_cons,List.all_nil,hv.2,Bool.and_self,and_self,if_true,hz,hu,Option.map]
theorem AppS.set{H:Hp}{v:PV}{es:List PV}{lo k n:Nat}{r r':List PV}(A:AppS H v es lo)(hk:H[k]?=some (.row n r)):AppS (H.set k (.row n r')) v es lo:=by
 rcases A with h|⟨kt,h1,h2,h3⟩
 ·exact .inl h
 · refine .inr ⟨kt,h1,qaa h2 ?_,h3⟩;rintro rfl;rw[h2]at hk;cases hk
include hT in
theorem sort115_ev{t:GTy}{H:Hp}{kg:Nat}(hk:H[kg]?=some (.row 3 [qan t]))(a:Int):Ev T 115 [iv a,.ptr kg 0 0 1] H (.val (.bool (!qbc a t.sig.sorts.length)),⟨H,[],[]⟩):=by
 refine Ev.walk (hT.sp _ (by decide)) ((hT.fn _).trans fn115) (hT.mode _) rfl ?_;have lg:loadAt true 2 (.ptr kg 0 0 1) H=some (qae t.sig):=by rw[qac hk];rfl
 have ei:=isSort_ev hT (s:=t.sig) a H;simp(disch:=omega) only[go_sem,lg,cb ei,hT.prim,qab]
include hT in
theorem vars115_ev{t:GTy}{H:Hp}{kg:Nat}(hk:H[kg]?=some (.row 3 [qan t])){vs:List Int}{zv:Nat}{mv:SM}(hzv:vs=[]∨zv=1)(hl:vs.length<1000000):
 ∃r:Bool,Ev T 65 [.slice zv (vs.map encI) mv,.func (.func 115) [] [.ptr kg 0 0 1]] H (.val (.bool r),⟨H,[],[]⟩)∧(r=false↔∀v∈vs,0≤v∧v< (t.sig.sorts.length:Int)):=by
 rcases hzv with rfl|rfl
 ·exact⟨false,qg7 hT H,by simp⟩
 · obtain⟨r,ev,hr⟩:=qde hT (g:=115) (cap:=[.ptr kg 0 0 1]) (p:=fun a=>!qbc a t.sig.sorts.length) (m:=mv) (by rw[hT.prim];rfl) (fun a=>sort115_ev hT hk a) hl;refine⟨r,ev,hr.trans ⟨fun h v hv=>?_,fun h v hv=>?_⟩⟩
   · have:=h v hv;simpa[qbc]using this
   · have:=h v hv;simpa[qbc]using this
def qmn(s:GSig)(vs:List Int)(c:Tm×Tm):Prop:=(qcs s vs c.1).2=0∧(qcs s vs c.2).2=0∧(qcs s vs c.1).1=(qcs s vs c.2).1
structure SolOk (t:GTy)(nv:PV->PV×Int)(r:Int)(dom:List (List Tm))(vs:List Int)(cs:List (Tm×Tm)):Prop where
 r0:r=0
 dom:DomR t.sig nv dom (vssOf dom) 0
 nV:vs.length≤64
 nC:cs.length≤8
 vars:∀v∈vs,0≤v∧v< (t.sig.sorts.length:Int)
 conds:∀c∈cs,qmn t.sig vs c
structure SolX where
 z:Nat
 vs:List PV
 e:Int
def SolX.v(x:SolX):PV:=.tuple [.slice x.z x.vs .any,iv x.e]
noncomputable def solL(nt:Tm->PV×Int)(dom:List (List Tm))(vs:List Int)(cs:List (Tm×Tm)):List (List Tm):=(qda (vs.map (atL dom))).filter fun l=>qdq nt l cs
structure SolB (H:Hp)(n0:Nat)(t:GTy)(P:PV):Prop where
 k4:H[n0]?=some (.row 3 [qan t])
 k7:H[n0+1]?=some (.row 1 [P])
 k8:H[n0+2]?=some (.row 1 [.slice 0 [] .nil])
 k9:H[n0+3]?=some (.row 1 [iv 0])
theorem SolB.low{H H':Hp}{n0:Nat}{t:GTy}{P:PV}(B:SolB H n0 t P)(L:Low (n0+4) H H'):SolB H' n0 t P:=
 ⟨L.get (by omega) B.k4,L.get (by omega) B.k7,L.get (by omega) B.k8,L.get (by omega) B.k9⟩
theorem ret2{h H:Hp}{t:GTy}{P:PV}(low:Low h.length h H)(B:SolB H h.length t P)(d:Int){z:Nat}{es:List PV}{m:SM}(hp:qat es=true∧qau es=es){ups:List (Nat×Nat)}(hu:∀x∈ups,h.length≤x.1):
 ∃H4 H5 u4,(∀ws,storeAt 1 (.ptr (h.length+2) 0 0 1) (.slice z es m) ⟨H,ws,ups⟩=some ⟨H4,wadd (h.length+2) ws,u4⟩)∧(∀ws,storeAt 1 (.ptr (h.length+3) 0 0 1) (iv d) ⟨H4,ws,u4⟩=some ⟨H5,wadd (h.length+3) ws,u4⟩)∧
   loadAt false 1 (.ptr (h.length+2) 0 0 1) H5=some (.slice z es m)∧loadAt false 1 (.ptr (h.length+3) 0 0 1) H5=some (iv d)∧
   ∀ws,(∀x∈ws,h.length≤x)->tidy 0 h.length (.val (.tuple [.slice z es m,iv d])) ⟨H5,ws,u4⟩=(.val (.tuple [.slice z es .any,iv d]),⟨h,[],[]⟩):=by
 obtain⟨_,_,k8,k9⟩:=B;obtain⟨u4,s4,hu4⟩:=st_row1W (v:=.slice z es m) (ups:=ups) (n:=1) (A:=0) k8 rfl rfl (fun cs h=>by cases h) ⟨rfl,rfl⟩;simp only[sC]at s4;have k49:=qaa (o':=row 1 [.slice z es m]) k9 (show h.length+2≠h.length+3 by omega);have k48:=qai (o':=row 1 [.slice z es m]) k8;have low4:Low h.length h (H.set (h.length+2) (.row 1 [.slice z es m])):=low.trans (.set (by omega));generalize H.set (h.length+2) (.row 1 [.slice z es m])=H4 at*;have s5:=fun ws=>qr5 (v:=iv d) (ws:=ws) (ups:=u4) (n:=1) (A:=0) k49 rfl rfl (fun cs h=>by cases h) ⟨rfl,rfl⟩ (fun j hj=>by cases hj);simp only[sC]at s5;have k58:=qaa (o':=row 1 [iv d]) k48 (show h.length+3≠h.length+2 by omega);have k59:=qai (o':=row 1 [iv d]) k49;have low5:Low h.length h (H4.set (h.length+3) (.row 1 [iv d])):=low4.trans (.set (by omega));generalize H4.set (h.length+3) (.row 1 [iv d])=H5 at*;refine⟨H4,H5,u4,s4,s5,by rw[qac k58];rfl,by rw[qac k59];rfl,fun ws hw=>?_⟩
 have:=qa4 (v:=.tuple [.slice z es m,iv d]) (ups:=u4) (by simp only[PV.pure,qat,hp.1,Bool.and_self]) low5 hw (fun x hx=>by
  rcases hu4 x hx with h|h
  ·exact hu x h
  ·omega)
 rw[this];simp only[PV.weak,qau,hp.2]
theorem qr2{α:Type}{F:α->Bool}{l:List α}{j:Nat}{x:α}(h:l[j]?=some x):(l.take (j+1)).filter F=(l.take j).filter F++if F x then [x]else []:=by
 obtain⟨hj,rfl⟩:=gI.1 h;rw[tS hj,List.filter_append]
 congr 1
 cases hF:F l[j]<;>simp[hF]
set_option maxRecDepth 8000 in
include hT in
theorem qod(hI:T.iter 182=some itG){t:GTy}{r:Int}(I:TyIn T t r){nt:Tm->PV×Int}(N:NTm T t nt){nv:PV->PV×Int}(NV:NVal T t nv){dom:List (List Tm)}(hd:dom.length<1000){vs:List Int}{zv:Nat}{mv:SM}(hzv:vs=[]∨zv=1)(hvl:vs.length≤1000){cs:List (Tm×Tm)}{zc:Nat}{ps:List PV}{mc:SM}(hzc:ps=[]∨zc=6)(hC:qjp cs ps)(hcn:cs.length≤1000)(h:Hp):
 ∃x:SolX,Ev T 39 [qan t,domV dom,.slice zv (vs.map encI) mv,.slice zc ps mc] h (.val x.v,⟨h,[],[]⟩)∧((x.e=0->SolOk t nv r dom vs cs∧(x.vs=[]∨x.z=1)∧qjo (solL nt dom vs cs) x.vs∧x.vs.length≤4000)∧(SolOk t nv r dom vs cs->x.e=0∨x.e=2)):=by
 refine Ev.walkP (r:=fun x:SolX=>(.val x.v,⟨h,[],[]⟩)) (mode:=0) (hT.sp _ (by decide)) ((hT.fn _).trans fn39) (show T.mode 39=0 from hT.mode 39) rfl ?_;have cp:(PV.slice zc ps mc).cells.length=1∧(PV.slice zc ps mc).isDef=true:=⟨rfl,rfl⟩;have hcl:=hC.1;obtain⟨H0,hH0⟩:∃H0,(((h++[row 3 [qan t]])++[row 1 [.slice zc ps mc]])++[row 1 [.slice 0 [] .nil]])++[row 1 [iv 0]]=H0:=⟨_,rfl⟩;have low0:Low h.length h H0:=by rw[←hH0];exact((((Low.refl _ _).push (nR _)).push (by simp)).push (by simp)).push (by simp)
 have hl0:H0.length=h.length+4:=by rw[←hH0];simp
 have B0:SolB H0 h.length t (.slice zc ps mc):=by rw[←hH0];refine⟨?_,?_,?_,?_⟩<;>simp[]
 have w1:(h++[row 3 [qan t]]).length=h.length+1:=by simp
 have w2:((h++[row 3 [qan t]])++[row 1 [.slice zc ps mc]]).length=h.length+2:=by simp
 have w3:(((h++[row 3 [qan t]])++[row 1 [.slice zc ps mc]])++[row 1 [.slice 0 [] .nil]]).length=h.length+3:=by simp
 have lt:loadAt true 3 (.ptr h.length 0 0 1) H0=some (qan t):=by rw[qac B0.k4];rfl
 have lc:loadAt false 1 (.ptr (h.length+1) 0 0 1) H0=some (.slice zc ps mc):=by rw[qac B0.k7];rfl
 obtain⟨r',ev1,hr⟩:=askedV_ev hT I NV (domV_ok dom H0) (by omega);have hb0:((0:Int) !=0)=false:=rfl;by_cases hr0:r'=0;rotate_left
 · have hb:(r' !=0)=true:=by simpa using hr0
   obtain⟨H4,H5,u4,s4,s5,l4,l5,td⟩:=ret2 low0 B0 r' (z:=0) (es:=[]) (m:=.nil) ⟨rfl,rfl⟩ (ups:=[]) (by simp);have t1:=td (wadd (h.length+3) (wadd (h.length+2) [])) (qad (by omega) (qad (by omega) (by simp)));simp(disch:=omega) only[go_sem,w1,w2,w3,hH0,cp.1,cp.2,qbz,qb0,lt,cb ev1,hb,s4,s5,resv,l4,l5,hT.prim,qab,t1];refine⟨⟨0,[],r'⟩,rfl,fun h=>absurd h hr0,fun S=>?_⟩;rcases hr with⟨h1,_⟩|⟨_,hD⟩
   ·exact absurd S.r0 h1
   · rcases hD.c with h|h|h
     ·exact absurd h hr0
     ·exact .inr h
     ·exact absurd (S.dom.yes (by decide)) (hD.no h)
 subst hr0
 obtain⟨rfl,hD⟩:r=0∧DomR t.sig nv dom (vssOf dom) 0:=by
  rcases hr with⟨h1,h2⟩|h
  ·exact absurd h2.symm h1
  ·exact h
 have D1:=(hD.yes (by decide)).1;have hs:=I.G rfl;have hnS:=hs.nS;have E87:=I.E87 rfl;have hdl:∀l∈dom,l.length≤64:=fun l hl=>by obtain⟨i,hi,rfl⟩:=List.getElem_of_mem hl;exact(D1.2 i _ (Ab hi)).1
 obtain⟨rv,evv,hrv⟩:=vars115_ev hT B0.k4 (vs:=vs) (zv:=zv) (mv:=mv) hzv (by omega);by_cases hvb:64<vs.length
 · have hvb':(64:Int)< (vs.length:Int):=by omega
   obtain⟨H4,H5,u4,s4,s5,l4,l5,td⟩:=ret2 low0 B0 1 (z:=0) (es:=[]) (m:=.nil) ⟨rfl,rfl⟩ (ups:=[]) (by simp);have t1:=td (wadd (h.length+3) (wadd (h.length+2) [])) (qad (by omega) (qad (by omega) (by simp)));simp(disch:=omega) only[go_sem,w1,w2,w3,hH0,cp.1,cp.2,qbz,qb0,lt,cb ev1,hb0,hvb',s4,s5,resv,l4,l5,hT.prim,qab,lM,t1];exact⟨⟨0,[],1⟩,rfl,fun h=>by simp at h,fun S=>by have:=S.nV;omega⟩
 have hvb':¬(64:Int)< (vs.length:Int):=by omega
 by_cases hcb:8<ps.length
 · have hcb':(8:Int)< (ps.length:Int):=by omega
   obtain⟨H4,H5,u4,s4,s5,l4,l5,td⟩:=ret2 low0 B0 1 (z:=0) (es:=[]) (m:=.nil) ⟨rfl,rfl⟩ (ups:=[]) (by simp);have t1:=td (wadd (h.length+3) (wadd (h.length+2) [])) (qad (by omega) (qad (by omega) (by simp)));simp(disch:=omega) only[go_sem,w1,w2,w3,hH0,cp.1,cp.2,qbz,qb0,lt,cb ev1,hb0,hvb',lc,hcb',s4,s5,resv,l4,l5,hT.prim,qab,lM,t1];exact⟨⟨0,[],1⟩,rfl,fun h=>by simp at h,fun S=>by have:=S.nC;omega⟩
 have hcb':¬(8:Int)< (ps.length:Int):=by omega
 cases rv;rotate_left
 · obtain⟨H4,H5,u4,s4,s5,l4,l5,td⟩:=ret2 low0 B0 1 (z:=0) (es:=[]) (m:=.nil) ⟨rfl,rfl⟩ (ups:=[]) (by simp);have t1:=td (wadd (h.length+3) (wadd (h.length+2) [])) (qad (by omega) (qad (by omega) (by simp)));simp(disch:=omega) only[go_sem,w1,w2,w3,hH0,cp.1,cp.2,qbz,qb0,lt,cb ev1,hb0,hvb',lc,hcb',cb evv,s4,s5,resv,l4,l5,hT.prim,qab,lM,t1];exact⟨⟨0,[],1⟩,rfl,fun h=>by simp at h,fun S=>by have:=hrv.2 S.vars;simp at this⟩
 have hvars:=hrv.1 rfl;clear hrv;simp(disch:=omega) only[go_sem,w1,w2,w3,hH0,cp.1,cp.2,qbz,qb0,lt,cb ev1,hb0,hvb',lc,hcb',cb evv,hT.prim,qab,lM]
 refine wpC.loopM (fun g e st=> ∃(i:Nat)(H:Hp)(ws:List Nat),i+g=ps.length∧Low (h.length+4) H0 H∧(∀x∈ws,h.length≤x)∧(∀c∈cs.take i,qmn t.sig vs c)∧(eget e 1=domV dom∧eget e 2=.slice zv (vs.map encI) mv∧eget e 4=.ptr h.length 0 0 1∧eget e 7=.ptr (h.length+1) 0 0 1∧eget e 8=.ptr (h.length+2) 0 0 1∧eget e 9=.ptr (h.length+3) 0 0 1∧eget e 42=.slice zc ps mc∧eget e 43=iv (ps.length:Int)∧eget e 44=iv (i:Int))∧st=⟨H,ws,[]⟩) ?_ ps.length _ _
  ⟨0,H0,[],by omega,⟨rfl,nR _⟩,by simp,by simp,by simp only[go_sem,Ag],rfl⟩
 clear lt lc ev1 evv;rintro g e st ⟨i,H,ws,hi,low,hw,hso,⟨e1,e2,e4,e7,e8,e9,e42,e43,e44⟩,rfl⟩;have hHl:=low.len;have B:=B0.low low;have lowh:Low h.length h H:=low0.comp low (by omega);by_cases h1:i<ps.length
 · have h1':(i:Int)< (ps.length:Int):=by omega
   have ga:=qb1 h1;have hx:cs[i]?=some cs[i]:=Ab (by omega);have htk:cs.take (i+1)=cs.take i++[cs[i]]:=by rw[tS (by omega)]
   have hmc:=mG hx;have hEP:=hC.2 i _ _ hx ga
   have hzc6:zc=6:=by
    rcases hzc with rfl|h
    ·simp at h1
    ·exact h
   subst hzc6;generalize cs[i]=c at*;obtain⟨p1,p2,p3,p4,p5,_⟩:=hEP.facts;obtain⟨ka,na,za,ea,kb,nb,zb,eb,hp,hEa,hEb⟩:=hEP;generalize ps[i]=P at*;have sb:=qa6 (h:=H) (ws:=ws) (ups:=[]) (z:=zq6) (sz:=6) (c:=P) p1 rfl p2 p4 ⟨_,rfl⟩ p3;have k12:=gC (l:=H) (a:=row 6 [P]);have low9:=low.push (o:=row 6 [P]) (by omega);have hw9:∀y∈wadd H.length ws,h.length≤y:=qad (by omega) hw;have hl9:(H++[row 6 [P]]).length=H.length+1:=by simp
   generalize hH9:H++[row 6 [P]]=H9 at*;generalize hk9:H.length=n12 at*;have B9:=B0.low low9;have low9h:Low h.length h H9:=low0.comp low9 (by omega);obtain⟨A,hA⟩:∃A,A=PV.agg [iv ka,iv na,.slice za ea .any]:=⟨_,rfl⟩;obtain⟨B',hB'⟩:∃B',B'=PV.agg [iv kb,iv nb,.slice zb eb .any]:=⟨_,rfl⟩;rw[←hA]at hEa;rw[←hB']at hEb;have lA:loadAt true 3 (.ptr n12 0 0 1) H9=some A:=by rw[qac k12,hp,hA];rfl
   have lB:loadAt true 3 (.ptr n12 0 3 1) H9=some B':=by rw[qac k12,hp,hB'];rfl
   have lg:loadAt true 2 (.ptr h.length 0 0 1) H9=some (qae t.sig):=by rw[qac B9.k4];rfl
   have evA:=sortV_ev hT hs E87 (mv:=mv) hzv hvars (by omega) (by omega) hEa H9;have evB:=sortV_ev hT hs E87 (mv:=mv) hzv hvars (by omega) (by omega) hEb H9;by_cases hok:qmn t.sig vs c
   · obtain⟨q1,q2,q3⟩:=hok;have hb1:((qcs t.sig vs c.1).2 !=0)=false:=by simpa using q1
     have hb2:((qcs t.sig vs c.2).2 !=0)=false:=by simpa using q2
     have hb3:((qcs t.sig vs c.1).1 !=(qcs t.sig vs c.2).1)=false:=by simpa using q3
     simp(disch:=omega) only[go_sem,qtg,e1,e2,e4,e7,e8,e9,e42,e43,e44,h1',ga,p5,hk9,sb,lA,lB,lg,cb evA,cb evB,hb1,hb2,hb3,hT.q];refine⟨g - 1,by omega,i+1,H9,_,by omega,low9,hw9,fun d hd=>?_,rfl,rfl⟩;rw[htk]at hd;rcases mA.1 hd with hd|hd
     ·exact hso d hd
     · rw[mS]at hd;rw[hd];exact⟨q1,q2,q3⟩
   · obtain⟨H4,H5,u4,s4,s5,l4,l5,td⟩:=ret2 low9h B9 4 (z:=0) (es:=[]) (m:=.nil) ⟨rfl,rfl⟩ (ups:=[]) (by simp);have t1:=td (wadd (h.length+3) (wadd (h.length+2) (wadd n12 ws))) (qad (by omega) (qad (by omega) hw9));by_cases q1:(qcs t.sig vs c.1).2=0
     · have hb1:((qcs t.sig vs c.1).2 !=0)=false:=by simpa using q1
       by_cases q2:(qcs t.sig vs c.2).2=0
       · have hb2:((qcs t.sig vs c.2).2 !=0)=false:=by simpa using q2
         have hb3:((qcs t.sig vs c.1).1 !=(qcs t.sig vs c.2).1)=true:=by have:(qcs t.sig vs c.1).1≠(qcs t.sig vs c.2).1:=fun q3=>hok ⟨q1,q2,q3⟩;simpa using this
         simp(disch:=omega) only[go_sem,qtg,e2,e4,e8,e9,e42,e43,e44,h1',ga,p5,hk9,sb,lA,lB,lg,cb evA,cb evB,hb1,hb2,hb3,s4,s5,resv,l4,l5,hT.q,t1];exact⟨⟨0,[],4⟩,rfl,fun h=>by simp at h,fun S=>absurd (S.conds c hmc) hok⟩
       · have hb2:((qcs t.sig vs c.2).2 !=0)=true:=by simpa using q2
         simp(disch:=omega) only[go_sem,qtg,e2,e4,e8,e9,e42,e43,e44,h1',ga,p5,hk9,sb,lA,lB,lg,cb evA,cb evB,hb1,hb2,s4,s5,resv,l4,l5,hT.q,t1];exact⟨⟨0,[],4⟩,rfl,fun h=>by simp at h,fun S=>absurd (S.conds c hmc) hok⟩
     · have hb1:((qcs t.sig vs c.1).2 !=0)=true:=by simpa using q1
       simp(disch:=omega) only[go_sem,qtg,e2,e4,e8,e9,e42,e43,e44,h1',ga,p5,hk9,sb,lA,lB,lg,cb evA,cb evB,hb1,s4,s5,resv,l4,l5,hT.q,t1];exact⟨⟨0,[],4⟩,rfl,fun h=>by simp at h,fun S=>absurd (S.conds c hmc) hok⟩
 have h1':¬(i:Int)< (ps.length:Int):=by omega
 rw[tL (by omega)]at hso;have SO:SolOk t nv 0 dom vs cs:=⟨rfl,hD,by omega,by omega,hvars,hso⟩;have hkd:∀k∈vs,0≤k∧k< (dom.length:Int):=fun k hk=>by rw[D1.1];exact hvars k hk
 obtain⟨⟨z,q⟩,evo,hz,hq0,hq1⟩:=overZ_ev hT (dom:=dom) (ks:=vs) (m:=mv) hzv hkd (by omega) (fun l hl=>by have:=hdl l hl;omega) H;simp only at evo hz hq0 hq1;by_cases hbig:200000<q
 · obtain⟨H4,H5,u4,s4,s5,l4,l5,td⟩:=ret2 lowh B 2 (z:=0) (es:=[]) (m:=.nil) ⟨rfl,rfl⟩ (ups:=[]) (by simp);have t1:=td (wadd (h.length+3) (wadd (h.length+2) ws)) (qad (by omega) (qad (by omega) hw));simp(disch:=omega) only[go_sem,qtg,e1,e2,e8,e9,e43,e44,h1',cb evo,hbig,s4,s5,resv,l4,l5,t1];exact⟨⟨0,[],2⟩,rfl,fun h=>by simp at h,fun _=>.inr rfl⟩
 have k19:=gC (l:=H) (a:=row 1 [.slice 0 [] .nil]);have low6:=low.push (o:=row 1 [.slice 0 [] .nil]) (by omega);have hl6:(H++[row 1 [.slice 0 [] .nil]]).length=H.length+1:=by simp
 generalize hH6:H++[row 1 [.slice 0 [] .nil]]=H6 at*;generalize hk19:H.length=n19 at*;have eva:=assign_ev hT (z:=z) (m:=.any) (qoo qoz (vs.map (atL dom))) H6
 have hls:∀l∈vs.map (atL dom),l.length≤64∧∀x∈l,qa0 x=true:=fun l hl=>by
  obtain⟨k,hk,rfl⟩:=mM.1 hl;have hka:=hkd k hk;obtain⟨K,rfl⟩:=iZ hka.1;have hKd:K<dom.length:=by omega
  exact⟨hdl _ (mG (qo8 hKd)),(D1.sorted (qo8 hKd)).2⟩
 have hit:=iter_dom (z:=z) (ls:=vs.map (atL dom)) (hz.imp (fun h=>by simp[h]) id) (by simp;omega) (fun l hl=>by have:=(hls l hl).1;omega);have hll:(vs.map (atL dom)).length≤64:=by simp;omega
 unfold solL;generalize vs.map (atL dom)=ls at*;simp(disch:=omega) only[go_sem,qtg,e1,e2,e43,e44,h1',cb evo,hbig,hk19,hH6,cb eva,hT.q];refine rangeI (gf:=182) (captured:=[.iptr (.slice z (ls.map encL) .any) 0]) (it:=itG) (by simp only[go_sem]) hI hit (fun j st=> ∃(H:Hp)(ws:List Nat)(ups:List (Nat×Nat))(v:PV)(rs:List PV),st=⟨H,ws,ups⟩∧Low n19 H6 H∧H[n19]?=some (.row 1 [v])∧AppS H v rs n19∧qjo (((qda ls).take j).filter fun l=>qdq nt l cs) rs∧rs.length≤4000∧(∀x∈ws,h.length≤x)∧∀x∈ups,h.length≤x.1) ⟨H6,_,_,_,[],rfl,Low.refl _ _,k19,.inl ⟨rfl,rfl⟩,⟨rfl,fun i us v h=>by simp at h⟩,by simp,hw,by simp⟩ ?_ ?_;rotate_left
 · rintro st ⟨H',ws',ups',v,rs,rfl,low',hv,hA,hR,hrl,hw',hu'⟩;rw[tL (by simp)]at hR;have low06:=low6.comp low' (by omega);have B':=B0.low low06;have lowh':Low h.length h H':=low0.comp low06 (by omega);obtain⟨z',m',rfl,hz'⟩:=hA.form;have l19:loadAt false 1 (.ptr n19 0 0 1) H'=some (.slice z' rs m'):=by rw[qac hv];rfl
   obtain⟨H4,H5,u4,s4,s5,l4,l5,td⟩:=ret2 lowh' B' 0 (z:=z') (es:=rs) (m:=m') (rowsV_pw hR) hu';have t1:=td (wadd (h.length+3) (wadd (h.length+2) ws')) (qad (by omega) (qad (by omega) hw'));simp(disch:=omega) only[go_sem,e8,e9,l19,s4,s5,resv,l4,l5,t1];exact⟨⟨z',rs,0⟩,rfl,fun _=>⟨SO,hz',hR,hrl⟩,fun _=>.inl rfl⟩
 · rintro j ys st K hys ⟨H',ws',ups',v,rs,rfl,low',hv,hA,hR,hrl,hw',hu'⟩ hK
   have hus:∃us,(qda ls)[j]?=some us∧ys=[outT ls.length us]:=by
    rw[gM]at hys;cases hp:(qda ls)[j]? with
    |none=>rw[hp]at hys;cases hys
    |some us=>rw[hp]at hys;cases hys;exact⟨us,rfl,rfl⟩
   obtain⟨us,hpu,rfl⟩:=hus;have hmu:us∈qda ls:=mG hpu;obtain⟨hul,hum⟩:=qi5 hmu;refine⟨rfl,?_⟩;have hpt:∀(e:List PV)(v:PV),puts e [88] [v]=eput e 88 v:=fun e v=>rfl;have low06:=low6.comp low' (by omega);have B':=B0.low low06;have hHl':=low'.len;have lowh':Low h.length h H':=low0.comp low06 (by omega)
   have hz0:us.map encT=[]∨(if ls.length=0 then 0 else 3)=3:=by
    by_cases hn:ls.length=0
    · left;have:us=[]:=lZ.1 (by omega);rw[this];rfl
    ·right;rw[if_neg hn]
   have htu:∀u∈us,qa0 u=true:=fun u hu=>by
    obtain⟨q,hq,rfl⟩:=List.getElem_of_mem hu;have hql:q<ls.length:=by omega
    have hlq:ls[q]?=some ls[q]:=Ab hql;exact(hls _ (Af hql)).2 _ (hum q _ _ (Ab hq) hlq)
   obtain⟨⟨b,d⟩,evh,hbh,hdh⟩:=holds_ev hT N (ml:=.any) hz0 (encL_map' us) (by omega) (mc:=mc) hzc hC (by omega) H';simp only at evh hbh hdh;have evh:Ev T 118 [qan t,.slice zc ps mc,outT ls.length us] H' (.val (.tuple [.bool b,iv d]),⟨H',[],[]⟩):=evh;have lt:loadAt true 3 (.ptr h.length 0 0 1) H'=some (qan t):=by rw[qac B'.k4];rfl
   have lc:loadAt false 1 (.ptr (h.length+1) 0 0 1) H'=some (.slice zc ps mc):=by rw[qac B'.k7];rfl
   by_cases hd0:d=0;rotate_left
   · have hd2:d=2:=hdh.resolve_left hd0;subst hd2;have hb2:((2:Int) !=0)=true:=rfl;obtain⟨H4,H5,u4,s4,s5,l4,l5,td⟩:=ret2 lowh' B' 2 (z:=0) (es:=[]) (m:=.nil) ⟨rfl,rfl⟩ hu';have t1:=td (wadd (h.length+3) (wadd (h.length+2) ws')) (qad (by omega) (qad (by omega) hw'));simp(disch:=omega) only[hpt,go_sem,e4,e7,e8,e9,lt,lc,cb evh,hb2,s4,s5,resv,l4,l5,hT.prim,qab,t1];exact⟨⟨0,[],2⟩,rfl,fun h=>by simp at h,fun _=>.inr rfl⟩
   subst hd0;have hbh:=hbh rfl;have htf:=qr2 (F:=fun l=>qdq nt l cs) hpu;cases b
   · rw[if_neg (by rw[←hbh];simp),List.append_nil]at htf;obtain⟨z',m',rfl,_⟩:=hA.form;have l19:loadAt false 1 (.ptr n19 0 0 1) H'=some (.slice z' rs m'):=by rw[qac hv];rfl
     have hsm:¬(4000:Int)< (rs.length:Int):=by omega
     simp(disch:=omega) only[hpt,go_sem,e4,e7,lt,lc,cb evh,hb0,l19,hsm,hT.q];exact hK _ ⟨H',_,_,_,rs,rfl,low',hv,hA,by rw[htf];exact hR,hrl,hw',hu'⟩
   · rw[if_pos hbh.symm]at htf;obtain⟨⟨zf,qs⟩,evf,hqz,hqs⟩:=freshL_ev hT (m:=.any) hz0 (encL_map' us) htu (by omega) H';simp only at evf hqz hqs;have evf:Ev T 119 [outT ls.length us] H' (.val (.slice zf qs .any),⟨H',[],[]⟩):=evf;have l19:loadAt false 1 (.ptr n19 0 0 1) H'=some v:=by rw[qac hv];obtain⟨z',m',rfl,_⟩:=hA.form;rfl
     have fe:qcw 1 (List.replicate 1 (.slice 0 [] .nil)) [(0,PV.slice zf qs .any)]=some [.slice zf qs .any]:=rfl;obtain⟨H7,fw,kt,ap,A7,keep7,low7,hfw⟩:=append_S (p:=.slice zf qs .any) hA rfl (by omega) (show n19≤H'.length by omega);have k7:=keep7 _ _ rfl hv;obtain⟨u8,s8,hu8⟩:=st_row1W (v:=.slice 1 (rs++[.slice zf qs .any]) (.tok kt)) (ups:=ups') (n:=1) (A:=0) k7 rfl rfl (fun cs h=>by obtain⟨z',m',rfl,_⟩:=hA.form;cases h) ⟨rfl,rfl⟩;simp only[sC]at s8;have k8:=qai (o':=row 1 [.slice 1 (rs++[.slice zf qs .any]) (.tok kt)]) k7;have A8:=A7.set (r':=[.slice 1 (rs++[.slice zf qs .any]) (.tok kt)]) k7;have low8:Low n19 H6 (H7.set n19 (.row 1 [.slice 1 (rs++[.slice zf qs .any]) (.tok kt)])):=(low'.trans low7).trans (.set (nR _));generalize hH8:H7.set n19 (.row 1 [.slice 1 (rs++[.slice zf qs .any]) (.tok kt)])=H8 at*;have l198:loadAt false 1 (.ptr n19 0 0 1) H8=some (.slice 1 (rs++[.slice zf qs .any]) (.tok kt)):=by rw[qac k8];rfl
     have hu8':∀x∈u8,h.length≤x.1:=fun x hx=>by
      rcases hu8 x hx with h|h
      ·exact hu' x h
      ·omega
     have hfw0:∀x∈fw [],h.length≤x:=fun x hx=>by have:=hfw [] (by simp) x hx;omega
     have hR8:qjo (((qda ls).take (j+1)).filter fun l=>qdq nt l cs) (rs++[.slice zf qs .any]):=by rw[htf];exact hR.snoc ⟨zf,qs,rfl,hqz,hqs⟩
     have low08:=low6.comp low8 (by omega);have B8:=B0.low low08;have lowh8:Low h.length h H8:=low0.comp low08 (by omega);have hlen:(rs++[PV.slice zf qs .any]).length=rs.length+1:=by simp
     by_cases hbg:4000< (rs++[PV.slice zf qs .any]).length
     · have hbg':(4000:Int)< ((rs++[PV.slice zf qs .any]).length:Int):=by omega
       obtain⟨H4,H5,u4,s4,s5,l4,l5,td⟩:=ret2 lowh8 B8 2 (z:=0) (es:=[]) (m:=.nil) ⟨rfl,rfl⟩ hu8';simp(disch:=first|omega|decide|simp only[go_sem]) only[hpt,go_sem,e4,e7,e8,e9,lt,lc,cb evh,hb0,l19,cb evf,fe,ap,s8,l198,hbg',s4,s5,resv,l4,l5,hT.q];refine⟨⟨0,[],2⟩,td _ (fun x hx=>?_),fun h=>by simp at h,fun _=>.inr rfl⟩
       repeat' first|exact hw' x hx|exact hfw0 x hx|(cases hx;done)|(rcases qaz hx with hx|hx)|(rcases qbe hx with hx|hx)|omega
     · have hbg':¬(4000:Int)< ((rs++[PV.slice zf qs .any]).length:Int):=by omega
       simp(disch:=first|omega|decide|simp only[go_sem]) only[hpt,go_sem,e4,e7,lt,lc,cb evh,hb0,l19,cb evf,fe,ap,s8,l198,hbg',hT.q];refine hK _ ⟨H8,_,u8,_,_,rfl,low8,k8,A8,hR8,by omega,fun x hx=>?_,hu8'⟩
       repeat' first|exact hw' x hx|exact hfw0 x hx|(cases hx;done)|(rcases qaz hx with hx|hx)|(rcases qbe hx with hx|hx)|omega
end Go.Proofs.Tryz
namespace Go.Proofs.Tryz
open Go Go.AE
open Go.AE.Obj (row)
variable {s:GSig}{vs ws:List Int}
theorem qcl{k n:Int}{l:List Tm}(h:qal (.mk k n l)=true):0≤n∧(k=1->l=[])∧qb3 l=true∧(k=1∨k=2)∧l.length≤8:=by simp only[qal,bA,dE]at h;obtain⟨⟨⟨⟨hn,hk1⟩,hk12⟩,hl8⟩,hl⟩:=h;refine⟨hn,fun hk=>?_,hl,by simpa using hk12,hl8⟩;simpa[hk]using hk1
theorem qfa(d:Nat):∀l:List Tm,(shL d l).length=l.length
 |[]=>rfl
 |t::l=>by simp only[shL,List.length_cons,qfa d l]
mutual
theorem qgt:∀(t:Tm)(a:Int),qal t=true->qci s vs t a=true->qfd vs.length t
 |.mk k n l,a,hs,h=>by
   obtain⟨hn,_,hl,_⟩:=qcl hs;unfold qfd;unfold qci at h;by_cases hk:k=1
   · rw[if_pos hk]at h⊢;simp only[bA,dE]at h;exact⟨hn,h.1⟩
   · rw[if_neg hk]at h⊢;cases ho:s.ops[n.toNat]? with
     |none=>rw[ho]at h;cases h
     |some o=>
       rw[ho]at h;simp only[bA]at h;exact qir l _ hl h.2
theorem qir:∀(l:List Tm)(bs:List Int),qb3 l=true->qcr s vs l bs=true->qgs vs.length l
 |[],_,_,_=>by unfold qgs;trivial
 |t::l,bs,hs,h=>by simp only[qb3,bA]at hs;simp only[qcr,bA]at h;unfold qgs;exact⟨qgt t _ hs.1 h.1,qir l _ hs.2 h.2⟩
end
mutual
theorem qkj:∀(t:Tm)(a:Int),qal t=true->qci s vs t a=true->qci s (vs++ws) t a=true
 |.mk k n l,a,hs,h=>by
   obtain⟨hn,_,hl,_⟩:=qcl hs;unfold qci at h⊢;by_cases hk:k=1
   · rw[if_pos hk]at h⊢;simp only[bA,dE]at h⊢;obtain⟨h1,h2⟩:=h;refine⟨by simp;omega,?_⟩;rw[Ac]at h2⊢;rw[gL (by omega)];exact h2
   · rw[if_neg hk]at h⊢;cases ho:s.ops[n.toNat]? with
     |none=>rw[ho]at h;cases h
     |some o=>
       rw[ho]at h;simp only[bA]at h⊢;exact⟨h.1,qit l _ hl h.2⟩
theorem qit:∀(l:List Tm)(bs:List Int),qb3 l=true->qcr s vs l bs=true->qcr s (vs++ws) l bs=true
 |[],_,_,_=>rfl
 |t::l,bs,hs,h=>by simp only[qb3,bA]at hs;simp only[qcr,bA]at h⊢;exact⟨qkj t _ hs.1 h.1,qit l _ hs.2 h.2⟩
end
mutual
theorem qki:∀(t:Tm)(a:Int),qal t=true->qci s ws t a=true->qci s (vs++ws) (shT vs.length t) a=true
 |.mk k n l,a,hs,h=>by
   obtain⟨hn,_,hl,_⟩:=qcl hs;unfold qci at h;unfold shT;by_cases hk:k=1
   · rw[if_pos hk]at h⊢;simp only[bA,dE]at h;obtain⟨h1,h2⟩:=h;unfold qci;rw[if_pos hk];simp only[bA,dE];refine⟨by simp;omega,?_⟩;have hn':(n+(vs.length:Int)).toNat=vs.length+n.toNat:=by omega
     rw[Ac]at h2⊢;rw[hn',gR (by omega),Nat.add_sub_cancel_left];exact h2
   · rw[if_neg hk]at h⊢;unfold qci;rw[if_neg hk];cases ho:s.ops[n.toNat]? with
     |none=>rw[ho]at h;cases h
     |some o=>
       rw[ho]at h;simp only[bA,qfa]at h⊢;exact⟨h.1,qis l _ hl h.2⟩
theorem qis:∀(l:List Tm)(bs:List Int),qb3 l=true->qcr s ws l bs=true->qcr s (vs++ws) (shL vs.length l) bs=true
 |[],_,_,_=>by unfold shL;rfl
 |t::l,bs,hs,h=>by simp only[qb3,bA]at hs;simp only[qcr,bA]at h;unfold shL;simp only[qcr,bA];exact⟨qki t _ hs.1 h.1,qis l _ hs.2 h.2⟩
end
mutual
theorem shT_like(d:Nat):∀t:Tm,qal t=true->(shT d t).nodes=t.nodes∧(shT d t).deep=t.deep∧qal (shT d t)=true
 |.mk k n l,hs=>by
   obtain⟨hn,hk1,hl,hk12,hl8⟩:=qcl hs;by_cases hk:k=1
   · have hl0:=hk1 hk;subst hl0;subst hk;have:shT d (.mk 1 n [])=.mk 1 (n+d) []:=by unfold shT;rw[if_pos rfl]
     rw[this];refine⟨rfl,rfl,?_⟩;have:0≤n+(d:Int):=by omega
     simp[qal,qb3,this]
   · have:shT d (.mk k n l)=.mk k n (shL d l):=by unfold shT;rw[if_neg hk]
     rw[this];obtain⟨h1,h2,h3⟩:=shL_like d l hl;refine⟨by simp only[Tm.nodes,h1],by simp only[Tm.deep,h2],?_⟩;simp only[qal,qfa,h3,Bool.and_true];simp only[qal,hl,Bool.and_true]at hs;exact hs
theorem shL_like(d:Nat):∀l:List Tm,qb3 l=true->qa3 (shL d l)=qa3 l∧qew (shL d l)=qew l∧qb3 (shL d l)=true
 |[],_=>⟨rfl,rfl,rfl⟩
 |t::l,hs=>by simp only[qb3,bA]at hs;obtain⟨a1,a2,a3⟩:=shT_like d t hs.1;obtain⟨b1,b2,b3⟩:=shL_like d l hs.2;refine⟨by simp only[shL,qa3,a1,b1],by simp only[shL,qew,a2,b2],by simp only[shL,qb3,a3,b3,Bool.and_self]⟩
end
theorem shT_tree{d:Nat}{t:Tm}(h:qa0 t=true):qa0 (shT d t)=true:=by have hs:=qav h;obtain⟨h1,h2,h3⟩:=shT_like d t hs;simp only[qa0,h1,h2,h3,Bool.and_true];simp only[qa0,hs,Bool.and_true]at h;exact h
theorem topV_front{t:Tm}(hs:qal t=true)(h:0≤topV s vs t):topV s (vs++ws) t=topV s vs t:=by
 obtain⟨k,n,l⟩:=t;obtain⟨hn,_⟩:=qcl hs;simp only[topV]at h⊢;by_cases hk:k=1
 · simp only[if_pos hk]at h⊢;by_cases hv:n< (vs.length:Int)
   ·rw[if_pos hv,if_pos (by simp;omega),Ac,Ac,gL (by omega)]
   · rw[if_neg hv]at h;omega
 ·simp only[if_neg hk]
theorem topV_shift{t:Tm}(hs:qal t=true):topV s (vs++ws) (shT vs.length t)=topV s ws t:=by
 obtain⟨k,n,l⟩:=t;obtain⟨hn,_⟩:=qcl hs;unfold shT;by_cases hk:k=1
 · rw[if_pos hk];simp only[topV,if_pos hk];by_cases hv:n< (ws.length:Int)
   · have hn':(n+(vs.length:Int)).toNat=vs.length+n.toNat:=by omega
     rw[if_pos hv,if_pos (by simp;omega),Ac,Ac,hn',gR (by omega),Nat.add_sub_cancel_left]
   ·rw[if_neg hv,if_neg (by simp;omega)]
 · rw[if_neg hk];simp only[topV,if_neg hk]
theorem qk8{t:Tm}(h:(qcs s vs t).2=0):qa0 t=true∧0≤topV s vs t∧qci s vs t (topV s vs t)=true∧(qcs s vs t).1=topV s vs t:=by
 unfold qcs at h⊢;split at h
 · rename_i h1;exact⟨h1.1,h1.2.1,h1.2.2,by rw[if_pos h1]⟩
 ·cases h
theorem qlt{t:Tm}(h:(qcs s vs t).2=0):qcs s (vs++ws) t=qcs s vs t:=by obtain⟨h1,h2,h3,_⟩:=qk8 h;have ht:=topV_front (ws:=ws) (qav h1) h2;have a:qcs s vs t=(topV s vs t,0):=if_pos ⟨h1,h2,h3⟩;have b:qcs s (vs++ws) t=(topV s (vs++ws) t,0):=if_pos ⟨h1,by rw[ht];exact h2,by rw[ht];exact qkj t _ (qav h1) h3⟩;rw[a,b,ht]
theorem qls{t:Tm}(h:(qcs s ws t).2=0):qcs s (vs++ws) (shT vs.length t)=qcs s ws t:=by obtain⟨h1,h2,h3,_⟩:=qk8 h;have ht:=topV_shift (s:=s) (vs:=vs) (ws:=ws) (qav h1);have a:qcs s ws t=(topV s ws t,0):=if_pos ⟨h1,h2,h3⟩;have b:qcs s (vs++ws) (shT vs.length t)=(topV s (vs++ws) (shT vs.length t),0):=if_pos ⟨shT_tree h1,by rw[ht];exact h2,by rw[ht];exact qki t _ (qav h1) h3⟩;rw[a,b,ht]
mutual
theorem qsa:∀t:Tm,qal t=true->posV t
 |.mk k n l,hs=>by
   obtain⟨hn,_,hl,_⟩:=qcl hs;unfold posV;by_cases hk:k=1
   ·rw[if_pos hk];exact hn
   ·rw[if_neg hk];exact posL_of l hl
theorem posL_of:∀l:List Tm,qb3 l=true->posL l
 |[],_=>by unfold posL;trivial
 |t::l,hs=>by simp only[qb3,bA]at hs;unfold posL;exact⟨qsa t hs.1,posL_of l hs.2⟩
end
theorem qmn.facts{c:Tm×Tm}(h:qmn s vs c):(qa0 c.1=true∧qa0 c.2=true)∧(qfd vs.length c.1∧qfd vs.length c.2)∧(posV c.1∧posV c.2):=by obtain⟨h1,h2,_⟩:=h;obtain⟨a1,_,a3,_⟩:=qk8 h1;obtain⟨b1,_,b3,_⟩:=qk8 h2;exact⟨⟨a1,b1⟩,⟨qgt _ _ (qav a1) a3,qgt _ _ (qav b1) b3⟩,qsa _ (qav a1),qsa _ (qav b1)⟩
theorem SolOk.both{t:GTy}{nv:PV->PV×Int}{r:Int}{dom:List (List Tm)}{cs ds:List (Tm×Tm)}(A:SolOk t nv r dom vs cs)(B:SolOk t nv r dom ws ds)(h1:vs.length+ws.length≤64)(h2:cs.length+ds.length≤8):SolOk t nv r dom (vs++ws) (cs++ds.map (shP vs.length)):=by
 refine⟨A.r0,A.dom,by simp;omega,by simp;omega,fun v hv=>?_,fun c hc=>?_⟩
 · rcases mA.1 hv with h|h
   ·exact A.vars v h
   ·exact B.vars v h
 · rcases mA.1 hc with h|h
   · obtain⟨q1,q2,q3⟩:=A.conds c h;unfold qmn;rw[qlt q1,qlt q2];exact⟨q1,q2,q3⟩
   · obtain⟨d,hd,rfl⟩:=mM.1 h;obtain⟨q1,q2,q3⟩:=B.conds d hd;unfold qmn shP;simp only;rw[qls q1,qls q2];exact⟨q1,q2,q3⟩
theorem solL_both{t:GTy}{nv:PV->PV×Int}{nt:Tm->PV×Int}{r:Int}{dom:List (List Tm)}{cs ds:List (Tm×Tm)}(A:SolOk t nv r dom vs cs)(B:SolOk t nv r dom ws ds):solL nt dom (vs++ws) (cs++ds.map (shP vs.length))=(solL nt dom vs cs).flatMap fun x=>(solL nt dom ws ds).map fun y=>x++y:=by
 unfold solL;rw[List.map_append];refine qq0 fun x hx y hy=>?_;have hl:x.length=vs.length:=by have:=(qi5 hx).1;simpa using this
 rw[qe6,qkq cs (fun c hc=>by rw[hl];exact(A.conds c hc).facts.2.1),←hl,qkp ds (fun c hc=>(B.conds c hc).facts.2.2)]
end Go.Proofs.Tryz
namespace Go.Proofs.Tryz
open Go Go.AE
open Go.AE.Obj (row)
variable {T:Tbl}(hT:Std T){s:GSig}
theorem shL_map(d:Nat):∀l:List Tm,shL d l=l.map (shT d)
 |[]=>rfl
 |t::l=>by simp only[shL,List.map_cons,shL_map d l]
mutual
theorem varsF_B{m:Nat}:∀t:Tm,qfd m t->qal t=true->∀v∈qb9 t,0≤v∧v< (m:Int)
 |.mk k n l,hb,hs,v,hv=>by
   obtain⟨_,hk1,hl,_⟩:=qcl hs;by_cases hk:k=1
   · rw[hk1 hk]at hv;simp only[qfd,if_pos hk]at hb;simp only[qb9,if_pos hk,qbp,List.append_nil,mS]at hv;rw[hv];exact hb
   · simp only[qfd,if_neg hk]at hb;simp only[qb9,if_neg hk,List.nil_append]at hv;exact qn8 l hb hl v hv
theorem qn8{m:Nat}:∀l:List Tm,qgs m l->qb3 l=true->∀v∈qbp l,0≤v∧v< (m:Int)
 |[],_,_,v,hv=>by simp[qbp]at hv
 |t::l,hb,hs,v,hv=>by
   simp only[qb3,bA]at hs;simp only[qbp,mA]at hv;rcases hv with h|h
   ·exact varsF_B t hb.1 hs.1 v h
   ·exact qn8 l hb.2 hs.2 v h
end
include hT in
theorem qr6{n d:Int}{h:Hp}{k4 k5:Nat}(h4:h[k4]?=some (.row 1 [iv 0]))(h5:h[k5]?=some (.row 1 [iv d]))(hn:0≤n∧n≤1000)(hd:0≤d∧d≤1000):
 Ev T 158 [iv n,.ptr k4 0 0 1,.ptr k5 0 0 1] h (.val (.agg [iv 1,iv (n+d),.slice 0 [] .any]),⟨h,[],[]⟩):=by
 refine Ev.walk (hT.sp _ (by decide)) ((hT.fn _).trans fn158) (hT.mode _) rfl ?_;have hn0:=hn.1;have fb:qdc [PV.int .i64 0,iv 0,.slice 0 [] .nil] [(0,1,iv 1),(1,1,iv (n+d))]=some [iv 1,iv (n+d),.slice 0 [] .nil]:=rfl;have e2:h++[row 3 [zq3]]=h++[row 3 [zN]]:=rfl;have k1:=gC (l:=h) (a:=row 3 [zN]);have k41:=qag (o2:=row 3 [zN]) h4;have k51:=qag (o2:=row 3 [zN]) h5;have low:Low h.length h (h++[row 3 [zN]]):=(Low.refl _ _).push (nR _);generalize h++[row 3 [zN]]=H at*;have l4:loadAt false 1 (.ptr k4 0 0 1) H=some (iv 0):=by rw[qac k41];rfl
 have l5:loadAt false 1 (.ptr k5 0 0 1) H=some (iv d):=by rw[qac k51];rfl
 obtain⟨u4,sv,hu4⟩:=qex (ups:=[]) (x:=1) (y:=n+d) (sz:=0) (es:=[]) (m:=.nil) k1;have l8:loadAt true 3 (.ptr h.length 0 0 1) (H.set h.length (.row 3 [.agg [iv 1,iv (n+d),.slice 0 [] .nil]]))=some (.agg [iv 1,iv (n+d),.slice 0 [] .nil]):=by rw[qac (qai k1)];rfl
 simp(disch:=omega) only[go_sem,e2,l4,l5,hn0,fb,sv,resv,l8,Ae]
 exact qa4 rfl (low.trans (.set (nR _))) (qad (nR _) (by simp)) (fun x hx=>by
  rcases hu4 x hx with h|h
  ·cases h
  ·omega)
include hT in
theorem mapS_ev{m d:Nat}(hm:m≤64)(hd:d≤64){k4 k5:Nat}{t:Tm}{p:PV}(ht:Enc t p):t.nodes≤2000->qal t=true->qfd m t->∀h:Hp,h[k4]?=some (.row 1 [iv 0])->h[k5]?=some (.row 1 [iv (d:Int)])->∃q:PV,Ev T 157 [p,.func (.func 158) [] [.ptr k4 0 0 1,.ptr k5 0 0 1]] h (.val q,⟨h,[],[]⟩)∧Enc (shT d t) q:=by
 have hc:=ht.cells;have hsb:=ht.sub;induction ht with
 |mk k n l sz es hz hl he ih=>
   intro hnd hsh hvb h h4 h5;have hk4:=(gI.1 h4).1;have hk5:=(gI.1 h5).1;simp only[qal,bA,dE,qbm]at hsh;obtain⟨⟨⟨⟨hn,hk1⟩,_⟩,hl8⟩,hall⟩:=hsh;refine Ev.walkP (r:=fun q:PV=>(.val q,⟨h,[],[]⟩)) (hT.sp _ (by decide)) ((hT.fn _).trans fn157) (hT.mode _) rfl ?_;obtain⟨c1,c2,c3,c4⟩:=hc;simp only[Tm.nodes]at hnd;have hP0:∃P,P=PV.agg [iv k,iv n,.slice sz es .any]:=⟨_,rfl⟩;obtain⟨P,hP⟩:=hP0;rw[←hP]at hsb c1 c2 c3 c4⊢;have k1:=gC (l:=h) (a:=row 3 [P]);have low1:Low h.length h (h++[row 3 [P]]):=(Low.refl _ _).push (nR _);have hl1:(h++[row 3 [P]]).length=h.length+1:=by simp
   generalize hH1:h++[row 3 [P]]=H1 at*;have k2:=gC (l:=H1) (a:=row 3 [zN]);have k12:=qag (o2:=row 3 [zN]) k1;have low2:=low1.push (o:=row 3 [zN]) (by omega);have hl2:(H1++[row 3 [zN]]).length=h.length+2:=by simp;omega
   have e2:H1++[row 3 [zq3]]=H1++[row 3 [zN]]:=rfl;generalize H1++[row 3 [zN]]=H2 at*;generalize hkr:H1.length=kr at*;have l0:loadAt false 1 (.ptr h.length 0 0 1) H2=some (iv k):=by rw[qac k12,hP];rfl
   have l1:loadAt false 1 (.ptr h.length 0 1 1) H2=some (iv n):=by rw[qac k12,hP];rfl
   by_cases hk:k=1
   · have hkb:(k==1)=true:=by simpa using hk
     have hv:0≤n∧n< (m:Int):=by simpa only[qfd,if_pos hk]using hvb
     have hsh1:shT d (.mk k n l)=.mk 1 (n+(d:Int)) []:=by unfold shT;rw[if_pos hk,hk]
     have ev:=qr6 hT (n:=n) (d:=(d:Int)) (low2.get hk4 h4) (low2.get hk5 h5) ⟨by omega,by omega⟩ ⟨by omega,by omega⟩;obtain⟨u4,sv,hu4⟩:=qex (ups:=[]) (x:=1) (y:=n+(d:Int)) (sz:=0) (es:=[]) (m:=.any) k2;have l8:loadAt true 3 (.ptr kr 0 0 1) (H2.set kr (.row 3 [.agg [iv 1,iv (n+(d:Int)),.slice 0 [] .any]]))=some (.agg [iv 1,iv (n+(d:Int)),.slice 0 [] .any]):=by rw[qac (qai k2)];rfl
     simp(disch:=omega) only[go_sem,hH1,e2,hkr,c1,c3,l0,l1,hkb,cb ev,hT.q,sv,resv,l8];refine⟨.agg [iv 1,iv (n+(d:Int)),.slice 0 [] .any],qa4 rfl (low2.trans (.set (by omega))) (qad (by omega) (fun x hx=>?_)) (fun x hx=>?_),?_⟩
     ·cases hx
     · rcases hu4 x hx with h|h
       ·cases h
       ·omega
     · rw[hsh1];exact .mk 1 (n+(d:Int)) [] 0 [] (.inl rfl) rfl fun i x p h=>by simp at h
   have hkb:(k==1)=false:=by simpa using hk
   have hsh1:shT d (.mk k n l)=.mk k n (shL d l):=by unfold shT;rw[if_neg hk]
   have hvs:qgs m l:=by simpa only[qfd,if_neg hk]using hvb
   have fb:qdc [PV.int .i64 0,iv 0,.slice 0 [] .nil] [(0,1,iv k),(1,1,iv n)]=some [iv k,iv n,.slice 0 [] .nil]:=rfl;have sb:=fun ws=>qa6 (h:=H2) (ws:=ws) (ups:=[]) (z:=zq3) (sz:=3) (c:=.agg [iv k,iv n,.slice 0 [] .nil]) rfl rfl rfl rfl ⟨_,rfl⟩ ⟨_,rfl⟩;have k3:=gC (l:=H2) (a:=row 3 [.agg [iv k,iv n,.slice 0 [] .nil]]);have k23:=qag (o2:=row 3 [.agg [iv k,iv n,.slice 0 [] .nil]]) k2;have k13:=qag (o2:=row 3 [.agg [iv k,iv n,.slice 0 [] .nil]]) k12;have low3:=low2.push (o:=row 3 [.agg [iv k,iv n,.slice 0 [] .nil]]) (by omega);have hl3:(H2++[row 3 [.agg [iv k,iv n,.slice 0 [] .nil]]]).length=h.length+3:=by simp;omega
   generalize hH3:H2++[row 3 [.agg [iv k,iv n,.slice 0 [] .nil]]]=H3 at*;generalize hkx:H2.length=kx at*;have l2:loadAt false 1 (.ptr h.length 0 2 1) H3=some (.slice sz es .any):=by rw[qac k13,hP];rfl
   simp(disch:=omega) only[go_sem,hH1,e2,hkr,hkx,c1,c3,Ae,l0,l1,hkb,fb,sb,l2]
   refine wpC.loopM (fun g e st=> ∃(i:Nat)(v:PV)(qs:List PV)(H:Hp)(ws:List Nat)(ups:List (Nat×Nat)),i+g=es.length∧EncL ((shL d l).take i) qs∧AppL H v qs h.length∧H[kx]?=some (.row 3 [.agg [iv k,iv n,v]])∧H[kr]?=some (.row 3 [zN])∧Low h.length h H∧(∀x∈ws,h.length≤x)∧(∀x∈ups,h.length≤x.1)∧eget e 1=.func (.func 158) [] [.ptr k4 0 0 1,.ptr k5 0 0 1]∧eget e 4=.ptr kr 0 0 1∧eget e 5=.ptr kx 0 0 1∧eget e 21=.slice sz es .any∧eget e 22=iv (es.length:Int)∧eget e 23=iv (i:Int)∧st=⟨H,ws,ups⟩) ?_ es.length _ _
    ⟨0,_,[],H3,_,[],by omega,⟨by simp,by simp⟩,.inl ⟨rfl,rfl⟩,k3,k23,low3,qad (by omega) (by simp),by simp,by simp only[go_sem],by simp only[go_sem],by simp only[go_sem],by simp only[go_sem],by simp only[go_sem],by simp only[go_sem];rfl,rfl⟩
   rintro g e st ⟨i,v,qs,H,ws,ups,hi,hEq,hA,kx',kr',low,hw,hu,e1,e4,e5,e21,e22,e23,rfl⟩;have hHl:=low.len;by_cases h1:i<es.length
   · have ga:=qb1 h1;have hx:l[i]?=some l[i]:=Ab (by omega);have hE:=he i l[i] es[i] hx ga;have hndx:=qcp (mG hx);have hqs:=hEq.1;rw[lT,qfa]at hqs
     have hsz:sz=3:=by
      rcases hz with rfl|h
      ·simp at h1
      ·exact h
     subst hsz;have ihx:=ih i l[i] es[i] hx ga hE.cells hE.sub (by omega) (List.all_eq_true.1 hall _ (mG hx)) (qjt hvs (mG hx));have hsx:(shL d l)[i]?=some (shT d l[i]):=by rw[shL_map,gM,hx];rfl
     have hsl:=qfa d l;obtain⟨b1,b2,b3,b4⟩:=hE.cells;have bt:=hE.facts.1;have bs:=hE.sub;generalize es[i]=y at*;have sb:=qa6 (h:=H) (ws:=ws) (ups:=ups) (z:=zq3) (sz:=3) (c:=y) b1 rfl b2 bt ⟨_,rfl⟩ b4;have kq:=gC (l:=H) (a:=row 3 [y]);have kx5:=qag (o2:=row 3 [y]) kx';have kr5:=qag (o2:=row 3 [y]) kr';have low5:=low.push (o:=row 3 [y]) hHl;have A5:=hA.push (o:=.row 3 [y]);have hw5:∀x∈wadd H.length ws,h.length≤x:=qad hHl hw;generalize hH5:H++[row 3 [y]]=H5 at*;have hHl5:=low5.len;generalize hkk:H.length=kk at*;have lq:loadAt true 3 (.ptr kk 0 0 1) H5=some y:=by rw[qac kq];exact bs
     have lv:loadAt false 1 (.ptr kx 0 2 1) H5=some v:=by rw[qac kx5];rfl
     obtain⟨q,ev,hq⟩:=ihx H5 (low5.get hk4 h4) (low5.get hk5 h5);obtain⟨d1,d2,d3,_⟩:=hq.cells;have fe:=fe_1 (p:=q) ⟨d1,d3⟩;obtain⟨H',fw,kt,ap,A',keep',low',hfw⟩:=qjj A5 d2 (by omega) hHl5;have kx6:=keep' _ _ _ kx5;have kr6:=keep' _ _ _ kr5;obtain⟨u3,sv,hu3⟩:=st_f2W (ups:=ups) (kt:=kt) (es:=qs++[q]) kx6;have h1':(i:Int)< (es.length:Int):=by omega
     simp(disch:=first|omega|decide|simp only[go_sem]) only[go_sem,qrp,e1,e4,e5,e21,e22,e23,h1',ga,bs,hkk,sb,lq,lv,cb ev,fe,ap,sv,hT.q];refine⟨g - 1,by omega,i+1,_,qs++[q],_,_,_,by omega,hEq.snocT hsx hq,A'.set kx6,qai kx6,qaa kr6 (by omega),(low5.trans low').trans (.set (by omega)),?_,fun x hx=>?_,rfl,rfl⟩
     · refine qad (by omega) fun x hx=>?_;rcases qaz hx with h|h
       ·cases h
       · rcases qaz h with h|h
         ·exact hfw [] (by simp) x h
         ·exact hw5 x h
     · rcases hu3 x hx with h|h
       ·exact hu x h
       ·omega
   · have h1':¬(i:Int)< (es.length:Int):=by omega
     have hsl:=qfa d l;rw[tL (by omega)]at hEq;obtain⟨sz',m',rfl,hsz'⟩:=hA.slice;have lx:loadAt true 3 (.ptr kx 0 0 1) H=some (.agg [iv k,iv n,.slice sz' qs m']):=by rw[qac kx'];rfl
     obtain⟨u4,sv,hu4⟩:=qex (ups:=ups) (x:=k) (y:=n) (sz:=sz') (es:=qs) (m:=m') kr';have l8:loadAt true 3 (.ptr kr 0 0 1) (H.set kr (.row 3 [.agg [iv k,iv n,.slice sz' qs m']]))=some (.agg [iv k,iv n,.slice sz' qs m']):=by rw[qac (qai kr')];rfl
     obtain⟨w1,w2⟩:=EncM.weak (t:=.mk k n (shL d l)) (p:=.agg [iv k,iv n,.slice sz' qs m']) ⟨k,n,shL d l,sz',qs,m',rfl,rfl,hsz',hEq⟩;simp(disch:=omega) only[go_sem,qrp,e4,e5,e22,e23,h1',lx,sv,resv,l8];refine⟨_,qa4 w1 (low.trans (.set (by omega))) (qad (by omega) hw) (fun x hx=>?_),by rw[hsh1];exact w2⟩;rcases hu4 x hx with h|h
     ·exact hu x h
     ·omega
theorem min_mil{v:Int}(h:v≤1000):qmv false [iv v,iv 1000000]=some (iv v):=by
 have:¬(1000000:Int)<v:=by omega
 simp[qmv,this]
set_option maxRecDepth 8000 in
include hT in
theorem shift_ev{m d:Nat}(hm:m≤64)(hd:d≤64){t:Tm}{p:PV}(ht:Enc t p)(htr:qa0 t=true)(hvb:qfd m t)(h:Hp):
 ∃q:PV,Ev T 76 [p,iv 0,iv (d:Int)] h (.val (.tuple [q,iv 0]),⟨h,[],[]⟩)∧Enc (shT d t) q:=by
 refine Ev.walkP (r:=fun q:PV=>(.val (.tuple [q,iv 0]),⟨h,[],[]⟩)) (hT.sp _ (by decide)) ((hT.fn _).trans fn76) (hT.mode _) rfl ?_;obtain⟨c1,_,c3,_⟩:=ht.cells;have hsb:=ht.sub;have hnd:=qbi htr;have hsh:=qav htr;have e2:∀X:Hp,X++[row 3 [zq3]]=X++[row 3 [zN]]:=fun X=>rfl;obtain⟨H,hH⟩:∃H,(((h++[row 3 [p]])++[row 1 [iv 0]])++[row 1 [iv (d:Int)]])++[row 3 [zN]]=H:=⟨_,rfl⟩;have w1:(h++[row 3 [p]]).length=h.length+1:=by simp
 have w2:((h++[row 3 [p]])++[row 1 [iv 0]]).length=h.length+2:=by simp
 have w3:(((h++[row 3 [p]])++[row 1 [iv 0]])++[row 1 [iv (d:Int)]]).length=h.length+3:=by simp
 have low:Low h.length h H:=by rw[←hH];exact((((Low.refl _ _).push (nR _)).push (by simp)).push (by simp)).push (by simp)
 have k3:H[h.length]?=some (.row 3 [p]):=by rw[←hH];simp[]
 have k4:H[h.length+1]?=some (.row 1 [iv 0]):=by rw[←hH];simp[]
 have k5:H[h.length+2]?=some (.row 1 [iv (d:Int)]):=by rw[←hH];simp[]
 have k6:H[h.length+3]?=some (.row 3 [zN]):=by rw[←hH];simp[]
 have l3:loadAt true 3 (.ptr h.length 0 0 1) H=some p:=by rw[qac k3];exact hsb
 have l4:loadAt false 1 (.ptr (h.length+1) 0 0 1) H=some (iv 0):=by rw[qac k4];rfl
 have l5:loadAt false 1 (.ptr (h.length+2) 0 0 1) H=some (iv (d:Int)):=by rw[qac k5];rfl
 have evt:=qfp hT ht H;rw[htr]at evt;have fe:=fe_1 (p:=p) ⟨c1,c3⟩
 have hE1:EncL [t] [p]:=⟨rfl,fun i x y hx hy=>by
  cases i with
  |zero=>
    simp only[List.getElem?_cons_zero,Option.some.injEq]at hx hy;subst hx hy;exact ht
  |succ i=>simp at hx⟩
 obtain⟨z,evv,hz⟩:=vars_ev hT (m:=.lit) (.inr rfl) hE1 (by simp only[qa3];omega) H
 have hL:∀v∈qa9 [] [t],0≤v∧v< (m:Int):=fun v hv=>by
  unfold qa9 at hv;rw[qi9]at hv;rcases hv with h|h
  ·cases h
  ·exact qn8 [t] ⟨hvb,trivial⟩ (by simp[qb3,hsh]) v h
 have hLl:(qa9 [] [t]).length≤4000:=by have h1:=qco (qbp [t]) [];have h2:=qd1 [t];simp only[qa3,List.length_nil]at h1 h2;unfold qa9;omega
 generalize qa9 [] [t]=L at*;have h00:¬(0:Int)<0:=by omega
 simp(disch:=omega) only[go_sem,e2,w1,w2,w3,hH,c1,c3,l3,cb evt,l4,h00,fe,cb evv,hT.q,lM]
 refine wpC.loopM (fun g e st=> ∃i:Nat,i+g=L.length∧(eget e 3=.ptr h.length 0 0 1∧eget e 4=.ptr (h.length+1) 0 0 1∧eget e 5=.ptr (h.length+2) 0 0 1∧eget e 6=.ptr (h.length+3) 0 0 1∧eget e 19=.slice z (L.map encI) .any∧eget e 20=iv (L.length:Int)∧eget e 21=iv (i:Int))∧st=⟨H,[],[]⟩) ?_ L.length _ _
  ⟨0,by omega,by simp only[go_sem,Ag],rfl⟩
 rintro g e st ⟨i,hi,⟨e3,e4,e5,e6,e19,e20,e21⟩,rfl⟩;by_cases h1:i<L.length
 · have h1':(i:Int)< (L.length:Int):=by omega
   have hz1:z=1:=by
    rcases hz with h|h
    ·rw[h]at h1;simp at h1
    ·exact h
   subst hz1;have gv:=qc4 h1;have hv:=hL _ (Af h1);generalize L[i]=v at*;have v0:(0:Int)≤v:=hv.1;have v1:¬(1000000:Int)<v:=by omega
   have v2:¬(1000000 - v< (d:Int)):=by omega
   have v3:¬((d:Int)<0):=by omega
   have mv:=min_mil (v:=v) (by omega);simp(disch:=omega) only[go_sem,a76b0,e3,e4,e5,e6,e19,e20,e21,h1',gv,l4,l5,v0,v1,v2,v3,mv];exact⟨g - 1,by omega,i+1,by omega,rfl,trivial⟩
 · have h1':¬(i:Int)< (L.length:Int):=by omega
   obtain⟨q,evm,hq⟩:=mapS_ev hT hm hd ht hnd hsh hvb H k4 k5;obtain⟨x1,x2,_,x4⟩:=hq.cells;have sv:=fun ws ups=>qcz (ws:=ws) (ups:=ups) (n:=1) (N:=0) k6 rfl rfl ⟨rfl,_,rfl⟩ ⟨x1,x2,x4⟩ hq.facts.1;simp only[sC]at sv;have lo:loadAt true 3 (.ptr (h.length+3) 0 0 1) (H.set (h.length+3) (.row 3 [q]))=some q:=by rw[qac (qai k6)];exact hq.sub
   have td:=qaj (v:=.tuple [q,iv 0]) (ws:=wadd (h.length+3) []) (by simp[PV.pure,qat,hq.facts.2.1]) (by simp[PV.weak,qau,hq.facts.2.2]) (low.trans (.set (show h.length≤h.length+3 by omega)):Low h.length h (H.set (h.length+3) (.row 3 [q]))) (qad (by omega) (by simp));simp(disch:=omega) only[go_sem,a76b0,e3,e4,e5,e6,e20,e21,h1',l3,cb evm,sv,resv,lo,hT.prim,qab,td];exact⟨q,rfl,hq⟩
def AppW(H:Hp)(v:PV)(es:List PV)(sz lo:Nat):Prop:=(es=[]∧∃z m,v=.slice z [] m∧m.flush=true)∨∃kt,v=.slice sz es (.tok kt)∧H[kt]?=some (.tok sz es.length)∧lo≤kt
theorem AppW.form{H:Hp}{v:PV}{es:List PV}{sz lo:Nat}(A:AppW H v es sz lo):∃z m,v=.slice z es m∧(es=[]∨z=sz):=by
 rcases A with⟨rfl,z,m,rfl,_⟩|⟨kt,rfl,_,_⟩
 ·exact⟨_,_,rfl,.inl rfl⟩
 ·exact⟨_,_,rfl,.inr rfl⟩
theorem AppW.set{H:Hp}{v:PV}{es:List PV}{sz lo k n:Nat}{r r':List PV}(A:AppW H v es sz lo)(hk:H[k]?=some (.row n r)):AppW (H.set k (.row n r')) v es sz lo:=by
 rcases A with h|⟨kt,h1,h2,h3⟩
 ·exact .inl h
 · refine .inr ⟨kt,h1,qaa h2 ?_,h3⟩;rintro rfl;rw[h2]at hk;cases hk
theorem AppW.push{H:Hp}{v:PV}{es:List PV}{sz lo:Nat}{o:AE.Obj}(A:AppW H v es sz lo):AppW (H++[o]) v es sz lo:=by
 rcases A with h|⟨kt,h1,h2,h3⟩
 ·exact .inl h
 ·exact .inr ⟨kt,h1,qag h2,h3⟩
theorem qer{H:Hp}{v:PV}{es xs:List PV}{sz bytes zx lo:Nat}{mx:SM}(A:AppW H v es sz lo)(hx:xs=[]∨zx=sz)(hc:xs.all (fun e=>e.cells.all PV.isCell)=true)(hb:bytes≤100)(hl:es.length+xs.length≤10000)(hsz:0<sz)(hlo:lo≤H.length):
 ∃(H':Hp)(fw:List Nat->List Nat)(v':PV),(∀ws ups,appendop sz bytes v (.slice zx xs mx) ⟨H,ws,ups⟩=some (v',⟨H',fw ws,ups⟩))∧AppW H' v' (es++xs) sz lo∧Low lo H H'∧∀ws,(∀x∈ws,lo≤x)->∀x∈fw ws,lo≤x:=by
 cases xs with
 |nil=>
   obtain⟨z,m,rfl,_⟩:=A.form;exact⟨H,fun ws=>ws,.slice z es m,fun ws ups=>by simp[appendop,qb6],by simpa using A,Low.refl _ _,fun ws h=>h⟩
 |cons x xs=>
   have hzx:zx=sz:=hx.resolve_left (by simp);subst hzx
   have hroom:(es.length+(x::xs).length) *bytes≤room∧es.length+(x::xs).length≤room:=by
    have h1:10000000≤room:=by decide
    have h2:(es.length+(x::xs).length) *bytes≤10000*100:=Nat.mul_le_mul hl hb;constructor<;>omega
   rcases A with⟨rfl,z,m,rfl,hm⟩|⟨kt,rfl,h2,h3⟩
   · refine⟨H++[.tok zx (x::xs).length],fun ws=>ws,.slice zx (x::xs) (.tok H.length),fun ws ups=>?_,.inr ⟨H.length,rfl,by simp,hlo⟩,(Low.refl _ _).push hlo,fun ws h=>h⟩;simp only[List.length_nil,Nat.zero_add]at hroom;have:m=.nil∨m=.full∨m=.lit:=by cases m<;>simp[SM.flush]at hm⊢
     rcases this with rfl|rfl|rfl<;>simp only[appendop,qb6,List.isEmpty_cons,bF,if_false,List.isEmpty_nil,or_true,hsz,hc,List.length_nil,Nat.zero_add,hroom,and_self,if_true,List.nil_append,alloc]
   · refine⟨H.set kt (.tok zx (es.length+(x::xs).length)),wadd kt,.slice zx (es++x::xs) (.tok kt),fun ws ups=>?_,.inr ⟨kt,rfl,by rw[qai h2];simp,h3⟩,.set h3,fun ws hx=>qad h3 hx⟩;simp only[appendop,qb6,List.isEmpty_cons,bF,if_false,true_or,hsz,hc,hroom,and_self,if_true,h2,qas]
theorem qfz{xs ys:List PV}(hx:qat xs=true∧qau xs=xs)(hy:qat ys=true∧qau ys=ys):qat (xs++ys)=true∧qau (xs++ys)=xs++ys:=by
 induction xs with
 |nil=>simpa using hy
 |cons x xs ih=>
   obtain⟨h1,h2⟩:=hx;simp only[qat,bA,qau,List.cons.injEq]at h1 h2;obtain⟨i1,i2⟩:=ih ⟨h1.2,h2.2⟩;exact⟨by simp only[List.cons_append,qat,h1.1,i1,Bool.and_self],by simp only[List.cons_append,qau,h2.1,i2]⟩
theorem qst{f sz bytes n:Nat}{z:Nat}(hg:T.sp f=some (qcj sz bytes))(hn:n≤10000)(hb:bytes≤100)(h:Hp):
 ∃(v:PV)(H:Hp),Ev T f [.slice z [] .nil,.int .i64 (n:Int)] h (.val v,⟨H,[],[]⟩)∧AppW H v [] sz h.length∧Low h.length h H:=by
 by_cases h0:n=0
 · subst h0;refine⟨.slice 0 [] .nil,h,⟨1,fun n hn=>?_⟩,.inl ⟨rfl,_,_,rfl,rfl⟩,Low.refl _ _⟩;obtain⟨n,rfl⟩:∃k,n=k+1:=⟨n - 1,by omega⟩;simp only[qbw,hg,qcj];rfl
 · have h1:¬(n:Int)=0:=by omega
   have h2:0< (n:Int)∧(n:Int) * (bytes:Int)≤1000000000∧(n:Int)≤1000000000:=by have:n*bytes≤10000*100:=Nat.mul_le_mul hn hb;omega
   refine⟨.slice sz [] (.tok h.length),h++[.tok sz 0],⟨1,fun n hn=>?_⟩,.inr ⟨h.length,rfl,by simp,nR _⟩,(Low.refl _ _).push (nR _)⟩;obtain⟨n,rfl⟩:∃k,n=k+1:=⟨n - 1,by omega⟩;simp only[qbw,hg,qcj];rw[if_neg h1,if_pos h2];rfl
include hT in
theorem qs9(hg:T.sp 154=some (qcj 6 80)){xs ys:List PV}{za zb:Nat}{ma mb m:SM}(hx:xs=[]∨za=6)(hy:ys=[]∨zb=6)(cx:xs.all (fun e=>e.cells.all PV.isCell)=true)(cy:ys.all (fun e=>e.cells.all PV.isCell)=true)(lx:xs.length≤1000)(ly:ys.length≤1000)(px:qat xs=true∧qau xs=xs)(py:qat ys=true∧qau ys=ys)(h:Hp):
 ∃z:Nat,Ev T 73 [.slice 1 [.slice za xs ma,.slice zb ys mb] m] h (.val (.slice z (xs++ys) .any),⟨h,[],[]⟩)∧(xs++ys=[]∨z=6):=by
 refine Ev.walkP (r:=fun z:Nat=>(.val (.slice z (xs++ys) .any),⟨h,[],[]⟩)) (hT.sp _ (by decide)) ((hT.fn _).trans fn73) (hT.mode _) rfl ?_;have b0:(0:Int)< ((2:Nat):Int):=by omega
 have n2:¬((0:Int)+(xs.length:Int)+(ys.length:Int)<0):=by omega
 have i0:qb2 1 (.slice 1 [.slice za xs ma,.slice zb ys mb] m) (.int .i64 0)=some (.iptr (.slice za xs ma) 0):=rfl;have i1:qb2 1 (.slice 1 [.slice za xs ma,.slice zb ys mb] m) (.int .i64 1)=some (.iptr (.slice zb ys mb) 0):=rfl;have s0:AE.sub false 1 (.slice za xs ma) 0=some (.slice za xs ma):=rfl;have s1:AE.sub false 1 (.slice zb ys mb) 0=some (.slice zb ys mb):=rfl;have la:lenOf (.slice za xs ma)=some xs.length:=rfl;have lb:lenOf (.slice zb ys mb)=some ys.length:=rfl;have l2:lenOf (.slice 1 [.slice za xs ma,.slice zb ys mb] m)=some 2:=rfl;have z1:(0:Int)+1=1:=rfl;have z2:(1:Int)+1=2:=rfl;have c0:(0:Int)<2:=by omega
 have c1:(1:Int)<2:=by omega
 have c2:¬(2:Int)<2:=by omega
 obtain⟨v0,H0,evg,A0,L0⟩:=qst (f:=154) (z:=0) hg (n:=xs.length+ys.length) (by omega) (by omega) h;obtain⟨H1,fw1,v1,ap1,A1,low1,hfw1⟩:=qer (bytes:=80) (zx:=za) (mx:=ma) A0 hx cx (by omega) (by simp;omega) (by decide) L0.len;obtain⟨H2,fw2,v2,ap2,A2,low2,hfw2⟩:=qer (bytes:=80) (zx:=zb) (mx:=mb) A1 hy cy (by omega) (by simp;omega) (by decide) (by have:=low1.len;have:=L0.len;omega);obtain⟨z2',m2,rfl,hz2⟩:=A2.form;have hn':(xs.length:Int)+(ys.length:Int)=((xs.length+ys.length:Nat):Int):=by omega
 have m1:¬((xs.length:Int)<0):=by omega
 have m2':¬(((xs.length+ys.length:Nat):Int)<0):=by omega
 have za0:∀a:Int,0+a=a:=fun a=>by omega
 simp only[List.nil_append]at ap1 ap2;have td:=fun ws hw=>qa4 (ws:=ws) (v:=.slice z2' ([]++xs++ys) m2) (ups:=[]) (by simp only[PV.pure,List.nil_append];exact(qfz px py).1) ((L0.trans low1).trans low2) hw (by simp);have hwk:(PV.slice z2' ([]++xs++ys) m2).weak=.slice z2' (xs++ys) .any:=by simp only[PV.weak,List.nil_append,(qfz px py).2]
 rw[hwk]at td;simp only[List.nil_append]at td hz2 ap1 ap2;simp(disch:=omega) only[go_sem,l2];refine qbt ?_;simp(disch:=omega) only[go_sem,a73b0,i0,s0,la,za0,m1];refine qbt ?_;simp(disch:=omega) only[go_sem,i1,s1,lb,hn',m2'];refine qbt ?_;simp(disch:=omega) only[go_sem,z2,cb evg,hT.prim,qab,l2];refine qbt ?_;simp(disch:=omega) only[go_sem,a73b1,i0,s0,ap1];refine qbt ?_;simp(disch:=omega) only[go_sem,z1,i1,s1,ap2];refine qbt ?_;simp(disch:=omega) only[go_sem,z2];exact⟨z2',td _ (fun x hx=>by have:=hfw2 _ (hfw1 _ (by simp)) x hx;exact this),hz2⟩
include hT in
theorem qme(hg:T.sp 155=some (qcj 1 8)){xs ys:List PV}{za zb:Nat}{ma mb m:SM}(hx:xs=[]∨za=1)(hy:ys=[]∨zb=1)(cx:xs.all (fun e=>e.cells.all PV.isCell)=true)(cy:ys.all (fun e=>e.cells.all PV.isCell)=true)(lx:xs.length≤1000)(ly:ys.length≤1000)(px:qat xs=true∧qau xs=xs)(py:qat ys=true∧qau ys=ys)(h:Hp):
 ∃z:Nat,Ev T 74 [.slice 1 [.slice za xs ma,.slice zb ys mb] m] h (.val (.slice z (xs++ys) .any),⟨h,[],[]⟩)∧(xs++ys=[]∨z=1):=by
 refine Ev.walkP (r:=fun z:Nat=>(.val (.slice z (xs++ys) .any),⟨h,[],[]⟩)) (hT.sp _ (by decide)) ((hT.fn _).trans fn74) (hT.mode _) rfl ?_;have b0:(0:Int)< ((2:Nat):Int):=by omega
 have n2:¬((0:Int)+(xs.length:Int)+(ys.length:Int)<0):=by omega
 have i0:qb2 1 (.slice 1 [.slice za xs ma,.slice zb ys mb] m) (.int .i64 0)=some (.iptr (.slice za xs ma) 0):=rfl;have i1:qb2 1 (.slice 1 [.slice za xs ma,.slice zb ys mb] m) (.int .i64 1)=some (.iptr (.slice zb ys mb) 0):=rfl;have s0:AE.sub false 1 (.slice za xs ma) 0=some (.slice za xs ma):=rfl;have s1:AE.sub false 1 (.slice zb ys mb) 0=some (.slice zb ys mb):=rfl;have la:lenOf (.slice za xs ma)=some xs.length:=rfl;have lb:lenOf (.slice zb ys mb)=some ys.length:=rfl;have l2:lenOf (.slice 1 [.slice za xs ma,.slice zb ys mb] m)=some 2:=rfl;have z1:(0:Int)+1=1:=rfl;have z2:(1:Int)+1=2:=rfl;have c0:(0:Int)<2:=by omega
 have c1:(1:Int)<2:=by omega
 have c2:¬(2:Int)<2:=by omega
 obtain⟨v0,H0,evg,A0,L0⟩:=qst (f:=155) (z:=0) hg (n:=xs.length+ys.length) (by omega) (by omega) h;obtain⟨H1,fw1,v1,ap1,A1,low1,hfw1⟩:=qer (bytes:=8) (zx:=za) (mx:=ma) A0 hx cx (by omega) (by simp;omega) (by decide) L0.len;obtain⟨H2,fw2,v2,ap2,A2,low2,hfw2⟩:=qer (bytes:=8) (zx:=zb) (mx:=mb) A1 hy cy (by omega) (by simp;omega) (by decide) (by have:=low1.len;have:=L0.len;omega);obtain⟨z2',m2,rfl,hz2⟩:=A2.form;have hn':(xs.length:Int)+(ys.length:Int)=((xs.length+ys.length:Nat):Int):=by omega
 have m1:¬((xs.length:Int)<0):=by omega
 have m2':¬(((xs.length+ys.length:Nat):Int)<0):=by omega
 have za0:∀a:Int,0+a=a:=fun a=>by omega
 simp only[List.nil_append]at ap1 ap2;have td:=fun ws hw=>qa4 (ws:=ws) (v:=.slice z2' ([]++xs++ys) m2) (ups:=[]) (by simp only[PV.pure,List.nil_append];exact(qfz px py).1) ((L0.trans low1).trans low2) hw (by simp);have hwk:(PV.slice z2' ([]++xs++ys) m2).weak=.slice z2' (xs++ys) .any:=by simp only[PV.weak,List.nil_append,(qfz px py).2]
 rw[hwk]at td;simp only[List.nil_append]at td hz2 ap1 ap2;simp(disch:=omega) only[go_sem,l2];refine qbt ?_;simp(disch:=omega) only[go_sem,a74b0,i0,s0,la,za0,m1];refine qbt ?_;simp(disch:=omega) only[go_sem,i1,s1,lb,hn',m2'];refine qbt ?_;simp(disch:=omega) only[go_sem,z2,cb evg,hT.prim,qab,l2];refine qbt ?_;simp(disch:=omega) only[go_sem,a74b1,i0,s0,ap1];refine qbt ?_;simp(disch:=omega) only[go_sem,z1,i1,s1,ap2];refine qbt ?_;simp(disch:=omega) only[go_sem,z2];exact⟨z2',td _ (fun x hx=>by have:=hfw2 _ (hfw1 _ (by simp)) x hx;exact this),hz2⟩
include hT in
theorem qs8(hg:T.sp 159=some (qcj 3 40)){xs ys:List PV}{za zb:Nat}{ma mb m:SM}(hx:xs=[]∨za=3)(hy:ys=[]∨zb=3)(cx:xs.all (fun e=>e.cells.all PV.isCell)=true)(cy:ys.all (fun e=>e.cells.all PV.isCell)=true)(lx:xs.length≤1000)(ly:ys.length≤1000)(px:qat xs=true∧qau xs=xs)(py:qat ys=true∧qau ys=ys)(h:Hp):
 ∃z:Nat,Ev T 77 [.slice 1 [.slice za xs ma,.slice zb ys mb] m] h (.val (.slice z (xs++ys) .any),⟨h,[],[]⟩)∧(xs++ys=[]∨z=3):=by
 refine Ev.walkP (r:=fun z:Nat=>(.val (.slice z (xs++ys) .any),⟨h,[],[]⟩)) (hT.sp _ (by decide)) ((hT.fn _).trans fn77) (hT.mode _) rfl ?_;have b0:(0:Int)< ((2:Nat):Int):=by omega
 have n2:¬((0:Int)+(xs.length:Int)+(ys.length:Int)<0):=by omega
 have i0:qb2 1 (.slice 1 [.slice za xs ma,.slice zb ys mb] m) (.int .i64 0)=some (.iptr (.slice za xs ma) 0):=rfl;have i1:qb2 1 (.slice 1 [.slice za xs ma,.slice zb ys mb] m) (.int .i64 1)=some (.iptr (.slice zb ys mb) 0):=rfl;have s0:AE.sub false 1 (.slice za xs ma) 0=some (.slice za xs ma):=rfl;have s1:AE.sub false 1 (.slice zb ys mb) 0=some (.slice zb ys mb):=rfl;have la:lenOf (.slice za xs ma)=some xs.length:=rfl;have lb:lenOf (.slice zb ys mb)=some ys.length:=rfl;have l2:lenOf (.slice 1 [.slice za xs ma,.slice zb ys mb] m)=some 2:=rfl;have z1:(0:Int)+1=1:=rfl;have z2:(1:Int)+1=2:=rfl;have c0:(0:Int)<2:=by omega
 have c1:(1:Int)<2:=by omega
 have c2:¬(2:Int)<2:=by omega
 obtain⟨v0,H0,evg,A0,L0⟩:=qst (f:=159) (z:=0) hg (n:=xs.length+ys.length) (by omega) (by omega) h;obtain⟨H1,fw1,v1,ap1,A1,low1,hfw1⟩:=qer (bytes:=40) (zx:=za) (mx:=ma) A0 hx cx (by omega) (by simp;omega) (by decide) L0.len;obtain⟨H2,fw2,v2,ap2,A2,low2,hfw2⟩:=qer (bytes:=40) (zx:=zb) (mx:=mb) A1 hy cy (by omega) (by simp;omega) (by decide) (by have:=low1.len;have:=L0.len;omega);obtain⟨z2',m2,rfl,hz2⟩:=A2.form;have hn':(xs.length:Int)+(ys.length:Int)=((xs.length+ys.length:Nat):Int):=by omega
 have m1:¬((xs.length:Int)<0):=by omega
 have m2':¬(((xs.length+ys.length:Nat):Int)<0):=by omega
 have za0:∀a:Int,0+a=a:=fun a=>by omega
 simp only[List.nil_append]at ap1 ap2;have td:=fun ws hw=>qa4 (ws:=ws) (v:=.slice z2' ([]++xs++ys) m2) (ups:=[]) (by simp only[PV.pure,List.nil_append];exact(qfz px py).1) ((L0.trans low1).trans low2) hw (by simp);have hwk:(PV.slice z2' ([]++xs++ys) m2).weak=.slice z2' (xs++ys) .any:=by simp only[PV.weak,List.nil_append,(qfz px py).2]
 rw[hwk]at td;simp only[List.nil_append]at td hz2 ap1 ap2;simp(disch:=omega) only[go_sem,l2];refine qbt ?_;simp(disch:=omega) only[go_sem,a77b0,i0,s0,la,za0,m1];refine qbt ?_;simp(disch:=omega) only[go_sem,i1,s1,lb,hn',m2'];refine qbt ?_;simp(disch:=omega) only[go_sem,z2,cb evg,hT.prim,qab,l2];refine qbt ?_;simp(disch:=omega) only[go_sem,a77b1,i0,s0,ap1];refine qbt ?_;simp(disch:=omega) only[go_sem,z1,i1,s1,ap2];refine qbt ?_;simp(disch:=omega) only[go_sem,z2];exact⟨z2',td _ (fun x hx=>by have:=hfw2 _ (hfw1 _ (by simp)) x hx;exact this),hz2⟩
def a14c:ACode:=(.seq (Aa [
 mv 147 24,
 ro 148 (.lenL (.t 147)),
 mv 149 13,
 ro 150 (.lenL (.t 149)),
 mv 151 15,
 ro 152 (.lenL (.t 151)),
 ro 153 (.bin .mul (.t 150) (.t 152)),
 ro 154 (.bin .neq (.t 148) (.t 153))]
 (cn 154
 (Aa [
 ro 12 (.move (.c (.bool false)))]
 .ret)
 .skip))
 (.seq (Aa [
 mv 155 13,
 ro 156 (.lenL (.t 155)),
 ro 157 (.move (ci 0))]
 (Ad 2 a14b2))
 (Aa [
 ro 12 (.move (.c (.bool true)))]
 .ret)))
def a14s:ACode:=(sd [
 rp 133 (.load true 3 (.t 6)),
 rd 134 (.move (.t 1)) false 1 0 false,
 rd 135 (.move (.t 2)) false 2 0 false,
 rd 136 (.move (.t 3)) false 3 0 false,
 rd 137 (.buildSlice 1 (.slice 0 [] .nil) 2 [(0,(.t 135)),(1,(.t 136))]) false 4 12 false,
 rd 138 (.call (.f 74) [(.t 137)]) true 5 28 false,
 rd 139 (.move (.t 17)) false 6 0 true,
 rd 140 (.call (.f 39) [(.t 133),(.t 134),(.t 138),(.t 139)]) true 7 127 true,
 rd 132 (.move (.t 140)) false 8 255 true,
 rd 141 (.extract (.t 132) 0) false 9 511 false,
 rd 142 (.extract (.t 132) 1) false 10 511 false,
 rd 24 (.move (.t 141)) false 11 1023 true,
 rd 14 (.move (.t 142)) false 12 4095 true]
 (.seq (Aa [
 mv 143 14,
 ro 144 (.bin .neq (.t 143) (ci 0))]
 (cn 144
 (Aa [
 mv 145 14,
 ro 146 (.bin .eql (.t 145) (ci 2)),
 mv 12 146]
 .ret)
 .skip))
 a14c))
def a14r:ACode:=(Aa [
 mv 95 4,
 rp 96 (.call (.f 75) [(.t 95)]),
 mv 17 96]
 (.seq (Aa [
 mv 97 5,
 ro 98 (.lenL (.t 97)),
 ro 99 (.move (ci 0))]
 (Ad 0 a14b0))
 a14s))
def a14':AFunc:=⟨6,186,(Aa [
 rp 6 (.box 3 (.t 0)),
 ro 12 (.move (.c (.bool false)))]
 (.seq (Aa [
 rp 29 (.call (.f 15) []),
 ro 30 (.un .not (.t 29))]
 (cn 30
 (Aa [
 ro 12 (.move (.c (.bool false)))]
 .ret)
 .skip))
 (.seq (Aa [
 rp 31 (.load true 3 (.t 6)),
 rp 32 (.call (.f 23) [(.t 31)]),
 ro 33 (.un .not (.t 32)),
 mv 34 33,
 rg 35 (.move (.t 1)) 34 false,
 rh 36 (.call (.f 24) [(.t 35)]) 34 false,
 rg 37 (.un .not (.t 36)) 34 false,
 ro 38 (.pick (.t 34) (.c (.bool true)) (.t 37)),
 mv 39 38,
 rg 40 (.move (.t 4)) 39 false,
 rg 41 (.lenL (.t 40)) 39 false,
 rg 42 (.move (.t 5)) 39 false,
 rg 43 (.lenL (.t 42)) 39 false,
 rg 44 (.bin .add (.t 41) (.t 43)) 39 false,
 rg 45 (.bin .gtr (.t 44) (ci 8)) 39 false,
 ro 46 (.pick (.t 39) (.c (.bool true)) (.t 45)),
 mv 47 46,
 rg 48 (.move (.t 4)) 47 false,
 rg 49 (.move (.t 5)) 47 false,
 rg 50 (.buildSlice 1 (.slice 0 [] .nil) 2 [(0,(.t 48)),(1,(.t 49))]) 47 false,
 rh 51 (.call (.f 73) [(.t 50)]) 47 false,
 rh 52 (.call (.f 37) [(.t 51)]) 47 false,
 rg 53 (.un .not (.t 52)) 47 false,
 ro 54 (.pick (.t 47) (.c (.bool true)) (.t 53)),
 mv 55 54,
 rg 56 (.move (.t 2)) 55 false,
 rg 57 (.lenL (.t 56)) 55 false,
 rg 58 (.move (.t 3)) 55 false,
 rg 59 (.lenL (.t 58)) 55 false,
 rg 60 (.bin .add (.t 57) (.t 59)) 55 false,
 rg 61 (.bin .gtr (.t 60) (ci 20)) 55 false,
 ro 62 (.pick (.t 55) (.c (.bool true)) (.t 61)),
 mv 63 62,
 rg 64 (.move (.t 1)) 63 false,
 rg 65 (.move (.t 2)) 63 false,
 rg 66 (.move (.t 3)) 63 false,
 rg 67 (.buildSlice 1 (.slice 0 [] .nil) 2 [(0,(.t 65)),(1,(.t 66))]) 63 false,
 rh 68 (.call (.f 74) [(.t 67)]) 63 false,
 rg 69 (.buildSlice 1 (.slice 0 [] .nil) 1 [(0,(.t 68))]) 63 false,
 rh 70 (.call (.f 38) [(.t 64),(.t 69)]) 63 false,
 rg 71 (.un .not (.t 70)) 63 false,
 ro 72 (.pick (.t 63) (.c (.bool true)) (.t 71))]
 (cn 72
 (Aa [
 ro 12 (.move (.c (.bool true)))]
 .ret)
 .skip))
 (Aa [
 rp 74 (.load true 3 (.t 6)),
 mv 75 1,
 mv 76 2,
 mv 77 4,
 rp 78 (.call (.f 39) [(.t 74),(.t 75),(.t 76),(.t 77)]),
 mv 73 78,
 ro 79 (.extract (.t 73) 0),
 ro 80 (.extract (.t 73) 1),
 mv 13 79,
 mv 14 80]
 (Aa [
 rp 82 (.load true 3 (.t 6)),
 mv 83 1,
 mv 84 3,
 mv 85 5,
 rp 86 (.call (.f 39) [(.t 82),(.t 83),(.t 84),(.t 85)]),
 mv 81 86,
 ro 87 (.extract (.t 81) 0),
 ro 88 (.extract (.t 81) 1),
 mv 15 87,
 mv 16 88]
 (.seq (Aa [
 mv 89 14,
 ro 90 (.bin .neq (.t 89) (ci 0)),
 mv 91 90,
 rg 92 (.move (.t 16)) 91 false,
 rg 93 (.bin .neq (.t 92) (ci 0)) 91 false,
 ro 94 (.pick (.t 91) (.c (.bool true)) (.t 93))]
 (cn 94
 (Aa [
 ro 12 (.move (.c (.bool true)))]
 .ret)
 .skip))
 a14r)))))),[.t 12]⟩
theorem fn14':fnOf 14=some a14':=by kernel_rfl
theorem qs4{l l':List Tm}{es es':List PV}(h:EncL l es)(h':EncL l' es'):EncL (l++l') (es++es'):=by
 have hl:=h.1;refine⟨by simp[hl,h'.1],fun i x p hx hp=>?_⟩;by_cases hi:i<l.length
 · rw[gL hi]at hx;rw[gL (by omega)]at hp;exact h.2 i _ _ hx hp
 · rw[gR (by omega)]at hx;rw[gR (by omega),hl]at hp;exact h'.2 _ _ _ hx hp
theorem qnw{us:List Tm}{es:List PV}(h:EncL us es):es.all (fun e=>e.cells.all PV.isCell)=true:=by rw[List.all_eq_true];intro p hp;obtain⟨i,hi,rfl⟩:=List.getElem_of_mem hp;have hl:=h.1;exact(h.2 i _ _ (Ab (by omega)) (Ab hi)).cells.2.1
set_option maxRecDepth 8000 in
include hT in
theorem comp14_ok(hg:T.sp 159=some (qcj 3 40)){AL BL:List (List Tm)}{aa bs ls:List PV}(hA:qjo AL aa)(hB:qjo BL bs)(hL:qjo (AL.flatMap fun x=>BL.map fun y=>x++y) ls){za zb zl:Nat}(ha:aa=[]∨za=1)(hb:bs=[]∨zb=1)(hl:ls=[]∨zl=1)(la:aa.length≤4000)(lb:bs.length≤4000)
 (tA:∀x∈AL,x.length≤64∧∀u∈x,u.nodes≤4000)(tB:∀x∈BL,x.length≤64∧∀u∈x,u.nodes≤4000){h H:Hp}{ws:List Nat}{ups:List (Nat×Nat)}(low:Low h.length h H)(hw:∀x∈ws,h.length≤x)(hu:∀x∈ups,h.length≤x.1)
 {e:List PV}(e13:eget e 13=.slice za aa .any)(e15:eget e 15=.slice zb bs .any)(e24:eget e 24=.slice zl ls .any):
 wpC T a14c e ⟨H,ws,ups⟩ (fin [.t 12] 0 h.length fun p=>p=(.val (.bool true),⟨h,[],[]⟩)):=by
 unfold a14c;have hla:=hA.1;have hlb:=hB.1;have hll:=hL.1;rw[qqm]at hll;have hm0:0≤(aa.length:Int) * (bs.length:Int)∧(aa.length:Int) * (bs.length:Int)≤16000000:=by have h1:aa.length*bs.length≤4000*4000:=Nat.mul_le_mul la lb;omega
 have hne:((ls.length:Int) !=(aa.length:Int) * (bs.length:Int))=false:=by
  have:(ls.length:Int)=(aa.length:Int) * (bs.length:Int):=by rw[hll,hla,hlb,Int.natCast_mul]
  simp[this]
 simp(disch:=omega) only[go_sem,e13,e15,e24,hne]
 refine wpC.loopM (fun g e st=> ∃(i:Nat)(ws:List Nat),i+g=aa.length∧(∀x∈ws,h.length≤x)∧(eget e 15=.slice zb bs .any∧eget e 24=.slice zl ls .any∧eget e 155=.slice za aa .any∧eget e 156=iv (aa.length:Int)∧eget e 157=iv (i:Int))∧st=⟨H,ws,ups⟩) ?_ aa.length _ _
  ⟨0,ws,by omega,hw,by simp only[go_sem,e15,e24,Ag],rfl⟩
 clear e13 e15 e24 hw ws;rintro g e st ⟨i,ws,hi,hw,⟨e15,e24,e155,e156,e157⟩,rfl⟩;by_cases h1:i<aa.length;rotate_left
 · have h1':¬(i:Int)< (aa.length:Int):=by omega
   have td:=qa4 (v:=.bool true) (ws:=ws) (ups:=ups) rfl low hw hu;simp only[PV.weak]at td;simp(disch:=omega) only[go_sem,a14b2,e156,e157,h1',td,fin]
 have h1':(i:Int)< (aa.length:Int):=by omega
 have ga:=qb1 h1;have hx:AL[i]?=some AL[i]:=Ab (by omega);obtain⟨tx1,tx2⟩:=tA _ (mG hx)
 have hza:za=1:=by
  rcases ha with rfl|h
  ·simp at h1
  ·exact h
 subst hza;obtain⟨zx,ex,hX,hzx,hEx⟩:=hA.2 i _ _ hx ga;rw[hX]at ga;generalize AL[i]=x at*;have sx:AE.sub false 1 (.slice zx ex .any) 0=some (.slice zx ex .any):=rfl;simp(disch:=omega) only[go_sem,a14b2,e15,e155,e156,e157,h1',ga,sx]
 refine wpC.loopM (fun g' e st=> ∃(k:Nat)(ws:List Nat),k+g'=bs.length∧(∀x∈ws,h.length≤x)∧(eget e 15=.slice zb bs .any∧eget e 24=.slice zl ls .any∧eget e 25=iv (i:Int)∧eget e 26=.slice zx ex .any∧eget e 155=.slice 1 aa .any∧eget e 156=iv (aa.length:Int)∧eget e 157=iv (i:Int)∧eget e 162=.slice zb bs .any∧eget e 163=iv (bs.length:Int)∧eget e 164=iv (k:Int))∧st=⟨H,ws,ups⟩) ?_ bs.length _ _
  ⟨0,ws,by omega,hw,by simp only[go_sem,e15,e24,e155,e156,e157,Ag],rfl⟩
 clear e15 e24 e155 e156 e157 hw ws;rintro g' e st ⟨k,ws,hk,hw,⟨e15,e24,e25,e26,e155,e156,e157,e162,e163,e164⟩,rfl⟩;by_cases h2:k<bs.length;rotate_left
 · have h2':¬(k:Int)< (bs.length:Int):=by omega
   simp(disch:=omega) only[go_sem,a14b1,e15,e24,e155,e156,e157,e163,e164,h2'];exact⟨g - 1,by omega,i+1,ws,by omega,hw,rfl,rfl⟩
 have h2':(k:Int)< (bs.length:Int):=by omega
 have gb:=qb1 h2;have hy:BL[k]?=some BL[k]:=Ab (by omega);obtain⟨ty1,ty2⟩:=tB _ (mG hy)
 have hzb:zb=1:=by
  rcases hb with rfl|h
  ·simp at h2
  ·exact h
 subst hzb;obtain⟨zy,ey,hY,hzy,hEy⟩:=hB.2 k _ _ hy gb;rw[hY]at gb;generalize BL[k]=y at*;have hp:=get_parts hx hy;rw[←hlb]at hp;have hmul:i*bs.length+k<aa.length*bs.length:=by have:(i+1) *bs.length≤aa.length*bs.length:=Nat.mul_le_mul_right _ h1;rw[Nat.succ_mul]at this;omega
 have hlt:i*bs.length+k<ls.length:=by rw[hll,←hla,←hlb];exact hmul
 have gl:=qb1 hlt
 have hzl:zl=1:=by
  rcases hl with rfl|h
  ·simp at hlt
  ·exact h
 subst hzl;obtain⟨zq,eq,hQ,hzq,hEq⟩:=hL.2 _ _ _ hp gl;rw[hQ]at gl;have ix:qb2 1 (.slice 1 ls .any) (iv ((i*bs.length+k:Nat):Int))=some (.iptr (.slice zq eq .any) 0):=by rw[qdb,if_pos rfl,gl];rfl
 have hx1:(i:Int) * (bs.length:Int)=((i*bs.length:Nat):Int):=(Int.natCast_mul _ _).symm;have hx2:((i*bs.length:Nat):Int)+(k:Int)=((i*bs.length+k:Nat):Int):=(Int.natCast_add _ _).symm;have hr1:0≤(i:Int) * (bs.length:Int)∧(i:Int) * (bs.length:Int)≤16000000:=by omega
 have sy:AE.sub false 1 (.slice zy ey .any) 0=some (.slice zy ey .any):=rfl;have sq:AE.sub false 1 (.slice zq eq .any) 0=some (.slice zq eq .any):=rfl;have lbs:lenOf (.slice 1 bs .any)=some bs.length:=rfl;have fe:qcw 1 (List.replicate 2 (.slice 0 [] .nil)) [(0,PV.slice zx ex .any),(1,PV.slice zy ey .any)]=some [.slice zx ex .any,.slice zy ey .any]:=rfl;have hxl:=hEx.1;have hyl:=hEy.1;obtain⟨z,evc,hz⟩:=qs8 hT hg (ma:=.any) (mb:=.any) (m:=.lit) hzx hzy (qnw hEx) (qnw hEy) (by omega) (by omega) (qj8 hEx) (qj8 hEy) H;have hExy:=qs4 hEx hEy
 have evq:=qq1 hT hzq hz hEq.1 hExy.1 (by simp;omega) hEq.2 hExy.2 (fun j u u' p q hu hu' hp hq h'=>qhk hT (hEq.2 j u p hu hp) u' q (hExy.2 j u' q hu' hq) (by
  rcases mA.1 (mG hu)with h|h
  ·exact tx2 u h
  ·exact ty2 u h) h') H
 rw[(qhf _ _).2 rfl]at evq;simp(disch:=first|omega|decide|simp only[go_sem]) only[go_sem,a14b1,e15,e24,e25,e26,e155,e156,e157,e162,e163,e164,h2',gb,sy,lbs,hx1,hx2,ix,sq,fe,cb evc,cb evq,hT.q];exact⟨g' - 1,by omega,k+1,_,by omega,hw,rfl,rfl⟩
def b75:AFunc:=⟨1,8,(Aa [
 ro 2 (.move (.c (.slice 0 [] .nil)))]
 (.seq (Aa [
 mv 3 0,
 ro 4 (.eq false .slice (.t 3) (.c (.slice 0 [] .nil)))]
 (cn 4
 (Aa [
 ro 2 (.move (.c (.slice 0 [] .nil)))]
 .ret)
 .skip))
 (Aa [
 ro 5 (.buildSlice 6 zq6 0 []),
 mv 6 0,
 rp 7 (.append 6 80 (.t 5) (.t 6)),
 mv 2 7]
 .ret))),[.t 2]⟩
theorem af75_eq:af75=b75:=by kernel_rfl
theorem clone75_ev(hC:T.sp 75=some (qby af75)){xs:List PV}{z:Nat}(hz:xs=[]∨z=6)(hl:xs.length≤1000)(hc:xs.all (fun e=>e.cells.all PV.isCell)=true)(h:Hp):
 ∃(v:PV)(H:Hp),Ev T 75 [.slice z xs .any] h (.val v,⟨H,[],[]⟩)∧AppW H v xs 6 h.length∧Low h.length h H:=by
 cases xs with
 |nil=>
   refine⟨.slice z [] .full,h,⟨1,fun n hn=>?_⟩,.inl ⟨rfl,_,_,rfl,rfl⟩,Low.refl _ _⟩;obtain⟨n,rfl⟩:∃k,n=k+1:=⟨n - 1,by omega⟩;simp only[qbw,hC,qby]
 |cons x xs=>
   have hz6:z=6:=hz.resolve_left (by simp);subst hz6
   have hroom:(x::xs).length*80≤room∧(x::xs).length≤room:=by
    have h1:10000000≤room:=by decide
    omega
   refine⟨.slice 6 (x::xs) (.tok h.length),h++[.tok 6 (x::xs).length],⟨1,fun n hn=>?_⟩,.inr ⟨h.length,rfl,by simp,nR _⟩,(Low.refl _ _).push (nR _)⟩;obtain⟨n,rfl⟩:∃k,n=k+1:=⟨n - 1,by omega⟩;have hap:∀st:St,AE.appendop 6 80 (.slice 6 [] .lit) (.slice 6 (x::xs) .any) st=some (.slice 6 (x::xs) (.tok st.h.length),alloc (.tok 6 (x::xs).length) st):=fun st=>by simp only[AE.appendop,qb6,hc,List.isEmpty_cons,bF,if_false,true_or,List.length_nil,Nat.zero_add,hroom,and_self,if_true,List.nil_append,show 0<6 from by decide]
   simp only[qbw,hC,qby,af75_eq];simp[qez,b75,qay,qgg,evOp,qbl,putD,eput,eget,ax,eqop,qf5,qcw,hap,alloc,oval,resv,qc9,tidy,below]
def qmx:List (Tm×Tm)->List Tm
 |[]=>[]
 |c::cs=>c.1::c.2::qmx cs
theorem qkt:∀cs ds:List (Tm×Tm),qmx (cs++ds)=qmx cs++qmx ds
 |[],ds=>rfl
 |c::cs,ds=>by simp only[List.cons_append,qmx,qkt cs ds]
theorem qks:∀cs:List (Tm×Tm),(qmx cs).length=2*cs.length
 |[]=>rfl
 |c::cs=>by simp only[qmx,List.length_cons,qks cs];omega
set_option maxRecDepth 8000 in
include hT in
theorem qsy{cs:List (Tm×Tm)}{zc:Nat}{ps:List PV}{mc:SM}(hzc:ps=[]∨zc=6)(hC:qjp cs ps)(hcn:cs.length≤100)(h:Hp):
 ∃b:Bool,Ev T 37 [.slice zc ps mc] h (.val (.bool b),⟨h,[],[]⟩)∧True:=by
 refine Ev.walkP (r:=fun b:Bool=>(.val (.bool b),⟨h,[],[]⟩)) (hT.sp _ (by decide)) ((hT.fn _).trans fn37) (hT.mode _) rfl ?_;have hcl:=hC.1;simp(disch:=omega) only[go_sem]
 refine wpC.loopM (fun g e st=> ∃(i:Nat)(H:Hp)(ws:List Nat)(v:PV)(es:List PV),i+g=ps.length∧Low h.length h H∧(∀x∈ws,h.length≤x)∧AppW H v es 3 h.length∧EncL (qmx (cs.take i)) es∧(eget e 3=v∧eget e 6=.slice zc ps mc∧eget e 7=iv (ps.length:Int)∧eget e 8=iv (i:Int))∧st=⟨H,ws,[]⟩) ?_ ps.length _ _
  ⟨0,h,[],.slice 0 [] .nil,[],by omega,Low.refl _ _,by simp,.inl ⟨rfl,0,.nil,rfl,rfl⟩,⟨rfl,fun i x p hx=>by simp[qmx]at hx⟩,by simp only[go_sem,Ag],rfl⟩
 rintro g e st ⟨i,H,ws,v,es,hi,low,hw,hA,hE,⟨e3,e6,e7,e8⟩,rfl⟩;have hHl:=low.len;by_cases h1:i<ps.length
 · have h1':(i:Int)< (ps.length:Int):=by omega
   have ga:=qb1 h1;have hx:cs[i]?=some cs[i]:=Ab (by omega);have htk:cs.take (i+1)=cs.take i++[cs[i]]:=by rw[tS (by omega)]
   have hEP:=hC.2 i _ _ hx ga
   have hzc6:zc=6:=by
    rcases hzc with rfl|h
    ·simp at h1
    ·exact h
   subst hzc6;generalize cs[i]=c at*;obtain⟨p1,p2,p3,p4,p5,_⟩:=hEP.facts;obtain⟨ka,na,za,ea,kb,nb,zb,eb,hp,hEa,hEb⟩:=hEP;generalize ps[i]=P at*;have sb:=qa6 (h:=H) (ws:=ws) (ups:=[]) (z:=zq6) (sz:=6) (c:=P) p1 rfl p2 p4 ⟨_,rfl⟩ p3;have k5:=gC (l:=H) (a:=row 6 [P]);have low9:=low.push (o:=row 6 [P]) (by omega);have hw9:∀y∈wadd H.length ws,h.length≤y:=qad (by omega) hw;have A9:=hA.push (o:=row 6 [P]);generalize hH9:H++[row 6 [P]]=H9 at*;generalize hk9:H.length=n5 at*;obtain⟨A,hA'⟩:∃A,A=PV.agg [iv ka,iv na,.slice za ea .any]:=⟨_,rfl⟩;obtain⟨B,hB'⟩:∃B,B=PV.agg [iv kb,iv nb,.slice zb eb .any]:=⟨_,rfl⟩;rw[←hA']at hEa;rw[←hB']at hEb;have lA:loadAt true 3 (.ptr n5 0 0 1) H9=some A:=by rw[qac k5,hp,hA'];rfl
   have lB:loadAt true 3 (.ptr n5 0 3 1) H9=some B:=by rw[qac k5,hp,hB'];rfl
   obtain⟨x1,x2,x3,_⟩:=hEa.cells;obtain⟨y1,y2,y3,_⟩:=hEb.cells;have fe2:qcw 3 (List.replicate 2 (.agg [iv 0,iv 0,.slice 0 [] .nil])) [(0,A),(1,B)]=some [A,B]:=by simp[qcw,x1,x3,y1,y3]
   have hEl:=hE.1;rw[qks,lT]at hEl;obtain⟨H',fw,v',ap,A',low',hfw⟩:=qer (bytes:=40) (xs:=[A,B]) (zx:=3) (mx:=.lit) A9 (.inr rfl) (by simp only[List.all_cons,List.all_nil,x2,y2,Bool.and_self]) (by omega) (by simp;omega) (by decide) low9.len;simp(disch:=omega) only[go_sem,a37b0,e3,e6,e7,e8,h1',ga,p5,hk9,sb,lA,lB,fe2,ap,Ae];refine⟨g - 1,by omega,i+1,H',_,_,_,by omega,low9.trans low',hfw _ hw9,A',?_,⟨rfl,rfl⟩,rfl⟩;rw[htk,qkt];have:=(hE.snoc hEa).snoc hEb;simpa[qmx]using this
 · have h1':¬(i:Int)< (ps.length:Int):=by omega
   obtain⟨z,m,rfl,hz⟩:=hA.form;obtain⟨b,ev,_⟩:=qsz hT (lim:=100) ⟨by omega,by omega⟩ (m:=m) hz hE.1 hE.2 H;have td:=qaj (v:=.bool b) (ws:=ws) rfl rfl low hw;simp(disch:=omega) only[go_sem,a37b0,e3,e7,e8,h1',cb ev,hT.prim,qab,td];exact⟨b,rfl,trivial⟩
theorem qdd(cs:List (Tm×Tm)):qjp cs (cs.map qah):=⟨by simp,fun i c p hc hp=>by rw[gM,hc]at hp;cases hp;exact qq5 c⟩
theorem qjp.snoc{cs:List (Tm×Tm)}{ps:List PV}{c:Tm×Tm}{p:PV}(h:qjp cs ps)(hp:EncP c p):qjp (cs++[c]) (ps++[p]):=by
 have hl:=h.1;refine⟨by simp[hl],fun i d q h1 h2=>?_⟩;by_cases hi:i<cs.length
 · rw[gL hi]at h1;rw[gL (by omega)]at h2;exact h.2 i _ _ h1 h2
 · rw[gR (by omega)]at h1;rw[gR (by omega),hl]at h2;cases hk:i - cs.length with
   |zero=>
     rw[hk]at h1 h2;simp only[List.getElem?_cons_zero,Option.some.injEq]at h1 h2;subst h1 h2;exact hp
   |succ k=>
     rw[hk]at h1;simp at h1
theorem qq6{cs ds:List (Tm×Tm)}{ps qs:List PV}(h:qjp cs ps)(h':qjp ds qs):qjp (cs++ds) (ps++qs):=by
 have hl:=h.1;refine⟨by simp[hl,h'.1],fun i x p hx hp=>?_⟩;by_cases hi:i<cs.length
 · rw[gL hi]at hx;rw[gL (by omega)]at hp;exact h.2 i _ _ hx hp
 · rw[gR (by omega)]at hx;rw[gR (by omega),hl]at hp;exact h'.2 _ _ _ hx hp
theorem EncP.pw{c:Tm×Tm}{P:PV}(h:EncP c P):P.pure=true∧P.weak=P:=by
 obtain⟨ka,na,za,ea,kb,nb,zb,eb,hP,hEa,hEb⟩:=h;obtain⟨_,a2,a3⟩:=hEa.facts;obtain⟨_,b2,b3⟩:=hEb.facts;rw[hP];simp only[PV.pure,qat,PV.weak,qau,Bool.and_true,PV.agg.injEq,List.cons.injEq,and_true,true_and,Bool.true_and]at a2 a3 b2 b3⊢;refine⟨?_,?_⟩
 ·rw[a2,b2];rfl
 ·exact⟨a3,b3⟩
theorem qoy:∀{cs:List (Tm×Tm)}{ps:List PV},qjp cs ps->qat ps=true∧qau ps=ps
 |[],ps,h=>by
   have:ps=[]:=lZ.1 h.1;subst this;exact⟨rfl,rfl⟩
 |c::cs,[],h=>by have:=h.1;simp at this
 |c::cs,p::ps,h=>by obtain⟨h1,h2⟩:=qoy (cs:=cs) (ps:=ps) ⟨by have:=h.1;simpa using this,fun i x p hx hp=>h.2 (i+1) x p hx hp⟩;obtain⟨h3,h4⟩:=(h.2 0 c p rfl rfl).pw;simp[qat,qau,h1,h2,h3,h4]
theorem qil{cs:List (Tm×Tm)}{ps:List PV}(h:qjp cs ps):ps.all (fun e=>e.cells.all PV.isCell)=true:=by rw[List.all_eq_true];intro p hp;obtain⟨i,hi,rfl⟩:=List.getElem_of_mem hp;have hl:=h.1;exact(h.2 i _ _ (Ab (by omega)) (Ab hi)).facts.2.1
theorem qhr(l:List Int):(l.map encI).all (fun e=>e.cells.all PV.isCell)=true:=by rw[List.all_eq_true];intro p hp;obtain⟨i,_,rfl⟩:=mM.1 hp;rfl
theorem qnc{t:GTy}{nv:PV->PV×Int}{nt:Tm->PV×Int}{r:Int}{dom:List (List Tm)}{vs:List Int}{cs:List (Tm×Tm)}(A:SolOk t nv r dom vs cs):∀x∈solL nt dom vs cs,x.length≤64∧∀u∈x,u.nodes≤4000:=fun x hx=>by
 have hx:=(List.mem_filter.1 hx).1;obtain⟨h1,h2⟩:=qi5 hx;rw[lM]at h1;have D1:=(A.dom.yes (by decide)).1;refine⟨by have:=A.nV;omega,fun u hu=>?_⟩;obtain⟨i,hi,rfl⟩:=List.getElem_of_mem hu;have hv:i<vs.length:=by omega
 have hin:=h2 i _ (atL dom vs[i]) (Ab hi) (by rw[gM,Ab hv];rfl);have hvi:=A.vars _ (Af hv);obtain⟨K,hK⟩:=iZ hvi.1;rw[hK]at hin;have hKd:K<dom.length:=by rw[D1.1];omega
 have:=qbi ((D1.sorted (qo8 hKd)).2 _ hin);omega
set_option maxRecDepth 8000 in
include hT in
theorem both14_ok(hg5:T.sp 155=some (qcj 1 8))(hg9:T.sp 159=some (qcj 3 40))(hI:T.iter 182=some itG){t:GTy}{r:Int}(I:TyIn T t r){nt:Tm->PV×Int}(N:NTm T t nt){nv:PV->PV×Int}(NV:NVal T t nv){dom:List (List Tm)}(hd:dom.length<1000){vs ws:List Int}{cs os:List (Tm×Tm)}(A:SolOk t nv r dom vs cs)(B:SolOk t nv r dom ws os)(hvn:vs.length+ws.length≤20)(hcn:cs.length+os.length≤8)
 {aa bs qs:List PV}{za zb zq:Nat}{mq:SM}(ha:aa=[]∨za=1)(hb:bs=[]∨zb=1)(hq:qs=[]∨zq=6)(RA:qjo (solL nt dom vs cs) aa)(RB:qjo (solL nt dom ws os) bs)(la:aa.length≤4000)(lb:bs.length≤4000)(hQ:qjp (cs++os.map (shP vs.length)) qs)
 {h H:Hp}{wz:List Nat}(low:Low h.length h H)(hw:∀x∈wz,h.length≤x)(k6:H[h.length]?=some (.row 3 [qan t]))
 {e:List PV}(e1:eget e 1=domV dom)(e2:eget e 2=.slice 1 (vs.map encI) .any)(e3:eget e 3=.slice 1 (ws.map encI) .any)(e6:eget e 6=.ptr h.length 0 0 1)(e13:eget e 13=.slice za aa .any)(e15:eget e 15=.slice zb bs .any)(e17:eget e 17=.slice zq qs mq):
 wpC T a14s e ⟨H,wz,[]⟩ (fin [.t 12] 0 h.length fun p=>p=(.val (.bool true),⟨h,[],[]⟩)):=by
 unfold a14s;have lt:loadAt true 3 (.ptr h.length 0 0 1) H=some (qan t):=by rw[qac k6];rfl
 obtain⟨z,evc,hz⟩:=qme hT hg5 (xs:=vs.map encI) (ys:=ws.map encI) (ma:=.any) (mb:=.any) (m:=.lit) (.inr rfl) (.inr rfl) (qhr vs) (qhr ws) (by simp;omega) (by simp;omega) (qfj vs) (qfj ws) H;rw[←List.map_append]at evc;have hz:vs++ws=[]∨z=1:=hz.imp (fun h=>by simpa using h) id;have fe:qcw 1 (List.replicate 2 (.slice 0 [] .nil)) [(0,PV.slice 1 (vs.map encI) .any),(1,PV.slice 1 (ws.map encI) .any)]=some [.slice 1 (vs.map encI) .any,.slice 1 (ws.map encI) .any]:=rfl;obtain⟨⟨xz,xs,xe⟩,ev,hx0,hx2⟩:=qod hT hI I N NV hd (vs:=vs++ws) (mv:=.any) hz (by simp;omega) (mc:=mq) hq hQ (by simp;omega) H;simp only[SolX.v]at ev hx0 hx2;have AB:=A.both B (by omega) (by omega);have td:=qaj (v:=.bool true) (ws:=wz) rfl rfl low hw;by_cases hxe:xe=0;rotate_left
 · have h2:xe=2:=(hx2 AB).resolve_left hxe;subst h2;have hb2:((2:Int) !=0)=true:=rfl;have hb3:((2:Int)==2)=true:=rfl;simp(disch:=first|omega|decide|simp only[go_sem]) only[go_sem,e1,e2,e3,e6,e17,lt,fe,cb evc,cb ev,hb2,hb3,hT.prim,qab,td,fin]
 subst hxe;obtain⟨_,hxz,RL,_⟩:=hx0 rfl;rw[solL_both A B]at RL;have hb0:((0:Int) !=0)=false:=rfl;simp(disch:=first|omega|decide|simp only[go_sem]) only[go_sem,e1,e2,e3,e6,e17,lt,fe,cb evc,cb ev,hb0,hT.q];refine comp14_ok hT hg9 RA RB RL ha hb hxz la lb (qnc A) (qnc B) low ?_ (by simp) ?_ ?_ ?_
 · first
    |exact hw
    |(intro x hx;repeat' first|exact hw x hx|(cases hx;done)|(rcases qaz hx with hx|hx)|(rcases qbe hx with hx|hx))
 all_goals simp only[go_sem,e13,e15]
set_option maxRecDepth 8000 in
include hT in
theorem rest14_ok(hC:T.sp 75=some (qby af75))(hg5:T.sp 155=some (qcj 1 8))(hg9:T.sp 159=some (qcj 3 40))(hI:T.iter 182=some itG){t:GTy}{r:Int}(I:TyIn T t r){nt:Tm->PV×Int}(N:NTm T t nt){nv:PV->PV×Int}(NV:NVal T t nv){dom:List (List Tm)}(hd:dom.length<1000){vs ws:List Int}{cs os:List (Tm×Tm)}(A:SolOk t nv r dom vs cs)(B:SolOk t nv r dom ws os)(hvn:vs.length+ws.length≤20)(hcn:cs.length+os.length≤8)
 {aa bs:List PV}{za zb:Nat}(ha:aa=[]∨za=1)(hb:bs=[]∨zb=1)(RA:qjo (solL nt dom vs cs) aa)(RB:qjo (solL nt dom ws os) bs)(la:aa.length≤4000)(lb:bs.length≤4000)
 {h H1:Hp}(low1:Low h.length h H1)(hl1:H1.length=h.length+1)(k1:H1[h.length]?=some (.row 3 [qan t]))
 {e:List PV}(e1:eget e 1=domV dom)(e2:eget e 2=.slice 1 (vs.map encI) .any)(e3:eget e 3=.slice 1 (ws.map encI) .any)(e4:eget e 4=.slice 6 (cs.map qah) .any)(e5:eget e 5=.slice 6 (os.map qah) .any)(e6:eget e 6=.ptr h.length 0 0 1)(e13:eget e 13=.slice za aa .any)(e15:eget e 15=.slice zb bs .any):
 wpC T a14r e ⟨H1,[],[]⟩ (fin [.t 12] 0 h.length fun p=>p=(.val (.bool true),⟨h,[],[]⟩)):=by
 unfold a14r;obtain⟨v0,H2,evc,A0,low2⟩:=clone75_ev hC (xs:=cs.map qah) (z:=6) (.inr rfl) (by simp;omega) (qil (qdd cs)) H1;have lenos:lenOf (.slice 6 (os.map qah) .any)=some os.length:=by simp[lenOf]
 simp(disch:=omega) only[go_sem,e4,e5,cb evc,lenos,hT.prim,qab]
 refine wpC.loopM (fun g e st=> ∃(i:Nat)(H:Hp)(wz:List Nat)(v:PV)(qs:List PV),i+g=os.length∧Low (h.length+1) H1 H∧(∀x∈wz,h.length+1≤x)∧AppW H v qs 6 (h.length+1)∧qjp (cs++(os.take i).map (shP vs.length)) qs∧(eget e 1=domV dom∧eget e 2=.slice 1 (vs.map encI) .any∧eget e 3=.slice 1 (ws.map encI) .any∧eget e 6=.ptr h.length 0 0 1∧eget e 13=.slice za aa .any∧eget e 15=.slice zb bs .any∧eget e 17=v∧eget e 97=.slice 6 (os.map qah) .any∧eget e 98=iv (os.length:Int)∧eget e 99=iv (i:Int))∧st=⟨H,wz,[]⟩) ?_ os.length _ _
  ⟨0,H2,_,v0,cs.map qah,by omega,by rw[←hl1];exact low2,by simp,by rw[←hl1];exact A0,by simpa using qdd cs,by simp only[go_sem,e1,e2,e3,e6,e13,e15,Ag],rfl⟩
 clear e1 e2 e3 e4 e5 e6 e13 e15;rintro g e st ⟨i,H,wz,v,qs,hi,low,hw,hA,hQ,⟨e1,e2,e3,e6,e13,e15,e17,e97,e98,e99⟩,rfl⟩;have hHl:=low.len;by_cases h1:i<os.length;rotate_left
 · have h1':¬(i:Int)< (os.length:Int):=by omega
   rw[tL (by omega)]at hQ;obtain⟨zq,mq,rfl,hzq⟩:=hA.form;simp(disch:=omega) only[go_sem,a14b0,e98,e99,h1'];refine both14_ok hT (mq:=mq) hg5 hg9 hI I N NV hd A B hvn hcn ha hb hzq RA RB la lb hQ (low1.comp low (by omega)) (fun x hx=>by have:=hw x hx;omega) (low.get (by omega) k1) ?_ ?_ ?_ ?_ ?_ ?_ ?_<;>simp only[go_sem,e1,e2,e3,e6,e13,e15,e17]
 have h1':(i:Int)< (os.length:Int):=by omega
 have hx:os[i]?=some os[i]:=Ab h1;have ga:(os.map qah)[i]?=some (qah os[i]):=by rw[gM,hx];rfl
 have htk:os.take (i+1)=os.take i++[os[i]]:=by rw[tS h1]
 have hso:=B.conds _ (Af h1);generalize os[i]=c at*;have hEP:=qq5 c;generalize qah c=P at*;obtain⟨⟨tr1,tr2⟩,⟨vb1,vb2⟩,_⟩:=hso.facts;obtain⟨p1,p2,p3,p4,p5,_⟩:=hEP.facts;obtain⟨ka,na,za',ea,kb,nb,zb',eb,hp,hEa,hEb⟩:=hEP;have hwl:=B.nV;have sb:=qa6 (h:=H) (ws:=wz) (ups:=[]) (z:=zq6) (sz:=6) (c:=P) p1 rfl p2 p4 ⟨_,rfl⟩ p3;have k5:=gC (l:=H) (a:=row 6 [P]);have low9:=low.push (o:=row 6 [P]) (by omega);have hw9:∀y∈wadd H.length wz,h.length+1≤y:=qad (by omega) hw;have A9:=hA.push (o:=row 6 [P]);have hl9:(H++[row 6 [P]]).length=H.length+1:=by simp
 generalize hH9:H++[row 6 [P]]=H9 at*;generalize hk9:H.length=n5 at*;obtain⟨A',hA'⟩:∃A,A=PV.agg [iv ka,iv na,.slice za' ea .any]:=⟨_,rfl⟩;obtain⟨B',hB'⟩:∃B,B=PV.agg [iv kb,iv nb,.slice zb' eb .any]:=⟨_,rfl⟩;rw[←hA']at hEa;rw[←hB']at hEb;have lA:loadAt true 3 (.ptr n5 0 0 1) H9=some A':=by rw[qac k5,hp,hA'];rfl
 obtain⟨q1,ev1,hq1⟩:=shift_ev hT hwl (d:=vs.length) (by omega) hEa tr1 vb1 H9;obtain⟨x1,x2,x3,x4⟩:=hq1.cells;have sb1:=fun wz=>qa6 (h:=H9) (ws:=wz) (ups:=[]) (z:=zq3) (sz:=3) (c:=q1) x1 rfl x2 hq1.facts.1 ⟨_,rfl⟩ x4;have k20:=gC (l:=H9) (a:=row 3 [q1]);have k5a:=qag (o2:=row 3 [q1]) k5;have low10:=low9.push (o:=row 3 [q1]) (by omega);have hw10:∀y∈wadd H9.length (wadd n5 wz),h.length+1≤y:=qad (by omega) hw9;have A10:=A9.push (o:=row 3 [q1]);have hl10:(H9++[row 3 [q1]]).length=H9.length+1:=by simp
 generalize hH10:H9++[row 3 [q1]]=H10 at*;generalize hk20:H9.length=n20 at*;have lB:loadAt true 3 (.ptr n5 0 3 1) H10=some B':=by rw[qac k5a,hp,hB'];rfl
 obtain⟨q2,ev2,hq2⟩:=shift_ev hT hwl (d:=vs.length) (by omega) hEb tr2 vb2 H10;obtain⟨y1,y2,y3,y4⟩:=hq2.cells;have sb2:=fun wz=>qa6 (h:=H10) (ws:=wz) (ups:=[]) (z:=zq3) (sz:=3) (c:=q2) y1 rfl y2 hq2.facts.1 ⟨_,rfl⟩ y4;have k22:=gC (l:=H10) (a:=row 3 [q2]);have k20b:=qag (o2:=row 3 [q2]) k20;have low11:=low10.push (o:=row 3 [q2]) (by omega);have hw11:∀y∈wadd H10.length (wadd n20 (wadd n5 wz)),h.length+1≤y:=qad (by omega) hw10;have A11:=A10.push (o:=row 3 [q2]);generalize hH11:H10++[row 3 [q2]]=H11 at*;generalize hk22:H10.length=n22 at*;have l20:loadAt true 3 (.ptr n20 0 0 1) H11=some q1:=by rw[qac k20b];exact hq1.sub
 have l22:loadAt true 3 (.ptr n22 0 0 1) H11=some q2:=by rw[qac k22];exact hq2.sub
 obtain⟨X,hX,fb⟩:∃X,EncP (shP vs.length c) X∧∃xs,X=.agg xs∧qdc [PV.int .i64 0,iv 0,.slice 0 [] .nil,iv 0,iv 0,.slice 0 [] .nil] [(0,3,q1),(3,3,q2)]=some xs:=by obtain⟨k1',n1',l1',s1',es1',_,rfl,_,_⟩:=hq1.eq;obtain⟨k2',n2',l2',s2',es2',_,rfl,_,_⟩:=hq2.eq;exact⟨_,⟨k1',n1',s1',es1',k2',n2',s2',es2',rfl,hq1,hq2⟩,_,rfl,rfl⟩
 obtain⟨xs,hXs,fb⟩:=fb;obtain⟨X1,X2,_,_,_,X6⟩:=hX.facts;have fe6:qcw 6 (List.replicate 1 zq6) [(0,PV.agg xs)]=some [.agg xs]:=by rw[←hXs];simp[qcw,X1,X6]
 rw[hXs]at hX X2;have hQl:=hQ.1;rw[Ah,lM,lT]at hQl;obtain⟨H',fw,v',ap,A12,low12,hfw⟩:=qer (bytes:=80) (xs:=[.agg xs]) (zx:=6) (mx:=.lit) A11 (.inr rfl) (by simp only[List.all_cons,List.all_nil,X2,Bool.and_self]) (by omega) (by simp;omega) (by decide) (by have:=low11.len;omega);have hb0:((0:Int) !=0)=false:=rfl;have lenv:lenOf (.slice 1 (vs.map encI) .any)=some vs.length:=by simp[lenOf]
 simp(disch:=omega) only[go_sem,a14b0,e1,e2,e3,e6,e13,e15,e17,e97,e98,e99,h1',ga,p5,hk9,sb,lA,lenv,cb ev1,hk20,sb1,lB,cb ev2,hk22,sb2,hb0,l20,l22,fb,fe6,ap,hT.q];refine⟨g - 1,by omega,i+1,H',_,_,_,by omega,low11.trans low12,hfw _ hw11,A12,?_,⟨rfl,rfl⟩,rfl⟩
 · rw[htk,List.map_append,←List.append_assoc];exact hQ.snoc hX
set_option maxRecDepth 20000 in
include hT in
theorem parts_law(hC:T.sp 75=some (qby af75))(hg4:T.sp 154=some (qcj 6 80))(hg5:T.sp 155=some (qcj 1 8))(hg9:T.sp 159=some (qcj 3 40))(hI:T.iter 182=some itG)(E15:∀h,Ev T 15 [] h (.val (.bool true),⟨h,[],[]⟩)){t:GTy}(ETy:LittleP t->∃r,TyIn T t r∧∃nt,NTm T t nt)(dom:List (List Tm)){vs ws:List Int}{cs os:List (Tm×Tm)}(lv:vs.length≤35184372088832)(lw:ws.length≤35184372088832)(lc:cs.length≤35184372088832)(lo:os.length≤35184372088832)(h:Hp):
 Ev T 14 [qan t,domV dom,.slice 1 (vs.map encI) .any,.slice 1 (ws.map encI) .any,.slice 6 (cs.map qah) .any,.slice 6 (os.map qah) .any] h (.val (.bool true),⟨h,[],[]⟩):=by
 refine Ev.walk (mode:=0) (hT.sp _ (by decide)) ((hT.fn _).trans fn14') (show T.mode 14=0 from hT.mode 14) rfl ?_;have k1:=gC (l:=h) (a:=row 3 [qan t]);have low1:Low h.length h (h++[row 3 [qan t]]):=(Low.refl _ _).push (nR _);have hl1:(h++[row 3 [qan t]]).length=h.length+1:=by simp
 generalize hH1:h++[row 3 [qan t]]=H1 at*;have lt:loadAt true 3 (.ptr h.length 0 0 1) H1=some (qan t):=by rw[qac k1];rfl
 have td:tidy 0 h.length (.val (.bool true)) ⟨H1,[],[]⟩=(.val (.bool true),⟨h,[],[]⟩):=qaj rfl rfl low1 (by simp);have e15:=cb (E15 H1);have lvs:lenOf (.slice 1 (vs.map encI) .any)=some vs.length:=by simp[lenOf]
 have lws:lenOf (.slice 1 (ws.map encI) .any)=some ws.length:=by simp[lenOf]
 have lcs:lenOf (.slice 6 (cs.map qah) .any)=some cs.length:=by simp[lenOf]
 have los:lenOf (.slice 6 (os.map qah) .any)=some os.length:=by simp[lenOf]
 obtain⟨b1,ev1,hb1⟩:=little_ev hT t H1;cases b1
 ·simp(disch:=omega) only[go_sem,hH1,qbz,qb0,e15,lt,cb ev1,Bool.not_false,Bool.not_true,hT.prim,qab,td]
 have hLit:=hb1 rfl;obtain⟨r,I,nt,N⟩:=ETy hLit;obtain⟨b2,ev2,hb2⟩:=plain_ev hT dom H1;have ev2:Ev T 24 [domV dom] H1 _:=ev2;cases b2
 ·simp(disch:=omega) only[go_sem,hH1,qbz,qb0,e15,lt,cb ev1,cb ev2,Bool.not_false,Bool.not_true,hT.prim,qab,td]
 obtain⟨hd,hpl⟩:=hb2 rfl;by_cases h8:(8:Int)< (cs.length:Int)+(os.length:Int)
 ·simp(disch:=omega) only[go_sem,hH1,qbz,qb0,e15,lt,cb ev1,cb ev2,lcs,los,h8,Bool.not_true,hT.prim,qab,td]
 obtain⟨z3,ev3,hz3⟩:=qs9 hT hg4 (xs:=cs.map qah) (ys:=os.map qah) (ma:=.any) (mb:=.any) (m:=.lit) (.inr rfl) (.inr rfl) (qil (qdd cs)) (qil (qdd os)) (by simp;omega) (by simp;omega) (qoy (qdd cs)) (qoy (qdd os)) H1;have fe3:qcw 1 (List.replicate 2 (.slice 0 [] .nil)) [(0,PV.slice 6 (cs.map qah) .any),(1,PV.slice 6 (os.map qah) .any)]=some [.slice 6 (cs.map qah) .any,.slice 6 (os.map qah) .any]:=rfl;obtain⟨b4,ev4,_⟩:=qsy hT (mc:=.any) hz3 (qq6 (qdd cs) (qdd os)) (by simp;omega) H1;cases b4
 ·simp(disch:=omega) only[go_sem,hH1,qbz,qb0,e15,lt,cb ev1,cb ev2,lcs,los,h8,fe3,cb ev3,cb ev4,Bool.not_false,Bool.not_true,hT.prim,qab,td]
 by_cases h20:(20:Int)< (vs.length:Int)+(ws.length:Int)
 ·simp(disch:=omega) only[go_sem,hH1,qbz,qb0,e15,lt,cb ev1,cb ev2,lvs,lws,lcs,los,h8,fe3,cb ev3,cb ev4,h20,Bool.not_true,hT.prim,qab,td]
 obtain⟨z5,ev5,hz5⟩:=qme hT hg5 (xs:=vs.map encI) (ys:=ws.map encI) (ma:=.any) (mb:=.any) (m:=.lit) (.inr rfl) (.inr rfl) (qhr vs) (qhr ws) (by simp;omega) (by simp;omega) (qfj vs) (qfj ws) H1;rw[←List.map_append]at ev5;have hz5:vs++ws=[]∨z5=1:=hz5.imp (fun h=>by simpa using h) id;have fe5:qcw 1 (List.replicate 2 (.slice 0 [] .nil)) [(0,PV.slice 1 (vs.map encI) .any),(1,PV.slice 1 (ws.map encI) .any)]=some [.slice 1 (vs.map encI) .any,.slice 1 (ws.map encI) .any]:=rfl;obtain⟨b6,ev6,_⟩:=lightZ_ev hT (dom:=dom) (fun l hl=>by have:=(hpl l hl).1;omega) (lists:=[vs++ws]) (f:=fun _=>z5) (fun l hl=>by rw[mS]at hl;rw[hl];exact hz5) (z:=1) (m:=.lit) (.inr rfl) (by simp) H1;have ev6:Ev T 38 [domV dom,.slice 1 [.slice z5 ((vs++ws).map encI) .any] .lit] H1 _:=ev6;have fe6:qcw 1 (List.replicate 1 (.slice 0 [] .nil)) [(0,PV.slice z5 ((vs++ws).map encI) .any)]=some [.slice z5 ((vs++ws).map encI) .any]:=rfl;cases b6
 ·simp(disch:=omega) only[go_sem,hH1,qbz,qb0,e15,lt,cb ev1,cb ev2,lvs,lws,lcs,los,h8,fe3,cb ev3,cb ev4,h20,fe5,cb ev5,fe6,cb ev6,Bool.not_false,Bool.not_true,hT.prim,qab,td]
 obtain⟨nv,NV,_⟩:=N.val;obtain⟨⟨az,aa,ae⟩,ev7,ha,_⟩:=qod hT hI I N NV (dom:=dom) (by omega) (vs:=vs) (zv:=1) (mv:=.any) (.inr rfl) (by omega) (cs:=cs) (zc:=6) (mc:=.any) (.inr rfl) (qdd cs) (by omega) H1;obtain⟨⟨bz,bs,be⟩,ev8,hb,_⟩:=qod hT hI I N NV (dom:=dom) (by omega) (vs:=ws) (zv:=1) (mv:=.any) (.inr rfl) (by omega) (cs:=os) (zc:=6) (mc:=.any) (.inr rfl) (qdd os) (by omega) H1;simp only[SolX.v]at ev7 ev8 ha hb;have hb0:((0:Int) !=0)=false:=rfl;by_cases hae:ae=0;rotate_left
 · have hab:(ae !=0)=true:=by simpa using hae
   simp(disch:=omega) only[go_sem,hH1,qbz,qb0,e15,lt,cb ev1,cb ev2,lvs,lws,lcs,los,h8,fe3,cb ev3,cb ev4,h20,fe5,cb ev5,fe6,cb ev6,cb ev7,cb ev8,hab,Bool.not_true,hT.prim,qab,td]
 subst hae;by_cases hbe:be=0;rotate_left
 · have hab:(be !=0)=true:=by simpa using hbe
   simp(disch:=omega) only[go_sem,hH1,qbz,qb0,e15,lt,cb ev1,cb ev2,lvs,lws,lcs,los,h8,fe3,cb ev3,cb ev4,h20,fe5,cb ev5,fe6,cb ev6,cb ev7,cb ev8,hb0,hab,Bool.not_true,hT.prim,qab,td]
 subst hbe;obtain⟨A,haz,RA,la⟩:=ha rfl;obtain⟨B,hbz,RB,lb⟩:=hb rfl;simp(disch:=omega) only[go_sem,hH1,qbz,qb0,e15,lt,cb ev1,cb ev2,lvs,lws,lcs,los,h8,fe3,cb ev3,cb ev4,h20,fe5,cb ev5,fe6,cb ev6,cb ev7,cb ev8,hb0,Bool.not_true,hT.q];refine rest14_ok hT hC hg5 hg9 hI I N NV (by omega) A B (by omega) (by omega) haz hbz RA RB la lb low1 hl1 k1 ?_ ?_ ?_ ?_ ?_ ?_ ?_ ?_<;>simp only[go_sem]
end Go.Proofs.Tryz
