/- Texts of the proof, one behind the other: ValQS, ValQT, ValQL, ValQM, ValQN, ValQU, ValN13, ValN14, ValQV. -/
import Derived.Test.YtekepgfmgeophaaGreatPartAP
import Derived.Test.YtekepgfmgeophaaGreatPartAN
set_option linter.unusedVariables false
set_option linter.unusedSimpArgs false
namespace Go.Proofs.Tryz
open Go Go.AE
open Go.AE.Obj (row)
variable {T:Tbl}(hT:Std T){s:GSig}
structure TyIn (T:Tbl)(t:GTy)(r:Int):Prop where
 E103:∀h,Ev T 103 [qan t] h (.val (iv r),⟨h,[],[]⟩)
 ok:r=0->TypP t
 G:r=0->GOk t.sig
 E87:r=0->∀h,Ev T 87 [qae t.sig] h (.val (iv 0),⟨h,[],[]⟩)
@[go_sem] theorem writes_lookup{kk:KK}{z:PV}{ok:Bool}{m i:AX}{ws:List Nat}:qbj (.lookup kk z ok m i) ws=ws:=rfl
@[go_sem] theorem reads_lookup{kk:KK}{z:PV}{ok:Bool}{m i:AX}{e:List PV}{n:Nat}:qba (.lookup kk z ok m i) true e n=qek (ax e m)++qek (ax e i):=by simp[qba,qbr,AOp.axs,qep]
def sysN(t:GTy)(kb:Nat):PV:=.agg [.slice 1 (t.sig.sorts.map .str) .any,.slice 3 (t.sig.ops.map qap) .any,.slice 8 (t.eqns.map qak) .any,.map (some kb),.nilFunc]
theorem st_sys{H:Hp}{t:GTy}{k kb kf:Nat}(hk:H[k]?=some (.row 5 [sysN t kb]))(ups:List (Nat×Nat)):
 ∃ups',(∀ws,storeAt 1 (.ptr k 0 4 1) (.func (.func 233) [] [.ptr kf 0 0 1]) ⟨H,ws,ups⟩=some ⟨H.set k (.row 5 [sysV t kb kf]),wadd k ws,ups'⟩)∧∀x∈ups',x∈ups∨x.1=k:=by
 have hu:upd (sysN t kb) 4 (.func (.func 233) [] [.ptr kf 0 0 1])=some (sysV t kb kf):=rfl;have h1:∀ws,storeAt 1 (.ptr k 0 4 1) (.func (.func 233) [] [.ptr kf 0 0 1]) ⟨H,ws,ups⟩=some (wrote k (.row 5 [sysV t kb kf]) (PV.func (.func 233) [] [.ptr kf 0 0 1]).top ⟨H,ws,ups⟩):=fun ws=>by simp only[storeAt,hk,Ae,PV.cells,List.all_cons,List.all_nil,PV.isCell,Bool.and_self,and_self,if_true,List.getElem?_cons_zero,hu,Option.map,sC]
 cases ht:(PV.func (.func 233) [] [.ptr kf 0 0 1]).top with
 |none=>exact⟨ups,fun ws=>by rw[h1,ht,qas],fun x hx=>.inl hx⟩
 |some j=>
   refine⟨_,fun ws=>by rw[h1,ht,qch],fun x hx=>?_⟩;split at hx
   · rcases mN.1 hx with rfl|h
     ·exact .inr rfl
     ·exact .inl h
   ·exact .inl hx
structure OpenX where
 ks:Nat
 kf:Nat
 kb:Nat
 es:List (PV×PV)
 H:Hp
 ups:List (Nat×Nat)
structure OpenR (h:Hp)(t:GTy)(x:OpenX):Prop where
 low:Low h.length h x.H
 sys:SysH x.H x.ks x.kf x.kb t x.es
 by_:ByOk x.es t.eqns.length
 ups:∀y∈x.ups,h.length≤y.1
 ks:h.length≤x.ks
 kb:h.length≤x.kb
include hT in
theorem open_err{t:GTy}{r:Int}(I:TyIn T t r)(hr:r≠0)(h:Hp):Ev T 186 [qan t] h (.val (.tuple [.nilptr,iv r]),⟨h,[],[]⟩):=by
 refine hT.wk fn186 (by decide) ?_;have k1:=gC (l:=h) (a:=row 3 [qan t]);have low1:Low h.length h (h++[row 3 [qan t]]):=(Low.refl _ _).push (nR _);generalize hH1:h++[row 3 [qan t]]=H1 at*;have l1:loadAt true 3 (.ptr h.length 0 0 1) H1=some (qan t):=by rw[qac k1];rfl
 have hb:(r !=0)=true:=by simpa using hr
 have td:=qaj (v:=.tuple [.nilptr,iv r]) (ws:=[]) rfl rfl low1 (by simp);simp(disch:=omega) only[go_sem,hH1,qbz,qb0,l1,cb (I.E103 H1),hb,hT.prim,qab,td]
include hT in
theorem open_ok{t:GTy}(I:TyIn T t 0)(h:Hp):∃x:OpenX,Ev T 186 [qan t] h (.val (.tuple [.ptr x.ks 0 0 1,iv 0]),⟨x.H,[],x.ups⟩)∧OpenR h t x:=by
 refine hT.wp (r:=fun x:OpenX=>(.val (.tuple [.ptr x.ks 0 0 1,iv 0]),⟨x.H,[],x.ups⟩)) fn186 (by decide) ?_;have hnE:=(I.ok rfl).nE;have k1:=gC (l:=h) (a:=row 3 [qan t]);have low1:Low h.length h (h++[row 3 [qan t]]):=(Low.refl _ _).push (nR _);have hl1:(h++[row 3 [qan t]]).length=h.length+1:=by simp
 generalize hH1:h++[row 3 [qan t]]=H1 at*;have l1:loadAt true 3 (.ptr h.length 0 0 1) H1=some (qan t):=by rw[qac k1];rfl
 have n0:((0:Int) !=0)=false:=rfl;have b2:=gC (l:=H1) (a:=AE.Obj.map (setE []));have k12:=qag (o2:=AE.Obj.map (setE [])) k1;have low2:Low h.length h (H1++[AE.Obj.map (setE [])]):=low1.push (by omega);have hl2:(H1++[AE.Obj.map (setE [])]).length=h.length+2:=by simp;omega
 have e2:H1++[AE.Obj.map []]=H1++[AE.Obj.map (setE [])]:=rfl;generalize H1++[AE.Obj.map (setE [])]=H2 at*;generalize hkb:H1.length=kb at*;have fb:qdc [PV.slice 0 [] .nil,.slice 0 [] .nil,.slice 0 [] .nil,.map none,.nilFunc] [(0,3,qan t),(3,1,.map (some kb))]=some [.slice 1 (t.sig.sorts.map .str) .any,.slice 3 (t.sig.ops.map qap) .any,.slice 8 (t.eqns.map qak) .any,.map (some kb),.nilFunc]:=rfl;have s3:=gC (l:=H2) (a:=row 5 [sysN t kb]);have b3:=qag (o2:=row 5 [sysN t kb]) b2;have k13:=qag (o2:=row 5 [sysN t kb]) k12;have low3:=low2.push (o:=row 5 [sysN t kb]) (by omega);have hl3:(H2++[row 5 [sysN t kb]]).length=h.length+3:=by simp;omega
 have e3:H2++[row 5 [.agg [.slice 1 (t.sig.sorts.map .str) .any,.slice 3 (t.sig.ops.map qap) .any,.slice 8 (t.eqns.map qak) .any,.map (some kb),.nilFunc]]]=H2++[row 5 [sysN t kb]]:=rfl;generalize H2++[row 5 [sysN t kb]]=H3 at*;generalize hks:H2.length=ks at*;have sb:=qlr (h:=H3) (sz:=1) (ws:=[]) (ups:=[]) (c:=.nilptr) (v:=.ptr ks 0 0 1) rfl ⟨rfl,rfl⟩ (fun j hj=>by cases hj;omega);have f4:=gC (l:=H3) (a:=row 1 [.ptr ks 0 0 1]);have s4:=qag (o2:=row 1 [.ptr ks 0 0 1]) s3;have b4:=qag (o2:=row 1 [.ptr ks 0 0 1]) b3;have k14:=qag (o2:=row 1 [.ptr ks 0 0 1]) k13;have low4:=low3.push (o:=row 1 [.ptr ks 0 0 1]) (by omega);have hl4:(H3++[row 1 [.ptr ks 0 0 1]]).length=h.length+4:=by simp;omega
 generalize hH4:H3++[row 1 [.ptr ks 0 0 1]]=H4 at*;generalize hkf:H3.length=kf at*;have l2:loadAt false 1 (.ptr h.length 0 2 1) H4=some (.slice 8 (t.eqns.map qak) .any):=by rw[qac k14];rfl
 simp(disch:=omega) only[go_sem,hH1,qbz,qb0,l1,cb (I.E103 H1),n0,e2,hkb,fb,e3,hks,hkf,sb,l2,hT.q,lM]
 refine wpC.loopM (fun g e st=> ∃(i:Nat)(H:Hp)(ws:List Nat)(ups:List (Nat×Nat))(L:List Ent),i+g=t.eqns.length∧Low h.length h H∧H[kb]?=some (.map (setE L))∧H[ks]?=some (.row 5 [sysN t kb])∧H[kf]?=some (.row 1 [.ptr ks 0 0 1])∧OkE H h.length t.eqns.length i L∧(∀x∈ws,h.length≤x)∧(∀x∈ups,h.length≤x.1)∧(eget e 5=.ptr kf 0 0 1∧eget e 18=.slice 8 (t.eqns.map qak) .any∧eget e 19=iv (t.eqns.length:Int)∧eget e 20=iv (i:Int))∧st=⟨H,ws,ups⟩) ?_ t.eqns.length _ _
  ⟨0,H4,_,_,[],by omega,low4,b4,s4,f4,⟨by simp,by simp,by simp⟩,qad (by omega) (by simp),by simp,by simp only[go_sem,Ag],rfl⟩
 rintro g e st ⟨i,H,ws,ups,L,hi,low,hb,hs,hf,O,hw,hu,⟨e5,e18,e19,e20⟩,rfl⟩;have hHl:=low.len;by_cases h1:i<t.eqns.length
 · have h1':(i:Int)< (t.eqns.length:Int):=by omega
   have hx:t.eqns[i]?=some t.eqns[i]:=Ab h1;have ga:(t.eqns.map qak)[i]?=some (qak t.eqns[i]):=by rw[gM,hx];rfl
   generalize t.eqns[i]=q at*;obtain⟨c1,c2,_⟩:=qik q;have sb:=qa6 (h:=H) (ws:=ws) (ups:=ups) (z:=zq8) (sz:=8) (c:=qak q) c1 rfl c2 (qs2 q) ⟨_,rfl⟩ ⟨_,rfl⟩;have k5:=gC (l:=H) (a:=row 8 [qak q]);have b5:=qag (o2:=row 8 [qak q]) hb;have s5:=qag (o2:=row 8 [qak q]) hs;have f5:=qag (o2:=row 8 [qak q]) hf;have O5:=O.keep (H':=H++[row 8 [qak q]]) fun j m hj=>qag hj;have low5:=low.push (o:=row 8 [qak q]) hHl;generalize hH5:H++[row 8 [qak q]]=H5 at*;generalize hk7:H.length=k7 at*;have hl5:=low5.len;have lf:loadAt false 1 (.ptr kf 0 0 1) H5=some (.ptr ks 0 0 1):=by rw[qac f5];rfl
   have lm:loadAt false 1 (.ptr ks 0 3 1) H5=some (.map (some kb)):=by rw[qac s5];rfl
   have ln:loadAt false 1 (.ptr k7 0 3 1) H5=some (iv q.A.num0):=by rw[qac k5];exact eqn_An
   generalize q.A.num0=n at*;have lk:=look_E (n:=n) b5;have fe:qcw 1 (List.replicate 1 (iv 0)) [(0,iv (i:Int))]=some [iv (i:Int)]:=rfl;cases hg:getE n L with
   |none=>
     rw[hg]at lk;simp only at lk;have ap:=fun ws=>app_new (H:=H5) (ws:=ws) (ups:=ups) (n:=(i:Int));have b6:=qag (o2:=AE.Obj.tok 1 1) b5;have s6:=qag (o2:=AE.Obj.tok 1 1) s5;have f6:=qag (o2:=AE.Obj.tok 1 1) f5;have t6:=gC (l:=H5) (a:=AE.Obj.tok 1 1);have O6:=O5.keep (H':=H5++[AE.Obj.tok 1 1]) fun j m hj=>qag hj;have low6:=low5.push (o:=AE.Obj.tok 1 1) hl5;have hfr:∀x∈L,x.2.2<H5.length:=fun x hx=>(gI.1 (O5.tok x hx).1).1;generalize hH6:H5++[AE.Obj.tok 1 1]=H6 at*;generalize hkt:H5.length=kt at*;obtain⟨ups',up,hu'⟩:=upd_E (n:=n) (y:=([(i:Int)],kt)) b6 ups;have up:∀ws,qge .int (.map (some kb)) (iv n) (.slice 1 [iv (i:Int)] (.tok kt)) ⟨H6,ws,ups⟩=some ⟨H6.set kb (.map (setE (putE n ([(i:Int)],kt) L))),wadd kb ws,ups'⟩:=up;have hL:=putE_new (y:=([(i:Int)],kt)) hg;simp(disch:=first|omega|decide|simp only[go_sem]) only[go_sem,a186b0,e5,e18,e19,e20,h1',ga,qdn,hk7,sb,lf,lm,ln,lk,fe,ap,hkt,up,Ae];refine⟨g - 1,by omega,i+1,_,_,_,_,by omega,low6.trans (.set (by omega)),qai b6,qaa s6 (by omega),qaa f6 (by omega),?_,?_,fun x hx=>?_,rfl,rfl⟩
     · rw[hL];have hne:∀(j m:Nat),H6[j]?=some (.tok 1 m)->kb≠j:=fun j m hj he=>by subst he;rw[b6]at hj;cases hj
       refine⟨fun x hx=>?_,fun x hx=>?_,?_⟩
       · rcases mA.1 hx with hx|hx
         ·exact⟨qaa (O6.tok x hx).1 (hne _ _ (O6.tok x hx).1),(O6.tok x hx).2⟩
         · rw[mS.1 hx];exact⟨qaa t6 (hne _ _ t6),by simp only;omega⟩
       · rcases mA.1 hx with hx|hx
         ·exact⟨(O.idx x hx).1,by have:=(O.idx x hx).2;omega⟩
         · rw[mS.1 hx];refine⟨fun j hj=>?_,by simp⟩;rw[mS.1 hj];omega
       · rw[List.map_append,List.nodup_append];refine⟨O.nd,by simp,fun a ha b hb=>?_⟩;obtain⟨x,hx,rfl⟩:=mM.1 ha;have:=hfr x hx;simp only[List.map_cons,List.map_nil,mS]at hb;omega
     · first
        |exact qhe (qad (by omega) (by simp)) (qad (by omega) hw)
        |done
     · rcases hu' x hx with h|h
       ·exact hu x h
       ·omega
   |some y=>
     obtain⟨l,kt⟩:=y;rw[hg]at lk;simp only at lk;obtain⟨t5,hkt⟩:=O5.tok _ (qi8 hg);obtain⟨i5,n5⟩:=O.idx _ (qi8 hg);simp only at t5 hkt i5 n5;have ap:=fun ws=>app_old (H:=H5) (ws:=ws) (ups:=ups) (n:=(i:Int)) t5 (by omega);have hne:∀(o:AE.Obj)(j:Nat),o.isTok=false->H5[j]?=some o->kt≠j:=fun o j ho hj he=>by subst he;rw[t5]at hj;cases hj;cases ho
     have b6:=qaa (o':=AE.Obj.tok 1 (l.length+1)) b5 (hne _ _ rfl b5);have s6:=qaa (o':=AE.Obj.tok 1 (l.length+1)) s5 (hne _ _ rfl s5);have f6:=qaa (o':=AE.Obj.tok 1 (l.length+1)) f5 (hne _ _ rfl f5);have t6:=qai (o':=AE.Obj.tok 1 (l.length+1)) t5;have r6:∀(j m:Nat),j≠kt->H5[j]?=some (.tok 1 m)->(H5.set kt (.tok 1 (l.length+1)))[j]?=some (.tok 1 m):=fun j m hj h=>qaa h (Ne.symm hj);have low6:Low h.length h (H5.set kt (.tok 1 (l.length+1))):=low5.trans (.set hkt);generalize hH6:H5.set kt (.tok 1 (l.length+1))=H6 at*;obtain⟨ups',up,hu'⟩:=upd_E (n:=n) (y:=(l++[(i:Int)],kt)) b6 ups;simp only at up;simp(disch:=first|omega|decide|simp only[go_sem]) only[go_sem,a186b0,e5,e18,e19,e20,h1',ga,qdn,hk7,sb,lf,lm,ln,lk,fe,ap,up,Ae];refine⟨g - 1,by omega,i+1,_,_,_,_,by omega,low6.trans (.set (by omega)),qai b6,qaa s6 (by omega),qaa f6 (by omega),?_,?_,fun x hx=>?_,rfl,rfl⟩
     · have hnb:∀(j m:Nat),H6[j]?=some (.tok 1 m)->kb≠j:=fun j m hj he=>by subst he;rw[b6]at hj;cases hj
       refine⟨fun x hx=>?_,fun x hx=>?_,by rw[putE_kt hg];exact O.nd⟩
       · rcases qof hg O.nd x hx with rfl|⟨hx,hk⟩
         ·exact⟨qaa (by simpa using t6) (hnb _ _ t6),hkt⟩
         · have:=r6 _ _ hk (O5.tok x hx).1;exact⟨qaa this (hnb _ _ this),(O5.tok x hx).2⟩
       · rcases qof hg O.nd x hx with rfl|⟨hx,hk⟩
         · refine⟨fun j hj=>?_,by simp;omega⟩;rcases mA.1 hj with h|h
           ·exact i5 j h
           · rw[mS.1 h];omega
         ·exact⟨(O.idx x hx).1,by have:=(O.idx x hx).2;omega⟩
     · first
        |exact qhe (qad (by omega) (by simp)) (qhe (qad (by omega) (by simp)) (qad (by omega) hw))
        |done
     · rcases hu' x hx with h|h
       ·exact hu x h
       ·omega
 · have h1':¬(i:Int)< (t.eqns.length:Int):=by omega
   have lf:loadAt false 1 (.ptr kf 0 0 1) H=some (.ptr ks 0 0 1):=by rw[qac hf];rfl
   obtain⟨ups',sv,hu'⟩:=st_sys (kf:=kf) hs ups;have s9:=qai (o':=row 5 [sysV t kb kf]) hs;have f9:=qaa (o':=row 5 [sysV t kb kf]) hf (show ks≠kf by omega);have b9:=qaa (o':=row 5 [sysV t kb kf]) hb (show ks≠kb by omega);have lf9:loadAt false 1 (.ptr kf 0 0 1) (H.set ks (.row 5 [sysV t kb kf]))=some (.ptr ks 0 0 1):=by rw[qac f9];rfl
   have hu9:∀x∈ups',h.length≤x.1:=fun x hx=>by
    rcases hu' x hx with h|h
    ·exact hu x h
    ·omega
   have td:=qpp (n0:=h.length) (ws:=wadd ks ws) (ups:=ups') s9 (by omega) (by omega) (qad (by omega) hw) hu9;simp(disch:=omega) only[go_sem,a186b0,e5,e19,e20,h1',lf,sv,lf9,td];exact⟨⟨ks,kf,kb,setE L,_,ups'⟩,rfl,low.trans (.set (by omega)),⟨s9,f9,b9⟩,O.by_ (by omega),hu9,by simp only;omega,by simp only;omega⟩
include hT in
theorem res_ev{t:GTy}{H:Hp}{ks kf kb:Nat}{es:List (PV×PV)}(S:SysH H ks kf kb t es){u:Tm}{X:PV}(hX:Enc u X)(hu:qa0 u=true):
 ∃x:Int×Bool,Ev T 199 [.ptr ks 0 0 1,X] H (.val (.tuple [iv x.1,.bool x.2]),⟨H,[],[]⟩)∧True:=by
 refine hT.wp (r:=fun x:Int×Bool=>(.val (.tuple [iv x.1,.bool x.2]),⟨H,[],[]⟩)) fn199 (by decide) ?_;obtain⟨c1,_,c3,_⟩:=hX.cells;obtain⟨k,n,l,sz,qs,rfl,hXe,_,_⟩:=hX.eq;have hsh:=qav hu;simp only[qal,bA,dE]at hsh;obtain⟨N,rfl⟩:=iZ hsh.1.1.1.1;have k1:=gC (l:=H) (a:=row 3 [X]);have low1:Low H.length H (H++[row 3 [X]]):=(Low.refl _ _).push (nR _);have S1:=S.push (o:=row 3 [X]);generalize hH1:H++[row 3 [X]]=H1 at*;have l0:loadAt false 1 (.ptr H.length 0 0 1) H1=some (iv k):=by rw[qac k1,hXe];rfl
 have l1:loadAt false 1 (.ptr H.length 0 1 1) H1=some (iv (N:Int)):=by rw[qac k1,hXe];rfl
 have ls:loadAt false 1 (.ptr ks 0 1 1) H1=some (.slice 3 (t.sig.ops.map qap) .any):=by rw[qac S1.sys];rfl
 have td:∀(a:Int)(b:Bool),tidy 0 H.length (.val (.tuple [iv a,.bool b])) ⟨H1,[],[]⟩=(.val (.tuple [iv a,.bool b]),⟨H,[],[]⟩):=fun a b=>qaj rfl rfl low1 (by simp);by_cases hk:k=2
 · have hb:(k !=2)=false:=by simpa using hk
   have hn:¬(N:Int)<0:=by omega
   by_cases hN:t.sig.ops.length≤N
   · simp(disch:=first|omega|decide|simp only[go_sem]) only[go_sem,hH1,c1,c3,lM,l0,l1,ls,hb,hn,hN,td];exact⟨(0,false),rfl,trivial⟩
   · have hN':N<t.sig.ops.length:=by omega
     have go:=qi7 hN';have so2:AE.sub false 1 (qap t.sig.ops[N]) 2=some (iv t.sig.ops[N].res):=rfl;simp(disch:=first|omega|decide|simp only[go_sem]) only[go_sem,hH1,c1,c3,lM,l0,l1,ls,hb,hn,hN,go,so2,td];exact⟨(t.sig.ops[N].res,true),rfl,trivial⟩
 · have hb:(k !=2)=true:=by simpa using hk
   simp(disch:=first|omega|decide|simp only[go_sem]) only[go_sem,hH1,c1,c3,l0,hb,td];exact⟨(0,false),rfl,trivial⟩
include hT in
theorem term_ev{t:GTy}(I:TyIn T t 0){H:Hp}{ks kf kb:Nat}{es:List (PV×PV)}(S:SysH H ks kf kb t es){u:Tm}{X:PV}(hX:Enc u X):
 ∃b:Bool,Ev T 188 [.ptr ks 0 0 1,X] H (.val (.bool b),⟨H,[],[]⟩)∧(b=true->qa0 u=true):=by
 refine hT.wp (r:=fun b:Bool=>(.val (.bool b),⟨H,[],[]⟩)) fn188 (by decide) ?_;obtain⟨c1,_,c3,_⟩:=hX.cells;have k1:=gC (l:=H) (a:=row 3 [X]);have low1:Low H.length H (H++[row 3 [X]]):=(Low.refl _ _).push (nR _);have S1:=S.push (o:=row 3 [X]);generalize hH1:H++[row 3 [X]]=H1 at*;have la:loadAt true 3 (.ptr H.length 0 0 1) H1=some X:=by rw[qac k1];exact hX.sub
 have l0:loadAt false 1 (.ptr H.length 0 0 1) H1=some (iv u.kind):=by rw[qac k1];exact hX.kind
 have td:∀(b:Bool),tidy 0 H.length (.val (.bool b)) ⟨H1,[],[]⟩=(.val (.bool b),⟨H,[],[]⟩):=fun b=>qaj rfl rfl low1 (by simp);have ev:=treeX_ev hT hX.m H1;have n0:((0:Int) !=0)=false:=rfl;have n4:((4:Int) !=0)=true:=rfl;cases hb:qa0 u
 · rw[hb]at ev;simp only[bF,if_false]at ev;simp(disch:=omega) only[go_sem,hH1,c1,c3,la,cb ev,n4,hT.prim,qab,td];exact⟨false,rfl,by simp⟩
 · rw[hb]at ev;simp only[if_true]at ev;by_cases hk:u.kind=1
   · have hk':(u.kind==1)=true:=by simpa using hk
     simp(disch:=omega) only[go_sem,hH1,c1,c3,la,l0,cb ev,n0,hk',hT.prim,qab,td];exact⟨true,rfl,by simp⟩
   · have hk':(u.kind==1)=false:=by simpa using hk
     obtain⟨⟨r,b⟩,evr,_⟩:=res_ev hT S1 hX hb;simp only at evr;cases b
     · simp(disch:=omega) only[go_sem,hH1,c1,c3,la,l0,cb ev,n0,hk',cb evr,Bool.not_false,hT.prim,qab,td];exact⟨false,rfl,by simp⟩
     · have ls:loadAt true 2 (.ptr ks 0 0 1) H1=some (qae t.sig):=by rw[qac S1.sys];rfl
       have f1:=fe_1 (p:=X) ⟨c1,c3⟩;have f2:qcw 1 (List.replicate 1 (iv 0)) [(0,iv r)]=some [iv r]:=rfl
       obtain⟨⟨zs,e⟩,evi,_⟩:=infer_ev hT (I.G rfl) (I.E87 rfl) (l:=[u]) (sz:=3) (es:=[X]) (m:=.lit) (m2:=.lit) (.inr rfl) ⟨rfl,fun i x q h1 h2=>by
        cases i with
        |zero=>simp at h1 h2;subst h1 h2;exact hX
        |succ i=>simp at h1⟩ (by simp) (sorts:=[r]) (by simp) H1
       simp only[infV]at evi;have evi:Ev T 200 [qae t.sig,.slice 3 [X] .lit,.slice 1 [iv r] .lit] H1 _:=evi;simp(disch:=first|omega|decide|simp only[go_sem]) only[go_sem,hH1,c1,c3,la,l0,cb ev,n0,hk',cb evr,Bool.not_true,ls,f1,f2,cb evi,hT.prim,qab,td];exact⟨_,rfl,by simp⟩
include hT in
theorem term187_ev{t:GTy}(I:TyIn T t 0){H:Hp}{ks kf kb kp:Nat}{es:List (PV×PV)}(S:SysH H ks kf kb t es)(hp:H[kp]?=some (.row 1 [.ptr ks 0 0 1])){u:Tm}{X:PV}(hX:Enc u X):
 ∃b:Bool,Ev T 187 [X,.ptr kp 0 0 1] H (.val (.bool b),⟨H,[],[]⟩)∧(b=false->qa0 u=true):=by
 refine hT.wp (r:=fun b:Bool=>(.val (.bool b),⟨H,[],[]⟩)) fn187 (by decide) ?_;obtain⟨c1,_,c3,_⟩:=hX.cells;have k1:=gC (l:=H) (a:=row 3 [X]);have p1:=qag (o2:=row 3 [X]) hp;have low1:Low H.length H (H++[row 3 [X]]):=(Low.refl _ _).push (nR _);have S1:=S.push (o:=row 3 [X]);generalize hH1:H++[row 3 [X]]=H1 at*;have la:loadAt true 3 (.ptr H.length 0 0 1) H1=some X:=by rw[qac k1];exact hX.sub
 have lp:loadAt false 1 (.ptr kp 0 0 1) H1=some (.ptr ks 0 0 1):=by rw[qac p1];rfl
 have td:∀(b:Bool),tidy 0 H.length (.val (.bool b)) ⟨H1,[],[]⟩=(.val (.bool b),⟨H,[],[]⟩):=fun b=>qaj rfl rfl low1 (by simp);obtain⟨b,ev,hb⟩:=term_ev hT I S1 hX;simp(disch:=omega) only[go_sem,hH1,c1,c3,la,lp,cb ev,hT.prim,qab,td];exact⟨!b,rfl,fun h=>hb (by simpa using h)⟩
include hT in
theorem qrb{P:Tm->Prop}{g:FuncId}{cap:List PV}{h:Hp}(hg:T.prim g=none){l:List Tm}{sz:Nat}{es:List PV}{m:SM}(hs:es=[]∨sz=3)(hE:EncL l es)
 (hf:∀(i:Nat)(x:Tm)(p:PV),l[i]?=some x->es[i]?=some p->∃b:Bool,Ev T g (p::cap) h (.val (.bool b),⟨h,[],[]⟩)∧(b=false->P x))(hal:es.length<1000000):
 ∃b:Bool,Ev T 48 [.slice sz es m,.func (.func g) [] cap] h (.val (.bool b),⟨h,[],[]⟩)∧(b=false->∀x∈l,P x):=by
 have hl:=hE.1
 have W:∃r:Int,Ev T 135 [.slice sz es m,.func (.func g) [] cap] h (.val (iv r),⟨h,[],[]⟩)∧(¬0≤r->∀x∈l,P x):=by
  refine hT.wp fn135 (by decide) ?_;simp(disch:=omega) only[go_sem];refine wpC.loopM (fun n e s=> ∃i:Nat,i+n=es.length∧eget e 0=.slice sz es m∧eget e 1=.func (.func g) [] cap∧eget e 7=iv (es.length:Int)∧eget e 8=iv (i:Int)∧(∀j (hj:j<l.length),j<i->P l[j])∧s=⟨h,[],[]⟩) ?_ es.length _ _ ⟨0,by simp,by simp only[go_sem],by simp only[go_sem],by simp only[go_sem],by simp only[go_sem];rfl,fun j _ hj=>by omega,rfl⟩;rintro n e s ⟨i,hi,e0,e1,e7,e8,hp,rfl⟩;by_cases h1:i<es.length
  · have ga:=qb1 h1;have hx:l[i]?=some l[i]:=Ab (by omega);obtain⟨b,ev,hb⟩:=hf i l[i] es[i] hx ga;have bs:=(hE.2 i l[i] es[i] hx ga).sub
    have hsz:sz=3:=by
     rcases hs with rfl|h
     ·simp at h1
     ·exact h
    subst hsz;cases b
    · simp(disch:=first|omega|decide|simp only[go_sem]) only[go_sem,qjl,e0,e1,e7,e8,h1,ga,bs,hg,cb ev];refine⟨n - 1,by omega,i+1,by omega,rfl,fun j hj hji=>?_,trivial⟩;by_cases hjj:j=i
      ·subst hjj;exact hb rfl
      ·exact hp j hj (by omega)
    · simp(disch:=first|omega|decide|simp only[go_sem]) only[go_sem,qjl,e0,e1,e7,e8,h1,ga,bs,hg,cb ev];exact⟨(i:Int),rfl,fun h=>by omega⟩
  · simp(disch:=first|omega|decide|simp only[go_sem]) only[go_sem,qjl,e7,e8,h1];refine⟨_,rfl,fun _ x hx=>?_⟩;obtain⟨j,hj,rfl⟩:=List.getElem_of_mem hx;exact hp j hj (by omega)
 obtain⟨r,ev,hr⟩:=W;refine hT.wp (r:=fun b:Bool=>(.val (.bool b),⟨h,[],[]⟩)) fn48 (by decide) ?_;simp(disch:=first|omega|decide|simp only[go_sem]) only[go_sem,cb ev,hT.prim,qab];exact⟨_,rfl,fun h=>hr (by simpa using h)⟩
include hT in
theorem asked_err{t:GTy}{r:Int}(I:TyIn T t r)(hr:r≠0)(l:PV)(h:Hp):Ev T 136 [qan t,l] h (.val (.tuple [.nilptr,iv r]),⟨h,[],[]⟩):=by
 refine hT.wk fn136 (by decide) ?_;have k1:=gC (l:=h) (a:=row 3 [qan t]);have low1:Low h.length h (h++[row 3 [qan t]]):=(Low.refl _ _).push (nR _);generalize hH1:h++[row 3 [qan t]]=H1 at*;have l1:loadAt true 3 (.ptr h.length 0 0 1) H1=some (qan t):=by rw[qac k1];rfl
 have hb:(r !=0)=true:=by simpa using hr
 have sb:=qlr (h:=H1) (sz:=1) (ws:=[]) (ups:=[]) (c:=.nilptr) (v:=.nilptr) rfl ⟨rfl,rfl⟩ (fun j hj=>by cases hj);have hHl:=low1.len;have td:=qaj (v:=.tuple [.nilptr,iv r]) (ws:=wadd H1.length []) rfl rfl (low1.push (o:=row 1 [.nilptr]) hHl) (qad hHl (by simp));simp(disch:=first|omega|decide|simp only[go_sem]) only[go_sem,hH1,qbz,qb0,l1,cb (open_err hT I hr H1),sb,hb,hT.prim,qab,td]
inductive AskR (T:Tbl)(t:GTy)(us:List Tm)(h:Hp)(l:PV):Prop
 |no (ev:Ev T 136 [qan t,l] h (.val (.tuple [.nilptr,.int .i64 4]),⟨h,[],[]⟩)):AskR T t us h l
 |yes (x:OpenX)(R:OpenR h t x)(hu:∀u∈us,qa0 u=true)(ev:Ev T 136 [qan t,l] h (.val (.tuple [.ptr x.ks 0 0 1,.int .i64 0]),⟨x.H,[],x.ups⟩)):AskR T t us h l
include hT in
theorem asked_ok{t:GTy}(I:TyIn T t 0){us:List Tm}{es:List PV}{m:SM}(hE:EncL us es)(hl:es.length<1000)(h:Hp):AskR T t us h (.slice 3 es m):=by
 have k1:=gC (l:=h) (a:=row 3 [qan t]);have low1:Low h.length h (h++[row 3 [qan t]]):=(Low.refl _ _).push (nR _);have hl1:(h++[row 3 [qan t]]).length=h.length+1:=by simp
 have W:∃x:OR×St,Ev T 136 [qan t,.slice 3 es m] h x∧((x.1=.val (.tuple [.nilptr,iv 4])∧x.2=⟨h,[],[]⟩)∨∃y:OpenX,OpenR h t y∧(∀u∈us,qa0 u=true)∧x.1=.val (.tuple [.ptr y.ks 0 0 1,iv 0])∧x.2=⟨y.H,[],y.ups⟩):=by
  refine hT.wp (r:=fun x:OR×St=>x) fn136 (by decide) ?_;generalize hH1:h++[row 3 [qan t]]=H1 at*;have l1:loadAt true 3 (.ptr h.length 0 0 1) H1=some (qan t):=by rw[qac k1];rfl
  obtain⟨⟨ks,kf,kb,es',H,ups⟩,evo,low,S,hBy,hups,hks,hkb⟩:=open_ok hT I H1;simp only at evo low S hBy hups hks hkb;have hHl:=low.len;have low2:Low h.length h H:=low1.comp low (by omega);obtain⟨s1,s2,s3⟩:=S.lt;have sb:=fun ws ups=>qlr (h:=H) (sz:=1) (ws:=ws) (ups:=ups) (c:=.nilptr) (v:=.ptr ks 0 0 1) rfl ⟨rfl,rfl⟩ (fun j hj=>by cases hj;omega);have p3:=gC (l:=H) (a:=row 1 [.ptr ks 0 0 1]);have S3:=S.push (o:=row 1 [.ptr ks 0 0 1]);have low3:=low2.push (o:=row 1 [.ptr ks 0 0 1]) (by omega);generalize hH3:H++[row 1 [.ptr ks 0 0 1]]=H3 at*;generalize hkp:H.length=kp at*;have n0:((0:Int) !=0)=false:=rfl;obtain⟨b,ev,hb⟩:=qrb hT (P:=fun x=>qa0 x=true) (g:=187) (cap:=[.ptr kp 0 0 1]) (h:=H3) (m:=m) (by rw[hT.prim];rfl) (.inr rfl) hE (fun i x p hx hp=>term187_ev hT I S3 p3 (hE.2 i x p hx hp)) (by omega);have lp:loadAt false 1 (.ptr kp 0 0 1) H3=some (.ptr ks 0 0 1):=by rw[qac p3];rfl
  have hu3:∀y∈ups,h.length≤y.1:=fun y hy=>by have:=hups y hy;omega
  have hw3:∀x∈wadd kp [],h.length≤x:=qad (by omega) (by simp);cases b
  · have td:=qpp (n0:=h.length) (ws:=wadd kp []) (ups:=ups) S3.sys (by omega) (by omega) hw3 hu3;simp(disch:=first|omega|decide|simp only[go_sem]) only[go_sem,hH1,qbz,qb0,l1,cb evo,sb,hkp,n0,cb ev,lp,hT.prim,qab,td];exact⟨(_,_),rfl,.inr ⟨⟨ks,kf,kb,es',H3,ups⟩,⟨low3,S3,hBy,hu3,by simp only;omega,by simp only;omega⟩,hb rfl,rfl,rfl⟩⟩
  · have td:=qa4 (v:=.tuple [.nilptr,iv 4]) (ups:=ups) (ws:=wadd kp []) rfl low3 hw3 hu3;simp(disch:=first|omega|decide|simp only[go_sem]) only[go_sem,hH1,qbz,qb0,l1,cb evo,sb,hkp,n0,cb ev,hT.prim,qab,td];exact⟨(_,_),rfl,.inl ⟨rfl,rfl⟩⟩
 obtain⟨⟨r,st⟩,ev,⟨h1,h2⟩|⟨y,h1,h2,h3,h4⟩⟩:=W
 · simp only at h1 h2;subst h1 h2;exact .no ev
 · simp only at h3 h4;subst h3 h4;exact .yes y h1 h2 ev
def qrt(x:PV×Int):Prop:=(x.2=0∧RowE x.1)∨(x.2≠0∧x.1=qeu)
include hT in
theorem qse(h50:T.sp 50=none)(h189:T.sp 189=some (AE'.guardedSp 260 2)){t:GTy}{r:Int}(I:TyIn T t r){u:Tm}{X:PV}(hX:Enc u X)(h:Hp):
 ∃x:PV×Int,Ev T 50 [qan t,X] h (.val (.tuple [x.1,iv x.2]),⟨h,[],[]⟩)∧qrt x:=by
 refine Ev.walkP (r:=fun x:PV×Int=>(.val (.tuple [x.1,iv x.2]),⟨h,[],[]⟩)) h50 ((hT.fn _).trans fn50) (hT.mode _) rfl ?_;obtain⟨c1,_,c3,_⟩:=hX.cells;have k1:=gC (l:=h) (a:=row 3 [qan t]);have low1:Low h.length h (h++[row 3 [qan t]]):=(Low.refl _ _).push (nR _);have hl1:(h++[row 3 [qan t]]).length=h.length+1:=by simp
 generalize hH1:h++[row 3 [qan t]]=H1 at*;have x2:=gC (l:=H1) (a:=row 3 [X]);have k2:=qag (o2:=row 3 [X]) k1;have low2:=low1.push (o:=row 3 [X]) (by omega);have hl2:(H1++[row 3 [X]]).length=h.length+2:=by simp;omega
 generalize hH2:H1++[row 3 [X]]=H2 at*;generalize hkx:H1.length=kx at*;have z3:=gC (l:=H2) (a:=row 3 [zN]);have x3:=qag (o2:=row 3 [zN]) x2;have k3:=qag (o2:=row 3 [zN]) k2;have low3:=low2.push (o:=row 3 [zN]) (by omega);have hl3:(H2++[row 3 [zN]]).length=h.length+3:=by simp;omega
 have e3:H2++[row 3 [zq3]]=H2++[row 3 [zN]]:=rfl;generalize H2++[row 3 [zN]]=H3 at*;generalize hkr:H2.length=kr at*;have l1:loadAt true 3 (.ptr h.length 0 0 1) H3=some (qan t):=by rw[qac k3];rfl
 have lx:loadAt true 3 (.ptr kx 0 0 1) H3=some X:=by rw[qac x3];exact hX.sub
 have f1:=fe_1 (p:=X) ⟨c1,c3⟩;have f0:qdc [PV.int .i64 0,iv 0,.slice 0 [] .nil] []=some [iv 0,iv 0,.slice 0 [] .nil]:=rfl;have n0:((0:Int) !=0)=false:=rfl
 have er:∀e:Int,e≠0->Ev T 136 [qan t,.slice 3 [X] .lit] H3 (.val (.tuple [.nilptr,iv e]),⟨H3,[],[]⟩)->wpC T a50.code [qan t,X] ⟨h,[],[]⟩ (fin a50.res 0 h.length fun x=> ∃a:PV×Int,x=(.val (.tuple [a.1,iv a.2]),⟨h,[],[]⟩)∧qrt a):=fun e he ev=>by
  have hb:(e !=0)=true:=by simpa using he
  have sv:=fun ws ups=>qcz (Q:=.agg [iv 0,iv 0,.slice 0 [] .nil]) (ws:=ws) (ups:=ups) (n:=1) (N:=0) z3 rfl rfl ⟨rfl,_,rfl⟩ ⟨rfl,rfl,_,rfl⟩ rfl;simp only[sC]at sv;have lo:loadAt true 3 (.ptr kr 0 0 1) (H3.set kr (.row 3 [.agg [iv 0,iv 0,.slice 0 [] .nil]]))=some zN:=by rw[qac (qai z3)];rfl
  have td:=qa4 (v:=.tuple [zN,iv e]) (ups:=[]) (ws:=wadd kr []) rfl (low3.trans (.set (show h.length≤kr by omega)):Low h.length h (H3.set kr (.row 3 [.agg [iv 0,iv 0,.slice 0 [] .nil]]))) (qad (by omega) (by simp)) (by simp);simp(disch:=first|omega|decide|simp only[go_sem]) only[go_sem,a50,hH1,hkx,hH2,e3,hkr,c1,c3,qbz,qb0,l1,lx,f1,cb ev,hb,f0,sv,resv,lo,hT.q,td];exact⟨(qeu,e),rfl,.inr ⟨he,rfl⟩⟩
 by_cases hr:r=0;rotate_left
 ·exact er r hr (asked_err hT I hr _ H3)
 subst hr
 rcases asked_ok hT I (us:=[u]) (es:=[X]) (m:=.lit) ⟨rfl,fun i x q h1 h2=>by
  cases i with
  |zero=>simp at h1 h2;subst h1 h2;exact hX
  |succ i=>simp at h1⟩ (by simp) H3 with ev|⟨⟨ks,kf,kb,es',H,ups⟩,R,hu,ev⟩
 ·exact er 4 (by decide) ev
 obtain⟨low,S,hBy,hups,hks,hkb⟩:=R;simp only at low S hBy hups hks hkb ev;have low4:Low h.length h H:=low3.comp low (by omega);have x4:=low.get (show kx<H3.length by omega) x3;have z4:=low.get (show kr<H3.length by omega) z3;have lx4:loadAt true 3 (.ptr kx 0 0 1) H=some X:=by rw[qac x4];exact hX.sub
 obtain⟨⟨q,e⟩,evv,hq⟩:=value_ev hT h189 (I.ok rfl).eqns S hBy hX (hu u (by simp));simp only at evv hq
 have hq3:q.cells.length=3∧q.cells.all PV.isCell=true∧(∃cs,q=.agg cs)∧q.top=none∧q.pure=true∧q.weak=q∧AE.sub true 3 q 0=some q:=by
  rcases hq with⟨_,w,hw,_⟩|⟨_,rfl⟩
  · obtain⟨y1,y2,y3,y4⟩:=hw.cells;exact⟨y1,y2,y4,hw.facts.1,hw.facts.2.1,hw.facts.2.2,hw.sub⟩
  ·exact⟨rfl,rfl,⟨_,rfl⟩,rfl,rfl,rfl,rfl⟩
 obtain⟨q1,q2,q4,q5,q6,q7,q8⟩:=hq3;have sv:=fun ws ups=>qcz (ws:=ws) (ups:=ups) (n:=1) (N:=0) z4 rfl rfl ⟨rfl,_,rfl⟩ ⟨q1,q2,q4⟩ q5;simp only[sC]at sv;have lo:loadAt true 3 (.ptr kr 0 0 1) (H.set kr (.row 3 [q]))=some q:=by rw[qac (qai z4)];exact q8
 have hu3:∀y∈ups,h.length≤y.1:=fun y hy=>by have:=hups y hy;omega
 have td:=qa4 (v:=.tuple [q,iv e]) (ups:=ups) (ws:=wadd kr []) (by simp[PV.pure,qat,q6]) (low4.trans (.set (show h.length≤kr by omega)):Low h.length h (H.set kr (.row 3 [q]))) (qad (by omega) (by simp)) hu3;simp only[PV.weak,qau,q7]at td;simp(disch:=first|omega|decide|simp only[go_sem]) only[go_sem,hH1,hkx,hH2,e3,hkr,c1,c3,qbz,qb0,l1,lx,f1,cb ev,n0,lx4,cb evv,sv,resv,lo,hT.q,td];refine⟨(q,e),rfl,?_⟩;rcases hq with⟨h1,h2⟩|⟨h1,h2⟩
 ·exact .inl ⟨h1,h2⟩
 ·exact .inr ⟨by simp only;omega,h2⟩
def cmpI(a b:Int):Int:=if a<b then -1 else if b<a then 1 else 0
mutual
def tmC:Tm->Tm->Int
 |.mk k n l,.mk k' n' l'=>if cmpI k k'≠0 then cmpI k k' else if cmpI n n'≠0 then cmpI n n' else if cmpI l.length l'.length≠0 then cmpI l.length l'.length else tmCL l l'
def tmCL:List Tm->List Tm->Int
 |[],[]=>0
 |[],_::_=> -1
 |_::_,[]=>1
 |x::l,y::l'=>if tmC x y≠0 then tmC x y else tmCL l l'
end
theorem qrd(a:Int):cmpI a a=0:=by simp[cmpI]
theorem qc6{a b:Int}:cmpI a b=0↔a=b:=by
 unfold cmpI;split
 · constructor
   ·intro h;cases h
   ·intro h;omega
 · split
   · constructor
     ·intro h;cases h
     ·intro h;omega
   · constructor
     ·intro _;omega
     ·intro _;rfl
theorem qdh{a b:Int}:cmpI a b<0↔a<b:=by
 unfold cmpI;split
 · constructor
   ·intro _;assumption
   ·intro _;decide
 · split
   · constructor
     ·intro h;exact absurd h (by decide)
     ·intro h;omega
   · constructor
     ·intro h;exact absurd h (by decide)
     ·intro h;omega
mutual
theorem tmC_eq:∀t u:Tm,tmC t u=0->t=u
 |.mk k n l,.mk k' n' l',h=>by
   simp only[tmC]at h;split at h
   ·rename_i h1;exact absurd h h1
   · split at h
     ·rename_i h1;exact absurd h h1
     · split at h
       ·rename_i h1;exact absurd h h1
       · rename_i h1 h2 h3;have e1:k=k':=qc6.1 (by simpa using h1);have e2:n=n':=qc6.1 (by simpa using h2);rw[e1,e2,tmCL_eq l l' h]
theorem tmCL_eq:∀l l':List Tm,tmCL l l'=0->l=l'
 |[],[],_=>rfl
 |[],_::_,h=>by simp[tmCL]at h
 |_::_,[],h=>by simp[tmCL]at h
 |x::l,y::l',h=>by
   simp only[tmCL]at h;split at h
   ·rename_i h1;exact absurd h h1
   · rename_i h1;rw[tmC_eq x y (by simpa using h1),tmCL_eq l l' h]
end
mutual
theorem qpo:∀t u v:Tm,tmC t u<0->tmC u v<0->tmC t v<0
 |.mk k n l,.mk k' n' l',.mk k'' n'' l'',h,g=>by
   simp only[tmC]at h g⊢;by_cases a1:cmpI k k'=0
   · have:=qc6.1 a1;subst this;simp only[a1,ne_eq,not_true_eq_false,if_false]at h;by_cases b1:cmpI k k''=0
     · have:=qc6.1 b1;subst this;simp only[qrd,ne_eq,not_true_eq_false,if_false]at g⊢;by_cases a2:cmpI n n'=0
       · have:=qc6.1 a2;subst this;simp only[a2,not_true_eq_false,if_false]at h;by_cases b2:cmpI n n''=0
         · have:=qc6.1 b2;subst this;simp only[qrd,not_true_eq_false,if_false]at g⊢;by_cases a3:cmpI (l.length:Int) l'.length=0
           · have e3:=qc6.1 a3;simp only[a3,not_true_eq_false,if_false]at h;rw[←e3]at g;by_cases b3:cmpI (l.length:Int) l''.length=0
             · simp only[b3,not_true_eq_false,if_false]at g⊢;exact qm4 l l' l'' h g
             · simp only[b3,not_false_eq_true,if_true]at g⊢;exact g
           · simp only[a3,not_false_eq_true,if_true]at h;have h':=qdh.1 h
             have hlt:cmpI (l.length:Int) l''.length<0:=by
              by_cases b3:cmpI (l'.length:Int) l''.length=0
              · have:=qc6.1 b3;exact qdh.2 (by omega)
              · simp only[b3,not_false_eq_true,if_true]at g;have:=qdh.1 g;exact qdh.2 (by omega)
             have hne:cmpI (l.length:Int) l''.length≠0:=by omega
             simp only[hne,not_false_eq_true,if_true];exact hlt
         · simp only[b2,not_false_eq_true,if_true]at g⊢;exact g
       · simp only[a2,not_false_eq_true,if_true]at h;have h':=qdh.1 h
         have hlt:cmpI n n''<0:=by
          by_cases b2:cmpI n' n''=0
          · have:=qc6.1 b2;exact qdh.2 (by omega)
          · simp only[b2,not_false_eq_true,if_true]at g;have:=qdh.1 g;exact qdh.2 (by omega)
         have hne:cmpI n n''≠0:=by omega
         simp only[hne,not_false_eq_true,if_true];exact hlt
     · simp only[b1,ne_eq,not_false_eq_true,if_true]at g⊢;exact g
   · simp only[a1,ne_eq,not_false_eq_true,if_true]at h;have h':=qdh.1 h
     have hlt:cmpI k k''<0:=by
      by_cases b1:cmpI k' k''=0
      · have:=qc6.1 b1;exact qdh.2 (by omega)
      · simp only[b1,ne_eq,not_false_eq_true,if_true]at g;have:=qdh.1 g;exact qdh.2 (by omega)
     have hne:cmpI k k''≠0:=by omega
     simp only[hne,ne_eq,not_false_eq_true,if_true];exact hlt
theorem qm4:∀l l' l'':List Tm,tmCL l l'<0->tmCL l' l''<0->tmCL l l''<0
 |[],[],l'',h,_=>by simp[tmCL]at h
 |[],_::_,[],_,g=>by simp[tmCL]at g
 |[],_::_,_::_,_,_=>by simp[tmCL]
 |_::_,[],_,h,_=>by simp[tmCL]at h
 |_::_,_::_,[],_,g=>by simp[tmCL]at g
 |x::l,y::l',z::l'',h,g=>by
   simp only[tmCL]at h g⊢;by_cases a1:tmC x y=0
   · have:=tmC_eq x y a1;subst this;simp only[a1,ne_eq,not_true_eq_false,if_false]at h;by_cases b1:tmC x z=0
     · simp only[b1,ne_eq,not_true_eq_false,if_false]at g⊢;exact qm4 l l' l'' h g
     · simp only[b1,ne_eq,not_false_eq_true,if_true]at g⊢;exact g
   · simp only[a1,ne_eq,not_false_eq_true,if_true]at h
     have hlt:tmC x z<0:=by
      by_cases b1:tmC y z=0
      ·rw[←tmC_eq y z b1];exact h
      · simp only[b1,ne_eq,not_false_eq_true,if_true]at g;exact qpo x y z h g
     have hne:tmC x z≠0:=by omega
     simp only[hne,ne_eq,not_false_eq_true,if_true];exact hlt
end
include hT in
theorem qnq(a:Int)(h:Hp):Ev T 194 [iv a] h (.val (.bool false),⟨h,[],[]⟩):=by
 refine hT.wk fn194 (by decide) ?_;have e:(a !=a)=false:=by simp
 simp(disch:=omega) only[go_sem,e]
include hT in
theorem cmpI_ev(a b:Int)(h:Hp):Ev T 147 [iv a,iv b] h (.val (iv (cmpI a b)),⟨h,[],[]⟩):=by
 refine hT.wk fn147 (by decide) ?_;unfold cmpI;by_cases h1:a<b
 ·simp(disch:=omega) only[go_sem,cb (qnq hT a _),cb (qnq hT b _),hT.prim,qab,h1]
 · by_cases h2:b<a
   ·simp(disch:=omega) only[go_sem,cb (qnq hT a _),cb (qnq hT b _),hT.prim,qab,h1,h2,if_true]
   ·simp(disch:=omega) only[go_sem,cb (qnq hT a _),cb (qnq hT b _),hT.prim,qab,h1,h2]
include hT in
theorem or3_ev(a b c:Int)(h:Hp):Ev T 146 [.slice 1 [iv a,iv b,iv c] .lit] h (.val (iv (if a≠0 then a else if b≠0 then b else c)),⟨h,[],[]⟩):=by
 refine hT.wk fn146 (by decide) ?_;have g0:([iv a,iv b,iv c]:List PV)[0]?=some (iv a):=rfl;have g1:([iv a,iv b,iv c]:List PV)[1]?=some (iv b):=rfl;have g2:([iv a,iv b,iv c]:List PV)[2]?=some (iv c):=rfl;simp(disch:=omega) only[go_sem,Ae];refine wpC.loopM (fun g e st=> ∃i:Nat,i+g=3∧(∀x∈[a,b,c].take i,x=0)∧eget e 3=iv 0∧eget e 6=.slice 1 [iv a,iv b,iv c] .lit∧eget e 7=iv 3∧eget e 8=iv (i:Int)∧st=⟨h,[],[]⟩) ?_ 3 _ _ ⟨0,by omega,by simp,by simp only[go_sem],by simp only[go_sem],by simp only[go_sem];rfl,by simp only[go_sem];rfl,rfl⟩;rintro g e st ⟨i,hi,hz,e3,e6,e7,e8,rfl⟩;rcases(show i=0∨i=1∨i=2∨i=3 by omega)with rfl|rfl|rfl|rfl
 · by_cases ha:a=0
   · have ha':(a !=0)=false:=by simpa using ha
     simp(disch:=omega) only[go_sem,qkx,e3,e6,e7,e8,g0,ha',List.length_cons];exact⟨2,by omega,1,by omega,by simpa using ha,rfl,trivial⟩
   · have ha':(a !=0)=true:=by simpa using ha
     simp(disch:=omega) only[go_sem,qkx,e3,e6,e7,e8,g0,ha',List.length_cons];simp[ha]
 · have ha:a=0:=hz a (by simp);by_cases hb:b=0
   · have hb':(b !=0)=false:=by simpa using hb
     simp(disch:=omega) only[go_sem,qkx,e3,e6,e7,e8,g1,hb',List.length_cons];exact⟨1,by omega,2,by omega,by simp[ha,hb],rfl,trivial⟩
   · have hb':(b !=0)=true:=by simpa using hb
     simp(disch:=omega) only[go_sem,qkx,e3,e6,e7,e8,g1,hb',List.length_cons];simp[ha,hb]
 · have ha:a=0:=hz a (by simp);have hb:b=0:=hz b (by simp);by_cases hc:c=0
   · have hc':(c !=0)=false:=by simpa using hc
     simp(disch:=omega) only[go_sem,qkx,e3,e6,e7,e8,g2,hc',List.length_cons];exact⟨0,by omega,3,by omega,by simp[ha,hb,hc],rfl,trivial⟩
   · have hc':(c !=0)=true:=by simpa using hc
     simp(disch:=omega) only[go_sem,qkx,e3,e6,e7,e8,g2,hc',List.length_cons];simp[ha,hb]
 · have ha:a=0:=hz a (by simp);have hb:b=0:=hz b (by simp);have hc:c=0:=hz c (by simp);simp(disch:=omega) only[go_sem,qkx,e3,e6,e7,e8];simp[ha,hb,hc]
set_option maxHeartbeats 1000000 in
include hT in
theorem compare_ev{t:Tm}{p:PV}(ht:Enc t p):t.nodes≤100000->∀(u:Tm)(q:PV),Enc u q->∀h:Hp,Ev T 62 [p,q] h (.val (iv (tmC t u)),⟨h,[],[]⟩):=by
 have hc:=ht.cells;have hsb:=ht.sub;induction ht with
 |mk k n l sz es hz hl he ih=>
   intro hnd u q hq h;simp only[Tm.nodes]at hnd;have hll:=qbv l;obtain⟨k',n',l',sz',es',rfl,hQ,hz',hE'⟩:=hq.eq;obtain⟨d1,_,d3,_⟩:=hq.cells;obtain⟨c1,c2,c3,c4⟩:=hc;have hl':=hE'.1;refine hT.wk fn62 (by decide) ?_
   have E148:es.length=es'.length->∀h,Ev T 148 [.slice sz es .any,.slice sz' es' .any,.func (.func 62) [] []] h (.val (iv (tmCL l l')),⟨h,[],[]⟩):=fun hee h=>by
    refine hT.wk fn148 (by decide) ?_;simp(disch:=first|omega|decide|simp only[go_sem]) only[go_sem]
    refine wpC.loopM (fun g e st=> ∃(i:Nat)(H:Hp)(ws:List Nat),i+g=es.length∧tmCL l l'=tmCL (l.drop i) (l'.drop i)∧Low h.length h H∧(∀x∈ws,h.length≤x)∧eget e 0=.slice sz es .any∧eget e 1=.slice sz' es' .any∧eget e 2=.func (.func 62) [] []∧eget e 11=.slice sz es .any∧eget e 12=iv (es.length:Int)∧eget e 13=iv (i:Int)∧st=⟨H,ws,[]⟩) ?_ es.length _ _
     ⟨0,h,[],by omega,rfl,Low.refl _ _,by simp,by simp only[go_sem],by simp only[go_sem],by simp only[go_sem],by simp only[go_sem],by simp only[go_sem],by simp only[go_sem];rfl,rfl⟩
    rintro g e st ⟨i,H,ws,hi,hC,low,hw,e0,e1,e2,e11,e12,e13,rfl⟩;by_cases h1:i<es.length
    · have ga:=qb1 h1;have hx:l[i]?=some l[i]:=Ab (by omega);have hE:=he i l[i] es[i] hx ga;have hi':i<es'.length:=by omega
      have ga':=qb1 hi';have hx':l'[i]?=some l'[i]:=Ab (by omega);have hEy:=hE'.2 i l'[i] es'[i] hx' ga';have ev:=ih i l[i] es[i] hx ga hE.cells hE.sub (by have:=qcp (mG hx);omega) _ _ hEy;have hd:l.drop i=l[i]::l.drop (i+1):=List.drop_eq_getElem_cons (by omega);have hd':l'.drop i=l'[i]::l'.drop (i+1):=List.drop_eq_getElem_cons (by omega);rw[hd,hd']at hC;simp only[tmCL]at hC
      have hsz:sz=3:=by
       rcases hz with rfl|h
       ·simp at h1
       ·exact h
      have hsz':sz'=3:=by
       rcases hz' with rfl|h
       ·simp at hi'
       ·exact h
      subst hsz hsz';obtain⟨b1,b2,b3,b4⟩:=hE.cells;obtain⟨y1,y2,y3,y4⟩:=hEy.cells;have bt:=hE.facts.1;have yt:=hEy.facts.1;have bs:=hE.sub;have ys:=hEy.sub;generalize l[i]=x at*;generalize l'[i]=y at*;generalize es[i]=a at*;generalize es'[i]=b at*;have sb:=qa6 (h:=H) (ws:=ws) (ups:=[]) (z:=zq3) (sz:=3) (c:=a) b1 rfl b2 bt ⟨_,rfl⟩ b4;have ka:=gC (l:=H) (a:=row 3 [a]);have hHl:=low.len;have low5:=low.push (o:=row 3 [a]) hHl;have hl5:(H++[row 3 [a]]).length=H.length+1:=by simp
      generalize hH5:H++[row 3 [a]]=H5 at*;have sb2:=fun ws=>qa6 (h:=H5) (ws:=ws) (ups:=[]) (z:=zq3) (sz:=3) (c:=b) y1 rfl y2 yt ⟨_,rfl⟩ y4;have kb:=gC (l:=H5) (a:=row 3 [b]);have ka2:=qag (o2:=row 3 [b]) ka;have low6:=low5.push (o:=row 3 [b]) (by omega);generalize hH6:H5++[row 3 [b]]=H6 at*;generalize hk1:H.length=k1 at*;generalize hk2:H5.length=k2 at*;have la:loadAt true 3 (.ptr k1 0 0 1) H6=some a:=by rw[qac ka2];exact bs
      have lb:loadAt true 3 (.ptr k2 0 0 1) H6=some b:=by rw[qac kb];exact ys
      have h1':(i:Int)< (es.length:Int):=by omega
      have h2':¬(es'.length:Int)≤(i:Int):=by omega
      have hw6:∀x∈wadd k2 (wadd k1 ws),h.length≤x:=qad (by omega) (qad (by omega) hw);by_cases h0:tmC x y=0
      · have h0':(tmC x y !=0)=false:=by simpa using h0
        simp only[h0,ne_eq,not_true_eq_false,if_false]at hC;simp(disch:=first|omega|decide|simp only[go_sem]) only[go_sem,a148b0,e0,e1,e2,e11,e12,e13,h1',h2',ga,ga',bs,ys,hk1,sb,hk2,sb2,la,lb,cb (ev H6),hT.q,h0'];exact⟨g - 1,by omega,i+1,_,_,by omega,hC,low6,hw6,rfl,rfl⟩
      · have h0':(tmC x y !=0)=true:=by simpa using h0
        simp only[h0,ne_eq,not_false_eq_true,if_true]at hC;rw[hC];simp(disch:=first|omega|decide|simp only[go_sem]) only[go_sem,a148b0,e1,e2,e11,e12,e13,h1',h2',ga,ga',bs,ys,hk1,sb,hk2,sb2,la,lb,cb (ev H6),hT.q,h0'];exact qaj rfl rfl low6 hw6
    · have h1':¬(i:Int)< (es.length:Int):=by omega
      have h3':¬(es.length:Int)< (es'.length:Int):=by omega
      rw[List.drop_of_length_le (by omega),List.drop_of_length_le (by omega)]at hC;simp only[tmCL]at hC;rw[hC];simp(disch:=first|omega|decide|simp only[go_sem]) only[go_sem,a148b0,e0,e1,e12,e13,h1',h3'];exact qaj rfl rfl low hw
   generalize hP:PV.agg [iv k,iv n,.slice sz es .any]=P at*;have kp1:=gC (l:=h) (a:=row 3 [P]);have low1:Low h.length h (h++[row 3 [P]]):=(Low.refl _ _).push (nR _);have hl1:(h++[row 3 [P]]).length=h.length+1:=by simp
   generalize hH1:h++[row 3 [P]]=H1 at*;have kq:=gC (l:=H1) (a:=row 3 [q]);have kp:=qag (o2:=row 3 [q]) kp1;have low2:=low1.push (o:=row 3 [q]) (by omega);generalize hH2:H1++[row 3 [q]]=H2 at*;generalize hkQ:H1.length=kQ at*;have l0:loadAt false 1 (.ptr h.length 0 0 1) H2=some (iv k):=by rw[qac kp,←hP];rfl
   have l1:loadAt false 1 (.ptr h.length 0 1 1) H2=some (iv n):=by rw[qac kp,←hP];rfl
   have l2:loadAt false 1 (.ptr h.length 0 2 1) H2=some (.slice sz es .any):=by rw[qac kp,←hP];rfl
   have q0:loadAt false 1 (.ptr kQ 0 0 1) H2=some (iv k'):=by rw[qac kq,hQ];rfl
   have q1:loadAt false 1 (.ptr kQ 0 1 1) H2=some (iv n'):=by rw[qac kq,hQ];rfl
   have q2:loadAt false 1 (.ptr kQ 0 2 1) H2=some (.slice sz' es' .any):=by rw[qac kq,hQ];rfl
   have td:∀a,tidy 0 h.length (.val (iv a)) ⟨H2,[],[]⟩=(.val (iv a),⟨h,[],[]⟩):=fun a=>qaj rfl rfl low2 (by simp);have fe:∀a b c:Int,qcw 1 (List.replicate 3 (PV.int .i64 0)) [(0,iv a),(1,iv b),(2,iv c)]=some [iv a,iv b,iv c]:=fun a b c=>rfl;have o3:=or3_ev hT (cmpI k k') (cmpI n n') (cmpI (es.length:Int) es'.length) H2;have hee:cmpI (es.length:Int) es'.length=cmpI (l.length:Int) l'.length:=by rw[hl,hl']
   have hr:tmC (.mk k n l) (.mk k' n' l')=if(if cmpI k k'≠0 then cmpI k k' else if cmpI n n'≠0 then cmpI n n' else cmpI (es.length:Int) es'.length)≠0 then(if cmpI k k'≠0 then cmpI k k' else if cmpI n n'≠0 then cmpI n n' else cmpI (es.length:Int) es'.length)else tmCL l l':=by
    simp only[tmC,hee];by_cases a1:cmpI k k'=0
    · by_cases a2:cmpI n n'=0
      · by_cases a3:cmpI (l.length:Int) l'.length=0
        ·simp[a1,a2,a3]
        ·simp[a1,a2,a3]
      ·simp[a1,a2]
    ·simp[a1]
   have hz0:(if cmpI k k'≠0 then cmpI k k' else if cmpI n n'≠0 then cmpI n n' else cmpI (es.length:Int) es'.length)=0->es.length=es'.length:=fun h0=>by
    by_cases a1:cmpI k k'=0
    · by_cases a2:cmpI n n'=0
      · simp only[a1,a2,ne_eq,not_true_eq_false,if_false]at h0;have:=qc6.1 h0;omega
      ·simp[a1,a2]at h0
    ·simp[a1]at h0
   rw[hr];generalize(if cmpI k k'≠0 then cmpI k k' else if cmpI n n'≠0 then cmpI n n' else cmpI (es.length:Int) es'.length)=c at*;by_cases h0:c=0
   · have h0':(c !=0)=false:=by simpa using h0
     have ev:=E148 (hz0 h0) H2;have hr0:(if c≠0 then c else tmCL l l')=tmCL l l':=by simp[h0]
     rw[hr0];simp(disch:=first|omega|decide|simp only[go_sem]) only[go_sem,hH1,hkQ,hH2,c1,c3,d1,d3,l0,l1,l2,q0,q1,q2,cb (cmpI_ev hT _ _ _),fe,cb o3,h0',cb ev,hT.prim,qab,td]
   · have h0':(c !=0)=true:=by simpa using h0
     have hr0:(if c≠0 then c else tmCL l l')=c:=by simp[h0]
     rw[hr0];simp(disch:=first|omega|decide|simp only[go_sem]) only[go_sem,hH1,hkQ,hH2,c1,c3,d1,d3,l0,l1,l2,q0,q1,q2,cb (cmpI_ev hT _ _ _),fe,cb o3,h0',hT.prim,qab,td]
def qia(s:GSig)(t:Tm):Int×Int:=if qa0 t=true then qmr s t else(0,4)
include hT in
theorem sortX_ev(hs:GOk s)(E87:∀h,Ev T 87 [qae s] h (.val (.int .i64 0),⟨h,[],[]⟩)){t:Tm}{p:PV}(ht:Enc t p)(h:Hp):
 Ev T 45 [qae s,.slice 0 [] .nil,p] h (.val (.tuple [.int .i64 (qia s t).1,.int .i64 (qia s t).2]),⟨h,[],[]⟩):=by
 refine hT.wk fn45 (by decide) ?_;have htr:=qfp hT ht;have hty:=fun hsh a h kv hv=>typed_ev hT hs ht hsh a h kv hv;have hsub:=ht.sub;obtain⟨c1,c2,c3,c4⟩:=ht.cells;have hnO:=hs.nO;have kg:(((h++[row 2 [qae s]])++[row 1 [PV.slice 0 [] .nil]])++[row 3 [p]])[h.length]?=some (.row 2 [qae s]):=qag (qag (by simp));have hl1:(h++[row 2 [qae s]]).length=h.length+1:=by simp
 have kv:(((h++[row 2 [qae s]])++[row 1 [PV.slice 0 [] .nil]])++[row 3 [p]])[(h++[row 2 [qae s]]).length]?=some (.row 1 [.slice 0 [] .nil]):=qag (by simp);have kp:=gC (l:=((h++[row 2 [qae s]])++[row 1 [PV.slice 0 [] .nil]])) (a:=row 3 [p]);have low:Low h.length h (((h++[row 2 [qae s]])++[row 1 [PV.slice 0 [] .nil]])++[row 3 [p]]):=(((Low.refl _ _).push (nR _)).push (by simp)).push (by simp);generalize hk1:(h++[row 2 [qae s]]).length=k1 at*;generalize hk2:((h++[row 2 [qae s]])++[row 1 [PV.slice 0 [] .nil]]).length=k2 at*;generalize hH:((h++[row 2 [qae s]])++[row 1 [PV.slice 0 [] .nil]])++[row 3 [p]]=H at*;have lg:loadAt true 2 (.ptr h.length 0 0 1) H=some (qae s):=by rw[qac kg];rfl
 have lg1:loadAt false 1 (.ptr h.length 0 1 1) H=some (.slice 3 (s.ops.map qap) .any):=by rw[qac kg];rfl
 have lv:loadAt false 1 (.ptr k1 0 0 1) H=some (.slice 0 [] .nil):=by rw[qac kv];rfl
 have lp:loadAt true 3 (.ptr k2 0 0 1) H=some p:=by rw[qac kp];exact hsub
 have c65':=qmz hT (g:=129) (cap:=[.ptr (h.length) 0 0 1]) (m:=.nil) H;have td:∀a b,tidy 0 h.length (.val (.tuple [.int .i64 a,.int .i64 b])) ⟨H,[],[]⟩=(.val (.tuple [.int .i64 a,.int .i64 b]),⟨h,[],[]⟩):=fun a b=>qaj rfl rfl low (by simp);cases hbt:qa0 t
 · have hF:qia s t=(0,4):=by simp[qia,hbt]
   rw[hF];rw[hbt]at htr;simp(disch:=omega) only[go_sem,hk1,hk2,hH,c1,c3,lg,cb (E87 _),lv,cb c65',lp,cb (htr _),bne_self_eq_false,hT.prim,qab,td]
 · have hF0:qia s t=qmr s t:=by simp[qia,hbt]
   rw[hF0];have hsh:=qav hbt;rw[hbt]at htr;clear hF0 hbt;cases ht with
   |mk k n l sz es hz hl he=>
     have lp0:loadAt false 1 (.ptr k2 0 0 1) H=some (.int .i64 k):=by rw[qac kp];rfl
     have lp1:loadAt false 1 (.ptr k2 0 1 1) H=some (.int .i64 n):=by rw[qac kp];rfl
     have hsh':=hsh;simp only[qal,bA,dE,Bool.or_eq_true,beq_iff_eq]at hsh;obtain⟨⟨⟨⟨hn0,_⟩,hk12⟩,_⟩,_⟩:=hsh;obtain⟨N,rfl⟩:=iZ hn0;have b10:¬((N:Int)< ((0:Nat):Int)):=by omega
     have m1:((-1:Int)<0):=by omega
     rcases hk12 with rfl|rfl
     · have hF:qmr s (.mk 1 N l)=(0,4):=by simp[qmr]
       rw[hF];have b11:((1:Int)==1)=true:=rfl;have b12:((1:Int)==2)=false:=rfl;simp(disch:=omega) only[go_sem,hk1,hk2,hH,c1,c3,lg,cb (E87 _),lv,cb c65',lp,cb (htr _),bne_self_eq_false,hT.q,td,lp0,lp1,b11,b12,b10,m1]
     · have b11:((2:Int)==1)=false:=rfl;have b12:((2:Int)==2)=true:=rfl;by_cases hNO:N<s.ops.length
       · have go:=qi7 hNO;have ho:s.ops[N]?=some s.ops[N]:=Ab hNO;obtain⟨a1,a2,a3⟩:=hs.ops _ (mG ho);generalize s.ops[N]=o at*;have so2:sub false 1 (qap o) 2=some (.int .i64 o.res):=rfl;have r0:¬o.res<0:=by omega
         have ety:=hty hsh' o.res H k1 kv;cases hb:qfo s (.mk 2 N l) o.res
         · have hF:qmr s (.mk 2 N l)=(0,4):=by simp[qmr,hsh',ho,hb]
           rw[hF];rw[hb]at ety;simp(disch:=omega) only[go_sem,hk1,hk2,hH,c1,c3,lg,lg1,cb (E87 _),lv,cb c65',lp,cb (htr _),bne_self_eq_false,hT.prim,qab,td,lp0,lp1,b11,b12,hNO,go,so2,r0,cb ety]
         · have hF:qmr s (.mk 2 N l)=(o.res,0):=by simp[qmr,hsh',ho,hb]
           rw[hF];rw[hb]at ety;simp(disch:=omega) only[go_sem,hk1,hk2,hH,c1,c3,lg,lg1,cb (E87 _),lv,cb c65',lp,cb (htr _),bne_self_eq_false,hT.prim,qab,td,lp0,lp1,b11,b12,hNO,go,so2,r0,cb ety]
       · have hF:qmr s (.mk 2 N l)=(0,4):=by simp[qmr,hsh',List.getElem?_eq_none (show s.ops.length≤N by omega)]
         rw[hF];simp(disch:=omega) only[go_sem,hk1,hk2,hH,c1,c3,lg,lg1,cb (E87 _),lv,cb c65',lp,cb (htr _),bne_self_eq_false,hT.prim,qab,td,lp0,lp1,b11,b12,hNO,m1]
end Go.Proofs.Tryz
namespace Go.Proofs.Tryz
open Go Go.AE
variable {T:Tbl}(hT:Std T){s:GSig}
def Rds(H:Hp)(v:PV)(sz:Nat)(es:List PV):Prop:=(∃z m,v=.slice z es m∧(es=[]∨z=sz))∨∃k,v=.aref k sz 0 es.length es.length∧H[k]?=some (.row sz es)
theorem Rds.len{H:Hp}{v:PV}{sz:Nat}{es:List PV}(h:Rds H v sz es):lenOf v=some es.length:=by rcases h with⟨z,m,rfl,_⟩|⟨k,rfl,_⟩<;>rfl
theorem Rds.low{h H:Hp}{v:PV}{sz:Nat}{es:List PV}(R:Rds h v sz es)(L:Low h.length h H):Rds H v sz es:=by
 rcases R with h|⟨k,h1,h2⟩
 ·exact .inl h
 ·exact .inr ⟨k,h1,L.get (gI.1 h2).1 h2⟩
theorem Rds.idx{h:Hp}{v:PV}{sz:Nat}{es:List PV}(R:Rds h v sz es){i:Nat}{x:PV}(hx:es[i]?=some x):∃p,qb2 sz v (iv (i:Int))=some p∧∀(H:Hp)(agg:Bool)(z:Nat),Low h.length h H->loadAt agg z p H=AE.sub agg z x 0:=by
 have hi:=(gI.1 hx).1;rcases R with⟨z,m,rfl,hz⟩|⟨k,rfl,hk⟩
 · have hz':z=sz:=by
    rcases hz with rfl|h
    ·simp at hi
    ·exact h
   subst hz';exact⟨.iptr x 0,by rw[qdb,if_pos rfl,hx];rfl,fun H agg z _=>rfl⟩
 · refine⟨.ptr k (0+i) 0 es.length,by rw[idx_aref,if_pos ⟨hi,rfl⟩],fun H agg z L=>?_⟩;have hk':=L.get (gI.1 hk).1 hk;simp only[loadAt,hk',if_true,Nat.zero_add,hx]
mutual
theorem Enc.inj:∀{t t':Tm}{p:PV},Enc t p->Enc t' p->t=t'
 |.mk k n l,t',p,h,h'=>by obtain⟨k1,n1,l1,sz,es,e1,rfl,_,hE⟩:=h.eq;cases e1;obtain⟨k2,n2,l2,sz2,es2,rfl,e2,_,hE2⟩:=h'.eq;simp only[PV.agg.injEq,List.cons.injEq,PV.int.injEq,PV.slice.injEq,true_and,and_true]at e2;obtain⟨rfl,rfl,_,rfl⟩:=e2;rw[encL_inj hE hE2]
theorem encL_inj:∀{l l':List Tm}{es:List PV},EncL l es->EncL l' es->l=l'
 |[],l',es,h,h'=>by
   exact(lZ.1 (h'.1.symm.trans h.1)).symm
 |t::l,l',es,h,h'=>by
   have h1:=h.1;cases es with
   |nil=>simp at h1
   |cons e es=>
     have h2:=h'.1;cases l' with
     |nil=>simp at h2
     |cons t' l'=>
       have a:=Enc.inj (h.2 0 t e rfl rfl) (h'.2 0 t' e rfl rfl);have b:=encL_inj (l:=l) (l':=l') (es:=es) ⟨by simpa using h1,fun i x p hx hp=>h.2 (i+1) x p hx hp⟩ ⟨by simpa using h2,fun i x p hx hp=>h'.2 (i+1) x p hx hp⟩;rw[a,b]
end
structure DomV (H:Hp)(dv:PV)(dom:List (List Tm))(vs:List PV)(vss:List (List PV)):Prop where
 top:Rds H dv 1 vs
 l1:vs.length=dom.length
 l2:vss.length=dom.length
 row:∀(i:Nat)(v:PV)(es:List PV),vs[i]?=some v->vss[i]?=some es->Rds H v 3 es
 enc:∀(i:Nat)(l:List Tm)(es:List PV),dom[i]?=some l->vss[i]?=some es->EncL l es
 cell:∀v∈vs,AE.sub false 1 v 0=some v
theorem DomV.low{h H:Hp}{dv:PV}{dom:List (List Tm)}{vs:List PV}{vss:List (List PV)}(D:DomV h dv dom vs vss)(L:Low h.length h H):DomV H dv dom vs vss:=⟨D.top.low L,D.l1,D.l2,fun i v es h1 h2=>(D.row i v es h1 h2).low L,D.enc,D.cell⟩
def SOk(s:GSig)(i:Nat)(x:Tm):Prop:=(qia s x).2=0∧(qia s x).1=(i:Int)
def ItemOk(s:GSig)(i:Nat)(l:List Tm)(k:Nat):Prop:=∀x,l[k]?=some x->SOk s i x∧∀y,0<k->l[k - 1]?=some y->tmC y x<0
def RowOk(s:GSig)(i:Nat)(l:List Tm):Prop:=l.length≤64∧∀k,ItemOk s i l k
def Dom1(s:GSig)(dom:List (List Tm)):Prop:=dom.length=s.sorts.length∧∀i l,dom[i]?=some l->RowOk s i l
def OkX(nv:PV->PV×Int)(dom:List (List Tm))(vss:List (List PV))(i k:Nat):Prop:=∀l es x X,dom[i]?=some l->vss[i]?=some es->l[k]?=some x->es[k]?=some X->(nv X).2=0->Enc x (nv X).1
def ZX(nv:PV->PV×Int)(vss:List (List PV))(i k:Nat):Prop:=∀es X,vss[i]?=some es->es[k]?=some X->(nv X).2=0
structure DomR (s:GSig)(nv:PV->PV×Int)(dom:List (List Tm))(vss:List (List PV))(r:Int):Prop where
 c:r=0∨r=2∨r=90
 no:r=90->¬(Dom1 s dom∧∀i k,OkX nv dom vss i k)
 yes:r≠90->Dom1 s dom∧∀i k,OkX nv dom vss i k
 z:r=0->∀i k,ZX nv vss i k
 nz:r=2->∃i k,¬ZX nv vss i k
def NVal(T:Tbl)(t:GTy)(nv:PV->PV×Int):Prop:=∀(u:Tm)(X:PV),Enc u X->qrt (nv X)∧∀h,Ev T 50 [qan t,X] h (.val (.tuple [(nv X).1,iv (nv X).2]),⟨h,[],[]⟩)
theorem SOk.tree{i:Nat}{x:Tm}(h:SOk s i x):qa0 x=true:=by
 have h1:=h.1;unfold qia at h1;split at h1
 ·assumption
 ·cases h1
theorem DomR.err{nv:PV->PV×Int}{dom:List (List Tm)}{vss:List (List PV)}(h:¬(Dom1 s dom∧∀i k,OkX nv dom vss i k)):DomR s nv dom vss 90:=⟨.inr (.inr rfl),fun _=>h,fun h=>absurd rfl h,(fun h=>by cases h),(fun h=>by cases h)⟩
theorem qrt.facts{x:PV×Int}(h:qrt x):x.1.cells.length=3∧x.1.cells.all PV.isCell=true∧(∃cs,x.1=.agg cs)∧x.1.top=none∧x.1.pure=true∧x.1.weak=x.1∧AE.sub true 3 x.1 0=some x.1:=by
 rcases h with⟨_,w,hw,_⟩|⟨_,h⟩
 · obtain⟨y1,y2,y3,y4⟩:=hw.cells;exact⟨y1,y2,y4,hw.facts.1,hw.facts.2.1,hw.facts.2.2,hw.sub⟩
 ·rw[h];exact⟨rfl,rfl,⟨_,rfl⟩,rfl,rfl,rfl,rfl⟩
set_option maxRecDepth 4000 in
include hT in
theorem domain_ev{t:GTy}(I:TyIn T t 0){nv:PV->PV×Int}(N:NVal T t nv){h:Hp}{dv:PV}{dom:List (List Tm)}{vs:List PV}{vss:List (List PV)}(D:DomV h dv dom vs vss)(hd:dom.length<100000):
 ∃r:Int,Ev T 104 [qan t,dv] h (.val (iv r),⟨h,[],[]⟩)∧DomR t.sig nv dom vss r:=by
 refine hT.wp (r:=fun r:Int=>(.val (iv r),⟨h,[],[]⟩)) fn104 (by decide) ?_;have k1:=gC (l:=h) (a:=AE.Obj.row 3 [qan t]);have low1:Low h.length h (h++[AE.Obj.row 3 [qan t]]):=(Low.refl _ _).push (nR _);have hl1:(h++[AE.Obj.row 3 [qan t]]).length=h.length+1:=by simp
 generalize hH1:h++[AE.Obj.row 3 [qan t]]=H1 at*;have ls:loadAt false 1 (.ptr h.length 0 0 1) H1=some (.slice 1 (t.sig.sorts.map .str) .any):=by rw[qac k1];rfl
 have hlv:lenOf dv=some dom.length:=by rw[D.top.len,D.l1]
 have td:∀(H:Hp)(ws:List Nat)(r:Int),Low h.length h H->(∀x∈ws,h.length≤x)->tidy 0 h.length (.val (iv r)) ⟨H,ws,[]⟩=(.val (iv r),⟨h,[],[]⟩):=fun H ws r L hw=>qaj rfl rfl L hw;by_cases hlen:dom.length=t.sig.sorts.length;rotate_left
 · have hb:((dom.length:Int) !=(t.sig.sorts.length:Int))=true:=by simp;omega
   simp(disch:=omega) only[go_sem,hH1,qbz,qb0,lM,ls,hlv,hb,td H1 [] 90 low1 (by simp)];exact⟨90,rfl,.err fun h=>hlen h.1.1⟩
 have hb:((dom.length:Int) !=(t.sig.sorts.length:Int))=false:=by simp;omega
 simp(disch:=omega) only[go_sem,hH1,qbz,qb0,lM,ls,hlv,hb]
 refine wpC.loopM (fun g e st=> ∃(i:Nat)(H:Hp)(ws:List Nat),i+g=dom.length∧Low h.length h H∧H[h.length]?=some (.row 3 [qan t])∧(∀x∈ws,h.length≤x)∧(∀j,j<i->∀l,dom[j]?=some l->RowOk t.sig j l)∧(eget e 1=dv∧eget e 2=.ptr h.length 0 0 1∧eget e 25=dv∧eget e 26=iv (dom.length:Int)∧eget e 27=iv (i:Int))∧st=⟨H,ws,[]⟩) ?_ dom.length _ _
  ⟨0,H1,[],by omega,low1,k1,by simp,fun j hj=>by omega,by simp only[go_sem,Ag],rfl⟩
 rintro g e st ⟨i,H,ws,hi,low,kt,hw,hrow,⟨e1,e2,e25,e26,e27⟩,rfl⟩;have hHl:=low.len;by_cases h1:i<dom.length
 · have h1':(i:Int)< (dom.length:Int):=by omega
   have gl:dom[i]?=some dom[i]:=Ab h1;have gv:vs[i]?=some (vs[i]'(by rw[D.l1];exact h1)):=Ab _;have ge:vss[i]?=some (vss[i]'(by rw[D.l2];exact h1)):=Ab _;generalize dom[i]=l at*;generalize vs[i]'(by rw[D.l1];exact h1)=v at*;generalize vss[i]'(by rw[D.l2];exact h1)=es at*;have Rv:=D.row i v es gv ge;have hE:=D.enc i l es gl ge;have hel:=hE.1;have cv:=D.cell v (mG gv);obtain⟨p,ip,lp⟩:=D.top.idx gv;have lp1:=lp H false 1 low;rw[cv]at lp1;have hle:lenOf v=some l.length:=by rw[Rv.len,hel]
   by_cases h64:64<l.length
   · have h64':(64:Int)< (l.length:Int):=by omega
     simp(disch:=omega) only[go_sem,a104b1,e25,e26,e27,h1',ip,lp1,hle,h64',td H ws 90 low hw];exact⟨90,rfl,.err fun h=>by have:=(h.1.2 i l gl).1;omega⟩
   have h64':¬(64:Int)< (l.length:Int):=by omega
   simp(disch:=omega) only[go_sem,a104b1,e25,e26,e27,h1',ip,lp1,hle,h64']
   refine wpC.loopM (fun g e st=> ∃(k:Nat)(H:Hp)(ws:List Nat),k+g=l.length∧Low h.length h H∧H[h.length]?=some (.row 3 [qan t])∧(∀x∈ws,h.length≤x)∧(∀j,j<k->ItemOk t.sig i l j)∧(eget e 1=dv∧eget e 2=.ptr h.length 0 0 1∧eget e 5=iv (i:Int)∧eget e 6=v∧eget e 25=dv∧eget e 26=iv (dom.length:Int)∧eget e 27=iv (i:Int)∧eget e 35=v∧eget e 36=iv (l.length:Int)∧eget e 37=iv (k:Int))∧st=⟨H,ws,[]⟩) ?_ l.length _ _
    ⟨0,H,ws,by omega,low,kt,hw,fun j hj=>by omega,by simp only[go_sem,e1,e2,e25,e26,e27,Ag],rfl⟩
   clear low kt hw e1 e2 e25 e26 e27 lp1 hHl;rintro g' e st ⟨k,H,ws,hk,low,kt,hw,hit,⟨e1,e2,e5,e6,e25,e26,e27,e35,e36,e37⟩,rfl⟩;have hHl:=low.len;by_cases h2:k<l.length
   · have h2':(k:Int)< (l.length:Int):=by omega
     have gx:l[k]?=some l[k]:=Ab h2;have gX:es[k]?=some (es[k]'(by omega)):=Ab _;have hX:=hE.2 k _ _ gx gX;generalize hx0:l[k]=x at*;generalize hX0:es[k]'(by omega)=X at*;obtain⟨px,ipx,lpx⟩:=Rv.idx gX;have lx1:=lpx H true 3 low;rw[hX.sub]at lx1;obtain⟨b1,b2,_,b4⟩:=hX.cells;have sb:=qa6 (h:=H) (ws:=ws) (ups:=[]) (z:=zq3) (sz:=3) (c:=X) b1 rfl b2 hX.facts.1 ⟨_,rfl⟩ b4;have kX:=gC (l:=H) (a:=AE.Obj.row 3 [X]);have kt5:=qag (o2:=AE.Obj.row 3 [X]) kt;have low5:=low.push (o:=AE.Obj.row 3 [X]) hHl;have hw5:∀y∈wadd H.length ws,h.length≤y:=qad hHl hw;generalize hH5:H++[AE.Obj.row 3 [X]]=H5 at*;generalize hk8:H.length=k8 at*;have lg:loadAt true 2 (.ptr h.length 0 0 1) H5=some (qae t.sig):=by rw[qac kt5];rfl
     have lX:loadAt true 3 (.ptr k8 0 0 1) H5=some X:=by rw[qac kX];exact hX.sub
     have evs:=sortX_ev hT (I.G rfl) (I.E87 rfl) hX H5;by_cases he:(qia t.sig x).2=0;rotate_left
     · have hb:((qia t.sig x).2 !=0)=true:=by simpa using he
       simp(disch:=first|omega|decide|simp only[go_sem]) only[go_sem,qmm,e2,e35,e36,e37,h2',ipx,lx1,hk8,sb,lg,lX,cb evs,hb,hT.q,td H5 _ 90 low5 hw5];exact⟨90,rfl,.err fun h=>he ((h.1.2 i l gl).2 k x gx).1.1⟩
     have hb:((qia t.sig x).2 !=0)=false:=by simpa using he
     by_cases hs:(qia t.sig x).1=(i:Int);rotate_left
     · have hb2:((qia t.sig x).1 !=(i:Int))=true:=by simpa using hs
       simp(disch:=first|omega|decide|simp only[go_sem]) only[go_sem,qmm,e2,e5,e35,e36,e37,h2',ipx,lx1,hk8,sb,lg,lX,cb evs,hb,hb2,hT.q,td H5 _ 90 low5 hw5];exact⟨90,rfl,.err fun h=>hs ((h.1.2 i l gl).2 k x gx).1.2⟩
     have hb2:((qia t.sig x).1 !=(i:Int))=false:=by simpa using hs
     rcases Nat.eq_zero_or_pos k with rfl|hkp
     · have h0:¬(0:Int)< ((0:Nat):Int):=by decide
       simp(disch:=first|omega|decide|simp only[go_sem]) only[go_sem,qmm,e1,e2,e5,e6,e25,e26,e27,e35,e36,e37,h2',h0,ipx,lx1,hk8,sb,lg,lX,cb evs,hb,hb2,hT.q];refine⟨g' - 1,by omega,0+1,_,_,by omega,low5,kt5,hw5,fun j hj=>?_,rfl,rfl⟩;have:j=0:=by omega
       subst this;intro x' hx';rw[gx]at hx';cases hx';exact⟨⟨he,hs⟩,fun y hy=>by omega⟩
     · obtain⟨k',rfl⟩:∃k',k=k'+1:=⟨k - 1,by omega⟩;have h0:(0:Int)< ((k'+1:Nat):Int):=by omega
       have hkm:((k'+1:Nat):Int) - 1=(k':Int):=by omega
       have gy:l[k']?=some (l[k']'(by omega)):=Ab _;have gY:es[k']?=some (es[k']'(by omega)):=Ab _;have hY:=hE.2 k' _ _ gy gY;have hyOk:=(hit k' (by omega) _ gy).1;generalize l[k']'(by omega)=y at*;generalize es[k']'(by omega)=Y at*;obtain⟨py,ipy,lpy⟩:=Rv.idx gY;have ly1:=lpy H5 true 3 low5;rw[hY.sub]at ly1;have evc:=compare_ev hT hY (by have:=qbi hyOk.tree;omega) x X hX H5;by_cases hc:0≤tmC y x
       · simp(disch:=first|omega|decide|simp only[go_sem]) only[go_sem,qmm,e2,e5,e6,e35,e36,e37,h2',h0,hkm,ipx,lx1,hk8,sb,lg,lX,cb evs,hb,hb2,ipy,ly1,cb evc,hc,hT.q,td H5 _ 90 low5 hw5];exact⟨90,rfl,.err fun h=>by have:=((h.1.2 i l gl).2 (k'+1) x gx).2 y (by omega) gy;omega⟩
       · simp(disch:=first|omega|decide|simp only[go_sem]) only[go_sem,qmm,e1,e2,e5,e6,e25,e26,e27,e35,e36,e37,h2',h0,hkm,ipx,lx1,hk8,sb,lg,lX,cb evs,hb,hb2,ipy,ly1,cb evc,hc,hT.q];refine⟨g' - 1,by omega,k'+1+1,_,_,by omega,low5,kt5,hw5,fun j hj=>?_,rfl,rfl⟩;by_cases hjk:j=k'+1
         · subst hjk;intro x' hx';rw[gx]at hx';cases hx';exact⟨⟨he,hs⟩,fun y' _ hy'=>by rw[Nat.add_sub_cancel,gy]at hy';cases hy';omega⟩
         ·exact hit j (by omega)
   · have h2':¬(k:Int)< (l.length:Int):=by omega
     simp(disch:=first|omega|decide|simp only[go_sem]) only[go_sem,qmm,e1,e2,e25,e26,e27,e36,e37,h2'];refine⟨g - 1,by omega,i+1,_,_,by omega,low,kt,hw,fun j hj=>?_,rfl,rfl⟩;by_cases hji:j=i
     · subst hji;intro l' hl';rw[gl]at hl';cases hl';refine⟨by omega,fun q=>?_⟩;by_cases hq:q<l.length
       ·exact hit q (by omega)
       · intro x hx;rw[List.getElem?_eq_none (by omega)]at hx;cases hx
     ·exact hrow j (by omega)
 · have h1':¬(i:Int)< (dom.length:Int):=by omega
   have D1:Dom1 t.sig dom:=⟨hlen,fun j l hj=>hrow j (by have:=(gI.1 hj).1;omega) l hj⟩;clear hrow;simp(disch:=first|omega|decide|simp only[go_sem]) only[go_sem,a104b1,e1,e26,e27,h1',hlv]
   refine wpC.loopM (fun g e st=> ∃(i:Nat)(H:Hp)(ws:List Nat)(o:Int),i+g=dom.length∧Low h.length h H∧H[h.length]?=some (.row 3 [qan t])∧(∀x∈ws,h.length≤x)∧(o=0∨o=2)∧(o=0->∀j,j<i->∀k,ZX nv vss j k)∧(o=2->∃j k,¬ZX nv vss j k)∧(∀j,j<i->∀k,OkX nv dom vss j k)∧(eget e 2=.ptr h.length 0 0 1∧eget e 11=iv o∧eget e 72=dv∧eget e 73=iv (dom.length:Int)∧eget e 74=iv (i:Int))∧st=⟨H,ws,[]⟩) ?_ dom.length _ _
    ⟨0,H,ws,0,by omega,low,kt,hw,.inl rfl,(fun _ j hj=>by omega),(fun h=>by cases h),(fun j hj=>by omega),by simp only[go_sem,e2,Ag],rfl⟩
   clear low kt hw e1 e2 e25 e26 e27 hHl h1 h1' hi;rintro g e st ⟨i,H,ws,o,hi,low,kt,hw,ho,hz0,hz2,hok,⟨e2,e11,e72,e73,e74⟩,rfl⟩;have hHl:=low.len;by_cases h1:i<dom.length
   · have h1':(i:Int)< (dom.length:Int):=by omega
     have gl:dom[i]?=some dom[i]:=Ab h1;have gv:vs[i]?=some (vs[i]'(by rw[D.l1];exact h1)):=Ab _;have ge:vss[i]?=some (vss[i]'(by rw[D.l2];exact h1)):=Ab _;generalize dom[i]=l at*;generalize vs[i]'(by rw[D.l1];exact h1)=v at*;generalize vss[i]'(by rw[D.l2];exact h1)=es at*;have Rv:=D.row i v es gv ge;have hE:=D.enc i l es gl ge;have hel:=hE.1;have cv:=D.cell v (mG gv);obtain⟨p,ip,lp⟩:=D.top.idx gv;have lp1:=lp H false 1 low;rw[cv]at lp1;have hle:lenOf v=some l.length:=by rw[Rv.len,hel]
     obtain⟨h64,hItm⟩:=D1.2 i l gl;simp(disch:=first|omega|decide|simp only[go_sem]) only[go_sem,a104b3,e72,e73,e74,h1',ip,lp1,hle]
     refine wpC.loopM (fun g e st=> ∃(k:Nat)(H:Hp)(ws:List Nat)(o:Int),k+g=l.length∧Low h.length h H∧H[h.length]?=some (.row 3 [qan t])∧(∀x∈ws,h.length≤x)∧(o=0∨o=2)∧(o=0->(∀j,j<i->∀k,ZX nv vss j k)∧∀q,q<k->ZX nv vss i q)∧(o=2->∃j k,¬ZX nv vss j k)∧(∀q,q<k->OkX nv dom vss i q)∧(eget e 2=.ptr h.length 0 0 1∧eget e 11=iv o∧eget e 72=dv∧eget e 73=iv (dom.length:Int)∧eget e 74=iv (i:Int)∧eget e 78=v∧eget e 79=iv (l.length:Int)∧eget e 80=iv (k:Int))∧st=⟨H,ws,[]⟩) ?_ l.length _ _
      ⟨0,H,ws,o,by omega,low,kt,hw,ho,fun h=>⟨hz0 h,fun q hq=>by omega⟩,hz2,fun q hq=>by omega,by simp only[go_sem,e2,e11,e72,e73,e74,Ag],rfl⟩
     clear low kt hw e2 e11 e72 e73 e74 lp1 hHl ho hz0 hz2;rintro g' e st ⟨k,H,ws,o,hk,low,kt,hw,ho,hz0,hz2,hokk,⟨e2,e11,e72,e73,e74,e78,e79,e80⟩,rfl⟩;have hHl:=low.len;by_cases h2:k<l.length
     · have h2':(k:Int)< (l.length:Int):=by omega
       have gx:l[k]?=some l[k]:=Ab h2;have gX:es[k]?=some (es[k]'(by omega)):=Ab _;have hX:=hE.2 k _ _ gx gX;have hSO:=(hItm k _ gx).1;generalize l[k]=x at*;generalize es[k]'(by omega)=X at*;obtain⟨px,ipx,lpx⟩:=Rv.idx gX;have lx1:=lpx H true 3 low;rw[hX.sub]at lx1;obtain⟨b1,b2,_,b4⟩:=hX.cells;have sb:=qa6 (h:=H) (ws:=ws) (ups:=[]) (z:=zq3) (sz:=3) (c:=X) b1 rfl b2 hX.facts.1 ⟨_,rfl⟩ b4;have kX:=gC (l:=H) (a:=AE.Obj.row 3 [X]);have kt5:=qag (o2:=AE.Obj.row 3 [X]) kt;have low5:=low.push (o:=AE.Obj.row 3 [X]) hHl;have hw5:∀y∈wadd H.length ws,h.length≤y:=qad hHl hw;have hl5:(H++[AE.Obj.row 3 [X]]).length=H.length+1:=by simp
       generalize hH5:H++[AE.Obj.row 3 [X]]=H5 at*;generalize hk15:H.length=k15 at*;have lt5:loadAt true 3 (.ptr h.length 0 0 1) H5=some (qan t):=by rw[qac kt5];rfl
       have lX:loadAt true 3 (.ptr k15 0 0 1) H5=some X:=by rw[qac kX];exact hX.sub
       obtain⟨hNX,evn⟩:=N x X hX;have evn:=evn H5;obtain⟨q1,q2,q4,q5,q6,q7,q8⟩:=hNX.facts
       have hzk:∀{o':Int},((nv X).2=0∧o'=o)∨((nv X).2≠0∧o'=2)->(o'=0->(∀j,j<i->∀k,ZX nv vss j k)∧∀q,q<k+1->ZX nv vss i q)∧(o'=2->∃j k,¬ZX nv vss j k):=fun{o'} hc=>by
        rcases hc with⟨h0,rfl⟩|⟨h0,rfl⟩
        · refine⟨fun h=>⟨(hz0 h).1,fun q hq=>?_⟩,hz2⟩;by_cases hqk:q=k
          · subst hqk;intro es' X' he hX';rw[ge]at he;cases he;rw[gX]at hX';cases hX';exact h0
          ·exact(hz0 h).2 q (by omega)
        ·exact⟨fun h=>by omega,fun _=>⟨i,k,fun hz=>h0 (hz es X ge gX)⟩⟩
       have hoX:((nv X).2=0->Enc x (nv X).1)->∀q,q<k+1->OkX nv dom vss i q:=fun hx q hq=>by
        by_cases hqk:q=k
        · subst hqk;intro l' es' x' X' h1 h2 h3 h4 h5;rw[gl]at h1;cases h1;rw[ge]at h2;cases h2;rw[gx]at h3;cases h3;rw[gX]at h4;cases h4;exact hx h5
        ·exact hokk q (by omega)
       have hno:¬((nv X).2=0->Enc x (nv X).1)->¬(Dom1 t.sig dom∧∀i k,OkX nv dom vss i k):=fun hn h=>hn fun h0=>h.2 i k l es x X gl ge gx gX h0;generalize hq0:(nv X).1=Q at*;generalize he0:(nv X).2=er at*;have sb2:=fun ws=>qa6 (h:=H5) (ws:=ws) (ups:=[]) (z:=zq3) (sz:=3) (c:=Q) q1 rfl q2 q5 ⟨_,rfl⟩ q4;have kQ:=gC (l:=H5) (a:=AE.Obj.row 3 [Q]);have kX6:=qag (o2:=AE.Obj.row 3 [Q]) kX;have kt6:=qag (o2:=AE.Obj.row 3 [Q]) kt5;have low6:=low5.push (o:=AE.Obj.row 3 [Q]) (by omega);have hw6:∀y∈wadd H5.length (wadd k15 ws),h.length≤y:=qad (by omega) hw5;generalize hH6:H5++[AE.Obj.row 3 [Q]]=H6 at*;generalize hk16:H5.length=k16 at*;by_cases her:er=0
       · have hb:(er !=0)=false:=by simpa using her
         obtain⟨u,hu,hut⟩:∃u,Enc u Q∧qa0 u=true:=by
          rcases hNX with⟨_,u,hu,hut⟩|⟨h,_⟩
          ·exact⟨u,hq0▸hu,hut⟩
          ·exact absurd (he0.trans her) h
         have lQ:loadAt true 3 (.ptr k16 0 0 1) H6=some Q:=by rw[qac kQ];exact q8
         have lX6:loadAt true 3 (.ptr k15 0 0 1) H6=some X:=by rw[qac kX6];exact hX.sub
         have evs:=qhk hT hX u Q hu (by have:=qbi hSO.tree;omega) H6;cases htm:tmB x u
         · rw[htm]at evs;simp(disch:=first|omega|decide|simp only[go_sem]) only[go_sem,qrs,e2,e78,e79,e80,h2',ipx,lx1,hk15,sb,lt5,lX,cb evn,hk16,sb2,hb,lX6,lQ,cb evs,Bool.not_false,hT.q,td H6 _ 90 low6 hw6];refine⟨90,rfl,.err (hno fun h=>?_)⟩;have:=(qju x u).2 ((h her).inj hu);rw[htm]at this;cases this
         · rw[htm]at evs;have hxu:=(qju x u).1 htm;subst hxu;obtain⟨z1,z2⟩:=hzk (o':=o) (.inl ⟨her,rfl⟩);simp(disch:=first|omega|decide|simp only[go_sem]) only[go_sem,qrs,e2,e11,e72,e73,e74,e78,e79,e80,h2',ipx,lx1,hk15,sb,lt5,lX,cb evn,hk16,sb2,hb,lX6,lQ,cb evs,Bool.not_true,hT.q];exact⟨g' - 1,by omega,k+1,_,_,o,by omega,low6,kt6,hw6,ho,z1,z2,hoX fun _=>hu,⟨rfl,rfl⟩,rfl⟩
       · have hb:(er !=0)=true:=by simpa using her
         obtain⟨z1,z2⟩:=hzk (o':=2) (.inr ⟨her,rfl⟩);simp(disch:=first|omega|decide|simp only[go_sem]) only[go_sem,qrs,e2,e72,e73,e74,e78,e79,e80,h2',ipx,lx1,hk15,sb,lt5,lX,cb evn,hk16,sb2,hb,hT.q];exact⟨g' - 1,by omega,k+1,_,_,2,by omega,low6,kt6,hw6,.inr rfl,z1,z2,hoX fun h=>absurd h her,⟨rfl,rfl⟩,rfl⟩
     · have h2':¬(k:Int)< (l.length:Int):=by omega
       simp(disch:=first|omega|decide|simp only[go_sem]) only[go_sem,qrs,e2,e11,e72,e73,e74,e79,e80,h2'];refine⟨g - 1,by omega,i+1,_,_,o,by omega,low,kt,hw,ho,fun h j hj q=>?_,hz2,fun j hj q=>?_,⟨rfl,rfl⟩,rfl⟩
       · by_cases hji:j=i
         · subst hji;by_cases hq:q<l.length
           ·exact(hz0 h).2 q (by omega)
           · intro es' X he hX;rw[ge]at he;cases he;rw[List.getElem?_eq_none (by omega)]at hX;cases hX
         ·exact(hz0 h).1 j (by omega) q
       · by_cases hji:j=i
         · subst hji;by_cases hq:q<l.length
           ·exact hokk q (by omega)
           · intro l' es' x X h1 h2 h3;rw[gl]at h1;cases h1;rw[List.getElem?_eq_none (by omega)]at h3;cases h3
         ·exact hok j (by omega) q
   · have h1':¬(i:Int)< (dom.length:Int):=by omega
     simp(disch:=first|omega|decide|simp only[go_sem]) only[go_sem,a104b3,e11,e73,e74,h1',td H ws o low hw]
     have all:∀j k,OkX nv dom vss j k:=fun j k=>by
      by_cases hj:j<i
      ·exact hok j hj k
      · intro l es x X h1;rw[List.getElem?_eq_none (by omega)]at h1;cases h1
     refine⟨o,rfl,by omega,fun h=>by omega,fun _=>⟨D1,all⟩,fun h j k=>?_,hz2⟩;by_cases hj:j<i
     ·exact hz0 h j hj k
     · intro es X he;rw[List.getElem?_eq_none (by rw[D.l2];omega)]at he;cases he
end Go.Proofs.Tryz
namespace Go.Proofs.Tryz
open Go Go.AE
open Go.AE.Obj (row)
variable {T:Tbl}(hT:Std T)
def lRow(x:Int):AE.Obj:=.row 1 [iv x]
def fRow(kl kw:Nat):AE.Obj:=.row 1 [.func (.func 84) [] [.ptr kl 0 0 1,.ptr kw 0 0 1]]
theorem st1_0{H:Hp}{ws:List Nat}{ups:List (Nat×Nat)}{k:Nat}{x v:Int}(hk:H[k]?=some (lRow x)):
 storeAt 1 (.ptr k 0 0 1) (iv v) ⟨H,ws,ups⟩=some ⟨H.set k (lRow v),wadd k ws,ups⟩:=by
 unfold lRow at*;have hu:upd (iv x) 0 (iv v)=some (iv v):=rfl;simp only[storeAt,hk,Ae,PV.cells,List.all_cons,List.all_nil,PV.isCell,Bool.and_self,and_self,if_true,List.getElem?_cons_zero,hu,Option.map,sC,PV.top,qas]
def FewR(T:Tbl)(f:FuncId)(args:List PV)(H:Hp)(kl:Nat)(lf:Int)(nd:Nat)(neg:Bool):Prop:=∃x:Bool×Int×List Nat,Ev T f args H (.val (.bool (neg ^^x.1)),⟨H.set kl (lRow x.2.1),x.2.2,[]⟩)∧(-1≤x.2.1∧x.2.1<lf)∧(x.1=true->0≤x.2.1∧x.2.1+nd=lf)∧∀y∈x.2.2,y=kl
include hT in
theorem index135_w{g:FuncId}{cap:List PV}{H0:Hp}{kl:Nat}{left0:Int}(hg:T.prim g=none)(hk:H0[kl]?=some (lRow left0))(h0:0≤left0∧left0≤1000){l:List Tm}{sz:Nat}{es:List PV}{m:SM}(hs:es=[]∨sz=3)(hl:es.length=l.length)(he:∀(i:Nat)(x:Tm)(p:PV),l[i]?=some x->es[i]?=some p->Enc x p)
 (hf:∀(i:Nat)(x:Tm)(p:PV),l[i]?=some x->es[i]?=some p->∀lf,0≤lf->lf≤left0->FewR T g (p::cap) (H0.set kl (lRow lf)) kl lf x.nodes true):
 ∃r:Int×Int×List Nat,Ev T 135 [.slice sz es m,.func (.func g) [] cap] H0 (.val (iv r.1),⟨H0.set kl (lRow r.2.1),r.2.2,[]⟩)∧(-1≤r.2.1∧r.2.1≤left0)∧(¬0≤r.1->0≤r.2.1∧r.2.1+qa3 l=left0)∧∀y∈r.2.2,y=kl:=by
 refine hT.wp (r:=fun(r:Int×Int×List Nat)=>(.val (iv r.1),⟨H0.set kl (lRow r.2.1),r.2.2,[]⟩)) fn135 (by decide) ?_;simp(disch:=omega) only[go_sem];have hH0:(⟨H0,[],[]⟩:St)=⟨H0.set kl (lRow left0),[],[]⟩:=by rw[qhi hk]
 rw[hH0];refine wpC.loopM (fun n e s=> ∃(i:Nat)(lf:Int)(ws:List Nat),i+n=es.length∧eget e 0=.slice sz es m∧eget e 1=.func (.func g) [] cap∧eget e 7=iv (es.length:Int)∧eget e 8=iv (i:Int)∧0≤lf∧lf+qa3 (l.take i)=left0∧(∀y∈ws,y=kl)∧s=⟨H0.set kl (lRow lf),ws,[]⟩) ?_ es.length _ _ ⟨0,left0,[],by simp,by simp only[go_sem],by simp only[go_sem],by simp only[go_sem],by simp only[go_sem];rfl,h0.1,by simp[qa3],by simp,rfl⟩;rintro n e s ⟨i,lf,ws,hi,e0,e1,e7,e8,hlf,hsum,hw,rfl⟩;have M:∀z,Mod H0 (H0.set kl (lRow z)) kl (lRow z):=fun z=>(Mod.refl hk).put;have W0:∀ws:List Nat,(∀y∈ws,y=kl)->okWs H0 kl ws:=fun ws h x hx=>.inl (h x hx);by_cases h1:i<es.length
 · have ga:=qb1 h1;have hx:l[i]?=some l[i]:=Ab (by omega);have hE:=he i l[i] es[i] hx ga;have hlen:=qbv (l.take i);rw[lT]at hlen;obtain⟨⟨b,lf',ws'⟩,ev,hb1,hb2,hb3⟩:=hf i l[i] es[i] hx ga lf hlf (by omega);have htk:=qif hx;have bs:=hE.sub
   have hsz:sz=3:=by
    rcases hs with rfl|h
    ·simp at h1
    ·exact h
   subst hsz;simp only[List.set_set,Bool.true_xor]at ev hb1 hb2 hb3
   have hww:∀y∈wall ws' ws,y=kl:=fun y hy=>by
    rcases qaz hy with h|h
    ·exact hb3 y h
    ·exact hw y h
   cases b
   · obtain⟨wz,t1,t2⟩:=qbk (v:=iv (i:Int)) rfl (M lf') (W0 _ hww);simp(disch:=omega) only[go_sem,qjl,e0,e1,e7,e8,h1,ga,bs,hg,cb ev,Bool.not_false,t1];exact⟨((i:Int),lf',wz),rfl,⟨hb1.1,by dsimp only;omega⟩,fun h=>absurd (by dsimp only;omega) h,t2⟩
   · obtain⟨q1,q2⟩:=hb2 rfl;simp(disch:=omega) only[go_sem,qjl,e0,e1,e7,e8,h1,ga,bs,hg,cb ev,Bool.not_true];exact⟨n - 1,by omega,i+1,lf',wall ws' ws,by omega,rfl,q1,by omega,hww,rfl⟩
 · obtain⟨wz,t1,t2⟩:=qbk (v:=iv (-1)) rfl (M lf) (W0 _ hw);have hil:i=l.length:=by omega
   subst hil;rw[List.take_length]at hsum;simp(disch:=omega) only[go_sem,qjl,e7,e8,h1,t1];exact⟨(-1,lf,wz),rfl,⟨by dsimp only;omega,by dsimp only;omega⟩,fun _=>⟨hlf,hsum⟩,t2⟩
include hT in
theorem qkw{g:FuncId}{cap:List PV}{H0:Hp}{kl:Nat}{left0:Int}(hg:T.prim g=none)(hk:H0[kl]?=some (lRow left0))(h0:0≤left0∧left0≤1000){l:List Tm}{sz:Nat}{es:List PV}{m:SM}(hs:es=[]∨sz=3)(hl:es.length=l.length)(he:∀(i:Nat)(x:Tm)(p:PV),l[i]?=some x->es[i]?=some p->Enc x p)
 (hf:∀(i:Nat)(x:Tm)(p:PV),l[i]?=some x->es[i]?=some p->∀lf,0≤lf->lf≤left0->FewR T g (p::cap) (H0.set kl (lRow lf)) kl lf x.nodes true):
 ∃r:Bool×Int×List Nat,Ev T 48 [.slice sz es m,.func (.func g) [] cap] H0 (.val (.bool r.1),⟨H0.set kl (lRow r.2.1),r.2.2,[]⟩)∧(-1≤r.2.1∧r.2.1≤left0)∧(r.1=false->0≤r.2.1∧r.2.1+qa3 l=left0)∧∀y∈r.2.2,y=kl:=by
 obtain⟨⟨r,lf,ws⟩,ev,h1,h2,h3⟩:=index135_w hT (m:=m) hg hk h0 hs hl he hf;refine hT.wp (r:=fun(r:Bool×Int×List Nat)=>(.val (.bool r.1),⟨H0.set kl (lRow r.2.1),r.2.2,[]⟩)) fn48 (by decide) ?_
 obtain⟨wz,t1,t2⟩:=qbk (v:=.bool (decide (0≤r))) (ws:=wall ws []) rfl ((Mod.refl hk).put (o':=lRow lf)) (fun x hx=>.inl (by
  rcases qaz hx with h|h
  ·exact h3 x h
  ·cases h))
 simp(disch:=omega) only[go_sem,cb ev,hT.prim,qab,t1];exact⟨(decide (0≤r),lf,wz),rfl,h1,fun h=>h2 (by simpa using h),t2⟩
theorem ld_l{H:Hp}{k:Nat}{x:Int}(hk:H[k]?=some (lRow x)):loadAt false 1 (.ptr k 0 0 1) H=some (.int .i64 x):=by rw[qac hk];rfl
theorem ld_f{H:Hp}{k kl kw:Nat}(hk:H[k]?=some (fRow kl kw)):loadAt false 1 (.ptr k 0 0 1) H=some (.func (.func 84) [] [.ptr kl 0 0 1,.ptr kw 0 0 1]):=by rw[qac hk];rfl
include hT in
theorem few85{x:Tm}{p:PV}(hx:Enc x p){H:Hp}{kl kw kd:Nat}{lf deep:Int}(h1:H[kl]?=some (lRow lf))(h2:H[kw]?=some (fRow kl kw))(h3:H[kd]?=some (lRow deep))(hd:0≤deep∧deep<100)
 (E84:∀H',H'[kl]?=some (lRow lf)->H'[kw]?=some (fRow kl kw)->FewR T 84 [p,.int .i64 (deep+1),.ptr kl 0 0 1,.ptr kw 0 0 1] H' kl lf x.nodes false):FewR T 85 [p,.ptr kw 0 0 1,.ptr kd 0 0 1] H kl lf x.nodes true:=by
 refine hT.wp (r:=fun(x:Bool×Int×List Nat)=>(.val (.bool (true ^^x.1)),⟨H.set kl (lRow x.2.1),x.2.2,[]⟩)) fn85 (by decide) ?_;obtain⟨c1,_,c3,_⟩:=hx.cells;have hsub:=hx.sub;have M1:Mod H (H++[row 3 [p]]) kl (lRow lf):=(Mod.refl h1).push;have k1:=qag (o2:=row 3 [p]) h1;have k2:=qag (o2:=row 3 [p]) h2;have k3:=qag (o2:=row 3 [p]) h3;have k4:=gC (l:=H) (a:=row 3 [p]);generalize hH1:H++[row 3 [p]]=H1 at*;have lp:loadAt true 3 (.ptr H.length 0 0 1) H1=some p:=by rw[qac k4];exact hsub
 obtain⟨⟨b,lf',ws⟩,ev,q1,q2,q3⟩:=E84 H1 k1 k2;simp only[Bool.false_xor]at ev q1 q2 q3
 obtain⟨wz,t1,t2⟩:=qbk (v:=.bool (!b)) (ws:=wall ws []) rfl (M1.put (o':=lRow lf')) (fun x hx=>.inl (by
  rcases qaz hx with h|h
  ·exact q3 x h
  ·cases h))
 simp(disch:=omega) only[go_sem,hH1,c1,c3,ld_l k3,ld_f k2,lp,cb ev,hT.prim,qab,t1];exact⟨(b,lf',wz),by simp only[Bool.true_xor],q1,q2,t2⟩
include hT in
theorem few84{t:Tm}{p:PV}(ht:Enc t p):∀(H:Hp)(kl kw:Nat)(lf deep:Int),H[kl]?=some (lRow lf)->H[kw]?=some (fRow kl kw)->kl≠kw->0≤lf∧lf≤1000->0≤deep∧deep≤100->FewR T 84 [p,.int .i64 deep,.ptr kl 0 0 1,.ptr kw 0 0 1] H kl lf t.nodes false:=by
 have hc:=ht.cells;induction ht with
 |mk k n l sz es hs hl he ih=>
   intro H kl kw lf deep h1 h2 hne hlf hdp;refine hT.wp (r:=fun(x:Bool×Int×List Nat)=>(.val (.bool (false ^^x.1)),⟨H.set kl (lRow x.2.1),x.2.2,[]⟩)) fn84 (by decide) ?_;obtain⟨c1,c2,c3,c4⟩:=hc;generalize hP:PV.agg [.int .i64 k,.int .i64 n,.slice sz es .any]=P at*;have hlt:=(gI.1 h1).1;have M2:Mod H ((H++[row 3 [P]])++[row 1 [.int .i64 deep]]) kl (lRow lf):=(Mod.refl h1).push.push;have k1:((H++[row 3 [P]])++[row 1 [.int .i64 deep]])[kl]?=some (lRow lf):=qag (qag h1);have k2:((H++[row 3 [P]])++[row 1 [.int .i64 deep]])[kw]?=some (fRow kl kw):=qag (qag h2);have k3:((H++[row 3 [P]])++[row 1 [.int .i64 deep]])[(H++[row 3 [P]]).length]?=some (lRow deep):=by simp[lRow]
   have k4:((H++[row 3 [P]])++[row 1 [.int .i64 deep]])[H.length]?=some (.row 3 [P]):=qag (by simp);have hkd:kl< (H++[row 3 [P]]).length:=by simp;omega
   generalize hkd':(H++[row 3 [P]]).length=kd at*;generalize hH2:(H++[row 3 [P]])++[row 1 [.int .i64 deep]]=H2 at*;have s1:=fun ws ups=>st1_0 (ws:=ws) (ups:=ups) (v:=lf - 1) k1;have M3:=M2.put (o':=lRow (lf - 1));have j1:(H2.set kl (lRow (lf - 1)))[kl]?=some (lRow (lf - 1)):=qai k1;have j2:(H2.set kl (lRow (lf - 1)))[kw]?=some (fRow kl kw):=qaa k2 hne;have j3:(H2.set kl (lRow (lf - 1)))[kd]?=some (lRow deep):=qaa k3 (by omega);have j4:(H2.set kl (lRow (lf - 1)))[H.length]?=some (.row 3 [P]):=qaa k4 (by omega);generalize hH3:H2.set kl (lRow (lf - 1))=H3 at*;have lP:loadAt false 1 (.ptr H.length 0 2 1) H3=some (.slice sz es .any):=by rw[qac j4,←hP];rfl
   obtain⟨wz,t1,t2⟩:=qbk (v:=.bool false) (ws:=wadd kl []) rfl M3 (fun x hx=>by
    rcases qbe hx with h|h
    ·exact .inl h
    ·cases h)
   by_cases hz:lf=0
   · have b0:¬(0:Int)≤lf - 1:=by omega
     simp(disch:=omega) only[go_sem,c1,c3,hkd',hH2,ld_l k1,s1,ld_l j1,b0,t1];exact⟨(false,lf - 1,wz),rfl,⟨by dsimp only;omega,by dsimp only;omega⟩,(fun h=>by cases h),t2⟩
   · have b0:(0:Int)≤lf - 1:=by omega
     by_cases hd:deep<100
     · obtain⟨⟨r,lf',ws⟩,ev,q1,q2,q3⟩:=qkw hT (g:=85) (cap:=[.ptr kw 0 0 1,.ptr kd 0 0 1]) (left0:=lf - 1) (m:=.any) (by rw[hT.prim];rfl) j1 ⟨b0,by omega⟩ hs hl he fun i x p hx hp lf' hl0 hl1=>few85 hT (he i x p hx hp) (qai j1) (qaa j2 hne) (qaa j3 (by omega)) ⟨hdp.1,hd⟩ fun H' g1 g2=>ih i x p hx hp (he i x p hx hp).cells H' kl kw lf' (deep+1) g1 g2 hne ⟨hl0,by omega⟩ ⟨by omega,by omega⟩
       obtain⟨wy,u1,u2⟩:=qbk (v:=.bool (!r)) (ws:=wall ws (wadd kl [])) rfl (M3.put (o':=lRow lf')) (fun x hx=>.inl (by
        rcases qaz hx with h|h
        ·exact q3 x h
        · rcases qbe h with h|h
          ·exact h
          ·cases h))
       simp(disch:=omega) only[go_sem,c1,c3,hkd',hH2,ld_l k1,s1,ld_l j1,b0,ld_l j3,hd,lP,cb ev,hT.prim,qab,u1];refine⟨(!r,lf',wy),by simp only[Bool.false_xor],⟨q1.1,by have:=q1.2;dsimp only at*;omega⟩,fun h=>?_,u2⟩;have hr:r=false:=by simpa using h
       obtain⟨a1,a2⟩:=q2 hr;simp only[Tm.nodes];dsimp only at*;omega
     · simp(disch:=omega) only[go_sem,c1,c3,hkd',hH2,ld_l k1,s1,ld_l j1,b0,ld_l j3,hd,t1];exact⟨(false,lf - 1,wz),rfl,⟨by dsimp only;omega,by dsimp only;omega⟩,(fun h=>by cases h),t2⟩
include hT in
theorem few86{x:Tm}{p:PV}(hx:Enc x p){H:Hp}{kl kw:Nat}{lf:Int}(h1:H[kl]?=some (lRow lf))(h2:H[kw]?=some (fRow kl kw))(hne:kl≠kw)(hlf:0≤lf∧lf≤1000):FewR T 86 [p,.ptr kw 0 0 1] H kl lf x.nodes true:=by
 refine hT.wp (r:=fun(x:Bool×Int×List Nat)=>(.val (.bool (true ^^x.1)),⟨H.set kl (lRow x.2.1),x.2.2,[]⟩)) fn86 (by decide) ?_;obtain⟨c1,_,c3,_⟩:=hx.cells;have hsub:=hx.sub;have M1:Mod H (H++[row 3 [p]]) kl (lRow lf):=(Mod.refl h1).push;have k1:=qag (o2:=row 3 [p]) h1;have k2:=qag (o2:=row 3 [p]) h2;have k4:=gC (l:=H) (a:=row 3 [p]);generalize hH1:H++[row 3 [p]]=H1 at*;have lp:loadAt true 3 (.ptr H.length 0 0 1) H1=some p:=by rw[qac k4];exact hsub
 obtain⟨⟨b,lf',ws⟩,ev,q1,q2,q3⟩:=few84 hT hx H1 kl kw lf 0 k1 k2 hne hlf ⟨by omega,by omega⟩;simp only[Bool.false_xor]at ev q1 q2 q3
 obtain⟨wz,t1,t2⟩:=qbk (v:=.bool (!b)) (ws:=wall ws []) rfl (M1.put (o':=lRow lf')) (fun x hx=>.inl (by
  rcases qaz hx with h|h
  ·exact q3 x h
  ·cases h))
 simp(disch:=omega) only[go_sem,hH1,c1,c3,ld_f k2,lp,cb ev,hT.prim,qab,t1];exact⟨(b,lf',wz),by simp only[Bool.true_xor],q1,q2,t2⟩
theorem st_fn{H:Hp}{ws:List Nat}{ups:List (Nat×Nat)}{k kl kw:Nat}(hk:H[k]?=some (.row 1 [.nilFunc])):
 ∃ups',storeAt 1 (.ptr k 0 0 1) (.func (.func 84) [] [.ptr kl 0 0 1,.ptr kw 0 0 1]) ⟨H,ws,ups⟩=some ⟨H.set k (fRow kl kw),wadd k ws,ups'⟩∧∀x∈ups',x∈ups∨x.1=k:=by
 have hu:upd .nilFunc 0 (.func (.func 84) [] [.ptr kl 0 0 1,.ptr kw 0 0 1])=some (.func (.func 84) [] [.ptr kl 0 0 1,.ptr kw 0 0 1]):=rfl;have h1:storeAt 1 (.ptr k 0 0 1) (.func (.func 84) [] [.ptr kl 0 0 1,.ptr kw 0 0 1]) ⟨H,ws,ups⟩=some (wrote k (fRow kl kw) (PV.func (.func 84) [] [.ptr kl 0 0 1,.ptr kw 0 0 1]).top ⟨H,ws,ups⟩):=by simp only[storeAt,hk,Ae,PV.cells,List.all_cons,List.all_nil,PV.isCell,Bool.and_self,and_self,if_true,List.getElem?_cons_zero,hu,Option.map,sC,fRow]
 rw[h1];cases(PV.func (.func 84) [] [.ptr kl 0 0 1,.ptr kw 0 0 1]).top with
 |none=>exact⟨ups,by rw[qas],fun x hx=>.inl hx⟩
 |some j=>
   refine⟨_,by rw[qch],fun x hx=>?_⟩;split at hx
   · rcases mN.1 hx with rfl|h
     ·exact .inr rfl
     ·exact .inl h
   ·exact .inl hx
include hT in
theorem qsz{lim:Int}(hlim:0≤lim∧lim≤1000){l:List Tm}{sz:Nat}{es:List PV}{m:SM}(hs:es=[]∨sz=3)(hl:es.length=l.length)(he:∀(i:Nat)(x:Tm)(p:PV),l[i]?=some x->es[i]?=some p->Enc x p)(h:Hp):∃b:Bool,Ev T 17 [.int .i64 lim,.slice sz es m] h (.val (.bool b),⟨h,[],[]⟩)∧(b=true->qa3 l≤lim.toNat):=by
 refine hT.wp (r:=fun(b:Bool)=>(.val (.bool b),⟨h,[],[]⟩)) fn17 (by decide) ?_;have low:Low h.length h ((h++[row 1 [.int .i64 lim]])++[row 1 [.nilFunc]]):=((Low.refl _ _).push (nR _)).push (by simp);have k1:((h++[row 1 [.int .i64 lim]])++[row 1 [.nilFunc]])[h.length]?=some (lRow lim):=qag (by simp[lRow]);have k2:=gC (l:=(h++[row 1 [.int .i64 lim]])) (a:=row 1 [.nilFunc]);have hkw:(h++[row 1 [.int .i64 lim]]).length=h.length+1:=by simp
 generalize hkw':(h++[row 1 [.int .i64 lim]]).length=kw at*;generalize hH:(h++[row 1 [.int .i64 lim]])++[row 1 [.nilFunc]]=H at*;obtain⟨ups,sf,hu⟩:=st_fn (ws:=[]) (ups:=[]) (kl:=h.length) (kw:=kw) k2;have j1:(H.set kw (fRow h.length kw))[h.length]?=some (lRow lim):=qaa k1 (by omega);have j2:(H.set kw (fRow h.length kw))[kw]?=some (fRow h.length kw):=qai k2;have low2:Low h.length h (H.set kw (fRow h.length kw)):=low.trans (.set (by omega));generalize hH1:H.set kw (fRow h.length kw)=H1 at*;obtain⟨⟨r,lf',ws⟩,ev,q1,q2,q3⟩:=qkw hT (g:=86) (cap:=[.ptr kw 0 0 1]) (left0:=lim) (m:=m) (sz:=sz) (by rw[hT.prim];rfl) j1 hlim hs hl he fun i x q hx hq lf' hl0 hl1=>few86 hT (he i x q hx hq) (qai j1) (qaa j2 (by omega)) (by omega) ⟨hl0,by omega⟩;dsimp only at ev q1 q2 q3
 have td:tidy 0 h.length (.val (.bool (!r))) ⟨H1.set h.length (lRow lf'),wall ws (wadd kw []),ups⟩=(.val (.bool (!r)),⟨h,[],[]⟩):=qa4 rfl (low2.trans (.set (nR _))) (fun x hx=>by
  rcases qaz hx with h|h
  ·have:=q3 x h;omega
  · rcases qbe h with h|h
    ·omega
    ·cases h) (fun x hx=>by
  rcases hu x hx with h|h
  ·cases h
  ·omega)
 simp(disch:=omega) only[go_sem,hkw',hH,sf,cb ev,hT.prim,qab,td];refine⟨!r,rfl,fun h=>?_⟩;have hr:r=false:=by simpa using h
 obtain⟨a1,a2⟩:=q2 hr;omega
end Go.Proofs.Tryz
namespace Go.Proofs.Tryz
open Go Go.AE
open Go.AE.Obj (row)
variable {T:Tbl}(hT:Std T){s:GSig}
def encL(l:List Tm):PV:=.slice 3 (l.map encT) .any
theorem qgi{l:List Tm}:AE.sub false 1 (encL l) 0=some (encL l):=rfl
theorem encL_map'(l:List Tm):EncL l (l.map encT):=qgj l
def PlainL(l:List Tm):Prop:=l.length≤80∧qa3 l≤1000
include hT in
theorem plain1_ev(l:List Tm)(h:Hp):∃b:Bool,Ev T 102 [encL l] h (.val (.bool b),⟨h,[],[]⟩)∧(b=false->PlainL l):=by
 refine hT.wp (r:=fun b:Bool=>(.val (.bool b),⟨h,[],[]⟩)) fn102 (by decide) ?_;by_cases h80:80<l.length
 · have hb:(80:Int)< (l.length:Int):=by omega
   simp(disch:=omega) only[go_sem,encL,lM,hb];exact⟨true,rfl,by simp⟩
 · have hb:¬(80:Int)< (l.length:Int):=by omega
   obtain⟨b,ev,hn⟩:=qsz hT (lim:=1000) ⟨by omega,by omega⟩ (l:=l) (sz:=3) (es:=l.map encT) (m:=.any) (.inr rfl) (qgj l).1 (qgj l).2 h;simp(disch:=omega) only[go_sem,encL,lM,hb,cb ev,hT.prim,qab];exact⟨!b,rfl,fun h=>⟨by omega,hn (by simpa using h)⟩⟩
include hT in
theorem plain_ev(dom:List (List Tm))(h:Hp):∃b:Bool,Ev T 24 [.slice 1 (dom.map encL) .any] h (.val (.bool b),⟨h,[],[]⟩)∧(b=true->dom.length≤30∧∀l∈dom,PlainL l):=by
 refine hT.wp (r:=fun b:Bool=>(.val (.bool b),⟨h,[],[]⟩)) fn24 (by decide) ?_;by_cases h30:dom.length≤30
 · have hb:(dom.length:Int)≤30:=by omega
   have W:∃r:Int,Ev T 175 [.slice 1 (dom.map encL) .any,.func (.func 102) [] []] h (.val (iv r),⟨h,[],[]⟩)∧(¬0≤r->∀l∈dom,PlainL l):=by
    refine hT.wp (r:=fun r:Int=>(.val (iv r),⟨h,[],[]⟩)) fn175 (by decide) ?_;simp(disch:=omega) only[go_sem,lM];refine wpC.loopM (fun n e s=> ∃i:Nat,i+n=dom.length∧(∀j (hj:j<dom.length),j<i->PlainL dom[j])∧(eget e 0=.slice 1 (dom.map encL) .any∧eget e 1=.func (.func 102) [] []∧eget e 7=iv (dom.length:Int)∧eget e 8=iv (i:Int))∧s=⟨h,[],[]⟩) ?_ dom.length _ _ ⟨0,by simp,fun j _ hj=>by omega,by simp only[go_sem,Ag],rfl⟩;rintro n e s ⟨i,hi,hp,⟨e0,e1,e7,e8⟩,rfl⟩;by_cases h1:i<dom.length
    · have h1':(i:Int)< (dom.length:Int):=by omega
      have ga:(dom.map encL)[i]?=some (encL dom[i]):=by rw[gM,Ab h1];rfl
      obtain⟨b,ev,hb⟩:=plain1_ev hT dom[i] h;cases b
      · simp(disch:=omega) only[go_sem,a175b0,e0,e1,e7,e8,h1',ga,qgi,cb ev,hT.prim,qab];refine⟨n - 1,by omega,i+1,by omega,fun j hj hji=>?_,rfl,trivial⟩;by_cases hjj:j=i
        ·subst hjj;exact hb rfl
        ·exact hp j hj (by omega)
      · simp(disch:=omega) only[go_sem,a175b0,e0,e1,e7,e8,h1',ga,qgi,cb ev,hT.prim,qab];exact⟨(i:Int),rfl,fun h=>by omega⟩
    · have h1':¬(i:Int)< (dom.length:Int):=by omega
      simp(disch:=omega) only[go_sem,a175b0,e7,e8,h1'];refine⟨_,rfl,fun _ x hx=>?_⟩;obtain⟨j,hj,rfl⟩:=List.getElem_of_mem hx;exact hp j hj (by omega)
   obtain⟨r,ev,hr⟩:=W;have ev2:Ev T 101 [.slice 1 (dom.map encL) .any,.func (.func 102) [] []] h (.val (.bool (decide (0≤r))),⟨h,[],[]⟩):=by refine hT.wk fn101 (by decide) ?_;simp(disch:=omega) only[go_sem,cb ev,hT.prim,qab]
   simp(disch:=omega) only[go_sem,lM,hb,cb ev2,hT.prim,qab];exact⟨_,rfl,fun h=>⟨h30,hr (by simpa using h)⟩⟩
 · have hb:¬(dom.length:Int)≤30:=by omega
   simp(disch:=omega) only[go_sem,lM,hb];exact⟨false,rfl,by simp⟩
theorem qrj{H:Hp}{v p q:PV}{es:List PV}{lo:Nat}(A:AppL H v es lo)(hp:p.cells.all PV.isCell=true)(hq:q.cells.all PV.isCell=true)(hl:es.length<100000)(hlo:lo≤H.length):
 ∃(H':Hp)(fw:List Nat->List Nat)(kt:Nat),(∀ws ups,appendop 3 40 v (.slice 3 [p,q] .lit) ⟨H,ws,ups⟩=some (.slice 3 (es++[p,q]) (.tok kt),⟨H',fw ws,ups⟩))∧AppL H' (.slice 3 (es++[p,q]) (.tok kt)) (es++[p,q]) lo∧(∀(j:Nat)(o:AE.Obj),o.isTok=false->H[j]?=some o->H'[j]?=some o)∧Low lo H H'∧∀ws,(∀x∈ws,lo≤x)->∀x∈fw ws,lo≤x:=by
 have hroom:(es.length+2) *40≤room∧es.length+2≤room:=by
  have:10000000≤room:=by decide
  constructor<;>omega
 rcases A with⟨rfl,rfl⟩|⟨kt,rfl,h2,h3⟩
 · simp at hroom;refine⟨H++[.tok 3 2],fun ws=>ws,H.length,fun ws ups=>?_,.inr ⟨H.length,rfl,by simp,hlo⟩,fun j o _ hj=>qag hj,(Low.refl _ _).push hlo,fun ws hx=>hx⟩;simp[appendop,qb6,hp,hq,hroom,alloc]
 · refine⟨H.set kt (.tok 3 (es.length+2)),wadd kt,kt,fun ws ups=>?_,.inr ⟨kt,rfl,by rw[qai h2];simp,h3⟩,fun j o ho hj=>qaa hj ?_,.set h3,fun ws hx=>qad h3 hx⟩
   ·simp[appendop,qb6,hp,hq,hroom,h2,qas]
   · rintro rfl;rw[h2]at hj;cases hj;cases ho
structure LittleP (t:GTy):Prop where
 small:qkm t.sig=true
 n:t.eqns.length≤30
set_option maxRecDepth 4000 in
include hT in
theorem little_ev(t:GTy)(h:Hp):∃b:Bool,Ev T 23 [qan t] h (.val (.bool b),⟨h,[],[]⟩)∧(b=true->LittleP t):=by
 refine hT.wp (r:=fun b:Bool=>(.val (.bool b),⟨h,[],[]⟩)) fn23 (by decide) ?_;have k1:=gC (l:=h) (a:=row 3 [qan t]);have low1:Low h.length h (h++[row 3 [qan t]]):=(Low.refl _ _).push (nR _);generalize hH1:h++[row 3 [qan t]]=H1 at*;have l1:loadAt false 1 (.ptr h.length 0 2 1) H1=some (.slice 8 (t.eqns.map qak) .any):=by rw[qac k1];rfl
 have td:∀(H:Hp)(ws:List Nat)(b:Bool),Low h.length h H->(∀x∈ws,h.length≤x)->tidy 0 h.length (.val (.bool b)) ⟨H,ws,[]⟩=(.val (.bool b),⟨h,[],[]⟩):=fun H ws b L hw=>qaj rfl rfl L hw;by_cases h30:30<t.eqns.length
 · have hb:(30:Int)< (t.eqns.length:Int):=by omega
   simp(disch:=omega) only[go_sem,hH1,qbz,qb0,lM,l1,hb,td H1 [] false low1 (by simp)];exact⟨false,rfl,by simp⟩
 have hb:¬(30:Int)< (t.eqns.length:Int):=by omega
 simp(disch:=omega) only[go_sem,hH1,qbz,qb0,lM,l1,hb]
 refine wpC.loopM (fun g e st=> ∃(i:Nat)(H:Hp)(ws:List Nat)(v:PV)(us:List Tm)(es:List PV),i+g=t.eqns.length∧Low h.length h H∧H[h.length]?=some (.row 3 [qan t])∧(∀x∈ws,h.length≤x)∧AppL H v es h.length∧EncL us es∧es.length≤i*100∧(eget e 1=.ptr h.length 0 0 1∧eget e 3=v∧eget e 13=.slice 8 (t.eqns.map qak) .any∧eget e 14=iv (t.eqns.length:Int)∧eget e 15=iv (i:Int))∧st=⟨H,ws,[]⟩) ?_ t.eqns.length _ _
  ⟨0,H1,[],_,[],[],by omega,low1,k1,by simp,.inl ⟨rfl,rfl⟩,⟨rfl,by simp⟩,by simp,by simp only[go_sem,Ag],rfl⟩
 rintro g e st ⟨i,H,ws,v,us,es,hi,low,kt,hw,hA,hE,hel,⟨e1,e3,e13,e14,e15⟩,rfl⟩;have hHl:=low.len;by_cases h1:i<t.eqns.length
 · have h1':(i:Int)< (t.eqns.length:Int):=by omega
   have hx:t.eqns[i]?=some t.eqns[i]:=Ab h1;have ga:(t.eqns.map qak)[i]?=some (qak t.eqns[i]):=by rw[gM,hx];rfl
   generalize t.eqns[i]=q at*;obtain⟨c1,c2,_⟩:=qik q;have sb:=qa6 (h:=H) (ws:=ws) (ups:=[]) (z:=zq8) (sz:=8) (c:=qak q) c1 rfl c2 (qs2 q) ⟨_,rfl⟩ ⟨_,rfl⟩;have k5:=gC (l:=H) (a:=row 8 [qak q]);have kt5:=qag (o2:=row 8 [qak q]) kt;have A5:=hA.push (o:=row 8 [qak q]);have low5:=low.push (o:=row 8 [qak q]) hHl;have hw5:∀y∈wadd H.length ws,h.length≤y:=qad hHl hw;have hl5:(H++[row 8 [qak q]]).length=H.length+1:=by simp
   generalize hH5:H++[row 8 [qak q]]=H5 at*;generalize hk5:H.length=kq at*;have lA:loadAt true 3 (.ptr kq 0 2 1) H5=some (encT q.A):=by rw[qac k5];exact eqn_A
   have lB:loadAt true 3 (.ptr kq 0 5 1) H5=some (encT q.B):=by rw[qac k5];exact eqn_B
   have fA:=qfb q.A;have fB:=qfb q.B;have f2:=fe_two (p:=encT q.A) (q:=encT q.B) ⟨qfc _,fA.2.1⟩ ⟨qfc _,fB.2.1⟩;obtain⟨H6,fw,kt6,ap,A6,keep6,low6,hfw⟩:=qrj A5 fA.1 fB.1 (by omega) (show h.length≤H5.length by omega);have k6:=keep6 _ _ rfl k5;have ktt6:=keep6 _ _ rfl kt5;have lowS:Low h.length h H6:=low5.trans low6;have hw6:=hfw _ hw5;have E6:=(hE.snoc (qa8 q.A)).snoc (qa8 q.B);rw[List.append_assoc,List.append_assoc]at E6;have lc:loadAt false 1 (.ptr kq 0 1 1) H6=some (.slice 6 (q.conds.map qah) .any):=by rw[qac k6];exact eqn_conds
   have lv:loadAt false 1 (.ptr kq 0 0 1) H6=some (.slice 1 (q.vars.map encI) .any):=by rw[qac k6];exact eqn_vars
   by_cases h20:20<q.conds.length
   · have hb:(20:Int)< (q.conds.length:Int):=by omega
     simp(disch:=omega) only[go_sem,a23b1,e3,e13,e14,e15,h1',ga,qdn,hk5,sb,lA,lB,f2,ap,lc,hb,Ae,lM,td H6 _ false lowS hw6];exact⟨false,rfl,by simp⟩
   have hb20:¬(20:Int)< (q.conds.length:Int):=by omega
   by_cases h100:100<q.vars.length
   · have hb:(100:Int)< (q.vars.length:Int):=by omega
     simp(disch:=omega) only[go_sem,a23b1,e3,e13,e14,e15,h1',ga,qdn,hk5,sb,lA,lB,f2,ap,lc,lv,hb20,hb,Ae,lM,td H6 _ false lowS hw6];exact⟨false,rfl,by simp⟩
   have hb100:¬(100:Int)< (q.vars.length:Int):=by omega
   simp(disch:=omega) only[go_sem,a23b1,e3,e13,e14,e15,h1',ga,qdn,hk5,sb,lA,lB,f2,ap,lc,lv,hb20,hb100,Ae,lM]
   refine wpC.loopM (fun g e st=> ∃(k:Nat)(H:Hp)(ws:List Nat)(v:PV)(us:List Tm)(es:List PV),k+g=q.conds.length∧Low h.length h H∧H[h.length]?=some (.row 3 [qan t])∧(∀x∈ws,h.length≤x)∧AppL H v es h.length∧EncL us es∧es.length≤i*100+2+2*k∧(eget e 1=.ptr h.length 0 0 1∧eget e 3=v∧eget e 13=.slice 8 (t.eqns.map qak) .any∧eget e 14=iv (t.eqns.length:Int)∧eget e 15=iv (i:Int)∧eget e 37=.slice 6 (q.conds.map qah) .any∧eget e 38=iv (q.conds.length:Int)∧eget e 39=iv (k:Int))∧st=⟨H,ws,[]⟩) ?_ q.conds.length _ _
    ⟨0,H6,_,_,_,_,by omega,lowS,ktt6,hw6,A6,E6,by simp;omega,by simp only[go_sem,e1,e13,e14,e15,Ag],rfl⟩
   clear low kt hw hA hE hel e1 e3 e13 e14 e15 sb hHl;rintro g' e st ⟨k,H,ws,v,us,es,hk,low,kt,hw,hA,hE,hel,⟨e1,e3,e13,e14,e15,e37,e38,e39⟩,rfl⟩;have hHl:=low.len;by_cases h2:k<q.conds.length
   · have h2':(k:Int)< (q.conds.length:Int):=by omega
     have hx:q.conds[k]?=some q.conds[k]:=Ab h2;have ga:(q.conds.map qah)[k]?=some (qah q.conds[k]):=by rw[gM,hx];rfl
     generalize q.conds[k]=p at*;obtain⟨b1,b2,_⟩:=qlb p;have sb:=qa6 (h:=H) (ws:=ws) (ups:=[]) (z:=zq6) (sz:=6) (c:=qah p) b1 rfl b2 (qla p) ⟨_,rfl⟩ ⟨_,rfl⟩;have k7:=gC (l:=H) (a:=row 6 [qah p]);have kt7:=qag (o2:=row 6 [qah p]) kt;have A7:=hA.push (o:=row 6 [qah p]);have low7:=low.push (o:=row 6 [qah p]) hHl;have hw7:∀y∈wadd H.length ws,h.length≤y:=qad hHl hw;have hl7:(H++[row 6 [qah p]]).length=H.length+1:=by simp
     generalize hH7:H++[row 6 [qah p]]=H7 at*;generalize hkp:H.length=kp at*;have pA:loadAt true 3 (.ptr kp 0 0 1) H7=some (encT p.1):=by rw[qac k7];exact pair_A
     have pB:loadAt true 3 (.ptr kp 0 3 1) H7=some (encT p.2):=by rw[qac k7];exact pair_B
     have f1:=qfb p.1;have f2:=qfb p.2;have ff:=fe_two (p:=encT p.1) (q:=encT p.2) ⟨qfc _,f1.2.1⟩ ⟨qfc _,f2.2.1⟩;obtain⟨H8,fw,kt8,ap,A8,keep8,low8,hfw⟩:=qrj A7 f1.1 f2.1 (by omega) (show h.length≤H7.length by omega);have E8:=(hE.snoc (qa8 p.1)).snoc (qa8 p.2);rw[List.append_assoc,List.append_assoc]at E8;simp(disch:=omega) only[go_sem,a23b0,e1,e3,e13,e14,e15,e37,e38,e39,h2',ga,qog,hkp,sb,pA,pB,ff,ap,Ae];exact⟨g' - 1,by omega,k+1,_,_,_,_,_,by omega,low7.trans low8,keep8 _ _ rfl kt7,hfw _ hw7,A8,E8,by simp;omega,⟨rfl,rfl⟩,rfl⟩
   · have h2':¬(k:Int)< (q.conds.length:Int):=by omega
     simp(disch:=omega) only[go_sem,a23b0,e1,e3,e13,e14,e15,e38,e39,h2'];exact⟨g - 1,by omega,i+1,_,_,_,_,_,by omega,low,kt,hw,hA,hE,by omega,⟨rfl,rfl⟩,rfl⟩
 · have h1':¬(i:Int)< (t.eqns.length:Int):=by omega
   have lg:loadAt true 2 (.ptr h.length 0 0 1) H=some (qae t.sig):=by rw[qac kt];rfl
   have ev:=small_ev hT t.sig H;cases hsm:qkm t.sig
   · rw[hsm]at ev;simp(disch:=omega) only[go_sem,a23b1,e1,e14,e15,h1',lg,cb ev,hT.prim,qab,td H ws false low hw];exact⟨false,rfl,by simp⟩
   · rw[hsm]at ev;obtain⟨z,m,rfl,hz⟩:=hA.form;obtain⟨b,evf,_⟩:=qsz hT (lim:=600) ⟨by omega,by omega⟩ (m:=m) hz hE.1 hE.2 H;simp(disch:=omega) only[go_sem,a23b1,e1,e3,e14,e15,h1',lg,cb ev,cb evf,hT.prim,qab,td H ws b low hw];exact⟨b,rfl,fun _=>⟨hsm,by omega⟩⟩
end Go.Proofs.Tryz
