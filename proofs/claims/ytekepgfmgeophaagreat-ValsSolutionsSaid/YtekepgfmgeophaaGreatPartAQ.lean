/- Texts of the proof, one behind the other: ValQT, ValQL, ValQM, ValQN, ValQU, ValN13, ValN14, ValQV. -/
import Derived.Test.YtekepgfmgeophaaGreatPartAP
import Derived.Test.YtekepgfmgeophaaGreatPartAN
set_option linter.unusedVariables false
set_option linter.unusedSimpArgs false
namespace Go.Proofs.Tryz
open Go Go.AE
open Go.AE.Obj (row)
variable {T:Tbl}(hT:Std T){s:GSig}
include hT in
theorem res_ev{t:GTy}{H:Hp}{ks kf kb:Nat}{es:List (PV×PV)}(S:SysH H ks kf kb t es){u:Tm}{X:PV}(hX:Enc u X)(hu:qa1 u=true):
 ∃x:Int×Bool,Ev T 199 [.pb ks,X] H (ba (.tuple [iv0 x.1,.bool x.2]) H)∧∀a,qbq t.sig u a=true→x=(a,true):=by
 refine hT.wp (r:=fun x:Int×Bool=>(ba (.tuple [iv0 x.1,.bool x.2]) H)) fn199 (by decide) ?_;obtain⟨c1,_,c3,_⟩:=hX.cells;obtain⟨k,n,l,sz,qs,rfl,hXe,_,_⟩:=hX.eq;have hsh:=qaw hu;simp only[qav,bA0,dE0,Bool.or_eq_true,beq_iff_eq]at hsh;obtain⟨N,rfl⟩:=iZ0 hsh.1.1.1.1;have hk12:=hsh.1.1.2;have k1:=gC0 (l:=H) (a:=row 3 [X]);have low1:Low H.length H (H++[row 3 [X]]):=(Low.refl _ _).push (nR0 _);have S1:=S.push (o:=row 3 [X]);generalize hH1:H++[row 3 [X]]=H1 at*;have l0:loadAt false 1 (.pb H.length) H1=some (iv0 k):=by rw[qad k1,hXe];rfl
 have l1:loadAt false 1 (.ptr H.length 0 1 1) H1=some (iv0 (N:Int)):=by rw[qad k1,hXe];rfl
 have ls:loadAt false 1 (.ptr ks 0 1 1) H1=some (.slice 3 (t.sig.ops.map qao) .any):=by rw[qad S1.sys];rfl
 have td:∀(a:Int)(b:Bool),tidy 0 H.length (.val (.tuple [iv0 a,.bool b])) ⟨H1,[],[]⟩=(ba (.tuple [iv0 a,.bool b]) H):=fun a b=>qan rfl rfl low1 (by simp);by_cases hk:k=2
 · have hb:(k !=2)=false:=by simpa using hk
   have hn:¬(N:Int)<0:=by omega
   by_cases hN:t.sig.ops.length≤N
   · simp(disch:=first|omega|decide|simp only[go_sem]) only[go_sem,hH1,c1,c3,lM0,l0,l1,ls,hb,hn,hN,td];exact⟨(0,false),rfl,fun a h=>by simp[qbq,List.getElem?_eq_none hN]at h⟩
   · have hN':N<t.sig.ops.length:=by omega
     have go:=ql9 hN';have so2:AE.sub false 1 (qao t.sig.ops[N]) 2=some (iv0 t.sig.ops[N].res):=rfl;simp(disch:=first|omega|decide|simp only[go_sem]) only[go_sem,hH1,c1,c3,lM0,l0,l1,ls,hb,hn,hN,go,so2,td];exact⟨(t.sig.ops[N].res,true),rfl,fun a h=>by simp[qbq,gE0 hN']at h;rw[h.2.1.1]⟩
 · have hb:(k !=2)=true:=by simpa using hk
   simp(disch:=first|omega|decide|simp only[go_sem]) only[go_sem,hH1,c1,c3,l0,hb,td];exact⟨(0,false),rfl,fun a h=>by simp[qbq,hk12.resolve_right hk]at h⟩
theorem qlm(G:GOk s):∀{u:Tm}{a:Int},qbq s u a=true→qa8 a s.sorts.length=true
 |.mk k n l,a,h=>by
   simp only[qbq,bA0]at h;cases ho:s.ops[n.toNat]? with
   |none=>rw[ho]at h;cases h.2
   |some o=>
     rw[ho]at h;simp only[bA0,beq_iff_eq]at h;obtain⟨_,⟨a1,a2⟩,_⟩:=G.ops _ (mG0 ho);rw[h.2.1.1]at a1 a2;simp[qa8,a1,a2]
def TermP(s:GSig)(u:Tm):Prop:=qa1 u=true∧∃a,qbq s u a=true
include hT in
theorem term_ev{t:GTy}(I:TyIn T t 0){H:Hp}{ks kf kb:Nat}{es:List (PV×PV)}(S:SysH H ks kf kb t es){u:Tm}{X:PV}(hX:Enc u X):
 ∃b:Bool,Ev T 188 [.pb ks,X] H (ba (.bool b) H)∧(b=true→qa1 u=true)∧(TermP t.sig u→b=true):=by
 refine hT.wp (r:=fun b:Bool=>(ba (.bool b) H)) fn188 (by decide) ?_;obtain⟨c1,_,c3,_⟩:=hX.cells;have k1:=gC0 (l:=H) (a:=row 3 [X]);have low1:Low H.length H (H++[row 3 [X]]):=(Low.refl _ _).push (nR0 _);have S1:=S.push (o:=row 3 [X]);generalize hH1:H++[row 3 [X]]=H1 at*;have la:loadAt true 3 (.pb H.length) H1=some X:=by rw[qad k1];exact hX.sub
 have l0:loadAt false 1 (.pb H.length) H1=some (iv0 u.kind):=by rw[qad k1];exact hX.kind
 have td:∀(b:Bool),tidy 0 H.length (.val (.bool b)) ⟨H1,[],[]⟩=(ba (.bool b) H):=fun b=>qan rfl rfl low1 (by simp);have ev:=qoq hT hX.m H1;have n0:((0:Int) !=0)=false:=rfl;have n4:((4:Int) !=0)=true:=rfl;cases hb:qa1 u
 · rw[hb]at ev;simp only[bF0,if_false]at ev;simp(disch:=omega) only[go_sem,hH1,c1,c3,la,cb ev,n4,hT.prim,qab,td];exact⟨false,rfl,by simp,fun h=>by have:=h.1;rw[hb]at this;cases this⟩
 · rw[hb]at ev;simp only[if_true]at ev;by_cases hk:u.kind=1
   · have hk':(u.kind==1)=true:=by simpa using hk
     simp(disch:=omega) only[go_sem,hH1,c1,c3,la,l0,cb ev,n0,hk',hT.prim,qab,td];exact⟨true,rfl,by simp,fun _=>rfl⟩
   · have hk':(u.kind==1)=false:=by simpa using hk
     obtain⟨⟨r,b⟩,evr,hrt⟩:=res_ev hT S1 hX hb;simp only at evr hrt;cases b
     · simp(disch:=omega) only[go_sem,hH1,c1,c3,la,l0,cb ev,n0,hk',cb evr,Bool.not_false,hT.prim,qab,td];exact⟨false,rfl,by simp,fun⟨_,a,h⟩=>by cases hrt a h⟩
     · have ls:loadAt true 2 (.pb ks) H1=some (qaf t.sig):=by rw[qad S1.sys];rfl
       have f1:=fe_1 (p:=X) ⟨c1,c3⟩;have f2:qda 1 (List.replicate 1 (iv0 0)) [(0,iv0 r)]=some [iv0 r]:=rfl
       obtain⟨⟨zs,e⟩,evi,hie⟩:=infer_ev hT (I.G rfl) (I.E87 rfl) (l:=[u]) (sz:=3) (es:=[X]) (m:=.lit) (sV:=.slice 1 [iv0 r] .lit) (.inr rfl) ⟨rfl,fun i x q h1 h2=>by
        cases i with
        |zero=>simp at h1 h2;subst h1 h2;exact hX
        |succ i=>simp at h1⟩ (by simp) (sorts:=[r]) (by simp) (h:=H1) (.inl ⟨1,.lit,rfl,.inr rfl⟩)
       simp only[infV]at evi hie;have evi:Ev T 200 [qaf t.sig,.slice 3 [X] .lit,.slice 1 [iv0 r] .lit] H1 _:=evi;simp(disch:=first|omega|decide|simp only[go_sem]) only[go_sem,hH1,c1,c3,la,l0,cb ev,n0,hk',cb evr,Bool.not_true,ls,f1,f2,cb evi,hT.prim,qab,td];refine⟨_,rfl,by simp,fun⟨h1,a,h⟩=>?_⟩;obtain⟨rfl,_⟩:=Prod.mk.inj (hrt a h)
       have:=hie ⟨rfl,fun v hv=>by rw[mS0]at hv;rw[hv];exact qlm (I.G rfl) h,by simp[h1],fun i u' b h2 h3=>by
        cases i with
        |zero=>simp at h2 h3;subst h2 h3;exact h
        |succ i=>simp at h2⟩
       subst this;rfl
include hT in
theorem term187_ev{t:GTy}(I:TyIn T t 0){H:Hp}{ks kf kb kp:Nat}{es:List (PV×PV)}(S:SysH H ks kf kb t es)(hp:H[kp]?=some (.row 1 [.pb ks])){u:Tm}{X:PV}(hX:Enc u X):
 ∃b:Bool,Ev T 187 [X,.pb kp] H (ba (.bool b) H)∧(b=false→qa1 u=true)∧(TermP t.sig u→b=false):=by
 refine hT.wp (r:=fun b:Bool=>(ba (.bool b) H)) fn187 (by decide) ?_;obtain⟨c1,_,c3,_⟩:=hX.cells;have k1:=gC0 (l:=H) (a:=row 3 [X]);have p1:=qah (o2:=row 3 [X]) hp;have low1:Low H.length H (H++[row 3 [X]]):=(Low.refl _ _).push (nR0 _);have S1:=S.push (o:=row 3 [X]);generalize hH1:H++[row 3 [X]]=H1 at*;have la:loadAt true 3 (.pb H.length) H1=some X:=by rw[qad k1];exact hX.sub
 have lp:loadAt false 1 (.pb kp) H1=some (.pb ks):=by rw[qad p1];rfl
 have td:∀(b:Bool),tidy 0 H.length (.val (.bool b)) ⟨H1,[],[]⟩=(ba (.bool b) H):=fun b=>qan rfl rfl low1 (by simp);obtain⟨b,ev,hb,hq⟩:=term_ev hT I S1 hX;simp(disch:=first|omega|decide|simp only[go_sem]) only[go_sem,hH1,c1,c3,la,lp,cb ev,hT.prim,qab,td];exact⟨!b,rfl,fun h=>hb (by simpa using h),fun h=>by rw[hq h];rfl⟩
include hT in
theorem qks{P Q:Tm→Prop}{g:FuncId}{cap:PL}{h:Hp}(hg:T.prim g=none){l:Ts}{sz:Nat}{es:PL}{m:SM}(hs:es=[]∨sz=3)(hE:EncL l es)
 (hf:∀(i:Nat)(x:Tm)(p:PV),l[i]?=some x→es[i]?=some p→∃b:Bool,Ev T g (p::cap) h (ba (.bool b) h)∧(b=false→P x)∧(Q x→b=false))(hal:es.length<1000000):
 ∃b:Bool,Ev T 48 [.slice sz es m,.func (.func g) [] cap] h (ba (.bool b) h)∧(b=false→∀x∈l,P x)∧((∀x∈l,Q x)→b=false):=by
 have hl:=hE.1
 have W:∃r:Int,Ev T 135 [.slice sz es m,.func (.func g) [] cap] h (ba (iv0 r) h)∧(¬0≤r→∀x∈l,P x)∧((∀x∈l,Q x)→¬0≤r):=by
  refine hT.wp fn135 (by decide) ?_;simp(disch:=first|omega|decide|simp only[go_sem]) only[go_sem];refine wpC.loopM (fun n e s=> ∃i:Nat,i+n=es.length∧eget e 0=.slice sz es m∧eget e 1=.func (.func g) [] cap∧eget e 7=iv0 (es.length:Int)∧eget e 8=iv0 (i:Int)∧(∀j (hj:j<l.length),j<i→P l[j])∧s=⟨h,[],[]⟩) ?_ es.length _ _ ⟨0,by simp,by simp only[go_sem],by simp only[go_sem],by simp only[go_sem],by simp only[go_sem];rfl,fun j _ hj=>by omega,rfl⟩;rintro n e s ⟨i,hi,e0,e1,e7,e8,hp,rfl⟩;by_cases h1:i<es.length
  · have ga:=qbt h1;have hx:l[i]?=some l[i]:=gE0 (by omega);obtain⟨b,ev,hb,hq⟩:=hf i l[i] es[i] hx ga;have bs:=(hE.2 i l[i] es[i] hx ga).sub;have hsz:sz=3:=by grind
    subst hsz;cases b
    · simp(disch:=first|omega|decide|simp only[go_sem]) only[go_sem,qjl,e0,e1,e7,e8,h1,ga,bs,hg,cb ev];refine⟨n - 1,by omega,i+1,by omega,rfl,fun j hj hji=>?_,trivial⟩;by_cases hjj:j=i
      ·grind
      ·grind
    · simp(disch:=first|omega|decide|simp only[go_sem]) only[go_sem,qjl,e0,e1,e7,e8,h1,ga,bs,hg,cb ev];exact⟨(i:Int),rfl,fun h=>by omega,fun h=>by cases hq (h _ (mG0 hx))⟩
  · simp(disch:=first|omega|decide|simp only[go_sem]) only[go_sem,qjl,e7,e8,h1];refine⟨_,rfl,fun _ x hx=>?_,fun _=>by decide⟩;obtain⟨j,hj,rfl⟩:=List.getElem_of_mem hx;exact hp j hj (by omega)
 obtain⟨r,ev,hr⟩:=W;refine hT.wp (r:=fun b:Bool=>(ba (.bool b) h)) fn48 (by decide) ?_;simp(disch:=first|omega|decide|simp only[go_sem]) only[go_sem,cb ev,hT.prim,qab];exact⟨_,rfl,fun h=>hr.1 (by simpa using h),fun h=>by simpa using hr.2 h⟩
include hT in
theorem asked_err{t:GTy}{r:Int}(I:TyIn T t r)(hr:r≠0)(l:PV)(h:Hp):Ev T 136 [qai t,l] h (ba (.tuple [.nilptr,iv0 r]) h):=by
 refine hT.wk fn136 (by decide) ?_;have k1:=gC0 (l:=h) (a:=row 3 [qai t]);have low1:Low h.length h (h++[row 3 [qai t]]):=(Low.refl _ _).push (nR0 _);generalize hH1:h++[row 3 [qai t]]=H1 at*;have l1:loadAt true 3 (.pb h.length) H1=some (qai t):=by rw[qad k1];rfl
 have hb:(r !=0)=true:=by simpa using hr
 have sb:=qlr (h:=H1) (sz:=1) (ws:=[]) (ups:=[]) (c:=.nilptr) (v:=.nilptr) rfl ⟨rfl,rfl⟩ (fun j hj=>by cases hj);have hHl:=low1.len;have td:=qan (v:=.tuple [.nilptr,iv0 r]) (ws:=wadd H1.length []) rfl rfl (low1.push (o:=row 1 [.nilptr]) hHl) (qae hHl (by simp));simp(disch:=first|omega|decide|simp only[go_sem]) only[go_sem,hH1,qbx,qby,l1,cb (open_err hT I hr H1),sb,hb,hT.prim,qab,td]
inductive AskR (T:Tbl)(t:GTy)(us:Ts)(h:Hp)(l:PV):Prop
 |no (hno:¬∀u∈us,TermP t.sig u)(ev:Ev T 136 [qai t,l] h (ba (.tuple [.nilptr,.int .i64 4]) h)):AskR T t us h l
 |yes (x:OpenX)(R:OpenR h t x)(hu:∀u∈us,qa1 u=true)(ev:Ev T 136 [qai t,l] h (.val (.tuple [.pb x.ks,.int .i64 0]),⟨x.H,[],x.ups⟩)):AskR T t us h l
include hT in
theorem asked_ok{t:GTy}(I:TyIn T t 0){us:Ts}{es:PL}{m:SM}(hE:EncL us es)(hl:es.length<1000)(h:Hp):AskR T t us h (.slice 3 es m):=by
 have k1:=gC0 (l:=h) (a:=row 3 [qai t]);have low1:Low h.length h (h++[row 3 [qai t]]):=(Low.refl _ _).push (nR0 _);have hl1:(h++[row 3 [qai t]]).length=h.length+1:=by simp
 have W:∃x:OR×St,Ev T 136 [qai t,.slice 3 es m] h x∧(((¬∀u∈us,TermP t.sig u)∧x.1=.val (.tuple [.nilptr,iv0 4])∧x.2=⟨h,[],[]⟩)∨∃y:OpenX,OpenR h t y∧(∀u∈us,qa1 u=true)∧x.1=.val (.tuple [.pb y.ks,iv0 0])∧x.2=⟨y.H,[],y.ups⟩):=by
  refine hT.wp (r:=fun x:OR×St=>x) fn136 (by decide) ?_;generalize hH1:h++[row 3 [qai t]]=H1 at*;have l1:loadAt true 3 (.pb h.length) H1=some (qai t):=by rw[qad k1];rfl
  obtain⟨⟨ks,kf,kb,es',H,ups⟩,evo,low,S,hBy,hups,hks,hkb,L,hL,hcon,hO⟩:=open_ok hT I H1;simp only at evo low S hBy hups hks hkb hL hO;have hHl:=low.len;have low2:Low h.length h H:=low1.comp low (by omega);obtain⟨s1,s2,s3⟩:=S.lt;have sb:=fun ws ups=>qlr (h:=H) (sz:=1) (ws:=ws) (ups:=ups) (c:=.nilptr) (v:=.pb ks) rfl ⟨rfl,rfl⟩ (fun j hj=>by cases hj;omega);have p3:=gC0 (l:=H) (a:=row 1 [.pb ks]);have S3:=S.push (o:=row 1 [.pb ks]);have hO3:OkE (H++[row 1 [.pb ks]]) h.length t.eqns.length t.eqns.length L:=⟨fun x hx=>⟨qah (hO.tok x hx).1,by have:=(hO.tok x hx).2;omega⟩,hO.idx,hO.nd⟩;have low3:=low2.push (o:=row 1 [.pb ks]) (by omega);generalize hH3:H++[row 1 [.pb ks]]=H3 at*;generalize hkp:H.length=kp at*;have n0:((0:Int) !=0)=false:=rfl;obtain⟨b,ev,hb,hbq⟩:=qks hT (P:=fun x=>qa1 x=true) (Q:=TermP t.sig) (g:=187) (cap:=[.pb kp]) (h:=H3) (m:=m) (by rw[hT.prim];rfl) (.inr rfl) hE (fun i x p hx hp=>term187_ev hT I S3 p3 (hE.2 i x p hx hp)) (by omega);have lp:loadAt false 1 (.pb kp) H3=some (.pb ks):=by rw[qad p3];rfl
  have hu3:∀y∈ups,h.length≤y.1:=fun y hy=>by have:=hups y hy;omega
  have hw3:∀x∈wadd kp [],h.length≤x:=qae (by omega) (by simp);cases b
  · have td:=qp5 (n0:=h.length) (ws:=wadd kp []) (ups:=ups) S3.sys (by omega) (by omega) hw3 hu3;simp(disch:=first|omega|decide|simp only[go_sem]) only[go_sem,hH1,qbx,qby,l1,cb evo,sb,hkp,n0,cb ev,lp,hT.prim,qab,td];exact⟨(_,_),rfl,.inr ⟨⟨ks,kf,kb,es',H3,ups⟩,⟨low3,S3,hBy,hu3,by simp only;omega,by simp only;omega,L,hL,hcon,hO3⟩,hb rfl,rfl,rfl⟩⟩
  · have td:=qa9 (v:=.tuple [.nilptr,iv0 4]) (ups:=ups) (ws:=wadd kp []) rfl low3 hw3 hu3;simp(disch:=first|omega|decide|simp only[go_sem]) only[go_sem,hH1,qbx,qby,l1,cb evo,sb,hkp,n0,cb ev,hT.prim,qab,td];exact⟨(_,_),rfl,.inl ⟨fun h=>(by cases hbq h),rfl,rfl⟩⟩
 obtain⟨⟨r,st⟩,ev,⟨hno,h1,h2⟩|⟨y,h1,h2,h3,h4⟩⟩:=W
 · simp only at h1 h2;subst h1 h2;exact .no hno ev
 · simp only at h3 h4;subst h3 h4;exact .yes y h1 h2 ev
def qtr(x:PV×Int):Prop:=(x.2=0∧RowE x.1)∨(x.2≠0∧x.1=qdd)
include hT in
theorem normalG_ev(h50:T.sp 50=none){t:GTy}{r:Int}(I:TyIn T t r){u:Tm}{X:PV}(hX:Enc u X){VP:PV×Int→Prop}(hVP:∀x,VP x→(x.2=0∧RowE x.1)∨(x.2=2∧x.1=qdd))
 (VE:r=0→qa1 u=true→∀(H:Hp)(ks kf kb:Nat)(L:List Ent),SysE H ks kf kb t L→ByOk (setE L) t.eqns.length→∃x:PV×Int,Ev T 137 [.pb ks,X] H (ba (.tuple [x.1,iv0 x.2]) H)∧VP x)(h:Hp):
 ∃x:PV×Int,Ev T 50 [qai t,X] h (ba (.tuple [x.1,iv0 x.2]) h)∧(VP x∨(x.2≠0∧x.1=qdd)):=by
 refine Ev.walkP (r:=fun x:PV×Int=>(ba (.tuple [x.1,iv0 x.2]) h)) h50 ((hT.fn _).trans fn50) (hT.mode _) rfl ?_;obtain⟨c1,_,c3,_⟩:=hX.cells;have k1:=gC0 (l:=h) (a:=row 3 [qai t]);have low1:Low h.length h (h++[row 3 [qai t]]):=(Low.refl _ _).push (nR0 _);have hl1:(h++[row 3 [qai t]]).length=h.length+1:=by simp
 generalize hH1:h++[row 3 [qai t]]=H1 at*;have x2:=gC0 (l:=H1) (a:=row 3 [X]);have k2:=qah (o2:=row 3 [X]) k1;have low2:=low1.push (o:=row 3 [X]) (by omega);have hl2:(H1++[row 3 [X]]).length=h.length+2:=by simp;omega
 generalize hH2:H1++[row 3 [X]]=H2 at*;generalize hkx:H1.length=kx at*;have z3:=gC0 (l:=H2) (a:=row 3 [zN]);have x3:=qah (o2:=row 3 [zN]) x2;have k3:=qah (o2:=row 3 [zN]) k2;have low3:=low2.push (o:=row 3 [zN]) (by omega);have hl3:(H2++[row 3 [zN]]).length=h.length+3:=by simp;omega
 have e3:H2++[row 3 [zq3]]=H2++[row 3 [zN]]:=rfl;generalize H2++[row 3 [zN]]=H3 at*;generalize hkr:H2.length=kr at*;have l1:loadAt true 3 (.pb h.length) H3=some (qai t):=by rw[qad k3];rfl
 have lx:loadAt true 3 (.pb kx) H3=some X:=by rw[qad x3];exact hX.sub
 have f1:=fe_1 (p:=X) ⟨c1,c3⟩;have f0:qdt [PV.int .i64 0,iv0 0,.sn] []=some [iv0 0,iv0 0,.sn]:=rfl;have n0:((0:Int) !=0)=false:=rfl
 have er:∀e:Int,e≠0→Ev T 136 [qai t,.slice 3 [X] .lit] H3 (ba (.tuple [.nilptr,iv0 e]) H3)→wpC T a50.code [qai t,X] ⟨h,[],[]⟩ (fin a50.res 0 h.length fun x=> ∃a:PV×Int,x=(ba (.tuple [a.1,iv0 a.2]) h)∧(VP a∨(a.2≠0∧a.1=qdd))):=fun e he ev=>by
  have hb:(e !=0)=true:=by simpa using he
  have sv:=fun ws ups=>qdc (Q:=.agg [iv0 0,iv0 0,.sn]) (ws:=ws) (ups:=ups) (n:=1) (N:=0) z3 rfl rfl ⟨rfl,_,rfl⟩ ⟨rfl,rfl,_,rfl⟩ rfl;simp only[sC0]at sv;have lo:loadAt true 3 (.pb kr) (H3.set kr (.row 3 [.agg [iv0 0,iv0 0,.sn]]))=some zN:=by rw[qad (qak z3)];rfl
  have td:=qa9 (v:=.tuple [zN,iv0 e]) (ups:=[]) (ws:=wadd kr []) rfl (low3.trans (.set (show h.length≤kr by omega)):Low h.length h (H3.set kr (.row 3 [.agg [iv0 0,iv0 0,.sn]]))) (qae (by omega) (by simp)) (by simp);simp(disch:=first|omega|decide|simp only[go_sem]) only[go_sem,a50,hH1,hkx,hH2,e3,hkr,c1,c3,qbx,qby,l1,lx,f1,cb ev,hb,f0,sv,resv,lo,hT.q,td];exact⟨(qdd,e),rfl,.inr ⟨he,rfl⟩⟩
 by_cases hr:r=0;rotate_left
 ·exact er r hr (asked_err hT I hr _ H3)
 subst hr
 rcases asked_ok hT I (us:=[u]) (es:=[X]) (m:=.lit) ⟨rfl,fun i x q h1 h2=>by
  cases i with
  |zero=>simp at h1 h2;subst h1 h2;exact hX
  |succ i=>simp at h1⟩ (by simp) H3 with⟨_,ev⟩|⟨⟨ks,kf,kb,es',H,ups⟩,R,hu,ev⟩
 ·exact er 4 (by decide) ev
 obtain⟨low,S,hBy,hups,hks,hkb,L,hL,hcon,hO⟩:=R;simp only at low S hBy hups hks hkb ev hL hO;have low4:Low h.length h H:=low3.comp low (by omega);have x4:=low.get (show kx<H3.length by omega) x3;have z4:=low.get (show kr<H3.length by omega) z3;have lx4:loadAt true 3 (.pb kx) H=some X:=by rw[qad x4];exact hX.sub
 subst hL;obtain⟨⟨q,e⟩,evv,hv⟩:=VE rfl (hu u (by simp)) H ks kf kb L ⟨S,hcon,fun x hx=>(hO.tok x hx).1,hO.nd⟩ hBy;have hq:=hVP _ hv;simp only at evv hq
 have hq3:q.cells.length=3∧q.cells.all PV.isCell=true∧(∃cs,q=.agg cs)∧q.top=none∧q.pure=true∧q.weak=q∧AE.sub true 3 q 0=some q:=by
  rcases hq with⟨_,w,hw,_⟩|⟨_,rfl⟩
  · obtain⟨y1,y2,y3,y4⟩:=hw.cells;exact⟨y1,y2,y4,hw.facts.1,hw.facts.2.1,hw.facts.2.2,hw.sub⟩
  ·exact⟨rfl,rfl,⟨_,rfl⟩,rfl,rfl,rfl,rfl⟩
 obtain⟨q1,q2,q4,q5,q6,q7,q8⟩:=hq3;have sv:=fun ws ups=>qdc (ws:=ws) (ups:=ups) (n:=1) (N:=0) z4 rfl rfl ⟨rfl,_,rfl⟩ ⟨q1,q2,q4⟩ q5;simp only[sC0]at sv;have lo:loadAt true 3 (.pb kr) (H.set kr (.row 3 [q]))=some q:=by rw[qad (qak z4)];exact q8
 have hu3:∀y∈ups,h.length≤y.1:=fun y hy=>by have:=hups y hy;omega
 have td:=qa9 (v:=.tuple [q,iv0 e]) (ups:=ups) (ws:=wadd kr []) (by simp[PV.pure,qas,q6]) (low4.trans (.set (show h.length≤kr by omega)):Low h.length h (H.set kr (.row 3 [q]))) (qae (by omega) (by simp)) hu3;simp only[PV.weak,qaq,q7]at td;simp(disch:=first|omega|decide|simp only[go_sem]) only[go_sem,hH1,hkx,hH2,e3,hkr,c1,c3,qbx,qby,l1,lx,f1,cb ev,n0,lx4,cb evv,sv,resv,lo,hT.q,td];exact⟨(q,e),rfl,.inl hv⟩
def cmpI(a b:Int):Int:=if a<b then -1 else if b<a then 1 else 0
mutual
def tmC:Tm→Tm→Int
 |.mk k n l,.mk k' n' l'=>if cmpI k k'≠0 then cmpI k k' else if cmpI n n'≠0 then cmpI n n' else if cmpI l.length l'.length≠0 then cmpI l.length l'.length else tmCL l l'
def tmCL:Ts→Ts→Int
 |[],[]=>0
 |[],_::_=> -1
 |_::_,[]=>1
 |x::l,y::l'=>if tmC x y≠0 then tmC x y else tmCL l l'
end
theorem qrp(a:Int):cmpI a a=0:=by simp[cmpI]
theorem qc5{a b:Int}:cmpI a b=0↔a=b:=by
 unfold cmpI;split
 ·omega
 ·omega
theorem qdh{a b:Int}:cmpI a b<0↔a<b:=by
 unfold cmpI;split
 ·omega
 ·omega
mutual
theorem tmC_eq:∀t u:Tm,tmC t u=0→t=u
 |.mk k n l,.mk k' n' l',h=>by
   simp only[tmC]at h;split at h
   ·omega
   · split at h
     ·omega
     · split at h
       ·omega
       next h1 h2 h3=>
         have e1:k=k':=qc5.1 (by simpa using h1);have e2:n=n':=qc5.1 (by simpa using h2);rw[e1,e2,tmCL_eq l l' h]
theorem tmCL_eq:∀l l':Ts,tmCL l l'=0→l=l'
 |[],[],_=>rfl
 |[],_::_,h=>by simp[tmCL]at h
 |_::_,[],h=>by simp[tmCL]at h
 |x::l,y::l',h=>by
   simp only[tmCL]at h;split at h
   ·omega
   next h1=>
     rw[tmC_eq x y (by simpa using h1),tmCL_eq l l' h]
end
mutual
theorem qp4:∀t u v:Tm,tmC t u<0→tmC u v<0→tmC t v<0
 |.mk k n l,.mk k' n' l',.mk k'' n'' l'',h,g=>by
   simp only[tmC]at h g⊢;by_cases a1:cmpI k k'=0
   · have:=qc5.1 a1;subst this;simp only[a1,ne_eq,not_true_eq_false,if_false]at h;by_cases b1:cmpI k k''=0
     · have:=qc5.1 b1;subst this;simp only[qrp,ne_eq,not_true_eq_false,if_false]at g⊢;by_cases a2:cmpI n n'=0
       · have:=qc5.1 a2;subst this;simp only[a2,not_true_eq_false,if_false]at h;by_cases b2:cmpI n n''=0
         · have:=qc5.1 b2;subst this;simp only[qrp,not_true_eq_false,if_false]at g⊢;by_cases a3:cmpI (l.length:Int) l'.length=0
           · have e3:=qc5.1 a3;simp only[a3,not_true_eq_false,if_false]at h;rw[←e3]at g;by_cases b3:cmpI (l.length:Int) l''.length=0
             · simp only[b3,not_true_eq_false,if_false]at g⊢;exact qnh l l' l'' h g
             ·omega
           · simp only[a3,not_false_eq_true,if_true]at h;have h':=qdh.1 h
             have hlt:cmpI (l.length:Int) l''.length<0:=by
              by_cases b3:cmpI (l'.length:Int) l''.length=0
              · have:=qc5.1 b3;exact qdh.2 (by omega)
              · simp only[b3,not_false_eq_true,if_true]at g;have:=qdh.1 g;exact qdh.2 (by omega)
             have hne:cmpI (l.length:Int) l''.length≠0:=by omega
             simp only[hne,not_false_eq_true,if_true];exact hlt
         ·omega
       · simp only[a2,not_false_eq_true,if_true]at h;have h':=qdh.1 h
         have hlt:cmpI n n''<0:=by
          by_cases b2:cmpI n' n''=0
          · have:=qc5.1 b2;exact qdh.2 (by omega)
          · simp only[b2,not_false_eq_true,if_true]at g;have:=qdh.1 g;exact qdh.2 (by omega)
         have hne:cmpI n n''≠0:=by omega
         simp only[hne,not_false_eq_true,if_true];exact hlt
     ·omega
   · simp only[a1,ne_eq,not_false_eq_true,if_true]at h;have h':=qdh.1 h
     have hlt:cmpI k k''<0:=by
      by_cases b1:cmpI k' k''=0
      · have:=qc5.1 b1;exact qdh.2 (by omega)
      · simp only[b1,ne_eq,not_false_eq_true,if_true]at g;have:=qdh.1 g;exact qdh.2 (by omega)
     have hne:cmpI k k''≠0:=by omega
     simp only[hne,ne_eq,not_false_eq_true,if_true];exact hlt
theorem qnh:∀l l' l'':Ts,tmCL l l'<0→tmCL l' l''<0→tmCL l l''<0
 |[],[],l'',h,_=>by simp[tmCL]at h
 |[],_::_,[],_,g=>by simp[tmCL]at g
 |[],_::_,_::_,_,_=>by simp[tmCL]
 |_::_,[],_,h,_=>by simp[tmCL]at h
 |_::_,_::_,[],_,g=>by simp[tmCL]at g
 |x::l,y::l',z::l'',h,g=>by
   simp only[tmCL]at h g⊢;by_cases a1:tmC x y=0
   · have:=tmC_eq x y a1;subst this;simp only[a1,ne_eq,not_true_eq_false,if_false]at h;by_cases b1:tmC x z=0
     · simp only[b1,ne_eq,not_true_eq_false,if_false]at g⊢;exact qnh l l' l'' h g
     ·omega
   · simp only[a1,ne_eq,not_false_eq_true,if_true]at h
     have hlt:tmC x z<0:=by
      by_cases b1:tmC y z=0
      ·rw[←tmC_eq y z b1];exact h
      · simp only[b1,ne_eq,not_false_eq_true,if_true]at g;exact qp4 x y z h g
     have hne:tmC x z≠0:=by omega
     simp only[hne,ne_eq,not_false_eq_true,if_true];exact hlt
end
include hT in
theorem qn2(a:Int)(h:Hp):Ev T 194 [iv0 a] h (ba (.bool false) h):=by
 refine hT.wk fn194 (by decide) ?_;have e:(a !=a)=false:=by simp
 simp(disch:=omega) only[go_sem,e]
include hT in
theorem cmpI_ev(a b:Int)(h:Hp):Ev T 147 [iv0 a,iv0 b] h (ba (iv0 (cmpI a b)) h):=by
 refine hT.wk fn147 (by decide) ?_;unfold cmpI;by_cases h1:a<b
 ·simp(disch:=omega) only[go_sem,cb (qn2 hT a _),cb (qn2 hT b _),hT.prim,qab,h1]
 · by_cases h2:b<a
   ·simp(disch:=omega) only[go_sem,cb (qn2 hT a _),cb (qn2 hT b _),hT.prim,qab,h1,h2,if_true]
   ·simp(disch:=omega) only[go_sem,cb (qn2 hT a _),cb (qn2 hT b _),hT.prim,qab,h1,h2]
include hT in
theorem or3_ev(a b c:Int)(h:Hp):Ev T 146 [.slice 1 [iv0 a,iv0 b,iv0 c] .lit] h (ba (iv0 (if a≠0 then a else if b≠0 then b else c)) h):=by
 refine hT.wk fn146 (by decide) ?_;have g0:([iv0 a,iv0 b,iv0 c]:PL)[0]?=some (iv0 a):=rfl;have g1:([iv0 a,iv0 b,iv0 c]:PL)[1]?=some (iv0 b):=rfl;have g2:([iv0 a,iv0 b,iv0 c]:PL)[2]?=some (iv0 c):=rfl;simp(disch:=omega) only[go_sem,ll0];refine wpC.loopM (fun g e st=> ∃i:Nat,i+g=3∧(∀x∈[a,b,c].take i,x=0)∧eget e 3=iv0 0∧eget e 6=.slice 1 [iv0 a,iv0 b,iv0 c] .lit∧eget e 7=iv0 3∧eget e 8=iv0 (i:Int)∧st=⟨h,[],[]⟩) ?_ 3 _ _ ⟨0,by omega,by simp,by simp only[go_sem],by simp only[go_sem],by simp only[go_sem];rfl,by simp only[go_sem];rfl,rfl⟩;rintro g e st ⟨i,hi,hz,e3,e6,e7,e8,rfl⟩;rcases(show i=0∨i=1∨i=2∨i=3 by omega)with rfl|rfl|rfl|rfl
 · by_cases ha:a=0
   · have ha':(a !=0)=false:=by simpa using ha
     simp(disch:=omega) only[go_sem,qkt,e3,e6,e7,e8,g0,ha',List.length_cons];exact⟨2,by omega,1,by omega,by simpa using ha,rfl,trivial⟩
   · have ha':(a !=0)=true:=by simpa using ha
     simp(disch:=omega) only[go_sem,qkt,e3,e6,e7,e8,g0,ha',List.length_cons];simp[ha]
 · have ha:a=0:=hz a (by simp);by_cases hb:b=0
   · have hb':(b !=0)=false:=by simpa using hb
     simp(disch:=omega) only[go_sem,qkt,e3,e6,e7,e8,g1,hb',List.length_cons];exact⟨1,by omega,2,by omega,by simp[ha,hb],rfl,trivial⟩
   · have hb':(b !=0)=true:=by simpa using hb
     simp(disch:=omega) only[go_sem,qkt,e3,e6,e7,e8,g1,hb',List.length_cons];simp[ha,hb]
 · have ha:a=0:=hz a (by simp);have hb:b=0:=hz b (by simp);by_cases hc:c=0
   · have hc':(c !=0)=false:=by simpa using hc
     simp(disch:=omega) only[go_sem,qkt,e3,e6,e7,e8,g2,hc',List.length_cons];exact⟨0,by omega,3,by omega,by simp[ha,hb,hc],rfl,trivial⟩
   · have hc':(c !=0)=true:=by simpa using hc
     simp(disch:=omega) only[go_sem,qkt,e3,e6,e7,e8,g2,hc',List.length_cons];simp[ha,hb]
 · have ha:a=0:=hz a (by simp);have hb:b=0:=hz b (by simp);have hc:c=0:=hz c (by simp);simp(disch:=omega) only[go_sem,qkt,e3,e6,e7,e8];simp[ha,hb,hc]
set_option maxHeartbeats 1000000 in
include hT in
theorem compare_ev{t:Tm}{p:PV}(ht:Enc t p):t.nodes≤100000→∀(u:Tm)(q:PV),Enc u q→∀h:Hp,Ev T 62 [p,q] h (ba (iv0 (tmC t u)) h):=by
 have hc:=ht.cells;have hsb:=ht.sub;induction ht with
 |mk k n l sz es hz hl he ih=>
   intro hnd u q hq h;simp only[Tm.nodes]at hnd;have hll:=qcd l;obtain⟨k',n',l',sz',es',rfl,hQ,hz',hE'⟩:=hq.eq;obtain⟨d1,_,d3,_⟩:=hq.cells;obtain⟨c1,c2,c3,c4⟩:=hc;have hl':=hE'.1;refine hT.wk fn62 (by decide) ?_
   have E148:es.length=es'.length→∀h,Ev T 148 [.slice sz es .any,.slice sz' es' .any,.func (.func 62) [] []] h (ba (iv0 (tmCL l l')) h):=fun hee h=>by
    refine hT.wk fn148 (by decide) ?_;simp(disch:=omega) only[go_sem]
    refine wpC.loopM (fun g e st=> ∃(i:Nat)(H:Hp)(ws:NL),i+g=es.length∧tmCL l l'=tmCL (l.drop i) (l'.drop i)∧Low h.length h H∧(∀x∈ws,h.length≤x)∧eget e 0=.slice sz es .any∧eget e 1=.slice sz' es' .any∧eget e 2=.func (.func 62) [] []∧eget e 11=.slice sz es .any∧eget e 12=iv0 (es.length:Int)∧eget e 13=iv0 (i:Int)∧st=⟨H,ws,[]⟩) ?_ es.length _ _
     ⟨0,h,[],by omega,rfl,Low.refl _ _,by simp,by simp only[go_sem],by simp only[go_sem],by simp only[go_sem],by simp only[go_sem],by simp only[go_sem],by simp only[go_sem];rfl,rfl⟩
    rintro g e st ⟨i,H,ws,hi,hC,low,hw,e0,e1,e2,e11,e12,e13,rfl⟩;by_cases h1:i<es.length
    · have ga:=qbt h1;have hx:l[i]?=some l[i]:=gE0 (by omega);have hE:=he i l[i] es[i] hx ga;have hi':i<es'.length:=by omega
      have ga':=qbt hi';have hx':l'[i]?=some l'[i]:=gE0 (by omega);have hEy:=hE'.2 i l'[i] es'[i] hx' ga';have ev:=ih i l[i] es[i] hx ga hE.cells hE.sub (by have:=qc6 (mG0 hx);omega) _ _ hEy;have hd:l.drop i=l[i]::l.drop (i+1):=List.drop_eq_getElem_cons (by omega);have hd':l'.drop i=l'[i]::l'.drop (i+1):=List.drop_eq_getElem_cons (by omega);rw[hd,hd']at hC;simp only[tmCL]at hC;have hsz:sz=3:=by grind
      have hsz':sz'=3:=by grind
      subst hsz hsz';obtain⟨b1,b2,b3,b4⟩:=hE.cells;obtain⟨y1,y2,y3,y4⟩:=hEy.cells;have bt:=hE.facts.1;have yt:=hEy.facts.1;have bs:=hE.sub;have ys:=hEy.sub;generalize l[i]=x at*;generalize l'[i]=y at*;generalize es[i]=a at*;generalize es'[i]=b at*;have sb:=qa5 (h:=H) (ws:=ws) (ups:=[]) (z:=zq3) (sz:=3) (c:=a) b1 rfl b2 bt ⟨_,rfl⟩ b4;have ka:=gC0 (l:=H) (a:=row 3 [a]);have hHl:=low.len;have low5:=low.push (o:=row 3 [a]) hHl;have hl5:(H++[row 3 [a]]).length=H.length+1:=by simp
      generalize hH5:H++[row 3 [a]]=H5 at*;have sb2:=fun ws=>qa5 (h:=H5) (ws:=ws) (ups:=[]) (z:=zq3) (sz:=3) (c:=b) y1 rfl y2 yt ⟨_,rfl⟩ y4;have kb:=gC0 (l:=H5) (a:=row 3 [b]);have ka2:=qah (o2:=row 3 [b]) ka;have low6:=low5.push (o:=row 3 [b]) (by omega);generalize hH6:H5++[row 3 [b]]=H6 at*;generalize hk1:H.length=k1 at*;generalize hk2:H5.length=k2 at*;have la:loadAt true 3 (.pb k1) H6=some a:=by rw[qad ka2];exact bs
      have lb:loadAt true 3 (.pb k2) H6=some b:=by rw[qad kb];exact ys
      have h1':(i:Int)< (es.length:Int):=by omega
      have h2':¬(es'.length:Int)≤(i:Int):=by omega
      have hw6:∀x∈wadd k2 (wadd k1 ws),h.length≤x:=qae (by omega) (qae (by omega) hw);by_cases h0:tmC x y=0
      · have h0':(tmC x y !=0)=false:=by simpa using h0
        simp only[h0,ne_eq,not_true_eq_false,if_false]at hC;simp(disch:=omega) only[go_sem,a148b0,e0,e1,e2,e11,e12,e13,h1',h2',ga,ga',bs,ys,hk1,sb,hk2,sb2,la,lb,cb (ev H6),hT.q,h0'];exact⟨g - 1,by omega,i+1,_,_,by omega,hC,low6,hw6,rfl,rfl⟩
      · have h0':(tmC x y !=0)=true:=by simpa using h0
        simp only[h0,ne_eq,not_false_eq_true,if_true]at hC;rw[hC];simp(disch:=omega) only[go_sem,a148b0,e1,e2,e11,e12,e13,h1',h2',ga,ga',bs,ys,hk1,sb,hk2,sb2,la,lb,cb (ev H6),hT.q,h0'];exact qan rfl rfl low6 hw6
    · have h1':¬(i:Int)< (es.length:Int):=by omega
      have h3':¬(es.length:Int)< (es'.length:Int):=by omega
      rw[List.drop_of_length_le (by omega),List.drop_of_length_le (by omega)]at hC;simp only[tmCL]at hC;rw[hC];simp(disch:=omega) only[go_sem,a148b0,e0,e1,e12,e13,h1',h3'];exact qan rfl rfl low hw
   generalize hP:PV.agg [iv0 k,iv0 n,.slice sz es .any]=P at*;have kp1:=gC0 (l:=h) (a:=row 3 [P]);have low1:Low h.length h (h++[row 3 [P]]):=(Low.refl _ _).push (nR0 _);have hl1:(h++[row 3 [P]]).length=h.length+1:=by simp
   generalize hH1:h++[row 3 [P]]=H1 at*;have kq:=gC0 (l:=H1) (a:=row 3 [q]);have kp:=qah (o2:=row 3 [q]) kp1;have low2:=low1.push (o:=row 3 [q]) (by omega);generalize hH2:H1++[row 3 [q]]=H2 at*;generalize hkQ:H1.length=kQ at*;have l0:loadAt false 1 (.pb h.length) H2=some (iv0 k):=by rw[qad kp,←hP];rfl
   have l1:loadAt false 1 (.ptr h.length 0 1 1) H2=some (iv0 n):=by rw[qad kp,←hP];rfl
   have l2:loadAt false 1 (.ptr h.length 0 2 1) H2=some (.slice sz es .any):=by rw[qad kp,←hP];rfl
   have q0:loadAt false 1 (.pb kQ) H2=some (iv0 k'):=by rw[qad kq,hQ];rfl
   have q1:loadAt false 1 (.ptr kQ 0 1 1) H2=some (iv0 n'):=by rw[qad kq,hQ];rfl
   have q2:loadAt false 1 (.ptr kQ 0 2 1) H2=some (.slice sz' es' .any):=by rw[qad kq,hQ];rfl
   have td:∀a,tidy 0 h.length (.val (iv0 a)) ⟨H2,[],[]⟩=(ba (iv0 a) h):=fun a=>qan rfl rfl low2 (by simp);have fe:∀a b c:Int,qda 1 (List.replicate 3 (PV.int .i64 0)) [(0,iv0 a),(1,iv0 b),(2,iv0 c)]=some [iv0 a,iv0 b,iv0 c]:=fun a b c=>rfl;have o3:=or3_ev hT (cmpI k k') (cmpI n n') (cmpI (es.length:Int) es'.length) H2;have hee:cmpI (es.length:Int) es'.length=cmpI (l.length:Int) l'.length:=by rw[hl,hl']
   have hr:tmC (.mk k n l) (.mk k' n' l')=if(if cmpI k k'≠0 then cmpI k k' else if cmpI n n'≠0 then cmpI n n' else cmpI (es.length:Int) es'.length)≠0 then(if cmpI k k'≠0 then cmpI k k' else if cmpI n n'≠0 then cmpI n n' else cmpI (es.length:Int) es'.length)else tmCL l l':=by
    simp only[tmC,hee];by_cases a1:cmpI k k'=0
    ·omega
    ·simp[a1]
   have hz0:(if cmpI k k'≠0 then cmpI k k' else if cmpI n n'≠0 then cmpI n n' else cmpI (es.length:Int) es'.length)=0→es.length=es'.length:=fun h0=>by
    by_cases a1:cmpI k k'=0
    · by_cases a2:cmpI n n'=0
      · simp only[a1,a2,ne_eq,not_true_eq_false,if_false]at h0;have:=qc5.1 h0;omega
      ·omega
    ·omega
   rw[hr];generalize(if cmpI k k'≠0 then cmpI k k' else if cmpI n n'≠0 then cmpI n n' else cmpI (es.length:Int) es'.length)=c at*;by_cases h0:c=0
   · have h0':(c !=0)=false:=by simpa using h0
     have ev:=E148 (hz0 h0) H2;have hr0:(if c≠0 then c else tmCL l l')=tmCL l l':=by simp[h0]
     rw[hr0];simp(disch:=first|omega|decide|simp only[go_sem]) only[go_sem,hH1,hkQ,hH2,c1,c3,d1,d3,l0,l1,l2,q0,q1,q2,cb (cmpI_ev hT _ _ _),fe,cb o3,h0',cb ev,hT.prim,qab,td]
   · have h0':(c !=0)=true:=by simpa using h0
     have hr0:(if c≠0 then c else tmCL l l')=c:=by simp[h0]
     rw[hr0];simp(disch:=first|omega|decide|simp only[go_sem]) only[go_sem,hH1,hkQ,hH2,c1,c3,d1,d3,l0,l1,l2,q0,q1,q2,cb (cmpI_ev hT _ _ _),fe,cb o3,h0',hT.prim,qab,td]
def qiy(s:GSig)(t:Tm):Int×Int:=if qa1 t=true then sortR s t else(0,4)
include hT in
theorem sort129_ev{H:Hp}{kg:Nat}(hk:H[kg]?=some (.row 2 [qaf s]))(hn:s.sorts.length≤1000)(a:Int):Ev T 129 [.int .i64 a,.pb kg] H (ba (.bool (decide (a<0)||decide ((s.sorts.length:Int)≤a))) H):=by
 refine hT.wk fn129 (by decide) ?_;have lg:loadAt false 1 (.pb kg) H=some (.slice 1 (s.sorts.map .str) .any):=by rw[qad hk];rfl
 by_cases h0:a<0
 ·simp(disch:=omega) only[go_sem,h0,decide_true,Bool.true_or]
 · by_cases h1:(s.sorts.length:Int)≤a
   ·simp(disch:=omega) only[go_sem,h0,h1,lg,decide_true,decide_false,Bool.false_or,lM0]
   ·simp(disch:=omega) only[go_sem,h0,h1,lg,decide_false,Bool.false_or,lM0]
include hT in
theorem qhc{g:FuncId}{cap:PL}{z:Nat}{m:SM}(h:Hp):Ev T 65 [.slice z [] m,.func (.func g) [] cap] h (ba (.bool false) h):=by
 have i149:Ev T 149 [.slice z [] m,.func (.func g) [] cap] h (ba (.int .i64 (-1)) h):=by
  refine hT.wk fn149 (by decide) ?_;simp(disch:=omega) only[go_sem,List.length_nil];refine unroll ?_;have n0:¬((0:Int)< ((0:Nat):Int)):=by omega
  simp(disch:=omega) only[go_sem,a149b0,n0]
 refine hT.wk fn65 (by decide) ?_;have n1:¬((0:Int)≤-1):=by omega
 simp(disch:=omega) only[go_sem,cb i149,hT.prim,qab,n1]
include hT in
theorem vars65_ev{H:Hp}{kg:Nat}(hk:H[kg]?=some (.row 2 [qaf s]))(hn:s.sorts.length≤1000){vs:IL}{zv:Nat}{mv:SM}(hzv:vs=[]∨zv=1)(hvs:∀v∈vs,0≤v∧v< (s.sorts.length:Int))(hl:vs.length<1000000):
 Ev T 65 [.slice zv (vs.map encI) mv,.func (.func 129) [] [.pb kg]] H (ba (.bool false) H):=by
 rcases hzv with rfl|rfl
 ·exact qhc hT H
 · obtain⟨r,ev,hr⟩:=qem hT (g:=129) (cap:=[.pb kg]) (p:=fun a=>decide (a<0)||decide ((s.sorts.length:Int)≤a)) (m:=mv) (by rw[hT.prim];rfl) (fun a=>sort129_ev hT hk hn a) hl;have:r=false:=hr.2 fun a ha=>by obtain⟨h1,h2⟩:=hvs a ha;rw[decide_eq_false (by omega),decide_eq_false (by omega)];rfl
   rw[this]at ev;exact ev
def topV(s:GSig)(vs:IL):Tm→Int
 |.mk k n _=>if k=1 then(if n< (vs.length:Int)then vs.getD n.toNat (-1)else -1)else(match s.ops[n.toNat]? with|some o=>o.res|none=> -1)
def qco(s:GSig)(vs:IL)(t:Tm):Int×Int:=if qa1 t=true∧0≤topV s vs t∧qb1 s vs t (topV s vs t)=true then(topV s vs t,0)else(0,4)
set_option maxRecDepth 8000 in
include hT in
theorem qov(hs:GOk s)(E87:∀h,Ev T 87 [qaf s] h (ba (.int .i64 0) h)){vs:IL}{zv:Nat}{mv:SM}(hzv:vs=[]∨zv=1)(hvs:∀v∈vs,0≤v∧v< (s.sorts.length:Int))(hvl:vs.length<1000000)(hsl:s.sorts.length≤1000){t:Tm}{p:PV}(ht:Enc t p)(h:Hp):
 Ev T 45 [qaf s,.slice zv (vs.map encI) mv,p] h (ba (.tuple [.int .i64 (qco s vs t).1,.int .i64 (qco s vs t).2]) h):=by
 refine hT.wk fn45 (by decide) ?_;have htr:=qiv hT ht;have hty:=fun hsh a h kv hv=>typedV_ev hT (mv:=mv) hzv hs ht hsh a h kv hv;have hsub:=ht.sub;obtain⟨c1,c2,c3,c4⟩:=ht.cells;have cv:(PV.slice zv (vs.map encI) mv).cells.length=1∧(PV.slice zv (vs.map encI) mv).isDef=true:=⟨rfl,rfl⟩;have kg:(((h++[row 2 [qaf s]])++[row 1 [PV.slice zv (vs.map encI) mv]])++[row 3 [p]])[h.length]?=some (.row 2 [qaf s]):=qah (qah (by simp));have hl1:(h++[row 2 [qaf s]]).length=h.length+1:=by simp
 have kv:(((h++[row 2 [qaf s]])++[row 1 [PV.slice zv (vs.map encI) mv]])++[row 3 [p]])[(h++[row 2 [qaf s]]).length]?=some (.row 1 [.slice zv (vs.map encI) mv]):=qah (by simp);have kp:=gC0 (l:=((h++[row 2 [qaf s]])++[row 1 [PV.slice zv (vs.map encI) mv]])) (a:=row 3 [p]);have low:Low h.length h (((h++[row 2 [qaf s]])++[row 1 [PV.slice zv (vs.map encI) mv]])++[row 3 [p]]):=(((Low.refl _ _).push (nR0 _)).push (by simp)).push (by simp);generalize hk1:(h++[row 2 [qaf s]]).length=k1 at*;generalize hk2:((h++[row 2 [qaf s]])++[row 1 [PV.slice zv (vs.map encI) mv]]).length=k2 at*;generalize hH:((h++[row 2 [qaf s]])++[row 1 [PV.slice zv (vs.map encI) mv]])++[row 3 [p]]=H at*;have lg:loadAt true 2 (.pb h.length) H=some (qaf s):=by rw[qad kg];rfl
 have lg1:loadAt false 1 (.ptr h.length 0 1 1) H=some (.slice 3 (s.ops.map qao) .any):=by rw[qad kg];rfl
 have lv:loadAt false 1 (.pb k1) H=some (.slice zv (vs.map encI) mv):=by rw[qad kv];rfl
 have lp:loadAt true 3 (.pb k2) H=some p:=by rw[qad kp];exact hsub
 have c65':=vars65_ev hT kg hsl (mv:=mv) hzv hvs hvl;have td:∀a b,tidy 0 h.length (.val (.tuple [.int .i64 a,.int .i64 b])) ⟨H,[],[]⟩=(ba (.tuple [.int .i64 a,.int .i64 b]) h):=fun a b=>qan rfl rfl low (by simp);cases hbt:qa1 t
 · have hF:qco s vs t=(0,4):=by simp[qco,hbt]
   rw[hF];have htr:=htr H;rw[hbt]at htr;simp(disch:=omega) only[go_sem,hk1,hk2,hH,c1,c3,cv.1,cv.2,lg,cb (E87 _),lv,cb c65',lp,cb htr,bne_self_eq_false,hT.prim,qab,td]
 · have hsh:=qaw hbt;have htq:=htr H;rw[hbt]at htq;have hV:qco s vs t=if 0≤topV s vs t∧qb1 s vs t (topV s vs t)=true then(topV s vs t,0)else(0,4):=by simp[qco,hbt]
   have ety:=fun a=>hty hsh a H k1 kv;cases ht with
   |mk k n l sz es hz hl he=>
     have lp0:loadAt false 1 (.pb k2) H=some (.int .i64 k):=by rw[qad kp];rfl
     have lp1:loadAt false 1 (.ptr k2 0 1 1) H=some (.int .i64 n):=by rw[qad kp];rfl
     have hsh':=hsh;simp only[qav,bA0,dE0,Bool.or_eq_true,beq_iff_eq]at hsh;obtain⟨⟨⟨⟨hn0,_⟩,hk12⟩,_⟩,_⟩:=hsh;obtain⟨N,rfl⟩:=iZ0 hn0;have m1:((-1:Int)<0):=by omega
     rcases hk12 with rfl|rfl
     · have b11:((1:Int)==1)=true:=rfl;have b12:((1:Int)==2)=false:=rfl;by_cases hN:N<vs.length
       · have hN':(N:Int)< (vs.length:Int):=by omega
         have gk:=qee hN;have hz1:zv=1:=by grind
         subst hz1;have gd:topV s vs (.mk 1 N l)=vs[N]:=by simp[topV,hN',gD0,hN]
         have hv0:=(hvs _ (gX0 hN)).1;rw[gd]at hV;have ety:=ety vs[N];generalize vs[N]=a at*;have a0:¬a<0:=by omega
         cases hb:qb1 s vs (.mk 1 N l) a
         · rw[hb]at ety;have hF:=hV.trans (if_neg (by simp[hb]));rw[hF];simp(disch:=omega) only[go_sem,hk1,hk2,hH,c1,c3,cv.1,cv.2,lg,cb (E87 _),lv,cb c65',lp,cb htq,bne_self_eq_false,hT.prim,qab,td,lp0,lp1,b11,hN',gk,a0,cb ety,lM0]
         · rw[hb]at ety;have hF:=hV.trans (if_pos ⟨by omega,hb⟩);rw[hF];simp(disch:=omega) only[go_sem,hk1,hk2,hH,c1,c3,cv.1,cv.2,lg,cb (E87 _),lv,cb c65',lp,cb htq,bne_self_eq_false,hT.prim,qab,td,lp0,lp1,b11,hN',gk,a0,cb ety,lM0]
       · have hN':¬(N:Int)< (vs.length:Int):=by omega
         have gd:topV s vs (.mk 1 N l)=-1:=by simp[topV,hN]
         rw[gd]at hV;have hF:=hV.trans (if_neg (by simp));rw[hF];simp(disch:=omega) only[go_sem,hk1,hk2,hH,c1,c3,cv.1,cv.2,lg,cb (E87 _),lv,cb c65',lp,cb htq,bne_self_eq_false,hT.prim,qab,td,lp0,lp1,b11,b12,hN',m1,lM0]
     · have b11:((2:Int)==1)=false:=rfl;have b12:((2:Int)==2)=true:=rfl;by_cases hNO:N<s.ops.length
       · have go:=ql9 hNO;have ho:s.ops[N]?=some s.ops[N]:=gE0 hNO;obtain⟨a1,a2,a3⟩:=hs.ops _ (mG0 ho);generalize s.ops[N]=o at*;have so2:sub false 1 (qao o) 2=some (.int .i64 o.res):=rfl;have r0:¬o.res<0:=by omega
         have gd:topV s vs (.mk 2 N l)=o.res:=by simp[topV,ho]
         rw[gd]at hV;have ety:=ety o.res;cases hb:qb1 s vs (.mk 2 N l) o.res
         · rw[hb]at ety;have hF:=hV.trans (if_neg (by simp[hb]));rw[hF];simp(disch:=omega) only[go_sem,hk1,hk2,hH,c1,c3,cv.1,cv.2,lg,lg1,cb (E87 _),lv,cb c65',lp,cb htq,bne_self_eq_false,hT.prim,qab,td,lp0,lp1,b11,b12,hNO,go,so2,r0,cb ety,lM0]
         · rw[hb]at ety;have hF:=hV.trans (if_pos ⟨by omega,hb⟩);rw[hF];simp(disch:=omega) only[go_sem,hk1,hk2,hH,c1,c3,cv.1,cv.2,lg,lg1,cb (E87 _),lv,cb c65',lp,cb htq,bne_self_eq_false,hT.prim,qab,td,lp0,lp1,b11,b12,hNO,go,so2,r0,cb ety,lM0]
       · have hNO':s.ops.length≤N:=by omega
         have gd:topV s vs (.mk 2 N l)=-1:=by simp[topV,List.getElem?_eq_none hNO']
         rw[gd]at hV;have hF:=hV.trans (if_neg (by simp));rw[hF];simp(disch:=omega) only[go_sem,hk1,hk2,hH,c1,c3,cv.1,cv.2,lg,lg1,cb (E87 _),lv,cb c65',lp,cb htq,bne_self_eq_false,hT.prim,qab,td,lp0,lp1,b11,b12,hNO,m1,lM0]
theorem sortV_nil(hs:GOk s)(t:Tm):qco s [] t=qiy s t:=by
 unfold qco qiy;cases hb:qa1 t
 ·simp
 · have hsh:=qaw hb;obtain⟨k,n,l⟩:=t;rw[qnd _ _ hsh];have hsh':=hsh;simp only[qav,bA0,dE0,Bool.or_eq_true,beq_iff_eq]at hsh';obtain⟨⟨⟨⟨hn,_⟩,hk12⟩,_⟩,_⟩:=hsh';by_cases hk:k=1
   · have:¬n< ((([]:IL).length:Nat):Int):=by simp;omega
     simp[topV,hk,sortR]
   · have hk2:k=2:=hk12.resolve_left hk;subst hk2;cases ho:s.ops[n.toNat]? with
     |none=>simp[topV,ho,sortR]
     |some o=>
       have h0:=(hs.ops _ (mG0 ho)).2.1.1;simp[topV,ho,sortR,hsh,h0]
include hT in
theorem sortX_ev(hs:GOk s)(E87:∀h,Ev T 87 [qaf s] h (ba (.int .i64 0) h)){t:Tm}{p:PV}(ht:Enc t p)(h:Hp):
 Ev T 45 [qaf s,.sn,p] h (ba (.tuple [.int .i64 (qiy s t).1,.int .i64 (qiy s t).2]) h):=by
 rw[←sortV_nil hs t];exact qov hT hs E87 (zv:=0) (mv:=.nil) (.inl rfl) (by simp) (by simp) (by have:=hs.nS;omega) ht h
end Go.Proofs.Tryz
namespace Go.Proofs.Tryz
open Go Go.AE
variable {T:Tbl}(hT:Std T){s:GSig}
mutual
theorem Enc.inj:∀{t t':Tm}{p:PV},Enc t p→Enc t' p→t=t'
 |.mk k n l,t',p,h,h'=>by obtain⟨k1,n1,l1,sz,es,e1,rfl,_,hE⟩:=h.eq;cases e1;obtain⟨k2,n2,l2,sz2,es2,rfl,e2,_,hE2⟩:=h'.eq;simp only[PV.agg.injEq,List.cons.injEq,PV.int.injEq,PV.slice.injEq,true_and,and_true]at e2;obtain⟨rfl,rfl,_,rfl⟩:=e2;rw[qlb hE hE2]
theorem qlb:∀{l l':Ts}{es:PL},EncL l es→EncL l' es→l=l'
 |[],l',es,h,h'=>by
   exact(lZ0.1 (h'.1.symm.trans h.1)).symm
 |t::l,l',es,h,h'=>by
   have h1:=h.1;cases es with
   |nil=>simp at h1
   |cons e es=>
     have h2:=h'.1;cases l' with
     |nil=>simp at h2
     |cons t' l'=>
       have a:=Enc.inj (h.2 0 t e rfl rfl) (h'.2 0 t' e rfl rfl);have b:=qlb (l:=l) (l':=l') (es:=es) ⟨by simpa using h1,fun i x p hx hp=>h.2 (i+1) x p hx hp⟩ ⟨by simpa using h2,fun i x p hx hp=>h'.2 (i+1) x p hx hp⟩;rw[a,b]
end
structure DomV (H:Hp)(dv:PV)(dom:LT)(vs:PL)(vss:List (PL)):Prop where
 top:Rds H dv 1 vs
 l1:vs.length=dom.length
 l2:vss.length=dom.length
 row:∀(i:Nat)(v:PV)(es:PL),vs[i]?=some v→vss[i]?=some es→Rds H v 3 es
 enc:∀(i:Nat)(l:Ts)(es:PL),dom[i]?=some l→vss[i]?=some es→EncL l es
 cell:∀v∈vs,AE.sub false 1 v 0=some v
theorem DomV.low{h H:Hp}{dv:PV}{dom:LT}{vs:PL}{vss:List (PL)}(D:DomV h dv dom vs vss)(L:Low h.length h H):DomV H dv dom vs vss:=⟨D.top.low L,D.l1,D.l2,fun i v es h1 h2=>(D.row i v es h1 h2).low L,D.enc,D.cell⟩
def SOk(s:GSig)(i:Nat)(x:Tm):Prop:=(qiy s x).2=0∧(qiy s x).1=(i:Int)
def ItemOk(s:GSig)(i:Nat)(l:Ts)(k:Nat):Prop:=∀x,l[k]?=some x→SOk s i x∧∀y,0<k→l[k - 1]?=some y→tmC y x<0
def RowOk(s:GSig)(i:Nat)(l:Ts):Prop:=l.length≤64∧∀k,ItemOk s i l k
def Dom1(s:GSig)(dom:LT):Prop:=dom.length=s.sorts.length∧∀i l,dom[i]?=some l→RowOk s i l
def OkX(nv:PV→PV×Int)(dom:LT)(vss:List (PL))(i k:Nat):Prop:=∀l es x X,dom[i]?=some l→vss[i]?=some es→l[k]?=some x→es[k]?=some X→(nv X).2=0→Enc x (nv X).1
def ZX(nv:PV→PV×Int)(vss:List (PL))(i k:Nat):Prop:=∀es X,vss[i]?=some es→es[k]?=some X→(nv X).2=0
structure DomR (s:GSig)(nv:PV→PV×Int)(dom:LT)(vss:List (PL))(r:Int):Prop where
 c:r=0∨r=2∨r=90
 no:r=90→¬(Dom1 s dom∧∀i k,OkX nv dom vss i k)
 yes:r≠90→Dom1 s dom∧∀i k,OkX nv dom vss i k
 z:r=0→∀i k,ZX nv vss i k
 nz:r=2→∃i k,¬ZX nv vss i k
def NVal(T:Tbl)(t:GTy)(nv:PV→PV×Int):Prop:=∀(u:Tm)(X:PV),Enc u X→qtr (nv X)∧∀h,Ev T 50 [qai t,X] h (ba (.tuple [(nv X).1,iv0 (nv X).2]) h)
theorem SOk.tree{i:Nat}{x:Tm}(h:SOk s i x):qa1 x=true:=by
 have h1:=h.1;unfold qiy at h1;split at h1
 ·assumption
 ·cases h1
theorem DomR.err{nv:PV→PV×Int}{dom:LT}{vss:List (PL)}(h:¬(Dom1 s dom∧∀i k,OkX nv dom vss i k)):DomR s nv dom vss 90:=⟨.inr (.inr rfl),fun _=>h,fun h=>absurd rfl h,(fun h=>by cases h),(fun h=>by cases h)⟩
theorem qtr.facts{x:PV×Int}(h:qtr x):x.1.cells.length=3∧x.1.cells.all PV.isCell=true∧(∃cs,x.1=.agg cs)∧x.1.top=none∧x.1.pure=true∧x.1.weak=x.1∧AE.sub true 3 x.1 0=some x.1:=by
 rcases h with⟨_,w,hw,_⟩|⟨_,h⟩
 · obtain⟨y1,y2,y3,y4⟩:=hw.cells;exact⟨y1,y2,y4,hw.facts.1,hw.facts.2.1,hw.facts.2.2,hw.sub⟩
 ·rw[h];exact⟨rfl,rfl,⟨_,rfl⟩,rfl,rfl,rfl,rfl⟩
set_option maxRecDepth 4000 in
include hT in
theorem domain_ev{t:GTy}(I:TyIn T t 0){nv:PV→PV×Int}(N:NVal T t nv){h:Hp}{dv:PV}{dom:LT}{vs:PL}{vss:List (PL)}(D:DomV h dv dom vs vss)(hd:dom.length<100000):
 ∃r:Int,Ev T 104 [qai t,dv] h (ba (iv0 r) h)∧DomR t.sig nv dom vss r:=by
 refine hT.wp (r:=fun r:Int=>(ba (iv0 r) h)) fn104 (by decide) ?_;have k1:=gC0 (l:=h) (a:=AE.Obj.row 3 [qai t]);have low1:Low h.length h (h++[AE.Obj.row 3 [qai t]]):=(Low.refl _ _).push (nR0 _);have hl1:(h++[AE.Obj.row 3 [qai t]]).length=h.length+1:=by simp
 generalize hH1:h++[AE.Obj.row 3 [qai t]]=H1 at*;have ls:loadAt false 1 (.pb h.length) H1=some (.slice 1 (t.sig.sorts.map .str) .any):=by rw[qad k1];rfl
 have hlv:lenOf dv=some dom.length:=by rw[D.top.len,D.l1]
 have td:∀(H:Hp)(ws:NL)(r:Int),Low h.length h H→(∀x∈ws,h.length≤x)→tidy 0 h.length (.val (iv0 r)) ⟨H,ws,[]⟩=(ba (iv0 r) h):=fun H ws r L hw=>qan rfl rfl L hw;by_cases hlen:dom.length=t.sig.sorts.length;rotate_left
 · have hb:((dom.length:Int) !=(t.sig.sorts.length:Int))=true:=by simp;omega
   simp(disch:=omega) only[go_sem,hH1,qbx,qby,lM0,ls,hlv,hb,td H1 [] 90 low1 (by simp)];exact⟨90,rfl,.err fun h=>hlen h.1.1⟩
 have hb:((dom.length:Int) !=(t.sig.sorts.length:Int))=false:=by simp;omega
 simp(disch:=omega) only[go_sem,hH1,qbx,qby,lM0,ls,hlv,hb]
 refine wpC.loopM (fun g e st=> ∃(i:Nat)(H:Hp)(ws:NL),i+g=dom.length∧Low h.length h H∧H[h.length]?=some (.row 3 [qai t])∧(∀x∈ws,h.length≤x)∧(∀j,j<i→∀l,dom[j]?=some l→RowOk t.sig j l)∧(eget e 1=dv∧eget e 2=.pb h.length∧eget e 25=dv∧eget e 26=iv0 (dom.length:Int)∧eget e 27=iv0 (i:Int))∧st=⟨H,ws,[]⟩) ?_ dom.length _ _
  ⟨0,H1,[],by omega,low1,k1,by simp,fun j hj=>by omega,by simp only[go_sem,zN0],rfl⟩
 rintro g e st ⟨i,H,ws,hi,low,kt,hw,hrow,⟨e1,e2,e25,e26,e27⟩,rfl⟩;have hHl:=low.len;by_cases h1:i<dom.length
 · have h1':(i:Int)< (dom.length:Int):=by omega
   have gl:dom[i]?=some dom[i]:=gE0 h1;have gv:vs[i]?=some (vs[i]'(by rw[D.l1];exact h1)):=gE0 _;have ge:vss[i]?=some (vss[i]'(by rw[D.l2];exact h1)):=gE0 _;generalize dom[i]=l at*;generalize vs[i]'(by rw[D.l1];exact h1)=v at*;generalize vss[i]'(by rw[D.l2];exact h1)=es at*;have Rv:=D.row i v es gv ge;have hE:=D.enc i l es gl ge;have hel:=hE.1;have cv:=D.cell v (mG0 gv);obtain⟨p,ip,lp⟩:=D.top.idx gv;have lp1:=lp H false 1 low;rw[cv]at lp1;have hle:lenOf v=some l.length:=by rw[Rv.len,hel]
   by_cases h64:64<l.length
   · have h64':(64:Int)< (l.length:Int):=by omega
     simp(disch:=omega) only[go_sem,a104b1,e25,e26,e27,h1',ip,lp1,hle,h64',td H ws 90 low hw];exact⟨90,rfl,.err fun h=>by have:=(h.1.2 i l gl).1;omega⟩
   have h64':¬(64:Int)< (l.length:Int):=by omega
   simp(disch:=omega) only[go_sem,a104b1,e25,e26,e27,h1',ip,lp1,hle,h64']
   refine wpC.loopM (fun g e st=> ∃(k:Nat)(H:Hp)(ws:NL),k+g=l.length∧Low h.length h H∧H[h.length]?=some (.row 3 [qai t])∧(∀x∈ws,h.length≤x)∧(∀j,j<k→ItemOk t.sig i l j)∧(eget e 1=dv∧eget e 2=.pb h.length∧eget e 5=iv0 (i:Int)∧eget e 6=v∧eget e 25=dv∧eget e 26=iv0 (dom.length:Int)∧eget e 27=iv0 (i:Int)∧eget e 35=v∧eget e 36=iv0 (l.length:Int)∧eget e 37=iv0 (k:Int))∧st=⟨H,ws,[]⟩) ?_ l.length _ _
    ⟨0,H,ws,by omega,low,kt,hw,fun j hj=>by omega,by simp only[go_sem,e1,e2,e25,e26,e27,zN0],rfl⟩
   clear low kt hw e1 e2 e25 e26 e27 lp1 hHl;rintro g' e st ⟨k,H,ws,hk,low,kt,hw,hit,⟨e1,e2,e5,e6,e25,e26,e27,e35,e36,e37⟩,rfl⟩;have hHl:=low.len;by_cases h2:k<l.length
   · have h2':(k:Int)< (l.length:Int):=by omega
     have gx:l[k]?=some l[k]:=gE0 h2;have gX:es[k]?=some (es[k]'(by omega)):=gE0 _;have hX:=hE.2 k _ _ gx gX;generalize hx0:l[k]=x at*;generalize hX0:es[k]'(by omega)=X at*;obtain⟨px,ipx,lpx⟩:=Rv.idx gX;have lx1:=lpx H true 3 low;rw[hX.sub]at lx1;obtain⟨b1,b2,_,b4⟩:=hX.cells;have sb:=qa5 (h:=H) (ws:=ws) (ups:=[]) (z:=zq3) (sz:=3) (c:=X) b1 rfl b2 hX.facts.1 ⟨_,rfl⟩ b4;have kX:=gC0 (l:=H) (a:=AE.Obj.row 3 [X]);have kt5:=qah (o2:=AE.Obj.row 3 [X]) kt;have low5:=low.push (o:=AE.Obj.row 3 [X]) hHl;have hw5:∀y∈wadd H.length ws,h.length≤y:=qae hHl hw;generalize hH5:H++[AE.Obj.row 3 [X]]=H5 at*;generalize hk8:H.length=k8 at*;have lg:loadAt true 2 (.pb h.length) H5=some (qaf t.sig):=by rw[qad kt5];rfl
     have lX:loadAt true 3 (.pb k8) H5=some X:=by rw[qad kX];exact hX.sub
     have evs:=sortX_ev hT (I.G rfl) (I.E87 rfl) hX H5;by_cases he:(qiy t.sig x).2=0;rotate_left
     · have hb:((qiy t.sig x).2 !=0)=true:=by simpa using he
       simp(disch:=first|omega|decide|simp only[go_sem]) only[go_sem,qmu,e2,e35,e36,e37,h2',ipx,lx1,hk8,sb,lg,lX,cb evs,hb,hT.q,td H5 _ 90 low5 hw5];exact⟨90,rfl,.err fun h=>he ((h.1.2 i l gl).2 k x gx).1.1⟩
     have hb:((qiy t.sig x).2 !=0)=false:=by simpa using he
     by_cases hs:(qiy t.sig x).1=(i:Int);rotate_left
     · have hb2:((qiy t.sig x).1 !=(i:Int))=true:=by simpa using hs
       simp(disch:=first|omega|decide|simp only[go_sem]) only[go_sem,qmu,e2,e5,e35,e36,e37,h2',ipx,lx1,hk8,sb,lg,lX,cb evs,hb,hb2,hT.q,td H5 _ 90 low5 hw5];exact⟨90,rfl,.err fun h=>hs ((h.1.2 i l gl).2 k x gx).1.2⟩
     have hb2:((qiy t.sig x).1 !=(i:Int))=false:=by simpa using hs
     rcases Nat.eq_zero_or_pos k with rfl|hkp
     · have h0:¬(0:Int)< ((0:Nat):Int):=by decide
       simp(disch:=first|omega|decide|simp only[go_sem]) only[go_sem,qmu,e1,e2,e5,e6,e25,e26,e27,e35,e36,e37,h2',h0,ipx,lx1,hk8,sb,lg,lX,cb evs,hb,hb2,hT.q];refine⟨g' - 1,by omega,0+1,_,_,by omega,low5,kt5,hw5,fun j hj=>?_,rfl,rfl⟩;have:j=0:=by omega
       subst this;intro x' hx';rw[gx]at hx';cases hx';exact⟨⟨he,hs⟩,fun y hy=>by omega⟩
     · obtain⟨k',rfl⟩:∃k',k=k'+1:=⟨k - 1,by omega⟩;have h0:(0:Int)< ((k'+1:Nat):Int):=by omega
       have hkm:((k'+1:Nat):Int) - 1=(k':Int):=by omega
       have gy:l[k']?=some (l[k']'(by omega)):=gE0 _;have gY:es[k']?=some (es[k']'(by omega)):=gE0 _;have hY:=hE.2 k' _ _ gy gY;have hyOk:=(hit k' (by omega) _ gy).1;generalize l[k']'(by omega)=y at*;generalize es[k']'(by omega)=Y at*;obtain⟨py,ipy,lpy⟩:=Rv.idx gY;have ly1:=lpy H5 true 3 low5;rw[hY.sub]at ly1;have evc:=compare_ev hT hY (by have:=qbi hyOk.tree;omega) x X hX H5;by_cases hc:0≤tmC y x
       · simp(disch:=first|omega|decide|simp only[go_sem]) only[go_sem,qmu,e2,e5,e6,e35,e36,e37,h2',h0,hkm,ipx,lx1,hk8,sb,lg,lX,cb evs,hb,hb2,ipy,ly1,cb evc,hc,hT.q,td H5 _ 90 low5 hw5];exact⟨90,rfl,.err fun h=>by have:=((h.1.2 i l gl).2 (k'+1) x gx).2 y (by omega) gy;omega⟩
       · simp(disch:=first|omega|decide|simp only[go_sem]) only[go_sem,qmu,e1,e2,e5,e6,e25,e26,e27,e35,e36,e37,h2',h0,hkm,ipx,lx1,hk8,sb,lg,lX,cb evs,hb,hb2,ipy,ly1,cb evc,hc,hT.q];refine⟨g' - 1,by omega,k'+1+1,_,_,by omega,low5,kt5,hw5,fun j hj=>?_,rfl,rfl⟩;by_cases hjk:j=k'+1
         · subst hjk;intro x' hx';rw[gx]at hx';cases hx';exact⟨⟨he,hs⟩,fun y' _ hy'=>by rw[Nat.add_sub_cancel,gy]at hy';cases hy';omega⟩
         ·grind
   · have h2':¬(k:Int)< (l.length:Int):=by omega
     simp(disch:=first|omega|decide|simp only[go_sem]) only[go_sem,qmu,e1,e2,e25,e26,e27,e36,e37,h2'];refine⟨g - 1,by omega,i+1,_,_,by omega,low,kt,hw,fun j hj=>?_,rfl,rfl⟩;by_cases hji:j=i
     · subst hji;intro l' hl';rw[gl]at hl';cases hl';refine⟨by omega,fun q=>?_⟩;by_cases hq:q<l.length
       ·grind
       · intro x hx;rw[List.getElem?_eq_none (by omega)]at hx;cases hx
     ·grind
 · have h1':¬(i:Int)< (dom.length:Int):=by omega
   have D1:Dom1 t.sig dom:=⟨hlen,fun j l hj=>hrow j (by have:=(gI0.1 hj).1;omega) l hj⟩;clear hrow;simp(disch:=first|omega|decide|simp only[go_sem]) only[go_sem,a104b1,e1,e26,e27,h1',hlv]
   refine wpC.loopM (fun g e st=> ∃(i:Nat)(H:Hp)(ws:NL)(o:Int),i+g=dom.length∧Low h.length h H∧H[h.length]?=some (.row 3 [qai t])∧(∀x∈ws,h.length≤x)∧(o=0∨o=2)∧(o=0→∀j,j<i→∀k,ZX nv vss j k)∧(o=2→∃j k,¬ZX nv vss j k)∧(∀j,j<i→∀k,OkX nv dom vss j k)∧(eget e 2=.pb h.length∧eget e 11=iv0 o∧eget e 72=dv∧eget e 73=iv0 (dom.length:Int)∧eget e 74=iv0 (i:Int))∧st=⟨H,ws,[]⟩) ?_ dom.length _ _
    ⟨0,H,ws,0,by omega,low,kt,hw,.inl rfl,(fun _ j hj=>by omega),(fun h=>by cases h),(fun j hj=>by omega),by simp only[go_sem,e2,zN0],rfl⟩
   clear low kt hw e1 e2 e25 e26 e27 hHl h1 h1' hi;rintro g e st ⟨i,H,ws,o,hi,low,kt,hw,ho,hz0,hz2,hok,⟨e2,e11,e72,e73,e74⟩,rfl⟩;have hHl:=low.len;by_cases h1:i<dom.length
   · have h1':(i:Int)< (dom.length:Int):=by omega
     have gl:dom[i]?=some dom[i]:=gE0 h1;have gv:vs[i]?=some (vs[i]'(by rw[D.l1];exact h1)):=gE0 _;have ge:vss[i]?=some (vss[i]'(by rw[D.l2];exact h1)):=gE0 _;generalize dom[i]=l at*;generalize vs[i]'(by rw[D.l1];exact h1)=v at*;generalize vss[i]'(by rw[D.l2];exact h1)=es at*;have Rv:=D.row i v es gv ge;have hE:=D.enc i l es gl ge;have hel:=hE.1;have cv:=D.cell v (mG0 gv);obtain⟨p,ip,lp⟩:=D.top.idx gv;have lp1:=lp H false 1 low;rw[cv]at lp1;have hle:lenOf v=some l.length:=by rw[Rv.len,hel]
     obtain⟨h64,hItm⟩:=D1.2 i l gl;simp(disch:=first|omega|decide|simp only[go_sem]) only[go_sem,a104b3,e72,e73,e74,h1',ip,lp1,hle]
     refine wpC.loopM (fun g e st=> ∃(k:Nat)(H:Hp)(ws:NL)(o:Int),k+g=l.length∧Low h.length h H∧H[h.length]?=some (.row 3 [qai t])∧(∀x∈ws,h.length≤x)∧(o=0∨o=2)∧(o=0→(∀j,j<i→∀k,ZX nv vss j k)∧∀q,q<k→ZX nv vss i q)∧(o=2→∃j k,¬ZX nv vss j k)∧(∀q,q<k→OkX nv dom vss i q)∧(eget e 2=.pb h.length∧eget e 11=iv0 o∧eget e 72=dv∧eget e 73=iv0 (dom.length:Int)∧eget e 74=iv0 (i:Int)∧eget e 78=v∧eget e 79=iv0 (l.length:Int)∧eget e 80=iv0 (k:Int))∧st=⟨H,ws,[]⟩) ?_ l.length _ _
      ⟨0,H,ws,o,by omega,low,kt,hw,ho,fun h=>⟨hz0 h,fun q hq=>by omega⟩,hz2,fun q hq=>by omega,by simp only[go_sem,e2,e11,e72,e73,e74,zN0],rfl⟩
     clear low kt hw e2 e11 e72 e73 e74 lp1 hHl ho hz0 hz2;rintro g' e st ⟨k,H,ws,o,hk,low,kt,hw,ho,hz0,hz2,hokk,⟨e2,e11,e72,e73,e74,e78,e79,e80⟩,rfl⟩;have hHl:=low.len;by_cases h2:k<l.length
     · have h2':(k:Int)< (l.length:Int):=by omega
       have gx:l[k]?=some l[k]:=gE0 h2;have gX:es[k]?=some (es[k]'(by omega)):=gE0 _;have hX:=hE.2 k _ _ gx gX;have hSO:=(hItm k _ gx).1;generalize l[k]=x at*;generalize es[k]'(by omega)=X at*;obtain⟨px,ipx,lpx⟩:=Rv.idx gX;have lx1:=lpx H true 3 low;rw[hX.sub]at lx1;obtain⟨b1,b2,_,b4⟩:=hX.cells;have sb:=qa5 (h:=H) (ws:=ws) (ups:=[]) (z:=zq3) (sz:=3) (c:=X) b1 rfl b2 hX.facts.1 ⟨_,rfl⟩ b4;have kX:=gC0 (l:=H) (a:=AE.Obj.row 3 [X]);have kt5:=qah (o2:=AE.Obj.row 3 [X]) kt;have low5:=low.push (o:=AE.Obj.row 3 [X]) hHl;have hw5:∀y∈wadd H.length ws,h.length≤y:=qae hHl hw;have hl5:(H++[AE.Obj.row 3 [X]]).length=H.length+1:=by simp
       generalize hH5:H++[AE.Obj.row 3 [X]]=H5 at*;generalize hk15:H.length=k15 at*;have lt5:loadAt true 3 (.pb h.length) H5=some (qai t):=by rw[qad kt5];rfl
       have lX:loadAt true 3 (.pb k15) H5=some X:=by rw[qad kX];exact hX.sub
       obtain⟨hNX,evn⟩:=N x X hX;have evn:=evn H5;obtain⟨q1,q2,q4,q5,q6,q7,q8⟩:=hNX.facts
       have hzk:∀{o':Int},((nv X).2=0∧o'=o)∨((nv X).2≠0∧o'=2)→(o'=0→(∀j,j<i→∀k,ZX nv vss j k)∧∀q,q<k+1→ZX nv vss i q)∧(o'=2→∃j k,¬ZX nv vss j k):=fun{o'} hc=>by
        rcases hc with⟨h0,rfl⟩|⟨h0,rfl⟩
        · refine⟨fun h=>⟨(hz0 h).1,fun q hq=>?_⟩,hz2⟩;by_cases hqk:q=k
          · subst hqk;intro es' X' he hX';rw[ge]at he;cases he;rw[gX]at hX';cases hX';exact h0
          ·grind
        ·exact⟨fun h=>by omega,fun _=>⟨i,k,fun hz=>h0 (hz es X ge gX)⟩⟩
       have hoX:((nv X).2=0→Enc x (nv X).1)→∀q,q<k+1→OkX nv dom vss i q:=fun hx q hq=>by
        by_cases hqk:q=k
        · subst hqk;intro l' es' x' X' h1 h2 h3 h4 h5;rw[gl]at h1;cases h1;rw[ge]at h2;cases h2;rw[gx]at h3;cases h3;rw[gX]at h4;cases h4;exact hx h5
        ·grind
       have hno:¬((nv X).2=0→Enc x (nv X).1)→¬(Dom1 t.sig dom∧∀i k,OkX nv dom vss i k):=fun hn h=>hn fun h0=>h.2 i k l es x X gl ge gx gX h0;generalize hq0:(nv X).1=Q at*;generalize he0:(nv X).2=er at*;have sb2:=fun ws=>qa5 (h:=H5) (ws:=ws) (ups:=[]) (z:=zq3) (sz:=3) (c:=Q) q1 rfl q2 q5 ⟨_,rfl⟩ q4;have kQ:=gC0 (l:=H5) (a:=AE.Obj.row 3 [Q]);have kX6:=qah (o2:=AE.Obj.row 3 [Q]) kX;have kt6:=qah (o2:=AE.Obj.row 3 [Q]) kt5;have low6:=low5.push (o:=AE.Obj.row 3 [Q]) (by omega);have hw6:∀y∈wadd H5.length (wadd k15 ws),h.length≤y:=qae (by omega) hw5;generalize hH6:H5++[AE.Obj.row 3 [Q]]=H6 at*;generalize hk16:H5.length=k16 at*;by_cases her:er=0
       · have hb:(er !=0)=false:=by simpa using her
         obtain⟨u,hu,hut⟩:∃u,Enc u Q∧qa1 u=true:=by
          rcases hNX with⟨_,u,hu,hut⟩|⟨h,_⟩
          ·grind
          ·omega
         have lQ:loadAt true 3 (.pb k16) H6=some Q:=by rw[qad kQ];exact q8
         have lX6:loadAt true 3 (.pb k15) H6=some X:=by rw[qad kX6];exact hX.sub
         have evs:=qfm hT hX u Q hu (by have:=qbi hSO.tree;omega) H6;cases htm:tmB x u
         · rw[htm]at evs;simp(disch:=first|omega|decide|simp only[go_sem]) only[go_sem,qr5,e2,e78,e79,e80,h2',ipx,lx1,hk15,sb,lt5,lX,cb evn,hk16,sb2,hb,lX6,lQ,cb evs,Bool.not_false,hT.q,td H6 _ 90 low6 hw6];refine⟨90,rfl,.err (hno fun h=>?_)⟩;have:=(qgb x u).2 ((h her).inj hu);rw[htm]at this;cases this
         · rw[htm]at evs;have hxu:=(qgb x u).1 htm;subst hxu;obtain⟨z1,z2⟩:=hzk (o':=o) (.inl ⟨her,rfl⟩);simp(disch:=first|omega|decide|simp only[go_sem]) only[go_sem,qr5,e2,e11,e72,e73,e74,e78,e79,e80,h2',ipx,lx1,hk15,sb,lt5,lX,cb evn,hk16,sb2,hb,lX6,lQ,cb evs,Bool.not_true,hT.q];exact⟨g' - 1,by omega,k+1,_,_,o,by omega,low6,kt6,hw6,ho,z1,z2,hoX fun _=>hu,⟨rfl,rfl⟩,rfl⟩
       · have hb:(er !=0)=true:=by simpa using her
         obtain⟨z1,z2⟩:=hzk (o':=2) (.inr ⟨her,rfl⟩);simp(disch:=first|omega|decide|simp only[go_sem]) only[go_sem,qr5,e2,e72,e73,e74,e78,e79,e80,h2',ipx,lx1,hk15,sb,lt5,lX,cb evn,hk16,sb2,hb,hT.q];exact⟨g' - 1,by omega,k+1,_,_,2,by omega,low6,kt6,hw6,.inr rfl,z1,z2,hoX fun h=>absurd h her,⟨rfl,rfl⟩,rfl⟩
     · have h2':¬(k:Int)< (l.length:Int):=by omega
       simp(disch:=first|omega|decide|simp only[go_sem]) only[go_sem,qr5,e2,e11,e72,e73,e74,e79,e80,h2'];refine⟨g - 1,by omega,i+1,_,_,o,by omega,low,kt,hw,ho,fun h j hj q=>?_,hz2,fun j hj q=>?_,⟨rfl,rfl⟩,rfl⟩
       · by_cases hji:j=i
         · subst hji;by_cases hq:q<l.length
           ·grind
           · intro es' X he hX;rw[ge]at he;cases he;rw[List.getElem?_eq_none (by omega)]at hX;cases hX
         ·grind
       · by_cases hji:j=i
         · subst hji;by_cases hq:q<l.length
           ·grind
           · intro l' es' x X h1 h2 h3;rw[gl]at h1;cases h1;rw[List.getElem?_eq_none (by omega)]at h3;cases h3
         ·grind
   · have h1':¬(i:Int)< (dom.length:Int):=by omega
     simp(disch:=first|omega|decide|simp only[go_sem]) only[go_sem,a104b3,e11,e73,e74,h1',td H ws o low hw]
     have all:∀j k,OkX nv dom vss j k:=fun j k=>by
      by_cases hj:j<i
      ·grind
      · intro l es x X h1;rw[List.getElem?_eq_none (by omega)]at h1;cases h1
     refine⟨o,rfl,by omega,fun h=>by omega,fun _=>⟨D1,all⟩,fun h j k=>?_,hz2⟩;by_cases hj:j<i
     ·grind
     · intro es X he;rw[List.getElem?_eq_none (by rw[D.l2];omega)]at he;cases he
end Go.Proofs.Tryz
namespace Go.Proofs.Tryz
open Go Go.AE
open Go.AE.Obj (row)
variable {T:Tbl}(hT:Std T)
def lRow(x:Int):AE.Obj:=.row 1 [iv0 x]
def fRow(kl kw:Nat):AE.Obj:=.row 1 [.func (.func 84) [] [.pb kl,.pb kw]]
theorem st1_0{H:Hp}{ws:NL}{ups:UL}{k:Nat}{x v:Int}(hk:H[k]?=some (lRow x)):
 storeAt 1 (.pb k) (iv0 v) ⟨H,ws,ups⟩=some ⟨H.set k (lRow v),wadd k ws,ups⟩:=by
 unfold lRow at*;have hu:upd (iv0 x) 0 (iv0 v)=some (iv0 v):=rfl;simp only[storeAt,hk,ll0,PV.cells,List.all_cons,List.all_nil,PV.isCell,Bool.and_self,and_self,if_true,List.getElem?_cons_zero,hu,Option.map,sC0,PV.top,qau]
def FewR(T:Tbl)(f:FuncId)(args:PL)(H:Hp)(kl:Nat)(lf:Int)(nd:Nat)(neg:Bool):Prop:=∃x:Bool×Int×NL,Ev T f args H (.val (.bool (neg ^^x.1)),⟨H.set kl (lRow x.2.1),x.2.2,[]⟩)∧(-1≤x.2.1∧x.2.1<lf)∧(x.1=true→0≤x.2.1∧x.2.1+nd=lf)∧∀y∈x.2.2,y=kl
include hT in
theorem index135_w{g:FuncId}{cap:PL}{H0:Hp}{kl:Nat}{left0:Int}(hg:T.prim g=none)(hk:H0[kl]?=some (lRow left0))(h0:0≤left0∧left0≤1000){l:Ts}{sz:Nat}{es:PL}{m:SM}(hs:es=[]∨sz=3)(hl:es.length=l.length)(he:∀(i:Nat)(x:Tm)(p:PV),l[i]?=some x→es[i]?=some p→Enc x p)
 (hf:∀(i:Nat)(x:Tm)(p:PV),l[i]?=some x→es[i]?=some p→∀lf,0≤lf→lf≤left0→FewR T g (p::cap) (H0.set kl (lRow lf)) kl lf x.nodes true):
 ∃r:Int×Int×NL,Ev T 135 [.slice sz es m,.func (.func g) [] cap] H0 (.val (iv0 r.1),⟨H0.set kl (lRow r.2.1),r.2.2,[]⟩)∧(-1≤r.2.1∧r.2.1≤left0)∧(¬0≤r.1→0≤r.2.1∧r.2.1+qba l=left0)∧∀y∈r.2.2,y=kl:=by
 refine hT.wp (r:=fun(r:Int×Int×NL)=>(.val (iv0 r.1),⟨H0.set kl (lRow r.2.1),r.2.2,[]⟩)) fn135 (by decide) ?_;simp(disch:=omega) only[go_sem];have hH0:(⟨H0,[],[]⟩:St)=⟨H0.set kl (lRow left0),[],[]⟩:=by rw[qhn hk]
 rw[hH0];refine wpC.loopM (fun n e s=> ∃(i:Nat)(lf:Int)(ws:NL),i+n=es.length∧eget e 0=.slice sz es m∧eget e 1=.func (.func g) [] cap∧eget e 7=iv0 (es.length:Int)∧eget e 8=iv0 (i:Int)∧0≤lf∧lf+qba (l.take i)=left0∧(∀y∈ws,y=kl)∧s=⟨H0.set kl (lRow lf),ws,[]⟩) ?_ es.length _ _ ⟨0,left0,[],by simp,by simp only[go_sem],by simp only[go_sem],by simp only[go_sem],by simp only[go_sem];rfl,h0.1,by simp[qba],by simp,rfl⟩;rintro n e s ⟨i,lf,ws,hi,e0,e1,e7,e8,hlf,hsum,hw,rfl⟩;have M:∀z,Mod H0 (H0.set kl (lRow z)) kl (lRow z):=fun z=>(Mod.refl hk).put;have W0:∀ws:NL,(∀y∈ws,y=kl)→okWs H0 kl ws:=fun ws h x hx=>.inl (h x hx);by_cases h1:i<es.length
 · have ga:=qbt h1;have hx:l[i]?=some l[i]:=gE0 (by omega);have hE:=he i l[i] es[i] hx ga;have hlen:=qcd (l.take i);rw[lT0]at hlen;obtain⟨⟨b,lf',ws'⟩,ev,hb1,hb2,hb3⟩:=hf i l[i] es[i] hx ga lf hlf (by omega);have htk:=ql1 hx;have bs:=hE.sub;have hsz:sz=3:=by grind
   subst hsz;simp only[List.set_set,Bool.true_xor]at ev hb1 hb2 hb3
   have hww:∀y∈wall ws' ws,y=kl:=fun y hy=>by
    rcases qat hy with h|h
    ·exact hb3 y h
    ·exact hw y h
   cases b
   · obtain⟨wz,t1,t2⟩:=qbo (v:=iv0 (i:Int)) rfl (M lf') (W0 _ hww);simp(disch:=omega) only[go_sem,qjl,e0,e1,e7,e8,h1,ga,bs,hg,cb ev,Bool.not_false,t1];exact⟨((i:Int),lf',wz),rfl,⟨hb1.1,by dsimp only;omega⟩,fun h=>absurd (by dsimp only;omega) h,t2⟩
   · obtain⟨q1,q2⟩:=hb2 rfl;simp(disch:=omega) only[go_sem,qjl,e0,e1,e7,e8,h1,ga,bs,hg,cb ev,Bool.not_true];exact⟨n - 1,by omega,i+1,lf',wall ws' ws,by omega,rfl,q1,by omega,hww,rfl⟩
 · obtain⟨wz,t1,t2⟩:=qbo (v:=iv0 (-1)) rfl (M lf) (W0 _ hw);have hil:i=l.length:=by omega
   subst hil;rw[List.take_length]at hsum;simp(disch:=omega) only[go_sem,qjl,e7,e8,h1,t1];exact⟨(-1,lf,wz),rfl,⟨by dsimp only;omega,by dsimp only;omega⟩,fun _=>⟨hlf,hsum⟩,t2⟩
include hT in
theorem qkr{g:FuncId}{cap:PL}{H0:Hp}{kl:Nat}{left0:Int}(hg:T.prim g=none)(hk:H0[kl]?=some (lRow left0))(h0:0≤left0∧left0≤1000){l:Ts}{sz:Nat}{es:PL}{m:SM}(hs:es=[]∨sz=3)(hl:es.length=l.length)(he:∀(i:Nat)(x:Tm)(p:PV),l[i]?=some x→es[i]?=some p→Enc x p)
 (hf:∀(i:Nat)(x:Tm)(p:PV),l[i]?=some x→es[i]?=some p→∀lf,0≤lf→lf≤left0→FewR T g (p::cap) (H0.set kl (lRow lf)) kl lf x.nodes true):
 ∃r:Bool×Int×NL,Ev T 48 [.slice sz es m,.func (.func g) [] cap] H0 (.val (.bool r.1),⟨H0.set kl (lRow r.2.1),r.2.2,[]⟩)∧(-1≤r.2.1∧r.2.1≤left0)∧(r.1=false→0≤r.2.1∧r.2.1+qba l=left0)∧∀y∈r.2.2,y=kl:=by
 obtain⟨⟨r,lf,ws⟩,ev,h1,h2,h3⟩:=index135_w hT (m:=m) hg hk h0 hs hl he hf;refine hT.wp (r:=fun(r:Bool×Int×NL)=>(.val (.bool r.1),⟨H0.set kl (lRow r.2.1),r.2.2,[]⟩)) fn48 (by decide) ?_
 obtain⟨wz,t1,t2⟩:=qbo (v:=.bool (decide (0≤r))) (ws:=wall ws []) rfl ((Mod.refl hk).put (o':=lRow lf)) (fun x hx=>.inl (by
  rcases qat hx with h|h
  ·exact h3 x h
  ·cases h))
 simp(disch:=omega) only[go_sem,cb ev,hT.prim,qab,t1];exact⟨(decide (0≤r),lf,wz),rfl,h1,fun h=>h2 (by simpa using h),t2⟩
theorem ld_l{H:Hp}{k:Nat}{x:Int}(hk:H[k]?=some (lRow x)):loadAt false 1 (.pb k) H=some (.int .i64 x):=by rw[qad hk];rfl
theorem ld_f{H:Hp}{k kl kw:Nat}(hk:H[k]?=some (fRow kl kw)):loadAt false 1 (.pb k) H=some (.func (.func 84) [] [.pb kl,.pb kw]):=by rw[qad hk];rfl
include hT in
theorem few85{x:Tm}{p:PV}(hx:Enc x p){H:Hp}{kl kw kd:Nat}{lf deep:Int}(h1:H[kl]?=some (lRow lf))(h2:H[kw]?=some (fRow kl kw))(h3:H[kd]?=some (lRow deep))(hd:0≤deep∧deep<100)
 (E84:∀H',H'[kl]?=some (lRow lf)→H'[kw]?=some (fRow kl kw)→FewR T 84 [p,.int .i64 (deep+1),.pb kl,.pb kw] H' kl lf x.nodes false):FewR T 85 [p,.pb kw,.pb kd] H kl lf x.nodes true:=by
 refine hT.wp (r:=fun(x:Bool×Int×NL)=>(.val (.bool (true ^^x.1)),⟨H.set kl (lRow x.2.1),x.2.2,[]⟩)) fn85 (by decide) ?_;obtain⟨c1,_,c3,_⟩:=hx.cells;have hsub:=hx.sub;have M1:Mod H (H++[row 3 [p]]) kl (lRow lf):=(Mod.refl h1).push;have k1:=qah (o2:=row 3 [p]) h1;have k2:=qah (o2:=row 3 [p]) h2;have k3:=qah (o2:=row 3 [p]) h3;have k4:=gC0 (l:=H) (a:=row 3 [p]);generalize hH1:H++[row 3 [p]]=H1 at*;have lp:loadAt true 3 (.pb H.length) H1=some p:=by rw[qad k4];exact hsub
 obtain⟨⟨b,lf',ws⟩,ev,q1,q2,q3⟩:=E84 H1 k1 k2;simp only[Bool.false_xor]at ev q1 q2 q3
 obtain⟨wz,t1,t2⟩:=qbo (v:=.bool (!b)) (ws:=wall ws []) rfl (M1.put (o':=lRow lf')) (fun x hx=>.inl (by
  rcases qat hx with h|h
  ·exact q3 x h
  ·cases h))
 simp(disch:=omega) only[go_sem,hH1,c1,c3,ld_l k3,ld_f k2,lp,cb ev,hT.prim,qab,t1];exact⟨(b,lf',wz),by simp only[Bool.true_xor],q1,q2,t2⟩
include hT in
theorem few84{t:Tm}{p:PV}(ht:Enc t p):∀(H:Hp)(kl kw:Nat)(lf deep:Int),H[kl]?=some (lRow lf)→H[kw]?=some (fRow kl kw)→kl≠kw→0≤lf∧lf≤1000→0≤deep∧deep≤100→FewR T 84 [p,.int .i64 deep,.pb kl,.pb kw] H kl lf t.nodes false:=by
 have hc:=ht.cells;induction ht with
 |mk k n l sz es hs hl he ih=>
   intro H kl kw lf deep h1 h2 hne hlf hdp;refine hT.wp (r:=fun(x:Bool×Int×NL)=>(.val (.bool (false ^^x.1)),⟨H.set kl (lRow x.2.1),x.2.2,[]⟩)) fn84 (by decide) ?_;obtain⟨c1,c2,c3,c4⟩:=hc;generalize hP:PV.agg [.int .i64 k,.int .i64 n,.slice sz es .any]=P at*;have hlt:=(gI0.1 h1).1;have M2:Mod H ((H++[row 3 [P]])++[row 1 [.int .i64 deep]]) kl (lRow lf):=(Mod.refl h1).push.push;have k1:((H++[row 3 [P]])++[row 1 [.int .i64 deep]])[kl]?=some (lRow lf):=qah (qah h1);have k2:((H++[row 3 [P]])++[row 1 [.int .i64 deep]])[kw]?=some (fRow kl kw):=qah (qah h2);have k3:((H++[row 3 [P]])++[row 1 [.int .i64 deep]])[(H++[row 3 [P]]).length]?=some (lRow deep):=by simp[lRow]
   have k4:((H++[row 3 [P]])++[row 1 [.int .i64 deep]])[H.length]?=some (.row 3 [P]):=qah (by simp);have hkd:kl< (H++[row 3 [P]]).length:=by simp;omega
   generalize hkd':(H++[row 3 [P]]).length=kd at*;generalize hH2:(H++[row 3 [P]])++[row 1 [.int .i64 deep]]=H2 at*;have s1:=fun ws ups=>st1_0 (ws:=ws) (ups:=ups) (v:=lf - 1) k1;have M3:=M2.put (o':=lRow (lf - 1));have j1:(H2.set kl (lRow (lf - 1)))[kl]?=some (lRow (lf - 1)):=qak k1;have j2:(H2.set kl (lRow (lf - 1)))[kw]?=some (fRow kl kw):=qaa k2 hne;have j3:(H2.set kl (lRow (lf - 1)))[kd]?=some (lRow deep):=qaa k3 (by omega);have j4:(H2.set kl (lRow (lf - 1)))[H.length]?=some (.row 3 [P]):=qaa k4 (by omega);generalize hH3:H2.set kl (lRow (lf - 1))=H3 at*;have lP:loadAt false 1 (.ptr H.length 0 2 1) H3=some (.slice sz es .any):=by rw[qad j4,←hP];rfl
   obtain⟨wz,t1,t2⟩:=qbo (v:=.bool false) (ws:=wadd kl []) rfl M3 (fun x hx=>by
    rcases qa3 hx with h|h
    ·exact .inl h
    ·cases h)
   by_cases hz:lf=0
   · have b0:¬(0:Int)≤lf - 1:=by omega
     simp(disch:=omega) only[go_sem,c1,c3,hkd',hH2,ld_l k1,s1,ld_l j1,b0,t1];exact⟨(false,lf - 1,wz),rfl,⟨by dsimp only;omega,by dsimp only;omega⟩,(fun h=>by cases h),t2⟩
   · have b0:(0:Int)≤lf - 1:=by omega
     by_cases hd:deep<100
     · obtain⟨⟨r,lf',ws⟩,ev,q1,q2,q3⟩:=qkr hT (g:=85) (cap:=[.pb kw,.pb kd]) (left0:=lf - 1) (m:=.any) (by rw[hT.prim];rfl) j1 ⟨b0,by omega⟩ hs hl he fun i x p hx hp lf' hl0 hl1=>few85 hT (he i x p hx hp) (qak j1) (qaa j2 hne) (qaa j3 (by omega)) ⟨hdp.1,hd⟩ fun H' g1 g2=>ih i x p hx hp (he i x p hx hp).cells H' kl kw lf' (deep+1) g1 g2 hne ⟨hl0,by omega⟩ ⟨by omega,by omega⟩
       obtain⟨wy,u1,u2⟩:=qbo (v:=.bool (!r)) (ws:=wall ws (wadd kl [])) rfl (M3.put (o':=lRow lf')) (fun x hx=>.inl (by
        rcases qat hx with h|h
        ·grind
        · rcases qa3 h with h|h
          ·exact h
          ·cases h))
       simp(disch:=omega) only[go_sem,c1,c3,hkd',hH2,ld_l k1,s1,ld_l j1,b0,ld_l j3,hd,lP,cb ev,hT.prim,qab,u1];refine⟨(!r,lf',wy),by simp only[Bool.false_xor],⟨q1.1,by have:=q1.2;dsimp only at*;omega⟩,fun h=>?_,u2⟩;have hr:r=false:=by simpa using h
       obtain⟨a1,a2⟩:=q2 hr;simp only[Tm.nodes];dsimp only at*;omega
     · simp(disch:=omega) only[go_sem,c1,c3,hkd',hH2,ld_l k1,s1,ld_l j1,b0,ld_l j3,hd,t1];exact⟨(false,lf - 1,wz),rfl,⟨by dsimp only;omega,by dsimp only;omega⟩,(fun h=>by cases h),t2⟩
include hT in
theorem few86{x:Tm}{p:PV}(hx:Enc x p){H:Hp}{kl kw:Nat}{lf:Int}(h1:H[kl]?=some (lRow lf))(h2:H[kw]?=some (fRow kl kw))(hne:kl≠kw)(hlf:0≤lf∧lf≤1000):FewR T 86 [p,.pb kw] H kl lf x.nodes true:=by
 refine hT.wp (r:=fun(x:Bool×Int×NL)=>(.val (.bool (true ^^x.1)),⟨H.set kl (lRow x.2.1),x.2.2,[]⟩)) fn86 (by decide) ?_;obtain⟨c1,_,c3,_⟩:=hx.cells;have hsub:=hx.sub;have M1:Mod H (H++[row 3 [p]]) kl (lRow lf):=(Mod.refl h1).push;have k1:=qah (o2:=row 3 [p]) h1;have k2:=qah (o2:=row 3 [p]) h2;have k4:(H++[row 3 [p]])[H.length]?=some (.row 3 [p]):=by simp
 generalize hH1:H++[row 3 [p]]=H1 at*;have lp:loadAt true 3 (.pb H.length) H1=some p:=by rw[qad k4];exact hsub
 obtain⟨⟨b,lf',ws⟩,ev,q1,q2,q3⟩:=few84 hT hx H1 kl kw lf 0 k1 k2 hne hlf ⟨by omega,by omega⟩;simp only[Bool.false_xor]at ev q1 q2 q3
 obtain⟨wz,t1,t2⟩:=qbo (v:=.bool (!b)) (ws:=wall ws []) rfl (M1.put (o':=lRow lf')) (fun x hx=>.inl (by
  rcases qat hx with h|h
  ·exact q3 x h
  ·cases h))
 simp(disch:=omega) only[go_sem,hH1,c1,c3,ld_f k2,lp,cb ev,hT.prim,qab,t1];exact⟨(b,lf',wz),by simp only[Bool.true_xor],q1,q2,t2⟩
theorem st_fn{H:Hp}{ws:NL}{ups:UL}{k kl kw:Nat}(hk:H[k]?=some (.row 1 [.nilFunc])):
 ∃ups',storeAt 1 (.pb k) (.func (.func 84) [] [.pb kl,.pb kw]) ⟨H,ws,ups⟩=some ⟨H.set k (fRow kl kw),wadd k ws,ups'⟩∧∀x∈ups',x∈ups∨x.1=k:=by
 have hu:upd .nilFunc 0 (.func (.func 84) [] [.pb kl,.pb kw])=some (.func (.func 84) [] [.pb kl,.pb kw]):=rfl;have h1:storeAt 1 (.pb k) (.func (.func 84) [] [.pb kl,.pb kw]) ⟨H,ws,ups⟩=some (wrote k (fRow kl kw) (PV.func (.func 84) [] [.pb kl,.pb kw]).top ⟨H,ws,ups⟩):=by simp only[storeAt,hk,ll0,PV.cells,List.all_cons,List.all_nil,PV.isCell,Bool.and_self,and_self,if_true,List.getElem?_cons_zero,hu,Option.map,sC0,fRow]
 rw[h1];cases(PV.func (.func 84) [] [.pb kl,.pb kw]).top with
 |none=>exact⟨ups,by rw[qau],fun x hx=>.inl hx⟩
 |some j=>
   refine⟨_,by rw[qcj],fun x hx=>?_⟩;split at hx
   ·grind
   ·exact .inl hx
include hT in
theorem qs8{lim:Int}(hlim:0≤lim∧lim≤1000){l:Ts}{sz:Nat}{es:PL}{m:SM}(hs:es=[]∨sz=3)(hl:es.length=l.length)(he:∀(i:Nat)(x:Tm)(p:PV),l[i]?=some x→es[i]?=some p→Enc x p)(h:Hp):∃b:Bool,Ev T 17 [.int .i64 lim,.slice sz es m] h (ba (.bool b) h)∧(b=true→qba l≤lim.toNat):=by
 refine hT.wp (r:=fun(b:Bool)=>(ba (.bool b) h)) fn17 (by decide) ?_;have low:Low h.length h ((h++[row 1 [.int .i64 lim]])++[row 1 [.nilFunc]]):=((Low.refl _ _).push (nR0 _)).push (by simp);have k1:((h++[row 1 [.int .i64 lim]])++[row 1 [.nilFunc]])[h.length]?=some (lRow lim):=qah (by simp[lRow]);have k2:((h++[row 1 [.int .i64 lim]])++[row 1 [.nilFunc]])[(h++[row 1 [.int .i64 lim]]).length]?=some (.row 1 [.nilFunc]):=by simp
 have hkw:(h++[row 1 [.int .i64 lim]]).length=h.length+1:=by simp
 generalize hkw':(h++[row 1 [.int .i64 lim]]).length=kw at*;generalize hH:(h++[row 1 [.int .i64 lim]])++[row 1 [.nilFunc]]=H at*;obtain⟨ups,sf,hu⟩:=st_fn (ws:=[]) (ups:=[]) (kl:=h.length) (kw:=kw) k2;have j1:(H.set kw (fRow h.length kw))[h.length]?=some (lRow lim):=qaa k1 (by omega);have j2:(H.set kw (fRow h.length kw))[kw]?=some (fRow h.length kw):=qak k2;have low2:Low h.length h (H.set kw (fRow h.length kw)):=low.trans (.set (by omega));generalize hH1:H.set kw (fRow h.length kw)=H1 at*;obtain⟨⟨r,lf',ws⟩,ev,q1,q2,q3⟩:=qkr hT (g:=86) (cap:=[.pb kw]) (left0:=lim) (m:=m) (sz:=sz) (by rw[hT.prim];rfl) j1 hlim hs hl he fun i x q hx hq lf' hl0 hl1=>few86 hT (he i x q hx hq) (qak j1) (qaa j2 (by omega)) (by omega) ⟨hl0,by omega⟩;dsimp only at ev q1 q2 q3
 have td:tidy 0 h.length (.val (.bool (!r))) ⟨H1.set h.length (lRow lf'),wall ws (wadd kw []),ups⟩=(ba (.bool (!r)) h):=qa9 rfl (low2.trans (.set (nR0 _))) (fun x hx=>by
  rcases qat hx with h|h
  ·grind
  · rcases qa3 h with h|h
    ·omega
    ·cases h) (fun x hx=>by
  rcases hu x hx with h|h
  ·cases h
  ·omega)
 simp(disch:=omega) only[go_sem,hkw',hH,sf,cb ev,hT.prim,qab,td];refine⟨!r,rfl,fun h=>?_⟩;have hr:r=false:=by simpa using h
 obtain⟨a1,a2⟩:=q2 hr;omega
end Go.Proofs.Tryz
namespace Go.Proofs.Tryz
open Go Go.AE
open Go.AE.Obj (row)
variable {T:Tbl}(hT:Std T){s:GSig}
def encL(l:Ts):PV:=.slice 3 (l.map encT) .any
theorem qfs{l:Ts}:AE.sub false 1 (encL l) 0=some (encL l):=rfl
theorem encL_map'(l:Ts):EncL l (l.map encT):=qft l
def PlainL(l:Ts):Prop:=l.length≤80∧qba l≤1000
include hT in
theorem plain1_ev(l:Ts)(h:Hp):∃b:Bool,Ev T 102 [encL l] h (ba (.bool b) h)∧(b=false→PlainL l):=by
 refine hT.wp (r:=fun b:Bool=>(ba (.bool b) h)) fn102 (by decide) ?_;by_cases h80:80<l.length
 · have hb:(80:Int)< (l.length:Int):=by omega
   simp(disch:=omega) only[go_sem,encL,lM0,hb];exact⟨true,rfl,by simp⟩
 · have hb:¬(80:Int)< (l.length:Int):=by omega
   obtain⟨b,ev,hn⟩:=qs8 hT (lim:=1000) ⟨by omega,by omega⟩ (l:=l) (sz:=3) (es:=l.map encT) (m:=.any) (.inr rfl) (qft l).1 (qft l).2 h;simp(disch:=omega) only[go_sem,encL,lM0,hb,cb ev,hT.prim,qab];exact⟨!b,rfl,fun h=>⟨by omega,hn (by simpa using h)⟩⟩
include hT in
theorem plain_ev(dom:LT)(h:Hp):∃b:Bool,Ev T 24 [.slice 1 (dom.map encL) .any] h (ba (.bool b) h)∧(b=true→dom.length≤30∧∀l∈dom,PlainL l):=by
 refine hT.wp (r:=fun b:Bool=>(ba (.bool b) h)) fn24 (by decide) ?_;by_cases h30:dom.length≤30
 · have hb:(dom.length:Int)≤30:=by omega
   have W:∃r:Int,Ev T 175 [.slice 1 (dom.map encL) .any,.func (.func 102) [] []] h (ba (iv0 r) h)∧(¬0≤r→∀l∈dom,PlainL l):=by
    refine hT.wp (r:=fun r:Int=>(ba (iv0 r) h)) fn175 (by decide) ?_;simp(disch:=omega) only[go_sem,lM0];refine wpC.loopM (fun n e s=> ∃i:Nat,i+n=dom.length∧(∀j (hj:j<dom.length),j<i→PlainL dom[j])∧(eget e 0=.slice 1 (dom.map encL) .any∧eget e 1=.func (.func 102) [] []∧eget e 7=iv0 (dom.length:Int)∧eget e 8=iv0 (i:Int))∧s=⟨h,[],[]⟩) ?_ dom.length _ _ ⟨0,by simp,fun j _ hj=>by omega,by simp only[go_sem,zN0],rfl⟩;rintro n e s ⟨i,hi,hp,⟨e0,e1,e7,e8⟩,rfl⟩;by_cases h1:i<dom.length
    · have h1':(i:Int)< (dom.length:Int):=by omega
      have ga:(dom.map encL)[i]?=some (encL dom[i]):=by rw[gM0,gE0 h1];rfl
      obtain⟨b,ev,hb⟩:=plain1_ev hT dom[i] h;cases b
      · simp(disch:=omega) only[go_sem,a175b0,e0,e1,e7,e8,h1',ga,qfs,cb ev,hT.prim,qab];refine⟨n - 1,by omega,i+1,by omega,fun j hj hji=>?_,rfl,trivial⟩;by_cases hjj:j=i
        ·grind
        ·grind
      · simp(disch:=omega) only[go_sem,a175b0,e0,e1,e7,e8,h1',ga,qfs,cb ev,hT.prim,qab];exact⟨(i:Int),rfl,fun h=>by omega⟩
    · have h1':¬(i:Int)< (dom.length:Int):=by omega
      simp(disch:=omega) only[go_sem,a175b0,e7,e8,h1'];refine⟨_,rfl,fun _ x hx=>?_⟩;obtain⟨j,hj,rfl⟩:=List.getElem_of_mem hx;exact hp j hj (by omega)
   obtain⟨r,ev,hr⟩:=W;have ev2:Ev T 101 [.slice 1 (dom.map encL) .any,.func (.func 102) [] []] h (ba (.bool (decide (0≤r))) h):=by refine hT.wk fn101 (by decide) ?_;simp(disch:=omega) only[go_sem,cb ev,hT.prim,qab]
   simp(disch:=omega) only[go_sem,lM0,hb,cb ev2,hT.prim,qab];exact⟨_,rfl,fun h=>⟨h30,hr (by simpa using h)⟩⟩
 · have hb:¬(dom.length:Int)≤30:=by omega
   simp(disch:=omega) only[go_sem,lM0,hb];exact⟨false,rfl,by simp⟩
theorem qrx{H:Hp}{v p q:PV}{es:PL}{lo:Nat}(A:AppL H v es lo)(hp:p.cells.all PV.isCell=true)(hq:q.cells.all PV.isCell=true)(hl:es.length<100000)(hlo:lo≤H.length):
 ∃(H':Hp)(fw:NL→NL)(kt:Nat),(∀ws ups,appendop 3 40 v (.slice 3 [p,q] .lit) ⟨H,ws,ups⟩=some (.slice 3 (es++[p,q]) (.tok kt),⟨H',fw ws,ups⟩))∧AppL H' (.slice 3 (es++[p,q]) (.tok kt)) (es++[p,q]) lo∧(∀(j:Nat)(o:AE.Obj),o.isTok=false→H[j]?=some o→H'[j]?=some o)∧Low lo H H'∧∀ws,(∀x∈ws,lo≤x)→∀x∈fw ws,lo≤x:=by
 have hroom:(es.length+2) *40≤room∧es.length+2≤room:=by
  have:10000000≤room:=by decide
  constructor<;>omega
 rcases A with⟨rfl,rfl⟩|⟨kt,rfl,h2,h3⟩
 · simp at hroom;refine⟨H++[.tok 3 2],fun ws=>ws,H.length,fun ws ups=>?_,.inr ⟨H.length,rfl,by simp,hlo⟩,fun j o _ hj=>qah hj,(Low.refl _ _).push hlo,fun ws hx=>hx⟩;simp[appendop,qch,hp,hq,hroom,alloc]
 · refine⟨H.set kt (.tok 3 (es.length+2)),wadd kt,kt,fun ws ups=>?_,.inr ⟨kt,rfl,by rw[qak h2];simp,h3⟩,fun j o ho hj=>qaa hj ?_,.set h3,fun ws hx=>qae h3 hx⟩
   ·simp[appendop,qch,hp,hq,hroom,h2,qau]
   · rintro rfl;rw[h2]at hj;cases hj;cases ho
structure LittleP (t:GTy):Prop where
 small:qkl t.sig=true
 n:t.eqns.length≤30
set_option maxRecDepth 4000 in
include hT in
theorem little_ev(t:GTy)(h:Hp):∃b:Bool,Ev T 23 [qai t] h (ba (.bool b) h)∧(b=true→LittleP t):=by
 refine hT.wp (r:=fun b:Bool=>(ba (.bool b) h)) fn23 (by decide) ?_;have k1:=gC0 (l:=h) (a:=row 3 [qai t]);have low1:Low h.length h (h++[row 3 [qai t]]):=(Low.refl _ _).push (nR0 _);generalize hH1:h++[row 3 [qai t]]=H1 at*;have l1:loadAt false 1 (.ptr h.length 0 2 1) H1=some (.slice 8 (t.eqns.map qaj) .any):=by rw[qad k1];rfl
 have td:∀(H:Hp)(ws:NL)(b:Bool),Low h.length h H→(∀x∈ws,h.length≤x)→tidy 0 h.length (.val (.bool b)) ⟨H,ws,[]⟩=(ba (.bool b) h):=fun H ws b L hw=>qan rfl rfl L hw;by_cases h30:30<t.eqns.length
 · have hb:(30:Int)< (t.eqns.length:Int):=by omega
   simp(disch:=omega) only[go_sem,hH1,qbx,qby,lM0,l1,hb,td H1 [] false low1 (by simp)];exact⟨false,rfl,by simp⟩
 have hb:¬(30:Int)< (t.eqns.length:Int):=by omega
 simp(disch:=omega) only[go_sem,hH1,qbx,qby,lM0,l1,hb]
 refine wpC.loopM (fun g e st=> ∃(i:Nat)(H:Hp)(ws:NL)(v:PV)(us:Ts)(es:PL),i+g=t.eqns.length∧Low h.length h H∧H[h.length]?=some (.row 3 [qai t])∧(∀x∈ws,h.length≤x)∧AppL H v es h.length∧EncL us es∧es.length≤i*100∧(eget e 1=.pb h.length∧eget e 3=v∧eget e 13=.slice 8 (t.eqns.map qaj) .any∧eget e 14=iv0 (t.eqns.length:Int)∧eget e 15=iv0 (i:Int))∧st=⟨H,ws,[]⟩) ?_ t.eqns.length _ _
  ⟨0,H1,[],_,[],[],by omega,low1,k1,by simp,.inl ⟨rfl,rfl⟩,⟨rfl,by simp⟩,by simp,by simp only[go_sem,zN0],rfl⟩
 rintro g e st ⟨i,H,ws,v,us,es,hi,low,kt,hw,hA,hE,hel,⟨e1,e3,e13,e14,e15⟩,rfl⟩;have hHl:=low.len;by_cases h1:i<t.eqns.length
 · have h1':(i:Int)< (t.eqns.length:Int):=by omega
   have hx:t.eqns[i]?=some t.eqns[i]:=gE0 h1;have ga:(t.eqns.map qaj)[i]?=some (qaj t.eqns[i]):=by rw[gM0,hx];rfl
   generalize t.eqns[i]=q at*;obtain⟨c1,c2,_⟩:=qil q;have sb:=qa5 (h:=H) (ws:=ws) (ups:=[]) (z:=zq8) (sz:=8) (c:=qaj q) c1 rfl c2 (qtc q) ⟨_,rfl⟩ ⟨_,rfl⟩;have k5:=gC0 (l:=H) (a:=row 8 [qaj q]);have kt5:=qah (o2:=row 8 [qaj q]) kt;have A5:=hA.push (o:=row 8 [qaj q]);have low5:=low.push (o:=row 8 [qaj q]) hHl;have hw5:∀y∈wadd H.length ws,h.length≤y:=qae hHl hw;have hl5:(H++[row 8 [qaj q]]).length=H.length+1:=by simp
   generalize hH5:H++[row 8 [qaj q]]=H5 at*;generalize hk5:H.length=kq at*;have lA:loadAt true 3 (.ptr kq 0 2 1) H5=some (encT q.A):=by rw[qad k5];exact eqn_A
   have lB:loadAt true 3 (.ptr kq 0 5 1) H5=some (encT q.B):=by rw[qad k5];exact eqn_B
   have fA:=qe8 q.A;have fB:=qe8 q.B;have f2:=fe_two (p:=encT q.A) (q:=encT q.B) ⟨qe9 _,fA.2.1⟩ ⟨qe9 _,fB.2.1⟩;obtain⟨H6,fw,kt6,ap,A6,keep6,low6,hfw⟩:=qrx A5 fA.1 fB.1 (by omega) (show h.length≤H5.length by omega);have k6:=keep6 _ _ rfl k5;have ktt6:=keep6 _ _ rfl kt5;have lowS:Low h.length h H6:=low5.trans low6;have hw6:=hfw _ hw5;have E6:=(hE.snoc (qa6 q.A)).snoc (qa6 q.B);rw[List.append_assoc,List.append_assoc]at E6;have lc:loadAt false 1 (.ptr kq 0 1 1) H6=some (.slice 6 (q.conds.map qag) .any):=by rw[qad k6];exact eqn_conds
   have lv:loadAt false 1 (.pb kq) H6=some (.slice 1 (q.vars.map encI) .any):=by rw[qad k6];exact eqn_vars
   by_cases h20:20<q.conds.length
   · have hb:(20:Int)< (q.conds.length:Int):=by omega
     simp(disch:=omega) only[go_sem,a23b1,e3,e13,e14,e15,h1',ga,qdo,hk5,sb,lA,lB,f2,ap,lc,hb,ll0,lM0,td H6 _ false lowS hw6];exact⟨false,rfl,by simp⟩
   have hb20:¬(20:Int)< (q.conds.length:Int):=by omega
   by_cases h100:100<q.vars.length
   · have hb:(100:Int)< (q.vars.length:Int):=by omega
     simp(disch:=omega) only[go_sem,a23b1,e3,e13,e14,e15,h1',ga,qdo,hk5,sb,lA,lB,f2,ap,lc,lv,hb20,hb,ll0,lM0,td H6 _ false lowS hw6];exact⟨false,rfl,by simp⟩
   have hb100:¬(100:Int)< (q.vars.length:Int):=by omega
   simp(disch:=omega) only[go_sem,a23b1,e3,e13,e14,e15,h1',ga,qdo,hk5,sb,lA,lB,f2,ap,lc,lv,hb20,hb100,ll0,lM0]
   refine wpC.loopM (fun g e st=> ∃(k:Nat)(H:Hp)(ws:NL)(v:PV)(us:Ts)(es:PL),k+g=q.conds.length∧Low h.length h H∧H[h.length]?=some (.row 3 [qai t])∧(∀x∈ws,h.length≤x)∧AppL H v es h.length∧EncL us es∧es.length≤i*100+2+2*k∧(eget e 1=.pb h.length∧eget e 3=v∧eget e 13=.slice 8 (t.eqns.map qaj) .any∧eget e 14=iv0 (t.eqns.length:Int)∧eget e 15=iv0 (i:Int)∧eget e 37=.slice 6 (q.conds.map qag) .any∧eget e 38=iv0 (q.conds.length:Int)∧eget e 39=iv0 (k:Int))∧st=⟨H,ws,[]⟩) ?_ q.conds.length _ _
    ⟨0,H6,_,_,_,_,by omega,lowS,ktt6,hw6,A6,E6,by simp;omega,by simp only[go_sem,e1,e13,e14,e15,zN0],rfl⟩
   clear low kt hw hA hE hel e1 e3 e13 e14 e15 sb hHl;rintro g' e st ⟨k,H,ws,v,us,es,hk,low,kt,hw,hA,hE,hel,⟨e1,e3,e13,e14,e15,e37,e38,e39⟩,rfl⟩;have hHl:=low.len;by_cases h2:k<q.conds.length
   · have h2':(k:Int)< (q.conds.length:Int):=by omega
     have hx:q.conds[k]?=some q.conds[k]:=gE0 h2;have ga:(q.conds.map qag)[k]?=some (qag q.conds[k]):=by rw[gM0,hx];rfl
     generalize q.conds[k]=p at*;obtain⟨b1,b2,_⟩:=qk5 p;have sb:=qa5 (h:=H) (ws:=ws) (ups:=[]) (z:=zq6) (sz:=6) (c:=qag p) b1 rfl b2 (qk4 p) ⟨_,rfl⟩ ⟨_,rfl⟩;have k7:=gC0 (l:=H) (a:=row 6 [qag p]);have kt7:=qah (o2:=row 6 [qag p]) kt;have A7:=hA.push (o:=row 6 [qag p]);have low7:=low.push (o:=row 6 [qag p]) hHl;have hw7:∀y∈wadd H.length ws,h.length≤y:=qae hHl hw;have hl7:(H++[row 6 [qag p]]).length=H.length+1:=by simp
     generalize hH7:H++[row 6 [qag p]]=H7 at*;generalize hkp:H.length=kp at*;have pA:loadAt true 3 (.pb kp) H7=some (encT p.1):=by rw[qad k7];exact pair_A
     have pB:loadAt true 3 (.ptr kp 0 3 1) H7=some (encT p.2):=by rw[qad k7];exact pair_B
     have f1:=qe8 p.1;have f2:=qe8 p.2;have ff:=fe_two (p:=encT p.1) (q:=encT p.2) ⟨qe9 _,f1.2.1⟩ ⟨qe9 _,f2.2.1⟩;obtain⟨H8,fw,kt8,ap,A8,keep8,low8,hfw⟩:=qrx A7 f1.1 f2.1 (by omega) (show h.length≤H7.length by omega);have E8:=(hE.snoc (qa6 p.1)).snoc (qa6 p.2);rw[List.append_assoc,List.append_assoc]at E8;simp(disch:=omega) only[go_sem,a23b0,e1,e3,e13,e14,e15,e37,e38,e39,h2',ga,qoz,hkp,sb,pA,pB,ff,ap,ll0];exact⟨g' - 1,by omega,k+1,_,_,_,_,_,by omega,low7.trans low8,keep8 _ _ rfl kt7,hfw _ hw7,A8,E8,by simp;omega,⟨rfl,rfl⟩,rfl⟩
   · have h2':¬(k:Int)< (q.conds.length:Int):=by omega
     simp(disch:=omega) only[go_sem,a23b0,e1,e3,e13,e14,e15,e38,e39,h2'];exact⟨g - 1,by omega,i+1,_,_,_,_,_,by omega,low,kt,hw,hA,hE,by omega,⟨rfl,rfl⟩,rfl⟩
 · have h1':¬(i:Int)< (t.eqns.length:Int):=by omega
   have lg:loadAt true 2 (.pb h.length) H=some (qaf t.sig):=by rw[qad kt];rfl
   have ev:=small_ev hT t.sig H;cases hsm:qkl t.sig
   · rw[hsm]at ev;simp(disch:=omega) only[go_sem,a23b1,e1,e14,e15,h1',lg,cb ev,hT.prim,qab,td H ws false low hw];exact⟨false,rfl,by simp⟩
   · rw[hsm]at ev;obtain⟨z,m,rfl,hz⟩:=hA.form;obtain⟨b,evf,_⟩:=qs8 hT (lim:=600) ⟨by omega,by omega⟩ (m:=m) hz hE.1 hE.2 H;simp(disch:=omega) only[go_sem,a23b1,e1,e3,e14,e15,h1',lg,cb ev,cb evf,hT.prim,qab,td H ws b low hw];exact⟨b,rfl,fun _=>⟨hsm,by omega⟩⟩
end Go.Proofs.Tryz
