/- Texts of the proof, one behind the other: ValFnsR2, ValR3, ValM8, ValR4, ValR5, ValM1, ValM2, ValM3, ValM4, ValM5, ValM9, ValM10, ValP8, ValP9, ValP10, ValP11, ValP12, ValP13, ValL13, ValL14, ValP14, ValQ2, ValQ3, ValQ4, ValQ5, ValQ6, ValQ7, ValQ8, ValQ9, ValQA, ValQB, ValQC, ValQD, ValQE, ValQF, ValQG, ValQI, ValQJ, ValQK, ValQO, ValQP, ValQR, ValQS. -/
import Derived.Test.YtekepgfmgeophaaGreatPartAJ
import Derived.Test.YtekepgfmgeophaaGreatPartAO
import Derived.Test.YtekepgfmgeophaaGreatPartAN
set_option linter.unusedVariables false
set_option linter.unusedSimpArgs false
namespace Go.Proofs.Tryz
open Go Go.AE
end Go.Proofs.Tryz
namespace Go.Proofs.Tryz
open Go Go.AE
open Go.AE.Obj (row)
variable {T:Tbl}(hT:Std T)
def okN(v:Int):Prop:=0≤v∧v≤1099511627776
structure okV (x:IL)(n:Nat):Prop where
 len:x.length=n
 ok:∀v∈x,okN v
theorem okV.get{x:IL}{n j:Nat}(h:okV x n)(hj:j<n):okN (x.getD j 0):=by
 have hl:j<x.length:=by rw[h.len];exact hj
 have e2:x.getD j 0=x[j]:=by simp[gD0,hl]
 rw[e2];exact h.ok _ (gX0 hl)
theorem okV.set{x:IL}{n j:Nat}{v:Int}(h:okV x n)(hv:okN v):okV (x.set j v) n:=
 ⟨by simpa using h.len,fun u hu=>by
  rcases List.mem_or_eq_of_mem_set hu with h'|rfl
  ·exact h.ok _ h'
  ·exact hv⟩
theorem okV.zeros(n:Nat):okV (List.replicate n 0) n:=⟨by simp,fun v hv=>by have:=(List.mem_replicate.1 hv).2;subst this;exact⟨by omega,by omega⟩⟩
structure WRows (h H:Hp)(a b:Nat)(x y:IL)(n:Nat):Prop where
 low:Low h.length h H
 ha:H[a]?=some (.row 1 (x.map encI))
 hb:H[b]?=some (.row 1 (y.map encI))
 ab:a≠b
 la:h.length≤a
 lb:h.length≤b
 okx:okV x n
 oky:okV y n
theorem WRows.set{h H:Hp}{a b n i:Nat}{x y:IL}{v:Int}(W:WRows h H a b x y n)(hv:okN v):WRows h (H.set b (.row 1 ((y.set i v).map encI))) a b x (y.set i v) n:=
 ⟨W.low.trans (.set W.lb),qaa W.ha (Ne.symm W.ab),qak W.hb,W.ab,W.la,W.lb,W.okx,W.oky.set hv⟩
theorem get_getD{x:IL}{j:Nat}(h:j<x.length):(x.map encI)[j]?=some (.int .i64 (x.getD j 0)):=by rw[qee h,gD0,gE0 h];rfl
structure WOne (h H:Hp)(a:Nat)(x:IL)(n:Nat):Prop where
 low:Low h.length h H
 ha:H[a]?=some (.row 1 (x.map encI))
 la:h.length≤a
 okx:okV x n
theorem WOne.push{h H:Hp}{a n:Nat}{x:IL}(W:WOne h H a x n):WRows h (H++[.row 1 ((List.replicate n 0).map encI)]) a H.length x (List.replicate n 0) n:=by have hl:=(gI0.1 W.ha).1;refine⟨W.low.push (by have:=W.low.len;omega),?_,by simp,by omega,W.la,by have:=W.low.len;omega,W.okx,.zeros n⟩;rw[gL0 hl];exact W.ha
end Go.Proofs.Tryz
namespace Go.Proofs.Tryz
open Go Go.AE
open Go.AE.Obj (row)
variable {T:Tbl}(hT:Std T){s:GSig}
end Go.Proofs.Tryz
namespace Go.Proofs.Tryz
open Go Go.AE
open Go.AE.Obj (row)
variable {T:Tbl}(hT:Std T)
def refOf(nS j:Nat):PV:=.aref j 1 0 nS nS
structure TS (h H:Hp)(s:GSig)(js:NL)(zs:List (IL)):Prop where
 low:Low h.length h H
 box:H[h.length]?=some (.row 2 [qaf s])
 len:zs.length=js.length
 rows:∀(i j:Nat)(z:IL),js[i]?=some j→zs[i]?=some z→H[j]?=some (.row 1 (z.map encI))
 ok:∀z∈zs,okV z s.sorts.length
 ex:∀(k:Nat)(z:IL),zs[k]?=some z→∀a,a<s.sorts.length→z.getD a 0=cntOf s a k
 big:∀j∈js,h.length<j
theorem TS.set{h H:Hp}{s:GSig}{js:NL}{zs:List (IL)}(G:TS h H s js zs){r:Nat}{o:AE.Obj}(hr:h.length<r)(hn:r∉js):TS h (H.set r o) s js zs:=
 ⟨G.low.trans (.set (by omega)),qaa G.box (by omega),G.len,fun i j z a b=>qaa (G.rows i j z a b) (by rintro rfl;exact hn (mG0 a)),G.ok,G.ex,G.big⟩
theorem TS.push{h H:Hp}{s:GSig}{js:NL}{zs:List (IL)}(G:TS h H s js zs){o:AE.Obj}:TS h (H++[o]) s js zs:=by
 have keep:∀{k:Nat}{ob:AE.Obj},H[k]?=some ob→(H++[o])[k]?=some ob:=fun hx=>by rw[gL0 (gI0.1 hx).1];exact hx
 exact⟨G.low.push (by have:=G.low.len;omega),keep G.box,G.len,fun i j z a b=>keep (G.rows i j z a b),G.ok,G.ex,G.big⟩
theorem TS.more{h H:Hp}{s:GSig}{js:NL}{zs:List (IL)}(G:TS h H s js zs){r:Nat}{x:IL}(hr:h.length<r)(hx:H[r]?=some (.row 1 (x.map encI)))(ok:okV x s.sorts.length)(ex:∀a,a<s.sorts.length→x.getD a 0=cntOf s a js.length):TS h H s (js++[r]) (zs++[x]):=by
 refine⟨G.low,G.box,by simp[G.len],fun i j z a b=>?_,fun z hz=>?_,fun k z hz a ha=>?_,fun j hj=>?_⟩
 · by_cases hi:i<js.length
   · rw[gL0 hi]at a;rw[gL0 (by rw[G.len];exact hi)]at b;exact G.rows i j z a b
   · have hi2:i=js.length:=by have:=(gI0.1 a).1;simp at this;omega
     subst hi2;simp at a;rw[←G.len]at b;simp at b;subst a b;exact hx
 · rcases mA0.1 hz with h|h
   ·exact G.ok z h
   ·rw[mS0.1 h];exact ok
 · by_cases hk:k<zs.length
   · rw[gL0 hk]at hz;exact G.ex k z hz a ha
   · have hk2:k=zs.length:=by have:=(gI0.1 hz).1;simp at this;omega
     subst hk2;simp at hz;subst hz;rw[G.len];exact ex a ha
 · rcases mA0.1 hj with h|h
   ·exact G.big j h
   ·rw[mS0.1 h];exact hr
theorem frz_ints{H:Hp}{n0 n:Nat}:∀x:IL,qbs ((x.map encI).map (frz H n0 (n+1)))=some (x.map encI)
 |[]=>rfl
 |v::x=>by have h1:frz H n0 (n+1) (encI v)=some (encI v):=qb0 rfl;simp only[List.map_cons,h1,qbs,frz_ints x,Option.map]
theorem frz_row{H:Hp}{n0 n j nS:Nat}{z:IL}(hj:H[j]?=some (.row 1 (z.map encI)))(hz:z.length=nS)(hn:n0≤j):frz H n0 (n+2) (refOf nS j)=some (.slice 1 (z.map encI) .any):=by
 have h1:¬(j<n0):=by omega
 have h2:((z.map encI).drop 0).take nS=z.map encI:=by rw[List.drop_zero,tL0 (by simp[hz])]
 rw[refOf,frz];simp only[PV.pure,bF0,if_false,if_neg h1,hj,lM0,hz,Nat.zero_add,nR0,and_self,if_true,h2,frz_ints,Option.map]
end Go.Proofs.Tryz
namespace Go.Proofs.Tryz
open Go Go.AE
open Go.AE.Obj (row)
variable {T:Tbl}(hT:Std T){s:GSig}
@[go_sem] theorem oax_none{e:PL}:oax e none=none:=rfl
@[go_sem] theorem oax_some{e:PL}{x:AX}:oax e (some x)=some (ax e x):=rfl
structure RTab (s:GSig)(M:Nat)(zs:List (IL)):Prop where
 len:zs.length=M+1
 ok:∀z∈zs,okV z s.sorts.length
 ex:∀(k:Nat)(z:IL),zs[k]?=some z→∀a,a<s.sorts.length→z.getD a 0=cntOf s a k
def rowsV(zs:List (IL)):PL:=zs.map fun z=>.slice 1 (z.map encI) .any
theorem RTab.row{M:Nat}{zs:List (IL)}(R:RTab s M zs){k:Nat}(hk:k≤M):∃z:IL,(rowsV zs)[k]?=some (.slice 1 (z.map encI) .any)∧∀a,a<s.sorts.length→(z.map encI)[a]?=some (.int .i64 (cntOf s a k)):=by
 have hl:k<zs.length:=by rw[R.len];omega
 have hz:=gE0 hl;refine⟨zs[k],by simp[rowsV,hz],fun a ha=>?_⟩;rw[←R.ex k _ hz a ha];exact get_getD (by rw[(R.ok _ (gX0 hl)).len];exact ha)
theorem qnk{sv rv:Nat→Nat→Int}(i k q:Nat):∀j,sumS (fun k=>sv (i+k)) (fun k=>rv (i+k)) k q j=sumS sv rv (i+k) q j
 |0=>rfl
 |j+1=>by simp only[sumS];rw[qnk i k q j];rfl
theorem Sys.drop{sv rv:Nat→Nat→Int}{L:Nat}(S:Sys sv rv L){i:Nat}(hi:i≤L):Sys (fun k=>sv (i+k)) (fun k=>rv (i+k)) (L - i):=
 ⟨fun k m=>S.s0 _ m,fun k q=>S.r0 _ q,fun k q=>S.rc _ q,fun k q hk hq=>by rw[qnk];exact S.eq _ q (by omega) hq,fun q=>by
  have:=S.last q;rw[←this]
  congr 1
  omega⟩
def AppI(H:Hp)(v:PV)(xs:IL)(lo:Nat):Prop:=(xs=[]∧v=.sn)∨∃k,v=.slice 1 (xs.map encI) (.tok k)∧H[k]?=some (.tok 1 xs.length)∧lo≤k
theorem AppI.slice{H:Hp}{v:PV}{xs:IL}{lo:Nat}(A:AppI H v xs lo):∃z m,v=.slice z (xs.map encI) m∧(xs=[]∨z=1):=by
 rcases A with⟨rfl,rfl⟩|⟨k,rfl,_⟩
 ·simp_all
 ·grind
theorem qo6{sz:Nat→Nat}{N:Nat}(i:Nat):∀k,lfF (fun k=>sz (i+k)) (lfF sz N i) k=lfF sz N (i+k)
 |0=>rfl
 |k+1=>by simp only[lfF];rw[qo6 i k];rfl
theorem Fit.drop{sv:Nat→Nat→Int}{L N:Nat}{sz:Nat→Nat}(F:Fit sv L N sz){i:Nat}(hi:i≤L):Fit (fun k=>sv (i+k)) (L - i) (lfF sz N i) (fun k=>sz (i+k)):=
 ⟨fun k hk=>F.lo _ (by omega),fun k hk=>by rw[qo6];exact F.le _ (by omega),by rw[qo6,show i+(L - i)=L by omega];exact F.all,fun k hk=>F.pos _ (by omega)⟩
theorem sigP.gok{s:GSig}(h:sigP s):GOk s:=⟨h.okOps,by have:=h.nS;omega,by have:=h.nO;omega⟩
def qdd:PV:=.agg [.int .i64 0,.int .i64 0,.slice 0 [] .any]
theorem Low.comp{n0 n1:Nat}{h H H':Hp}(L:Low n0 h H)(L':Low n1 H H')(hn:n0≤n1):Low n0 h H':=by
 refine⟨?_,nT0 L.len L'.len⟩;have h1:H'.take n0=(H'.take n1).take n0:=by rw[List.take_take,Nat.min_eq_left hn]
 rw[h1,L'.take,List.take_take,Nat.min_eq_left hn,L.take]
theorem st_any{H:Hp}{ws:NL}{ups:UL}{k:Nat}{c v:PV}(hk:H[k]?=some (.row 1 [c]))(hc:upd c 0 v=some v)(hv:v.cells.length=1∧v.cells.all PV.isCell=true):
 ∃ups',storeAt 1 (.pb k) v ⟨H,ws,ups⟩=some ⟨H.set k (.row 1 [v]),wadd k ws,ups'⟩∧∀x∈ups',x∈ups∨x.1=k:=by
 have h1:storeAt 1 (.pb k) v ⟨H,ws,ups⟩=some (wrote k (.row 1 [v]) v.top ⟨H,ws,ups⟩):=by simp only[storeAt,hk,ll0,hv.1,hv.2,and_self,if_true,List.getElem?_cons_zero,hc,Option.map,sC0]
 rw[h1];cases v.top with
 |none=>exact⟨ups,by rw[qau],fun x hx=>.inl hx⟩
 |some j=>
   refine⟨_,by rw[qcj],fun x hx=>?_⟩;split at hx
   ·grind
   ·exact .inl hx
end Go.Proofs.Tryz
namespace Go.Proofs.Tryz
open Go Go.AE
open Go.AE.Obj (row)
variable {T:Tbl}(hT:Std T){s:GSig}{H:Hp}{ws:NL}{ups:UL}{ko kz:Nat}{z:IL}
structure RMem (H:Hp)(ko kz:Nat)(s:GSig)(z:IL):Prop where
 sg:H[ko]?=some (.row 2 [qaf s])
 rz:H[kz]?=some (.row 1 (z.map encI))
 ne:kz≠ko
theorem RMem.ops(L:RMem H ko kz s z):loadAt false 1 (.ptr ko 0 1 1) H=some (.slice 3 (s.ops.map qao) .any):=by rw[qad L.sg];rfl
theorem RMem.set(L:RMem H ko kz s z){z':IL}:RMem (H.set kz (.row 1 (z'.map encI))) ko kz s z':=⟨qaa L.sg L.ne,qak L.rz,L.ne⟩
end Go.Proofs.Tryz
namespace Go.Proofs.Tryz
open Go Go.AE
open Go.AE.Obj (row)
variable {T:Tbl}(hT:Std T){s:GSig}{z:IL}
def LeastR(t:Tm)(deep:Int)(x:PV×Bool):Prop:=((t.deep:Int)≤deep→x.2=true∧Enc t x.1∧IsT x.1)∧(¬(t.deep:Int)≤deep→x.2=false∧x.1=qdd)
theorem enc_zTerm:Enc (.mk 0 0 []) qdd:=.mk 0 0 [] 0 [] (.inl rfl) rfl fun i x p h=>by simp at h
theorem LeastR.enc{t:Tm}{deep:Int}{x:PV×Bool}(h:LeastR t deep x):∃t',Enc t' x.1:=by
 by_cases hd:(t.deep:Int)≤deep
 ·exact⟨_,(h.1 hd).2.1⟩
 ·rw[(h.2 hd).2];exact⟨_,enc_zTerm⟩
theorem deepL_mem{l:Ts}{i:Nat}{t:Tm}(h:l[i]?=some t):t.deep≤qf7 l:=by have h1:=qoc h;have h2:=qlc l (i+1);omega
theorem AppL.push{H:Hp}{v:PV}{es:PL}{lo:Nat}{o:AE.Obj}(A:AppL H v es lo):AppL (H++[o]) v es lo:=by
 rcases A with h|⟨kt,h1,h2,h3⟩
 ·exact .inl h
 ·exact .inr ⟨kt,h1,qah h2,h3⟩
theorem qiq{k:Nat}{o:AE.Obj}{up:Option Nat}{H:Hp}{ups:UL}:∃ups',(∀ws,wrote k o up ⟨H,ws,ups⟩=⟨H.set k o,wadd k ws,ups'⟩)∧∀x∈ups',x∈ups∨x.1=k:=by
 cases up with
 |none=>exact⟨ups,fun ws=>by rw[qau],fun x hx=>.inl hx⟩
 |some j=>
   refine⟨_,fun ws=>by rw[qcj],fun x hx=>?_⟩;split at hx
   ·grind
   ·exact .inl hx
theorem st_f2W{H:Hp}{ups:UL}{kx kt:Nat}{a b v:PV}{es:PL}(hk:H[kx]?=some (.row 3 [.agg [a,b,v]])):
 ∃ups',(∀ws,storeAt 1 (.ptr kx 0 2 1) (.slice 3 es (.tok kt)) ⟨H,ws,ups⟩=some ⟨H.set kx (.row 3 [.agg [a,b,.slice 3 es (.tok kt)]]),wadd kx ws,ups'⟩)∧∀x∈ups',x∈ups∨x.1=kx:=by
 have hu:upd (.agg [a,b,v]) 2 (.slice 3 es (.tok kt))=some (.agg [a,b,.slice 3 es (.tok kt)]):=rfl;obtain⟨u,h1,h2⟩:=qiq (k:=kx) (o:=.row 3 [.agg [a,b,.slice 3 es (.tok kt)]]) (up:=(PV.slice 3 es (.tok kt)).top) (H:=H) (ups:=ups);refine⟨u,fun ws=>?_,h2⟩;rw[←h1 ws];simp only[storeAt,hk,ll0,PV.cells,List.all_cons,List.all_nil,PV.isCell,Bool.and_self,and_self,if_true,List.getElem?_cons_zero,hu,Option.map,sC0]
theorem qf0{H:Hp}{ups:UL}{k sz:Nat}{a b c:PV}{x y:Int}{es:PL}{m:SM}(hk:H[k]?=some (.row 3 [.agg [a,b,c]])):
 ∃ups',(∀ws,storeAt 3 (.pb k) (.agg [.int .i64 x,.int .i64 y,.slice sz es m]) ⟨H,ws,ups⟩=some ⟨H.set k (.row 3 [.agg [.int .i64 x,.int .i64 y,.slice sz es m]]),wadd k ws,ups'⟩)∧∀x∈ups',x∈ups∨x.1=k:=by
 have hu:upd (.agg [a,b,c]) 0 (.agg [.int .i64 x,.int .i64 y,.slice sz es m])=some (.agg [.int .i64 x,.int .i64 y,.slice sz es m]):=rfl;obtain⟨u,h1,h2⟩:=qiq (k:=k) (o:=.row 3 [.agg [.int .i64 x,.int .i64 y,.slice sz es m]]) (up:=(PV.agg [.int .i64 x,.int .i64 y,.slice sz es m]).top) (H:=H) (ups:=ups);refine⟨u,fun ws=>?_,h2⟩;rw[←h1 ws];simp only[storeAt,hk,ll0,PV.cells,List.all_cons,List.all_nil,PV.isCell,Bool.and_self,and_self,if_true,List.getElem?_cons_zero,hu,Option.map,sC0]
end Go.Proofs.Tryz
namespace Go.Proofs.Tryz
open Go Go.AE
open Go.AE.Obj (row)
variable {T:Tbl}(hT:Std T){s:GSig}
open Classical in
def EncL(l:Ts)(es:PL):Prop:=es.length=l.length∧∀(i:Nat)(x:Tm)(p:PV),l[i]?=some x→es[i]?=some p→Enc x p
theorem EncL.snoc{l:Ts}{es:PL}(h:EncL l es){x:Tm}{p:PV}(hx:Enc x p):EncL (l++[x]) (es++[p]):=⟨by simp[h.1],enc_snoc h.1 h.2 hx⟩
end Go.Proofs.Tryz
namespace Go.Proofs.Tryz
open Go Go.AE
open Go.AE.Obj (row)
variable {T:Tbl}(hT:Std T)
@[go_sem] theorem clen_map{r:Option Nat}:(PV.map r).cells.length=1:=rfl
@[go_sem] theorem cdef_map{r:Option Nat}:(PV.map r).isDef=true:=rfl
@[go_sem] theorem clen_ptr{a b c d:Nat}:(PV.ptr a b c d).cells.length=1:=rfl
@[go_sem] theorem cdef_ptr{a b c d:Nat}:(PV.ptr a b c d).isDef=true:=rfl
@[go_sem] theorem clen_nilptr:(PV.nilptr).cells.length=1:=rfl
@[go_sem] theorem cdef_nilptr:(PV.nilptr).isDef=true:=rfl
structure GEqn where
 vars:IL
 conds:List (Tm×Tm)
 A:Tm
 B:Tm
structure GTy where
 sig:GSig
 eqns:List GEqn
def qag(p:Tm×Tm):PV:=.agg ((encT p.1).cells++(encT p.2).cells)
def qaj(e:GEqn):PV:=.agg ([.slice 1 (e.vars.map encI) .any,.slice 6 (e.conds.map qag) .any]++((encT e.A).cells++(encT e.B).cells))
def qai(t:GTy):PV:=.agg [.slice 1 (t.sig.sorts.map .str) .any,.slice 3 (t.sig.ops.map qao) .any,.slice 8 (t.eqns.map qaj) .any]
@[go_sem] theorem ty_all{t:GTy}:sub true 3 (qai t) 0=some (qai t):=rfl
@[go_sem] theorem ty_sig{t:GTy}:sub true 2 (qai t) 0=some (qaf t.sig):=rfl
@[go_sem] theorem ty_eqns{t:GTy}:sub false 1 (qai t) 2=some (.slice 8 (t.eqns.map qaj) .any):=rfl
@[go_sem] theorem qbx{t:GTy}:(qai t).cells.length=3:=rfl
@[go_sem] theorem qby{t:GTy}:(qai t).isDef=true:=rfl
@[go_sem] theorem qdo{e:GEqn}:sub true 8 (qaj e) 0=some (qaj e):=by obtain⟨v,c,⟨k,n,l⟩,⟨k',n',l'⟩⟩:=e;rfl
@[go_sem] theorem eqn_vars{e:GEqn}:sub false 1 (qaj e) 0=some (.slice 1 (e.vars.map encI) .any):=rfl
@[go_sem] theorem eqn_conds{e:GEqn}:sub false 1 (qaj e) 1=some (.slice 6 (e.conds.map qag) .any):=rfl
@[go_sem] theorem eqn_A{e:GEqn}:sub true 3 (qaj e) 2=some (encT e.A):=by obtain⟨v,c,⟨k,n,l⟩,⟨k',n',l'⟩⟩:=e;rfl
@[go_sem] theorem eqn_B{e:GEqn}:sub true 3 (qaj e) 5=some (encT e.B):=by obtain⟨v,c,⟨k,n,l⟩,⟨k',n',l'⟩⟩:=e;rfl
@[go_sem] theorem qoz{p:Tm×Tm}:sub true 6 (qag p) 0=some (qag p):=by obtain⟨⟨k,n,l⟩,⟨k',n',l'⟩⟩:=p;rfl
@[go_sem] theorem pair_A{p:Tm×Tm}:sub true 3 (qag p) 0=some (encT p.1):=by obtain⟨⟨k,n,l⟩,⟨k',n',l'⟩⟩:=p;rfl
@[go_sem] theorem pair_B{p:Tm×Tm}:sub true 3 (qag p) 3=some (encT p.2):=by obtain⟨⟨k,n,l⟩,⟨k',n',l'⟩⟩:=p;rfl
def Tm.kind:Tm→Int|.mk k _ _=>k
def Tm.num0:Tm→Int|.mk _ n _=>n
@[go_sem] theorem eqn_Ak{e:GEqn}:sub false 1 (qaj e) 2=some (.int .i64 e.A.kind):=by obtain⟨v,c,⟨k,n,l⟩,⟨k',n',l'⟩⟩:=e;rfl
@[go_sem] theorem eqn_An{e:GEqn}:sub false 1 (qaj e) 3=some (.int .i64 e.A.num0):=by obtain⟨v,c,⟨k,n,l⟩,⟨k',n',l'⟩⟩:=e;rfl
theorem qe8(t:Tm):(encT t).cells.all PV.isCell=true∧(encT t).isDef=true∧(encT t).top=none:=by obtain⟨_,c2,c3,_⟩:=(qa6 t).cells;exact⟨c2,c3,(qa6 t).facts.1⟩
theorem qil(e:GEqn):(qaj e).cells.length=8∧(qaj e).cells.all PV.isCell=true∧(qaj e).isDef=true:=by obtain⟨v,c,⟨k,n,l⟩,⟨k',n',l'⟩⟩:=e;exact⟨rfl,rfl,rfl⟩
theorem qk5(p:Tm×Tm):(qag p).cells.length=6∧(qag p).cells.all PV.isCell=true∧(qag p).isDef=true:=by obtain⟨⟨k,n,l⟩,⟨k',n',l'⟩⟩:=p;exact⟨rfl,rfl,rfl⟩
theorem omax_eq{a b:Option Nat}(h:omax a b=none):a=none∧b=none:=by cases a<;>cases b<;>simp_all [omax]
theorem qln{l:PL}(h:∀x∈l,x.top=none):tops l=none:=by
 induction l with
 |nil=>rfl
 |cons x l ih=>
   simp only[tops,h x (by simp),ih fun y hy=>h y (by simp[hy])];rfl
theorem qic{a b:PL}(ha:tops a=none)(hb:tops b=none):tops (a++b)=none:=by
 induction a with
 |nil=>exact hb
 |cons x a ih=>
   simp only[tops]at ha;obtain⟨h1,h2⟩:=omax_eq ha;simp only[List.cons_append,tops,h1,ih h2];rfl
theorem qrr{p:PV}(h:p.top=none)(hc:∃cs,p=.agg cs):tops p.cells=none:=by obtain⟨cs,rfl⟩:=hc;exact h
theorem qk4(p:Tm×Tm):(qag p).top=none:=by have h:∀t:Tm,tops (encT t).cells=none:=fun t=>qrr (qe8 t).2.2 (qa6 t).cells.2.2.2;exact qic (h _) (h _)
theorem qtc(e:GEqn):(qaj e).top=none:=by
 have h:∀t:Tm,tops (encT t).cells=none:=fun t=>qrr (qe8 t).2.2 (qa6 t).cells.2.2.2;refine qic ?_ (qic (h _) (h _));refine qln fun x hx=>?_;simp only[mN0,List.not_mem_nil,or_false]at hx;rcases hx with rfl|rfl
 · show omax none (tops _)=none;rw[qln (l:=e.vars.map encI) fun x hx=>by obtain⟨n,_,rfl⟩:=mM0.1 hx;rfl];rfl
 · show omax none (tops _)=none;rw[qln (l:=e.conds.map qag) fun x hx=>by obtain⟨n,_,rfl⟩:=mM0.1 hx;exact qk4 n];rfl
def setM(L:IL):List (PV×PV):=L.map fun v=>(.int .i64 v,.bool true)
def insM(L:IL)(n:Int):IL:=if n∈L then L else L++[n]
theorem mem_insM{L:IL}{n x:Int}:x∈insM L n↔x∈L∨x=n:=by
 unfold insM;split
 ·grind
 ·simp
theorem findM{n:Int}:∀L:IL,qky (.int .i64 n) (setM L)=some (if n∈L then some (.bool true)else none)
 |[]=>rfl
 |x::L=>by
   simp only[setM,List.map_cons,qky,qex,if_true];by_cases h:n=x
   ·subst h;simp
   · have h':(n==x)=false:=by simpa using h
     rw[h'];have:=findM (n:=n) L;simp only[setM]at this;simp[this,h]
theorem putM{n:Int}:∀L:IL,putK (.int .i64 n) (.bool true) (setM L)=some (setM (insM L n))
 |[]=>rfl
 |x::L=>by
   simp only[setM,List.map_cons,putK,qex,if_true];by_cases h:n=x
   ·subst h;simp[insM]
   · have h':(n==x)=false:=by simpa using h
     rw[h'];have:=putM (n:=n) L;simp only[setM]at this;simp only[this,Option.map];unfold insM;by_cases hm:n∈L
     ·simp[hm]
     ·simp[hm,h]
theorem lookM{H:Hp}{km:Nat}{L:IL}{n:Int}(hk:H[km]?=some (.map (setM L))):qeb .int (.bool false) false (.map (some km)) (.int .i64 n) H=some (.bool (decide (n∈L))):=by simp only[qeb,hk,qe3,if_true,findM];by_cases h:n∈L<;>simp[h]
theorem updM{H:Hp}{km:Nat}{L:IL}{n:Int}{ws:NL}{ups:UL}(hk:H[km]?=some (.map (setM L))):qgg .int (.map (some km)) (.int .i64 n) (.bool true) ⟨H,ws,ups⟩=some ⟨H.set km (.map (setM (insM L n))),wadd km ws,ups⟩:=by simp only[qgg,hk,qe3,if_true,putM,Option.map,PV.top,qau]
mutual
def qci:Tm→IL
 |.mk k n l=>(if k=1 then [n]else [])++qb7 l
def qb7:Ts→IL
 |[]=>[]
 |t::l=>qci t++qb7 l
end
theorem qib{l:Ts}{i:Nat}{t:Tm}(h:l[i]?=some t):qb7 (l.take (i+1))=qb7 (l.take i)++qci t:=by
 induction l generalizing i with
 |nil=>simp at h
 |cons x l ih=>
   cases i with
   |zero=>
     simp only[List.getElem?_cons_zero,Option.some.injEq]at h;subst h;simp[qb7]
   |succ i=>
     have:=ih (by simpa using h);simp only[List.take_succ_cons,qb7,this,List.append_assoc]
theorem qna(t:Tm):qb7 [t]=qci t:=by simp[qb7]
mutual
def grtF:Tm→Int
 |.mk k n l=>max (if k=1 then n else -1) (grtL l)
def grtL:Ts→Int
 |[]=> -1
 |t::l=>max (grtF t) (grtL l)
end
mutual
theorem qs3:∀t:Tm,-1≤grtF t∧∀v∈qci t,v≤grtF t
 |.mk k n l=>by
   obtain⟨h1,h2⟩:=ql6 l;simp only[grtF,qci,mA0];refine⟨by omega,fun v hv=>?_⟩;rcases hv with hv|hv
   ·grind
   ·grind
theorem ql6:∀l:Ts,-1≤grtL l∧∀v∈qb7 l,v≤grtL l
 |[]=>⟨by simp[grtL],fun v hv=>by simp[qb7]at hv⟩
 |t::l=>by
   obtain⟨h1,h2⟩:=qs3 t;obtain⟨h3,h4⟩:=ql6 l;simp only[grtL,qb7,mA0];refine⟨by omega,fun v hv=>?_⟩;rcases hv with hv|hv
   ·grind
   ·grind
end
theorem grtL_take{l:Ts}{i:Nat}{t:Tm}(h:l[i]?=some t):grtL (l.take (i+1))=max (grtL (l.take i)) (grtF t):=by
 induction l generalizing i with
 |nil=>simp at h
 |cons x l ih=>
   cases i with
   |zero=>
     simp only[List.getElem?_cons_zero,Option.some.injEq]at h;subst h;have:=(qs3 x).1;simp only[List.take_succ_cons,List.take_zero,grtL];omega
   |succ i=>
     have:=ih (by simpa using h);simp only[List.take_succ_cons,grtL];omega
theorem Enc.eq{t:Tm}{p:PV}(h:Enc t p):∃k n l sz es,t=.mk k n l∧p=.agg [iv0 k,iv0 n,.slice sz es .any]∧(es=[]∨sz=3)∧EncL l es:=by
 cases h with
 |mk k n l sz es hs hl he=>exact⟨k,n,l,sz,es,rfl,rfl,hs,hl,he⟩
include hT in
theorem qk0{l:Ts}{sz:Nat}{es:PL}{m:SM}(hs:es=[]∨sz=3)(hE:EncL l es)(hal:es.length<1000000)(h:Hp):Ev T 195 [.slice sz es m] h (ba (iv0 (if l.all qa1=true then 0 else 4)) h):=by
 refine hT.wk fn195 (by decide) ?_;have c241:∀(i:Nat)(x:Tm)(p:PV),l[i]?=some x→es[i]?=some p→Ev T 241 (p::[]) h (ba (.bool (!qa1 x)) h):=fun i x p hx hp=>by have ht:=hE.2 i x p hx hp;refine hT.wk fn241 (by decide) ?_;obtain⟨c1,_,c3,_⟩:=ht.cells;have hsub:=ht.sub;have c:=qiv hT ht (h++[row 3 [p]]);simp(disch:=omega) only[go_sem,c1,c3,hsub,cb c,hT.prim,qab]
 have c48:=qji hT (m:=m) (g:=241) (cap:=[]) (by rw[hT.prim];rfl) hs hE.1 hE.2 c241 hal;have hall:(l.any fun x=>!qa1 x)=!(l.all qa1):=by rw[List.not_all_eq_any_not]
 rw[hall]at c48;cases hb:l.all qa1
 · rw[hb]at c48;simp(disch:=omega) only[go_sem,cb c48,hT.prim,qab]
 · rw[hb]at c48;simp(disch:=omega) only[go_sem,cb c48,hT.prim,qab]
include hT in
theorem qii:∀(N:Nat)(l:Ts)(sz:Nat)(es:PL)(m:SM),qba l≤N→N≤100000→(es=[]∨sz=3)→EncL l es→∀h:Hp,Ev T 196 [.slice sz es m] h (ba (iv0 (grtL l)) h):=by
 intro N;induction N with
 |zero=>
   intro l sz es m hN _ hs hE h
   have hl:l=[]:=by
    cases l with
    |nil=>rfl
    |cons x l=>have:=ql0 x;simp only[qba]at hN;omega
   subst hl;have he:es=[]:=lZ0.1 hE.1;subst he;refine hT.wk fn196 (by decide) ?_;simp(disch:=omega) only[go_sem];refine unroll ?_;have h0:¬(0:Int)< ((0:Nat):Int):=by decide
   simp(disch:=omega) only[go_sem,qr1];rfl
 |succ N ih=>
   intro l sz es m hN hN2 hs hE h;refine hT.wk fn196 (by decide) ?_;have hll:=qcd l;have hlen:=hE.1;simp(disch:=omega) only[go_sem];refine wpC.loopM (fun g e st=> ∃(i:Nat)(H:Hp)(ws:NL),i+g=l.length∧Low h.length h H∧(∀x∈ws,h.length≤x)∧(eget e 3=iv0 (grtL (l.take i))∧eget e 6=.slice sz es m∧eget e 7=iv0 (l.length:Int)∧eget e 8=iv0 (i:Int))∧st=⟨H,ws,[]⟩) ?_ l.length _ _ ⟨0,h,[],by omega,Low.refl _ _,by simp,by simp(disch:=omega) only[go_sem,zN0,List.take_zero,grtL,hlen,and_self],rfl⟩;rintro g e st ⟨i,H,ws,hg,low,hw,⟨e3,e6,e7,e8⟩,rfl⟩;by_cases hi:i<l.length
   · have hi1:(i:Int)< (l.length:Int):=by omega
     have hi2:i<es.length:=by omega
     have ga:=qbt hi2;have hx:l[i]?=some l[i]:=gE0 hi;have hEn:=hE.2 i _ _ hx ga;have hgt:=grtL_take hx;have hnd:=qc6 (gX0 hi);have hsz:sz=3:=by grind
     subst hsz;generalize l[i]=x at*;generalize es[i]=p at*;obtain⟨c1,c2,c3,c4⟩:=hEn.cells;have hsub:=hEn.sub;have htop:=hEn.facts.1;have sb:=fun ws=>qa5 (h:=H) (ws:=ws) (ups:=[]) (z:=zq3) (sz:=3) (c:=p) c1 rfl c2 htop ⟨_,rfl⟩ c4;have kp:=gC0 (l:=H) (a:=row 3 [p]);have low2:=low.push (o:=row 3 [p]) low.len;have hlo:=low.len;generalize hH2:H++[row 3 [p]]=H2 at*;generalize hkk:H.length=kk at*;obtain⟨k,n,l',sz',es',rfl,rfl,hs',hE'⟩:=hEn.eq;simp only[Tm.nodes]at hnd;have l0:loadAt false 1 (.pb kk) H2=some (iv0 k):=by rw[qad kp];rfl
     have l1:loadAt false 1 (.ptr kk 0 1 1) H2=some (iv0 n):=by rw[qad kp];rfl
     have l2:loadAt false 1 (.ptr kk 0 2 1) H2=some (.slice sz' es' .any):=by rw[qad kp];rfl
     have c196:=ih l' sz' es' .any (by omega) (by omega) hs' hE' H2;by_cases hk:k=1
     · have hk':(k==1)=true:=by simpa using hk
       simp(disch:=omega) only[go_sem,qr1,e3,e6,e7,e8,hi1,ga,hsub,sb,hkk,l0,l1,l2,hk',cb c196,hT.q];refine⟨g - 1,by omega,i+1,_,_,by omega,low2,qae (by omega) hw,⟨?_,rfl⟩,rfl⟩;rw[hgt];simp only[grtF,hk,if_true];rw[Int.max_assoc]
     · have hk':(k==1)=false:=by simpa using hk
       simp(disch:=omega) only[go_sem,qr1,e3,e6,e7,e8,hi1,ga,hsub,sb,hkk,l0,l2,hk',cb c196,hT.q];refine⟨g - 1,by omega,i+1,_,_,by omega,low2,qae (by omega) hw,⟨?_,rfl⟩,rfl⟩;rw[hgt];have:=(ql6 l').1;simp only[grtF,if_neg hk];rw[show max (-1) (grtL l')=grtL l' by omega]
   · have hi1:¬(i:Int)< (l.length:Int):=by omega
     rw[tL0 (by omega)]at e3;simp(disch:=omega) only[go_sem,qr1,e3,e7,e8,hi1];exact qan rfl rfl low hw
def AppN(H:Hp)(v:PV)(L:IL)(lo:Nat):Prop:=(L=[]∧v=.sn)∨∃kt,v=.slice 1 (L.map encI) (.tok kt)∧H[kt]?=some (.tok 1 L.length)∧lo≤kt
theorem append_N{H:Hp}{v:PV}{L:IL}{lo:Nat}(A:AppN H v L lo)(n:Int)(hl:L.length<100000)(hlo:lo≤H.length):
 ∃(H':Hp)(fw:NL→NL)(kt:Nat),(∀ws ups,appendop 1 8 v (.slice 1 [.int .i64 n] .lit) ⟨H,ws,ups⟩=some (.slice 1 ((L++[n]).map encI) (.tok kt),⟨H',fw ws,ups⟩))∧AppN H' (.slice 1 ((L++[n]).map encI) (.tok kt)) (L++[n]) lo∧(∀(j:Nat)(o:AE.Obj),o.isTok=false→H[j]?=some o→H'[j]?=some o)∧Low lo H H'∧(∀ws,(∀x∈ws,lo≤x)→∀x∈fw ws,lo≤x)∧((∃es,v=.slice 1 es (.tok kt))∨kt=H.length):=by
 have hroom:(L.length+1) *8≤room∧L.length+1≤room:=by
  have:10000000≤room:=by decide
  constructor<;>omega
 rcases A with⟨rfl,rfl⟩|⟨kt,rfl,h2,h3⟩
 · simp at hroom;refine⟨H++[.tok 1 1],fun ws=>ws,H.length,fun ws ups=>?_,.inr ⟨H.length,rfl,by simp,hlo⟩,fun j o _ hj=>qah hj,(Low.refl _ _).push hlo,fun ws hx=>hx,.inr rfl⟩;simp[appendop,qch,PV.cells,PV.isCell,hroom,alloc,encI]
 · refine⟨H.set kt (.tok 1 (L.length+1)),wadd kt,kt,fun ws ups=>?_,.inr ⟨kt,rfl,by rw[qak h2];simp,h3⟩,fun j o ho hj=>qaa hj ?_,.set h3,fun ws hx=>qae h3 hx,.inl ⟨_,rfl⟩⟩
   ·simp[appendop,qch,PV.cells,PV.isCell,hroom,h2,qau,encI]
   · rintro rfl;rw[h2]at hj;cases hj;cases ho
structure VS (H:Hp)(kis km ko:Nat)(v:PV)(L:IL)(lo:Nat):Prop where
 is:H[kis]?=some (.row 1 [.map (some km)])
 mp:H[km]?=some (.map (setM L))
 out:H[ko]?=some (.row 1 [v])
 ap:AppN H v L lo
 ne:kis≠ko∧lo≤km∧lo≤ko
def TE(ko:Nat)(v0 v:PV)(ups:UL):Prop:=∀kt es,v=.slice 1 es (.tok kt)→(∃es0,v0=.slice 1 es0 (.tok kt))∨(ko,kt)∈ups
def KeepR(H H':Hp)(ko:Nat):Prop:=∀(j sz:Nat)(r:PL),j≠ko→H[j]?=some (.row sz r)→H'[j]?=some (.row sz r)
variable {H:Hp}{kis km ko lo:Nat}{v0:PV}{L0:IL}
theorem TE.refl:TE ko v0 v0 []:=fun kt es h=>.inl ⟨es,h⟩
theorem TE.trans{v1 v2:PV}{u1 u2:UL}(h1:TE ko v0 v1 u1)(h2:TE ko v1 v2 u2):TE ko v0 v2 (u2++u1):=fun kt es h=>by
 rcases h2 kt es h with⟨es0,h3⟩|h3
 · rcases h1 kt es0 h3 with h4|h4
   ·exact .inl h4
   ·grind
 ·grind
theorem VS.push{v:PV}{L:IL}{o:AE.Obj}(S:VS H kis km ko v L lo):VS (H++[o]) kis km ko v L lo:=by
 refine⟨qah S.is,qah S.mp,qah S.out,?_,S.ne⟩;rcases S.ap with h|⟨kt,h1,h2,h3⟩
 ·exact .inl h
 ·exact .inr ⟨kt,h1,qah h2,h3⟩
structure VStep (H H':Hp)(ws:NL)(ups:UL)(kis km ko lo:Nat)(v0:PV)(L':IL):Prop where
 st:∃v,VS H' kis km ko v L' lo∧TE ko v0 v ups
 keep:KeepR H H' ko
 low:Low lo H H'
 ws:∀x∈ws,lo≤x
 ups:∀x∈ups,lo≤x.1
theorem qor{H1:Hp}{ws:NL}{ups:UL}{L':IL}(S0:VS H kis km ko v0 L0 lo)(V:VStep H H1 ws ups kis km ko lo v0 L')(hlo:lo≤H.length):
 ∃H' ws' ups',tidy 0 H.length (.val (.tuple [])) ⟨H1,ws,ups⟩=(.val (.tuple []),⟨H',ws',ups'⟩)∧VStep H H' ws' ups' kis km ko lo v0 L':=by
 obtain⟨⟨v,S,te⟩,keep,low,hw,hu⟩:=V;have hwb:∀x∈below H.length ws,lo≤x:=fun x hx=>hw x (List.mem_filter.1 hx).1;by_cases hc:(ups.any fun(k,j)=>k<H.length&&H.length≤j)=true
 ·exact⟨H1,below H.length ws,ups,by unfold tidy;rw[if_neg (by decide),if_pos hc],⟨v,S,te⟩,keep,low,hwb,hu⟩
 · have hf:frz H1 H.length 64 (.tuple [])=some (.tuple []):=qb0 rfl;refine⟨H1.take H.length,below H.length ws,ups.filter fun(k,_)=>k<H.length,?_,?_⟩
   · unfold tidy;rw[if_neg (by decide),if_neg hc];simp only[OR.v,hf,OR.put];rfl
   · have hnc:∀k j,(k,j)∈ups→k<H.length→j<H.length:=fun k j hm hk=>by
      rcases Nat.lt_or_ge j H.length with h|h
      ·exact h
      ·grind
     have l1:=(gI0.1 S0.is).1;have l2:=(gI0.1 S0.mp).1;have l3:=(gI0.1 S0.out).1;have tk:∀(j:Nat)(o:AE.Obj),j<H.length→H1[j]?=some o→(H1.take H.length)[j]?=some o:=fun j o hj h=>by rw[List.getElem?_take_of_lt hj];exact h
     have ap:AppN (H1.take H.length) v L' lo:=by
      rcases S.ap with h|⟨kt,h1,h2,h3⟩
      ·exact .inl h
      · refine .inr ⟨kt,h1,tk _ _ ?_ h2,h3⟩;rcases te kt _ h1 with⟨es0,h4⟩|h4
        · rcases S0.ap with⟨_,h5⟩|⟨kt',h5,h6,_⟩
          ·grind
          ·grind
        ·grind
     refine⟨⟨v,⟨tk _ _ l1 S.is,tk _ _ l2 S.mp,tk _ _ l3 S.out,ap,S.ne⟩,fun kt es h=>?_⟩,fun j sz r hj h=>tk _ _ (gI0.1 h).1 (keep j sz r hj h),⟨?_,?_⟩,hwb,fun x hx=>hu x (List.mem_filter.1 hx).1⟩
     · rcases te kt es h with h4|h4
       ·grind
       ·grind
     ·rw[List.take_take,Nat.min_eq_left hlo,low.take]
     · have:=low.len;simp;omega
theorem VStep.refl(S0:VS H kis km ko v0 L0 lo):VStep H H [] [] kis km ko lo v0 L0:=⟨⟨v0,S0,TE.refl⟩,fun _ _ _ _ h=>h,Low.refl _ _,by simp,by simp⟩
def qke(L:IL)(t:Tm):IL:=(qci t).foldl insM L
def qbh(L:IL)(l:Ts):IL:=(qb7 l).foldl insM L
theorem qc9:∀(vs L:IL),(vs.foldl insM L).length≤L.length+vs.length
 |[],L=>by simp
 |v::vs,L=>by
   have h1:=qc9 vs (insM L v);have h2:(insM L v).length≤L.length+1:=by unfold insM;split<;>simp
   simp only[List.foldl_cons,List.length_cons];omega
mutual
theorem varsF_len:∀t:Tm,(qci t).length≤t.nodes
 |.mk k n l=>by have:=qe7 l;simp only[qci,Tm.nodes,lA0];split<;>simp<;>omega
theorem qe7:∀l:Ts,(qb7 l).length≤qba l
 |[]=>by simp[qb7]
 |t::l=>by have:=varsF_len t;have:=qe7 l;simp only[qb7,qba,lA0];omega
end
include hT in
theorem vars1_ev{k n:Int}{sz:Nat}{es:PL}(hp:(PV.agg [.int .i64 k,.int .i64 n,.slice sz es .any]).top=none)(S0:VS H kis km ko v0 L0 lo)(hlo:lo≤H.length)(hL:L0.length<100000):
 ∃H' ws' ups',Ev T 202 [.agg [.int .i64 k,.int .i64 n,.slice sz es .any],.pb kis,.pb ko] H (.val (.tuple []),⟨H',ws',ups'⟩)∧VStep H H' ws' ups' kis km ko lo v0 (if k=1 then insM L0 n else L0):=by
 have W:∃x:Hp×NL×UL,Ev T 202 [.agg [.int .i64 k,.int .i64 n,.slice sz es .any],.pb kis,.pb ko] H (.val (.tuple []),⟨x.1,x.2.1,x.2.2⟩)∧VStep H x.1 x.2.1 x.2.2 kis km ko lo v0 (if k=1 then insM L0 n else L0):=by
  refine hT.wp (r:=fun x:Hp×NL×UL=>(.val (.tuple []),⟨x.1,x.2.1,x.2.2⟩)) fn202 (by decide) ?_;generalize hP:PV.agg [.int .i64 k,.int .i64 n,.slice sz es .any]=P at*;have c1:P.cells.length=3:=by rw[←hP];rfl
  have c3:P.isDef=true:=by rw[←hP];rfl
  have S1:=S0.push (o:=.row 3 [P]);have kp:=gC0 (l:=H) (a:=row 3 [P]);have keep1:KeepR H (H++[row 3 [P]]) ko:=fun j sz r _ h=>qah h;have low1:Low lo H (H++[row 3 [P]]):=(Low.refl _ _).push hlo;have hlo1:lo≤(H++[row 3 [P]]).length:=by simp;omega
  have hko:=(gI0.1 S0.out).1;have hkm:=(gI0.1 S0.mp).1;have hn1:(H++[row 3 [P]]).length=H.length+1:=by simp
  generalize hH1:H++[row 3 [P]]=H1 at*;have l0:loadAt false 1 (.pb H.length) H1=some (.int .i64 k):=by rw[qad kp,←hP];rfl
  have l1:loadAt false 1 (.ptr H.length 0 1 1) H1=some (.int .i64 n):=by rw[qad kp,←hP];rfl
  have li:loadAt false 1 (.pb kis) H1=some (.map (some km)):=by rw[qad S1.is];rfl
  have lk:=lookM (n:=n) S1.mp;have V1:VStep H H1 [] [] kis km ko lo v0 L0:=⟨⟨v0,S1,TE.refl⟩,keep1,low1,by simp,by simp⟩;by_cases hk:k=1
  · have hk':(k==1)=true:=by simpa using hk
    rw[if_pos hk];by_cases hm:n∈L0
    · obtain⟨H',ws',ups',td,V⟩:=qor S0 V1 hlo;simp(disch:=omega) only[go_sem,hH1,c1,c3,l0,l1,li,hk',lk,hm,td];have:insM L0 n=L0:=by simp[insM,hm]
      rw[this];exact⟨(H',ws',ups'),rfl,V⟩
    · have hins:insM L0 n=L0++[n]:=by simp[insM,hm]
      have um:=fun ws ups=>updM (n:=n) (ws:=ws) (ups:=ups) S1.mp;rw[hins]at um⊢;have hkmo:km≠ko:=by intro h;have h1:=S1.mp;rw[h,S1.out]at h1;cases h1
      have o2:(H1.set km (.map (setM (L0++[n]))))[ko]?=some (.row 1 [v0]):=qaa S1.out hkmo;have i2:(H1.set km (.map (setM (L0++[n]))))[kis]?=some (.row 1 [.map (some km)]):=qaa S1.is (by intro h;have h1:=S1.mp;rw[h,S1.is]at h1;cases h1);have p2:(H1.set km (.map (setM (L0++[n]))))[H.length]?=some (.row 3 [P]):=qaa kp (by omega);have m2:(H1.set km (.map (setM (L0++[n]))))[km]?=some (.map (setM (L0++[n]))):=qak S1.mp
      have A2:AppN (H1.set km (.map (setM (L0++[n])))) v0 L0 lo:=by
       rcases S1.ap with h|⟨kt,h1,h2,h3⟩
       ·exact .inl h
       · refine .inr ⟨kt,h1,qaa h2 ?_,h3⟩;intro h;have h4:=S1.mp;rw[h,h2]at h4;cases h4
      have keep2:KeepR H (H1.set km (.map (setM (L0++[n])))) ko:=fun j sz r hj h=>qaa (keep1 j sz r hj h) (by intro hx;have h4:=S0.mp;rw[hx,h]at h4;cases h4);have low2:Low lo H (H1.set km (.map (setM (L0++[n])))):=low1.trans (.set S0.ne.2.1);have hn2:(H1.set km (.map (setM (L0++[n])))).length=H.length+1:=by simp[hn1]
      generalize hH2:H1.set km (.map (setM (L0++[n])))=H2 at*;have lv:loadAt false 1 (.pb ko) H2=some v0:=by rw[qad o2];rcases A2 with⟨_,h⟩|⟨kt,h,_⟩<;>rw[h]<;>rfl
      have l12:loadAt false 1 (.ptr H.length 0 1 1) H2=some (.int .i64 n):=by rw[qad p2,←hP];rfl
      have fe:qda 1 (List.replicate 1 (PV.int .i64 0)) [(0,.int .i64 n)]=some [.int .i64 n]:=rfl;obtain⟨H3,fw,kt,ap,A3,keep3,low3,hfw,hkt⟩:=append_N A2 n hL (by omega);have o3:=keep3 _ _ rfl o2;have i3:=keep3 _ _ rfl i2;have m3:=keep3 _ _ rfl m2;have htop:(PV.slice 1 ((L0++[n]).map encI) (.tok kt)).top=some kt:=by show omax (some kt) (tops _)=some kt;rw[qp2];rfl
      have sv:∀ws ups,storeAt 1 (.pb ko) (.slice 1 ((L0++[n]).map encI) (.tok kt)) ⟨H3,ws,ups⟩=some ⟨H3.set ko (.row 1 [.slice 1 ((L0++[n]).map encI) (.tok kt)]),wadd ko ws,if ko<kt then(ko,kt)::ups else ups⟩:=fun ws ups=>by
       have hu:upd v0 0 (.slice 1 ((L0++[n]).map encI) (.tok kt))=some (.slice 1 ((L0++[n]).map encI) (.tok kt)):=by rcases A2 with⟨_,h⟩|⟨kt,h,_⟩<;>rw[h]<;>rfl
       simp only[storeAt,o3,ll0,PV.cells,List.all_cons,List.all_nil,PV.isCell,Bool.and_self,and_self,if_true,List.getElem?_cons_zero,hu,Option.map,sC0,htop];rw[qcj]
      have hkto:kt≠ko:=by
       intro h;rcases A3 with⟨h1,_⟩|⟨kt',h1,h2,_⟩
       ·simp at h1
       ·grind
      have S4:VS (H3.set ko (.row 1 [.slice 1 ((L0++[n]).map encI) (.tok kt)])) kis km ko (.slice 1 ((L0++[n]).map encI) (.tok kt)) (L0++[n]) lo:=by
       refine⟨qaa i3 (Ne.symm S0.ne.1),qaa m3 (Ne.symm hkmo),qak o3,?_,S0.ne⟩;rcases A3 with⟨h1,_⟩|⟨kt',h1,h2,h3⟩
       ·simp at h1
       · cases h1;exact .inr ⟨kt,rfl,qaa h2 (Ne.symm hkto),h3⟩
      have te:TE ko v0 (.slice 1 ((L0++[n]).map encI) (.tok kt)) (if ko<kt then [(ko,kt)]else []):=fun kt' es' h=>by
       cases h;rcases hkt with⟨es0,h1⟩|h1
       ·grind
       ·grind
      have V4:VStep H (H3.set ko (.row 1 [.slice 1 ((L0++[n]).map encI) (.tok kt)])) (wadd ko (fw (wadd km []))) (if ko<kt then [(ko,kt)]else []) kis km ko lo v0 (L0++[n]):=by
       refine⟨⟨_,S4,te⟩,fun j sz r hj h=>qaa (keep3 _ _ rfl (keep2 j sz r hj h)) (Ne.symm hj),(low2.trans low3).trans (.set S0.ne.2.2),qae S0.ne.2.2 (hfw _ (qae S0.ne.2.1 (by simp))),fun x hx=>?_⟩;split at hx
       ·rw[mS0.1 hx];exact S0.ne.2.2
       ·cases hx
      obtain⟨H',ws',ups',td,V⟩:=qor S0 V4 hlo;simp(disch:=omega) only[go_sem,hH1,c1,c3,l0,l1,li,hk',lk,hm,um,lv,l12,fe,ap,sv,td];exact⟨(H',ws',ups'),rfl,V⟩
  · have hk':(k==1)=false:=by simpa using hk
    rw[if_neg hk];obtain⟨H',ws',ups',td,V⟩:=qor S0 V1 hlo;simp(disch:=omega) only[go_sem,hH1,c1,c3,l0,hk',td];exact⟨(H',ws',ups'),rfl,V⟩
 obtain⟨x,h1,h2⟩:=W;exact⟨x.1,x.2.1,x.2.2,h1,h2⟩
end Go.Proofs.Tryz
namespace Go.Proofs.Tryz
open Go Go.AE
open Go.AE.Obj (row)
variable {T:Tbl}(hT:Std T)
variable {H:Hp}{kis km ko lo:Nat}{v0:PV}{L0:IL}
theorem VStep.push{H1:Hp}{ws:NL}{ups:UL}{L:IL}{o:AE.Obj}(V:VStep H H1 ws ups kis km ko lo v0 L)(hlo:lo≤H.length):VStep H (H1++[o]) ws ups kis km ko lo v0 L:=by obtain⟨⟨v,S,te⟩,keep,low,hw,hu⟩:=V;have:=low.len;exact⟨⟨v,S.push,te⟩,fun j sz r hj h=>qah (keep j sz r hj h),low.push (by omega),hw,hu⟩
theorem VStep.next{H1 H2:Hp}{ws1 ws2 ws:NL}{ups1 ups2:UL}{v1:PV}{L1 L2:IL}(V1:VStep H H1 ws1 ups1 kis km ko lo v0 L1)(te:TE ko v0 v1 ups1)(V2:VStep H1 H2 ws2 ups2 kis km ko lo v1 L2)(hw:∀x∈ws,lo≤x):VStep H H2 ws (ups2++ups1) kis km ko lo v0 L2:=by
 obtain⟨⟨v,S,te2⟩,keep,low,_,hu⟩:=V2;refine⟨⟨v,S,te.trans te2⟩,fun j sz r hj h=>keep j sz r hj (V1.keep j sz r hj h),V1.low.trans low,hw,fun x hx=>?_⟩;rcases mA0.1 hx with h|h
 ·exact hu x h
 ·exact V1.ups x h
include hT in
theorem walk_ev{t:Tm}{p:PV}(ht:Enc t p):∀(H:Hp)(v0:PV)(L0:IL),VS H kis km ko v0 L0 lo→lo≤H.length→L0.length+t.nodes<100000→
 ∃H' ws' ups',Ev T 201 [p,.func (.func 202) [] [.pb kis,.pb ko]] H (.val (.tuple []),⟨H',ws',ups'⟩)∧VStep H H' ws' ups' kis km ko lo v0 (qke L0 t):=by
 have hfc:=ht.facts;have hcl:=ht.cells;induction ht with
 |mk k n l sz es hs hl he ih=>
   intro H v0 L0 S0 hlo hN
   have W:∃x:Hp×NL×UL,Ev T 201 [.agg [iv0 k,iv0 n,.slice sz es .any],.func (.func 202) [] [.pb kis,.pb ko]] H (.val (.tuple []),⟨x.1,x.2.1,x.2.2⟩)∧VStep H x.1 x.2.1 x.2.2 kis km ko lo v0 (qke L0 (.mk k n l)):=by
    refine hT.wp (r:=fun x:Hp×NL×UL=>(.val (.tuple []),⟨x.1,x.2.1,x.2.2⟩)) fn201 (by decide) ?_;simp only[Tm.nodes]at hN;have hll:=qcd l;have hsub:sub true 3 (PV.agg [iv0 k,iv0 n,.slice sz es .any]) 0=some (PV.agg [iv0 k,iv0 n,.slice sz es .any]):=rfl;have hLs:sub false 1 (PV.agg [iv0 k,iv0 n,.slice sz es .any]) 2=some (.slice sz es .any):=rfl;have E202:=fun H (S:VS H kis km ko v0 L0 lo)(h:lo≤H.length)=>vars1_ev hT (k:=k) (n:=n) (sz:=sz) (es:=es) hfc.1 S h (by omega);generalize hP:PV.agg [iv0 k,iv0 n,.slice sz es .any]=P at*;obtain⟨c1,_,c3,_⟩:=hcl;have S1:=S0.push (o:=.row 3 [P]);have V1:=(VStep.refl S0).push (o:=.row 3 [P]) hlo;have kp:=gC0 (l:=H) (a:=row 3 [P]);have hlo1:lo≤(H++[row 3 [P]]).length:=by simp;omega
    have hko:=(gI0.1 S0.out).1;generalize hH1:H++[row 3 [P]]=H1 at*;have l0:loadAt true 3 (.pb H.length) H1=some P:=by rw[qad kp];exact hsub
    obtain⟨H2,ws2,ups2,ev2,V2⟩:=E202 H1 S1 hlo1;have kp2:=V2.keep _ _ _ (by omega) kp;have V12:=V1.next TE.refl V2 V2.ws;rw[List.append_nil]at V12;have l2:loadAt false 1 (.ptr H.length 0 2 1) H2=some (.slice sz es .any):=by rw[qad kp2];exact hLs
    have hws:∀x∈wall ws2 [],lo≤x:=fun x hx=>by
     rcases qat hx with h|h
     ·exact V2.ws x h
     ·cases h
    have hL2:(if k=1 then insM L0 n else L0)=(if k=1 then [n]else []).foldl insM L0:=by split<;>rfl
    rw[hL2]at V12;generalize hL1:(if k=1 then [n]else []).foldl insM L0=L1 at*;have hL1l:L1.length≤L0.length+1:=by have:=qc9 (if k=1 then [n]else []) L0;rw[hL1]at this;split at this<;>simp at this<;>omega
    have hfin:qke L0 (.mk k n l)=qbh L1 l:=by simp only[qke,qbh,qci,List.foldl_append,hL1]
    simp(disch:=omega) only[go_sem,hH1,c1,c3,l0,cb ev2,hT.prim,qab,l2,List.append_nil];refine wpC.loopM (fun g e st=> ∃(i:Nat)(Hx:Hp)(ws:NL)(ups:UL),i+g=l.length∧VStep H Hx ws ups kis km ko lo v0 (qbh L1 (l.take i))∧(eget e 1=.func (.func 202) [] [.pb kis,.pb ko]∧eget e 10=.slice sz es .any∧eget e 11=iv0 (l.length:Int)∧eget e 12=iv0 (i:Int))∧st=⟨Hx,ws,ups⟩) ?_ l.length _ _ ⟨0,H2,_,_,by omega,⟨by simpa[qbh,qb7]using V12.st,V12.keep,V12.low,hws,V12.ups⟩,by simp(disch:=omega) only[go_sem,zN0,hl,and_self],rfl⟩;rintro g e st ⟨i,Hx,ws,ups,hg,V,⟨e1,e10,e11,e12⟩,rfl⟩;by_cases hi:i<l.length
    · have hi1:(i:Int)< (l.length:Int):=by omega
      have hi2:i<es.length:=by omega
      have ga:=qbt hi2;have hx:l[i]?=some l[i]:=gE0 hi;have hEn:=he i _ _ hx ga;have ihx:=ih i _ _ hx ga hEn.facts hEn.cells;have hvt:=qib hx;have hgt:=qn1 hx;have hsz:sz=3:=by grind
      subst hsz;generalize l[i]=x at*;generalize es[i]=q at*;obtain⟨b1,b2,_,b4⟩:=hEn.cells;have bs:=hEn.sub;have sb:=fun ws ups=>qa5 (h:=Hx) (ws:=ws) (ups:=ups) (z:=zq3) (sz:=3) (c:=q) b1 rfl b2 hEn.facts.1 ⟨_,rfl⟩ b4;have hHx:=V.low.len;have V3:=V.push (o:=.row 3 [q]) hlo;have kq:=gC0 (l:=Hx) (a:=row 3 [q]);have hlo3:lo≤(Hx++[row 3 [q]]).length:=by simp;omega
      generalize hH3:Hx++[row 3 [q]]=H3 at*;generalize hkq:Hx.length=kq' at*;have lq:loadAt true 3 (.pb kq') H3=some q:=by rw[qad kq];exact bs
      have hlen:(qbh L1 (l.take i)).length≤L1.length+qba (l.take i):=by have h1:=qc9 (qb7 (l.take i)) L1;have h2:=qe7 (l.take i);unfold qbh;omega
      obtain⟨⟨v3,S3,te3⟩,_,_,_,_⟩:=id V3;obtain⟨H4,ws4,ups4,ev4,V4⟩:=ihx H3 v3 _ S3 hlo3 (by omega);simp(disch:=omega) only[go_sem,a201b0,e1,e10,e11,e12,hi1,ga,bs,sb,hkq,lq,cb ev4,hT.q]
      have hwf:∀(ws':NL),(∀x∈ws',x∈ws4∨x=kq'∨x∈ws)→∀x∈ws',lo≤x:=fun ws' hh x hx=>by
       rcases hh x hx with h|h|h
       ·exact V4.ws x h
       ·omega
       ·grind
      refine⟨g - 1,by omega,i+1,_,_,_,by omega,?_,rfl,rfl⟩;have hv:qbh L1 (l.take (i+1))=qke (qbh L1 (l.take i)) x:=by simp only[qbh,qke,hvt,List.foldl_append]
      rw[hv];refine V3.next te3 V4 (hwf _ fun x hx=>?_);rcases qat hx with h|h
      ·grind
      · rcases qa3 h with h|h
        ·omega
        ·grind
    · have hi1:¬(i:Int)< (l.length:Int):=by omega
      rw[tL0 (by omega)]at V;obtain⟨H',ws',ups',td,V'⟩:=qor S0 V hlo;simp(disch:=omega) only[go_sem,a201b0,e11,e12,hi1,td];exact⟨(H',ws',ups'),rfl,by rw[hfin];exact V'⟩
   obtain⟨x,h1,h2⟩:=W;exact⟨x.1,x.2.1,x.2.2,h1,h2⟩
end Go.Proofs.Tryz
namespace Go.Proofs.Tryz
open Go Go.AE
open Go.AE.Obj (row)
variable {T:Tbl}(hT:Std T)
set_option maxHeartbeats 200000 in
include hT in
theorem vars_ev{l:Ts}{sz:Nat}{es:PL}{m:SM}(hs:es=[]∨sz=3)(hE:EncL l es)(hN:qba l<90000)(h:Hp):
 ∃z:Nat,Ev T 156 [.slice sz es m] h (ba (.slice z ((qbh [] l).map encI) .any) h)∧(qbh [] l=[]∨z=1):=by
 refine Ev.walkP (r:=fun z:Nat=>(ba (.slice z ((qbh [] l).map encI) .any) h)) (hT.sp _ (by decide)) ((hT.fn _).trans fn156) (hT.mode _) rfl ?_;have hll:=qcd l;have hl:=hE.1;have a1:=gC0 (l:=h) (a:=row 1 [.sn]);have n1:(h++[row 1 [.sn]]).length=h.length+1:=by simp
 have low1:Low h.length h (h++[row 1 [.sn]]):=(Low.refl _ _).push (nR0 _);generalize hH1:h++[row 1 [.sn]]=H1 at*;have a2:=gC0 (l:=H1) (a:=AE.Obj.map []);have b2:=qah (o2:=AE.Obj.map []) a1;have n2:(H1++[AE.Obj.map []]).length=h.length+2:=by simp;omega
 have low2:=low1.push (o:=AE.Obj.map []) (by omega);generalize hH2:H1++[AE.Obj.map []]=H2 at*;have a3:=gC0 (l:=H2) (a:=row 1 [.map none]);have b3:=qah (o2:=row 1 [.map none]) b2;have c3:=qah (o2:=row 1 [.map none]) a2;have low3:=low2.push (o:=row 1 [.map none]) (by omega);have n3:(H2++[row 1 [.map none]]).length=h.length+3:=by simp;omega
 generalize hH3:H2++[row 1 [.map none]]=H3 at*;generalize hk1:H1.length=k1 at*;generalize hk2:H2.length=k2 at*;obtain⟨u0,st0,hu0⟩:=st_any (ws:=[]) (ups:=[]) (v:=.map (some k1)) a3 rfl ⟨rfl,rfl⟩;have S:VS (H3.set k2 (.row 1 [.map (some k1)])) k2 k1 h.length .sn [] h.length:=⟨qak a3,qaa c3 (by omega),qaa b3 (by omega),.inl ⟨rfl,rfl⟩,by omega,by omega,nR0 _⟩;have low4:Low h.length h (H3.set k2 (.row 1 [.map (some k1)])):=low3.trans (.set (by omega));have n4:(H3.set k2 (.row 1 [.map (some k1)])).length=h.length+3:=by simp[n3]
 generalize hH4:H3.set k2 (.row 1 [.map (some k1)])=H4 at*;simp(disch:=omega) only[go_sem,hH1,hH2,hk1,hH3,hk2,st0];have V0:∀ws:NL,(∀x∈ws,h.length≤x)→VStep H4 H4 ws [] k2 k1 h.length h.length .sn (qbh [] (l.take 0)):=fun ws hw=>⟨⟨.sn,by simpa[qbh,qb7]using S,TE.refl⟩,fun _ _ _ _ h=>h,Low.refl _ _,hw,by simp⟩
 have hu0':∀x∈u0,h.length≤x.1:=fun x hx=>by
  rcases hu0 x hx with h|h
  ·cases h
  ·omega
 refine wpC.loopM (fun g e st=> ∃(i:Nat)(Hx:Hp)(ws:NL)(ups:UL),i+g=l.length∧VStep H4 Hx ws ups k2 k1 h.length h.length .sn (qbh [] (l.take i))∧(eget e 3=.pb h.length∧eget e 4=.pb k2∧eget e 8=.slice sz es m∧eget e 9=iv0 (l.length:Int)∧eget e 10=iv0 (i:Int))∧st=⟨Hx,ws,ups++u0⟩) ?_ l.length _ _ ⟨0,H4,_,[],by omega,V0 _ (fun x hx=>by repeat' first|omega|(cases hx;done)|(rcases qat hx with hx|hx)|(rcases qa3 hx with hx|hx)),by simp(disch:=omega) only[go_sem,zN0,hl,and_self],rfl⟩;rintro g e st ⟨i,Hx,ws,ups,hg,V,⟨e3,e4,e8,e9,e10⟩,rfl⟩;by_cases hi:i<l.length
 · have hi1:(i:Int)< (l.length:Int):=by omega
   have hi2:i<es.length:=by omega
   have ga:=qbt hi2;have hx:l[i]?=some l[i]:=gE0 hi;have hEn:=hE.2 i _ _ hx ga;have hvt:=qib hx;have hgt:=qn1 hx;have hsz:sz=3:=by grind
   subst hsz;generalize l[i]=x at*;generalize es[i]=q at*;obtain⟨b1,b2,_,b4⟩:=hEn.cells;have bs:=hEn.sub;have sb:=fun ws ups=>qa5 (h:=Hx) (ws:=ws) (ups:=ups) (z:=zq3) (sz:=3) (c:=q) b1 rfl b2 hEn.facts.1 ⟨_,rfl⟩ b4;have hHx:=V.low.len;have V3:=V.push (o:=.row 3 [q]) (by omega);have kq:=gC0 (l:=Hx) (a:=row 3 [q]);have hlo3:h.length≤(Hx++[row 3 [q]]).length:=by simp;omega
   generalize hH5:Hx++[row 3 [q]]=H5 at*;generalize hkq:Hx.length=kq' at*;have lq:loadAt true 3 (.pb kq') H5=some q:=by rw[qad kq];exact bs
   have hlen:(qbh [] (l.take i)).length≤qba (l.take i):=by have h1:=qc9 (qb7 (l.take i)) [];have h2:=qe7 (l.take i);unfold qbh;simp at h1;omega
   obtain⟨⟨v3,S3,te3⟩,_,_,_,_⟩:=id V3;obtain⟨H6,ws6,ups6,ev6,V6⟩:=walk_ev hT hEn H5 v3 _ S3 hlo3 (by omega);simp(disch:=omega) only[go_sem,a156b0,e3,e4,e8,e9,e10,hi1,ga,bs,sb,hkq,lq,cb ev6,hT.q];refine⟨g - 1,by omega,i+1,H6,_,ups6++ups,by omega,?_,rfl,by rw[List.append_assoc]⟩;have hv:qbh [] (l.take (i+1))=qke (qbh [] (l.take i)) x:=by simp only[qbh,qke,hvt,List.foldl_append]
   rw[hv];refine V3.next te3 V6 fun x hx=>?_;rcases qat hx with h|h
   ·exact V6.ws x h
   · rcases qa3 h with h|h
     ·omega
     ·exact V.ws x h
 · have hi1:¬(i:Int)< (l.length:Int):=by omega
   rw[tL0 (by omega)]at V;obtain⟨⟨v,S',_⟩,_,low',hw,hu⟩:=V;have hlow:=low4.trans low'
   have td:∀z m,tidy 0 h.length (.val (.slice z ((qbh [] l).map encI) m)) ⟨Hx,ws,ups++u0⟩=(ba (.slice z ((qbh [] l).map encI) .any) h):=fun z m=>by
    have hp:∀L:IL,qas (L.map encI)=true∧qaq (L.map encI)=L.map encI:=fun L=>by
     induction L with
     |nil=>exact⟨rfl,rfl⟩
     |cons x L ih=>simp[qas,qaq,ih,encI,PV.pure,PV.weak]
    rw[qa9 (by simp[PV.pure,(hp _).1]) hlow hw fun x hx=>?_]
    ·simp[PV.weak,(hp _).2]
    · rcases mA0.1 hx with h|h
      ·exact hu x h
      ·exact hu0' x h
   rcases S'.ap with⟨h1,h2⟩|⟨kt,h1,_⟩
   · have lv:loadAt false 1 (.pb h.length) Hx=some (.slice 0 ((qbh [] l).map encI) .nil):=by rw[qad S'.out,h2,h1];rfl
     simp(disch:=omega) only[go_sem,a156b0,e3,e9,e10,hi1,lv,td];exact⟨0,rfl,.inl h1⟩
   · have lv:loadAt false 1 (.pb h.length) Hx=some (.slice 1 ((qbh [] l).map encI) (.tok kt)):=by rw[qad S'.out,h1];rfl
     simp(disch:=omega) only[go_sem,a156b0,e3,e9,e10,hi1,lv,td];exact⟨1,rfl,.inr rfl⟩
def qgs(l:Ts):IL:=if l.all qa1=true then qbh [] l else []
theorem qf3:∀{l:Ts},l.all qa1=true→qba l≤2000*l.length
 |[],_=>by simp[qba]
 |t::l,h=>by simp only[List.all_cons,bA0]at h;have:=qf3 h.2;have h1:=h.1;simp only[qa1,bA0,dE0]at h1;simp only[qba,List.length_cons];omega
include hT in
theorem varsT_ev{l:Ts}{sz:Nat}{es:PL}{m:SM}(hs:es=[]∨sz=3)(hE:EncL l es)(hl:l.length≤40)(h:Hp):
 ∃z:Nat,Ev T 252 [.slice sz es m] h (ba (.slice z ((qgs l).map encI) .any) h)∧(qgs l=[]∨z=1):=by
 have c195:=qk0 hT (m:=m) hs hE (by have:=hE.1;omega) h;refine Ev.walkP (r:=fun z:Nat=>(ba (.slice z ((qgs l).map encI) .any) h)) (hT.sp _ (by decide)) ((hT.fn _).trans fn252) (hT.mode _) rfl ?_;cases hb:l.all qa1
 · have hv:qgs l=[]:=by simp[qgs,hb]
   rw[hb]at c195;have h4:((4:Int) !=0)=true:=rfl;simp(disch:=omega) only[go_sem,cb c195,hT.prim,qab,bF0,h4,hv];exact⟨0,qa9 rfl (Low.refl _ _) (by simp) (by simp),.inl trivial⟩
 · have hv:qgs l=qbh [] l:=by simp[qgs,hb]
   rw[hb]at c195;have:=qf3 hb;obtain⟨z,ev,hz⟩:=vars_ev hT (m:=m) hs hE (by omega) h
   have hp:∀L:IL,qas (L.map encI)=true∧qaq (L.map encI)=L.map encI:=fun L=>by
    induction L with
    |nil=>exact⟨rfl,rfl⟩
    |cons x L ih=>simp[qas,qaq,ih,encI,PV.pure,PV.weak]
   have td:tidy 0 h.length (.val (.slice z ((qbh [] l).map encI) .any)) ⟨h,[],[]⟩=(ba (.slice z ((qbh [] l).map encI) .any) h):=by rw[qa9 (by simp[PV.pure,(hp _).1]) (Low.refl _ _) (by simp) (by simp)];simp[PV.weak,(hp _).2]
   simp(disch:=omega) only[go_sem,cb c195,hT.prim,qab,bne_self_eq_false,cb ev,td,hv];exact⟨z,rfl,hz⟩
end Go.Proofs.Tryz
namespace Go.Proofs.Tryz
open Go Go.AE
open Go.AE.Obj (row)
variable {T:Tbl}(hT:Std T){s:GSig}
mutual
def srtF(s:GSig)(vs:IL):Tm→Option Int
 |.mk k n l=>if k=1 then vs[n.toNat]? else match s.ops[n.toNat]? with
   |some o=>if(decide (l.length=o.args.length)&&srtL s vs l o.args)=true then some o.res else none
   |none=>none
def srtL(s:GSig)(vs:IL):Ts→IL→Bool
 |[],_=>true
 |t::l,bs=>decide (srtF s vs t=some (bs.getD 0 0))&&srtL s vs l (bs.drop 1)
end
theorem qjs{s:GSig}{vs:IL}:∀{l:Ts}{bs:IL}(i:Nat){x:Tm},l[i]?=some x→srtF s vs x≠some (bs.getD i 0)→srtL s vs l bs=false
 |t::l,bs,0,x,hx,h=>by
   simp only[List.getElem?_cons_zero,Option.some.injEq]at hx;subst hx;simp only[srtL,h,decide_false,Bool.false_and]
 |t::l,bs,i+1,x,hx,h=>by have:=qjs (s:=s) (vs:=vs) (l:=l) (bs:=bs.drop 1) i (x:=x) (by simpa using hx) (by rw[gD0,List.getElem?_drop,Nat.add_comm 1 i,←gD0];exact h);simp only[srtL,this,Bool.and_false]
theorem qqc{s:GSig}{vs:IL}:∀{l:Ts}{bs:IL},(∀(i:Nat)(x:Tm),l[i]?=some x→srtF s vs x=some (bs.getD i 0))→srtL s vs l bs=true
 |[],_,_=>rfl
 |t::l,bs,h=>by
   have h1:=h 0 t rfl;have h2:=qqc (s:=s) (vs:=vs) (l:=l) (bs:=bs.drop 1) fun i x hx=>by have:=h (i+1) x (by simpa using hx);rw[gD0,List.getElem?_drop,Nat.add_comm 1 i,←gD0];exact this
   simp only[srtL,h1,h2,decide_true,Bool.and_self]
def srtV(o:Option Int):PV:=.tuple [iv0 (o.getD 0),.bool o.isSome]
include hT in
theorem qqe(hs:GOk s){vs:IL}(hvs:vs.length≤64){t:Tm}{p:PV}(ht:Enc t p):qav t=true→∀h:Hp,
 Ev T 251 [qaf s,.slice 1 (vs.map encI) .any,p] h (ba (srtV (srtF s vs t)) h):=by
 have hc:=ht.cells;have hf:=ht.facts;have hsb:=ht.sub;induction ht with
 |mk k n l sz es hz hl he ih=>
   intro hsh h;refine hT.wk fn251 (by decide) ?_;obtain⟨c1,c2,c3,c4⟩:=hc;have hsh':=hsh;simp only[qav,bA0,dE0,qb2]at hsh;obtain⟨⟨⟨⟨hn,_⟩,hk12⟩,hl8⟩,hall⟩:=hsh;obtain⟨N,rfl⟩:=iZ0 hn;generalize hP:PV.agg [iv0 k,iv0 (N:Int),.slice sz es .any]=P at*;have kg:=gC0 (l:=h) (a:=row 2 [qaf s]);have low1:Low h.length h (h++[row 2 [qaf s]]):=(Low.refl _ _).push (nR0 _);have hl1:(h++[row 2 [qaf s]]).length=h.length+1:=by simp
   generalize hH1:h++[row 2 [qaf s]]=H1 at*;have kp:=gC0 (l:=H1) (a:=row 3 [P]);have kg2:=qah (o2:=row 3 [P]) kg;have low2:=low1.push (o:=row 3 [P]) (by omega);have hl2:(H1++[row 3 [P]]).length=h.length+2:=by simp[hl1]
   generalize hH2:H1++[row 3 [P]]=H2 at*;have l0:loadAt false 1 (.pb H1.length) H2=some (iv0 k):=by rw[qad kp,←hP];rfl
   have l1:loadAt false 1 (.ptr H1.length 0 1 1) H2=some (iv0 (N:Int)):=by rw[qad kp,←hP];rfl
   have l2:loadAt false 1 (.ptr H1.length 0 2 1) H2=some (.slice sz es .any):=by rw[qad kp,←hP];rfl
   have lg:loadAt false 1 (.ptr h.length 0 1 1) H2=some (.slice 3 (s.ops.map qao) .any):=by rw[qad kg2];rfl
   have td:∀o,tidy 0 h.length (.val (srtV o)) ⟨H2,[],[]⟩=(ba (srtV o) h):=fun o=>qan rfl rfl low2 (by simp);have td0:tidy 0 h.length (.val (.tuple [iv0 0,.bool false])) ⟨H2,[],[]⟩=(ba (srtV none) h):=td none;by_cases hk:k=1
   · subst hk;have b11:((1:Int)==1)=true:=rfl;by_cases hv:N<vs.length
     · have gv:=qee hv;have hv':¬(vs.length:Int)≤(N:Int):=by omega
       have hF:srtF s vs (.mk 1 N l)=some vs[N]:=by simp[srtF,hv]
       have td1:tidy 0 h.length (.val (.tuple [iv0 vs[N],.bool true])) ⟨H2,[],[]⟩=(ba (srtV (some vs[N])) h):=td (some vs[N]);rw[hF];simp(disch:=omega) only[go_sem,hH1,hH2,c1,c3,l0,l1,b11,lM0,hv',gv,td1]
     · have hv':(vs.length:Int)≤(N:Int):=by omega
       have hF:srtF s vs (.mk 1 N l)=none:=by simp[srtF];omega
       rw[hF];simp(disch:=omega) only[go_sem,hH1,hH2,c1,c3,l0,l1,b11,lM0,hv',td0]
   · have hkb:(k==1)=false:=by simpa using hk
     by_cases hNO:N<s.ops.length
     · have go:=ql9 hNO;have ho:s.ops[N]?=some s.ops[N]:=gE0 hNO;obtain⟨a1,a2,a3⟩:=hs.ops _ (mG0 ho);generalize s.ops[N]=o at*;have hNO':¬s.ops.length≤N:=by omega
       have hNO2:¬(s.ops.length:Int)≤(N:Int):=by omega
       have so2:sub false 1 (qao o) 2=some (iv0 o.res):=rfl;have so1:sub false 1 (qao o) 1=some (.slice 1 (o.args.map encI) .any):=rfl;by_cases hal:o.args.length=l.length
       · have hal':((es.length:Int) !=(o.args.length:Int))=false:=by simp;omega
         have hF:srtF s vs (.mk k N l)=if srtL s vs l o.args=true then some o.res else none:=by simp[srtF,ho,hal,hk]
         rw[hF];simp(disch:=first|omega|decide|simp only[go_sem]) only[go_sem,hH1,hH2,c1,c3,l0,l1,l2,lg,hkb,hNO2,go,so1,lM0,hal',hT.prim]
         refine wpC.loopM (fun g e st=> ∃(i:Nat)(H:Hp)(ws:NL),i+g=es.length∧Low h.length h H∧H[h.length]?=some (.row 2 [qaf s])∧H[H1.length]?=some (.row 3 [P])∧(∀x∈ws,h.length≤x)∧(∀(j:Nat)(x:Tm),j<i→l[j]?=some x→srtF s vs x=some (o.args.getD j 0))∧eget e 1=.slice 1 (vs.map encI) .any∧eget e 3=.pb h.length∧eget e 5=.pb H1.length∧eget e 46=.slice sz es .any∧eget e 47=iv0 es.length∧eget e 48=iv0 i∧st=⟨H,ws,[]⟩) ?_ es.length _ _
          ⟨0,H2,[],by omega,low2,kg2,kp,by simp,fun j x hj=>by omega,by simp only[go_sem],by simp only[go_sem],by simp only[go_sem],by simp only[go_sem],by simp only[go_sem],by simp only[go_sem];rfl,rfl⟩
         rintro g e st ⟨i,H,ws,hi,low,kg,kp,hw,hok,e1,e3,e5,e46,e47,e48,rfl⟩;by_cases h1:i<es.length
         · have ga:=qbt h1;have hx:l[i]?=some l[i]:=gE0 (by omega);have hE:=he i l[i] es[i] hx ga;have hshx:qav l[i]=true:=List.all_eq_true.1 hall _ (gX0 _);have ihx:=ih i l[i] es[i] hx ga hE.cells hE.facts hE.sub hshx;generalize l[i]=x at*;have hsz:sz=3:=by grind
           subst hsz;obtain⟨b1,b2,b3,b4⟩:=hE.cells;have bt:=hE.facts.1;have bs:=hE.sub;generalize es[i]=q at*;have sb:=qa5 (h:=H) (ws:=ws) (ups:=[]) (z:=zq3) (sz:=3) (c:=q) b1 rfl b2 bt ⟨_,rfl⟩ b4;have kq:=gC0 (l:=H) (a:=row 3 [q]);have kg3:=qah (o2:=row 3 [q]) kg;have kp3:=qah (o2:=row 3 [q]) kp;have hHl:=low.len;have low3:=low.push (o:=row 3 [q]) hHl;generalize hH5:H++[row 3 [q]]=H5 at*;have lq:loadAt true 3 (.pb H.length) H5=some q:=by rw[qad kq];exact bs
           have m1:loadAt false 1 (.ptr H1.length 0 1 1) H5=some (iv0 (N:Int)):=by rw[qad kp3,←hP];rfl
           have mg:loadAt false 1 (.ptr h.length 0 1 1) H5=some (.slice 3 (s.ops.map qao) .any):=by rw[qad kg3];rfl
           have ms:loadAt true 2 (.pb h.length) H5=some (qaf s):=by rw[qad kg3];rfl
           have hia:i<o.args.length:=by omega
           have gA:=qee hia;have gD:o.args.getD i 0=o.args[i]:=by simp[gD0,hia]
           have ev:=ihx H5;have hw':∀x∈wadd H.length ws,h.length≤x:=qae hHl hw;have h1':(i:Int)< (es.length:Int):=by omega
           cases hb:srtF s vs x with
           |none=>
             rw[hb]at ev;have hfal:=qjs (s:=s) (vs:=vs) (bs:=o.args) i hx (by rw[hb];simp);have td3:tidy 0 h.length (.val (.tuple [iv0 0,.bool false])) ⟨H5,wadd H.length ws,[]⟩=(ba (srtV none) h):=qan rfl rfl low3 hw';rw[hfal];simp(disch:=omega) only[go_sem,qry,e1,e3,e46,e47,e48,h1',ga,bs,sb,lq,ms,cb ev,srtV,Option.getD,Option.isSome,Bool.not_false,hT.q,td3]
           |some a=>
             rw[hb]at ev;by_cases hra:a=o.args[i]
             · have hra':(a !=o.args[i])=false:=by simp[hra]
               simp(disch:=omega) only[go_sem,qry,e1,e3,e5,e46,e47,e48,h1',ga,bs,sb,lq,m1,mg,ms,go,so1,gA,cb ev,srtV,Option.getD,Option.isSome,Bool.not_true,hra',hT.q];refine⟨g - 1,by omega,i+1,H5,_,by omega,low3,kg3,kp3,hw',fun j y hj hy=>?_,?_,rfl⟩
               ·grind
               ·grind
             · have hra':(a !=o.args[i])=true:=by simpa using hra
               have hfal:=qjs (s:=s) (vs:=vs) (bs:=o.args) i hx (by rw[hb,gD];simpa using hra);have td3:tidy 0 h.length (.val (.tuple [iv0 0,.bool false])) ⟨H5,wadd H.length ws,[]⟩=(ba (srtV none) h):=qan rfl rfl low3 hw';rw[hfal];simp(disch:=omega) only[go_sem,qry,e1,e3,e5,e46,e47,e48,h1',ga,bs,sb,lq,m1,mg,ms,go,so1,gA,cb ev,srtV,Option.getD,Option.isSome,Bool.not_true,hra',hT.q,td3]
         · have htr:srtL s vs l o.args=true:=qqc fun i x hx=>hok i x (by have:=(gI0.1 hx).1;omega) hx;have h1':¬(i:Int)< (es.length:Int):=by omega
           have m1:loadAt false 1 (.ptr H1.length 0 1 1) H=some (iv0 (N:Int)):=by rw[qad kp,←hP];rfl
           have mg:loadAt false 1 (.ptr h.length 0 1 1) H=some (.slice 3 (s.ops.map qao) .any):=by rw[qad kg];rfl
           have td3:tidy 0 h.length (.val (.tuple [iv0 o.res,.bool true])) ⟨H,ws,[]⟩=(ba (srtV (some o.res)) h):=qan rfl rfl low hw;rw[htr];simp(disch:=omega) only[go_sem,qry,e3,e5,e47,e48,h1',m1,mg,go,so2,td3]
       · have hal':((es.length:Int) !=(o.args.length:Int))=true:=by simp;omega
         have hF:srtF s vs (.mk k N l)=none:=by simp[srtF,ho,hk];intro h;omega
         rw[hF];simp(disch:=first|omega|decide|simp only[go_sem]) only[go_sem,hH1,hH2,c1,c3,l0,l1,l2,lg,hkb,hNO2,go,so1,lM0,hal',td0]
     · have hNO':s.ops.length≤N:=by omega
       have hF:srtF s vs (.mk k N l)=none:=by simp[srtF,hk,List.getElem?_eq_none hNO']
       rw[hF];simp(disch:=first|omega|decide|simp only[go_sem]) only[go_sem,hH1,hH2,c1,c3,l0,l1,lg,hkb,hNO',lM0,td0]
theorem qaw{t:Tm}(h:qa1 t=true):qav t=true:=by simp only[qa1,bA0]at h;exact h.2
theorem qh6{x:Int}:∀(vs L:IL),x∈vs.foldl insM L↔x∈L∨x∈vs
 |[],L=>by simp
 |v::vs,L=>by rw[List.foldl_cons,qh6 vs,mem_insM,mN0,or_assoc]
theorem qqv{x:Int}{l:Ts}(h:l.all qa1=true):x∈qgs l↔x∈qb7 l:=by simp only[qgs,h,if_true,qbh,qh6,List.not_mem_nil,false_or]
def qm1(s:GSig)(vs:IL)(a b:Tm):Bool:=qa1 a&& (qa1 b&& ((srtF s vs a).isSome&&decide (srtF s vs a=srtF s vs b)))
include hT in
theorem pair_ev(hs:GOk s){e:GEqn}(hv:e.vars.length≤64){a b:Tm}{h:Hp}{kS kE:Nat}(hS:h[kS]?=some (.row 2 [qaf s]))(hE:h[kE]?=some (.row 8 [qaj e])):
 Ev T 250 [encT a,encT b,.pb kS,.pb kE] h (ba (.bool (qm1 s e.vars a b)) h):=by
 refine hT.wk fn250 (by decide) ?_;have ea:=qa6 a;have eb:=qa6 b;obtain⟨a1,a2,a3,a4⟩:=ea.cells;obtain⟨b1,b2,b3,b4⟩:=eb.cells;have asb:=ea.sub;have bsb:=eb.sub;generalize encT a=P at*;generalize encT b=Q at*;have k1:=gC0 (l:=h) (a:=row 3 [P]);have kS1:=qah (o2:=row 3 [P]) hS;have kE1:=qah (o2:=row 3 [P]) hE;have low1:Low h.length h (h++[row 3 [P]]):=(Low.refl _ _).push (nR0 _);have hl1:(h++[row 3 [P]]).length=h.length+1:=by simp
 generalize hH1:h++[row 3 [P]]=H1 at*;have k2:=gC0 (l:=H1) (a:=row 3 [Q]);have k12:=qah (o2:=row 3 [Q]) k1;have kS2:=qah (o2:=row 3 [Q]) kS1;have kE2:=qah (o2:=row 3 [Q]) kE1;have low2:=low1.push (o:=row 3 [Q]) (by omega);generalize hH2:H1++[row 3 [Q]]=H2 at*;generalize hk:H1.length=kQ at*;have lP:loadAt true 3 (.pb h.length) H2=some P:=by rw[qad k12];exact asb
 have lQ:loadAt true 3 (.pb kQ) H2=some Q:=by rw[qad k2];exact bsb
 have lS:loadAt true 2 (.pb kS) H2=some (qaf s):=by rw[qad kS2];rfl
 have lv:loadAt false 1 (.pb kE) H2=some (.slice 1 (e.vars.map encI) .any):=by rw[qad kE2];rfl
 have td:∀o,tidy 0 h.length (.val (.bool o)) ⟨H2,[],[]⟩=(ba (.bool o) h):=fun o=>qan rfl rfl low2 (by simp);have n4:((4:Int) !=0)=true:=rfl;have n0:((0:Int) !=0)=false:=rfl;have e1:=treeE_ev hT ea H2;have e2:=treeE_ev hT eb H2;unfold qm1;cases ha:qa1 a
 · rw[ha]at e1;simp only[bF0,if_false]at e1;simp(disch:=omega) only[go_sem,hH1,hk,hH2,a1,a3,b1,b3,lP,cb e1,n4,hT.prim,qab,td,Bool.false_and]
 · rw[ha]at e1;simp only[if_true]at e1;cases hb:qa1 b
   · rw[hb]at e2;simp only[bF0,if_false]at e2;simp(disch:=omega) only[go_sem,hH1,hk,hH2,a1,a3,b1,b3,lP,lQ,cb e1,cb e2,n0,n4,hT.prim,qab,td,Bool.false_and,Bool.true_and]
   · rw[hb]at e2;simp only[if_true]at e2;have s1:=qqe hT hs hv ea (qaw ha) H2;have s2:=qqe hT hs hv eb (qaw hb) H2;cases h1:srtF s e.vars a with
     |none=>
       rw[h1]at s1;simp(disch:=omega) only[go_sem,hH1,hk,hH2,a1,a3,b1,b3,lP,lQ,lS,lv,cb e1,cb e2,n0,cb s1,cb s2,srtV,Option.getD,Option.isSome,hT.prim,qab,td,Bool.false_and,Bool.true_and]
     |some x=>
       rw[h1]at s1;cases h2:srtF s e.vars b with
       |none=>
         rw[h2]at s2;simp(disch:=omega) only[go_sem,hH1,hk,hH2,a1,a3,b1,b3,lP,lQ,lS,lv,cb e1,cb e2,n0,cb s1,cb s2,srtV,Option.getD,Option.isSome,hT.prim,qab,td,Bool.true_and,decide_false]
       |some y=>
         rw[h2]at s2;have hxy:decide (some x=some y)=(x==y):=by grind
         simp(disch:=omega) only[go_sem,hH1,hk,hH2,a1,a3,b1,b3,lP,lQ,lS,lv,cb e1,cb e2,n0,cb s1,cb s2,srtV,Option.getD,Option.isSome,hT.prim,qab,td,Bool.true_and,hxy]
include hT in
theorem badvar_ev{n:Int}{h:Hp}{kS:Nat}(hS:h[kS]?=some (.row 2 [qaf s]))(hn:s.sorts.length<1000):
 Ev T 249 [.int .i64 n,.pb kS] h (ba (.bool (!qa8 n s.sorts.length)) h):=by
 refine hT.wk fn249 (by decide) ?_;have l0:loadAt false 1 (.pb kS) h=some (.slice 1 (s.sorts.map .str) .any):=by rw[qad hS];rfl
 by_cases h0:n<0
 · have hb:(!qa8 n s.sorts.length)=true:=by simp[qa8];omega
   simp(disch:=omega) only[go_sem,h0,hb]
 · have hb:(!qa8 n s.sorts.length)=decide ((s.sorts.length:Int)≤n):=by
    have h1:(0:Int)≤n:=by omega
    by_cases h2:(s.sorts.length:Int)≤n
    · have h3:¬n< (s.sorts.length:Int):=by omega
      simp[qa8,h1,h2,h3]
    · have h3:n< (s.sorts.length:Int):=by omega
      simp[qa8,h1,h2,h3]
   simp(disch:=omega) only[go_sem,h0,l0,lM0,hb]
def qez(l:List (Tm×Tm)):Ts:=l.flatMap fun c=>[c.1,c.2]
structure EqnP (s:GSig)(e:GEqn):Prop where
 nV:e.vars.length≤64
 nC:e.conds.length≤8
 kA:e.A.kind=2
 vs:∀v∈e.vars,qa8 v s.sorts.length=true
 ab:qm1 s e.vars e.A e.B=true
 cs:∀c∈e.conds,qm1 s e.vars c.1 c.2=true
 vB:∀v∈qci e.B,v∈qci e.A
 vC:∀c∈e.conds,∀v,v∈qci c.1∨v∈qci c.2→v∈qci e.A
def AppT(H:Hp)(v:PV)(es:PL)(lo:Nat):Prop:=v=.slice 3 es .lit∨∃kt,v=.slice 3 es (.tok kt)∧H[kt]?=some (.tok 3 es.length)∧lo≤kt
theorem append_T{H:Hp}{v p q:PV}{es:PL}{lo:Nat}(A:AppT H v es lo)(hp:p.cells.all PV.isCell=true)(hq:q.cells.all PV.isCell=true)(hl:es.length<100000)(hlo:lo≤H.length)(ws:NL):
 ∃v' H' ws',(∀ups,appendop 3 40 v (.slice 3 [p,q] .lit) ⟨H,ws,ups⟩=some (v',⟨H',ws',ups⟩))∧AppT H' v' (es++[p,q]) lo∧Low lo H H'∧(∀(j:Nat)(o:AE.Obj),o.isTok=false→H[j]?=some o→H'[j]?=some o)∧∀x∈ws',x∈ws∨lo≤x:=by
 have hroom:(es.length+2) *40≤room∧es.length+2≤room:=by
  have:10000000≤room:=by decide
  constructor<;>omega
 rcases A with rfl|⟨kt,rfl,h2,h3⟩
 · refine⟨.slice 3 (es++[p,q]) (.tok H.length),H++[.tok 3 (es.length+2)],ws,fun ups=>?_,.inr ⟨H.length,rfl,by simp,hlo⟩,(Low.refl _ _).push hlo,fun j o _ hj=>qah hj,fun x hx=>.inl hx⟩;simp[appendop,qch,hp,hq,hroom,alloc]
 · refine⟨.slice 3 (es++[p,q]) (.tok kt),H.set kt (.tok 3 (es.length+2)),wadd kt ws,fun ups=>?_,.inr ⟨kt,rfl,by rw[qak h2];simp,h3⟩,.set h3,fun j o ho hj=>qaa hj ?_,fun x hx=>?_⟩
   ·simp[appendop,qch,hp,hq,hroom,h2,qau]
   · rintro rfl;rw[h2]at hj;cases hj;cases ho
   · rcases qa3 hx with h|h
     ·omega
     ·exact .inl h
theorem AppT.slice{H:Hp}{v:PV}{es:PL}{lo:Nat}(A:AppT H v es lo):∃m,v=.slice 3 es m:=by
 rcases A with h|⟨kt,h,_⟩
 ·exact⟨_,h⟩
 ·exact⟨_,h⟩
theorem AppT.push{H:Hp}{v:PV}{es:PL}{lo:Nat}(A:AppT H v es lo)(o:AE.Obj):AppT (H++[o]) v es lo:=by
 rcases A with h|⟨kt,h1,h2,h3⟩
 ·exact .inl h
 ·exact .inr ⟨kt,h1,qah h2,h3⟩
theorem fe_two{p q:PV}(hp:p.cells.length=3∧p.isDef=true)(hq:q.cells.length=3∧q.isDef=true):qda 3 (List.replicate 2 zq3) [(0,p),(1,q)]=some [p,q]:=by simp[qda,hp.1,hp.2,hq.1,hq.2]
theorem fe_1{p:PV}(hp:p.cells.length=3∧p.isDef=true):qda 3 (List.replicate 1 zq3) [(0,p)]=some [p]:=by simp[qda,hp.1,hp.2]
theorem qft(l:Ts):EncL l (l.map encT):=⟨by simp,fun i x p hx hp=>by rw[gM0,hx]at hp;cases hp;exact qa6 x⟩
theorem qhq{s:GSig}{vs:IL}{a b:Tm}(h:qm1 s vs a b=true):qa1 a=true∧qa1 b=true:=by simp only[qm1,bA0]at h;exact⟨h.1,h.2.1⟩
theorem qth{l:List (Tm×Tm)}{i:Nat}{c:Tm×Tm}(h:l[i]?=some c):qez (l.take (i+1))=qez (l.take i)++[c.1,c.2]:=by rw[List.take_add_one,h];simp[qez]
theorem qod{l:List (Tm×Tm)}:(qez l).length=2*l.length:=by
 induction l with
 |nil=>rfl
 |cons c l ih=>
   have:qez (c::l)=[c.1,c.2]++qez l:=rfl;rw[this];simp only[lA0,ll0,ih];omega
theorem eqn_b2{km z:Nat}{L vs:IL}{H:Hp}{ws:NL}{e0:PL}{Q:AExit→PL→St→Prop}{a b c:PV}(hk:H[km]?=some (.map (setM L)))(hz:vs=[]∨z=1)(hl:vs.length<1000000)
 (f5:eget e0 5=.map (some km))(f82:eget e0 82=a)(f83:eget e0 83=b)(f84:eget e0 84=c)(f90:eget e0 90=.slice z (vs.map encI) .any)(f91:eget e0 91=iv0 (vs.length:Int))(f92:eget e0 92=iv0 0)
 (hF:∀e',eget e' 4=.bool false→Q .ret e' ⟨H,ws,[]⟩)
 (hQ:∀e',(∀v∈vs,v∈L)→eget e' 5=.map (some km)→eget e' 82=a→eget e' 83=b→eget e' 84=c→Q (.exit 6) e' ⟨H,ws,[]⟩):wpC T (.loop qrz) e0 ⟨H,ws,[]⟩ Q:=by
 refine wpC.loopM (fun d e st=> ∃i:Nat,i+d=vs.length∧(∀v∈vs.take i,v∈L)∧eget e 5=.map (some km)∧eget e 82=a∧eget e 83=b∧eget e 84=c∧eget e 90=.slice z (vs.map encI) .any∧eget e 91=iv0 (vs.length:Int)∧eget e 92=iv0 (i:Int)∧st=⟨H,ws,[]⟩) ?_ vs.length _ _
  ⟨0,by omega,by simp,f5,f82,f83,f84,f90,f91,f92,rfl⟩
 rintro d e st ⟨i,hd,hL,e5,e82,e83,e84,e90,e91,e92,rfl⟩;by_cases h1:i<vs.length
 · have ga:=qee h1;have hx:vs[i]?=some vs[i]:=gE0 h1;generalize vs[i]=v at*;have hz1:z=1:=by grind
   subst hz1;have h1':(i:Int)< (vs.length:Int):=by omega
   have lk:=lookM (n:=v) hk;by_cases hv:v∈L
   · simp only[hv,decide_true]at lk;simp(disch:=omega) only[go_sem,qrz,e5,e82,e83,e84,e90,e91,e92,h1',ga,lk,Bool.not_true];refine⟨d - 1,by omega,i+1,by omega,fun w hw=>?_,rfl,trivial⟩;rw[List.take_add_one,hx,mA0]at hw;rcases hw with h|h
     ·exact hL w h
     ·grind
   · simp only[hv,decide_false]at lk;simp(disch:=omega) only[go_sem,qrz,e5,e90,e91,e92,h1',ga,lk,Bool.not_false];exact hF _ (by simp only[go_sem])
 · have h1':¬(i:Int)< (vs.length:Int):=by omega
   rw[tL0 (by omega)]at hL;simp(disch:=omega) only[go_sem,qrz,e91,e92,h1'];exact hQ _ hL (by simp only[go_sem,e5]) (by simp only[go_sem,e82]) (by simp only[go_sem,e83]) (by simp only[go_sem,e84])
include hT in
theorem eqn_b3{km:Nat}{m:SM}{L:IL}{l:Ts}{h H0:Hp}{ws0:NL}{e0:PL}{Q:AExit→PL→St→Prop}(hk:H0[km]?=some (.map (setM L)))(hl:l.length<1000)(htr:∀t∈l,qa1 t=true)(low0:Low h.length h H0)(hw0:∀x∈ws0,h.length≤x)
 (f5:eget e0 5=.map (some km))(f82:eget e0 82=.slice 3 (l.map encT) m)(f83:eget e0 83=iv0 (l.length:Int))(f84:eget e0 84=iv0 0)
 (hF:∀e' H ws,Low h.length h H→(∀x∈ws,h.length≤x)→eget e' 4=.bool false→Q .ret e' ⟨H,ws,[]⟩)
 (hQ:∀e' H ws,(∀t∈l,∀v∈qci t,v∈L)→Low h.length h H→(∀x∈ws,h.length≤x)→Q (.exit 4) e' ⟨H,ws,[]⟩):wpC T (.loop a217b3) e0 ⟨H0,ws0,[]⟩ Q:=by
 refine wpC.loopM (fun d e st=> ∃(i:Nat)(H:Hp)(ws:NL),i+d=l.length∧(∀t∈l.take i,∀v∈qci t,v∈L)∧H[km]?=some (.map (setM L))∧Low h.length h H∧(∀x∈ws,h.length≤x)∧eget e 5=.map (some km)∧eget e 82=.slice 3 (l.map encT) m∧eget e 83=iv0 (l.length:Int)∧eget e 84=iv0 (i:Int)∧st=⟨H,ws,[]⟩) ?_ l.length _ _
  ⟨0,H0,ws0,by omega,by simp,hk,low0,hw0,f5,f82,f83,f84,rfl⟩
 rintro d e st ⟨i,H,ws,hd,hL,hk,low,hw,e5,e82,e83,e84,rfl⟩;by_cases h1:i<l.length
 · have hx:l[i]?=some l[i]:=gE0 h1;have hml:l[i]∈l:=gX0 h1;have ga:(l.map encT)[i]?=some (encT l[i]):=by rw[gM0,hx];rfl
   generalize l[i]=t at*;have h1':(i:Int)< (l.length:Int):=by omega
   have et:=qa6 t;obtain⟨b1,b2,b3,b4⟩:=et.cells;have bt:=et.facts.1;have bs:=et.sub;have htt:[t].all qa1=true:=by simp[htr t hml]
   have sb:=qa5 (h:=H) (ws:=ws) (ups:=[]) (z:=zq3) (sz:=3) (c:=encT t) b1 rfl b2 bt ⟨_,rfl⟩ b4;have kq:=gC0 (l:=H) (a:=row 3 [encT t]);have hk2:=qah (o2:=row 3 [encT t]) hk;have hHl:=low.len;have low2:=low.push (o:=row 3 [encT t]) hHl;generalize hH2:H++[row 3 [encT t]]=H2 at*;have lq:loadAt true 3 (.pb H.length) H2=some (encT t):=by rw[qad kq];exact bs
   obtain⟨z,ev,hz⟩:=varsT_ev hT (m:=.lit) (sz:=3) (.inr rfl) (qft [t]) (by simp) H2;have hw2:∀x∈wadd H.length ws,h.length≤x:=qae hHl hw;have hvl:(qgs [t]).length<1000000:=by have:=(qf3 htt);simp only[ll0]at this;have h1:=qc9 (qb7 [t]) [];have h2:=qe7 [t];simp only[qgs,htt,if_true,qbh];simp only[List.length_nil]at h1;omega
   have fe:=fe_1 (p:=encT t) ⟨b1,b3⟩;have hmv:∀{x:Int},x∈qgs [t]↔x∈qci t:=by intro x;rw[qqv htt,qna]
   generalize qgs [t]=vs at*;simp only[List.map_cons,List.map_nil]at ev;simp(disch:=omega) only[go_sem,a217b3,e82,e83,e84,h1',ga,bs,sb,lq,fe,cb ev,hT.q,lM0];refine eqn_b2 (a:=.slice 3 (l.map encT) m) (b:=iv0 (l.length:Int)) (c:=iv0 (i:Int)) hk2 hz hvl (by simp only[go_sem,e5]) (by simp only[go_sem,e82]) (by simp only[go_sem,e83]) (by simp only[go_sem,e84]) (by simp only[go_sem]) (by simp only[go_sem]) (by simp only[go_sem]) (fun e' h4=>?_) (fun e' hvs e5 e82 e83 e84=>?_)
   ·grind
   · simp(disch:=omega) only[go_sem,e5,e82,e83,e84];refine⟨d - 1,by omega,i+1,_,_,by omega,fun u hu v hv=>?_,hk2,low2,hw2,rfl,rfl⟩;rw[List.take_add_one,hx,mA0]at hu;rcases hu with h|h
     ·grind
     ·grind
 · have h1':¬(i:Int)< (l.length:Int):=by omega
   rw[tL0 (by omega)]at hL;simp(disch:=omega) only[go_sem,a217b3,e83,e84,h1'];exact hQ _ _ _ hL low hw
theorem eqn_b0{km z kS kE:Nat}{vs:IL}{h H0:Hp}{ws0:NL}{e0:PL}{Q:AExit→PL→St→Prop}{o1 o2:AE.Obj}{a b:PV}(hkS:kS≠km)(hkE:kE≠km)(hlo:h.length≤km)(hz:vs=[]∨z=1)(hl:vs.length<1000000)
 (hk:H0[km]?=some (.map (setM [])))(hS:H0[kS]?=some o1)(hE:H0[kE]?=some o2)(low0:Low h.length h H0)(hw0:∀x∈ws0,h.length≤x)
 (f3:eget e0 3=a)(f6:eget e0 6=b)(f5:eget e0 5=.map (some km))(f48:eget e0 48=.slice z (vs.map encI) .any)(f49:eget e0 49=iv0 (vs.length:Int))(f50:eget e0 50=iv0 0)
 (hQ:∀e' H ws L,(∀v,v∈L↔v∈vs)→H[km]?=some (.map (setM L))→H[kS]?=some o1→H[kE]?=some o2→Low h.length h H→(∀x∈ws,h.length≤x)→eget e' 3=a→eget e' 6=b→eget e' 5=.map (some km)→Q (.exit 0) e' ⟨H,ws,[]⟩):wpC T (.loop a217b0) e0 ⟨H0,ws0,[]⟩ Q:=by
 refine wpC.loopM (fun d e st=> ∃(i:Nat)(H:Hp)(ws:NL)(L:IL),i+d=vs.length∧(∀v,v∈L↔v∈vs.take i)∧H[km]?=some (.map (setM L))∧H[kS]?=some o1∧H[kE]?=some o2∧Low h.length h H∧(∀x∈ws,h.length≤x)∧eget e 3=a∧eget e 6=b∧eget e 5=.map (some km)∧eget e 48=.slice z (vs.map encI) .any∧eget e 49=iv0 (vs.length:Int)∧eget e 50=iv0 (i:Int)∧st=⟨H,ws,[]⟩) ?_ vs.length _ _
  ⟨0,H0,ws0,[],by omega,by simp,hk,hS,hE,low0,hw0,f3,f6,f5,f48,f49,f50,rfl⟩
 rintro d e st ⟨i,H,ws,L,hd,hL,hk,hS,hE,low,hw,e3,e6,e5,e48,e49,e50,rfl⟩;by_cases h1:i<vs.length
 · have ga:=qee h1;have hx:vs[i]?=some vs[i]:=gE0 h1;generalize vs[i]=v at*;have hz1:z=1:=by grind
   subst hz1;have h1':(i:Int)< (vs.length:Int):=by omega
   have um:=updM (n:=v) (ws:=ws) (ups:=[]) hk;simp(disch:=omega) only[go_sem,a217b0,e3,e6,e5,e48,e49,e50,h1',ga,um];refine⟨d - 1,by omega,i+1,_,_,insM L v,by omega,fun w=>?_,qak hk,qaa hS (Ne.symm hkS),qaa hE (Ne.symm hkE),low.trans (.set hlo),qae hlo hw,rfl,rfl⟩
   · rw[mem_insM,hL w,List.take_add_one,hx,mA0];simp only[Option.toList,mS0]
 · have h1':¬(i:Int)< (vs.length:Int):=by omega
   rw[tL0 (by omega)]at hL;simp(disch:=omega) only[go_sem,a217b0,e49,e50,h1'];exact hQ _ _ _ _ hL hk hS hE low hw (by simp only[go_sem,e3]) (by simp only[go_sem,e6]) (by simp only[go_sem,e5])
include hT in
theorem eqn_b1(hG:GOk s){eq:GEqn}(hV:eq.vars.length≤64)(hC:eq.conds.length≤8){km kS kE:Nat}{L:IL}{h H0:Hp}{ws0:NL}{e0:PL}{Q:AExit→PL→St→Prop}(B:Tm)
 (hk:H0[km]?=some (.map (setM L)))(hS:H0[kS]?=some (.row 2 [qaf s]))(hE:H0[kE]?=some (.row 8 [qaj eq]))(low0:Low h.length h H0)(hw0:∀x∈ws0,h.length≤x)
 (f6:eget e0 6=.func (.func 250) [] [.pb kS,.pb kE])(f5:eget e0 5=.map (some km))(f9:eget e0 9=.slice 3 [encT B] .lit)(f61:eget e0 61=.slice 6 (eq.conds.map qag) .any)(f62:eget e0 62=iv0 (eq.conds.length:Int))(f63:eget e0 63=iv0 0)
 (hF:∀e' H ws,Low h.length h H→(∀x∈ws,h.length≤x)→eget e' 4=.bool false→Q .ret e' ⟨H,ws,[]⟩)
 (hQ:∀e' H ws m,(∀c∈eq.conds,qm1 s eq.vars c.1 c.2=true)→H[km]?=some (.map (setM L))→Low h.length h H→(∀x∈ws,h.length≤x)→eget e' 5=.map (some km)→eget e' 9=.slice 3 ((B::qez eq.conds).map encT) m→Q (.exit 2) e' ⟨H,ws,[]⟩):wpC T (.loop qr0) e0 ⟨H0,ws0,[]⟩ Q:=by
 refine wpC.loopM (fun d e st=> ∃(i:Nat)(H:Hp)(ws:NL)(v:PV),i+d=eq.conds.length∧(∀c∈eq.conds.take i,qm1 s eq.vars c.1 c.2=true)∧AppT H v ((B::qez (eq.conds.take i)).map encT) h.length∧H[km]?=some (.map (setM L))∧H[kS]?=some (.row 2 [qaf s])∧H[kE]?=some (.row 8 [qaj eq])∧Low h.length h H∧(∀x∈ws,h.length≤x)∧eget e 6=.func (.func 250) [] [.pb kS,.pb kE]∧eget e 5=.map (some km)∧eget e 9=v∧eget e 61=.slice 6 (eq.conds.map qag) .any∧eget e 62=iv0 (eq.conds.length:Int)∧eget e 63=iv0 (i:Int)∧st=⟨H,ws,[]⟩) ?_ eq.conds.length _ _
  ⟨0,H0,ws0,_,by omega,by simp,.inl rfl,hk,hS,hE,low0,hw0,f6,f5,f9,f61,f62,f63,rfl⟩
 rintro d e st ⟨i,H,ws,v,hd,hP,hA,hk,hS,hE,low,hw,e6,e5,e9,e61,e62,e63,rfl⟩;by_cases h1:i<eq.conds.length
 · have hx:eq.conds[i]?=some eq.conds[i]:=gE0 h1;have ga:(eq.conds.map qag)[i]?=some (qag eq.conds[i]):=by rw[gM0,hx];rfl
   have hcl:((B::qez (eq.conds.take i)).map encT).length<100000:=by simp only[lM0,List.length_cons,qod,lT0];omega
   have hct:=qth hx;generalize eq.conds[i]=c at*;have h1':(i:Int)< (eq.conds.length:Int):=by omega
   obtain⟨b1,b2,_⟩:=qk5 c;have sb:=qa5 (h:=H) (ws:=ws) (ups:=[]) (z:=zq6) (sz:=6) (c:=qag c) b1 rfl b2 (qk4 c) ⟨_,rfl⟩ ⟨_,rfl⟩;have kq:=gC0 (l:=H) (a:=row 6 [qag c]);have hk2:=qah (o2:=row 6 [qag c]) hk;have hS2:=qah (o2:=row 6 [qag c]) hS;have hE2:=qah (o2:=row 6 [qag c]) hE;have hA2:=hA.push (.row 6 [qag c]);have hHl:=low.len;have low2:=low.push (o:=row 6 [qag c]) hHl;generalize hH2:H++[row 6 [qag c]]=H2 at*;have hH2l:=low2.len;have hw2:∀x∈wadd H.length ws,h.length≤x:=qae hHl hw;generalize hkk:H.length=kk at*;have l0:loadAt true 3 (.pb kk) H2=some (encT c.1):=by rw[qad kq];exact pair_A
   have l3:loadAt true 3 (.ptr kk 0 3 1) H2=some (encT c.2):=by rw[qad kq];exact pair_B
   have lp:sub true 6 (qag c) 0=some (qag c):=qoz;have ev:=pair_ev hT hG hV (a:=c.1) (b:=c.2) hS2 hE2;obtain⟨x1,x2,x3,x4⟩:=(qa6 c.1).cells;obtain⟨y1,y2,y3,y4⟩:=(qa6 c.2).cells;have fe:=fe_two (p:=encT c.1) (q:=encT c.2) ⟨x1,x3⟩ ⟨y1,y3⟩;cases hb:qm1 s eq.vars c.1 c.2
   · rw[hb]at ev;simp(disch:=omega) only[go_sem,qr0,e6,e61,e62,e63,h1',ga,lp,hkk,sb,l0,l3,cb ev,Bool.not_false,hT.q];exact hF _ _ _ low2 hw2 (by simp only[go_sem])
   · rw[hb]at ev;obtain⟨v',H3,ws3,ap,A3,low3,keep3,hw3⟩:=append_T hA2 x2 y2 hcl hH2l (wadd kk ws);simp(disch:=omega) only[go_sem,qr0,e6,e5,e9,e61,e62,e63,h1',ga,lp,hkk,sb,l0,l3,cb ev,Bool.not_true,fe,ap,hT.q];refine⟨d - 1,by omega,i+1,_,_,v',by omega,fun u hu=>?_,?_,keep3 _ _ rfl hk2,keep3 _ _ rfl hS2,keep3 _ _ rfl hE2,low2.trans low3,fun x hx=>?_,rfl,rfl,rfl⟩
     · rw[List.take_add_one,hx,mA0]at hu;rcases hu with h|h
       ·grind
       ·grind
     ·grind
     ·grind
 · have h1':¬(i:Int)< (eq.conds.length:Int):=by omega
   rw[tL0 (by omega)]at hP hA;obtain⟨m,rfl⟩:=hA.slice;simp(disch:=omega) only[go_sem,qr0,e62,e63,h1'];exact hQ _ _ _ m hP hk low hw (by simp only[go_sem,e5]) (by simp only[go_sem,e9])
include hT in
theorem qta(hG:GOk s)(e:GEqn)(h:Hp):∃r:Bool,Ev T 217 [qaf s,qaj e] h (ba (.bool r) h)∧(r=true→EqnP s e):=by
 refine hT.wp (r:=fun r:Bool=>(ba (.bool r) h)) fn217 (by decide) ?_;obtain⟨c1,_,c3⟩:=qil e;have hnS:=hG.nS;have kS1:=gC0 (l:=h) (a:=row 2 [qaf s]);have low1:Low h.length h (h++[row 2 [qaf s]]):=(Low.refl _ _).push (nR0 _);have hl1:(h++[row 2 [qaf s]]).length=h.length+1:=by simp
 generalize hH1:h++[row 2 [qaf s]]=H1 at*;have kE2:=gC0 (l:=H1) (a:=row 8 [qaj e]);have kS2:=qah (o2:=row 8 [qaj e]) kS1;have low2:=low1.push (o:=row 8 [qaj e]) (by omega);have hl2:(H1++[row 8 [qaj e]]).length=h.length+2:=by simp;omega
 generalize hH2:H1++[row 8 [qaj e]]=H2 at*;generalize hkE:H1.length=kE at*;have td2:∀o,tidy 0 h.length (.val (.bool o)) ⟨H2,[],[]⟩=(ba (.bool o) h):=fun o=>qan rfl rfl low2 (by simp);have l0:loadAt false 1 (.pb kE) H2=some (.slice 1 (e.vars.map encI) .any):=by rw[qad kE2];rfl
 have l1:loadAt false 1 (.ptr kE 0 1 1) H2=some (.slice 6 (e.conds.map qag) .any):=by rw[qad kE2];rfl
 have l2:loadAt false 1 (.ptr kE 0 2 1) H2=some (iv0 e.A.kind):=by rw[qad kE2];exact eqn_Ak
 by_cases h1:64<e.vars.length
 · have h1':decide ((64:Int)< (e.vars.length:Int))=true:=by simp;omega
   simp(disch:=omega) only[go_sem,hH1,hkE,hH2,c1,c3,lM0,l0,h1',td2];exact⟨false,rfl,by simp⟩
 have h1':decide ((64:Int)< (e.vars.length:Int))=false:=by simp;omega
 by_cases h2:8<e.conds.length
 · have h2':decide ((8:Int)< (e.conds.length:Int))=true:=by simp;omega
   simp(disch:=omega) only[go_sem,hH1,hkE,hH2,c1,c3,lM0,l0,l1,h1',h2',td2];exact⟨false,rfl,by simp⟩
 have h2':decide ((8:Int)< (e.conds.length:Int))=false:=by simp;omega
 by_cases h3:e.A.kind=2;rotate_left
 · have h3':(e.A.kind !=2)=true:=by simpa using h3
   simp(disch:=omega) only[go_sem,hH1,hkE,hH2,c1,c3,lM0,l0,l1,l2,h1',h2',h3',td2];exact⟨false,rfl,by simp⟩
 have h3':(e.A.kind !=2)=false:=by simpa using h3
 obtain⟨r65,c65,k65⟩:=qem hT (g:=249) (p:=fun v=>!qa8 v s.sorts.length) (m:=.any) (args:=e.vars) (h:=H2) (by rw[hT.prim];rfl) (fun a=>badvar_ev hT kS2 hnS) (by omega);cases r65;rotate_left
 · simp(disch:=omega) only[go_sem,hH1,hkE,hH2,c1,c3,lM0,l0,l1,l2,h1',h2',h3',cb c65,hT.prim,qab,td2];exact⟨false,rfl,by simp⟩
 have hvs:∀v∈e.vars,qa8 v s.sorts.length=true:=fun v hv=>by simpa using(k65.1 rfl) v hv
 have km3:(H2++[AE.Obj.map []])[H2.length]?=some (.map (setM [])):=by simp[setM]
 have kE3:=qah (o2:=AE.Obj.map []) kE2;have kS3:=qah (o2:=AE.Obj.map []) kS2;have low3:=low2.push (o:=AE.Obj.map []) (by omega);have hl3:(H2++[AE.Obj.map []]).length=h.length+3:=by simp;omega
 generalize hH3:H2++[AE.Obj.map []]=H3 at*;generalize hkm:H2.length=km at*;have td3:∀o,tidy 0 h.length (.val (.bool o)) ⟨H3,[],[]⟩=(ba (.bool o) h):=fun o=>qan rfl rfl low3 (by simp);have lA:loadAt true 3 (.ptr kE 0 2 1) H3=some (encT e.A):=by rw[qad kE3];exact eqn_A
 have lB:loadAt true 3 (.ptr kE 0 5 1) H3=some (encT e.B):=by rw[qad kE3];exact eqn_B
 have ev:=pair_ev hT hG (e:=e) (by omega) (a:=e.A) (b:=e.B) kS3 kE3;cases hb:qm1 s e.vars e.A e.B
 · rw[hb]at ev;simp(disch:=omega) only[go_sem,hH1,hkE,hH2,c1,c3,lM0,l0,l1,l2,h1',h2',h3',cb c65,hkm,hH3,lA,lB,cb ev,Bool.not_false,hT.prim,qab,td3];exact⟨false,rfl,by simp⟩
 rw[hb]at ev;obtain⟨tA,tB⟩:=qhq hb;have htt:[e.A].all qa1=true:=by simp[tA]
 obtain⟨z,ev2,hz⟩:=varsT_ev hT (m:=.lit) (sz:=3) (.inr rfl) (qft [e.A]) (by simp) H3;simp only[List.map_cons,List.map_nil]at ev2;have hvl:(qgs [e.A]).length<1000000:=by have:=(qf3 htt);simp only[ll0]at this;have h1:=qc9 (qb7 [e.A]) [];have h2:=qe7 [e.A];simp only[qgs,htt,if_true,qbh];simp only[List.length_nil]at h1;omega
 have hmv:∀{x:Int},x∈qgs [e.A]↔x∈qci e.A:=by intro x;rw[qqv htt,qna]
 generalize qgs [e.A]=vs at*;obtain⟨x1,_,x3,_⟩:=(qa6 e.A).cells;obtain⟨y1,_,y3,_⟩:=(qa6 e.B).cells;have feA:=fe_1 (p:=encT e.A) ⟨x1,x3⟩;have feB:=fe_1 (p:=encT e.B) ⟨y1,y3⟩;simp(disch:=omega) only[go_sem,hH1,hkE,hH2,c1,c3,lM0,l0,l1,l2,h1',h2',h3',cb c65,hkm,hH3,lA,lB,cb ev,Bool.not_true,feA,cb ev2,hT.prim,qab];refine eqn_b0 (a:=.pb kE) (b:=.func (.func 250) [] [.pb h.length,.pb kE]) (kS:=h.length) (kE:=kE) (h:=h) (by omega) (by omega) (by omega) hz hvl km3 kS3 kE3 low3 (by simp) (by simp only[go_sem]) (by simp only[go_sem]) (by simp only[go_sem]) (by simp only[go_sem]) (by simp only[go_sem]) (by simp only[go_sem]) ?_;intro e1 H4 ws4 L hL km4 kS4 kE4 low4 hw4 f3 f6 f5;have lB4:loadAt true 3 (.ptr kE 0 5 1) H4=some (encT e.B):=by rw[qad kE4];exact eqn_B
 have lC4:loadAt false 1 (.ptr kE 0 1 1) H4=some (.slice 6 (e.conds.map qag) .any):=by rw[qad kE4];rfl
 simp(disch:=omega) only[go_sem,f3,lB4,feB,lC4,lM0];refine eqn_b1 hT hG (eq:=e) (by omega) (by omega) e.B km4 kS4 kE4 low4 hw4 (by simp only[go_sem,f6]) (by simp only[go_sem,f5]) (by simp only[go_sem]) (by simp only[go_sem]) (by simp only[go_sem]) (by simp only[go_sem]) (fun e2 H ws low hw g4=>?_) (fun e2 H5 ws5 m hP km5 low5 hw5 g5 g9=>?_)
 · simp(disch:=omega) only[go_sem,g4];exact⟨false,qan rfl rfl low hw,by simp⟩
 · simp(disch:=omega) only[go_sem,g9]
   have htr:∀t∈e.B::qez e.conds,qa1 t=true:=fun t ht=>by
    simp only[mN0,qez,List.mem_flatMap]at ht;rcases ht with rfl|⟨c,hc,ht⟩
    ·exact tB
    · obtain⟨q1,q2⟩:=qhq (hP c hc);simp only[List.not_mem_nil,or_false]at ht;rcases ht with rfl|rfl
      ·exact q1
      ·exact q2
   refine eqn_b3 hT (m:=m) (l:=e.B::qez e.conds) km5 (by simp only[List.length_cons,qod];omega) htr low5 hw5 (by simp only[go_sem,g5]) (by simp only[go_sem]) (by simp only[go_sem,lM0,List.length_cons]) (by simp only[go_sem]) (fun e3 H ws low hw q4=>?_) (fun e3 H ws hvv low hw=>?_)
   · simp(disch:=omega) only[go_sem,q4];exact⟨false,qan rfl rfl low hw,by simp⟩
   · simp(disch:=omega) only[go_sem];refine⟨true,qan rfl rfl low hw,fun _=>⟨by omega,by omega,h3,hvs,hb,hP,fun v hv=>?_,fun c hc v hv=>?_⟩⟩
     ·grind
     · rcases hv with hv|hv
       ·exact hmv.1 ((hL v).1 (hvv c.1 (by simp only[mN0,qez,List.mem_flatMap];exact .inr ⟨c,hc,by simp⟩) v hv))
       ·exact hmv.1 ((hL v).1 (hvv c.2 (by simp only[mN0,qez,List.mem_flatMap];exact .inr ⟨c,hc,by simp⟩) v hv))
include hT in
theorem bad_ev(hG:GOk s)(e:GEqn){eqs:List GEqn}(h:Hp){kT:Nat}(hk:h[kT]?=some (.row 3 [qai ⟨s,eqs⟩])):∃r:Bool,Ev T 216 [qaj e,.pb kT] h (ba (.bool r) h)∧(r=false→EqnP s e):=by
 refine hT.wp (r:=fun r:Bool=>(ba (.bool r) h)) fn216 (by decide) ?_;obtain⟨c1,_,c3⟩:=qil e;have k1:=gC0 (l:=h) (a:=row 8 [qaj e]);have kT1:=qah (o2:=row 8 [qaj e]) hk;have low1:Low h.length h (h++[row 8 [qaj e]]):=(Low.refl _ _).push (nR0 _);generalize hH1:h++[row 8 [qaj e]]=H1 at*;have l1:loadAt true 8 (.pb h.length) H1=some (qaj e):=by rw[qad k1];exact qdo
 have l2:loadAt true 2 (.pb kT) H1=some (qaf s):=by rw[qad kT1];rfl
 obtain⟨r,ev,hr⟩:=qta hT hG e H1;have td:∀o,tidy 0 h.length (.val (.bool o)) ⟨H1,[],[]⟩=(ba (.bool o) h):=fun o=>qan rfl rfl low1 (by simp);simp(disch:=omega) only[go_sem,hH1,c1,c3,l1,l2,cb ev,hT.prim,qab,td];exact⟨!r,rfl,fun h=>hr (by simpa using h)⟩
include hT in
theorem qsy(hG:GOk s){eqs l:List GEqn}{h:Hp}{kT:Nat}(hk:h[kT]?=some (.row 3 [qai ⟨s,eqs⟩]))(hl:l.length<1000):
 ∃r:Int,Ev T 248 [.slice 8 (l.map qaj) .any,.func (.func 216) [] [.pb kT]] h (ba (iv0 r) h)∧(r<0→∀e∈l,EqnP s e):=by
 refine hT.wp (r:=fun r:Int=>(ba (iv0 r) h)) fn248 (by decide) ?_;simp(disch:=omega) only[go_sem,lM0];refine wpC.loopM (fun d e st=> ∃i:Nat,i+d=l.length∧(∀x∈l.take i,EqnP s x)∧eget e 0=.slice 8 (l.map qaj) .any∧eget e 1=.func (.func 216) [] [.pb kT]∧eget e 7=iv0 (l.length:Int)∧eget e 8=iv0 (i:Int)∧st=⟨h,[],[]⟩) ?_ l.length _ _ ⟨0,by simp,by simp,by simp only[go_sem],by simp only[go_sem],by simp only[go_sem],by simp only[go_sem];rfl,rfl⟩;rintro d e st ⟨i,hi,hP,e0,e1,e7,e8,rfl⟩;by_cases h1:i<l.length
 · have hx:l[i]?=some l[i]:=gE0 h1;have ga:(l.map qaj)[i]?=some (qaj l[i]):=by rw[gM0,hx];rfl
   generalize l[i]=x at*;have h1':(i:Int)< (l.length:Int):=by omega
   obtain⟨r,ev,hr⟩:=bad_ev hT hG x h hk;have sb:=qdo (e:=x);cases r
   · simp(disch:=omega) only[go_sem,a248b0,e0,e1,e7,e8,h1',ga,sb,cb ev,hT.prim,qab];refine⟨d - 1,by omega,i+1,by omega,fun u hu=>?_,rfl,trivial⟩;rw[List.take_add_one,hx,mA0]at hu;rcases hu with h|h
     ·exact hP u h
     ·grind
   · simp(disch:=omega) only[go_sem,a248b0,e0,e1,e7,e8,h1',ga,sb,cb ev,hT.prim,qab];exact⟨(i:Int),rfl,fun h=>by omega⟩
 · have h1':¬(i:Int)< (l.length:Int):=by omega
   rw[tL0 (by omega)]at hP;simp(disch:=omega) only[go_sem,a248b0,e7,e8,h1'];exact⟨_,rfl,fun _=>hP⟩
structure TypP (t:GTy):Prop where
 sig:sigP t.sig
 nE:t.eqns.length≤400
 eqns:∀e∈t.eqns,EqnP t.sig e
include hT in
theorem tcheck_ev(h103:T.sp 103=none){t:GTy}{r0:Int}(kr:(r0=0∧sigP t.sig)∨(r0=40∧¬sigP t.sig))(hG:r0=0→GOk t.sig)(E87:∀h,Ev T 87 [qaf t.sig] h (ba (iv0 r0) h))(h:Hp):
 ∃r:Int,Ev T 103 [qai t] h (ba (iv0 r) h)∧((r=0∧TypP t)∨r=5):=by
 have W:∀h:Hp,∃r:Bool,Ev T 176 [qai t] h (ba (.bool r) h)∧(r=true→TypP t):=fun h=>by
  refine hT.wp (r:=fun r:Bool=>(ba (.bool r) h)) fn176 (by decide) ?_;have k1:=gC0 (l:=h) (a:=row 3 [qai t]);have low1:Low h.length h (h++[row 3 [qai t]]):=(Low.refl _ _).push (nR0 _);generalize hH1:h++[row 3 [qai t]]=H1 at*;have l1:loadAt true 2 (.pb h.length) H1=some (qaf t.sig):=by rw[qad k1];rfl
  have l2:loadAt false 1 (.ptr h.length 0 2 1) H1=some (.slice 8 (t.eqns.map qaj) .any):=by rw[qad k1];rfl
  have td:∀o,tidy 0 h.length (.val (.bool o)) ⟨H1,[],[]⟩=(ba (.bool o) h):=fun o=>qan rfl rfl low1 (by simp);rcases kr with⟨rfl,hp⟩|⟨rfl,_⟩
  · have n0:((0:Int) !=0)=false:=rfl;by_cases h4:400<t.eqns.length
    · have h4':decide ((400:Int)< (t.eqns.length:Int))=true:=by simp;omega
      simp(disch:=omega) only[go_sem,hH1,qbx,qby,l1,l2,cb (E87 H1),n0,h4',lM0,hT.prim,qab,td];exact⟨false,rfl,by simp⟩
    · have h4':decide ((400:Int)< (t.eqns.length:Int))=false:=by simp;omega
      obtain⟨r,ev,hr⟩:=qsy hT (hG rfl) (eqs:=t.eqns) (l:=t.eqns) k1 (by omega);have ev2:Ev T 215 [.slice 8 (t.eqns.map qaj) .any,.func (.func 216) [] [.pb h.length]] H1 (ba (.bool (decide (0≤r))) H1):=by refine hT.wk fn215 (by decide) ?_;simp(disch:=omega) only[go_sem,cb ev,hT.prim,qab]
      simp(disch:=omega) only[go_sem,hH1,qbx,qby,l1,l2,cb (E87 H1),n0,h4',lM0,cb ev2,hT.prim,qab,td];refine⟨_,rfl,fun h5=>⟨hp,by omega,hr ?_⟩⟩;simp only[Bool.not_eq_true',decide_eq_false_iff_not]at h5;omega
  · have n0:((40:Int) !=0)=true:=rfl;simp(disch:=omega) only[go_sem,hH1,qbx,qby,l1,cb (E87 H1),n0,hT.prim,qab,td];exact⟨false,rfl,by simp⟩
 refine Ev.walkP (r:=fun r:Int=>(ba (iv0 r) h)) h103 ((hT.fn _).trans fn103) (hT.mode _) rfl ?_;have k1:=gC0 (l:=h) (a:=row 3 [qai t]);have low1:Low h.length h (h++[row 3 [qai t]]):=(Low.refl _ _).push (nR0 _);generalize hH1:h++[row 3 [qai t]]=H1 at*;have l1:loadAt true 3 (.pb h.length) H1=some (qai t):=by rw[qad k1];rfl
 have td:∀o,tidy 0 h.length (.val (iv0 o)) ⟨H1,[],[]⟩=(ba (iv0 o) h):=fun o=>qan rfl rfl low1 (by simp);obtain⟨r,ev,hr⟩:=W H1;cases r
 · simp(disch:=omega) only[go_sem,hH1,qbx,qby,l1,cb ev,Bool.not_false,hT.prim,qab,td];exact⟨5,rfl,.inr rfl⟩
 · simp(disch:=omega) only[go_sem,hH1,qbx,qby,l1,cb ev,Bool.not_true,hT.prim,qab,td];exact⟨0,rfl,.inl ⟨rfl,hr rfl⟩⟩
include hT in
theorem bind_ev{h:Hp}{kb kr n v:Nat}{a:Int}{xs:IL}(hne:kb≠kr)(hb:h[kb]?=some (.row 1 [.aref kr 1 0 n n]))(hr:h[kr]?=some (.row 1 (xs.map encI)))(hx:xs.length=n)(hv:v<n):
 ∃(r:Bool)(ys:IL)(ws:NL),Ev T 243 [iv0 (v:Int),iv0 a,.pb kb] h (.val (.bool r),⟨h.set kr (.row 1 (ys.map encI)),ws,[]⟩)∧ys.length=n∧∀y∈ws,y=kr:=by
 have W:∃x:Bool×IL×NL,Ev T 243 [iv0 (v:Int),iv0 a,.pb kb] h (.val (.bool x.1),⟨h.set kr (.row 1 (x.2.1.map encI)),x.2.2,[]⟩)∧(x.2.1.length=n∧∀y∈x.2.2,y=kr):=by
  refine hT.wp (r:=fun x:Bool×IL×NL=>(.val (.bool x.1),⟨h.set kr (.row 1 (x.2.1.map encI)),x.2.2,[]⟩)) fn243 (by decide) ?_;have M0:=Mod.refl hr;have lb:loadAt false 1 (.pb kb) h=some (.aref kr 1 0 n n):=by rw[qad hb];rfl
  have lr:=ld_v hr hx hv;by_cases h0:xs.getD v 0<0
  · have sv:=fun ws ups=>st_v (ws:=ws) (ups:=ups) (v:=a) hr hx hv;have M1:=M0.put (o':=.row 1 ((xs.set v a).map encI));have lb2:loadAt false 1 (.pb kb) (h.set kr (.row 1 ((xs.set v a).map encI)))=some (.aref kr 1 0 n n):=by rw[qad (qaa hb (Ne.symm hne))];rfl
    have lr2:=ld_v (qak hr) (x:=xs.set v a) (by simpa using hx) hv;obtain⟨ws',ht1,ht2⟩:=qbo (v:=.bool ((xs.set v a).getD v 0==a)) rfl M1 (okWs.add (ws:=[]) (fun x hx=>by simp at hx) (.inl rfl));simp(disch:=omega) only[go_sem,lb,lr,h0,sv,lb2,lr2,ht1,hv];exact⟨(_,xs.set v a,ws'),rfl,by simpa using hx,ht2⟩
  · obtain⟨ws',ht1,ht2⟩:=qbo (v:=.bool (xs.getD v 0==a)) rfl M0 (ws:=[]) (fun x hx=>by simp at hx);simp(disch:=omega) only[go_sem,lb,lr,h0,ht1,hv];exact⟨(_,xs,ws'),rfl,hx,ht2⟩
 obtain⟨x,h1,h2,h3⟩:=W;exact⟨x.1,x.2.1,x.2.2,h1,h2,h3⟩
theorem qf4{x:Tm}{l:Ts}{v:Int}(hx:x∈l)(hv:v∈qci x):v∈qb7 l:=by
 induction l with
 |nil=>simp at hx
 |cons y l ih=>
   simp only[qb7,mA0];rcases mN0.1 hx with rfl|h
   ·exact .inl hv
   ·grind
include hT in
theorem typedR_ev(hs:GOk s){kb kr m:Nat}(hne:kb≠kr){t:Tm}{p:PV}(ht:Enc t p):qav t=true→(∀v∈qci t,v< (m:Int))→∀(a:Int)(h:Hp)(xs:IL),h[kb]?=some (.row 1 [.aref kr 1 0 m m])→h[kr]?=some (.row 1 (xs.map encI))→xs.length=m→
 ∃(r:Bool)(ys:IL)(ws:NL),Ev T 131 [qaf s,p,iv0 a,.func (.func 243) [] [.pb kb]] h (.val (.bool r),⟨h.set kr (.row 1 (ys.map encI)),ws,[]⟩)∧ys.length=m∧(∀y∈ws,y=kr)∧(qbq s t a=true→r=true):=by
 have hc:=ht.cells;have hf:=ht.facts;have hsb:=ht.sub;induction ht with
 |mk k n l sz es hz hl he ih=>
   intro hsh hvm a h xs hb hr hxs
   have W:∃x:Bool×IL×NL,Ev T 131 [qaf s,.agg [iv0 k,iv0 n,.slice sz es .any],iv0 a,.func (.func 243) [] [.pb kb]] h (.val (.bool x.1),⟨h.set kr (.row 1 (x.2.1.map encI)),x.2.2,[]⟩)∧(x.2.1.length=m∧(∀y∈x.2.2,y=kr)∧(qbq s (.mk k n l) a=true→x.1=true)):=by
    refine hT.wp (r:=fun x:Bool×IL×NL=>(.val (.bool x.1),⟨h.set kr (.row 1 (x.2.1.map encI)),x.2.2,[]⟩)) fn131 (by decide) ?_;obtain⟨c1,c2,c3,c4⟩:=hc;have hsh':=hsh;simp only[qav,bA0,dE0,qb2]at hsh;obtain⟨⟨⟨⟨hn,_⟩,hk12⟩,hl8⟩,hall⟩:=hsh;obtain⟨N,rfl⟩:=iZ0 hn;have hkr:=(gI0.1 hr).1;generalize hP:PV.agg [iv0 k,iv0 (N:Int),.slice sz es .any]=P at*;have M0:=Mod.refl hr;have kg:=gC0 (l:=h) (a:=AE.Obj.row 2 [qaf s]);have kb1:=qah (o2:=AE.Obj.row 2 [qaf s]) hb;have M1:Mod h (h++[AE.Obj.row 2 [qaf s]]) kr (.row 1 (xs.map encI)):=M0.push;have hl1:(h++[AE.Obj.row 2 [qaf s]]).length=h.length+1:=by simp
    generalize hH1:h++[AE.Obj.row 2 [qaf s]]=H1 at*;have kp:=gC0 (l:=H1) (a:=AE.Obj.row 3 [P]);have kg2:=qah (o2:=AE.Obj.row 3 [P]) kg;have kb2:=qah (o2:=AE.Obj.row 3 [P]) kb1;have M2:Mod h (H1++[AE.Obj.row 3 [P]]) kr (.row 1 (xs.map encI)):=M1.push;have hl2:(H1++[AE.Obj.row 3 [P]]).length=h.length+2:=by simp[hl1]
    generalize hH2:H1++[AE.Obj.row 3 [P]]=H2 at*;have l0:loadAt false 1 (.pb H1.length) H2=some (iv0 k):=by rw[qad kp,←hP];rfl
    have l1:loadAt false 1 (.ptr H1.length 0 1 1) H2=some (iv0 (N:Int)):=by rw[qad kp,←hP];rfl
    have l2:loadAt false 1 (.ptr H1.length 0 2 1) H2=some (.slice sz es .any):=by rw[qad kp,←hP];rfl
    have lg:loadAt false 1 (.ptr h.length 0 1 1) H2=some (.slice 3 (s.ops.map qao) .any):=by rw[qad kg2];rfl
    have td:∀b,∃ws',tidy 0 h.length (.val (.bool b)) ⟨H2,[],[]⟩=(.val (.bool b),⟨h.set kr (.row 1 (xs.map encI)),ws',[]⟩)∧∀x∈ws',x=kr:=fun b=>qbo (v:=.bool b) rfl M2 (fun x hx=>by simp at hx);obtain⟨wsF,tdF,hwF⟩:=td false;by_cases hk:k=1
    · subst hk;have hNm:N<m:=by have:=hvm (N:Int) (by simp[qci]);omega
      obtain⟨r,ys,ws,e2,hy,hw⟩:=bind_ev hT (a:=a) hne kb2 M2.get hxs hNm;have M3:=M2.put (o':=.row 1 (ys.map encI));have b11:((1:Int)==1)=true:=rfl;have e2':=cb e2;obtain⟨ws',t1,t2⟩:=qbo (v:=.bool r) rfl M3 (ws:=wall ws []) (okWs.wall (fun y hy=>.inl (hw y hy)) (fun x hx=>by simp at hx));simp(disch:=omega) only[go_sem,hH1,hH2,c1,c3,l0,l1,b11,e2',hT.prim,qab,t1];exact⟨(r,ys,ws'),rfl,hy,t2,fun h=>by simp[qbq]at h⟩
    · have hkb:(k==1)=false:=by simpa using hk
      by_cases hNO:N<s.ops.length
      · have go:=ql9 hNO;have ho:s.ops[N]?=some s.ops[N]:=gE0 hNO;obtain⟨a1,a2,a3⟩:=hs.ops _ (mG0 ho);generalize s.ops[N]=o at*;have hNO':¬s.ops.length≤N:=by omega
        have so2:sub false 1 (qao o) 2=some (iv0 o.res):=rfl;have so1:sub false 1 (qao o) 1=some (.slice 1 (o.args.map encI) .any):=rfl;by_cases hrs:o.res=a
        · have hr':(o.res !=a)=false:=by simp[hrs]
          by_cases hal:o.args.length=l.length
          · have hal':((o.args.length:Int) !=(es.length:Int))=false:=by simp;omega
            simp(disch:=first|omega|decide|simp only[go_sem]) only[go_sem,hH1,hH2,c1,c3,l0,l1,l2,lg,hkb,hNO',go,so2,so1,hr',hal',hT.prim]
            refine wpC.loopM (fun g e st=> ∃(i:Nat)(H:Hp)(ws:NL)(ys:IL),i+g=es.length∧Mod h H kr (.row 1 (ys.map encI))∧ys.length=m∧H[kb]?=some (.row 1 [.aref kr 1 0 m m])∧H[h.length]?=some (.row 2 [qaf s])∧H[H1.length]?=some (.row 3 [P])∧okWs h kr ws∧eget e 3=.func (.func 243) [] [.pb kb]∧eget e 4=.pb h.length∧eget e 5=.pb H1.length∧eget e 51=.slice sz es .any∧eget e 52=iv0 (es.length:Int)∧eget e 53=iv0 (i:Int)∧st=⟨H,ws,[]⟩) ?_ es.length _ _
             ⟨0,H2,[],xs,by omega,M2,hxs,kb2,kg2,kp,fun x hx=>by simp at hx,by simp only[go_sem],by simp only[go_sem],by simp only[go_sem],by simp only[go_sem],by simp only[go_sem],by simp only[go_sem];rfl,rfl⟩
            rintro g e st ⟨i,H,ws,ys,hi,M,hys,kb',kg,kp,hw,e3,e4,e5,e51,e52,e53,rfl⟩;by_cases h1:i<es.length
            · have ga:=qbt h1;have hx:l[i]?=some l[i]:=gE0 (by omega);have hE:=he i l[i] es[i] hx ga;have hml:l[i]∈l:=gX0 _;have hshx:qav l[i]=true:=List.all_eq_true.1 hall _ hml;have hvx:∀v∈qci l[i],v< (m:Int):=fun v hv=>hvm v (by simp only[qci,mA0];exact .inr (qf4 hml hv));have ihx:=ih i l[i] es[i] hx ga hE.cells hE.facts hE.sub hshx hvx;generalize l[i]=x at*;have hsz:sz=3:=by grind
              subst hsz;obtain⟨b1,b2,b3,b4⟩:=hE.cells;have bt:=hE.facts.1;have bs:=hE.sub;generalize es[i]=q at*;have sb:=qa5 (h:=H) (ws:=ws) (ups:=[]) (z:=zq3) (sz:=3) (c:=q) b1 rfl b2 bt ⟨_,rfl⟩ b4;have kq:=gC0 (l:=H) (a:=AE.Obj.row 3 [q]);have kb3:=qah (o2:=AE.Obj.row 3 [q]) kb';have kg3:=qah (o2:=AE.Obj.row 3 [q]) kg;have kp3:=qah (o2:=AE.Obj.row 3 [q]) kp;have hHl:=M.len;have M3:=M.push (o':=AE.Obj.row 3 [q]);generalize hH5:H++[AE.Obj.row 3 [q]]=H5 at*;have lq:loadAt true 3 (.pb H.length) H5=some q:=by rw[qad kq];exact bs
              have m1:loadAt false 1 (.ptr H1.length 0 1 1) H5=some (iv0 (N:Int)):=by rw[qad kp3,←hP];rfl
              have mg:loadAt false 1 (.ptr h.length 0 1 1) H5=some (.slice 3 (s.ops.map qao) .any):=by rw[qad kg3];rfl
              have ms:loadAt true 2 (.pb h.length) H5=some (qaf s):=by rw[qad kg3];rfl
              have hia:i<o.args.length:=by omega
              have gA:=qee hia;obtain⟨r,zs,ws2,ev,hzl,hw2,hr2⟩:=ihx (o.args[i]) H5 ys kb3 M3.get hys;have M4:=M3.put (o':=.row 1 (zs.map encI));have W5:okWs h kr (wall (wall ws2 []) (wadd H.length ws)):=okWs.wall (okWs.wall (fun y hy=>.inl (hw2 y hy)) (fun x hx=>by simp at hx)) (hw.add (.inr hHl));cases r
              · obtain⟨ws',t1,t2⟩:=qbo (v:=.bool false) rfl M4 W5;simp(disch:=first|omega|decide|simp only[go_sem]) only[go_sem,qmt,e3,e4,e5,e51,e52,e53,h1,ga,bs,sb,lq,m1,mg,ms,go,so1,gA,cb ev,hT.q,Bool.not_false,t1]
                exact⟨(false,zs,ws'),rfl,hzl,t2,fun h=>by
                 have hb:qbq s x (o.args.getD i 0)=false:=by grind
                 simp[qbq,ho,qkk i hx hb]at h⟩
              · simp(disch:=first|omega|decide|simp only[go_sem]) only[go_sem,qmt,e3,e4,e5,e51,e52,e53,h1,ga,bs,sb,lq,m1,mg,ms,go,so1,gA,cb ev,hT.q,Bool.not_true];exact⟨g - 1,by omega,i+1,_,_,zs,by omega,M4,hzl,qaa kb3 (Ne.symm hne),qaa kg3 (by omega),qaa kp3 (by omega),W5,rfl,rfl⟩
            · obtain⟨ws',t1,t2⟩:=qbo (v:=.bool true) rfl M hw;simp(disch:=omega) only[go_sem,qmt,e52,e53,h1,t1];exact⟨(true,ys,ws'),rfl,hys,t2,fun _=>rfl⟩
          · have hal':((o.args.length:Int) !=(es.length:Int))=true:=by simp;omega
            simp(disch:=first|omega|decide|simp only[go_sem]) only[go_sem,hH1,hH2,c1,c3,l0,l1,l2,lg,hkb,hNO',go,so2,so1,hr',hal',tdF];exact⟨(false,xs,wsF),rfl,hxs,hwF,fun h=>by simp[qbq,ho,hal]at h⟩
        · have hr':(o.res !=a)=true:=by simpa using hrs
          simp(disch:=first|omega|decide|simp only[go_sem]) only[go_sem,hH1,hH2,c1,c3,l0,l1,lg,hkb,hNO',go,so2,hr',tdF];exact⟨(false,xs,wsF),rfl,hxs,hwF,fun h=>by simp[qbq,ho,hrs]at h⟩
      · have hNO':s.ops.length≤N:=by omega
        simp(disch:=first|omega|decide|simp only[go_sem]) only[go_sem,hH1,hH2,c1,c3,l0,l1,lg,hkb,hNO',tdF];exact⟨(false,xs,wsF),rfl,hxs,hwF,fun h=>by simp[qbq,List.getElem?_eq_none hNO']at h⟩
   obtain⟨x,h1,h2,h3⟩:=W;exact⟨x.1,x.2.1,x.2.2,h1,h2,h3.1,h3.2⟩
theorem mk_ok4{sz bytes n:Nat}{z:PV}(hn:n<5001)(hb:bytes≤1000)(hz:z.cells.length=sz):qjz sz bytes z (iv0 (n:Int)) (iv0 (n:Int))=some n:=by
 have h1:bytes*n≤1000*5000:=Nat.mul_le_mul hb (by omega);have h2:(bytes:Int) * (n:Int)≤(room:Int):=by have:((bytes*n:Nat):Int)≤((1000*5000:Nat):Int):=Int.ofNat_le.2 h1;simp only[room];rw[Int.natCast_mul]at this;omega
 dsimp only[qjz];rw[if_pos ⟨by omega,rfl,by simp only[room];omega,rfl,rfl,h2,hz⟩];simp
include hT in
theorem qnt{n:Nat}{m:SM}(hn:n≤5000)(v:Int)(h:Hp):Ev T 138 [.slice 1 [iv0 v] m,iv0 (n:Int)] h (.val (.aref h.length 1 0 n n),⟨h++[.row 1 ((List.replicate n v).map encI)],[],[]⟩):=by
 refine Ev.walk (hT.sp _ (by decide)) ((hT.fn _).trans fn138) ((hT.mode 138).trans rfl) rfl ?_;have wn:IntKind.u64.wrap (n:Int)=n:=wrapu (by omega) (by omega);have w1:IntKind.u64.wrap ((([PV.int .i64 v]:PL).length:Nat):Int)=1:=wrapu (x:=1) (by decide) (by decide);have cm:=mul_ev hT (n:=(n:Int)) (by omega) (by omega) h;have mk:=mk_ok4 (sz:=1) (bytes:=8) (n:=n) (z:=iv0 0) (by omega) (by omega) rfl;have n0:¬(n:Int)<0:=by omega
 have n1:¬(9223372036854775807:Int)< (n:Int):=by omega
 have n2:¬(0:Int)<0:=by omega
 have kH:(h++[row 1 (List.replicate n (iv0 0))])[h.length]?=some (.row 1 ((qdx n 0 v).map encI)):=by simp[qdx,encI]
 have low:Low h.length h (h++[row 1 (List.replicate n (iv0 0))]):=(Low.refl _ _).push (nR0 _);generalize hH:h++[row 1 (List.replicate n (iv0 0))]=H at*;rcases Nat.eq_zero_or_pos n with hn0|hn0
 · subst hn0;have cp:copyop 1 (.aref h.length 1 0 0 0) (.slice 1 [iv0 v] m) ⟨H,[],[]⟩=some (iv0 0,⟨H,[],[]⟩):=by simp[copyop,qch,kH,qdx,PV.cells,PV.isCell]
   have hf:H=h++[.row 1 ((List.replicate 0 v).map encI)]:=by rw[←hH];rfl
   have n3:¬(0:Int)< ((0:Nat):Int):=by decide
   simp(disch:=omega) only[go_sem,wn,w1,cb cm,mk,hT.prim,qab,n0,n1,n2,hH,cp];refine unroll ?_;simp(disch:=omega) only[go_sem,a138b0,n3,tidy_raw (ws:=[]) (by simp)];rw[hf]
 · have cp:=copy_row (ws:=[]) (off:=0) (len:=n) (n:=n) (ys:=[v]) (src:=.slice 1 [iv0 v] m) kH (qj2 (by omega)) (by omega) rfl hn0 (by simp);have e1:([v]:IL).take n=List.replicate 1 v:=by grind
   have e2:=qmd (n:=n) (i:=0) (c:=1) (v:=v) (by omega);have e3:H.set h.length (.row 1 ((qdx n 1 v).map encI))=h++[.row 1 ((qdx n 1 v).map encI)]:=by rw[←hH];simp
   rw[e1,List.length_replicate,e2,Nat.zero_add,e3]at cp;simp(disch:=omega) only[go_sem,wn,w1,cb cm,mk,hT.prim,qab,n0,n1,n2,hH,cp];refine wpC.loopM (fun d e st=> ∃(i:Nat)(ws:NL),i+d=n∧1≤i∧(∀k∈ws,h.length≤k)∧(eget e 7=.aref h.length 1 0 n n∧eget e 8=iv0 (i:Int))∧st=⟨h++[.row 1 ((qdx n i v).map encI)],ws,[]⟩) ?_ (n - 1) _ _ ⟨1,_,by omega,by omega,qae (nR0 _) (by simp),by simp only[go_sem,and_self],rfl⟩;rintro d e st ⟨i,ws,hd,hi,hw,⟨e7,e8⟩,rfl⟩;have kk:∀xs,(h++[row 1 xs])[h.length]?=some (.row 1 xs):=fun xs=>by simp
   by_cases h1:i<n
   · have s1:=sl_lo (k:=h.length) (l:=n) (n:=n) (off:=0) (i:=i) (by omega);have s2:=sl_hi (k:=h.length) (l:=n) (n:=n) (off:=0) (i:=i) (by omega);have el:qch (.aref h.length 1 0 i n) (h++[.row 1 ((qdx n i v).map encI)])=some (1,(List.replicate i v).map encI):=by have hl:=qj2 (v:=v) (Nat.le_of_lt h1);simp only[qch,kk,lM0,hl,Nat.zero_add,List.drop_zero];rw[if_pos (by simp;omega),←List.map_take];simp[qdx]
     have cp:=copy_row (ws:=[]) (off:=0+i) (len:=n - i) (n:=n) (kk _) (qj2 (v:=v) (Nat.le_of_lt h1)) (by omega) el (by omega) (by simp;omega);rw[List.take_replicate,List.length_replicate,Nat.zero_add,qmd (by omega)]at cp;have e3:(h++[row 1 ((qdx n i v).map encI)]).set h.length (.row 1 ((qdx n (i+min (n - i) i) v).map encI))=h++[.row 1 ((qdx n (i+min (n - i) i) v).map encI)]:=by simp
     rw[e3]at cp;have h1':(i:Int)< (n:Int):=by omega
     have wr:IntKind.i64.wrap ((i:Int)+((min (n - i) i:Nat):Int))=((i+min (n - i) i:Nat):Int):=by rw[wrap64 (by omega) (by omega)];omega
     simp(disch:=first|omega|decide|simp only[go_sem]) only[go_sem,a138b0,e7,e8,h1',s1,s2,cp,wr];exact⟨d - min (n - i) i,by omega,i+min (n - i) i,_,by omega,by omega,qae (nR0 _) hw,rfl,rfl⟩
   · have hin:i=n:=by omega
     subst hin;have h1':¬(i:Int)< (i:Int):=by omega
     simp(disch:=omega) only[go_sem,a138b0,e7,e8,h1',tidy_raw hw];simp[qdx]
theorem tidy_frz{h H:Hp}{v v':PV}{ws:NL}{ups:UL}(hf:frz H h.length 64 v=some v')(L:Low h.length h H)(hw:∀k∈ws,h.length≤k)(hu:∀x∈ups,h.length≤x.1):tidy 0 h.length (.val v) ⟨H,ws,ups⟩=(ba v' h):=by
 have hb:below h.length ws=[]:=List.filter_eq_nil_iff.2 fun k hk=>by have:=hw k hk;simp;omega
 have hua:(ups.any fun(k,j)=>k<h.length&&h.length≤j)=false:=by grind
 have huf:ups.filter (fun(k,_)=>k<h.length)=[]:=List.filter_eq_nil_iff.2 fun x hx=>by have:=hu x hx;simp;omega
 have ht:H.take h.length=h:=by rw[L.take];simp
 unfold tidy;rw[if_neg (by decide),if_neg (by simpa using hua)];simp only[OR.v,hf,hb,huf,ht,OR.put];rfl
include hT in
theorem badsort_ev{n:Int}{h:Hp}{kS:Nat}(hS:h[kS]?=some (.row 2 [qaf s]))(hn:s.sorts.length<1000):
 Ev T 242 [iv0 n,.pb kS] h (ba (.bool (!qa8 n s.sorts.length)) h):=by
 refine hT.wk fn242 (by decide) ?_;have l0:loadAt false 1 (.pb kS) h=some (.slice 1 (s.sorts.map .str) .any):=by rw[qad hS];rfl
 by_cases h0:n<0
 · have hb:(!qa8 n s.sorts.length)=true:=by simp[qa8];omega
   simp(disch:=omega) only[go_sem,h0,hb]
 · have hb:(!qa8 n s.sorts.length)=decide ((s.sorts.length:Int)≤n):=by
    have h1:(0:Int)≤n:=by omega
    by_cases h2:(s.sorts.length:Int)≤n
    · have h3:¬n< (s.sorts.length:Int):=by omega
      simp[qa8,h1,h2,h3]
    · have h3:n< (s.sorts.length:Int):=by omega
      simp[qa8,h1,h2,h3]
   simp(disch:=omega) only[go_sem,h0,l0,lM0,hb]
def infV(zs:Nat×IL)(e:Int):PV:=.tuple [.slice zs.1 (zs.2.map encI) .any,iv0 e]
structure InfOk (s:GSig)(l:Ts)(sorts:IL):Prop where
 len:l.length=sorts.length
 srt:∀v∈sorts,qa8 v s.sorts.length=true
 tree:l.all qa1=true
 typ:∀(i:Nat)(u:Tm)(a:Int),l[i]?=some u→sorts[i]?=some a→qbq s u a=true
mutual
theorem qnf:∀(u:Tm)(a:Int),qbq s u a=true→grtF u=-1
 |.mk k n l,a,h=>by
   simp only[qbq,bA0,Bool.not_eq_true',beq_eq_false_iff_ne]at h;obtain⟨hk,h⟩:=h;cases ho:s.ops[n.toNat]? with
   |none=>rw[ho]at h;cases h
   |some o=>
     rw[ho]at h;simp only[bA0]at h;have:=qne l _ h.2;simp only[grtF,if_neg hk,this];rfl
theorem qne:∀(l:Ts)(bs:IL),qgu s l bs=true→grtL l=-1
 |[],_,_=>rfl
 |t::l,bs,h=>by simp only[qgu,bA0]at h;simp only[grtL,qnf t _ h.1,qne l _ h.2];rfl
end
theorem grtL_none{l:Ts}(h:∀u∈l,grtF u=-1):grtL l=-1:=by
 induction l with
 |nil=>rfl
 |cons t l ih=>
   simp only[grtL,h t List.mem_cons_self,ih fun u hu=>h u (mC0 _ hu)];rfl
theorem InfOk.grt{l:Ts}{sorts:IL}(O:InfOk s l sorts):grtL l<4000:=by
 have:grtL l=-1:=grtL_none fun u hu=>by
  obtain⟨i,hi,rfl⟩:=List.getElem_of_mem hu;have hs:i<sorts.length:=by have:=O.len;omega
  exact qnf _ _ (O.typ i _ sorts[i] (gE0 hi) (gE0 hs))
 omega
include hT in
theorem infer_ev(hs:GOk s)(E87:∀h,Ev T 87 [qaf s] h (ba (iv0 0) h)){l:Ts}{sz:Nat}{es:PL}{m:SM}{sV:PV}(hz:es=[]∨sz=3)(hE:EncL l es)(hl:es.length≤40){sorts:IL}(hso:sorts.length≤1000){h:Hp}(hS:Rds h sV 1 (sorts.map encI)):
 ∃x:(Nat×IL)×Int,Ev T 200 [qaf s,.slice sz es m,sV] h (ba (infV x.1 x.2) h)∧(InfOk s l sorts→x.2=0):=by
 refine hT.wp (r:=fun x:(Nat×IL)×Int=>(ba (infV x.1 x.2) h)) fn200 (by decide) ?_;have hnS:=hs.nS;have lsv:lenOf sV=some sorts.length:=by rw[hS.len,lM0]
 have hll:=hE.1;have kS1:=gC0 (l:=h) (a:=row 2 [qaf s]);have low1:Low h.length h (h++[row 2 [qaf s]]):=(Low.refl _ _).push (nR0 _);have hl1:(h++[row 2 [qaf s]]).length=h.length+1:=by simp
 generalize hH1:h++[row 2 [qaf s]]=H1 at*;have lS:loadAt true 2 (.pb h.length) H1=some (qaf s):=by rw[qad kS1];rfl
 have n0:((0:Int) !=0)=false:=rfl;have n4:((4:Int) !=0)=true:=rfl;have td:∀(e:Int)(H:Hp)(ws:NL)(ups:UL),Low h.length h H→(∀k∈ws,h.length≤k)→(∀x∈ups,h.length≤x.1)→tidy 0 h.length (.val (.tuple [.sn,iv0 e])) ⟨H,ws,ups⟩=(ba (infV (0,[]) e) h):=fun e H ws ups L hw hu=>qa9 rfl L hw hu;have td1:=fun e=>td e H1 [] [] low1 (by simp) (by simp);by_cases hlen:es.length=sorts.length;rotate_left
 · have hne:((es.length:Int) !=(sorts.length:Int))=true:=by simp;omega
   simp(disch:=omega) only[go_sem,hH1,lS,cb (E87 H1),n0,hne,lsv,hT.prim,qab,td1];exact⟨((0,[]),1),rfl,fun O=>by have:=O.len;omega⟩
 have hne:((es.length:Int) !=(sorts.length:Int))=false:=by simp;omega
 obtain⟨r65,c65,k65⟩:=qia hT (g:=242) (p:=fun v=>!qa8 v s.sorts.length) (args:=sorts) (h:=H1) (by rw[hT.prim];rfl) (hS.low low1) (fun a=>badsort_ev hT kS1 hnS) (by omega);cases r65;rotate_left
 · simp(disch:=omega) only[go_sem,hH1,lS,cb (E87 H1),n0,hne,lsv,cb c65,hT.prim,qab,td1];refine⟨((0,[]),1),rfl,fun O=>?_⟩;have:=k65.2 fun v hv=>by rw[O.srt v hv];rfl
   cases this
 have c195:=qk0 hT (m:=m) hz hE (by omega) H1;cases hb:l.all qa1
 · rw[hb]at c195;simp only[bF0,if_false]at c195;simp(disch:=omega) only[go_sem,hH1,lS,cb (E87 H1),n0,n4,hne,lsv,cb c65,cb c195,hT.prim,qab,td1];exact⟨((0,[]),4),rfl,fun O=>by have:=O.tree;rw[hb]at this;cases this⟩
 rw[hb]at c195;simp only[if_true]at c195;have hnd:=qf3 hb;have c196:=qii hT 80000 l sz es m (by omega) (by omega) hz hE H1;obtain⟨g1,g2⟩:=ql6 l;by_cases hg:4000≤grtL l
 · have hg':decide ((4000:Int)≤grtL l)=true:=by simpa using hg
   simp(disch:=omega) only[go_sem,hH1,lS,cb (E87 H1),n0,hne,lsv,cb c65,cb c195,cb c196,hg',hT.prim,qab,td1];exact⟨((0,[]),4),rfl,fun O=>by have:=O.grt;omega⟩
 have hg':decide ((4000:Int)≤grtL l)=false:=by simpa using hg
 obtain⟨n,hn⟩:=iZ0 (show(0:Int)≤grtL l+1 by omega);have c138:=qnt hT (n:=n) (m:=.lit) (by omega) (-1) H1;have kr2:=gC0 (l:=H1) (a:=row 1 ((List.replicate n (-1:Int)).map encI));have kS2:=qah (o2:=row 1 ((List.replicate n (-1:Int)).map encI)) kS1;have low2:=low1.push (o:=row 1 ((List.replicate n (-1:Int)).map encI)) (by omega);have hl2:(H1++[row 1 ((List.replicate n (-1:Int)).map encI)]).length=h.length+2:=by simp;omega
 generalize hH2:H1++[row 1 ((List.replicate n (-1:Int)).map encI)]=H2 at*;generalize H1.length=kr at*;have kb3:=gC0 (l:=H2) (a:=row 1 [.sn]);have kr3:=qah (o2:=row 1 [.sn]) kr2;have kS3:=qah (o2:=row 1 [.sn]) kS2;have low3:=low2.push (o:=row 1 [.sn]) (by omega);generalize hH3:H2++[row 1 [.sn]]=H3 at*;generalize hkb:H2.length=kb at*;obtain⟨u0,sv,hu0⟩:=st_any (ws:=[]) (ups:=[]) (v:=.aref kr 1 0 n n) kb3 rfl ⟨rfl,rfl⟩;have kb4:(H3.set kb (.row 1 [.aref kr 1 0 n n]))[kb]?=some (.row 1 [.aref kr 1 0 n n]):=qak kb3;have kr4:(H3.set kb (.row 1 [.aref kr 1 0 n n]))[kr]?=some (.row 1 ((List.replicate n (-1:Int)).map encI)):=qaa kr3 (by omega);have kS4:(H3.set kb (.row 1 [.aref kr 1 0 n n]))[h.length]?=some (.row 2 [qaf s]):=qaa kS3 (by omega);have low4:Low h.length h (H3.set kb (.row 1 [.aref kr 1 0 n n])):=low3.trans (.set (by omega));generalize H3.set kb (.row 1 [.aref kr 1 0 n n])=H4 at*
 have hu:∀x∈u0,h.length≤x.1:=fun x hx=>by
  rcases hu0 x hx with h|h
  ·cases h
  ·omega
 have gn:grtL l+1=(n:Int):=hn;have fe:qda 1 (List.replicate 1 (PV.int .i64 0)) [(0,iv0 (-1))]=some [iv0 (-1)]:=rfl;simp(disch:=first|omega|decide|simp only[go_sem]) only[go_sem,hH1,lS,cb (E87 H1),n0,hne,lsv,cb c65,cb c195,cb c196,hg',fe,gn,cb c138,hH3,hkb,sv,hT.q]
 refine wpC.loopM (fun g e st=> ∃(i:Nat)(H:Hp)(ws:NL)(xs:IL),i+g=es.length∧Low h.length h H∧xs.length=n∧H[kb]?=some (.row 1 [.aref kr 1 0 n n])∧H[kr]?=some (.row 1 (xs.map encI))∧H[h.length]?=some (.row 2 [qaf s])∧(∀x∈ws,h.length≤x)∧eget e 2=sV∧eget e 3=.pb h.length∧eget e 8=.pb kb∧eget e 40=.slice sz es m∧eget e 41=iv0 (es.length:Int)∧eget e 42=iv0 (i:Int)∧st=⟨H,ws,u0⟩) ?_ es.length _ _
  ⟨0,H4,_,_,by omega,low4,by simp,kb4,kr4,kS4,qae (by omega) (by simp),by simp only[go_sem],by simp only[go_sem],by simp only[go_sem],by simp only[go_sem],by simp only[go_sem],by simp only[go_sem];rfl,rfl⟩
 rintro g e st ⟨i,H,ws,xs,hi,low,hxs,kb',kr',kS',hw,e2,e3,e8,e40,e41,e42,rfl⟩;by_cases h1:i<es.length
 · have ga:=qbt h1;have hx:l[i]?=some l[i]:=gE0 (by omega);have hEn:=hE.2 i l[i] es[i] hx ga;have hml:l[i]∈l:=gX0 _;have hshx:qav l[i]=true:=qaw (List.all_eq_true.1 hb _ hml);have hvx:∀v∈qci l[i],v< (n:Int):=fun v hv=>by have:=g2 v (qf4 hml hv);omega
   generalize l[i]=x at*;have hsz:sz=3:=by grind
   subst hsz;obtain⟨b1,b2,b3,b4⟩:=hEn.cells;have bt:=hEn.facts.1;have bs:=hEn.sub;generalize es[i]=q at*;have sb:=qa5 (h:=H) (ws:=ws) (ups:=u0) (z:=zq3) (sz:=3) (c:=q) b1 rfl b2 bt ⟨_,rfl⟩ b4;have kq:=gC0 (l:=H) (a:=row 3 [q]);have kb5:=qah (o2:=row 3 [q]) kb';have kr5:=qah (o2:=row 3 [q]) kr';have kS5:=qah (o2:=row 3 [q]) kS';have hHl:=low.len;have low5:=low.push (o:=row 3 [q]) hHl;generalize hH5:H++[row 3 [q]]=H5 at*;have lq:loadAt true 3 (.pb H.length) H5=some q:=by rw[qad kq];exact bs
   have ls:loadAt true 2 (.pb h.length) H5=some (qaf s):=by rw[qad kS5];rfl
   have his:i<sorts.length:=by omega
   obtain⟨pA,ixA,ldA⟩:=hS.idx (i:=i) (x:=encI sorts[i]) (by rw[gM0,gE0 his];rfl);have lA:loadAt false 1 pA H5=some (iv0 sorts[i]):=(ldA _ _ _ low5).trans rfl;obtain⟨r,ys,ws2,ev,hyl,hw2,hr2⟩:=typedR_ev hT hs (kb:=kb) (kr:=kr) (m:=n) (by omega) hEn hshx hvx sorts[i] H5 xs kb5 kr5 hxs
   have hw6:∀x∈wall (wall ws2 []) (wadd H.length ws),h.length≤x:=fun x hx=>by
    have W5:okWs h kr (wall (wall ws2 []) (wadd H.length ws)):=okWs.wall (okWs.wall (fun y hy=>.inl (hw2 y hy)) (fun x hx=>by simp at hx)) (fun y hy=>.inr (qae hHl hw y hy));rcases W5 x hx with h|h
    ·omega
    ·exact h
   have low6:Low h.length h (H5.set kr (.row 1 (ys.map encI))):=low5.trans (.set (by omega));have h1':(i:Int)< (es.length:Int):=by omega
   cases r
   · simp(disch:=first|omega|decide|simp only[go_sem]) only[go_sem,a200b0,e2,e3,e8,e40,e41,e42,h1',ga,bs,sb,lq,ls,ixA,lA,cb ev,hT.q,Bool.not_false];exact⟨((0,[]),4),td _ _ _ _ low6 hw6 hu,fun O=>by have:=hr2 (O.typ i x _ hx (gE0 his));cases this⟩
   · simp(disch:=first|omega|decide|simp only[go_sem]) only[go_sem,a200b0,e2,e3,e8,e40,e41,e42,h1',ga,bs,sb,lq,ls,ixA,lA,cb ev,hT.q,Bool.not_true];exact⟨g - 1,by omega,i+1,_,_,ys,by omega,low6,hyl,qaa kb5 (by omega),qak kr5,qaa kS5 (by omega),hw6,rfl,rfl⟩
 · have h1':¬(i:Int)< (es.length:Int):=by omega
   have lb:loadAt false 1 (.pb kb) H=some (.aref kr 1 0 n n):=by rw[qad kb'];rfl
   simp(disch:=first|omega|decide|simp only[go_sem]) only[go_sem,a200b0,e8,e41,e42,h1',lb];refine⟨((1,xs),0),tidy_frz ?_ low hw hu,fun _=>rfl⟩;have hf:frz H h.length 63 (.aref kr 1 0 n n)=some (.slice 1 (xs.map encI) .any):=frz_row kr' hxs (by omega);have hi0:frz H h.length 63 (iv0 0)=some (iv0 0):=qb0 rfl;rw[frz];simp only[PV.pure,qas,Bool.false_and,bF0,if_false,List.map_cons,List.map_nil,hf,hi0,qbs,Option.map];rfl
def zN:PV:=.agg [iv0 0,iv0 0,.sn]
def RowE(y:PV):Prop:=∃u,Enc u y∧qa1 u=true
def RowT(y:PV):Prop:=y=zN∨RowE y
theorem qp0{k n:Int}{l:Ts}{x:Tm}(h:qa1 (.mk k n l)=true)(hx:x∈l):qa1 x=true:=by
 have h5:=qc6 hx;have h4:x.deep≤qf7 l:=by obtain⟨i,hi,rfl⟩:=List.getElem_of_mem hx;exact deepL_mem (gE0 hi)
 simp only[qa1,bA0,dE0,qav,qb2]at h;obtain⟨⟨h1,h2⟩,_,h3⟩:=h;have h6:=List.all_eq_true.1 h3 _ hx;simp only[Tm.nodes,Tm.deep]at h1 h2;simp only[qa1,bA0,dE0];exact⟨⟨by omega,by omega⟩,h6⟩
theorem qng{u:Tm}(h:qa1 u=true):u.kind≠0:=by
 have h1:=qaw h;cases u with
 |mk k n l=>
   simp only[qav,bA0,Bool.or_eq_true,beq_iff_eq]at h1;obtain⟨⟨⟨_,h2⟩,_⟩,_⟩:=h1;simp only[Tm.kind];omega
theorem qbi{u:Tm}(h:qa1 u=true):u.nodes≤2000:=by simp only[qa1,bA0,dE0]at h;exact h.1.1
theorem RowT.agg{y:PV}(h:RowT y):y.cells.length=3∧∃cs,y=.agg cs:=by
 rcases h with rfl|⟨u,h,_⟩
 ·exact⟨rfl,_,rfl⟩
 · obtain⟨h1,_,_,h4⟩:=h.cells;exact⟨h1,h4⟩
theorem qdc{H:Hp}{ws:NL}{ups:UL}{kl n N:Nat}{xs:PL}{z Q:PV}(hk:H[kl]?=some (.row 3 xs))(hx:xs.length=n)(hz:xs[N]?=some z)(hzc:z.cells.length=3∧∃cs,z=.agg cs)(hQ:Q.cells.length=3∧Q.cells.all PV.isCell=true∧∃cs,Q=.agg cs)(ht:Q.top=none):
 storeAt 3 (.ptr kl N 0 n) Q ⟨H,ws,ups⟩=some ⟨H.set kl (.row 3 (xs.set N Q)),wadd kl ws,ups⟩:=by
 obtain⟨h1,cs,rfl⟩:=hzc;obtain⟨h2,h3,cs',rfl⟩:=hQ;have hu:upd (.agg cs) 0 (.agg cs')=some (.agg cs'):=by unfold upd;simp only[PV.cells]at h1 h2⊢;rw[if_pos (by simp[h1,h2])]
 simp only[storeAt,hk,hx,h2,h3,and_self,if_true,hz,hu,Option.map,ht,qau]
theorem qo7{H:Hp}{kl n N:Nat}{xs:PL}{z:PV}{b:Bool}{sz o:Nat}(hk:H[kl]?=some (.row 3 xs))(hx:xs.length=n)(hz:xs[N]?=some z):loadAt b sz (.ptr kl N o n) H=sub b sz z o:=by simp only[loadAt,hk,hx,if_true,hz]
theorem Enc.kind{u:Tm}{q:PV}(h:Enc u q):AE.sub false 1 q 0=some (iv0 u.kind):=by cases h;rfl
structure MatP (xs ys:PL)(n:Nat):Prop where
 len:ys.length=n
 all:∀y∈ys,RowT y
 keep:∀(i:Nat)(y:PV),xs[i]?=some y→RowE y→ys[i]?=some y
theorem MatP.trans{xs ys zs:PL}{n:Nat}(a:MatP xs ys n)(b:MatP ys zs n):MatP xs zs n:=⟨b.len,b.all,fun i y h hy=>b.keep i y (a.keep i y h hy) hy⟩
theorem zN_not:¬RowE zN:=by rintro⟨u,h,_⟩;unfold zN at h;cases h
def qfk(vs:IL)(ys:PL):Prop:=∀v∈vs,∃y,ys[v.toNat]?=some y∧RowE y
theorem qfk.keep{vs:IL}{xs ys:PL}{n:Nat}(b:qfk vs xs)(m:MatP xs ys n):qfk vs ys:=fun v hv=>by obtain⟨y,h1,h2⟩:=b v hv;exact⟨y,m.keep _ _ h1 h2,h2⟩
include hT in
theorem match_ev{kl n:Nat}{p:Tm}{P:PV}(hp:Enc p P):qav p=true→(∀v∈qci p,v< (n:Int))→∀(t:Tm)(Q:PV),Enc t Q→qa1 t=true→∀(h:Hp)(xs:PL),h[kl]?=some (.row 3 xs)→xs.length=n→(∀y∈xs,RowT y)→
 ∃(r:Bool)(ys:PL)(ws:NL),Ev T 270 [P,Q,.aref kl 3 0 n n] h (.val (.bool r),⟨h.set kl (.row 3 ys),ws,[]⟩)∧MatP xs ys n∧(r=true→qfk (qci p) ys)∧∀y∈ws,y=kl:=by
 have hc:=hp.cells;have hsb:=hp.sub;induction hp with
 |mk k N l sz es hz hl he ih=>
   intro hsh hvm t Q ht htr h xs hkl hxs hall0
   have W:∃x:Bool×PL×NL,Ev T 270 [.agg [iv0 k,iv0 N,.slice sz es .any],Q,.aref kl 3 0 n n] h (.val (.bool x.1),⟨h.set kl (.row 3 x.2.1),x.2.2,[]⟩)∧(MatP xs x.2.1 n∧(x.1=true→qfk (qci (.mk k N l)) x.2.1)∧∀y∈x.2.2,y=kl):=by
    refine hT.wp (r:=fun x:Bool×PL×NL=>(.val (.bool x.1),⟨h.set kl (.row 3 x.2.1),x.2.2,[]⟩)) fn270 (by decide) ?_;obtain⟨c1,c2,c3,c4⟩:=hc;obtain⟨k',n',l',sz',es',rfl,hQ,hz',hE'⟩:=ht.eq;obtain⟨d1,d2,d3,d4⟩:=ht.cells;have dsb:=ht.sub;have dtop:=ht.facts.1;have hsh':=hsh;simp only[qav,bA0,dE0,qb2]at hsh;obtain⟨⟨⟨⟨hn,_⟩,hk12⟩,hl8⟩,hall⟩:=hsh;obtain⟨N,rfl⟩:=iZ0 hn;have hkl':=(gI0.1 hkl).1;generalize hP:PV.agg [iv0 k,iv0 (N:Int),.slice sz es .any]=P at*;have M0:=Mod.refl hkl;have kp1:=gC0 (l:=h) (a:=row 3 [P]);have M1:Mod h (h++[row 3 [P]]) kl (.row 3 xs):=M0.push;have hl1:(h++[row 3 [P]]).length=h.length+1:=by simp
    generalize hH1:h++[row 3 [P]]=H1 at*;have kq:=gC0 (l:=H1) (a:=row 3 [Q]);have kp:=qah (o2:=row 3 [Q]) kp1;have M2:Mod h (H1++[row 3 [Q]]) kl (.row 3 xs):=M1.push;have hl2:(H1++[row 3 [Q]]).length=h.length+2:=by simp[hl1]
    generalize hH2:H1++[row 3 [Q]]=H2 at*;generalize hkQ:H1.length=kQ at*;have l0:loadAt false 1 (.pb h.length) H2=some (iv0 k):=by rw[qad kp,←hP];rfl
    have l1:loadAt false 1 (.ptr h.length 0 1 1) H2=some (iv0 (N:Int)):=by rw[qad kp,←hP];rfl
    have l2:loadAt false 1 (.ptr h.length 0 2 1) H2=some (.slice sz es .any):=by rw[qad kp,←hP];rfl
    have q0:loadAt false 1 (.pb kQ) H2=some (iv0 k'):=by rw[qad kq,hQ];rfl
    have q1:loadAt false 1 (.ptr kQ 0 1 1) H2=some (iv0 n'):=by rw[qad kq,hQ];rfl
    have q2:loadAt false 1 (.ptr kQ 0 2 1) H2=some (.slice sz' es' .any):=by rw[qad kq,hQ];rfl
    have qa:loadAt true 3 (.pb kQ) H2=some Q:=by rw[qad kq];exact dsb
    have td:∀b,∃ws',tidy 0 h.length (.val (.bool b)) ⟨H2,[],[]⟩=(.val (.bool b),⟨h.set kl (.row 3 xs),ws',[]⟩)∧∀x∈ws',x=kl:=fun b=>qbo (v:=.bool b) rfl M2 (fun x hx=>by simp at hx);have MP0:MatP xs xs n:=⟨hxs,hall0,fun i y h _=>h⟩;obtain⟨wsF,tdF,hwF⟩:=td false;by_cases hk:k=1
    · subst hk;have b11:((1:Int)==1)=true:=rfl;have hNm:N<n:=by have:=hvm (N:Int) (by simp[qci]);omega
      have hNx:N<xs.length:=by omega
      have gz:xs[N]?=some xs[N]:=gE0 hNx;have hmz:=hall0 _ (gX0 hNx)
      have hvN:qci (.mk 1 (N:Int) l)=[(N:Int)]:=by
       have hl0:l=[]:=by simp_all
       rw[hl0];simp[qci,qb7]
      rw[hvN];generalize xs[N]=z at*;have lz0:loadAt false 1 (.ptr kl N 0 n) H2=sub false 1 z 0:=qo7 M2.get hxs gz;have lza:loadAt true 3 (.ptr kl N 0 n) H2=sub true 3 z 0:=qo7 M2.get hxs gz;rcases hmz with rfl|⟨u,hu,hut⟩
      · have s0:sub false 1 zN 0=some (iv0 0):=rfl;have b00:((0:Int)==0)=true:=rfl;have sv:=fun ws ups=>qdc (ws:=ws) (ups:=ups) M2.get hxs gz ⟨rfl,_,rfl⟩ ⟨d1,d2,d4⟩ dtop;have M3:=M2.put (o':=.row 3 (xs.set N Q));have kp3:(H2.set kl (.row 3 (xs.set N Q)))[h.length]?=some (.row 3 [P]):=qaa kp (by omega);have kq3:(H2.set kl (.row 3 (xs.set N Q)))[kQ]?=some (.row 3 [Q]):=qaa kq (by omega);generalize hH3:H2.set kl (.row 3 (xs.set N Q))=H3 at*;have lq3:loadAt true 3 (.pb kQ) H3=some Q:=by rw[qad kq3];exact dsb
        have l13:loadAt false 1 (.ptr h.length 0 1 1) H3=some (iv0 (N:Int)):=by rw[qad kp3,←hP];rfl
        have lN3:loadAt true 3 (.ptr kl N 0 n) H3=some Q:=by rw[qo7 M3.get (by simpa using hxs) (List.getElem?_set_self hNx)];exact dsb
        have ev:=qfm hT ht _ _ ht (by have:=qbi htr;omega) H3;have heq:tmB (.mk k' n' l') (.mk k' n' l')=true:=(qgb _ _).2 rfl;rw[heq]at ev;obtain⟨ws',t1,t2⟩:=qbo (v:=.bool true) rfl M3 (okWs.add (ws:=[]) (fun x hx=>by simp at hx) (.inl rfl));simp(disch:=first|omega|decide|simp only[go_sem]) only[go_sem,hH1,hkQ,hH2,c1,c3,d1,d3,l0,l1,b11,hNm,lz0,s0,b00,qa,sv,l13,lN3,lq3,cb ev,hT.prim,qab,t1];refine⟨(true,xs.set N Q,ws'),rfl,⟨by simpa using hxs,fun y hy=>?_,fun i y hy hE=>?_⟩,fun _ v hv=>?_,t2⟩
        · rcases List.mem_or_eq_of_mem_set hy with h|rfl
          ·grind
          ·exact .inr ⟨_,ht,htr⟩
        · by_cases hi:N=i
          · subst hi;rw[gz]at hy;cases hy;exact absurd hE zN_not
          ·grind
        · simp only[mS0]at hv;subst hv;exact⟨Q,by rw[Int.toNat_natCast];exact List.getElem?_set_self hNx,_,ht,htr⟩
      · have s0:=hu.kind;have b00:(u.kind==0)=false:=by simpa using qng hut
        have sz0:=hu.sub;have ev:=qfm hT hu _ _ ht (by have:=qbi hut;omega) H2;obtain⟨ws',t1,t2⟩:=td (tmB u (.mk k' n' l'));simp(disch:=first|omega|decide|simp only[go_sem]) only[go_sem,hH1,hkQ,hH2,c1,c3,d1,d3,l0,l1,b11,hNm,lz0,lza,s0,sz0,b00,qa,cb ev,hT.prim,qab,t1];refine⟨(_,xs,ws'),rfl,MP0,fun _ v hv=>?_,t2⟩;simp only[mS0]at hv;subst hv;exact⟨z,by rw[Int.toNat_natCast];exact gz,u,hu,hut⟩
    · have hkb:(k==1)=false:=by simpa using hk
      have hvk:qci (.mk k (N:Int) l)=qb7 l:=by simp[qci,hk]
      rw[hvk];by_cases h2:k'=2;rotate_left
      · have h2':(k' !=2)=true:=by simpa using h2
        simp(disch:=omega) only[go_sem,hH1,hkQ,hH2,c1,c3,d1,d3,l0,hkb,q0,h2',tdF];exact⟨(false,xs,wsF),rfl,MP0,nofun,hwF⟩
      have h2':(k' !=2)=false:=by simpa using h2
      by_cases h3:(N:Int)=n';rotate_left
      · have h3':((N:Int) !=n')=true:=by simpa using h3
        simp(disch:=omega) only[go_sem,hH1,hkQ,hH2,c1,c3,d1,d3,l0,l1,hkb,q0,q1,h2',h3',tdF];exact⟨(false,xs,wsF),rfl,MP0,nofun,hwF⟩
      have h3':((N:Int) !=n')=false:=by simpa using h3
      by_cases h4:es.length=es'.length;rotate_left
      · have h4':((es.length:Int) !=(es'.length:Int))=true:=by simp;omega
        simp(disch:=omega) only[go_sem,hH1,hkQ,hH2,c1,c3,d1,d3,l0,l1,l2,hkb,q0,q1,q2,h2',h3',h4',tdF];exact⟨(false,xs,wsF),rfl,MP0,nofun,hwF⟩
      have h4':((es.length:Int) !=(es'.length:Int))=false:=by simp;omega
      simp(disch:=omega) only[go_sem,hH1,hkQ,hH2,c1,c3,d1,d3,l0,l1,l2,hkb,q0,q1,q2,h2',h3',h4']
      refine wpC.loopM (fun g e st=> ∃(i:Nat)(H:Hp)(ws:NL)(ys:PL),i+g=es.length∧Mod h H kl (.row 3 ys)∧MatP xs ys n∧qfk (qb7 (l.take i)) ys∧H[h.length]?=some (.row 3 [P])∧H[kQ]?=some (.row 3 [Q])∧okWs h kl ws∧eget e 2=.aref kl 3 0 n n∧eget e 3=.pb h.length∧eget e 4=.pb kQ∧eget e 51=iv0 (es.length:Int)∧eget e 52=iv0 (i:Int)∧st=⟨H,ws,[]⟩) ?_ es.length _ _
       ⟨0,H2,[],xs,by omega,M2,MP0,fun v hv=>by simp[qb7]at hv,kp,kq,fun x hx=>by simp at hx,by simp only[go_sem],by simp only[go_sem],by simp only[go_sem],by simp only[go_sem],by simp only[go_sem];rfl,rfl⟩
      rintro g e st ⟨i,H,ws,ys,hi,M,MP,hB,kp,kq,hw,e2,e3,e4,e51,e52,rfl⟩;have hkll:=M.lt;by_cases h1:i<es.length
      · have ga:=qbt h1;have hx:l[i]?=some l[i]:=gE0 (by omega);have hE:=he i l[i] es[i] hx ga;have hml:l[i]∈l:=gX0 _;have hshx:qav l[i]=true:=List.all_eq_true.1 hall _ hml;have hvx:∀v∈qci l[i],v< (n:Int):=fun v hv=>hvm v (by rw[hvk];exact qf4 hml hv);have hvt:=qib hx;have hi':i<es'.length:=by omega
        have hl':=hE'.1;have ga':=qbt hi';have hx':l'[i]?=some l'[i]:=gE0 (by omega);have hEy:=hE'.2 i l'[i] es'[i] hx' ga';have htr':qa1 l'[i]=true:=qp0 htr (gX0 _);have m2:loadAt false 1 (.ptr h.length 0 2 1) H=some (.slice sz es .any):=by rw[qad kp,←hP];rfl
        have r2:loadAt false 1 (.ptr kQ 0 2 1) H=some (.slice sz' es' .any):=by rw[qad kq,hQ];rfl
        obtain⟨r,zs,ws2,ev,MP2,hB2,hw2⟩:=ih i l[i] es[i] hx ga hE.cells hE.sub hshx hvx _ _ hEy htr' H ys M.get MP.len MP.all;have hsz:sz=3:=by grind
        have hsz':sz'=3:=by grind
        subst hsz hsz';have bs:=hE.sub;have bs':=hEy.sub;generalize l[i]=x at*;generalize l'[i]=x' at*;generalize es[i]=p at*;generalize es'[i]=q at*;have M4:=M.put (o':=.row 3 zs);have W5:okWs h kl (wall (wall ws2 []) ws):=okWs.wall (okWs.wall (fun y hy=>.inl (hw2 y hy)) (fun x hx=>by simp at hx)) hw;have h1':(i:Int)< (es.length:Int):=by omega
        cases r
        · obtain⟨ws',t1,t2⟩:=qbo (v:=.bool false) rfl M4 W5;simp(disch:=first|omega|decide|simp only[go_sem]) only[go_sem,a270b0,e2,e3,e4,e51,e52,h1',ga,ga',m2,r2,bs,bs',cb ev,hT.prim,qab,Bool.not_false,t1];exact⟨(false,zs,ws'),rfl,MP.trans MP2,nofun,t2⟩
        · simp(disch:=first|omega|decide|simp only[go_sem]) only[go_sem,a270b0,e2,e3,e4,e51,e52,h1',ga,ga',m2,r2,bs,bs',cb ev,hT.prim,qab,Bool.not_true];refine⟨g - 1,by omega,i+1,_,_,zs,by omega,M4,MP.trans MP2,fun v hv=>?_,qaa kp (by omega),qaa kq (by omega),W5,rfl,rfl⟩;rw[hvt,mA0]at hv;rcases hv with hv|hv
          ·exact hB.keep MP2 v hv
          ·exact hB2 rfl v hv
      · have h1':¬(i:Int)< (es.length:Int):=by omega
        obtain⟨ws',t1,t2⟩:=qbo (v:=.bool true) rfl M hw;rw[tL0 (by omega)]at hB;simp(disch:=first|omega|decide|simp only[go_sem]) only[go_sem,a270b0,e51,e52,h1',t1];exact⟨(true,ys,ws'),rfl,MP,fun _=>hB,t2⟩
   obtain⟨x,h1,h2,h3,h4⟩:=W;exact⟨x.1,x.2.1,x.2.2,h1,h2,h3,h4⟩
theorem qlf{H:Hp}{v p:PV}{es:PL}{lo:Nat}(A:AppL H v es lo)(hp:p.cells.all PV.isCell=true)(hl:es.length<100000)(hlo:lo≤H.length):
 ∃(H':Hp)(fw:NL→NL)(kt:Nat),(∀ws ups,appendop 3 40 v (.slice 3 [p] .lit) ⟨H,ws,ups⟩=some (.slice 3 (es++[p]) (.tok kt),⟨H',fw ws,ups⟩))∧AppL H' (.slice 3 (es++[p]) (.tok kt)) (es++[p]) lo∧(∀(j sz:Nat)(r:PL),H[j]?=some (.row sz r)→H'[j]?=some (.row sz r))∧Low lo H H'∧∀ws,(∀x∈ws,lo≤x)→∀x∈fw ws,lo≤x:=by
 have hroom:(es.length+1) *40≤room∧es.length+1≤room:=by
  have:10000000≤room:=by decide
  constructor<;>omega
 rcases A with⟨rfl,rfl⟩|⟨kt,rfl,h2,h3⟩
 · simp at hroom;refine⟨H++[.tok 3 1],fun ws=>ws,H.length,fun ws ups=>?_,.inr ⟨H.length,rfl,by simp,hlo⟩,fun j sz r hj=>qah hj,(Low.refl _ _).push hlo,fun ws hx=>hx⟩;simp[appendop,qch,hp,hroom,alloc]
 · refine⟨H.set kt (.tok 3 (es.length+1)),wadd kt,kt,fun ws ups=>?_,.inr ⟨kt,rfl,by rw[qak h2];simp,h3⟩,fun j sz r hj=>qaa hj ?_,.set h3,fun ws hx=>qae h3 hx⟩
   ·simp[appendop,qch,hp,hroom,h2,qau]
   ·grind
theorem EncM.weak{t:Tm}{p:PV}(h:EncM t p):p.pure=true∧Enc t p.weak:=by
 obtain⟨k,n,l,sz,es,m,rfl,rfl,hz,hE⟩:=h
 have hall:∀{l:Ts}{es:PL},EncL l es→qas es=true∧qaq es=es:=fun{l es} hE=>by
  have:∀p∈es,p.pure=true∧p.weak=p:=fun p hp=>by
   obtain⟨i,hi,rfl⟩:=List.getElem_of_mem hp;have hil:i<l.length:=by have:=hE.1;omega
   have hx:l[i]?=some l[i]:=gE0 hil;exact(hE.2 i _ _ hx (gE0 hi)).facts.2
  clear hE;induction es with
  |nil=>exact⟨rfl,rfl⟩
  |cons p es ih=>
    obtain⟨h1,h2⟩:=ih fun q hq=>this q (by simp[hq]);obtain⟨h3,h4⟩:=this p (by simp);simp[qas,qaq,h1,h2,h3,h4]
 obtain⟨h1,h2⟩:=hall hE;refine⟨by simp[PV.pure,qas,h1],?_⟩;have:(PV.agg [iv0 k,iv0 n,.slice sz es m]).weak=.agg [iv0 k,iv0 n,.slice sz es .any]:=by simp[PV.weak,qaq,h2]
 rw[this];exact .mk _ _ _ _ _ hz hE.1 hE.2
theorem EncL.snocT{l:Ts}{es:PL}{i:Nat}{x:Tm}{q:PV}(h:EncL (l.take i) es)(hx:l[i]?=some x)(hq:Enc x q):EncL (l.take (i+1)) (es++[q]):=by
 have hil:=(gI0.1 hx).1;have h1:=h.1;rw[lT0]at h1;refine⟨by simp[h1];omega,fun j y p hy hp=>?_⟩;by_cases hj:j<i
 · rw[gL0 (by omega)]at hp;refine h.2 j y p ?_ hp;rw[List.getElem?_take,if_pos hj];rw[List.getElem?_take,if_pos (by omega)]at hy;exact hy
 ·grind
include hT in
theorem var268_ev(n:Int)(h:Hp):Ev T 268 [iv0 n] h (ba (.agg [iv0 1,iv0 n,.slice 0 [] .any]) h):=by
 refine hT.wk fn268 (by decide) ?_;have fb:qdt [PV.int .i64 0,iv0 0,.sn] [(0,1,iv0 1),(1,1,iv0 n)]=some [iv0 1,iv0 n,.sn]:=rfl;have sb:=fun ws=>qa5 (h:=h) (ws:=ws) (ups:=[]) (z:=zq3) (sz:=3) (c:=.agg [iv0 1,iv0 n,.sn]) rfl rfl rfl rfl ⟨_,rfl⟩ ⟨_,rfl⟩;have kq:=gC0 (l:=h) (a:=row 3 [.agg [iv0 1,iv0 n,.sn]]);have low:Low h.length h (h++[row 3 [.agg [iv0 1,iv0 n,.sn]]]):=(Low.refl _ _).push (nR0 _);generalize hH:h++[row 3 [.agg [iv0 1,iv0 n,.sn]]]=H at*;have lq:loadAt true 3 (.pb h.length) H=some (.agg [iv0 1,iv0 n,.sn]):=by rw[qad kq];rfl
 simp(disch:=omega) only[go_sem,fb,sb,resv,lq,ll0];exact qa9 rfl low (qae (nR0 _) (by simp)) (by simp)
include hT in
theorem fresh_ev{t:Tm}{p:PV}(ht:Enc t p):t.nodes≤2000→∀h:Hp,∃q:PV,Ev T 192 [p] h (ba q h)∧Enc t q:=by
 have hc:=ht.cells;have hsb:=ht.sub;induction ht with
 |mk k n l sz es hz hl he ih=>
   intro hnd h;refine hT.wp (r:=fun q:PV=>(ba q h)) fn192 (by decide) ?_;obtain⟨c1,c2,c3,c4⟩:=hc;have hll:=qcd l;simp only[Tm.nodes]at hnd;have hP0:∃P,P=PV.agg [iv0 k,iv0 n,.slice sz es .any]:=⟨_,rfl⟩;obtain⟨P,hP⟩:=hP0;rw[←hP]at hsb c1 c2 c3 c4⊢;have k1:=gC0 (l:=h) (a:=row 3 [P]);have low1:Low h.length h (h++[row 3 [P]]):=(Low.refl _ _).push (nR0 _);have hl1:(h++[row 3 [P]]).length=h.length+1:=by simp
   generalize hH1:h++[row 3 [P]]=H1 at*;have k2:=gC0 (l:=H1) (a:=row 3 [zN]);have k12:=qah (o2:=row 3 [zN]) k1;have low2:=low1.push (o:=row 3 [zN]) (by omega);have hl2:(H1++[row 3 [zN]]).length=h.length+2:=by simp;omega
   have e2:H1++[row 3 [zq3]]=H1++[row 3 [zN]]:=rfl;generalize H1++[row 3 [zN]]=H2 at*;generalize hkr:H1.length=kr at*;have l0:loadAt false 1 (.pb h.length) H2=some (iv0 k):=by rw[qad k12,hP];rfl
   have l1:loadAt false 1 (.ptr h.length 0 1 1) H2=some (iv0 n):=by rw[qad k12,hP];rfl
   have fb:qdt [PV.int .i64 0,iv0 0,.sn] [(0,1,iv0 k),(1,1,iv0 n)]=some [iv0 k,iv0 n,.sn]:=rfl;have sb:=fun ws=>qa5 (h:=H2) (ws:=ws) (ups:=[]) (z:=zq3) (sz:=3) (c:=.agg [iv0 k,iv0 n,.sn]) rfl rfl rfl rfl ⟨_,rfl⟩ ⟨_,rfl⟩;have k3:=gC0 (l:=H2) (a:=row 3 [.agg [iv0 k,iv0 n,.sn]]);have k23:=qah (o2:=row 3 [.agg [iv0 k,iv0 n,.sn]]) k2;have k13:=qah (o2:=row 3 [.agg [iv0 k,iv0 n,.sn]]) k12;have low3:=low2.push (o:=row 3 [.agg [iv0 k,iv0 n,.sn]]) (by omega);have hl3:(H2++[row 3 [.agg [iv0 k,iv0 n,.sn]]]).length=h.length+3:=by simp;omega
   generalize hH3:H2++[row 3 [.agg [iv0 k,iv0 n,.sn]]]=H3 at*;generalize hkx:H2.length=kx at*;have l2:loadAt false 1 (.ptr h.length 0 2 1) H3=some (.slice sz es .any):=by rw[qad k13,hP];rfl
   simp(disch:=omega) only[go_sem,hH1,e2,hkr,hkx,c1,c3,ll0,l0,l1,fb,sb,l2]
   refine wpC.loopM (fun g e st=> ∃(i:Nat)(v:PV)(qs:PL)(H:Hp)(ws:NL)(ups:UL),i+g=es.length∧EncL (l.take i) qs∧AppL H v qs h.length∧H[kx]?=some (.row 3 [.agg [iv0 k,iv0 n,v]])∧H[kr]?=some (.row 3 [zN])∧Low h.length h H∧(∀x∈ws,h.length≤x)∧(∀x∈ups,h.length≤x.1)∧eget e 2=.pb kr∧eget e 3=.pb kx∧eget e 12=.slice sz es .any∧eget e 13=iv0 (es.length:Int)∧eget e 14=iv0 (i:Int)∧st=⟨H,ws,ups⟩) ?_ es.length _ _
    ⟨0,_,[],H3,_,[],by omega,⟨by simp,by simp⟩,.inl ⟨rfl,rfl⟩,k3,k23,low3,qae (by omega) (by simp),by simp,by simp only[go_sem],by simp only[go_sem],by simp only[go_sem],by simp only[go_sem],by simp only[go_sem];rfl,rfl⟩
   rintro g e st ⟨i,v,qs,H,ws,ups,hi,hEq,hA,kx',kr',low,hw,hu,e2,e3,e12,e13,e14,rfl⟩;have hHl:=low.len;by_cases h1:i<es.length
   · have ga:=qbt h1;have hx:l[i]?=some l[i]:=gE0 (by omega);have hE:=he i l[i] es[i] hx ga;have hndx:=qc6 (mG0 hx);have hqs:=hEq.1;rw[lT0]at hqs;have hsz:sz=3:=by grind
     subst hsz;have ihx:=ih i l[i] es[i] hx ga hE.cells hE.sub (by omega);obtain⟨b1,b2,b3,b4⟩:=hE.cells;have bt:=hE.facts.1;have bs:=hE.sub;generalize es[i]=y at*;have sb:=qa5 (h:=H) (ws:=ws) (ups:=ups) (z:=zq3) (sz:=3) (c:=y) b1 rfl b2 bt ⟨_,rfl⟩ b4;have kq:=gC0 (l:=H) (a:=row 3 [y]);have kx5:=qah (o2:=row 3 [y]) kx';have kr5:=qah (o2:=row 3 [y]) kr';have low5:=low.push (o:=row 3 [y]) hHl;have A5:=hA.push (o:=.row 3 [y]);have hw5:∀x∈wadd H.length ws,h.length≤x:=qae hHl hw;generalize hH5:H++[row 3 [y]]=H5 at*;have hHl5:=low5.len;generalize hkk:H.length=kk at*;have lq:loadAt true 3 (.pb kk) H5=some y:=by rw[qad kq];exact bs
     have lv:loadAt false 1 (.ptr kx 0 2 1) H5=some v:=by rw[qad kx5];rfl
     obtain⟨q,ev,hq⟩:=ihx H5;obtain⟨d1,d2,d3,_⟩:=hq.cells;have fe:=fe_1 (p:=q) ⟨d1,d3⟩;obtain⟨H',fw,kt,ap,A',keep',low',hfw⟩:=qlf A5 d2 (by omega) hHl5;have kx6:=keep' _ _ _ kx5;have kr6:=keep' _ _ _ kr5;obtain⟨u3,sv,hu3⟩:=st_f2W (ups:=ups) (kt:=kt) (es:=qs++[q]) kx6;have h1':(i:Int)< (es.length:Int):=by omega
     simp(disch:=first|omega|decide|simp only[go_sem]) only[go_sem,a192b0,e2,e3,e12,e13,e14,h1',ga,bs,hkk,sb,lq,lv,cb ev,fe,ap,sv,hT.q];refine⟨g - 1,by omega,i+1,_,qs++[q],_,_,_,by omega,hEq.snocT hx hq,A'.set kx6,qak kx6,qaa kr6 (by omega),(low5.trans low').trans (.set (by omega)),?_,fun x hx=>?_,rfl,rfl⟩
     · refine qae (by omega) fun x hx=>?_;rcases qat hx with h|h
       ·cases h
       · rcases qat h with h|h
         ·grind
         ·grind
     ·grind
   · have h1':¬(i:Int)< (es.length:Int):=by omega
     rw[tL0 (by omega)]at hEq;obtain⟨sz',m,rfl,hsz'⟩:=hA.slice;have lx:loadAt true 3 (.pb kx) H=some (.agg [iv0 k,iv0 n,.slice sz' qs m]):=by rw[qad kx'];rfl
     obtain⟨u4,sv,hu4⟩:=qf0 (ups:=ups) (x:=k) (y:=n) (sz:=sz') (es:=qs) (m:=m) kr';have l8:loadAt true 3 (.pb kr) (H.set kr (.row 3 [.agg [iv0 k,iv0 n,.slice sz' qs m]]))=some (.agg [iv0 k,iv0 n,.slice sz' qs m]):=by rw[qad (qak kr')];rfl
     obtain⟨w1,w2⟩:=EncM.weak (t:=.mk k n l) (p:=.agg [iv0 k,iv0 n,.slice sz' qs m]) ⟨k,n,l,sz',qs,m,rfl,rfl,hsz',hEq⟩;simp(disch:=omega) only[go_sem,a192b0,e2,e3,e13,e14,h1',lx,sv,resv,l8];refine⟨_,qa9 w1 (low.trans (.set (by omega))) (qae (by omega) hw) (fun x hx=>?_),w2⟩;rcases hu4 x hx with h|h
     ·exact hu x h
     ·omega
include hT in
theorem mapped_ev{t:Tm}{p:PV}(ht:Enc t p):t.nodes≤2000→qav t=true→∀h:Hp,∃q:PV,Ev T 157 [p,.func (.func 268) [] []] h (ba q h)∧Enc t q:=by
 have hc:=ht.cells;have hsb:=ht.sub;induction ht with
 |mk k n l sz es hz hl he ih=>
   intro hnd hsh h;simp only[qav,bA0,dE0,qb2]at hsh;obtain⟨⟨⟨⟨_,hk1⟩,_⟩,hl8⟩,hall⟩:=hsh;refine hT.wp (r:=fun q:PV=>(ba q h)) fn157 (by decide) ?_;obtain⟨c1,c2,c3,c4⟩:=hc;simp only[Tm.nodes]at hnd;have hP0:∃P,P=PV.agg [iv0 k,iv0 n,.slice sz es .any]:=⟨_,rfl⟩;obtain⟨P,hP⟩:=hP0;rw[←hP]at hsb c1 c2 c3 c4⊢;have k1:=gC0 (l:=h) (a:=row 3 [P]);have low1:Low h.length h (h++[row 3 [P]]):=(Low.refl _ _).push (nR0 _);have hl1:(h++[row 3 [P]]).length=h.length+1:=by simp
   generalize hH1:h++[row 3 [P]]=H1 at*;have k2:=gC0 (l:=H1) (a:=row 3 [zN]);have k12:=qah (o2:=row 3 [zN]) k1;have low2:=low1.push (o:=row 3 [zN]) (by omega);have hl2:(H1++[row 3 [zN]]).length=h.length+2:=by simp;omega
   have e2:H1++[row 3 [zq3]]=H1++[row 3 [zN]]:=rfl;generalize H1++[row 3 [zN]]=H2 at*;generalize hkr:H1.length=kr at*;have l0:loadAt false 1 (.pb h.length) H2=some (iv0 k):=by rw[qad k12,hP];rfl
   have l1:loadAt false 1 (.ptr h.length 0 1 1) H2=some (iv0 n):=by rw[qad k12,hP];rfl
   by_cases hk:k=1
   · have hkb:(k==1)=true:=by simpa using hk
     have hl0:l=[]:=by simpa[hk]using hk1
     have ev:=var268_ev hT n H2;obtain⟨u4,sv,hu4⟩:=qf0 (ups:=[]) (x:=1) (y:=n) (sz:=0) (es:=[]) (m:=.any) k2;have l8:loadAt true 3 (.pb kr) (H2.set kr (.row 3 [.agg [iv0 1,iv0 n,.slice 0 [] .any]]))=some (.agg [iv0 1,iv0 n,.slice 0 [] .any]):=by rw[qad (qak k2)];rfl
     simp(disch:=omega) only[go_sem,hH1,e2,hkr,c1,c3,l0,l1,hkb,cb ev,hT.q,sv,resv,l8];refine⟨.agg [iv0 1,iv0 n,.slice 0 [] .any],qa9 rfl (low2.trans (.set (by omega))) (qae (by omega) (fun x hx=>?_)) (fun x hx=>?_),?_⟩
     ·cases hx
     ·grind
     · rw[hk,hl0];exact .mk 1 n [] 0 [] (.inl rfl) rfl fun i x p h=>by simp at h
   have hkb:(k==1)=false:=by simpa using hk
   have fb:qdt [PV.int .i64 0,iv0 0,.sn] [(0,1,iv0 k),(1,1,iv0 n)]=some [iv0 k,iv0 n,.sn]:=rfl;have sb:=fun ws=>qa5 (h:=H2) (ws:=ws) (ups:=[]) (z:=zq3) (sz:=3) (c:=.agg [iv0 k,iv0 n,.sn]) rfl rfl rfl rfl ⟨_,rfl⟩ ⟨_,rfl⟩;have k3:=gC0 (l:=H2) (a:=row 3 [.agg [iv0 k,iv0 n,.sn]]);have k23:=qah (o2:=row 3 [.agg [iv0 k,iv0 n,.sn]]) k2;have k13:=qah (o2:=row 3 [.agg [iv0 k,iv0 n,.sn]]) k12;have low3:=low2.push (o:=row 3 [.agg [iv0 k,iv0 n,.sn]]) (by omega);have hl3:(H2++[row 3 [.agg [iv0 k,iv0 n,.sn]]]).length=h.length+3:=by simp;omega
   generalize hH3:H2++[row 3 [.agg [iv0 k,iv0 n,.sn]]]=H3 at*;generalize hkx:H2.length=kx at*;have l2:loadAt false 1 (.ptr h.length 0 2 1) H3=some (.slice sz es .any):=by rw[qad k13,hP];rfl
   simp(disch:=omega) only[go_sem,hH1,e2,hkr,hkx,c1,c3,ll0,l0,l1,hkb,fb,sb,l2]
   refine wpC.loopM (fun g e st=> ∃(i:Nat)(v:PV)(qs:PL)(H:Hp)(ws:NL)(ups:UL),i+g=es.length∧EncL (l.take i) qs∧AppL H v qs h.length∧H[kx]?=some (.row 3 [.agg [iv0 k,iv0 n,v]])∧H[kr]?=some (.row 3 [zN])∧Low h.length h H∧(∀x∈ws,h.length≤x)∧(∀x∈ups,h.length≤x.1)∧eget e 1=.func (.func 268) [] []∧eget e 4=.pb kr∧eget e 5=.pb kx∧eget e 21=.slice sz es .any∧eget e 22=iv0 (es.length:Int)∧eget e 23=iv0 (i:Int)∧st=⟨H,ws,ups⟩) ?_ es.length _ _
    ⟨0,_,[],H3,_,[],by omega,⟨by simp,by simp⟩,.inl ⟨rfl,rfl⟩,k3,k23,low3,qae (by omega) (by simp),by simp,by simp only[go_sem],by simp only[go_sem],by simp only[go_sem],by simp only[go_sem],by simp only[go_sem],by simp only[go_sem];rfl,rfl⟩
   rintro g e st ⟨i,v,qs,H,ws,ups,hi,hEq,hA,kx',kr',low,hw,hu,e1,e4,e5,e21,e22,e23,rfl⟩;have hHl:=low.len;by_cases h1:i<es.length
   · have ga:=qbt h1;have hx:l[i]?=some l[i]:=gE0 (by omega);have hE:=he i l[i] es[i] hx ga;have hndx:=qc6 (mG0 hx);have hqs:=hEq.1;rw[lT0]at hqs;have hsz:sz=3:=by grind
     subst hsz;have ihx:=ih i l[i] es[i] hx ga hE.cells hE.sub (by omega) (List.all_eq_true.1 hall _ (mG0 hx));obtain⟨b1,b2,b3,b4⟩:=hE.cells;have bt:=hE.facts.1;have bs:=hE.sub;generalize es[i]=y at*;have sb:=qa5 (h:=H) (ws:=ws) (ups:=ups) (z:=zq3) (sz:=3) (c:=y) b1 rfl b2 bt ⟨_,rfl⟩ b4;have kq:=gC0 (l:=H) (a:=row 3 [y]);have kx5:=qah (o2:=row 3 [y]) kx';have kr5:=qah (o2:=row 3 [y]) kr';have low5:=low.push (o:=row 3 [y]) hHl;have A5:=hA.push (o:=.row 3 [y]);have hw5:∀x∈wadd H.length ws,h.length≤x:=qae hHl hw;generalize hH5:H++[row 3 [y]]=H5 at*;have hHl5:=low5.len;generalize hkk:H.length=kk at*;have lq:loadAt true 3 (.pb kk) H5=some y:=by rw[qad kq];exact bs
     have lv:loadAt false 1 (.ptr kx 0 2 1) H5=some v:=by rw[qad kx5];rfl
     obtain⟨q,ev,hq⟩:=ihx H5;obtain⟨d1,d2,d3,_⟩:=hq.cells;have fe:=fe_1 (p:=q) ⟨d1,d3⟩;obtain⟨H',fw,kt,ap,A',keep',low',hfw⟩:=qlf A5 d2 (by omega) hHl5;have kx6:=keep' _ _ _ kx5;have kr6:=keep' _ _ _ kr5;obtain⟨u3,sv,hu3⟩:=st_f2W (ups:=ups) (kt:=kt) (es:=qs++[q]) kx6;have h1':(i:Int)< (es.length:Int):=by omega
     simp(disch:=first|omega|decide|simp only[go_sem]) only[go_sem,a157b0,e1,e4,e5,e21,e22,e23,h1',ga,bs,hkk,sb,lq,lv,cb ev,fe,ap,sv,hT.q];refine⟨g - 1,by omega,i+1,_,qs++[q],_,_,_,by omega,hEq.snocT hx hq,A'.set kx6,qak kx6,qaa kr6 (by omega),(low5.trans low').trans (.set (by omega)),?_,fun x hx=>?_,rfl,rfl⟩
     · refine qae (by omega) fun x hx=>?_;rcases qat hx with h|h
       ·cases h
       · rcases qat h with h|h
         ·grind
         ·grind
     ·grind
   · have h1':¬(i:Int)< (es.length:Int):=by omega
     rw[tL0 (by omega)]at hEq;obtain⟨sz',m,rfl,hsz'⟩:=hA.slice;have lx:loadAt true 3 (.pb kx) H=some (.agg [iv0 k,iv0 n,.slice sz' qs m]):=by rw[qad kx'];rfl
     obtain⟨u4,sv,hu4⟩:=qf0 (ups:=ups) (x:=k) (y:=n) (sz:=sz') (es:=qs) (m:=m) kr';have l8:loadAt true 3 (.pb kr) (H.set kr (.row 3 [.agg [iv0 k,iv0 n,.slice sz' qs m]]))=some (.agg [iv0 k,iv0 n,.slice sz' qs m]):=by rw[qad (qak kr')];rfl
     obtain⟨w1,w2⟩:=EncM.weak (t:=.mk k n l) (p:=.agg [iv0 k,iv0 n,.slice sz' qs m]) ⟨k,n,l,sz',qs,m,rfl,rfl,hsz',hEq⟩;simp(disch:=omega) only[go_sem,a157b0,e4,e5,e22,e23,h1',lx,sv,resv,l8];refine⟨_,qa9 w1 (low.trans (.set (by omega))) (qae (by omega) hw) (fun x hx=>?_),w2⟩;rcases hu4 x hx with h|h
     ·exact hu x h
     ·omega
include hT in
theorem qml{t:Tm}{p:PV}(ht:Enc t p)(hn:t.nodes≤2000)(hs:qav t=true)(h:Hp):∃q:PV,Ev T 226 [p] h (ba q h)∧Enc t q:=by
 refine hT.wp (r:=fun q:PV=>(ba q h)) fn226 (by decide) ?_;obtain⟨c1,_,c3,_⟩:=ht.cells;have hsb:=ht.sub;have k1:=gC0 (l:=h) (a:=row 3 [p]);have low1:Low h.length h (h++[row 3 [p]]):=(Low.refl _ _).push (nR0 _);have hl1:(h++[row 3 [p]]).length=h.length+1:=by simp
 generalize hH1:h++[row 3 [p]]=H1 at*;have k2:=gC0 (l:=H1) (a:=row 3 [zN]);have k12:=qah (o2:=row 3 [zN]) k1;have low2:=low1.push (o:=row 3 [zN]) (by omega);have e2:H1++[row 3 [zq3]]=H1++[row 3 [zN]]:=rfl;generalize H1++[row 3 [zN]]=H2 at*;generalize hkr:H1.length=kr at*;have l0:loadAt true 3 (.pb h.length) H2=some p:=by rw[qad k12];exact hsb
 obtain⟨q,ev,hq⟩:=mapped_ev hT ht hn hs H2;obtain⟨k,n,l,sz,es,rfl,rfl,_,_⟩:=hq.eq;obtain⟨u4,sv,hu4⟩:=qf0 (ups:=[]) (x:=k) (y:=n) (sz:=sz) (es:=es) (m:=.any) k2;have l8:loadAt true 3 (.pb kr) (H2.set kr (.row 3 [.agg [iv0 k,iv0 n,.slice sz es .any]]))=some (.agg [iv0 k,iv0 n,.slice sz es .any]):=by rw[qad (qak k2)];rfl
 simp(disch:=omega) only[go_sem,hH1,e2,hkr,c1,c3,l0,cb ev,hT.q,sv,resv,l8];refine⟨.agg [iv0 k,iv0 n,.slice sz es .any],?_,hq⟩
 have:=qa9 (v:=.agg [iv0 k,iv0 n,.slice sz es .any]) hq.facts.2.1 (low2.trans (.set (k:=kr) (o:=.row 3 [.agg [iv0 k,iv0 n,.slice sz es .any]]) (by omega))) (ws:=wadd kr (wall [] [])) (qae (by omega) (fun x hx=>by rcases qat hx with h|h<;>cases h)) (ups:=u4) (fun x hx=>by
  rcases hu4 x hx with h|h
  ·cases h
  ·omega)
 rw[hq.facts.2.2]at this;exact this
def RowW(y:PV):Prop:=y=qdd∨RowE y
theorem RowT.weak{y:PV}(h:RowT y):y.pure=true∧RowW y.weak∧(RowE y→y.weak=y):=by
 rcases h with rfl|⟨u,h,ht⟩
 ·exact⟨rfl,.inl rfl,fun h=>absurd h zN_not⟩
 · obtain⟨_,h1,h2⟩:=h.facts;exact⟨h1,.inr (by rw[h2];exact⟨u,h,ht⟩),fun _=>h2⟩
theorem qny{H:Hp}{n0 n:Nat}:∀{ys:PL},(∀y∈ys,y.pure=true)→qbs (ys.map (frz H n0 (n+1)))=some (ys.map PV.weak)
 |[],_=>rfl
 |y::ys,h=>by have h1:=qb0 (h:=H) (n0:=n0) (n:=n) (h y (by simp));have h2:=qny (H:=H) (n0:=n0) (n:=n) (ys:=ys) fun z hz=>h z (by simp[hz]);simp only[List.map_cons,qbs,h1,h2,Option.map]
theorem frz_terms{H:Hp}{n0 n k N:Nat}{ys:PL}(hk:H[k]?=some (.row 3 ys))(hy:ys.length=N)(hn:n0≤k)(hp:∀y∈ys,y.pure=true):frz H n0 (n+2) (.aref k 3 0 N N)=some (.slice 3 (ys.map PV.weak) .any):=by
 have h1:¬k<n0:=by omega
 rw[frz];simp only[PV.pure,bF0,if_false,h1,hk];rw[if_pos ⟨hy.symm,by omega⟩,List.drop_zero,tL0 (by omega),qny hp];rfl
theorem qp6{h H:Hp}{v v':PV}{ws:NL}{ups:UL}(hf:frz H h.length 64 v=some v')(L:Low h.length h H)(hw:∀k∈ws,h.length≤k)(hu:∀x∈ups,h.length≤x.1):tidy 2 h.length (.val v) ⟨H,ws,ups⟩=(ba (qhu v v') h):=by
 have hb:below h.length ws=[]:=List.filter_eq_nil_iff.2 fun k hk=>by have:=hw k hk;simp;omega
 have hua:(ups.any fun(k,j)=>k<h.length&&h.length≤j)=false:=by grind
 have huf:ups.filter (fun(k,_)=>k<h.length)=[]:=List.filter_eq_nil_iff.2 fun x hx=>by have:=hu x hx;simp;omega
 have ht:H.take h.length=h:=by rw[L.take];simp
 unfold tidy;rw[if_neg (by decide),if_neg (by simpa using hua)];simp only[OR.v,hf,hb,huf,ht,OR.put];rfl
def mtchV(L:PL)(z:Nat)(b:Bool)(e:Int):PV:=.tuple [.slice z L (if b then .nonnil else .nil),.bool b,iv0 e]
structure MtchR (p:Tm)(L:PL)(z:Nat)(b:Bool)(e:Int):Prop where
 ok:e=0→b=true→z=3∧(∀y∈L,RowW y)∧qfk (qci p) L∧qa1 p=true
include hT in
theorem mtch_ev{p t:Tm}{P Q:PV}(hp:Enc p P)(ht:Enc t Q)(h:Hp):
 ∃x:PL×Nat×Bool×Int,Ev T 236 [P,Q] h (ba (mtchV x.1 x.2.1 x.2.2.1 x.2.2.2) h)∧MtchR p x.1 x.2.1 x.2.2.1 x.2.2.2:=by
 refine hT.wp (r:=fun x:PL×Nat×Bool×Int=>(ba (mtchV x.1 x.2.1 x.2.2.1 x.2.2.2) h)) fn236 (by decide) ?_;obtain⟨c1,_,c3,_⟩:=hp.cells;obtain⟨d1,_,d3,_⟩:=ht.cells;have psb:=hp.sub;have qsb:=ht.sub;have k1:=gC0 (l:=h) (a:=row 3 [P]);have low1:Low h.length h (h++[row 3 [P]]):=(Low.refl _ _).push (nR0 _);have hl1:(h++[row 3 [P]]).length=h.length+1:=by simp
 generalize hH1:h++[row 3 [P]]=H1 at*;have kq:=gC0 (l:=H1) (a:=row 3 [Q]);have kp:=qah (o2:=row 3 [Q]) k1;have low2:=low1.push (o:=row 3 [Q]) (by omega);have hl2:(H1++[row 3 [Q]]).length=h.length+2:=by simp;omega
 generalize hH2:H1++[row 3 [Q]]=H2 at*;generalize hkQ:H1.length=kQ at*;have lP:loadAt true 3 (.pb h.length) H2=some P:=by rw[qad kp];exact psb
 have lQ:loadAt true 3 (.pb kQ) H2=some Q:=by rw[qad kq];exact qsb
 have fe2:=fe_two (p:=P) (q:=Q) ⟨c1,c3⟩ ⟨d1,d3⟩;have fe1:=fe_1 (p:=P) ⟨c1,c3⟩
 have hE2:EncL [p,t] [P,Q]:=⟨rfl,fun i x y hx hy=>by
  rcases i with _|_|i
  ·grind
  ·grind
  ·simp at hx⟩
 have hE1:EncL [p] [P]:=⟨rfl,fun i x y hx hy=>by
  rcases i with _|i
  ·grind
  ·simp at hx⟩
 have n0:((0:Int) !=0)=false:=rfl;have n4:((4:Int) !=0)=true:=rfl;have td:∀(e:Int)(H:Hp)(ws:NL),Low h.length h H→(∀k∈ws,h.length≤k)→tidy 2 h.length (.val (.tuple [.sn,.bool false,iv0 e])) ⟨H,ws,[]⟩=(ba (mtchV [] 0 false e) h):=fun e H ws L hw=>qp6 (v:=.tuple [.sn,.bool false,iv0 e]) (v':=.tuple [.slice 0 [] .any,.bool false,iv0 e]) (qb0 rfl) L hw (by simp);have c195:=qk0 hT (m:=.lit) (.inr rfl) hE2 (by simp) H2;cases hb:[p,t].all qa1
 · rw[hb]at c195;simp only[bF0,if_false]at c195;simp(disch:=omega) only[go_sem,hH1,hkQ,hH2,c1,c3,d1,d3,lP,lQ,fe2,cb c195,n4,hT.prim,qab];exact⟨([],0,false,4),td _ _ _ low2 (by simp),⟨nofun⟩⟩
 rw[hb]at c195;simp only[if_true]at c195;have htp:qa1 p=true:=by simp only[List.all_cons,bA0]at hb;exact hb.1
 have htt:qa1 t=true:=by simp only[List.all_cons,bA0]at hb;exact hb.2.1
 have hpn:=qbi htp;have c196:=qii hT 2000 [p] 3 [P] .lit (by simp[qba];omega) (by omega) (.inr rfl) hE1 H2;obtain⟨g1,g2⟩:=ql6 [p];by_cases hg:4000<grtL [p]
 · have hg':(4000:Int)<grtL [p]:=hg;simp(disch:=omega) only[go_sem,hH1,hkQ,hH2,c1,c3,d1,d3,lP,lQ,fe2,fe1,cb c195,cb c196,n0,hg',hT.prim,qab];exact⟨([],0,false,1),td _ _ _ low2 (by simp),⟨nofun⟩⟩
 obtain⟨n,hn⟩:=iZ0 (show(0:Int)≤grtL [p]+1 by omega);have gn:grtL [p]+1=(n:Int):=hn;have mk:=mk_ok4 (sz:=3) (bytes:=40) (n:=n) (z:=.agg [iv0 0,iv0 0,.sn]) (by omega) (by omega) rfl;have kl3:=gC0 (l:=H2) (a:=row 3 (List.replicate n zN));have kp3:=qah (o2:=row 3 (List.replicate n zN)) kp;have kq3:=qah (o2:=row 3 (List.replicate n zN)) kq;have low3:=low2.push (o:=row 3 (List.replicate n zN)) (by omega);have e3:H2++[row 3 (List.replicate n zq3)]=H2++[row 3 (List.replicate n zN)]:=rfl;generalize H2++[row 3 (List.replicate n zN)]=H3 at*;generalize hkl:H2.length=kl at*;have lP3:loadAt true 3 (.pb h.length) H3=some P:=by rw[qad kp3];exact psb
 have lQ3:loadAt true 3 (.pb kQ) H3=some Q:=by rw[qad kq3];exact qsb
 obtain⟨r,ys,ws,ev,MP,hB,hw⟩:=match_ev hT (kl:=kl) (n:=n) hp (qaw htp) (fun v hv=>by have:=g2 v (qf4 (mS0.2 rfl) hv);omega) t Q ht htt H3 _ kl3 (by simp) (fun y hy=>.inl (List.eq_of_mem_replicate hy))
 have hwl:∀x∈wall ws [],h.length≤x:=fun x hx=>by
  rcases qat hx with h|h
  ·grind
  ·cases h
 have low4:Low h.length h (H3.set kl (.row 3 ys)):=low3.trans (.set (by omega));have hg':¬(4000:Int)<grtL [p]:=hg;cases r
 · simp(disch:=omega) only[go_sem,hH1,hkQ,hH2,c1,c3,d1,d3,lP,lQ,fe2,fe1,cb c195,cb c196,n0,hg',gn,mk,hkl,e3,lP3,lQ3,cb ev,Bool.not_false,hT.prim,qab];exact⟨([],0,false,0),td _ _ _ low4 hwl,⟨nofun⟩⟩
 simp(disch:=omega) only[go_sem,hH1,hkQ,hH2,c1,c3,d1,d3,lP,lQ,fe2,fe1,cb c195,cb c196,n0,hg',gn,mk,hkl,e3,lP3,lQ3,cb ev,Bool.not_true,hT.prim,qab];have kl4:(H3.set kl (.row 3 ys))[kl]?=some (.row 3 ys):=qak kl3
 refine wpC.loopM (fun g e st=> ∃(i:Nat)(H:Hp)(ws:NL)(ys:PL),i+g=n∧ys.length=n∧(∀y∈ys,RowT y)∧qfk (qci p) ys∧H[kl]?=some (.row 3 ys)∧Low h.length h H∧(∀x∈ws,h.length≤x)∧eget e 8=.aref kl 3 0 n n∧eget e 29=.aref kl 3 0 n n∧eget e 30=iv0 (n:Int)∧eget e 31=iv0 (i:Int)∧st=⟨H,ws,[]⟩) ?_ n _ _
  ⟨0,_,_,ys,by omega,MP.len,MP.all,hB rfl,kl4,low4,hwl,by simp only[go_sem],by simp only[go_sem],by simp only[go_sem],by simp only[go_sem];rfl,rfl⟩
 clear ev hB hw hwl MP kl4;rintro g e st ⟨i,H,ws,ys,hi,hyl,hall,hB,kl',low,hw,e8,e29,e30,e31,rfl⟩;have hHl:=low.len;by_cases h1:i<n
 · have gy:ys[i]?=some ys[i]:=gE0 (by omega);have hmy:=hall _ (mG0 gy);generalize ys[i]=y at*;have h1':(i:Int)< (n:Int):=by omega
   have hya:=hmy.agg;have lz:loadAt true 3 (.ptr kl i 0 n) H=AE.sub true 3 y 0:=qo7 kl' hyl gy
   have key:AE.sub true 3 y 0=some y∧y.cells.all PV.isCell=true∧y.top=none∧∃cs,y=.agg cs:=by
    rcases hmy with rfl|⟨u,hu,_⟩
    ·exact⟨rfl,rfl,rfl,_,rfl⟩
    · obtain⟨_,x2,_,x4⟩:=hu.cells;exact⟨hu.sub,x2,hu.facts.1,x4⟩
   obtain⟨ysb,y2,yt,y4⟩:=key;have sb:=qa5 (h:=H) (ws:=ws) (ups:=[]) (z:=zq3) (sz:=3) (c:=y) hya.1 rfl y2 yt ⟨_,rfl⟩ y4;have kb:=gC0 (l:=H) (a:=row 3 [y]);have kl5:=qah (o2:=row 3 [y]) kl';have low5:=low.push (o:=row 3 [y]) hHl;have hw5:∀x∈wadd H.length ws,h.length≤x:=qae hHl hw;generalize hH5:H++[row 3 [y]]=H5 at*;generalize hkk:H.length=kk at*;have lk:loadAt false 1 (.pb kk) H5=AE.sub false 1 y 0:=by rw[qad kb]
   have la:loadAt true 3 (.pb kk) H5=some y:=by rw[qad kb];exact ysb
   rcases hmy with rfl|⟨u,hu,hut⟩
   · have s0:AE.sub false 1 zN 0=some (iv0 0):=rfl;simp(disch:=omega) only[go_sem,a236b0,e8,e29,e30,e31,h1,h1',lz,ysb,hkk,sb,lk,s0,n0,ll0];exact⟨g - 1,by omega,i+1,_,_,ys,by omega,hyl,hall,hB,kl5,low5,hw5,rfl,rfl⟩
   · have s0:=hu.kind;have b0:(u.kind !=0)=true:=by simpa using qng hut
     obtain⟨q,ev,hq⟩:=qml hT hu (qbi hut) (qaw hut) H5;obtain⟨x1,x2,x3,x4⟩:=hq.cells;have sv:=fun ws ups=>qdc (ws:=ws) (ups:=ups) kl5 hyl gy hya ⟨x1,x2,x4⟩ hq.facts.1;simp(disch:=omega) only[go_sem,a236b0,e8,e29,e30,e31,h1,h1',lz,ysb,hkk,sb,lk,la,s0,b0,cb ev,sv,hT.q];refine⟨g - 1,by omega,i+1,_,_,ys.set i q,by omega,by simpa using hyl,fun z hz=>?_,fun v hv=>?_,qak kl5,low5.trans (.set (by omega)),?_,rfl,rfl⟩
     · rcases List.mem_or_eq_of_mem_set hz with h|rfl
       ·grind
       ·exact .inr ⟨u,hq,hut⟩
     · obtain⟨z,z1,z2⟩:=hB v hv;by_cases hvi:i=v.toNat
       ·exact⟨q,by rw[←hvi];exact List.getElem?_set_self (by omega),u,hq,hut⟩
       ·grind
     ·exact qae (by omega) hw5
 · have h1':¬(i:Int)< (n:Int):=by omega
   simp(disch:=omega) only[go_sem,a236b0,e8,e30,e31,h1'];have hf:frz H h.length 63 (.aref kl 3 0 n n)=some (.slice 3 (ys.map PV.weak) .any):=frz_terms kl' hyl (by omega) fun y hy=>(hall y hy).weak.1;have hi0:frz H h.length 63 (iv0 0)=some (iv0 0):=qb0 rfl;have hb0:frz H h.length 63 (.bool true)=some (.bool true):=qb0 rfl;have hff:frz H h.length 64 (.tuple [.aref kl 3 0 n n,.bool true,iv0 0])=some (.tuple [.slice 3 (ys.map PV.weak) .any,.bool true,iv0 0]):=by rw[frz];simp only[PV.pure,qas,Bool.false_and,bF0,if_false,List.map_cons,List.map_nil,hf,hi0,hb0,qbs,Option.map]
   refine⟨(ys.map PV.weak,3,true,0),qp6 hff low hw (by simp),⟨fun _ _=>⟨rfl,fun y hy=>?_,fun v hv=>?_,htp⟩⟩⟩
   · obtain⟨z,hz,rfl⟩:=mM0.1 hy;exact(hall z hz).weak.2.1
   · obtain⟨z,z1,z2⟩:=hB v hv;refine⟨z,?_,z2⟩;rw[gM0,z1];have:=(hall z (mG0 z1)).weak.2.2 z2;simp[this]
def panV:OR:=.pan (.iface 260 (.agg []))
theorem tidy_pan{h H:Hp}{ws:NL}{ups:UL}(L:Low h.length h H)(hw:∀k∈ws,h.length≤k)(hu:∀x∈ups,h.length≤x.1):tidy 0 h.length panV ⟨H,ws,ups⟩=(panV,⟨h,[],[]⟩):=by
 have hb:below h.length ws=[]:=List.filter_eq_nil_iff.2 fun k hk=>by have:=hw k hk;simp;omega
 have hua:(ups.any fun(k,j)=>k<h.length&&h.length≤j)=false:=by grind
 have huf:ups.filter (fun(k,_)=>k<h.length)=[]:=List.filter_eq_nil_iff.2 fun x hx=>by have:=hu x hx;simp;omega
 have ht:H.take h.length=h:=by rw[L.take];simp
 have hf:frz H h.length 64 (.iface 260 (.agg []))=some (.iface 260 (.agg [])):=qb0 rfl;unfold tidy panV;rw[if_neg (by decide),if_neg (by simpa using hua)];simp only[OR.v,hf,hb,huf,ht,OR.put];rfl
include hT in
theorem made_ev{k n:Int}{l0 ps:Ts}{X:PV}(hx:Enc (.mk k n l0) X){sz:Nat}{qs:PL}{m:SM}(hz:qs=[]∨sz=3)(hE:EncL ps qs)(h:Hp):
 ∃r:OR,Ev T 235 [X,.slice sz qs m] h (r,⟨h,[],[]⟩)∧((∃q,r=.val q∧Enc (.mk k n ps) q∧qa1 (.mk k n ps)=true)∨r=panV):=by
 refine hT.wp (r:=fun r:OR=>(r,⟨h,[],[]⟩)) fn235 (by decide) ?_;obtain⟨c1,c2,c3,c4⟩:=hx.cells;have k1:=gC0 (l:=h) (a:=row 3 [X]);have low1:Low h.length h (h++[row 3 [X]]):=(Low.refl _ _).push (nR0 _);have hl1:(h++[row 3 [X]]).length=h.length+1:=by simp
 generalize hH1:h++[row 3 [X]]=H1 at*;have k2:=gC0 (l:=H1) (a:=row 3 [zN]);have k12:=qah (o2:=row 3 [zN]) k1;have low2:=low1.push (o:=row 3 [zN]) (by omega);have hl2:(H1++[row 3 [zN]]).length=h.length+2:=by simp;omega
 have e2:H1++[row 3 [zq3]]=H1++[row 3 [zN]]:=rfl;generalize H1++[row 3 [zN]]=H2 at*;generalize hkr:H1.length=kr at*;have l0':loadAt false 1 (.pb h.length) H2=some (.int .i64 k):=by rw[qad k12];exact hx.kind
 have l1':loadAt false 1 (.ptr h.length 0 1 1) H2=some (.int .i64 n):=by rw[qad k12];cases hx;rfl
 have fb:qdt [PV.int .i64 0,.int .i64 0,.sn] [(0,1,.int .i64 k),(1,1,.int .i64 n),(2,1,.slice sz qs m)]=some [.int .i64 k,.int .i64 n,.slice sz qs m]:=rfl;have k3:=gC0 (l:=H2) (a:=row 3 [zN]);have k23:=qah (o2:=row 3 [zN]) k2;have low3:=low2.push (o:=row 3 [zN]) (by omega);have e3:H2++[row 3 [zq3]]=H2++[row 3 [zN]]:=rfl;generalize H2++[row 3 [zN]]=H3 at*;generalize hkx:H2.length=kx at*;obtain⟨u1,sv1,hu1⟩:=qf0 (ups:=[]) (x:=k) (y:=n) (sz:=sz) (es:=qs) (m:=m) k3;have k4:=qak (o':=row 3 [.agg [.int .i64 k,.int .i64 n,.slice sz qs m]]) k3;have k24:=qaa (o':=row 3 [.agg [.int .i64 k,.int .i64 n,.slice sz qs m]]) k23 (show kx≠kr by omega);have low4:Low h.length h (H3.set kx (.row 3 [.agg [.int .i64 k,.int .i64 n,.slice sz qs m]])):=low3.trans (.set (by omega));generalize hH4:H3.set kx (.row 3 [.agg [.int .i64 k,.int .i64 n,.slice sz qs m]])=H4 at*;have lx:loadAt true 3 (.pb kx) H4=some (.agg [.int .i64 k,.int .i64 n,.slice sz qs m]):=by rw[qad k4];rfl
 have hM:EncM (.mk k n ps) (.agg [.int .i64 k,.int .i64 n,.slice sz qs m]):=⟨k,n,ps,sz,qs,m,rfl,rfl,hz,hE⟩;have ev:=qoq hT hM H4;have n0:((0:Int) !=0)=false:=rfl;have n4:((4:Int) !=0)=true:=rfl;have f0:qdt ([]:PL) []=some []:=rfl
 have hu:∀x∈u1,h.length≤x.1:=fun x hx=>by
  rcases hu1 x hx with h|h
  ·cases h
  ·omega
 have hw1:∀x∈wadd kx [],h.length≤x:=qae (by omega) (by simp);cases hb:qa1 (.mk k n ps)
 · rw[hb]at ev;simp only[bF0,if_false]at ev;simp(disch:=omega) only[go_sem,hH1,e2,hkr,c1,c3,l0',l1',fb,e3,hkx,sv1,lx,cb ev,n4,f0,hT.q];exact⟨panV,tidy_pan low4 hw1 hu,.inr rfl⟩
 · rw[hb]at ev;simp only[if_true]at ev;obtain⟨u4,sv,hu4⟩:=qf0 (ups:=u1) (x:=k) (y:=n) (sz:=sz) (es:=qs) (m:=m) k24;have l8:loadAt true 3 (.pb kr) (H4.set kr (.row 3 [.agg [.int .i64 k,.int .i64 n,.slice sz qs m]]))=some (.agg [.int .i64 k,.int .i64 n,.slice sz qs m]):=by rw[qad (qak k24)];rfl
   obtain⟨w1,w2⟩:=hM.weak;simp(disch:=omega) only[go_sem,hH1,e2,hkr,c1,c3,l0',l1',fb,e3,hkx,sv1,lx,cb ev,n0,sv,resv,l8,hT.q];refine⟨_,qa9 w1 (low4.trans (.set (by omega))) (qae (by omega) hw1) (fun x hx=>?_),.inl ⟨_,rfl,w2,trivial⟩⟩;rcases hu4 x hx with h|h
   ·exact hu x h
   ·omega
include hT in
theorem qme{L:PL}{m:SM}(hm:m=.nonnil)(hp:qas L=true∧qaq L=L)(h:Hp):Ev T 238 [.slice 3 L m] h (ba (.slice 3 L .any) h):=by
 subst hm;refine hT.wk fn238 (by decide) ?_;have en:eqop .slice (.slice 3 L .nonnil) .sn=some false:=rfl;have td:tidy 0 h.length (.val (.slice 3 L .nonnil)) ⟨h,[],[]⟩=(ba (.slice 3 L .any) h):=by rw[qa9 (by simp[PV.pure,hp.1]) (Low.refl _ _) (by simp) (by simp)];simp[PV.weak,hp.2]
 simp(disch:=omega) only[go_sem,en,td]
def stp0:AE.Obj:=.row 2 [.agg [.sn,.sn]]
include hT in
theorem qqk{h:Hp}{k:Nat}(hk:h[k]?=some stp0):Ev T 271 [.pb k] h (ba (.slice 0 [] .any) h):=by
 refine hT.wk fn271 (by decide) ?_;have l0:loadAt false 1 (.pb k) h=some .sn:=by rw[qad hk];rfl
 have l1:loadAt false 1 (.ptr k 0 1 1) h=some .sn:=by rw[qad hk];rfl
 have n0:¬(0:Int)< ((0:Nat):Int):=by decide
 simp(disch:=omega) only[go_sem,l1,List.length_nil];refine unroll ?_;simp(disch:=omega) only[go_sem,a271b0,n0,l0];exact qa9 rfl (Low.refl _ _) (by simp) (by simp)
theorem Mod.low{h H H':Hp}{km:Nat}{o:AE.Obj}(M:Mod h H km o)(L:Low h.length H H'):Mod h H' km o:=⟨by rw[L.take];exact M.take,nT0 M.len L.len,M.lt⟩
theorem qfa{h H:Hp}{km:Nat}{o:AE.Obj}{ws:NL}(M:Mod h H km o)(W:okWs h km ws):∃ws',tidy 0 h.length panV ⟨H,ws,[]⟩=(panV,⟨h.set km o,ws',[]⟩)∧∀x∈ws',x=km:=by
 refine⟨below h.length ws,?_,fun x hx=>?_⟩
 · unfold tidy panV;have hf:frz H h.length 64 (.iface 260 (.agg []))=some (.iface 260 (.agg [])):=qb0 rfl;simp[OR.v,hf,M.take,OR.put]
 · obtain⟨h1,h2⟩:=List.mem_filter.1 hx;have h2:x<h.length:=by simpa using h2
   rcases W x h1 with h|h
   ·exact h
   ·omega
def AppJ(H:Hp)(v:PV)(es:PL)(lo:Nat):Prop:=(es=[]∧v=.sn)∨∃kt,v=.slice 2 es (.tok kt)∧H[kt]?=some (.tok 2 es.length)∧lo≤kt
theorem AppJ.push{H:Hp}{v:PV}{es:PL}{lo:Nat}{o:AE.Obj}(A:AppJ H v es lo):AppJ (H++[o]) v es lo:=by
 rcases A with h|⟨kt,h1,h2,h3⟩
 ·exact .inl h
 ·exact .inr ⟨kt,h1,qah h2,h3⟩
theorem AppJ.set{H:Hp}{v:PV}{es:PL}{lo k:Nat}{sz:Nat}{r r':PL}(A:AppJ H v es lo)(hk:H[k]?=some (.row sz r)):AppJ (H.set k (.row sz r')) v es lo:=by
 rcases A with h|⟨kt,h1,h2,h3⟩
 ·exact .inl h
 · refine .inr ⟨kt,h1,qaa h2 ?_,h3⟩;rintro rfl;rw[hk]at h2;cases h2
theorem append_J{H:Hp}{v p:PV}{es:PL}{lo:Nat}(A:AppJ H v es lo)(hp:p.cells.all PV.isCell=true)(hl:es.length<100000)(hlo:lo≤H.length):
 ∃(H':Hp)(fw:NL→NL)(kt:Nat),(∀ws ups,appendop 2 48 v (.slice 2 [p] .lit) ⟨H,ws,ups⟩=some (.slice 2 (es++[p]) (.tok kt),⟨H',fw ws,ups⟩))∧AppJ H' (.slice 2 (es++[p]) (.tok kt)) (es++[p]) lo∧(∀(j sz:Nat)(r:PL),H[j]?=some (.row sz r)→H'[j]?=some (.row sz r))∧(∀(j:Nat)(o:AE.Obj),o.isTok=false→H[j]?=some o→H'[j]?=some o)∧Low lo H H'∧∀ws,∀x∈fw ws,x∈ws∨lo≤x:=by
 have hroom:(es.length+1) *48≤room∧es.length+1≤room:=by
  have:10000000≤room:=by decide
  constructor<;>omega
 rcases A with⟨rfl,rfl⟩|⟨kt,rfl,h2,h3⟩
 · simp at hroom;refine⟨H++[.tok 2 1],fun ws=>ws,H.length,fun ws ups=>?_,.inr ⟨H.length,rfl,by simp,hlo⟩,fun j sz r hj=>qah hj,fun j o _ hj=>qah hj,(Low.refl _ _).push hlo,fun ws x hx=>.inl hx⟩;simp[appendop,qch,hp,hroom,alloc]
 · refine⟨H.set kt (.tok 2 (es.length+1)),wadd kt,kt,fun ws ups=>?_,.inr ⟨kt,rfl,by rw[qak h2];simp,h3⟩,fun j sz r hj=>qaa hj ?_,fun j o ho hj=>qaa hj ?_,.set h3,fun ws x hx=>?_⟩
   ·simp[appendop,qch,hp,hroom,h2,qau]
   ·grind
   · rintro rfl;rw[h2]at hj;cases hj;cases ho
   · rcases qa3 hx with h|h
     ·omega
     ·exact .inl h
def mchO(ks:Nat)(c:Int):AE.Obj:=.row 3 [.agg [.pb ks,.int .i64 c,.bool false]]
def sysV(t:GTy)(kb kf:Nat):PV:=.agg [.slice 1 (t.sig.sorts.map .str) .any,.slice 3 (t.sig.ops.map qao) .any,.slice 8 (t.eqns.map qaj) .any,.map (some kb),.func (.func 233) [] [.pb kf]]
structure SysH (H:Hp)(ks kf kb:Nat)(t:GTy)(es:List (PV×PV)):Prop where
 sys:H[ks]?=some (.row 5 [sysV t kb kf])
 fb:H[kf]?=some (.row 1 [.pb ks])
 mp:H[kb]?=some (.map es)
structure qmy (km ks kf kb:Nat):Prop where
 s:km≠ks
 f:km≠kf
 b:km≠kb
theorem SysH.mod{h H:Hp}{ks kf kb km:Nat}{t:GTy}{es:List (PV×PV)}{o:AE.Obj}(S:SysH h ks kf kb t es)(A:qmy km ks kf kb)(M:Mod h H km o):SysH H ks kf kb t es:=⟨M.old S.sys A.s,M.old S.fb A.f,M.old S.mp A.b⟩
def ByOk(es:List (PV×PV))(N:Nat):Prop:=∀(n:Int)(H:Hp)(kb:Nat),H[kb]?=some (.map es)→∃(z:Nat)(is:IL)(m:SM),qeb .int .sn false (.map (some kb)) (.int .i64 n) H=some (.slice z (is.map encI) m)∧(is=[]∨z=1)∧is.length≤1000∧∀i∈is,0≤i∧i< (N:Int)
theorem qhb(l:IL):qas (l.map encI)=true∧qaq (l.map encI)=l.map encI:=by
 induction l with
 |nil=>exact⟨rfl,rfl⟩
 |cons x L ih=>simp[qas,qaq,ih,encI,PV.pure,PV.weak]
include hT in
theorem find_ev{t:GTy}{es:List (PV×PV)}{H:Hp}{ks kf kb:Nat}(S:SysH H ks kf kb t es)(hB:ByOk es t.eqns.length){y:Tm}{Y:PV}(hy:Enc y Y):
 ∃x:Nat×IL,Ev T 233 [Y,.pb kf] H (ba (.slice x.1 (x.2.map encI) .any) H)∧(x.2=[]∨x.1=1)∧x.2.length≤1000∧∀i∈x.2,0≤i∧i< (t.eqns.length:Int):=by
 refine hT.wp (r:=fun x:Nat×IL=>(ba (.slice x.1 (x.2.map encI) .any) H)) fn233 (by decide) ?_;obtain⟨c1,c2,c3,c4⟩:=hy.cells;obtain⟨k,n,l,sz,qs,rfl,rfl,_,_⟩:=hy.eq;generalize hY:PV.agg [.int .i64 k,.int .i64 n,.slice sz qs .any]=Y at*;have k1:=gC0 (l:=H) (a:=row 3 [Y]);have s1:=qah (o2:=row 3 [Y]) S.sys;have f1:=qah (o2:=row 3 [Y]) S.fb;have m1:=qah (o2:=row 3 [Y]) S.mp;have low:Low H.length H (H++[row 3 [Y]]):=(Low.refl _ _).push (nR0 _);generalize hH1:H++[row 3 [Y]]=H1 at*;have l0:loadAt false 1 (.pb kf) H1=some (.pb ks):=by rw[qad f1];rfl
 have l3:loadAt false 1 (.ptr ks 0 3 1) H1=some (.map (some kb)):=by rw[qad s1];rfl
 have ln:loadAt false 1 (.ptr H.length 0 1 1) H1=some (.int .i64 n):=by rw[qad k1,←hY];rfl
 obtain⟨z,is,m,lk,hz2,hl,hi⟩:=hB n H1 kb m1;have td:tidy 0 H.length (.val (.slice z (is.map encI) m)) ⟨H1,[],[]⟩=(ba (.slice z (is.map encI) .any) H):=by rw[qa9 (by simp[PV.pure,(qhb is).1]) low (by simp) (by simp)];simp[PV.weak,(qhb is).2]
 simp(disch:=first|omega|decide|simp only[go_sem]) only[go_sem,hH1,c1,c3,l0,l3,ln,lk,td];exact⟨(z,is),rfl,hz2,hl,hi⟩
def LOk(X:Tm)(lv:PV):Prop:=lv=.sn∨∃L,lv=.slice 3 L .any∧qfk (qci X) L
def NormR(c:Int)(r:OR)(c':Int):Prop:=(∃q,r=.val q∧RowE q∧c≤c'∧c'≤20000)∨r=panV
def NormIH(T:Tbl)(t:GTy)(km ks kf kb:Nat)(d:Nat):Prop:=∀(X:Tm)(x:PV),Enc X x→qa1 X=true→∀lv,LOk X lv→∀a o:PV,(a=.nilptr∨∃k,a=.pb k)→∀(h:Hp)(es:List (PV×PV))(c:Int),SysH h ks kf kb t es→ByOk es t.eqns.length→h[km]?=some (mchO ks c)→0≤c→c≤20000→20000 - c< (d:Int)→
 ∃(r:OR)(c':Int)(ws:NL),Ev T 191 [.pb km,x,lv,a,o] h (r,⟨h.set km (mchO ks c'),ws,[]⟩)∧NormR c r c'∧∀y∈ws,y=km
theorem qfk.sub{vs us:IL}{L:PL}(h:qfk vs L)(hu:∀v∈us,v∈vs):qfk us L:=fun v hv=>h v (hu v hv)
theorem AppJ.set'{H:Hp}{v:PV}{es:PL}{lo k:Nat}{o o':AE.Obj}(A:AppJ H v es lo)(hk:H[k]?=some o)(ho:o.isTok=false):AppJ (H.set k o') v es lo:=by
 rcases A with h|⟨kt,h1,h2,h3⟩
 ·exact .inl h
 · refine .inr ⟨kt,h1,qaa h2 ?_,h3⟩;rintro rfl;rw[hk]at h2;cases h2;cases ho
theorem Mod.cut{h H:Hp}{km n:Nat}{o:AE.Obj}(M:Mod h H km o)(hn:h.length≤n):Mod h (H.take n) km o:=⟨by rw[List.take_take,Nat.min_eq_left hn];exact M.take,by have:=M.len;simp;omega,M.lt⟩
@[go_sem] theorem cutOk_pan{n:Nat}{h:Hp}{ws:NL}:cutOk n (.iface 260 (.agg [])) ⟨h,ws,[]⟩=true:=rfl
@[go_sem] theorem cutAt_mk{n:Nat}{h:Hp}{ws:NL}{ups:UL}:cutAt n ⟨h,ws,ups⟩=⟨h.take n,ws,ups⟩:=rfl
@[go_sem] theorem weak_pan:(PV.iface 260 (.agg [])).weak=.iface 260 (.agg []):=rfl
theorem qmo{b i k:Nat}{R W:NL}(h:∀x∈W,x≠k):clear b R W [(i,[k],[])]=true:=by simp only[clear,List.all_cons,List.all_nil,Bool.and_true,Bool.or_eq_true];refine .inr ?_;simp[apart];intro hk;exact h k hk rfl
def jn0:PV:=.agg [.slice 0 [] .any,.slice 0 [] .any]
include hT in
theorem conds_ev{t:GTy}{km ks kf kb d:Nat}(A:qmy km ks kf kb)(IH:NormIH T t km ks kf kb d){e:GEqn}(hP:EqnP s e){L:PL}(hL:qas L=true∧qaq L=L)(hB:qfk (qci e.A) L)(h:Hp)(es:List (PV×PV))(c:Int)(S:SysH h ks kf kb t es)(hBy:ByOk es t.eqns.length)(hk:h[km]?=some (mchO ks c))(hc0:0≤c)(hc1:c≤20000)(hcd:20000 - c< (d:Int)):
 ∃(r:OR)(c':Int)(ws:NL),Ev T 237 [.pb km,qaj e,.slice 3 L .nonnil] h (r,⟨h.set km (mchO ks c'),ws,[]⟩)∧((∃v b,r=.val (.tuple [v,.bool b])∧c≤c'∧c'≤20000)∨r=panV)∧∀y∈ws,y=km:=by
 have W:∃x:OR×Int×NL,Ev T 237 [.pb km,qaj e,.slice 3 L .nonnil] h (x.1,⟨h.set km (mchO ks x.2.1),x.2.2,[]⟩)∧(((∃v b,x.1=.val (.tuple [v,.bool b])∧c≤x.2.1∧x.2.1≤20000)∨x.1=panV)∧∀y∈x.2.2,y=km):=by
  refine hT.wp (r:=fun x:OR×Int×NL=>(x.1,⟨h.set km (mchO ks x.2.1),x.2.2,[]⟩)) fn237 (by decide) ?_;obtain⟨c1,_,c3⟩:=qil e;have M0:=Mod.refl hk;have k1:=gC0 (l:=h) (a:=row 8 [qaj e]);have M1:=M0.push (o':=row 8 [qaj e]);have hl1:(h++[row 8 [qaj e]]).length=h.length+1:=by simp
  generalize hH1:h++[row 8 [qaj e]]=H1 at*;have l1:loadAt false 1 (.ptr h.length 0 1 1) H1=some (.slice 6 (e.conds.map qag) .any):=by rw[qad k1];rfl
  have hnc:=hP.nC;have hkml:=M0.lt;simp(disch:=omega) only[go_sem,hH1,c1,c3,l1,lM0]
  refine wpC.loopM (fun g e' st=> ∃(i:Nat)(H:Hp)(ws:NL)(v:PV)(js:PL)(ci:Int),i+g=e.conds.length∧Mod h H km (mchO ks ci)∧c≤ci∧ci≤20000∧AppJ H v js h.length∧js.length=i∧(∀j∈js,j=jn0)∧okWs h km ws∧eget e' 0=.pb km∧eget e' 2=.slice 3 L .nonnil∧eget e' 8=v∧eget e' 16=.slice 6 (e.conds.map qag) .any∧eget e' 17=iv0 (e.conds.length:Int)∧eget e' 18=iv0 (i:Int)∧st=⟨H,ws,[]⟩) ?_ e.conds.length _ _
   ⟨0,H1,[],_,[],c,by omega,M1,by omega,hc1,.inl ⟨rfl,rfl⟩,rfl,by simp,fun x hx=>by simp at hx,by simp only[go_sem],by simp only[go_sem],by simp only[go_sem],by simp only[go_sem],by simp only[go_sem],by simp only[go_sem];rfl,rfl⟩
  rintro g e' st ⟨i,H,ws,v,js,ci,hi,M,hci,hcm,hA,hjl,hjs,hw,e0,e2,e8,e16,e17,e18,rfl⟩;by_cases h1:i<e.conds.length
  · have hx:e.conds[i]?=some e.conds[i]:=gE0 h1;have ga:(e.conds.map qag)[i]?=some (qag e.conds[i]):=by rw[gM0,hx];rfl
    have hcm':=mG0 hx;generalize e.conds[i]=p at*;obtain⟨tA,tB⟩:=qhq (hP.cs p hcm');have hBA:qfk (qci p.1) L:=hB.sub fun v hv=>hP.vC p hcm' v (.inl hv);have hBB:qfk (qci p.2) L:=hB.sub fun v hv=>hP.vC p hcm' v (.inr hv);have h1':(i:Int)< (e.conds.length:Int):=by omega
    obtain⟨b1,b2,_⟩:=qk5 p;have lp:AE.sub true 6 (qag p) 0=some (qag p):=qoz;have sb:=qa5 (h:=H) (ws:=ws) (ups:=[]) (z:=zq6) (sz:=6) (c:=qag p) b1 rfl b2 (qk4 p) ⟨_,rfl⟩ ⟨_,rfl⟩;have q1:=gC0 (l:=H) (a:=row 6 [qag p]);have M2:=M.push (o':=row 6 [qag p]);have A2:=hA.push (o:=row 6 [qag p]);have hHl:=M.len;have hl2:(H++[row 6 [qag p]]).length=H.length+1:=by simp
    generalize hH2:H++[row 6 [qag p]]=H2 at*;generalize hk10:H.length=k10 at*;have q2:=gC0 (l:=H2) (a:=stp0);have q12:=qah (o2:=stp0) q1;have M3:=M2.push (o':=stp0);have A3:=A2.push (o:=stp0);have hl3:(H2++[stp0]).length=k10+2:=by simp;omega
    have e3:H2++[row 2 [.agg [.sn,.sn]]]=H2++[stp0]:=rfl;generalize hH3:H2++[stp0]=H3 at*;generalize hk11:H2.length=k11 at*;have q3:=gC0 (l:=H3) (a:=stp0);have q23:=qah (o2:=stp0) q2;have q13:=qah (o2:=stp0) q12;have M4:=M3.push (o':=stp0);have A4:=A3.push (o:=stp0);have hl4:(H3++[stp0]).length=k10+3:=by simp;omega
    have e4:H3++[row 2 [.agg [.sn,.sn]]]=H3++[stp0]:=rfl;generalize hH4:H3++[stp0]=H4 at*;generalize hk12:H3.length=k12 at*;have q4:=gC0 (l:=H4) (a:=row 3 [zN]);have q34:=qah (o2:=row 3 [zN]) q3;have q24:=qah (o2:=row 3 [zN]) q23;have q14:=qah (o2:=row 3 [zN]) q13;have M5:=M4.push (o':=row 3 [zN]);have A5:=A4.push (o:=row 3 [zN]);have hl5:(H4++[row 3 [zN]]).length=k10+4:=by simp;omega
    have e5:H4++[row 3 [zq3]]=H4++[row 3 [zN]]:=rfl;generalize hH5:H4++[row 3 [zN]]=H5 at*;generalize hk13:H4.length=k13 at*;have lA:loadAt true 3 (.pb k10) H5=some (encT p.1):=by rw[qad q14];exact pair_A
    have fl5:=qme hT (L:=L) rfl hL H5;obtain⟨r,c2',ws2,ev,hR,hw2⟩:=IH p.1 _ (qa6 p.1) tA (.slice 3 L .any) (.inr ⟨L,rfl,hBA⟩) .nilptr (.pb k11) (.inl rfl) H5 es ci (S.mod A M5) hBy M5.get (by omega) hcm (by omega);have M6:=M5.put (o':=mchO ks c2');have W6:okWs h km (wall (wall ws2 []) (wadd k10 ws)):=okWs.wall (okWs.wall (fun y hy=>.inl (hw2 y hy)) (fun x hx=>by cases hx)) (hw.add (.inr (by omega)))
    have hcl:∀x∈wall ws2 [],x≠k13:=fun x hx=>by
     rcases qat hx with h|h
     ·grind
     ·cases h
    rcases hR with⟨y1,rfl,hy1,hc2,hc2'⟩|rfl
    rotate_left
    · obtain⟨ws',t1,t2⟩:=qfa (M6.cut (n:=k13) (by omega)) W6;simp(disch:=first|omega|decide|simp only[go_sem]) only[go_sem,qoi,e0,e2,e16,e17,e18,h1',ga,lp,hk10,sb,e3,hk11,e4,hk12,e5,hk13,lA,cb fl5,cb ev,hT.q,panV];exact⟨(panV,c2',ws'),t1,.inr rfl,t2⟩
    obtain⟨u1,hu1,hut1⟩:=hy1;obtain⟨x1,x2,_,x4⟩:=hu1.cells;have q46:=qaa (o':=mchO ks c2') q4 (show km≠k13 by omega);have q36:=qaa (o':=mchO ks c2') q34 (show km≠k12 by omega);have q26:=qaa (o':=mchO ks c2') q24 (show km≠k11 by omega);have q16:=qaa (o':=mchO ks c2') q14 (show km≠k10 by omega);have A6:=A5.set' (o':=mchO ks c2') M5.get rfl;have hl6:(H5.set km (mchO ks c2')).length=k10+4:=by simp[hl5]
    generalize hH6:H5.set km (mchO ks c2')=H6 at*;have sv1:=fun ws ups=>qdc (ws:=ws) (ups:=ups) (n:=1) (N:=0) q46 rfl rfl ⟨rfl,_,rfl⟩ ⟨x1,x2,x4⟩ hu1.facts.1;simp only[sC0]at sv1;have M7:=M6.putNew (k:=k13) (o':=.row 3 [y1]) (by omega);have q47:=qak (o':=row 3 [y1]) q46;have q37:=qaa (o':=row 3 [y1]) q36 (show k13≠k12 by omega);have q27:=qaa (o':=row 3 [y1]) q26 (show k13≠k11 by omega);have q17:=qaa (o':=row 3 [y1]) q16 (show k13≠k10 by omega);have A7:=A6.set (r':=[y1]) q46;have hl7:(H6.set k13 (.row 3 [y1])).length=k10+4:=by simp[hl6]
    generalize hH7:H6.set k13 (.row 3 [y1])=H7 at*;have q8:=gC0 (l:=H7) (a:=row 3 [zN]);have q48:=qah (o2:=row 3 [zN]) q47;have q38:=qah (o2:=row 3 [zN]) q37;have q28:=qah (o2:=row 3 [zN]) q27;have q18:=qah (o2:=row 3 [zN]) q17;have M8:=M7.push (o':=row 3 [zN]);have A8:=A7.push (o:=row 3 [zN]);have hl8:(H7++[row 3 [zN]]).length=k10+5:=by simp;omega
    have e8':H7++[row 3 [zq3]]=H7++[row 3 [zN]]:=rfl;generalize hH8:H7++[row 3 [zN]]=H8 at*;generalize hk14:H7.length=k14 at*;have lB:loadAt true 3 (.ptr k10 0 3 1) H8=some (encT p.2):=by rw[qad q18];exact pair_B
    have fl8:=qme hT (L:=L) rfl hL H8;obtain⟨r,c3',ws3,ev3,hR3,hw3⟩:=IH p.2 _ (qa6 p.2) tB (.slice 3 L .any) (.inr ⟨L,rfl,hBB⟩) .nilptr (.pb k12) (.inl rfl) H8 es c2' (S.mod A M8) hBy M8.get (by omega) hc2' (by omega);have M9:=M8.put (o':=mchO ks c3');have W9:∀_:Unit,okWs h km (wall (wall ws3 []) (wall (wadd k13 []) (wall (wall ws2 []) (wadd k10 ws)))):=fun _:Unit=>okWs.wall (okWs.wall (fun y hy=>.inl (hw3 y hy)) (fun x hx=>by cases hx)) (okWs.wall (okWs.add (fun x hx=>by cases hx) (.inr (by omega))) (okWs.wall (okWs.wall (fun y hy=>.inl (hw2 y hy)) (fun x hx=>by cases hx)) (hw.add (.inr (by omega)))));rcases hR3 with⟨y2,rfl,hy2,hc3,hc3'⟩|rfl
    rotate_left
    · simp(disch:=first|omega|decide|simp only[go_sem]) only[go_sem,qoi,e0,e2,e16,e17,e18,h1',ga,lp,hk10,sb,e3,hk11,e4,hk12,e5,hk13,lA,cb fl5,cb ev,sv1,e8',hk14,lB,cb fl8,cb ev3,hT.q,panV];obtain⟨ws',t1,t2⟩:=qfa (M9.cut (n:=k14) (by omega)) (W9 ());exact⟨qmo hcl,(panV,c3',ws'),t1,.inr rfl,t2⟩
    obtain⟨u2,hu2,_⟩:=hy2;obtain⟨z1,z2,_,z4⟩:=hu2.cells;have r8:=qaa (o':=mchO ks c3') q8 (show km≠k14 by omega);have r48:=qaa (o':=mchO ks c3') q48 (show km≠k13 by omega);have r38:=qaa (o':=mchO ks c3') q38 (show km≠k12 by omega);have r28:=qaa (o':=mchO ks c3') q28 (show km≠k11 by omega);have A9:=A8.set' (o':=mchO ks c3') M8.get rfl;have hl9:(H8.set km (mchO ks c3')).length=k10+5:=by simp[hl8]
    generalize hH9:H8.set km (mchO ks c3')=H9 at*;have sv2:=fun ws ups=>qdc (ws:=ws) (ups:=ups) (n:=1) (N:=0) r8 rfl rfl ⟨rfl,_,rfl⟩ ⟨z1,z2,z4⟩ hu2.facts.1;simp only[sC0]at sv2;have M10:=M9.putNew (k:=k14) (o':=.row 3 [y2]) (by omega);have t8:=qak (o':=row 3 [y2]) r8;have t48:=qaa (o':=row 3 [y2]) r48 (show k14≠k13 by omega);have t38:=qaa (o':=row 3 [y2]) r38 (show k14≠k12 by omega);have t28:=qaa (o':=row 3 [y2]) r28 (show k14≠k11 by omega);have A10:=A9.set (r':=[y2]) r8;have hl10:(H9.set k14 (.row 3 [y2])).length=k10+5:=by simp[hl9]
    generalize hH10:H9.set k14 (.row 3 [y2])=H10 at*;have l13:loadAt true 3 (.pb k13) H10=some y1:=by rw[qad t48];exact hu1.sub
    have l14:loadAt true 3 (.pb k14) H10=some y2:=by rw[qad t8];exact hu2.sub
    have evs:=qfm hT hu1 _ _ hu2 (by have:=qbi hut1;omega) H10
    have hcl3:∀x∈wall ws3 [],x≠k14:=fun x hx=>by
     rcases qat hx with h|h
     ·grind
     ·cases h
    have cl1:=fun R=>qmo (b:=31) (i:=6) (R:=R) hcl;have cl2:=fun R=>qmo (b:=31) (i:=6) (R:=R) hcl3;cases htm:tmB u1 u2
    · rw[htm]at evs;simp(disch:=first|omega|decide|simp only[go_sem]) only[go_sem,qoi,e0,e2,e16,e17,e18,h1',ga,lp,hk10,sb,e3,hk11,e4,hk12,e5,hk13,lA,cb fl5,cb ev,sv1,e8',hk14,lB,cb fl8,cb ev3,cl1,cl2,sv2,l13,l14,cb evs,Bool.not_false,hT.q];have W10:okWs h km (wall (wadd k14 []) (wall (wall ws3 []) (wall (wadd k13 []) (wall (wall ws2 []) (wadd k10 ws))))):=okWs.wall (okWs.add (fun x hx=>by cases hx) (.inr (by omega))) (W9 ());obtain⟨ws',t1,t2⟩:=qbo (v:=.tuple [.sn,.bool false]) rfl M10 W10;exact⟨(.val (.tuple [.slice 0 [] .any,.bool false]),c3',ws'),t1,.inl ⟨_,_,rfl,Int.le_trans hci (Int.le_trans hc2 hc3),hc3'⟩,t2⟩
    · rw[htm]at evs;have W10:okWs h km (wall (wadd k14 []) (wall (wall ws3 []) (wall (wadd k13 []) (wall (wall ws2 []) (wadd k10 ws))))):=okWs.wall (okWs.add (fun x hx=>by cases hx) (.inr (by omega))) (W9 ());have pl1:=qqk hT t28;have pl2:=qqk hT t38;have fb:qdt [PV.sn,.sn] [(0,1,.slice 0 [] .any),(1,1,.slice 0 [] .any)]=some [.slice 0 [] .any,.slice 0 [] .any]:=rfl;have fj:qda 2 (List.replicate 1 (.agg [.sn,.sn])) [(0,.agg [.slice 0 [] .any,.slice 0 [] .any])]=some [.agg [.slice 0 [] .any,.slice 0 [] .any]]:=rfl;obtain⟨H',fw,kt,ap,A11,_,_,low',hfw⟩:=append_J A10 (p:=.agg [.slice 0 [] .any,.slice 0 [] .any]) rfl (by omega) (show h.length≤H10.length by omega);simp(disch:=first|omega|decide|simp only[go_sem]) only[go_sem,qoi,e0,e2,e8,e16,e17,e18,h1',ga,lp,hk10,sb,e3,hk11,e4,hk12,e5,hk13,lA,cb fl5,cb ev,sv1,e8',hk14,lB,cb fl8,cb ev3,cl1,cl2,sv2,l13,l14,cb evs,Bool.not_true,cb pl1,cb pl2,fb,fj,ap,hT.q];refine⟨g - 1,by omega,i+1,_,_,_,js++[jn0],c3',by omega,M10.low low',Int.le_trans hci (Int.le_trans hc2 hc3),hc3',A11,by simp[hjl],fun j hj=>?_,?_,rfl,rfl,rfl⟩
      · rcases mA0.1 hj with h|h
        ·grind
        ·grind
      · intro x hx;rcases hfw _ x hx with h|h
        ·exact W10 x h
        ·omega
  · have h1':¬(i:Int)< (e.conds.length:Int):=by omega
    have hpj:qas js=true:=by
     clear hA hjl;induction js with
     |nil=>rfl
     |cons j js ih=>
       rw[hjs j (by simp)];simp only[qas,ih fun x hx=>hjs x (by simp[hx]),Bool.and_true];rfl
    have hvp:v.pure=true:=by
     rcases hA with⟨rfl,rfl⟩|⟨kt,rfl,_⟩
     ·rfl
     ·simp[PV.pure,hpj]
    obtain⟨ws',t1,t2⟩:=qbo (v:=.tuple [v,.bool true]) (by simp[PV.pure,qas,hvp]) M hw;simp(disch:=omega) only[go_sem,qoi,e8,e17,e18,h1'];exact⟨(.val (PV.tuple [v,.bool true]).weak,ci,ws'),t1,.inl ⟨v.weak,true,rfl,hci,hcm⟩,t2⟩
 obtain⟨x,h1,h2,h3⟩:=W;exact⟨x.1,x.2.1,x.2.2,h1,h2,h3⟩
theorem st_mch{H:Hp}{ws:NL}{ups:UL}{km ks:Nat}{c v:Int}(hk:H[km]?=some (mchO ks c)):
 storeAt 1 (.ptr km 0 1 1) (iv0 v) ⟨H,ws,ups⟩=some ⟨H.set km (mchO ks v),wadd km ws,ups⟩:=by
 unfold mchO at hk⊢;have hu:upd (.agg [.pb ks,iv0 c,.bool false]) 1 (iv0 v)=some (.agg [.pb ks,iv0 v,.bool false]):=rfl;simp only[storeAt,hk,ll0,PV.cells,List.all_cons,List.all_nil,PV.isCell,Bool.and_self,and_self,if_true,List.getElem?_cons_zero,hu,Option.map,sC0,PV.top,qau]
theorem AppL.set'{H:Hp}{v:PV}{es:PL}{lo k:Nat}{o o':AE.Obj}(A:AppL H v es lo)(hk:H[k]?=some o)(ho:o.isTok=false):AppL (H.set k o') v es lo:=by
 rcases A with h|⟨kt,h1,h2,h3⟩
 ·exact .inl h
 · refine .inr ⟨kt,h1,qaa h2 ?_,h3⟩;rintro rfl;rw[hk]at h2;cases h2;cases ho
theorem AppL.form{H:Hp}{v:PV}{es:PL}{lo:Nat}(A:AppL H v es lo):∃z m,v=.slice z es m∧(es=[]∨z=3):=by
 rcases A with⟨rfl,rfl⟩|⟨kt,rfl,_,_⟩
 ·grind
 ·grind
theorem append_E'{H:Hp}{v p:PV}{es:PL}{lo:Nat}(A:AppL H v es lo)(hp:p.cells.all PV.isCell=true)(hl:es.length<100000)(hlo:lo≤H.length):
 ∃(H':Hp)(fw:NL→NL)(kt:Nat),(∀ws ups,appendop 3 40 v (.slice 3 [p] .lit) ⟨H,ws,ups⟩=some (.slice 3 (es++[p]) (.tok kt),⟨H',fw ws,ups⟩))∧AppL H' (.slice 3 (es++[p]) (.tok kt)) (es++[p]) lo∧(∀(j:Nat)(o:AE.Obj),o.isTok=false→H[j]?=some o→H'[j]?=some o)∧Low lo H H'∧∀ws,∀x∈fw ws,x∈ws∨lo≤x:=by
 have hroom:(es.length+1) *40≤room∧es.length+1≤room:=by
  have:10000000≤room:=by decide
  constructor<;>omega
 rcases A with⟨rfl,rfl⟩|⟨kt,rfl,h2,h3⟩
 · simp at hroom;refine⟨H++[.tok 3 1],fun ws=>ws,H.length,fun ws ups=>?_,.inr ⟨H.length,rfl,by simp,hlo⟩,fun j o _ hj=>qah hj,(Low.refl _ _).push hlo,fun ws x hx=>.inl hx⟩;simp[appendop,qch,hp,hroom,alloc]
 · refine⟨H.set kt (.tok 3 (es.length+1)),wadd kt,kt,fun ws ups=>?_,.inr ⟨kt,rfl,by rw[qak h2];simp,h3⟩,fun j o ho hj=>qaa hj ?_,.set h3,fun ws x hx=>?_⟩
   ·simp[appendop,qch,hp,hroom,h2,qau]
   · rintro rfl;rw[h2]at hj;cases hj;cases ho
   · rcases qa3 hx with h|h
     ·omega
     ·exact .inl h
theorem EncL.snocX{us:Ts}{qs:PL}{u:Tm}{q:PV}(h:EncL us qs)(hq:Enc u q):EncL (us++[u]) (qs++[q]):=by
 have:=EncL.snocT (l:=us++[u]) (i:=us.length) (es:=qs) (x:=u) (q:=q) (by simpa using h) (by simp) hq
 rwa [tL0 (by simp)]at this
theorem rowW_pure{L:PL}(h:∀y∈L,RowW y):qas L=true∧qaq L=L:=by
 induction L with
 |nil=>exact⟨rfl,rfl⟩
 |cons y L ih=>
   obtain⟨h1,h2⟩:=ih fun z hz=>h z (by simp[hz])
   have h3:y.pure=true∧y.weak=y:=by
    rcases h y (by simp)with rfl|⟨u,hu,_⟩
    ·exact⟨rfl,rfl⟩
    ·exact hu.facts.2
   simp[qas,qaq,h1,h2,h3]
theorem eqn_B'{e:GEqn}:AE.sub true 3 (qaj e) 5=some (encT e.B):=eqn_B
theorem mch_sys{H:Hp}{km ks:Nat}{c:Int}(hk:H[km]?=some (mchO ks c)):loadAt false 1 (.pb km) H=some (.pb ks):=by unfold mchO at hk;rw[qad hk];rfl
theorem qqw{H:Hp}{km ks:Nat}{c:Int}(hk:H[km]?=some (mchO ks c)):loadAt false 1 (.ptr km 0 1 1) H=some (iv0 c):=by unfold mchO at hk;rw[qad hk];rfl
theorem mch_write{H:Hp}{km ks:Nat}{c:Int}(hk:H[km]?=some (mchO ks c)):loadAt false 1 (.ptr km 0 2 1) H=some (.bool false):=by unfold mchO at hk;rw[qad hk];rfl
theorem mchO_tok{ks:Nat}{c:Int}:(mchO ks c).isTok=false:=rfl
set_option maxRecDepth 4000 in
include hT in
theorem qsq{t:GTy}{km ks kf kb d:Nat}(hty:∀e∈t.eqns,EqnP s e)(A:qmy km ks kf kb)(IH:NormIH T t km ks kf kb d):NormIH T t km ks kf kb (d+1):=by
 intro X x hx;have hc:=hx.cells;have hsb:=hx.sub;have htop:=hx.facts;have hX:=hx;induction hx with
 |mk k n l sz es hz hl he ih=>
   intro htr lv hlv a o ha h es' c S hBy hk hc0 hc1 hcd
   have W:∃x:OR×Int×NL,Ev T 191 [.pb km,.agg [iv0 k,iv0 n,.slice sz es .any],lv,a,o] h (x.1,⟨h.set km (mchO ks x.2.1),x.2.2,[]⟩)∧(NormR c x.1 x.2.1∧∀y∈x.2.2,y=km):=by
    refine hT.wp (r:=fun x:OR×Int×NL=>(x.1,⟨h.set km (mchO ks x.2.1),x.2.2,[]⟩)) fn191 (by decide) ?_;obtain⟨c1,c2,c3,c4⟩:=hc;obtain⟨xt,xp,xw⟩:=htop;have hsh:=qaw htr;simp only[qav,bA0,dE0,qb2]at hsh;obtain⟨⟨⟨⟨hn,hkl⟩,hk12⟩,hl8⟩,_⟩:=hsh;have hnd:=qbi htr;simp only[Tm.nodes]at hnd;obtain⟨N,rfl⟩:=iZ0 hn;have hkml:=(gI0.1 hk).1;have hrow:RowE (.agg [iv0 k,iv0 (N:Int),.slice sz es .any]):=⟨_,hX,htr⟩;generalize hP:PV.agg [iv0 k,iv0 (N:Int),.slice sz es .any]=P at*;have M0:=Mod.refl hk;have p1:=gC0 (l:=h) (a:=row 3 [P]);have M1:=M0.push (o':=row 3 [P]);have hl1:(h++[row 3 [P]]).length=h.length+1:=by simp
    generalize hH1:h++[row 3 [P]]=H1 at*;have z2:=gC0 (l:=H1) (a:=row 3 [zN]);have p2:=qah (o2:=row 3 [zN]) p1;have M2:=M1.push (o':=row 3 [zN]);have hl2:(H1++[row 3 [zN]]).length=h.length+2:=by simp[hl1]
    have e2:H1++[row 3 [zq3]]=H1++[row 3 [zN]]:=rfl;generalize H1++[row 3 [zN]]=H2 at*;generalize hkr:H1.length=kr at*;have l0:loadAt false 1 (.pb h.length) H2=some (iv0 k):=by rw[qad p2,←hP];rfl
    have l1:loadAt false 1 (.ptr h.length 0 1 1) H2=some (iv0 (N:Int)):=by rw[qad p2,←hP];rfl
    have l2:loadAt false 1 (.ptr h.length 0 2 1) H2=some (.slice sz es .any):=by rw[qad p2,←hP];rfl
    have la:loadAt true 3 (.pb h.length) H2=some P:=by rw[qad p2];exact hsb
    have out:∀(H:Hp)(ci:Int)(ws:NL)(q:PV),Mod h H km (mchO ks ci)→H[kr]?=some (.row 3 [zN])→okWs h km ws→RowE q→c≤ci→ci≤20000→
     (∀ws ups,storeAt 3 (.pb kr) q ⟨H,ws,ups⟩=some ⟨H.set kr (.row 3 [q]),wadd kr ws,ups⟩)∧loadAt true 3 (.pb kr) (H.set kr (.row 3 [q]))=some q∧∀ws',okWs h km ws'→∃b:OR×Int×NL,tidy 0 h.length (.val q) ⟨H.set kr (.row 3 [q]),ws',[]⟩=(b.1,⟨h.set km (mchO ks b.2.1),b.2.2,[]⟩)∧(NormR c b.1 b.2.1∧∀y∈b.2.2,y=km):=by
     intro H ci ws q M hz W hq h1 h2;obtain⟨u,hu,hut⟩:=hq;obtain⟨x1,x2,_,x4⟩:=hu.cells;have sv:=fun ws ups=>qdc (ws:=ws) (ups:=ups) (n:=1) (N:=0) hz rfl rfl ⟨rfl,_,rfl⟩ ⟨x1,x2,x4⟩ hu.facts.1;simp only[sC0]at sv;refine⟨sv,by rw[qad (qak hz)];exact hu.sub,fun ws' W'=>?_⟩;have M':=M.putNew (k:=kr) (o':=.row 3 [q]) (by omega);obtain⟨w2,t1,t2⟩:=qbo (v:=q) hu.facts.2.1 M' W';rw[hu.facts.2.2]at t1;exact⟨(.val q,ci,w2),t1,.inl ⟨q,rfl,⟨u,hu,hut⟩,h1,h2⟩,t2⟩
    by_cases hk1:k=1
    · subst hk1;have b11:((1:Int)==1)=true:=rfl;rcases hlv with rfl|⟨L,rfl,hB⟩
      · have en:eqop .slice .sn .sn=some true:=rfl;obtain⟨sv,lo,td⟩:=out H2 c [] P M2 z2 (fun x hx=>by cases hx) hrow (by omega) hc1;obtain⟨b,t1,t2⟩:=td (wadd kr []) (okWs.add (fun x hx=>by cases hx) (.inr (by omega)));simp(disch:=omega) only[go_sem,hH1,e2,hkr,c1,c3,ll0,l0,b11,en,la,sv,resv,lo,t1];exact⟨b,rfl,t2⟩
      · have hl0:l=[]:=by simpa using hkl
        obtain⟨y,gy,hy⟩:=hB (N:Int) (by rw[hl0];simp[qci,qb7]);rw[Int.toNat_natCast]at gy;have hNL:=(gI0.1 gy).1
        have en:eqop .slice (.slice 3 L .any) .sn=some false:=by
         cases L with
         |nil=>simp at hNL
         |cons=>rfl
        obtain⟨sv,lo,td⟩:=out H2 c [] y M2 z2 (fun x hx=>by cases hx) hy (by omega) hc1;obtain⟨b,t1,t2⟩:=td (wadd kr []) (okWs.add (fun x hx=>by cases hx) (.inr (by omega)));obtain⟨u,hu,_⟩:=hy;have ys:=hu.sub;simp(disch:=omega) only[go_sem,hH1,e2,hkr,c1,c3,ll0,l0,l1,b11,en,gy,ys,sv,resv,lo,t1];exact⟨b,rfl,t2⟩
    have hkb:(k==1)=false:=by simpa using hk1
    have hvk:qci (.mk k (N:Int) l)=qb7 l:=by simp[qci,hk1]
    have hsub:∀x∈l,LOk x lv:=fun x hx=>by
     rcases hlv with rfl|⟨L,rfl,hB⟩
     ·exact .inl rfl
     ·exact .inr ⟨L,rfl,hB.sub fun v hv=>by rw[hvk];exact qf4 hx hv⟩
    simp(disch:=omega) only[go_sem,hH1,e2,hkr,c1,c3,ll0,l0,l2,hkb]
    refine wpC.loopM (fun g e st=> ∃(i:Nat)(H:Hp)(ws:NL)(v:PV)(qs:PL)(us:Ts)(ci:Int),i+g=es.length∧Mod h H km (mchO ks ci)∧c≤ci∧ci≤20000∧AppL H v qs h.length∧EncL us qs∧qs.length=i∧H[h.length]?=some (.row 3 [P])∧H[kr]?=some (.row 3 [zN])∧okWs h km ws∧(eget e 0=.pb km∧eget e 2=lv∧eget e 3=a∧eget e 4=o∧eget e 6=.pb h.length∧eget e 10=.pb kr∧eget e 11=v∧eget e 35=.slice sz es .any∧eget e 36=iv0 (es.length:Int)∧eget e 37=iv0 (i:Int))∧st=⟨H,ws,[]⟩) ?_ es.length _ _
     ⟨0,H2,[],_,[],[],c,by omega,M2,by omega,hc1,.inl ⟨rfl,rfl⟩,⟨rfl,by simp⟩,rfl,p2,z2,(fun x hx=>by cases hx),by simp only[go_sem,zN0],rfl⟩
    rintro g e st ⟨i,H,ws,v,qs,us,ci,hi,M,hci,hcm,hA,hE,hql,pH,zH,hw,⟨e0,e2',e3,e4,e6,e10,e11,e35,e36,e37⟩,rfl⟩;have hHl:=M.len;by_cases h1:i<es.length
    · have h1':(i:Int)< (es.length:Int):=by omega
      have ga:=qbt h1;have hx:l[i]?=some l[i]:=gE0 (by omega);have hE1:=he i l[i] es[i] hx ga;have hml:=mG0 hx;have ihx:=ih i l[i] es[i] hx ga hE1.cells hE1.sub hE1.facts hE1 (qp0 htr hml) lv (hsub _ hml);have hsz:sz=3:=by grind
      subst hsz;obtain⟨b1,b2,b3,b4⟩:=hE1.cells;have bt:=hE1.facts.1;have bs:=hE1.sub;generalize l[i]=y at*;generalize es[i]=Y at*;have sb:=qa5 (h:=H) (ws:=ws) (ups:=[]) (z:=zq3) (sz:=3) (c:=Y) b1 rfl b2 bt ⟨_,rfl⟩ b4;have kq:=gC0 (l:=H) (a:=row 3 [Y]);have pH3:=qah (o2:=row 3 [Y]) pH;have zH3:=qah (o2:=row 3 [Y]) zH;have M3:=M.push (o':=row 3 [Y]);have A3:=hA.push (o:=row 3 [Y]);have hl3:(H++[row 3 [Y]]).length=H.length+1:=by simp
      generalize hH3:H++[row 3 [Y]]=H3 at*;generalize hk13:H.length=k13 at*;have ly:loadAt true 3 (.pb k13) H3=some Y:=by rw[qad kq];exact bs
      have fp:qdt [PV.nilptr,iv0 0] [(0,1,a),(1,1,iv0 (i:Int))]=some [a,iv0 (i:Int)]:=by rcases ha with rfl|⟨j,rfl⟩<;>rfl
      have pH4:=qah (o2:=row 2 [.agg [a,iv0 (i:Int)]]) pH3;have zH4:=qah (o2:=row 2 [.agg [a,iv0 (i:Int)]]) zH3;have M4:=M3.push (o':=row 2 [.agg [a,iv0 (i:Int)]]);have A4:=A3.push (o:=row 2 [.agg [a,iv0 (i:Int)]]);have hl4:(H3++[row 2 [.agg [a,iv0 (i:Int)]]]).length=k13+2:=by simp;omega
      generalize hH4:H3++[row 2 [.agg [a,iv0 (i:Int)]]]=H4 at*;generalize hk49:H3.length=k49 at*;obtain⟨r,c2',ws2,ev,hR,hw2⟩:=ihx (.pb k49) o (.inr ⟨_,rfl⟩) H4 es' ci (S.mod A M4) hBy M4.get (by omega) hcm (by omega);have M5:=M4.put (o':=mchO ks c2');have W5:okWs h km (wall ws2 (wadd k13 ws)):=okWs.wall (fun y hy=>.inl (hw2 y hy)) (hw.add (.inr (by omega)));rcases hR with⟨q,rfl,hq,hc2,hc2'⟩|rfl
      rotate_left
      · obtain⟨ws',t1,t2⟩:=qfa M5 W5;simp(disch:=omega) only[go_sem,qr2,e0,e2',e3,e4,e11,e35,e36,e37,h1',ga,bs,hk13,sb,ly,fp,hk49,hH4,cb ev,hT.q,panV];exact⟨(panV,c2',ws'),t1,.inr rfl,t2⟩
      obtain⟨u,hu,_⟩:=hq;obtain⟨x1,x2,x3,_⟩:=hu.cells;have f1:=fe_1 (p:=q) ⟨x1,x3⟩;have A5:=A4.set' (o':=mchO ks c2') M4.get mchO_tok;have pH5:=qaa (o':=mchO ks c2') pH4 (show km≠h.length by omega);have zH5:=qaa (o':=mchO ks c2') zH4 (show km≠kr by omega);have hl5:(H4.set km (mchO ks c2')).length=k13+2:=by simp[hl4]
      generalize hH5:H4.set km (mchO ks c2')=H5 at*;obtain⟨H6,fw,kt,ap,A6,hrow6,low6,hfw⟩:=append_E' A5 x2 (by omega) (show h.length≤H5.length by omega);simp(disch:=omega) only[go_sem,qr2,e0,e2',e3,e4,e6,e10,e11,e35,e36,e37,h1',ga,bs,hk13,sb,ly,fp,hk49,hH4,cb ev,f1,ap,hT.q];refine⟨g - 1,by omega,i+1,H6,_,_,qs++[q],us++[u],c2',by omega,M5.low low6,by omega,hc2',A6,hE.snocX hu,by simp[hql],hrow6 _ _ rfl pH5,hrow6 _ _ rfl zH5,fun x hx=>?_,⟨rfl,rfl⟩,rfl⟩;rcases hfw _ x hx with h|h
      ·exact W5 x h
      ·omega
    · have h1':¬(i:Int)< (es.length:Int):=by omega
      clear ih;obtain⟨z,m,rfl,hz3⟩:=hA.form;have lP:loadAt true 3 (.pb h.length) H=some P:=by rw[qad pH];exact hsb
      obtain⟨r,ev,hR⟩:=made_ev hT hX (m:=m) hz3 hE H;rcases hR with⟨Y,rfl,hY,hYt⟩|rfl
      rotate_left
      · obtain⟨ws',t1,t2⟩:=qfa M hw;simp(disch:=omega) only[go_sem,qr2,e6,e11,e36,e37,h1',lP,cb ev,hT.prim,qab,panV];exact⟨(panV,ci,ws'),t1,.inr rfl,t2⟩
      obtain⟨y1,y2,_,y4⟩:=hY.cells;have yt:=hY.facts.1;have ys:=hY.sub;have sb:=qa5 (h:=H) (ws:=ws) (ups:=[]) (z:=zq3) (sz:=3) (c:=Y) y1 rfl y2 yt ⟨_,rfl⟩ y4;have kY:=gC0 (l:=H) (a:=row 3 [Y]);have zH3:=qah (o2:=row 3 [Y]) zH;have M3:=M.push (o':=row 3 [Y]);have hl3:(H++[row 3 [Y]]).length=H.length+1:=by simp
      generalize hH3:H++[row 3 [Y]]=H3 at*;generalize hk14:H.length=k14 at*;have S3:=S.mod A M3;have lY:loadAt true 3 (.pb k14) H3=some Y:=by rw[qad kY];exact ys
      have lm:=mch_sys M3.get;have lf:loadAt false 1 (.ptr ks 0 4 1) H3=some (.func (.func 233) [] [.pb kf]):=by rw[qad S3.sys];rfl
      obtain⟨⟨z3,is⟩,evf,hzi,hil,his⟩:=find_ev hT S3 hBy hY;simp only at evf hzi hil his;simp(disch:=first|omega|decide|simp only[go_sem]) only[go_sem,qr2,e0,e6,e11,e36,e37,h1',lP,cb ev,hk14,sb,lY,lm,lf,cb evf,hT.q,lM0]
      refine wpC.loopM (fun g e st=> ∃(i:Nat)(H:Hp)(ws:NL)(ci:Int),i+g=is.length∧Mod h H km (mchO ks ci)∧c≤ci∧ci≤20000∧H[k14]?=some (.row 3 [Y])∧H[kr]?=some (.row 3 [zN])∧okWs h km ws∧(eget e 0=.pb km∧eget e 3=a∧eget e 4=o∧eget e 10=.pb kr∧eget e 14=.pb k14∧eget e 66=.slice z3 (is.map encI) .any∧eget e 67=iv0 (is.length:Int)∧eget e 68=iv0 (i:Int))∧st=⟨H,ws,[]⟩) ?_ is.length _ _
       ⟨0,H3,_,ci,by omega,M3,hci,hcm,kY,zH3,?_,by simp only[go_sem,e0,e3,e4,e10,zN0],rfl⟩
      rotate_left
      ·exact hw.add (.inr (by omega))
      clear e0 e2' e3 e4 e6 e10 e11 e35 e36 e37 ev evf sb hA;rintro g e st ⟨i,H,ws,ci,hi,M,hci,hcm,kY,zH,hw,⟨e0,e3,e4,e10,e14,e66,e67,e68⟩,rfl⟩;have hHl:=M.len;by_cases h1:i<is.length
      · have h1':(i:Int)< (is.length:Int):=by omega
        have gj:(is.map encI)[i]?=some (iv0 is[i]):=by rw[gM0,gE0 h1];rfl
        have hj:=his is[i] (gX0 h1);generalize is[i]=j at*;obtain⟨hj0,hj1⟩:=hj;obtain⟨J,rfl⟩:=iZ0 hj0;have hJ:J<t.eqns.length:=by omega
        have hge:t.eqns[J]?=some t.eqns[J]:=gE0 hJ;have hPe:=hty _ (gX0 hJ);have gE:(t.eqns.map qaj)[J]?=some (qaj t.eqns[J]):=by rw[gM0,hge];rfl
        generalize t.eqns[J]=q at*;have hz1:z3=1:=by grind
        subst hz1;have S4:=S.mod A M;have lm:=mch_sys M.get;have lq:loadAt false 1 (.ptr ks 0 2 1) H=some (.slice 8 (t.eqns.map qaj) .any):=by rw[qad S4.sys];rfl
        obtain⟨b1,b2,_⟩:=qil q;have sb:=qa5 (h:=H) (ws:=ws) (ups:=[]) (z:=zq8) (sz:=8) (c:=qaj q) b1 rfl b2 (qtc q) ⟨_,rfl⟩ ⟨_,rfl⟩;have kE:=gC0 (l:=H) (a:=row 8 [qaj q]);have kY6:=qah (o2:=row 8 [qaj q]) kY;have zH6:=qah (o2:=row 8 [qaj q]) zH;have hk14l:=(gI0.1 kY).1;have M6:=M.push (o':=row 8 [qaj q]);have hl6:(H++[row 8 [qaj q]]).length=H.length+1:=by simp
        generalize hH6:H++[row 8 [qaj q]]=H6 at*;generalize hk17:H.length=k17 at*;have lA:loadAt true 3 (.ptr k17 0 2 1) H6=some (encT q.A):=by rw[qad kE];exact eqn_A
        have lY:loadAt true 3 (.pb k14) H6=some Y:=by rw[qad kY6];exact ys
        obtain⟨⟨L,z2,b,er⟩,evm,R⟩:=mtch_ev hT (qa6 q.A) hY H6;simp only[mtchV]at evm;simp only at R;have W6:okWs h km (wadd k17 ws):=hw.add (.inr (by omega));by_cases her:er=0;rotate_left
        · have hb1:(er !=0)=true:=by simpa using her
          simp(disch:=omega) only[go_sem,qjk,e0,e3,e4,e10,e14,e66,e67,e68,h1',gj,lm,lq,gE,qdo,hk17,sb,lA,lY,cb evm,hb1,hT.q];exact⟨g - 1,by omega,i+1,H6,_,ci,by omega,M6,hci,hcm,kY6,zH6,W6,rfl,rfl⟩
        subst her;have hb0:((0:Int) !=0)=false:=rfl;cases b
        · simp(disch:=omega) only[go_sem,qjk,e0,e3,e4,e10,e14,e66,e67,e68,h1',gj,lm,lq,gE,qdo,hk17,sb,lA,lY,cb evm,hb0,Bool.not_false,hT.q];exact⟨g - 1,by omega,i+1,H6,_,ci,by omega,M6,hci,hcm,kY6,zH6,W6,rfl,rfl⟩
        obtain⟨rfl,hRW,hBv,_⟩:=R.ok rfl rfl;simp only[if_true]at evm;have hLp:=rowW_pure hRW;have ln:=qqw M6.get;have st:=fun ws ups=>st_mch (ws:=ws) (ups:=ups) (v:=ci+1) M6.get;have M7:=M6.put (o':=mchO ks (ci+1));have kE7:=qaa (o':=mchO ks (ci+1)) kE (show km≠k17 by omega);have kY7:=qaa (o':=mchO ks (ci+1)) kY6 (show km≠k14 by omega);have zH7:=qaa (o':=mchO ks (ci+1)) zH6 (show km≠kr by omega);have hl7:(H6.set km (mchO ks (ci+1))).length=k17+1:=by simp[hl6]
        have W7:okWs h km (wadd km (wadd k17 ws)):=W6.add (.inl rfl);generalize hH7:H6.set km (mchO ks (ci+1))=H7 at*;have ln7:=qqw M7.get;by_cases hov:20000<ci+1
        · have f0:qdt ([]:PL) []=some []:=rfl;obtain⟨ws',t1,t2⟩:=qfa M7 W7;simp(disch:=omega) only[go_sem,qjk,e0,e14,e66,e67,e68,h1',gj,lm,lq,gE,qdo,hk17,sb,lA,lY,cb evm,hb0,Bool.not_true,ln,st,ln7,hov,f0,hT.q];exact⟨(panV,ci+1,ws'),t1,.inr rfl,t2⟩
        have l17:loadAt true 8 (.pb k17) H7=some (qaj q):=by rw[qad kE7];exact qdo
        obtain⟨r,c3,ws3,evc,hR3,hw3⟩:=conds_ev hT A IH hPe hLp hBv H7 es' (ci+1) (S.mod A M7) hBy M7.get (by omega) (by omega) (by omega);have M8:=M7.put (o':=mchO ks c3);have W8:okWs h km (wall ws3 (wadd km (wadd k17 ws))):=okWs.wall (fun y hy=>.inl (hw3 y hy)) W7;rcases hR3 with⟨v3,b3,rfl,hc3,hc3'⟩|rfl
        rotate_left
        · obtain⟨ws',t1,t2⟩:=qfa M8 W8;simp(disch:=omega) only[go_sem,qjk,e0,e14,e66,e67,e68,h1',gj,lm,lq,gE,qdo,hk17,sb,lA,lY,cb evm,hb0,Bool.not_true,ln,st,ln7,hov,l17,cb evc,hT.q,panV];exact⟨(panV,c3,ws'),t1,.inr rfl,t2⟩
        have kE8:=qaa (o':=mchO ks c3) kE7 (show km≠k17 by omega);have kY8:=qaa (o':=mchO ks c3) kY7 (show km≠k14 by omega);have zH8:=qaa (o':=mchO ks c3) zH7 (show km≠kr by omega);have hl8:(H7.set km (mchO ks c3)).length=k17+1:=by simp[hl7]
        generalize hH8:H7.set km (mchO ks c3)=H8 at*;cases b3
        · simp(disch:=first|omega|decide|simp only[go_sem]) only[go_sem,qjk,e0,e3,e4,e10,e14,e66,e67,e68,h1',gj,lm,lq,gE,qdo,hk17,sb,lA,lY,cb evm,hb0,Bool.not_true,ln,st,ln7,hov,l17,cb evc,Bool.not_false,hT.q];exact⟨g - 1,by omega,i+1,H8,_,c3,by omega,M8,by omega,hc3',kY8,zH8,W8,rfl,rfl⟩
        have lw:=mch_write M8.get;have lB:loadAt true 3 (.ptr k17 0 5 1) H8=some (encT q.B):=by rw[qad kE8];exact eqn_B'
        have fl:=qme hT (L:=L) rfl hLp H8;obtain⟨r,c4,ws4,evn,hR4,hw4⟩:=IH q.B _ (qa6 q.B) (qhq hPe.ab).2 (.slice 3 L .any) (.inr ⟨L,rfl,hBv.sub hPe.vB⟩) a o ha H8 es' c3 (S.mod A M8) hBy M8.get (by omega) hc3' (by omega);have M9:=M8.put (o':=mchO ks c4);have W9:okWs h km (wall (wall ws4 []) (wall ws3 (wadd km (wadd k17 ws)))):=okWs.wall (okWs.wall (fun y hy=>.inl (hw4 y hy)) (fun x hx=>by cases hx)) W8;rcases hR4 with⟨w,rfl,hw',hc4,hc4'⟩|rfl
        rotate_left
        · obtain⟨ws',t1,t2⟩:=qfa M9 W9;simp(disch:=first|omega|decide|simp only[go_sem]) only[go_sem,qjk,e0,e3,e4,e14,e66,e67,e68,h1',gj,lm,lq,gE,qdo,hk17,sb,lA,lY,cb evm,hb0,Bool.not_true,ln,st,ln7,hov,l17,cb evc,lw,lB,cb fl,cb evn,hT.q,panV];exact⟨(panV,c4,ws'),t1,.inr rfl,t2⟩
        · have zH9:=qaa (o':=mchO ks c4) zH8 (show km≠kr by omega);obtain⟨sv,lo,td⟩:=out _ c4 _ w M9 zH9 W9 hw' (by omega) hc4';obtain⟨b,t1,t2⟩:=td (wall (wadd kr []) (wall (wall ws4 []) (wall ws3 (wadd km (wadd k17 ws))))) (okWs.wall (okWs.add (fun x hx=>by cases hx) (.inr (by omega))) W9);simp(disch:=first|omega|decide|simp only[go_sem]) only[go_sem,qjk,e0,e3,e4,e10,e14,e66,e67,e68,h1',gj,lm,lq,gE,qdo,hk17,sb,lA,lY,cb evm,hb0,Bool.not_true,ln,st,ln7,hov,l17,cb evc,lw,lB,cb fl,cb evn,sv,resv,lo,hT.q,t1];exact⟨b,rfl,t2⟩
      · have h1':¬(i:Int)< (is.length:Int):=by omega
        have lY:loadAt true 3 (.pb k14) H=some Y:=by rw[qad kY];exact ys
        obtain⟨sv,lo,td⟩:=out H ci ws Y M zH hw ⟨_,hY,hYt⟩ hci hcm;obtain⟨b,t1,t2⟩:=td (wadd kr ws) (hw.add (.inr (by omega)));simp(disch:=first|omega|decide|simp only[go_sem]) only[go_sem,qjk,e10,e14,e67,e68,h1',lY,sv,resv,lo,t1];exact⟨b,rfl,t2⟩
   obtain⟨x,h1,h2,h3⟩:=W;exact⟨x.1,x.2.1,x.2.2,h1,h2,h3⟩
theorem tidy_take{n0:Nat}{H:Hp}{v:PV}{ws:NL}(hp:v.pure=true):tidy 0 n0 (.val v) ⟨H,ws,[]⟩=(.val v.weak,⟨H.take n0,AE.below n0 ws,[]⟩):=by unfold tidy;simp[OR.v,qb0 hp,OR.put]
theorem tidy_takeP{n0:Nat}{H:Hp}{ws:NL}:tidy 0 n0 panV ⟨H,ws,[]⟩=(panV,⟨H.take n0,AE.below n0 ws,[]⟩):=by have hf:frz H n0 64 (.iface 260 (.agg []))=some (.iface 260 (.agg [])):=qb0 rfl;unfold tidy panV;simp[OR.v,hf,OR.put]
theorem SysH.push{H:Hp}{ks kf kb:Nat}{t:GTy}{es:List (PV×PV)}{o:AE.Obj}(S:SysH H ks kf kb t es):SysH (H++[o]) ks kf kb t es:=⟨qah S.sys,qah S.fb,qah S.mp⟩
theorem SysH.lt{H:Hp}{ks kf kb:Nat}{t:GTy}{es:List (PV×PV)}(S:SysH H ks kf kb t es):ks<H.length∧kf<H.length∧kb<H.length:=⟨(gI0.1 S.sys).1,(gI0.1 S.fb).1,(gI0.1 S.mp).1⟩
theorem qqq{t:GTy}{km ks kf kb:Nat}(hT:Std T)(hty:∀e∈t.eqns,EqnP s e)(A:qmy km ks kf kb):∀d,NormIH T t km ks kf kb d
 |0=>fun X x hx htr lv hlv a o ha h es c S hBy hk h0 h1 h2=>by omega
 |d+1=>qsq hT hty A (qqq hT hty A d)
structure Val1 (T:Tbl)(h:Hp)(km k6:Nat)(H:Hp)(ws:NL):Prop where
 len:H.length=h.length
 keep:∀(j:Nat)(o:AE.Obj),j≠km→j≠k6→h[j]?=some o→H[j]?=some o
 ws:∀y∈ws,y=km∨y=k6
theorem qk1{H:Hp}{n j:Nat}(h:j<n):(H.take n)[j]?=H[j]?:=by grind
include hT in
theorem value1_ev{t:GTy}{es:List (PV×PV)}{h:Hp}{km ks kf kb k3 k6 k7:Nat}{u:Tm}{X:PV}(hty:∀e∈t.eqns,EqnP s e)(A:qmy km ks kf kb)(S:SysH h ks kf kb t es)(hBy:ByOk es t.eqns.length)(hk:h[km]?=some (mchO ks 0))(h7:h[k7]?=some (.row 1 [.pb km]))(h3:h[k3]?=some (.row 3 [X]))(h6:h[k6]?=some (.row 3 [zN]))(hX:Enc u X)(hu:qa1 u=true)(hne:km≠k6):
 ∃x:OR×Hp×NL,Ev T 190 [.pb k7,.pb k3,.pb k6] h (x.1,⟨x.2.1,x.2.2,[]⟩)∧(Val1 T h km k6 x.2.1 x.2.2∧((x.1=.val (.tuple [])∧∃q,RowE q∧x.2.1[k6]?=some (.row 3 [q]))∨x.1=panV)):=by
 refine hT.wp (r:=fun x:OR×Hp×NL=>(x.1,⟨x.2.1,x.2.2,[]⟩)) fn190 (by decide) ?_;have hk6l:=(gI0.1 h6).1;have l7:loadAt false 1 (.pb k7) h=some (.pb km):=by rw[qad h7];rfl
 have l3:loadAt true 3 (.pb k3) h=some X:=by rw[qad h3];exact hX.sub
 have fb:qdt [PV.sn,.sn] []=some [.sn,.sn]:=rfl;have M1:=(Mod.refl hk).push (o':=stp0);have z1:=qah (o2:=stp0) h6;have S1:=S.push (o:=stp0);have e1:h++[row 2 [.agg [.sn,.sn]]]=h++[stp0]:=rfl;have keep1:∀(j:Nat)(o:AE.Obj),h[j]?=some o→(h++[stp0])[j]?=some o:=fun j o hj=>qah hj;have hl1:(h++[stp0]).length=h.length+1:=by simp
 generalize h++[stp0]=H1 at*;obtain⟨r,c',ws,ev,hR,hw⟩:=qqq hT hty A 20001 u X hX hu .sn (.inl rfl) .nilptr (.pb h.length) (.inl rfl) H1 es 0 S1 hBy M1.get (by omega) (by omega) (by omega);have base:∀(H:Hp)(wz:NL),(∀(j:Nat)(o:AE.Obj),j≠km→j≠k6→h[j]?=some o→H[j]?=some o)→h.length≤H.length→(∀y∈wz,y=km∨y=k6)→Val1 T h km k6 (H.take h.length) (AE.below h.length wz):=fun H wz hk hl hw=>⟨by simp;omega,fun j o h1 h2 h3=>by rw[qk1 (gI0.1 h3).1];exact hk j o h1 h2 h3,fun y hy=>hw y (List.mem_filter.1 hy).1⟩;rcases hR with⟨q,rfl,hq,_,_⟩|rfl
 · obtain⟨w,hw1,hw2⟩:=hq;obtain⟨x1,x2,_,x4⟩:=hw1.cells;have z2:=qaa (o':=mchO ks c') z1 (show km≠k6 from hne);have sv:=fun ws ups=>qdc (ws:=ws) (ups:=ups) (n:=1) (N:=0) z2 rfl rfl ⟨rfl,_,rfl⟩ ⟨x1,x2,x4⟩ hw1.facts.1;simp only[sC0]at sv;have z3:=qak (o':=row 3 [q]) z2;have td:=tidy_take (n0:=h.length) (H:=(H1.set km (mchO ks c')).set k6 (.row 3 [q])) (v:=.tuple []) (ws:=wadd k6 (wall ws [])) rfl;simp(disch:=omega) only[go_sem,l7,l3,fb,e1,cb ev,sv,hT.q];refine⟨(.val (.tuple []),_,_),td,base _ _ (fun j o h1 h2 h3=>?_) (by simp;omega) (fun y hy=>?_),.inl ⟨rfl,q,⟨w,hw1,hw2⟩,?_⟩⟩
   ·grind
   · rcases qa3 hy with h|h
     ·exact .inr h
     · rcases qat h with h|h
       ·grind
       ·cases h
   ·grind
 · have td:=tidy_takeP (n0:=h.length) (H:=H1.set km (mchO ks c')) (ws:=wall ws []);unfold panV at td;simp(disch:=omega) only[go_sem,l7,l3,fb,e1,cb ev,hT.q,panV];refine⟨(panV,_,_),td,base _ _ (fun j o h1 h2 h3=>?_) (by simp;omega) (fun y hy=>?_),.inr rfl⟩
   ·grind
   · rcases qat hy with h|h
     ·grind
     ·cases h
theorem guard_val(h189:T.sp 189=some (AE'.guardedSp 260 2)){g:FuncId}{caps:PL}{h:Hp}{v:PV}{st:St}(ev:Ev T g caps h (.val v,st)):Ev T 189 [.func (.func g) [] caps] h (.val (.int .i64 0),st):=by obtain⟨N,hN⟩:=ev;refine⟨N+1,fun n hn=>?_⟩;obtain⟨n,rfl⟩:∃k,n=k+1:=⟨n - 1,by omega⟩;simp only[qbz,h189,AE'.guardedSp,List.nil_append,hN n (by omega)]
theorem guard_pan(h189:T.sp 189=some (AE'.guardedSp 260 2)){g:FuncId}{caps:PL}{h:Hp}{st:St}(ev:Ev T g caps h (panV,st)):Ev T 189 [.func (.func g) [] caps] h (.val (.int .i64 2),st):=by obtain⟨N,hN⟩:=ev;refine⟨N+1,fun n hn=>?_⟩;obtain⟨n,rfl⟩:∃k,n=k+1:=⟨n - 1,by omega⟩;simp only[panV]at hN;simp only[qbz,h189,AE'.guardedSp,List.nil_append,hN n (by omega),if_true]
include hT in
theorem value_ev(h137:T.sp 137=none)(h189:T.sp 189=some (AE'.guardedSp 260 2)){t:GTy}{es:List (PV×PV)}{h:Hp}{ks kf kb:Nat}{u:Tm}{X:PV}(hty:∀e∈t.eqns,EqnP s e)(S:SysH h ks kf kb t es)(hBy:ByOk es t.eqns.length)(hX:Enc u X)(hu:qa1 u=true):
 ∃x:PV×Int,Ev T 137 [.pb ks,X] h (ba (.tuple [x.1,.int .i64 x.2]) h)∧((x.2=0∧RowE x.1)∨(x.2=2∧x.1=qdd)):=by
 refine Ev.walkP (r:=fun x:PV×Int=>(ba (.tuple [x.1,.int .i64 x.2]) h)) h137 ((hT.fn _).trans fn137) (hT.mode _) rfl ?_;obtain⟨b1,_,b3,_⟩:=hX.cells;obtain⟨hs1,hs2,hs3⟩:=S.lt;have p1:=gC0 (l:=h) (a:=row 3 [X]);have S1:=S.push (o:=row 3 [X]);have low1:Low h.length h (h++[row 3 [X]]):=(Low.refl _ _).push (nR0 _);have hl1:(h++[row 3 [X]]).length=h.length+1:=by simp
 generalize hH1:h++[row 3 [X]]=H1 at*;have q2:=gC0 (l:=H1) (a:=row 3 [zN]);have p2:=qah (o2:=row 3 [zN]) p1;have S2:=S1.push (o:=row 3 [zN]);have low2:=low1.push (o:=row 3 [zN]) (by omega);have hl2:(H1++[row 3 [zN]]).length=h.length+2:=by simp;omega
 have e2:H1++[row 3 [zq3]]=H1++[row 3 [zN]]:=rfl;generalize H1++[row 3 [zN]]=H2 at*;generalize hk4:H1.length=k4 at*;have r3:=gC0 (l:=H2) (a:=row 3 [zN]);have q3:=qah (o2:=row 3 [zN]) q2;have p3:=qah (o2:=row 3 [zN]) p2;have S3:=S2.push (o:=row 3 [zN]);have low3:=low2.push (o:=row 3 [zN]) (by omega);have hl3:(H2++[row 3 [zN]]).length=h.length+3:=by simp;omega
 have e3:H2++[row 3 [zq3]]=H2++[row 3 [zN]]:=rfl;generalize H2++[row 3 [zN]]=H3 at*;generalize hk6:H2.length=k6 at*;have fb:qdt [PV.nilptr,.int .i64 0,.bool false] [(0,1,.pb ks)]=some [.pb ks,.int .i64 0,.bool false]:=rfl;have m4:=gC0 (l:=H3) (a:=mchO ks 0);have r4:=qah (o2:=mchO ks 0) r3;have q4:=qah (o2:=mchO ks 0) q3;have p4:=qah (o2:=mchO ks 0) p3;have S4:=S3.push (o:=mchO ks 0);have low4:=low3.push (o:=mchO ks 0) (by omega);have hl4:(H3++[mchO ks 0]).length=h.length+4:=by simp;omega
 have e4:H3++[row 3 [.agg [.pb ks,.int .i64 0,.bool false]]]=H3++[mchO ks 0]:=rfl;generalize H3++[mchO ks 0]=H4 at*;generalize hkm:H3.length=km at*;have sb:=qlr (h:=H4) (sz:=1) (ws:=[]) (ups:=[]) (c:=.nilptr) (v:=.pb km) rfl ⟨rfl,rfl⟩ (fun j hj=>by cases hj;omega);have k75:=gC0 (l:=H4) (a:=row 1 [.pb km]);have m5:=qah (o2:=row 1 [.pb km]) m4;have r5:=qah (o2:=row 1 [.pb km]) r4;have q5:=qah (o2:=row 1 [.pb km]) q4;have p5:=qah (o2:=row 1 [.pb km]) p4;have S5:=S4.push (o:=row 1 [.pb km]);have low5:=low4.push (o:=row 1 [.pb km]) (by omega);have hl5:(H4++[row 1 [.pb km]]).length=h.length+5:=by simp;omega
 generalize hH5:H4++[row 1 [.pb km]]=H5 at*;generalize hk7:H4.length=k7 at*;obtain⟨⟨r,H6,ws⟩,ev,V,hR⟩:=value1_ev hT hty ⟨by omega,by omega,by omega⟩ S5 hBy m5 k75 p5 r5 hX hu (show km≠k6 by omega);simp only at ev V hR;have q6:=V.keep _ _ (show k4≠km by omega) (show k4≠k6 by omega) q5;have hl6:=V.len
 have low6:Low h.length h H6:=by
  refine⟨?_,by omega⟩;rw[←low5.take];refine List.ext_getElem? fun j=>?_;by_cases hj:j<h.length
  · rw[qk1 hj,qk1 hj];have hg:=gE0 (show j<H5.length by omega);rw[hg];exact V.keep j _ (by omega) (by omega) hg
  ·grind
 have hws:∀y∈wall ws (wadd k7 []),h.length≤y:=fun y hy=>by
  rcases qat hy with h|h
  ·rcases V.ws y h with h|h<;>omega
  · rcases qa3 h with h|h
    ·omega
    ·cases h
 have b00:((0:Int) !=0)=false:=rfl;have b20:((2:Int) !=0)=true:=rfl;rcases hR with⟨rfl,q,⟨w,hw1,hw2⟩,hq6⟩|rfl
 · have evg:=guard_val h189 ev;have lq:loadAt true 3 (.pb k6) H6=some q:=by rw[qad hq6];exact hw1.sub
   obtain⟨q',evf,hq'⟩:=fresh_ev hT hw1 (qbi hw2) H6;obtain⟨x1,x2,_,x4⟩:=hq'.cells;have sv:=fun ws ups=>qdc (ws:=ws) (ups:=ups) (n:=1) (N:=0) q6 rfl rfl ⟨rfl,_,rfl⟩ ⟨x1,x2,x4⟩ hq'.facts.1;simp only[sC0]at sv;have lo:loadAt true 3 (.pb k4) (H6.set k4 (.row 3 [q']))=some q':=by rw[qad (qak q6)];exact hq'.sub
   have td:=qan (v:=.tuple [q',.int .i64 0]) (ws:=wadd k4 (wall ws (wadd k7 []))) (by simp[PV.pure,qas,hq'.facts.2.1]) (by simp[PV.weak,qaq,hq'.facts.2.2]) (low6.trans (.set (show h.length≤k4 by omega)):Low h.length h (H6.set k4 (.row 3 [q']))) (qae (by omega) hws);simp(disch:=omega) only[go_sem,hH1,hk4,e2,e3,hk6,fb,e4,hkm,hk7,sb,cb evg,b00,lq,cb evf,sv,resv,lo,b1,b3,hT.q,td];exact⟨(q',0),rfl,.inl ⟨rfl,w,hq',hw2⟩⟩
 · have evg:=guard_pan h189 ev;have f0:qdt [PV.int .i64 0,.int .i64 0,.sn] []=some [.int .i64 0,.int .i64 0,.sn]:=rfl;have sv:=fun ws ups=>qdc (Q:=.agg [.int .i64 0,.int .i64 0,.sn]) (ws:=ws) (ups:=ups) (n:=1) (N:=0) q6 rfl rfl ⟨rfl,_,rfl⟩ ⟨rfl,rfl,_,rfl⟩ rfl;simp only[sC0]at sv;have lo:loadAt true 3 (.pb k4) (H6.set k4 (.row 3 [.agg [.int .i64 0,.int .i64 0,.sn]]))=some zN:=by rw[qad (qak q6)];rfl
   have td:=qa9 (v:=.tuple [zN,.int .i64 2]) (ups:=[]) (ws:=wadd k4 (wall ws (wadd k7 []))) rfl (low6.trans (.set (show h.length≤k4 by omega)):Low h.length h (H6.set k4 (.row 3 [.agg [.int .i64 0,.int .i64 0,.sn]]))) (qae (by omega) hws) (by simp);simp(disch:=omega) only[go_sem,hH1,hk4,e2,e3,hk6,fb,e4,hkm,hk7,sb,cb evg,b20,f0,sv,resv,lo,b1,b3,hT.q,td];exact⟨(qdd,2),rfl,.inr ⟨rfl,rfl⟩⟩
abbrev Ent:=Int×IL×Nat
def setE(L:List Ent):List (PV×PV):=L.map fun x=>(.int .i64 x.1,.slice 1 (x.2.1.map encI) (.tok x.2.2))
def getE(n:Int):List Ent→Option (IL×Nat)
 |[]=>none
 |x::L=>if n=x.1 then some x.2 else getE n L
def putE(n:Int)(y:IL×Nat):List Ent→List Ent
 |[]=>[(n,y)]
 |x::L=>if n=x.1 then(n,y)::L else x::putE n y L
theorem findE{n:Int}:∀L:List Ent,qky (.int .i64 n) (setE L)=some ((getE n L).map fun y=>.slice 1 (y.1.map encI) (.tok y.2))
 |[]=>rfl
 |x::L=>by
   simp only[setE,List.map_cons,qky,qex,if_true,getE];by_cases h:n=x.1
   ·simp[h]
   · have h':(n==x.1)=false:=by simpa using h
     rw[h'];have:=findE (n:=n) L;simp only[setE]at this;simp[this,h]
theorem putKE{n:Int}{y:IL×Nat}:∀L:List Ent,putK (.int .i64 n) (.slice 1 (y.1.map encI) (.tok y.2)) (setE L)=some (setE (putE n y L))
 |[]=>rfl
 |x::L=>by
   simp only[setE,List.map_cons,putK,qex,if_true,putE];by_cases h:n=x.1
   ·simp[h]
   · have h':(n==x.1)=false:=by simpa using h
     rw[h'];have:=putKE (n:=n) (y:=y) L;simp only[setE]at this;simp[this,h]
theorem putE_new{n:Int}{y:IL×Nat}:∀{L:List Ent},getE n L=none→putE n y L=L++[(n,y)]
 |[],_=>rfl
 |x::L,h=>by
   simp only[getE]at h;split at h
   ·cases h
   next hn=>
     simp only[putE,if_neg hn,List.cons_append,putE_new h]
theorem qi7{n:Int}{y:IL×Nat}:∀{L:List Ent},getE n L=some y→(n,y)∈L
 |[],h=>by cases h
 |x::L,h=>by
   simp only[getE]at h;split at h
   ·grind
   ·exact mC0 _ (qi7 h)
theorem putE_kt{n:Int}{l l':IL}{kt:Nat}:∀{L:List Ent},getE n L=some (l,kt)→(putE n (l',kt) L).map (·.2.2)=L.map (·.2.2)
 |[],h=>by cases h
 |x::L,h=>by
   simp only[getE]at h;split at h
   next hn=>
     simp only[Option.some.injEq]at h;simp only[putE,if_pos hn,List.map_cons,h]
   next hn=>
     simp only[putE,if_neg hn,List.map_cons,putE_kt h]
theorem qoy{n:Int}{l l':IL}{kt:Nat}:∀{L:List Ent},getE n L=some (l,kt)→(L.map (·.2.2)).Nodup→∀x∈putE n (l',kt) L,x=(n,l',kt)∨(x∈L∧x.2.2≠kt)
 |[],h,_,_,_=>by cases h
 |z::L,h,hd,x,hx=>by
   simp only[getE]at h;simp only[List.map_cons,List.nodup_cons]at hd;split at h
   next hn=>
     simp only[Option.some.injEq]at h;simp only[putE,if_pos hn,mN0]at hx;rcases hx with rfl|hx
     ·grind
     ·grind
   next hn=>
     simp only[putE,if_neg hn,mN0]at hx;rcases hx with rfl|hx
     · refine .inr ⟨List.mem_cons_self,fun hk=>hd.1 ?_⟩;rw[hk];exact mM0.2 ⟨_,qi7 h,rfl⟩
     · rcases qoy h hd.2 x hx with h|h
       ·grind
       ·grind
structure OkE (H:Hp)(lo N i:Nat)(L:List Ent):Prop where
 tok:∀x∈L,H[x.2.2]?=some (.tok 1 x.2.1.length)∧lo≤x.2.2
 idx:∀x∈L,(∀j∈x.2.1,0≤j∧j< (N:Int))∧x.2.1.length≤i
 nd:(L.map (·.2.2)).Nodup
theorem OkE.by_{H:Hp}{lo N i:Nat}{L:List Ent}(O:OkE H lo N i L)(hi:i≤1000):ByOk (setE L) N:=fun n H kb hk=>by
 simp only[qeb,hk,qe3,if_true,findE];cases hg:getE n L with
 |none=>exact⟨0,[],.nil,rfl,.inl rfl,by simp,by simp⟩
 |some y=>
   obtain⟨h1,h2⟩:=O.idx _ (qi7 hg);exact⟨1,y.1,.tok y.2,rfl,.inr rfl,by simp only at h2;omega,h1⟩
theorem OkE.keep{H H':Hp}{lo N i:Nat}{L:List Ent}(O:OkE H lo N i L)(h:∀(j:Nat)(m:Nat),H[j]?=some (.tok 1 m)→H'[j]?=some (.tok 1 m)):OkE H' lo N i L:=⟨fun x hx=>⟨h _ _ (O.tok x hx).1,(O.tok x hx).2⟩,O.idx,O.nd⟩
theorem look_E{H:Hp}{kb:Nat}{L:List Ent}{n:Int}(hk:H[kb]?=some (.map (setE L))):qeb .int .sn false (.map (some kb)) (.int .i64 n) H=some (match getE n L with|some y=>.slice 1 (y.1.map encI) (.tok y.2)|none=>.sn):=by simp only[qeb,hk,qe3,if_true,findE];cases getE n L<;>rfl
theorem wrote_upsK{k:Nat}{o:AE.Obj}{up:Option Nat}{H:Hp}{ws:NL}{ups:UL}:∃ups',wrote k o up ⟨H,ws,ups⟩=⟨H.set k o,wadd k ws,ups'⟩∧∀x∈ups',x∈ups∨x.1=k:=by
 cases up with
 |none=>exact⟨ups,by rw[qau],fun x hx=>.inl hx⟩
 |some j=>
   refine⟨_,by rw[qcj],fun x hx=>?_⟩;split at hx
   ·grind
   ·exact .inl hx
theorem upd_E{H:Hp}{kb:Nat}{L:List Ent}{n:Int}{y:IL×Nat}(hk:H[kb]?=some (.map (setE L)))(ups:UL):∃ups',(∀ws,qgg .int (.map (some kb)) (.int .i64 n) (.slice 1 (y.1.map encI) (.tok y.2)) ⟨H,ws,ups⟩=some ⟨H.set kb (.map (setE (putE n y L))),wadd kb ws,ups'⟩)∧∀x∈ups',x∈ups∨x.1=kb:=by
 obtain⟨ups',h1,h2⟩:=wrote_upsK (k:=kb) (o:=.map (setE (putE n y L))) (up:=(PV.slice 1 (y.1.map encI) (.tok y.2)).top) (H:=H) (ws:=[]) (ups:=ups);refine⟨ups',fun ws=>?_,h2⟩;simp only[qgg,hk,qe3,if_true,putKE,Option.map];cases ht:(PV.slice 1 (y.1.map encI) (.tok y.2)).top with
 |none=>
   rw[ht,qau]at h1;rw[qau];have:=congrArg St.ups h1;simp only at this;rw[this]
 |some j=>
   rw[ht,qcj]at h1;rw[qcj];have:=congrArg St.ups h1;simp only at this;rw[this]
theorem app_new{H:Hp}{ws:NL}{ups:UL}{n:Int}:appendop 1 8 .sn (.slice 1 [.int .i64 n] .lit) ⟨H,ws,ups⟩=some (.slice 1 [.int .i64 n] (.tok H.length),⟨H++[.tok 1 1],ws,ups⟩):=by
 have h1:8≤room:=by decide
 have h2:1≤room:=by decide
 simp[appendop,qch,alloc,PV.cells,PV.isCell,h1,h2]
theorem app_old{H:Hp}{ws:NL}{ups:UL}{n:Int}{l:IL}{kt:Nat}(hk:H[kt]?=some (.tok 1 l.length))(hl:l.length<100000):appendop 1 8 (.slice 1 (l.map encI) (.tok kt)) (.slice 1 [.int .i64 n] .lit) ⟨H,ws,ups⟩=some (.slice 1 ((l++[n]).map encI) (.tok kt),⟨H.set kt (.tok 1 (l.length+1)),wadd kt ws,ups⟩):=by
 have hroom:(l.length+1) *8≤room∧l.length+1≤room:=by
  have:10000000≤room:=by decide
  constructor<;>omega
 simp[appendop,qch,hk,hroom,qau,PV.cells,PV.isCell,encI]
theorem qp5{n0 k:Nat}{H:Hp}{ws:NL}{ups:UL}{a b d e:PV}{kb:Nat}(hk:H[k]?=some (.row 5 [.agg [a,b,d,.map (some kb),e]]))(h1:n0≤k)(h2:n0≤kb)(hw:∀x∈ws,n0≤x)(hu:∀x∈ups,n0≤x.1):tidy 0 n0 (.val (.tuple [.pb k,.int .i64 0])) ⟨H,ws,ups⟩=(.val (.tuple [.pb k,.int .i64 0]),⟨H,[],ups⟩):=by
 have hb:AE.below n0 ws=[]:=List.filter_eq_nil_iff.2 fun k hk=>by have:=hw k hk;simp;omega
 have hua:(ups.any fun(k,j)=>k<n0&&n0≤j)=false:=by grind
 have f0:∀n,frz H n0 (n+1) (.map (some kb))=none:=fun n=>by rw[frz];simp only[PV.pure,Option.isNone,bF0,if_false];rw[if_neg (by omega)]
 have f1:∀n,frz H n0 (n+2) (.agg [a,b,d,.map (some kb),e])=none:=fun n=>by
  have hp:(PV.agg [a,b,d,.map (some kb),e]).pure=false:=by have:(PV.map (some kb)).pure=false:=rfl;simp[PV.pure,qas]
  rw[frz];simp only[hp,bF0,if_false,List.map_cons,f0];cases frz H n0 (n+1) a<;>simp only[qbs,Option.map];cases frz H n0 (n+1) b<;>simp only[qbs,Option.map];cases frz H n0 (n+1) d<;>simp only[qbs,Option.map]
 have f2:∀n,frz H n0 (n+3) (.pb k)=none:=fun n=>by rw[frz];simp only[PV.pure,bF0,if_false,hk,ll0,List.getElem?_cons_zero,f1,Option.map];rw[if_neg (by omega)];rfl
 have f3:frz H n0 64 (.tuple [.pb k,.int .i64 0])=none:=by rw[frz];simp only[PV.pure,qas,Bool.false_and,bF0,if_false,List.map_cons,f2,qbs,Option.map]
 unfold tidy;rw[if_neg (by decide),if_neg (by simpa using hua)];simp only[OR.v,f3,hb]
structure TyIn (T:Tbl)(t:GTy)(r:Int):Prop where
 E103:∀h,Ev T 103 [qai t] h (ba (iv0 r) h)
 ok:r=0→TypP t
 G:r=0→GOk t.sig
 E87:r=0→∀h,Ev T 87 [qaf t.sig] h (ba (iv0 0) h)
@[go_sem] theorem writes_lookup{kk:KK}{z:PV}{ok:Bool}{m i:AX}{ws:NL}:qbj (.lookup kk z ok m i) ws=ws:=rfl
@[go_sem] theorem reads_lookup{kk:KK}{z:PV}{ok:Bool}{m i:AX}{e:PL}{n:Nat}:qbb (.lookup kk z ok m i) true e n=qeq (ax e m)++qeq (ax e i):=by simp[qbb,qbu,AOp.axs,qeu]
def sysN(t:GTy)(kb:Nat):PV:=.agg [.slice 1 (t.sig.sorts.map .str) .any,.slice 3 (t.sig.ops.map qao) .any,.slice 8 (t.eqns.map qaj) .any,.map (some kb),.nilFunc]
theorem st_sys{H:Hp}{t:GTy}{k kb kf:Nat}(hk:H[k]?=some (.row 5 [sysN t kb]))(ups:UL):
 ∃ups',(∀ws,storeAt 1 (.ptr k 0 4 1) (.func (.func 233) [] [.pb kf]) ⟨H,ws,ups⟩=some ⟨H.set k (.row 5 [sysV t kb kf]),wadd k ws,ups'⟩)∧∀x∈ups',x∈ups∨x.1=k:=by
 have hu:upd (sysN t kb) 4 (.func (.func 233) [] [.pb kf])=some (sysV t kb kf):=rfl;have h1:∀ws,storeAt 1 (.ptr k 0 4 1) (.func (.func 233) [] [.pb kf]) ⟨H,ws,ups⟩=some (wrote k (.row 5 [sysV t kb kf]) (PV.func (.func 233) [] [.pb kf]).top ⟨H,ws,ups⟩):=fun ws=>by simp only[storeAt,hk,ll0,PV.cells,List.all_cons,List.all_nil,PV.isCell,Bool.and_self,and_self,if_true,List.getElem?_cons_zero,hu,Option.map,sC0]
 cases ht:(PV.func (.func 233) [] [.pb kf]).top with
 |none=>exact⟨ups,fun ws=>by rw[h1,ht,qau],fun x hx=>.inl hx⟩
 |some j=>
   refine⟨_,fun ws=>by rw[h1,ht,qcj],fun x hx=>?_⟩;split at hx
   ·grind
   ·exact .inl hx
def conE(L:List Ent):List (Int×IL):=L.map fun x=>(x.1,x.2.1)
def getC(n:Int):List (Int×IL)→Option (IL)
 |[]=>none
 |x::L=>if n=x.1 then some x.2 else getC n L
def putC(n:Int)(y:IL):List (Int×IL)→List (Int×IL)
 |[]=>[(n,y)]
 |x::L=>if n=x.1 then(n,y)::L else x::putC n y L
def byN(es:List GEqn):Nat→List (Int×IL)
 |0=>[]
 |i+1=>match es[i]? with
   |some q=>putC q.A.num0 ((getC q.A.num0 (byN es i)).getD []++[(i:Int)]) (byN es i)
   |none=>byN es i
theorem byN_succ{es:List GEqn}{i:Nat}{q:GEqn}(h:es[i]?=some q):byN es (i+1)=putC q.A.num0 ((getC q.A.num0 (byN es i)).getD []++[(i:Int)]) (byN es i):=by simp only[byN,h]
theorem con_get(n:Int):∀L:List Ent,getC n (conE L)=(getE n L).map (·.1)
 |[]=>rfl
 |x::L=>by
   have:=con_get n L;simp only[conE,List.map_cons,getC,getE]at this⊢;split
   ·rfl
   ·exact this
theorem qti(n:Int)(y:IL×Nat):∀L:List Ent,conE (putE n y L)=putC n y.1 (conE L)
 |[]=>rfl
 |x::L=>by
   have:=qti n y L;simp only[conE,List.map_cons,putC,putE]at this⊢;split
   ·rfl
   ·grind
structure SysE (H:Hp)(ks kf kb:Nat)(t:GTy)(L:List Ent):Prop where
 S:SysH H ks kf kb t (setE L)
 con:conE L=byN t.eqns t.eqns.length
 tok:∀x∈L,H[x.2.2]?=some (.tok 1 x.2.1.length)
 nd:(L.map (·.2.2)).Nodup
structure OpenX where
 ks:Nat
 kf:Nat
 kb:Nat
 es:List (PV×PV)
 H:Hp
 ups:UL
structure OpenR (h:Hp)(t:GTy)(x:OpenX):Prop where
 low:Low h.length h x.H
 sys:SysH x.H x.ks x.kf x.kb t x.es
 by_:ByOk x.es t.eqns.length
 ups:∀y∈x.ups,h.length≤y.1
 ks:h.length≤x.ks
 kb:h.length≤x.kb
 con:∃L:List Ent,x.es=setE L∧conE L=byN t.eqns t.eqns.length∧OkE x.H h.length t.eqns.length t.eqns.length L
include hT in
theorem open_err{t:GTy}{r:Int}(I:TyIn T t r)(hr:r≠0)(h:Hp):Ev T 186 [qai t] h (ba (.tuple [.nilptr,iv0 r]) h):=by
 refine hT.wk fn186 (by decide) ?_;have k1:=gC0 (l:=h) (a:=row 3 [qai t]);have low1:Low h.length h (h++[row 3 [qai t]]):=(Low.refl _ _).push (nR0 _);generalize hH1:h++[row 3 [qai t]]=H1 at*;have l1:loadAt true 3 (.pb h.length) H1=some (qai t):=by rw[qad k1];rfl
 have hb:(r !=0)=true:=by simpa using hr
 have td:=qan (v:=.tuple [.nilptr,iv0 r]) (ws:=[]) rfl rfl low1 (by simp);simp(disch:=omega) only[go_sem,hH1,qbx,qby,l1,cb (I.E103 H1),hb,hT.prim,qab,td]
include hT in
theorem open_ok{t:GTy}(I:TyIn T t 0)(h:Hp):∃x:OpenX,Ev T 186 [qai t] h (.val (.tuple [.pb x.ks,iv0 0]),⟨x.H,[],x.ups⟩)∧OpenR h t x:=by
 refine hT.wp (r:=fun x:OpenX=>(.val (.tuple [.pb x.ks,iv0 0]),⟨x.H,[],x.ups⟩)) fn186 (by decide) ?_;have hnE:=(I.ok rfl).nE;have k1:=gC0 (l:=h) (a:=row 3 [qai t]);have low1:Low h.length h (h++[row 3 [qai t]]):=(Low.refl _ _).push (nR0 _);have hl1:(h++[row 3 [qai t]]).length=h.length+1:=by simp
 generalize hH1:h++[row 3 [qai t]]=H1 at*;have l1:loadAt true 3 (.pb h.length) H1=some (qai t):=by rw[qad k1];rfl
 have n0:((0:Int) !=0)=false:=rfl;have b2:=gC0 (l:=H1) (a:=AE.Obj.map (setE []));have k12:=qah (o2:=AE.Obj.map (setE [])) k1;have low2:Low h.length h (H1++[AE.Obj.map (setE [])]):=low1.push (by omega);have hl2:(H1++[AE.Obj.map (setE [])]).length=h.length+2:=by simp;omega
 have e2:H1++[AE.Obj.map []]=H1++[AE.Obj.map (setE [])]:=rfl;generalize H1++[AE.Obj.map (setE [])]=H2 at*;generalize hkb:H1.length=kb at*;have fb:qdt [PV.sn,.sn,.sn,.map none,.nilFunc] [(0,3,qai t),(3,1,.map (some kb))]=some [.slice 1 (t.sig.sorts.map .str) .any,.slice 3 (t.sig.ops.map qao) .any,.slice 8 (t.eqns.map qaj) .any,.map (some kb),.nilFunc]:=rfl;have s3:=gC0 (l:=H2) (a:=row 5 [sysN t kb]);have b3:=qah (o2:=row 5 [sysN t kb]) b2;have k13:=qah (o2:=row 5 [sysN t kb]) k12;have low3:=low2.push (o:=row 5 [sysN t kb]) (by omega);have hl3:(H2++[row 5 [sysN t kb]]).length=h.length+3:=by simp;omega
 have e3:H2++[row 5 [.agg [.slice 1 (t.sig.sorts.map .str) .any,.slice 3 (t.sig.ops.map qao) .any,.slice 8 (t.eqns.map qaj) .any,.map (some kb),.nilFunc]]]=H2++[row 5 [sysN t kb]]:=rfl;generalize H2++[row 5 [sysN t kb]]=H3 at*;generalize hks:H2.length=ks at*;have sb:=qlr (h:=H3) (sz:=1) (ws:=[]) (ups:=[]) (c:=.nilptr) (v:=.pb ks) rfl ⟨rfl,rfl⟩ (fun j hj=>by cases hj;omega);have f4:=gC0 (l:=H3) (a:=row 1 [.pb ks]);have s4:=qah (o2:=row 1 [.pb ks]) s3;have b4:=qah (o2:=row 1 [.pb ks]) b3;have k14:=qah (o2:=row 1 [.pb ks]) k13;have low4:=low3.push (o:=row 1 [.pb ks]) (by omega);have hl4:(H3++[row 1 [.pb ks]]).length=h.length+4:=by simp;omega
 generalize hH4:H3++[row 1 [.pb ks]]=H4 at*;generalize hkf:H3.length=kf at*;have l2:loadAt false 1 (.ptr h.length 0 2 1) H4=some (.slice 8 (t.eqns.map qaj) .any):=by rw[qad k14];rfl
 simp(disch:=omega) only[go_sem,hH1,qbx,qby,l1,cb (I.E103 H1),n0,e2,hkb,fb,e3,hks,hkf,sb,l2,hT.q,lM0]
 refine wpC.loopM (fun g e st=> ∃(i:Nat)(H:Hp)(ws:NL)(ups:UL)(L:List Ent),i+g=t.eqns.length∧Low h.length h H∧H[kb]?=some (.map (setE L))∧H[ks]?=some (.row 5 [sysN t kb])∧H[kf]?=some (.row 1 [.pb ks])∧OkE H h.length t.eqns.length i L∧conE L=byN t.eqns i∧(∀x∈ws,h.length≤x)∧(∀x∈ups,h.length≤x.1)∧(eget e 5=.pb kf∧eget e 18=.slice 8 (t.eqns.map qaj) .any∧eget e 19=iv0 (t.eqns.length:Int)∧eget e 20=iv0 (i:Int))∧st=⟨H,ws,ups⟩) ?_ t.eqns.length _ _
  ⟨0,H4,_,_,[],by omega,low4,b4,s4,f4,⟨by simp,by simp,by simp⟩,rfl,qae (by omega) (by simp),by simp,by simp only[go_sem,zN0],rfl⟩
 rintro g e st ⟨i,H,ws,ups,L,hi,low,hb,hs,hf,O,hcon,hw,hu,⟨e5,e18,e19,e20⟩,rfl⟩;have hHl:=low.len;by_cases h1:i<t.eqns.length
 · have h1':(i:Int)< (t.eqns.length:Int):=by omega
   have hx:t.eqns[i]?=some t.eqns[i]:=gE0 h1;have ga:(t.eqns.map qaj)[i]?=some (qaj t.eqns[i]):=by rw[gM0,hx];rfl
   generalize t.eqns[i]=q at*;obtain⟨c1,c2,_⟩:=qil q;have sb:=qa5 (h:=H) (ws:=ws) (ups:=ups) (z:=zq8) (sz:=8) (c:=qaj q) c1 rfl c2 (qtc q) ⟨_,rfl⟩ ⟨_,rfl⟩;have k5:=gC0 (l:=H) (a:=row 8 [qaj q]);have b5:=qah (o2:=row 8 [qaj q]) hb;have s5:=qah (o2:=row 8 [qaj q]) hs;have f5:=qah (o2:=row 8 [qaj q]) hf;have O5:=O.keep (H':=H++[row 8 [qaj q]]) fun j m hj=>qah hj;have low5:=low.push (o:=row 8 [qaj q]) hHl;generalize hH5:H++[row 8 [qaj q]]=H5 at*;generalize hk7:H.length=k7 at*;have hl5:=low5.len;have lf:loadAt false 1 (.pb kf) H5=some (.pb ks):=by rw[qad f5];rfl
   have lm:loadAt false 1 (.ptr ks 0 3 1) H5=some (.map (some kb)):=by rw[qad s5];rfl
   have ln:loadAt false 1 (.ptr k7 0 3 1) H5=some (iv0 q.A.num0):=by rw[qad k5];exact eqn_An
   have hby:=byN_succ hx;rw[←hcon,con_get]at hby
   generalize q.A.num0=n at*;have lk:=look_E (n:=n) b5;have fe:qda 1 (List.replicate 1 (iv0 0)) [(0,iv0 (i:Int))]=some [iv0 (i:Int)]:=rfl;cases hg:getE n L with
   |none=>
     rw[hg]at lk;simp only at lk;have ap:=fun ws=>app_new (H:=H5) (ws:=ws) (ups:=ups) (n:=(i:Int));have b6:=qah (o2:=AE.Obj.tok 1 1) b5;have s6:=qah (o2:=AE.Obj.tok 1 1) s5;have f6:=qah (o2:=AE.Obj.tok 1 1) f5;have t6:=gC0 (l:=H5) (a:=AE.Obj.tok 1 1);have O6:=O5.keep (H':=H5++[AE.Obj.tok 1 1]) fun j m hj=>qah hj;have low6:=low5.push (o:=AE.Obj.tok 1 1) hl5;have hfr:∀x∈L,x.2.2<H5.length:=fun x hx=>(gI0.1 (O5.tok x hx).1).1;generalize hH6:H5++[AE.Obj.tok 1 1]=H6 at*;generalize hkt:H5.length=kt at*;obtain⟨ups',up,hu'⟩:=upd_E (n:=n) (y:=([(i:Int)],kt)) b6 ups;have up:∀ws,qgg .int (.map (some kb)) (iv0 n) (.slice 1 [iv0 (i:Int)] (.tok kt)) ⟨H6,ws,ups⟩=some ⟨H6.set kb (.map (setE (putE n ([(i:Int)],kt) L))),wadd kb ws,ups'⟩:=up;have hL:=putE_new (y:=([(i:Int)],kt)) hg;simp(disch:=first|omega|decide|simp only[go_sem]) only[go_sem,a186b0,e5,e18,e19,e20,h1',ga,qdo,hk7,sb,lf,lm,ln,lk,fe,ap,hkt,up,ll0];refine⟨g - 1,by omega,i+1,_,_,_,_,by omega,low6.trans (.set (by omega)),qak b6,qaa s6 (by omega),qaa f6 (by omega),?_,by rw[qti,hby,hg];rfl,?_,fun x hx=>?_,rfl,rfl⟩
     · rw[hL];have hne:∀(j m:Nat),H6[j]?=some (.tok 1 m)→kb≠j:=fun j m hj he=>by subst he;rw[b6]at hj;cases hj
       refine⟨fun x hx=>?_,fun x hx=>?_,?_⟩
       · rcases mA0.1 hx with hx|hx
         ·exact⟨qaa (O6.tok x hx).1 (hne _ _ (O6.tok x hx).1),(O6.tok x hx).2⟩
         ·grind
       · rcases mA0.1 hx with hx|hx
         ·exact⟨(O.idx x hx).1,by have:=(O.idx x hx).2;omega⟩
         ·grind
       · rw[List.map_append,List.nodup_append];refine⟨O.nd,by simp,fun a ha b hb=>?_⟩;obtain⟨x,hx,rfl⟩:=mM0.1 ha;have:=hfr x hx;simp only[List.map_cons,List.map_nil,mS0]at hb;omega
     · first
        |exact qhj (qae (by omega) (by simp)) (qae (by omega) hw)
        |done
     ·grind
   |some y=>
     obtain⟨l,kt⟩:=y;rw[hg]at lk;simp only at lk;obtain⟨t5,hkt⟩:=O5.tok _ (qi7 hg);obtain⟨i5,n5⟩:=O.idx _ (qi7 hg);simp only at t5 hkt i5 n5;have ap:=fun ws=>app_old (H:=H5) (ws:=ws) (ups:=ups) (n:=(i:Int)) t5 (by omega);have hne:∀(o:AE.Obj)(j:Nat),o.isTok=false→H5[j]?=some o→kt≠j:=fun o j ho hj he=>by subst he;rw[t5]at hj;cases hj;cases ho
     have b6:=qaa (o':=AE.Obj.tok 1 (l.length+1)) b5 (hne _ _ rfl b5);have s6:=qaa (o':=AE.Obj.tok 1 (l.length+1)) s5 (hne _ _ rfl s5);have f6:=qaa (o':=AE.Obj.tok 1 (l.length+1)) f5 (hne _ _ rfl f5);have t6:=qak (o':=AE.Obj.tok 1 (l.length+1)) t5;have r6:∀(j m:Nat),j≠kt→H5[j]?=some (.tok 1 m)→(H5.set kt (.tok 1 (l.length+1)))[j]?=some (.tok 1 m):=fun j m hj h=>qaa h (Ne.symm hj);have low6:Low h.length h (H5.set kt (.tok 1 (l.length+1))):=low5.trans (.set hkt);generalize hH6:H5.set kt (.tok 1 (l.length+1))=H6 at*;obtain⟨ups',up,hu'⟩:=upd_E (n:=n) (y:=(l++[(i:Int)],kt)) b6 ups;simp only at up;simp(disch:=first|omega|decide|simp only[go_sem]) only[go_sem,a186b0,e5,e18,e19,e20,h1',ga,qdo,hk7,sb,lf,lm,ln,lk,fe,ap,up,ll0];refine⟨g - 1,by omega,i+1,_,_,_,_,by omega,low6.trans (.set (by omega)),qak b6,qaa s6 (by omega),qaa f6 (by omega),?_,by rw[qti,hby,hg];rfl,?_,fun x hx=>?_,rfl,rfl⟩
     · have hnb:∀(j m:Nat),H6[j]?=some (.tok 1 m)→kb≠j:=fun j m hj he=>by subst he;rw[b6]at hj;cases hj
       refine⟨fun x hx=>?_,fun x hx=>?_,by rw[putE_kt hg];exact O.nd⟩
       · rcases qoy hg O.nd x hx with rfl|⟨hx,hk⟩
         ·grind
         · have:=r6 _ _ hk (O5.tok x hx).1;exact⟨qaa this (hnb _ _ this),(O5.tok x hx).2⟩
       · rcases qoy hg O.nd x hx with rfl|⟨hx,hk⟩
         ·grind
         ·exact⟨(O.idx x hx).1,by have:=(O.idx x hx).2;omega⟩
     · first
        |exact qhj (qae (by omega) (by simp)) (qhj (qae (by omega) (by simp)) (qae (by omega) hw))
        |done
     ·grind
 · have h1':¬(i:Int)< (t.eqns.length:Int):=by omega
   have lf:loadAt false 1 (.pb kf) H=some (.pb ks):=by rw[qad hf];rfl
   obtain⟨ups',sv,hu'⟩:=st_sys (kf:=kf) hs ups;have s9:=qak (o':=row 5 [sysV t kb kf]) hs;have f9:=qaa (o':=row 5 [sysV t kb kf]) hf (show ks≠kf by omega);have b9:=qaa (o':=row 5 [sysV t kb kf]) hb (show ks≠kb by omega);have lf9:loadAt false 1 (.pb kf) (H.set ks (.row 5 [sysV t kb kf]))=some (.pb ks):=by rw[qad f9];rfl
   have hu9:∀x∈ups',h.length≤x.1:=fun x hx=>by
    rcases hu' x hx with h|h
    ·exact hu x h
    ·omega
   have td:=qp5 (n0:=h.length) (ws:=wadd ks ws) (ups:=ups') s9 (by omega) (by omega) (qae (by omega) hw) hu9;simp(disch:=omega) only[go_sem,a186b0,e5,e19,e20,h1',lf,sv,lf9,td];exact⟨⟨ks,kf,kb,setE L,_,ups'⟩,rfl,low.trans (.set (by omega)),⟨s9,f9,b9⟩,O.by_ (by omega),hu9,by simp only;omega,by simp only;omega,L,rfl,by rw[hcon];congr 1;omega,⟨fun x hx=>⟨qaa (O.tok x hx).1 (fun he=>by subst he;have:=(O.tok x hx).1;rw[hs]at this;cases this),(O.tok x hx).2⟩,fun x hx=>⟨(O.idx x hx).1,by have:=(O.idx x hx).2;omega⟩,O.nd⟩⟩
end Go.Proofs.Tryz
