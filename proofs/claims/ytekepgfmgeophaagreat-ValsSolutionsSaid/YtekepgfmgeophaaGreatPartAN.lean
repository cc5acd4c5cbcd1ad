/- Texts of the proof, one behind the other: ValGrow, ValT0, ValS2, ValS3, ValFnsL, ValL1, ValE1, ValEntT, ValL2, ValL3, ValL5, ValL6, ValL7, ValL8, ValL9, ValFnsI, ValN3, ValN12, ValP1, ValN4, ValL10, ValL12, ValN5, ValN6, ValFnsP, ValP4, ValQ1, ValFnsQ, ValP2, ValP3, ValP5, ValP6, ValP7, ValFnsN, ValM6, ValM7, ValFnsR, ValR1. -/
import Derived.Test.YtekepgfmgeophaaGreatChecked
import Derived.Shelf.Spec.SlicesGrow
import Derived.Shelf.SlGeneric
import Derived.KernelRfl
import Derived.Test.YtekepgfmgeophaaGreatPartAM
import Derived.Test.YtekepgfmgeophaaGreatPartAL
import Derived.Test.YtekepgfmgeophaaGreatPartAJ
import Derived.Test.YtekepgfmgeophaaGreatPartAG
set_option linter.unusedVariables false
set_option linter.unusedSimpArgs false
namespace Go.Proofs
open Go Go.Shelf
def Tryz.grow154_ren:Go.Shelf.Ren:=⟨fun|4=>154|n=>n,fun|22=>58|25=>98|3=>3|4=>4|9=>9|20=>20|0=>0|n=>n,fun|n=>n⟩
theorem Tryz.grow154:Go.Proofs.Lays8.n4 Tryz.prog Tryz.grow154_ren:={
 mixed:=by kernel_rfl
 f4:=⟨Tryz.f154.name,by decide,Tryz.func154.trans (congrArg some (by kernel_rfl))⟩
 t0:=Tryz.underlying0
 a0:=Tryz.isAgg0
 z0:=Tryz.sizeOf0
 v0:=Tryz.zeroValue0
 t3:=Tryz.underlying3
 a3:=Tryz.isAgg3
 z3:=Tryz.sizeOf3
 v3:=Tryz.zeroValue3
 t4:=Tryz.underlying4
 a4:=Tryz.isAgg4
 z4:=Tryz.sizeOf4
 v4:=Tryz.zeroValue4
 t9:=Tryz.underlying9
 a9:=Tryz.isAgg9
 z9:=Tryz.sizeOf9
 v9:=Tryz.zeroValue9
 t20:=Tryz.underlying20
 a20:=Tryz.isAgg20
 z20:=Tryz.sizeOf20
 v20:=Tryz.zeroValue20
 t22:=Tryz.underlying58
 a22:=Tryz.isAgg58
 z22:=Tryz.sizeOf58
 v22:=Tryz.zeroValue58}
def Tryz.grow155_ren:Go.Shelf.Ren:=⟨fun|4=>155|n=>n,fun|22=>42|25=>3|3=>3|4=>4|9=>9|20=>20|0=>0|n=>n,fun|n=>n⟩
theorem Tryz.grow155:Go.Proofs.Lays8.n4 Tryz.prog Tryz.grow155_ren:={
 mixed:=by kernel_rfl
 f4:=⟨Tryz.f155.name,by decide,Tryz.func155.trans (congrArg some (by kernel_rfl))⟩
 t0:=Tryz.underlying0
 a0:=Tryz.isAgg0
 z0:=Tryz.sizeOf0
 v0:=Tryz.zeroValue0
 t3:=Tryz.underlying3
 a3:=Tryz.isAgg3
 z3:=Tryz.sizeOf3
 v3:=Tryz.zeroValue3
 t4:=Tryz.underlying4
 a4:=Tryz.isAgg4
 z4:=Tryz.sizeOf4
 v4:=Tryz.zeroValue4
 t9:=Tryz.underlying9
 a9:=Tryz.isAgg9
 z9:=Tryz.sizeOf9
 v9:=Tryz.zeroValue9
 t20:=Tryz.underlying20
 a20:=Tryz.isAgg20
 z20:=Tryz.sizeOf20
 v20:=Tryz.zeroValue20
 t22:=Tryz.underlying42
 a22:=Tryz.isAgg42
 z22:=Tryz.sizeOf42
 v22:=Tryz.zeroValue42}
def Tryz.grow159_ren:Go.Shelf.Ren:=⟨fun|4=>159|n=>n,fun|22=>26|25=>28|3=>3|4=>4|9=>9|20=>20|0=>0|n=>n,fun|n=>n⟩
theorem Tryz.grow159:Go.Proofs.Lays8.n4 Tryz.prog Tryz.grow159_ren:={
 mixed:=by kernel_rfl
 f4:=⟨Tryz.f159.name,by decide,Tryz.func159.trans (congrArg some (by kernel_rfl))⟩
 t0:=Tryz.underlying0
 a0:=Tryz.isAgg0
 z0:=Tryz.sizeOf0
 v0:=Tryz.zeroValue0
 t3:=Tryz.underlying3
 a3:=Tryz.isAgg3
 z3:=Tryz.sizeOf3
 v3:=Tryz.zeroValue3
 t4:=Tryz.underlying4
 a4:=Tryz.isAgg4
 z4:=Tryz.sizeOf4
 v4:=Tryz.zeroValue4
 t9:=Tryz.underlying9
 a9:=Tryz.isAgg9
 z9:=Tryz.sizeOf9
 v9:=Tryz.zeroValue9
 t20:=Tryz.underlying20
 a20:=Tryz.isAgg20
 z20:=Tryz.sizeOf20
 v20:=Tryz.zeroValue20
 t22:=Tryz.underlying26
 a22:=Tryz.isAgg26
 z22:=Tryz.sizeOf26
 v22:=Tryz.zeroValue26}
namespace Tryz
open Go.AE
theorem info_of{ty n b:Nat}{Z:Value}(h:(Tryz.prog.info? ty).map (fun i=>(i.zero,i.size,i.bytes))=some (some Z,n,b)):∃i,Tryz.prog.info? ty=some i∧i.zero=some Z∧i.size=n∧i.bytes=b:=by simp_all
theorem qs4{ty sz bytes:Nat}{Z:Value}{ρ:Ren}(L:Lays8.n4 Tryz.prog ρ)(ht:ρ.t 25=ty)(h:(Tryz.prog.info? ty).map (fun i=>(i.zero,i.size,i.bytes))=some (some Z,sz,bytes))(hz:Z.cells.size=sz)(hs:0<sz)(hE:AE.Enters Tryz.prog (ρ.f 4)):SpOK Tryz.prog (ρ.f 4) (qh8 sz bytes):=by
 obtain⟨i,h1,h2,h3,h4⟩:=info_of h;refine growSp_ok (z:=Z) (ty:=ty) hz hE (fun w=>Any8.slices_Grow_room L none 0 0 0 w (nR0 _) (by omega) (by omega) (nR0 _)) (fun n w hn hb hN=>?_);have hb2:(0+n) *i.bytes≤140737488355328:=by rw[h4,Nat.zero_add];omega
 have:=Any8.slices_Grow_grow L i Z (by rw[ht];exact h1) h2 (by omega) none 0 0 n [] w (nR0 _) (by omega) hb2 (by omega) (by simp) (fun _=>rfl) (fun a h=>by cases h);refine this.mono fun e w' hp=>?_;obtain⟨p1,p2⟩:=hp;rw[ht]at p1 p2;simp only[Nat.zero_add,Nat.sub_zero]at p1 p2;refine⟨p1,?_⟩;rw[p2];simp
theorem grow154_ok:SpOK Tryz.prog 154 (qh8 6 80):=qs4 (ty:=98) (Z:=.agg #[.int .i64 0,.int .i64 0,.slice none 0 0,.int .i64 0,.int .i64 0,.slice none 0 0]) Tryz.grow154 rfl (by kernel_rfl) rfl (by omega) ⟨Tryz.f154,Tryz.func154,by decide,rfl⟩
theorem grow155_ok:SpOK Tryz.prog 155 (qh8 1 8):=qs4 (ty:=3) (Z:=.int .i64 0) Tryz.grow155 rfl (by kernel_rfl) rfl (by omega) ⟨Tryz.f155,Tryz.func155,by decide,rfl⟩
theorem grow159_ok:SpOK Tryz.prog 159 (qh8 3 40):=qs4 (ty:=28) (Z:=.agg #[.int .i64 0,.int .i64 0,.slice none 0 0]) Tryz.grow159 rfl (by kernel_rfl) rfl (by omega) ⟨Tryz.f159,Tryz.func159,by decide,rfl⟩
end Tryz
end Go.Proofs
namespace Go.Proofs.Tryz
open Go Go.AE
noncomputable def spOf:Nat→Option SpFn:=fun f=>
 if f=54 then some (qcr ar54)else if f=55 then some (qcr ar55)else if f=75 then some (qcr af75)else if f=208 then some (qcr qpq)else if f=189 then some (AE'.guardedSp 260 2)else if f=154 then some (qh8 6 80)else if f=155 then some (qh8 1 8)else if f=159 then some (qh8 3 40)else none
noncomputable def T0:Tbl:={fn:=fnOf,prim:=qab,sp:=spOf,mode:=fun f=>if f=178 then 1 else if f=138 then 1 else if f=236 then 2 else 0,iter:=fun f=>if f=182 then some itNat else none}
theorem prim247:qev Tryz.prog 247 .countString:=⟨Tryz.f247,Tryz.func247,by decide,rfl,by kernel_rfl,by kernel_rfl⟩
theorem prim272:qev Tryz.prog 272 .indexByteString:=⟨Tryz.f272,Tryz.func272,by decide,rfl,by kernel_rfl,by kernel_rfl⟩
theorem sp_ok{f:FuncId}{sp:SpFn}(h:spOf f=some sp):SpOK Tryz.prog f sp:=by
 unfold spOf at h;split at h
 ·rename_i e;cases e;cases h;exact clone54
 split at h
 ·rename_i e;cases e;cases h;exact clone55
 split at h
 ·rename_i e;cases e;cases h;exact clone75
 split at h
 ·rename_i e;cases e;cases h;exact clone208
 split at h
 ·rename_i e;cases e;cases h;exact guard189
 split at h
 ·rename_i e;cases e;cases h;exact grow154_ok
 split at h
 ·rename_i e;cases e;cases h;exact grow155_ok
 split at h
 ·rename_i e;cases e;cases h;exact grow159_ok
 ·cases h
theorem T0_fn:T0.fn=fnOf:=by unfold T0;with_reducible rfl
theorem T0_prim:T0.prim=qab:=by unfold T0;with_reducible rfl
theorem qm8:T0.sp=spOf:=by unfold T0;with_reducible rfl
theorem fnOf_ok {f : FuncId} {af : AFunc} (h : fnOf f = some af) : ∃ fn rows, Tryz.prog.funcs[f]? = some fn ∧ qb8 Tryz.prog rows fn = some af ∧ (fn.name == "runtime.NumGoroutine") = false := by
 unfold fnOf at h
 revert h
 generalize Tryz.prog=P
 intro h
 split at h
 ·grind
 ·cases h
theorem qm9:TblOK Tryz.prog T0 where
 mixed:=mixed
 prim f p h:=by
  rw[T0_prim]at h;unfold qab at h;split at h
  ·rename_i e;cases e;cases h;exact prim247
  split at h
  ·rename_i e;cases e;cases h;exact prim272
  ·cases h
 iter f it h captured yss hc:=by
  have h:(if f=182 then some itNat else none)=some it:=h;split at h
  next e=>
    cases e;cases h;unfold itNat at hc;split at hc
    ·rename_i e;cases hc;rw[qd8 e];exact sem0
    split at hc
    ·rename_i e;cases hc;rw[qd8 e];exact sem1
    split at hc
    ·rename_i e;cases hc;rw[qd8 e];exact sem2
    ·cases hc
  ·cases h
 fn f af h:=fnOf_ok (by rw[←T0_fn];exact h)
 step f sp h:=(sp_ok (by rw[←qm8];exact h)).step
 sp f sp h:=(sp_ok (by rw[←qm8];exact h)).sp
theorem qfi:Std T0 where
 sp f h:=by
  have h2:f≠54∧f≠55∧f≠75∧f≠208∧f≠189∧f≠15∧f≠87∧f≠91∧f≠50∧f≠103∧f≠154∧f≠155∧f≠159∧f≠137∧f≠151:=by simpa[qgx]using h
  rw[qm8];unfold spOf;simp only[h2,if_false]
 fn f:=by rw[T0_fn]
 prim:=T0_prim
 mode f:=rfl
end Go.Proofs.Tryz
namespace Go.Proofs.Tryz
open Go Go.AE
open Go.AE.Obj (row)
variable {T:Tbl}(hT:Std T)
def a208:AFunc:=⟨1,8,(sr0 [
    ⟨(some 2),.move (.c .sn),none,false,0,0,false⟩]
 (.seq (sr0 [
  ⟨(some 3),.move (.t 0),none,false,0,0,false⟩,
  ⟨(some 4),.eq false .slice (.t 3) (.c .sn),none,false,0,0,false⟩]
 (cn0 4
 (sr0 [
  ⟨(some 2),.move (.c .sn),none,false,0,0,false⟩]
 .ret)
 .skip))
 (sr0 [
  ⟨(some 5),.buildSlice 1 (iv0 0) 0 [],none,false,0,0,false⟩,
  ⟨(some 6),.move (.t 0),none,false,0,0,false⟩,
  ⟨(some 7),.append 1 8 (.t 5) (.t 6),none,true,0,0,false⟩,
  ⟨(some 2),.move (.t 7),none,false,0,0,false⟩]
 .ret))),[.t 2]⟩
theorem af208_eq:qpq=a208:=by kernel_rfl
theorem clone_ev(hC:T.sp 208=some (qcr qpq)){x:Int}{l:IL}(hl:l.length<900)(h:Hp):Ev T 208 [.slice 1 ((x::l).map encI) .any] h (.val (.slice 1 ((x::l).map encI) (.tok h.length)),⟨h++[.tok 1 (l.length+1)],[],[]⟩):=by
 have hroom:(l.length+1) *8≤room∧l.length+1≤room:=by
  have:100000≤room:=by decide
  constructor<;>omega
 refine⟨1,fun n hn=>?_⟩;obtain⟨n,rfl⟩:∃k,n=k+1:=⟨n - 1,by omega⟩;simp only[qbz,hC,qcr,List.map_cons,af208_eq];simp[qfg,a208,qa0,qgp,evOp,qbk,putD,eput,eget,ax,eqop,qgh,qda,appendop,qch,hroom,PV.cells,PV.isCell,encI,alloc,oval,resv,qdq,tidy,below]
theorem qhj{n:Nat}:∀{a b:NL},(∀k∈a,n≤k)→(∀k∈b,n≤k)→∀k∈wall a b,n≤k
 |[],b,_,hb=>hb
 |x::a,b,ha,hb=>qae (ha x (by simp)) (qhj (a:=a) (fun k hk=>ha k (by simp[hk])) hb)
def bPV(l:List UInt8):PL:=l.map fun b=>.int .u8 b.toNat
theorem qnc:∀l:List UInt8,qfv (bPV l)=some l
 |[]=>rfl
 |u::l=>by have h1:(0:Int)≤(u.toNat:Int)∧(u.toNat:Int)<256:=⟨by omega,by have:=u.toNat_lt;omega⟩;have h2:=qnc l;unfold bPV at h2⊢;simp only[List.map_cons,qfv,unbyte,h1,and_self,if_true,h2,Int.toNat_natCast,UInt8.ofNat_toNat]
theorem wrap_u8(n:Int):IntKind.u8.wrap n=((lowB n).toNat:Int):=by
 have h1:IntKind.u8.wrap n=n %256:=by rfl
 simp only[lowB,UInt8.toNat_ofNat'];omega
theorem key_loop{h0 H:Hp}{L:IL}{m:SM}{kb:Nat}{bs:List UInt8}{ws:NL}{e:PL}{Q:AExit→PL→St→Prop}(hL:L.length<1000)(hkb:h0.length≤kb)(low:Low h0.length h0 H)(hk:H[kb]?=some (.tok 1 bs.length))(hb:bs.length<2000)
 (hw:∀k∈ws,h0.length≤k)(e3:eget e 3=.slice 1 (bPV bs) (.tok kb))(e16:eget e 16=.slice 1 (L.map encI) m)(e17:eget e 17=iv0 (L.length:Int))(e18:eget e 18=iv0 0)
 (hQ:∀H' ws' e',Low h0.length h0 H'→(∀k∈ws',h0.length≤k)→eget e' 3=.slice 1 (bPV (bs++L.map lowB)) (.tok kb)→Q (.exit 0) e' ⟨H',ws',[]⟩):wpC T (.loop a164b0) e ⟨H,ws,[]⟩ Q:=by
 refine wpC.loopM (fun n e st=> ∃(i:Nat)(H:Hp)(ws:NL),i+n=L.length∧Low h0.length h0 H∧H[kb]?=some (.tok 1 (bs++(L.take i).map lowB).length)∧(∀k∈ws,h0.length≤k)∧eget e 3=.slice 1 (bPV (bs++(L.take i).map lowB)) (.tok kb)∧eget e 16=.slice 1 (L.map encI) m∧eget e 17=iv0 (L.length:Int)∧eget e 18=iv0 (i:Int)∧st=⟨H,ws,[]⟩) ?_ L.length _ _ ⟨0,H,ws,by omega,low,by simpa using hk,hw,by simpa using e3,e16,e17,e18,rfl⟩;rintro n e st ⟨i,H,ws,hi,low,hk,hw,e3,e16,e17,e18,rfl⟩;by_cases h1:i<L.length
 · have ga:=qee h1;have hu2:=wrap_u8 L[i];have hn1:bs++(L.take (i+1)).map lowB=(bs++(L.take i).map lowB)++[lowB L[i]]:=by rw[List.take_add_one,gE0 h1,List.map_append,←List.append_assoc];rfl
   have hBl:(bs++(L.take i).map lowB).length=bs.length+i:=by simp;omega
   generalize bs++(L.take i).map lowB=B at*;generalize lowB L[i]=c at*
   have hroom:(B.length+1) *1≤room∧B.length+1≤room:=by
    have:100000≤room:=by decide
    constructor<;>omega
   have fe:qda 1 (List.replicate 1 (PV.int .u8 0)) [(0,.int .u8 (c.toNat:Int))]=some [.int .u8 (c.toNat:Int)]:=rfl
   have fa:appendop 1 1 (.slice 1 (bPV B) (.tok kb)) (.slice 1 [.int .u8 (c.toNat:Int)] .lit) ⟨H,ws,[]⟩=some (.slice 1 (bPV (B++[c])) (.tok kb),⟨H.set kb (.tok 1 (B.length+1)),wadd kb ws,[]⟩):=by
    have hl:(bPV B).length=B.length:=by simp[bPV]
    simp[appendop,qch,hk,PV.cells,PV.isCell,hroom,qau,hl];simp[bPV]
   simp(disch:=omega) only[go_sem,a164b0,e3,e16,e17,e18,h1,ga,hu2,fe,fa];exact⟨n - 1,by omega,i+1,_,_,by omega,low.trans (.set hkb),by rw[qak hk,hn1];simp,qae hkb hw,by rw[hn1],rfl,rfl⟩
 · simp(disch:=omega) only[go_sem,a164b0,e17,e18,h1];have hil:i=L.length:=by omega
   subst hil;rw[List.take_length]at e3;exact hQ _ _ _ low hw (by simp only[go_sem,e3])
include hT in
theorem key_ev(hC:T.sp 208=some (qcr qpq)){o:GOp}(ho:o.name.size<1000∧o.args.length<900)(h:Hp):Ev T 164 [qao o] h (ba (.str ⟨(keyL o).toArray⟩) h):=by
 refine hT.wk fn164 (by decide) ?_;have hts:(o.name++ByteArray.mk #[40]).size=o.name.size+1:=by simp;rfl
 have hts2:(ByteArray.mk #[40]).size=1:=rfl
 have hroom:o.name.size+1≤room:=by
  have:100000≤room:=by decide
  omega
 have htl:(o.name++ByteArray.mk #[40]).data.toList=o.name.data.toList++[40]:=by simp
 generalize ht:o.name++ByteArray.mk #[40]=t at hts htl;have okb:qfh t=bPV t.data.toList:=rfl;have hbl:t.data.toList.length=t.size:=by simp
 have htr:t.size≤room:=by omega
 have hsum:o.name.size+(ByteArray.mk #[40]).size≤9223372036854775807:=by rw[hts2];omega
 have fe:qda 1 (List.replicate 1 (PV.int .i64 0)) [(0,iv0 o.res)]=some [iv0 o.res]:=rfl;generalize hkb:(h++[row 3 [qao o]]).length=kb;generalize hH1:((h++[row 3 [qao o]])++[AE.Obj.tok 1 t.size])=H1;have low1:Low h.length h H1:=by rw[←hH1];exact((Low.refl _ _).push (nR0 _)).push (by simp)
 have g0:H1[h.length]?=some (.row 3 [qao o]):=by rw[←hH1];simp
 have gb:H1[kb]?=some (.tok 1 t.size):=by rw[←hH1,←hkb];simp
 have hlb:h.length≤kb:=by rw[←hkb];simp
 have hl1:kb<H1.length:=(gI0.1 gb).1;have keep:∀{k:Nat}{ob o2:AE.Obj},H1[k]?=some ob→(H1++[o2])[k]?=some ob:=fun hx=>by rw[gL0 (gI0.1 hx).1];exact hx
 have hroom2:(o.args.length+1) *8≤room∧o.args.length+1≤room:=by
  have:100000≤room:=by decide
  constructor<;>omega
 have cl:∃v H2 m3 H3 ws3,Ev T 208 [.slice 1 (o.args.map encI) .any] H1 (ba v H2)∧qeq v=[]∧H2[h.length]?=some (.row 3 [qao o])∧appendop 1 8 v (.slice 1 [iv0 o.res] .lit) ⟨H2,[],[]⟩=some (.slice 1 ((o.args++[o.res]).map encI) m3,⟨H3,ws3,[]⟩)∧Low h.length h H3∧H3[kb]?=some (.tok 1 t.size)∧∀k∈ws3,h.length≤k:=by
  cases ha:o.args with
  |nil=>
    refine⟨.slice 1 [] .full,H1,.tok H1.length,H1++[.tok 1 1],[],⟨1,fun n hn=>?_⟩,rfl,g0,?_,low1.push (by omega),keep gb,by simp⟩
    · obtain⟨n,rfl⟩:∃k,n=k+1:=⟨n - 1,by omega⟩;simp only[qbz,hC,qcr,List.map_nil]
    · rw[ha]at hroom2;simp at hroom2;simp[appendop,qch,hroom2,PV.cells,PV.isCell,alloc,encI]
  |cons x l=>
    rw[ha]at hroom2;refine⟨_,H1++[.tok 1 (l.length+1)],.tok H1.length,(H1++[AE.Obj.tok 1 (l.length+1)]).set H1.length (AE.Obj.tok 1 (l.length+2)),wadd H1.length [],clone_ev hC (by rw[ha]at ho;simp at ho;omega) H1,rfl,keep g0,?_,(low1.push (by omega)).trans (.set (by omega)),qaa (keep gb) (by omega),qae (by omega) (by simp)⟩;simp at hroom2;have e1:=gC0 (l:=H1) (a:=AE.Obj.tok 1 (l.length+1));simp[appendop,qch,hroom2,PV.cells,PV.isCell,qau,encI]
 obtain⟨v,H2,m3,H3,ws3,c1,c2,c3,c4,c5,c6,c7⟩:=cl;have l1:loadAt false 1 (.ptr h.length 0 1 1) H1=some (.slice 1 (o.args.map encI) .any):=by rw[qad g0];rfl
 have l2:loadAt false 1 (.ptr h.length 0 2 1) H2=some (iv0 o.res):=by rw[qad c3];rfl
 simp(disch:=first|omega|decide|simp only[go_sem]) only[go_sem,ht,fe,hkb,hH1,hT.prim,qab,cb c1,c2,l1,l2,c4];refine key_loop (L:=o.args++[o.res]) (m:=m3) (kb:=kb) (h0:=h) (bs:=t.data.toList) (by simp;omega) hlb c5 (by rw[hbl];exact c6) (by omega) (qhj c7 (by simp)) (by simp only[go_sem,okb]) (by simp only[go_sem]) (by simp only[go_sem]) (by simp only[go_sem]) fun H' ws' e' low' hw' e3=>?_;have hkl:t.data.toList++(o.args++[o.res]).map lowB=keyL o:=by rw[htl];rfl
 rw[hkl]at e3;have hsv:strofv (.slice 1 (bPV (keyL o)) (.tok kb)) H'=some (.str ⟨(keyL o).toArray⟩):=by simp[strofv,qch,qnc]
 simp(disch:=omega) only[go_sem,e3,hsv];exact qan rfl rfl low' hw'
def qm2(es:List (PV×PV)):Prop:=∀p∈es,∃n,p=(.str n,.bool true)
def inK(n:ByteArray)(es:List (PV×PV)):Prop:=∃p∈es,p.1=.str n
theorem qsh{n m:ByteArray}:(n==m)=true↔n=m:=by
 obtain⟨x⟩:=n;obtain⟨y⟩:=m;constructor
 · intro h;have e:x=y:=by simpa using(show(x==y)=true from h)
   rw[e]
 · intro h;cases h;show(x==x)=true;simp
theorem find_ok{n:ByteArray}:∀{es:List (PV×PV)},qm2 es→∃b:Bool,qeb .str (.bool false) false (.map (some 0)) (.str n) [.map es]=some (.bool b)∧(b=true↔inK n es)
 |[],_=>⟨false,rfl,nofun,fun⟨p,hp,_⟩=>by simp at hp⟩
 |p::es,h=>by
   obtain⟨m,rfl⟩:=h p (by simp);obtain⟨b,hb,kb⟩:=find_ok (n:=n) (es:=es) fun q hq=>h q (by simp[hq]);simp only[qeb,List.getElem?_cons_zero,qe3,if_true]at hb⊢;simp only[qky,qex];cases hnm:(n==m)
   · refine⟨b,hb,kb.trans ⟨fun⟨p,hp,he⟩=>⟨p,by simp[hp],he⟩,fun⟨p,hp,he⟩=>?_⟩⟩;rcases mN0.1 hp with rfl|hp
     · have:m=n:=PV.str.inj he;subst this;rw[qsh.2 rfl]at hnm;cases hnm
     ·exact⟨p,hp,he⟩
   ·exact⟨true,rfl,fun _=>⟨(.str m,.bool true),by simp,by rw[qsh.1 hnm]⟩,fun _=>rfl⟩
theorem qqy{n:ByteArray}{es:List (PV×PV)}{H:Hp}{k:Nat}(hk:H[k]?=some (.map es))(ok:qm2 es):∃b:Bool,qeb .str (.bool false) false (.map (some k)) (.str n) H=some (.bool b)∧(b=true↔inK n es):=by obtain⟨b,hb,kb⟩:=find_ok (n:=n) ok;refine⟨b,?_,kb⟩;simp only[qeb,hk];simpa only[qeb,List.getElem?_cons_zero]using hb
theorem put_ok{n:ByteArray}:∀{es:List (PV×PV)},qm2 es→∃es',putK (.str n) (.bool true) es=some es'∧qm2 es'∧∀m,inK m es'↔m=n∨inK m es
 |[],_=>⟨[(.str n,.bool true)],rfl,fun p hp=>⟨n,mS0.1 hp⟩,fun m=>by
   constructor
   · rintro⟨p,hp,he⟩;rw[mS0.1 hp]at he;exact .inl (PV.str.inj he).symm
   · rintro(rfl|⟨p,hp,_⟩)
     ·exact⟨(.str m,.bool true),by simp,rfl⟩
     ·simp at hp⟩
 |p::es,h=>by
   obtain⟨m,rfl⟩:=h p (by simp);have h2:qm2 es:=fun q hq=>h q (by simp[hq]);obtain⟨es',he,ok,kk⟩:=put_ok (n:=n) h2;simp only[putK,qex];cases hnm:(n==m)
   · refine⟨_,by rw[he];rfl,fun q hq=>?_,fun d=>?_⟩
     · rcases mN0.1 hq with rfl|hq
       ·grind
       ·exact ok q hq
     · have:=kk d;simp only[inK,mN0,exists_eq_or_imp]at this⊢;rw[this];exact or_left_comm
   · have hm:n=m:=qsh.1 hnm;subst hm;refine⟨_,rfl,fun q hq=>?_,fun d=>?_⟩
     · rcases mN0.1 hq with rfl|hq
       ·grind
       ·exact h2 q hq
     · simp only[inK,mN0,exists_eq_or_imp];constructor
       ·grind
       ·grind
theorem upd_ok{n:ByteArray}{es:List (PV×PV)}{H:Hp}{k:Nat}{ws:NL}(hk:H[k]?=some (.map es))(ok:qm2 es):∃es',qgg .str (.map (some k)) (.str n) (.bool true) ⟨H,ws,[]⟩=some ⟨H.set k (.map es'),wadd k ws,[]⟩∧qm2 es'∧∀m,inK m es'↔m=n∨inK m es:=by obtain⟨es',he,ok',kk⟩:=put_ok (n:=n) ok;exact⟨es',by simp only[qgg,hk,qe3,if_true,he,Option.map,PV.top,qau],ok',kk⟩
include hT in
theorem check_b0{s:GSig}(hs:Fits s){h H:Hp}{k1:Nat}{es:List (PV×PV)}{ws:NL}{e:PL}{Q:AExit→PL→St→Prop}(low:Low h.length h H)(hb:H[h.length]?=some (.row 2 [qaf s]))(hk1:h.length<k1)(hm:H[k1]?=some (.map es))(ok:qm2 es)(kn:∀n,¬inK n es)(hw:∀k∈ws,h.length≤k)
 (e1:eget e 1=.pb h.length)(e3:eget e 3=.map (some k1))(e21:eget e 21=.slice 1 (s.sorts.map .str) .any)(e22:eget e 22=iv0 (s.sorts.length:Int))(e23:eget e 23=iv0 0)
 (q1:¬sigP s→∀H' ws' e',Low h.length h H'→(∀k∈ws',h.length≤k)→eget e' 2=iv0 40→Q .ret e' ⟨H',ws',[]⟩)
 (q2:(∀i (hi:i<s.sorts.length),qqs s.sorts[i]∧blk s.sorts[i]=0)→(∀i k (hi:i<s.sorts.length)(hk:k<i),s.sorts[k]'(by omega)≠s.sorts[i])→∀H' ws' e',Low h.length h H'→H'[h.length]?=some (.row 2 [qaf s])→(∀k∈ws',h.length≤k)→eget e' 1=.pb h.length→Q (.exit 0) e' ⟨H',ws',[]⟩):wpC T (.loop a87b0) e ⟨H,ws,[]⟩ Q:=by
 have hs1:=hs.nS
 refine wpC.loopM (fun n e st=> ∃(i:Nat)(H:Hp)(ws:NL)(es:List (PV×PV)),i+n=s.sorts.length∧Low h.length h H∧H[h.length]?=some (.row 2 [qaf s])∧H[k1]?=some (.map es)∧qm2 es∧(∀n,inK n es↔∃j,∃hj:j<s.sorts.length,j<i∧s.sorts[j]=n)∧(∀j (hj:j<s.sorts.length),j<i→qqs s.sorts[j]∧blk s.sorts[j]=0)∧(∀j k (hj:j<s.sorts.length)(hk:k<j),j<i→s.sorts[k]'(by omega)≠s.sorts[j])∧(∀k∈ws,h.length≤k)∧eget e 1=.pb h.length∧eget e 3=.map (some k1)∧eget e 21=.slice 1 (s.sorts.map .str) .any∧eget e 22=iv0 (s.sorts.length:Int)∧eget e 23=iv0 (i:Int)∧st=⟨H,ws,[]⟩) ?_ s.sorts.length _ _
  ⟨0,H,ws,es,by omega,low,hb,hm,ok,fun n=>⟨fun h=>absurd h (kn n),fun⟨j,_,h,_⟩=>by omega⟩,fun j _ h=>by omega,fun j k _ _ h=>by omega,hw,e1,e3,e21,e22,e23,rfl⟩
 rintro n e st ⟨i,H,ws,es,hi,low,hb,hm,ok,kes,kna,kdf,hw,e1,e3,e21,e22,e23,rfl⟩;by_cases h1:i<s.sorts.length
 · have ga:=get_str h1;obtain⟨b,hb1,kb⟩:=name_tot hT s.sorts[i] H;obtain⟨c,hc1,kc⟩:=qrm hT s.sorts[i] H;obtain⟨d,hd,kd⟩:=qqy (n:=s.sorts[i]) hm ok;obtain⟨es',he,ok',kk⟩:=upd_ok (n:=s.sorts[i]) (ws:=ws) hm ok;simp(disch:=first|omega|decide|simp only[go_sem]) only[go_sem,a87b0,e1,e3,e21,e22,e23,h1,ga,cb hb1,cb hc1,hd,he,hT.prim,qab];cases b
   · simp(disch:=omega) only[go_sem];exact q1 (fun hp=>by have:=kb.2 (hp.sorts i h1).1;cases this) _ _ _ low hw (by simp only[go_sem])
   · cases c
     · cases d
       · simp(disch:=omega) only[go_sem];have hd2:¬inK s.sorts[i] es:=fun h=>by have:=kd.2 h;cases this
         refine⟨n - 1,by omega,i+1,_,_,es',by omega,low.trans (.set (by omega)),qaa hb (by omega),qak hm,ok',fun m=>(kk m).trans ⟨?_,?_⟩,fun j hj hji=>?_,fun j k hj hk hji=>?_,qae (by omega) hw,rfl,rfl⟩
         ·grind
         ·grind
         ·grind
         ·grind
       · simp(disch:=omega) only[go_sem];exact q1 (fun hp=>by obtain⟨j,hj,h2,h3⟩:=(kes _).1 (kd.1 rfl);exact hp.diff i j h1 h2 h3) _ _ _ low hw (by simp only[go_sem])
     · simp(disch:=omega) only[go_sem];exact q1 (fun hp=>kc.1 rfl (hp.sorts i h1).2) _ _ _ low hw (by simp only[go_sem])
 · simp(disch:=omega) only[go_sem,a87b0,e22,e23,h1];exact q2 (fun j hj=>kna j hj (by omega)) (fun j k hj hk=>kdf j k hj hk (by omega)) _ _ _ low hb hw (by simp only[go_sem,e1])
theorem qp1:∀l:IL,tops (l.map encI)=none
 |[]=>rfl
 |x::l=>by simp[tops,encI,PV.top,omax];exact qp1 l
theorem top_op(o:GOp):(qao o).top=none:=by simp only[qao,PV.top,tops,omax,qp1]
def okOp1(o:GOp)(nS:Nat):Prop:=qh5 o.args nS∧(0≤o.res∧o.res< (nS:Int))∧o.args.length≤8
def okOps8(ops:List GOp)(nS:Nat):Prop:=∀o∈ops,okOp1 o nS
theorem okOps8.ops{ops:List GOp}{nS:Nat}(h:okOps8 ops nS):okOps ops nS:=fun o ho=>⟨(h o ho).1,(h o ho).2.1,by have:=(h o ho).2.2;omega⟩
include hT in
theorem check_b1(hC:T.sp 208=some (qcr qpq)){s:GSig}(hs:Fits s)(srt:(∀i (hi:i<s.sorts.length),qqs s.sorts[i]∧blk s.sorts[i]=0)∧∀i k (hi:i<s.sorts.length)(hk:k<i),s.sorts[k]'(by omega)≠s.sorts[i])(h64:s.sorts.length≤64)(h256:s.ops.length≤256){h H:Hp}{k2:Nat}{ws:NL}{e:PL}{Q:AExit→PL→St→Prop}(low:Low h.length h H)(hb:H[h.length]?=some (.row 2 [qaf s]))(hk2:h.length<k2)(hm:H[k2]?=some (.map []))(hw:∀k∈ws,h.length≤k)
 (e1:eget e 1=.pb h.length)(e6:eget e 6=.map (some k2))(e44:eget e 44=.slice 3 (s.ops.map qao) .any)(e45:eget e 45=iv0 (s.ops.length:Int))(e46:eget e 46=iv0 0)
 (q1:¬sigP s→∀H' ws' e',Low h.length h H'→(∀k∈ws',h.length≤k)→eget e' 2=iv0 40→Q .ret e' ⟨H',ws',[]⟩)
 (q2:sigP s→∀H' ws' e',Low h.length h H'→(∀k∈ws',h.length≤k)→Q (.exit 2) e' ⟨H',ws',[]⟩):wpC T (.loop a87b1) e ⟨H,ws,[]⟩ Q:=by
 refine wpC.loopM (fun n e st=> ∃(i:Nat)(H:Hp)(ws:NL)(es:List (PV×PV)),i+n=s.ops.length∧Low h.length h H∧H[h.length]?=some (.row 2 [qaf s])∧H[k2]?=some (.map es)∧qm2 es∧(∀n,inK n es↔∃j,∃hj:j<s.ops.length,j<i∧(⟨(keyL s.ops[j]).toArray⟩:ByteArray)=n)∧(∀k∈ws,h.length≤k)∧(∀j (hj:j<s.ops.length),j<i→opP s.sorts.length s.ops[j])∧(∀j k (hj:j<s.ops.length)(hk:k<j),j<i→s.ops[k]'(by omega)≠s.ops[j])∧eget e 1=.pb h.length∧eget e 6=.map (some k2)∧eget e 44=.slice 3 (s.ops.map qao) .any∧eget e 45=iv0 (s.ops.length:Int)∧eget e 46=iv0 (i:Int)∧st=⟨H,ws,[]⟩) ?_ s.ops.length _ _
  ⟨0,H,ws,[],by omega,low,hb,hm,fun p hp=>(by simp at hp),fun n=>⟨fun⟨p,hp,_⟩=>by simp at hp,fun⟨j,_,h,_⟩=>by omega⟩,hw,fun j _ hj=>by omega,fun j k _ _ h=>by omega,e1,e6,e44,e45,e46,rfl⟩
 rintro n e st ⟨i,H,ws,es,hi,low,hb,hm,ok,kes,hw,hp,kdf,e1,e6,e44,e45,e46,rfl⟩;by_cases h1:i<s.ops.length
 · have go:=ql9 h1;obtain⟨ho1,ho2⟩:=hs.ops _ (gX0 h1);have sb:=qa5 (h:=H) (ws:=ws) (ups:=[]) (z:=.agg [(.str ⟨#[]⟩),.sn,(iv0 0)]) (sz:=3) (c:=qao s.ops[i]) rfl rfl rfl (top_op _) ⟨_,rfl⟩ ⟨_,rfl⟩;have hlen:h.length<H.length:=(gI0.1 hb).1;have keep:∀{k:Nat}{ob o2:AE.Obj},H[k]?=some ob→(H++[o2])[k]?=some ob:=fun hx=>by rw[gL0 (gI0.1 hx).1];exact hx
   have fb:=gC0 (l:=H) (a:=row 3 [qao s.ops[i]]);have hb':(H++[row 3 [qao s.ops[i]]])[h.length]?=some (.row 2 [qaf s]):=keep hb;have hm':(H++[row 3 [qao s.ops[i]]])[k2]?=some (.map es):=keep hm;have low':=low.push (o:=row 3 [qao s.ops[i]]) (by omega);have hk2l:k2<H.length:=(gI0.1 hm).1;generalize hH1:H++[row 3 [qao s.ops[i]]]=H1 at*;generalize hkb:H.length=kb at*;have l8:loadAt true 3 (.pb kb) H1=some (qao s.ops[i]):=by rw[qad fb];rfl
   have l1:loadAt false 1 (.pb h.length) H1=some (.slice 1 (s.sorts.map .str) .any):=by rw[qad hb'];rfl
   obtain⟨b,hg,kg⟩:=good_tot hT hs (o:=s.ops[i]) ho2 H1;have ht:=key_ev hT hC (o:=s.ops[i]) ⟨ho1,ho2⟩ H1;have hw':∀k∈wadd kb ws,h.length≤k:=qae (by omega) hw;obtain⟨d,hd,kd⟩:=qqy (n:=⟨(keyL s.ops[i]).toArray⟩) hm' ok;obtain⟨es',he,ok',kk⟩:=upd_ok (n:=⟨(keyL s.ops[i]).toArray⟩) (ws:=wadd kb ws) hm' ok;simp(disch:=first|omega|decide|simp only[go_sem]) only[go_sem,a87b1,e1,e6,e44,e45,e46,h1,go,sb,hkb,l8,l1,cb hg,cb ht,hd,he,hT.q];refine⟨rfl,bifs (fun hb2=>q1 (fun hp=>?_) _ _ _ low' hw' (by simp only[go_sem])) fun hb2=>bifs (fun hb3=>q1 (fun hp=>?_) _ _ _ low' hw' (by simp only[go_sem])) fun hb3=>?_⟩
   · have:=kg.2 (hp.ops i h1);rw[this]at hb2;cases hb2
   · obtain⟨j,hj,h2,h3⟩:=(kes _).1 (kd.1 hb3);exact hp.diffO i j h1 h2 (key_inj (by omega) (hp.ops j hj) (hp.ops i h1) (by simpa using h3))
   · have hop:opP s.sorts.length s.ops[i]:=kg.1 (by simpa using hb2);refine⟨n - 1,by omega,i+1,_,_,es',by omega,low'.trans (.set (by omega)),qaa hb' (by omega),qak hm',ok',fun m=>(kk m).trans ⟨?_,?_⟩,qae (by omega) hw',fun j hj hji=>?_,fun j k hj hk hji=>?_,rfl,rfl⟩
     ·grind
     ·grind
     ·grind
     ·grind
 · simp(disch:=omega) only[go_sem,a87b1,e45,e46,h1];exact q2 ⟨h64,h256,srt.1,srt.2,fun j hj=>hp j hj (by omega),fun j k hj hk=>kdf j k hj hk (by omega)⟩ _ _ _ low hw
include hT in
theorem qrq(h87:T.sp 87=none)(hC:T.sp 208=some (qcr qpq)){s:GSig}(hs:Fits s)(h:Hp):∃r:Int,Ev T 87 [qaf s] h (ba (iv0 r) h)∧((r=0∧sigP s)∨(r=40∧¬sigP s)):=by
 have hs1:=hs.nS;have hs2:=hs.nO;refine Ev.walkP h87 ((hT.fn _).trans fn87) (hT.mode _) rfl ?_;have low:Low h.length h (h++[.row 2 [qaf s]]++[.map []]):=((Low.refl _ _).push (nR0 _)).push (by simp);generalize hH:h++[row 2 [qaf s]]++[AE.Obj.map []]=H at low;have hb:H[h.length]?=some (.row 2 [qaf s]):=by rw[←hH];simp
 generalize hk1:(h++[row 2 [qaf s]]).length=k1;have hm:H[k1]?=some (.map []):=by rw[←hH,←hk1];simp
 have hk1h:h.length<k1:=by rw[←hk1];simp
 have l0:loadAt false 1 (.pb h.length) H=some (.slice 1 (s.sorts.map .str) .any):=by rw[qad hb];rfl
 simp(disch:=first|omega|decide|simp only[go_sem]) only[go_sem,hH,hk1,l0];refine bifs (fun h1=>⟨40,rfl,.inr ⟨rfl,fun hp=>by have:=hp.nS;simp only[dE0]at h1;omega⟩⟩) fun h64=>bifs (fun h1=>⟨40,rfl,.inr ⟨rfl,fun hp=>by have:=hp.nO;simp only[dE0]at h1;omega⟩⟩) fun h256=>?_;simp only[decide_eq_false_iff_not]at h64 h256;refine check_b0 hT hs low hb hk1h hm (fun p hp=>by simp at hp) (fun n ⟨p,hp,_⟩=>by simp at hp) (by simp) (by simp only[go_sem]) (by simp only[go_sem]) (by simp only[go_sem]) (by simp only[go_sem]) (by simp only[go_sem]) (fun hn H' ws' e' low' hw' e2=>?_) (fun sr1 sr2 H' ws' e' low' hb' hw' e1=>?_)
 · simp(disch:=first|omega|decide|simp only[go_sem]) only[go_sem,e2];exact⟨40,qan rfl rfl low' hw',.inr ⟨rfl,hn⟩⟩
 · have hlen:h.length<H'.length:=(gI0.1 hb').1;have hb2:(H'++[AE.Obj.map []])[h.length]?=some (.row 2 [qaf s]):=by rw[gL0 hlen];exact hb'
   have hm2:=gC0 (l:=H') (a:=AE.Obj.map []);have l1:loadAt false 1 (.ptr h.length 0 1 1) (H'++[AE.Obj.map []])=some (.slice 3 (s.ops.map qao) .any):=by rw[qad hb2];rfl
   have low2:Low h.length h (H'++[AE.Obj.map []]):=low'.push (by omega);simp(disch:=first|omega|decide|simp only[go_sem]) only[go_sem,e1,l1];refine check_b1 hT hC hs ⟨sr1,sr2⟩ (by omega) (by omega) low2 hb2 (k2:=H'.length) (by omega) hm2 hw' (by simp only[go_sem,e1]) (by simp only[go_sem]) (by simp only[go_sem]) (by simp only[go_sem]) (by simp only[go_sem]) (fun hn H3 ws3 e3 low3 hw3 e32=>?_) (fun ok H3 ws3 e3 low3 hw3=>?_)
   · simp(disch:=first|omega|decide|simp only[go_sem]) only[go_sem,e32];exact⟨40,qan rfl rfl low3 hw3,.inr ⟨rfl,hn⟩⟩
   · simp(disch:=first|omega|decide|simp only[go_sem]) only[go_sem];exact⟨0,qan rfl rfl low3 hw3,.inl ⟨rfl,ok⟩⟩
end Go.Proofs.Tryz
namespace Go.Proofs.Tryz
open Go Go.AE
def a22:AFunc:=⟨2,24,(sr0 [rp 2 (.box 3 (.t 0)),rp 3 (.box 3 (.t 1)),ro 4 (.move cF)] (sr0 [ro 5 (fa 0 2),rp 6 (l1 5),ro 7 (fa 0 3),rp 8 (l1 7),ro 9 (bi .eql 6 8),mv 10 9,rg 11 (fa 1 2) 10 true,rh 12 (l1 11) 10 true,rg 13 (fa 1 3) 10 true,rh 14 (l1 13) 10 true,rg 15 (bi .eql 12 14) 10 true,ro 16 (.pick (.t 10) (.t 15) cF),mv 17 16,rg 18 (fa 2 2) 17 true,rh 19 (l1 18) 17 true,rg 20 (fa 2 3) 17 true,rh 21 (l1 20) 17 true,rh 22 (.call (.f 32) [(.t 19),(.t 21),(.f 22)]) 17 true,ro 23 (.pick (.t 17) (.t 22) cF),mv 4 23] .ret)),[.t 4]⟩
theorem fn22:fnOf 22=some a22:=by kernel_rfl
def a32b0:ACode:=(sr0 [lo 18 17 16] (.seq (cn0 18 .skip (.exit 0)) (.seq (.block 1 (sr0 [mv 19 17,ro 20 (ix 3 15 17),rp 21 (l3 20),rp 8 (.box 3 (.c zq3)),mv 7 19,ws 3 8 21] (sr0 [mv 22 1,mv 23 7,ro 24 (ix 3 22 23),rp 25 (l3 24),rp 9 (.box 3 (.c zq3)),ws 3 9 25] (sr0 [mv 26 2,rp 27 (l3 8),rp 28 (l3 9),rp 29 (.call (.t 26) [(.t 27),(.t 28)]),ro 30 (no 29)] (cn0 30 (sr0 [ro 6 (.move cF)] .ret) .skip))))) (.reg [nx 31 17,mv 17 31]))))
def a32:AFunc:=⟨3,32,(sr0 [ro 6 (.move cF)] (.seq (sr0 [mv 10 0,ro 11 (ll 10),mv 12 1,ro 13 (ll 12),ro 14 (bi .neq 11 13)] (cn0 14 (sr0 [ro 6 (.move cF)] .ret) .skip)) (.seq (sr0 [mv 15 0,ro 16 (ll 15),c0 17] (bl0 0 a32b0)) (sr0 [ro 6 (.move cT)] .ret)))),[.t 6]⟩
theorem fn32:fnOf 32=some a32:=by kernel_rfl
def a88:AFunc:=⟨2,14,(sr0 [rp 2 (.box 2 (.t 0)),ro 4 (.move cF)] (sr0 [mv 5 1,ro 6 (bc .geq 5 0),mv 7 6,rg 8 (mo 1) 7 true,rg 9 (fa 0 2) 7 true,rh 10 (l1 9) 7 true,rg 11 (ll 10) 7 true,rg 12 (bi .lss 8 11) 7 true,ro 13 (.pick (.t 7) (.t 12) cF),mv 4 13] .ret)),[.t 4]⟩
theorem fn88:fnOf 88=some a88:=by kernel_rfl
end Go.Proofs.Tryz
namespace Go.Proofs.Tryz
open Go Go.AE
open Go.AE.Obj (row)
variable {T:Tbl}(hT:Std T)
include hT in
theorem isSort_ev{s:GSig}(n:Int)(h:Hp):Ev T 88 [qaf s,.int .i64 n] h (ba (.bool (qa8 n s.sorts.length)) h):=by
 refine hT.wk fn88 (by decide) ?_;have hk:=gC0 (l:=h) (a:=row 2 [qaf s]);have fl:loadAt false 1 (.pb h.length) (h++[row 2 [qaf s]])=some (.slice 1 (s.sorts.map .str) .any):=by rw[qad hk];rfl
 have td:∀b,tidy 0 h.length (.val (.bool b)) ⟨h++[row 2 [qaf s]],[],[]⟩=(ba (.bool b) h):=fun b=>qan rfl rfl ((Low.refl _ _).push (nR0 _)) (by simp);by_cases h0:0≤n
 ·simp(disch:=omega) only[go_sem,fl,h0,qa8,Bool.true_and,td]
 ·simp(disch:=omega) only[go_sem,h0,qa8,Bool.false_and,td]
inductive IsT:PV→Prop where
 |mk (k n:Int)(sz:Nat)(es:PL)(hs:es=[]∨sz=3)(hl:es.length<1000)(he:∀x,x∈es→IsT x):IsT (.agg [.int .i64 k,.int .i64 n,.slice sz es .any])
theorem IsT.top{p:PV}(h:IsT p):p.top=none:=by
 induction h with
 |mk k n sz es hs hl he ih=>
   have:∀l:PL,(∀x∈l,x.top=none)→tops l=none:=fun l=>by
    induction l with
    |nil=>intro _;rfl
    |cons x l ihl=>intro hx;simp[tops,hx x (by simp),ihl fun y hy=>hx y (by simp[hy]),omax]
   simp[PV.top,tops,omax,this es ih]
theorem IsT.cells{p:PV}(h:IsT p):p.cells.length=3∧p.cells.all PV.isCell=true∧p.isDef=true∧∃cs,p=.agg cs:=by cases h;exact⟨rfl,rfl,rfl,_,rfl⟩
theorem IsT.sub{p:PV}(h:IsT p):sub true 3 p 0=some p:=by cases h;rfl
end Go.Proofs.Tryz
namespace Go.Proofs.Tryz
open Go Go.AE
inductive Enc:Tm→PV→Prop where
 |mk (k n:Int)(l:Ts)(sz:Nat)(es:PL)(hs:es=[]∨sz=3)(hl:es.length=l.length)(he:∀(i:Nat)(x:Tm)(p:PV),l[i]?=some x→es[i]?=some p→Enc x p):Enc (.mk k n l) (.agg [.int .i64 k,.int .i64 n,.slice sz es .any])
theorem qcd:∀l:Ts,l.length≤qba l
 |[]=>nR0 _
 |t::l=>by have:=qcd l;have:=ql0 t;simp only[List.length_cons,qba];omega
def cntOf(s:GSig)(a m:Nat):Int:=((tabOf s).1.getD a []).getD m 0
def Nth91(s:GSig)(a m:Nat)(n:Int)(p:PV):Prop:=∃x,Enc x p∧WT s x (a:Int)∧x.nodes=m∧x.num s=n
def szF(szs:IL)(k:Nat):Nat:=(szs.getD k 0).toNat
def upF(sv:Nat→Nat→Int)(sz:Nat→Nat)(nm:Nat→Int)(L:Nat):Nat→Int
 |0=>0
 |k+1=>upF sv sz nm L k+nm k*beF sv sz L (L - 1 - k)
theorem up_congr{sv:Nat→Nat→Int}{sz:Nat→Nat}{nm nm':Nat→Int}{L:Nat}:∀k,(∀j,j<k→nm j=nm' j)→upF sv sz nm L k=upF sv sz nm' L k
 |0,_=>rfl
 |k+1,h=>by simp only[upF];rw[up_congr k fun j hj=>h j (by omega),h k (by omega)]
theorem ql1{l:Ts}{i:Nat}{t:Tm}(h:l[i]?=some t):qba (l.take (i+1))=qba (l.take i)+t.nodes:=by
 induction l generalizing i with
 |nil=>simp at h
 |cons x l ih=>
   cases i with
   |zero=>
     simp only[List.getElem?_cons_zero,Option.some.injEq]at h;subst h;simp[qba]
   |succ i=>
     have:=ih (by simpa using h);simp only[List.take_succ_cons,qba];omega
end Go.Proofs.Tryz
namespace Go.Proofs.Tryz
open Go Go.AE
mutual
def encT:Tm→PV
 |.mk k n l=>.agg [.int .i64 k,.int .i64 n,.slice 3 (qm6 l) .any]
def qm6:Ts→PL
 |[]=>[]
 |t::l=>encT t::qm6 l
end
theorem qmi:∀l:Ts,qm6 l=l.map encT
 |[]=>rfl
 |t::l=>by rw[qm6,qmi l];rfl
mutual
theorem qa6:∀t:Tm,Enc t (encT t)
 |.mk k n l=>by rw[encT];obtain⟨h1,h2⟩:=qre l;exact .mk k n l 3 (qm6 l) (.inr rfl) h1 h2
theorem qre:∀l:Ts,(qm6 l).length=l.length∧∀(i:Nat)(x:Tm)(p:PV),l[i]?=some x→(qm6 l)[i]?=some p→Enc x p
 |[]=>⟨rfl,fun i x p h=>by simp at h⟩
 |t::l=>by
   obtain⟨h1,h2⟩:=qre l;have h0:=qa6 t;rw[qm6];refine⟨by simp[h1],fun i x p hx hp=>?_⟩;cases i with
   |zero=>simp at hx hp;subst hx hp;exact h0
   |succ i=>exact h2 i x p (by simpa using hx) (by simpa using hp)
end
theorem qim:Tryz.prog.cellsOf 28=3:=by kernel_rfl
theorem cells26:Tryz.prog.cellsOf 26=1:=by kernel_rfl
section
variable {H:Type}{enc:TypeId×Value→H}{w:World}{base:Nat}{spare:Nat→Bool}{held:Bool}{ρ:Nat→Row}
theorem qe9(t:Tm):(encT t).cells.length=3:=by cases t;rw[encT];rfl
theorem qjx:∀n:Nat,Rd enc Tryz.prog w base spare held ρ n 28 (fun _:Tm=>True) encT
 |0=>fun fuel cs d ps hle h=>by
   have:fuel=0:=by omega
   subst this;simp[DataW.trod]at h
 |n+1=>fun fuel cs d ps hle h=>by
   cases fuel with
   |zero=>simp[DataW.trod]at h
   |succ fuel=>
     have Pt:=qd7 (ρ:=ρ) Tryz.underlying28 (by simp[qe4,cells3]) (by simp[qdu,cells3,cells26,qim]) h;cases Pt with
     |cons f fs c1 c' d1 p1 h1 l1 r1=>
       cases r1 with
       |cons f fs c2 c' d2 p2 h2 l2 r2=>
         cases r2 with
         |cons f fs c3 c' d3 p3 h3 l3 r3=>
           cases r3;obtain⟨x1,_,k1⟩:=rd_int (n:=fuel) (ρ:=ρ) Tryz.underlying3 fuel _ _ _ (nR0 _) h1;obtain⟨x2,_,k2⟩:=rd_int (n:=fuel) (ρ:=ρ) Tryz.underlying3 fuel _ _ _ (nR0 _) h2;obtain⟨x3,_,k3⟩:=qfn (n:=n) (ρ:=ρ) (en:=encT) Tryz.underlying26 qim (by decide) (fun t _=>qe9 t) (qjx n) fuel _ _ _ (by omega) h3;refine⟨.mk x1 x2 x3,trivial,?_⟩;rw[List.append_nil,encT,qmi];exact k1.append (k2.append k3)
end
end Go.Proofs.Tryz
namespace Go.Proofs.Tryz
open Go Go.AE
open Go.AE.Obj (row)
variable {T:Tbl}(hT:Std T)
@[go_sem] theorem tget0{a:PV}{l:PL}:(a::l)[0]?=some a:=rfl
@[go_sem] theorem tget1{a b:PV}{l:PL}:(a::b::l)[1]?=some b:=rfl
@[go_sem] theorem tget2{a b c:PV}{l:PL}:(a::b::c::l)[2]?=some c:=rfl
@[go_sem] theorem tget3{a b c d:PV}{l:PL}:(a::b::c::d::l)[3]?=some d:=rfl
@[go_sem] theorem cdef_agg{cs:PL}:(PV.agg cs).isDef=true:=rfl
theorem qbt{es:PL}{i:Nat}(h:i<es.length):es[i]?=some es[i]:=gE0 h
theorem qah{H:Hp}{k:Nat}{ob o2:AE.Obj}(hx:H[k]?=some ob):(H++[o2])[k]?=some ob:=by grind
def qqp(o:GOp):Bool:=decide (20<o.args.length)||decide (200<o.name.size)
def qnm(t:ByteArray):Bool:=decide (200<t.size)
def qkl(s:GSig):Bool:=decide (s.ops.length≤40)&&decide (s.sorts.length≤20)&&!s.ops.any qqp&&!s.sorts.any qnm
theorem qlu{s:GSig}(h:qkl s=true):Fits s:=by
 simp only[qkl,bA0,dE0,Bool.not_eq_true',List.any_eq_false]at h;obtain⟨⟨⟨h1,h2⟩,h3⟩,h4⟩:=h;refine⟨by omega,by omega,fun t ht=>?_,fun o ho=>?_⟩
 · have:=h4 t ht;simp only[qnm,dE0]at this;omega
 · have:=h3 o ho;simp only[qqp,Bool.or_eq_true,dE0,not_or]at this;omega
include hT in
theorem small1_ev(o:GOp)(h:Hp):Ev T 81 [qao o] h (ba (.bool (qqp o)) h):=by
 refine hT.wk fn81 (by decide) ?_;have hk:=gC0 (l:=h) (a:=row 3 [qao o]);have l1:loadAt false 1 (.ptr h.length 0 1 1) (h++[row 3 [qao o]])=some (.slice 1 (o.args.map encI) .any):=by rw[qad hk];rfl
 have l0:loadAt false 1 (.pb h.length) (h++[row 3 [qao o]])=some (.str o.name):=by rw[qad hk];rfl
 have td:∀b,tidy 0 h.length (.val (.bool b)) ⟨h++[row 3 [qao o]],[],[]⟩=(ba (.bool b) h):=fun b=>qan rfl rfl ((Low.refl _ _).push (nR0 _)) (by simp);by_cases h0:20<o.args.length
 · have h0':(20:Int)< (o.args.length:Int):=by omega
   simp(disch:=omega) only[go_sem,l1,h0,h0',qqp,Bool.true_or,td]
 · have h0':¬(20:Int)< (o.args.length:Int):=by omega
   by_cases h1:200<o.name.size
   · have h1':(200:Int)< (o.name.size:Int):=by omega
     simp(disch:=omega) only[go_sem,l0,l1,h0,h0',h1,h1',qqp,Bool.false_or,td]
   · have h1':¬(200:Int)< (o.name.size:Int):=by omega
     simp(disch:=omega) only[go_sem,l0,l1,h0,h0',h1,h1',qqp,Bool.false_or,td]
include hT in
theorem small2_ev(t:ByteArray)(h:Hp):Ev T 83 [.str t] h (ba (.bool (qnm t)) h):=by
 refine hT.wk fn83 (by decide) ?_;by_cases h1:200<t.size
 · have h1':(200:Int)< (t.size:Int):=by omega
   simp(disch:=omega) only[go_sem,h1,h1',qnm]
 · have h1':¬(200:Int)< (t.size:Int):=by omega
   simp(disch:=omega) only[go_sem,h1,h1',qnm]
theorem any_of{α:Type}{p:α→Bool}{l:List α}{i:Nat}(hi:i<l.length)(h:p l[i]=true):l.any p=true:=List.any_eq_true.2 ⟨_,gX0 hi,h⟩
theorem qpp{α:Type}{p:α→Bool}{l:List α}(h:∀j (hj:j<l.length),p l[j]=false):l.any p=false:=by rw[List.any_eq_false];intro a ha;obtain⟨j,hj,rfl⟩:=List.getElem_of_mem ha;simp[h j hj]
include hT in
theorem qq5{g:FuncId}{cap:PL}{p:GOp→Bool}{h:Hp}(hg:T.prim g=none){ops:List GOp}{m:SM}(hf:∀a,Ev T g (qao a::cap) h (ba (.bool (p a)) h))(hal:ops.length<1000000):
 ∃r:Int,Ev T 139 [.slice 3 (ops.map qao) m,.func (.func g) [] cap] h (ba (iv0 r) h)∧(decide (0≤r)=ops.any p):=by
 refine hT.wp fn139 (by decide) ?_;simp(disch:=omega) only[go_sem];refine wpC.loopM (fun n e s=> ∃i:Nat,i+n=ops.length∧eget e 0=.slice 3 (ops.map qao) m∧eget e 1=.func (.func g) [] cap∧eget e 7=iv0 (ops.length:Int)∧eget e 8=iv0 (i:Int)∧(∀j (hj:j<ops.length),j<i→p ops[j]=false)∧s=⟨h,[],[]⟩) ?_ ops.length _ _ ⟨0,by simp,by simp only[go_sem],by simp only[go_sem],by simp only[go_sem],by simp only[go_sem];rfl,fun j _ hj=>by omega,rfl⟩;rintro n e s ⟨i,hi,e0,e1,e7,e8,hp,rfl⟩;by_cases h1:i<ops.length
 · have ga:=ql9 h1;have sb:sub true 3 (qao ops[i]) 0=some (qao ops[i]):=rfl;simp(disch:=omega) only[go_sem,a139b0,e0,e1,e7,e8,h1,ga,sb,hg,cb (hf ops[i])];refine bifs (fun hpi=>⟨(i:Int),rfl,by rw[any_of h1 hpi];simp⟩) (fun hpi=>⟨n - 1,by omega,i+1,by omega,rfl,fun j hj hji=>?_,trivial⟩);by_cases hjj:j=i
   ·grind
   ·grind
 · simp(disch:=omega) only[go_sem,a139b0,e7,e8,h1];exact⟨_,rfl,by rw[qpp fun j hj=>hp j hj (by omega)];rfl⟩
include hT in
theorem qpj{g:FuncId}{cap:PL}{p:GOp→Bool}{h:Hp}(hg:T.prim g=none){ops:List GOp}{m:SM}(hf:∀a,Ev T g (qao a::cap) h (ba (.bool (p a)) h))(hal:ops.length<1000000):
 Ev T 80 [.slice 3 (ops.map qao) m,.func (.func g) [] cap] h (ba (.bool (ops.any p)) h):=by
 obtain⟨r,hr,kr⟩:=qq5 hT (m:=m) hg hf hal;rw[←kr];refine hT.wk fn80 (by decide) ?_;simp(disch:=omega) only[go_sem,cb hr,hT.prim,qab]
include hT in
theorem qq4{g:FuncId}{cap:PL}{p:ByteArray→Bool}{h:Hp}(hg:T.prim g=none){ss:List ByteArray}{m:SM}(hf:∀a,Ev T g (.str a::cap) h (ba (.bool (p a)) h))(hal:ss.length<1000000):
 ∃r:Int,Ev T 160 [.slice 1 (ss.map .str) m,.func (.func g) [] cap] h (ba (iv0 r) h)∧(decide (0≤r)=ss.any p):=by
 refine hT.wp fn160 (by decide) ?_;simp(disch:=omega) only[go_sem];refine wpC.loopM (fun n e s=> ∃i:Nat,i+n=ss.length∧eget e 0=.slice 1 (ss.map .str) m∧eget e 1=.func (.func g) [] cap∧eget e 7=iv0 (ss.length:Int)∧eget e 8=iv0 (i:Int)∧(∀j (hj:j<ss.length),j<i→p ss[j]=false)∧s=⟨h,[],[]⟩) ?_ ss.length _ _ ⟨0,by simp,by simp only[go_sem],by simp only[go_sem],by simp only[go_sem],by simp only[go_sem];rfl,fun j _ hj=>by omega,rfl⟩;rintro n e s ⟨i,hi,e0,e1,e7,e8,hp,rfl⟩;by_cases h1:i<ss.length
 · have ga:=get_str h1;simp(disch:=omega) only[go_sem,a160b0,e0,e1,e7,e8,h1,ga,hg,cb (hf ss[i])];refine bifs (fun hpi=>⟨(i:Int),rfl,by rw[any_of h1 hpi];simp⟩) (fun hpi=>⟨n - 1,by omega,i+1,by omega,rfl,fun j hj hji=>?_,trivial⟩);by_cases hjj:j=i
   ·grind
   ·grind
 · simp(disch:=omega) only[go_sem,a160b0,e7,e8,h1];exact⟨_,rfl,by rw[qpp fun j hj=>hp j hj (by omega)];rfl⟩
include hT in
theorem qpi{g:FuncId}{cap:PL}{p:ByteArray→Bool}{h:Hp}(hg:T.prim g=none){ss:List ByteArray}{m:SM}(hf:∀a,Ev T g (.str a::cap) h (ba (.bool (p a)) h))(hal:ss.length<1000000):
 Ev T 82 [.slice 1 (ss.map .str) m,.func (.func g) [] cap] h (ba (.bool (ss.any p)) h):=by
 obtain⟨r,hr,kr⟩:=qq4 hT (m:=m) hg hf hal;rw[←kr];refine hT.wk fn82 (by decide) ?_;simp(disch:=omega) only[go_sem,cb hr,hT.prim,qab]
include hT in
theorem small_ev(s:GSig)(h:Hp):Ev T 16 [qaf s] h (ba (.bool (qkl s)) h):=by
 refine hT.wk fn16 (by decide) ?_;have hk:=gC0 (l:=h) (a:=row 2 [qaf s]);have l0:loadAt false 1 (.pb h.length) (h++[row 2 [qaf s]])=some (.slice 1 (s.sorts.map .str) .any):=by rw[qad hk];rfl
 have l1:loadAt false 1 (.ptr h.length 0 1 1) (h++[row 2 [qaf s]])=some (.slice 3 (s.ops.map qao) .any):=by rw[qad hk];rfl
 have td:∀b,tidy 0 h.length (.val (.bool b)) ⟨h++[row 2 [qaf s]],[],[]⟩=(ba (.bool b) h):=fun b=>qan rfl rfl ((Low.refl _ _).push (nR0 _)) (by simp);by_cases h0:s.ops.length≤40
 · have h0':(s.ops.length:Int)≤40:=by omega
   by_cases h1:s.sorts.length≤20
   · have h1':(s.sorts.length:Int)≤20:=by omega
     have c1:=qpj hT (m:=.any) (g:=81) (cap:=[]) (p:=qqp) (ops:=s.ops) (by rw[hT.prim];rfl) (fun a=>small1_ev hT a (h++[row 2 [qaf s]])) (by omega);have c2:=qpi hT (m:=.any) (g:=83) (cap:=[]) (p:=qnm) (ss:=s.sorts) (by rw[hT.prim];rfl) (fun a=>small2_ev hT a (h++[row 2 [qaf s]])) (by omega);simp(disch:=first|omega|decide|simp only[go_sem]) only[go_sem,l0,l1,h0,h0',h1,h1',qkl,Bool.true_and,cb c1,cb c2,hT.prim,qab,td];cases s.ops.any qqp<;>rfl
   · have h1':¬(s.sorts.length:Int)≤20:=by omega
     simp(disch:=omega) only[go_sem,l0,l1,h0,h0',h1,h1',qkl,Bool.true_and,Bool.false_and,td]
 · have h0':¬(s.ops.length:Int)≤40:=by omega
   simp(disch:=omega) only[go_sem,l1,h0,h0',qkl,Bool.false_and,td]
def nsv(o:GOp)(so:List (IL))(k m:Nat):Int:=(so.getD (o.args.getD k 0).toNat []).getD m 0
@[go_sem] theorem sub_slice0{sz n:Nat}{es:PL}{m:SM}:sub false sz (.slice n es m) 0=some (.slice n es m):=rfl
variable {s:GSig}{TAB:PV}{i:Nat}{o:GOp}{so ri:List (IL)}{rest:PL}
end Go.Proofs.Tryz
namespace Go.Proofs.Tryz
open Go Go.AE
open Go.AE.Obj (row)
variable {T:Tbl}(hT:Std T)
variable {s:GSig}{TAB:PV}{i:Nat}{o:GOp}{so ri:List (IL)}{rest:PL}
end Go.Proofs.Tryz
namespace Go.Proofs.Tryz
open Go Go.AE
open Go.AE.Obj (row)
variable {T:Tbl}(hT:Std T)
variable {s:GSig}{TAB:PV}{i:Nat}{o:GOp}{so ri:List (IL)}{rest:PL}
end Go.Proofs.Tryz
namespace Go.Proofs.Tryz
open Go Go.AE
open Go.AE.Obj (row)
variable {T:Tbl}(hT:Std T)
variable {s:GSig}{TAB:PV}{i:Nat}{o:GOp}{so ri:List (IL)}{rest:PL}
def AppL(H:Hp)(v:PV)(es:PL)(lo:Nat):Prop:=(es=[]∧v=.sn)∨∃kt,v=.slice 3 es (.tok kt)∧H[kt]?=some (.tok 3 es.length)∧lo≤kt
theorem AppL.set{H:Hp}{v:PV}{es:PL}{lo k:Nat}{sz:Nat}{r r':PL}(A:AppL H v es lo)(hk:H[k]?=some (.row sz r)):AppL (H.set k (.row sz r')) v es lo:=by
 rcases A with h|⟨kt,h1,h2,h3⟩
 ·exact .inl h
 · refine .inr ⟨kt,h1,qaa h2 ?_,h3⟩;rintro rfl;rw[hk]at h2;cases h2
structure NthX (s:GSig)(o:GOp)(so:List (IL))(szs:IL)(n0 n:Int)(es:PL)(xs:Ts):Prop where
 len:es.length=xs.length
 enc:∀(j:Nat)(x:Tm)(p:PV),xs[j]?=some x→es[j]?=some p→Enc x p
 wt:∀(j:Nat)(x:Tm),xs[j]?=some x→WT s x (o.args.getD j 0)∧x.nodes=szF szs j
 num:n0=upF (nsv o so) (szF szs) (fun j=>(numL s xs).getD j 0) o.args.length xs.length+n
theorem NthX.snoc{s:GSig}{o:GOp}{so:List (IL)}{szs:IL}{n0 n n' q b:Int}{es:PL}{xs:Ts}{x:Tm}{p:PV}(X:NthX s o so szs n0 n es xs)(hx:Enc x p)(hw:WT s x (o.args.getD xs.length 0))(hz:x.nodes=szF szs xs.length)(hq:x.num s=q)(hb:b=beF (nsv o so) (szF szs) o.args.length (o.args.length - 1 - xs.length))(hn:n=q*b+n'):NthX s o so szs n0 n' (es++[p]) (xs++[x]):=by
 have hl:=X.len;refine⟨by simp[hl],fun j y r h1 h2=>?_,fun j y h1=>?_,?_⟩
 · rcases Nat.lt_trichotomy j xs.length with h|h|h
   · rw[gL0 h]at h1;rw[gL0 (by omega)]at h2;exact X.enc j y r h1 h2
   ·grind
   ·grind
 · rcases Nat.lt_trichotomy j xs.length with h|h|h
   · rw[gL0 h]at h1;exact X.wt j y h1
   ·grind
   ·grind
 · have e:∀j,j<xs.length→(numL s xs).getD j 0=(numL s (xs++[x])).getD j 0:=fun j hj=>by rw[qk6 (qk8 hj),qk6 (show(xs++[x])[j]?=some xs[j] by rw[gL0 hj];exact qk8 hj)]
   have e2:(numL s (xs++[x])).getD xs.length 0=q:=by rw[qk6 (show(xs++[x])[xs.length]?=some x by simp),hq]
   have h0:=X.num;rw[up_congr (nm':=fun j=>(numL s (xs++[x])).getD j 0) xs.length e]at h0;rw[lA0,List.length_singleton];simp only[upF,e2];rw[←hb];omega
end Go.Proofs.Tryz
namespace Go.Proofs.Tryz
open Go Go.AE
open Go.AE.Obj (row)
variable {T:Tbl}(hT:Std T)
variable {s:GSig}{TAB:PV}{i:Nat}{o:GOp}{so ri:List (IL)}{rest:PL}
@[go_sem] theorem idx_slice0{sz sz':Nat}{es:PL}{m:SM}{k:IntKind}:qcq sz (.slice sz' es m) (.int k 0)=if sz'=sz then(es[0]?).map fun c=>.iptr c 0 else none:=qc2 (n:=0)
theorem qa9{h H:Hp}{v:PV}{ws:NL}{ups:UL}(hp:v.pure=true)(L:Low h.length h H)(hw:∀k∈ws,h.length≤k)(hu:∀x∈ups,h.length≤x.1):tidy 0 h.length (.val v) ⟨H,ws,ups⟩=(ba v.weak h):=by
 have hb:below h.length ws=[]:=List.filter_eq_nil_iff.2 fun k hk=>by have:=hw k hk;simp;omega
 have hua:(ups.any fun(k,j)=>k<h.length&&h.length≤j)=false:=by grind
 have huf:ups.filter (fun(k,_)=>k<h.length)=[]:=List.filter_eq_nil_iff.2 fun x hx=>by have:=hu x hx;simp;omega
 have ht:H.take h.length=h:=by rw[L.take];simp
 have hf:frz H h.length 64 v=some v.weak:=qb0 hp;unfold tidy;rw[if_neg (by decide),if_neg (by simpa using hua)];simp only[OR.v,hf,hb,huf,ht,OR.put];rfl
theorem AppL.slice{H:Hp}{v:PV}{es:PL}{lo:Nat}(A:AppL H v es lo):∃sz m,v=.slice sz es m∧(es=[]∨sz=3):=by
 rcases A with⟨rfl,rfl⟩|⟨kt,rfl,_,_⟩
 ·grind
 ·grind
end Go.Proofs.Tryz
namespace Go.Proofs.Tryz
open Go Go.AE
def a6t:ACode:=(sr0 [rp 110 (la true 2 5),rp 111 (l3 9),rp 112 (.call (.f 45) [(.t 110),(.c .sn),(.t 111)]),mv 109 112,ro 113 (et 109 0),ro 114 (et 109 1),mv 21 113,mv 22 114] (.seq (sr0 [mv 115 22,ro 116 (bc .neq 115 0)] (cn0 116 (sr0 [ro 10 (.move cT)] .ret) .skip)) (sr0 [rp 118 (l3 9),rp 119 (.call (.f 46) [(.t 118)]),mv 117 119,ro 120 (et 117 0),ro 121 (et 117 1),mv 23 120,mv 24 121] (sr0 [rp 123 (la true 2 5),rp 124 (l3 9),rp 125 (.call (.f 20) [(.t 123),(.t 124)]),mv 122 125,ro 126 (et 122 0),ro 127 (et 122 1),mv 25 126,mv 22 127] (.seq (sr0 [mv 128 22,ro 129 (bc .neq 128 0)] (cn0 129 (sr0 [mv 130 22,ro 131 (bc .eql 130 2),mv 10 131] .ret) .skip)) (sr0 [rp 133 (la true 2 5),mv 134 21,mv 135 23,rp 136 (.call (.f 44) [(.t 133),(.t 134),(.t 135)]),mv 132 136,ro 137 (et 132 0),ro 138 (et 132 1),mv 26 137,mv 27 138] (sr0 [rp 140 (la true 2 5),mv 141 21,mv 142 23,mv 143 25,rp 144 (.call (.f 18) [(.t 140),(.t 141),(.t 142),(.t 143)]),mv 139 144,ro 145 (et 139 0),ro 146 (et 139 1),rp 28 (.box 3 (.c zq3)),ws 3 28 145,mv 29 146] (sr0 [mv 147 27,ro 148 (bc .eql 147 0),mv 149 148,rg 150 (mo 25) 149 true,rg 151 (bc .geq 150 0) 149 true,ro 152 (.pick (.t 149) (.t 151) cF),mv 153 152,rg 154 (mo 25) 153 true,rg 155 (mo 26) 153 true,rg 156 (bi .lss 154 155) 153 true,ro 157 (.pick (.t 153) (.t 156) cF),mv 158 157,rg 159 (mo 29) 158 true,rg 160 (bc .eql 159 0) 158 true,ro 161 (.pick (.t 158) (.t 160) cF),mv 162 161,rh 163 (l3 28) 162 true,rh 164 (l3 9) 162 true,rh 165 (.call (.f 22) [(.t 163),(.t 164)]) 162 true,ro 166 (.pick (.t 162) (.t 165) cF),mv 10 166] .ret))))))))
def a6i:ACode:=(sr0 [rp 60 (la true 2 5),mv 61 1,mv 62 2,mv 63 3,rp 64 (.call (.f 18) [(.t 60),(.t 61),(.t 62),(.t 63)]),mv 59 64,ro 65 (et 59 0),ro 66 (et 59 1),rp 13 (.box 3 (.c zq3)),ws 3 13 65,mv 14 66] (sr0 [rp 68 (la true 2 5),rp 69 (l3 13),rp 70 (.call (.f 20) [(.t 68),(.t 69)]),mv 67 70,ro 71 (et 67 0),ro 72 (et 67 1),mv 15 71,mv 16 72] (sr0 [rp 74 (la true 2 5),rp 75 (l3 13),rp 76 (.call (.f 45) [(.t 74),(.c .sn),(.t 75)]),mv 73 76,ro 77 (et 73 0),ro 78 (et 73 1),mv 17 77,mv 18 78] (sr0 [rp 80 (l3 13),rp 81 (.call (.f 46) [(.t 80)]),mv 79 81,ro 82 (et 79 0),ro 83 (et 79 1),mv 19 82,mv 20 83] (sr0 [mv 84 14,ro 85 (bc .neq 84 0),mv 86 85,rg 87 (mo 16) 86 false,rg 88 (bc .neq 87 0) 86 false,ro 89 (.pick (.t 86) cT (.t 88)),mv 90 89,rg 91 (mo 15) 90 false,rg 92 (mo 3) 90 false,rg 93 (bi .neq 91 92) 90 false,ro 94 (.pick (.t 90) cT (.t 93)),mv 95 94,rg 96 (mo 18) 95 false,rg 97 (bc .neq 96 0) 95 false,ro 98 (.pick (.t 95) cT (.t 97)),mv 99 98,rg 100 (mo 17) 99 false,rg 101 (mo 1) 99 false,rg 102 (bi .neq 100 101) 99 false,ro 103 (.pick (.t 99) cT (.t 102)),mv 104 103,rg 105 (mo 19) 104 false,rg 106 (mo 2) 104 false,rg 107 (bi .neq 105 106) 104 false,ro 108 (.pick (.t 104) cT (.t 107))] (cn0 108 (sr0 [ro 10 (.move cF)] .ret) .skip))))))
def a6:AFunc:=⟨5,167,(sr0 [rp 5 (.box 2 (.t 0)),rp 9 (.box 3 (.t 4)),ro 10 (.move cF)] (.seq (sr0 [rp 30 (.call (.f 15) []),ro 31 (no 30)] (cn0 31 (sr0 [ro 10 (.move cF)] .ret) .skip)) (.seq (sr0 [rp 32 (la true 2 5),rp 33 (.call (.f 16) [(.t 32)]),ro 34 (no 33),mv 35 34,rh 36 (l3 9) 35 false,rg 37 (.buildSlice 3 zq3 1 [(0,(.t 36))]) 35 false,rh 38 (.call (.f 17) [(ci 100),(.t 37)]) 35 false,rg 39 (no 38) 35 false,ro 40 (.pick (.t 35) cT (.t 39))] (cn0 40 (sr0 [ro 10 (.move cT)] .ret) .skip)) (.seq (sr0 [rp 42 (la true 2 5),mv 43 1,mv 44 2,rp 45 (.call (.f 44) [(.t 42),(.t 43),(.t 44)]),mv 41 45,ro 46 (et 41 0),ro 47 (et 41 1),mv 11 46,mv 12 47] (sr0 [mv 48 12,ro 49 (bc .eql 48 0),mv 50 49,rg 51 (mo 3) 50 true,rg 52 (bc .geq 51 0) 50 true,ro 53 (.pick (.t 50) (.t 52) cF),mv 54 53,rg 55 (mo 3) 54 true,rg 56 (mo 11) 54 true,rg 57 (bi .lss 55 56) 54 true,ro 58 (.pick (.t 54) (.t 57) cF)] (cn0 58
 a6i .skip)))
 a6t)))),[.t 10]⟩
def a17:AFunc:=⟨2,11,(sr0 [rp 2 (.box 1 (.t 0)),ro 4 (.move cF)] (sr0 [rp 5 (.box 1 (.c .nilFunc))] (sr0 [ro 6 (.mkFunc (.func 84) [] [(.t 2),(.t 5)]),ws 1 5 6] (sr0 [mv 7 1,ro 8 (.mkFunc (.func 86) [] [(.t 5)]),rp 9 (.call (.f 48) [(.t 7),(.t 8)]),ro 10 (no 9),mv 4 10] .ret)))),[.t 4]⟩
theorem fn17:fnOf 17=some a17:=by kernel_rfl
def a84:AFunc:=⟨4,22,(sr0 [rp 4 (.box 3 (.t 0)),rp 5 (.box 1 (.t 1)),ro 6 (.move cF)] (sr0 [rp 7 (l1 2),ro 8 (bc .sub 7 1),ws 1 2 8] (sr0 [rp 9 (l1 2),ro 10 (bc .geq 9 0),mv 11 10,rh 12 (l1 5) 11 true,rg 13 (bc .lss 12 100) 11 true,ro 14 (.pick (.t 11) (.t 13) cF),mv 15 14,rg 16 (fa 2 4) 15 true,rh 17 (l1 16) 15 true,rg 18 (.mkFunc (.func 85) [] [(.t 3),(.t 5)]) 15 true,rh 19 (.call (.f 48) [(.t 17),(.t 18)]) 15 true,rg 20 (no 19) 15 true,ro 21 (.pick (.t 15) (.t 20) cF),mv 6 21] .ret))),[.t 6]⟩
theorem fn84:fnOf 84=some a84:=by kernel_rfl
def a85:AFunc:=⟨3,11,(sr0 [rp 3 (.box 3 (.t 0)),ro 4 (.move cF)] (sr0 [rp 5 (l1 1),rp 6 (l3 3),rp 7 (l1 2),nx 8 7,rp 9 (.call (.t 5) [(.t 6),(.t 8)]),ro 10 (no 9),mv 4 10] .ret)),[.t 4]⟩
theorem fn85:fnOf 85=some a85:=by kernel_rfl
def a86:AFunc:=⟨2,8,(sr0 [rp 2 (.box 3 (.t 0)),ro 3 (.move cF)] (sr0 [rp 4 (l1 1),rp 5 (l3 2),rp 6 (.call (.t 4) [(.t 5),(ci 0)]),ro 7 (no 6),mv 3 7] .ret)),[.t 3]⟩
theorem fn86:fnOf 86=some a86:=by kernel_rfl
def a48:AFunc:=⟨2,9,(sr0 [ro 4 (.move cF)] (sr0 [mv 5 0,mv 6 1,rp 7 (.call (.f 135) [(.t 5),(.t 6)]),ro 8 (bc .geq 7 0),mv 4 8] .ret)),[.t 4]⟩
theorem fn48:fnOf 48=some a48:=by kernel_rfl
def qjl:ACode:=(sr0 [lo 9 8 7] (.seq (cn0 9 .skip (.exit 0)) (.seq (.block 1 (sr0 [mv 10 8,mv 5 10] (sr0 [mv 11 1,mv 12 0,mv 13 5,ro 14 (ix 3 12 13),rp 15 (l3 14),rp 16 (.call (.t 11) [(.t 15)])] (cn0 16 (sr0 [mv 17 5,mv 4 17] .ret) .skip)))) (.reg [nx 18 8,mv 8 18]))))
def a135:AFunc:=⟨2,19,(sr0 [c0 4] (.seq (sr0 [mv 6 0,ro 7 (ll 6),c0 8] (bl0 0 qjl)) (sr0 [ro 4 (.move (ci (-1)))] .ret))),[.t 4]⟩
theorem fn135:fnOf 135=some a135:=by kernel_rfl
def a20:AFunc:=⟨2,37,(sr0 [rp 2 (.box 2 (.t 0)),rp 3 (.box 3 (.t 1)),c0 4,c0 5] (.seq (sr0 [rp 11 (la true 2 2),rp 12 (.call (.f 87) [(.t 11)]),mv 6 12] (sr0 [mv 13 6,ro 14 (bc .neq 13 0)] (cn0 14 (sr0 [mv 15 6,c0 4,mv 5 15] .ret) .skip))) (.seq (sr0 [rp 16 (la true 2 2),rp 17 (l3 3),rp 18 (.call (.f 95) [(.t 16),(.t 17)]),ro 19 (no 18)] (cn0 19 (sr0 [c0 4,ro 5 (.move (ci 4))] .ret) .skip)) (.seq (sr0 [rp 21 (l3 3),rp 22 (.call (.f 46) [(.t 21)]),mv 20 22,ro 23 (et 20 0),ro 24 (et 20 1),mv 7 23,mv 8 24] (sr0 [mv 25 7,ro 26 (bc .gtr 25 60)] (cn0 26 (sr0 [c0 4,ro 5 (.move (ci 2))] .ret) .skip))) (sd0 [rp 28 (la true 2 2),rd 29 (.call (.f 90) [(.t 28)]) true 1 1 false,rd 30 (l3 3) true 2 0 true,rd 31 (.call (.f 96) [(.t 29),(.t 30)]) true 3 7 true,rd 27 (mo 31) false 4 15 true,rd 32 (et 27 0) false 5 31 false,rd 33 (et 27 1) false 6 31 false,rd 9 (mo 32) false 7 63 true,rd 10 (mo 33) false 8 255 true] (.seq (sr0 [mv 34 9,ro 35 (bc .geq 34 1099511627776)] (cn0 35 (sr0 [c0 4,ro 5 (.move (ci 2))] .ret) .skip)) (sr0 [mv 36 9,mv 4 36,c0 5] .ret))))))),[.t 4,.t 5]⟩
def a45:AFunc:=⟨3,67,(sr0 [rp 3 (.box 2 (.t 0)),rp 4 (.box 1 (.t 1)),rp 5 (.box 3 (.t 2)),c0 6,c0 7] (.seq (.block 0 (sr0 [rp 10 (la true 2 3),rp 11 (.call (.f 87) [(.t 10)]),ro 12 (bc .neq 11 0),mv 9 12] (cn0 9 (sr0 [c0 6,ro 7 (.move (ci 40))] .ret) (sr0 [rp 14 (l1 4),ro 15 (.mkFunc (.func 129) [] [(.t 3)]),rp 16 (.call (.f 65) [(.t 14),(.t 15)]),mv 13 16] (cn0 13 (sr0 [c0 6,ro 7 (.move (ci 1))] .ret) (sr0 [rp 18 (l3 5),rp 19 (.call (.f 130) [(.t 18)]),ro 20 (no 19),mv 17 20] (cn0 17 (sr0 [c0 6,ro 7 (.move (ci 4))] .ret) .skip))))))) (sr0 [ro 8 (.move (ci (-1)))] (.seq (.block 1 (sr0 [ro 22 (fa 0 5),rp 23 (l1 22),ro 24 (bc .eql 23 1),mv 25 24,rg 26 (fa 1 5) 25 true,rh 27 (l1 26) 25 true,rh 28 (l1 4) 25 true,rg 29 (ll 28) 25 true,rg 30 (bi .lss 27 29) 25 true,ro 31 (.pick (.t 25) (.t 30) cF),mv 21 31] (cn0 21 (.reg [rp 32 (l1 4),ro 33 (fa 1 5),rp 34 (l1 33),ro 35 (ix 1 32 34),rp 36 (l1 35),mv 8 36]) (sr0 [ro 38 (fa 0 5),rp 39 (l1 38),ro 40 (bc .eql 39 2),mv 41 40,rg 42 (fa 1 5) 41 true,rh 43 (l1 42) 41 true,rg 44 (fa 1 3) 41 true,rh 45 (l1 44) 41 true,rg 46 (ll 45) 41 true,rg 47 (bi .lss 43 46) 41 true,ro 48 (.pick (.t 41) (.t 47) cF),mv 37 48] (cn0 37 (.reg [ro 49 (fa 1 3),rp 50 (l1 49),ro 51 (fa 1 5),rp 52 (l1 51),ro 53 (ix 3 50 52),ro 54 (fa 2 53),rp 55 (l1 54),mv 8 55]) .skip))))) (.seq (sr0 [mv 56 8,ro 57 (bc .lss 56 0),mv 58 57,rh 59 (la true 2 3) 58 false,rh 60 (l3 5) 58 false,rg 61 (mo 8) 58 false,rg 62 (.mkFunc (.func 132) [] [(.t 4)]) 58 false,rh 63 (.call (.f 131) [(.t 59),(.t 60),(.t 61),(.t 62)]) 58 false,rg 64 (no 63) 58 false,ro 65 (.pick (.t 58) cT (.t 64))] (cn0 65 (sr0 [c0 6,ro 7 (.move (ci 4))] .ret) .skip)) (sr0 [mv 66 8,mv 6 66,c0 7] .ret)))))),[.t 6,.t 7]⟩
theorem fn45:fnOf 45=some a45:=by kernel_rfl
def a129:AFunc:=⟨2,13,(sr0 [ro 3 (.move cF)] (sr0 [mv 4 0,ro 5 (bc .lss 4 0),mv 6 5,rg 7 (mo 0) 6 false,rg 8 (fa 0 1) 6 false,rh 9 (l1 8) 6 false,rg 10 (ll 9) 6 false,rg 11 (bi .geq 7 10) 6 false,ro 12 (.pick (.t 6) cT (.t 11)),mv 3 12] .ret)),[.t 3]⟩
theorem fn129:fnOf 129=some a129:=by kernel_rfl
def a130:AFunc:=⟨1,12,(sr0 [rp 1 (.box 3 (.t 0)),ro 2 (.move cF)] (sr0 [rp 3 (.box 2 (.c (.agg [(.int .i64 0),(.int .i64 0)])))] (sr0 [rp 4 (l3 1),rp 5 (.call (.f 133) [(.t 3),(.t 4),(ci 1)])] (sr0 [rp 6 (.call (.f 134) [(.t 3)]),ro 7 (no 6),mv 8 7,rh 9 (l3 1) 8 true,rh 10 (.call (.f 185) [(.t 9)]) 8 true,ro 11 (.pick (.t 8) (.t 10) cF),mv 2 11] .ret)))),[.t 2]⟩
theorem fn130:fnOf 130=some a130:=by kernel_rfl
def qmt:ACode:=(sr0 [lo 54 53 52] (.seq (cn0 54 .skip (.exit 0)) (.seq (.block 1 (sr0 [mv 55 53,ro 56 (ix 3 51 53),rp 57 (l3 56),rp 10 (.box 3 (.c zq3)),mv 9 55,ws 3 10 57] (sd0 [rp 58 (la true 2 4),rd 59 (l3 10) true 1 0 false,rd 60 (fa 1 4) false 2 0 false,rd 61 (l1 60) true 3 4 false,rd 62 (fa 1 5) false 4 0 false,rd 63 (l1 62) true 5 16 false,rd 64 (ix 3 61 63) false 6 60 false,rd 65 (fa 1 64) false 7 124 false,rd 66 (l1 65) true 8 252 false,rd 67 (mo 9) false 9 0 false,rd 68 (ix 1 66 67) false 10 1020 false,rd 69 (l1 68) true 11 2044 false,rd 70 (mo 3) false 12 0 true,rd 71 (.call (.f 131) [(.t 58),(.t 59),(.t 69),(.t 70)]) true 13 8191 true,rd 72 (no 71) false 14 16383 true] (cn0 72 (sr0 [ro 8 (.move cF)] .ret) .skip)))) (.reg [nx 73 53,mv 53 73]))))
def a131:AFunc:=⟨4,74,(sr0 [rp 4 (.box 2 (.t 0)),rp 5 (.box 3 (.t 1)),ro 8 (.move cF)] (.seq (sr0 [ro 11 (fa 0 5),rp 12 (l1 11),ro 13 (bc .eql 12 1)] (cn0 13 (sr0 [mv 14 3,ro 15 (fa 1 5),rp 16 (l1 15),mv 17 2,rp 18 (.call (.t 14) [(.t 16),(.t 17)]),mv 8 18] .ret) .skip)) (.seq (sd0 [ro 19 (fa 1 5),rd 20 (l1 19) true 1 1 false,rd 21 (fa 1 4) false 2 0 true,rd 22 (l1 21) true 3 4 true,rd 23 (ll 22) false 4 12 true,rd 24 (bi .geq 20 23) false 5 31 true,rd 25 (mo 24) false 6 63 true,⟨(some 26),fa 1 4,(some (25,false)),false,7,127,false⟩,⟨(some 27),l1 26,(some (25,false)),true,8,255,false⟩,⟨(some 28),fa 1 5,(some (25,false)),false,9,127,false⟩,⟨(some 29),l1 28,(some (25,false)),true,10,639,false⟩,⟨(some 30),ix 3 27 29,(some (25,false)),false,11,2047,false⟩,⟨(some 31),fa 2 30,(some (25,false)),false,12,4095,false⟩,⟨(some 32),l1 31,(some (25,false)),true,13,8191,false⟩,⟨(some 33),mo 2,(some (25,false)),false,14,127,true⟩,⟨(some 34),bi .neq 32 33,(some (25,false)),false,15,32767,true⟩,rd 35 (.pick (.t 25) cT (.t 34)) false 16 65535 true,rd 36 (mo 35) false 17 131071 true,⟨(some 37),fa 1 4,(some (36,false)),false,18,262143,false⟩,⟨(some 38),l1 37,(some (36,false)),true,19,524287,false⟩,⟨(some 39),fa 1 5,(some (36,false)),false,20,262143,false⟩,⟨(some 40),l1 39,(some (36,false)),true,21,1310719,false⟩,⟨(some 41),ix 3 38 40,(some (36,false)),false,22,4194303,false⟩,⟨(some 42),fa 1 41,(some (36,false)),false,23,8388607,false⟩,⟨(some 43),l1 42,(some (36,false)),true,24,16777215,false⟩,⟨(some 44),ll 43,(some (36,false)),false,25,33554431,false⟩,⟨(some 45),fa 2 5,(some (36,false)),false,26,262143,true⟩,⟨(some 46),l1 45,(some (36,false)),true,27,67371007,true⟩,⟨(some 47),ll 46,(some (36,false)),false,28,201588735,true⟩,⟨(some 48),bi .neq 44 47,(some (36,false)),false,29,536870911,true⟩,rd 49 (.pick (.t 36) cT (.t 48)) false 30 1073741823 true] (cn0 49 (sr0 [ro 8 (.move cF)] .ret) .skip)) (.seq (sr0 [ro 50 (fa 2 5),rp 51 (l1 50),ro 52 (ll 51),c0 53] (bl0 0 qmt)) (sr0 [ro 8 (.move cT)] .ret))))),[.t 8]⟩
theorem fn131:fnOf 131=some a131:=by kernel_rfl
def a132:AFunc:=⟨3,18,(sr0 [ro 5 (.move cF)] (sr0 [mv 6 0,rp 7 (l1 2),ro 8 (ll 7),lo 9 6 8,mv 10 9,rh 11 (l1 2) 10 true,rg 12 (mo 0) 10 true,rg 13 (ix 1 11 12) 10 true,rh 14 (l1 13) 10 true,rg 15 (mo 1) 10 true,rg 16 (bi .eql 14 15) 10 true,ro 17 (.pick (.t 10) (.t 16) cF),mv 5 17] .ret)),[.t 5]⟩
theorem fn132:fnOf 132=some a132:=by kernel_rfl
def qr4:ACode:=(sr0 [lo 28 27 26] (.seq (cn0 28 .skip (.exit 0)) (.seq (.block 1 (sr0 [ro 29 (ix 3 25 27),rp 30 (l3 29),rp 7 (.box 3 (.c zq3)),ws 3 7 30] (.seq (sr0 [mv 31 0,ro 32 (nc 31),ro 33 (fa 0 32),rp 34 (l1 33),ro 35 (bc .gtr 34 2000),mv 36 35,rg 37 (mo 0) 36 false,rg 38 (nc 37) 36 false,rg 39 (fa 1 38) 36 false,rh 40 (l1 39) 36 false,rg 41 (bc .gtr 40 200) 36 false,ro 42 (.pick (.t 36) cT (.t 41))] (cn0 42 .ret .skip)) (.reg [mv 43 0,rp 44 (l3 7),mv 45 2,nx 46 45,rp 47 (.call (.f 133) [(.t 43),(.t 44),(.t 46)])])))) (.reg [nx 48 27,mv 27 48]))))
def a133:AFunc:=⟨3,49,(sr0 [rp 4 (.box 3 (.t 1))] (sr0 [mv 8 0,ro 9 (nc 8),ro 10 (fa 0 9),rp 11 (l1 10),nx 12 11,ro 13 (nc 8),ro 14 (fa 0 13),ws 1 14 12] (sr0 [mv 15 0,mv 16 0,ro 17 (nc 16),ro 18 (fa 1 17),rp 19 (l1 18),mv 20 2,ro 21 (.min true [(.t 19),(.t 20)]),ro 22 (nc 15),ro 23 (fa 1 22),ws 1 23 21] (sr0 [ro 24 (fa 2 4),rp 25 (l1 24),ro 26 (ll 25),c0 27] (bl0 0 qr4))))),[]⟩
theorem fn133:fnOf 133=some a133:=by kernel_rfl
def a134:AFunc:=⟨1,15,(sr0 [ro 2 (.move cF)] (sr0 [mv 3 0,ro 4 (nc 3),ro 5 (fa 0 4),rp 6 (l1 5),ro 7 (bc .gtr 6 2000),mv 8 7,rg 9 (mo 0) 8 false,rg 10 (nc 9) 8 false,rg 11 (fa 1 10) 8 false,rh 12 (l1 11) 8 false,rg 13 (bc .gtr 12 200) 8 false,ro 14 (.pick (.t 8) cT (.t 13)),mv 2 14] .ret)),[.t 2]⟩
theorem fn134:fnOf 134=some a134:=by kernel_rfl
def a185:AFunc:=⟨1,32,(sr0 [rp 1 (.box 3 (.t 0)),ro 2 (.move cF)] (.seq (.block 0 (.seq (sr0 [ro 4 (fa 1 1),rp 5 (l1 4),ro 6 (bc .lss 5 0),mv 3 6] (cn0 3 .skip (sr0 [ro 7 (fa 0 1),rp 8 (l1 7),ro 9 (bc .eql 8 1),mv 10 9,rg 11 (fa 2 1) 10 true,rh 12 (l1 11) 10 true,rg 13 (ll 12) 10 true,rg 14 (bc .gtr 13 0) 10 true,ro 15 (.pick (.t 10) (.t 14) cF),mv 3 15] (cn0 3 .skip (sr0 [ro 16 (fa 0 1),rp 17 (l1 16),ro 18 (bc .neq 17 1),mv 19 18,rg 20 (fa 0 1) 19 true,rh 21 (l1 20) 19 true,rg 22 (bc .neq 21 2) 19 true,ro 23 (.pick (.t 19) (.t 22) cF),mv 3 23] (cn0 3 .skip (.reg [ro 24 (fa 2 1),rp 25 (l1 24),ro 26 (ll 25),ro 27 (bc .gtr 26 8),mv 3 27]))))))) (cn0 3 (sr0 [ro 2 (.move cF)] .ret) .skip))) (sr0 [ro 28 (fa 2 1),rp 29 (l1 28),rp 30 (.call (.f 48) [(.t 29),(.f 232)]),ro 31 (no 30),mv 2 31] .ret))),[.t 2]⟩
theorem fn185:fnOf 185=some a185:=by kernel_rfl
def a46:AFunc:=⟨1,12,(sr0 [rp 1 (.box 3 (.t 0)),c0 2,c0 3] (sr0 [rp 4 (.box 2 (.c (.agg [(.int .i64 0),(.int .i64 0)])))] (.seq (sr0 [rp 5 (l3 1),rp 6 (.call (.f 133) [(.t 4),(.t 5),(ci 1)])] (sr0 [rp 7 (.call (.f 134) [(.t 4)])] (cn0 7 (sr0 [ro 2 (.move (ci 2001)),ro 3 (.move (ci 201))] .ret) .skip))) (sd0 [ro 8 (fa 0 4),rd 9 (l1 8) true 1 1 false,rd 10 (fa 1 4) false 2 0 false,rd 11 (l1 10) true 3 4 false,rd 2 (mo 9) false 4 3 true,rd 3 (mo 11) false 5 31 true] .ret)))),[.t 2,.t 3]⟩
theorem fn46:fnOf 46=some a46:=by kernel_rfl
def a232:AFunc:=⟨1,6,(sr0 [rp 1 (.box 3 (.t 0)),ro 2 (.move cF)] (sr0 [rp 3 (l3 1),rp 4 (.call (.f 185) [(.t 3)]),ro 5 (no 4),mv 2 5] .ret)),[.t 2]⟩
theorem fn232:fnOf 232=some a232:=by kernel_rfl
end Go.Proofs.Tryz
namespace Go.Proofs.Tryz
open Go Go.AE
open Go.AE.Obj (row)
variable {T:Tbl}(hT:Std T)
theorem Enc.facts{t:Tm}{p:PV}(h:Enc t p):p.top=none∧(p.pure=true∧p.weak=p):=by
 induction h with
 |mk k n l sz es hs hl he ih=>
   have hall:∀p∈es,p.top=none∧(p.pure=true∧p.weak=p):=fun p hp=>by obtain⟨i,hi,rfl⟩:=List.getElem_of_mem hp;exact ih i l[i] _ (gE0 (by omega)) (gE0 hi)
   have h1:∀l:PL,(∀x∈l,x.top=none∧(x.pure=true∧x.weak=x))→tops l=none∧qas l=true∧qaq l=l:=fun l=>by
    induction l with
    |nil=>intro _;exact⟨rfl,rfl,rfl⟩
    |cons x l ihl=>
      intro hx;obtain⟨a,b,c⟩:=ihl fun y hy=>hx y (by simp[hy]);obtain⟨d,e,f⟩:=hx x (by simp);simp[tops,omax,qas,qaq,a,b,c,d,e,f]
   obtain⟨a,b,c⟩:=h1 es hall;simp[PV.top,tops,omax,PV.pure,qas,PV.weak,qaq,a,b,c]
theorem Enc.cells{t:Tm}{p:PV}(h:Enc t p):p.cells.length=3∧p.cells.all PV.isCell=true∧p.isDef=true∧∃cs,p=.agg cs:=by cases h;exact⟨rfl,rfl,rfl,_,rfl⟩
theorem Enc.sub{t:Tm}{p:PV}(h:Enc t p):sub true 3 p 0=some p:=by cases h;rfl
theorem qn1{l:Ts}{i:Nat}{t:Tm}(h:l[i]?=some t):qba (l.take i)+t.nodes+qba (l.drop (i+1))=qba l:=by
 induction l generalizing i with
 |nil=>simp at h
 |cons x l ih=>
   cases i with
   |zero=>
     simp only[List.getElem?_cons_zero,Option.some.injEq]at h;subst h;simp[qba]
   |succ i=>
     have:=ih (by simpa using h);simp only[List.take_succ_cons,List.drop_succ_cons,qba];omega
structure Mod (h H:Hp)(km:Nat)(o:AE.Obj):Prop where
 take:H.take h.length=h.set km o
 len:h.length≤H.length
 lt:km<h.length
theorem Mod.refl{h:Hp}{km:Nat}{o:AE.Obj}(hk:h[km]?=some o):Mod h h km o:=⟨by rw[List.take_length,qhn hk],nR0 _,(gI0.1 hk).1⟩
theorem Mod.get{h H:Hp}{km:Nat}{o:AE.Obj}(M:Mod h H km o):H[km]?=some o:=by
 have h1:(H.take h.length)[km]?=some o:=by rw[M.take,List.getElem?_set_self M.lt]
 rwa [List.getElem?_take_of_lt M.lt]at h1
theorem Mod.old{h H:Hp}{km k:Nat}{o x:AE.Obj}(M:Mod h H km o)(hk:h[k]?=some x)(hne:km≠k):H[k]?=some x:=by
 have hl:=(gI0.1 hk).1;have h1:(H.take h.length)[k]?=some x:=by rw[M.take,List.getElem?_set_ne hne];exact hk
 rwa [List.getElem?_take_of_lt hl]at h1
theorem Mod.push{h H:Hp}{km:Nat}{o o':AE.Obj}(M:Mod h H km o):Mod h (H++[o']) km o:=⟨by rw[List.take_append_of_le_length M.len];exact M.take,by have:=M.len;simp;omega,M.lt⟩
theorem Mod.put{h H:Hp}{km:Nat}{o o':AE.Obj}(M:Mod h H km o):Mod h (H.set km o') km o':=by refine⟨?_,by simpa using M.len,M.lt⟩;rw[List.take_set,M.take,List.set_set]
theorem Mod.putNew{h H:Hp}{km k:Nat}{o o':AE.Obj}(M:Mod h H km o)(hk:h.length≤k):Mod h (H.set k o') km o:=⟨by rw[List.take_set_of_le hk];exact M.take,by simpa using M.len,M.lt⟩
def okWs(h:Hp)(km:Nat)(ws:NL):Prop:=∀x∈ws,x=km∨h.length≤x
theorem okWs.add{h:Hp}{km k:Nat}{ws:NL}(W:okWs h km ws)(hk:k=km∨h.length≤k):okWs h km (wadd k ws):=fun x hx=>by
 rcases qa3 hx with rfl|hx
 ·exact hk
 ·exact W x hx
theorem okWs.wall{h:Hp}{km:Nat}{a b:NL}(A:okWs h km a)(B:okWs h km b):okWs h km (wall a b):=fun x hx=>by
 rcases qat hx with hx|hx
 ·exact A x hx
 ·exact B x hx
theorem qbo{h H:Hp}{km:Nat}{o:AE.Obj}{v:PV}{ws:NL}(hp:v.pure=true)(M:Mod h H km o)(W:okWs h km ws):∃ws',tidy 0 h.length (.val v) ⟨H,ws,[]⟩=(.val v.weak,⟨h.set km o,ws',[]⟩)∧∀x∈ws',x=km:=by
 refine⟨below h.length ws,?_,fun x hx=>?_⟩
 · unfold tidy;have hf:frz H h.length 64 v=some v.weak:=qb0 hp;simp[OR.v,hf,M.take,OR.put]
 · obtain⟨h1,h2⟩:=List.mem_filter.1 hx;have h2:x<h.length:=by simpa using h2
   rcases W x h1 with h|h
   ·exact h
   ·omega
@[go_sem] theorem tupled_nil:qdq []=.tuple []:=rfl
theorem st2_0{H:Hp}{ws:NL}{ups:UL}{k:Nat}{a b:PV}{v:Int}(hk:H[k]?=some (.row 2 [.agg [a,b]])):
 storeAt 1 (.pb k) (.int .i64 v) ⟨H,ws,ups⟩=some ⟨H.set k (.row 2 [.agg [.int .i64 v,b]]),wadd k ws,ups⟩:=by
 have hu:upd (.agg [a,b]) 0 (.int .i64 v)=some (.agg [.int .i64 v,b]):=rfl;simp only[storeAt,hk,ll0,PV.cells,List.all_cons,List.all_nil,PV.isCell,Bool.and_self,and_self,if_true,List.getElem?_cons_zero,hu,Option.map,sC0,PV.top,qau]
theorem st2_1{H:Hp}{ws:NL}{ups:UL}{k:Nat}{a b:PV}{v:Int}(hk:H[k]?=some (.row 2 [.agg [a,b]])):
 storeAt 1 (.ptr k 0 1 1) (.int .i64 v) ⟨H,ws,ups⟩=some ⟨H.set k (.row 2 [.agg [a,.int .i64 v]]),wadd k ws,ups⟩:=by
 have hu:upd (.agg [a,b]) 1 (.int .i64 v)=some (.agg [a,.int .i64 v]):=rfl;simp only[storeAt,hk,ll0,PV.cells,List.all_cons,List.all_nil,PV.isCell,Bool.and_self,and_self,if_true,List.getElem?_cons_zero,hu,Option.map,sC0,PV.top,qau]
def mRow(nd dp:Int):AE.Obj:=.row 2 [.agg [.int .i64 nd,.int .i64 dp]]
end Go.Proofs.Tryz
namespace Go.Proofs.Tryz
open Go Go.AE
def zAt(z:IL)(a:Int):Int:=z.getD a.toNat 0
def qgr(z:IL)(l:IL):Bool:=l.all fun a=>decide (0<zAt z a)
def sumZ(z:IL):IL→Int→Int
 |[],n=>n
 |a::l,n=>sumZ z l (n+zAt z a)
def okZ(z:IL):Prop:=∀v∈z,0≤v∧v≤2001
theorem okZ.at{z:IL}(h:okZ z)(a:Int):0≤zAt z a∧zAt z a≤2001:=by
 unfold zAt;by_cases hl:a.toNat<z.length
 · have:z.getD a.toNat 0=z[a.toNat]:=by simp[gD0,hl]
   rw[this];exact h _ (gX0 hl)
 ·grind
theorem qsg{z:IL}(h:okZ z):∀(l:IL)(n:Int),n≤sumZ z l n
 |[],n=>Int.le_refl _
 |a::l,n=>by have:=qsg h l (n+zAt z a);have:=(h.at a).1;simp only[sumZ];omega
theorem sumZ_add{z:IL}:∀(l:IL)(n m:Int),sumZ z l (n+m)=sumZ z l n+m
 |[],n,m=>rfl
 |a::l,n,m=>by simp only[sumZ];rw[show n+m+zAt z a=(n+zAt z a)+m by omega];exact sumZ_add l _ _
theorem qos{z:IL}(h:okZ z):∀{l:IL}(n:Int){a:Int},a∈l→n+zAt z a≤sumZ z l n
 |b::l,n,a,ha=>by
   simp only[sumZ];rcases mN0.1 ha with rfl|ha
   ·exact qsg h l _
   · have:=qos h (n+zAt z b) ha;have:=(h.at b).1;omega
def opZ(z:IL)(o:GOp):Int:=sumZ z o.args 1
def qqb(z:IL)(o:GOp):IL×Bool:=
 if qgr z o.args=true∧(zAt z o.res=0∨min (opZ z o) 2001<zAt z o.res)then(z.set o.res.toNat (min (opZ z o) 2001),true)else(z,false)
def qqh:List GOp→IL→Bool→IL×Bool
 |[],z,c=>(z,c)
 |o::os,z,c=>qqh os (qqb z o).1 ((qqb z o).2||c)
theorem opZ_pos{z:IL}(h:okZ z)(o:GOp):1≤opZ z o:=qsg h _ _
theorem okZ.set{z:IL}(h:okZ z){k:Nat}{v:Int}(hv:0≤v∧v≤2001):okZ (z.set k v):=fun u hu=>by
 rcases List.mem_or_eq_of_mem_set hu with h'|rfl
 ·exact h _ h'
 ·exact hv
theorem stepZ_len{z:IL}{o:GOp}:(qqb z o).1.length=z.length:=by unfold qqb;split<;>simp
theorem stepZ_ok{z:IL}(h:okZ z){o:GOp}:okZ (qqb z o).1:=by
 unfold qqb;split
 · have:=opZ_pos h o;exact h.set ⟨by omega,by omega⟩
 ·exact h
def lz(os:List GOp):Nat→IL→IL
 |0,z=>z
 |d+1,z=>if(qqh os z false).2=true then lz os d (qqh os z false).1 else z
def AttZ(os:List GOp)(z:IL):Prop:=∀k:Nat,0<z.getD k 0→∃o∈os,o.res=(k:Int)∧qgr z o.args=true∧min (opZ z o) 2001≤z.getD k 0
def LeZ(z z':IL):Prop:=∀k:Nat,0<z.getD k 0→0<z'.getD k 0∧z'.getD k 0≤z.getD k 0
theorem LeZ.whole{z z':IL}(h:LeZ z z'){l:IL}(hw:qgr z l=true):qgr z' l=true:=by simp only[qgr,List.all_eq_true,dE0]at*;exact fun a ha=>(h _ (hw a ha)).1
theorem LeZ.sum{z z':IL}(h:LeZ z z'):∀{l:IL}{n:Int},qgr z l=true→sumZ z' l n≤sumZ z l n
 |[],n,_=>Int.le_refl _
 |a::l,n,hw=>by simp only[qgr,List.all_cons,bA0,dE0]at hw;have h1:=(h _ hw.1).2;have h2:=h.sum (l:=l) (n:=n+zAt z a) hw.2;have h3:=sumZ_add (z:=z') l (n+zAt z' a) (zAt z a - zAt z' a);rw[show n+zAt z' a+(zAt z a - zAt z' a)=n+zAt z a by omega]at h3;simp only[sumZ];unfold zAt at*;omega
theorem LeZ.set{z:IL}{k:Nat}{v:Int}(hv:1≤v)(hc:z.getD k 0=0∨v<z.getD k 0):LeZ z (z.set k v):=fun j hj=>by
 by_cases hk:k<z.length
 ·grind
 ·grind
theorem AttZ.step{os:List GOp}{z:IL}(h:AttZ os z)(hz:okZ z){o:GOp}(ho:o∈os)(hr:0≤o.res∧o.res<z.length):AttZ os (qqb z o).1:=by
 unfold qqb;split
 next hc=>
   have hp:=opZ_pos hz o;have L:LeZ z (z.set o.res.toNat (min (opZ z o) 2001)):=LeZ.set (by omega) hc.2;dsimp only;generalize hz':z.set o.res.toNat (min (opZ z o) 2001)=z' at*;have gz:∀k,z'.getD k 0=if o.res.toNat=k then min (opZ z o) 2001 else z.getD k 0:=fun k=>by rw[←hz',qcu (by omega)]
   intro k hk;rw[gz]at hk⊢;by_cases hk':o.res.toNat=k
   · rw[if_pos hk'];refine⟨o,ho,by omega,L.whole hc.1,?_⟩;have:=L.sum (n:=1) hc.1;unfold opZ;omega
   · rw[if_neg hk']at hk⊢;obtain⟨o',h1,h2,h3,h4⟩:=h k hk;have:=L.sum (n:=1) h3;exact⟨o',h1,h2,L.whole h3,by unfold opZ at*;omega⟩
 ·exact h
theorem AttZ.round{os:List GOp}{nS:Nat}:∀(os':List GOp)(z:IL)(c:Bool),(∀o∈os',o∈os∧0≤o.res∧o.res< (nS:Int))→z.length=nS→okZ z→AttZ os z→AttZ os (qqh os' z c).1
 |[],_,_,_,_,_,h=>h
 |o::os',z,c,ho,hl,hz,h=>by simp only[qqh];obtain⟨h1,h2⟩:=ho o (by simp);exact AttZ.round os' _ _ (fun x hx=>ho x (by simp[hx])) (by rw[stepZ_len,hl]) (stepZ_ok hz) (h.step hz h1 (by rw[hl];exact h2))
structure LeastZ (os:List GOp)(nS:Nat)(z:IL):Prop where
 len:z.length=nS
 ok:okZ z
 att:AttZ os z
 fix:∀o∈os,qgr z o.args=true→0<zAt z o.res∧zAt z o.res≤min (opZ z o) 2001
def qq8(z:IL)(k:Nat)(o:GOp):Bool:=o.res==(k:Int)&&qgr z o.args&&opZ z o==z.getD k 0
theorem good_ex{os:List GOp}{nS:Nat}{z:IL}(L:LeastZ os nS z){k:Nat}(hk:0<z.getD k 0)(hk2:z.getD k 0≤2000):∃i o,os.findIdx? (qq8 z k)=some i∧os[i]?=some o∧o.res=(k:Int)∧qgr z o.args=true∧opZ z o=z.getD k 0∧∀a∈o.args,0<zAt z a∧zAt z a<z.getD k 0:=by
 obtain⟨o,h1,h2,h3,h4⟩:=L.att k hk;have h5:=(L.fix o h1 h3).2;have h6:zAt z o.res=z.getD k 0:=by unfold zAt;rw[h2];simp
 rw[h6]at h5;have hg:qq8 z k o=true:=by simp only[qq8,bA0,beq_iff_eq];exact⟨⟨h2,h3⟩,by omega⟩
 have hs:(os.findIdx? (qq8 z k)).isSome=true:=by grind
 obtain⟨i,hi⟩:=Option.isSome_iff_exists.1 hs;obtain⟨hl,hp,_⟩:=List.findIdx?_eq_some_iff_getElem.1 hi;simp only[qq8,bA0,beq_iff_eq]at hp;refine⟨i,os[i],hi,gE0 hl,hp.1.1,hp.1.2,hp.2,fun a ha=>?_⟩;have h7:=List.all_eq_true.1 hp.1.2 a ha;simp only[dE0]at h7;have h8:=qos L.ok 1 ha;have h9:=hp.2;unfold opZ at h9;exact⟨h7,by omega⟩
mutual
def Tm.deep:Tm→Nat
 |.mk _ _ l=>1+qf7 l
def qf7:Ts→Nat
 |[]=>0
 |t::l=>max t.deep (qf7 l)
end
end Go.Proofs.Tryz
namespace Go.Proofs.Tryz
open Go Go.AE
open Go.AE.Obj (row)
variable {T:Tbl}(hT:Std T)
mutual
def qav:Tm→Bool
 |.mk k n l=>decide (0≤n)&&!(k==1&&decide (0<l.length))&& (k==1||k==2)&&decide (l.length≤8)&&qb3 l
def qb3:Ts→Bool
 |[]=>true
 |t::l=>qav t&&qb3 l
end
theorem qb2:∀l:Ts,qb3 l=l.all qav
 |[]=>rfl
 |t::l=>by simp only[qb3,List.all_cons,qb2 l]
include hT in
theorem qq6{g:FuncId}{cap:PL}{f:Tm→Bool}{h:Hp}(hg:T.prim g=none){l:Ts}{sz:Nat}{es:PL}{m:SM}(hs:es=[]∨sz=3)(hl:es.length=l.length)(he:∀(i:Nat)(x:Tm)(p:PV),l[i]?=some x→es[i]?=some p→Enc x p)
 (hf:∀(i:Nat)(x:Tm)(p:PV),l[i]?=some x→es[i]?=some p→Ev T g (p::cap) h (ba (.bool (f x)) h))(hal:es.length<1000000):
 ∃r:Int,Ev T 135 [.slice sz es m,.func (.func g) [] cap] h (ba (iv0 r) h)∧(decide (0≤r)=l.any f):=by
 refine hT.wp fn135 (by decide) ?_;simp(disch:=omega) only[go_sem];refine wpC.loopM (fun n e s=> ∃i:Nat,i+n=es.length∧eget e 0=.slice sz es m∧eget e 1=.func (.func g) [] cap∧eget e 7=iv0 (es.length:Int)∧eget e 8=iv0 (i:Int)∧(∀j (hj:j<l.length),j<i→f l[j]=false)∧s=⟨h,[],[]⟩) ?_ es.length _ _ ⟨0,by simp,by simp only[go_sem],by simp only[go_sem],by simp only[go_sem],by simp only[go_sem];rfl,fun j _ hj=>by omega,rfl⟩;rintro n e s ⟨i,hi,e0,e1,e7,e8,hp,rfl⟩;by_cases h1:i<es.length
 · have ga:=qbt h1;have hx:l[i]?=some l[i]:=gE0 (by omega);have hE:=he i l[i] es[i] hx ga;have ev:=hf i l[i] es[i] hx ga;have bs:=hE.sub;have hsz:sz=3:=by grind
   subst hsz;simp(disch:=omega) only[go_sem,qjl,e0,e1,e7,e8,h1,ga,bs,hg,cb ev];refine bifs (fun hpi=>⟨(i:Int),rfl,by rw[any_of (show i<l.length by omega) hpi];simp⟩) (fun hpi=>⟨n - 1,by omega,i+1,by omega,rfl,fun j hj hji=>?_,trivial⟩);by_cases hjj:j=i
   ·grind
   ·grind
 · simp(disch:=omega) only[go_sem,qjl,e7,e8,h1];exact⟨_,rfl,by rw[qpp fun j hj=>hp j hj (by omega)];rfl⟩
include hT in
theorem qji{g:FuncId}{cap:PL}{f:Tm→Bool}{h:Hp}(hg:T.prim g=none){l:Ts}{sz:Nat}{es:PL}{m:SM}(hs:es=[]∨sz=3)(hl:es.length=l.length)(he:∀(i:Nat)(x:Tm)(p:PV),l[i]?=some x→es[i]?=some p→Enc x p)
 (hf:∀(i:Nat)(x:Tm)(p:PV),l[i]?=some x→es[i]?=some p→Ev T g (p::cap) h (ba (.bool (f x)) h))(hal:es.length<1000000):
 Ev T 48 [.slice sz es m,.func (.func g) [] cap] h (ba (.bool (l.any f)) h):=by
 obtain⟨r,hr,kr⟩:=qq6 hT (m:=m) hg hs hl he hf hal;rw[←kr];refine hT.wk fn48 (by decide) ?_;simp(disch:=omega) only[go_sem,cb hr,hT.prim,qab]
def EncM(t:Tm)(p:PV):Prop:=∃k n l sz es m,t=.mk k n l∧p=.agg [iv0 k,iv0 n,.slice sz es m]∧(es=[]∨sz=3)∧es.length=l.length∧∀(i:Nat)(x:Tm)(q:PV),l[i]?=some x→es[i]?=some q→Enc x q
theorem EncM.cells{t:Tm}{p:PV}(h:EncM t p):p.cells.length=3∧p.cells.all PV.isCell=true∧p.isDef=true∧∃cs,p=.agg cs:=by obtain⟨k,n,l,sz,es,m,rfl,rfl,_,_,_⟩:=h;exact⟨rfl,rfl,rfl,_,rfl⟩
theorem EncM.sub{t:Tm}{p:PV}(h:EncM t p):AE.sub true 3 p 0=some p:=by obtain⟨k,n,l,sz,es,m,rfl,rfl,_,_,_⟩:=h;rfl
theorem Enc.m{t:Tm}{p:PV}(h:Enc t p):EncM t p:=by
 cases h with
 |mk k n l sz es hs hl he=>exact⟨k,n,l,sz,es,.any,rfl,rfl,hs,hl,he⟩
def mrk(m:SM):PV→PV
 |.agg [a,b,.slice sz es _]=>.agg [a,b,.slice sz es m]
 |p=>p
theorem mrk_any{t:Tm}{p:PV}(h:Enc t p):mrk .any p=p:=by cases h;rfl
include hT in
theorem shapedA_ev{t:Tm}{p:PV}(ht:Enc t p):∀(m:SM)(h:Hp),Ev T 185 [mrk m p] h (ba (.bool (qav t)) h):=by
 induction ht with
 |mk k n l sz es hs hl he ih=>
   intro m h;have hc:(PV.agg [iv0 k,iv0 n,.slice sz es m]).cells.length=3∧(PV.agg [iv0 k,iv0 n,.slice sz es m]).cells.all PV.isCell=true∧(PV.agg [iv0 k,iv0 n,.slice sz es m]).isDef=true∧∃cs,PV.agg [iv0 k,iv0 n,.slice sz es m]=.agg cs:=⟨rfl,rfl,rfl,_,rfl⟩;show Ev T 185 [.agg [iv0 k,iv0 n,.slice sz es m]] h _;refine hT.wk fn185 (by decide) ?_;obtain⟨c1,c2,c3,c4⟩:=hc;generalize hP:PV.agg [iv0 k,iv0 n,.slice sz es m]=P at*;have kb:=gC0 (l:=h) (a:=row 3 [P]);have low:Low h.length h (h++[row 3 [P]]):=(Low.refl _ _).push (nR0 _);generalize hH1:h++[row 3 [P]]=H1 at*;have l0:loadAt false 1 (.pb h.length) H1=some (iv0 k):=by rw[qad kb,←hP];rfl
   have l1:loadAt false 1 (.ptr h.length 0 1 1) H1=some (iv0 n):=by rw[qad kb,←hP];rfl
   have l2:loadAt false 1 (.ptr h.length 0 2 1) H1=some (.slice sz es m):=by rw[qad kb,←hP];rfl
   have td:∀b,tidy 0 h.length (.val (.bool b)) ⟨H1,[],[]⟩=(ba (.bool b) h):=fun b=>qan rfl rfl low (by simp)
   have sh1:∀(i:Nat)(x:Tm)(p:PV),l[i]?=some x→es[i]?=some p→Ev T 232 [p] H1 (ba (.bool (!qav x)) H1):=fun i x q hx hq=>by
    have hE:=he i x q hx hq;have ev:=ih i x q hx hq .any;rw[mrk_any hE]at ev;obtain⟨b1,_,b3,_⟩:=hE.cells;refine hT.wk fn232 (by decide) ?_;have kq:=gC0 (l:=H1) (a:=row 3 [q]);have lq:loadAt true 3 (.pb H1.length) (H1++[row 3 [q]])=some q:=by rw[qad kq];exact hE.sub
    simp(disch:=omega) only[go_sem,b1,b3,lq,cb (ev _),hT.prim,qab]
   by_cases hn:0≤n
   · have hn':¬n<0:=by omega
     by_cases h8:l.length≤8
     · have h8':¬(8:Int)< (es.length:Int):=by omega
       have ct:=qji hT (g:=232) (cap:=[]) (f:=fun x=>!qav x) (m:=m) (by rw[hT.prim];rfl) hs hl he sh1 (by omega);have hany:(!l.any fun x=>!qav x)=qb3 l:=by rw[qb2,List.all_eq_not_any_not]
       by_cases k1:k=1
       · subst k1;by_cases hz:0<l.length
         · have hz':(0:Int)< (es.length:Int):=by omega
           have b11:((1:Int)==1)=true:=rfl;simp(disch:=omega) only[go_sem,hH1,c1,c3,l0,l1,l2,hn',hz',b11,td];simp[qav,hn,hz]
         · have hz':¬(0:Int)< (es.length:Int):=by omega
           have b11:((1:Int)==1)=true:=rfl;have b12:((1:Int) !=1)=false:=rfl;simp(disch:=omega) only[go_sem,hH1,c1,c3,l0,l1,l2,hn',hz',b11,b12,h8',cb ct,hT.prim,qab,td];rw[hany];simp[qav,hn,hz,h8]
       · have b1:(k==1)=false:=by simpa using k1
         have b2:(k !=1)=true:=by simpa using k1
         by_cases k2:k=2
         · subst k2;have b3:((2:Int) !=2)=false:=rfl;simp(disch:=omega) only[go_sem,hH1,c1,c3,l0,l1,l2,hn',b1,b2,b3,h8',cb ct,hT.prim,qab,td];rw[hany];simp[qav,hn,h8]
         · have b3:(k !=2)=true:=by simpa using k2
           simp(disch:=omega) only[go_sem,hH1,c1,c3,l0,l1,hn',b1,b2,b3,td];simp[qav,k1,k2]
     · have h8':(8:Int)< (es.length:Int):=by omega
       have hf:qav (.mk k n l)=false:=by simp[qav];intros;omega
       rw[hf];by_cases k1:k=1
       · subst k1;have hz':(0:Int)< (es.length:Int):=by omega
         have b11:((1:Int)==1)=true:=rfl;simp(disch:=omega) only[go_sem,hH1,c1,c3,l0,l1,l2,hn',hz',b11,td]
       · have b1:(k==1)=false:=by simpa using k1
         have b2:(k !=1)=true:=by simpa using k1
         by_cases k2:k=2
         · subst k2;have b3:((2:Int) !=2)=false:=rfl;simp(disch:=omega) only[go_sem,hH1,c1,c3,l0,l1,l2,hn',b1,b2,b3,h8',td]
         · have b3:(k !=2)=true:=by simpa using k2
           simp(disch:=omega) only[go_sem,hH1,c1,c3,l0,l1,hn',b1,b2,b3,td]
   · have hn':n<0:=by omega
     have hf:qav (.mk k n l)=false:=by simp[qav,hn]
     rw[hf];simp(disch:=omega) only[go_sem,hH1,c1,c3,l1,hn',td]
include hT in
theorem shapedM_ev{t:Tm}{p:PV}(ht:EncM t p)(h:Hp):Ev T 185 [p] h (ba (.bool (qav t)) h):=by obtain⟨k,n,l,sz,es,m,rfl,rfl,hs,hl,he⟩:=ht;exact shapedA_ev hT (.mk k n l sz es hs hl he) m h
end Go.Proofs.Tryz
namespace Go.Proofs.Tryz
open Go Go.AE
open Go.AE.Obj (row)
variable {T:Tbl}(hT:Std T){s:GSig}
mutual
def qbq(s:GSig):Tm→Int→Bool
 |.mk k n l,a=>!(k==1)&& (match s.ops[n.toNat]? with
   |some o=>o.res==a&&decide (o.args.length=l.length)&&qgu s l o.args
   |none=>false)
def qgu(s:GSig):Ts→IL→Bool
 |[],_=>true
 |t::l,bs=>qbq s t (bs.getD 0 0)&&qgu s l (bs.drop 1)
end
theorem qkk{s:GSig}:∀{l:Ts}{bs:IL}(i:Nat){x:Tm},l[i]?=some x→qbq s x (bs.getD i 0)=false→qgu s l bs=false
 |t::l,bs,0,x,hx,h=>by
   simp only[List.getElem?_cons_zero,Option.some.injEq]at hx;subst hx;simp only[qgu,h,Bool.false_and]
 |t::l,bs,i+1,x,hx,h=>by have:=qkk (s:=s) (l:=l) (bs:=bs.drop 1) i (x:=x) (by simpa using hx) (by rw[gD0,List.getElem?_drop,Nat.add_comm 1 i,←gD0];exact h);simp only[qgu,this,Bool.and_false]
mutual
def qb1(s:GSig)(vs:IL):Tm→Int→Bool
 |.mk k n l,a=>if k=1 then decide (n< (vs.length:Int))&&vs.getD n.toNat (-1)==a else(match s.ops[n.toNat]? with
   |some o=>o.res==a&&decide (o.args.length=l.length)&&qb9 s vs l o.args
   |none=>false)
def qb9(s:GSig)(vs:IL):Ts→IL→Bool
 |[],_=>true
 |t::l,bs=>qb1 s vs t (bs.getD 0 0)&&qb9 s vs l (bs.drop 1)
end
theorem qiu{s:GSig}{vs:IL}:∀{l:Ts}{bs:IL}(i:Nat){x:Tm},l[i]?=some x→qb1 s vs x (bs.getD i 0)=false→qb9 s vs l bs=false
 |t::l,bs,0,x,hx,h=>by
   simp only[List.getElem?_cons_zero,Option.some.injEq]at hx;subst hx;simp only[qb9,h,Bool.false_and]
 |t::l,bs,i+1,x,hx,h=>by have:=qiu (s:=s) (vs:=vs) (l:=l) (bs:=bs.drop 1) i (x:=x) (by simpa using hx) (by rw[gD0,List.getElem?_drop,Nat.add_comm 1 i,←gD0];exact h);simp only[qb9,this,Bool.and_false]
theorem qkj{s:GSig}{vs:IL}:∀{l:Ts}{bs:IL},(∀(i:Nat)(x:Tm),l[i]?=some x→qb1 s vs x (bs.getD i 0)=true)→qb9 s vs l bs=true
 |[],_,_=>rfl
 |t::l,bs,h=>by
   have h1:=h 0 t rfl;have h2:=qkj (s:=s) (vs:=vs) (l:=l) (bs:=bs.drop 1) fun i x hx=>by have:=h (i+1) x (by simpa using hx);rw[gD0,List.getElem?_drop,Nat.add_comm 1 i,←gD0];exact this
   simp only[qb9,h1,h2,Bool.and_self]
include hT in
theorem varV_ev{vs:IL}{zv:Nat}{mv:SM}(hzv:vs=[]∨zv=1){h:Hp}{kv:Nat}(hv:h[kv]?=some (.row 1 [.slice zv (vs.map encI) mv])){n a:Int}(hn:0≤n):Ev T 132 [iv0 n,iv0 a,.pb kv] h (ba (.bool (decide (n< (vs.length:Int))&&vs.getD n.toNat (-1)==a)) h):=by
 refine hT.wk fn132 (by decide) ?_;have lv:loadAt false 1 (.pb kv) h=some (.slice zv (vs.map encI) mv):=by rw[qad hv];rfl
 obtain⟨N,rfl⟩:=iZ0 hn;by_cases hN:N<vs.length
 · have hN':(N:Int)< (vs.length:Int):=by omega
   have gk:=qee hN;have hz:zv=1:=by grind
   subst hz;have gd:vs.getD N (-1)=vs[N]:=by simp[gD0,hN]
   simp only[decide_eq_true hN',Int.toNat_natCast,gd,Bool.true_and];simp(disch:=omega) only[go_sem,lv,hN',gk,lM0]
 · have hN':¬(N:Int)< (vs.length:Int):=by omega
   simp only[decide_eq_false hN',Bool.false_and];simp(disch:=omega) only[go_sem,lv,hN',lM0]
include hT in
theorem typedV_ev{vs:IL}{zv:Nat}{mv:SM}(hzv:vs=[]∨zv=1)(hs:GOk s){t:Tm}{p:PV}(ht:Enc t p):qav t=true→∀(a:Int)(h:Hp)(kv:Nat),h[kv]?=some (.row 1 [.slice zv (vs.map encI) mv])→
 Ev T 131 [qaf s,p,iv0 a,.func (.func 132) [] [.pb kv]] h (ba (.bool (qb1 s vs t a)) h):=by
 have hc:=ht.cells;have hf:=ht.facts;have hsb:=ht.sub;induction ht with
 |mk k n l sz es hz hl he ih=>
   intro hsh a h kv hv;refine hT.wk fn131 (by decide) ?_;obtain⟨c1,c2,c3,c4⟩:=hc;have hsh':=hsh;simp only[qav,bA0,dE0,qb2]at hsh;obtain⟨⟨⟨⟨hn,_⟩,hk12⟩,hl8⟩,hall⟩:=hsh;obtain⟨N,rfl⟩:=iZ0 hn;generalize hP:PV.agg [iv0 k,iv0 (N:Int),.slice sz es .any]=P at*;have kg:=gC0 (l:=h) (a:=row 2 [qaf s]);have kv1:=qah (o2:=row 2 [qaf s]) hv;have low1:Low h.length h (h++[row 2 [qaf s]]):=(Low.refl _ _).push (nR0 _);have hl1:(h++[row 2 [qaf s]]).length=h.length+1:=by simp
   generalize hH1:h++[row 2 [qaf s]]=H1 at*;have kp:=gC0 (l:=H1) (a:=row 3 [P]);have kg2:=qah (o2:=row 3 [P]) kg;have kv2:=qah (o2:=row 3 [P]) kv1;have low2:=low1.push (o:=row 3 [P]) (by omega);have hl2:(H1++[row 3 [P]]).length=h.length+2:=by simp[hl1]
   generalize hH2:H1++[row 3 [P]]=H2 at*;have l0:loadAt false 1 (.pb H1.length) H2=some (iv0 k):=by rw[qad kp,←hP];rfl
   have l1:loadAt false 1 (.ptr H1.length 0 1 1) H2=some (iv0 (N:Int)):=by rw[qad kp,←hP];rfl
   have l2:loadAt false 1 (.ptr H1.length 0 2 1) H2=some (.slice sz es .any):=by rw[qad kp,←hP];rfl
   have lg:loadAt false 1 (.ptr h.length 0 1 1) H2=some (.slice 3 (s.ops.map qao) .any):=by rw[qad kg2];rfl
   have td:∀b,tidy 0 h.length (.val (.bool b)) ⟨H2,[],[]⟩=(ba (.bool b) h):=fun b=>qan rfl rfl low2 (by simp);by_cases hk:k=1
   · subst hk;have e2:=varV_ev hT hzv kv2 (n:=(N:Int)) (a:=a) (by omega);have b11:((1:Int)==1)=true:=rfl;simp(disch:=omega) only[go_sem,hH1,hH2,c1,c3,l0,l1,b11,cb e2,hT.prim,qab,td];simp[qb1]
   · have hkb:(k==1)=false:=by simpa using hk
     by_cases hNO:N<s.ops.length
     · have go:=ql9 hNO;have ho:s.ops[N]?=some s.ops[N]:=gE0 hNO;obtain⟨a1,a2,a3⟩:=hs.ops _ (mG0 ho);generalize s.ops[N]=o at*;have hNO':¬s.ops.length≤N:=by omega
       have so2:sub false 1 (qao o) 2=some (iv0 o.res):=rfl;have so1:sub false 1 (qao o) 1=some (.slice 1 (o.args.map encI) .any):=rfl;by_cases hr:o.res=a
       · have hr':(o.res !=a)=false:=by simp[hr]
         by_cases hal:o.args.length=l.length
         · have hal':((o.args.length:Int) !=(es.length:Int))=false:=by simp;omega
           have hF:qb1 s vs (.mk k N l) a=qb9 s vs l o.args:=by simp[qb1,ho,hr,hal,hk]
           rw[hF];simp(disch:=first|omega|decide|simp only[go_sem]) only[go_sem,hH1,hH2,c1,c3,l0,l1,l2,lg,hkb,hNO',go,so2,so1,hr',hal',hT.prim]
           refine wpC.loopM (fun g e st=> ∃(i:Nat)(H:Hp)(ws:NL),i+g=es.length∧Low h.length h H∧H[h.length]?=some (.row 2 [qaf s])∧H[H1.length]?=some (.row 3 [P])∧H[kv]?=some (.row 1 [.slice zv (vs.map encI) mv])∧(∀x∈ws,h.length≤x)∧(∀(j:Nat)(x:Tm),j<i→l[j]?=some x→qb1 s vs x (o.args.getD j 0)=true)∧eget e 3=.func (.func 132) [] [.pb kv]∧eget e 4=.pb h.length∧eget e 5=.pb H1.length∧eget e 51=.slice sz es .any∧eget e 52=iv0 (es.length:Int)∧eget e 53=iv0 (i:Int)∧st=⟨H,ws,[]⟩) ?_ es.length _ _
            ⟨0,H2,[],by omega,low2,kg2,kp,kv2,by simp,fun j x hj=>by omega,by simp only[go_sem],by simp only[go_sem],by simp only[go_sem],by simp only[go_sem],by simp only[go_sem],by simp only[go_sem];rfl,rfl⟩
           rintro g e st ⟨i,H,ws,hi,low,kg,kp,kv',hw,hok,e3,e4,e5,e51,e52,e53,rfl⟩;by_cases h1:i<es.length
           · have ga:=qbt h1;have hx:l[i]?=some l[i]:=gE0 (by omega);have hE:=he i l[i] es[i] hx ga;have hshx:qav l[i]=true:=List.all_eq_true.1 hall _ (gX0 _);have ihx:=ih i l[i] es[i] hx ga hE.cells hE.facts hE.sub hshx;generalize l[i]=x at*;have hsz:sz=3:=by grind
             subst hsz;obtain⟨b1,b2,b3,b4⟩:=hE.cells;have bt:=hE.facts.1;have bs:=hE.sub;generalize es[i]=q at*;have sb:=qa5 (h:=H) (ws:=ws) (ups:=[]) (z:=zq3) (sz:=3) (c:=q) b1 rfl b2 bt ⟨_,rfl⟩ b4;have kq:=gC0 (l:=H) (a:=row 3 [q]);have kg3:=qah (o2:=row 3 [q]) kg;have kp3:=qah (o2:=row 3 [q]) kp;have kv3:=qah (o2:=row 3 [q]) kv';have hHl:=low.len;have low3:=low.push (o:=row 3 [q]) hHl;generalize hH5:H++[row 3 [q]]=H5 at*;have lq:loadAt true 3 (.pb H.length) H5=some q:=by rw[qad kq];exact bs
             have m1:loadAt false 1 (.ptr H1.length 0 1 1) H5=some (iv0 (N:Int)):=by rw[qad kp3,←hP];rfl
             have mg:loadAt false 1 (.ptr h.length 0 1 1) H5=some (.slice 3 (s.ops.map qao) .any):=by rw[qad kg3];rfl
             have ms:loadAt true 2 (.pb h.length) H5=some (qaf s):=by rw[qad kg3];rfl
             have hia:i<o.args.length:=by omega
             have gA:=qee hia;have gD:o.args.getD i 0=o.args[i]:=by simp[gD0,hia]
             have ev:=ihx (o.args[i]) H5 kv kv3;have hw':∀x∈wadd H.length ws,h.length≤x:=qae hHl hw;cases hb:qb1 s vs x o.args[i]
             · rw[hb]at ev;have hfal:=qiu (s:=s) (vs:=vs) (bs:=o.args) i hx (by rw[gD];exact hb);rw[hfal];simp(disch:=first|omega|decide|simp only[go_sem]) only[go_sem,qmt,e3,e4,e5,e51,e52,e53,h1,ga,bs,sb,lq,m1,mg,ms,go,so1,gA,cb ev,hT.q];exact qan rfl rfl low3 hw'
             · rw[hb]at ev;simp(disch:=first|omega|decide|simp only[go_sem]) only[go_sem,qmt,e3,e4,e5,e51,e52,e53,h1,ga,bs,sb,lq,m1,mg,ms,go,so1,gA,cb ev,hT.q];refine⟨g - 1,by omega,i+1,H5,_,by omega,low3,kg3,kp3,kv3,hw',fun j y hj hy=>?_,rfl,rfl⟩;by_cases hji:j=i
               ·grind
               ·exact hok j y (by omega) hy
           · have htr:qb9 s vs l o.args=true:=qkj fun i x hx=>hok i x (by have:=(gI0.1 hx).1;omega) hx;rw[htr];simp(disch:=omega) only[go_sem,qmt,e52,e53,h1];exact qan rfl rfl low hw
         · have hal':((o.args.length:Int) !=(es.length:Int))=true:=by simp;omega
           simp(disch:=first|omega|decide|simp only[go_sem]) only[go_sem,hH1,hH2,c1,c3,l0,l1,l2,lg,hkb,hNO',go,so2,so1,hr',hal',td];simp[qb1,ho,hal,hk]
       · have hr':(o.res !=a)=true:=by simpa using hr
         simp(disch:=first|omega|decide|simp only[go_sem]) only[go_sem,hH1,hH2,c1,c3,l0,l1,lg,hkb,hNO',go,so2,hr',td];simp[qb1,ho,hr,hk]
     · have hNO':s.ops.length≤N:=by omega
       simp(disch:=first|omega|decide|simp only[go_sem]) only[go_sem,hH1,hH2,c1,c3,l0,l1,lg,hkb,hNO',td];simp[qb1,List.getElem?_eq_none hNO',hk]
mutual
theorem qnd:∀(t:Tm)(a:Int),qav t=true→qb1 s [] t a=qbq s t a
 |.mk k n l,a,h=>by
   simp only[qav,bA0,dE0]at h;obtain⟨⟨⟨⟨hn,_⟩,_⟩,_⟩,hl⟩:=h;unfold qb1;simp only[qbq];by_cases hk:k=1
   ·grind
   · have hk':(k==1)=false:=by simpa using hk
     rw[if_neg hk,hk'];cases s.ops[n.toNat]? with
     |none=>rfl
     |some o=>simp only[qll l o.args hl,Bool.not_false,Bool.true_and]
theorem qll:∀(l:Ts)(bs:IL),qb3 l=true→qb9 s [] l bs=qgu s l bs
 |[],_,_=>rfl
 |t::l,bs,h=>by simp only[qb3,bA0]at h;simp only[qb9,qgu,qnd t _ h.1,qll l _ h.2]
end
def sortR(s:GSig)(t:Tm):Int×Int:=match t with
 |.mk k n l=>if qav (.mk k n l)=true∧k=2 then(match s.ops[n.toNat]? with
  |some o=>if qbq s (.mk k n l) o.res=true then(o.res,0)else(0,4)
  |none=>(0,4))else(0,4)
end Go.Proofs.Tryz
namespace Go.Proofs.Tryz
open Go Go.AE
def a9:AFunc:=⟨3,93,(sr0 [rp 3 (.box 2 (.t 0)),ro 6 (.move cF)] (.seq (sr0 [rp 17 (.call (.f 15) []),ro 18 (no 17)] (cn0 18 (sr0 [ro 6 (.move cF)] .ret) .skip)) (.seq (sr0 [rp 19 (la true 2 3),rp 20 (.call (.f 16) [(.t 19)]),ro 21 (no 20)] (cn0 21 (sr0 [ro 6 (.move cT)] .ret) .skip)) (sr0 [rp 23 (la true 2 3),mv 24 1,rp 25 (.call (.f 56) [(.t 23),(.t 24)]),mv 22 25,ro 26 (et 22 0),ro 27 (et 22 1),rp 7 (.box 3 (.c zq3)),ws 3 7 26,mv 8 27] (sr0 [rp 29 (la true 2 3),mv 30 1,rp 31 (.call (.f 57) [(.t 29),(.t 30)]),mv 28 31,ro 32 (et 28 0),ro 33 (et 28 1),rp 9 (.box 3 (.c zq3)),ws 3 9 32,mv 10 33] (sr0 [rp 35 (la true 2 3),mv 36 1,mv 37 2,rp 38 (.call (.f 44) [(.t 35),(.t 36),(.t 37)]),mv 34 38,ro 39 (et 34 0),ro 40 (et 34 1),mv 11 39,mv 12 40] (sr0 [rp 42 (la true 2 3),mv 43 1,mv 44 2,rp 45 (.call (.f 58) [(.t 42),(.t 43),(.t 44)]),mv 41 45,ro 46 (et 41 0),ro 47 (et 41 1),mv 13 46,mv 14 47] (.seq (sr0 [rp 48 (l3 7),rp 49 (l3 9),rp 50 (.call (.f 22) [(.t 48),(.t 49)]),ro 51 (no 50),mv 52 51,rg 53 (mo 8) 52 false,rg 54 (mo 10) 52 false,rg 55 (bi .neq 53 54) 52 false,ro 56 (.pick (.t 52) cT (.t 55)),mv 57 56,rg 58 (mo 11) 57 false,rg 59 (mo 13) 57 false,rg 60 (bi .neq 58 59) 57 false,ro 61 (.pick (.t 57) cT (.t 60)),mv 62 61,rg 63 (mo 12) 62 false,rg 64 (mo 14) 62 false,rg 65 (bi .neq 63 64) 62 false,ro 66 (.pick (.t 62) cT (.t 65))] (cn0 66 (sr0 [ro 6 (.move cF)] .ret) .skip)) (.seq (sr0 [rp 67 (la true 2 3),mv 68 2,rp 69 (.call (.f 27) [(.t 67),(.t 68)]),ro 70 (no 69)] (cn0 70 (sr0 [ro 6 (.move cT)] .ret) .skip)) (sr0 [rp 72 (la true 2 3),mv 73 1,mv 74 2,rp 75 (.call (.f 59) [(.t 72),(.t 73),(.t 74)]),mv 71 75,ro 76 (et 71 0),ro 77 (et 71 1),mv 15 76,mv 8 77] (sr0 [rp 79 (la true 2 3),mv 80 1,mv 81 2,rp 82 (.call (.f 60) [(.t 79),(.t 80),(.t 81)]),mv 78 82,ro 83 (et 78 0),ro 84 (et 78 1),mv 16 83,mv 10 84] (sr0 [mv 85 15,mv 86 16,rp 87 (.call (.f 32) [(.t 85),(.t 86),(.f 22)]),mv 88 87,rg 89 (mo 8) 88 true,rg 90 (mo 10) 88 true,rg 91 (bi .eql 89 90) 88 true,ro 92 (.pick (.t 88) (.t 91) cF),mv 6 92] .ret)))))))))))),[.t 6]⟩
def a138b0:ACode:=(.seq (sr0 [mv 34 8,mv 35 7,ro 36 (ll 35),lo 37 34 36] (cn0 37 .skip (.exit 0))) (.block 1 (.regD [mv 38 8,rd 39 (mo 7) false 1 0 false,rd 40 (mo 8) false 2 0 false,rd 41 (.slice 1 (.t 39) (some (.t 40)) none none) false 3 6 false,rd 42 (mo 7) false 4 0 false,rd 43 (mo 8) false 5 0 true,rd 44 (.slice 1 (.t 42) none (some (.t 43)) none) false 6 48 true,rd 45 (.copy 1 (.t 41) (.t 44)) true 7 126 true,rd 46 (bi .add 38 45) false 8 255 true,rd 8 (mo 46) false 9 511 true])))
def a138:AFunc:=⟨2,48,(sr0 [ro 4 (.move (.c .sn))] (.seq (sr0 [mv 9 1,ro 10 (bc .lss 9 0)] (cn0 10 (.reg [ro 11 (.mkIface 9 (.c (.str ⟨#[99,97,110,110,111,116,32,98,101,32,110,101,103,97,116,105,118,101]⟩))),wr (.pan (.t 11)) 0 0 false]) .skip)) (sr0 [mv 13 0,ro 14 (ll 13),ro 15 (.convInt .u64 (.t 14)),mv 16 1,ro 17 (.convInt .u64 (.t 16)),rp 18 (.call (.f 193) [(.t 15),(.t 17)]),mv 12 18,ro 19 (et 12 0),ro 20 (et 12 1),mv 5 19,mv 6 20] (.seq (sr0 [mv 21 5,ro 22 (.bin .gtr (.t 21) (.c (.int .u64 0))),mv 23 22,rg 24 (mo 6) 23 false,rg 25 (.bin .gtr (.t 24) (.c (.int .u64 9223372036854775807))) 23 false,ro 26 (.pick (.t 23) cT (.t 25))] (cn0 26 (.reg [ro 27 (.mkIface 9 (.c (.str ⟨#[116,104,101,32,114,101,115,117,108,116,32,111,102,32,40,108,101,110,40,120,41,32,42,32,99,111,117,110,116,41,32,111,118,101,114,102,108,111,119,115]⟩))),wr (.pan (.t 27)) 0 0 false]) .skip)) (sr0 [mv 28 6,ro 29 (.convInt .i64 (.t 28)),rp 30 (.makeSlice 1 (.int .i64 0) 8 (.t 29) (.t 29)),mv 7 30] (sr0 [mv 31 7,mv 32 0,rp 33 (.copy 1 (.t 31) (.t 32)),mv 8 33] (.seq (bl0 0 a138b0) (sr0 [mv 47 7,mv 4 47] .ret)))))))),[.t 4]⟩
theorem fn138:fnOf 138=some a138:=by kernel_rfl
def a193:AFunc:=⟨2,30,(sr0 [ro 4 (.move (.c (.int .u64 0))),ro 5 (.move (.c (.int .u64 0)))] (.seq (.cond cF (sr0 [mv 11 0,ro 12 (.convInt .u32 (.t 11)),mv 13 1,ro 14 (.convInt .u32 (.t 13)),rp 15 (.call (.f 239) [(.t 12),(.t 14)]),mv 10 15,ro 16 (et 10 0),ro 17 (et 10 1),mv 6 16,mv 7 17] (sr0 [mv 18 6,ro 19 (.convInt .u64 (.t 18)),mv 20 7,ro 21 (.convInt .u64 (.t 20)),mv 4 19,mv 5 21] .ret)) .skip) (sr0 [mv 23 0,mv 24 1,rp 25 (.call (.f 240) [(.t 23),(.t 24)]),mv 22 25,ro 26 (et 22 0),ro 27 (et 22 1),mv 8 26,mv 9 27] (sr0 [mv 28 8,mv 29 9,mv 4 28,mv 5 29] .ret)))),[.t 4,.t 5]⟩
theorem fn193:fnOf 193=some a193:=by kernel_rfl
def a240:AFunc:=⟨2,51,(sr0 [ro 4 (.move (.c (.int .u64 0))),ro 5 (.move (.c (.int .u64 0)))] (sr0 [mv 14 0,ro 15 (.bin .and (.t 14) (.c (.int .u64 4294967295))),mv 6 15] (sr0 [mv 16 0,ro 17 (.bin .shr (.t 16) (.c (.int .u64 32))),mv 7 17] (sr0 [mv 18 1,ro 19 (.bin .and (.t 18) (.c (.int .u64 4294967295))),mv 8 19] (sr0 [mv 20 1,ro 21 (.bin .shr (.t 20) (.c (.int .u64 32))),mv 9 21] (sr0 [mv 22 6,mv 23 8,ro 24 (bi .mul 22 23),mv 10 24] (sr0 [mv 25 7,mv 26 8,ro 27 (bi .mul 25 26),mv 28 10,ro 29 (.bin .shr (.t 28) (.c (.int .u64 32))),ro 30 (bi .add 27 29),mv 11 30] (sr0 [mv 31 11,ro 32 (.bin .and (.t 31) (.c (.int .u64 4294967295))),mv 12 32] (sr0 [mv 33 11,ro 34 (.bin .shr (.t 33) (.c (.int .u64 32))),mv 13 34] (sr0 [mv 35 12,mv 36 6,mv 37 9,ro 38 (bi .mul 36 37),ro 39 (bi .add 35 38),mv 12 39] (sr0 [mv 40 7,mv 41 9,ro 42 (bi .mul 40 41),mv 43 13,ro 44 (bi .add 42 43),mv 45 12,ro 46 (.bin .shr (.t 45) (.c (.int .u64 32))),ro 47 (bi .add 44 46),mv 4 47] (sr0 [mv 48 0,mv 49 1,ro 50 (bi .mul 48 49),mv 5 50] .ret)))))))))))),[.t 4,.t 5]⟩
theorem fn240:fnOf 240=some a240:=by kernel_rfl
def a125:AFunc:=⟨1,6,(sr0 [rp 1 (.box 3 (.t 0)),c0 2] (.seq (sr0 [rp 3 (l3 1),rp 4 (.call (.f 130) [(.t 3)]),ro 5 (no 4)] (cn0 5 (sr0 [ro 2 (.move (ci 4))] .ret) .skip)) (sr0 [c0 2] .ret))),[.t 2]⟩
theorem fn125:fnOf 125=some a125:=by kernel_rfl
end Go.Proofs.Tryz
namespace Go.Proofs.Tryz
open Go Go.AE
open Go.AE.Obj (row)
variable {T:Tbl}(hT:Std T)
theorem qoc{l:Ts}{i:Nat}{t:Tm}(h:l[i]?=some t):qf7 (l.take (i+1))=max (qf7 (l.take i)) t.deep:=by
 induction l generalizing i with
 |nil=>simp at h
 |cons x l ih=>
   cases i with
   |zero=>
     simp only[List.getElem?_cons_zero,Option.some.injEq]at h;subst h;simp[qf7]
   |succ i=>
     have:=ih (by simpa using h);simp only[List.take_succ_cons,qf7];omega
theorem qlc:∀(l:Ts)(i:Nat),qf7 (l.take i)≤qf7 l
 |[],i=>by simp
 |x::l,0=>by simp[qf7]
 |x::l,i+1=>by have:=qlc l i;simp only[List.take_succ_cons,qf7];omega
theorem ql2:∀(l:Ts)(i:Nat),qba (l.take i)≤qba l
 |[],i=>by simp
 |x::l,0=>by simp[qba]
 |x::l,i+1=>by have:=ql2 l i;simp only[List.take_succ_cons,qba];omega
def qom(nd dp d:Int)(n dt:Nat)(nd' dp':Int):Prop:=
 (nd+n≤2000∧d - 1+dt≤200∧nd'=nd+n∧dp'=max dp (d - 1+dt))∨(¬(nd+n≤2000∧d - 1+dt≤200)∧(nd'≤2001∧dp'≤201)∧(2000<nd'∨200<dp')∧0≤nd'∧0≤dp')
include hT in
theorem countA_ev{t:Tm}{p:PV}(ht:Enc t p):∀(m:SM)(h:Hp)(km:Nat)(nd dp d:Int),h[km]?=some (mRow nd dp)→0≤nd∧nd≤2000→0≤dp∧dp≤200→1≤d∧d≤201→
 ∃nd' dp' ws',Ev T 133 [.pb km,mrk m p,iv0 d] h (.val (.tuple []),⟨h.set km (mRow nd' dp'),ws',[]⟩)∧qom nd dp d t.nodes t.deep nd' dp'∧∀x∈ws',x=km:=by
 induction ht with
 |mk k n l sz es hs hl he ih=>
   intro m h km nd dp d hk hnd hdp hd;have hc:(PV.agg [iv0 k,iv0 n,.slice sz es m]).cells.length=3∧(PV.agg [iv0 k,iv0 n,.slice sz es m]).cells.all PV.isCell=true∧(PV.agg [iv0 k,iv0 n,.slice sz es m]).isDef=true∧∃cs,PV.agg [iv0 k,iv0 n,.slice sz es m]=.agg cs:=⟨rfl,rfl,rfl,_,rfl⟩
   have W:∃(x:Int×Int×NL),Ev T 133 [.pb km,.agg [iv0 k,iv0 n,.slice sz es m],iv0 d] h (.val (.tuple []),⟨h.set km (mRow x.1 x.2.1),x.2.2,[]⟩)∧(qom nd dp d (Tm.mk k n l).nodes (Tm.mk k n l).deep x.1 x.2.1∧∀y∈x.2.2,y=km):=by
    refine hT.wp (r:=fun(x:Int×Int×NL)=>(.val (.tuple []),⟨h.set km (mRow x.1 x.2.1),x.2.2,[]⟩)) fn133 (by decide) ?_;simp only[Tm.nodes,Tm.deep];have hlt:=(gI0.1 hk).1;have M0:=Mod.refl hk;generalize hP:PV.agg [iv0 k,iv0 n,.slice sz es m]=P at*;have M1:Mod h (h++[row 3 [P]]) km (mRow nd dp):=M0.push;have kb:=gC0 (l:=h) (a:=row 3 [P]);generalize hH1:h++[row 3 [P]]=H1 at*;have l0:loadAt false 1 (.pb km) H1=some (iv0 nd):=by rw[qad M1.get];rfl
    have s0:=fun ws ups=>st2_0 (ws:=ws) (ups:=ups) (v:=nd+1) M1.get;have M2:=M1.put (o':=mRow (nd+1) dp);have kb2:(H1.set km (mRow (nd+1) dp))[h.length]?=some (.row 3 [P]):=qaa kb (by omega);have e2:H1.set km (.row 2 [.agg [iv0 (nd+1),iv0 dp]])=H1.set km (mRow (nd+1) dp):=rfl;generalize H1.set km (mRow (nd+1) dp)=H2 at*;have l1:loadAt false 1 (.ptr km 0 1 1) H2=some (iv0 dp):=by rw[qad M2.get];rfl
    have s1:=fun ws ups=>st2_1 (ws:=ws) (ups:=ups) (v:=max dp d) M2.get;have M3:=M2.put (o':=mRow (nd+1) (max dp d));have kb3:(H2.set km (mRow (nd+1) (max dp d)))[h.length]?=some (.row 3 [P]):=qaa kb2 (by omega);have e3:H2.set km (.row 2 [.agg [iv0 (nd+1),iv0 (max dp d)]])=H2.set km (mRow (nd+1) (max dp d)):=rfl;generalize H2.set km (mRow (nd+1) (max dp d))=H3 at*;have l2:loadAt false 1 (.ptr h.length 0 2 1) H3=some (.slice sz es m):=by rw[qad kb3,←hP];rfl
    obtain⟨c1,_,c3,_⟩:=hc;simp(disch:=omega) only[go_sem,hH1,l0,s0,e2,l1,s1,e3,l2,c1,c3,List.length_cons]
    refine wpC.loopM (fun g e st=> ∃(i:Nat)(nd1 dp1:Int)(H:Hp)(ws:NL),i+g=es.length∧Mod h H km (mRow nd1 dp1)∧qom nd dp d (1+qba (l.take i)) (1+qf7 (l.take i)) nd1 dp1∧okWs h km ws∧(eget e 0=.pb km∧eget e 2=iv0 d∧eget e 25=.slice sz es m∧eget e 26=iv0 (es.length:Int)∧eget e 27=iv0 (i:Int))∧st=⟨H,ws,[]⟩) ?_ es.length _ _
     ⟨0,nd+1,max dp d,H3,_,by omega,M3,?_,okWs.add (okWs.add (fun x hx=>by simp at hx) (.inl rfl)) (.inl rfl),by simp only[go_sem,zN0],rfl⟩
    · rintro g e st ⟨i,nd1,dp1,H,ws,hi,M,C,W,⟨e0,e2,e25,e26,e27⟩,rfl⟩;by_cases h1:i<es.length
      · have h1':(i:Int)< (es.length:Int):=by omega
        have ga:=qbt h1;have hx:l[i]?=some l[i]:=gE0 (by omega);have hE:=he i l[i] es[i] hx ga;have ihx:=ih i l[i] es[i] hx ga .any;rw[mrk_any hE]at ihx;have htk:=ql1 hx;have hdk:=qoc hx;have hlen:i≤qba (l.take i):=by have:=qcd (l.take i);rw[lT0]at this;omega
        have hpos:=ql0 l[i];generalize l[i]=x at*;have hsz:sz=3:=by grind
        subst hsz;obtain⟨b1,b2,b3,b4⟩:=hE.cells;have bt:=hE.facts.1;have bs:=hE.sub;generalize es[i]=q at*;have sb:=qa5 (h:=H) (ws:=ws) (ups:=[]) (z:=zq3) (sz:=3) (c:=q) b1 rfl b2 bt ⟨_,rfl⟩ b4;have M1:=M.push (o':=row 3 [q]);have kq:=gC0 (l:=H) (a:=row 3 [q]);generalize hH5:H++[row 3 [q]]=H5 at*;have ln:loadAt false 1 (.pb km) H5=some (iv0 nd1):=by rw[qad M1.get];rfl
        have ld:loadAt false 1 (.ptr km 0 1 1) H5=some (iv0 dp1):=by rw[qad M1.get];rfl
        have lq:loadAt true 3 (.pb H.length) H5=some q:=by rw[qad kq];exact bs
        have hMl:=M.len;by_cases ho:2000<nd1∨200<dp1
        · have C2:qom nd dp d (1+qba l) (1+qf7 l) nd1 dp1:=by
           have ll3:=ql2 l i;have ll4:=qlc l i;rcases C with⟨a1,a2,a3,a4⟩|⟨a1,a2,a3,a4⟩
           ·omega
           ·exact .inr ⟨fun h=>a1 ⟨by omega,by omega⟩,a2,a3,a4⟩
          obtain⟨ws',ht1,ht2⟩:=qbo (v:=.tuple []) rfl M1 (W.add (k:=H.length) (.inr hMl));by_cases n1:2000<nd1
          · simp(disch:=omega) only[go_sem,qr4,e0,e25,e26,e27,h1',ga,bs,sb,ln,n1,ll0,ht1];exact⟨(nd1,dp1,ws'),rfl,C2,ht2⟩
          · have n2:200<dp1:=by omega
            simp(disch:=omega) only[go_sem,qr4,e0,e25,e26,e27,h1',ga,bs,sb,ln,ld,n1,n2,ll0,ht1];exact⟨(nd1,dp1,ws'),rfl,C2,ht2⟩
        · have n1:¬(2000:Int)<nd1:=by omega
          have n2:¬(200:Int)<dp1:=by omega
          have C1:nd+(1+qba (l.take i):Nat)≤2000∧d - 1+(1+qf7 (l.take i):Nat)≤200∧nd1=nd+(1+qba (l.take i):Nat)∧dp1=max dp (d - 1+(1+qf7 (l.take i):Nat)):=by
           rcases C with C|⟨_,_,a3,a4⟩
           ·omega
           ·omega
          obtain⟨q1,q2,q3,q4⟩:=C1;obtain⟨nd2,dp2,ws2,ev,P2,hw2⟩:=ihx H5 km nd1 dp1 (d+1) M1.get (by omega) (by omega) (by omega);simp(disch:=omega) only[go_sem,qr4,e0,e2,e25,e26,e27,h1',ga,bs,sb,ln,ld,lq,n1,n2,cb ev,hT.q];refine⟨g - 1,by omega,i+1,nd2,dp2,_,_,by omega,M1.put,?_,okWs.wall (fun y hy=>.inl (hw2 y hy)) (W.add (.inr hMl)),rfl,rfl⟩;rw[htk,hdk];rcases P2 with⟨a1,a2,a3,a4⟩|⟨a1,a2,a3,a4⟩
          ·exact .inl ⟨by omega,by omega,by omega,by omega⟩
          ·exact .inr ⟨fun h=>a1 ⟨by omega,by omega⟩,a2,a3,a4⟩
      · have h1':¬(i:Int)< (es.length:Int):=by omega
        have:i=l.length:=by omega
        subst this;obtain⟨ws',ht1,ht2⟩:=qbo (v:=.tuple []) rfl M W;simp(disch:=omega) only[go_sem,qr4,e26,e27,h1',ht1];rw[List.take_length]at C;exact⟨(nd1,dp1,ws'),rfl,C,ht2⟩
    · simp only[List.take_zero,qba,qf7];by_cases hf:nd+1≤2000∧d≤200
      ·exact .inl ⟨by omega,by omega,by omega,by omega⟩
      ·exact .inr ⟨fun h=>hf ⟨by omega,by omega⟩,⟨by omega,by omega⟩,by omega,by omega,by omega⟩
   obtain⟨x,h1,h2,h3⟩:=W;exact⟨x.1,x.2.1,x.2.2,h1,h2,h3⟩
include hT in
theorem qrj{t:Tm}{p:PV}(ht:EncM t p):∀(h:Hp)(km:Nat)(nd dp d:Int),h[km]?=some (mRow nd dp)→0≤nd∧nd≤2000→0≤dp∧dp≤200→1≤d∧d≤201→
 ∃nd' dp' ws',Ev T 133 [.pb km,p,iv0 d] h (.val (.tuple []),⟨h.set km (mRow nd' dp'),ws',[]⟩)∧qom nd dp d t.nodes t.deep nd' dp'∧∀x∈ws',x=km:=by
 obtain⟨k,n,l,sz,es,m,rfl,rfl,hs,hl,he⟩:=ht;exact countA_ev hT (.mk k n l sz es hs hl he) m
include hT in
theorem countG_ev{t:Tm}{p:PV}(ht:Enc t p):∀(h:Hp)(km:Nat)(nd dp d:Int),h[km]?=some (mRow nd dp)→0≤nd∧nd≤2000→0≤dp∧dp≤200→1≤d∧d≤201→
 ∃nd' dp' ws',Ev T 133 [.pb km,p,iv0 d] h (.val (.tuple []),⟨h.set km (mRow nd' dp'),ws',[]⟩)∧qom nd dp d t.nodes t.deep nd' dp'∧∀x∈ws',x=km:=by
 exact qrj hT ht.m
include hT in
theorem overG_ev{h:Hp}{km:Nat}{nd dp:Int}(hk:h[km]?=some (mRow nd dp)):Ev T 134 [.pb km] h (ba (.bool (decide (2000<nd)||decide (200<dp))) h):=by
 refine hT.wk fn134 (by decide) ?_;have l0:loadAt false 1 (.pb km) h=some (iv0 nd):=by rw[qad hk];rfl
 have l1:loadAt false 1 (.ptr km 0 1 1) h=some (iv0 dp):=by rw[qad hk];rfl
 by_cases n1:(2000:Int)<nd
 ·simp(disch:=omega) only[go_sem,l0,n1,Bool.true_or]
 ·simp(disch:=omega) only[go_sem,l0,l1,n1,Bool.false_or]
def qa1(t:Tm):Bool:=decide (t.nodes≤2000)&&decide (t.deep≤200)&&qav t
include hT in
theorem treeM_ev{t:Tm}{p:PV}(ht:EncM t p)(h:Hp):Ev T 130 [p] h (ba (.bool (qa1 t)) h):=by
 refine hT.wk fn130 (by decide) ?_;obtain⟨c1,_,c3,_⟩:=ht.cells;have hs:=ht.sub;have kp:=gC0 (l:=h) (a:=row 3 [p]);have low1:Low h.length h (h++[row 3 [p]]):=(Low.refl _ _).push (nR0 _);have hl1:(h++[row 3 [p]]).length=h.length+1:=by simp
 generalize hH1:h++[row 3 [p]]=H1 at*;have km:(H1++[row 2 [PV.agg [iv0 0,iv0 0]]])[H1.length]?=some (mRow 0 0):=by simp[mRow]
 have kp2:=qah (o2:=row 2 [PV.agg [iv0 0,iv0 0]]) kp;have low2:=low1.push (o:=row 2 [PV.agg [iv0 0,iv0 0]]) (by omega);generalize hH2:H1++[row 2 [PV.agg [iv0 0,iv0 0]]]=H2 at*;have lp:loadAt true 3 (.pb h.length) H2=some p:=by rw[qad kp2];exact hs
 obtain⟨nd,dp,ws,ev,C,hw⟩:=qrj hT ht H2 H1.length 0 0 1 km (by omega) (by omega) (by omega);have km3:(H2.set H1.length (mRow nd dp))[H1.length]?=some (mRow nd dp):=qak km;have kp3:(H2.set H1.length (mRow nd dp))[h.length]?=some (.row 3 [p]):=qaa kp2 (by omega);have low3:Low h.length h (H2.set H1.length (mRow nd dp)):=low2.trans (.set (by omega));generalize H2.set H1.length (mRow nd dp)=H3 at*;have ov:=overG_ev hT km3;have lp3:loadAt true 3 (.pb h.length) H3=some p:=by rw[qad kp3];exact hs
 have sh:=shapedM_ev hT ht H3;have td:=fun b ws' (hx:∀x∈ws',h.length≤x)=>qan (v:=.bool b) (ws:=ws') rfl rfl low3 hx;have hww:∀x∈ws,h.length≤x:=fun x hx=>by have:=hw x hx;omega
 by_cases hf:t.nodes≤2000∧t.deep≤200
 · have o1:(decide (2000<nd)||decide (200<dp))=false:=by
    rcases C with⟨_,_,a3,a4⟩|⟨a1,_⟩
    ·grind
    ·omega
   have tb:qa1 t=qav t:=by simp[qa1,hf]
   rw[o1]at ov;rw[tb];simp(disch:=omega) only[go_sem,hH1,c1,c3,hH2,lp,cb ev,cb ov,lp3,cb sh,hT.q]
   exact qan rfl rfl low3 (fun x hx=>by
    repeat' first|exact hww x hx|(cases hx;done)|(rcases qat hx with hx|hx))
 · have o1:(decide (2000<nd)||decide (200<dp))=true:=by
    rcases C with⟨a1,a2,_⟩|⟨_,_,a1,_⟩
    ·omega
    ·grind
   have tb:qa1 t=false:=by
    unfold qa1;rcases Nat.lt_or_ge 2000 t.nodes with h1|h1
    ·grind
    ·grind
   rw[o1]at ov;rw[tb];simp(disch:=omega) only[go_sem,hH1,c1,c3,hH2,lp,cb ev,cb ov,hT.q]
   exact qan rfl rfl low3 (fun x hx=>by
    repeat' first|exact hww x hx|(cases hx;done)|(rcases qat hx with hx|hx))
include hT in
theorem qiv{t:Tm}{p:PV}(ht:Enc t p)(h:Hp):Ev T 130 [p] h (ba (.bool (qa1 t)) h):=treeM_ev hT ht.m h
include hT in
theorem qoq{t:Tm}{p:PV}(ht:EncM t p)(h:Hp):Ev T 125 [p] h (ba (iv0 (if qa1 t=true then 0 else 4)) h):=by
 refine hT.wk fn125 (by decide) ?_;have c:=treeM_ev hT ht;obtain⟨c1,c2,c3,c4⟩:=ht.cells;have hs:=ht.sub;have low1:Low h.length h (h++[row 3 [p]]):=(Low.refl _ _).push (nR0 _);cases hb:qa1 t
 · rw[hb]at c;simp(disch:=omega) only[go_sem,hT.prim,qab,c1,c3,hs,cb (c _)]
 · rw[hb]at c;simp(disch:=omega) only[go_sem,hT.prim,qab,c1,c3,hs,cb (c _)]
include hT in
theorem treeE_ev{t:Tm}{p:PV}(ht:Enc t p)(h:Hp):Ev T 125 [p] h (ba (iv0 (if qa1 t=true then 0 else 4)) h):=qoq hT ht.m h
mutual
def tmB:Tm→Tm→Bool
 |.mk k n l,.mk k' n' l'=>(k==k')&& ((n==n')&&tmBL l l')
def tmBL:Ts→Ts→Bool
 |[],[]=>true
 |x::l,y::l'=>tmB x y&&tmBL l l'
 |_,_=>false
end
mutual
theorem qgb:∀t u:Tm,tmB t u=true↔t=u
 |.mk k n l,.mk k' n' l'=>by simp only[tmB,bA0,beq_iff_eq,qek l l',Tm.mk.injEq]
theorem qek:∀l l':Ts,tmBL l l'=true↔l=l'
 |[],[]=>by simp[tmBL]
 |[],y::l'=>by simp[tmBL]
 |x::l,[]=>by simp[tmBL]
 |x::l,y::l'=>by simp only[tmBL,bA0,qgb x y,qek l l',List.cons.injEq]
end
theorem tmBL_false{l l':Ts}{i:Nat}{x y:Tm}(hx:l[i]?=some x)(hy:l'[i]?=some y)(h:tmB x y=false):tmBL l l'=false:=by rw[Bool.eq_false_iff];intro hc;rw[(qek l l').1 hc,hy]at hx;cases hx;rw[(qgb _ _).2 rfl]at h;cases h
theorem tmBL_len{l l':Ts}(h:l.length≠l'.length):tmBL l l'=false:=by rw[Bool.eq_false_iff];intro hc;exact h (by rw[(qek l l').1 hc])
theorem tmBL_true{l l':Ts}(hl:l.length=l'.length)(h:∀(i:Nat)(x y:Tm),l[i]?=some x→l'[i]?=some y→tmB x y=true):tmBL l l'=true:=by
 rw[qek];apply List.ext_getElem?;intro i;by_cases hi:i<l.length
 · have:=(qgb _ _).1 (h i _ _ (gE0 hi) (gE0 (by omega)));rw[gE0 hi,gE0 (by omega),this]
 ·grind
include hT in
theorem qrd{l l':Ts}{sz sz':Nat}{es fs:PL}(hs:es=[]∨sz=3)(hs':fs=[]∨sz'=3)(hl:es.length=l.length)(hl':fs.length=l'.length)(hb:l.length<5000)(he:∀(i:Nat)(x:Tm)(p:PV),l[i]?=some x→es[i]?=some p→Enc x p)(hf:∀(i:Nat)(x:Tm)(p:PV),l'[i]?=some x→fs[i]?=some p→Enc x p)
 (ih:∀(i:Nat)(x y:Tm)(p q:PV),l[i]?=some x→l'[i]?=some y→es[i]?=some p→fs[i]?=some q→∀h,Ev T 22 [p,q] h (ba (.bool (tmB x y)) h))(h:Hp):
 Ev T 32 [.slice sz es .any,.slice sz' fs .any,.func (.func 22) [] []] h (ba (.bool (tmBL l l')) h):=by
 refine hT.wk fn32 (by decide) ?_;by_cases hlen:es.length=fs.length
 · simp(disch:=omega) only[go_sem,bne_self_eq_false,hlen];refine wpC.loopM (fun n e st=> ∃(i:Nat)(H:Hp)(ws:NL),i+n=fs.length∧Low h.length h H∧(∀k∈ws,h.length≤k)∧(∀(j:Nat)(x y:Tm),j<i→l[j]?=some x→l'[j]?=some y→tmB x y=true)∧(eget e 1=.slice sz' fs .any∧eget e 2=.func (.func 22) [] []∧eget e 15=.slice sz es .any∧eget e 16=iv0 (fs.length:Int)∧eget e 17=iv0 (i:Int))∧st=⟨H,ws,[]⟩) ?_ fs.length _ _ ⟨0,h,[],by omega,Low.refl _ _,by simp,fun j x y hj=>by omega,by simp(disch:=omega) only[go_sem,zN0,and_self],rfl⟩;rintro n e st ⟨i,H,ws,hi,low,hw,hall,⟨e1,e2,e15,e16,e17⟩,rfl⟩;by_cases h1:i<fs.length
   · have ga:=qbt (show i<es.length by omega);have gb:=qbt h1;have gl:=qk8 (show i<l.length by omega);have gl':=qk8 (show i<l'.length by omega);have tx:=he i _ _ gl ga;have ty:=hf i _ _ gl' gb;have ex:=ih i _ _ _ _ gl gl' ga gb;have hsz:sz=3:=by grind
     have hsz':sz'=3:=by grind
     subst hsz hsz';obtain⟨c1,c2,c3,c4⟩:=tx.cells;have tt:=tx.facts.1;have ts:=tx.sub;obtain⟨d1,d2,d3,d4⟩:=ty.cells;have dt:=ty.facts.1;have ds:=ty.sub;generalize fs[i]=y at*;generalize es[i]'(by omega)=x at*;generalize l[i]'(by omega)=t1 at*;generalize l'[i]'(by omega)=t2 at*;have s1:=qa5 (h:=H) (ws:=ws) (ups:=[]) (z:=zq3) (sz:=3) (c:=x) c1 rfl c2 tt ⟨_,rfl⟩ c4;have s2:=qa5 (h:=H++[row 3 [x]]) (ws:=wadd H.length ws) (ups:=[]) (z:=zq3) (sz:=3) (c:=y) d1 rfl d2 dt ⟨_,rfl⟩ d4;have b1:=gC0 (l:=H) (a:=row 3 [x]);have b1':=qah (o2:=row 3 [y]) b1;have b2:=gC0 (l:=(H++[row 3 [x]])) (a:=row 3 [y]);have low2:Low h.length h ((H++[row 3 [x]])++[row 3 [y]]):=by have:=low.len;exact(low.push (by omega)).push (by simp;omega)
     have hHl:=low.len;generalize hk2:(H++[row 3 [x]]).length=k2 at*;have hk2':h.length≤k2:=by rw[←hk2];simp;omega
     generalize hH2:(H++[row 3 [x]])++[row 3 [y]]=H2 at*;have l1:loadAt true 3 (.pb H.length) H2=some x:=by rw[qad b1',ts]
     have l2:loadAt true 3 (.pb k2) H2=some y:=by rw[qad b2,ds]
     cases htb:tmB t1 t2
     · rw[htb]at ex;have hf2:=tmBL_false gl gl' htb;rw[hf2];simp(disch:=omega) only[go_sem,a32b0,e1,e2,e15,e16,e17,h1,ga,gb,s1,s2,hk2,ts,ds,l1,l2,cb (ex H2),hT.q];exact qan rfl rfl low2 (qae (by omega) (qae (by omega) hw))
     · rw[htb]at ex;simp(disch:=omega) only[go_sem,a32b0,e1,e2,e15,e16,e17,h1,ga,gb,s1,s2,hk2,ts,ds,l1,l2,cb (ex H2),hT.q];refine⟨n - 1,by omega,i+1,H2,wadd k2 (wadd H.length ws),by omega,low2,qae (by omega) (qae (by omega) hw),fun j x y hj hx hy=>?_,rfl,rfl⟩;by_cases hji:j=i
       ·grind
       ·grind
   · have htr:tmBL l l'=true:=tmBL_true (by omega) fun j x y hx hy=>hall j x y (by have:=(gI0.1 hx).1;omega) hx hy;rw[htr];simp(disch:=omega) only[go_sem,a32b0,e16,e17,h1];exact qan rfl rfl low hw
 · have hne:((es.length:Int) !=(fs.length:Int))=true:=by rw[bne_iff_ne];omega
   rw[tmBL_len (by omega)];simp(disch:=omega) only[go_sem,hne]
include hT in
theorem qfm{t:Tm}{p:PV}(hp:Enc t p):∀u q,Enc u q→t.nodes≤4000→∀h,Ev T 22 [p,q] h (ba (.bool (tmB t u)) h):=by
 induction hp with
 |mk k n l sz es hs hl he ih=>
   intro u q hq hn h
   obtain⟨k',n',l',sz',fs,rfl,hs',hl',hf,rfl⟩:∃(k' n':Int)(l':Ts)(sz':Nat)(fs:PL),u=.mk k' n' l'∧(fs=[]∨sz'=3)∧fs.length=l'.length∧(∀(i:Nat)(x:Tm)(p:PV),l'[i]?=some x→fs[i]?=some p→Enc x p)∧q=.agg [iv0 k',iv0 n',.slice sz' fs .any]:=by
    cases hq with
    |mk k' n' l' sz' fs hs' hl' hf=>exact⟨k',n',l',sz',fs,rfl,hs',hl',hf,rfl⟩
   refine hT.wk fn22 (by decide) ?_;simp only[Tm.nodes]at hn;have hll:=qcd l;have b1:=gC0 (l:=h) (a:=row 3 [PV.agg [iv0 k,iv0 n,.slice sz es .any]]);generalize hH1:h++[row 3 [PV.agg [iv0 k,iv0 n,.slice sz es .any]]]=H1 at*;have b1':=qah (o2:=row 3 [PV.agg [iv0 k',iv0 n',.slice sz' fs .any]]) b1;have b2:=gC0 (l:=H1) (a:=row 3 [PV.agg [iv0 k',iv0 n',.slice sz' fs .any]]);have low:Low h.length h (H1++[row 3 [PV.agg [iv0 k',iv0 n',.slice sz' fs .any]]]):=by rw[←hH1];exact((Low.refl _ _).push (nR0 _)).push (by simp)
   generalize hH2:H1++[row 3 [PV.agg [iv0 k',iv0 n',.slice sz' fs .any]]]=H2 at*;have l0:∀j:Nat,loadAt false 1 (.ptr h.length 0 j 1) H2=([PV.int .i64 k,iv0 n,.slice sz es .any])[j]?:=fun j=>by rw[qad b1'];rfl
   have l1:∀j:Nat,loadAt false 1 (.ptr H1.length 0 j 1) H2=([PV.int .i64 k',iv0 n',.slice sz' fs .any])[j]?:=fun j=>by rw[qad b2];rfl
   have eq:=qrd hT hs hs' hl hl' (by omega) he hf (fun i x y p q hx hy hp hq=>by have hm:=qc6 (mG0 hx);exact ih i x p hx hp y q (hf i y q hy hq) (by omega)) H2;have td:∀b,tidy 0 h.length (.val (.bool b)) ⟨H2,[],[]⟩=(ba (.bool b) h):=fun b=>qan rfl rfl low (by simp);simp only[tmB];by_cases hk:k=k'
   · have hk':(k==k')=true:=by simpa using hk
     by_cases hn2:n=n'
     · have hn':(n==n')=true:=by simpa using hn2
       simp(disch:=omega) only[go_sem,hH1,hH2,l0,l1,hk',hn',cb eq,hT.q,td,Bool.true_and]
     · have hn':(n==n')=false:=by simpa using hn2
       simp(disch:=omega) only[go_sem,hH1,hH2,l0,l1,hk',hn',td,ll0,Bool.true_and,Bool.false_and]
   · have hk':(k==k')=false:=by simpa using hk
     simp(disch:=omega) only[go_sem,hH1,hH2,l0,l1,hk',td,ll0,Bool.false_and]
end Go.Proofs.Tryz
namespace Go.Proofs.Tryz
open Go Go.AE
def a23b0:ACode:=(sr0 [lo 40 39 38] (.seq (cn0 40 .skip (.exit 2)) (.seq (.block 3 (sr0 [ro 41 (ix 6 37 39),rp 42 (la true 6 41),rp 7 (.box 6 (.c zq6)),ws 6 7 42] (.reg [mv 43 3,ro 44 (fa 0 7),rp 45 (l3 44),ro 46 (fa 3 7),rp 47 (l3 46),ro 48 (.buildSlice 3 zq3 2 [(0,(.t 45)),(1,(.t 47))]),rp 49 (.append 3 40 (.t 43) (.t 48)),mv 3 49]))) (.reg [nx 50 39,mv 39 50]))))
def a23b1:ACode:=(sr0 [lo 16 15 14] (.seq (cn0 16 .skip (.exit 0)) (.seq (.block 1 (sr0 [ro 17 (ix 8 13 15),rp 18 (la true 8 17),rp 5 (.box 8 (.c zq8)),ws 8 5 18] (sr0 [mv 19 3,ro 20 (fa 2 5),rp 21 (l3 20),ro 22 (fa 5 5),rp 23 (l3 22),ro 24 (.buildSlice 3 zq3 2 [(0,(.t 21)),(1,(.t 23))]),rp 25 (.append 3 40 (.t 19) (.t 24)),mv 3 25] (.seq (sr0 [ro 26 (fa 1 5),rp 27 (l1 26),ro 28 (ll 27),ro 29 (bc .gtr 28 20),mv 30 29,rg 31 (fa 0 5) 30 false,rh 32 (l1 31) 30 false,rg 33 (ll 32) 30 false,rg 34 (bc .gtr 33 100) 30 false,ro 35 (.pick (.t 30) cT (.t 34))] (cn0 35 (sr0 [ro 2 (.move cF)] .ret) .skip)) (sr0 [ro 36 (fa 1 5),rp 37 (l1 36),ro 38 (ll 37),c0 39] (bl0 2 a23b0)))))) (.reg [nx 51 15,mv 15 51]))))
def a23:AFunc:=⟨1,59,(sr0 [rp 1 (.box 3 (.t 0)),ro 2 (.move cF)] (.seq (sr0 [ro 8 (fa 2 1),rp 9 (l1 8),ro 10 (ll 9),ro 11 (bc .gtr 10 30)] (cn0 11 (sr0 [ro 2 (.move cF)] .ret) .skip)) (sr0 [ro 3 (.move (.c .sn))] (.seq (sr0 [ro 12 (fa 2 1),rp 13 (l1 12),ro 14 (ll 13),c0 15] (bl0 0 a23b1)) (sr0 [ro 52 (fa 0 1),rp 53 (la true 2 52),rp 54 (.call (.f 16) [(.t 53)]),mv 55 54,rg 56 (mo 3) 55 true,rh 57 (.call (.f 17) [(ci 600),(.t 56)]) 55 true,ro 58 (.pick (.t 55) (.t 57) cF),mv 2 58] .ret))))),[.t 2]⟩
theorem fn23:fnOf 23=some a23:=by kernel_rfl
def a24:AFunc:=⟨1,11,(sr0 [ro 2 (.move cF)] (sr0 [mv 3 0,ro 4 (ll 3),ro 5 (bc .leq 4 30),mv 6 5,rg 7 (mo 0) 6 true,rh 8 (.call (.f 101) [(.t 7),(.f 102)]) 6 true,rg 9 (no 8) 6 true,ro 10 (.pick (.t 6) (.t 9) cF),mv 2 10] .ret)),[.t 2]⟩
theorem fn24:fnOf 24=some a24:=by kernel_rfl
def a50:AFunc:=⟨2,24,(sr0 [rp 2 (.box 3 (.t 0)),rp 3 (.box 3 (.t 1)),rp 4 (.box 3 (.c zq3)),c0 5] (sr0 [rp 9 (l3 2),rp 10 (l3 3),ro 11 (.buildSlice 3 zq3 1 [(0,(.t 10))]),rp 12 (.call (.f 136) [(.t 9),(.t 11)]),mv 8 12,ro 13 (et 8 0),ro 14 (et 8 1),mv 6 13,mv 7 14] (.seq (sr0 [mv 15 7,ro 16 (bc .neq 15 0)] (cn0 16 (sr0 [ro 17 (.build [(.int .i64 0),(.int .i64 0),.sn] []),mv 18 7,ws 3 4 17,mv 5 18] .ret) .skip)) (sr0 [mv 19 6,rp 20 (l3 3),rp 21 (.call (.f 137) [(.t 19),(.t 20)]),ro 22 (et 21 0),ro 23 (et 21 1),ws 3 4 22,mv 5 23] .ret)))),[.cell 4 true 3,.t 5]⟩
theorem fn50:fnOf 50=some a50:=by kernel_rfl
def a62:AFunc:=⟨2,33,(sr0 [rp 2 (.box 3 (.t 0)),rp 3 (.box 3 (.t 1)),c0 4] (.seq (sd0 [ro 6 (fa 0 2),rd 7 (l1 6) true 1 1 false,rd 8 (fa 0 3) false 2 0 false,rd 9 (l1 8) true 3 4 false,rd 10 (.call (.f 147) [(.t 7),(.t 9)]) true 4 15 false,rd 11 (fa 1 2) false 5 0 false,rd 12 (l1 11) true 6 32 false,rd 13 (fa 1 3) false 7 0 false,rd 14 (l1 13) true 8 128 false,rd 15 (.call (.f 147) [(.t 12),(.t 14)]) true 9 511 false,rd 16 (fa 2 2) false 10 0 false,rd 17 (l1 16) true 11 1024 false,rd 18 (ll 17) false 12 3072 false,rd 19 (fa 2 3) false 13 0 true,rd 20 (l1 19) true 14 8192 true,rd 21 (ll 20) false 15 24576 true,rd 22 (.call (.f 147) [(.t 18),(.t 21)]) true 16 65535 true,rd 23 (.buildSlice 1 (.int .i64 0) 3 [(0,(.t 10)),(1,(.t 15)),(2,(.t 22))]) false 17 131071 true,rd 24 (.call (.f 146) [(.t 23)]) true 18 262143 true,rd 5 (mo 24) false 19 524287 true] (sr0 [mv 25 5,ro 26 (bc .neq 25 0)] (cn0 26 (sr0 [mv 27 5,mv 4 27] .ret) .skip))) (sr0 [ro 28 (fa 2 2),rp 29 (l1 28),ro 30 (fa 2 3),rp 31 (l1 30),rp 32 (.call (.f 148) [(.t 29),(.t 31),(.f 62)]),mv 4 32] .ret))),[.t 4]⟩
theorem fn62:fnOf 62=some a62:=by kernel_rfl
def a101:AFunc:=⟨2,9,(sr0 [ro 4 (.move cF)] (sr0 [mv 5 0,mv 6 1,rp 7 (.call (.f 175) [(.t 5),(.t 6)]),ro 8 (bc .geq 7 0),mv 4 8] .ret)),[.t 4]⟩
theorem fn101:fnOf 101=some a101:=by kernel_rfl
def a102:AFunc:=⟨1,11,(sr0 [ro 2 (.move cF)] (sr0 [mv 3 0,ro 4 (ll 3),ro 5 (bc .gtr 4 80),mv 6 5,rg 7 (mo 0) 6 false,rh 8 (.call (.f 17) [(ci 1000),(.t 7)]) 6 false,rg 9 (no 8) 6 false,ro 10 (.pick (.t 6) cT (.t 9)),mv 2 10] .ret)),[.t 2]⟩
theorem fn102:fnOf 102=some a102:=by kernel_rfl
def a103:AFunc:=⟨1,6,(sr0 [rp 1 (.box 3 (.t 0)),c0 2] (.seq (sr0 [rp 3 (l3 1),rp 4 (.call (.f 176) [(.t 3)]),ro 5 (no 4)] (cn0 5 (sr0 [ro 2 (.move (ci 5))] .ret) .skip)) (sr0 [c0 2] .ret))),[.t 2]⟩
theorem fn103:fnOf 103=some a103:=by kernel_rfl
def qmu:ACode:=(sr0 [lo 38 37 36] (.seq (cn0 38 .skip (.exit 2)) (.seq (.block 3 (sr0 [mv 39 37,ro 40 (ix 3 35 37),rp 41 (l3 40),rp 8 (.box 3 (.c zq3)),mv 7 39,ws 3 8 41] (sr0 [ro 43 (fa 0 2),rp 44 (la true 2 43),rp 45 (l3 8),rp 46 (.call (.f 45) [(.t 44),(.c .sn),(.t 45)]),mv 42 46,ro 47 (et 42 0),ro 48 (et 42 1),mv 9 47,mv 10 48] (sd0 [rd 49 (mo 10) false 0 0 true,rd 50 (bc .neq 49 0) false 1 1 true,rd 51 (mo 50) false 2 3 true,⟨(some 52),mo 9,(some (51,false)),false,3,7,false⟩,⟨(some 53),mo 5,(some (51,false)),false,4,7,true⟩,⟨(some 54),bi .neq 52 53,(some (51,false)),false,5,31,true⟩,rd 55 (.pick (.t 51) cT (.t 54)) false 6 63 true,rd 56 (mo 55) false 7 127 true,⟨(some 57),mo 7,(some (56,false)),false,8,255,true⟩,⟨(some 58),bc .gtr 57 0,(some (56,false)),false,9,511,true⟩,⟨(some 59),mo 58,(some (56,false)),false,10,1023,true⟩,⟨(some 60),mo 6,(some (59,true)),false,11,2047,false⟩,⟨(some 61),mo 7,(some (59,true)),false,12,2047,false⟩,⟨(some 62),bc .sub 61 1,(some (59,true)),false,13,6143,false⟩,⟨(some 63),ix 3 60 62,(some (59,true)),false,14,16383,false⟩,⟨(some 64),l3 63,(some (59,true)),true,15,32767,false⟩,⟨(some 65),l3 8,(some (59,true)),true,16,2047,true⟩,⟨(some 66),.call (.f 62) [(.t 64),(.t 65)],(some (59,true)),true,17,131071,true⟩,⟨(some 67),bc .geq 66 0,(some (59,true)),false,18,262143,true⟩,⟨(some 68),.pick (.t 59) (.t 67) cF,(some (56,false)),false,19,524287,true⟩,rd 69 (.pick (.t 56) cT (.t 68)) false 20 1048575 true] (cn0 69 (sr0 [ro 4 (.move (ci 90))] .ret) .skip))))) (.reg [nx 70 37,mv 37 70]))))
def a104b1:ACode:=(sr0 [lo 28 27 26] (.seq (cn0 28 .skip (.exit 0)) (.seq (.block 1 (sr0 [mv 29 27,ro 30 (ix 1 25 27),rp 31 (l1 30),mv 5 29,mv 6 31] (.seq (sr0 [mv 32 6,ro 33 (ll 32),ro 34 (bc .gtr 33 64)] (cn0 34 (sr0 [ro 4 (.move (ci 90))] .ret) .skip)) (sr0 [mv 35 6,ro 36 (ll 35),c0 37] (bl0 2 qmu))))) (.reg [nx 71 27,mv 27 71]))))
def qr5:ACode:=(sr0 [lo 81 80 79] (.seq (cn0 81 .skip (.exit 6)) (.seq (.block 7 (sr0 [ro 82 (ix 3 78 80),rp 83 (l3 82),rp 15 (.box 3 (.c zq3)),ws 3 15 83] (sr0 [rp 85 (l3 2),rp 86 (l3 15),rp 87 (.call (.f 50) [(.t 85),(.t 86)]),mv 84 87,ro 88 (et 84 0),ro 89 (et 84 1),rp 16 (.box 3 (.c zq3)),ws 3 16 88,mv 17 89] (sr0 [mv 90 17,ro 91 (bc .neq 90 0)] (cn0 91 (.reg [ro 11 (.move (ci 2))]) (sr0 [rp 92 (l3 15),rp 93 (l3 16),rp 94 (.call (.f 22) [(.t 92),(.t 93)]),ro 95 (no 94)] (cn0 95 (sr0 [ro 4 (.move (ci 90))] .ret) .skip))))))) (.reg [nx 96 80,mv 80 96]))))
def a104b3:ACode:=(sr0 [lo 75 74 73] (.seq (cn0 75 .skip (.exit 4)) (.seq (.block 5 (sr0 [ro 76 (ix 1 72 74),rp 77 (l1 76),mv 13 77] (sr0 [mv 78 13,ro 79 (ll 78),c0 80] (bl0 6 qr5)))) (.reg [nx 97 74,mv 74 97]))))
def a104:AFunc:=⟨2,99,(sr0 [rp 2 (.box 3 (.t 0)),c0 4] (.seq (sr0 [mv 18 1,ro 19 (ll 18),ro 20 (fa 0 2),ro 21 (fa 0 20),rp 22 (l1 21),ro 23 (ll 22),ro 24 (bi .neq 19 23)] (cn0 24 (sr0 [ro 4 (.move (ci 90))] .ret) .skip)) (.seq (sr0 [mv 25 1,ro 26 (ll 25),c0 27] (bl0 0 a104b1)) (sr0 [c0 11] (.seq (sr0 [mv 72 1,ro 73 (ll 72),c0 74] (bl0 4 a104b3)) (sr0 [mv 98 11,mv 4 98] .ret)))))),[.t 4]⟩
theorem fn104:fnOf 104=some a104:=by kernel_rfl
def a136:AFunc:=⟨2,20,(sr0 [rp 2 (.box 3 (.t 0)),ro 4 (.move (.c .nilptr)),c0 5] (sr0 [rp 9 (l3 2),rp 10 (.call (.f 186) [(.t 9)]),mv 8 10,ro 11 (et 8 0),ro 12 (et 8 1),rp 6 (.box 1 (.c .nilptr)),ws 1 6 11,mv 7 12] (.seq (sr0 [mv 13 7,ro 14 (bc .neq 13 0)] (cn0 14 (sr0 [mv 15 7,ro 4 (.move (.c .nilptr)),mv 5 15] .ret) .skip)) (.seq (sr0 [mv 16 1,ro 17 (.mkFunc (.func 187) [] [(.t 6)]),rp 18 (.call (.f 48) [(.t 16),(.t 17)])] (cn0 18 (sr0 [ro 4 (.move (.c .nilptr)),ro 5 (.move (ci 4))] .ret) .skip)) (sr0 [rp 19 (l1 6),mv 4 19,c0 5] .ret))))),[.t 4,.t 5]⟩
theorem fn136:fnOf 136=some a136:=by kernel_rfl
def a137:AFunc:=⟨2,20,(sr0 [rp 3 (.box 3 (.t 1)),rp 4 (.box 3 (.c zq3)),c0 5] (sr0 [rp 6 (.box 3 (.c zq3))] (sr0 [mv 9 0,ro 10 (.build [.nilptr,(.int .i64 0),(.bool false)] [(0,1,(.t 9))]),rp 11 (.box 3 (.t 10)),rp 7 (.box 1 (.c .nilptr)),ws 1 7 11] (.seq (sr0 [ro 12 (.mkFunc (.func 190) [] [(.t 7),(.t 3),(.t 6)]),rp 13 (.call (.f 189) [(.t 12)]),mv 8 13] (sr0 [mv 14 8,ro 15 (bc .neq 14 0)] (cn0 15 (sr0 [ro 16 (.build [(.int .i64 0),(.int .i64 0),.sn] []),mv 17 8,ws 3 4 16,mv 5 17] .ret) .skip))) (sr0 [rp 18 (l3 6),rp 19 (.call (.f 192) [(.t 18)]),ws 3 4 19,c0 5] .ret))))),[.cell 4 true 3,.t 5]⟩
theorem fn137:fnOf 137=some a137:=by kernel_rfl
def qkt:ACode:=(sr0 [lo 9 8 7] (.seq (cn0 9 .skip (.exit 0)) (.seq (.block 1 (sr0 [ro 10 (ix 1 6 8),rp 11 (l1 10),mv 5 11] (sr0 [mv 12 5,mv 13 3,ro 14 (bi .neq 12 13)] (cn0 14 (sr0 [mv 15 5,mv 2 15] .ret) .skip)))) (.reg [nx 16 8,mv 8 16]))))
def a146:AFunc:=⟨1,18,(sr0 [c0 2] (sr0 [c0 3] (.seq (sr0 [mv 6 0,ro 7 (ll 6),c0 8] (bl0 0 qkt)) (sr0 [mv 17 3,mv 2 17] .ret)))),[.t 2]⟩
theorem fn146:fnOf 146=some a146:=by kernel_rfl
def a147:AFunc:=⟨2,20,(sr0 [c0 4] (sr0 [mv 7 0,rp 8 (.call (.f 194) [(.t 7)]),mv 5 8] (sr0 [mv 9 1,rp 10 (.call (.f 194) [(.t 9)]),mv 6 10] (.seq (sr0 [mv 11 5] (cn0 11 (.seq (sr0 [mv 12 6] (cn0 12 (sr0 [c0 4] .ret) .skip)) (sr0 [ro 4 (.move (ci (-1)))] .ret)) .skip)) (.seq (sr0 [mv 13 6] (cn0 13 (sr0 [ro 4 (.move (ci 1))] .ret) .skip)) (.seq (sr0 [mv 14 0,mv 15 1,lo 16 14 15] (cn0 16 (sr0 [ro 4 (.move (ci (-1)))] .ret) .skip)) (.seq (sr0 [mv 17 0,mv 18 1,ro 19 (bi .gtr 17 18)] (cn0 19 (sr0 [ro 4 (.move (ci 1))] .ret) .skip)) (sr0 [c0 4] .ret)))))))),[.t 4]⟩
theorem fn147:fnOf 147=some a147:=by kernel_rfl
def a148b0:ACode:=(sr0 [lo 14 13 12] (.seq (cn0 14 .skip (.exit 0)) (.seq (.block 1 (sr0 [mv 15 13,ro 16 (ix 3 11 13),rp 17 (l3 16),rp 8 (.box 3 (.c zq3)),mv 7 15,ws 3 8 17] (.seq (sr0 [mv 18 7,mv 19 1,ro 20 (ll 19),ro 21 (bi .geq 18 20)] (cn0 21 (sr0 [ro 6 (.move (ci 1))] .ret) .skip)) (sr0 [mv 22 1,mv 23 7,ro 24 (ix 3 22 23),rp 25 (l3 24),rp 9 (.box 3 (.c zq3)),ws 3 9 25] (sr0 [mv 26 2,rp 27 (l3 8),rp 28 (l3 9),rp 29 (.call (.t 26) [(.t 27),(.t 28)]),mv 10 29] (sr0 [mv 30 10,ro 31 (bc .neq 30 0)] (cn0 31 (sr0 [mv 32 10,mv 6 32] .ret) .skip))))))) (.reg [nx 33 13,mv 13 33]))))
def a148:AFunc:=⟨3,39,(sr0 [c0 6] (.seq (sr0 [mv 11 0,ro 12 (ll 11),c0 13] (bl0 0 a148b0)) (.seq (sr0 [mv 34 0,ro 35 (ll 34),mv 36 1,ro 37 (ll 36),lo 38 35 37] (cn0 38 (sr0 [ro 6 (.move (ci (-1)))] .ret) .skip)) (sr0 [c0 6] .ret)))),[.t 6]⟩
theorem fn148:fnOf 148=some a148:=by kernel_rfl
def a156b0:ACode:=(sr0 [lo 11 10 9] (.seq (cn0 11 .skip (.exit 0)) (.seq (.block 1 (sr0 [ro 12 (ix 3 8 10),rp 13 (l3 12),rp 6 (.box 3 (.c zq3)),ws 3 6 13] (.reg [rp 14 (l3 6),ro 15 (.mkFunc (.func 202) [] [(.t 4),(.t 3)]),rp 16 (.call (.f 201) [(.t 14),(.t 15)])]))) (.reg [nx 17 10,mv 10 17]))))
def a156:AFunc:=⟨1,19,(sr0 [ro 2 (.move (.c .sn))] (sr0 [rp 3 (.box 1 (.c .sn))] (sr0 [rp 7 (.makeMap),rp 4 (.box 1 (.c (.map none))),ws 1 4 7] (.seq (sr0 [mv 8 0,ro 9 (ll 8),c0 10] (bl0 0 a156b0)) (sr0 [rp 18 (l1 3),mv 2 18] .ret))))),[.t 2]⟩
theorem fn156:fnOf 156=some a156:=by kernel_rfl
def a157b0:ACode:=(sr0 [lo 24 23 22] (.seq (cn0 24 .skip (.exit 0)) (.seq (.block 1 (sr0 [ro 25 (ix 3 21 23),rp 26 (l3 25),rp 7 (.box 3 (.c zq3)),ws 3 7 26] (.regD [ro 27 (fa 2 5),rd 28 (l1 27) true 1 1 false,rd 29 (l3 7) true 2 0 false,rd 30 (mo 1) false 3 0 true,rd 31 (.call (.f 157) [(.t 29),(.t 30)]) true 4 12 true,rd 32 (.buildSlice 3 zq3 1 [(0,(.t 31))]) false 5 28 true,rd 33 (.append 3 40 (.t 28) (.t 32)) true 6 63 true,rd 34 (fa 2 5) false 7 127 true,wr (so 1 34 33) 8 255 true]))) (.reg [nx 35 23,mv 23 35]))))
def a157:AFunc:=⟨2,37,(sr0 [rp 2 (.box 3 (.t 0)),rp 4 (.box 3 (.c zq3))] (.seq (sr0 [ro 8 (fa 0 2),rp 9 (l1 8),ro 10 (bc .eql 9 1)] (cn0 10 (sr0 [mv 11 1,ro 12 (fa 1 2),rp 13 (l1 12),rp 14 (.call (.t 11) [(.t 13)]),ws 3 4 14] .ret) .skip)) (sr0 [ro 15 (fa 0 2),rp 16 (l1 15),ro 17 (fa 1 2),rp 18 (l1 17),ro 19 (.build [(.int .i64 0),(.int .i64 0),.sn] [(0,1,(.t 16)),(1,1,(.t 18))]),rp 5 (.box 3 (.c zq3)),ws 3 5 19] (.seq (sr0 [ro 20 (fa 2 2),rp 21 (l1 20),ro 22 (ll 21),c0 23] (bl0 0 a157b0)) (sr0 [rp 36 (l3 5),ws 3 4 36] .ret))))),[.cell 4 true 3]⟩
theorem fn157:fnOf 157=some a157:=by kernel_rfl
def a175b0:ACode:=(sr0 [lo 9 8 7] (.seq (cn0 9 .skip (.exit 0)) (.seq (.block 1 (sr0 [mv 10 8,mv 5 10] (sr0 [mv 11 1,mv 12 0,mv 13 5,ro 14 (ix 1 12 13),rp 15 (l1 14),rp 16 (.call (.t 11) [(.t 15)])] (cn0 16 (sr0 [mv 17 5,mv 4 17] .ret) .skip)))) (.reg [nx 18 8,mv 8 18]))))
def a175:AFunc:=⟨2,19,(sr0 [c0 4] (.seq (sr0 [mv 6 0,ro 7 (ll 6),c0 8] (bl0 0 a175b0)) (sr0 [ro 4 (.move (ci (-1)))] .ret))),[.t 4]⟩
theorem fn175:fnOf 175=some a175:=by kernel_rfl
def a176:AFunc:=⟨1,18,(sr0 [rp 1 (.box 3 (.t 0)),ro 2 (.move cF)] (.seq (sr0 [ro 3 (fa 0 1),rp 4 (la true 2 3),rp 5 (.call (.f 87) [(.t 4)]),ro 6 (bc .neq 5 0),mv 7 6,rg 8 (fa 2 1) 7 false,rh 9 (l1 8) 7 false,rg 10 (ll 9) 7 false,rg 11 (bc .gtr 10 400) 7 false,ro 12 (.pick (.t 7) cT (.t 11))] (cn0 12 (sr0 [ro 2 (.move cF)] .ret) .skip)) (sr0 [ro 13 (fa 2 1),rp 14 (l1 13),ro 15 (.mkFunc (.func 216) [] [(.t 1)]),rp 16 (.call (.f 215) [(.t 14),(.t 15)]),ro 17 (no 16),mv 2 17] .ret))),[.t 2]⟩
theorem fn176:fnOf 176=some a176:=by kernel_rfl
def a186b0:ACode:=(sr0 [lo 21 20 19] (.seq (cn0 21 .skip (.exit 0)) (.seq (.block 1 (sr0 [mv 22 20,ro 23 (ix 8 18 20),rp 24 (la true 8 23),rp 7 (.box 8 (.c zq8)),mv 6 22,ws 8 7 24] (.regD [rp 25 (l1 5),rd 26 (nc 25) false 1 1 false,rd 27 (fa 3 26) false 2 3 false,rd 28 (l1 27) true 3 7 false,rd 29 (fa 2 7) false 4 0 false,rd 30 (fa 1 29) false 5 16 false,rd 31 (l1 30) true 6 48 false,rd 32 (l1 5) true 7 0 false,rd 33 (nc 32) false 8 128 false,rd 34 (fa 3 33) false 9 384 false,rd 35 (l1 34) true 10 896 false,rd 36 (fa 2 7) false 11 0 false,rd 37 (fa 1 36) false 12 2048 false,rd 38 (l1 37) true 13 6144 false,rd 39 (.lookup .int .sn false (.t 35) (.t 38)) true 14 16256 false,rd 40 (mo 6) false 15 0 true,rd 41 (.buildSlice 1 (.int .i64 0) 1 [(0,(.t 40))]) false 16 32768 true,rd 42 (.append 1 8 (.t 39) (.t 41)) true 17 130944 true,wr (.mapUpd .int (.t 28) (.t 31) (.t 42)) 18 262143 true]))) (.reg [nx 43 20,mv 20 43]))))
def a186:AFunc:=⟨1,49,(sr0 [rp 1 (.box 3 (.t 0)),ro 2 (.move (.c .nilptr)),c0 3] (.seq (sr0 [rp 8 (l3 1),rp 9 (.call (.f 103) [(.t 8)]),mv 4 9] (sr0 [mv 10 4,ro 11 (bc .neq 10 0)] (cn0 11 (sr0 [mv 12 4,ro 2 (.move (.c .nilptr)),mv 3 12] .ret) .skip))) (sr0 [rp 13 (l3 1),rp 14 (.makeMap),ro 15 (.build [.sn,.sn,.sn,(.map none),.nilFunc] [(0,3,(.t 13)),(3,1,(.t 14))]),rp 16 (.box 5 (.t 15)),rp 5 (.box 1 (.c .nilptr)),ws 1 5 16] (.seq (sr0 [ro 17 (fa 2 1),rp 18 (l1 17),ro 19 (ll 18),c0 20] (bl0 0 a186b0)) (sr0 [rp 44 (l1 5),ro 45 (.mkFunc (.func 233) [] [(.t 5)]),ro 46 (nc 44),ro 47 (fa 4 46),ws 1 47 45] (sr0 [rp 48 (l1 5),mv 2 48,c0 3] .ret)))))),[.t 2,.t 3]⟩
theorem fn186:fnOf 186=some a186:=by kernel_rfl
def a187:AFunc:=⟨2,8,(sr0 [rp 2 (.box 3 (.t 0)),ro 3 (.move cF)] (sr0 [rp 4 (l1 1),rp 5 (l3 2),rp 6 (.call (.f 188) [(.t 4),(.t 5)]),ro 7 (no 6),mv 3 7] .ret)),[.t 3]⟩
theorem fn187:fnOf 187=some a187:=by kernel_rfl
def a188:AFunc:=⟨2,38,(sr0 [rp 3 (.box 3 (.t 1)),ro 4 (.move cF)] (.seq (sr0 [rp 9 (l3 3),rp 10 (.call (.f 125) [(.t 9)]),ro 11 (bc .neq 10 0)] (cn0 11 (sr0 [ro 4 (.move cF)] .ret) .skip)) (.seq (sr0 [ro 12 (fa 0 3),rp 13 (l1 12),ro 14 (bc .eql 13 1)] (cn0 14 (sr0 [ro 4 (.move cT)] .ret) .skip)) (sr0 [mv 16 0,rp 17 (l3 3),rp 18 (.call (.f 199) [(.t 16),(.t 17)]),mv 15 18,ro 19 (et 15 0),ro 20 (et 15 1),mv 5 19,mv 6 20] (.seq (sr0 [mv 21 6,ro 22 (no 21)] (cn0 22 (sr0 [ro 4 (.move cF)] .ret) .skip)) (sd0 [mv 24 0,rd 25 (nc 24) false 1 1 false,rd 26 (fa 0 25) false 2 3 false,rd 27 (fa 0 26) false 3 7 false,rd 28 (la true 2 27) true 4 15 false,rd 29 (l3 3) true 5 0 false,rd 30 (.buildSlice 3 zq3 1 [(0,(.t 29))]) false 6 32 false,rd 31 (mo 5) false 7 0 true,rd 32 (.buildSlice 1 (.int .i64 0) 1 [(0,(.t 31))]) false 8 128 true,rd 33 (.call (.f 200) [(.t 28),(.t 30),(.t 32)]) true 9 511 true,rd 23 (mo 33) false 10 1023 true,rd 34 (et 23 0) false 11 2047 false,rd 35 (et 23 1) false 12 2047 false,rd 7 (mo 34) false 13 4095 true,rd 8 (mo 35) false 14 16383 true] (sr0 [mv 36 8,ro 37 (bc .eql 36 0),mv 4 37] .ret))))))),[.t 4]⟩
theorem fn188:fnOf 188=some a188:=by kernel_rfl
def a190:AFunc:=⟨3,8,(.reg [rp 3 (l1 0),rp 4 (l3 1),ro 5 (.build [.sn,.sn] []),rp 6 (.box 2 (.t 5)),rp 7 (.call (.f 191) [(.t 3),(.t 4),(.c .sn),(.c .nilptr),(.t 6)]),ws 3 2 7]),[]⟩
theorem fn190:fnOf 190=some a190:=by kernel_rfl
def qr2:ACode:=(sr0 [lo 38 37 36] (.seq (cn0 38 .skip (.exit 0)) (.seq (.block 1 (sr0 [mv 39 37,ro 40 (ix 3 35 37),rp 41 (l3 40),rp 13 (.box 3 (.c zq3)),mv 12 39,ws 3 13 41] (.reg [mv 42 11,mv 43 0,rp 44 (l3 13),mv 45 2,mv 46 3,mv 47 12,ro 48 (.build [.nilptr,(.int .i64 0)] [(0,1,(.t 46)),(1,1,(.t 47))]),rp 49 (.box 2 (.t 48)),mv 50 4,rp 51 (.call (.f 191) [(.t 43),(.t 44),(.t 45),(.t 49),(.t 50)]),ro 52 (.buildSlice 3 zq3 1 [(0,(.t 51))]),rp 53 (.append 3 40 (.t 42) (.t 52)),mv 11 53]))) (.reg [nx 54 37,mv 37 54]))))
def qjk:ACode:=(sr0 [lo 69 68 67] (.seq (cn0 69 .skip (.exit 2)) (.seq (.block 3 (sr0 [ro 70 (ix 1 66 68),rp 71 (l1 70),mv 16 71] (sr0 [mv 72 0,ro 73 (nc 72),ro 74 (fa 0 73),rp 75 (l1 74),ro 76 (nc 75),ro 77 (fa 0 76),ro 78 (fa 2 77),rp 79 (l1 78),mv 80 16,ro 81 (ix 8 79 80),rp 82 (la true 8 81),rp 17 (.box 8 (.c zq8)),ws 8 17 82] (sr0 [ro 84 (fa 2 17),rp 85 (l3 84),rp 86 (l3 14),rp 87 (.call (.f 236) [(.t 85),(.t 86)]),mv 83 87,ro 88 (et 83 0),ro 89 (et 83 1),ro 90 (et 83 2),mv 18 88,mv 19 89,mv 20 90] (.seq (sr0 [mv 91 20,ro 92 (bc .neq 91 0),mv 93 92,rg 94 (mo 19) 93 false,rg 95 (no 94) 93 false,ro 96 (.pick (.t 93) cT (.t 95))] (cn0 96 (.exit 3) .skip)) (.seq (sr0 [mv 97 0,ro 98 (nc 97),ro 99 (fa 1 98),rp 100 (l1 99),nx 101 100,ro 102 (nc 97),ro 103 (fa 1 102),ws 1 103 101] (sr0 [mv 104 0,ro 105 (nc 104),ro 106 (fa 1 105),rp 107 (l1 106),ro 108 (bc .gtr 107 20000)] (cn0 108 (.reg [ro 109 (.build [] []),ro 110 (.mkIface 260 (.t 109)),wr (.pan (.t 110)) 0 0 false]) .skip))) (sr0 [mv 112 0,rp 113 (la true 8 17),mv 114 18,rp 115 (.call (.f 237) [(.t 112),(.t 113),(.t 114)]),mv 111 115,ro 116 (et 111 0),ro 117 (et 111 1),mv 21 116,mv 22 117] (.seq (sr0 [mv 118 22,ro 119 (no 118)] (cn0 119 (.exit 3) .skip)) (.seq (sr0 [mv 120 0,ro 121 (nc 120),ro 122 (fa 2 121),rp 123 (l1 122)] (cn0 123 (.regD [mv 124 4,rd 125 (mo 4) false 1 0 false,rd 126 (mo 4) false 2 0 false,rd 127 (nc 126) false 3 4 false,rd 128 (fa 0 127) false 4 12 false,rd 129 (l1 128) true 5 28 false,rd 130 (mo 16) false 6 0 false,rd 131 (mo 21) false 7 0 false,rd 132 (.build [(.int .i64 0),.sn,.sn] [(0,1,(.t 130)),(2,1,(.t 131))]) false 8 192 false,rd 133 (.buildSlice 3 (.agg [(.int .i64 0),.sn,.sn]) 1 [(0,(.t 132))]) false 9 448 false,rd 134 (.append 3 56 (.t 129) (.t 133)) true 10 1020 false,rd 135 (mo 4) false 11 0 false,rd 136 (nc 135) false 12 2048 false,rd 137 (fa 1 136) false 13 6144 false,rd 138 (l1 137) true 14 14336 false,rd 139 (mo 3) false 15 0 true,rd 140 (.buildSlice 1 .nilptr 1 [(0,(.t 139))]) false 16 32768 true,rd 141 (.append 1 8 (.t 138) (.t 140)) true 17 131068 true,rd 142 (nc 124) false 18 262141 true,rd 143 (fa 0 142) false 19 524285 true,wr (so 1 143 134) 20 1048573 true,rd 144 (nc 125) false 21 2097151 true,rd 145 (fa 1 144) false 22 4194303 true,wr (so 1 145 141) 23 8388607 true]) .skip)) (sd0 [mv 146 0,rd 147 (fa 5 17) false 1 0 false,rd 148 (l3 147) true 2 2 false,rd 149 (mo 18) false 3 0 false,rd 150 (.call (.f 238) [(.t 149)]) true 4 8 false,rd 151 (mo 3) false 5 0 false,rd 152 (mo 4) false 6 0 true,rd 153 (.call (.f 191) [(.t 146),(.t 148),(.t 150),(.t 151),(.t 152)]) true 7 127 true,wr (so 3 10 153) 8 255 true] .ret)))))))))) (.reg [nx 154 68,mv 68 154]))))
def a191:AFunc:=⟨5,156,(sr0 [rp 6 (.box 3 (.t 1)),rp 10 (.box 3 (.c zq3))] (.seq (sr0 [ro 23 (fa 0 6),rp 24 (l1 23),ro 25 (bc .eql 24 1)] (cn0 25 (.seq (sr0 [mv 26 2,ro 27 (.eq false .slice (.t 26) (.c .sn))] (cn0 27 (sr0 [rp 28 (l3 6),ws 3 10 28] .ret) .skip)) (sr0 [mv 29 2,ro 30 (fa 1 6),rp 31 (l1 30),ro 32 (ix 3 29 31),rp 33 (l3 32),ws 3 10 33] .ret)) .skip)) (sr0 [ro 11 (.move (.c .sn))] (.seq (sr0 [ro 34 (fa 2 6),rp 35 (l1 34),ro 36 (ll 35),c0 37] (bl0 0 qr2)) (sr0 [rp 55 (l3 6),mv 56 11,rp 57 (.call (.f 235) [(.t 55),(.t 56)]),rp 14 (.box 3 (.c zq3)),ws 3 14 57] (.seq (sd0 [mv 58 0,rd 59 (nc 58) false 1 1 false,rd 60 (fa 0 59) false 2 3 false,rd 61 (l1 60) true 3 7 false,rd 62 (nc 61) false 4 15 false,rd 63 (fa 4 62) false 5 31 false,rd 64 (l1 63) true 6 63 false,rd 65 (l3 14) true 7 0 false,rd 66 (.call (.t 64) [(.t 65)]) true 8 255 false,rd 67 (ll 66) false 9 511 false,rd 68 (.move (ci 0)) false 10 0 true] (bl0 2 qjk)) (sr0 [rp 155 (l3 14),ws 3 10 155] .ret))))))),[.cell 10 true 3]⟩
theorem fn191:fnOf 191=some a191:=by kernel_rfl
def a192b0:ACode:=(sr0 [lo 15 14 13] (.seq (cn0 15 .skip (.exit 0)) (.seq (.block 1 (sr0 [ro 16 (ix 3 12 14),rp 17 (l3 16),rp 5 (.box 3 (.c zq3)),ws 3 5 17] (.regD [ro 18 (fa 2 3),rd 19 (l1 18) true 1 1 false,rd 20 (l3 5) true 2 0 true,rd 21 (.call (.f 192) [(.t 20)]) true 3 4 true,rd 22 (.buildSlice 3 zq3 1 [(0,(.t 21))]) false 4 12 true,rd 23 (.append 3 40 (.t 19) (.t 22)) true 5 31 true,rd 24 (fa 2 3) false 6 63 true,wr (so 1 24 23) 7 127 true]))) (.reg [nx 25 14,mv 14 25]))))
def a192:AFunc:=⟨1,27,(sr0 [rp 1 (.box 3 (.t 0)),rp 2 (.box 3 (.c zq3))] (sr0 [ro 6 (fa 0 1),rp 7 (l1 6),ro 8 (fa 1 1),rp 9 (l1 8),ro 10 (.build [(.int .i64 0),(.int .i64 0),.sn] [(0,1,(.t 7)),(1,1,(.t 9))]),rp 3 (.box 3 (.c zq3)),ws 3 3 10] (.seq (sr0 [ro 11 (fa 2 1),rp 12 (l1 11),ro 13 (ll 12),c0 14] (bl0 0 a192b0)) (sr0 [rp 26 (l3 3),ws 3 2 26] .ret)))),[.cell 2 true 3]⟩
theorem fn192:fnOf 192=some a192:=by kernel_rfl
def a194:AFunc:=⟨1,6,(sr0 [ro 2 (.move cF)] (sr0 [mv 3 0,mv 4 0,ro 5 (bi .neq 3 4),mv 2 5] .ret)),[.t 2]⟩
theorem fn194:fnOf 194=some a194:=by kernel_rfl
def a195:AFunc:=⟨1,5,(sr0 [c0 2] (.seq (sr0 [mv 3 0,rp 4 (.call (.f 48) [(.t 3),(.f 241)])] (cn0 4 (sr0 [ro 2 (.move (ci 4))] .ret) .skip)) (sr0 [c0 2] .ret))),[.t 2]⟩
theorem fn195:fnOf 195=some a195:=by kernel_rfl
def qr1:ACode:=(sr0 [lo 9 8 7] (.seq (cn0 9 .skip (.exit 0)) (.seq (.block 1 (sr0 [ro 10 (ix 3 6 8),rp 11 (l3 10),rp 5 (.box 3 (.c zq3)),ws 3 5 11] (.seq (sr0 [ro 12 (fa 0 5),rp 13 (l1 12),ro 14 (bc .eql 13 1)] (cn0 14 (.reg [mv 15 3,ro 16 (fa 1 5),rp 17 (l1 16),ro 18 (.min true [(.t 15),(.t 17)]),mv 3 18]) .skip)) (.reg [mv 19 3,ro 20 (fa 2 5),rp 21 (l1 20),rp 22 (.call (.f 196) [(.t 21)]),ro 23 (.min true [(.t 19),(.t 22)]),mv 3 23])))) (.reg [nx 24 8,mv 8 24]))))
def a196:AFunc:=⟨1,26,(sr0 [c0 2] (sr0 [ro 3 (.move (ci (-1)))] (.seq (sr0 [mv 6 0,ro 7 (ll 6),c0 8] (bl0 0 qr1)) (sr0 [mv 25 3,mv 2 25] .ret)))),[.t 2]⟩
theorem fn196:fnOf 196=some a196:=by kernel_rfl
def a199:AFunc:=⟨2,37,(sr0 [rp 3 (.box 3 (.t 1)),c0 4,ro 5 (.move cF)] (.seq (sd0 [rd 6 (fa 0 3) false 0 0 true,rd 7 (l1 6) true 1 1 true,rd 8 (bc .neq 7 2) false 2 3 true,rd 9 (mo 8) false 3 7 true,⟨(some 10),fa 1 3,(some (9,false)),false,4,15,true⟩,⟨(some 11),l1 10,(some (9,false)),true,5,31,true⟩,⟨(some 12),bc .lss 11 0,(some (9,false)),false,6,63,true⟩,rd 13 (.pick (.t 9) cT (.t 12)) false 7 127 true,rd 14 (mo 13) false 8 255 true,⟨(some 15),fa 1 3,(some (14,false)),false,9,511,false⟩,⟨(some 16),l1 15,(some (14,false)),true,10,1023,false⟩,⟨(some 17),mo 0,(some (14,false)),false,11,511,true⟩,⟨(some 18),nc 17,(some (14,false)),false,12,2559,true⟩,⟨(some 19),fa 0 18,(some (14,false)),false,13,6655,true⟩,⟨(some 20),fa 0 19,(some (14,false)),false,14,14847,true⟩,⟨(some 21),fa 1 20,(some (14,false)),false,15,31231,true⟩,⟨(some 22),l1 21,(some (14,false)),true,16,63999,true⟩,⟨(some 23),ll 22,(some (14,false)),false,17,129535,true⟩,⟨(some 24),bi .geq 16 23,(some (14,false)),false,18,262143,true⟩,rd 25 (.pick (.t 14) cT (.t 24)) false 19 524287 true] (cn0 25 (sr0 [c0 4,ro 5 (.move cF)] .ret) .skip)) (sd0 [mv 26 0,rd 27 (nc 26) false 1 1 false,rd 28 (fa 0 27) false 2 3 false,rd 29 (fa 0 28) false 3 7 false,rd 30 (fa 1 29) false 4 15 false,rd 31 (l1 30) true 5 31 false,rd 32 (fa 1 3) false 6 0 true,rd 33 (l1 32) true 7 64 true,rd 34 (ix 3 31 33) false 8 255 true,rd 35 (fa 2 34) false 9 511 true,rd 36 (l1 35) true 10 1023 true,rd 4 (mo 36) false 11 2047 true,rd 5 (.move cT) false 12 4095 true] .ret))),[.t 4,.t 5]⟩
theorem fn199:fnOf 199=some a199:=by kernel_rfl
def a200b0:ACode:=(sr0 [lo 43 42 41] (.seq (cn0 43 .skip (.exit 1)) (.seq (.block 2 (sr0 [mv 44 42,ro 45 (ix 3 40 42),rp 46 (l3 45),rp 10 (.box 3 (.c zq3)),mv 9 44,ws 3 10 46] (sd0 [rp 47 (la true 2 3),rd 48 (l3 10) true 1 0 false,rd 49 (mo 2) false 2 0 false,rd 50 (mo 9) false 3 0 false,rd 51 (ix 1 49 50) false 4 12 false,rd 52 (l1 51) true 5 28 false,rd 53 (.mkFunc (.func 243) [] [(.t 8)]) false 6 0 true,rd 54 (.call (.f 131) [(.t 47),(.t 48),(.t 52),(.t 53)]) true 7 127 true,rd 55 (no 54) false 8 255 true] (cn0 55 (sr0 [ro 6 (.move (.c .sn)),ro 7 (.move (ci 4))] .ret) .skip)))) (.reg [nx 56 42,mv 42 56]))))
def a200:AFunc:=⟨3,58,(sr0 [rp 3 (.box 2 (.t 0)),ro 6 (.move (.c .sn)),c0 7] (.seq (.block 0 (sr0 [rp 12 (la true 2 3),rp 13 (.call (.f 87) [(.t 12)]),ro 14 (bc .neq 13 0),mv 11 14] (cn0 11 (sr0 [ro 6 (.move (.c .sn)),ro 7 (.move (ci 40))] .ret) (sr0 [mv 16 1,ro 17 (ll 16),mv 18 2,ro 19 (ll 18),ro 20 (bi .neq 17 19),mv 21 20,rg 22 (mo 2) 21 false,rg 23 (.mkFunc (.func 242) [] [(.t 3)]) 21 false,rh 24 (.call (.f 65) [(.t 22),(.t 23)]) 21 false,ro 25 (.pick (.t 21) cT (.t 24)),mv 15 25] (cn0 15 (sr0 [ro 6 (.move (.c .sn)),ro 7 (.move (ci 1))] .ret) (sr0 [mv 27 1,rp 28 (.call (.f 195) [(.t 27)]),ro 29 (bc .neq 28 0),mv 30 29,rg 31 (mo 1) 30 false,rh 32 (.call (.f 196) [(.t 31)]) 30 false,rg 33 (bc .geq 32 4000) 30 false,ro 34 (.pick (.t 30) cT (.t 33)),mv 26 34] (cn0 26 (sr0 [ro 6 (.move (.c .sn)),ro 7 (.move (ci 4))] .ret) .skip))))))) (sr0 [ro 35 (.buildSlice 1 (.int .i64 0) 1 [(0,(ci (-1)))]),mv 36 1,rp 37 (.call (.f 196) [(.t 36)]),nx 38 37,rp 39 (.call (.f 138) [(.t 35),(.t 38)]),rp 8 (.box 1 (.c .sn)),ws 1 8 39] (.seq (sr0 [mv 40 1,ro 41 (ll 40),c0 42] (bl0 1 a200b0)) (sr0 [rp 57 (l1 8),mv 6 57,c0 7] .ret))))),[.t 6,.t 7]⟩
theorem fn200:fnOf 200=some a200:=by kernel_rfl
def a201b0:ACode:=(sr0 [lo 13 12 11] (.seq (cn0 13 .skip (.exit 0)) (.seq (.block 1 (sr0 [ro 14 (ix 3 10 12),rp 15 (l3 14),rp 5 (.box 3 (.c zq3)),ws 3 5 15] (.reg [rp 16 (l3 5),mv 17 1,rp 18 (.call (.f 201) [(.t 16),(.t 17)])]))) (.reg [nx 19 12,mv 12 19]))))
def a201:AFunc:=⟨2,20,(sr0 [rp 2 (.box 3 (.t 0))] (sr0 [mv 6 1,rp 7 (l3 2),rp 8 (.call (.t 6) [(.t 7)])] (sr0 [ro 9 (fa 2 2),rp 10 (l1 9),ro 11 (ll 10),c0 12] (bl0 0 a201b0)))),[]⟩
theorem fn201:fnOf 201=some a201:=by kernel_rfl
def a202:AFunc:=⟨3,22,(sr0 [rp 3 (.box 3 (.t 0))] (sr0 [ro 4 (fa 0 3),rp 5 (l1 4),ro 6 (bc .eql 5 1),mv 7 6,rh 8 (l1 1) 7 true,rg 9 (fa 1 3) 7 true,rh 10 (l1 9) 7 true,rh 11 (.lookup .int (.bool false) false (.t 8) (.t 10)) 7 true,rg 12 (no 11) 7 true,ro 13 (.pick (.t 7) (.t 12) cF)] (cn0 13 (sr0 [rp 14 (l1 1),ro 15 (fa 1 3),rp 16 (l1 15),wr (.mapUpd .int (.t 14) (.t 16) cT) 0 0 false] (.reg [rp 17 (l1 2),ro 18 (fa 1 3),rp 19 (l1 18),ro 20 (.buildSlice 1 (.int .i64 0) 1 [(0,(.t 19))]),rp 21 (.append 1 8 (.t 17) (.t 20)),ws 1 2 21])) .skip))),[]⟩
theorem fn202:fnOf 202=some a202:=by kernel_rfl
def a215:AFunc:=⟨2,9,(sr0 [ro 4 (.move cF)] (sr0 [mv 5 0,mv 6 1,rp 7 (.call (.f 248) [(.t 5),(.t 6)]),ro 8 (bc .geq 7 0),mv 4 8] .ret)),[.t 4]⟩
theorem fn215:fnOf 215=some a215:=by kernel_rfl
def a216:AFunc:=⟨2,9,(sr0 [rp 2 (.box 8 (.t 0)),ro 3 (.move cF)] (sr0 [ro 4 (fa 0 1),rp 5 (la true 2 4),rp 6 (la true 8 2),rp 7 (.call (.f 217) [(.t 5),(.t 6)]),ro 8 (no 7),mv 3 8] .ret)),[.t 3]⟩
theorem fn216:fnOf 216=some a216:=by kernel_rfl
def a217b0:ACode:=(sr0 [lo 51 50 49] (.seq (cn0 51 .skip (.exit 0)) (.seq (.block 1 (sr0 [ro 52 (ix 1 48 50),rp 53 (l1 52),mv 8 53] (.reg [mv 54 5,mv 55 8,wr (.mapUpd .int (.t 54) (.t 55) cT) 0 0 false]))) (.reg [nx 56 50,mv 50 56]))))
def qr0:ACode:=(sr0 [lo 64 63 62] (.seq (cn0 64 .skip (.exit 2)) (.seq (.block 3 (sr0 [ro 65 (ix 6 61 63),rp 66 (la true 6 65),rp 11 (.box 6 (.c zq6)),ws 6 11 66] (.seq (sr0 [mv 67 6,ro 68 (fa 0 11),rp 69 (l3 68),ro 70 (fa 3 11),rp 71 (l3 70),rp 72 (.call (.t 67) [(.t 69),(.t 71)]),ro 73 (no 72)] (cn0 73 (sr0 [ro 4 (.move cF)] .ret) .skip)) (.reg [mv 74 9,ro 75 (fa 0 11),rp 76 (l3 75),ro 77 (fa 3 11),rp 78 (l3 77),ro 79 (.buildSlice 3 zq3 2 [(0,(.t 76)),(1,(.t 78))]),rp 80 (.append 3 40 (.t 74) (.t 79)),mv 9 80])))) (.reg [nx 81 63,mv 63 81]))))
def qrz:ACode:=(sr0 [lo 93 92 91] (.seq (cn0 93 .skip (.exit 6)) (.seq (.block 7 (sr0 [ro 94 (ix 1 90 92),rp 95 (l1 94),mv 15 95] (sr0 [mv 96 5,mv 97 15,rp 98 (.lookup .int (.bool false) false (.t 96) (.t 97)),ro 99 (no 98)] (cn0 99 (sr0 [ro 4 (.move cF)] .ret) .skip)))) (.reg [nx 100 92,mv 92 100]))))
def a217b3:ACode:=(sr0 [lo 85 84 83] (.seq (cn0 85 .skip (.exit 4)) (.seq (.block 5 (sr0 [ro 86 (ix 3 82 84),rp 87 (l3 86),rp 13 (.box 3 (.c zq3)),ws 3 13 87] (sr0 [rp 88 (l3 13),ro 89 (.buildSlice 3 zq3 1 [(0,(.t 88))]),rp 90 (.call (.f 252) [(.t 89)]),ro 91 (ll 90),c0 92] (bl0 6 qrz)))) (.reg [nx 101 84,mv 84 101]))))
def a217:AFunc:=⟨2,102,(sr0 [rp 2 (.box 2 (.t 0)),rp 3 (.box 8 (.t 1)),ro 4 (.move cF)] (.seq (sr0 [ro 16 (fa 0 3),rp 17 (l1 16),ro 18 (ll 17),ro 19 (bc .gtr 18 64),mv 20 19,rg 21 (fa 1 3) 20 false,rh 22 (l1 21) 20 false,rg 23 (ll 22) 20 false,rg 24 (bc .gtr 23 8) 20 false,ro 25 (.pick (.t 20) cT (.t 24)),mv 26 25,rg 27 (fa 2 3) 26 false,rg 28 (fa 0 27) 26 false,rh 29 (l1 28) 26 false,rg 30 (bc .neq 29 2) 26 false,ro 31 (.pick (.t 26) cT (.t 30))] (cn0 31 (sr0 [ro 4 (.move cF)] .ret) .skip)) (.seq (sr0 [ro 32 (fa 0 3),rp 33 (l1 32),ro 34 (.mkFunc (.func 249) [] [(.t 2)]),rp 35 (.call (.f 65) [(.t 33),(.t 34)])] (cn0 35 (sr0 [ro 4 (.move cF)] .ret) .skip)) (sr0 [rp 36 (.makeMap),mv 5 36] (sr0 [ro 37 (.mkFunc (.func 250) [] [(.t 2),(.t 3)]),mv 6 37] (.seq (sr0 [mv 38 6,ro 39 (fa 2 3),rp 40 (l3 39),ro 41 (fa 5 3),rp 42 (l3 41),rp 43 (.call (.t 38) [(.t 40),(.t 42)]),ro 44 (no 43)] (cn0 44 (sr0 [ro 4 (.move cF)] .ret) .skip)) (.seq (sr0 [ro 45 (fa 2 3),rp 46 (l3 45),ro 47 (.buildSlice 3 zq3 1 [(0,(.t 46))]),rp 48 (.call (.f 252) [(.t 47)]),ro 49 (ll 48),c0 50] (bl0 0 a217b0)) (sr0 [ro 57 (fa 5 3),rp 58 (l3 57),ro 59 (.buildSlice 3 zq3 1 [(0,(.t 58))]),mv 9 59] (.seq (sr0 [ro 60 (fa 1 3),rp 61 (l1 60),ro 62 (ll 61),c0 63] (bl0 2 qr0)) (.seq (sr0 [mv 82 9,ro 83 (ll 82),c0 84] (bl0 4 a217b3)) (sr0 [ro 4 (.move cT)] .ret))))))))))),[.t 4]⟩
theorem fn217:fnOf 217=some a217:=by kernel_rfl
def a226:AFunc:=⟨1,5,(sr0 [rp 1 (.box 3 (.t 0)),rp 2 (.box 3 (.c zq3))] (sr0 [rp 3 (l3 1),rp 4 (.call (.f 157) [(.t 3),(.f 268)]),ws 3 2 4] .ret)),[.cell 2 true 3]⟩
theorem fn226:fnOf 226=some a226:=by kernel_rfl
def a233:AFunc:=⟨2,11,(sr0 [rp 2 (.box 3 (.t 0)),ro 3 (.move (.c .sn))] (sd0 [rp 4 (l1 1),rd 5 (nc 4) false 1 1 false,rd 6 (fa 3 5) false 2 3 false,rd 7 (l1 6) true 3 7 false,rd 8 (fa 1 2) false 4 0 true,rd 9 (l1 8) true 5 16 true,rd 10 (.lookup .int .sn false (.t 7) (.t 9)) true 6 63 true,rd 3 (mo 10) false 7 127 true] .ret)),[.t 3]⟩
theorem fn233:fnOf 233=some a233:=by kernel_rfl
def a235:AFunc:=⟨2,18,(sr0 [rp 2 (.box 3 (.t 0)),rp 4 (.box 3 (.c zq3))] (sr0 [ro 6 (fa 0 2),rp 7 (l1 6),ro 8 (fa 1 2),rp 9 (l1 8),mv 10 1,ro 11 (.build [(.int .i64 0),(.int .i64 0),.sn] [(0,1,(.t 7)),(1,1,(.t 9)),(2,1,(.t 10))]),rp 5 (.box 3 (.c zq3)),ws 3 5 11] (.seq (sr0 [rp 12 (l3 5),rp 13 (.call (.f 125) [(.t 12)]),ro 14 (bc .neq 13 0)] (cn0 14 (.reg [ro 15 (.build [] []),ro 16 (.mkIface 260 (.t 15)),wr (.pan (.t 16)) 0 0 false]) .skip)) (sr0 [rp 17 (l3 5),ws 3 4 17] .ret)))),[.cell 4 true 3]⟩
theorem fn235:fnOf 235=some a235:=by kernel_rfl
def a236b0:ACode:=(sr0 [lo 32 31 30] (.seq (cn0 32 .skip (.exit 0)) (.seq (.block 1 (sr0 [mv 33 31,ro 34 (ix 3 29 31),rp 35 (l3 34),rp 10 (.box 3 (.c zq3)),mv 9 33,ws 3 10 35] (sr0 [ro 36 (fa 0 10),rp 37 (l1 36),ro 38 (bc .neq 37 0)] (cn0 38 (.reg [mv 39 8,mv 40 9,rp 41 (l3 10),rp 42 (.call (.f 226) [(.t 41)]),ro 43 (ix 3 39 40),ws 3 43 42]) .skip)))) (.reg [nx 44 31,mv 31 44]))))
def a236:AFunc:=⟨2,46,(sr0 [rp 2 (.box 3 (.t 0)),rp 3 (.box 3 (.t 1)),ro 4 (.move (.c .sn)),ro 5 (.move cF),c0 6] (.seq (sr0 [rp 11 (l3 2),rp 12 (l3 3),ro 13 (.buildSlice 3 zq3 2 [(0,(.t 11)),(1,(.t 12))]),rp 14 (.call (.f 195) [(.t 13)]),ro 15 (bc .neq 14 0)] (cn0 15 (sr0 [ro 4 (.move (.c .sn)),ro 5 (.move cF),ro 6 (.move (ci 4))] .ret) .skip)) (sr0 [rp 16 (l3 2),ro 17 (.buildSlice 3 zq3 1 [(0,(.t 16))]),rp 18 (.call (.f 196) [(.t 17)]),mv 7 18] (.seq (sr0 [mv 19 7,ro 20 (bc .gtr 19 4000)] (cn0 20 (sr0 [ro 4 (.move (.c .sn)),ro 5 (.move cF),ro 6 (.move (ci 1))] .ret) .skip)) (sr0 [mv 21 7,nx 22 21,rp 23 (.makeSlice 3 zq3 40 (.t 22) (.t 22)),mv 8 23] (.seq (sr0 [rp 24 (l3 2),rp 25 (l3 3),mv 26 8,rp 27 (.call (.f 270) [(.t 24),(.t 25),(.t 26)]),ro 28 (no 27)] (cn0 28 (sr0 [ro 4 (.move (.c .sn)),ro 5 (.move cF),c0 6] .ret) .skip)) (.seq (sr0 [mv 29 8,ro 30 (ll 29),c0 31] (bl0 0 a236b0)) (sr0 [mv 45 8,mv 4 45,ro 5 (.move cT),c0 6] .ret)))))))),[.t 4,.t 5,.t 6]⟩
theorem fn236:fnOf 236=some a236:=by kernel_rfl
def qoi:ACode:=(sr0 [lo 19 18 17] (.seq (cn0 19 .skip (.exit 0)) (.seq (.block 1 (sr0 [ro 20 (ix 6 16 18),rp 21 (la true 6 20),rp 10 (.box 6 (.c zq6)),ws 6 10 21] (sr0 [rp 11 (.box 2 (.c (.agg [.sn,.sn]))),rp 12 (.box 2 (.c (.agg [.sn,.sn])))] (sd0 [rd 13 (.box 3 (.c zq3)) true 6 0 false,mv 22 0,rd 23 (fa 0 10) false 1 0 false,rd 24 (l3 23) true 2 2 false,rd 25 (mo 2) false 3 0 true,rd 26 (.call (.f 238) [(.t 25)]) true 4 8 true,rd 27 (.call (.f 191) [(.t 22),(.t 24),(.t 26),(.c .nilptr),(.t 11)]) true 5 31 true,wr (so 3 13 27) 7 127 true] (sd0 [rd 14 (.box 3 (.c zq3)) true 6 0 false,mv 28 0,rd 29 (fa 3 10) false 1 0 false,rd 30 (l3 29) true 2 2 false,rd 31 (mo 2) false 3 0 true,rd 32 (.call (.f 238) [(.t 31)]) true 4 8 true,rd 33 (.call (.f 191) [(.t 28),(.t 30),(.t 32),(.c .nilptr),(.t 12)]) true 5 31 true,wr (so 3 14 33) 7 127 true] (.seq (sr0 [rp 34 (l3 13),rp 35 (l3 14),rp 36 (.call (.f 22) [(.t 34),(.t 35)]),ro 37 (no 36)] (cn0 37 (sr0 [ro 6 (.move (.c .sn)),ro 7 (.move cF)] .ret) .skip)) (.reg [mv 38 8,rp 39 (.call (.f 271) [(.t 11)]),rp 40 (.call (.f 271) [(.t 12)]),ro 41 (.build [.sn,.sn] [(0,1,(.t 39)),(1,1,(.t 40))]),ro 42 (.buildSlice 2 (.agg [.sn,.sn]) 1 [(0,(.t 41))]),rp 43 (.append 2 48 (.t 38) (.t 42)),mv 8 43]))))))) (.reg [nx 44 18,mv 18 44]))))
def a237:AFunc:=⟨3,46,(sr0 [rp 4 (.box 8 (.t 1)),ro 6 (.move (.c .sn)),ro 7 (.move cF)] (sr0 [ro 8 (.move (.c .sn))] (.seq (sr0 [ro 15 (fa 1 4),rp 16 (l1 15),ro 17 (ll 16),c0 18] (bl0 0 qoi)) (sr0 [mv 45 8,mv 6 45,ro 7 (.move cT)] .ret)))),[.t 6,.t 7]⟩
theorem fn237:fnOf 237=some a237:=by kernel_rfl
def a238:AFunc:=⟨1,7,(sr0 [ro 2 (.move (.c .sn))] (.seq (sr0 [mv 3 0,ro 4 (.eq false .slice (.t 3) (.c .sn))] (cn0 4 (sr0 [ro 5 (.buildSlice 3 zq3 0 []),mv 2 5] .ret) .skip)) (sr0 [mv 6 0,mv 2 6] .ret))),[.t 2]⟩
theorem fn238:fnOf 238=some a238:=by kernel_rfl
def a241:AFunc:=⟨1,6,(sr0 [rp 1 (.box 3 (.t 0)),ro 2 (.move cF)] (sr0 [rp 3 (l3 1),rp 4 (.call (.f 130) [(.t 3)]),ro 5 (no 4),mv 2 5] .ret)),[.t 2]⟩
theorem fn241:fnOf 241=some a241:=by kernel_rfl
def a242:AFunc:=⟨2,13,(sr0 [ro 3 (.move cF)] (sr0 [mv 4 0,ro 5 (bc .lss 4 0),mv 6 5,rg 7 (mo 0) 6 false,rg 8 (fa 0 1) 6 false,rh 9 (l1 8) 6 false,rg 10 (ll 9) 6 false,rg 11 (bi .geq 7 10) 6 false,ro 12 (.pick (.t 6) cT (.t 11)),mv 3 12] .ret)),[.t 3]⟩
theorem fn242:fnOf 242=some a242:=by kernel_rfl
def a243:AFunc:=⟨3,21,(sr0 [ro 5 (.move cF)] (.seq (sr0 [rp 6 (l1 2),mv 7 0,ro 8 (ix 1 6 7),rp 9 (l1 8),ro 10 (bc .lss 9 0)] (cn0 10 (.reg [rp 11 (l1 2),mv 12 0,mv 13 1,ro 14 (ix 1 11 12),ws 1 14 13]) .skip)) (sr0 [rp 15 (l1 2),mv 16 0,ro 17 (ix 1 15 16),rp 18 (l1 17),mv 19 1,ro 20 (bi .eql 18 19),mv 5 20] .ret))),[.t 5]⟩
theorem fn243:fnOf 243=some a243:=by kernel_rfl
def a248b0:ACode:=(sr0 [lo 9 8 7] (.seq (cn0 9 .skip (.exit 0)) (.seq (.block 1 (sr0 [mv 10 8,mv 5 10] (sr0 [mv 11 1,mv 12 0,mv 13 5,ro 14 (ix 8 12 13),rp 15 (la true 8 14),rp 16 (.call (.t 11) [(.t 15)])] (cn0 16 (sr0 [mv 17 5,mv 4 17] .ret) .skip)))) (.reg [nx 18 8,mv 8 18]))))
def a248:AFunc:=⟨2,19,(sr0 [c0 4] (.seq (sr0 [mv 6 0,ro 7 (ll 6),c0 8] (bl0 0 a248b0)) (sr0 [ro 4 (.move (ci (-1)))] .ret))),[.t 4]⟩
theorem fn248:fnOf 248=some a248:=by kernel_rfl
def a249:AFunc:=⟨2,13,(sr0 [ro 3 (.move cF)] (sr0 [mv 4 0,ro 5 (bc .lss 4 0),mv 6 5,rg 7 (mo 0) 6 false,rg 8 (fa 0 1) 6 false,rh 9 (l1 8) 6 false,rg 10 (ll 9) 6 false,rg 11 (bi .geq 7 10) 6 false,ro 12 (.pick (.t 6) cT (.t 11)),mv 3 12] .ret)),[.t 3]⟩
theorem fn249:fnOf 249=some a249:=by kernel_rfl
def a250:AFunc:=⟨4,44,(sr0 [rp 4 (.box 3 (.t 0)),rp 5 (.box 3 (.t 1)),ro 6 (.move cF)] (.seq (sr0 [rp 11 (l3 4),rp 12 (.call (.f 125) [(.t 11)]),ro 13 (bc .neq 12 0),mv 14 13,rh 15 (l3 5) 14 false,rh 16 (.call (.f 125) [(.t 15)]) 14 false,rg 17 (bc .neq 16 0) 14 false,ro 18 (.pick (.t 14) cT (.t 17))] (cn0 18 (sr0 [ro 6 (.move cF)] .ret) .skip)) (sr0 [rp 20 (la true 2 2),ro 21 (fa 0 3),rp 22 (l1 21),rp 23 (l3 4),rp 24 (.call (.f 251) [(.t 20),(.t 22),(.t 23)]),mv 19 24,ro 25 (et 19 0),ro 26 (et 19 1),mv 7 25,mv 8 26] (sr0 [rp 28 (la true 2 2),ro 29 (fa 0 3),rp 30 (l1 29),rp 31 (l3 5),rp 32 (.call (.f 251) [(.t 28),(.t 30),(.t 31)]),mv 27 32,ro 33 (et 27 0),ro 34 (et 27 1),mv 9 33,mv 10 34] (sr0 [mv 35 8,mv 36 35,rg 37 (mo 10) 36 true,ro 38 (.pick (.t 36) (.t 37) cF),mv 39 38,rg 40 (mo 7) 39 true,rg 41 (mo 9) 39 true,rg 42 (bi .eql 40 41) 39 true,ro 43 (.pick (.t 39) (.t 42) cF),mv 6 43] .ret))))),[.t 6]⟩
theorem fn250:fnOf 250=some a250:=by kernel_rfl
def qry:ACode:=(sr0 [lo 49 48 47] (.seq (cn0 49 .skip (.exit 0)) (.seq (.block 1 (sr0 [mv 50 48,ro 51 (ix 3 46 48),rp 52 (l3 51),rp 9 (.box 3 (.c zq3)),mv 8 50,ws 3 9 52] (sr0 [rp 54 (la true 2 3),mv 55 1,rp 56 (l3 9),rp 57 (.call (.f 251) [(.t 54),(.t 55),(.t 56)]),mv 53 57,ro 58 (et 53 0),ro 59 (et 53 1),mv 10 58,mv 11 59] (sr0 [mv 60 11,ro 61 (no 60),mv 62 61,rg 63 (mo 10) 62 false,rg 64 (fa 1 3) 62 false,rh 65 (l1 64) 62 false,rg 66 (fa 1 5) 62 false,rh 67 (l1 66) 62 false,rg 68 (ix 3 65 67) 62 false,rg 69 (fa 1 68) 62 false,rh 70 (l1 69) 62 false,rg 71 (mo 8) 62 false,rg 72 (ix 1 70 71) 62 false,rh 73 (l1 72) 62 false,rg 74 (bi .neq 63 73) 62 false,ro 75 (.pick (.t 62) cT (.t 74))] (cn0 75 (sr0 [c0 6,ro 7 (.move cF)] .ret) .skip))))) (.reg [nx 76 48,mv 48 76]))))
def a251:AFunc:=⟨3,84,(sr0 [rp 3 (.box 2 (.t 0)),rp 5 (.box 3 (.t 2)),c0 6,ro 7 (.move cF)] (.seq (sr0 [ro 12 (fa 0 5),rp 13 (l1 12),ro 14 (bc .eql 13 1)] (cn0 14 (.seq (sr0 [ro 15 (fa 1 5),rp 16 (l1 15),mv 17 1,ro 18 (ll 17),ro 19 (bi .geq 16 18)] (cn0 19 (sr0 [c0 6,ro 7 (.move cF)] .ret) .skip)) (sr0 [mv 20 1,ro 21 (fa 1 5),rp 22 (l1 21),ro 23 (ix 1 20 22),rp 24 (l1 23),mv 6 24,ro 7 (.move cT)] .ret)) .skip)) (.seq (sd0 [ro 25 (fa 1 5),rd 26 (l1 25) true 1 1 false,rd 27 (fa 1 3) false 2 0 true,rd 28 (l1 27) true 3 4 true,rd 29 (ll 28) false 4 12 true,rd 30 (bi .geq 26 29) false 5 31 true,rd 31 (mo 30) false 6 63 true,⟨(some 32),fa 2 5,(some (31,false)),false,7,127,false⟩,⟨(some 33),l1 32,(some (31,false)),true,8,255,false⟩,⟨(some 34),ll 33,(some (31,false)),false,9,511,false⟩,⟨(some 35),fa 1 3,(some (31,false)),false,10,127,false⟩,⟨(some 36),l1 35,(some (31,false)),true,11,1151,false⟩,⟨(some 37),fa 1 5,(some (31,false)),false,12,127,true⟩,⟨(some 38),l1 37,(some (31,false)),true,13,4223,true⟩,⟨(some 39),ix 3 36 38,(some (31,false)),false,14,15487,true⟩,⟨(some 40),fa 1 39,(some (31,false)),false,15,31871,true⟩,⟨(some 41),l1 40,(some (31,false)),true,16,64639,true⟩,⟨(some 42),ll 41,(some (31,false)),false,17,130175,true⟩,⟨(some 43),bi .neq 34 42,(some (31,false)),false,18,262143,true⟩,rd 44 (.pick (.t 31) cT (.t 43)) false 19 524287 true] (cn0 44 (sr0 [c0 6,ro 7 (.move cF)] .ret) .skip)) (.seq (sr0 [ro 45 (fa 2 5),rp 46 (l1 45),ro 47 (ll 46),c0 48] (bl0 0 qry)) (sr0 [ro 77 (fa 1 3),rp 78 (l1 77),ro 79 (fa 1 5),rp 80 (l1 79),ro 81 (ix 3 78 80),ro 82 (fa 2 81),rp 83 (l1 82),mv 6 83,ro 7 (.move cT)] .ret))))),[.t 6,.t 7]⟩
theorem fn251:fnOf 251=some a251:=by kernel_rfl
def a252:AFunc:=⟨1,8,(sr0 [ro 2 (.move (.c .sn))] (.seq (sr0 [mv 3 0,rp 4 (.call (.f 195) [(.t 3)]),ro 5 (bc .neq 4 0)] (cn0 5 (sr0 [ro 2 (.move (.c .sn))] .ret) .skip)) (sr0 [mv 6 0,rp 7 (.call (.f 156) [(.t 6)]),mv 2 7] .ret))),[.t 2]⟩
theorem fn252:fnOf 252=some a252:=by kernel_rfl
def a268:AFunc:=⟨1,5,(sr0 [rp 2 (.box 3 (.c zq3))] (sr0 [mv 3 0,ro 4 (.build [(.int .i64 0),(.int .i64 0),.sn] [(0,1,(ci 1)),(1,1,(.t 3))]),ws 3 2 4] .ret)),[.cell 2 true 3]⟩
theorem fn268:fnOf 268=some a268:=by kernel_rfl
def a270b0:ACode:=(sr0 [lo 53 52 51] (.seq (cn0 53 .skip (.exit 0)) (.seq (.block 1 (sr0 [mv 54 52,mv 7 54] (sd0 [ro 55 (fa 2 3),rd 56 (l1 55) true 1 1 false,rd 57 (mo 7) false 2 0 false,rd 58 (ix 3 56 57) false 3 7 false,rd 59 (l3 58) true 4 15 false,rd 60 (fa 2 4) false 5 0 false,rd 61 (l1 60) true 6 32 false,rd 62 (mo 7) false 7 0 false,rd 63 (ix 3 61 62) false 8 224 false,rd 64 (l3 63) true 9 480 false,rd 65 (mo 2) false 10 0 true,rd 66 (.call (.f 270) [(.t 59),(.t 64),(.t 65)]) true 11 2047 true,rd 67 (no 66) false 12 4095 true] (cn0 67 (sr0 [ro 6 (.move cF)] .ret) .skip)))) (.reg [nx 68 52,mv 52 68]))))
def a270:AFunc:=⟨3,69,(sr0 [rp 3 (.box 3 (.t 0)),rp 4 (.box 3 (.t 1)),ro 6 (.move cF)] (.seq (sr0 [ro 8 (fa 0 3),rp 9 (l1 8),ro 10 (bc .eql 9 1)] (cn0 10 (.seq (sr0 [mv 11 2,ro 12 (fa 1 3),rp 13 (l1 12),ro 14 (ix 3 11 13),ro 15 (fa 0 14),rp 16 (l1 15),ro 17 (bc .eql 16 0)] (cn0 17 (.reg [mv 18 2,ro 19 (fa 1 3),rp 20 (l1 19),rp 21 (l3 4),ro 22 (ix 3 18 20),ws 3 22 21]) .skip)) (sd0 [mv 23 2,rd 24 (fa 1 3) false 1 0 false,rd 25 (l1 24) true 2 2 false,rd 26 (ix 3 23 25) false 3 7 false,rd 27 (l3 26) true 4 15 false,rd 28 (l3 4) true 5 0 true,rd 29 (.call (.f 22) [(.t 27),(.t 28)]) true 6 63 true,rd 6 (mo 29) false 7 127 true] .ret)) .skip)) (.seq (sr0 [ro 30 (fa 0 4),rp 31 (l1 30),ro 32 (bc .neq 31 2),mv 33 32,rg 34 (fa 1 3) 33 false,rh 35 (l1 34) 33 false,rg 36 (fa 1 4) 33 false,rh 37 (l1 36) 33 false,rg 38 (bi .neq 35 37) 33 false,ro 39 (.pick (.t 33) cT (.t 38)),mv 40 39,rg 41 (fa 2 3) 40 false,rh 42 (l1 41) 40 false,rg 43 (ll 42) 40 false,rg 44 (fa 2 4) 40 false,rh 45 (l1 44) 40 false,rg 46 (ll 45) 40 false,rg 47 (bi .neq 43 46) 40 false,ro 48 (.pick (.t 40) cT (.t 47))] (cn0 48 (sr0 [ro 6 (.move cF)] .ret) .skip)) (.seq (sr0 [ro 49 (fa 2 3),rp 50 (l1 49),ro 51 (ll 50),c0 52] (bl0 0 a270b0)) (sr0 [ro 6 (.move cT)] .ret))))),[.t 6]⟩
theorem fn270:fnOf 270=some a270:=by kernel_rfl
def a271b0:ACode:=(sr0 [lo 11 10 9] (.seq (cn0 11 .skip (.exit 0)) (.seq (.block 1 (sr0 [mv 12 10,ro 13 (ix 1 8 10),rp 14 (l1 13),mv 3 12,mv 4 14] (.regD [mv 15 0,rd 16 (nc 15) false 1 1 false,rd 17 (fa 0 16) false 2 3 false,rd 18 (l1 17) true 3 7 false,rd 19 (mo 3) false 4 0 false,rd 20 (mo 4) false 5 0 true,rd 21 (.call (.f 286) [(.t 20)]) true 6 32 true,rd 22 (ix 3 18 19) false 7 127 true,rd 23 (fa 1 22) false 8 255 true,wr (so 1 23 21) 9 511 true]))) (.reg [nx 24 10,mv 10 24]))))
def a271:AFunc:=⟨1,29,(sr0 [ro 2 (.move (.c .sn))] (.seq (sr0 [mv 5 0,ro 6 (nc 5),ro 7 (fa 1 6),rp 8 (l1 7),ro 9 (ll 8),c0 10] (bl0 0 a271b0)) (sr0 [mv 25 0,ro 26 (nc 25),ro 27 (fa 0 26),rp 28 (l1 27),mv 2 28] .ret))),[.t 2]⟩
theorem fn271:fnOf 271=some a271:=by kernel_rfl
end Go.Proofs.Tryz
namespace Go.Proofs.Tryz
open Go Go.AE
open Go.AE.Obj (row)
variable {T:Tbl}(hT:Std T)
theorem wrapu{x:Int}(h:0≤x)(h2:x<4294967296):IntKind.u64.wrap x=x:=by rw[IntKind.wrap_u64];omega
theorem and_u{n:Int}(h:0≤n)(h2:n<4294967296):qdb .and (.int .u64 n) (.int .u64 4294967295)=some (.int .u64 n):=by
 obtain⟨m,rfl⟩:=iZ0 h;have e:(BitVec.ofInt 64 (m:Int)&&&BitVec.ofInt 64 4294967295).toNat=m:=by rw[BitVec.toNat_and,BitVec.ofInt_natCast,show(4294967295:Int)=((4294967295:Nat):Int)from rfl,BitVec.ofInt_natCast,BitVec.toNat_ofNat,BitVec.toNat_ofNat,Nat.mod_eq_of_lt (show m<2 ^64 by omega),show 4294967295 %2 ^64=2 ^32 - 1 from rfl,Nat.and_two_pow_sub_one_eq_mod];omega
 have e2:qdb .and (.int .u64 (m:Int)) (.int .u64 4294967295)=some (.int .u64 (IntKind.u64.wrap (((BitVec.ofInt 64 (m:Int)&&&BitVec.ofInt 64 4294967295).toNat:Nat):Int))):=rfl;rw[e2,e,wrapu (by omega) (by omega)]
theorem shr_u{n:Int}(h:0≤n)(h2:n<4294967296):qdb .shr (.int .u64 n) (.int .u64 32)=some (.int .u64 0):=by
 have e2:qdb .shr (.int .u64 n) (.int .u64 32)=some (.int .u64 (n.fdiv (2 ^32))):=rfl;rw[e2]
 congr 2
 rw[Int.fdiv_eq_ediv_of_nonneg _ (by decide)];omega
include hT in
theorem mul64_ev{n:Int}(h0:0≤n)(h1:n<4294967296)(h:Hp):Ev T 240 [.int .u64 1,.int .u64 n] h (ba (.tuple [.int .u64 0,.int .u64 n]) h):=by refine hT.wk fn240 (by decide) ?_;have a1:=and_u (n:=1) (by decide) (by decide);have a2:=shr_u (n:=1) (by decide) (by decide);have a3:=and_u h0 h1;have a4:=shr_u h0 h1;have a5:=and_u (n:=0) (by decide) (by decide);have a6:=shr_u (n:=0) (by decide) (by decide);have w0:IntKind.u64.wrap 0=0:=wrapu (by decide) (by decide);have w1:=wrapu h0 h1;simp(disch:=omega) only[go_sem,a1,a2,a3,a4,a5,a6,Int.one_mul,Int.zero_mul,Int.mul_zero,Int.add_zero,w0,w1]
include hT in
theorem mul_ev{n:Int}(h0:0≤n)(h1:n<4294967296)(h:Hp):Ev T 193 [.int .u64 1,.int .u64 n] h (ba (.tuple [.int .u64 0,.int .u64 n]) h):=by refine hT.wk fn193 (by decide) ?_;simp(disch:=omega) only[go_sem,cb (mul64_ev hT h0 h1 h),hT.prim,qab]
section
variable {e:PL}{s:St}{K:OR×St→Prop}
@[go_sem↓] theorem o_copy{sz:Nat}{a x:AX}:one T (.copy sz a x) e s K=qa4 (fun v=>K (.val v.1,v.2)) ⟨⟩ (copyop sz (ax e a) (ax e x) s):=by simp only[one,evOp];cases copyop sz (ax e a) (ax e x) s<;>simp[qa4]
@[go_sem] theorem oax_some2{x:AX}:oax e (some x)=some (ax e x):=rfl
@[go_sem] theorem oax_none2:oax e none=none:=rfl
@[go_sem] theorem reads_copy{sz n:Nat}{x y:AX}:qbb (.copy sz x y) true e n=qeq (ax e x)++qeq (ax e y):=by simp[qbb,qbu,AOp.axs,qeu]
@[go_sem] theorem writes_copy{sz:Nat}{x y:AX}{ws:NL}:qbj (.copy sz x y) ws=ws:=rfl
end
def qdx(n i:Nat)(v:Int):IL:=List.replicate i v++List.replicate (n - i) 0
theorem qj2{n i:Nat}{v:Int}(h:i≤n):(qdx n i v).length=n:=by simp[qdx];omega
theorem encI_cells(l:IL):(l.map encI).all (fun e=>e.cells.all PV.isCell)=true:=by rw[List.all_eq_true];intro x hx;obtain⟨n,_,rfl⟩:=mM0.1 hx;rfl
theorem qp2(l:IL):tops (l.map encI)=none:=by
 induction l with
 |nil=>rfl
 |cons x l ih=>simp[tops,encI,PV.top,omax,ih]
theorem copy_row{H:Hp}{ws:NL}{k off len n:Nat}{xs ys:IL}{src:PV}(hk:H[k]?=some (.row 1 (xs.map encI)))(hx:xs.length=n)(ho:off+len≤n)(hs:qch src H=some (1,ys.map encI))(h1:0<len)(h2:0<ys.length):
 copyop 1 (.aref k 1 off len n) src ⟨H,ws,[]⟩=some (.int .i64 (((ys.take len).length:Nat):Int),⟨H.set k (.row 1 ((xs.take off++ys.take len++xs.drop (off+(ys.take len).length)).map encI)),wadd k ws,[]⟩):=by
 have e1:((ys.map encI).take len)=(ys.take len).map encI:=by rw[List.map_take]
 have e2:((ys.take len).map encI).isEmpty=false:=by
  cases ys with
  |nil=>simp at h2
  |cons y ys=>cases len with
    |zero=>omega
    |succ l=>rfl
 simp only[copyop,hs,hk,lM0,hx,ho,encI_cells,e1,e2,qp2,qau,and_self,true_or,if_true,Nat.zero_lt_one,bF0,if_false];simp[List.map_take,List.map_drop]
theorem sl_lo{k l n off:Nat}{i:Nat}(hi:i≤l):qgc 1 (.aref k 1 off l n) (some (.int .i64 (i:Int))) none none=some (.aref k 1 (off+i) (l - i) n):=by simp[qgc,qd3,hi]
theorem sl_hi{k l n off:Nat}{i:Nat}(hi:i≤l):qgc 1 (.aref k 1 off l n) none (some (.int .i64 (i:Int))) none=some (.aref k 1 off i n):=by simp[qgc,qd3,hi]
theorem qmd{n i c:Nat}{v:Int}(h:i+c≤n):(qdx n i v).take i++List.replicate c v++(qdx n i v).drop (i+c)=qdx n (i+c) v:=by
 apply List.ext_getElem?;intro j;simp only[qdx,List.take_append,List.drop_append,List.getElem?_append,lA0,List.length_replicate,List.take_replicate,List.drop_replicate,List.getElem?_replicate]
 repeat' split
 all_goals first|rfl|omega|(simp;omega)|skip
theorem tidy_raw{n0:Nat}{o:OR}{H:Hp}{ws:NL}(hw:∀k∈ws,n0≤k):tidy 1 n0 o ⟨H,ws,[]⟩=(o,⟨H,[],[]⟩):=by
 have:below n0 ws=[]:=by unfold below;rw[List.filter_eq_nil_iff];intro k hk;have:=hw k hk;simp;omega
 simp[tidy,this]
end Go.Proofs.Tryz
namespace Go.Proofs.Tryz
open Go Go.AE
open Go.AE.Obj (row)
variable {T:Tbl}(hT:Std T)
def BZ(z b:IL):Prop:=b.length=z.length∧∀a:Nat,b.getD a 0<0↔(a<z.length∧z.getD a 0=0)
structure LMem (H:Hp)(ko k7 k8 kz kb:Nat)(s:GSig)(z b:IL):Prop where
 sg:H[ko]?=some (.row 2 [qaf s])
 b7:H[k7]?=some (.row 1 [.aref kz 1 0 z.length z.length])
 b8:H[k8]?=some (.row 1 [.aref kb 1 0 b.length b.length])
 rz:H[kz]?=some (.row 1 (z.map encI))
 rb:H[kb]?=some (.row 1 (b.map encI))
 ord:ko<k7∧k7<k8∧k8<kz∧kz<kb
variable {H:Hp}{ws:NL}{ups:UL}{ko k7 k8 kz kb:Nat}{s:GSig}{z b:IL}
theorem LMem.push{o:AE.Obj}(L:LMem H ko k7 k8 kz kb s z b):LMem (H++[o]) ko k7 k8 kz kb s z b:=⟨qah L.sg,qah L.b7,qah L.b8,qah L.rz,qah L.rb,L.ord⟩
theorem LMem.l7(L:LMem H ko k7 k8 kz kb s z b):loadAt false 1 (.pb k7) H=some (.aref kz 1 0 z.length z.length):=by rw[qad L.b7];rfl
theorem LMem.l8(L:LMem H ko k7 k8 kz kb s z b):loadAt false 1 (.pb k8) H=some (.aref kb 1 0 b.length b.length):=by rw[qad L.b8];rfl
theorem LMem.ops(L:LMem H ko k7 k8 kz kb s z b):loadAt false 1 (.ptr ko 0 1 1) H=some (.slice 3 (s.ops.map qao) .any):=by rw[qad L.sg];rfl
theorem BZ.step(hB:BZ z b){r:Nat}{v i:Int}(hr:r<z.length)(hv:1≤v)(hi:0≤i):BZ (z.set r v) (b.set r i):=by
 obtain⟨h1,h2⟩:=hB;refine⟨by simpa using h1,fun a=>?_⟩;rw[qcu (by omega),qcu hr,List.length_set];split
 ·omega
 ·exact h2 a
end Go.Proofs.Tryz
namespace Go.Proofs.Tryz
open Go Go.AE
open Go.AE.Obj (row)
variable {T:Tbl}(hT:Std T){H:Hp}{ws:NL}{ups:UL}{ko k7 k8 kz kb:Nat}{s:GSig}{z b:IL}
def predB(b z:IL)(k:Nat)(o:GOp):Bool:=(o.args.all fun a=>decide (0≤zAt b a))&& (o.res==(k:Int)&& (decide (0≤b.getD k 0)&& (sumZ z o.args 1==z.getD k 0)))
def idxI(p:GOp→Bool)(ops:List GOp):Int:=match ops.findIdx? p with|some i=>(i:Int)|none=> -1
end Go.Proofs.Tryz
namespace Go.Proofs.Tryz
open Go Go.AE
open Go.AE.Obj (row)
variable {T:Tbl}(hT:Std T){H:Hp}{ws:NL}{ko k7 k8 kz kb:Nat}{s:GSig}{z b:IL}
theorem qi9{α:Type}{p q:α→Bool}:∀{l:List α},(∀x∈l,p x=q x)→l.findIdx? p=l.findIdx? q
 |[],_=>rfl
 |x::l,h=>by rw[List.findIdx?_cons,List.findIdx?_cons,h x (by simp),qi9 fun y hy=>h y (by simp[hy])]
structure FixInv (ops:List GOp)(z b:IL)(k:Nat):Prop where
 len:b.length=z.length
 done:∀j,j<k→0<z.getD j 0→z.getD j 0≤2000→∃i:Nat,ops.findIdx? (qq8 z j)=some i∧b.getD j 0=(i:Int)
 void:∀j:Nat,j<k→z.getD j 0=0→j<z.length→b.getD j 0<0
 rest:∀j:Nat,k≤j→(b.getD j 0<0↔(j<z.length∧z.getD j 0=0))
theorem FixInv.step{ops:List GOp}{nS:Nat}(hL:LeastZ ops nS z)(hO:∀o∈ops,qh5 o.args nS){k:Nat}(hk:k<z.length)(F:FixInv ops z b k):FixInv ops z (b.set k (idxI (predB b z k) ops)) (k+1):=by
 have hkb:k<b.length:=by rw[F.len];exact hk
 refine⟨by simpa using F.len,fun j hj h0 h2=>?_,fun j hj h0 hjl=>?_,fun j hj=>?_⟩
 · rw[qcu hkb];by_cases hjk:k=j
   · subst hjk;rw[if_pos rfl];obtain⟨i,o,e1,_⟩:=good_ex hL h0 h2;refine⟨i,e1,?_⟩
     have heq:ops.findIdx? (predB b z k)=ops.findIdx? (qq8 z k):=by
      refine qi9 ?_;intro o ho;have hkk:0≤b.getD k 0:=by have:=F.rest k (nR0 _);omega
      have hpos:=hL.ok;have oa:=hO o ho;rw[Bool.eq_iff_iff];simp only[predB,qq8,qgr,opZ,bA0,List.all_eq_true,dE0,beq_iff_eq]
      have key:(sumZ z o.args 1=z.getD k 0)→((∀a∈o.args,0≤zAt b a)↔(∀a∈o.args,0<zAt z a)):=fun hs=>by
       refine forall_congr' fun a=>imp_congr_right fun ha=>?_;have hm:=qos hpos 1 ha;have z1:=hpos.at a;obtain⟨a',rfl⟩:=iZ0 (oa a ha).1;have hal:=(oa a' ha).2;rw[←hL.len]at hal;simp only[zAt,Int.toNat_natCast]at hm z1⊢;by_cases haj:a'<k
       · by_cases hz0:z.getD a' 0=0
         · have:=F.void a' haj hz0 (by omega);omega
         · obtain⟨i',_,e'⟩:=F.done a' haj (by omega) (by omega);omega
       · have:=F.rest a' (by omega);omega
      constructor
      ·grind
      ·grind
     simp[idxI,heq,e1]
   · rw[if_neg hjk];exact F.done j (by omega) h0 h2
 · rw[qcu hkb];by_cases hjk:k=j
   · subst hjk;rw[if_pos rfl];have hkk:b.getD k 0<0:=(F.rest k (nR0 _)).2 ⟨hjl,h0⟩;have:ops.findIdx? (predB b z k)=none:=by rw[List.findIdx?_eq_none_iff];intro o ho;simp only[predB];rw[decide_eq_false (show¬0≤b.getD k 0 by omega)];simp
     simp[idxI,this]
   · rw[if_neg hjk];exact F.void j (by omega) h0 hjl
 · rw[qcu hkb,if_neg (by omega)];exact F.rest j (by omega)
end Go.Proofs.Tryz
namespace Go.Proofs.Tryz
open Go Go.AE
open Go.AE.Obj (row)
variable {T:Tbl}(hT:Std T){H:Hp}{ws:NL}{ups:UL}{ko k7 k8 kz kb:Nat}{s:GSig}{z b:IL}
structure BMem (H:Hp)(ko k8 kb k17:Nat)(s:GSig)(b:IL):Prop where
 sg:H[ko]?=some (.row 2 [qaf s])
 b8:H[k8]?=some (.row 1 [.aref kb 1 0 b.length b.length])
 rb:H[kb]?=some (.row 1 (b.map encI))
 fn:H[k17]?=some (.row 1 [.func (.func 141) [] [.pb k8,.pb ko,.pb k17]])
variable {k17:Nat}
theorem BMem.push{o:AE.Obj}(L:BMem H ko k8 kb k17 s b):BMem (H++[o]) ko k8 kb k17 s b:=⟨qah L.sg,qah L.b8,qah L.rb,qah L.fn⟩
theorem enc_snoc{xs:Ts}{es:PL}(hl:es.length=xs.length)(he:∀(j:Nat)(x:Tm)(p:PV),xs[j]?=some x→es[j]?=some p→Enc x p){x:Tm}{p:PV}(hx:Enc x p):∀(j:Nat)(y:Tm)(q:PV),(xs++[x])[j]?=some y→(es++[p])[j]?=some q→Enc y q:=fun j y q h1 h2=>by
 rcases Nat.lt_trichotomy j xs.length with h|h|h
 ·grind
 ·grind
 ·grind
end Go.Proofs.Tryz
namespace Go.Proofs.Tryz
open Go Go.AE
def a3:AFunc:=⟨5,76,(sr0 [rp 5 (.box 2 (.t 0)),rp 9 (.box 3 (.t 4)),ro 10 (.move cF)] (.seq (sr0 [rp 19 (.call (.f 15) []),ro 20 (no 19)] (cn0 20 (sr0 [ro 10 (.move cF)] .ret) .skip)) (.seq (sr0 [rp 21 (la true 2 5),rp 22 (.call (.f 16) [(.t 21)]),ro 23 (no 22),mv 24 23,rh 25 (l3 9) 24 false,rg 26 (.buildSlice 3 zq3 1 [(0,(.t 25))]) 24 false,rh 27 (.call (.f 17) [(ci 100),(.t 26)]) 24 false,rg 28 (no 27) 24 false,ro 29 (.pick (.t 24) cT (.t 28))] (cn0 29 (sr0 [ro 10 (.move cT)] .ret) .skip)) (sr0 [rp 31 (la true 2 5),mv 32 1,mv 33 2,mv 34 3,rp 35 (.call (.f 18) [(.t 31),(.t 32),(.t 33),(.t 34)]),mv 30 35,ro 36 (et 30 0),ro 37 (et 30 1),rp 11 (.box 3 (.c zq3)),ws 3 11 36,mv 12 37] (sr0 [rp 39 (la true 2 5),mv 40 1,mv 41 2,mv 42 3,rp 43 (.call (.f 19) [(.t 39),(.t 40),(.t 41),(.t 42)]),mv 38 43,ro 44 (et 38 0),ro 45 (et 38 1),rp 13 (.box 3 (.c zq3)),ws 3 13 44,mv 14 45] (sr0 [rp 47 (la true 2 5),rp 48 (l3 9),rp 49 (.call (.f 20) [(.t 47),(.t 48)]),mv 46 49,ro 50 (et 46 0),ro 51 (et 46 1),mv 15 50,mv 16 51] (sr0 [rp 53 (la true 2 5),rp 54 (l3 9),rp 55 (.call (.f 21) [(.t 53),(.t 54)]),mv 52 55,ro 56 (et 52 0),ro 57 (et 52 1),mv 17 56,mv 18 57] (sr0 [rp 58 (l3 11),rp 59 (l3 13),rp 60 (.call (.f 22) [(.t 58),(.t 59)]),mv 61 60,rg 62 (mo 12) 61 true,rg 63 (mo 14) 61 true,rg 64 (bi .eql 62 63) 61 true,ro 65 (.pick (.t 61) (.t 64) cF),mv 66 65,rg 67 (mo 15) 66 true,rg 68 (mo 17) 66 true,rg 69 (bi .eql 67 68) 66 true,ro 70 (.pick (.t 66) (.t 69) cF),mv 71 70,rg 72 (mo 16) 71 true,rg 73 (mo 18) 71 true,rg 74 (bi .eql 72 73) 71 true,ro 75 (.pick (.t 71) (.t 74) cF),mv 10 75] .ret)))))))),[.t 10]⟩
end Go.Proofs.Tryz
namespace Go.Proofs.Tryz
open Go Go.AE
open Go.AE.Obj (row)
variable {T:Tbl}(hT:Std T){s:GSig}
end Go.Proofs.Tryz
namespace Go.Proofs.Tryz
open Go Go.AE
end Go.Proofs.Tryz
namespace Go.Proofs.Tryz
open Go Go.AE
open Go.AE.Obj (row)
variable {T:Tbl}(hT:Std T)
end Go.Proofs.Tryz
