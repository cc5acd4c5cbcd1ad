/- Texts of the proof, one behind the other: AeSpec, AeEv, AeWp, AeSimp. -/
import Derived.Test.YtekepgfmgeophaaGreatPartAB
set_option linter.unusedVariables false
set_option linter.unusedSimpArgs false
namespace Go.AE
open Go
theorem qpn {P : Program} {T : Tbl} (hm : P.follows .mixedOrders = true) (hT : ∀ f p, T.prim f = some p → qev P f p) (hIt : qkb P T) {n mode f : Nat} {rows : List Nat} {fn : Func} {af : AFunc} (hf : P.funcs[f]? = some fn) (hn : (fn.name == "runtime.NumGoroutine") = false) (hcomp : qb8 P rows fn = some af)
 {call:FuncId→List PV→List Obj→Option qam}(hS:qa7 call)(hC:qd0 P call){args:List PV}{h:List Obj}{r:OR}{s':St}(hb:qfg T call n mode af args h=some (r,s')):
 Step {h,ws:=[],ups:=[]} s'∧Enters P f∧h.length≤s'.h.length∧∀w I D ρ vs,Sim w I D ρ h→VRs w I D ρ args vs→Calls P f vs.toArray w (qfy w I D ρ h r s'):=by
 have st:=qgj hS hb
 refine⟨st,⟨fn,hf,hn,?_⟩,st.len,fun w I D ρ vs S V=>qkq hm hT hIt hC hS hf hcomp hb S V⟩
 unfold qb8 at hcomp
 split at hcomp
 ·grind
 ·cases hcomp
def qde:Tbl:={fn:=fun _=>none,prim:=fun _=>none,sp:=fun _=>none,mode:=fun _=>0,iter:=fun _=>none}
def qcr(af:AFunc)(call:FuncId→List PV→List Obj→Option qam)(args:List PV)(h:List Obj):Option qam:=
 match args with
 |[.slice sz [] _]=>some (.val (.slice sz [] .full),{h,ws:=[],ups:=[]})
 |args=>qfg qde call 1 1 af args h
theorem cloneSp_ok {P : Program} (hm : P.follows .mixedOrders = true) {f : Nat} {fn : Func} {af af' : AFunc} {rows : List Nat} (hf : P.funcs[f]? = some fn) (hn : (fn.name == "runtime.NumGoroutine") = false) (hcomp : qb8 P [] fn = some af) (hcomp' : qb8 P rows fn = some af')
 (h0:∀call sz h,∃z,qfg qde call 1 1 af [.slice sz [] .nil] h=some (.val (.slice z [] .nil),{h,ws:=[],ups:=[]}))
 (h1:∀call sz h,∃z,qfg qde call 1 1 af [.slice sz [] .nonnil] h=some (.val (.slice z [] .lit),{h,ws:=[],ups:=[]}))
 {call:FuncId→List PV→List Obj→Option qam}(hS:qa7 call)(hC:qd0 P call){args:List PV}{h:List Obj}{r:OR}{s':St}(hb:qcr af' call args h=some (r,s')):
 Step {h,ws:=[],ups:=[]} s'∧Enters P f∧h.length≤s'.h.length∧∀w I D ρ vs,Sim w I D ρ h→VRs w I D ρ args vs→Calls P f vs.toArray w (qfy w I D ρ h r s'):=by
 have hT:∀f p,qde.prim f=some p→qev P f p:=fun _ _ h=>by cases h
 have hIt:qkb P qde:=fun _ _ h=>by cases h
 unfold qcr at hb
 split at hb
 next sz m=>
   cases hb
   obtain⟨z0,e0⟩:=h0 call sz h
   obtain⟨z1,e1⟩:=h1 call sz h
   obtain⟨_,a2,_,a4⟩:=qpn hm hT hIt hf hn hcomp hS hC e0
   obtain⟨_,_,_,b4⟩:=qpn hm hT hIt hf hn hcomp hS hC e1
   refine⟨.refl _,a2,nR0 _,fun w I D ρ vs S V=>?_⟩
   obtain⟨hl,hj⟩:=V
   obtain⟨v,rfl⟩:∃v,vs=[v]:=by
    cases vs with
    |nil=>simp at hl
    |cons v vs=>cases vs with
      |nil=>exact⟨v,rfl⟩
      |cons _ _=>simp at hl
   have hv:=hj 0
   simp at hv
   have weaken:∀{z:Nat}{m':SM},(∀(w':World)(I':Nat→Nat→Prop)(D':Nat→Prop)(ρ':Nat→Row)(u:Value),VR w' I' D' ρ' (.slice z [] m') u→VR w' I' D' ρ' (.slice sz [] .full) u)→
    Calls P f #[v] w (qfy w I D ρ h (.val (.slice z [] m')) {h,ws:=[],ups:=[]})→Calls P f #[v] w (qfy w I D ρ h (.val (.slice sz [] .full)) {h,ws:=[],ups:=[]}):=by
    intro z m' hw hc
    refine hc.mono fun en w' hp=>?_
    obtain⟨I',ρ',N',S',E'⟩:=hp
    refine⟨I',ρ',N',S',?_⟩
    cases en with
    |returned u=>exact hw _ _ _ _ _ E'
    |panicked ch=>exact E'
    |outgrown=>exact E'
   cases hv with
   |slice _ _ _ A cap b o vs' hsz hmm hne hcap hlen hat hvv=>
     cases A with
     |none=>
       have hc0:cap=0:=hcap.2 rfl
       subst hc0
       refine weaken (fun w' I' D' ρ' u hu=>?_) (a4 w I D ρ [.slice none 0 0] S ⟨rfl,fun j=>?_⟩)
       · cases hu with
         |slice _ _ _ A' cap' b' o' vs2 g1 g2 g3 g4 g5 g6 g7=>
           exact .slice sz [] .full A' cap' b' o' vs2 (by simp) (by obtain⟨_,h,_⟩:=g2;exact h) (by simp) g4 g5 g6 g7
       · cases j with
         |zero=>exact .slice sz [] .nil none 0 b o vs' hsz ⟨rfl,rfl,rfl⟩ hne hcap hlen hat hvv
         |succ j=>exact .undef _
     |some A=>
       refine weaken (fun w' I' D' ρ' u hu=>?_) (b4 w I D ρ [.slice (some A) 0 cap] S ⟨rfl,fun j=>?_⟩)
       · cases hu with
         |slice _ _ _ A' cap' b' o' vs2 g1 g2 g3 g4 g5 g6 g7=>
           exact .slice sz [] .full A' cap' b' o' vs2 (by simp) g2.2 (by simp) g4 g5 g6 g7
       · cases j with
         |zero=>exact .slice sz [] .nonnil (some A) cap b o vs' hsz rfl hne hcap hlen hat hvv
         |succ j=>exact .undef _
 ·exact qpn hm hT hIt hf hn hcomp' hS hC hb
end Go.AE
namespace Go.AE
open Go
abbrev qon:=FuncId→List PV→List AE.Obj→Option qam
def Ev(T:Tbl)(f:FuncId)(args:List PV)(h:List AE.Obj)(r:qam):Prop:=∃N,∀n,N≤n→qbz T n f args h=some r
def EvC(T:Tbl)(c:ACode)(e:List PV)(s:St)(x:AExit×List PV×St):Prop:=∃N,∀n,N≤n→qa0 T (qbz T n) n c e s=some x
def EvO(T:Tbl)(os:List AOper)(e:List PV)(s:St)(x:Option PV×List PV×St):Prop:=∃N,∀n,N≤n→qgp T (qbz T n) os e s=some x
def EvD(T:Tbl)(os:List AOper)(past:Past)(e:List PV)(s:St)(x:Option (PV×Bool)×List PV×St):Prop:=∃N,∀n,N≤n→qey T (qbz T n) os past e s=some x
def Ev1(T:Tbl)(o:AOp)(e:List PV)(s:St)(x:OR×St):Prop:=∃N,∀n,N≤n→evOp T (qbz T n) o e s=some x
section
variable {T:Tbl}{e e1:List PV}{s s1:St}
theorem Ev.one{f:FuncId}{args:List PV}{h:List AE.Obj}{r:qam}(hE:Ev T f args h r):∃n,qbz T n f args h=some r:=let⟨N,hN⟩:=hE;⟨N,hN N (nR0 _)⟩
theorem EvC.skip:EvC T .skip e s (.normal,e,s):=⟨0,fun _ _=>rfl⟩
theorem EvC.ret:EvC T .ret e s (.ret,e,s):=⟨0,fun _ _=>rfl⟩
theorem EvC.exit{id:Nat}:EvC T (.exit id) e s (.exit id,e,s):=⟨0,fun _ _=>rfl⟩
theorem EvC.seq{a b:ACode}{x:AExit×List PV×St}(h1:EvC T a e s (.normal,e1,s1))(h2:EvC T b e1 s1 x):EvC T (.seq a b) e s x:=by obtain⟨N1,h1⟩:=h1;obtain⟨N2,h2⟩:=h2;refine⟨max N1 N2,fun n hn=>?_⟩;simp only[qa0,h1 n (by omega),h2 n (by omega)]
theorem EvC.seqOut{a b:ACode}{x:AExit}(h1:EvC T a e s (x,e1,s1))(hx:x≠.normal):EvC T (.seq a b) e s (x,e1,s1):=by
 obtain⟨N1,h1⟩:=h1;refine⟨N1,fun n hn=>?_⟩;simp only[qa0,h1 n hn];split
 ·grind
 ·rfl
theorem EvC.cond{c:AX}{a b:ACode}{x:AExit×List PV×St}{v:Bool}(hc:ax e c=.bool v)(h:EvC T (if v then a else b) e s x):EvC T (.cond c a b) e s x:=by obtain⟨N,h⟩:=h;refine⟨N,fun n hn=>?_⟩;have:=h n hn;simp only[qa0,hc];cases v<;>simpa using this
theorem EvC.block{id:Nat}{b:ACode}{x:AExit}(h:EvC T b e s (x,e1,s1)):EvC T (.block id b) e s (match x with|.exit i=>if i=id then .normal else .exit i|x=>x,e1,s1):=by obtain⟨N,h⟩:=h;refine⟨N,fun n hn=>?_⟩;simp only[qa0,h n hn];cases x<;>simp;split<;>rfl
theorem EvC.reg{os:List AOper}(h:EvO T os e s (none,e1,s1)):EvC T (.reg os) e s (.normal,e1,s1):=by obtain⟨N,h⟩:=h;exact⟨N,fun n hn=>by simp only[qa0,h n hn]⟩
theorem EvC.regPan{os:List AOper}{v:PV}(h:EvO T os e s (some v,e1,s1)):EvC T (.reg os) e s (.pan v,e1,s1):=by obtain⟨N,h⟩:=h;exact⟨N,fun n hn=>by simp only[qa0,h n hn]⟩
theorem EvC.regD{os:List AOper}(h:EvD T os [] e s (none,e1,s1)):EvC T (.regD os) e s (.normal,e1,s1):=by obtain⟨N,h⟩:=h;exact⟨N,fun n hn=>by simp only[qa0,h n hn]⟩
theorem EvO.nil:EvO T [] e s (none,e,s):=⟨0,fun _ _=>rfl⟩
theorem EvO.off{o:AOper}{os:List AOper}{x:Option PV×List PV×St}(hw:qbk o.guard e=some false)(h:EvO T os (putD e o.dst (.tuple [])) s x):EvO T (o::os) e s x:=by obtain⟨N,h⟩:=h;exact⟨N,fun n hn=>by simp only[qgp,hw,h n hn]⟩
theorem EvO.on{o:AOper}{os:List AOper}{x:Option PV×List PV×St}{v:PV}(hw:qbk o.guard e=some true)(h1:Ev1 T o.op e s (.val v,s1))(h:EvO T os (putD e o.dst v) s1 x):EvO T (o::os) e s x:=by obtain⟨N,h⟩:=h;obtain⟨N1,h1⟩:=h1;exact⟨max N N1,fun n hn=>by simp only[qgp,hw,h1 n (by omega),h n (by omega)]⟩
theorem Ev1.plain{o:AOp}{x:OR×St}(h:∀call:qon,evOp T call o e s=some x):Ev1 T o e s x:=⟨0,fun _ _=>h _⟩
theorem Ev1.call{f:AX}{args:List AX}{g:FuncId}{first captured:List PV}{r:OR}{s2:St}(hf:ax e f=.func (.func g) first captured)(hp:T.prim g=none)(h:Ev T g (first++args.map (ax e)++captured) s.h (r,s2)):
 Ev1 T (.call f args) e s (r,{h:=s2.h,ws:=wall s2.ws s.ws,ups:=s2.ups++s.ups}):=by
 obtain⟨N,h⟩:=h;exact⟨N,fun n hn=>by simp only[evOp,hf,hp,h n hn]⟩
inductive Rounds (T:Tbl)(b:ACode):List PV→St→AExit×List PV×St→Prop
 |out {e s x e1 s1}(h:EvC T b e s (x,e1,s1))(hx:x≠.normal):Rounds T b e s (x,e1,s1)
 |round {e s e1 s1 x}(h:EvC T b e s (.normal,e1,s1))(hr:Rounds T b e1 s1 x):Rounds T b e s x
theorem Rounds.ev{b:ACode}{x:AExit×List PV×St}(h:Rounds T b e s x):∃N,∀n,N≤n→∀m,N≤m→qfr (qa0 T (qbz T n) n b) m e s=some x:=by
 induction h with
 |out h hx=>
   obtain⟨N,h⟩:=h;refine⟨N+1,fun n hn m hm=>?_⟩;obtain⟨m,rfl⟩:∃k,m=k+1:=⟨m - 1,by omega⟩;simp only[qfr,h n (by omega)];split
   ·grind
   ·rfl
 |round h hr ih=>
   obtain⟨N,h⟩:=h;obtain⟨N2,ih⟩:=ih;refine⟨max N N2+1,fun n hn m hm=>?_⟩;obtain⟨m,rfl⟩:∃k,m=k+1:=⟨m - 1,by omega⟩;simp only[qfr,h n (by omega)];exact ih n (by omega) m (by omega)
theorem EvC.loop{b:ACode}{x:AExit×List PV×St}(h:Rounds T b e s x):EvC T (.loop b) e s x:=by obtain⟨N,h⟩:=h.ev;exact⟨N,fun n hn=>by simp only[qa0];exact h n hn n hn⟩
theorem Ev.body{f:FuncId}{af:AFunc}{args vs:List PV}{h:List AE.Obj}{x:AExit}{r:qam}(hs:T.sp f=none)(hf:T.fn f=some af)(hn:args.length=af.np)
 (hc:EvC T af.code args {h,ws:=[],ups:=[]} (x,e1,s1))(hx:x=.ret∨x=.normal)(hr:resv e1 s1.h af.res=some vs)(ht:tidy (T.mode f) h.length (.val (qdq vs)) s1=r):Ev T f args h r:=by
 obtain⟨N,hc⟩:=hc;refine⟨N+1,fun n hn'=>?_⟩;obtain⟨n,rfl⟩:∃k,n=k+1:=⟨n - 1,by omega⟩;simp only[qbz,hs,hf,qfg,hn,if_true,hc n (by omega)];rcases hx with rfl|rfl<;>simp[hr,ht]
end
end Go.AE
namespace Go.AE
open Go
def noCall:qon:=fun _ _ _=>none
def wpF(T:Tbl)(f:FuncId)(args:List PV)(h:List AE.Obj)(K:OR→St→Prop):Prop:=∃r s,Ev T f args h (r,s)∧K r s
def wp1(T:Tbl)(o:AOp)(e:List PV)(s:St)(K:OR→St→Prop):Prop:=
 match o with
 |.call f args=> ∃g first captured,ax e f=.func (.func g) first captured∧
  match T.prim g with
  |some p=> ∃v,qi2 p (first++args.map (ax e)++captured)=some v∧K (.val v) s
  |none=>wpF T g (first++args.map (ax e)++captured) s.h fun r s2=>K r {h:=s2.h,ws:=wall s2.ws s.ws,ups:=s2.ups++s.ups}
 |o=> ∃r s1,evOp T noCall o e s=some (r,s1)∧K r s1
theorem qs9{T:Tbl}{o:AOp}{e:List PV}{s:St}(hc:∀f args,o≠.call f args)(call:qon):evOp T call o e s=evOp T noCall o e s:=by cases o<;>first|rfl|exact absurd rfl (hc _ _)
theorem wp1.sound{T:Tbl}{o:AOp}{e:List PV}{s:St}{K:OR→St→Prop}(h:wp1 T o e s K):∃r s1,Ev1 T o e s (r,s1)∧K r s1:=by
 unfold wp1 at h;split at h
 next f args=>
   obtain⟨g,first,captured,hf,h⟩:=h;split at h
   next p hp=>
     obtain⟨v,hv,hK⟩:=h;refine⟨.val v,s,⟨0,fun n _=>?_⟩,hK⟩;simp only[evOp,hf,hp,hv,oval,Option.map]
   next hp=>
     obtain⟨r,s2,hE,hK⟩:=h;exact⟨r,_,Ev1.call hf hp hE,hK⟩
 next hc=>
   obtain⟨r,s1,h,hK⟩:=h;exact⟨r,s1,Ev1.plain fun call=>by rw[qs9 (fun f a he=>hc f a he) call];exact h,hK⟩
def wpO(T:Tbl):List AOper→List PV→St→(Option PV→List PV→St→Prop)→Prop
 |[],e,s,Q=>Q none e s
 |o::os,e,s,Q=> ∃b,qbk o.guard e=some b∧
   match b with
   |false=>wpO T os (putD e o.dst (.tuple [])) s Q
   |true=>wp1 T o.op e s fun r s1=>match r with
     |.val v=>wpO T os (putD e o.dst v) s1 Q
     |.pan v=>Q (some v) e s1
theorem EvO.pan{T:Tbl}{e:List PV}{s s1:St}{o:AOper}{os:List AOper}{v:PV}(hw:qbk o.guard e=some true)(h1:Ev1 T o.op e s (.pan v,s1)):EvO T (o::os) e s (some v,e,s1):=by obtain⟨N1,h1⟩:=h1;exact⟨N1,fun n hn=>by simp only[qgp,hw,h1 n hn]⟩
theorem wpO.sound{T:Tbl}:∀{os:List AOper}{e:List PV}{s:St}{Q:Option PV→List PV→St→Prop},wpO T os e s Q→∃x e1 s1,EvO T os e s (x,e1,s1)∧Q x e1 s1
 |[],e,s,Q,h=>⟨none,e,s,EvO.nil,h⟩
 |o::os,e,s,Q,h=>by
   obtain⟨b,hb,h⟩:=h;cases b with
   |false=>
     obtain⟨x,e1,s1,h1,hQ⟩:=wpO.sound (os:=os) h;exact⟨x,e1,s1,EvO.off hb h1,hQ⟩
   |true=>
     obtain⟨r,s1,h1,h2⟩:=wp1.sound h;cases r with
     |val v=>
       obtain⟨x,e2,s2,h3,hQ⟩:=wpO.sound (os:=os) h2;exact⟨x,e2,s2,EvO.on hb h1 h3,hQ⟩
     |pan v=>exact⟨some v,e,s1,EvO.pan hb h1,h2⟩
def wpD(T:Tbl):List AOper→Past→List PV→St→(Option (PV×Bool)→List PV→St→Prop)→Prop
 |[],_,e,s,Q=>Q none e s
 |o::os,past,e,s,Q=> ∃b,qbk o.guard e=some b∧
   match b with
   |false=>wpD T os past (putD e o.dst (.tuple [])) s Q
   |true=>wp1 T o.op e {s with ws:=[]} fun r s1=>match r with
     |.val v=>clear o.bef (qbb o.op o.loud e s.h.length) (qbj o.op s1.ws) past=true∧
      wpD T os ((o.idx,qbb o.op o.loud e s.h.length,qbj o.op s1.ws)::past) (putD e o.dst v) {s1 with ws:=wall s1.ws s.ws} Q
     |.pan v=>o.hd=true∧Q (some (v,past.all (fun p=>o.bef.testBit p.1))) e {s1 with ws:=wall s1.ws s.ws}
theorem wpD.sound{T:Tbl}:∀{os:List AOper}{past:Past}{e:List PV}{s:St}{Q:Option (PV×Bool)→List PV→St→Prop},wpD T os past e s Q→∃x e1 s1,EvD T os past e s (x,e1,s1)∧Q x e1 s1
 |[],past,e,s,Q,h=>⟨none,e,s,⟨0,fun _ _=>rfl⟩,h⟩
 |o::os,past,e,s,Q,h=>by
   obtain⟨b,hb,h⟩:=h;cases b with
   |false=>
     obtain⟨x,e1,s1,⟨N,h1⟩,hQ⟩:=wpD.sound (os:=os) h;exact⟨x,e1,s1,⟨N,fun n hn=>by simp only[qey,hb,h1 n hn]⟩,hQ⟩
   |true=>
     obtain⟨r,s1,⟨N1,h1⟩,h2⟩:=wp1.sound h;cases r with
     |val v=>
       obtain⟨hc,h2⟩:=h2;obtain⟨x,e2,s2,⟨N,h3⟩,hQ⟩:=wpD.sound (os:=os) h2;exact⟨x,e2,s2,⟨max N N1,fun n hn=>by simp only[qey,hb,h1 n (by omega),hc,if_true,h3 n (by omega)]⟩,hQ⟩
     |pan v=>
       obtain⟨hc,h2⟩:=h2;exact⟨_,e,_,⟨N1,fun n hn=>by simp only[qey,hb,h1 n (by omega),hc,if_true]⟩,h2⟩
def qga(fa fb:List PV→St→(AExit→List PV→St→Prop)→Prop)(ps:List Nat)(e:List PV)(Q:AExit→List PV→St→Prop):List (List PV)→St→Prop
 |[],s=>Q .normal e s
 |ys::rest,s=>ys.length=ps.length∧fa (puts e ps ys) s fun x e1 s1=>x=.normal∧fb e1 s1 fun x _ s2=>match x with
   |.normal=>qga fa fb ps e Q rest s2
   |.ret=>Q .ret e s2
   |.exit i=>Q (.exit i) e s2
   |.pan _=>False
def wpC(T:Tbl):ACode→List PV→St→(AExit→List PV→St→Prop)→Prop
 |.skip,e,s,Q=>Q .normal e s
 |.reg ops,e,s,Q=>wpO T ops e s fun x e s=>match x with
   |none=>Q .normal e s
   |some v=>Q (.pan v) e s
 |.regD ops,e,s,Q=>wpD T ops [] e s fun x e s'=>match x with
   |none=>Q .normal e s'
   |some (v,true)=>Q (.pan v) e s'
   |some (v,false)=>cutOk s.h.length v s'=true∧Q (.pan v.weak) e (cutAt s.h.length s')
 |.seq a b,e,s,Q=>wpC T a e s fun x e s=>match x with
   |.normal=>wpC T b e s Q
   |x=>Q x e s
 |.cond c a b,e,s,Q=> ∃v,ax e c=.bool v∧(v=true→wpC T a e s Q)∧(v=false→wpC T b e s Q)
 |.block id b,e,s,Q=>wpC T b e s fun x e s=>match x with
   |.exit i=>if i=id then Q .normal e s else Q (.exit i) e s
   |x=>Q x e s
 |.loop b,e,s,Q=> ∃x e1 s1,Rounds T b e s (x,e1,s1)∧Q x e1 s1
 |.range g ps a b,e,s,Q=> ∃gf captured it yss,ax e g=.func (.func gf) [] captured∧T.iter gf=some it∧it captured=some yss∧qga (wpC T a) (wpC T b) ps e Q yss s
 |.exit id,e,s,Q=>Q (.exit id) e s
 |.ret,e,s,Q=>Q .ret e s
 |.bad,_,_,_=>False
theorem qga.sound{T:Tbl}{a b:ACode}(ha:∀{e s Q},wpC T a e s Q→∃x e1 s1,EvC T a e s (x,e1,s1)∧Q x e1 s1)(hb:∀{e s Q},wpC T b e s Q→∃x e1 s1,EvC T b e s (x,e1,s1)∧Q x e1 s1){ps:List Nat}{e:List PV}{Q:AExit→List PV→St→Prop}:
 ∀{yss:List (List PV)}{s:St},qga (wpC T a) (wpC T b) ps e Q yss s→∃x e1 s1,(∃N,∀n,N≤n→qdf (qa0 T (qbz T n) n a) (qa0 T (qbz T n) n b) ps e yss s=some (x,e1,s1))∧Q x e1 s1
 |[],s,h=>⟨.normal,e,s,⟨0,fun _ _=>rfl⟩,h⟩
 |ys::rest,s,h=>by
   obtain⟨hl,h⟩:=h;obtain⟨x,e1,s1,⟨N1,h1⟩,rfl,h⟩:=ha h;obtain⟨x,e2,s2,⟨N2,h2⟩,h⟩:=hb h;cases x with
   |normal=>
     obtain⟨x,e3,s3,⟨N3,h3⟩,h⟩:=qga.sound ha hb (yss:=rest) h;exact⟨x,e3,s3,⟨max (max N1 N2) N3,fun n hn=>by simp only[qdf,hl,if_true,h1 n (by omega),h2 n (by omega),h3 n (by omega)]⟩,h⟩
   |exit i=>exact⟨_,e,s2,⟨max N1 N2,fun n hn=>by simp only[qdf,hl,if_true,h1 n (by omega),h2 n (by omega)]⟩,h⟩
   |ret=>exact⟨_,e,s2,⟨max N1 N2,fun n hn=>by simp only[qdf,hl,if_true,h1 n (by omega),h2 n (by omega)]⟩,h⟩
   |pan v=>exact h.elim
theorem wpC.sound{T:Tbl}:∀{c:ACode}{e:List PV}{s:St}{Q:AExit→List PV→St→Prop},wpC T c e s Q→∃x e1 s1,EvC T c e s (x,e1,s1)∧Q x e1 s1
 |.skip,e,s,Q,h=>⟨_,e,s,EvC.skip,h⟩
 |.reg ops,e,s,Q,h=>by
   obtain⟨x,e1,s1,h1,h⟩:=wpO.sound h;cases x with
   |none=>exact⟨_,e1,s1,EvC.reg h1,h⟩
   |some v=>exact⟨_,e1,s1,EvC.regPan h1,h⟩
 |.regD ops,e,s,Q,h=>by
   obtain⟨x,e1,s1,h1,h⟩:=wpD.sound h;cases x with
   |none=>exact⟨_,e1,s1,EvC.regD h1,h⟩
   |some v=>
     obtain⟨v,b⟩:=v;obtain⟨N,h1⟩:=h1;cases b with
     |true=>exact⟨_,e1,s1,⟨N,fun n hn=>by simp only[qa0,h1 n hn]⟩,h⟩
     |false=>exact⟨_,e1,_,⟨N,fun n hn=>by simp only[qa0,h1 n hn,h.1,if_true]⟩,h.2⟩
 |.seq a b,e,s,Q,h=>by
   obtain⟨x,e1,s1,h1,h⟩:=wpC.sound (c:=a) h;cases x with
   |normal=>
     obtain⟨x,e2,s2,h2,h⟩:=wpC.sound (c:=b) h;exact⟨x,e2,s2,EvC.seq h1 h2,h⟩
   |exit i=>exact⟨_,e1,s1,EvC.seqOut h1 (by simp),h⟩
   |ret=>exact⟨_,e1,s1,EvC.seqOut h1 (by simp),h⟩
   |pan v=>exact⟨_,e1,s1,EvC.seqOut h1 (by simp),h⟩
 |.cond c a b,e,s,Q,h=>by
   obtain⟨v,hv,ht,hf⟩:=h;cases v with
   |true=>
     obtain⟨x,e1,s1,h1,h⟩:=wpC.sound (c:=a) (ht rfl);exact⟨x,e1,s1,EvC.cond hv h1,h⟩
   |false=>
     obtain⟨x,e1,s1,h1,h⟩:=wpC.sound (c:=b) (hf rfl);exact⟨x,e1,s1,EvC.cond hv h1,h⟩
 |.block id b,e,s,Q,h=>by
   obtain⟨x,e1,s1,h1,h⟩:=wpC.sound (c:=b) h;refine⟨_,e1,s1,EvC.block h1,?_⟩;cases x<;>simp only at h⊢ <;>first|exact h|(split at h<;>rename_i hi<;>simp only[hi,if_true,if_false]<;>exact h)
 |.loop b,e,s,Q,h=>by
   obtain⟨x,e1,s1,h1,h⟩:=h;exact⟨x,e1,s1,EvC.loop h1,h⟩
 |.range g ps a b,e,s,Q,h=>by
   obtain⟨gf,captured,it,yss,h1,h2,h3,h⟩:=h;obtain⟨x,e1,s1,⟨N,h4⟩,h⟩:=qga.sound (fun h=>wpC.sound (c:=a) h) (fun h=>wpC.sound (c:=b) h) h;exact⟨x,e1,s1,⟨N,fun n hn=>by simp only[qa0,h1,h2,h3,h4 n hn]⟩,h⟩
 |.exit id,e,s,Q,h=>⟨_,e,s,EvC.exit,h⟩
 |.ret,e,s,Q,h=>⟨_,e,s,EvC.ret,h⟩
 |.bad,_,_,_,h=>h.elim
theorem wpC.loop{T:Tbl}{b:ACode}{Q:AExit→List PV→St→Prop}(I:Nat→List PV→St→Prop)
 (step:∀k e s,I k e s→wpC T b e s fun x e1 s1=>match x with
  |.normal=> ∃k1,k1<k∧I k1 e1 s1
  |x=>Q x e1 s1):∀(k:Nat)(e:List PV)(s:St),I k e s→wpC T (.loop b) e s Q:=by
 intro k;induction k using Nat.strongRecOn with
 |ind k ih=>
   intro e s hI;obtain⟨x,e1,s1,h1,h⟩:=wpC.sound (step k e s hI);cases x with
   |normal=>
     obtain⟨k1,hk,hI1⟩:=h;obtain⟨x,e2,s2,h2,h⟩:=ih k1 hk e1 s1 hI1;exact⟨x,e2,s2,.round h1 h2,h⟩
   |exit i=>exact⟨_,e1,s1,.out h1 (by simp),h⟩
   |ret=>exact⟨_,e1,s1,.out h1 (by simp),h⟩
   |pan v=>exact⟨_,e1,s1,.out h1 (by simp),h⟩
theorem wpC.mono{T:Tbl}{c:ACode}{e:List PV}{s:St}{Q R:AExit→List PV→St→Prop}(h:wpC T c e s Q)(hQ:∀x e s,Q x e s→R x e s):∃x e1 s1,EvC T c e s (x,e1,s1)∧R x e1 s1:=by obtain⟨x,e1,s1,h1,h⟩:=h.sound;exact⟨x,e1,s1,h1,hQ _ _ _ h⟩
def bodyK(f:AFunc)(mode n0:Nat)(K:OR→St→Prop)(x:AExit)(e:List PV)(s:St):Prop:=
 match x with
 |.ret=> ∃vs,resv e s.h f.res=some vs∧K (tidy mode n0 (.val (qdq vs)) s).1 (tidy mode n0 (.val (qdq vs)) s).2
 |.normal=> ∃vs,resv e s.h f.res=some vs∧K (tidy mode n0 (.val (qdq vs)) s).1 (tidy mode n0 (.val (qdq vs)) s).2
 |.pan v=>K (tidy mode n0 (.pan v) s).1 (tidy mode n0 (.pan v) s).2
 |.exit _=>False
theorem wpF.body{T:Tbl}{f:FuncId}{af:AFunc}{args:List PV}{h:List AE.Obj}{K:OR→St→Prop}(hs:T.sp f=none)(hf:T.fn f=some af)(hn:args.length=af.np)
 (hc:wpC T af.code args {h,ws:=[],ups:=[]} (bodyK af (T.mode f) h.length K)):wpF T f args h K:=by
 obtain⟨x,e1,s1,h1,hk⟩:=hc.sound;cases x with
 |normal=>
   obtain⟨vs,hv,hk⟩:=hk;exact⟨_,_,Ev.body hs hf hn h1 (.inr rfl) hv rfl,hk⟩
 |ret=>
   obtain⟨vs,hv,hk⟩:=hk;exact⟨_,_,Ev.body hs hf hn h1 (.inl rfl) hv rfl,hk⟩
 |pan v=>
   obtain⟨N,h1⟩:=h1;refine⟨_,_,⟨N+1,fun n hn'=>?_⟩,hk⟩;obtain⟨n,rfl⟩:∃k,n=k+1:=⟨n - 1,by omega⟩;simp only[qbz,hs,hf,qfg,hn,if_true,h1 n (by omega)]
 |exit i=>exact hk.elim
theorem Ev.det{T:Tbl}{f:FuncId}{args:List PV}{h:List AE.Obj}{r r':qam}(h1:Ev T f args h r)(h2:Ev T f args h r'):r=r':=by obtain⟨N,h1⟩:=h1;obtain⟨M,h2⟩:=h2;have:=(h1 (max N M) (by omega)).symm.trans (h2 (max N M) (by omega));exact Option.some.inj this
theorem wpF.eq{T:Tbl}{f:FuncId}{args:List PV}{h:List AE.Obj}{r:OR}{s:St}{K:OR→St→Prop}(h1:Ev T f args h (r,s)):wpF T f args h K=K r s:=by refine propext ⟨fun⟨r',s',h2,hK⟩=>?_,fun hK=>⟨r,s,h1,hK⟩⟩;cases Ev.det h1 h2;exact hK
theorem Ev.of{T:Tbl}{f:FuncId}{args:List PV}{h:List AE.Obj}{r:OR}{s:St}(h1:wpF T f args h fun r' s'=>r'=r∧s'=s):Ev T f args h (r,s):=by obtain⟨_,_,h1,rfl,rfl⟩:=h1;exact h1
theorem wpF.mono{T:Tbl}{f:FuncId}{args:List PV}{h:List AE.Obj}{K L:OR→St→Prop}(h1:wpF T f args h K)(hK:∀r s,K r s→L r s):wpF T f args h L:=by obtain⟨r,s,h1,h⟩:=h1;exact⟨r,s,h1,hK _ _ h⟩
end Go.AE
namespace Go.AE
open Go
section
variable {T:Tbl}{e:List PV}{s:St}{K:OR→St→Prop}
theorem qal{e:List PV}{i:Nat}{v:PV}:eget (eput e i v) i=v:=by
 induction i generalizing e with
 |zero=>cases e<;>rfl
 |succ i ih=>cases e<;>simp only[eput,eget,ih]
theorem eget_nil{i:Nat}:eget [] i=.undef:=by cases i<;>rfl
theorem qac{e:List PV}{i j:Nat}{v:PV}(h:i≠j):eget (eput e i v) j=eget e j:=by
 induction i generalizing e j with
 |zero=>
   cases j with
   |zero=>exact absurd rfl h
   |succ j=>cases e<;>simp[eput,eget]
 |succ i ih=>
   cases j with
   |zero=>cases e<;>simp[eput,eget]
   |succ j=>
     have:=@ih (e:=e.tail) (j:=j) (by omega);cases e<;>simp_all [eput,eget,eget_nil]
theorem putD_some{i:Nat}{v:PV}:putD e (some i) v=eput e i v:=rfl
theorem putD_none{v:PV}:putD e none v=e:=rfl
theorem wpO_cons{d:Option Nat}{op:AOp}{l hd:Bool}{i b:Nat}{os:List AOper}{Q:Option PV→List PV→St→Prop}:
 wpO T (⟨d,op,none,l,i,b,hd⟩::os) e s Q=wp1 T op e s (fun r s1=>match r with|.val v=>wpO T os (putD e d v) s1 Q|.pan v=>Q (some v) e s1):=by
 refine propext ⟨fun⟨b,hb,h⟩=>?_,fun h=>⟨true,rfl,h⟩⟩;cases hb;exact h
theorem wpO_consG{d:Option Nat}{op:AOp}{l hd w:Bool}{i b j:Nat}{os:List AOper}{Q:Option PV→List PV→St→Prop}:
 wpO T (⟨d,op,some (j,w),l,i,b,hd⟩::os) e s Q=∃b,qbk (some (j,w)) e=some b∧(match b with
 |false=>wpO T os (putD e d (.tuple [])) s Q
 |true=>wp1 T op e s fun r s1=>match r with
   |.val v=>wpO T os (putD e d v) s1 Q
   |.pan v=>Q (some v) e s1):=rfl
theorem wpD_cons{d:Option Nat}{op:AOp}{l hd:Bool}{i b:Nat}{os:List AOper}{past:Past}{Q:Option (PV×Bool)→List PV→St→Prop}:
 wpD T (⟨d,op,none,l,i,b,hd⟩::os) past e s Q=wp1 T op e {s with ws:=[]} (fun r s1=>match r with
  |.val v=>clear b (qbb op l e s.h.length) (qbj op s1.ws) past=true∧
   wpD T os ((i,qbb op l e s.h.length,qbj op s1.ws)::past) (putD e d v) {s1 with ws:=wall s1.ws s.ws} Q
  |.pan v=>hd=true∧Q (some (v,past.all (fun p=>b.testBit p.1))) e {s1 with ws:=wall s1.ws s.ws}):=by
 refine propext ⟨fun⟨b,hb,h⟩=>?_,fun h=>⟨true,rfl,h⟩⟩;cases hb;exact h
theorem wp1_eq{n:Bool}{t:EqT}{x y:AX}:wp1 T (.eq n t x y) e s K=∃b,eqop t (ax e x) (ax e y)=some b∧K (.val (.bool (if n then !b else b))) s:=by simp only[wp1,evOp,oval];cases eqop t (ax e x) (ax e y)<;>simp[and_assoc]
theorem wp1_not{x:AX}:wp1 T (.un .not x) e s K=∃b,ax e x=.bool b∧K (.val (.bool !b)) s:=by simp only[wp1,evOp];cases ax e x<;>simp[and_assoc]
theorem wp1_lenS{x:AX}:wp1 T (.lenS x) e s K=∃t,ax e x=.str t∧K (.val (.int .i64 (t.size:Int))) s:=by simp only[wp1,evOp];cases ax e x<;>simp[and_assoc]
def lenOf:PV→Option Nat
 |.slice _ es _=>some es.length
 |.aref _ _ _ len _=>some len
 |_=>none
theorem wp1_lenL{x:AX}:wp1 T (.lenL x) e s K=∃n,lenOf (ax e x)=some n∧K (.val (.int .i64 (n:Int))) s:=by simp only[wp1,evOp];cases ax e x<;>simp[lenOf,and_assoc]
def qiw(t:ByteArray)(i:Int):Option Nat:=if 0≤i then(t.data.toList[i.toNat]?).map (·.toNat)else none
theorem wp1_idxStr{x i:AX}:wp1 T (.idxStr x i) e s K=∃t k n b,ax e x=.str t∧ax e i=.int k n∧qiw t n=some b∧K (.val (.int .u8 (b:Int))) s:=by simp only[wp1,evOp];cases ax e x<;>cases ax e i<;>simp[qiw,oval,and_assoc];rename_i t _ n;by_cases h:0≤n<;>simp[h];cases t.data[n.toNat]? <;>simp[and_assoc]
theorem qoo{off:Nat}{x:AX}:wp1 T (.fieldAddr off x) e s K=∃v,(match ax e x with|.ptr k i o t=>some (.ptr k i (o+off) t)|.iptr c o=>some (.iptr c (o+off))|_=>(none:Option PV))=some v∧K (.val v) s:=by simp only[wp1,evOp];cases ax e x<;>simp[and_assoc]
theorem wp1_store{sz:Nat}{a x:AX}:wp1 T (.store sz a x) e s K=∃s1,storeAt sz (ax e a) (ax e x) s=some s1∧K (.val .undef) s1:=by simp only[wp1,evOp];cases storeAt sz (ax e a) (ax e x) s<;>simp[and_assoc]
theorem wp1_build{z:List PV}{parts:List (Nat×Nat×AX)}:wp1 T (.build z parts) e s K=∃v,qdt z (parts.map fun(o,n,x)=>(o,n,ax e x))=some v∧K (.val (.agg v)) s:=by simp only[wp1,evOp,oval];cases qdt z (parts.map fun(o,n,x)=>(o,n,ax e x))<;>simp[and_assoc]
theorem qmz{sz len:Nat}{z:PV}{parts:List (Nat×AX)}:wp1 T (.buildSlice sz z len parts) e s K=∃v,qda sz (List.replicate len z) (parts.map fun(i,x)=>(i,ax e x))=some v∧K (.val (.slice sz v .lit)) s:=by simp only[wp1,evOp,oval];cases qda sz (List.replicate len z) (parts.map fun(i,x)=>(i,ax e x))<;>simp[and_assoc]
theorem qse{k:IntKind}{x:AX}:wp1 T (.convInt k x) e s K=∃k' n,ax e x=.int k' n∧K (.val (.int k (k.wrap n))) s:=by simp only[wp1,evOp];cases ax e x<;>simp[and_assoc]
theorem qpx{x:AX}:wp1 T (.nilCheck x) e s K=∃v,(match ax e x with|.ptr k i o t=>some (.ptr k i o t)|.iptr c o=>some (.iptr c o)|.func (.func f) a b=>some (.func (.func f) a b)|_=>(none:Option PV))=some v∧K (.val v) s:=by simp only[wp1,evOp];split<;>simp_all [and_assoc]
theorem wp1_mkFunc{fn:Fn}{f c:List AX}:wp1 T (.mkFunc fn f c) e s K=K (.val (.func fn (f.map (ax e)) (c.map (ax e)))) s:=by simp[wp1,evOp,and_assoc]
theorem qsa{t:TypeId}{x:AX}:wp1 T (.mkIface t x) e s K=K (.val (.iface t (ax e x))) s:=by simp[wp1,evOp,and_assoc]
theorem qsc:wp1 T .makeMap e s K=K (.val (.map (some s.h.length))) (alloc (.map []) s):=by simp[wp1,evOp,and_assoc]
theorem wp1_append{sz b:Nat}{x y:AX}:wp1 T (.append sz b x y) e s K=∃v,appendop sz b (ax e x) (ax e y) s=some v∧K (.val v.1) v.2:=by simp only[wp1,evOp];cases appendop sz b (ax e x) (ax e y) s<;>simp[and_assoc]
theorem qsd{x:AX}{i:Nat}:wp1 T (.extract x i) e s K=∃vs v,ax e x=.tuple vs∧vs[i]?=some v∧K (.val v) s:=by simp only[wp1,evOp,oval];cases ax e x<;>simp[];rename_i vs;cases vs[i]? <;>simp[and_assoc]
def qh7(len sz:Nat)(x i:PV):Option PV:=
 match x,i with
 |.ptr k j o t,.int _ n=>if 0≤n∧n< (len:Int)then some (.ptr k j (o+n.toNat*sz) t)else none
 |.iptr c o,.int _ n=>if 0≤n∧n< (len:Int)then some (.iptr c (o+n.toNat*sz))else none
 |_,_=>none
theorem wp1_idxArr{len sz:Nat}{x i:AX}:wp1 T (.idxArr len sz x i) e s K=∃v,qh7 len sz (ax e x) (ax e i)=some v∧K (.val v) s:=by simp only[wp1,evOp];cases ax e x<;>cases ax e i<;>simp[qh7,and_assoc]<;>split<;>simp[and_assoc]
theorem wp1_pan{x:AX}:wp1 T (.pan x) e s K=∃t v,ax e x=.iface t v∧K (.pan (.iface t v)) s:=by simp only[wp1,evOp];cases ax e x<;>simp[and_assoc]
theorem binop_add{k:IntKind}{a b:Int}:qdb .add (.int k a) (.int k b)=some (.int k (k.wrap (a+b))):=by simp[qdb]
theorem binop_sub{k:IntKind}{a b:Int}:qdb .sub (.int k a) (.int k b)=some (.int k (k.wrap (a - b))):=by simp[qdb]
theorem binop_mul{k:IntKind}{a b:Int}:qdb .mul (.int k a) (.int k b)=some (.int k (k.wrap (a*b))):=by simp[qdb]
theorem binop_quo{k:IntKind}{a b:Int}(h:b≠0):qdb .quo (.int k a) (.int k b)=some (.int k (k.wrap (a.tdiv b))):=by simp[qdb,h]
theorem binop_rem{k:IntKind}{a b:Int}(h:b≠0):qdb .rem (.int k a) (.int k b)=some (.int k (a.tmod b)):=by simp[qdb,h]
theorem binop_eql{k:IntKind}{a b:Int}:qdb .eql (.int k a) (.int k b)=some (.bool (a==b)):=by simp[qdb]
theorem binop_neq{k:IntKind}{a b:Int}:qdb .neq (.int k a) (.int k b)=some (.bool (a !=b)):=by simp[qdb]
theorem binop_lss{k:IntKind}{a b:Int}:qdb .lss (.int k a) (.int k b)=some (.bool (decide (a<b))):=by simp[qdb]
theorem binop_leq{k:IntKind}{a b:Int}:qdb .leq (.int k a) (.int k b)=some (.bool (decide (a≤b))):=by simp[qdb]
theorem binop_gtr{k:IntKind}{a b:Int}:qdb .gtr (.int k a) (.int k b)=some (.bool (decide (b<a))):=by simp[qdb]
theorem binop_geq{k:IntKind}{a b:Int}:qdb .geq (.int k a) (.int k b)=some (.bool (decide (b≤a))):=by simp[qdb]
theorem binop_seq{a b:ByteArray}:qdb .eql (.str a) (.str b)=some (.bool (a.toList==b.toList)):=rfl
theorem binop_sne{a b:ByteArray}:qdb .neq (.str a) (.str b)=some (.bool !(a.toList==b.toList)):=rfl
theorem wrap64{x:Int}(h:-9223372036854775808≤x)(h2:x≤9223372036854775807):IntKind.i64.wrap x=x:=by rw[IntKind.wrap_i64];omega
end
end Go.AE
