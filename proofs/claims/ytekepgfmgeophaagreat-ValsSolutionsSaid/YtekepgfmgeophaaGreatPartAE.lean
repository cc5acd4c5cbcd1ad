/- Stepping through code: rules by which simp goes on step by step, what is behind being looked at last. -/
import Derived.Test.YtekepgfmgeophaaGreatPartAD
import Derived.Tactics
set_option linter.unusedVariables false
set_option linter.unusedSimpArgs false
namespace Go.AE
open Go
structure Keep {α:Type}(K:α→Prop):Type where
def qa4{α:Type}(K:α→Prop)(_:Keep K)(x:Option α):Prop:=∃v,x=some v∧K v
@[go_sem] theorem qf2{α:Type}{K:α→Prop}{d:Keep K}{a:α}:qa4 K d (some a)=K a:=by simp[qa4]
@[go_sem] theorem qd9{α:Type}{K:α→Prop}{d:Keep K}:qa4 K d none=False:=by simp[qa4]
@[go_sem] theorem obind_ite{α:Type}{K:α→Prop}{d:Keep K}{c:Prop} [Decidable c]{x:Option α}:qa4 K d (if c then x else none)=(c∧qa4 K d x):=by by_cases h:c<;>simp[h,qa4]
def qpl(K:OR×St→Prop)(_:Keep K)(T:Tbl)(g:FuncId)(args:List PV)(h:List Obj):Prop:=wpF T g args h fun r s=>K (r,s)
section
variable {T:Tbl}{e:List PV}{s:St}
@[go_sem↓] theorem x_skip{Q:AExit→List PV→St→Prop}:wpC T .skip e s Q=Q .normal e s:=Eq.trans rfl rfl
@[go_sem↓] theorem x_reg{ops:List AOper}{Q:AExit→List PV→St→Prop}:wpC T (.reg ops) e s Q=wpO T ops e s (fun x e s=>match x with|none=>Q .normal e s|some v=>Q (.pan v) e s):=Eq.trans rfl rfl
@[go_sem↓] theorem x_regD{ops:List AOper}{Q:AExit→List PV→St→Prop}:wpC T (.regD ops) e s Q=wpD T ops [] e s (fun x e s'=>match x with|none=>Q .normal e s'|some (v,true)=>Q (.pan v) e s'|some (v,false)=>cutOk s.h.length v s'=true∧Q (.pan v.weak) e (cutAt s.h.length s')):=Eq.trans rfl rfl
@[go_sem↓] theorem x_seq{a b:ACode}{Q:AExit→List PV→St→Prop}:wpC T (.seq a b) e s Q=wpC T a e s (fun x e s=>match x with|.normal=>wpC T b e s Q|.exit i=>Q (.exit i) e s|.ret=>Q .ret e s|.pan v=>Q (.pan v) e s):=by
  show wpC T a e s _=_
  congr 1
  funext x e s
  cases x<;>rfl
@[go_sem↓] theorem x_block{id:Nat}{b:ACode}{Q:AExit→List PV→St→Prop}:wpC T (.block id b) e s Q=wpC T b e s (fun x e s=>match x with|.exit i=>if i=id then Q .normal e s else Q (.exit i) e s|.normal=>Q .normal e s|.ret=>Q .ret e s|.pan v=>Q (.pan v) e s):=by
  show wpC T b e s _=_
  congr 1
  funext x e s
  cases x<;>rfl
@[go_sem↓] theorem x_exit{id:Nat}{Q:AExit→List PV→St→Prop}:wpC T (.exit id) e s Q=Q (.exit id) e s:=Eq.trans rfl rfl
@[go_sem↓] theorem x_ret{Q:AExit→List PV→St→Prop}:wpC T .ret e s Q=Q .ret e s:=Eq.trans rfl rfl
def qtg(v:PV):Option Bool:=match v with|.bool b=>some b|_=>none
@[go_sem] theorem condv_bool{b:Bool}:qtg (.bool b)=some b:=rfl
@[go_sem↓] theorem x_cond{c:AX}{a b:ACode}{Q:AExit→List PV→St→Prop}:wpC T (.cond c a b) e s Q=qa4 (fun v=>bif v then wpC T a e s Q else wpC T b e s Q) ⟨⟩ (qtg (ax e c)):=by simp only[wpC,qa4,qtg];cases ax e c<;>simp;rename_i v;cases v<;>simp
theorem unroll{b:ACode}{Q:AExit→List PV→St→Prop}(h:wpC T b e s fun x e1 s1=>match x with|.normal=>wpC T (.loop b) e1 s1 Q|.exit i=>Q (.exit i) e1 s1|.ret=>Q .ret e1 s1|.pan v=>Q (.pan v) e1 s1):wpC T (.loop b) e s Q:=by
 obtain⟨x,e1,s1,h1,h⟩:=wpC.sound h;cases x with
 |normal=>
   obtain⟨x,e2,s2,h2,h⟩:=h;exact⟨x,e2,s2,.round h1 h2,h⟩
 |exit i=>exact⟨_,e1,s1,.out h1 (by simp),h⟩
 |ret=>exact⟨_,e1,s1,.out h1 (by simp),h⟩
 |pan v=>exact⟨_,e1,s1,.out h1 (by simp),h⟩
def ran(T:Tbl)(d:Option Nat)(os:List AOper)(e:List PV)(Q:Option PV→List PV→St→Prop)(p:OR×St):Prop:=match p.1 with
 |.val v=>wpO T os (putD e d v) p.2 Q
 |.pan v=>Q (some v) e p.2
@[go_sem↓] theorem ran_val{d:Option Nat}{os:List AOper}{Q:Option PV→List PV→St→Prop}{v:PV}{s:St}:ran T d os e Q (.val v,s)=wpO T os (putD e d v) s Q:=Eq.trans rfl rfl
@[go_sem↓] theorem ran_pan{d:Option Nat}{os:List AOper}{Q:Option PV→List PV→St→Prop}{v:PV}{s:St}:ran T d os e Q (.pan v,s)=Q (some v) e s:=Eq.trans rfl rfl
@[go_sem↓] theorem x_nil{Q:Option PV→List PV→St→Prop}:wpO T [] e s Q=Q none e s:=Eq.trans rfl rfl
def one(T:Tbl)(op:AOp)(e:List PV)(s:St)(K:OR×St→Prop):Prop:=match op with
 |.call f args=>qa4 (fun(x:FuncId×List PV×List PV)=>match T.prim x.1 with
   |some p=>qa4 (fun v=>K (.val v,s)) ⟨⟩ (qi2 p (x.2.1++args.map (ax e)++x.2.2))
   |none=>qpl (fun p=>K (p.1,{h:=p.2.h,ws:=wall p.2.ws s.ws,ups:=p.2.ups++s.ups})) ⟨⟩ T x.1 (x.2.1++args.map (ax e)++x.2.2) s.h) ⟨⟩ (match ax e f with|.func (.func g) a b=>some (g,a,b)|_=>none)
 |op=>qa4 K ⟨⟩ (evOp T noCall op e s)
theorem qct{op:AOp}{K:OR×St→Prop}:one T op e s K=wp1 T op e s fun r s=>K (r,s):=by
 unfold one wp1;split
 next f args=>
   simp only[qa4];cases ax e f<;>simp[qpl];rename_i fn a b;cases fn<;>simp;rename_i g;cases hp:T.prim g<;>simp[wpF,and_assoc,hp]
 next hc=>
   cases op<;>first|exact absurd rfl (hc _ _)|(simp only[qa4,Prod.exists])
@[go_sem↓] theorem x_cons{d:Option Nat}{op:AOp}{l hd:Bool}{i b:Nat}{os:List AOper}{Q:Option PV→List PV→St→Prop}:
 wpO T (⟨d,op,none,l,i,b,hd⟩::os) e s Q=one T op e s (ran T d os e Q):=by
 rw[wpO_cons,qct]
 congr 1
def qpz(w:Bool)(v:PV):Option Bool:=match v with|.bool b=>some (b==w)|.tuple []=>some false|_=>none
attribute [go_sem] Bool.not_true Bool.not_false
@[go_sem] theorem wantv_off{w:Bool}:qpz w (.tuple [])=some false:=rfl
structure Keep2 (K:Bool→List PV→Prop):Type where
def qgq(K:Bool→List PV→Prop)(_:Keep2 K)(w:Bool)(v:PV)(e:List PV)(_:Nat):Prop:=match qpz w v with|some b=>K b e|none=>False
theorem qpw{w:Bool}{v:PV}{j:Nat}{K:Bool→List PV→Prop}{d:Keep2 K}:qgq K d w v e j=qa4 (fun b=>K b e) ⟨⟩ (qpz w v):=by unfold qgq;cases qpz w v<;>simp[qa4]
@[go_sem high] theorem wsplit_tt{e:List PV}{j:Nat}{K:Bool→List PV→Prop}{d:Keep2 K}:qgq K d true (.bool true) e j=K true e:=Eq.trans rfl rfl
@[go_sem high] theorem wsplit_tf{e:List PV}{j:Nat}{K:Bool→List PV→Prop}{d:Keep2 K}:qgq K d true (.bool false) e j=K false e:=Eq.trans rfl rfl
@[go_sem high] theorem wsplit_ft{e:List PV}{j:Nat}{K:Bool→List PV→Prop}{d:Keep2 K}:qgq K d false (.bool true) e j=K false e:=Eq.trans rfl rfl
@[go_sem high] theorem wsplit_ff{e:List PV}{j:Nat}{K:Bool→List PV→Prop}{d:Keep2 K}:qgq K d false (.bool false) e j=K true e:=Eq.trans rfl rfl
@[go_sem high] theorem wsplit_off{w:Bool}{e:List PV}{j:Nat}{K:Bool→List PV→Prop}{d:Keep2 K}:qgq K d w (.tuple []) e j=K false e:=Eq.trans rfl rfl
theorem qha:∀{e:List PV}{j:Nat}{v:PV},eget e j=v→v≠.undef→eput e j v=e
 |[],j,v,h,hv=>by cases j<;>exact absurd h.symm hv
 |x::xs,0,v,h,hv=>by
   have h:x=v:=h;rw[←h];rfl
 |x::xs,j+1,v,h,hv=>by show x::eput xs j v=x::xs;rw[qha (e:=xs) h hv]
@[go_sem] theorem wsplit_t{e:List PV}{j:Nat}{b:Bool}{K:Bool→List PV→Prop}{d:Keep2 K}(h:eget e j=.bool b):qgq K d true (.bool b) e j=bif b then K true (eput e j (.bool true))else K false (eput e j (.bool false)):=by
  cases b
  ·rw[qha h (by simp)];rfl
  ·rw[qha h (by simp)];rfl
@[go_sem] theorem wsplit_f{e:List PV}{j:Nat}{b:Bool}{K:Bool→List PV→Prop}{d:Keep2 K}(h:eget e j=.bool b):qgq K d false (.bool b) e j=bif b then K false (eput e j (.bool true))else K true (eput e j (.bool false)):=by
  cases b
  ·rw[qha h (by simp)];rfl
  ·rw[qha h (by simp)];rfl
theorem x_consGo{d:Option Nat}{op:AOp}{l hd w:Bool}{i b j:Nat}{os:List AOper}{Q:Option PV→List PV→St→Prop}:
 wpO T (⟨d,op,some (j,w),l,i,b,hd⟩::os) e s Q=qa4 (fun v=>bif v then one T op e s (ran T d os e Q)else wpO T os (putD e d (.tuple [])) s Q) ⟨⟩ (qpz w (eget e j)):=by
 rw[wpO_consG];simp only[qa4,qbk,qpz];refine propext ⟨fun⟨b,h1,h2⟩=>⟨b,h1,?_⟩,fun⟨b,h1,h2⟩=>⟨b,h1,?_⟩⟩
 · cases b
   ·exact h2
   · show one T op e s _;rw[qct];exact h2
 · cases b
   ·exact h2
   · have h2:one T op e s _:=h2;rw[qct]at h2;exact h2
@[go_sem↓] theorem x_consG{d:Option Nat}{op:AOp}{l hd w:Bool}{i b j:Nat}{os:List AOper}{Q:Option PV→List PV→St→Prop}:
 wpO T (⟨d,op,some (j,w),l,i,b,hd⟩::os) e s Q=qgq (fun v e=>bif v then one T op e s (ran T d os e Q)else wpO T os (putD e d (.tuple [])) s Q) ⟨⟩ w (eget e j) e j:=by
 rw[x_consGo,qpw]
@[go_sem↓] theorem xd_nil{past:Past}{Q:Option (PV×Bool)→List PV→St→Prop}:wpD T [] past e s Q=Q none e s:=Eq.trans rfl rfl
def ranD(T:Tbl)(d:Option Nat)(op:AOp)(l hd:Bool)(i b:Nat)(os:List AOper)(past:Past)(e:List PV)(n:Nat)(ws:List Nat)(Q:Option (PV×Bool)→List PV→St→Prop)(p:OR×St):Prop:=match p.1 with
 |.val v=>clear b (qbb op l e n) (qbj op p.2.ws) past=true∧
  wpD T os ((i,qbb op l e n,qbj op p.2.ws)::past) (putD e d v) {p.2 with ws:=wall p.2.ws ws} Q
 |.pan v=>hd=true∧Q (some (v,past.all (fun p=>b.testBit p.1))) e {p.2 with ws:=wall p.2.ws ws}
@[go_sem↓] theorem ranD_pan{d:Option Nat}{op:AOp}{l hd:Bool}{i b n:Nat}{os:List AOper}{past:Past}{Q:Option (PV×Bool)→List PV→St→Prop}{v:PV}{h:List Obj}{ws ws1:List Nat}{ups:List (Nat×Nat)}:
 ranD T d op l hd i b os past e n ws Q (.pan v,{h,ws:=ws1,ups})=(hd=true∧Q (some (v,past.all (fun p=>b.testBit p.1))) e {h,ws:=wall ws1 ws,ups}):=Eq.trans rfl rfl
theorem clear_nil{b:Nat}{past:Past}:clear b [] [] past=true:=by simp only[clear,List.all_eq_true,Bool.or_eq_true,bA0];exact fun p _=>.inr ⟨by simp[apart],by simp[apart]⟩
@[go_sem↓] theorem ranD_still{d:Option Nat}{op:AOp}{hd:Bool}{i b n:Nat}{os:List AOper}{past:Past}{Q:Option (PV×Bool)→List PV→St→Prop}{v:PV}{h:List Obj}{ws:List Nat}{ups:List (Nat×Nat)}(ho:qbu op=false):
 ranD T d op false hd i b os past e n ws Q (.val v,{h,ws:=[],ups})=wpD T os ((i,[],[])::past) (putD e d v) {h,ws,ups} Q:=by
 have h1:qbb op false e n=[]:=by simp[qbb,ho]
 have h2:qbj op []=[]:=by simp[qbj]
 simp only[ranD,h1,h2,clear_nil,true_and];rfl
@[go_sem↓] theorem ranD_loud{d:Option Nat}{op:AOp}{hd:Bool}{i b n:Nat}{os:List AOper}{past:Past}{Q:Option (PV×Bool)→List PV→St→Prop}{v:PV}{h:List Obj}{ws ws1:List Nat}{ups:List (Nat×Nat)}:
 ranD T d op true hd i b os past e n ws Q (.val v,{h,ws:=ws1,ups})=(clear b (qbb op true e n) (qbj op ws1) past=true∧
  wpD T os ((i,qbb op true e n,qbj op ws1)::past) (putD e d v) {h,ws:=wall ws1 ws,ups} Q):=Eq.trans rfl rfl
@[go_sem↓] theorem xd_cons{d:Option Nat}{op:AOp}{l hd:Bool}{i b:Nat}{os:List AOper}{past:Past}{Q:Option (PV×Bool)→List PV→St→Prop}{h:List Obj}{ws:List Nat}{ups:List (Nat×Nat)}:
 wpD T (⟨d,op,none,l,i,b,hd⟩::os) past e {h,ws,ups} Q=one T op e {h,ws:=[],ups} (ranD T d op l hd i b os past e h.length ws Q):=by
 rw[wpD_cons,qct]
 congr 1
theorem xd_consGo{d:Option Nat}{op:AOp}{l hd w:Bool}{i b j:Nat}{os:List AOper}{past:Past}{Q:Option (PV×Bool)→List PV→St→Prop}{h:List Obj}{ws:List Nat}{ups:List (Nat×Nat)}:
 wpD T (⟨d,op,some (j,w),l,i,b,hd⟩::os) past e {h,ws,ups} Q=qa4 (fun v=>bif v then one T op e {h,ws:=[],ups} (ranD T d op l hd i b os past e h.length ws Q)else wpD T os past (putD e d (.tuple [])) {h,ws,ups} Q) ⟨⟩ (qpz w (eget e j)):=by
 simp only[wpD,qa4,qbk,qpz];refine propext ⟨fun⟨b,h1,h2⟩=>⟨b,h1,?_⟩,fun⟨b,h1,h2⟩=>⟨b,h1,?_⟩⟩
 · cases b
   ·exact h2
   · show one T op e _ _;rw[qct];exact h2
 · cases b
   ·exact h2
   · have h2:one T op e _ _:=h2;rw[qct]at h2;exact h2
@[go_sem↓] theorem xd_consG{d:Option Nat}{op:AOp}{l hd w:Bool}{i b j:Nat}{os:List AOper}{past:Past}{Q:Option (PV×Bool)→List PV→St→Prop}{h:List Obj}{ws:List Nat}{ups:List (Nat×Nat)}:
 wpD T (⟨d,op,some (j,w),l,i,b,hd⟩::os) past e {h,ws,ups} Q=qgq (fun v e=>bif v then one T op e {h,ws:=[],ups} (ranD T d op l hd i b os past e h.length ws Q)else wpD T os past (putD e d (.tuple [])) {h,ws,ups} Q) ⟨⟩ w (eget e j) e j:=by
 rw[xd_consGo,qpw]
@[go_sem] theorem past_nil{b:Nat}:List.all ([]:Past) (fun p=>b.testBit p.1)=true:=rfl
@[go_sem] theorem past_in{b i:Nat}{R W:List Nat}{past:Past}(h:b.testBit i=true):List.all ((i,R,W)::past:Past) (fun p=>b.testBit p.1)=List.all past (fun p=>b.testBit p.1):=by simp[h]
@[go_sem] theorem past_out{b i:Nat}{R W:List Nat}{past:Past}(h:b.testBit i=false):List.all ((i,R,W)::past:Past) (fun p=>b.testBit p.1)=false:=by simp[h]
@[go_sem] theorem clear_empty{b:Nat}{R W:List Nat}:clear b R W []=true:=rfl
@[go_sem] theorem clear_skip{b i:Nat}{R W:List Nat}{past:Past}:clear b R W ((i,[],[])::past)=clear b R W past:=by simp[clear,apart]
@[go_sem] theorem clear_bit{b i:Nat}{R W A B:List Nat}{past:Past}(h:b.testBit i=true):clear b R W ((i,A,B)::past)=clear b R W past:=by simp[clear,h]
@[go_sem] theorem clear_reads{b i:Nat}{R A:List Nat}{past:Past}:clear b R [] ((i,A,[])::past)=clear b R [] past:=by simp[clear,apart]
def qeq(p:PV):List Nat:=match p.ref with|some k=>[k]|none=>[]
@[go_sem] theorem refl1_ptr{k i o t:Nat}:qeq (.ptr k i o t)=[k]:=rfl
@[go_sem] theorem refl1_aref{k i o t u:Nat}:qeq (.aref k i o t u)=[k]:=rfl
@[go_sem] theorem refl1_map{k:Nat}:qeq (.map (some k))=[k]:=rfl
@[go_sem] theorem refl1_int{k:IntKind}{n:Int}:qeq (.int k n)=[]:=rfl
@[go_sem] theorem refl1_iptr{c:PV}{o:Nat}:qeq (.iptr c o)=[]:=rfl
@[go_sem] theorem refl1_bool{b:Bool}:qeq (.bool b)=[]:=rfl
@[go_sem] theorem refl1_slice{n:Nat}{es:List PV}{m:SM}:qeq (.slice n es m)=[]:=rfl
@[go_sem] theorem refl1_agg{es:List PV}:qeq (.agg es)=[]:=rfl
@[go_sem] theorem refl1_str{b:ByteArray}:qeq (.str b)=[]:=rfl
@[go_sem] theorem refl1_func{f:Fn}{a b:List PV}:qeq (.func f a b)=[]:=rfl
theorem qeu{e:List PV}:∀{l:List AX},l.filterMap (fun x=>(ax e x).ref)=l.flatMap fun x=>qeq (ax e x)
 |[]=>rfl
 |x::l=>by simp only[List.filterMap_cons,List.flatMap_cons,qeq];cases(ax e x).ref<;>simp[qeu (l:=l),qeq]
@[go_sem] theorem reads_load{agg:Bool}{sz n:Nat}{x:AX}:qbb (.load agg sz x) true e n=qeq (ax e x):=by simp[qbb,qbu,AOp.axs,qeu]
@[go_sem] theorem reads_store{sz n:Nat}{x y:AX}:qbb (.store sz x y) true e n=qeq (ax e x)++qeq (ax e y):=by simp[qbb,qbu,AOp.axs,qeu]
@[go_sem] theorem reads_call{n:Nat}{f:AX}{l:List AX}:qbb (.call f l) true e n=qeq (ax e f)++l.flatMap fun x=>qeq (ax e x):=by simp[qbb,qbu,AOp.axs,qeu]
@[go_sem] theorem reads_append{sz b n:Nat}{x y:AX}:qbb (.append sz b x y) true e n=qeq (ax e x)++qeq (ax e y):=by simp[qbb,qbu,AOp.axs,qeu]
@[go_sem] theorem reads_make{sz b n:Nat}{z:PV}{x y:AX}:qbb (.makeSlice sz z b x y) true e n=[n]:=by simp[qbb,qbu]
@[go_sem] theorem reads_boxc{sz n:Nat}{z:PV}:qbb (.box sz (.c z)) true e n=[n]:=by simp[qbb,qbu]
@[go_sem] theorem reads_boxt{sz n i:Nat}:qbb (.box sz (.t i)) true e n=qeq (eget e i):=by have:qbb (.box sz (.t i)) true e n=[AX.t i].filterMap (fun x=>(ax e x).ref):=rfl;rw[this,qeu];simp[ax]
@[go_sem] theorem writes_load{agg:Bool}{sz:Nat}{x:AX}{ws:List Nat}:qbj (.load agg sz x) ws=ws:=rfl
@[go_sem] theorem writes_store{sz:Nat}{x y:AX}{ws:List Nat}:qbj (.store sz x y) ws=ws:=rfl
@[go_sem] theorem writes_call{f:AX}{l:List AX}{ws:List Nat}:qbj (.call f l) ws=ws:=rfl
@[go_sem] theorem writes_append{sz b:Nat}{x y:AX}{ws:List Nat}:qbj (.append sz b x y) ws=[]:=rfl
@[go_sem] theorem writes_make{sz b:Nat}{z:PV}{x y:AX}{ws:List Nat}:qbj (.makeSlice sz z b x y) ws=ws:=rfl
@[go_sem] theorem writes_box{sz:Nat}{x:AX}{ws:List Nat}:qbj (.box sz x) ws=ws:=rfl
@[go_sem] theorem wall_nil{b:List Nat}:wall [] b=b:=rfl
attribute [go_sem] List.flatMap_nil List.flatMap_cons List.nil_append List.append_nil List.cons_append List.map_cons List.map_nil
@[go_sem↓] theorem o_callf{f:FuncId}{args:List AX}{K:OR×St→Prop}:one T (.call (.f f) args) e s K=match T.prim f with
 |some p=>qa4 (fun v=>K (.val v,s)) ⟨⟩ (qi2 p (args.map (ax e)))
 |none=>qpl (fun p=>K (p.1,{h:=p.2.h,ws:=wall p.2.ws s.ws,ups:=p.2.ups++s.ups})) ⟨⟩ T f (args.map (ax e)) s.h:=by
 simp only[one,ax,qf2,List.nil_append,List.append_nil]
@[go_sem↓] theorem o_call{f:Nat}{args:List AX}{K:OR×St→Prop}:one T (.call (.t f) args) e s K=qa4 (fun(x:FuncId×List PV×List PV)=>match T.prim x.1 with
 |some p=>qa4 (fun v=>K (.val v,s)) ⟨⟩ (qi2 p (x.2.1++args.map (ax e)++x.2.2))
 |none=>qpl (fun p=>K (p.1,{h:=p.2.h,ws:=wall p.2.ws s.ws,ups:=p.2.ups++s.ups})) ⟨⟩ T x.1 (x.2.1++args.map (ax e)++x.2.2) s.h) ⟨⟩ (match eget e f with|.func (.func g) a b=>some (g,a,b)|_=>none):=rfl
@[go_sem] theorem callee_eq{g:FuncId}{a b:List PV}:(match PV.func (.func g) a b with|.func (.func g) a b=>some (g,a,b)|_=>none)=some (g,a,b):=rfl
variable {K:OR×St→Prop}
@[go_sem↓] theorem o_move{x:AX}:one T (.move x) e s K=qa4 (fun v=>K (.val v,s)) ⟨⟩ (some (ax e x)):=(qf2 (d:=⟨⟩)).trans (qf2 (K:=fun v=>K (.val v,s)) (d:=⟨⟩)).symm
@[go_sem↓] theorem o_pick{c x y:AX}:one T (.pick c x y) e s K=qa4 (fun b=>bif b then qa4 (fun v=>K (.val v,s)) ⟨⟩ (some (ax e x))else qa4 (fun v=>K (.val v,s)) ⟨⟩ (some (ax e y))) ⟨⟩ (qtg (ax e c)):=by simp only[one,evOp];cases hc:ax e c<;>simp only[qtg,qd9,qf2];rename_i b;cases b<;>simp
theorem qn0{x:Option PV}:qa4 K ⟨⟩ (oval x s)=qa4 (fun v=>K (.val v,s)) ⟨⟩ x:=by cases x<;>simp[oval,qa4]
@[go_sem↓] theorem o_bin{op:BinOp}{x y:AX}:one T (.bin op x y) e s K=qa4 (fun v=>K (.val v,s)) ⟨⟩ (qdb op (ax e x) (ax e y)):=qn0
@[go_sem↓] theorem o_load{agg:Bool}{sz:Nat}{a:AX}:one T (.load agg sz a) e s K=qa4 (fun v=>K (.val v,s)) ⟨⟩ (loadAt agg sz (ax e a) s.h):=qn0
@[go_sem↓] theorem o_idxAddr{sz:Nat}{x i:AX}:one T (.idxAddr sz x i) e s K=qa4 (fun v=>K (.val v,s)) ⟨⟩ (qcq sz (ax e x) (ax e i)):=qn0
@[go_sem↓] theorem o_idxArr{len sz:Nat}{x i:AX}:one T (.idxArr len sz x i) e s K=qa4 (fun v=>K (.val v,s)) ⟨⟩ (qh7 len sz (ax e x) (ax e i)):=by rw[qct,wp1_idxArr];rfl
@[go_sem↓] theorem o_slice{sz:Nat}{x:AX}{lo hi mx:Option AX}:one T (.slice sz x lo hi mx) e s K=qa4 (fun v=>K (.val v,s)) ⟨⟩ (qgc sz (ax e x) (oax e lo) (oax e hi) (oax e mx)):=qn0
@[go_sem↓] theorem o_min{m:Bool}{xs:List AX}:one T (.min m xs) e s K=qa4 (fun v=>K (.val v,s)) ⟨⟩ (qqu m (xs.map (ax e))):=qn0
@[go_sem↓] theorem o_eq{n:Bool}{t:EqT}{x y:AX}:one T (.eq n t x y) e s K=qa4 (fun b=>K (.val (.bool (if n then !b else b)),s)) ⟨⟩ (eqop t (ax e x) (ax e y)):=by rw[qct,wp1_eq];rfl
@[go_sem↓] theorem o_not{x:AX}:one T (.un .not x) e s K=qa4 (fun b=>K (.val (.bool !b),s)) ⟨⟩ (qtg (ax e x)):=by rw[qct,wp1_not];simp only[qa4,qtg];cases ax e x<;>simp
def strv(v:PV):Option ByteArray:=match v with|.str t=>some t|_=>none
@[go_sem] theorem strv_str{t:ByteArray}:strv (.str t)=some t:=rfl
@[go_sem↓] theorem o_lenS{x:AX}:one T (.lenS x) e s K=qa4 (fun t=>K (.val (.int .i64 (t.size:Int)),s)) ⟨⟩ (strv (ax e x)):=by rw[qct,wp1_lenS];simp only[qa4,strv];cases ax e x<;>simp
@[go_sem↓] theorem o_lenL{x:AX}:one T (.lenL x) e s K=qa4 (fun n:Nat=>K (.val (.int .i64 (n:Int)),s)) ⟨⟩ (lenOf (ax e x)):=by rw[qct,wp1_lenL];rfl
def idxstr(x i:PV):Option PV:=match x,i with
 |.str t,.int _ n=>(qiw t n).map fun b=>.int .u8 (b:Int)
 |_,_=>none
@[go_sem↓] theorem o_idxStr{x i:AX}:one T (.idxStr x i) e s K=qa4 (fun v=>K (.val v,s)) ⟨⟩ (idxstr (ax e x) (ax e i)):=by rw[qct,wp1_idxStr];simp only[qa4,idxstr];cases ax e x<;>cases ax e i<;>simp[and_assoc];rename_i t k n;cases qiw t n<;>simp
def faddr(off:Nat)(x:PV):Option PV:=match x with
 |.ptr k i o t=>some (.ptr k i (o+off) t)
 |.iptr c o=>some (.iptr c (o+off))
 |_=>none
@[go_sem↓] theorem o_fieldAddr{off:Nat}{x:AX}:one T (.fieldAddr off x) e s K=qa4 (fun v=>K (.val v,s)) ⟨⟩ (faddr off (ax e x)):=by rw[qct,qoo];simp only[qa4,faddr];rfl
def nilck(x:PV):Option PV:=match x with
 |.ptr k i o t=>some (.ptr k i o t)
 |.iptr c o=>some (.iptr c o)
 |.func (.func f) a b=>some (.func (.func f) a b)
 |_=>none
@[go_sem↓] theorem o_nilCheck{x:AX}:one T (.nilCheck x) e s K=qa4 (fun v=>K (.val v,s)) ⟨⟩ (nilck (ax e x)):=by rw[qct,qpx];simp only[qa4,nilck];rfl
def convv(k:IntKind)(x:PV):Option PV:=match x with|.int _ n=>some (.int k (k.wrap n))|_=>none
@[go_sem↓] theorem o_convInt{k:IntKind}{x:AX}:one T (.convInt k x) e s K=qa4 (fun v=>K (.val v,s)) ⟨⟩ (convv k (ax e x)):=by rw[qct,qse];simp only[qa4,convv];cases ax e x<;>simp[and_assoc]
@[go_sem↓] theorem o_extract{x:AX}{i:Nat}:one T (.extract x i) e s K=qa4 (fun v=>K (.val v,s)) ⟨⟩ (match ax e x with|.tuple vs=>vs[i]? |_=>none):=by rw[qct,qsd];simp only[qa4];cases ax e x<;>simp
@[go_sem] theorem tup_get{vs:List PV}{i:Nat}:(match PV.tuple vs with|.tuple vs=>vs[i]? |_=>none)=vs[i]?:=rfl
@[go_sem↓] theorem o_box{sz:Nat}{x:AX}:one T (.box sz x) e s K=qa4 (fun v=>K (.val (.ptr s.h.length 0 0 1),alloc (.row sz [v]) s)) ⟨⟩ (if(ax e x).cells.length=sz∧(ax e x).isDef=true then some (ax e x)else none):=by simp only[one,evOp];split<;>simp[qa4]
@[go_sem↓] theorem o_store{sz:Nat}{a x:AX}:one T (.store sz a x) e s K=qa4 (fun s1=>K (.val .undef,s1)) ⟨⟩ (storeAt sz (ax e a) (ax e x) s):=by rw[qct,wp1_store];rfl
@[go_sem↓] theorem o_build{z:List PV}{parts:List (Nat×Nat×AX)}:one T (.build z parts) e s K=qa4 (fun v=>K (.val (.agg v),s)) ⟨⟩ (qdt z (parts.map fun(o,n,x)=>(o,n,ax e x))):=by rw[qct,wp1_build];rfl
@[go_sem↓] theorem o_buildSlice{sz len:Nat}{z:PV}{parts:List (Nat×AX)}:one T (.buildSlice sz z len parts) e s K=qa4 (fun v=>K (.val (.slice sz v .lit),s)) ⟨⟩ (qda sz (List.replicate len z) (parts.map fun(i,x)=>(i,ax e x))):=by rw[qct,qmz];rfl
@[go_sem↓] theorem o_mkFunc{fn:Fn}{f c:List AX}:one T (.mkFunc fn f c) e s K=K (.val (.func fn (f.map (ax e)) (c.map (ax e))),s):=by rw[qct,wp1_mkFunc]
@[go_sem↓] theorem o_mkIface{t:TypeId}{x:AX}:one T (.mkIface t x) e s K=K (.val (.iface t (ax e x)),s):=by rw[qct,qsa]
@[go_sem↓] theorem o_makeMap:one T .makeMap e s K=K (.val (.map (some s.h.length)),alloc (.map []) s):=by rw[qct,qsc]
def qjz(sz bytes:Nat)(z len cap:PV):Option Nat:=match len,cap with
 |.int k n,.int k' m=>if 0≤n∧n=m∧n≤(room:Int)∧k=.i64∧k'=.i64∧(bytes:Int) *n≤(room:Int)∧z.cells.length=sz then some n.toNat else none
 |_,_=>none
@[go_sem↓] theorem o_makeSlice{sz bytes:Nat}{z:PV}{len cap:AX}:one T (.makeSlice sz z bytes len cap) e s K=qa4 (fun n=>K (.val (.aref s.h.length sz 0 n n),alloc (.row sz (List.replicate n z)) s)) ⟨⟩ (qjz sz bytes z (ax e len) (ax e cap)):=by simp only[one,evOp,qjz];cases ax e len<;>cases ax e cap<;>simp only[qd9];split<;>simp[qa4]
@[go_sem↓] theorem o_append{sz b:Nat}{x y:AX}:one T (.append sz b x y) e s K=qa4 (fun v=>K (.val v.1,v.2)) ⟨⟩ (appendop sz b (ax e x) (ax e y) s):=by rw[qct,wp1_append];rfl
@[go_sem↓] theorem o_pan{x:AX}:one T (.pan x) e s K=qa4 (fun v=>K (.pan v,s)) ⟨⟩ (match ax e x with|.iface t v=>some (.iface t v)|_=>none):=by rw[qct,wp1_pan];simp only[qa4];cases ax e x<;>simp[and_assoc]
attribute [go_sem] putD_some putD_none binop_add binop_sub binop_mul binop_quo binop_rem binop_eql binop_neq binop_lss binop_leq binop_gtr binop_geq binop_seq binop_sne wrap64 beq_self_eq_true
@[go_sem↓] theorem ax_t'{i:Nat}:ax e (.t i)=eget e i:=rfl
@[go_sem↓] theorem ax_c'{v:PV}:ax e (.c v)=v:=rfl
@[go_sem↓] theorem ax_f'{f:FuncId}:ax e (.f f)=.func (.func f) [] []:=rfl
@[go_sem↓] theorem eget_eput'{e:List PV}{i j:Nat}{v:PV}:eget (eput e i v) j=if i=j then v else eget e j:=by
  by_cases h:i=j
  ·subst h;simp[qal]
  ·simp[h,qac h]
@[go_sem] theorem eget_zero'{x:PV}{xs:List PV}:eget (x::xs) 0=x:=rfl
@[go_sem] theorem eget_succ'{x:PV}{xs:List PV}{n:Nat}:eget (x::xs) (n+1)=eget xs n:=rfl
@[go_sem] theorem map_some'{α β:Type}{f:α→β}{a:α}:Option.map f (some a)=some (f a):=rfl
@[go_sem] theorem minop_min{k:IntKind}{a b:Int}:qqu false [.int k a,.int k b]=some (.int k (min a b)):=by
  simp only[qqu,if_true,bF0,if_false]
  congr 2
  split<;>omega
@[go_sem] theorem minop_max{k:IntKind}{a b:Int}:qqu true [.int k a,.int k b]=some (.int k (max a b)):=by
  simp only[qqu,if_true]
  congr 2
  split<;>omega
@[go_sem] theorem faddr_ptr{off k i o t:Nat}:faddr off (.ptr k i o t)=some (.ptr k i (o+off) t):=rfl
@[go_sem] theorem faddr_iptr{off o:Nat}{c:PV}:faddr off (.iptr c o)=some (.iptr c (o+off)):=rfl
@[go_sem] theorem nilck_ptr{k i o t:Nat}:nilck (.ptr k i o t)=some (.ptr k i o t):=rfl
@[go_sem] theorem nilck_iptr{o:Nat}{c:PV}:nilck (.iptr c o)=some (.iptr c o):=rfl
@[go_sem] theorem lenOf_slice{n:Nat}{es:List PV}{m:SM}:lenOf (.slice n es m)=some es.length:=rfl
@[go_sem] theorem lenOf_aref{k i o t u:Nat}:lenOf (.aref k i o t u)=some t:=rfl
@[go_sem] theorem qc2{sz sz':Nat}{es:List PV}{m:SM}{n:Nat}{k:IntKind}:qcq sz (.slice sz' es m) (.int k (n:Int))=if sz'=sz then(es[n]?).map fun c=>.iptr c 0 else none:=by simp[qcq]
@[go_sem] theorem idx_aref{sz rsz off len tip kk:Nat}{n:Nat}{k:IntKind}:qcq sz (.aref kk rsz off len tip) (.int k (n:Int))=if n<len∧rsz=sz then some (.ptr kk (off+n) 0 tip)else none:=by
  simp only[qcq,Int.toNat_natCast];by_cases h:n<len∧rsz=sz
  ·grind
  ·grind
@[go_sem] theorem idx_aref0{sz rsz off len tip kk:Nat}{k:IntKind}:qcq sz (.aref kk rsz off len tip) (.int k 0)=if 0<len∧rsz=sz then some (.ptr kk (off+0) 0 tip)else none:=idx_aref (n:=0)
@[go_sem] theorem idxarr_ptr{len sz k i o t n:Nat}{kk:IntKind}:qh7 len sz (.ptr k i o t) (.int kk (n:Int))=if n<len then some (.ptr k i (o+n*sz) t)else none:=by
  simp only[qh7,Int.toNat_natCast];by_cases h:n<len
  ·grind
  ·grind
@[go_sem] theorem idxarr_ptr0{len sz k i o t:Nat}{kk:IntKind}:qh7 len sz (.ptr k i o t) (.int kk 0)=if 0<len then some (.ptr k i (o+0*sz) t)else none:=idxarr_ptr (n:=0)
@[go_sem] theorem alloc_eq{o:Obj}{h:List Obj}{ws:List Nat}{ups:List (Nat×Nat)}:alloc o {h,ws,ups}={h:=h++[o],ws,ups}:=rfl
@[go_sem] theorem qau{k:Nat}{o:Obj}{h:List Obj}{ws:List Nat}{ups:List (Nat×Nat)}:wrote k o none {h,ws,ups}={h:=h.set k o,ws:=wadd k ws,ups}:=rfl
@[go_sem] theorem qcj{k j:Nat}{o:Obj}{h:List Obj}{ws:List Nat}{ups:List (Nat×Nat)}:wrote k o (some j) {h,ws,ups}={h:=h.set k o,ws:=wadd k ws,ups:=if k<j then(k,j)::ups else ups}:=rfl
@[go_sem] theorem allocOp_move{x:AX}:qbu (.move x)=false:=rfl
@[go_sem] theorem cast_succ{n:Nat}:(n:Int)+1=((n+1:Nat):Int):=rfl
@[go_sem] theorem cast_pred{n:Nat}:((n+1:Nat):Int) - 1=(n:Int):=by omega
theorem cast_sub{n m:Nat}(h:m≤n):(n:Int) - (m:Int)=((n - m:Nat):Int):=by omega
@[go_sem] theorem cast_lt{n m:Nat}:((n:Int)< (m:Int))=(n<m):=by simp
@[go_sem] theorem cast_le{n m:Nat}:((n:Int)≤(m:Int))=(n≤m):=by simp
@[go_sem] theorem load_iptr{agg:Bool}{sz o:Nat}{c:PV}{h:List Obj}:loadAt agg sz (.iptr c o) h=sub agg sz c o:=rfl
@[go_sem↓] theorem bif_true{α:Sort _}{a b:α}:(bif true then a else b)=a:=Eq.trans rfl rfl
@[go_sem↓] theorem bif_false{α:Sort _}{a b:α}:(bif false then a else b)=b:=Eq.trans rfl rfl
def fin(res:List ARes)(mode n0:Nat)(K:OR×St→Prop)(x:AExit)(e:List PV)(s:St):Prop:=match x with
 |.ret=>qa4 (fun vs=>K (tidy mode n0 (.val (qdq vs)) s)) ⟨⟩ (resv e s.h res)
 |.normal=>qa4 (fun vs=>K (tidy mode n0 (.val (qdq vs)) s)) ⟨⟩ (resv e s.h res)
 |.pan v=>K (tidy mode n0 (.pan v) s)
 |.exit _=>False
@[go_sem↓] theorem fin_ret{res:List ARes}{mode n0:Nat}{K:OR×St→Prop}{e:List PV}{s:St}:fin res mode n0 K .ret e s=qa4 (fun vs=>K (tidy mode n0 (.val (qdq vs)) s)) ⟨⟩ (resv e s.h res):=Eq.trans rfl rfl
@[go_sem↓] theorem fin_normal{res:List ARes}{mode n0:Nat}{K:OR×St→Prop}{e:List PV}{s:St}:fin res mode n0 K .normal e s=qa4 (fun vs=>K (tidy mode n0 (.val (qdq vs)) s)) ⟨⟩ (resv e s.h res):=Eq.trans rfl rfl
@[go_sem↓] theorem fin_pan{res:List ARes}{mode n0:Nat}{K:OR×St→Prop}{e:List PV}{s:St}{v:PV}:fin res mode n0 K (.pan v) e s=K (tidy mode n0 (.pan v) s):=Eq.trans rfl rfl
theorem wpBody{f:FuncId}{np nt mode:Nat}{code:ACode}{res:List ARes}{args:List PV}{h:List Obj}{K:OR×St→Prop}(hs:T.sp f=none)(hf:T.fn f=some ⟨np,nt,code,res⟩)(hm:T.mode f=mode)(hn:args.length=np)
 (hc:wpC T code args {h,ws:=[],ups:=[]} (fin res mode h.length K)):wpF T f args h fun r s=>K (r,s):=by
 subst hm;refine wpF.body hs hf hn ?_
 have:fin res (T.mode f) h.length K=bodyK ⟨np,nt,code,res⟩ (T.mode f) h.length fun r s=>K (r,s):=by
  funext x e s
  cases x<;>simp only[fin,bodyK,qa4]
 rw[←this];exact hc
theorem Ev.walk{f:FuncId}{np nt mode:Nat}{code:ACode}{res:List ARes}{args:List PV}{h:List Obj}{r:qam}(hs:T.sp f=none)(hf:T.fn f=some ⟨np,nt,code,res⟩)(hm:T.mode f=mode)(hn:args.length=np)
 (hc:wpC T code args {h,ws:=[],ups:=[]} (fin res mode h.length fun p=>p=r)):Ev T f args h r:=by
 obtain⟨x,s,h1,h2⟩:=wpBody (K:=fun p=>p=r) hs hf hm hn hc;rw[←h2];exact h1
@[go_sem] theorem resv_nil{e:List PV}{h:List Obj}:resv e h []=some []:=rfl
@[go_sem] theorem resv_t{e:List PV}{h:List Obj}{i:Nat}{rs:List ARes}:resv e h (.t i::rs)=(resv e h rs).map (eget e i:: ·):=rfl
@[go_sem] theorem tupled_one{v:PV}:qdq [v]=v:=rfl
@[go_sem] theorem tupled_two{v w:PV}{l:List PV}:qdq (v::w::l)=.tuple (v::w::l):=rfl
theorem qgv{h:List Obj}{v:PV}{s:St}(hp:v.pure=true)(hu:s.ups=[])(hh:s.h.take h.length=h)(hw:∀k∈s.ws,h.length≤k):tidy 0 h.length (.val v) s=(.val v.weak,{h,ws:=[],ups:=[]}):=by
 unfold tidy;have hb:below h.length s.ws=[]:=List.filter_eq_nil_iff.2 fun k hk=>by have:=hw k hk;simp;omega
 simp[hu,frz,hp,hh,hb,OR.v,OR.put]
theorem qnj{h:List Obj}{v:PV}(hp:v.pure=true):tidy 0 h.length (.val v) {h,ws:=[],ups:=[]}=(.val v.weak,{h,ws:=[],ups:=[]}):=qgv hp rfl (by simp) (fun _ h=>by cases h)
@[go_sem] theorem tidy_int{h:List Obj}{k:IntKind}{n:Int}:tidy 0 h.length (.val (.int k n)) {h,ws:=[],ups:=[]}=(.val (.int k n),{h,ws:=[],ups:=[]}):=qnj rfl
@[go_sem] theorem tidy_bool{h:List Obj}{b:Bool}:tidy 0 h.length (.val (.bool b)) {h,ws:=[],ups:=[]}=(.val (.bool b),{h,ws:=[],ups:=[]}):=qnj rfl
@[go_sem] theorem pure_int{k:IntKind}{n:Int}:(PV.int k n).pure=true:=rfl
@[go_sem] theorem pure_bool{b:Bool}:(PV.bool b).pure=true:=rfl
@[go_sem] theorem weak_int{k:IntKind}{n:Int}:(PV.int k n).weak=.int k n:=rfl
@[go_sem] theorem weak_bool{b:Bool}:(PV.bool b).weak=.bool b:=rfl
theorem qle{K:OR×St→Prop}{d:Keep K}{f:FuncId}{args:List PV}{h:List Obj}{r:OR}{s:St}(h1:Ev T f args h (r,s)):qpl K d T f args h=K (r,s):=wpF.eq h1
end
attribute [go_sem↓] reduceIte
attribute [go_sem] Nat.reduceEqDiff Nat.reduceAdd Nat.reduceMul reduceCtorEq
end Go.AE
