/- Loops by an invariant and a number that falls; calls of which little is qo8. -/
import Derived.Test.YtekepgfmgeophaaGreatPartAE
set_option linter.unusedVariables false
set_option linter.unusedSimpArgs false
namespace Go.AE
open Go
variable {T:Tbl}
theorem wpC.loopM{b:ACode}{Q:AExit→List PV→St→Prop}(I:Nat→List PV→St→Prop)(h:∀n e s,I n e s→wpC T b e s fun x e1 s1=>match x with|.normal=> ∃n',n'<n∧I n' e1 s1|.exit i=>Q (.exit i) e1 s1|.ret=>Q .ret e1 s1|.pan v=>Q (.pan v) e1 s1):
 ∀n e s,I n e s→wpC T (.loop b) e s Q:=by
 intro n;induction n using Nat.strongRecOn with
 |_ n ih=>
   intro e s hI;obtain⟨x,e1,s1,h1,h2⟩:=wpC.sound (h n e s hI);cases x with
   |normal=>
     obtain⟨n',hn,hI'⟩:=h2;obtain⟨x,e2,s2,h3,h4⟩:=ih n' hn e1 s1 hI';exact⟨x,e2,s2,.round h1 h3,h4⟩
   |exit i=>exact⟨_,e1,s1,.out h1 (by simp),h2⟩
   |ret=>exact⟨_,e1,s1,.out h1 (by simp),h2⟩
   |pan v=>exact⟨_,e1,s1,.out h1 (by simp),h2⟩
@[go_sem] theorem idxstr_str{t:ByteArray}{k:IntKind}{n:Int}:idxstr (.str t) (.int k n)=(qiw t n).map fun b:Nat=>PV.int .u8 (b:Int):=by cases h:qiw t n<;>simp[idxstr,h]
@[go_sem] theorem subv_int{sz:Nat}{k:IntKind}{n:Int}:sub false sz (.int k n) 0=some (.int k n):=rfl
@[go_sem] theorem subv_str{sz:Nat}{b:ByteArray}:sub false sz (.str b) 0=some (.str b):=rfl
@[go_sem] theorem subv_bool{sz:Nat}{b:Bool}:sub false sz (.bool b) 0=some (.bool b):=rfl
@[go_sem] theorem subv_slice{sz n:Nat}{es:List PV}{m:SM}:sub false sz (.slice n es m) 0=some (.slice n es m):=rfl
@[go_sem] theorem subv_agg{sz off:Nat}{cs:List PV}:sub false sz (.agg cs) off=cs[off]?:=rfl
theorem qad{agg:Bool}{sz k n off:Nat}{c:PV}{h:List Obj}(hk:h[k]?=some (.row n [c])):loadAt agg sz (.ptr k 0 off 1) h=sub agg sz c off:=by simp[loadAt,hk]
@[go_sem] theorem ld_last{agg:Bool}{sz n off:Nat}{c:PV}{h:List Obj}:loadAt agg sz (.ptr h.length 0 off 1) (h++[.row n [c]])=sub agg sz c off:=qad (n:=n) (by simp)
@[go_sem] theorem tidy1_bool{b:Bool}{h:List Obj}{a1:Obj}:tidy 0 h.length (.val (.bool b)) {h:=(h++[a1]),ws:=[],ups:=[]}=(.val (.bool b),{h,ws:=[],ups:=[]}):=qgv rfl rfl (by simp) (by simp)
@[go_sem] theorem tidy1_int{k:IntKind}{n:Int}{h:List Obj}{a1:Obj}:tidy 0 h.length (.val (.int k n)) {h:=(h++[a1]),ws:=[],ups:=[]}=(.val (.int k n),{h,ws:=[],ups:=[]}):=qgv rfl rfl (by simp) (by simp)
@[go_sem] theorem tidyii0{k k2:IntKind}{n m:Int}{h:List Obj}:tidy 0 h.length (.val (.tuple [.int k n,.int k2 m])) {h:=h,ws:=[],ups:=[]}=(.val (.tuple [.int k n,.int k2 m]),{h,ws:=[],ups:=[]}):=qgv rfl rfl (by simp) (by simp)
def bytesv(x:PV):Option ByteArray:=match x with|.str t=>if t.size≤room then some t else none|_=>none
@[go_sem] theorem bytesv_str{t:ByteArray}(h:t.size≤room):bytesv (.str t)=some t:=by simp[bytesv,h]
def strofv(x:PV)(h:List Obj):Option PV:=match qch x h with
 |some (_,es)=>(qfv es).map fun l=>.str ⟨l.toArray⟩
 |none=>none
def qeb(kk:KK)(z:PV)(ok:Bool)(m i:PV)(h:List Obj):Option PV:=match m with
 |.map none=>if qe3 kk i=true then some (if ok then .tuple [z,.bool false]else z)else none
 |.map (some k)=>match h[k]? with
   |some (.map es)=>if qe3 kk i=true then
    match qky i es with
    |some (some v)=>some (if ok then .tuple [v,.bool true]else v)
    |some none=>some (if ok then .tuple [z,.bool false]else z)
    |none=>none
    else none
   |_=>none
 |_=>none
def qgg(kk:KK)(m k v:PV)(s:St):Option St:=match m with
 |.map (some r)=>match s.h[r]? with
   |some (.map es)=>if qe3 kk k=true then(putK k v es).map fun es=>wrote r (.map es) (v.top) s else none
   |_=>none
 |_=>none
section
variable {e:List PV}{s:St}{K:OR×St→Prop}
@[go_sem↓] theorem o_bytesOf{x:AX}:one T (.bytesOf x) e s K=qa4 (fun t=>K (.val (.slice 1 (qfh t) (.tok s.h.length)),alloc (.tok 1 t.size) s)) ⟨⟩ (bytesv (ax e x)):=by simp only[one,evOp,bytesv];cases ax e x<;>simp only[qd9];split<;>simp[qa4]
@[go_sem↓] theorem o_strOf{x:AX}:one T (.strOf x) e s K=qa4 (fun v=>K (.val v,s)) ⟨⟩ (strofv (ax e x) s.h):=by
  simp only[one,evOp,strofv];cases qch (ax e x) s.h with
  |none=>simp[qa4]
  |some p=>exact qn0
@[go_sem↓] theorem o_lookup{kk:KK}{z:PV}{ok:Bool}{m i:AX}:one T (.lookup kk z ok m i) e s K=qa4 (fun v=>K (.val v,s)) ⟨⟩ (qeb kk z ok (ax e m) (ax e i) s.h):=by
  simp only[one,evOp,qeb];cases ax e m<;>try simp only[qd9]
  rename_i r;cases r with
  |none=>by_cases h:qe3 kk (ax e i)=true<;>simp[h,qa4]
  |some k=>
    cases hk:s.h[k]? with
    |none=>simp[qa4,hk]
    |some o=>
      cases o<;>try simp only[hk,qd9]
      rename_i es;by_cases h:qe3 kk (ax e i)=true
      · simp only[h,if_true];cases qky (ax e i) es with
        |none=>simp[qa4]
        |some r=>cases r<;>simp[qa4]
      ·simp[h,qa4]
@[go_sem↓] theorem o_mapUpd{kk:KK}{m k v:AX}:one T (.mapUpd kk m k v) e s K=qa4 (fun s=>K (.val .undef,s)) ⟨⟩ (qgg kk (ax e m) (ax e k) (ax e v) s):=by
  simp only[one,evOp,qgg];cases ax e m<;>try simp only[qd9]
  rename_i r;cases r with
  |none=>simp[qa4]
  |some k'=>
    cases hk:s.h[k']? with
    |none=>simp[qa4,hk]
    |some o=>
      cases o<;>try simp only[hk,qd9]
      rename_i es;by_cases h:qe3 kk (ax e k)=true
      · simp only[h,if_true];cases putK (ax e k) (ax e v) es<;>simp[qa4]
      ·simp[h,qa4]
end
theorem qlr{sz:Nat}{c v:PV}{h:List Obj}{ws:List Nat}{ups:List (Nat×Nat)}(hc:upd c 0 v=some v)(hv:v.cells.length=sz∧v.cells.all PV.isCell=true)(ht:∀j,v.top=some j→j≤h.length):
 storeAt sz (.ptr h.length 0 0 1) v {h:=h++[.row sz [c]],ws,ups}=some {h:=h++[.row sz [v]],ws:=wadd h.length ws,ups}:=by
 have e1:=gC0 (l:=h) (a:=Obj.row sz [c]);have e2:(h++[Obj.row sz [c]]).set h.length (.row sz [v])=h++[.row sz [v]]:=by simp
 simp only[storeAt,e1,List.length_cons,List.length_nil,Nat.zero_add,hv.1,hv.2,and_self,if_true,List.getElem?_cons_zero,hc,Option.map,sC0];cases htop:v.top with
 |none=>rw[qau,e2]
 |some j=>
   have:=ht j htop;rw[qcj,e2,if_neg (by omega)]
@[go_sem] theorem clen_int{k:IntKind}{n:Int}:(PV.int k n).cells.length=1:=rfl
@[go_sem] theorem cdef_int{k:IntKind}{n:Int}:(PV.int k n).isDef=true:=rfl
@[go_sem] theorem clen_bool{b:Bool}:(PV.bool b).cells.length=1:=rfl
@[go_sem] theorem cdef_bool{b:Bool}:(PV.bool b).isDef=true:=rfl
@[go_sem] theorem clen_str{b:ByteArray}:(PV.str b).cells.length=1:=rfl
@[go_sem] theorem cdef_str{b:ByteArray}:(PV.str b).isDef=true:=rfl
@[go_sem] theorem clen_nilFunc:(PV.nilFunc).cells.length=1:=rfl
@[go_sem] theorem cdef_nilFunc:(PV.nilFunc).isDef=true:=rfl
@[go_sem] theorem clen_func{f:Fn}{a b:List PV}:(PV.func f a b).cells.length=1:=rfl
@[go_sem] theorem cdef_func{f:Fn}{a b:List PV}:(PV.func f a b).isDef=true:=rfl
@[go_sem] theorem clen_slice{n:Nat}{es:List PV}{m:SM}:(PV.slice n es m).cells.length=1:=rfl
@[go_sem] theorem cdef_slice{n:Nat}{es:List PV}{m:SM}:(PV.slice n es m).isDef=true:=rfl
@[go_sem] theorem clen_agg{cs:List PV}:(PV.agg cs).cells.length=cs.length:=rfl
@[go_sem] theorem convv_int{k k':IntKind}{n:Int}:convv k (.int k' n)=some (.int k (k.wrap n)):=rfl
@[go_sem] theorem binop_sadd{a b:ByteArray}(h:a.size+b.size≤9223372036854775807):qdb .add (.str a) (.str b)=some (.str (a++b)):=by simp[qdb,qtn,h]
attribute [go_sem] true_and and_self Nat.zero_add Nat.add_zero Nat.zero_mul Nat.mul_one Nat.one_mul lM0 decide_true decide_false
section
variable {b:Bool}{X Y Z:Prop}
theorem bifs(h1:b=true→X)(h2:b=false→Y):bif b then X else Y:=by grind
end
theorem cb{f:FuncId}{args:List PV}{h:List Obj}{r:OR}{s:St}(h1:Ev T f args h (r,s))(K:OR×St→Prop)(d:Keep K):qpl K d T f args h=K (r,s):=qle h1
theorem Ev.walkP{f:FuncId}{np nt mode:Nat}{code:ACode}{res:List ARes}{args:List PV}{h:List Obj}{α:Type}{r:α→qam}{p:α→Prop}(hs:T.sp f=none)(hf:T.fn f=some ⟨np,nt,code,res⟩)(hm:T.mode f=mode)(hn:args.length=np)
 (hc:wpC T code args {h,ws:=[],ups:=[]} (fin res mode h.length fun x=> ∃a,x=r a∧p a)):∃a,Ev T f args h (r a)∧p a:=by
 obtain⟨x,s,h1,a,h2,h3⟩:=wpBody (K:=fun x=> ∃a,x=r a∧p a) hs hf hm hn hc;exact⟨a,h2▸h1,h3⟩
end Go.AE
