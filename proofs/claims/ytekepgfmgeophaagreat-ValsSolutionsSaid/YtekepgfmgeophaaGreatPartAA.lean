/- Texts of the proof, one behind the other: AeCore, AeRel, AeComp, AeOps, AeOps2, AeOps3, AeOps4, AeOps5, AeOps6, AeOps7, AeOps8, AeOps9, AeMem, AeMem2, AeMem3, AeMem4, AeMem5, AeMem6, AeMem7, AeSound, AeSound2, AeMeta, AeSound3. -/
import Derived.Calls
import Derived.Orders
import Derived.LoopN
import Derived.Laws.Sem
import Derived.Laws.World
import Derived.CheckFast
import Derived.Deep.MidRow
import Derived.Deep.AppendSrc
import Derived.Laws.MakeOwn
import Derived.Laws.IdiomStrings
import Derived.Laws.BytesArg
import Derived.Lib.ConvBytes
import Derived.MapKept
set_option linter.unusedVariables false
set_option linter.unusedSimpArgs false
namespace Go.AE
open Go
theorem gE0{α:Type}{l:List α}{i:Nat}(h:i<l.length):l[i]? =some l[i]:=List.getElem?_eq_getElem h
theorem gD0{α:Type}{l:List α}{i:Nat}{a:α}:l.getD i a=l[i]?.getD a:=List.getD_eq_getElem?_getD
theorem gI0{α:Type}{l:List α}{i:Nat}{a:α}:l[i]? =some a↔∃h:i<l.length,l[i]=a:=List.getElem?_eq_some_iff
theorem gL0{α:Type}{l k:List α}{n:Nat}(h:n<l.length):(l++k)[n]? =l[n]? :=List.getElem?_append_left h
theorem gM0{α β:Type}{f:α→β}{l:List α}{i:Nat}:(l.map f)[i]? =Option.map f l[i]? :=List.getElem?_map
theorem mG0{α:Type}{l:List α}{i:Nat}{a:α}(h:l[i]? =some a):a∈l:=List.mem_of_getElem? h
theorem lA0{α:Type}{l k:List α}:(l++k).length=l.length+k.length:=List.length_append
theorem lM0{α β:Type}{f:α→β}{l:List α}:(l.map f).length=l.length:=List.length_map f
theorem tL0{α:Type}{l:List α}{i:Nat}(h:l.length≤i):l.take i=l:=List.take_of_length_le h
theorem lT0{α:Type}{l:List α}{i:Nat}:(l.take i).length=min i l.length:=List.length_take
theorem oM0{α β:Type}{f:α→β}{x:Option α}{b:β}:x.map f=some b↔∃a,x=some a∧f a=b:=Option.map_eq_some_iff
theorem bA0(a b:Bool):((a&&b)=true)=(a=true∧b=true):=Bool.and_eq_true a b
theorem dE0{p:Prop} [Decidable p]:(decide p=true)=p:=decide_eq_true_eq
theorem nR0(n:Nat):n≤n:=Nat.le_refl n
theorem nT0{n m k:Nat}(h:n≤m)(g:m≤k):n≤k:=Nat.le_trans h g
theorem iZ0{a:Int}(h:0≤a): ∃n:Nat,a=n:=Int.eq_ofNat_of_zero_le h
theorem bF0:(false=true)=False:=Bool.false_eq_true
theorem gX0{α:Type}{l:List α}{n:Nat}(h:n<l.length):l[n]∈l:=List.getElem_mem h
theorem lZ0{α:Type}{l:List α}:l.length=0↔l=[]:=List.length_eq_zero_iff
theorem mA0{α:Type}{a:α}{s t:List α}:a∈s++t↔a∈s∨a∈t:=List.mem_append
theorem mS0{α:Type}{a b:α}:a∈[b]↔a=b:=List.mem_singleton
theorem mC0{α:Type}(y:α){a:α}{l:List α}(h:a∈l):a∈y::l:=List.mem_cons_of_mem y h
theorem mM0{α β:Type}{f:α→β}{b:β}{l:List α}:b∈l.map f↔∃a,a∈l∧f a=b:=List.mem_map
theorem mN0{α:Type}{a b:α}{l:List α}:a∈b::l↔a=b∨a∈l:=List.mem_cons
theorem tS0{α:Type}{i:Nat}{l:List α}(h:i<l.length):l.take (i+1)=l.take i++[l[i]]:=List.take_succ_eq_append_getElem h
theorem sC0{α:Type}{l:List α}{a b:α}:(a::l).set 0 b=b::l:=List.set_cons_zero
theorem gC0{α:Type}{l:List α}{a:α}:(l++[a])[l.length]? =some a:=List.getElem?_concat_length
theorem zN0:((0:Nat):Int)=(0:Int):=rfl
inductive SM where
 |any|nonnil|nil|full|lit
 |tok (k:Nat)
 deriving DecidableEq,Inhabited
inductive PV where
 |undef
 |bool (b:Bool)
 |int (k:IntKind)(n:Int)
 |str (s:ByteArray)
 |slice (sz:Nat)(es:List PV)(m:SM)
 |aref (k sz off len tip:Nat)
 |ptr (k i off tip:Nat)
 |iptr (c:PV)(off:Nat)
 |nilptr
 |map (r:Option Nat)
 |func (fn:Fn)(first captured:List PV)
 |nilFunc
 |iface (t:TypeId)(v:PV)
 |nilIface
 |agg (cs:List PV)
 |tuple (vs:List PV)
 deriving Inhabited
inductive Obj where
 |row (sz:Nat)(es:List PV)
 |tok (sz m:Nat)
 |map (es:List (PV×PV))
 deriving Inhabited
def Obj.isTok:Obj→Bool
 |.tok .. =>true
 |_=>false
def PV.cells:PV→List PV
 |.agg cs=>cs
 |p=>[p]
def flat(es:List PV):List PV:=es.flatMap PV.cells
def PV.isCell:PV→Bool
 |.undef|.agg _|.tuple _=>false
 |_=>true
def PV.isDef:PV→Bool
 |.undef=>false
 |_=>true
def eget:List PV→Nat→PV
 |[],_=>.undef
 |x::_,0=>x
 |_::xs,n+1=>eget xs n
def eput:List PV→Nat→PV→List PV
 |[],0,v=>[v]
 |[],n+1,v=>.undef::eput [] n v
 |_::xs,0,v=>v::xs
 |x::xs,n+1,v=>x::eput xs n v
inductive AX where
 |t (i:Nat)
 |c (v:PV)
 |f (f:FuncId)
 |bad
 deriving Inhabited
def ax(e:List PV):AX→PV
 |.t i=>eget e i
 |.c v=>v
 |.f f=>.func (.func f) [] []
 |.bad=>.undef
inductive EqT where
 |bool|slice|func|pointer|map|iface
 deriving DecidableEq,Inhabited
inductive KK where
 |int|str|bool
 deriving DecidableEq,Inhabited
inductive Prim where
 |indexByteString|countString
 deriving DecidableEq,Inhabited
inductive AOp where
 |move (x:AX)
 |pick (c a b:AX)
 |box (sz:Nat)(x:AX)
 |build (z:List PV)(parts:List (Nat×Nat×AX))
 |buildSlice (sz:Nat)(z:PV)(len:Nat)(parts:List (Nat×AX))
 |load (agg:Bool)(sz:Nat)(a:AX)
 |store (sz:Nat)(a x:AX)
 |nilCheck (x:AX)
 |bin (op:BinOp)(x y:AX)
 |eq (neg:Bool)(t:EqT)(x y:AX)
 |un (op:UnOp)(x:AX)
 |convInt (k:IntKind)(x:AX)
 |convStr (x:AX)
 |bytesOf (x:AX)
 |strOf (x:AX)
 |mkIface (t:TypeId)(x:AX)
 |mkFunc (fn:Fn)(first captured:List AX)
 |makeMap
 |makeSlice (sz:Nat)(z:PV)(bytes:Nat)(len cap:AX)
 |slice (sz:Nat)(x:AX)(lo hi mx:Option AX)
 |strSlice (x:AX)(lo hi:Option AX)
 |fieldAddr (off:Nat)(x:AX)
 |field (agg:Bool)(sz off:Nat)(x:AX)
 |idxAddr (sz:Nat)(x i:AX)
 |idxArr (len sz:Nat)(x i:AX)
 |idxStr (x i:AX)
 |idxVal (agg:Bool)(len sz:Nat)(x i:AX)
 |lookup (kk:KK)(z:PV)(commaOk:Bool)(m i:AX)
 |mapUpd (kk:KK)(m k v:AX)
 |extract (x:AX)(i:Nat)
 |typeAssert (asserted:TypeId)(z:PV)(commaOk:Bool)(x:AX)
 |lenS (x:AX)
 |lenL (x:AX)
 |lenM (x:AX)
 |append (sz bytes:Nat)(s x:AX)
 |copy (sz:Nat)(d x:AX)
 |min (max:Bool)(xs:List AX)
 |call (f:AX)(args:List AX)
 |pan (x:AX)
 |bad
 deriving Inhabited
structure AOper where
 dst:Option Nat
 op:AOp
 guard:Option (Nat×Bool)
 loud:Bool
 idx:Nat
 bef:Nat
 hd:Bool
 deriving Inhabited
inductive ACode where
 |skip
 |reg (ops:List AOper)
 |regD (ops:List AOper)
 |seq (a b:ACode)
 |cond (c:AX)(thn els:ACode)
 |block (id:Nat)(body:ACode)
 |loop (body:ACode)
 |range (g:AX)(ps:List Nat)(assign body:ACode)
 |exit (id:Nat)
 |ret
 |bad
 deriving Inhabited
inductive ARes where
 |t (i:Nat)
 |cell (a:Nat)(agg:Bool)(sz:Nat)
 deriving Inhabited
structure AFunc where
 np:Nat
 nt:Nat
 code:ACode
 res:List ARes
 deriving Inhabited
structure St where
 h:List Obj
 ws:List Nat
 ups:List (Nat×Nat)
 deriving Inhabited
inductive OR where
 |val (v:PV)
 |pan (v:PV)
 deriving Inhabited
def OR.v:OR→PV
 |.val v=>v
 |.pan v=>v
def OR.put(o:OR)(v:PV):OR:=
 match o with
 |.val _=>.val v
 |.pan _=>.pan v
abbrev qam:=OR×St
structure Tbl where
 fn:Nat→Option AFunc
 prim:Nat→Option Prim
 sp:Nat→Option ((FuncId→List PV→List Obj→Option qam)→List PV→List Obj→Option qam)
 mode:Nat→Nat
 iter:Nat→Option (List PV→Option (List (List PV)))
def sub(agg:Bool)(sz:Nat)(c:PV)(off:Nat):Option PV:=
 if agg then
  match c with
  |.agg cs=>if off=0∧cs.length=sz then some (.agg cs)else if off+sz≤cs.length then some (.agg ((cs.drop off).take sz))else none
  |_=>none
 else match c with
  |.agg cs=>cs[off]?
  |c=>if off=0 then some c else none
def upd(c:PV)(off:Nat)(x:PV):Option PV:=
 match c with
 |.agg cs=>
   if off=0∧x.cells.length=cs.length then some (.agg x.cells)
   else if off+x.cells.length≤cs.length then some (.agg (cs.take off++x.cells++cs.drop (off+x.cells.length)))else none
 |_=>match x with
   |.agg _=>none
   |x=>if off=0 then some x else none
def omax:Option Nat→Option Nat→Option Nat
 |none,b=>b
 |a,none=>a
 |some a,some b=>some (max a b)
mutual
def PV.top:PV→Option Nat
 |.slice _ es m=>omax (match m with|.tok k=>some k|_=>none) (tops es)
 |.aref k _ _ _ _=>some k
 |.ptr k _ _ _=>some k
 |.iptr c _=>c.top
 |.map r=>r
 |.func _ f c=>omax (tops f) (tops c)
 |.iface _ v=>v.top
 |.agg cs=>tops cs
 |.tuple vs=>tops vs
 |_=>none
def tops:List PV→Option Nat
 |[]=>none
 |x::xs=>omax x.top (tops xs)
end
mutual
def PV.pure:PV→Bool
 |.slice _ es _=>qas es
 |.aref .. |.ptr .. =>false
 |.iptr c _=>c.pure
 |.map r=>r.isNone
 |.func _ f c=>qas f&&qas c
 |.iface _ v=>v.pure
 |.agg cs=>qas cs
 |.tuple vs=>qas vs
 |_=>true
def qas:List PV→Bool
 |[]=>true
 |x::xs=>x.pure&&qas xs
end
mutual
def PV.weak:PV→PV
 |.slice sz es _=>.slice sz (qaq es) .any
 |.iptr c off=>.iptr c.weak off
 |.func fn f c=>.func fn (qaq f) (qaq c)
 |.iface t v=>.iface t v.weak
 |.agg cs=>.agg (qaq cs)
 |.tuple vs=>.tuple (qaq vs)
 |p=>p
def qaq:List PV→List PV
 |[]=>[]
 |x::xs=>x.weak::qaq xs
end
def qbs:List (Option PV)→Option (List PV)
 |[]=>some []
 |none::_=>none
 |some x::xs=>(qbs xs).map (x:: ·)
def frz(h:List Obj)(n0:Nat):Nat→PV→Option PV
 |0,_=>none
 |n+1,p=>
   if p.pure then some p.weak else
   match p with
   |.slice sz es _=>(qbs (es.map (frz h n0 n))).map fun l=>.slice sz l .any
   |.aref k asz off len tip=>
     if k<n0 then some (.aref k asz off len tip)else
     match h[k]? with
     |some (.row sz es)=>if tip=es.length∧off+len≤es.length then(qbs (((es.drop off).take len).map (frz h n0 n))).map fun l=>.slice sz l .any else none
     |_=>none
   |.ptr k i off tip=>
     if k<n0 then some (.ptr k i off tip)else
     match h[k]? with
     |some (.row _ es)=>if tip=es.length then
      match es[i]? with
      |some c=>(frz h n0 n c).map fun c=>.iptr c off
      |none=>none
      else none
     |_=>none
   |.iptr c off=>(frz h n0 n c).map fun c=>.iptr c off
   |.map (some k)=>if k<n0 then some (.map (some k))else none
   |.iface t v=>(frz h n0 n v).map fun v=>.iface t v
   |.agg cs=>(qbs (cs.map (frz h n0 n))).map .agg
   |.tuple vs=>(qbs (vs.map (frz h n0 n))).map .tuple
   |.func fn f c=>match qbs (f.map (frz h n0 n)),qbs (c.map (frz h n0 n))with
     |some f,some c=>some (.func fn f c)
     |_,_=>none
   |_=>none
def qo9(old new:PV):PV:=
 match old,new with
 |.slice _ _ m,.slice sz es _=>.slice sz es (match m with|.nil=>.nil|.lit=>.lit|.tok _=>.nonnil|.nonnil=>.nonnil|_=>.any)
 |.aref _ _ off len _,.slice sz es _=>.slice sz es (if off=0∨0<len then .nonnil else .any)
 |_,new=>new
def qhu:PV→PV→PV
 |.tuple os,.tuple ns=>.tuple (ns.zipIdx.map fun(n,j)=>qo9 (os.getD j .undef) n)
 |o,n=>qo9 o n
def below(n0:Nat)(ws:List Nat):List Nat:=ws.filter fun k=>decide (k<n0)
def wadd(k:Nat)(l:List Nat):List Nat:=if l.contains k then l else k::l
def wall(a b:List Nat):List Nat:=a.foldr wadd b
def tidy(mode n0:Nat)(o:OR)(s:St):qam:=
 if mode=1 then(o,{s with ws:=below n0 s.ws})else
 if s.ups.any fun(k,j)=>k<n0&&n0≤j then(o,{s with ws:=below n0 s.ws})else
 match frz s.h n0 64 o.v with
 |none=>(o,{s with ws:=below n0 s.ws})
 |some v'=>(o.put (if mode=2 then qhu o.v v' else v'),{h:=s.h.take n0,ws:=below n0 s.ws,ups:=s.ups.filter fun(k,_)=>k<n0})
def alloc(o:Obj)(s:St):St:={s with h:=s.h++[o]}
def wrote(k:Nat)(o:Obj)(up:Option Nat)(s:St):St:=
 {h:=s.h.set k o,ws:=wadd k s.ws,ups:=match up with|some j=>if k<j then(k,j)::s.ups else s.ups|none=>s.ups}
def loadAt(agg:Bool)(sz:Nat)(a:PV)(h:List Obj):Option PV:=
 match a with
 |.iptr c off=>sub agg sz c off
 |.ptr k i off tip=>match h[k]? with
   |some (.row _ es)=>if tip=es.length then(match es[i]? with|some c=>sub agg sz c off|none=>none)else none
   |_=>none
 |_=>none
def storeAt(sz:Nat)(a x:PV)(s:St):Option St:=
 match a with
 |.ptr k i off tip=>match s.h[k]? with
   |some (.row rsz es)=>
     if tip=es.length∧x.cells.length=sz∧x.cells.all PV.isCell=true then
      match es[i]? with
      |some c=>(upd c off x).map fun c'=>wrote k (.row rsz (es.set i c')) x.top s
      |none=>none
     else none
   |_=>none
 |_=>none
def qch(x:PV)(h:List Obj):Option (Nat×List PV):=
 match x with
 |.slice sz es _=>some (sz,es)
 |.aref k _ off len tip=>match h[k]? with
   |some (.row sz es)=>if tip=es.length∧off+len≤es.length then some (sz,(es.drop off).take len)else none
   |_=>none
 |_=>none
def qtn(op:BinOp)(x y:ByteArray):Option PV:=
 match op with
 |.add=>if x.size+y.size≤9223372036854775807 then some (.str (x++y))else none
 |.eql=>some (.bool (x.toList==y.toList))
 |.neq=>some (.bool !(x.toList==y.toList))
 |_=>none
def qdb(op:BinOp)(x y:PV):Option PV:=
 match x,y with
 |.int k a,.int k' b=>
   match op with
   |.shl=>if 0≤b then some (.int k (k.wrap (a*2 ^min b.toNat k.bits)))else none
   |.shr=>if 0≤b then some (.int k (a.fdiv (2 ^min b.toNat k.bits)))else none
   |op=>
   if k=k' then
    match op with
    |.add=>some (.int k (k.wrap (a+b)))
    |.sub=>some (.int k (k.wrap (a - b)))
    |.mul=>some (.int k (k.wrap (a*b)))
    |.quo=>if b=0 then none else some (.int k (k.wrap (a.tdiv b)))
    |.rem=>if b=0 then none else some (.int k (a.tmod b))
    |.eql=>some (.bool (a==b))
    |.neq=>some (.bool (a !=b))
    |.lss=>some (.bool (decide (a<b)))
    |.leq=>some (.bool (decide (a≤b)))
    |.gtr=>some (.bool (decide (b<a)))
    |.geq=>some (.bool (decide (b≤a)))
    |.and=>some (.int k (k.wrap (BitVec.ofInt k.bits a&&&BitVec.ofInt k.bits b).toNat))
    |.or=>some (.int k (k.wrap (BitVec.ofInt k.bits a|||BitVec.ofInt k.bits b).toNat))
    |.xor=>some (.int k (k.wrap (BitVec.ofInt k.bits a ^^^BitVec.ofInt k.bits b).toNat))
    |_=>none
   else none
 |.str a,.str b=>qtn op a b
 |_,_=>none
def qgh:EqT→PV→Option Bool
 |.slice,.slice _ es m=>match m with
   |.nil=>some true
   |.nonnil|.lit|.tok _=>some false
   |_=>if es.isEmpty then none else some false
 |.func,.nilFunc=>some true
 |.func,.func .. =>some false
 |.pointer,.nilptr=>some true
 |.pointer,.ptr .. =>some false
 |.pointer,.iptr .. =>some false
 |.map,.map r=>some r.isNone
 |.iface,.nilIface=>some true
 |.iface,.iface .. =>some false
 |_,_=>none
def eqop(t:EqT)(x y:PV):Option Bool:=
 match t,x,y with
 |.bool,.bool a,.bool b=>some (a==b)
 |.bool,_,_=>none
 |t,x,y=>match qgh t x,qgh t y with
   |some true,some b=>some b
   |some false,some true=>some false
   |_,_=>none
def qd3(x:Option PV)(d y:Nat):Option Nat:=
 match x with
 |none=>some d
 |some (.int _ i)=>if 0≤i∧i≤(y:Int)then some i.toNat else none
 |some _=>none
def qgc(sz:Nat)(x:PV)(lo hi mx:Option PV):Option PV:=
 match x with
 |.slice sz' es m=>
   if sz'=sz∨es.isEmpty=true then
    match mx with
    |none=>
      match qd3 hi es.length es.length with
      |none=>none
      |some h=>match qd3 lo 0 h with
        |none=>none
        |some l=>some (.slice sz ((es.drop l).take (h - l)) (if h=es.length then(match m with|.full|.lit=>.full|.nil=>.full|.tok k=>if l=0∧sz'=sz then .tok k else .any|_=>.any)else .any))
    |some mv=>
      match hi with
      |none=>none
      |some hv=>match qd3 (some mv) 0 es.length with
        |none=>none
        |some m=>match qd3 (some hv) 0 m with
          |none=>none
          |some h=>match qd3 lo 0 h with
            |none=>none
            |some l=>some (.slice sz ((es.drop l).take (h - l)) (if h=m then .full else .any))
   else none
 |.aref k rsz off len tip=>
   match mx with
   |some _=>none
   |none=>if rsz=sz then
    match qd3 hi len len with
    |none=>none
    |some h=>match qd3 lo 0 h with
      |none=>none
      |some l=>some (.aref k rsz (off+l) (h - l) tip)
    else none
 |_=>none
def strslice(x:PV)(lo hi:Option PV):Option PV:=
 match x with
 |.str s=>match qd3 hi s.size s.size with
   |none=>none
   |some h=>match qd3 lo 0 h with
     |none=>none
     |some l=>some (.str (s.extract l h))
 |_=>none
def qcq(sz:Nat)(x i:PV):Option PV:=
 match i with
 |.int _ i=>
   match x with
   |.slice sz' es _=>if 0≤i∧sz'=sz then(es[i.toNat]?).map fun c=>.iptr c 0 else none
   |.aref k rsz off len tip=>if 0≤i∧i< (len:Int)∧rsz=sz then some (.ptr k (off+i.toNat) 0 tip)else none
   |_=>none
 |_=>none
def qex:PV→PV→Option Bool
 |.int k a,.int k' b=>if k=k' then some (a==b)else none
 |.str a,.str b=>some (a==b)
 |.bool a,.bool b=>some (a==b)
 |_,_=>none
def qky(key:PV):List (PV×PV)→Option (Option PV)
 |[]=>some none
 |(k,v)::es=>match qex key k with
   |some true=>some (some v)
   |some false=>qky key es
   |none=>none
def putK(key val:PV):List (PV×PV)→Option (List (PV×PV))
 |[]=>some [(key,val)]
 |(k,v)::es=>match qex key k with
   |some true=>some ((key,val)::es)
   |some false=>(putK key val es).map ((k,v):: ·)
   |none=>none
def qe3:KK→PV→Bool
 |.int,.int .. =>true
 |.str,.str _=>true
 |.bool,.bool _=>true
 |_,_=>false
def qfh(s:ByteArray):List PV:=s.data.toList.map fun b=>.int .u8 b.toNat
def unbyte:PV→Option UInt8
 |.int .u8 n=>if 0≤n∧n<256 then some (UInt8.ofNat n.toNat)else none
 |_=>none
def qfv:List PV→Option (List UInt8)
 |[]=>some []
 |x::xs=>match unbyte x,qfv xs with
   |some b,some l=>some (b::l)
   |_,_=>none
def qdt:List PV→List (Nat×Nat×PV)→Option (List PV)
 |cs,[]=>some cs
 |cs,(off,size,v)::rest=>if v.cells.length=size∧off+size≤cs.length∧v.isDef=true then qdt (cs.take off++v.cells++cs.drop (off+size)) rest else none
def qda(sz:Nat):List PV→List (Nat×PV)→Option (List PV)
 |es,[]=>some es
 |es,(i,v)::rest=>if v.cells.length=sz∧i<es.length∧v.isDef=true then qda sz (es.set i v) rest else none
def room:Nat:=140737488355328
def appendop(sz bytes:Nat)(s x:PV)(st:St):Option (PV×St):=
 match s,qch x st.h with
 |.slice sz' es m,some (xsz,xs)=>
   if xs.isEmpty then some (.slice sz' es m,st)else
   if(sz'=sz∨es.isEmpty=true)∧xsz=sz∧0<sz∧xs.all (fun e=>e.cells.all PV.isCell)=true∧(es.length+xs.length) *bytes≤room∧es.length+xs.length≤room then
    match m with
    |.nil|.full|.lit=>some (.slice sz (es++xs) (.tok st.h.length),alloc (.tok sz (es.length+xs.length)) st)
    |.tok k=>match st.h[k]? with
      |some (.tok tsz m')=>if m'=es.length∧tsz=sz then some (.slice sz (es++xs) (.tok k),wrote k (.tok sz (es.length+xs.length)) none st)else none
      |_=>none
    |_=>none
   else none
 |_,_=>none
def SM.flush:SM→Bool
 |.nil|.full|.lit=>true
 |_=>false
def copyop(sz:Nat)(d x:PV)(st:St):Option (PV×St):=
 match qch x st.h with
 |some (xsz,xs)=>
   match d with
   |.aref k dsz off len tip=>match st.h[k]? with
     |some (.row rsz es)=>
       if dsz=sz∧rsz=sz∧tip=es.length∧off+len≤es.length∧(xsz=sz∨xs.isEmpty=true)∧0<sz∧xs.all (fun e=>e.cells.all PV.isCell)=true then
        if(xs.take len).isEmpty then some (.int .i64 0,st)
        else some (.int .i64 ((xs.take len).length:Int),wrote k (.row sz (es.take off++xs.take len++es.drop (off+(xs.take len).length))) (tops (xs.take len)) st)
       else none
     |_=>none
   |_=>none
 |none=>none
def qi2 (p:Prim) (args:List PV):Option PV:=
 match p,args with
 |.indexByteString,[.str s,.int .u8 c]=>some (.int .i64 (match(List.range s.size).find? (fun i=>s[i]! ==UInt8.ofNat c.toNat)with|some i=>(i:Int)|none=> -1))
 |.countString,[.str s,.int .u8 c]=>some (.int .i64 (s.foldl (fun n x=>if x==UInt8.ofNat c.toNat then n+1 else n) (0:Int)))
 |_,_=>none
def qqu(mx:Bool):List PV→Option PV
 |[.int k a,.int k' b]=>if k=k' then some (.int k (if mx then(if a<b then b else a)else(if b<a then b else a)))else none
 |_=>none
def oval(o:Option PV)(s:St):Option (OR×St):=o.map fun v=>(.val v,s)
def oax(e:List PV):Option AX→Option PV:=Option.map (ax e)
def evOp(T:Tbl)(call:FuncId→List PV→List Obj→Option qam)(o:AOp)(e:List PV)(s:St):Option (OR×St):=
 match o with
 |.move x=>some (.val (ax e x),s)
 |.pick c a b=>match ax e c with
   |.bool b'=>some (.val (if b' then ax e a else ax e b),s)
   |_=>none
 |.box sz x=>if(ax e x).cells.length=sz∧(ax e x).isDef=true then some (.val (.ptr s.h.length 0 0 1),alloc (.row sz [ax e x]) s)else none
 |.build z parts=>oval ((qdt z (parts.map fun(o,n,x)=>(o,n,ax e x))).map .agg) s
 |.buildSlice sz z len parts=>oval ((qda sz (List.replicate len z) (parts.map fun(i,x)=>(i,ax e x))).map fun es=>.slice sz es .lit) s
 |.load agg sz a=>oval (loadAt agg sz (ax e a) s.h) s
 |.store sz a x=>(storeAt sz (ax e a) (ax e x) s).map fun s=>(.val .undef,s)
 |.nilCheck x=>match ax e x with
   |.ptr k i o t=>some (.val (.ptr k i o t),s)
   |.iptr c o=>some (.val (.iptr c o),s)
   |.func (.func f) a b=>some (.val (.func (.func f) a b),s)
   |_=>none
 |.bin op x y=>oval (qdb op (ax e x) (ax e y)) s
 |.eq neg t x y=>oval ((eqop t (ax e x) (ax e y)).map fun b=>.bool (if neg then !b else b)) s
 |.un op x=>match op,ax e x with
   |.not,.bool b=>some (.val (.bool !b),s)
   |.neg,.int k n=>some (.val (.int k (k.wrap (0 - n))),s)
   |_,_=>none
 |.convInt k x=>match ax e x with
   |.int _ n=>some (.val (.int k (k.wrap n)),s)
   |_=>none
 |.convStr x=>match ax e x with
   |.str t=>some (.val (.str t),s)
   |_=>none
 |.bytesOf x=>match ax e x with
   |.str t=>if t.size≤room then some (.val (.slice 1 (qfh t) (.tok s.h.length)),alloc (.tok 1 t.size) s)else none
   |_=>none
 |.strOf x=>match qch (ax e x) s.h with
   |some (_,es)=>oval ((qfv es).map fun l=>.str ⟨l.toArray⟩) s
   |none=>none
 |.mkIface t x=>some (.val (.iface t (ax e x)),s)
 |.mkFunc fn f c=>some (.val (.func fn (f.map (ax e)) (c.map (ax e))),s)
 |.makeMap=>some (.val (.map (some s.h.length)),alloc (.map []) s)
 |.makeSlice sz z bytes len cap=>match ax e len,ax e cap with
   |.int k n,.int k' m=>if 0≤n∧n=m∧n≤(room:Int)∧k=.i64∧k'=.i64∧(bytes:Int) *n≤(room:Int)∧z.cells.length=sz then some (.val (.aref s.h.length sz 0 n.toNat n.toNat),alloc (.row sz (List.replicate n.toNat z)) s)else none
   |_,_=>none
 |.slice sz x lo hi mx=>oval (qgc sz (ax e x) (oax e lo) (oax e hi) (oax e mx)) s
 |.strSlice x lo hi=>oval (strslice (ax e x) (oax e lo) (oax e hi)) s
 |.fieldAddr off x=>match ax e x with
   |.ptr k i o t=>some (.val (.ptr k i (o+off) t),s)
   |.iptr c o=>some (.val (.iptr c (o+off)),s)
   |_=>none
 |.field agg sz off x=>match ax e x with
   |.agg cs=>oval (sub agg sz (.agg cs) off) s
   |_=>none
 |.idxAddr sz x i=>oval (qcq sz (ax e x) (ax e i)) s
 |.idxArr len sz x i=>match ax e x,ax e i with
   |.ptr k j o t,.int _ n=>if 0≤n∧n< (len:Int)then some (.val (.ptr k j (o+n.toNat*sz) t),s)else none
   |.iptr c o,.int _ n=>if 0≤n∧n< (len:Int)then some (.val (.iptr c (o+n.toNat*sz)),s)else none
   |_,_=>none
 |.idxStr x i=>match ax e x,ax e i with
   |.str t,.int _ n=>if 0≤n then oval ((t.data.toList[n.toNat]?).map fun b=>.int .u8 b.toNat) s else none
   |_,_=>none
 |.idxVal agg len sz x i=>match ax e x,ax e i with
   |.agg cs,.int _ n=>if 0≤n∧n< (len:Int)then oval (sub agg sz (.agg cs) (n.toNat*sz)) s else none
   |_,_=>none
 |.lookup kk z ok m i=>match ax e m with
   |.map none=>if qe3 kk (ax e i)=true then some (.val (if ok then .tuple [z,.bool false]else z),s)else none
   |.map (some k)=>match s.h[k]? with
     |some (.map es)=>if qe3 kk (ax e i)=true then
      match qky (ax e i) es with
      |some (some v)=>some (.val (if ok then .tuple [v,.bool true]else v),s)
      |some none=>some (.val (if ok then .tuple [z,.bool false]else z),s)
      |none=>none
      else none
     |_=>none
   |_=>none
 |.mapUpd kk m k v=>match ax e m with
   |.map (some r)=>match s.h[r]? with
     |some (.map es)=>if qe3 kk (ax e k)=true then(putK (ax e k) (ax e v) es).map fun es=>(.val .undef,wrote r (.map es) ((ax e v).top) s)else none
     |_=>none
   |_=>none
 |.extract x i=>match ax e x with
   |.tuple vs=>oval vs[i]? s
   |_=>none
 |.typeAssert t z ok x=>match ax e x with
   |.iface t' v=>if t'=t then some (.val (if ok then .tuple [v,.bool true]else v),s)else if ok then some (.val (.tuple [z,.bool false]),s)else none
   |.nilIface=>if ok then some (.val (.tuple [z,.bool false]),s)else none
   |_=>none
 |.lenS x=>match ax e x with
   |.str t=>some (.val (.int .i64 (t.size:Int)),s)
   |_=>none
 |.lenL x=>match ax e x with
   |.slice _ es _=>some (.val (.int .i64 (es.length:Int)),s)
   |.aref _ _ _ len _=>some (.val (.int .i64 (len:Int)),s)
   |_=>none
 |.lenM x=>match ax e x with
   |.map none=>some (.val (.int .i64 0),s)
   |.map (some k)=>match s.h[k]? with
     |some (.map es)=>some (.val (.int .i64 (es.length:Int)),s)
     |_=>none
   |_=>none
 |.append sz bytes a x=>(appendop sz bytes (ax e a) (ax e x) s).map fun(v,s)=>(.val v,s)
 |.copy sz a x=>(copyop sz (ax e a) (ax e x) s).map fun(v,s)=>(.val v,s)
 |.min mx xs=>oval (qqu mx (xs.map (ax e))) s
 |.call f args=>match ax e f with
   |.func (.func f) first captured=>
     let as:=first++args.map (ax e)++captured
     match T.prim f with
     |some p=>oval (qi2 p as) s
     |none=>match call f as s.h with
       |some (r,s')=>some (r,{h:=s'.h,ws:=wall s'.ws s.ws,ups:=s'.ups++s.ups})
       |none=>none
   |_=>none
 |.pan x=>match ax e x with
   |.iface t v=>some (.pan (.iface t v),s)
   |_=>none
 |.bad=>none
def qbk(g:Option (Nat×Bool))(e:List PV):Option Bool:=
 match g with
 |none=>some true
 |some (j,want)=>match eget e j with
   |.bool b=>some (b==want)
   |.tuple []=>some false
   |_=>none
def putD(e:List PV)(d:Option Nat)(v:PV):List PV:=
 match d with
 |some i=>eput e i v
 |none=>e
def qgp(T:Tbl)(call:FuncId→List PV→List Obj→Option qam):List AOper→List PV→St→Option (Option PV×List PV×St)
 |[],e,s=>some (none,e,s)
 |o::os,e,s=>
   match qbk o.guard e with
   |none=>none
   |some false=>qgp T call os (putD e o.dst (.tuple [])) s
   |some true=>match evOp T call o.op e s with
     |some (.val v,s')=>qgp T call os (putD e o.dst v) s'
     |some (.pan v,s')=>some (some v,e,s')
     |none=>none
def tokOp:AOp→Bool
 |.append .. =>true
 |_=>false
def qbu(o:AOp):Bool:=
 match o with
 |.box _ (.c _)=>true
 |.makeSlice .. =>true
 |_=>false
def AOp.axs:AOp→List AX
 |.move x|.box _ x|.nilCheck x|.un _ x|.convInt _ x|.convStr x|.bytesOf x|.strOf x|.mkIface _ x|.fieldAddr _ x|.field _ _ _ x|.extract x _|.typeAssert _ _ _ x
 |.lenS x|.lenL x|.lenM x|.pan x|.load _ _ x=>[x]
 |.pick c a b=>[c,a,b]
 |.build _ parts=>parts.map (·.2.2)
 |.buildSlice _ _ _ parts=>parts.map (·.2)
 |.store _ a x=>[a,x]
 |.bin _ x y|.eq _ _ x y|.idxAddr _ x y|.idxArr _ _ x y|.idxStr x y|.idxVal _ _ _ x y|.lookup _ _ _ x y=>[x,y]
 |.mkFunc _ f c=>f++c
 |.makeMap|.bad=>[]
 |.makeSlice _ _ _ x y=>[x,y]
 |.slice _ x lo hi mx=>x::(lo.toList++hi.toList++mx.toList)
 |.strSlice x lo hi=>x::(lo.toList++hi.toList)
 |.mapUpd _ m k v=>[m,k,v]
 |.append _ _ s x|.copy _ s x=>[s,x]
 |.min _ xs=>xs
 |.call f args=>f::args
def PV.ref:PV→Option Nat
 |.aref k _ _ _ _=>some k
 |.ptr k _ _ _=>some k
 |.map r=>r
 |_=>none
def qbb(o:AOp)(loud:Bool)(e:List PV)(n:Nat):List Nat:=
 if qbu o then [n]else if loud then o.axs.filterMap fun x=>(ax e x).ref else []
def qbj(o:AOp)(ws:List Nat):List Nat:=if tokOp o then []else ws
def apart(a b:List Nat):Bool:=a.all fun k=>!b.contains k
abbrev Past:=List (Nat×List Nat×List Nat)
def clear(bef:Nat)(R W:List Nat)(past:Past):Bool:=past.all fun p=>bef.testBit p.1||(apart p.2.1 W&&apart p.2.2 R)
def cutOk(n0:Nat)(v:PV)(s:St):Bool:=v.pure&&!(s.ups.any fun(k,j)=>decide (k<n0)&&decide (n0≤j))
def cutAt(n0:Nat)(s:St):St:={s with h:=s.h.take n0}
def qey(T:Tbl)(call:FuncId→List PV→List Obj→Option qam):List AOper→Past→List PV→St→Option (Option (PV×Bool)×List PV×St)
 |[],_,e,s=>some (none,e,s)
 |o::os,past,e,s=>
   match qbk o.guard e with
   |none=>none
   |some false=>qey T call os past (putD e o.dst (.tuple [])) s
   |some true=>match evOp T call o.op e {s with ws:=[]}with
     |some (.val v,s')=>
       if clear o.bef (qbb o.op o.loud e s.h.length) (qbj o.op s'.ws) past then
        qey T call os ((o.idx,qbb o.op o.loud e s.h.length,qbj o.op s'.ws)::past) (putD e o.dst v) {s' with ws:=wall s'.ws s.ws}
       else none
     |some (.pan v,s')=>if o.hd then some (some (v,past.all (fun p=>o.bef.testBit p.1)),e,{s' with ws:=wall s'.ws s.ws})else none
     |none=>none
inductive AExit where
 |normal|exit (id:Nat)|ret|pan (v:PV)
 deriving Inhabited
def qfr(f:List PV→St→Option (AExit×List PV×St)):Nat→List PV→St→Option (AExit×List PV×St)
 |0,_,_=>none
 |n+1,e,s=>match f e s with
   |some (.normal,e',s')=>qfr f n e' s'
   |r=>r
def puts:List PV→List Nat→List PV→List PV
 |e,p::ps,v::vs=>puts (eput e p v) ps vs
 |e,_,_=>e
def qdf(fa fb:List PV→St→Option (AExit×List PV×St))(ps:List Nat)(e:List PV):List (List PV)→St→Option (AExit×List PV×St)
 |[],s=>some (.normal,e,s)
 |ys::rest,s=>
   if ys.length=ps.length then
    match fa (puts e ps ys) s with
    |some (.normal,e1,s1)=>match fb e1 s1 with
      |some (.normal,_,s2)=>qdf fa fb ps e rest s2
      |some (.ret,_,s2)=>some (.ret,e,s2)
      |some (.exit i,_,s2)=>some (.exit i,e,s2)
      |_=>none
    |_=>none
   else none
def qa0(T:Tbl)(call:FuncId→List PV→List Obj→Option qam)(n:Nat):ACode→List PV→St→Option (AExit×List PV×St)
 |.skip,e,s=>some (.normal,e,s)
 |.reg ops,e,s=>match qgp T call ops e s with
   |some (none,e',s')=>some (.normal,e',s')
   |some (some v,e',s')=>some (.pan v,e',s')
   |none=>none
 |.regD ops,e,s=>match qey T call ops [] e s with
   |some (none,e',s')=>some (.normal,e',s')
   |some (some (v,true),e',s')=>some (.pan v,e',s')
   |some (some (v,false),e',s')=>if cutOk s.h.length v s' then some (.pan v.weak,e',cutAt s.h.length s')else none
   |none=>none
 |.seq a b,e,s=>match qa0 T call n a e s with
   |some (.normal,e',s')=>qa0 T call n b e' s'
   |r=>r
 |.cond c a b,e,s=>match ax e c with
   |.bool true=>qa0 T call n a e s
   |.bool false=>qa0 T call n b e s
   |_=>none
 |.block id b,e,s=>match qa0 T call n b e s with
   |some (.exit i,e',s')=>if i=id then some (.normal,e',s')else some (.exit i,e',s')
   |r=>r
 |.loop b,e,s=>qfr (qa0 T call n b) n e s
 |.range g ps a b,e,s=>match ax e g with
   |.func (.func gf) [] captured=>match T.iter gf with
     |some it=>match it captured with
       |some yss=>qdf (qa0 T call n a) (qa0 T call n b) ps e yss s
       |none=>none
     |none=>none
   |_=>none
 |.exit id,e,s=>some (.exit id,e,s)
 |.ret,e,s=>some (.ret,e,s)
 |.bad,_,_=>none
def resv(e:List PV)(h:List Obj):List ARes→Option (List PV)
 |[]=>some []
 |.t i::rs=>(resv e h rs).map (eget e i:: ·)
 |.cell a agg sz::rs=>match loadAt agg sz (eget e a) h,resv e h rs with
   |some v,some l=>some (v::l)
   |_,_=>none
def qdq:List PV→PV
 |[v]=>v
 |vs=>.tuple vs
def qfg(T:Tbl)(call:FuncId→List PV→List Obj→Option qam)(n mode:Nat)(f:AFunc)(args:List PV)(h:List Obj):Option qam:=
 if args.length=f.np then
  match qa0 T call n f.code args {h,ws:=[],ups:=[]}with
  |some (.ret,e,s)=>(resv e s.h f.res).map fun vs=>tidy mode h.length (.val (qdq vs)) s
  |some (.normal,e,s)=>(resv e s.h f.res).map fun vs=>tidy mode h.length (.val (qdq vs)) s
  |some (.pan v,_,s)=>some (tidy mode h.length (.pan v) s)
  |_=>none
 else none
def qbz(T:Tbl):Nat→FuncId→List PV→List Obj→Option qam
 |0,_,_,_=>none
 |n+1,f,args,h=>match T.sp f with
   |some sp=>sp (qbz T n) args h
   |none=>match T.fn f with
     |some af=>qfg T (qbz T n) n (T.mode f) af args h
     |none=>none
end Go.AE
namespace Go.AE
open Go
structure Row where
 blk:Nat
 len:Nat
 sz:Nat
 cap:Nat
def SMok(D:Nat→Prop)(ρ:Nat→Row)(n sz:Nat)(m:SM)(a:Option Addr)(cap:Nat):Prop:=
 match m with
 |.any=>True
 |.nonnil=>a.isSome=true
 |.nil=>a=none∧cap=0∧n=0
 |.full=>cap=n
 |.lit=>a.isSome=true∧cap=n
 |.tok k=>D k∧a.isSome=true∧n≤(ρ k).len∧((ρ k).len=n→a=some ⟨(ρ k).blk,0,none⟩∧cap=(ρ k).cap∧sz=(ρ k).sz)
def Held(w:World)(I:Nat→Nat→Prop)(b o:Nat)(vs:List Value):Prop:=
 ∀j v,vs[j]?=some v→I b (o+j)∧w.cell? ⟨b,o+j,none⟩=some v
inductive VR (w:World)(I:Nat→Nat→Prop)(D:Nat→Prop)(ρ:Nat→Row):PV→Value→Prop
 |undef (v:Value):VR w I D ρ .undef v
 |bool (b:Bool):VR w I D ρ (.bool b) (.bool b)
 |int (k:IntKind)(n:Int):VR w I D ρ (.int k n) (.int k n)
 |str (s:ByteArray):VR w I D ρ (.str s) (.string s)
 |slice (sz:Nat)(es:List PV)(m:SM)(a:Option Addr)(cap b o:Nat)(vs:List Value)
  (hsz:∀e∈es,e.cells.length=sz)(hm:SMok D ρ es.length sz m a cap)(hne:es≠[]→a=some ⟨b,o,none⟩)(hcap:es.length≤cap∧(a=none→cap=0))
  (hlen:vs.length=(flat es).length)(hat:Held w I b o vs)
  (hv:∀j,VR w I D ρ ((flat es).getD j .undef) (vs.getD j undef)):VR w I D ρ (.slice sz es m) (.slice a es.length cap)
 |aref (k sz off len tip:Nat)(a:Option Addr)(cap:Nat)(hD:D k)(htip:tip≤(ρ k).len)(hs:0<len→a.isSome=true)(hlc:len≤cap∧(a=none→cap=0))
  (h:(ρ k).len=tip→off+len≤tip∧cap+off=(ρ k).cap∧(ρ k).sz=sz∧((0<len∨off=0)→a=some ⟨(ρ k).blk,off*sz,none⟩)):
  VR w I D ρ (.aref k sz off len tip) (.slice a len cap)
 |ptr (k i off tip:Nat)(a:Addr)(hD:D k)(htip:tip≤(ρ k).len)(h:(ρ k).len=tip→a=⟨(ρ k).blk,i* (ρ k).sz+off,none⟩):
  VR w I D ρ (.ptr k i off tip) (.pointer (some a))
 |iptr (c:PV)(off b o:Nat)(vs:List Value)(hlen:vs.length=c.cells.length)(hat:Held w I b o vs)
  (hv:∀j,VR w I D ρ (c.cells.getD j .undef) (vs.getD j undef)):VR w I D ρ (.iptr c off) (.pointer (some ⟨b,o+off,none⟩))
 |nilptr:VR w I D ρ .nilptr (.pointer none)
 |mapNil:VR w I D ρ (.map none) (.map none)
 |map (k r:Nat)(hD:D k)(h:(ρ k).len=0→r=(ρ k).blk):VR w I D ρ (.map (some k)) (.map (some r))
 |func (fn:Fn)(f c:List PV)(fv cv:Array Value)(hf:fv.size=f.length)(hc:cv.size=c.length)
  (hfv:∀j,VR w I D ρ (f.getD j .undef) (fv.toList.getD j undef))(hcv:∀j,VR w I D ρ (c.getD j .undef) (cv.toList.getD j undef)):
  VR w I D ρ (.func fn f c) (.func fn fv cv)
 |nilFunc:VR w I D ρ .nilFunc .nilFunc
 |iface (t:TypeId)(p:PV)(v:Value)(h:VR w I D ρ p v):VR w I D ρ (.iface t p) (.iface t v)
 |nilIface:VR w I D ρ .nilIface .nilIface
 |agg (cs:List PV)(vs:Array Value)(hlen:vs.size=cs.length)(hv:∀j,VR w I D ρ (cs.getD j .undef) (vs.toList.getD j undef)):
  VR w I D ρ (.agg cs) (.agg vs)
 |tuple (ps:List PV)(vs:Array Value)(hlen:vs.size=ps.length)(hv:∀j,VR w I D ρ (ps.getD j .undef) (vs.toList.getD j undef)):
  VR w I D ρ (.tuple ps) (.tuple vs)
def VRs(w:World)(I:Nat→Nat→Prop)(D:Nat→Prop)(ρ:Nat→Row)(ps:List PV)(vs:List Value):Prop:=
 vs.length=ps.length∧∀j,VR w I D ρ (ps.getD j .undef) (vs.getD j undef)
def qkz(fr:Nat×Nat)(n:Nat):Prop:=∀j,j<n→¬(fr.1≤j∧j<fr.2)
def OK(w:World)(I:Nat→Nat→Prop)(D:Nat→Prop)(ρ:Nat→Row)(k:Nat):Obj→Prop
 |.row sz es=>(ρ k).len=es.length∧(ρ k).sz=sz∧es.length≤(ρ k).cap∧(∀e∈es,e.cells.length=sz)∧(∀o,¬I (ρ k).blk o)∧
  ∃c E fr,w.heap[(ρ k).blk]?=some (.cells c E fr)∧(ρ k).cap*sz=c.size∧qkz fr c.size∧∀j,VR w I D ρ ((flat es).getD j .undef) (c.toList.getD j undef)
 |.tok sz m=>(ρ k).len=m∧(ρ k).sz=sz∧m≤(ρ k).cap∧(∀o,I (ρ k).blk o→o<m*sz)∧
  ∃c E fr,w.heap[(ρ k).blk]?=some (.cells c E fr)∧(ρ k).cap*sz=c.size∧qkz fr c.size
 |.map es=>(ρ k).len=0∧(∀o,¬I (ρ k).blk o)∧
  ∃ents clock,w.heap[(ρ k).blk]?=some (.map ents clock)∧ents.size=es.length∧
    ∀j,VR w I D ρ (es.getD j (.undef,.undef)).1 (ents.toList.getD j default).key∧VR w I D ρ (es.getD j (.undef,.undef)).2 (ents.toList.getD j default).val
structure Sim (w:World)(I:Nat→Nat→Prop)(D:Nat→Prop)(ρ:Nat→Row)(h:List Obj):Prop where
 lt:∀k,D k→k<h.length
 obj:∀k o,D k→h[k]?=some o→OK w I D ρ k o
 inj:∀k k',D k→D k'→(ρ k).blk=(ρ k').blk→k=k'
 imm:∀b o,I b o→b<w.heap.size
structure Nxt (w:World)(I:Nat→Nat→Prop)(D:Nat→Prop)(ρ:Nat→Row)(w':World)(I':Nat→Nat→Prop)(D':Nat→Prop)(ρ':Nat→Row):Prop where
 os:w'.os=w.os
 tape:w'.tape=w.tape∧w.drawn≤w'.drawn
 output:w'.output=w.output
 size:w.heap.size≤w'.heap.size
 keep:∀b,b<w.heap.size→(∀k,D k→b≠(ρ k).blk)→w'.heap[b]?=w.heap[b]?
 immI:∀b o,I b o→I' b o
 immC:∀b o,I b o→w'.cell? ⟨b,o,none⟩=w.cell? ⟨b,o,none⟩
 immN:∀b o,I' b o→I b o∨w.heap.size≤b∨∃k,D k∧b=(ρ k).blk
 dom:∀k,D k→D' k
 rho:∀k,D k→(ρ k).len≤(ρ' k).len∧((ρ' k).len=(ρ k).len→ρ' k=ρ k)
 blk:∀k,D k→(ρ' k).blk=(ρ k).blk∨w.heap.size≤(ρ' k).blk
 blkN:∀k,D' k→¬D k→w.heap.size≤(ρ' k).blk
section
variable {w:World}{I:Nat→Nat→Prop}{D:Nat→Prop}{ρ:Nat→Row}{w':World}{I':Nat→Nat→Prop}{D':Nat→Prop}{ρ':Nat→Row}
theorem Nxt.refl(w:World)(I:Nat→Nat→Prop)(D:Nat→Prop)(ρ:Nat→Row):Nxt w I D ρ w I D ρ:=
 ⟨rfl,⟨rfl,nR0 _⟩,rfl,nR0 _,fun _ _ _=>rfl,fun _ _ h=>h,fun _ _ _=>rfl,fun _ _ h=>.inl h,fun _ h=>h,fun _ _=>⟨nR0 _,fun _=>rfl⟩,fun _ _=>.inl rfl,fun _ h h'=>absurd h h'⟩
theorem Nxt.trans{w'':World}{I'':Nat→Nat→Prop}{D'':Nat→Prop}{ρ'':Nat→Row}(hD:∀k,D k→(ρ k).blk<w.heap.size)
 (h:Nxt w I D ρ w' I' D' ρ')(h':Nxt w' I' D' ρ' w'' I'' D'' ρ''):Nxt w I D ρ w'' I'' D'' ρ'' where
 os:=h'.os.trans h.os
 tape:=⟨h'.tape.1.trans h.tape.1,nT0 h.tape.2 h'.tape.2⟩
 output:=h'.output.trans h.output
 size:=nT0 h.size h'.size
 keep b hb hk:=by
  rw[h'.keep b (Nat.lt_of_lt_of_le hb h.size),h.keep b hb hk];intro k hk' he;by_cases hd:D k
  · rcases h.blk k hd with e|e
    ·grind
    ·omega
  · have:=h.blkN k hk' hd;omega
 immI b o hi:=h'.immI _ _ (h.immI _ _ hi)
 immC b o hi:=(h'.immC _ _ (h.immI _ _ hi)).trans (h.immC _ _ hi)
 immN b o hi:=by
  rcases h'.immN b o hi with h1|h1|⟨k,hk,he⟩
  ·exact h.immN b o h1
  ·exact .inr (.inl (nT0 h.size h1))
  · by_cases hd:D k
    · rcases h.blk k hd with e|e
      ·grind
      ·omega
    ·exact .inr (.inl (he▸h.blkN k hk hd))
 dom k hk:=h'.dom _ (h.dom _ hk)
 rho k hk:=by
  have h1:=h.rho k hk;have h2:=h'.rho k (h.dom k hk);refine⟨nT0 h1.1 h2.1,fun he=>?_⟩;have e1:(ρ' k).len=(ρ k).len:=by omega
  have e2:=h1.2 e1;rw[←e2]at he⊢;exact h2.2 he
 blk k hk:=by
  rcases h'.blk k (h.dom k hk)with e|e
  · rcases h.blk k hk with e2|e2
    ·omega
    ·omega
  ·exact .inr (nT0 h.size e)
 blkN k hk hd:=by
  by_cases hd':D' k
  · have h1:=h.blkN k hd' hd;rcases h'.blk k hd' with e|e
    ·omega
    ·exact nT0 h.size e
  ·exact nT0 h.size (h'.blkN k hk hd')
theorem SMok.next{n sz:Nat}{m:SM}{a:Option Addr}{cap:Nat}(hdom:∀k,D k→D' k)(hrho:∀k,D k→(ρ k).len≤(ρ' k).len∧((ρ' k).len=(ρ k).len→ρ' k=ρ k))
 (h:SMok D ρ n sz m a cap):SMok D' ρ' n sz m a cap:=by
 cases m with
 |tok k=>
   obtain⟨hd,ha,hl,he⟩:=h;have hr:=hrho k hd;refine⟨hdom k hd,ha,nT0 hl hr.1,fun e=>?_⟩;have e1:(ρ' k).len=(ρ k).len:=by omega
   have e2:=hr.2 e1;rw[e2];exact he (by omega)
 |_=>exact h
theorem Held.next{b o:Nat}{vs:List Value}(hI:∀b o,I b o→I' b o∧w'.cell? ⟨b,o,none⟩=w.cell? ⟨b,o,none⟩)(h:Held w I b o vs):Held w' I' b o vs:=
 fun j v hj=>⟨(hI _ _ (h j v hj).1).1,(hI _ _ (h j v hj).1).2.trans (h j v hj).2⟩
theorem VR.carry(hI:∀b o,I b o→I' b o∧w'.cell? ⟨b,o,none⟩=w.cell? ⟨b,o,none⟩)(hdom:∀k,D k→D' k)
 (hrho:∀k,D k→(ρ k).len≤(ρ' k).len∧((ρ' k).len=(ρ k).len→ρ' k=ρ k)){p:PV}{v:Value}(h:VR w I D ρ p v):VR w' I' D' ρ' p v:=by
 induction h with
 |undef v=>exact .undef v
 |bool b=>exact .bool b
 |int k n=>exact .int k n
 |str s=>exact .str s
 |slice sz es m a cap b o vs hsz hm hne hcap hlen hat hv ih=>exact .slice sz es m a cap b o vs hsz (hm.next hdom hrho) hne hcap hlen (hat.next hI) ih
 |aref k sz off len tip a cap hD htip hs hlc h=>
   have hr:=hrho k hD;refine .aref k sz off len tip a cap (hdom k hD) (nT0 htip hr.1) hs hlc fun e=>?_;rw[hr.2 (by omega)];exact h (by omega)
 |ptr k i off tip a hD htip h=>
   have hr:=hrho k hD;refine .ptr k i off tip a (hdom k hD) (nT0 htip hr.1) fun e=>?_;rw[hr.2 (by omega)];exact h (by omega)
 |iptr c off b o vs hlen hat hv ih=>exact .iptr c off b o vs hlen (hat.next hI) ih
 |nilptr=>exact .nilptr
 |mapNil=>exact .mapNil
 |map k r hD h=>
   have hr:=hrho k hD;refine .map k r (hdom k hD) fun e=>?_;rw[hr.2 (by omega)];exact h (by omega)
 |func fn f c fv cv hf hc hfv hcv ih1 ih2=>exact .func fn f c fv cv hf hc ih1 ih2
 |nilFunc=>exact .nilFunc
 |iface t p v h ih=>exact .iface t p v ih
 |nilIface=>exact .nilIface
 |agg cs vs hlen hv ih=>exact .agg cs vs hlen ih
 |tuple ps vs hlen hv ih=>exact .tuple ps vs hlen ih
theorem VR.next(n:Nxt w I D ρ w' I' D' ρ'){p:PV}{v:Value}(h:VR w I D ρ p v):VR w' I' D' ρ' p v:=
 h.carry (fun b o hi=>⟨n.immI b o hi,n.immC b o hi⟩) n.dom n.rho
theorem VRs.next(n:Nxt w I D ρ w' I' D' ρ'){ps:List PV}{vs:List Value}(h:VRs w I D ρ ps vs):VRs w' I' D' ρ' ps vs:=
 ⟨h.1,fun j=>(h.2 j).next n⟩
theorem Sim.blk_lt{h:List Obj}(s:Sim w I D ρ h)(k:Nat)(hk:D k):(ρ k).blk<w.heap.size:=by
 have hl:=s.lt k hk;have ho:=s.obj k h[k] hk (by simp[hl])
 have key:∃x,w.heap[(ρ k).blk]?=some x:=by
  cases hob:h[k]with
  |row sz es=>rw[hob]at ho;obtain⟨_,_,_,_,_,c,E,fr,hc,_⟩:=ho;exact⟨_,hc⟩
  |tok sz m=>rw[hob]at ho;obtain⟨_,_,_,_,c,E,fr,hc,_⟩:=ho;exact⟨_,hc⟩
  |map es=>rw[hob]at ho;obtain⟨_,_,ents,cl,hc,_⟩:=ho;exact⟨_,hc⟩
 obtain⟨x,hx⟩:=key;exact(Array.getElem?_eq_some_iff.1 hx).1
theorem OK.carry{k:Nat}{o:Obj}(hI:∀b o,I b o→I' b o∧w'.cell? ⟨b,o,none⟩=w.cell? ⟨b,o,none⟩)(hdom:∀k,D k→D' k)
 (hrho:∀k,D k→(ρ k).len≤(ρ' k).len∧((ρ' k).len=(ρ k).len→ρ' k=ρ k))(hk:ρ' k=ρ k)
 (hb:w'.heap[(ρ k).blk]?=w.heap[(ρ k).blk]?)(hn:∀o,I' (ρ k).blk o→I (ρ k).blk o)(h:OK w I D ρ k o):OK w' I' D' ρ' k o:=by
 cases o with
 |row sz es=>
   obtain⟨h1,h2,h3,h4,h5,c,E,fr,h6,h7,h8,h9⟩:=h;unfold OK;rw[hk];exact⟨h1,h2,h3,h4,fun o ho=>h5 o (hn o ho),c,E,fr,hb.trans h6,h7,h8,fun j=>(h9 j).carry hI hdom hrho⟩
 |tok sz m=>
   obtain⟨h1,h2,h3,h4,c,E,fr,h6,h7,h8⟩:=h;unfold OK;rw[hk];exact⟨h1,h2,h3,fun o ho=>h4 o (hn o ho),c,E,fr,hb.trans h6,h7,h8⟩
 |map es=>
   obtain⟨h1,h5,ents,cl,h6,h7,h8⟩:=h;unfold OK;rw[hk];exact⟨h1,fun o ho=>h5 o (hn o ho),ents,cl,hb.trans h6,h7,fun j=>⟨(h8 j).1.carry hI hdom hrho,(h8 j).2.carry hI hdom hrho⟩⟩
theorem Sim.less{h h':List Obj}(s:Sim w I D ρ h)(hD:∀k,D' k→D k)(hcl:∀k o,D' k→h[k]?=some o→OK w I D ρ k o→OK w I D' ρ k o)
 (hh:∀k,D' k→h'[k]?=h[k]?):Sim w I D' ρ h' where
 lt k hk:=by have:=s.lt k (hD k hk);have e:=hh k hk;rw[gE0 this]at e;exact(gI0.1 e).1
 obj k o hk ho:=by rw[hh k hk]at ho;exact hcl k o hk ho (s.obj k o (hD k hk) ho)
 inj k k' hk hk' he:=s.inj k k' (hD k hk) (hD k' hk') he
 imm:=s.imm
end
end Go.AE
namespace Go.AE
open Go
def qj7:Value→Option PV
 |.bool b=>some (.bool b)
 |.int k n=>some (.int k n)
 |.string s=>some (.str s)
 |.pointer none=>some .nilptr
 |.slice none 0 0=>some (.slice 0 [] .nil)
 |.map none=>some (.map none)
 |.nilFunc=>some .nilFunc
 |.nilIface=>some .nilIface
 |_=>none
def ofV:Value→Option PV
 |.agg cs=>(qbs (cs.toList.map qj7)).map .agg
 |v=>qj7 v
def cx:Operand→AX
 |.tmp t=>.t t
 |.const v=>match ofV v with
   |some p=>.c p
   |none=>.bad
 |.global _=>.bad
 |.func f=>.f f
def qd1(P:Program)(t:TypeId):Option Nat:=(P.info? t).map (·.size)
def qop(P:Program)(t:TypeId):Option PV:=(P.info? t).bind fun i=>i.zero.bind fun z=>ofV z
def tagg(P:Program)(t:TypeId):Option Bool:=(P.underlying t).map fun d=>match d with
 |.struct _|.array _ _=>true
 |_=>false
def qgi:Operand→Bool
 |.const _=>true
 |_=>false
def qsx:BinOp→Bool
 |.neq=>true
 |_=>false
def qmg(op:BinOp)(d:TypeDesc)(x y:Operand):AOp:=
 match d with
 |.int _|.string=>.bin op (cx x) (cx y)
 |.bool=>.eq (qsx op) .bool (cx x) (cx y)
 |.slice _=>.eq (qsx op) .slice (cx x) (cx y)
 |.func .. =>.eq (qsx op) .func (cx x) (cx y)
 |.pointer _=>.eq (qsx op) .pointer (cx x) (cx y)
 |.map .. =>.eq (qsx op) .map (cx x) (cx y)
 |.interface _=>if qgi x||qgi y then .eq (qsx op) .iface (cx x) (cx y)else .bad
 |_=>.bad
def qcx(P:Program)(fs:Array Field):List (Nat×Operand)→Option (List (Nat×Nat×AX))
 |[]=>some []
 |(i,x)::rest=>match fs[i]? with
   |some f=>match qd1 P f.type,qcx P fs rest with
     |some n,some l=>some ((f.offset,n,cx x)::l)
     |_,_=>none
   |none=>none
def qg6(d:Option TypeDesc):Option KK:=
 match d with
 |some (.int _)=>some .int
 |some .string=>some .str
 |some .bool=>some .bool
 |_=>none
def qdg(P:Program)(rowMode:Bool)(c:Call):AOp:=
 match c.callee with
 |.value f=>.call (cx f) (c.args.toList.map cx)
 |.invoke _ _=>.bad
 |.builtin b=>match b,c.args.toList,c.argTypes.toList with
   |.len,[x],[t]=>match P.underlying t with
     |some .string=>.lenS (cx x)
     |some (.slice _)=>.lenL (cx x)
     |some (.map ..)=>.lenM (cx x)
     |_=>.bad
   |.append,[s,x],[t,u]=>match P.underlying t,P.underlying u with
     |some (.slice e),some (.slice _)=>match P.info? e with
       |some i=>match i.zero with
         |some z=>if z.cells.size=i.size∧0<i.size then(if rowMode then .bad else .append i.size i.bytes (cx s) (cx x))else .bad
         |none=>.bad
       |none=>.bad
     |_,_=>.bad
   |.copy,[s,x],[t,u]=>match P.underlying t,P.underlying u with
     |some (.slice e),some (.slice _)=>match qd1 P e with
       |some n=>.copy n (cx s) (cx x)
       |none=>.bad
     |_,_=>.bad
   |.min,xs,_=>.min false (xs.map cx)
   |.max,xs,_=>.min true (xs.map cx)
   |_,_,_=>.bad
def qar(P:Program)(rowMode:Bool)(o:Op):AOp:=
 match o with
 |.move x|.assign x=>.move (cx x)
 |.pick c a b=>.pick (cx c) (cx a) (cx b)
 |.alloc t=>match qop P t with
   |some z=>.box z.cells.length (.c z)
   |none=>.bad
 |.box t x=>match qd1 P t with
   |some n=>.box n (cx x)
   |none=>.bad
 |.build t parts=>match P.underlying t,qop P t with
   |some (.struct fs),some z=>match qcx P fs parts.toList with
     |some l=>if(fs.toList.all fun f=>(P.info? f.type).isSome)=true then .build z.cells l else .bad
     |none=>.bad
   |some (.array _ e),some z=>match qd1 P e with
     |some n=>.build z.cells (parts.toList.map fun(i,x)=>(i*n,n,cx x))
     |none=>.bad
   |_,_=>.bad
 |.buildSlice t len parts=>match P.underlying t with
   |some (.slice e)=>match qd1 P e,qop P e with
     |some n,some z=>if len*n≤16777216∧z.cells.length=n∧0<n then .buildSlice n z len (parts.toList.map fun(i,x)=>(i,cx x))else .bad
     |_,_=>.bad
   |_=>.bad
 |.load t a=>match tagg P t,qd1 P t with
   |some g,some n=>.load g n (cx a)
   |_,_=>.bad
 |.store t a x=>match qd1 P t with
   |some n=>.store n (cx a) (cx x)
   |none=>.bad
 |.nilCheck x=>.nilCheck (cx x)
 |.binOp op t x y _=>match op with
   |.eql|.neq=>match P.underlying t with
     |some d=>qmg op d x y
     |none=>.bad
   |op=>.bin op (cx x) (cx y)
 |.unOp op _ x=>.un op (cx x)
 |.convert s d x=>match P.underlying s,P.underlying d with
   |some (.int _),some (.int k)=>.convInt k (cx x)
   |some .string,some .string=>.convStr (cx x)
   |some .string,some (.slice e)=>match P.underlying e,qd1 P e with
     |some (.int .u8),some 1=>.bytesOf (cx x)
     |_,_=>.bad
   |some (.slice e),some .string=>match P.underlying e with
     |some (.int .u8)=>.strOf (cx x)
     |_=>.bad
   |_,_=>.bad
 |.makeInterface t x=>match P.underlying t with
   |some (.interface _)|none=>.bad
   |some _=>.mkIface t (cx x)
 |.makeFunc fn f c=>.mkFunc fn (f.toList.map cx) (c.toList.map cx)
 |.makeMap _ none=>.makeMap
 |.makeSlice t l c=>match P.underlying t with
   |some (.slice e)=>match P.info? e with
     |some i=>match i.zero.bind ofV with
       |some z=>if z.cells.length=i.size∧0<i.size then .makeSlice i.size z i.bytes (cx l) (cx c)else .bad
       |none=>.bad
     |none=>.bad
   |_=>.bad
 |.slice t x lo hi mx=>match P.underlying t with
   |some .string=>if mx.isNone then .strSlice (cx x) (lo.map cx) (hi.map cx)else .bad
   |some (.slice e)=>match qd1 P e with
     |some n=>.slice n (cx x) (lo.map cx) (hi.map cx) (mx.map cx)
     |none=>.bad
   |_=>.bad
 |.fieldAddr s x f=>match P.underlying s with
   |some (.struct fs)=>match fs[f]? with
     |some fd=>match qd1 P fd.type with
       |some n=>if 0<n then .fieldAddr fd.offset (cx x)else .bad
       |none=>.bad
     |none=>.bad
   |_=>.bad
 |.field t x f=>match P.underlying t with
   |some (.struct fs)=>match fs[f]? with
     |some fd=>match tagg P fd.type,qd1 P fd.type with
       |some g,some n=>.field g n fd.offset (cx x)
       |_,_=>.bad
     |none=>.bad
   |_=>.bad
 |.indexAddr t x i=>match P.underlying t with
   |some (.array len e)=>match qd1 P e with
     |some n=>.idxArr len n (cx x) (cx i)
     |none=>.bad
   |some (.slice e)=>match qd1 P e with
     |some n=>.idxAddr n (cx x) (cx i)
     |none=>.bad
   |_=>.bad
 |.index t x i=>match P.underlying t with
   |some .string=>.idxStr (cx x) (cx i)
   |some (.array len e)=>match tagg P e,qd1 P e with
     |some g,some n=>.idxVal g len n (cx x) (cx i)
     |_,_=>.bad
   |_=>.bad
 |.lookup t m i ok=>match P.underlying t with
   |some (.map k e)=>match qg6 (P.underlying k),qop P e with
     |some kk,some z=>.lookup kk z ok (cx m) (cx i)
     |_,_=>.bad
   |_=>.bad
 |.mapUpdate t m k v=>match P.underlying t with
   |some (.map kt _)=>match qg6 (P.underlying kt)with
     |some kk=>.mapUpd kk (cx m) (cx k) (cx v)
     |none=>.bad
   |_=>.bad
 |.extract x i=>.extract (cx x) i
 |.typeAssert x _ t ok=>match P.underlying t,qop P t with
   |some (.interface _),_|none,_=>.bad
   |some _,some z=>.typeAssert t z ok (cx x)
   |_,_=>.bad
 |.call c=>qdg P rowMode c
 |.panic x=>.pan (cx x)
 |_=>.bad
def loudOp(o:AOp):Bool:=
 match o with
 |.box .. |.load .. |.store .. |.bytesOf _|.strOf _|.makeMap|.makeSlice .. |.lookup .. |.mapUpd .. |.lenM _|.append .. |.copy .. |.call .. |.pan _|.bad=>true
 |_=>false
def qly(o:AOp):Bool:=
 match o with
 |.box .. |.store .. |.bytesOf _|.makeMap|.makeSlice .. |.mapUpd .. |.append .. |.copy .. |.call .. |.pan _|.bad=>true
 |_=>false
def qno(ops:Array Oper)(g:Option (Nat×Bool)):Option (Option (Nat×Bool)):=
 match g with
 |none=>some none
 |some (j,want)=>match(ops[j]?).bind (·.dst)with
   |some d=>some (some (d,want))
   |none=>none
def inRows(rows:List Nat):Option Nat→Bool
 |some d=>rows.contains d
 |none=>false
def dstOk(nt:Nat):Option Nat→Bool
 |some d=>decide (d<nt)
 |none=>true
def guardOk(nt:Nat):Option (Nat×Bool)→Bool
 |some (d,_)=>decide (d<nt)
 |none=>true
def qpo:AOper:={dst:=none,op:=.bad,guard:=none,loud:=true,idx:=0,bef:=0,hd:=false}
def qbl(P:Program)(rows:List Nat)(nt:Nat)(ops:Array Oper)(o:Oper):AOper:=
 match qno ops o.guard with
 |some g=>if dstOk nt o.dst&&guardOk nt g then{dst:=o.dst,op:=qar P (inRows rows o.dst) o.op,guard:=g,loud:=loudOp (qar P (inRows rows o.dst) o.op),idx:=0,bef:=0,hd:=false}else qpo
 |none=>qpo
def qsp(cs:List AOper)(i:Nat):Bool:=((cs[i]?).map fun c=>qly c.op).getD false
def qio(cs:List AOper)(i:Nat):Bool:=((cs[i]?).map fun c=>qbu c.op).getD false
def permOf(cs:List AOper)(bef:Array Nat):List Nat:=
 (List.range cs.length).filter (fun i=>qio cs i&&bef.getD i 0==0)++(List.range cs.length).filter fun i=>!(qio cs i&&bef.getD i 0==0)
def qh4(n:Nat)(pm:List Nat):Bool:=
 pm.length==n&& (List.range n).all (fun j=>decide (pm.getD j n<n)&& (List.range n).any (fun i=>pm.getD i n==j)&& (List.range j).all fun k=>pm.getD j n !=pm.getD k n)
def hdOf(n:Nat)(bef:Array Nat)(pm:List Nat)(j:Nat):Bool:=(List.range n).all fun i=>decide (i≤j)||(bef.getD (pm.getD i n) 0).testBit (pm.getD j n)
def ordOk(cs:List AOper)(bef:Array Nat)(pm:List Nat):Bool:=(List.range cs.length).all fun j=>!qsp cs (pm.getD j cs.length)||(List.range j).all fun i=>!qsp cs (pm.getD i cs.length)||qio cs (pm.getD i cs.length)||(bef.getD (pm.getD j cs.length) 0).testBit (pm.getD i cs.length)
def qhy(n:Nat)(cs:List AOper)(bef:Array Nat)(pm:List Nat):List AOper:=
 pm.zipIdx.map fun(x,j)=>{cs.getD x qpo with idx:=x,bef:=bef.getD x 0,hd:=hdOf n bef pm j}
def qgn(ops:Array Oper)(o:Oper):List Nat:=
 o.dst.toList++(o.op.operands.toList.filterMap fun x=>match x with|.tmp t=>some t|_=>none)++(match o.guard with|some (j,_)=>((ops[j]?).bind (·.dst)).toList|none=>[])
def qox(ops:Array Oper)(bef:Array Nat)(pm:List Nat):Bool:=
 (List.range ops.size).all fun j=>(List.range j).all fun i=>
  (bef.getD (pm.getD j ops.size) 0).testBit (pm.getD i ops.size)||
   (((ops[pm.getD i ops.size]?).bind (·.dst)).toList.all fun d=>!(qgn ops (ops.getD (pm.getD j ops.size) default)).contains d)&&
   (((ops[pm.getD j ops.size]?).bind (·.dst)).toList.all fun d=>!(qgn ops (ops.getD (pm.getD i ops.size) default)).contains d)
def qjj(ops:Array Oper):Bool:=
 (List.range ops.size).all fun j=>((ops[j]?).map fun o=>o.after.toList.all fun e=>decide (e.on<j)||!Region.binds .any e).getD true
def qbf:Code→Bool
 |.rangeFunc .. =>false
 |.seq a b=>qbf a&&qbf b
 |.cond _ a b=>qbf a&&qbf b
 |.block _ b=>qbf b
 |.loop b=>qbf b
 |_=>true
def qo3(ops:Array Oper):Bool:=ops.all fun o=>match o.op with
 |.defer _=>false
 |_=>true
def comp(P:Program)(rows:List Nat)(nt:Nat):Code→ACode
 |.skip=>.skip
 |.label _=>.skip
 |.region _ ops false=>if qo3 ops then .reg (ops.toList.map (qbl P rows nt ops))else .bad
 |.region _ ops true=>
   let bef:=CheckFast.beforeF ops
   let cs:=ops.toList.map (qbl P rows nt ops)
   let pm:=permOf cs bef
   if qo3 ops&&qjj ops&&qh4 ops.size pm&&qox ops bef pm&&ordOk cs bef pm then .regD (qhy ops.size cs bef pm)else .bad
 |.seq a b=>.seq (comp P rows nt a) (comp P rows nt b)
 |.cond c a b=>.cond (cx c) (comp P rows nt a) (comp P rows nt b)
 |.block id b=>.block id (comp P rows nt b)
 |.loop b=>.loop (comp P rows nt b)
 |.rangeFunc g ps a b=>if ps.all (fun p=>decide (p<nt))&&qbf a&&qbf b then .range (cx g) ps.toList (comp P rows nt a) (comp P rows nt b)else .bad
 |.exit id=>.exit id
 |.ret=>.ret
 |_=>.bad
def qgk(P:Program):List ResultVar→Option (List ARes)
 |[]=>some []
 |.tmp t::rs=>(qgk P rs).map (.t t:: ·)
 |.cell a t::rs=>match tagg P t,qd1 P t,qgk P rs with
   |some g,some n,some l=>some (.cell a g n::l)
   |_,_,_=>none
def qb8(P:Program)(rows:List Nat)(fn:Func):Option AFunc:=
 match fn.body,qgk P fn.results.toList with
 |some c,some res=>if fn.params.size+fn.nfree≤fn.ntmps then some {np:=fn.params.size+fn.nfree,nt:=fn.ntmps,code:=comp P rows fn.ntmps c,res}else none
 |_,_=>none
end Go.AE
namespace Go.AE
open Go
theorem qbg(e:PV)(es:List PV):flat (e::es)=e.cells++flat es:=by simp[flat]
theorem qdl(a b:List PV):flat (a++b)=flat a++flat b:=by simp[flat]
theorem qax{sz:Nat}:∀{es:List PV},(∀e∈es,e.cells.length=sz)→(flat es).length=es.length*sz
 |[],_=>by simp[flat]
 |e::es,h=>by rw[qbg,lA0,qax (fun x hx=>h x (mC0 _ hx)),h e (by simp),List.length_cons,Nat.succ_mul];omega
theorem qi8{sz:Nat}:∀{es:List PV}(i j:Nat)(e:PV),(∀e∈es,e.cells.length=sz)→es[i]?=some e→j<sz→(flat es).getD (i*sz+j) .undef=e.cells.getD j .undef
 |[],i,j,e,_,hi,_=>by simp at hi
 |x::xs,0,j,e,h,hi,hj=>by
   simp at hi;subst hi;rw[qbg,Nat.zero_mul,Nat.zero_add,gD0,gL0 (by rw[h x (by simp)];exact hj),←gD0]
 |x::xs,i+1,j,e,h,hi,hj=>by
   have hx:=h x (by simp)
   rw[qbg,gD0,List.getElem?_append_right (by rw[hx,Nat.succ_mul];omega),hx,
    show(i+1) *sz+j - sz=i*sz+j by rw[Nat.succ_mul];omega,←gD0]
   exact qi8 i j e (fun y hy=>h y (mC0 _ hy)) (by simpa using hi) hj
theorem qaz{α:Type}(l:List α)(j:Nat)(d:α)(h:¬j<l.length):l.getD j d=d:=by grind
theorem qjg(e:List PV)(i:Nat)(v:PV)(j:Nat):eget (eput e i v) j=if j=i then v else eget e j:=by
 induction i generalizing e j with
 |zero=>cases e<;>cases j<;>simp[eput,eget]
 |succ i ih=>cases e<;>cases j<;>simp[eput,eget,ih]
theorem qmh(e:List PV)(i n:Nat)(v:PV)(he:e.length≤n)(hi:i<n):(eput e i v).length≤n:=by
 induction i generalizing e n with
 |zero=>cases e<;>simp[eput]at* <;>omega
 |succ i ih=>
   obtain⟨n,rfl⟩:∃m,n=m+1:=⟨n - 1,by omega⟩;cases e with
   |nil=>simp[eput];exact ih [] n (by simp) (by omega)
   |cons x xs=>simp[eput];exact ih xs n (by simpa using he) (by omega)
theorem qf6(e:List PV)(j:Nat):eget e j=e.getD j .undef:=by
 induction e generalizing j with
 |nil=>rfl
 |cons x xs ih=>cases j with
   |zero=>rfl
   |succ j=>simpa[eget]using ih j
section
variable {P:Program}{w:World}{I:Nat→Nat→Prop}{D:Nat→Prop}{ρ:Nat→Row}
theorem qok{v:Value}{p:PV}(h:qj7 v=some p):VR w I D ρ p v:=by
 unfold qj7 at h
 split at h<;>first
  |(cases h;done)
  |(cases h;exact .bool _)
  |(cases h;exact .int _ _)
  |(cases h;exact .str _)
  |(cases h;exact .nilptr)
  |(cases h;exact .mapNil)
  |(cases h;exact .nilFunc)
  |(cases h;exact .nilIface)
  |(cases h;exact VR.slice 0 [] .nil none 0 0 0 [] (by simp) ⟨rfl,rfl,rfl⟩ (by simp) (by simp) (by simp[flat]) (fun j v hj=>by simp at hj) (fun j=>.undef _))
theorem qge{l:List (Option PV)}{r:List PV}(h:qbs l=some r):r.length=l.length:=by
 induction l generalizing r with
 |nil=>simp[qbs]at h;subst h;rfl
 |cons x xs ih=>
   cases x with
   |none=>simp[qbs]at h
   |some x=>
     simp only[qbs,oM0]at h;obtain⟨l',h1,rfl⟩:=h;simp[ih h1]
theorem qnx{l:List (Option PV)}{r:List PV}(h:qbs l=some r)(j:Nat)(hj:j<l.length):l[j]?=some (some (r.getD j .undef)):=by
 induction l generalizing r j with
 |nil=>simp at hj
 |cons x xs ih=>
   cases x with
   |none=>simp[qbs]at h
   |some x=>
     simp only[qbs,oM0]at h;obtain⟨l',h1,rfl⟩:=h;cases j with
     |zero=>simp
     |succ j=>simpa using ih h1 j (by simpa using hj)
theorem qkv{v:Value}{p:PV}(h:ofV v=some p):VR w I D ρ p v:=by
 unfold ofV at h;split at h
 next cs=>
   simp only[oM0]at h;obtain⟨l,h1,rfl⟩:=h;have hl:=qge h1;refine .agg l cs (by simpa using hl.symm) fun j=>?_;by_cases hj:j<cs.size
   · have:=qnx h1 j (by simpa using hj);simp only[gM0,oM0]at this;obtain⟨v,hv,hp⟩:=this;have e:cs.toList.getD j undef=v:=by rw[gD0,hv];rfl
     rw[e];exact qok hp
   · rw[qaz l j _ (by rw[hl];simpa using hj)];exact .undef _
 ·exact qok h
theorem cells_ofV{v:Value}{p:PV}(h:ofV v=some p):p.cells.length=v.cells.size:=by
 unfold ofV at h;split at h
 next cs=>
   simp only[oM0]at h;obtain⟨l,h1,rfl⟩:=h;have hl:=qge h1;simpa[PV.cells,Value.cells]using hl
 · unfold qj7 at h
   split at h<;>first
    |(cases h;done)
    |(cases h;rfl)
theorem VR.cellsAt{p:PV}{v:Value}(h:VR w I D ρ p v)(hp:p≠.undef):v.cells.size=p.cells.length∧∀j,VR w I D ρ (p.cells.getD j .undef) (v.cells.toList.getD j Go.undef):=by
 cases h with
 |undef=>exact absurd rfl hp
 |agg cs vs hlen hv=>exact⟨hlen,hv⟩
 |_=>
   refine⟨rfl,fun j=>?_⟩;cases j with
   |zero=>constructor<;>assumption
   |succ j=>exact .undef _
theorem VR.oneCell{p:PV}{v:Value}(h:VR w I D ρ p v)(hp:p.isCell=true):v.oneCell'=true:=by cases h<;>first|rfl|(simp[PV.isCell]at hp)
theorem qcc(a:Act)(d:Option Nat)(v:Value):(a.put d v).defers=a.defers:=by cases d<;>rfl
structure EnvR (w:World)(I:Nat→Nat→Prop)(D:Nat→Prop)(ρ:Nat→Row)(nt:Nat)(e:List PV)(a:Act):Prop where
 size:a.tmps.size=nt
 len:e.length≤nt
 at_:∀t,VR w I D ρ (eget e t) (a.tmps.getD t undef)
theorem EnvR.eval{nt:Nat}{e:List PV}{a:Act}(h:EnvR w I D ρ nt e a)(x:Operand):VR w I D ρ (ax e (cx x)) (a.eval x):=by
 cases x with
 |tmp t=>exact h.at_ t
 |const v=>
   simp only[cx];split
   ·rename_i p hp;exact qkv hp
   ·exact .undef _
 |global g=>exact .undef _
 |func f=>exact .func _ [] [] #[] #[] rfl rfl (fun j=>.undef _) (fun j=>.undef _)
theorem EnvR.put{nt:Nat}{e:List PV}{a:Act}(h:EnvR w I D ρ nt e a)(d:Option Nat)(hd:∀i,d=some i→i<nt){p:PV}{v:Value}(hv:VR w I D ρ p v):
 EnvR w I D ρ nt (putD e d p) (a.put d v):=by
 cases d with
 |none=>exact h
 |some i=>
   have hi:=hd i rfl;refine⟨by simp[Act.put,h.size],qmh e i nt p h.len hi,fun t=>?_⟩;simp only[putD,Act.put,qjg];by_cases ht:t=i
   · subst ht;simp only[if_true];have e1:(a.tmps.setIfInBounds t v).getD t undef=v:=by rw[Array.getD_eq_getD_getElem?,Array.getElem?_setIfInBounds_self_of_lt (by rw[h.size];exact hi)];rfl
     rw[e1];exact hv
   · simp only[ht,if_false];have e1:(a.tmps.setIfInBounds i v).getD t undef=a.tmps.getD t undef:=by rw[Array.getD_eq_getD_getElem?,Array.getElem?_setIfInBounds_ne (fun hne=>ht hne.symm),←Array.getD_eq_getD_getElem?]
     rw[e1];exact h.at_ t
theorem EnvR.next{w':World}{I':Nat→Nat→Prop}{D':Nat→Prop}{ρ':Nat→Row}{nt:Nat}{e:List PV}{a:Act}(n:Nxt w I D ρ w' I' D' ρ')(h:EnvR w I D ρ nt e a):EnvR w' I' D' ρ' nt e a:=
 ⟨h.size,h.len,fun t=>(h.at_ t).next n⟩
theorem qbc{α:Type}(l:List α)(o n j:Nat)(d:α)(hj:j<n):((l.drop o).take n).getD j d=l.getD (o+j) d:=by grind
theorem qp8{agg:Bool}{sz off:Nat}{c r:PV}(h:sub agg sz c off=some r)(b o:Nat)(vs:List Value)(hlen:vs.length=c.cells.length)(hat:w.rangeAt b o vs)
 (hv:∀j,VR w I D ρ (c.cells.getD j .undef) (vs.getD j undef)):
 (agg=true→∃cs:List Value,cs.length=sz∧w.rangeAt b (o+off) cs∧VR w I D ρ r (.agg cs.toArray))∧
 (agg=false→∃v,w.cell? ⟨b,o+off,none⟩=some v∧VR w I D ρ r v):=by
 unfold sub at h;cases agg with
 |true=>
   refine⟨fun _=>?_,fun e=>by simp at e⟩;simp only[if_true]at h;cases c with
   |agg cs=>
     simp only at h;split at h
     · rename_i hc;obtain⟨rfl,hcs⟩:=hc;injection h with h;subst h
       exact⟨vs,by simpa[PV.cells,hcs]using hlen,by simpa using hat,.agg cs vs.toArray (by simpa[PV.cells]using hlen) (by simpa[PV.cells]using hv)⟩
     · split at h
       next h1 h2=>
         injection h with h;subst h;simp only[PV.cells]at hlen hv;refine⟨(vs.drop off).take sz,by simp;omega,fun j v hj=>?_,.agg _ _ (by simp;omega) fun j=>?_⟩
         · simp only[List.getElem?_take,List.getElem?_drop]at hj;split at hj
           ·rw[Nat.add_assoc];exact hat _ _ hj
           ·grind
         · by_cases hj:j<sz
           ·simp_all
           · rw[qaz _ j _ (by simp;omega)];exact .undef _
       ·cases h
   |_=>simp at h
 |false=>
   refine⟨fun e=>by simp at e,fun _=>?_⟩;simp only[bF0,if_false]at h;cases c with
   |agg cs=>
     simp only at h;simp only[PV.cells]at hlen hv;have hj:=(gI0.1 h).1;refine⟨vs.getD off undef,?_,?_⟩
     · refine hat off _ ?_;rw[gD0,gE0 (by omega)];rfl
     ·grind
   |_=>
     simp only at h;split at h
     · rename_i h0;subst h0;injection h with h;subst h
       refine⟨vs.getD 0 undef,?_,?_⟩
       · refine hat 0 _ ?_;rw[gD0,gE0 (by rw[hlen];simp[PV.cells])];rfl
       ·exact hv 0
     ·cases h
end
end Go.AE
namespace Go.AE
open Go
section
variable {P:Program}{T:Tbl}{call:FuncId→List PV→List Obj→Option qam}{rm:Bool}{o:Oper}{e:List PV}{s s':St}{r:OR}
 {w:World}{I:Nat→Nat→Prop}{D:Nat→Prop}{ρ:Nat→Row}{nt:Nat}{a:Act}
def qei(P:Program)(o:Oper)(s s':St)(r:OR)(w:World)(I:Nat→Nat→Prop)(D:Nat→Prop)(ρ:Nat→Row)(a:Act):Prop:=
 s'=s∧∃p v,r=.val p∧(execOp a.eval o).run P w=.ok (.value v) w∧VR w I D ρ p v
theorem qei.mk{p:PV}{v:Value}(hr:(execOp a.eval o).run P w=.ok (.value v) w)(hv:VR w I D ρ p v):qei P o s s (.val p) w I D ρ a:=⟨rfl,p,v,rfl,hr,hv⟩
theorem qbr{x:Option PV}(h:oval x s=some (r,s')):∃p,x=some p∧r=.val p∧s'=s:=by
 simp only[oval,oM0]at h;obtain⟨p,hp,he⟩:=h;injection he with h1 h2
 exact⟨p,hp,h1.symm,h2.symm⟩
theorem q_move{x:Operand}(E:EnvR w I D ρ nt e a)(hop:o.op=.move x∨o.op=.assign x)(h:evOp T call (qar P rm o.op) e s=some (r,s')):qei P o s s' r w I D ρ a:=by
 have:evOp T call (.move (cx x)) e s=some (r,s'):=by rcases hop with hop|hop<;>(rw[hop]at h;exact h)
 simp only[evOp]at this;cases this;exact .mk (by unfold execOp;rcases hop with hop|hop<;>rw[hop]<;>rfl) (E.eval x)
theorem q_pick{c x y:Operand}(E:EnvR w I D ρ nt e a)(hop:o.op=.pick c x y)(h:evOp T call (qar P rm o.op) e s=some (r,s')):qei P o s s' r w I D ρ a:=by
 rw[hop]at h;simp only[qar,evOp]at h;have hc:=E.eval c;split at h
 next b hb=>
   rw[hb]at hc;cases h;generalize hcv:a.eval c=cv at hc;cases hc;refine .mk (v:=if b then a.eval x else a.eval y) (by unfold execOp;rw[hop];simp[hcv,asBool]) ?_;cases b
   ·exact E.eval y
   ·exact E.eval x
 ·cases h
theorem qjr{fs:Array Field}(parts:List (Nat×Operand)){l:List (Nat×Nat×AX)}(h:qcx P fs parts=some l):
 l.length=parts.length∧∀(j i:Nat)(x:Operand),parts[j]?=some (i,x)→∃(f:Field)(n:Nat),fs[i]?=some f∧qd1 P f.type=some n∧l[j]?=some (f.offset,n,cx x):=by
 induction parts generalizing l with
 |nil=>simp[qcx]at h;subst h;simp
 |cons q rest ih=>
   obtain⟨i,x⟩:=q;simp only[qcx]at h;split at h
   ·grind
   ·cases h
theorem qra(v:List Value):∀(cells:Array Value)(off k:Nat),off+k+v.length≤cells.size→
 ((v.zipIdx k).foldl (fun cs (x:Value×Nat)=>cs.setIfInBounds (off+x.2) x.1) cells).toList=cells.toList.take (off+k)++v++cells.toList.drop (off+k+v.length):=by
 induction v with
 |nil=>intro cells off k _;simp
 |cons x xs ih=>
   intro cells off k h;simp only[List.length_cons]at h;simp only[List.zipIdx_cons,List.foldl_cons];rw[ih _ off (k+1) (by simp;omega)];have hlt:off+k<cells.toList.length:=by simp;omega
   simp only[Array.toList_setIfInBounds];apply List.ext_getElem?;intro j;simp only[List.getElem?_append,lA0,lT0,List.length_set,List.getElem?_take,List.getElem?_drop,List.getElem?_set,Array.length_toList,List.length_cons];by_cases h1:j<off+k
   ·grind
   ·grind
theorem qcg{α:Type}(l v:List α)(off j:Nat)(d:α)(h:off+v.length≤l.length):
 (l.take off++v++l.drop (off+v.length)).getD j d=if j<off then l.getD j d else if j<off+v.length then v.getD (j - off) d else l.getD j d:=by
 simp only[gD0,List.getElem?_append,lA0,lT0,List.getElem?_take,List.getElem?_drop,Nat.min_eq_left (show off≤l.length by omega)];by_cases h1:j<off
 ·grind
 ·grind
theorem qj3(place:Nat→Option (Nat×Nat)):∀(l:List (Nat×Nat×PV))(parts:List (Nat×Value))(cs cs':List PV)(cells:Array Value),
 l.length=parts.length→(∀(j i:Nat)(v:Value),parts[j]?=some (i,v)→∃(off n:Nat)(p:PV),l[j]?=some (off,n,p)∧place i=some (off,n)∧VR w I D ρ p v)→
 cells.size=cs.length→(∀j,VR w I D ρ (cs.getD j .undef) (cells.toList.getD j undef))→qdt cs l=some cs'→
 ∃cells',Instr.fill place cells parts=some cells'∧cells'.size=cs'.length∧∀j,VR w I D ρ (cs'.getD j .undef) (cells'.toList.getD j undef)
 |[],parts,cs,cs',cells,hl,_,hsz,hv,hf=>by
   have:parts=[]:=List.eq_nil_of_length_eq_zero (by simpa using hl.symm);subst this;simp[qdt]at hf;subst hf;exact⟨cells,rfl,hsz,hv⟩
 |(off,n,p)::l,[],cs,cs',cells,hl,_,_,_,_=>by simp at hl
 |(off,n,p)::l,(i,v)::parts,cs,cs',cells,hl,hp,hsz,hv,hf=>by
   obtain⟨off',n',p',h1,h2,h3⟩:=hp 0 i v (by simp);simp at h1;obtain⟨rfl,rfl,rfl⟩:=h1;simp only[qdt]at hf;split at hf
   next hc=>
     obtain⟨hc1,hc2,hc3⟩:=hc;have hca:=h3.cellsAt (by rintro rfl;simp[PV.isDef]at hc3);have hvs:v.cells.size=n:=by rw[hca.1,hc1]
     have hfold:=qra v.cells.toList cells off 0 (by simp;omega);simp only[Nat.add_zero,Array.length_toList]at hfold;have hz:(v.cells.zipIdx.foldl (fun cs (x:Value×Nat)=>cs.setIfInBounds (off+x.2) x.1) cells).toList=cells.toList.take off++v.cells.toList++cells.toList.drop (off+v.cells.toList.length):=by rw[←Array.foldl_toList];simpa using hfold
     have ih:=qj3 place l parts (cs.take off++p.cells++cs.drop (off+n)) cs' (v.cells.zipIdx.foldl (fun cs (x:Value×Nat)=>cs.setIfInBounds (off+x.2) x.1) cells)
      (by simpa using hl) (fun j i' v' hj=>by simpa using hp (j+1) i' v' (by simpa using hj)) (by
       rw[←Array.length_toList,hz];simp only[lA0,lT0,List.length_drop,Array.length_toList];omega) (fun j=>by
       rw[hz];subst hc1;rw[qcg cs p.cells off j _ hc2,qcg cells.toList v.cells.toList off j _ (by simp;omega)];simp only[Array.length_toList,hca.1];split
       ·exact hv j
       · split
         ·exact hca.2 _
         ·exact hv j) hf
     obtain⟨cells',hc',hs',hv'⟩:=ih;refine⟨cells',?_,hs',hv'⟩;simp only[Instr.fill,h2];rw[if_neg (by simp;omega)];exact hc'
   ·cases hf
end
end Go.AE
namespace Go.AE
open Go
section
variable {P:Program}{T:Tbl}{call:FuncId→List PV→List Obj→Option qam}{rm:Bool}{o:Oper}{e:List PV}{s s':St}{r:OR}
 {w:World}{I:Nat→Nat→Prop}{D:Nat→Prop}{ρ:Nat→Row}{nt:Nat}{a:Act}
theorem getElem?_toList_getD (c:Array Value)(j:Nat)(hj:j<c.size):c[j]?=some (c.toList.getD j undef):=by grind
theorem row_elem{k sz i:Nat}{es:List PV}{c:PV}(h:OK w I D ρ k (.row sz es))(hi:es[i]?=some c):
 ∃vs:List Value,vs.length=c.cells.length∧w.rangeAt (ρ k).blk (i*sz) vs∧(∀j,VR w I D ρ (c.cells.getD j .undef) (vs.getD j undef))∧c.cells.length=sz:=by
 obtain⟨_,h2,h3,h4,_,cs,E,fr,h6,h7,_,h9⟩:=h;have hil:=(gI0.1 hi).1;have hc:c.cells.length=sz:=h4 c (mG0 hi);have hfit:i*sz+sz≤cs.size:=by rw[←h7];have:(i+1) *sz≤(ρ k).cap*sz:=Nat.mul_le_mul_right _ (by omega);rw[Nat.succ_mul]at this;exact this
 refine⟨(cs.toList.drop (i*sz)).take sz,by simp;omega,fun j v hj=>?_,fun j=>?_,hc⟩
 · simp only[List.getElem?_take,List.getElem?_drop,Array.getElem?_toList]at hj;split at hj
   ·rw[cell_of_row w _ _ cs E fr h6];exact hj
   ·cases hj
 · by_cases hj:j<sz
   · rw[qbc cs.toList _ _ _ _ hj,←qi8 i j c h4 hi hj];exact h9 _
   · rw[qaz _ j _ (by omega)];exact .undef _
theorem slice_elem{sz i:Nat}{es:List PV}{m:SM}{c:PV}{A:Option Addr}{n cap:Nat}(h:VR w I D ρ (.slice sz es m) (.slice A n cap))(hi:es[i]?=some c):
 ∃b o vs,A=some ⟨b,o,none⟩∧n=es.length∧vs.length=c.cells.length∧Held w I b (o+i*sz) vs∧(∀j,VR w I D ρ (c.cells.getD j .undef) (vs.getD j undef))∧c.cells.length=sz:=by
 cases h with
 |slice _ _ _ _ _ b o vs hsz hm hne hcap hlen hat hv=>
   have hil:=(gI0.1 hi).1;have hc:c.cells.length=sz:=hsz c (mG0 hi);have hfl:=qax hsz;have hfit:i*sz+sz≤vs.length:=by rw[hlen,hfl];have:(i+1) *sz≤es.length*sz:=Nat.mul_le_mul_right _ (by omega);rw[Nat.succ_mul]at this;exact this
   refine⟨b,o,(vs.drop (i*sz)).take sz,hne (by rintro rfl;simp at hil),rfl,by simp;omega,fun j v hj=>?_,fun j=>?_,hc⟩
   · simp only[List.getElem?_take,List.getElem?_drop]at hj;split at hj
     ·rw[Nat.add_assoc];exact hat _ _ hj
     ·cases hj
   · by_cases hj:j<sz
     · rw[qbc vs _ _ _ _ hj,←qi8 i j c hsz hi hj];exact hv _
     · rw[qaz _ j _ (by omega)];exact .undef _
theorem Held.range{b k:Nat}{vs:List Value}(h:Held w I b k vs):w.rangeAt b k vs:=fun j v hj=>(h j v hj).2
theorem qqz{agg:Bool}{sz:Nat}{p q:PV}{v:Value}{h:List Obj}(S:Sim w I D ρ h)(hp:VR w I D ρ p v)(hl:loadAt agg sz p h=some q):
 ∃b off,v=.pointer (some ⟨b,off,none⟩)∧(agg=true→∃cs:List Value,cs.length=sz∧w.rangeAt b off cs∧VR w I D ρ q (.agg cs.toArray))∧
   (agg=false→∃x,w.cell? ⟨b,off,none⟩=some x∧VR w I D ρ q x):=by
 unfold loadAt at hl;cases hp with
 |ptr k i off tip A hD htip hA=>
   simp only at hl;split at hl
   next rsz es hk=>
     split at hl
     next ht=>
       split at hl
       next c hc=>
         have hok:=S.obj k _ hD hk;obtain⟨vs,h1,h2,h3,_⟩:=row_elem hok hc;have hA':=hA (by rw[hok.1,ht]);rw[hA',hok.2.1];have:=qp8 hl (ρ k).blk (i*rsz) vs h1 h2 h3;exact⟨_,_,rfl,this.1,this.2⟩
       ·cases hl
     ·cases hl
   ·cases hl
 |iptr c off b o vs hlen hat hv=>
   simp only at hl;have:=qp8 hl b o vs hlen hat.range hv;exact⟨_,_,rfl,this.1,this.2⟩
 |_=>simp at hl
theorem qkw(w:World)(b off:Nat)(t:TypeId)(x:Value)(d:TypeDesc)(hu:P.underlying t=some d)(hd:d.isRow=false)(hc:w.cell? ⟨b,off,none⟩=some x):
 (loadVar t ⟨b,off,none⟩).run P w=.ok x w:=by
 have hagg:(isAgg t).run P w=.ok false w:=by unfold isAgg;rw[Sem.run_bind,run_underlying hu w];cases d<;>simp_all
 simp[loadVar,Sem.run_bind,hagg,hc]
theorem qp7{t:TypeId}{g:Bool}(h:tagg P t=some g):∃d,P.underlying t=some d∧d.isRow=g:=by simp only[tagg,oM0]at h;obtain⟨d,hd,he⟩:=h;refine⟨d,hd,?_⟩;subst he;cases d<;>rfl
theorem load_run{agg:Bool}{sz:Nat}{p q:PV}{v:Value}{h:List Obj}{t:TypeId}(S:Sim w I D ρ h)(hp:VR w I D ρ p v)(hl:loadAt agg sz p h=some q)
 (hg:tagg P t=some agg)(hs:qd1 P t=some sz):∃x A,v=.pointer (some A)∧(loadVar t A).run P w=.ok x w∧VR w I D ρ q x:=by
 obtain⟨d,hd,hr⟩:=qp7 hg;obtain⟨b,off,rfl,h1,h2⟩:=qqz S hp hl;cases agg with
 |true=>
   obtain⟨cs,hcs,hat,hv⟩:=h1 rfl;exact⟨_,_,rfl,run_loadVar_mid w b off t cs d hat hd hr (by simpa[qd1,hcs]using hs),hv⟩
 |false=>
   obtain⟨x,hx,hv⟩:=h2 rfl;exact⟨_,_,rfl,qkw w b off t x d hd hr hx,hv⟩
theorem q_load{t:TypeId}{x:Operand}(S:Sim w I D ρ s.h)(E:EnvR w I D ρ nt e a)(hop:o.op=.load t x)(h:evOp T call (qar P rm o.op) e s=some (r,s')):qei P o s s' r w I D ρ a:=by
 rw[hop]at h;simp only[qar]at h;split at h
 next g n hg hn=>
   simp only[evOp]at h;obtain⟨q,hq,rfl,rfl⟩:=qbr h;obtain⟨v,A,hA,hr,hv⟩:=load_run S (E.eval x) hq hg hn;exact .mk (by unfold execOp;rw[hop];simp[hA,Instr.loadAt,Instr.sureAddr,hr]) hv
 ·cases h
theorem qd6{t:TypeId}{z:PV}(h:qop P t=some z):∃i zv,P.info? t=some i∧i.zero=some zv∧ofV zv=some z∧zv.cells.size=z.cells.length∧z≠.undef:=by
 simp only[qop,Option.bind_eq_some_iff]at h;obtain⟨i,hi,zv,hzv,hz⟩:=h;refine⟨i,zv,hi,hzv,hz,(cells_ofV hz).symm,?_⟩;rintro rfl;unfold ofV at hz;split at hz
 ·simp at hz
 ·unfold qj7 at hz;split at hz<;>cases hz
theorem qbm{t:TypeId}{n:Nat}(h:qd1 P t=some n)(w:World):(sizeOf t).run P w=.ok n w:=by simp only[qd1,oM0]at h;obtain⟨i,hi,rfl⟩:=h;simp[sizeOf,typeInfo,hi]
theorem qcf{t:TypeId}{i:TypeInfo}{zv:Value}(hi:P.info? t=some i)(hz:i.zero=some zv)(w:World):(zeroValue t).run P w=.ok zv w:=by simp[zeroValue,typeInfo,hi,hz]
theorem qnq(w:World):∀(fs:List Field),(∀f∈fs,(P.info? f.type).isSome=true)→
 (fs.mapM fun f=>(do pure (f.offset,←sizeOf f.type):Sem (Nat×Nat))).run P w=.ok (fs.map fun f=>(f.offset,((P.info? f.type).map (·.size)).getD 0)) w
 |[],_=>rfl
 |f::fs,h=>by obtain⟨i,hi⟩:=Option.isSome_iff_exists.1 (h f (by simp));have ih:=qnq w fs (fun g hg=>h g (mC0 _ hg));simp only[List.mapM_cons,Sem.run_bind,qbm (P:=P) (t:=f.type) (n:=i.size) (by simp[qd1,hi]),Result.andThen_ok,Sem.run_pure,ih];simp[hi]
theorem map_getElem? {α β:Type}(f:α→β)(l:List α)(j:Nat):(l.map f)[j]?=(l[j]?).map f:=by simp
theorem q_build{t:TypeId}{parts:Array (Nat×Operand)}(E:EnvR w I D ρ nt e a)(hop:o.op=.build t parts)(h:evOp T call (qar P rm o.op) e s=some (r,s')):qei P o s s' r w I D ρ a:=by
 rw[hop]at h;simp only[qar]at h;split at h
 next fs z hu hz=>
   split at h
   next l hl=>
     split at h
     next hall=>
       obtain⟨i,zv,hi,hzv,hzz,_,hzu⟩:=qd6 hz;obtain⟨hl1,hl2⟩:=qjr parts.toList hl;simp only[evOp]at h;obtain⟨q,hq,rfl,rfl⟩:=qbr h;simp only[oM0]at hq;obtain⟨cs',hcs,rfl⟩:=hq;have hzc:=(qkv (w:=w) (I:=I) (D:=D) (ρ:=ρ) hzz).cellsAt hzu
       let places:=fs.map fun f=>(f.offset,((P.info? f.type).map (·.size)).getD 0)
       obtain⟨cells',hf,hs',hv'⟩:=qj3 (w:=w) (I:=I) (D:=D) (ρ:=ρ) (fun j=>places[j]?) (l.map fun(o,n,x)=>(o,n,ax e x)) (parts.toList.map fun(i,x)=>(i,a.eval x)) z.cells cs' zv.cells
        (by simp[hl1]) (fun j i' v hj=>by rw[map_getElem?]at hj;simp only[oM0]at hj;obtain⟨⟨i2,x2⟩,hj2,he⟩:=hj;simp only[Prod.mk.injEq]at he;obtain⟨rfl,rfl⟩:=he;obtain⟨f,n,hf1,hf2,hf3⟩:=hl2 j i2 x2 hj2;refine⟨f.offset,n,ax e (cx x2),by rw[map_getElem?,hf3];rfl,?_,E.eval x2⟩;simp only[places,Array.getElem?_map,hf1,Option.map_some];simp only[qd1]at hf2;rw[hf2];rfl) hzc.1 hzc.2 hcs
       refine .mk (v:=.agg cells') ?_ (.agg _ _ hs' hv');unfold execOp;rw[hop];have hpl:=qnq (P:=P) w fs.toList (fun f hf=>(List.all_eq_true.1 hall) f hf);have hf':Instr.fill (fun x=>places[x]?) zv.cells (parts.map fun(i,x)=>(i,a.eval x)).toList=some cells':=by simp_all
       simp only[Instr.build,Sem.run_bind,qcf hi hzv,Result.andThen_ok,run_underlying hu];rw[Array.mapM_eq_mapM_toList];simp only[Sem.run_map,hpl,Result.andThen_ok];have e1:(List.map (fun f:Field=>(f.offset,((P.info? f.type).map (·.size)).getD 0)) fs.toList).toArray=places:=by grind
       rw[e1];split
       ·simp_all
       ·grind
     ·cases h
   ·cases h
 next len el z hu hz=>
   split at h
   next n hn=>
     obtain⟨i,zv,hi,hzv,hzz,_,hzu⟩:=qd6 hz;simp only[evOp]at h;obtain⟨q,hq,rfl,rfl⟩:=qbr h;simp only[oM0]at hq;obtain⟨cs',hcs,rfl⟩:=hq;have hzc:=(qkv (w:=w) (I:=I) (D:=D) (ρ:=ρ) hzz).cellsAt hzu
     obtain⟨cells',hf,hs',hv'⟩:=qj3 (w:=w) (I:=I) (D:=D) (ρ:=ρ) (fun i=>some (i*n,n)) ((parts.toList.map fun(i,x)=>(i*n,n,cx x)).map fun(o,n,x)=>(o,n,ax e x)) (parts.toList.map fun(i,x)=>(i,a.eval x)) z.cells cs' zv.cells
      (by simp) (fun j i' v hj=>by rw[map_getElem?]at hj;simp only[oM0]at hj;obtain⟨⟨i2,x2⟩,hj2,he⟩:=hj;simp only[Prod.mk.injEq]at he;obtain⟨rfl,rfl⟩:=he;exact⟨i2*n,n,ax e (cx x2),by rw[map_getElem?,map_getElem?,hj2];rfl,rfl,E.eval x2⟩) hzc.1 hzc.2 hcs
     refine .mk (v:=.agg cells') ?_ (.agg _ _ hs' hv');unfold execOp;rw[hop];have hf':Instr.fill (fun i=>some (i*n,n)) zv.cells (parts.map fun(i,x)=>(i,a.eval x)).toList=some cells':=by simp_all
     simp only[Instr.build,Sem.run_bind,qcf hi hzv,Result.andThen_ok,run_underlying hu,qbm hn];split
     ·simp_all
     ·grind
   ·cases h
 ·cases h
end
end Go.AE
namespace Go.AE
open Go
section
variable {P:Program}{T:Tbl}{call:FuncId→List PV→List Obj→Option qam}{rm:Bool}{o:Oper}{e:List PV}{s s':St}{r:OR}
 {w:World}{I:Nat→Nat→Prop}{D:Nat→Prop}{ρ:Nat→Row}{nt:Nat}{a:Act}
theorem q_nilCheck{x:Operand}(E:EnvR w I D ρ nt e a)(hop:o.op=.nilCheck x)(h:evOp T call (qar P rm o.op) e s=some (r,s')):qei P o s s' r w I D ρ a:=by
 rw[hop]at h;simp only[qar,evOp]at h;have hx:=E.eval x;split at h
 next k i of t hk=>
   rw[hk]at hx;cases h;generalize hv:a.eval x=v at hx;cases hx with
   |ptr _ _ _ _ A hD htip hA=>exact .mk (v:=.pointer (some A)) (by unfold execOp;rw[hop];simp[hv]) (.ptr _ _ _ _ A hD htip hA)
 next c of hk=>
   rw[hk]at hx;cases h;generalize hv:a.eval x=v at hx;cases hx with
   |iptr _ _ b of' vs h1 h2 h3=>exact .mk (v:=.pointer (some ⟨b,of'+of,none⟩)) (by unfold execOp;rw[hop];simp[hv]) (.iptr _ _ b of' vs h1 h2 h3)
 next f fs cs hk=>
   rw[hk]at hx;cases h;generalize hv:a.eval x=v at hx;cases hx with
   |func _ _ _ fv cv h1 h2 h3 h4=>exact .mk (v:=.func (.func f) fv cv) (by unfold execOp;rw[hop];simp[hv]) (.func _ _ _ fv cv h1 h2 h3 h4)
 ·cases h
theorem binop_run {op:BinOp} {x y p:PV} {v u:Value} (hx:VR w I D ρ x v) (hy:VR w I D ρ y u) (h:qdb op x y=some p) (t:TypeId) (ox oy:Operand) :
 ∃ q,(do eqGuard op t ox oy v u; binOp op t v u:Sem Value).run P w=.ok q w∧VR w I D ρ p q:=by
 unfold qdb at h;split at h
 · cases hx; cases hy;rename_i k a' k' b';have hg:(eqGuard op t ox oy (.int k a') (.int k' b')).run P w=.ok () w:=by unfold eqGuard; cases op <;> simp
   simp only [Sem.run_bind,hg,Result.andThen_ok];split at h
   · split at h
     next hb =>
       cases h;refine ⟨_,?_,.int _ _⟩;simp [binOp,Op.shift,show ¬ b' < 0 by omega]
     · cases h
   · split at h
     next hb =>
       cases h;refine ⟨_,?_,.int _ _⟩;simp [binOp,Op.shift,show ¬ b' < 0 by omega]
     · cases h
   next hshl hshr =>
     split at h
     next hk =>
       subst hk
       split at h <;> first
        | (cases h; done)
        | (cases h; refine ⟨_,?_,.int _ _⟩; simp only [binOp,ne_eq,not_true_eq_false,if_false]; rfl)
        | (cases h; refine ⟨_,?_,.bool _⟩; simp only [binOp,ne_eq,not_true_eq_false,if_false]; rfl)
        | (split at h
           · grind
           · rename_i hb; cases h; refine ⟨_,?_,.int _ _⟩; simp [binOp,Op.intDiv,hb])
     · cases h
 · cases hx; cases hy;rename_i a' b';have hg:(eqGuard op t ox oy (.string a') (.string b')).run P w=.ok () w:=by unfold eqGuard; cases op <;> simp
   simp only [Sem.run_bind,hg,Result.andThen_ok];unfold qtn at h;split at h
   · split at h
     next hs =>
       cases h;refine ⟨_,?_,.str _⟩;have h2:¬ (((a'.size+b'.size:Nat):Int) > IntKind.i64.max):=by simp [IntKind.max,IntKind.signed,IntKind.bits]; omega
       simp only [binOp,Op.stringOp];rw [if_neg h2];rfl
     · cases h
   · cases h; exact ⟨_,by simp [binOp,Op.stringOp],.bool _⟩
   · cases h; exact ⟨_,by simp [binOp,Op.stringOp],.bool _⟩
   · cases h
 · cases h
theorem qec{p:PV}{v:Value}{b:Bool}(hv:VR w I D ρ p v)(h:qgh .slice p=some b):∃A n c,v=.slice A n c∧A.isNone=b:=by
 cases hv<;>simp only[qgh]at h<;>try(cases h;done)
 next sz es m A cap bb oo vs hsz hm hne hcap hlen hat hvv=>
   refine⟨A,_,cap,rfl,?_⟩;split at h
   ·cases h;obtain⟨rfl,_⟩:=hm;rfl
   ·cases h;unfold SMok at hm;cases A<;>simp_all
   ·cases h;unfold SMok at hm;cases A<;>simp_all
   ·cases h;obtain⟨_,hm,_⟩:=hm;cases A<;>simp_all
   ·simp_all
end
end Go.AE
namespace Go.AE
open Go
section
variable {P:Program}{T:Tbl}{call:FuncId→List PV→List Obj→Option qam}{rm:Bool}{o:Oper}{e:List PV}{s s':St}{r:OR}
 {w:World}{I:Nat→Nat→Prop}{D:Nat→Prop}{ρ:Nat→Row}{nt:Nat}{a:Act}
theorem qed{p:PV}{v:Value}{b:Bool}(hv:VR w I D ρ p v)(h:qgh .func p=some b):(b=true→v=.nilFunc)∧(b=false→∃x y z,v=.func x y z):=by
 cases hv<;>simp only[qgh]at h<;>first
  |(cases h;done)
  |(cases h;exact⟨fun _=>rfl,(fun h=>by cases h)⟩)
  |(cases h;exact⟨(fun h=>by cases h),fun _=>⟨_,_,_,rfl⟩⟩)
theorem qc7{p:PV}{v:Value}{b:Bool}(hv:VR w I D ρ p v)(h:qgh .pointer p=some b):∃A,v=.pointer A∧A.isNone=b:=by
 cases hv<;>simp only[qgh]at h<;>first
  |(cases h;done)
  |(cases h;exact⟨_,rfl,rfl⟩)
theorem qf5{p:PV}{v:Value}{b:Bool}(hv:VR w I D ρ p v)(h:qgh .map p=some b):∃A,v=.map A∧A.isNone=b:=by
 cases hv<;>simp only[qgh]at h<;>first
  |(cases h;done)
  |(cases h;exact⟨_,rfl,rfl⟩)
theorem qdk{p:PV}{v:Value}{b:Bool}(hv:VR w I D ρ p v)(h:qgh .iface p=some b):(b=true→v=.nilIface)∧(b=false→∃x y,v=.iface x y):=by
 cases hv<;>simp only[qgh]at h<;>first
  |(cases h;done)
  |(cases h;exact⟨fun _=>rfl,(fun h=>by cases h)⟩)
  |(cases h;exact⟨(fun h=>by cases h),fun _=>⟨_,_,rfl⟩⟩)
def EqT.fits:EqT→TypeDesc→Prop
 |.bool,.bool=>True
 |.slice,.slice _=>True
 |.func,.func .. =>True
 |.pointer,.pointer _=>True
 |.map,.map .. =>True
 |.iface,.interface _=>True
 |_,_=>False
theorem eqop_run{t:EqT}{ty:TypeId}{d:TypeDesc}{x y:PV}{v u:Value}{b:Bool}(hd:P.underlying ty=some d)(ht:t.fits d)(hx:VR w I D ρ x v)(hy:VR w I D ρ y u)(h:eqop t x y=some b)(n:Nat):
 (Op.equalIn (n+1) ty v u).run P w=.ok b w:=by
 have hru:=run_underlying (P:=P) hd;cases t with
 |bool=>
   cases d<;>simp only[EqT.fits]at ht;unfold eqop at h;cases hx<;>cases hy<;>simp at h;subst h;simp[Op.equalIn,hru]
 |slice=>
   cases d<;>simp only[EqT.fits]at ht;unfold eqop at h;simp only at h;split at h
   next b' h1 h2=>
     cases h;obtain⟨A,n1,c1,rfl,hA⟩:=qec hx h1;obtain⟨B,n2,c2,rfl,hB⟩:=qec hy h2;cases A<;>simp at hA;cases B<;>simp at hB<;>subst hB<;>simp[Op.equalIn,hru]
   next h1 h2=>
     cases h;obtain⟨A,n1,c1,rfl,hA⟩:=qec hx h1;obtain⟨B,n2,c2,rfl,hB⟩:=qec hy h2;cases A<;>simp at hA;cases B<;>simp at hB;simp[Op.equalIn,hru]
   ·cases h
 |func=>
   cases d<;>simp only[EqT.fits]at ht;unfold eqop at h;simp only at h;split at h
   next b' h1 h2=>
     cases h;have e1:=(qed hx h1).1 rfl;subst e1;cases b with
     |true=>have e2:=(qed hy h2).1 rfl;subst e2;simp[Op.equalIn,hru]
     |false=>obtain⟨_,_,_,rfl⟩:=(qed hy h2).2 rfl;simp[Op.equalIn,hru]
   next h1 h2=>
     cases h;obtain⟨_,_,_,rfl⟩:=(qed hx h1).2 rfl;have e2:=(qed hy h2).1 rfl;subst e2;simp[Op.equalIn,hru]
   ·cases h
 |pointer=>
   cases d<;>simp only[EqT.fits]at ht;unfold eqop at h;simp only at h;split at h
   next b' h1 h2=>
     cases h;obtain⟨A,rfl,hA⟩:=qc7 hx h1;obtain⟨B,rfl,hB⟩:=qc7 hy h2;cases A<;>simp at hA;subst hB;simp[Op.equalIn,hru]
   next h1 h2=>
     cases h;obtain⟨A,rfl,hA⟩:=qc7 hx h1;obtain⟨B,rfl,hB⟩:=qc7 hy h2;cases A<;>simp at hA;cases B<;>simp at hB;simp[Op.equalIn,hru]
   ·cases h
 |map=>
   cases d<;>simp only[EqT.fits]at ht;unfold eqop at h;simp only at h;split at h
   next b' h1 h2=>
     cases h;obtain⟨A,rfl,hA⟩:=qf5 hx h1;obtain⟨B,rfl,hB⟩:=qf5 hy h2;cases A<;>simp at hA;subst hB;simp[Op.equalIn,hru]
   next h1 h2=>
     cases h;obtain⟨A,rfl,hA⟩:=qf5 hx h1;obtain⟨B,rfl,hB⟩:=qf5 hy h2;cases A<;>simp at hA;cases B<;>simp at hB;simp[Op.equalIn,hru]
   ·cases h
 |iface=>
   cases d<;>simp only[EqT.fits]at ht;unfold eqop at h;simp only at h;split at h
   next b' h1 h2=>
     cases h;have e1:=(qdk hx h1).1 rfl;subst e1;cases b with
     |true=>have e2:=(qdk hy h2).1 rfl;subst e2;simp[Op.equalIn,hru]
     |false=>obtain⟨_,_,rfl⟩:=(qdk hy h2).2 rfl;simp[Op.equalIn,hru]
   next h1 h2=>
     cases h;obtain⟨_,_,rfl⟩:=(qdk hx h1).2 rfl;have e2:=(qdk hy h2).1 rfl;subst e2;simp[Op.equalIn,hru]
   ·cases h
theorem eqop_vals {t:EqT} {x y:PV} {v u:Value} {b:Bool} (hx:VR w I D ρ x v) (hy:VR w I D ρ y u) (h:eqop t x y=some b) :
 (∃ p q,v=.bool p∧u=.bool q)∨(∃ A n c B m k,v=.slice A n c∧u=.slice B m k) ∨
 ((v=.nilFunc∨∃ p q r,v=.func p q r)∧(u=.nilFunc∨∃ p q r,u=.func p q r))∨(∃ A B,v=.pointer A∧u=.pointer B)∨(∃ A B,v=.map A∧u=.map B) ∨
 ((v=.nilIface∨∃ p q,v=.iface p q)∧(u=.nilIface∨∃ p q,u=.iface p q)):=by
 have two:∀ t',t'≠.bool→eqop t' x y=some b→∃ b1 b2,qgh t' x=some b1∧qgh t' y=some b2:=by
  intro t' ht' h';unfold eqop at h'
  cases t' <;> first
   | exact absurd rfl ht'
   | (simp only at h'
      split at h'
      · grind
      · grind
      · cases h')
 cases t with
 | bool =>
   unfold eqop at h;cases hx <;> cases hy <;> simp at h;exact .inl ⟨_,_,rfl,rfl⟩
 | slice =>
   obtain ⟨b1,b2,h1,h2⟩:=two _ (by simp) h;obtain ⟨A,n1,c1,rfl,_⟩:=qec hx h1;obtain ⟨B,n2,c2,rfl,_⟩:=qec hy h2;exact .inr (.inl ⟨_,_,_,_,_,_,rfl,rfl⟩)
 | func =>
   obtain ⟨b1,b2,h1,h2⟩:=two _ (by simp) h;have e1:=qed hx h1;have e2:=qed hy h2;refine .inr (.inr (.inl ⟨?_,?_⟩))
   · grind
   · grind
 | pointer =>
   obtain ⟨b1,b2,h1,h2⟩:=two _ (by simp) h;obtain ⟨A,rfl,_⟩:=qc7 hx h1;obtain ⟨B,rfl,_⟩:=qc7 hy h2;exact .inr (.inr (.inr (.inl ⟨_,_,rfl,rfl⟩)))
 | map =>
   obtain ⟨b1,b2,h1,h2⟩:=two _ (by simp) h;obtain ⟨A,rfl,_⟩:=qf5 hx h1;obtain ⟨B,rfl,_⟩:=qf5 hy h2;exact .inr (.inr (.inr (.inr (.inl ⟨_,_,rfl,rfl⟩))))
 | iface =>
   obtain ⟨b1,b2,h1,h2⟩:=two _ (by simp) h;have e1:=qdk hx h1;have e2:=qdk hy h2;refine .inr (.inr (.inr (.inr (.inr ⟨?_,?_⟩))))
   · grind
   · grind
theorem eq_run{neg:Bool}{t:EqT}{ty:TypeId}{d:TypeDesc}{x y:PV}{v u:Value}{b:Bool}(hd:P.underlying ty=some d)(ht:t.fits d)(hx:VR w I D ρ x v)(hy:VR w I D ρ y u)(h:eqop t x y=some b)
 (ox oy:Operand)(hc:t=.iface→(qgi ox||qgi oy)=true)(op:BinOp)(hop:op=if neg then .neq else .eql):
 (do eqGuard op ty ox oy v u;binOp op ty v u:Sem Value).run P w=.ok (.bool (if neg then !b else b)) w:=by
 have hv:=eqop_vals hx hy h;have he:(Op.equal ty v u).run P w=.ok b w:=eqop_run hd ht hx hy h 9999
 have hg:(eqGuard op ty ox oy v u).run P w=.ok () w:=by
  unfold eqGuard;rcases hv with⟨p,q,rfl,rfl⟩|⟨A,n,c,B,m,k,rfl,rfl⟩|⟨hv,hu⟩|⟨A,B,rfl,rfl⟩|⟨A,B,rfl,rfl⟩|⟨hv,hu⟩
  ·simp_all
  ·simp_all
  ·rcases hv with rfl|⟨_,_,_,rfl⟩<;>rcases hu with rfl|⟨_,_,_,rfl⟩<;>cases neg<;>simp[hop]
  ·simp_all
  ·simp_all
  · have ht':t=.iface:=by
     cases t with
     |iface=>rfl
     |bool=>rcases hv with rfl|⟨_,_,rfl⟩<;>(unfold eqop at h;cases hx<;>simp at h)
     |slice=>rcases hv with rfl|⟨_,_,rfl⟩<;>(unfold eqop at h;cases hx<;>simp[qgh]at h)
     |func=>rcases hv with rfl|⟨_,_,rfl⟩<;>(unfold eqop at h;cases hx<;>simp[qgh]at h)
     |pointer=>rcases hv with rfl|⟨_,_,rfl⟩<;>(unfold eqop at h;cases hx<;>simp[qgh]at h)
     |map=>rcases hv with rfl|⟨_,_,rfl⟩<;>(unfold eqop at h;cases hx<;>simp[qgh]at h)
    have hc':=hc ht'
    rcases hv with rfl|⟨_,_,rfl⟩<;>rcases hu with rfl|⟨_,_,rfl⟩<;>cases neg<;>(try simp[hop])<;>
     (cases ox<;>cases oy<;>simp_all [qgi])
 simp only[Sem.run_bind,hg,Result.andThen_ok]
 have hbin:(binOp op ty v u).run P w=(Op.equal ty v u>>=fun b=>pure (.bool (if neg then !b else b)):Sem Value).run P w:=by
  subst hop;rcases hv with⟨p,q,rfl,rfl⟩|⟨A,n,c,B,m,k,rfl,rfl⟩|⟨hv,hu⟩|⟨A,B,rfl,rfl⟩|⟨A,B,rfl,rfl⟩|⟨hv,hu⟩
  ·cases neg<;>rfl
  ·cases neg<;>rfl
  ·rcases hv with rfl|⟨_,_,_,rfl⟩<;>rcases hu with rfl|⟨_,_,_,rfl⟩<;>cases neg<;>rfl
  ·cases neg<;>rfl
  ·cases neg<;>rfl
  ·rcases hv with rfl|⟨_,_,rfl⟩<;>rcases hu with rfl|⟨_,_,rfl⟩<;>cases neg<;>rfl
 rw[hbin];simp[he]
theorem q_bin {op:BinOp} {t yt:TypeId} {x y:Operand} (E:EnvR w I D ρ nt e a) (hop:o.op=.binOp op t x y yt) (h:evOp T call (qar P rm o.op) e s=some (r,s')):qei P o s s' r w I D ρ a:=by
 rw [hop] at h;have plain:∀ {r s'},evOp T call (.bin op (cx x) (cx y)) e s=some (r,s')→qei P o s s' r w I D ρ a:=by intro r s' h;simp only [evOp] at h;obtain ⟨q,hq,rfl,rfl⟩:=qbr h;obtain ⟨v,hr,hv⟩:=binop_run (P:=P) (E.eval x) (E.eval y) hq t x y;exact .mk (by unfold execOp;rw [hop];simp only [Sem.run_bind] at hr ⊢;rw [hr];rfl) hv
 have eqs:∀ {neg:Bool} {k:EqT} {d:TypeDesc} {r s'},P.underlying t=some d→k.fits d→(k=.iface→(qgi x || qgi y)=true)→op=(if neg then .neq else .eql) →
  evOp T call (.eq neg k (cx x) (cx y)) e s=some (r,s')→qei P o s s' r w I D ρ a:=by
  intro neg k d r s' hd hk hc ho h;simp only [evOp] at h;obtain ⟨q,hq,rfl,rfl⟩:=qbr h;simp only [oM0] at hq;obtain ⟨b,hb,rfl⟩:=hq;have hr:=eq_run (P:=P) hd hk (E.eval x) (E.eval y) hb x y hc op ho;exact .mk (by unfold execOp;rw [hop];simp only [Sem.run_bind] at hr ⊢;rw [hr];rfl) (.bool _)
 have kinds:∀ {neg:Bool} {d:TypeDesc} {r s'},P.underlying t=some d→op=(if neg then .neq else .eql)→evOp T call (qmg op d x y) e s=some (r,s')→qei P o s s' r w I D ρ a:=by
  intro neg d r s' hd ho h;have hneg:qsx op=neg:=by subst ho; cases neg <;> rfl
  unfold qmg at h;simp only [hneg] at h
  cases d <;> simp only at h <;> first
   | exact plain h
   | exact eqs hd (by trivial) (by simp) ho h
   | (split at h
      · rename_i hc; exact eqs hd (by trivial) (fun _ => hc) ho h
      · cases h)
   | cases h
 cases op <;> simp only [qar] at h <;> first
  | exact plain h
  | (split at h
     · simp_all
     · cases h)
  | (split at h
     · rename_i d hd; exact kinds (neg:=true) hd rfl h
     · cases h)
end
end Go.AE
namespace Go.AE
open Go
section
variable {P:Program}{T:Tbl}{call:FuncId→List PV→List Obj→Option qam}{rm:Bool}{o:Oper}{e:List PV}{s s':St}{r:OR}
 {w:World}{I:Nat→Nat→Prop}{D:Nat→Prop}{ρ:Nat→Row}{nt:Nat}{a:Act}
theorem q_un{op:UnOp}{t:TypeId}{x:Operand}(E:EnvR w I D ρ nt e a)(hop:o.op=.unOp op t x)(h:evOp T call (qar P rm o.op) e s=some (r,s')):qei P o s s' r w I D ρ a:=by
 rw[hop]at h;simp only[qar,evOp]at h;have hx:=E.eval x;split at h
 next b hb=>
   rw[hb]at hx;cases h;generalize hv:a.eval x=v at hx;cases hx;exact .mk (by unfold execOp;rw[hop];simp[hv,Op.unary]) (.bool _)
 next k n hb=>
   rw[hb]at hx;cases h;generalize hv:a.eval x=v at hx;cases hx;exact .mk (by unfold execOp;rw[hop];simp only[hv,Op.unary,Op.intArith];rfl) (.int _ _)
 ·cases h
theorem q_mkIface{t:TypeId}{x:Operand}(E:EnvR w I D ρ nt e a)(hop:o.op=.makeInterface t x)(h:evOp T call (qar P rm o.op) e s=some (r,s')):qei P o s s' r w I D ρ a:=by
 rw[hop]at h;simp only[qar]at h;split at h
 ·cases h
 ·cases h
 next d hni hd=>
   simp only[evOp]at h;cases h;refine .mk (v:=.iface t (a.eval x)) ?_ (.iface t _ _ (E.eval x));unfold execOp;rw[hop];simp only[Instr.makeInterface,Sem.run_bind,run_underlying hd,Result.andThen_ok]
   cases d<;>first
    |rfl
    |exact(hni _ hd).elim
theorem qj9(E:EnvR w I D ρ nt e a)(l:List Operand)(j:Nat):VR w I D ρ ((l.map fun x=>ax e (cx x)).getD j .undef) ((l.map a.eval).getD j undef):=by
 by_cases hj:j<l.length
 · rw[gD0,gD0,gM0,gM0,gE0 hj];exact E.eval _
 · rw[qaz _ j _ (by simpa using hj)];exact .undef _
theorem q_mkFunc{fn:Fn}{f c:Array Operand}(E:EnvR w I D ρ nt e a)(hop:o.op=.makeFunc fn f c)(h:evOp T call (qar P rm o.op) e s=some (r,s')):qei P o s s' r w I D ρ a:=by
 rw[hop]at h;simp only[qar,evOp]at h;cases h;refine .mk (v:=.func fn (f.map a.eval) (c.map a.eval)) (by unfold execOp;rw[hop];rfl) (.func fn _ _ _ _ (by simp) (by simp) (fun j=>?_) (fun j=>?_))
 ·rw[Array.toList_map,List.map_map];exact qj9 E _ j
 ·rw[Array.toList_map,List.map_map];exact qj9 E _ j
theorem q_extract{x:Operand}{i:Nat}(E:EnvR w I D ρ nt e a)(hop:o.op=.extract x i)(h:evOp T call (qar P rm o.op) e s=some (r,s')):qei P o s s' r w I D ρ a:=by
 rw[hop]at h;simp only[qar,evOp]at h;have hx:=E.eval x;split at h
 next vs hk=>
   rw[hk]at hx;obtain⟨q,hq,rfl,rfl⟩:=qbr h;generalize hv:a.eval x=v at hx;cases hx with
   |tuple _ us hlen hat=>
     have hi:=(gI0.1 hq).1;have h1:=getElem?_toList_getD us i (by omega);have h2:=hat i;rw[gD0,hq]at h2;exact .mk (by unfold execOp;rw[hop];simp only[hv,Instr.extract];rw[h1];rfl) h2
 ·cases h
theorem sub_part{g:Bool}{sz off:Nat}{cs:List PV}{q:PV}{vs:Array Value}{t:TypeId}(hlen:vs.size=cs.length)(hv:∀j,VR w I D ρ (cs.getD j .undef) (vs.toList.getD j undef))
 (h:sub g sz (.agg cs) off=some q)(hg:tagg P t=some g)(hs:qd1 P t=some sz):∃x,(part t vs off).run P w=.ok x w∧VR w I D ρ q x:=by
 obtain⟨d,hd,hr⟩:=qp7 hg;have hagg:(isAgg t).run P w=.ok g w:=by unfold isAgg;rw[Sem.run_bind,run_underlying hd w];cases d<;>simp_all
 unfold part;simp only[Sem.run_bind,hagg,Result.andThen_ok];unfold sub at h;cases g with
 |true=>
   simp only[if_true,Sem.run_bind,qbm hs,Result.andThen_ok,Sem.run_pure]at h⊢;split at h
   · rename_i hc;obtain⟨rfl,hcs⟩:=hc;cases h;refine⟨_,rfl,.agg cs _ (by simp;omega) fun j=>?_⟩;have e1:(vs.extract 0 (0+sz)).toList=vs.toList:=by rw[Nat.zero_add,←hcs,←hlen];simp
     rw[e1];exact hv j
   · split at h
     next h1 h2=>
       cases h;refine⟨_,rfl,.agg _ _ (by simp;omega) fun j=>?_⟩;have e1:(vs.extract off (off+sz)).toList=(vs.toList.drop off).take sz:=by simp_all
       rw[e1];by_cases hj:j<sz
       ·simp_all
       · rw[qaz _ j _ (by simp;omega)];exact .undef _
     ·cases h
 |false=>
   simp only[bF0,if_false]at h⊢;have hj:=(gI0.1 h).1;have h1:=getElem?_toList_getD vs off (by omega);have h2:=hv off;rw[gD0,h]at h2;rw[h1];exact⟨_,rfl,h2⟩
theorem q_field{t:TypeId}{x:Operand}{f:Nat}(E:EnvR w I D ρ nt e a)(hop:o.op=.field t x f)(h:evOp T call (qar P rm o.op) e s=some (r,s')):qei P o s s' r w I D ρ a:=by
 rw[hop]at h;simp only[qar]at h;split at h
 next fs hd=>
   split at h
   next fd hf=>
     split at h
     next g n hg hn=>
       simp only[evOp]at h;have hx:=E.eval x;split at h
       next cs hk=>
         rw[hk]at hx;obtain⟨q,hq,rfl,rfl⟩:=qbr h;generalize hv:a.eval x=v at hx;cases hx with
         |agg cs vs hlen hat=>
           obtain⟨y,hy,hvy⟩:=sub_part (P:=P) hlen hat hq hg hn;exact .mk (by unfold execOp;rw[hop];simp[hv,Instr.field,run_underlying hd,hf,asAgg,hy]) hvy
       ·cases h
     ·cases h
   ·cases h
 ·cases h
theorem q_index{t:TypeId}{x i:Operand}(E:EnvR w I D ρ nt e a)(hop:o.op=.index t x i)(h:evOp T call (qar P rm o.op) e s=some (r,s')):qei P o s s' r w I D ρ a:=by
 rw[hop]at h;simp only[qar]at h;have hx:=E.eval x;have hi:=E.eval i;split at h
 next hd=>
   simp only[evOp]at h;split at h
   next t' k n hk1 hk2=>
     rw[hk1]at hx;rw[hk2]at hi;split at h
     next h0=>
       obtain⟨q,hq,rfl,rfl⟩:=qbr h;simp only[oM0]at hq;obtain⟨b,hb,rfl⟩:=hq;generalize hv:a.eval x=v at hx;generalize hu:a.eval i=u at hi;cases hx;cases hi;refine .mk (v:=.int .u8 b.toNat) ?_ (.int _ _);unfold execOp;rw[hop]
       have hb':t'[n.toNat]?=some b:=by
        obtain⟨hlt,he⟩:=gI0.1 hb;have hlt':n.toNat<t'.size:=by simpa using hlt
        rw[getElem?_pos t' n.toNat hlt'];rw[Array.getElem_toList]at he;exact congrArg some he
       simp[hv,hu,Instr.index,asIntOf,run_underlying hd,h0,hb']
     ·cases h
   ·cases h
 next len el hd=>
   split at h
   next g n hg hn=>
     simp only[evOp]at h;split at h
     next cs k m hk1 hk2=>
       rw[hk1]at hx;rw[hk2]at hi;split at h
       next hr=>
         obtain⟨q,hq,rfl,rfl⟩:=qbr h;generalize hv:a.eval x=v at hx;generalize hu:a.eval i=u at hi;cases hi;cases hx with
         |agg cs vs hlen hat=>
           obtain⟨y,hy,hvy⟩:=sub_part (P:=P) hlen hat hq hg hn;exact .mk (by unfold execOp;rw[hop];simp[hv,hu,Instr.index,asIntOf,run_underlying hd,hr,qbm hn,hy]) hvy
       ·cases h
     ·cases h
   ·cases h
 ·cases h
theorem qsn{t:TypeId}{x:Operand}{f:Nat}(E:EnvR w I D ρ nt e a)(hop:o.op=.fieldAddr t x f)(h:evOp T call (qar P rm o.op) e s=some (r,s')):qei P o s s' r w I D ρ a:=by
 rw[hop]at h;simp only[qar]at h;split at h
 next fs hd=>
   split at h
   next fd hf=>
     split at h
     next n hn=>
       split at h
       next hpos=>
         simp only[evOp]at h;have hx:=E.eval x;have hne:¬(n=0):=by omega
         have place:∀A:Addr,(fieldPlace A fd).run P w=.ok (A.add fd.offset) w:=by intro A;simp[fieldPlace,qbm hn,hne]
         split at h
         next k j of tp hk=>
           rw[hk]at hx;cases h;generalize hv:a.eval x=v at hx;cases hx with
           |ptr _ _ _ _ A hD htip hA=>
             refine .mk (v:=.pointer (some (A.add fd.offset))) ?_ (.ptr _ _ _ _ _ hD htip fun e=>?_)
             · unfold execOp;rw[hop];simp[hv,Instr.fieldAt,run_underlying hd,hf,Instr.sureAddr,place]
             ·rw[hA e,Addr.add_mid,Nat.add_assoc]
         next c of hk=>
           rw[hk]at hx;cases h;generalize hv:a.eval x=v at hx;cases hx with
           |iptr _ _ b of' vs h1 h2 h3=>
             refine .mk (v:=.pointer (some ⟨b,of'+of+fd.offset,none⟩)) ?_ (by rw[Nat.add_assoc];exact .iptr _ _ b of' vs h1 h2 h3);unfold execOp;rw[hop];simp[hv,Instr.fieldAt,run_underlying hd,hf,Instr.sureAddr,place,Addr.add_mid]
         ·cases h
       ·cases h
     ·cases h
   ·cases h
 ·cases h
theorem qsm{t:TypeId}{x i:Operand}(S:Sim w I D ρ s.h)(E:EnvR w I D ρ nt e a)(hop:o.op=.indexAddr t x i)(h:evOp T call (qar P rm o.op) e s=some (r,s')):qei P o s s' r w I D ρ a:=by
 rw[hop]at h;simp only[qar]at h;have hx:=E.eval x;have hi:=E.eval i;split at h
 next len el hd=>
   split at h
   next n hn=>
     simp only[evOp]at h;split at h
     next k j of tp k2 m hk1 hk2=>
       rw[hk1]at hx;rw[hk2]at hi;split at h
       next hr=>
         cases h;generalize hv:a.eval x=v at hx;generalize hu:a.eval i=u at hi;cases hi;cases hx with
         |ptr _ _ _ _ A hD htip hA=>
           refine .mk (v:=.pointer (some (A.add (m.toNat*n)))) ?_ (.ptr _ _ _ _ _ hD htip fun e=>?_)
           · unfold execOp;rw[hop];simp[hv,hu,Instr.indexAt,asIntOf,run_underlying hd,Instr.sureAddr,hr,qbm hn]
           ·rw[hA e,Addr.add_mid,Nat.add_assoc]
       ·cases h
     next c of k2 m hk1 hk2=>
       rw[hk1]at hx;rw[hk2]at hi;split at h
       next hr=>
         cases h;generalize hv:a.eval x=v at hx;generalize hu:a.eval i=u at hi;cases hi;cases hx with
         |iptr _ _ b of' vs h1 h2 h3=>
           refine .mk (v:=.pointer (some ⟨b,of'+of+m.toNat*n,none⟩)) ?_ (by rw[Nat.add_assoc];exact .iptr _ _ b of' vs h1 h2 h3);unfold execOp;rw[hop];simp[hv,hu,Instr.indexAt,asIntOf,run_underlying hd,Instr.sureAddr,hr,qbm hn,Addr.add_mid]
       ·cases h
     ·cases h
   ·cases h
 next el hd=>
   split at h
   next n hn=>
     simp only[evOp]at h;obtain⟨q,hq,rfl,rfl⟩:=qbr h;unfold qcq at hq;split at hq
     next k2 m hk2=>
       rw[hk2]at hi;generalize hu:a.eval i=u at hi;cases hi;split at hq
       next sz' es mo hk1=>
         rw[hk1]at hx;split at hq
         next hr=>
           obtain⟨h0,rfl⟩:=hr;simp only[oM0]at hq;obtain⟨c,hc,rfl⟩:=hq;have hlt:=(gI0.1 hc).1;generalize hv:a.eval x=v at hx;have hx0:=hx;cases hx with
           |slice _ _ _ A cap b0 o0 vs0 hsz hm hne hcap hlen hat hvv=>
             obtain⟨b,oo,vs,hA,_,h1,h2,h3,_⟩:=slice_elem hx0 hc;subst hA;refine .mk (v:=.pointer (some ⟨b,oo+m.toNat*sz',none⟩)) ?_ (by have:=VR.iptr (w:=w) (I:=I) (D:=D) (ρ:=ρ) c 0 b (oo+m.toNat*sz') vs h1 h2 h3;simpa using this);unfold execOp;rw[hop];have hm:m< (es.length:Int):=by omega
             simp[hv,hu,Instr.indexAt,asIntOf,run_underlying hd,h0,hm,qbm hn,Addr.add_mid]
         ·cases hq
       next k rsz off len tip hk1=>
         rw[hk1]at hx;split at hq
         next hr=>
           obtain⟨h0,hlt,rfl⟩:=hr;cases hq;generalize hv:a.eval x=v at hx;cases hx with
           |aref _ _ _ _ _ A cap hD htip hs hlc hA=>
             obtain⟨A,rfl⟩:=Option.isSome_iff_exists.1 (hs (by omega));refine .mk (v:=.pointer (some (A.add (m.toNat*rsz)))) ?_ (.ptr _ _ _ _ _ hD htip fun e=>?_)
             · unfold execOp;rw[hop];simp[hv,hu,Instr.indexAt,asIntOf,run_underlying hd,h0,hlt,qbm hn]
             · obtain⟨h1,h2,h3,h4⟩:=hA e;have hA':=h4 (.inl (by omega));cases hA';rw[h3,Addr.add_mid,Nat.add_mul,Nat.add_zero]
         ·cases hq
       ·cases hq
     ·cases hq
   ·cases h
 ·cases h
end
end Go.AE
namespace Go.AE
open Go
section
variable {P:Program}{T:Tbl}{call:FuncId→List PV→List Obj→Option qam}{rm:Bool}{o:Oper}{e:List PV}{s s':St}{r:OR}
 {w:World}{I:Nat→Nat→Prop}{D:Nat→Prop}{ρ:Nat→Row}{nt:Nat}{a:Act}
theorem qet{sz:Nat}:∀(l:Nat)(es:List PV),(∀e∈es,e.cells.length=sz)→flat (es.drop l)=(flat es).drop (l*sz)
 |0,es,_=>by simp
 |l+1,[],_=>by simp[flat]
 |l+1,e::es,h=>by rw[List.drop_succ_cons,qet l es (fun x hx=>h x (mC0 _ hx)),qbg,Nat.succ_mul,Nat.add_comm,←List.drop_drop,←h e (by simp),List.drop_left]
theorem qes{sz:Nat}:∀(l:Nat)(es:List PV),(∀e∈es,e.cells.length=sz)→flat (es.take l)=(flat es).take (l*sz)
 |0,es,_=>by simp[flat]
 |l+1,[],_=>by simp[flat]
 |l+1,e::es,h=>by rw[List.take_succ_cons,qbg,qes l es (fun x hx=>h x (mC0 _ hx)),qbg,Nat.succ_mul,Nat.add_comm,←h e (by simp),List.take_length_add_append]
theorem qho{x:Option PV}{v:Option Value}{d y h:Nat}(hx:qd3 x d y=some h)(hv:∀p,x=some p→∃u,v=some u∧VR w I D ρ p u)(hn:x=none→v=none):
 (x=none→h=d)∧(∀u,v=some u→h≤y∧∀(y':Nat)(code:BoundsCode),y≤y'→(Instr.sliceBound u y' code).run P w=.ok h w):=by
 unfold qd3 at hx;cases x with
 |none=>simp at hx;subst hx;exact⟨fun _=>rfl,(fun u hu=>by rw[hn rfl]at hu;cases hu)⟩
 |some p=>
   obtain⟨u,rfl,hu⟩:=hv p rfl;refine⟨(fun e=>by cases e),fun u' hu'=>?_⟩;cases hu';cases hu<;>simp only at hx<;>try(cases hx;done)
   rename_i k i;split at hx
   next hr=>
     cases hx;refine⟨by omega,fun y' code hy=>?_⟩;have:i≤(y':Int):=by omega
     simp[Instr.sliceBound,asIntOf,hr.1,this]
   ·cases hx
theorem qo0(E:EnvR w I D ρ nt e a)(x:Option Operand):(∀p,oax e (x.map cx)=some p→∃u,x.map a.eval=some u∧VR w I D ρ p u)∧(oax e (x.map cx)=none→x.map a.eval=none):=by
 cases x with
 |none=>simp[oax]
 |some x=>simp[oax];exact E.eval x
theorem qhz{lo hi mx:Option Operand}(E:EnvR w I D ρ nt e a){len cap h l m:Nat}(isS:Bool)(hlc:len≤cap)
 (hm:(oax e (mx.map cx)=none∧m=cap∧qd3 (oax e (hi.map cx)) len len=some h)∨(∃mv hv,oax e (mx.map cx)=some mv∧oax e (hi.map cx)=some hv∧qd3 (some mv) 0 len=some m∧qd3 (some hv) 0 m=some h))
 (hl:qd3 (oax e (lo.map cx)) 0 h=some l):
 (Instr.sliceBounds isS len cap (lo.map a.eval) (hi.map a.eval) (mx.map a.eval)).run P w=.ok (l,h,m) w∧l≤h∧h≤len∧h≤m∧m≤cap:=by
 have El:=qo0 E lo;have Eh:=qo0 E hi;have Em:=qo0 E mx;have bl:=qho (P:=P) hl El.1 El.2
 have hlow:∀code,(match lo.map a.eval with
  |some v=>(do let l←Instr.sliceBound v h code;pure (l,h,m):Sem (Nat×Nat×Nat))
  |none=>(do let l←pure 0;pure (l,h,m))).run P w=.ok (l,h,m) w:=by
  intro code;cases hlo:lo.map a.eval with
  |none=>
    have:oax e (lo.map cx)=none:=by cases lo<;>simp[oax]at hlo⊢
    simp[bl.1 this]
  |some u=>simp[(bl.2 u hlo).2 h code (nR0 _)]
 have hlh:l≤h:=by
  cases hlo:lo.map a.eval with
  |none=>
    have:oax e (lo.map cx)=none:=by cases lo<;>simp[oax]at hlo⊢
    rw[bl.1 this];omega
  |some u=>exact(bl.2 u hlo).1
 rcases hm with⟨h1,rfl,h2⟩|⟨mv,hv,h1,h2,h3,h4⟩
 · have hmx:mx.map a.eval=none:=Em.2 h1;have bh:=qho (P:=P) h2 Eh.1 Eh.2
   have hh:h≤len:=by
    cases hhi:hi.map a.eval with
    |none=>
      have:oax e (hi.map cx)=none:=by cases hi<;>simp[oax]at hhi⊢
      rw[bh.1 this];omega
    |some u=>exact(bh.2 u hhi).1
   refine⟨?_,hlh,hh,by omega,by omega⟩;cases hhi:hi.map a.eval with
   |none=>
     have:oax e (hi.map cx)=none:=by cases hi<;>simp[oax]at hhi⊢
     have e1:=bh.1 this;subst e1;simp only[Instr.sliceBounds,hmx,Sem.run_bind,Sem.run_pure,Result.andThen_ok];exact hlow _
   |some u=>
     have hr:=(bh.2 u hhi).2 m (if isS then .sliceAcap else .sliceAlen) hlc;simp only[Instr.sliceBounds,hmx,Sem.run_bind,Sem.run_pure,Result.andThen_ok,hr];exact hlow _
 · obtain⟨um,hum,hvm⟩:=Em.1 mv h1;obtain⟨uh,huh,hvh⟩:=Eh.1 hv h2;have bm:=qho (P:=P) (w:=w) (I:=I) (D:=D) (ρ:=ρ) (v:=some um) h3 (fun p hp=>by cases hp;exact⟨um,rfl,hvm⟩) (by simp);have bh:=qho (P:=P) (w:=w) (I:=I) (D:=D) (ρ:=ρ) (v:=some uh) h4 (fun p hp=>by cases hp;exact⟨uh,rfl,hvh⟩) (by simp);have hm1:=bm.2 um rfl;have hh1:=bh.2 uh rfl;refine⟨?_,hlh,by omega,by omega,by omega⟩;simp only[Instr.sliceBounds,hum,huh,Sem.run_bind,hm1.2 cap _ hlc,hh1.2 m _ (nR0 _),Result.andThen_ok];exact hlow _
theorem q_slice{t:TypeId}{x:Operand}{lo hi mx:Option Operand}(S:Sim w I D ρ s.h)(E:EnvR w I D ρ nt e a)(hop:o.op=.slice t x lo hi mx)(h:evOp T call (qar P rm o.op) e s=some (r,s')):qei P o s s' r w I D ρ a:=by
 rw[hop]at h;simp only[qar]at h;have hx:=E.eval x;split at h
 next hd=>
   split at h
   next hmx=>
     simp only[evOp]at h;obtain⟨q,hq,rfl,rfl⟩:=qbr h;unfold strslice at hq;split at hq
     next t' hk=>
       rw[hk]at hx;split at hq
       ·cases hq
       next hh hbh=>
         split at hq
         ·cases hq
         next ll hbl=>
           cases hq;generalize hv:a.eval x=v at hx;cases hx;have hm0:mx=none:=by simpa using hmx
           subst hm0;have hb:=qhz (P:=P) (mx:=none) E (len:=t'.size) (cap:=t'.size) (h:=hh) (l:=ll) (m:=t'.size) false (nR0 _) (.inl ⟨rfl,rfl,hbh⟩) hbl;refine .mk (v:=.string (t'.extract ll hh)) ?_ (.str _);unfold execOp;rw[hop];have hb1:=hb.1;simp only[Option.map_none]at hb1;simp[hv,Instr.sliceAt,Instr.slice,run_underlying hd,hb1]
     ·cases hq
   ·cases h
 next el hd=>
   split at h
   next n hn=>
     simp only[evOp]at h;obtain⟨q,hq,rfl,rfl⟩:=qbr h;unfold qgc at hq;split at hq
     next sz' es mo hk=>
       rw[hk]at hx;split at hq
       next hsz'=>
         generalize hv:a.eval x=v at hx;cases hx with
         |slice _ _ _ A cap b oo vs hsz hm hne hcap hlen hat hvv=>
           have core:∀(l hh m:Nat)(mo':SM),l≤hh→hh≤es.length→hh≤m→m≤cap→(Instr.sliceBounds true es.length cap (lo.map a.eval) (hi.map a.eval) (mx.map a.eval)).run P w=.ok (l,hh,m) w→
            SMok D ρ (hh - l) n mo' (if m=l then A else A.map (·.add (l*n))) (m - l)→
            qei P o s' s' (.val (.slice n ((es.drop l).take (hh - l)) mo')) w I D ρ a:=by
            intro l hh m mo' h1 h2 h3 h4 hb hmo;have hlen':((es.drop l).take (hh - l)).length=hh - l:=by simp;omega
            have hsz2:∀e∈(es.drop l).take (hh - l),e.cells.length=n:=by grind
            have hrun:(Instr.sliceAt t (.slice A es.length cap) (lo.map a.eval) (hi.map a.eval) (mx.map a.eval)).run P w=.ok (.slice (if m=l then A else A.map (·.add (l*n))) (hh - l) (m - l)) w:=by simp[Instr.sliceAt,Instr.slice,run_underlying hd,hb,qbm hn]
            refine .mk (v:=.slice (if m=l then A else A.map (·.add (l*n))) (hh - l) (m - l)) (by unfold execOp;rw[hop];simp[hv,hrun]) ?_
            have hnil:(if m=l then A else A.map (·.add (l*n)))=none→m - l=0:=by
             intro h0;split at h0
             ·omega
             ·simp_all
            have key:VR w I D ρ (.slice n ((es.drop l).take (hh - l)) mo') (.slice (if m=l then A else A.map (·.add (l*n))) ((es.drop l).take (hh - l)).length (m - l)):=by
             by_cases hes:es=[]
             · subst hes;have e0:(List.take (hh - l) (List.drop l ([]:List PV)))=[]:=by simp
               rw[e0]at hlen'⊢;simp only[List.length_nil]at hlen';exact .slice n [] mo' _ _ 0 0 [] (by simp) (by rw[←hlen']at hmo;exact hmo) (by simp) ⟨by simp,hnil⟩ (by simp[flat]) (fun j v hj=>by simp at hj) (fun j=>.undef _)
             · have hn':sz'=n:=by
                rcases hsz' with h|h
                ·exact h
                ·simp at h;exact absurd h hes
               subst hn';have hfl:=qax hsz;have hft:flat ((es.drop l).take (hh - l))=((flat es).drop (l*sz')).take ((hh - l) *sz'):=by rw[qes _ _ (fun e he=>hsz e (List.mem_of_mem_drop he)),qet _ _ hsz]
               have hmul:(hh - l) *sz'≤(flat es).length - l*sz':=by rw[hfl,←Nat.sub_mul];exact Nat.mul_le_mul_right _ (by omega)
               refine .slice sz' _ mo' _ _ b (oo+l*sz') ((vs.drop (l*sz')).take ((hh - l) *sz')) hsz2 (by rw[hlen'];exact hmo) (fun hne'=>?_) ⟨by rw[hlen'];omega,hnil⟩ (by rw[hft];simp;omega) (fun j v hj=>?_) (fun j=>?_)
               · have hlt:l<hh:=by
                  rcases Nat.lt_or_ge l hh with h|h
                  ·exact h
                  ·exact absurd (List.eq_nil_of_length_eq_zero (by rw[hlen'];omega)) hne'
                 rw[if_neg (by omega),hne hes];simp[Addr.add_mid]
               · simp only[List.getElem?_take,List.getElem?_drop]at hj;split at hj
                 ·rw[Nat.add_assoc];exact hat _ _ hj
                 ·cases hj
               · rw[hft];by_cases hj:j< (hh - l) *sz'
                 ·rw[qbc _ _ _ _ _ hj,qbc _ _ _ _ _ hj];exact hvv _
                 ·rw[qaz _ j _ (by simp;omega)];exact .undef _
            rw[hlen']at key;exact key
           split at hq
           next hmx=>
             split at hq
             ·cases hq
             next hh hbh=>
               split at hq
               ·cases hq
               next ll hbl=>
                 cases hq;obtain⟨hb,h1,h2,h3,h4⟩:=qhz (P:=P) E (len:=es.length) (cap:=cap) (h:=hh) (l:=ll) (m:=cap) true hcap.1 (.inl ⟨hmx,rfl,hbh⟩) hbl;refine core ll hh cap _ h1 h2 h3 h4 hb ?_;split
                 next hhe=>
                   subst hhe;cases mo with
                   |full=>unfold SMok at hm⊢;simp only at hm⊢;omega
                   |lit=>unfold SMok at hm⊢;simp only at hm⊢;omega
                   |nil=>unfold SMok at hm⊢;simp only at hm⊢;omega
                   |tok k=>
                     simp only;split
                     next hl0=>
                       obtain⟨hl0,hszn⟩:=hl0;subst hl0
                       have hA:(if cap=0 then A else A.map (·.add (0*n)))=A:=by
                        split
                        ·rfl
                        ·cases A<;>simp[Addr.add]
                       simp only[Nat.sub_zero,Nat.zero_mul]at hA⊢;rw[hA];obtain⟨hd1,hd2,hd3,hd4⟩:=hm;refine⟨hd1,hd2,hd3,fun e=>?_⟩;obtain⟨x1,x2,x3⟩:=hd4 e;exact⟨x1,x2,hszn▸x3⟩
                     ·trivial
                   |_=>trivial
                 ·trivial
           next mv hmx=>
             split at hq
             ·cases hq
             next hv' hhi=>
               split at hq
               ·cases hq
               next mm hbm=>
                 split at hq
                 ·cases hq
                 next hh hbh=>
                   split at hq
                   ·cases hq
                   next ll hbl=>
                     cases hq;obtain⟨hb,h1,h2,h3,h4⟩:=qhz (P:=P) E (len:=es.length) (cap:=cap) (h:=hh) (l:=ll) (m:=mm) true hcap.1 (.inr ⟨mv,hv',hmx,hhi,hbm,hbh⟩) hbl;refine core ll hh mm _ h1 h2 h3 h4 hb ?_;split
                     ·rename_i e;subst e;exact rfl
                     ·trivial
       ·cases hq
     next k rsz off len tip hk=>
       rw[hk]at hx;split at hq
       ·cases hq
       next hmx=>
         split at hq
         next hr=>
           subst hr;split at hq
           ·cases hq
           next hh hbh=>
             split at hq
             ·cases hq
             next ll hbl=>
               cases hq;generalize hv:a.eval x=v at hx;cases hx with
               |aref _ _ _ _ _ A cap hD htip hs hlc hA=>
                 obtain⟨hb,g1,g2,g3,_⟩:=qhz (P:=P) E (len:=len) (cap:=cap) (h:=hh) (l:=ll) (m:=cap) true hlc.1 (.inl ⟨hmx,rfl,hbh⟩) hbl;have hrun:(Instr.sliceAt t (.slice A len cap) (lo.map a.eval) (hi.map a.eval) (mx.map a.eval)).run P w=.ok (.slice (if cap=ll then A else A.map (·.add (ll*rsz))) (hh - ll) (cap - ll)) w:=by simp[Instr.sliceAt,Instr.slice,run_underlying hd,hb,qbm hn]
                 refine .mk (v:=.slice (if cap=ll then A else A.map (·.add (ll*rsz))) (hh - ll) (cap - ll)) (by unfold execOp;rw[hop];simp[hv,hrun]) (.aref _ _ _ _ _ _ _ hD htip (fun h0=>?_) ⟨by omega,fun h0=>?_⟩ fun e=>?_)
                 · have h1:=hs (by omega);split
                   ·exact h1
                   ·simpa using h1
                 · split at h0
                   ·omega
                   · have:A=none:=by simpa using h0
                     have:=hlc.2 this;omega
                 · obtain⟨h1,h2,h3,h4⟩:=hA e;refine⟨by omega,by omega,h3,fun hor=>?_⟩;by_cases hc0:cap=ll
                   · rw[if_pos hc0];have h0:hh - ll=0:=by omega
                     have hl0:off=0∧ll=0:=by rcases hor with h|h<;>omega
                     rw[h4 (.inr hl0.1),hl0.1,hl0.2]
                   · rw[if_neg hc0];have hA':=h4 (by rcases hor with h|h<;>omega);rw[hA'];simp[Addr.add_mid,Nat.add_mul]
         ·cases hq
     ·cases hq
   ·cases h
 ·cases h
end
end Go.AE
namespace Go.AE
open Go
section
variable {P:Program}{T:Tbl}{call:FuncId→List PV→List Obj→Option qam}{rm:Bool}{o:Oper}{e:List PV}{s s':St}{r:OR}
 {w:World}{I:Nat→Nat→Prop}{D:Nat→Prop}{ρ:Nat→Row}{nt:Nat}{a:Act}
theorem qef{p:PV}{v:Value}{h:List Obj}{sz:Nat}{es:List PV}(S:Sim w I D ρ h)(hp:VR w I D ρ p v)(he:qch p h=some (sz,es)):
 ∃A cap b oo vs,v=.slice A es.length cap∧(es≠[]→A=some ⟨b,oo,none⟩)∧(∀e∈es,e.cells.length=sz)∧vs.length=(flat es).length∧w.rangeAt b oo vs∧
   (∀j,VR w I D ρ ((flat es).getD j .undef) (vs.getD j undef)):=by
 cases hp<;>simp only[qch]at he<;>try(cases he;done)
 next sz' es' m A cap b oo vs hsz hm hne hcap hlen hat hv=>
   cases he;exact⟨A,cap,b,oo,vs,rfl,hne,hsz,hlen,hat.range,hv⟩
 next k asz off len tip A cap hD htip hs hlc hA=>
   split at he
   next rsz es' hk=>
     split at he
     next hr=>
       obtain⟨rfl,hfit⟩:=hr;cases he;have hok:=S.obj k _ hD hk;obtain⟨_,_,h3,h4⟩:=hA hok.1;obtain⟨g1,g2,g3,g4,_,c,E,fr,g6,g7,_,g9⟩:=hok;have hlen:((es'.drop off).take len).length=len:=by simp;omega
       have hfl:=qax g4;have hsub:off*sz+len*sz≤es'.length*sz:=by rw[←Nat.add_mul];exact Nat.mul_le_mul_right _ hfit
       have hcap:es'.length*sz≤(ρ k).cap*sz:=Nat.mul_le_mul_right _ g3;have hft:flat ((es'.drop off).take len)=((flat es').drop (off*sz)).take (len*sz):=by rw[qes _ _ (fun e he=>g4 e (List.mem_of_mem_drop he)),qet _ _ g4]
       refine⟨A,cap,(ρ k).blk,off*sz,(c.toList.drop (off*sz)).take (len*sz),by rw[hlen],fun hne=>?_,fun e he=>g4 e (List.mem_of_mem_drop (List.mem_of_mem_take he)),?_,fun j v hj=>?_,fun j=>?_⟩
       · have hl:0<len:=by
          rcases Nat.eq_zero_or_pos len with h0|h0
          ·exact absurd (List.eq_nil_of_length_eq_zero (by rw[hlen,h0])) hne
          ·exact h0
         rw[h4 (.inl hl),←h3,g2]
       ·rw[hft];simp;omega
       · simp only[List.getElem?_take,List.getElem?_drop,Array.getElem?_toList]at hj;split at hj
         ·rw[cell_of_row w _ _ c E fr g6];exact hj
         ·cases hj
       · rw[hft];by_cases hj:j<len*sz
         ·rw[qbc _ _ _ _ _ hj,qbc _ _ _ _ _ hj];exact g9 _
         ·rw[qaz _ j _ (by simp;omega)];exact .undef _
     ·cases he
   ·cases he
theorem qlk:∀{es:List PV}{l:List UInt8},qfv es=some l→l.length=es.length∧∀j (hj:j<l.length),es.getD j .undef=.int .u8 (l[j].toNat:Int)
 |[],l,h=>by simp[qfv]at h;subst h;simp
 |x::xs,l,h=>by
   simp only[qfv]at h;split at h
   next b l' hb hl=>
     cases h;obtain⟨h1,h2⟩:=qlk hl;refine⟨by simp[h1],fun j hj=>?_⟩;cases j with
     |zero=>
       unfold unbyte at hb;split at hb
       next n=>
         split at hb
         next hr=>
           cases hb;have:(UInt8.ofNat n.toNat).toNat=n.toNat:=by simp;omega
           simp only[List.getD_cons_zero,List.getElem_cons_zero,this]
           congr 1
           omega
         ·cases hb
       ·cases hb
     |succ j=>simpa using h2 j (by simpa using hj)
   ·cases h
theorem qkg:∀{es:List PV}{l:List UInt8},qfv es=some l→flat es=es
 |[],l,_=>rfl
 |x::xs,l,h=>by
   simp only[qfv]at h;split at h
   next b l' hb hl=>
     rw[qbg,qkg hl];unfold unbyte at hb;split at hb
     ·rfl
     ·cases hb
   ·cases h
theorem q_convert{t1 t2:TypeId}{x:Operand}(S:Sim w I D ρ s.h)(E:EnvR w I D ρ nt e a)(hop:o.op=.convert t1 t2 x)(hnb:∀y,qar P rm o.op≠.bytesOf y)(h:evOp T call (qar P rm o.op) e s=some (r,s')):qei P o s s' r w I D ρ a:=by
 rw[hop]at h hnb;simp only[qar]at h hnb;have hx:=E.eval x;split at h
 next k0 k hd1 hd2=>
   simp only[evOp]at h;split at h
   next k1 n hk=>
     rw[hk]at hx;cases h;generalize hv:a.eval x=v at hx;cases hx;exact .mk (v:=.int k (k.wrap n)) (by unfold execOp;rw[hop];simp[hv,convert,run_underlying hd1,run_underlying hd2,Conv.intToInt]) (.int _ _)
   ·cases h
 next hd1 hd2=>
   simp only[evOp]at h;split at h
   next t hk=>
     rw[hk]at hx;cases h;generalize hv:a.eval x=v at hx;cases hx;exact .mk (v:=.string t) (by unfold execOp;rw[hop];simp[hv,convert,run_underlying hd1,run_underlying hd2]) (.str _)
   ·cases h
 next el hd1 hd2=>
   split at h
   ·grind
   ·cases h
 next el hd1 hd2=>
   split at h
   next hel=>
     simp only[evOp]at h;split at h
     next sz es hes=>
       obtain⟨q,hq,rfl,rfl⟩:=qbr h;simp only[oM0]at hq;obtain⟨l,hl,rfl⟩:=hq;obtain⟨A,cap,b,oo,vs,hv,hne,hsz,hlen,hat,hvs⟩:=qef S hx hes;obtain⟨hl1,hl2⟩:=qlk hl;have hff:=qkg hl;refine .mk (v:=.string ⟨l.toArray⟩) ?_ (.str _);unfold execOp;rw[hop];by_cases hnil:es=[]
       · subst hnil;have hl0:l=[]:=List.eq_nil_of_length_eq_zero (by simpa using hl1);subst hl0;cases A with
         |none=>simp[hv,run_convert_bytes_nil w t1 el hd1 hel 0 cap t2 hd2];rfl
         |some A=>
           have:=run_convert_bytes_back (P:=P) w t1 t2 el A cap [] hd1 hel hd2 (by simp);simp only[List.length_nil]at this;simp[hv,this]
       · have hA:=hne hnil;subst hA
         have:=run_convert_bytes_back (P:=P) w t1 t2 el ⟨b,oo,none⟩ cap l hd1 hel hd2 (fun j hj=>by
          rw[Addr.add_mid];have h1:=hvs j;rw[hff,hl2 j hj]at h1;have hj':j<vs.length:=by rw[hlen,hff];omega
          have h2:=hat j _ (gE0 hj');rw[h2];rw[gD0,gE0 hj']at h1;simp only[Option.getD_some]at h1;generalize vs[j]=u at h1⊢;cases h1;rfl)
         rw[hl1]at this;simp[hv,this]
     ·cases h
   ·cases h
 ·cases h
end
end Go.AE
namespace Go.AE
open Go
section
variable {P:Program}{T:Tbl}{call:FuncId→List PV→List Obj→Option qam}{rm:Bool}{o:Oper}{e:List PV}{s s':St}{r:OR}
 {w:World}{I:Nat→Nat→Prop}{D:Nat→Prop}{ρ:Nat→Row}{nt:Nat}{a:Act}
theorem qfo{t:TypeId}{kk:KK}(h:qg6 (P.underlying t)=some kk):
 ∃d,P.underlying t=some d∧((kk=.int∧∃k,d=.int k)∨(kk=.str∧d=.string)∨(kk=.bool∧d=.bool)):=by
 unfold qg6 at h
 split at h<;>first
  |(cases h;done)
  |(cases h;rename_i hd;exact⟨_,hd,by simp⟩)
theorem qep{t:TypeId}{kk:KK}(h:qg6 (P.underlying t)=some kk)(b:Bool)(n:Nat)(v:Value)(w:World):(Instr.checkKey b (n+1) t v).run P w=.ok () w:=by obtain⟨d,hd,hk⟩:=qfo h;rcases hk with⟨_,k,rfl⟩|⟨_,rfl⟩|⟨_,rfl⟩<;>simp[Instr.checkKey,run_underlying hd]
theorem qgd{t:TypeId}{kk:KK}{d:TypeDesc}(hd:P.underlying t=some d)(h:qg6 (P.underlying t)=some kk){p q:PV}{v u:Value}(hp:qe3 kk p=true)(hv:VR w I D ρ p v)(hu:VR w I D ρ q u){b:Bool}
 (hs:qex p q=some b):Instr.sameNow d v u=some b:=by
 obtain⟨d',hd',hk⟩:=qfo h;have:d'=d:=by rw[hd]at hd';exact(Option.some.inj hd').symm
 subst this;unfold qex at hs;split at hs
 · cases hv;cases hu;rcases hk with⟨rfl,k,rfl⟩|⟨rfl,rfl⟩|⟨rfl,rfl⟩<;>simp[qe3]at hp
   split at hs
   ·rename_i hkk;cases hs;simp[Instr.sameNow,hkk]
   ·cases hs
 · cases hv;cases hu;rcases hk with⟨rfl,k,rfl⟩|⟨rfl,rfl⟩|⟨rfl,rfl⟩<;>simp[qe3]at hp
   cases hs;rfl
 · cases hv;cases hu;rcases hk with⟨rfl,k,rfl⟩|⟨rfl,rfl⟩|⟨rfl,rfl⟩<;>simp[qe3]at hp
   cases hs;rfl
 ·cases hs
theorem qmc{t:TypeId}{kk:KK}{d:TypeDesc}(hd:P.underlying t=some d)(h:qg6 (P.underlying t)=some kk){p:PV}{v:Value}(hp:qe3 kk p=true)(hv:VR w I D ρ p v):
 ∀(es:List (PV×PV))(ents:List MapEntry)(i:Nat)(r:Option PV),ents.length=es.length→
   (∀j,VR w I D ρ (es.getD j (.undef,.undef)).1 (ents.getD j default).key∧VR w I D ρ (es.getD j (.undef,.undef)).2 (ents.getD j default).val)→qky p es=some r→
   (r=none→Instr.findNow d v ents i=some none)∧(∀q,r=some q→∃j u,Instr.findNow d v ents i=some (some (i+j,u))∧j<es.length∧VR w I D ρ q u)
 |[],ents,i,r,hl,_,hf=>by
   have:ents=[]:=List.eq_nil_of_length_eq_zero (by simpa using hl);subst this;simp[qky]at hf;subst hf;exact⟨fun _=>rfl,(fun q hq=>by cases hq)⟩
 |(k,x)::es,[],i,r,hl,_,_=>by simp at hl
 |(k,x)::es,en::ents,i,r,hl,hes,hf=>by
   have h0:=hes 0;simp only[List.getD_cons_zero]at h0;simp only[qky]at hf;split at hf
   next hs=>
     cases hf;have hn:=qgd (P:=P) hd h hp hv h0.1 hs;refine⟨(fun e=>by cases e),fun q hq=>?_⟩;cases hq;exact⟨0,en.val,by simp[Instr.findNow,hn],by simp,h0.2⟩
   next hs=>
     have hn:=qgd (P:=P) hd h hp hv h0.1 hs;have ih:=qmc hd h hp hv es ents (i+1) r (by simpa using hl) (fun j=>by simpa using hes (j+1)) hf;refine⟨fun e=>by simpa[Instr.findNow,hn]using ih.1 e,fun q hq=>?_⟩;obtain⟨j,u,h1,h2,h3⟩:=ih.2 q hq;exact⟨j+1,u,by simp only[Instr.findNow,hn,h1];congr 3;omega,by simpa using h2,h3⟩
   ·cases hf
theorem q_lookup{t:TypeId}{m i:Operand}{ok:Bool}(S:Sim w I D ρ s.h)(E:EnvR w I D ρ nt e a)(hop:o.op=.lookup t m i ok)(h:evOp T call (qar P rm o.op) e s=some (r,s')):qei P o s s' r w I D ρ a:=by
 rw[hop]at h;simp only[qar]at h;split at h
 next kt et hd=>
   split at h
   next kk z hkk hz=>
     obtain⟨zi,zv,hzi,hzv,hzz,_,_⟩:=qd6 hz;obtain⟨d,hkd,_⟩:=qfo hkk;have hvz:VR w I D ρ z zv:=qkv hzz;simp only[evOp]at h;have hm:=E.eval m;have hi:=E.eval i
     have pair:∀(q:PV)(u:Value)(b:Bool),VR w I D ρ q u→VR w I D ρ (if ok then .tuple [q,.bool b]else q) (if ok then .tuple #[u,.bool b]else u):=by
      intro q u b hq;cases ok
      ·exact hq
      · refine .tuple _ _ rfl fun j=>?_;cases j with
        |zero=>exact hq
        |succ j=>cases j with
          |zero=>exact .bool b
          |succ j=>exact .undef _
     split at h
     next hk=>
       rw[hk]at hm;split at h
       next hkey=>
         cases h;generalize hv:a.eval m=v at hm;cases hm;refine .mk (v:=if ok then .tuple #[zv,.bool false]else zv) ?_ (pair z zv false hvz);unfold execOp;rw[hop];simp[hv,Instr.lookup,run_underlying hd,qep hkk,Instr.findKey,run_underlying hkd,Instr.findNow,qcf hzi hzv]
       ·cases h
     next k hk=>
       rw[hk]at hm;split at h
       next es hes=>
         split at h
         next hkey=>
           generalize hv:a.eval m=v at hm;cases hm with
           |map _ rr hD hrr=>
             have hok:=S.obj k _ hD hes;obtain⟨g1,_,ents,clock,g3,g4,g5⟩:=hok;have hrr':=hrr g1;subst hrr';have hobj:(getObj (ρ k).blk).run P w=.ok (.map ents clock) w:=by simp[getObj,Sem.run,g3]
             split at h
             next q hf=>
               cases h;obtain⟨j,u,h1,_,h3⟩:=(qmc (P:=P) hkd hkk hkey hi es ents.toList 0 _ (by simpa using g4) g5 hf).2 q rfl;refine .mk (v:=if ok then .tuple #[u,.bool true]else u) ?_ (pair q u true h3);unfold execOp;rw[hop];simp[hv,Instr.lookup,run_underlying hd,hobj,qep hkk,Instr.findKey,run_underlying hkd,h1]
             next hf=>
               cases h;have h1:=(qmc (P:=P) hkd hkk hkey hi es ents.toList 0 _ (by simpa using g4) g5 hf).1 rfl;refine .mk (v:=if ok then .tuple #[zv,.bool false]else zv) ?_ (pair z zv false hvz);unfold execOp;rw[hop];simp[hv,Instr.lookup,run_underlying hd,hobj,qep hkk,Instr.findKey,run_underlying hkd,h1,qcf hzi hzv]
             ·grind
         ·cases h
       ·cases h
     ·cases h
   ·cases h
 ·cases h
theorem qqi{x:Operand}{xt t:TypeId}{ok:Bool}(E:EnvR w I D ρ nt e a)(hop:o.op=.typeAssert x xt t ok)(h:evOp T call (qar P rm o.op) e s=some (r,s')):qei P o s s' r w I D ρ a:=by
 rw[hop]at h;simp only[qar]at h;have hx:=E.eval x
 have pair:∀(q:PV)(u:Value)(b:Bool),VR w I D ρ q u→VR w I D ρ (.tuple [q,.bool b]) (.tuple #[u,.bool b]):=by
  intro q u b hq;refine .tuple _ _ rfl fun j=>?_;cases j with
  |zero=>exact hq
  |succ j=>cases j with
    |zero=>exact .bool b
    |succ j=>exact .undef _
 split at h
 ·cases h
 ·cases h
 next d z hni hd hz=>
   obtain⟨zi,zv,hzi,hzv,hzz,hzs,hzu⟩:=qd6 hz;have hvz:VR w I D ρ z zv:=qkv hzz;have hni':∀ms,d≠.interface ms:=by omega
   simp only[evOp]at h;split at h
   next t' q hk=>
     rw[hk]at hx;generalize hv:a.eval x=v at hx;cases hx with
     |iface _ _ u hu=>
       split at h
       next he=>
         subst he;cases h;cases ok
         · refine .mk (v:=u) ?_ hu;unfold execOp;rw[hop];cases d<;>simp_all [Instr.typeAssert,run_underlying hd]
         · refine .mk (v:=.tuple #[u,.bool true]) ?_ (pair q u true hu);unfold execOp;rw[hop];cases d<;>simp_all [Instr.typeAssert,run_underlying hd]
       next he=>
         split at h
         next hok=>
           cases h;refine .mk (v:=.tuple #[zv,.bool false]) ?_ (pair z zv false hvz);unfold execOp;rw[hop];cases d<;>simp_all [Instr.typeAssert,run_underlying hd,qcf hzi hzv]
         ·cases h
   next hk=>
     rw[hk]at hx;generalize hv:a.eval x=v at hx;cases hx;split at h
     next hok=>
       cases h;refine .mk (v:=.tuple #[zv,.bool false]) ?_ (pair z zv false hvz);unfold execOp;rw[hop];cases d<;>simp_all [Instr.typeAssert,run_underlying hd,qcf hzi hzv]
     ·cases h
   ·cases h
 ·cases h
end
end Go.AE
namespace Go.AE
open Go
def ext(D:Nat→Prop)(n n':Nat):Nat→Prop:=fun k=>D k∨(n≤k∧k<n')
theorem qay(D:Nat→Prop)(n:Nat):ext D n n=D:=by
 funext k
 apply propext;exact⟨fun h=>by rcases h with h|h;exact h;omega,.inl⟩
theorem qg8(D:Nat→Prop){n m l:Nat}(h1:n≤m)(h2:m≤l):ext (ext D n m) m l=ext D n l:=by
 funext k
 apply propext;constructor
 · rintro((h|h)|h)
   ·exact .inl h
   ·exact .inr (by omega)
   ·exact .inr (by omega)
 · rintro(h|h)
   ·exact .inl (.inl h)
   · by_cases hk:k<m
     ·exact .inl (.inr (by omega))
     ·exact .inr (by omega)
def upd1(ρ:Nat→Row)(n:Nat)(r:Row):Nat→Row:=fun k=>if k=n then r else ρ k
theorem qap(ρ:Nat→Row)(n:Nat)(r:Row):upd1 ρ n r n=r:=by simp[upd1]
theorem qcs(ρ:Nat→Row)(n:Nat)(r:Row){k:Nat}(h:k≠n):upd1 ρ n r k=ρ k:=by simp[upd1,h]
def qd2(I:Nat→Nat→Prop)(B:Nat)(J:Nat→Prop):Nat→Nat→Prop:=fun b x=>I b x∨(b=B∧J x)
section
variable {P:Program}{w:World}{I:Nat→Nat→Prop}{D:Nat→Prop}{ρ:Nat→Row}{h:List Obj}
theorem Nxt.drew:Nxt w I D ρ w.drew I D ρ:=
 ⟨rfl,⟨rfl,Nat.le_succ _⟩,rfl,nR0 _,fun _ _ _=>rfl,fun _ _ h=>h,fun _ _ _=>rfl,fun _ _ h=>.inl h,fun _ h=>h,fun _ _=>⟨nR0 _,fun _=>rfl⟩,fun _ _=>.inl rfl,fun _ h h'=>absurd h h'⟩
theorem VR.same{w':World}(hh:w'.heap=w.heap){p:PV}{v:Value}(hv:VR w I D ρ p v):VR w' I D ρ p v:=
 hv.carry (fun b o hi=>⟨hi,by unfold World.cell?;rw[hh]⟩) (fun _ h=>h) (fun _ _=>⟨nR0 _,fun _=>rfl⟩)
theorem Sim.same{w':World}(S:Sim w I D ρ h)(hh:w'.heap=w.heap):Sim w' I D ρ h where
 lt:=S.lt
 obj k o hk ho:=(S.obj k o hk ho).carry (fun b o hi=>⟨hi,by unfold World.cell?;rw[hh]⟩) (fun _ h=>h) (fun _ _=>⟨nR0 _,fun _=>rfl⟩) rfl (by rw[hh]) (fun _ h=>h)
 inj:=S.inj
 imm b o hi:=by rw[hh];exact S.imm b o hi
theorem qew(S:Sim w I D ρ h)(ob:Go.Obj)(J:Nat→Prop)(n':Nat)(row:Row)(hrow:row.blk=w.heap.size)(hn:n'=h.length∨n'=h.length+1):
 Nxt w I D ρ (w.alloc ob) (qd2 I w.heap.size J) (ext D h.length n') (upd1 ρ h.length row):=by
 have hne:∀k,D k→upd1 ρ h.length row k=ρ k:=fun k hk=>qcs ρ _ row (by have:=S.lt k hk;omega);refine⟨rfl,⟨rfl,nR0 _⟩,rfl,by simp,fun b hb _=>heap_alloc_old w ob b hb,fun b o hi=>.inl hi,fun b o hi=>?_,fun b o hi=>?_,fun k hk=>.inl hk,fun k hk=>?_,fun k hk=>?_,fun k hk hd=>?_⟩
 ·exact World.cell?_alloc_lt _ _ _ (S.imm b o hi)
 · rcases hi with hi|⟨rfl,_⟩
   ·exact .inl hi
   ·omega
 ·grind
 ·grind
 · rcases hk with hk|hk
   ·grind
   · have:k=h.length:=by omega
     subst this;rw[qap,hrow];exact nR0 _
theorem qjm(S:Sim w I D ρ h)(ob:Go.Obj)(J:Nat→Prop)(row:Row)(D':Nat→Prop)(hD:∀k,D k→D' k)(k:Nat)(o:Obj)(hk:D k)(ho:h[k]?=some o):
 OK (w.alloc ob) (qd2 I w.heap.size J) D' (upd1 ρ h.length row) k o:=by
 have hne:∀k,D k→upd1 ρ h.length row k=ρ k:=fun k hk=>qcs ρ _ row (by have:=S.lt k hk;omega);have hb:=S.blk_lt k hk;refine(S.obj k o hk ho).carry (fun b o hi=>⟨.inl hi,World.cell?_alloc_lt _ _ _ (S.imm b o hi)⟩) hD (fun k hk=>by rw[hne k hk];exact⟨nR0 _,fun _=>rfl⟩) (hne k hk) (heap_alloc_old w ob _ hb) (fun x hx=>?_);rcases hx with hx|⟨hx,_⟩
 ·exact hx
 ·omega
theorem qmw(S:Sim w I D ρ h)(ob:Go.Obj)(J:Nat→Prop)(row:Row)(hrow:row.blk=w.heap.size):
 Sim (w.alloc ob) (qd2 I w.heap.size J) (ext D h.length h.length) (upd1 ρ h.length row) h where
 lt k hk:=by rcases hk with hk|hk;exact S.lt k hk;omega
 obj k o hk ho:=by
  rcases hk with hk|hk
  ·exact qjm S ob J row _ (fun _ h=>.inl h) k o hk ho
  ·omega
 inj k k' hk hk' he:=by
  rcases hk with hk|hk
  · rcases hk' with hk'|hk'
    · rw[qcs ρ _ row (by have:=S.lt k hk;omega),qcs ρ _ row (by have:=S.lt k' hk';omega)]at he;exact S.inj k k' hk hk' he
    ·omega
  ·omega
 imm b o hi:=by
  rcases hi with hi|⟨rfl,_⟩
  ·have:=S.imm b o hi;simp;omega
  ·simp
theorem qfj(S:Sim w I D ρ h)(ob:Go.Obj)(J:Nat→Prop)(row:Row)(hrow:row.blk=w.heap.size)(o:Obj)
 (hok:OK (w.alloc ob) (qd2 I w.heap.size J) (ext D h.length (h.length+1)) (upd1 ρ h.length row) h.length o):
 Sim (w.alloc ob) (qd2 I w.heap.size J) (ext D h.length (h.length+1)) (upd1 ρ h.length row) (h++[o])where
 lt k hk:=by
  rcases hk with hk|hk
  ·have:=S.lt k hk;simp;omega
  ·simp;omega
 obj k o' hk ho:=by
  rcases hk with hk|hk
  · have hlt:=S.lt k hk;rw[gL0 hlt]at ho;exact qjm S ob J row _ (fun _ h=>.inl h) k o' hk ho
  ·grind
 inj k k' hk hk' he:=by
  have old:∀k,D k→(upd1 ρ h.length row k).blk<w.heap.size:=fun k hk=>by rw[qcs ρ _ row (by have:=S.lt k hk;omega)];exact S.blk_lt k hk
  have new:∀k,h.length≤k∧k<h.length+1→k=h.length∧(upd1 ρ h.length row k).blk=w.heap.size:=fun k hk=>by
   have:k=h.length:=by omega
   subst this;rw[qap];exact⟨rfl,hrow⟩
  rcases hk with hk|hk<;>rcases hk' with hk'|hk'
  · rw[qcs ρ _ row (by have:=S.lt k hk;omega),qcs ρ _ row (by have:=S.lt k' hk';omega)]at he;exact S.inj k k' hk hk' he
  ·grind
  ·grind
  ·omega
 imm b o hi:=by
  rcases hi with hi|⟨rfl,_⟩
  ·have:=S.imm b o hi;simp;omega
  ·simp
structure BlockSet (w:World)(B:Nat)(ob:Go.Obj)(w':World):Prop where
 os:w'.os=w.os
 tape:w'.tape=w.tape∧w.drawn≤w'.drawn
 output:w'.output=w.output
 size:w'.heap.size=w.heap.size
 old:∀b,b≠B→w'.heap[b]?=w.heap[b]?
 new:w'.heap[B]?=some ob
theorem qf9{w':World}{ob:Go.Obj}{k:Nat}(S:Sim w I D ρ h)(hk:D k)(hw:BlockSet w (ρ k).blk ob w')(J:Nat→Prop)(row:Row)(hb:row.blk=(ρ k).blk)(hl:(ρ k).len≤row.len)(he:row.len=(ρ k).len→row=ρ k)
 (hI:∀x,I (ρ k).blk x→w'.cell? ⟨(ρ k).blk,x,none⟩=w.cell? ⟨(ρ k).blk,x,none⟩)(n:Nat):
 Nxt w I D ρ w' (qd2 I (ρ k).blk J) (ext D n n) (upd1 ρ k row):=by
 refine⟨hw.os,hw.tape,hw.output,by rw[hw.size];exact nR0 _,fun b _ hb=>hw.old b (hb k hk),fun b o hi=>.inl hi,fun b o hi=>?_,fun b o hi=>?_,fun j hj=>.inl hj,fun j hj=>?_,fun j hj=>?_,fun j hj hd=>?_⟩
 · by_cases hbb:b=(ρ k).blk
   ·grind
   ·unfold World.cell?;rw[show w'.heap[b]?=w.heap[b]? from hw.old b hbb]
 · rcases hi with hi|⟨rfl,_⟩
   ·exact .inl hi
   ·grind
 · by_cases hjk:j=k
   ·subst hjk;rw[qap];exact⟨hl,he⟩
   ·rw[qcs ρ k row hjk];exact⟨nR0 _,fun _=>rfl⟩
 · by_cases hjk:j=k
   ·subst hjk;rw[qap];exact .inl hb
   ·rw[qcs ρ k row hjk];exact .inl rfl
 · rcases hj with hj|hj
   ·grind
   ·omega
theorem qhg{w':World}{ob:Go.Obj}{k:Nat}(S:Sim w I D ρ h)(hk:D k)(hw:BlockSet w (ρ k).blk ob w')(J:Nat→Prop)(row:Row)(hb:row.blk=(ρ k).blk)(hl:(ρ k).len≤row.len)(he:row.len=(ρ k).len→row=ρ k)
 (hI:∀x,I (ρ k).blk x→w'.cell? ⟨(ρ k).blk,x,none⟩=w.cell? ⟨(ρ k).blk,x,none⟩)(o:Obj)(n:Nat)
 (hok:OK w' (qd2 I (ρ k).blk J) (ext D n n) (upd1 ρ k row) k o):Sim w' (qd2 I (ρ k).blk J) (ext D n n) (upd1 ρ k row) (h.set k o):=by
 have N:=qf9 S hk hw J row hb hl he hI n;have hD:∀j,ext D n n j→D j:=fun j hj=>by rw[qay]at hj;exact hj
 refine⟨fun j hj=>by simpa using S.lt j (hD j hj),fun j o' hj ho=>?_,fun j j' hj hj' hee=>?_,fun b x hi=>?_⟩
 · by_cases hjk:j=k
   ·grind
   · rw[List.getElem?_set_ne (fun e=>hjk e.symm)]at ho;have hne:(ρ j).blk≠(ρ k).blk:=fun e=>hjk (S.inj j k (hD j hj) hk e);refine(S.obj j o' (hD j hj) ho).carry (fun b x hi=>⟨N.immI b x hi,N.immC b x hi⟩) N.dom N.rho (qcs ρ k row hjk) (hw.old _ hne) (fun x hx=>?_);rcases hx with hx|⟨hx,_⟩
     ·exact hx
     ·omega
 · have e1:∀j,(upd1 ρ k row j).blk=(ρ j).blk:=fun j=>by
    by_cases hjk:j=k
    ·subst hjk;rw[qap,hb]
    ·rw[qcs ρ k row hjk]
   rw[e1,e1]at hee;exact S.inj j j' (hD j hj) (hD j' hj') hee
 · rw[hw.size];rcases hi with hi|⟨rfl,_⟩
   ·exact S.imm b x hi
   ·exact S.blk_lt k hk
theorem qi6(w:World)(B i:Nat)(v:Value)(c:Array Value)(E:TypeId)(fr:Nat×Nat)(hc:w.heap[B]?=some (.cells c E fr)):(w.setCell ⟨B,i,none⟩ v).heap[B]?=some (.cells (c.setIfInBounds i v) E fr):=by simp[World.setCell,Array.getElem?_modify,hc]
theorem qck(B:Nat)(E:TypeId)(fr:Nat×Nat):∀(vs:List Value)(o:Nat)(w:World)(c:Array Value),w.heap[B]?=some (.cells c E fr)→o+vs.length≤c.size→
 ∃c':Array Value,BlockSet w B (.cells c' E fr) (w.setCells B o vs)∧c'.size=c.size∧c'.toList=c.toList.take o++vs++c.toList.drop (o+vs.length)
 |[],o,w,c,hc,_=>⟨c,⟨rfl,⟨rfl,nR0 _⟩,rfl,rfl,fun _ _=>rfl,hc⟩,rfl,by simp⟩
 |v::vs,o,w,c,hc,hl=>by
   simp only[List.length_cons]at hl;obtain⟨c',hb,hs,hl'⟩:=qck B E fr vs (o+1) (w.setCell ⟨B,o,none⟩ v) (c.setIfInBounds o v) (qi6 w B o v c E fr hc) (by simp;omega);refine⟨c',⟨hb.os.trans rfl,⟨hb.tape.1.trans rfl,hb.tape.2⟩,hb.output.trans rfl,hb.size.trans (by simp),fun b hne=>(hb.old b hne).trans (heap_setCell_other w ⟨B,o,none⟩ b v hne),hb.new⟩,by simpa using hs,?_⟩;rw[hl'];simp only[Array.toList_setIfInBounds];have hlt:o<c.toList.length:=by simp;omega
   apply List.ext_getElem?;intro j;simp only[List.getElem?_append,lA0,lT0,List.length_set,List.getElem?_take,List.getElem?_drop,List.getElem?_set,Array.length_toList,List.length_cons];have m1:min (o+1) c.size=o+1:=by omega
   have m2:min o c.size=o:=by omega
   rw[m1,m2];by_cases h1:j<o
   ·grind
   ·grind
end
end Go.AE
namespace Go.AE
open Go
section
variable {P:Program}{T:Tbl}{call:FuncId→List PV→List Obj→Option qam}{rm:Bool}{o:Oper}{e:List PV}{s s':St}{r:OR}
 {w:World}{I:Nat→Nat→Prop}{D:Nat→Prop}{ρ:Nat→Row}{nt:Nat}{a:Act}
def qhh(P:Program)(o:Oper)(s s':St)(r:OR)(w:World)(I:Nat→Nat→Prop)(D:Nat→Prop)(ρ:Nat→Row)(a:Act):Prop:=
 ∃p v w' I' ρ',r=.val p∧((execOp a.eval o).run P w=.ok (.value v) w'∨((execOp a.eval o).run P w=.ok .skip w'∧v=undef))∧
   Nxt w I D ρ w' I' (ext D s.h.length s'.h.length) ρ'∧Sim w' I' (ext D s.h.length s'.h.length) ρ' s'.h∧VR w' I' (ext D s.h.length s'.h.length) ρ' p v
theorem qei.moves(S:Sim w I D ρ s.h)(q:qei P o s s' r w I D ρ a):qhh P o s s' r w I D ρ a:=by obtain⟨rfl,p,v,rfl,hr,hv⟩:=q;refine⟨p,v,w,I,ρ,rfl,.inl hr,?_⟩;rw[qay];exact⟨Nxt.refl _ _ _ _,S,hv⟩
theorem qcn(n:Nat):qkz (0,0) n:=fun j _=>by simp
theorem qru{sz:Nat}{p:PV}{v:Value}{t:TypeId}(S:Sim w I D ρ s.h)(hv:VR w I D ρ p v)(hd:p≠.undef)(hsz:p.cells.length=sz)
 (hr:(execOp a.eval o).run P w=.ok (.value (.pointer (some ⟨w.heap.size,0,none⟩))) (w.alloc (.cells v.cells t))):
 qhh P o s (alloc (.row sz [p]) s) (.val (.ptr s.h.length 0 0 1)) w I D ρ a:=by
 obtain⟨hc1,hc2⟩:=hv.cellsAt hd
 let row:Row:=⟨w.heap.size,1,sz,1⟩
 have hlen:(alloc (.row sz [p]) s).h.length=s.h.length+1:=by simp[alloc]
 have N:=qew S (.cells v.cells t) (fun _=>False) (s.h.length+1) row rfl (.inr rfl);refine⟨_,_,w.alloc (.cells v.cells t),qd2 I w.heap.size (fun _=>False),upd1 ρ s.h.length row,rfl,.inl hr,?_⟩;rw[hlen];refine⟨N,qfj S _ _ row rfl _ ?_,.ptr _ 0 0 1 _ (.inr (by omega)) (by rw[qap];exact nR0 _) (fun _=>by rw[qap];simp[row])⟩;unfold OK;rw[qap];refine⟨rfl,rfl,by simp[row],fun e he=>by simp at he;subst he;exact hsz,fun x hx=>?_,v.cells,t,(0,0),heap_alloc_new w _,by simp[row];omega,qcn _,fun j=>?_⟩
 · rcases hx with hx|⟨_,hx⟩
   ·exact absurd (S.imm _ x hx) (by simp[row])
   ·exact hx
 · have e1:flat [p]=p.cells:=by simp[flat]
   rw[e1];exact(hc2 j).next N
theorem m_box{t:TypeId}{x:Operand}(S:Sim w I D ρ s.h)(E:EnvR w I D ρ nt e a)(hop:o.op=.box t x)(h:evOp T call (qar P rm o.op) e s=some (r,s')):qhh P o s s' r w I D ρ a:=by
 rw[hop]at h;simp only[qar]at h;split at h
 next n hn=>
   simp only[evOp]at h;split at h
   next hc=>
     cases h;refine qru (t:=t) S (E.eval x) (by rintro he;rw[he]at hc;simp[PV.isDef]at hc) hc.1 ?_;unfold execOp;rw[hop];simp[Instr.box,newVar,newRow]
   ·cases h
 ·cases h
theorem m_alloc{t:TypeId}(S:Sim w I D ρ s.h)(hop:o.op=.alloc t)(h:evOp T call (qar P rm o.op) e s=some (r,s')):qhh P o s s' r w I D ρ a:=by
 rw[hop]at h;simp only[qar]at h;split at h
 next z hz=>
   obtain⟨zi,zv,hzi,hzv,hzz,_,hzu⟩:=qd6 hz;simp only[evOp,ax]at h;split at h
   · cases h;refine qru (t:=t) S (qkv hzz) hzu rfl ?_;unfold execOp;rw[hop];simp[Instr.alloc,newVar,newRow,qcf hzi hzv]
   ·cases h
 ·cases h
theorem m_makeMap{t:TypeId}{rs:Option Operand}(S:Sim w I D ρ s.h)(hop:o.op=.makeMap t rs)(h:evOp T call (qar P rm o.op) e s=some (r,s')):qhh P o s s' r w I D ρ a:=by
 rw[hop]at h;cases rs with
 |some x=>simp only[qar]at h;cases h
 |none=>
   simp only[qar,evOp]at h;cases h
   let row:Row:=⟨w.heap.size,0,0,0⟩
   have hlen:(alloc (.map []) s).h.length=s.h.length+1:=by simp[alloc]
   refine⟨_,.map (some w.heap.size),w.alloc (.map #[] 0),qd2 I w.heap.size (fun _=>False),upd1 ρ s.h.length row,rfl,.inl ?_,?_⟩
   ·unfold execOp;rw[hop];simp[Instr.makeMap]
   · rw[hlen];refine⟨qew S _ _ _ row rfl (.inr rfl),qfj S _ _ row rfl _ ?_,.map _ _ (.inr (by omega)) (fun _=>by rw[qap])⟩;unfold OK;rw[qap];refine⟨rfl,fun x hx=>?_,#[],0,heap_alloc_new w _,rfl,fun j=>⟨.undef _,.undef _⟩⟩;rcases hx with hx|⟨_,hx⟩
     ·exact absurd (S.imm _ x hx) (by simp[row])
     ·exact hx
theorem qmf{sz:Nat}:∀(l:List (Nat×PV))(parts:List (Nat×Value))(es es':List PV)(cells:Array Value),l.length=parts.length→
 (∀(j i:Nat)(v:Value),parts[j]?=some (i,v)→∃p:PV,l[j]?=some (i,p)∧VR w I D ρ p v)→(∀e∈es,e.cells.length=sz)→cells.size=(flat es).length→
 (∀j,VR w I D ρ ((flat es).getD j .undef) (cells.toList.getD j undef))→qda sz es l=some es'→
 ∃cells',Instr.fill (fun i=>some (i*sz,sz)) cells parts=some cells'∧cells'.size=(flat es').length∧es'.length=es.length∧(∀e∈es',e.cells.length=sz)∧∀j,VR w I D ρ ((flat es').getD j .undef) (cells'.toList.getD j undef)
 |[],parts,es,es',cells,hl,_,hsz,hcs,hv,hf=>by
   have:parts=[]:=List.eq_nil_of_length_eq_zero (by simpa using hl.symm);subst this;simp[qda]at hf;subst hf;exact⟨cells,rfl,hcs,rfl,hsz,hv⟩
 |(i,p)::l,[],es,es',cells,hl,_,_,_,_,_=>by simp at hl
 |(i,p)::l,(i',v)::parts,es,es',cells,hl,hp,hsz,hcs,hv,hf=>by
   obtain⟨p',h1,h2⟩:=hp 0 i' v (by simp);simp at h1;obtain⟨rfl,rfl⟩:=h1;simp only[qda]at hf;split at hf
   next hc=>
     obtain⟨hc1,hc2,hc3⟩:=hc;have hca:=h2.cellsAt (by rintro rfl;simp[PV.isDef]at hc3);have hfl:=qax hsz;have hfit:i*sz+sz≤es.length*sz:=by have:(i+1) *sz≤es.length*sz:=Nat.mul_le_mul_right _ (by omega);rw[Nat.succ_mul]at this;exact this
     have hvs:v.cells.size=sz:=by rw[hca.1,hc1]
     have hfold:=qra v.cells.toList cells (i*sz) 0 (by simp;omega);simp only[Nat.add_zero,Array.length_toList]at hfold;have hz:(v.cells.zipIdx.foldl (fun cs (x:Value×Nat)=>cs.setIfInBounds (i*sz+x.2) x.1) cells).toList=cells.toList.take (i*sz)++v.cells.toList++cells.toList.drop (i*sz+v.cells.toList.length):=by rw[←Array.foldl_toList];simpa using hfold
     have hset:flat (es.set i p)=(flat es).take (i*sz)++p.cells++(flat es).drop (i*sz+sz):=by rw[List.set_eq_take_append_cons_drop,if_pos hc2,qdl,qbg,qes _ _ hsz,qet _ _ hsz,Nat.succ_mul,List.append_assoc]
     have hsz':∀e∈es.set i p,e.cells.length=sz:=fun e he=>by
      rcases List.mem_or_eq_of_mem_set he with he|he
      ·grind
      ·grind
     have ih:=qmf l parts (es.set i p) es' (v.cells.zipIdx.foldl (fun cs (x:Value×Nat)=>cs.setIfInBounds (i*sz+x.2) x.1) cells)
      (by simpa using hl) (fun j i' v' hj=>by simpa using hp (j+1) i' v' (by simpa using hj)) hsz' (by
       rw[qax hsz',←Array.length_toList,hz];simp only[lA0,lT0,List.length_drop,Array.length_toList,List.length_set];omega) (fun j=>by
       rw[hz,hset];have e1:=qcg (flat es) p.cells (i*sz) j .undef (by rw[hfl,hc1];exact hfit);have e2:=qcg cells.toList v.cells.toList (i*sz) j undef (by simp;omega);rw[hc1]at e1;rw[e1,e2];simp only[Array.length_toList,hvs];split
       ·exact hv j
       · split
         ·exact hca.2 _
         ·exact hv j) hf
     obtain⟨cells',g1,g2,g3,g4,g5⟩:=ih;refine⟨cells',?_,g2,by simpa using g3,g4,g5⟩;simp only[Instr.fill];rw[if_neg (by simp;omega)];exact g1
   ·cases hf
theorem qm4{sz:Nat}(z:PV)(hz:z.cells.length=sz)(hpos:0<sz):∀(n j:Nat),j<n*sz→(flat (List.replicate n z)).getD j .undef=z.cells.getD (j %sz) .undef:=by
 intro n j hj;have hi:j/sz<n:=by rw[Nat.div_lt_iff_lt_mul hpos];exact hj
 have h1:=qi8 (sz:=sz) (es:=List.replicate n z) (j/sz) (j %sz) z (fun e he=>by rw[List.eq_of_mem_replicate he];exact hz) (by simp[hi]) (Nat.mod_lt _ hpos);rw[←h1]
 congr 1
 rw[Nat.mul_comm];exact(Nat.div_add_mod j sz).symm
theorem zeros_at{z:PV}{zv:Value}(hz:VR w I D ρ z zv)(hzu:z≠.undef){sz:Nat}(hsz:z.cells.length=sz)(hpos:0<sz)(n:Nat):
 (madeCells zv.cells (n*sz)).size=n*sz∧
 ∀j,VR w I D ρ ((flat (List.replicate n z)).getD j .undef) ((madeCells zv.cells (n*sz)).toList.getD j undef):=by
 obtain⟨h1,h2⟩:=hz.cellsAt hzu;refine⟨size_madeCells _ _,fun j=>?_⟩;by_cases hj:j<n*sz
 · rw[qm4 z hsz hpos n j hj];have hs:zv.cells.size=sz:=by rw[h1,hsz]
   have hlt:j %sz<zv.cells.size:=by rw[hs];exact Nat.mod_lt _ hpos
   have e1:(madeCells zv.cells (n*sz)).toList.getD j undef=zv.cells.toList.getD (j %sz) undef:=by
    rw[gD0,gD0,Array.getElem?_toList,Array.getElem?_toList,Array.getElem?_eq_getElem (by rw[size_madeCells];exact hj),Array.getElem?_eq_getElem hlt];have hlt':j %zv.cells.size<zv.cells.size:=by rw[hs]at hlt⊢;exact hlt
    simp only[madeCells,Array.getElem_map,Array.getElem_range,Option.getD_some];rw[getElem!_pos zv.cells _ hlt'];simp only[hs]
   rw[e1];exact h2 _
 · rw[qaz _ j _ (by rw[qax (sz:=sz) (fun e he=>by rw[List.eq_of_mem_replicate he];exact hsz)];simpa using hj)];exact .undef _
theorem qss{t:TypeId}{l c:Operand}(S:Sim w I D ρ s.h)(E:EnvR w I D ρ nt e a)(hop:o.op=.makeSlice t l c)(h:evOp T call (qar P rm o.op) e s=some (r,s')):qhh P o s s' r w I D ρ a:=by
 rw[hop]at h;simp only[qar]at h;split at h
 next el hd=>
   split at h
   next i hi=>
     split at h
     next z hz=>
       split at h
       next hc=>
         obtain⟨hcs,hpos⟩:=hc;have htz:qop P el=some z:=by simp only[qop,hi,Option.bind_some];exact hz
         obtain⟨zi,zv,hzi,hzv,hzz,hzs,hzu⟩:=qd6 htz;have:zi=i:=by rw[hi]at hzi;exact(Option.some.inj hzi).symm
         subst this;simp only[evOp]at h;have hl:=E.eval l;have hcc:=E.eval c;split at h
         next k n k' m hk1 hk2=>
           rw[hk1]at hl;rw[hk2]at hcc;split at h
           next hr=>
             obtain⟨h0,rfl,hn,rfl,rfl,hb,_⟩:=hr;cases h;generalize hvl:a.eval l=vl at hl;generalize hvc:a.eval c=vc at hcc;cases hl;cases hcc;obtain⟨n,rfl⟩:=iZ0 h0;simp only[Int.toNat_natCast];obtain⟨_,hcv⟩:=zeros_at (w:=w) (I:=I) (D:=D) (ρ:=ρ) (qkv hzz) hzu hcs hpos n;have hn':(n:Int)≤140737488355328:=by simpa[room]using hn
             have hb':(zi.bytes:Int) * (n:Int)≤140737488355328:=by simpa[room]using hb
             let cells:=madeCells zv.cells (n*zi.size)
             let row:Row:=⟨w.heap.size,n,zi.size,n⟩
             have hlen:(alloc (.row zi.size (List.replicate n z)) s).h.length=s.h.length+1:=by simp[alloc]
             have N:=qew S (.cells cells el) (fun _=>False) (s.h.length+1) row rfl (.inr rfl);refine⟨_,.slice (some ⟨w.heap.size,0,none⟩) n n,w.alloc (.cells cells el),qd2 I w.heap.size (fun _=>False),upd1 ρ s.h.length row,rfl,.inl ?_,?_⟩
             · unfold execOp;rw[hop];have hrun:=run_make (P:=P) w t el zi zv hd hi hzv .i64 .i64 n n (by omega) (Int.le_refl _) (by omega) (by omega);simp only[Int.toNat_natCast]at hrun;simp[hvl,hvc,hrun,cells]
             · rw[hlen];refine⟨N,qfj S _ _ row rfl _ ?_,.aref _ _ 0 n n _ _ (.inr (by omega)) (by rw[qap];exact nR0 _) (fun _=>rfl) ⟨nR0 _,fun h0=>(by cases h0)⟩ (fun _=>by rw[qap];simp[row])⟩;unfold OK;rw[qap];refine⟨by simp[row],rfl,by simp[row],fun e he=>by rw[List.eq_of_mem_replicate he];exact hcs,fun x hx=>?_,cells,el,(0,0),heap_alloc_new w _,by simp[row,cells,size_madeCells],qcn _,fun j=>?_⟩
               · rcases hx with hx|⟨_,hx⟩
                 ·exact absurd (S.imm _ x hx) (by simp[row])
                 ·omega
               ·exact(hcv j).next N
           ·grind
         ·cases h
       ·cases h
     ·cases h
   ·cases h
 ·cases h
end
end Go.AE
namespace Go.AE
open Go
section
variable {P:Program}{T:Tbl}{call:FuncId→List PV→List Obj→Option qam}{rm:Bool}{o:Oper}{e:List PV}{s s':St}{r:OR}
 {w:World}{I:Nat→Nat→Prop}{D:Nat→Prop}{ρ:Nat→Row}{nt:Nat}{a:Act}
theorem Nxt.sameHeap{w' w'':World}{I':Nat→Nat→Prop}{D':Nat→Prop}{ρ':Nat→Row}(N:Nxt w I D ρ w' I' D' ρ')(hh:w''.heap=w'.heap)(h1:w''.os=w'.os)(h2:w''.tape=w'.tape∧w'.drawn≤w''.drawn)(h3:w''.output=w'.output):
 Nxt w I D ρ w'' I' D' ρ':=
 ⟨h1.trans N.os,⟨h2.1.trans N.tape.1,nT0 N.tape.2 h2.2⟩,h3.trans N.output,by rw[hh];exact N.size,fun b hb hk=>by rw[hh];exact N.keep b hb hk,N.immI,fun b o hi=>by rw[←N.immC b o hi];unfold World.cell?;rw[hh],N.immN,N.dom,N.rho,N.blk,N.blkN⟩
theorem qq0{w':World}{I':Nat→Nat→Prop}{D':Nat→Prop}{ρ':Nat→Row}{es:List PV}{sz:Nat}{m:SM}{B:Nat}{cells:List Value}{cap:Nat}(hsz:∀e∈es,e.cells.length=sz)(hlen:cells.length=(flat es).length)
 (hI:∀x,x<cells.length→I' B x)(hc:w'.rangeAt B 0 cells)(hv:∀j,VR w' I' D' ρ' ((flat es).getD j .undef) (cells.getD j undef))(hm:SMok D' ρ' es.length sz m (some ⟨B,0,none⟩) cap)(hcap:es.length≤cap):
 VR w' I' D' ρ' (.slice sz es m) (.slice (some ⟨B,0,none⟩) es.length cap):=
 .slice sz es m _ _ B 0 cells hsz hm (fun _=>rfl) ⟨hcap,fun h0=>(by cases h0)⟩ hlen (fun j v hj=>⟨by rw[Nat.zero_add];exact hI j (gI0.1 hj).1,hc j v hj⟩) hv
theorem qi1{w:World}{B:Nat}{c:Array Value}{E:TypeId}{fr:Nat×Nat}(h:w.heap[B]?=some (.cells c E fr)):w.rangeAt B 0 c.toList:=fun j v hj=>by rw[Nat.zero_add,cell_of_row w B j c E fr h];simpa using hj
theorem qfw{w:World}{B:Nat}{c:Array Value}{E:TypeId}{fr:Nat×Nat}{l r:List Value}(h:w.heap[B]?=some (.cells c E fr))(hc:c.toList=l++r):w.rangeAt B 0 l:=fun j v hj=>by have hlt:=(gI0.1 hj).1;have:=qi1 h j v (by rw[hc,gL0 hlt];exact hj);exact this
theorem qqx{t:TypeId}{len:Nat}{parts:Array (Nat×Operand)}(S:Sim w I D ρ s.h)(E:EnvR w I D ρ nt e a)(hop:o.op=.buildSlice t len parts)(h:evOp T call (qar P rm o.op) e s=some (r,s')):qhh P o s s' r w I D ρ a:=by
 rw[hop]at h;simp only[qar]at h;split at h
 next el hd=>
   split at h
   next n z hn hz=>
     split at h
     next hc=>
       obtain⟨hlim,hzc,hpos⟩:=hc;obtain⟨zi,zv,hzi,hzv,hzz,_,hzu⟩:=qd6 hz;simp only[evOp]at h;obtain⟨q,hq,rfl,rfl⟩:=qbr h;simp only[oM0]at hq;obtain⟨es',hes,rfl⟩:=hq;obtain⟨hcz,hcv⟩:=zeros_at (w:=w) (I:=I) (D:=D) (ρ:=ρ) (qkv hzz) hzu hzc hpos len
       obtain⟨cells',g1,g2,g3,g4,g5⟩:=qmf (w:=w) (I:=I) (D:=D) (ρ:=ρ) (sz:=n) ((parts.toList.map fun(i,x)=>(i,cx x)).map fun(i,x)=>(i,ax e x)) (parts.toList.map fun(i,x)=>(i,a.eval x)) (List.replicate len z) es' (madeCells zv.cells (len*n))
        (by simp) (fun j i' v hj=>by rw[map_getElem?]at hj;simp only[oM0]at hj;obtain⟨⟨i2,x2⟩,hj2,he⟩:=hj;simp only[Prod.mk.injEq]at he;obtain⟨rfl,rfl⟩:=he;exact⟨ax e (cx x2),by rw[map_getElem?,map_getElem?,hj2];rfl,E.eval x2⟩) (fun e he=>by rw[List.eq_of_mem_replicate he];exact hzc)
        (by rw[qax (sz:=n) (fun e he=>by rw[List.eq_of_mem_replicate he];exact hzc),hcz];simp) hcv hes
       have hl:es'.length=len:=by simpa using g3
       let row:Row:=⟨w.heap.size,0,0,0⟩
       have N:=qew S (.cells cells' el) (fun x=>x<cells'.size) s'.h.length row rfl (.inl rfl);refine⟨_,.slice (some ⟨w.heap.size,0,none⟩) len len,w.alloc (.cells cells' el),qd2 I w.heap.size (fun x=>x<cells'.size),upd1 ρ s'.h.length row,rfl,.inl ?_,N,qmw S _ _ row rfl,?_⟩
       · unfold execOp;rw[hop];have hlim':¬(2 ^24<len*n):=by omega
         have hsz2:=qbm hn w;simp only[Instr.buildSlice,Sem.run_bind,run_underlying hd,Result.andThen_ok,hsz2];rw[if_neg (by omega)];by_cases h0:len*n=0
         · have hg1:Instr.fill (fun i=>some (i*n,n)) (Array.map (fun x=>(#[]:Array Value)[x % (#[]:Array Value).size]!) (Array.range (len*n))) (parts.map fun(i,x)=>(i,a.eval x)).toList=some cells':=by
            rw[h0,Array.toList_map];rw[h0]at g1;have:madeCells zv.cells 0=#[]:=by simp[madeCells,Array.range_zero']
            rw[this]at g1;simpa[Array.range_zero']using g1
           rw[if_pos h0];simp only[Sem.run_bind,Sem.run_pure,Result.andThen_ok];split
           next c hcc=>
             have:some c=some cells':=hcc.symm.trans hg1;cases this;simp[newRow]
           ·rename_i hcc;exact(hcc _ hg1).elim
         · have hg1:Instr.fill (fun i=>some (i*n,n)) (Array.map (fun x=>zv.cells[x %zv.cells.size]!) (Array.range (len*n))) (parts.map fun(i,x)=>(i,a.eval x)).toList=some cells':=by rw[Array.toList_map];exact g1
           rw[if_neg h0];simp only[Sem.run_bind,qcf hzi hzv,Sem.run_pure,Result.andThen_ok];split
           next c hcc=>
             have:some c=some cells':=hcc.symm.trans hg1;cases this;simp[newRow]
           ·rename_i hcc;exact(hcc _ hg1).elim
       · rw[←hl];exact qq0 g4 (by simpa using g2) (fun x hx=>.inr ⟨rfl,by simpa using hx⟩) (qi1 (heap_alloc_new w _)) (fun j=>(g5 j).next N) ⟨rfl,rfl⟩ (nR0 _)
     ·cases h
   ·cases h
 ·cases h
theorem qog(t:ByteArray):flat (qfh t)=qfh t:=by
 unfold qfh;induction t.data.toList with
 |nil=>rfl
 |cons b l ih=>simp only[List.map_cons,qbg,ih];rfl
theorem m_bytes{t1 t2:TypeId}{x y:Operand}(S:Sim w I D ρ s.h)(E:EnvR w I D ρ nt e a)(hop:o.op=.convert t1 t2 x)(hb:qar P rm o.op=.bytesOf (cx y))(h:evOp T call (qar P rm o.op) e s=some (r,s')):qhh P o s s' r w I D ρ a:=by
 rw[hop]at h hb;simp only[qar]at h hb;have hx:=E.eval x;split at hb
 ·cases hb
 ·cases hb
 next el hd1 hd2=>
   split at hb
   next hel hel1=>
     simp only[hd1,hd2,hel,hel1,evOp]at h;split at h
     next t' hk=>
       rw[hk]at hx;split at h
       next hsz=>
         cases h;generalize hv:a.eval x=v at hx;cases hx;have hrun:=Lib.run_convert_string_bytes (P:=P) w t1 t2 el t' hd1 hd2 hel
         let cap:=grownCap w t'.size 0 el
         have hcap:t'.size≤cap:=grownCap_ge w t'.size 0 el
         let cs:=Lib.bytesCells w el t'
         have hcs:cs.size=cap:=by simp[cs,Lib.bytesCells,cap];have:t'.data.size=t'.size:=rfl;omega
         let ob:Go.Obj:=.cells cs el (cs.size,cs.size+1)
         have hheap:(Lib.bytesWorld w el t').heap=(w.drew.alloc ob).heap:=by
          apply Array.ext_getElem?;intro j;by_cases hj:j<w.heap.size
          ·rw[Lib.bytesWorld_at_old w el t' j hj,heap_alloc_old w.drew ob j hj];rfl
          · by_cases hj2:j=w.heap.size
            · subst hj2;rw[Lib.bytesWorld_at_new w el t'];exact(heap_alloc_new w.drew ob).symm
            ·rw[Array.getElem?_eq_none (by rw[Lib.bytesWorld_size];omega),Array.getElem?_eq_none (by simp;omega)]
         have hos:(Lib.bytesWorld w el t').os=w.os∧((Lib.bytesWorld w el t').tape=w.tape∧w.drawn+1≤(Lib.bytesWorld w el t').drawn)∧(Lib.bytesWorld w el t').output=w.output:=by simp[Lib.bytesWorld,World.freeze,World.alloc,World.drew,-World.alloc_eq,-World.drew_eq]
         let row:Row:=⟨w.heap.size,t'.size,1,cap⟩
         have S':Sim w.drew I D ρ s.h:=S.same rfl;have hlen:(alloc (.tok 1 t'.size) s).h.length=s.h.length+1:=by simp[alloc]
         have N1:Nxt w.drew I D ρ (w.drew.alloc ob) (qd2 I w.heap.size (fun x=>x<t'.size)) (ext D s.h.length (s.h.length+1)) (upd1 ρ s.h.length row):=
          qew S' ob (fun x=>x<t'.size) (s.h.length+1) row rfl (.inr rfl)
         have N:=(Nxt.trans (fun k hk=>S.blk_lt k hk) Nxt.drew N1).sameHeap (w'':=Lib.bytesWorld w el t') hheap hos.1 hos.2.1 hos.2.2;have hnew:(w.drew.alloc ob).heap[w.heap.size]?=some ob:=heap_alloc_new w.drew ob
         have S1:=qfj S' ob (fun x=>x<t'.size) row rfl (.tok 1 t'.size) (by
          unfold OK;rw[qap];refine⟨rfl,rfl,hcap,fun x hx=>?_,cs,el,(cs.size,cs.size+1),hnew,by simp[row,hcs],fun j hj=>by simp;omega⟩;rcases hx with hx|⟨_,hx⟩
          ·exact absurd (S.imm _ x hx) (by simp[row])
          ·simpa using hx)
         refine⟨_,.slice (some ⟨w.heap.size,0,none⟩) t'.size cap,Lib.bytesWorld w el t',qd2 I w.heap.size (fun x=>x<t'.size),upd1 ρ s.h.length row,rfl,.inl ?_,?_⟩
         · unfold execOp;rw[hop];simp[hv,hrun,cap]
         · rw[hlen];refine⟨N,S1.same hheap,?_⟩;have hbl:(qfh t').length=t'.size:=by have:t'.data.size=t'.size:=rfl;simp[qfh,this]
           have hvr:=qq0 (w':=Lib.bytesWorld w el t') (I':=qd2 I w.heap.size (fun x=>x<t'.size)) (D':=ext D s.h.length (s.h.length+1)) (ρ':=upd1 ρ s.h.length row) (es:=qfh t') (sz:=1) (m:=.tok s.h.length) (B:=w.heap.size) (cells:=byteCells t') (cap:=cap)
            (fun e he=>by unfold qfh at he;obtain⟨b,_,rfl⟩:=mM0.1 he;rfl) (by rw[qog,byteCells_length,hbl]) (fun x hx=>.inr ⟨rfl,by rw[byteCells_length]at hx;exact hx⟩)
            (qfw (r:=List.replicate (cap - t'.size) (.int .u8 0)) (Lib.bytesWorld_at_new w el t') (by simp[Lib.bytesCells,byteCells,cap]))
            (fun j=>by
             rw[qog];unfold qfh byteCells;by_cases hj:j<t'.data.toList.length
             · rw[gD0,gD0,gM0,gM0,gE0 hj];exact .int _ _
             ·rw[qaz _ j _ (by simpa using hj)];exact .undef _)
            ⟨.inr (by omega),rfl,by rw[qap,hbl];exact nR0 _,fun _=>by rw[qap];exact⟨rfl,rfl,rfl⟩⟩ (by rw[hbl];exact hcap)
           rw[hbl]at hvr;exact hvr
       ·cases h
     ·cases h
   ·cases hb
 ·grind
 ·cases hb
end
end Go.AE
namespace Go.AE
open Go
section
variable {P:Program}{T:Tbl}{call:FuncId→List PV→List Obj→Option qam}{rm:Bool}{o:Oper}{e:List PV}{s s':St}{r:OR}
 {w:World}{I:Nat→Nat→Prop}{D:Nat→Prop}{ρ:Nat→Row}{nt:Nat}{a:Act}
theorem upd_cells{c c' x:PV}{off:Nat}(h:upd c off x=some c')(hx:∀p∈x.cells,p.isCell=true):
 off+x.cells.length≤c.cells.length∧c'.cells=c.cells.take off++x.cells++c.cells.drop (off+x.cells.length):=by
 unfold upd at h;split at h
 next cs=>
   split at h
   next hc=>
     obtain⟨rfl,hl⟩:=hc;cases h;simp[PV.cells]at hl⊢;constructor
     ·omega
     ·omega
   · split at h
     · cases h;rename_i hle;exact⟨hle,rfl⟩
     ·cases h
 next hna=>
   have hcc:c.cells=[c]:=by cases c<;>first|rfl|exact(hna _ rfl).elim
   split at h
   ·cases h
   next x' hxa=>
     split at h
     next h0=>
       subst h0;cases h;have hxc:c'.cells=[c']:=by cases c'<;>first|rfl|exact(hxa _ rfl).elim
       rw[hcc,hxc];simp
     ·cases h
theorem qqg{t:TypeId}{sz:Nat}(hs:qd1 P t=some sz)(w:World)(b off:Nat)(v:Value)(hv:v.cells.size=sz)(hc:∀j,j<sz→(w.cell? ⟨b,off+j,none⟩).isSome=true)(hf:∀j,j<sz→w.frozen? ⟨b,off+j,none⟩=false)
 (h1:∀x∈v.cells.toList,x.oneCell'=true):(storeVar t ⟨b,off,none⟩ v).run P w=.ok () (w.setCells b off v.cells.toList):=by
 have:=run_storeCells_cells (P:=P) b off v.cells.toList 0 w (by simpa[hv]using hc) (by simpa[hv]using hf) h1;simp only[Nat.add_zero]at this;simp only[storeVar,Sem.run_bind,qbm hs,Result.andThen_ok];rw[if_neg (by simp[hv])];simpa using this
theorem qdw{w:World}{B:Nat}{c:Array Value}{E:TypeId}{fr:Nat×Nat}(h:w.heap[B]?=some (.cells c E fr))(hu:qkz fr c.size)(j:Nat)(hj:j<c.size):w.frozen? ⟨B,j,none⟩=false:=by unfold World.frozen?;simp only[h];have:=hu j hj;obtain⟨lo,hi⟩:=fr;simp only at this⊢;by_cases h1:lo≤j<;>by_cases h2:j<hi<;>simp_all
theorem oneCells{p:PV}{v:Value}(hv:VR w I D ρ p v)(hp:∀q∈p.cells,q.isCell=true)(hd:p≠.undef):∀x∈v.cells.toList,x.oneCell'=true:=by
 intro x hx;obtain⟨h1,h2⟩:=hv.cellsAt hd;obtain⟨j,hj,rfl⟩:=List.mem_iff_getElem.1 hx;have hj':j<p.cells.length:=by rw[←h1];simpa using hj
 have h3:=h2 j;rw[gD0,gD0,gE0 hj',gE0 hj]at h3;exact h3.oneCell (hp _ (gX0 hj'))
theorem qjh{p:PV}(hp:∀q∈p.cells,q.isCell=true):p≠.undef:=by rintro rfl;have:=hp .undef (by simp[PV.cells]);simp[PV.isCell]at this
theorem flat_set{sz i:Nat}{es:List PV}{c:PV}(hsz:∀e∈es,e.cells.length=sz)(hi:i<es.length):flat (es.set i c)=(flat es).take (i*sz)++c.cells++(flat es).drop (i*sz+sz):=by rw[List.set_eq_take_append_cons_drop,if_pos hi,qdl,qbg,qes _ _ hsz,qet _ _ hsz,Nat.succ_mul,List.append_assoc]
theorem flat_upd{sz i off:Nat}{es:List PV}{c c' x:PV}(hsz:∀e∈es,e.cells.length=sz)(hi:es[i]?=some c)(h:upd c off x=some c')(hx:∀p∈x.cells,p.isCell=true):
 off+x.cells.length≤sz∧c'.cells.length=sz∧flat (es.set i c')=(flat es).take (i*sz+off)++x.cells++(flat es).drop (i*sz+off+x.cells.length):=by
 obtain⟨h1,h2⟩:=upd_cells h hx;have hil:=(gI0.1 hi).1;have hc:c.cells.length=sz:=hsz c (mG0 hi);have hfl:=qax hsz;have hfit:i*sz+sz≤es.length*sz:=by have:(i+1) *sz≤es.length*sz:=Nat.mul_le_mul_right _ (by omega);rw[Nat.succ_mul]at this;exact this
 have hlen:c'.cells.length=sz:=by rw[h2];simp;omega
 refine⟨by omega,hlen,?_⟩;rw[flat_set hsz hil]
 have hcc:c.cells=((flat es).drop (i*sz)).take sz:=by
  have hd:es.drop i=c::es.drop (i+1):=by
   rw[List.drop_eq_getElem_cons hil]
   congr 1
   exact(gI0.1 hi).2
  rw[←qet i es hsz,hd,qbg,←hc,List.take_left]
 rw[h2,hcc];apply List.ext_getElem?;intro j;simp only[List.getElem?_append,lA0,lT0,List.length_drop,List.getElem?_take,List.getElem?_drop,hfl];have m1:min (i*sz) (es.length*sz)=i*sz:=by omega
 have m2:min sz (es.length*sz - i*sz)=sz:=by omega
 have m3:min off sz=off:=by omega
 have m4:min (i*sz+off) (es.length*sz)=i*sz+off:=by omega
 rw[m1,m2,m3,m4];by_cases a1:j<i*sz
 ·grind
 ·grind
theorem m_store{t:TypeId}{x y:Operand}(S:Sim w I D ρ s.h)(E:EnvR w I D ρ nt e a)(hop:o.op=.store t x y)(h:evOp T call (qar P rm o.op) e s=some (r,s')):qhh P o s s' r w I D ρ a:=by
 rw[hop]at h;simp only[qar]at h;split at h
 next n hn=>
   simp only[evOp,oM0]at h;obtain⟨s1,hs1,hee⟩:=h;cases hee;have hx:=E.eval x;have hy:=E.eval y;unfold storeAt at hs1;split at hs1
   next k i off tip hk=>
     rw[hk]at hx;split at hs1
     next rsz es hkk=>
       split at hs1
       next hc=>
         obtain⟨rfl,hsz,hall⟩:=hc;split at hs1
         next c hci=>
           simp only[oM0]at hs1;obtain⟨c',hu,rfl⟩:=hs1;have hcell:∀p∈(ax e (cx y)).cells,p.isCell=true:=fun p hp=>List.all_eq_true.1 hall p hp;generalize hv:a.eval x=v at hx;cases hx with
           |ptr _ _ _ _ A hD htip hA=>
             have hok:=S.obj k _ hD hkk;obtain⟨g1,g2,g3,g4,g5,cs,Ty,fr,g6,g7,g8,g9⟩:=hok;have hA':=hA g1;subst hA';obtain⟨u1,u2,u3⟩:=flat_upd g4 hci hu hcell;obtain⟨hy1,hy2⟩:=hy.cellsAt (qjh hcell);have hil:=(gI0.1 hci).1;have hfl:=qax g4;have hfit:i*rsz+rsz≤es.length*rsz:=by have:(i+1) *rsz≤es.length*rsz:=Nat.mul_le_mul_right _ (by omega);rw[Nat.succ_mul]at this;exact this
             have hcap:es.length*rsz≤(ρ k).cap*rsz:=Nat.mul_le_mul_right _ g3;have hvs:(a.eval y).cells.size=n:=by rw[hy1,hsz]
             have hrun:=qqg (P:=P) hn w (ρ k).blk (i*rsz+off) (a.eval y) hvs (fun j hj=>by rw[cell_of_row w _ _ cs Ty fr g6,Array.getElem?_eq_getElem (by omega)];rfl) (fun j hj=>qdw g6 g8 _ (by omega)) (oneCells hy hcell (qjh hcell));obtain⟨c2,hb,hs2,hl2⟩:=qck (ρ k).blk Ty fr (a.eval y).cells.toList (i*rsz+off) w cs g6 (by simp;omega);have N:=qf9 S hD hb (fun _=>False) (ρ k) rfl (nR0 _) (fun _=>rfl) (fun x hx=>absurd hx (g5 x)) s.h.length
             have S':=qhg S hD hb (fun _=>False) (ρ k) rfl (nR0 _) (fun _=>rfl) (fun x hx=>absurd hx (g5 x)) (.row rsz (es.set i c')) s.h.length (by
              unfold OK;rw[qap];refine⟨by simpa using g1,g2,by simpa using g3,fun e he=>?_,fun x hx=>?_,c2,Ty,fr,hb.new,by rw[hs2];exact g7,by rw[hs2];exact g8,fun j=>?_⟩
              ·grind
              · rcases hx with hx|⟨_,hx⟩
                ·grind
                ·omega
              · rw[u3,hl2];have e1:=qcg (flat es) (ax e (cx y)).cells (i*rsz+off) j .undef (by rw[hfl];omega);have e2:=qcg cs.toList (a.eval y).cells.toList (i*rsz+off) j undef (by simp;omega);rw[e1,e2];have hll:(a.eval y).cells.toList.length=(ax e (cx y)).cells.length:=by rw[Array.length_toList,hy1]
                rw[hll];split
                ·exact(g9 j).next N
                · split
                  ·exact(hy2 _).next N
                  ·exact(g9 j).next N)
             refine⟨_,undef,w.setCells (ρ k).blk (i*rsz+off) (a.eval y).cells.toList,qd2 I (ρ k).blk (fun _=>False),upd1 ρ k (ρ k),rfl,.inr ⟨?_,rfl⟩,?_⟩
             · unfold execOp;rw[hop];rw[g2]at hv;simp[hv,Instr.storeAt,Instr.sureAddr,hrun]
             · have hl3:(wrote k (.row rsz (es.set i c')) (ax e (cx y)).top s).h.length=s.h.length:=by simp[wrote]
               rw[hl3];exact⟨N,S',.undef _⟩
         ·grind
       ·cases hs1
     ·cases hs1
   ·cases hs1
 ·cases h
end
end Go.AE
namespace Go.AE
open Go
section
variable {P:Program}{T:Tbl}{call:FuncId→List PV→List Obj→Option qam}{rm:Bool}{o:Oper}{e:List PV}{s s':St}{r:OR}
 {w:World}{I:Nat→Nat→Prop}{D:Nat→Prop}{ρ:Nat→Row}{nt:Nat}{a:Act}
theorem qqf{p q:PV}{v u:Value}(hv:VR w I D ρ p v)(hu:VR w I D ρ q u)(hs:qex p q=some true)(n:Nat):Instr.sameBits n u v=true:=by
 unfold qex at hs;split at hs
 · cases hv;cases hu;split at hs
   · rename_i hk;subst hk;simp at hs;subst hs;cases n<;>simp[Instr.sameBits]
   ·cases hs
 · cases hv;cases hu;simp only[Option.some.injEq]at hs;have hs':=(MapKept.bytes_beq _ _).1 hs;subst hs';cases n<;>simpa[Instr.sameBits]using hs
 · cases hv;cases hu;simp at hs;subst hs;cases n<;>simp[Instr.sameBits]
 ·cases hs
theorem putK_now{t:TypeId}{kk:KK}{d:TypeDesc}(hd:P.underlying t=some d)(h:qg6 (P.underlying t)=some kk){p q:PV}{v:Value}(hp:qe3 kk p=true)(hv:VR w I D ρ p v):
 ∀(es:List (PV×PV))(ents:List MapEntry)(i:Nat)(es':List (PV×PV)),ents.length=es.length→
   (∀j,VR w I D ρ (es.getD j (.undef,.undef)).1 (ents.getD j default).key∧VR w I D ρ (es.getD j (.undef,.undef)).2 (ents.getD j default).val)→putK p q es=some es'→
   (∃j u,Instr.findNow d v ents i=some (some (i+j,u))∧j<es.length∧es'=es.set j (p,q)∧∀n,Instr.sameBits n (ents.getD j default).key v=true)∨(Instr.findNow d v ents i=some none∧es'=es++[(p,q)])
 |[],ents,i,es',hl,_,hf=>by
   have:ents=[]:=List.eq_nil_of_length_eq_zero (by simpa using hl);subst this;simp[putK]at hf;subst hf;exact .inr ⟨rfl,rfl⟩
 |(k,x)::es,[],i,es',hl,_,_=>by simp at hl
 |(k,x)::es,en::ents,i,es',hl,hes,hf=>by
   have h0:=hes 0;simp only[List.getD_cons_zero]at h0;simp only[putK]at hf;split at hf
   next hs=>
     cases hf;have hn:=qgd (P:=P) hd h hp hv h0.1 hs;exact .inl ⟨0,en.val,by simp[Instr.findNow,hn],by simp,rfl,fun n=>qqf hv h0.1 hs n⟩
   next hs=>
     simp only[oM0]at hf;obtain⟨es1,hf,rfl⟩:=hf;have hn:=qgd (P:=P) hd h hp hv h0.1 hs;rcases putK_now hd h hp hv es ents (i+1) es1 (by simpa using hl) (fun j=>by simpa using hes (j+1)) hf with⟨j,u,h1,h2,h3,h4⟩|⟨h1,h2⟩
     ·exact .inl ⟨j+1,u,by simp only[Instr.findNow,hn,h1];congr 3;omega,by simpa using h2,by rw[h3];rfl,by simpa using h4⟩
     ·exact .inr ⟨by simp[Instr.findNow,hn,h1],by rw[h2];rfl⟩
   ·cases hf
theorem qnp{B:Nat}{ents:Array MapEntry}{clock:Nat}(hb:w.heap[B]?=some (.map ents clock))(o:Go.Obj):(setObj B o).run P w=.ok () {w with heap:=w.heap.setIfInBounds B o}:=by simp[setObj,Sem.run,hb]
theorem qr6{B:Nat}(hB:B<w.heap.size)(o:Go.Obj):BlockSet w B o {w with heap:=w.heap.setIfInBounds B o}:=
 ⟨rfl,⟨rfl,nR0 _⟩,rfl,by simp,fun b hb=>by simp[Array.getElem?_setIfInBounds_ne (fun e=>hb e.symm)],by simp[hB]⟩
theorem qsr{t:TypeId}{m k x:Operand}(S:Sim w I D ρ s.h)(E:EnvR w I D ρ nt e a)(hop:o.op=.mapUpdate t m k x)(h:evOp T call (qar P rm o.op) e s=some (r,s')):qhh P o s s' r w I D ρ a:=by
 rw[hop]at h;simp only[qar]at h;split at h
 next kt et hd=>
   split at h
   next kk hkk=>
     obtain⟨d,hkd,_⟩:=qfo hkk;simp only[evOp]at h;have hm:=E.eval m;have hk:=E.eval k;have hx:=E.eval x;split at h
     next id hid=>
       rw[hid]at hm;split at h
       next es hes=>
         split at h
         next hkey=>
           simp only[oM0]at h;obtain⟨es',hput,hee⟩:=h;cases hee;generalize hv:a.eval m=v at hm;cases hm with
           |map _ rr hD hrr=>
             have hok:=S.obj id _ hD hes;obtain⟨g1,g2,ents,clock,g3,g4,g5⟩:=hok;have hrr':=hrr g1;subst hrr';have hB:=S.blk_lt id hD;have hobj:(getObj (ρ id).blk).run P w=.ok (.map ents clock) w:=by simp[getObj,Sem.run,g3]
             have fin:∀(ents':Array MapEntry)(clock':Nat),ents'.size=es'.length→(∀j,VR w I D ρ (es'.getD j (.undef,.undef)).1 (ents'.toList.getD j default).key∧VR w I D ρ (es'.getD j (.undef,.undef)).2 (ents'.toList.getD j default).val)→
              (Instr.mapUpdate t (.map (some (ρ id).blk)) (a.eval k) (a.eval x)).run P w=.ok () {w with heap:=w.heap.setIfInBounds (ρ id).blk (.map ents' clock')}→
              qhh P o s (wrote id (.map es') (ax e (cx x)).top s) (.val .undef) w I D ρ a:=by
              intro ents' clock' h1 h2 hrun;have hb:=qr6 (w:=w) hB (.map ents' clock');have N:=qf9 S hD hb (fun _=>False) (ρ id) rfl (nR0 _) (fun _=>rfl) (fun x hx=>absurd hx (g2 x)) s.h.length
              have S':=qhg S hD hb (fun _=>False) (ρ id) rfl (nR0 _) (fun _=>rfl) (fun x hx=>absurd hx (g2 x)) (.map es') s.h.length (by
               unfold OK;rw[qap];refine⟨g1,fun x hx=>?_,ents',clock',hb.new,h1,fun j=>⟨(h2 j).1.next N,(h2 j).2.next N⟩⟩;rcases hx with hx|⟨_,hx⟩
               ·grind
               ·exact hx)
              refine⟨_,undef,{w with heap:=w.heap.setIfInBounds (ρ id).blk (.map ents' clock')},qd2 I (ρ id).blk (fun _=>False),upd1 ρ id (ρ id),rfl,.inr ⟨?_,rfl⟩,?_⟩
              · unfold execOp;rw[hop];simp[hv,hrun]
              · have hl3:(wrote id (.map es') (ax e (cx x)).top s).h.length=s.h.length:=by simp[wrote]
                rw[hl3];exact⟨N,S',.undef _⟩
             rcases putK_now (P:=P) hkd hkk hkey hk es ents.toList 0 es' (by simpa using g4) g5 hput with⟨j,u,f1,f2,f3,f4⟩|⟨f1,f2⟩
             · simp only[Nat.zero_add]at f1;have hj:j<ents.size:=by omega
               have hkey2:(((ents[j]?).map (·.key)).getD (a.eval k))=(ents.toList.getD j default).key:=by grind
               refine fin (ents.modify j fun e=>{e with key:=a.eval k,val:=a.eval x}) clock (by rw[f3];simp[g4]) (fun i=>?_) ?_
               · rw[f3];by_cases hij:i=j
                 ·grind
                 · have e1:(es.set j (ax e (cx k),ax e (cx x))).getD i (.undef,.undef)=es.getD i (.undef,.undef):=by rw[gD0,List.getElem?_set_ne (fun e=>hij e.symm),←gD0]
                   have e2:(ents.modify j fun e=>{e with key:=a.eval k,val:=a.eval x}).toList.getD i default=ents.toList.getD i default:=by rw[gD0,gD0,Array.getElem?_toList,Array.getElem?_toList,Array.getElem?_modify,if_neg (fun e=>hij e.symm)]
                   rw[e1,e2];exact g5 i
               · have hstay:(Instr.keyThatStays (ents.toList.getD j default).key (a.eval k)).run P w=.ok (a.eval k) w:=by unfold Instr.keyThatStays;rw[if_pos (f4 10000)];rfl
                 simp only[Instr.mapUpdate,Sem.run_bind,run_underlying hd,Result.andThen_ok,hobj,qep hkk,Instr.findKey,run_underlying hkd,f1,Sem.run_pure,hkey2,hstay,qnp g3]
             · refine fin (ents.push {key:=a.eval k,val:=a.eval x,born:=clock}) (clock+1) (by rw[f2];simp[g4]) (fun i=>?_) ?_
               · rw[f2];rcases Nat.lt_trichotomy i es.length with hi|hi|hi
                 · have e1:(es++[(ax e (cx k),ax e (cx x))]).getD i (.undef,.undef)=es.getD i (.undef,.undef):=by rw[gD0,gL0 hi,←gD0]
                   have e2:(ents.push {key:=a.eval k,val:=a.eval x,born:=clock}).toList.getD i default=ents.toList.getD i default:=by rw[gD0,gD0,Array.toList_push,gL0 (by simpa[g4]using hi)]
                   rw[e1,e2];exact g5 i
                 · have e1:(es++[(ax e (cx k),ax e (cx x))]).getD i (.undef,.undef)=(ax e (cx k),ax e (cx x)):=by subst hi;simp[gD0]
                   have e2:(ents.push {key:=a.eval k,val:=a.eval x,born:=clock}).toList.getD i default={key:=a.eval k,val:=a.eval x,born:=clock}:=by rw[gD0,Array.toList_push,List.getElem?_append_right (by simp;omega)];simp[g4,hi]
                   rw[e1,e2];exact⟨hk,hx⟩
                 · have e1:(es++[(ax e (cx k),ax e (cx x))]).getD i (.undef,.undef)=(.undef,.undef):=qaz _ i _ (by simp;omega);rw[e1];exact⟨.undef _,.undef _⟩
               ·simp only[Instr.mapUpdate,Sem.run_bind,run_underlying hd,Result.andThen_ok,hobj,qep hkk,Instr.findKey,run_underlying hkd,f1,Sem.run_pure,qnp g3]
         ·cases h
       ·cases h
     ·cases h
   ·cases h
 ·cases h
end
end Go.AE
namespace Go.AE
open Go
section
variable {P:Program}{w:World}{I:Nat→Nat→Prop}{D:Nat→Prop}{ρ:Nat→Row}{h:List Obj}
theorem qps{k:Nat}(S:Sim w I D ρ h)(hk:D k)(ob:Go.Obj)(J:Nat→Prop)(row:Row)(hb:row.blk=w.heap.size)(hl:(ρ k).len<row.len)(n:Nat):
 Nxt w I D ρ (w.alloc ob) (qd2 I w.heap.size J) (ext D n n) (upd1 ρ k row):=by
 refine⟨rfl,⟨rfl,nR0 _⟩,rfl,by simp,fun b hbb _=>heap_alloc_old w ob b hbb,fun b o hi=>.inl hi,fun b o hi=>World.cell?_alloc_lt _ _ _ (S.imm b o hi),fun b o hi=>?_,fun j hj=>.inl hj,fun j hj=>?_,fun j hj=>?_,fun j hj hd=>?_⟩
 · rcases hi with hi|⟨rfl,_⟩
   ·exact .inl hi
   ·omega
 · by_cases hjk:j=k
   ·subst hjk;rw[qap];exact⟨by omega,fun e=>by omega⟩
   ·rw[qcs ρ k row hjk];exact⟨nR0 _,fun _=>rfl⟩
 · by_cases hjk:j=k
   ·subst hjk;rw[qap];exact .inr (by omega)
   ·rw[qcs ρ k row hjk];exact .inl rfl
 · rcases hj with hj|hj
   ·grind
   ·omega
theorem Sim_move{k:Nat}(S:Sim w I D ρ h)(hk:D k)(ob:Go.Obj)(J:Nat→Prop)(row:Row)(hb:row.blk=w.heap.size)(hl:(ρ k).len<row.len)(o:Obj)(n:Nat)
 (hok:OK (w.alloc ob) (qd2 I w.heap.size J) (ext D n n) (upd1 ρ k row) k o):Sim (w.alloc ob) (qd2 I w.heap.size J) (ext D n n) (upd1 ρ k row) (h.set k o):=by
 have N:=qps S hk ob J row hb hl n;have hD:∀j,ext D n n j→D j:=fun j hj=>by rw[qay]at hj;exact hj
 refine⟨fun j hj=>by simpa using S.lt j (hD j hj),fun j o' hj ho=>?_,fun j j' hj hj' hee=>?_,fun b x hi=>?_⟩
 · by_cases hjk:j=k
   ·grind
   · rw[List.getElem?_set_ne (fun e=>hjk e.symm)]at ho;have hlt:=S.blk_lt j (hD j hj);refine(S.obj j o' (hD j hj) ho).carry (fun b x hi=>⟨N.immI b x hi,N.immC b x hi⟩) N.dom N.rho (qcs ρ k row hjk) (heap_alloc_old w ob _ hlt) (fun x hx=>?_);rcases hx with hx|⟨hx,_⟩
     ·exact hx
     ·omega
 · by_cases hjk:j=k<;>by_cases hjk':j'=k
   ·rw[hjk,hjk']
   · subst hjk;rw[qap,qcs ρ j row hjk',hb]at hee;have:=S.blk_lt j' (hD j' hj');omega
   · subst hjk';rw[qap,qcs ρ j' row hjk,hb]at hee;have:=S.blk_lt j (hD j hj);omega
   · rw[qcs ρ k row hjk,qcs ρ k row hjk']at hee;exact S.inj j j' (hD j hj) (hD j' hj') hee
 · rcases hi with hi|⟨rfl,_⟩
   ·have:=S.imm b x hi;simp;omega
   ·simp
theorem Src_of{x:PV}{v:Value}{xs:List PV}{sz:Nat}{u e':TypeId}(S:Sim w I D ρ h)(hv:VR w I D ρ x v)(he:qch x h=some (sz,xs))(hne:xs≠[])(hcell:xs.all (fun e=>e.cells.all PV.isCell)=true)
 (hu:P.underlying u=some (.slice e')):∃news,Src P sz u v xs.length news w∧news.length=(flat xs).length∧∀j,VR w I D ρ ((flat xs).getD j .undef) (news.getD j undef):=by
 obtain⟨A,cap,b,oo,vs,rfl,hA,hsz,hlen,hat,hvs⟩:=qef S hv he;rw[hA hne];refine⟨vs,Src.ofSlice w hu ⟨b,oo,none⟩ xs.length cap vs (by rw[hlen,qax hsz]) (fun j y hj=>by rw[Addr.add_mid];exact hat j y hj) (fun y hy=>?_),hlen,hvs⟩;obtain⟨j,hj,rfl⟩:=List.mem_iff_getElem.1 hy;have hj':j< (flat xs).length:=by omega
 have h3:=hvs j;rw[gD0,gD0,gE0 hj',gE0 hj]at h3;refine h3.oneCell ?_;have hmem:=gX0 hj';simp only[flat,List.mem_flatMap]at hmem;obtain⟨y,hy1,hy2⟩:=hmem;exact List.all_eq_true.1 (List.all_eq_true.1 hcell y hy1) _ hy2
theorem qkx{t u el e':TypeId}{sz:Nat}(hd:P.underlying t=some (.slice el))(hu:P.underlying u=some (.slice e'))(hs:qd1 P el=some sz)(ty:TypeId)(A:Option Addr)(n cap:Nat)(hc:n≤cap)(B:Option Addr)(cap':Nat):
 (Builtin.append_ #[t,u] ty #[.slice A n cap,.slice B 0 cap']).run P w=.ok (.slice A n cap) w:=by
 have hl:∀b:Addr,(loadCells b 0).run P w=.ok #[] w:=fun b=>by simp[loadCells,loadCellsFrom]
 cases A<;>cases B<;>simp[Builtin.append_,run_underlying hd,run_underlying hu,qbm hs,Builtin.lenOf,hc,Builtin.firstCells,hl,storeCells]
theorem qgo(xs ys:List PV)(vs us:List Value)(hl:vs.length=xs.length)(h1:∀j,VR w I D ρ (xs.getD j .undef) (vs.getD j undef))(h2:∀j,VR w I D ρ (ys.getD j .undef) (us.getD j undef))(j:Nat):
 VR w I D ρ ((xs++ys).getD j .undef) ((vs++us).getD j undef):=by
 simp only[gD0,List.getElem?_append,hl];split
 ·have:=h1 j;simpa[gD0]using this
 ·simp_all
variable {T:Tbl}{call:FuncId→List PV→List Obj→Option qam}{rm:Bool}{o:Oper}{e:List PV}{s s':St}{r:OR}{nt:Nat}{a:Act}
theorem qih(w:World)(need old:Nat)(el:TypeId)(olds news:List Value)(z:Array Value)(sz:Nat)(hz:z.size=sz)(hl:(olds++news).length=need*sz):
 let c:Array Value:=(olds++news).toArray++Builtin.zeroCells z (grownCap w need old el - need)
 c.size=grownCap w need old el*sz∧c.toList=(olds++news)++(Builtin.zeroCells z (grownCap w need old el - need)).toList:=by
 have hge:=grownCap_ge w need old el;refine⟨?_,by simp⟩;rw[Array.size_append,List.size_toArray,hl,size_zeroCells,hz,←Nat.add_mul]
 congr 1
 omega
theorem m_append{c:Call}{x y:Operand}{t u:TypeId}(S:Sim w I D ρ s.h)(E:EnvR w I D ρ nt e a)(hop:o.op=.call c)(hc:c={callee:=.builtin .append,args:=#[x,y],argTypes:=#[t,u]})
 (h:evOp T call (qar P rm o.op) e s=some (r,s')):qhh P o s s' r w I D ρ a:=by
 rw[hop]at h;subst hc;simp only[qar,qdg]at h;have hx:=E.eval x;have hy:=E.eval y;split at h
 next el e' hd hu=>
   split at h
   next i hi=>
     split at h
     next z hz=>
       split at h
       next hzs=>
         obtain⟨hzc,hpos⟩:=hzs;have hs:qd1 P el=some i.size:=by simp[qd1,hi]
         have fin:∀v' w',(Builtin.append_ #[t,u] o.type #[a.eval x,a.eval y]).run P w=.ok v' w'→(execOp a.eval o).run P w=.ok (.value v') w':=by intro v' w' hr;unfold execOp;rw[hop];simp[resolve,invoke,builtin,hr]
         split at h
         ·cases h
         · simp only[evOp,oM0]at h;obtain⟨⟨p,s1⟩,hap,hee⟩:=h;cases hee;unfold appendop at hap;split at hap
           next sz' es m xsz xs hk hxs=>
             rw[hk]at hx;generalize hv:a.eval x=v at hx;have hx0:=hx;cases hx with
             |slice _ _ _ A cap b oo vs hsz hm hne hcap hlen hat hvv=>
               split at hap
               next hemp=>
                 cases hap;have hxs0:xs=[]:=by simpa using hemp
                 subst hxs0;obtain⟨B,cap',b',oo',vs',hyv,_⟩:=qef S hy hxs;refine⟨_,.slice A es.length cap,w,I,ρ,rfl,.inl (fin _ _ ?_),?_⟩
                 · rw[hv,hyv];exact qkx hd hu hs o.type A es.length cap hcap.1 B cap'
                 · rw[qay];exact⟨Nxt.refl _ _ _ _,S,hx0⟩
               next hemp=>
                 have hxne:xs≠[]:=by simpa using hemp
                 split at hap
                 next hcond=>
                   obtain⟨hss,rfl,_,hcells,hbytes,hroom⟩:=hcond;obtain⟨news,hsrc,hnl,hnv⟩:=Src_of (P:=P) (u:=u) (e':=e') S hy hxs hxne hcells hu;have hxsz:∀e∈xs,e.cells.length=i.size:=by obtain⟨_,_,_,_,_,_,_,hq,_⟩:=qef S hy hxs;exact hq
                   have hes:∀e∈es,e.cells.length=i.size:=fun e he=>by
                    rcases hss with hss|hss
                    ·grind
                    ·grind
                   have hall:∀e∈es++xs,e.cells.length=i.size:=fun e he=>by
                    rcases mA0.1 he with he|he
                    ·grind
                    ·grind
                   have hxpos:0<xs.length:=by grind
                   have hold:(Builtin.firstCells i.size es.length (.slice A es.length cap)).run P w.drew=.ok vs.toArray w.drew:=by
                    by_cases hes0:es=[]
                    · subst hes0;have hvs0:vs=[]:=List.eq_nil_of_length_eq_zero (by simpa[flat]using hlen);subst hvs0;cases A<;>simp[Builtin.firstCells,loadCells,loadCellsFrom]
                    · rw[hne hes0];exact run_firstCells_some (P:=P) w.drew i.size es.length ⟨b,oo,none⟩ es.length cap vs (by rw[hlen,qax hes]) (fun j y hj=>by rw[Addr.add_mid];exact(hat j y hj).2)
                   have hneed:(vs++news).length=(es.length+xs.length) *i.size:=by rw[lA0,hlen,hnl,qax hes,qax hxsz,Nat.add_mul]
                   have hlt48:es.length+xs.length≤140737488355328:=by simpa[room]using hroom
                   have hb47:(es.length+xs.length) *i.bytes≤140737488355328:=by simpa[room]using hbytes
                   have hflat:∀j,VR w I D ρ ((flat (es++xs)).getD j .undef) ((vs++news).getD j undef):=fun j=>by rw[qdl];exact qgo (flat es) (flat xs) vs news hlen hvv hnv j
                   have grow:∀old,old<es.length+xs.length→cap=old→(Builtin.append_ #[t,u] o.type #[.slice A es.length cap,a.eval y]).run P w=
                    .ok (.slice (some ⟨w.heap.size,0,none⟩) (es.length+xs.length) (grownCap w (es.length+xs.length) old el))
                     (w.drew.alloc (.cells ((vs++news).toArray++Builtin.zeroCells z.cells (grownCap w (es.length+xs.length) old el - (es.length+xs.length))) el)):=by
                    intro old ho he;subst he;exact run_append_grow_src (P:=P) w t u o.type el i z hd hi hz A es.length cap vs hold (a.eval y) xs.length news hsrc ho (by omega) (growslice_fits ho hb47)
                   have S1:Sim w.drew I D ρ s.h:=S.same rfl;have hgb:=fun old=>qih w (es.length+xs.length) old el vs news z.cells i.size hzc hneed;have hge:=fun old=>grownCap_ge w (es.length+xs.length) old el;have hlen2:(es++xs).length=es.length+xs.length:=lA0;have hfl2:(vs++news).length=(flat (es++xs)).length:=by rw[hneed,qax hall,hlen2]
                   have fresh:cap=es.length→qhh P o s (alloc (.tok i.size (es.length+xs.length)) s) (.val (.slice i.size (es++xs) (.tok s.h.length))) w I D ρ a:=by
                    intro hce;have hg:=grow cap (by omega) rfl;obtain⟨hcs,hcl⟩:=hgb cap
                    let row:Row:=⟨w.heap.size,es.length+xs.length,i.size,grownCap w (es.length+xs.length) cap el⟩
                    let J:Nat→Prop:=fun q=>q< (es.length+xs.length) *i.size
                    let Cb:Array Value:=(vs++news).toArray++Builtin.zeroCells z.cells (grownCap w (es.length+xs.length) cap el - (es.length+xs.length))
                    have hl3:(alloc (.tok i.size (es.length+xs.length)) s).h.length=s.h.length+1:=by simp[alloc]
                    have N:=Nxt.trans (fun k hk=>S.blk_lt k hk) Nxt.drew (qew S1 (.cells Cb el) J (s.h.length+1) row rfl (.inr rfl));have hnew:(w.drew.alloc (.cells Cb el)).heap[w.heap.size]?=some (.cells Cb el):=heap_alloc_new w.drew _;refine⟨_,.slice (some ⟨w.heap.size,0,none⟩) (es.length+xs.length) (grownCap w (es.length+xs.length) cap el),w.drew.alloc (.cells Cb el),qd2 I w.heap.size J,upd1 ρ s.h.length row,rfl,.inl (fin _ _ (by rw[hv];exact hg)),?_⟩;rw[hl3];refine⟨N,qfj S1 _ J row rfl _ ?_,?_⟩
                    · unfold OK;rw[qap];refine⟨rfl,rfl,hge cap,fun q hq=>?_,Cb,el,(0,0),hnew,hcs.symm,qcn _⟩;rcases hq with hq|⟨_,hq⟩
                      ·exact absurd (S.imm _ q hq) (by simp[row])
                      ·omega
                    · have hvr:=qq0 (m:=.tok s.h.length) (cap:=grownCap w (es.length+xs.length) cap el) hall hfl2 (fun q hq=>.inr ⟨rfl,by rw[hneed]at hq;exact hq⟩) (qfw hnew hcl) (fun j=>(hflat j).next N)
                       ⟨.inr (by omega),rfl,by rw[qap,hlen2];exact nR0 _,fun _=>by rw[qap];exact⟨rfl,rfl,rfl⟩⟩ (by rw[hlen2];exact hge cap)
                      rw[hlen2]at hvr;exact hvr
                   split at hap
                   ·cases hap;obtain⟨_,h2,h3⟩:=hm;exact fresh (by omega)
                   ·cases hap;exact fresh hm
                   ·cases hap;exact fresh hm.2
                   next k=>
                     obtain⟨hDk,_,hle,heq⟩:=hm;split at hap
                     next tsz m' hkk=>
                       split at hap
                       next hmm=>
                         obtain⟨rfl,rfl⟩:=hmm;cases hap;have hok:=S.obj k _ hDk hkk;obtain⟨g1,_,g3,g4,cs,Ty,fr,g5,g6,g7⟩:=hok;obtain⟨hA,hcapk,_⟩:=heq g1;have hl3:(wrote k (.tok i.size (es.length+xs.length)) none s).h.length=s.h.length:=by simp[wrote]
                         have hbo:es≠[]→b=(ρ k).blk∧oo=0:=fun h0=>by have:=hne h0;rw[hA]at this;simp at this;exact⟨this.1.symm,this.2.symm⟩
                         by_cases hroom2:es.length+xs.length≤cap
                         · -- in place
                           have hmul:(es.length+xs.length) *i.size≤(ρ k).cap*i.size:=Nat.mul_le_mul_right _ (by omega);have hfit:es.length*i.size+news.length≤cs.size:=by rw[hnl,qax hxsz,←Nat.add_mul,←g6];exact hmul
                           have hr:=run_append_room_src (P:=P) w t u o.type el i hd hi (ρ k).blk 0 es.length cap (a.eval y) xs.length news hsrc hroom2
                            (fun j hj=>by rw[Nat.zero_add,cell_of_row w _ _ cs Ty fr g5,Array.getElem?_eq_getElem (by omega)];rfl)
                            (fun j hj=>by rw[Nat.zero_add];exact qdw g5 g7 _ (by omega))
                           simp only[Nat.zero_add]at hr;obtain⟨c2,hb,hs2,hl2⟩:=qck (ρ k).blk Ty fr news (es.length*i.size) w cs g5 hfit
                           let row:Row:=⟨(ρ k).blk,es.length+xs.length,i.size,(ρ k).cap⟩
                           let J:Nat→Prop:=fun q=>q< (es.length+xs.length) *i.size
                           have hIm:∀q,I (ρ k).blk q→(w.setCells (ρ k).blk (es.length*i.size) news).cell? ⟨(ρ k).blk,q,none⟩=w.cell? ⟨(ρ k).blk,q,none⟩:=fun q hq=>
                            World.cell?_setCells_out _ _ _ _ _ (fun _ _=>.inl (g4 q hq))
                           have hlt:(ρ k).len≤row.len:=by simp only[row];omega
                           have heq2:row.len=(ρ k).len→row=ρ k:=fun e=>by simp only[row]at e;omega
                           have N:=qf9 S hDk hb J row rfl hlt heq2 hIm s.h.length;refine⟨_,.slice (some ⟨(ρ k).blk,0,none⟩) (es.length+xs.length) cap,w.setCells (ρ k).blk (es.length*i.size) news,qd2 I (ρ k).blk J,upd1 ρ k row,rfl,.inl (fin _ _ (by rw[hv,hA];exact hr)),?_⟩;rw[hl3];refine⟨N,qhg S hDk hb J row rfl hlt heq2 hIm (.tok i.size (es.length+xs.length)) s.h.length ?_,?_⟩
                           · unfold OK;rw[qap];refine⟨rfl,rfl,by simp only[row];omega,fun q hq=>?_,c2,Ty,fr,hb.new,by rw[hs2];exact g6,by rw[hs2];exact g7⟩;rcases hq with hq|⟨_,hq⟩
                             ·grind
                             ·omega
                           · rw[←hlen2]
                             refine qq0 hall hfl2 (fun q hq=>.inr ⟨rfl,by rw[hneed]at hq;exact hq⟩) (fun j q hj=>?_) (fun j=>(hflat j).next N)
                              ⟨.inl hDk,rfl,by rw[qap,hlen2];exact nR0 _,fun _=>by rw[qap];exact⟨rfl,hcapk,rfl⟩⟩ (by rw[hlen2];exact hroom2)
                             rw[Nat.zero_add];have hvl:vs.length=es.length*i.size:=by rw[hlen,qax hes]
                             by_cases hjv:j<vs.length
                             · rw[gL0 hjv]at hj;have hes0:es≠[]:=by rintro rfl;rw[hvl]at hjv;simp at hjv
                               obtain⟨rfl,rfl⟩:=hbo hes0;have:=(hat j q hj).2;rw[Nat.zero_add]at this;rw[World.cell?_setCells_out _ _ _ _ _ (fun _ _=>.inl (by show j<es.length*i.size;omega))];exact this
                             · rw[List.getElem?_append_right (by omega)]at hj;have hjn:=(gI0.1 hj).1;have:=World.cell?_setCells_in (ρ k).blk news (es.length*i.size) w (fun q hq=>by rw[cell_of_row w _ _ cs Ty fr g5,Array.getElem?_eq_getElem (by omega)];rfl) (j - vs.length) hjn;rw[show es.length*i.size+(j - vs.length)=j by omega]at this;rw[this,←hj,gE0 hjn]
                         · -- elsewhere
                           have hg:=grow cap (by omega) rfl;obtain⟨hcs,hcl⟩:=hgb cap
                           let row:Row:=⟨w.heap.size,es.length+xs.length,i.size,grownCap w (es.length+xs.length) cap el⟩
                           let J:Nat→Prop:=fun q=>q< (es.length+xs.length) *i.size
                           let Cb:Array Value:=(vs++news).toArray++Builtin.zeroCells z.cells (grownCap w (es.length+xs.length) cap el - (es.length+xs.length))
                           have hlt:(ρ k).len<row.len:=by simp only[row];omega
                           have N:=Nxt.trans (fun k hk=>S.blk_lt k hk) Nxt.drew (qps S1 hDk (.cells Cb el) J row rfl hlt s.h.length);have hnew:(w.drew.alloc (.cells Cb el)).heap[w.heap.size]?=some (.cells Cb el):=heap_alloc_new w.drew _;refine⟨_,.slice (some ⟨w.heap.size,0,none⟩) (es.length+xs.length) (grownCap w (es.length+xs.length) cap el),w.drew.alloc (.cells Cb el),qd2 I w.heap.size J,upd1 ρ k row,rfl,.inl (fin _ _ (by rw[hv];exact hg)),?_⟩;rw[hl3];refine⟨N,Sim_move S1 hDk _ J row rfl hlt _ s.h.length ?_,?_⟩
                           · unfold OK;rw[qap];refine⟨rfl,rfl,hge cap,fun q hq=>?_,Cb,el,(0,0),hnew,hcs.symm,qcn _⟩;rcases hq with hq|⟨_,hq⟩
                             ·exact absurd (S.imm _ q hq) (by simp[row])
                             ·omega
                           · have hvr:=qq0 (m:=.tok k) (cap:=grownCap w (es.length+xs.length) cap el) hall hfl2 (fun q hq=>.inr ⟨rfl,by rw[hneed]at hq;exact hq⟩) (qfw hnew hcl) (fun j=>(hflat j).next N)
                              ⟨.inl hDk,rfl,by rw[qap,hlen2];exact nR0 _,fun _=>by rw[qap];exact⟨rfl,rfl,rfl⟩⟩ (by rw[hlen2];exact hge cap)
                             rw[hlen2]at hvr;exact hvr
                       ·grind
                     ·grind
                   ·grind
                 ·grind
           ·grind
       ·cases h
     ·cases h
   ·cases h
 ·cases h
end
end Go.AE
namespace Go.AE
open Go
section
variable {P:Program}{w:World}{I:Nat→Nat→Prop}{D:Nat→Prop}{ρ:Nat→Row}{h:List Obj}
variable {T:Tbl}{call:FuncId→List PV→List Obj→Option qam}{rm:Bool}{o:Oper}{e:List PV}{s s':St}{r:OR}{nt:Nat}{a:Act}
theorem m_copy{x y:Operand}{t u el e' ty:TypeId}{sz:Nat}(S:Sim w I D ρ s.h)(E:EnvR w I D ρ nt e a)(hd:P.underlying t=some (.slice el))(hu:P.underlying u=some (.slice e'))(hs:qd1 P el=some sz)
 (fin:∀v' w',(Builtin.copy_ #[t,u] ty #[a.eval x,a.eval y]).run P w=.ok v' w'→(execOp a.eval o).run P w=.ok (.value v') w')
 (h:evOp T call (.copy sz (cx x) (cx y)) e s=some (r,s')):qhh P o s s' r w I D ρ a:=by
 have hx:=E.eval x;have hy:=E.eval y;simp only[evOp,oM0]at h;obtain⟨⟨p,s1⟩,hap,hee⟩:=h;cases hee;unfold copyop at hap;split at hap
 next xsz xs hxs=>
   split at hap
   next k dsz off len tip hk=>
     rw[hk]at hx;split at hap
     next rsz es hkk=>
       split at hap
       next hcond=>
         obtain⟨rfl,rfl,rfl,hfit,hxsz,hpos,hcells⟩:=hcond;obtain⟨B,cap',b',oo',vs',hyv,hB,hysz,hvl,hat,hvv⟩:=qef S hy hxs;generalize hv:a.eval x=v at hx;cases hx with
         |aref _ _ _ _ _ A cap hD htip hAs hlc hA=>
           have hok:=S.obj k _ hD hkk;obtain⟨g1,g2,g3,g4,g5,cs,Ty,fr,g6,g7,g8,g9⟩:=hok;obtain⟨_,_,_,hA'⟩:=hA g1;have hlen:(Builtin.lenOf (a.eval y)).run P w=.ok xs.length w:=by rw[hyv];rfl
           have htl:(xs.take len).length=Nat.min xs.length len:=by simp[Nat.min_comm]
           split at hap
           next hemp=>
             cases hap;have h0:Nat.min xs.length len=0:=by grind
             refine⟨_,goInt 0,w,I,ρ,rfl,.inl (fin _ _ ?_),?_⟩
             · rw[hv,hyv];have hl:∀b:Addr,(loadCells b 0).run P w=.ok #[] w:=fun b=>by simp[loadCells,loadCellsFrom]
               cases A<;>cases B<;>simp[Builtin.copy_,run_underlying hd,qbm hs,Builtin.lenOf,h0,Builtin.firstCells,hl,storeCells]
             · rw[qay];exact⟨Nxt.refl _ _ _ _,S,.int _ _⟩
           next hemp=>
             cases hap;have hne:xs.take len≠[]:=by simpa using hemp
             have hxne:xs≠[]:=by rintro rfl;simp at hne
             have hlpos:0<len:=by grind
             have hsz:xsz=rsz:=by grind
             subst hsz;have hAa:=hA' (.inl hlpos);have hBb:=hB hxne;subst hAa hBb;generalize hys:xs.take len=ys at htl hne;have hyssz:∀e∈ys,e.cells.length=xsz:=fun e he=>hysz e (List.mem_of_mem_take (by rw[hys];exact he));have hycell:∀e∈ys,∀q∈e.cells,q.isCell=true:=fun e he q hq=>List.all_eq_true.1 (List.all_eq_true.1 hcells e (List.mem_of_mem_take (by rw[hys];exact he))) q hq
             have hflat:flat ys=(flat xs).take (ys.length*xsz):=by
              rw[←qes _ _ hysz]
              congr 1
              rw[←hys,List.take_eq_take_iff,lT0];omega
             generalize hnews:vs'.take (ys.length*xsz)=news;have hyl:ys.length≤xs.length:=by rw[←hys];simp;omega
             have hfx:(flat xs).length=xs.length*xsz:=qax hysz;have hmul:ys.length*xsz≤xs.length*xsz:=Nat.mul_le_mul_right _ hyl;have hnl:news.length=ys.length*xsz:=by rw[←hnews];simp;omega
             have hnl2:news.length=(flat ys).length:=by rw[hnl,qax hyssz]
             have hnv:∀j,VR w I D ρ ((flat ys).getD j .undef) (news.getD j undef):=fun j=>by
              rw[hflat,←hnews];by_cases hj:j<ys.length*xsz
              · have:=hvv j;simpa[gD0,List.getElem?_take,hj]using this
              · simp[gD0,List.getElem?_take,hj];exact .undef _
             have hone:∀z∈news,z.oneCell'=true:=fun z hz=>by
              obtain⟨j,hj,rfl⟩:=List.mem_iff_getElem.1 hz;have hj':j< (flat ys).length:=by omega
              have h3:=hnv j;rw[gD0,gD0,gE0 hj',gE0 hj]at h3;refine h3.oneCell ?_;have hmem:=gX0 hj';simp only[flat,List.mem_flatMap]at hmem;obtain⟨q,hq1,hq2⟩:=hmem;exact hycell q hq1 _ hq2
             have hysl:ys.length≤len:=by rw[htl];exact Nat.min_le_right _ _
             have hm2:off*xsz+ys.length*xsz≤es.length*xsz:=by rw[←Nat.add_mul];exact Nat.mul_le_mul_right _ (by omega)
             have hfl:=qax g4;have hcap:es.length*xsz≤(ρ k).cap*xsz:=Nat.mul_le_mul_right _ g3
             have hload:(Builtin.firstCells xsz ys.length (.slice (some ⟨b',oo',none⟩) xs.length cap')).run P w=.ok news.toArray w:=
              run_firstCells_some w xsz ys.length ⟨b',oo',none⟩ xs.length cap' news hnl fun j z hj=>by
               rw[Addr.add_mid];refine hat j z ?_;rw[←hnews,List.getElem?_take]at hj;split at hj
               ·omega
               ·grind
             have hstore:=run_storeCells_cells (P:=P) (ρ k).blk (off*xsz) news 0 w (fun j hj=>by
              simp only[Nat.add_zero];rw[cell_of_row w _ _ cs Ty fr g6,Array.getElem?_eq_getElem (by omega)];rfl) (fun j hj=>by
              simp only[Nat.add_zero];exact qdw g6 g8 _ (by omega)) hone
             simp only[Nat.add_zero]at hstore;obtain⟨c2,hb,hs2,hl2⟩:=qck (ρ k).blk Ty fr news (off*xsz) w cs g6 (by omega);have N:=qf9 S hD hb (fun _=>False) (ρ k) rfl (nR0 _) (fun _=>rfl) (fun x hx=>absurd hx (g5 x)) s.h.length;have hnewlen:(es.take off++ys++es.drop (off+ys.length)).length=es.length:=by simp;omega
             have hflnew:flat (es.take off++ys++es.drop (off+ys.length))=(flat es).take (off*xsz)++flat ys++(flat es).drop (off*xsz+(flat ys).length):=by rw[qdl,qdl,qes _ _ g4,qet _ _ g4,qax hyssz,Nat.add_mul]
             have S':=qhg S hD hb (fun _=>False) (ρ k) rfl (nR0 _) (fun _=>rfl) (fun x hx=>absurd hx (g5 x)) (.row xsz (es.take off++ys++es.drop (off+ys.length))) s.h.length (by
              unfold OK;rw[qap];refine⟨by rw[hnewlen];exact g1,g2,by rw[hnewlen];exact g3,fun e he=>?_,fun x hx=>?_,c2,Ty,fr,hb.new,by rw[hs2];exact g7,by rw[hs2];exact g8,fun j=>?_⟩
              ·grind
              · rcases hx with hx|⟨_,hx⟩
                ·grind
                ·omega
              · rw[hflnew,hl2];have e1:=qcg (flat es) (flat ys) (off*xsz) j .undef (by rw[hfl];omega);have e2:=qcg cs.toList news (off*xsz) j undef (by simp;omega);rw[e1,e2,hnl2];split
                ·exact(g9 j).next N
                · split
                  ·exact(hnv _).next N
                  ·exact(g9 j).next N)
             refine⟨_,goInt ys.length,w.setCells (ρ k).blk (off*xsz) news,qd2 I (ρ k).blk (fun _=>False),upd1 ρ k (ρ k),rfl,.inl (fin _ _ ?_),?_⟩
             · rw[hv,hyv];simp[Builtin.copy_,run_underlying hd,qbm hs,Builtin.lenOf,←htl,hload,hstore]
             · have hl3:(wrote k (.row xsz (es.take off++ys++es.drop (off+ys.length))) (tops ys) s).h.length=s.h.length:=by simp[wrote]
               rw[hl3];exact⟨N,S',.int _ _⟩
       ·cases hap
     ·cases hap
   ·cases hap
 ·cases hap
end
end Go.AE
namespace Go.AE
open Go
def Enters (P : Program) (f : FuncId) : Prop := ∃ fn, P.funcs[f]? = some fn ∧ (fn.name == "runtime.NumGoroutine") = false ∧ fn.body.isSome = true
def qk3:Prim→Array Value→Sem Value
 |.indexByteString=>Extern.BytealgIndexByte.indexByte
 |.countString=>Extern.BytealgCount.count
def qev(P:Program)(f:FuncId)(p:Prim):Prop:=
 ∃ fn, P.funcs[f]? = some fn ∧ (fn.name == "runtime.NumGoroutine") = false ∧ fn.body.isNone = true ∧ Extern.findNext fn = none ∧ Extern.find fn = some (qk3 p)
def EndR(w:World)(I:Nat→Nat→Prop)(D:Nat→Prop)(ρ:Nat→Row)(r:OR)(en:Ending):Prop:=
 match r,en with
 |.val p,.returned v=>VR w I D ρ p v
 |.pan p,.panicked ch=> ∃v,ch=[{v,recovered:=false}]∧VR w I D ρ p v
 |_,_=>False
def qfy(w:World)(I:Nat→Nat→Prop)(D:Nat→Prop)(ρ:Nat→Row)(h:List Obj)(r:OR)(s':St)(en:Ending)(w':World):Prop:=
 ∃I' ρ',Nxt w I D ρ w' I' (ext D h.length s'.h.length) ρ'∧Sim w' I' (ext D h.length s'.h.length) ρ' s'.h∧EndR w' I' (ext D h.length s'.h.length) ρ' r en
def qd0(P:Program)(call:FuncId→List PV→List Obj→Option qam):Prop:=
 ∀f args h r s',call f args h=some (r,s')→Enters P f∧h.length≤s'.h.length∧
   ∀w I D ρ vs,Sim w I D ρ h→VRs w I D ρ args vs→Calls P f vs.toArray w (qfy w I D ρ h r s')
section
variable {P:Program}{T:Tbl}{call:FuncId→List PV→List Obj→Option qam}{rm:Bool}{o:Oper}{e:List PV}{s s':St}{r:OR}
 {w:World}{I:Nat→Nat→Prop}{D:Nat→Prop}{ρ:Nat→Row}{nt:Nat}{a:Act}
theorem run_callFunc_enter{f:FuncId}(h:Enters P f)(args:Array Value)(w:World):(callFunc f args).run P w=.ok (.enter f args) w:=by
 obtain⟨fn,h1,h2,h3⟩:=h
 have h4:fn.body≠none:=by intro hb;simp[hb]at h3
 have h5 : fn.name ≠ "runtime.NumGoroutine" := by simpa using h2
 simp[callFunc,h1,h5,h4]
theorem prim_run{p:Prim}{args:List PV}{q:PV}(h:qi2 p args=some q){vs:List Value}(hv:VRs w I D ρ args vs):∃v,(qk3 p vs.toArray).run P w=.ok v w∧VR w I D ρ q v:=by
 unfold qi2 at h;split at h
 next t c=>
   cases h;obtain⟨hl,hj⟩:=hv
   obtain⟨v0,v1,rfl⟩:∃v0 v1,vs=[v0,v1]:=by
    cases vs with
    |nil=>simp at hl
    |cons v0 vs=>cases vs with
      |nil=>simp at hl
      |cons v1 vs=>cases vs with
        |nil=>exact⟨v0,v1,rfl⟩
        |cons _ _=>simp at hl
   have h0:=hj 0;have h1:=hj 1;simp at h0 h1;cases h0;cases h1;refine⟨_,?_,.int _ _⟩
   have hrun:qk3 .indexByteString [Value.string t,Value.int .u8 c].toArray=(match(List.range t.size).find? fun i=>t[i]! ==UInt8.ofNat c.toNat with
    |some i=>pure (goInt i)
    |none=>pure (goInt (-1)):Sem Value):=rfl
   rw[hrun];cases(List.range t.size).find? fun i=>t[i]! ==UInt8.ofNat c.toNat<;>rfl
 next t c=>
   cases h;obtain⟨hl,hj⟩:=hv
   obtain⟨v0,v1,rfl⟩:∃v0 v1,vs=[v0,v1]:=by
    cases vs with
    |nil=>simp at hl
    |cons v0 vs=>cases vs with
      |nil=>simp at hl
      |cons v1 vs=>cases vs with
        |nil=>exact⟨v0,v1,rfl⟩
        |cons _ _=>simp at hl
   have h0:=hj 0;have h1:=hj 1;simp at h0 h1;cases h0;cases h1;exact⟨_,rfl,.int _ _⟩
 ·cases h
theorem qqt{mx:Bool}{ps:List PV}{q:PV}(h:qqu mx ps=some q){vs:List Value}(hl:vs.length=ps.length)(hv:∀j,VR w I D ρ (ps.getD j .undef) (vs.getD j undef))(ts:Array TypeId)(ty:TypeId):
 ∃v,(if mx then Builtin.max_ ts ty vs.toArray else Builtin.min_ ts ty vs.toArray).run P w=.ok v w∧VR w I D ρ q v:=by
 unfold qqu at h;split at h
 next k x k' y=>
   split at h
   next hk=>
     subst hk;cases h
     obtain⟨v0,v1,rfl⟩:∃v0 v1,vs=[v0,v1]:=by
      cases vs with
      |nil=>simp at hl
      |cons v0 vs=>cases vs with
        |nil=>simp at hl
        |cons v1 vs=>cases vs with
          |nil=>exact⟨v0,v1,rfl⟩
          |cons _ _=>simp at hl
     have h0:=hv 0;have h1:=hv 1;simp at h0 h1;cases h0;cases h1;refine⟨_,?_,.int _ _⟩;cases mx<;>simp[Builtin.max_,Builtin.min_,Builtin.max2,Builtin.min2]
   ·cases h
 ·cases h
theorem q_builtin{c:Call}{b:Builtin}(S:Sim w I D ρ s.h)(E:EnvR w I D ρ nt e a)(hop:o.op=.call c)(hc:c.callee=.builtin b)(hb:b≠.append)(hb2:b≠.copy)(h:evOp T call (qar P rm o.op) e s=some (r,s')):qei P o s s' r w I D ρ a:=by
 rw[hop]at h;simp only[qar,qdg,hc]at h;split at h
 · -- len
   rename_i x t hargs htys;have hca:c.args=#[x]:=Array.toList_inj.1 (by rw[hargs]);have hct:c.argTypes=#[t]:=Array.toList_inj.1 (by rw[htys]);have hx:=E.eval x;have fin:∀v,(Builtin.len_ #[t] o.type #[a.eval x]).run P w=.ok v w→(execOp a.eval o).run P w=.ok (.value v) w:=by intro v hr;unfold execOp;rw[hop];simp[resolve,invoke,builtin,hc,hca,hct,hr]
   split at h
   next hd=>
     simp only[evOp]at h;split at h
     next t' hk=>
       rw[hk]at hx;cases h;generalize hv:a.eval x=v at hx;cases hx;exact .mk (fin (.int .i64 t'.size) (by rw[hv];simp[Builtin.len_,run_underlying hd,goInt])) (.int _ _)
     ·cases h
   next hd=>
     simp only[evOp]at h;split at h
     next sz es m hk=>
       rw[hk]at hx;cases h;generalize hv:a.eval x=v at hx;cases hx;exact .mk (fin (.int .i64 es.length) (by rw[hv];simp[Builtin.len_,run_underlying hd,goInt])) (.int _ _)
     next k rsz off len tip hk=>
       rw[hk]at hx;cases h;generalize hv:a.eval x=v at hx;cases hx;exact .mk (fin (.int .i64 len) (by rw[hv];simp[Builtin.len_,run_underlying hd,goInt])) (.int _ _)
     ·cases h
   next hd=>
     simp only[evOp]at h;split at h
     next hk=>
       rw[hk]at hx;cases h;generalize hv:a.eval x=v at hx;cases hx;exact .mk (fin (.int .i64 0) (by rw[hv];simp[Builtin.len_,run_underlying hd,goInt])) (.int _ _)
     next k hk=>
       rw[hk]at hx;split at h
       next es hes=>
         cases h;generalize hv:a.eval x=v at hx;cases hx with
         |map _ rr hD hrr=>
           obtain⟨g1,_,ents,clock,g3,g4,_⟩:=S.obj k _ hD hes;have hrr':=hrr g1;subst hrr';have hobj:(getObj (ρ k).blk).run P w=.ok (.map ents clock) w:=by simp[getObj,Sem.run,g3]
           exact .mk (fin (.int .i64 es.length) (by rw[hv];simp[Builtin.len_,run_underlying hd,goInt,hobj,g4])) (.int _ _)
       ·cases h
     ·cases h
   ·cases h
 ·grind
 ·grind
 · -- min
   rename_i xs tys;simp only[evOp]at h;obtain⟨q,hq,rfl,rfl⟩:=qbr h;rw[List.map_map]at hq;obtain⟨v,hr,hv⟩:=qqt (P:=P) (w:=w) (I:=I) (D:=D) (ρ:=ρ) hq (vs:=c.args.toList.map a.eval) (by simp) (qj9 E _) c.argTypes o.type;refine .mk ?_ hv;unfold execOp;rw[hop];have hr':(Builtin.min_ c.argTypes o.type (c.args.map a.eval)).run P w=.ok v w:=by have e1:(c.args.map a.eval)=(c.args.toList.map a.eval).toArray:=Array.ext' (by rw[Array.toList_map]);rw[e1];exact hr
   simp[resolve,invoke,builtin,hc,hr']
 next xs tys=>
   simp only[evOp]at h;obtain⟨q,hq,rfl,rfl⟩:=qbr h;rw[List.map_map]at hq;obtain⟨v,hr,hv⟩:=qqt (P:=P) (w:=w) (I:=I) (D:=D) (ρ:=ρ) hq (vs:=c.args.toList.map a.eval) (by simp) (qj9 E _) c.argTypes o.type;refine .mk ?_ hv;unfold execOp;rw[hop];have hr':(Builtin.max_ c.argTypes o.type (c.args.map a.eval)).run P w=.ok v w:=by have e1:(c.args.map a.eval)=(c.args.toList.map a.eval).toArray:=Array.ext' (by rw[Array.toList_map]);rw[e1];exact hr
   simp[resolve,invoke,builtin,hc,hr']
 ·cases h
end
end Go.AE
namespace Go.AE
open Go
section
variable {P:Program}{T:Tbl}{call:FuncId→List PV→List Obj→Option qam}{rm:Bool}{o:Oper}{e:List PV}{s s':St}{r:OR}
 {w:World}{I:Nat→Nat→Prop}{D:Nat→Prop}{ρ:Nat→Row}{nt:Nat}{a:Act}
def qpt(w:World)(I:Nat→Nat→Prop)(D:Nat→Prop)(ρ:Nat→Row)(s s':St)(p:PV)(K:Value→World→Prop):Prop:=
 ∀v w' I' ρ',Nxt w I D ρ w' I' (ext D s.h.length s'.h.length) ρ'→Sim w' I' (ext D s.h.length s'.h.length) ρ' s'.h→VR w' I' (ext D s.h.length s'.h.length) ρ' p v→K v w'
theorem qhh.wp(m:qhh P o s s' r w I D ρ a){next:Act→World→Prop}{Q:Exit→Act→World→Prop}(hval:∀p,r=.val p→qpt w I D ρ s s' p fun v w'=>next (a.put o.dst v) w'):o.wp P a w next Q:=by
 obtain⟨p,v,w',I',ρ',rfl,hr,N,S,V⟩:=m;have h:=hval p rfl v w' I' ρ' N S V;unfold Oper.wp;rcases hr with hr|⟨hr,rfl⟩
 ·rw[hr];exact h
 ·rw[hr];exact h
theorem qka{xs ys:List PV}{vs us:List Value}(h1:VRs w I D ρ xs vs)(h2:VRs w I D ρ ys us):VRs w I D ρ (xs++ys) (vs++us):=by
 refine⟨by simp[h1.1,h2.1],fun j=>?_⟩;simp only[gD0,List.getElem?_append,h1.1];split
 ·simpa[gD0]using h1.2 j
 ·simpa[gD0]using h2.2 (j - xs.length)
theorem qg9(hT:∀f p,T.prim f=some p→qev P f p)(hC:qd0 P call)(S:Sim w I D ρ s.h)(E:EnvR w I D ρ nt e a)(h:evOp T call (qar P rm o.op) e s=some (r,s'))
 {next:Act→World→Prop}{Q:Exit→Act→World→Prop}(hval:∀p,r=.val p→qpt w I D ρ s s' p fun v w'=>next (a.put o.dst v) w')
 (hpan:∀p,r=.pan p→qpt w I D ρ s s' p fun v w'=>Q (.panic [{v,recovered:=false}]) a w'):o.wp P a w next Q:=by
 have bad:∀{op:Op},o.op=op→qar P rm op=.bad→o.wp P a w next Q:=by
  intro op h1 h2
  rw[h1,h2]at h
  simp[evOp]at h
 cases hop:o.op with
 |move x=>exact(q_move E (.inl hop) h).moves S|>.wp hval
 |assign x=>exact(q_move E (.inr hop) h).moves S|>.wp hval
 |pick c x y=>exact(q_pick E hop h).moves S|>.wp hval
 |alloc t=>exact(m_alloc S hop h).wp hval
 |box t x=>exact(m_box S E hop h).wp hval
 |build t ps=>exact(q_build E hop h).moves S|>.wp hval
 |buildSlice t n ps=>exact(qqx S E hop h).wp hval
 |insert t m k v=>exact bad hop rfl
 |load t x=>exact(q_load S E hop h).moves S|>.wp hval
 |store t x y=>exact(m_store S E hop h).wp hval
 |ready g=>exact bad hop rfl
 |waits g=>exact bad hop rfl
 |nilCheck x=>exact(q_nilCheck E hop h).moves S|>.wp hval
 |binOp op t x y yt=>exact(q_bin E hop h).moves S|>.wp hval
 |unOp op t x=>exact(q_un E hop h).moves S|>.wp hval
 |convert t1 t2 x=>
   by_cases hb:qar P rm o.op=.bytesOf (cx x)
   ·exact(m_bytes S E hop hb h).wp hval
   · refine(q_convert S E hop (fun y hy=>?_) h).moves S|>.wp hval
     apply hb
     rw[hop]at hy⊢
     simp only[qar]at hy
     split at hy<;>first
      |(cases hy;done)
      |(split at hy<;>first
       |(cases hy;done)
       |(simp only[qar, *]))
 |sliceToArrayPointer t x=>exact bad hop rfl
 |makeInterface t x=>exact(q_mkIface E hop h).moves S|>.wp hval
 |makeFunc fn f c=>exact(q_mkFunc E hop h).moves S|>.wp hval
 |makeMap t rs=>exact(m_makeMap S hop h).wp hval
 |makeChan t x=>exact bad hop rfl
 |makeSlice t l c=>exact(qss S E hop h).wp hval
 |slice t x lo hi mx=>exact(q_slice S E hop h).moves S|>.wp hval
 |fieldAddr t x f=>exact(qsn E hop h).moves S|>.wp hval
 |field t x f=>exact(q_field E hop h).moves S|>.wp hval
 |indexAddr t x i=>exact(qsm S E hop h).moves S|>.wp hval
 |index t x i=>exact(q_index E hop h).moves S|>.wp hval
 |lookup t m i ok=>exact(q_lookup S E hop h).moves S|>.wp hval
 |mapUpdate t m k x=>exact(qsr S E hop h).wp hval
 |mapEntry t m k=>exact bad hop rfl
 |entryStore t m st x=>exact bad hop rfl
 |range t x=>exact bad hop rfl
 |next it b=>exact bad hop rfl
 |entry it=>exact bad hop rfl
 |typeAssert x xt t ok=>exact(qqi E hop h).moves S|>.wp hval
 |extract x i=>exact(q_extract E hop h).moves S|>.wp hval
 |go c=>exact bad hop rfl
 |defer c=>exact bad hop rfl
 |send c x=>exact bad hop rfl
 |recv t c ok=>exact bad hop rfl
 |select cs b=>exact bad hop rfl
 |panic x=>
   rw[hop]at h
   simp only[qar,evOp]at h
   have hx:=E.eval x
   split at h
   next t p hk=>
     rw[hk]at hx
     cases h
     have hr:(execOp a.eval o).run P w=.halt (.panic (a.eval x)) w:=by
      unfold execOp;rw[hop]
      generalize hv:a.eval x=v at hx
      cases hx
      simp[hv,Instr.panic]
     have:=hpan _ rfl (a.eval x) w I ρ (by rw[qay];exact Nxt.refl _ _ _ _) (by rw[qay];exact S) (by rw[qay];exact hx)
     unfold Oper.wp
     rw[hr]
     exact this
   ·cases h
 |call c=>
   cases hc:c.callee with
   |builtin b=>
     by_cases hb:b=.append
     · subst hb
       by_cases hshape:∃x y t u,c.args=#[x,y]∧c.argTypes=#[t,u]
       · obtain⟨x,y,t,u,h1,h2⟩:=hshape
         refine(m_append (x:=x) (y:=y) (t:=t) (u:=u) S E hop ?_ h).wp hval
         cases c;simp_all
       · refine bad hop ?_
         simp only[qar,qdg,hc]
         rcases hl:c.args.toList with _|⟨x,_|⟨y,_|⟨z,l⟩⟩⟩<;>rcases ht:c.argTypes.toList with _|⟨t,_|⟨u,_|⟨v,m⟩⟩⟩<;>first
          |rfl
          |exact absurd ⟨x,y,t,u,Array.toList_inj.1 (by rw[hl]),Array.toList_inj.1 (by rw[ht])⟩ hshape
     · by_cases hb2:b=.copy
       · subst hb2
         by_cases hshape:∃x y t u,c.args=#[x,y]∧c.argTypes=#[t,u]
         · obtain⟨x,y,t,u,h1,h2⟩:=hshape
           rw[hop]at h
           simp only[qar,qdg,hc,h1,h2]at h
           split at h
           next el e' hd hu=>
             split at h
             next sz hs=>
               refine(m_copy (o:=o) (ty:=o.type) S E hd hu hs (fun v' w' hr=>?_) h).wp hval
               unfold execOp;rw[hop]
               cases c
               simp only at hc h1 h2
               subst hc h1 h2
               simp[resolve,invoke,builtin,hr]
             ·simp only[evOp]at h;cases h
           ·simp only[evOp]at h;cases h
         · refine bad hop ?_
           simp only[qar,qdg,hc]
           rcases hl:c.args.toList with _|⟨x,_|⟨y,_|⟨z,l⟩⟩⟩<;>rcases ht:c.argTypes.toList with _|⟨t,_|⟨u,_|⟨v,m⟩⟩⟩<;>first
            |rfl
            |exact absurd ⟨x,y,t,u,Array.toList_inj.1 (by rw[hl]),Array.toList_inj.1 (by rw[ht])⟩ hshape
       ·exact(q_builtin S E hop hc hb hb2 h).moves S|>.wp hval
   |invoke rv name=>exact bad hop (by simp[qar,qdg,hc])
   |value f=>
     rw[hop]at h
     simp only[qar,qdg,hc,evOp]at h
     have hf:=E.eval f
     split at h
     next fid first captured hk=>
       rw[hk]at hf
       generalize hv:a.eval f=v at hf
       cases hf with
       |func _ _ _ fv cv h1 h2 h3 h4=>
         have hargs:VRs w I D ρ (first++(c.args.toList.map cx).map (ax e)++captured) (fv.toList++c.args.toList.map a.eval++cv.toList):=
          qka (qka ⟨by simpa using h1,h3⟩ ⟨by simp,by rw[List.map_map];exact fun j=>qj9 E _ j⟩) ⟨by simpa using h2,h4⟩
         have e1:fv++c.args.map a.eval++cv=(fv.toList++c.args.toList.map a.eval++cv.toList).toArray:=by grind
         have hrun:(execOp a.eval o).run P w=(callFunc fid (fv.toList++c.args.toList.map a.eval++cv.toList).toArray).run P w:=by
          rw[←e1]
          unfold execOp;rw[hop]
          simp[resolve,hc,hv,Deferred.ofValue,invoke]
         split at h
         next p hp=>
           obtain⟨q,hq,rfl,rfl⟩:=qbr h
           obtain⟨fn,g1,g2,g3,g4,g5⟩:=hT _ _ hp
           obtain⟨x,hx,hvx⟩:=prim_run (P:=P) hq hargs
           have hn : fn.name ≠ "runtime.NumGoroutine" := by simpa using g2
           have hbn:fn.body=none:=by simpa using g3
           have gen:∀L:Array Value,(qk3 p L).run P w=.ok x w→(callFunc fid L).run P w=.ok (.value x) w:=fun L hL=>by
            simp[callFunc,g1,hn,hbn,g4,g5,hL]
           have hr2:=gen _ hx
           have:=hval _ rfl x w I ρ (by rw[qay];exact Nxt.refl _ _ _ _) (by rw[qay];exact S) (by rw[qay];exact hvx)
           unfold Oper.wp
           rw[hrun,hr2]
           exact this
         · split at h
           next r' s1 hcl=>
             cases h
             obtain⟨g1,_,g3⟩:=hC _ _ _ _ _ hcl
             have hr2:=run_callFunc_enter (P:=P) g1 (fv.toList++c.args.toList.map a.eval++cv.toList).toArray w
             have hcalls:=g3 w I D ρ _ S hargs
             unfold Oper.wp
             rw[hrun,hr2]
             refine hcalls.mono fun en w' hp=>?_
             obtain⟨I',ρ',N,S',hE⟩:=hp
             cases r with
             |val p=>
               cases en with
               |returned x=>exact hval p rfl x w' I' ρ' N S' hE
               |_=>exact hE.elim
             |pan p=>
               cases en with
               |panicked ch=>
                 obtain⟨x,rfl,hx⟩:=hE
                 exact hpan p rfl x w' I' ρ' N S' hx
               |_=>exact hE.elim
           ·grind
     ·cases h
theorem qcw{ops:Array Oper}{g:Option (Nat×Bool)}{G:Option (Nat×Bool)}{b:Bool}(E:EnvR w I D ρ nt e a)(hs:qno ops G=some g)(hd:∀d q,g=some (d,q)→d<nt)(h:qbk g e=some b){o:Oper}(ho:o.guard=G):Region.wanted o (yielded ops a.tmps)=b:=by
 unfold qno at hs;split at hs
 · cases hs;simp[qbk]at h;subst h;unfold Region.wanted;rw[ho]
 next j want=>
   split at hs
   next d hdd=>
     cases hs;have hlt:=hd d want rfl;simp only[qbk]at h;split at h
     next b' hb=>
       cases h;have hv:=E.at_ d;rw[hb]at hv;have hget:a.tmps[d]?=some (a.tmps.getD d undef):=by rw[Array.getD_eq_getD_getElem?,Array.getElem?_eq_getElem (by rw[E.size];exact hlt)];rfl
       generalize a.tmps.getD d undef=u at hv hget;cases hv;unfold Region.wanted;rw[ho];simp only[yielded,hdd,Option.bind_some,hget];cases b'<;>cases want<;>rfl
     next hb=>
       cases h;have hv:=E.at_ d;rw[hb]at hv;have hget:a.tmps[d]?=some (a.tmps.getD d undef):=by rw[Array.getD_eq_getD_getElem?,Array.getElem?_eq_getElem (by rw[E.size];exact hlt)];rfl
       generalize a.tmps.getD d undef=u at hv hget;cases hv;unfold Region.wanted;rw[ho];simp only[yielded,hdd,Option.bind_some,hget];cases want<;>rfl
     ·cases h
   ·cases hs
end
end Go.AE
namespace Go.AE
open Go
def Obj.top:Obj→Option Nat
 |.row _ es=>tops es
 |.tok _ _=>none
 |.map es=>omax (tops (es.map (·.1))) (tops (es.map (·.2)))
def ge(b:Nat)(t:Option Nat):Prop:=∃j,t=some j∧b≤j
theorem qfx{b:Nat}{x y:Option Nat}:ge b (omax x y)↔ge b x∨ge b y:=by cases x<;>cases y<;>simp[omax,ge];omega
theorem qfe{b:Nat}:¬ge b none:=by simp[ge]
theorem qb5{b:Nat}:∀{l:List PV},ge b (tops l)↔∃x∈l,ge b x.top
 |[]=>by simp[tops,ge]
 |x::xs=>by rw[tops,qfx,qb5];simp
theorem qfp{b:Nat}{p:PV}:(∃x∈p.cells,ge b x.top)↔ge b p.top:=by cases p<;>simp[PV.cells,PV.top,qb5]
structure Step (s s':St):Prop where
 len:s.h.length≤s'.h.length
 quiet:∀k,k<s.h.length→s'.h[k]?≠s.h[k]?→k∈s'.ws
 ws:∀k,k∈s.ws→k∈s'.ws
 upsM:∀x∈s.ups,x∈s'.ups
 up:∀b,b≤s.h.length→∀k,k<b→ge b ((s'.h[k]?).bind Obj.top)→ge b ((s.h[k]?).bind Obj.top)∨∃x∈s'.ups,x.1<b∧b≤x.2
theorem Step.refl(s:St):Step s s:=⟨nR0 _,fun _ _ h=>absurd rfl h,fun _ h=>h,fun _ h=>h,fun _ _ _ _ h=>.inl h⟩
theorem Step.trans{s s' s'':St}(h:Step s s')(h':Step s' s''):Step s s'' where
 len:=nT0 h.len h'.len
 quiet k hk hne:=by
  by_cases he:s''.h[k]?=s'.h[k]?
  ·exact h'.ws k (h.quiet k hk (by rw[←he];exact hne))
  ·exact h'.quiet k (Nat.lt_of_lt_of_le hk h.len) he
 ws k hk:=h'.ws k (h.ws k hk)
 upsM x hx:=h'.upsM x (h.upsM x hx)
 up b hb k hk hg:=by
  rcases h'.up b (nT0 hb h.len) k hk hg with h1|h1
  · rcases h.up b hb k hk h1 with h2|⟨x,hx,h2⟩
    ·exact .inl h2
    ·exact .inr ⟨x,h'.upsM x hx,h2⟩
  ·exact .inr h1
theorem Step.alloc(o:Obj)(s:St):Step s (alloc o s)where
 len:=by simp[AE.alloc]
 quiet k hk hne:=absurd (by simp[AE.alloc,gL0 hk]) hne
 ws _ h:=h
 upsM _ h:=h
 up b hb k hk hg:=.inl (by simpa[AE.alloc,gL0 (show k<s.h.length by omega)]using hg)
theorem qa3{j k:Nat}{l:List Nat}:j∈wadd k l↔j=k∨j∈l:=by
 unfold wadd;split
 ·grind
 ·grind
theorem qat{j:Nat}{a b:List Nat}:j∈wall a b↔j∈a∨j∈b:=by
 induction a with
 |nil=>simp[wall]
 |cons x a ih=>
   show j∈wadd x (wall a b)↔_;rw[qa3,ih,mN0,or_assoc]
theorem Step.wrote{k:Nat}{o:Obj}{up:Option Nat}{s:St}(hup:∀b,ge b o.top→ge b ((s.h[k]?).bind Obj.top)∨ge b up):Step s (wrote k o up s)where
 len:=by simp[AE.wrote]
 quiet j hj hne:=by
  have:j=k:=by
   rcases Decidable.em (j=k)with h|h
   ·exact h
   ·exact absurd (by simp only[AE.wrote];rw[List.getElem?_set_ne (fun e=>h e.symm)]) hne
  subst this;exact qa3.2 (.inl rfl)
 ws j hj:=qa3.2 (.inr hj)
 upsM x hx:=by
  simp only[AE.wrote];split
  ·grind
  ·exact hx
 up b hb j hj hg:=by
  by_cases hjk:j=k
  · subst hjk;simp only[AE.wrote]at hg;rw[List.getElem?_set_self (by omega)]at hg;simp only[Option.bind_some]at hg;rcases hup b hg with h|⟨q,h1,h2⟩
    ·exact .inl h
    · refine .inr ⟨(j,q),?_,hj,h2⟩;simp only[AE.wrote,h1];rw[if_pos (by omega)];simp
  · simp only[AE.wrote]at hg;rw[List.getElem?_set_ne (fun e=>hjk e.symm)]at hg;exact .inl hg
theorem ge_upd{b:Nat}{c x c':PV}{off:Nat}(h:upd c off x=some c')(hg:ge b c'.top):ge b c.top∨ge b x.top:=by
 unfold upd at h;split at h
 next cs=>
   split at h
   · cases h;simp only[PV.top,qb5]at hg;exact .inr (qfp.1 hg)
   · split at h
     · cases h;simp only[PV.top,qb5]at hg;obtain⟨y,hy,hg⟩:=hg;simp only[mA0]at hy;rcases hy with(hy|hy)|hy
       ·exact .inl (by simp only[PV.top,qb5];exact⟨y,List.mem_of_mem_take hy,hg⟩)
       ·exact .inr (qfp.1 ⟨y,hy,hg⟩)
       ·exact .inl (by simp only[PV.top,qb5];exact⟨y,List.mem_of_mem_drop hy,hg⟩)
     ·cases h
 ·grind
theorem ge_putK{b:Nat}{p q:PV}:∀{es es':List (PV×PV)},putK p q es=some es'→ge b (Obj.map es').top→ge b (Obj.map es).top∨ge b p.top∨ge b q.top
 |[],es',h,hg=>by
   simp[putK]at h;subst h;simp only[Obj.top,List.map_cons,List.map_nil,qfx,qb5]at hg;rcases hg with⟨x,hx,hg⟩|⟨x,hx,hg⟩<;>simp at hx<;>subst hx
   ·grind
   ·grind
 |(k,v)::es,es',h,hg=>by
   simp only[putK]at h;split at h
   · cases h;simp only[Obj.top,List.map_cons,qfx,qb5,mN0]at hg⊢;rcases hg with⟨x,hx,hg⟩|⟨x,hx,hg⟩
     ·grind
     ·grind
   · simp only[oM0]at h;obtain⟨es1,h1,rfl⟩:=h;have ih:=@ge_putK b p q es es1 h1;simp only[Obj.top,List.map_cons,qfx,qb5,mN0]at hg ih⊢;rcases hg with⟨x,hx,hg⟩|⟨x,hx,hg⟩
     · rcases hx with rfl|hx
       ·grind
       · rcases ih (.inl ⟨x,hx,hg⟩)with(⟨y,hy,h2⟩|⟨y,hy,h2⟩)|h2
         ·grind
         ·grind
         ·grind
     · rcases hx with rfl|hx
       ·grind
       · rcases ih (.inr ⟨x,hx,hg⟩)with(⟨y,hy,h2⟩|⟨y,hy,h2⟩)|h2
         ·grind
         ·grind
         ·grind
   ·cases h
theorem isKey_top{kk:KK}{p:PV}(h:qe3 kk p=true):p.top=none:=by cases kk<;>cases p<;>simp[qe3]at h<;>rfl
theorem Step.storeAt{sz:Nat}{a x:PV}{s s':St}(h:storeAt sz a x s=some s'):Step s s':=by
 unfold AE.storeAt at h;split at h
 next k i off tip=>
   split at h
   next rsz es hk=>
     split at h
     · split at h
       next c hc=>
         simp only[oM0]at h;obtain⟨c',hu,rfl⟩:=h;refine Step.wrote fun b hg=>?_;simp only[Obj.top,qb5]at hg;obtain⟨y,hy,hg⟩:=hg;rw[hk];simp only[Option.bind_some,Obj.top,qb5];rcases List.mem_or_eq_of_mem_set hy with hy|rfl
         ·grind
         · rcases ge_upd hu hg with h1|h1
           ·grind
           ·grind
       ·cases h
     ·cases h
   ·cases h
 ·cases h
theorem Step.appendop{sz bytes:Nat}{a x v:PV}{s s':St}(h:appendop sz bytes a x s=some (v,s')):Step s s':=by
 unfold AE.appendop at h;split at h
 · split at h
   ·cases h;exact .refl _
   · split at h
     · split at h
       ·cases h;exact .alloc _ _
       ·cases h;exact .alloc _ _
       ·cases h;exact .alloc _ _
       · split at h
         · split at h
           ·cases h;exact Step.wrote fun b hg=>absurd hg qfe
           ·grind
         ·cases h
       ·cases h
     ·cases h
 ·cases h
theorem Step.copyop{sz:Nat}{a x v:PV}{s s':St}(h:copyop sz a x s=some (v,s')):Step s s':=by
 unfold AE.copyop at h;split at h
 · split at h
   next k dsz off len tip=>
     split at h
     next rsz es hk=>
       split at h
       · split at h
         ·cases h;exact .refl _
         · cases h;refine Step.wrote fun b hg=>?_;rw[hk];simp only[Obj.top,qb5,mA0,Option.bind_some]at hg⊢;obtain⟨y,(hy|hy)|hy,hg⟩:=hg
           ·grind
           ·grind
           ·grind
       ·cases h
     ·cases h
   ·cases h
 ·cases h
def qa7(call:FuncId→List PV→List Obj→Option qam):Prop:=∀f args h r s',call f args h=some (r,s')→Step {h,ws:=[],ups:=[]} s'
theorem qfc{x:Option PV}{s s':St}{r:OR}(h:oval x s=some (r,s')):Step s s':=by simp only[oval,oM0]at h;obtain⟨p,_,he⟩:=h;cases he;exact .refl _
theorem qdy {T:Tbl} {call:FuncId→List PV→List Obj→Option qam} (hC:qa7 call) {o:AOp} {e:List PV} {s s':St} {r:OR} (h:evOp T call o e s=some (r,s')):Step s s':=by
 have some':∀ {x:OR × St},some x=some (r,s')→Step s x.2→Step s s':=fun he hs => by cases he; exact hs
 cases o <;> simp only [evOp] at h <;> first
  | (cases h; done)
  | exact qfc h
  | (cases h; first | exact .refl _ | exact .alloc _ _)
  | (simp only [oM0] at h
     obtain ⟨x,hx,he⟩:=h;cases he
     first
      | exact Step.storeAt hx
      | exact Step.appendop hx
      | exact Step.copyop hx)
  | skip
 case pick => split at h <;> cases h; exact .refl _
 case box => split at h <;> cases h; exact .alloc _ _
 case nilCheck => split at h <;> cases h <;> exact .refl _
 case un => split at h <;> cases h <;> exact .refl _
 case convInt => split at h <;> cases h; exact .refl _
 case convStr => split at h <;> cases h; exact .refl _
 case bytesOf =>
  split at h
  · split at h <;> cases h; exact .alloc _ _
  · cases h
 case strOf =>
  split at h
  · exact qfc h
  · cases h
 case makeSlice =>
  split at h
  · split at h <;> cases h; exact .alloc _ _
  · cases h
 case fieldAddr => split at h <;> cases h <;> exact .refl _
 case field =>
  split at h
  · exact qfc h
  · cases h
 case idxArr =>
  split at h
  · split at h <;> cases h; exact .refl _
  · split at h <;> cases h; exact .refl _
  · cases h
 case idxStr =>
  split at h
  · split at h
    · exact qfc h
    · cases h
  · cases h
 case idxVal =>
  split at h
  · split at h
    · exact qfc h
    · cases h
  · cases h
 case lookup =>
  split at h
  · split at h <;> cases h; exact .refl _
  · split at h
    · split at h
      · split at h <;> cases h <;> exact .refl _
      · cases h
    · cases h
  · cases h
 case mapUpd =>
  split at h
  · split at h
    next es hes =>
      split at h
      next hkey =>
        simp only [oM0] at h;obtain ⟨es',hp,he⟩:=h;cases he;refine Step.wrote fun b hg => ?_;rw [hes];rcases ge_putK hp hg with h1 | h1 | h1
        · grind
        · rw [isKey_top hkey] at h1; exact absurd h1 qfe
        · grind
      · cases h
    · cases h
  · cases h
 case extract =>
  split at h
  · exact qfc h
  · cases h
 case typeAssert =>
  split at h
  · split at h
    · cases h; exact .refl _
    · split at h <;> cases h; exact .refl _
  · split at h <;> cases h; exact .refl _
  · cases h
 case lenS => split at h <;> cases h; exact .refl _
 case lenL => split at h <;> cases h <;> exact .refl _
 case lenM =>
  split at h
  · cases h; exact .refl _
  · split at h <;> cases h; exact .refl _
  · cases h
 case call =>
  split at h
  · split at h
    · exact qfc h
    · split at h
      next r' s1 hc =>
        cases h;have hs:=hC _ _ _ _ _ hc;refine ⟨hs.len,fun k hk hne => qat.2 (.inl (hs.quiet k hk hne)),fun k hk => qat.2 (.inr hk),fun x hx => mA0.2 (.inr hx),fun b hb k hk hg => ?_⟩
        · rcases hs.up b hb k hk hg with h1 | ⟨x,hx,h1⟩
          · grind
          · grind
      · cases h
  · cases h
 case pan => split at h <;> cases h; exact .refl _
theorem Step.relo{s s':St}(h:Step {s with ws:=[]} s'):Step s {s' with ws:=wall s'.ws s.ws}where
 len:=h.len
 quiet k hk hne:=qat.2 (.inl (h.quiet k hk hne))
 ws k hk:=qat.2 (.inr hk)
 upsM:=h.upsM
 up:=h.up
section
variable {T:Tbl}{call:FuncId→List PV→List Obj→Option qam}
theorem qhw(hC:qa7 call):∀{os:List AOper}{e:List PV}{s:St}{q:Option PV}{e':List PV}{s':St},qgp T call os e s=some (q,e',s')→Step s s'
 |[],e,s,q,e',s',h=>by simp only[qgp]at h;cases h;exact .refl _
 |o::os,e,s,q,e',s',h=>by
   simp only[qgp]at h;split at h
   ·cases h
   ·exact qhw hC h
   · split at h
     next v s1 h1=>
       exact(qdy hC h1).trans (qhw hC h)
     next v s1 h1=>
       cases h;exact qdy hC h1
     ·cases h
theorem Step.cutAt{s s':St}(st:Step s s'):Step s (AE.cutAt s.h.length s')where
 len:=by have:=st.len;simp[AE.cutAt];omega
 quiet k hk hne:=st.quiet k hk (by simpa[AE.cutAt,List.getElem?_take,hk]using hne)
 ws k hk:=st.ws k hk
 upsM x hx:=st.upsM x hx
 up b hb k hk hg:=st.up b hb k hk (by
  have hk':k<s.h.length:=by omega
  simpa[AE.cutAt,List.getElem?_take,hk']using hg)
theorem qdm(hC:qa7 call):∀{os:List AOper}{past:Past}{e:List PV}{s:St}{q:Option (PV×Bool)}{e':List PV}{s':St},qey T call os past e s=some (q,e',s')→Step s s'
 |[],past,e,s,q,e',s',h=>by simp only[qey]at h;cases h;exact .refl _
 |o::os,past,e,s,q,e',s',h=>by
   simp only[qey]at h;split at h
   ·cases h
   ·exact qdm hC h
   · split at h
     next v s1 h1=>
       split at h
       ·exact(qdy hC h1).relo.trans (qdm hC h)
       ·cases h
     next v s1 h1=>
       split at h
       · cases h;exact(qdy hC h1).relo
       ·cases h
     ·cases h
theorem qik{f:List PV→St→Option (AExit×List PV×St)}(hf:∀e s x e' s',f e s=some (x,e',s')→Step s s'):∀{n:Nat}{e:List PV}{s:St}{x:AExit}{e':List PV}{s':St},qfr f n e s=some (x,e',s')→Step s s'
 |0,e,s,x,e',s',h=>by simp[qfr]at h
 |n+1,e,s,x,e',s',h=>by
   simp only[qfr]at h;split at h
   next e1 s1 h1=>
     exact(hf _ _ _ _ _ h1).trans (qik hf h)
   ·grind
theorem qja{fa fb:List PV→St→Option (AExit×List PV×St)}(ha:∀e s x e' s',fa e s=some (x,e',s')→Step s s')(hb:∀e s x e' s',fb e s=some (x,e',s')→Step s s'){ps:List Nat}{e:List PV}:
 ∀{yss:List (List PV)}{s:St}{x:AExit}{e':List PV}{s':St},qdf fa fb ps e yss s=some (x,e',s')→Step s s'
 |[],s,x,e',s',h=>by simp only[qdf]at h;cases h;exact .refl _
 |ys::rest,s,x,e',s',h=>by
   simp only[qdf]at h;split at h
   · split at h
     next e1 s1 h1=>
       have st1:=ha _ _ _ _ _ h1;split at h
       next h2=>
         exact(st1.trans (hb _ _ _ _ _ h2)).trans (qja ha hb h)
       next h2=>
         cases h;exact st1.trans (hb _ _ _ _ _ h2)
       next h2=>
         cases h;exact st1.trans (hb _ _ _ _ _ h2)
       ·cases h
     ·cases h
   ·cases h
theorem qa2(hC:qa7 call)(n:Nat):∀{c:ACode}{e:List PV}{s:St}{x:AExit}{e':List PV}{s':St},qa0 T call n c e s=some (x,e',s')→Step s s'
 |.skip,e,s,x,e',s',h=>by simp only[qa0]at h;cases h;exact .refl _
 |.reg ops,e,s,x,e',s',h=>by
   simp only[qa0]at h;split at h<;>cases h<;>(rename_i h1;exact qhw hC h1)
 |.regD ops,e,s,x,e',s',h=>by
   simp only[qa0]at h;split at h
   ·cases h;rename_i h1;exact qdm hC h1
   ·cases h;rename_i h1;exact qdm hC h1
   next h1=>
     split at h
     ·cases h;exact(qdm hC h1).cutAt
     ·cases h
   ·cases h
 |.seq a b,e,s,x,e',s',h=>by
   simp only[qa0]at h;split at h
   next e1 s1 h1=>
     exact(qa2 hC n h1).trans (qa2 hC n h)
   ·exact qa2 hC n h
 |.cond c a b,e,s,x,e',s',h=>by
   simp only[qa0]at h;split at h
   ·exact qa2 hC n h
   ·exact qa2 hC n h
   ·cases h
 |.block id b,e,s,x,e',s',h=>by
   simp only[qa0]at h;split at h
   next i e1 s1 h1=>
     split at h<;>cases h<;>exact qa2 hC n h1
   ·exact qa2 hC n h
 |.loop b,e,s,x,e',s',h=>by
   simp only[qa0]at h;exact qik (fun e s x e' s' h=>qa2 hC n h) h
 |.range g ps a b,e,s,x,e',s',h=>by
   simp only[qa0]at h;split at h
   · split at h
     · split at h
       ·exact qja (fun e s x e' s' h=>qa2 hC n h) (fun e s x e' s' h=>qa2 hC n h) h
       ·cases h
     ·cases h
   ·cases h
 |.exit id,e,s,x,e',s',h=>by simp only[qa0]at h;cases h;exact .refl _
 |.ret,e,s,x,e',s',h=>by simp only[qa0]at h;cases h;exact .refl _
 |.bad,e,s,x,e',s',h=>by simp only[qa0]at h;cases h
theorem Step.below{h:List Obj}{s:St}(st:Step {h,ws:=[],ups:=[]} s):Step {h,ws:=[],ups:=[]} {s with ws:=AE.below h.length s.ws}where
 len:=st.len
 quiet k hk hne:=by have hk':k<h.length:=hk;exact List.mem_filter.2 ⟨st.quiet k hk hne,by simpa using hk'⟩
 ws k hk:=by cases hk
 upsM x hx:=by cases hx
 up:=st.up
theorem Step.cut{h:List Obj}{s:St}(st:Step {h,ws:=[],ups:=[]} s):Step {h,ws:=[],ups:=[]} {h:=s.h.take h.length,ws:=AE.below h.length s.ws,ups:=s.ups.filter fun(k,_)=>k<h.length}where
 len:=by have:=st.len;simp at this⊢;omega
 quiet k hk hne:=by have hk':k<h.length:=hk;refine st.below.quiet k hk ?_;simpa[List.getElem?_take,hk']using hne
 ws k hk:=by cases hk
 upsM x hx:=by cases hx
 up b hb k hk hg:=by
  have hk':k<h.length:=Nat.lt_of_lt_of_le hk hb;simp only[List.getElem?_take,hk',if_true]at hg;rcases st.up b hb k hk hg with h1|⟨x,hx,h1,h2⟩
  ·exact .inl h1
  ·grind
theorem qlo{mode:Nat}{o:OR}{h:List Obj}{s:St}(st:Step {h,ws:=[],ups:=[]} s):Step {h,ws:=[],ups:=[]} (tidy mode h.length o s).2:=by
 unfold tidy;split
 ·exact st.below
 · split
   ·exact st.below
   · split
     ·exact st.below
     ·exact st.cut
theorem qgj(hC:qa7 call){n mode:Nat}{f:AFunc}{args:List PV}{h:List Obj}{r:OR}{s':St}(hb:qfg T call n mode f args h=some (r,s')):Step {h,ws:=[],ups:=[]} s':=by
 unfold qfg at hb;split at hb
 · split at hb
   next e s h1=>
     simp only[oM0]at hb;obtain⟨vs,_,he⟩:=hb;have:=qlo (mode:=mode) (o:=.val (qdq vs)) (qa2 hC n h1);rw[he]at this;exact this
   next e s h1=>
     simp only[oM0]at hb;obtain⟨vs,_,he⟩:=hb;have:=qlo (mode:=mode) (o:=.val (qdq vs)) (qa2 hC n h1);rw[he]at this;exact this
   next v e s h1=>
     have he:=Option.some.inj hb;have:=qlo (mode:=mode) (o:=.pan v) (qa2 hC n h1);rw[he]at this;exact this
   ·cases hb
 ·cases hb
theorem qdn(hS:∀f sp,T.sp f=some sp→∀call,qa7 call→∀args h r s',sp call args h=some (r,s')→Step {h,ws:=[],ups:=[]} s'):∀n,qa7 (qbz T n)
 |0,f,args,h,r,s',hc=>by simp[qbz]at hc
 |n+1,f,args,h,r,s',hc=>by
   simp only[qbz]at hc;split at hc
   next sp hsp=>
     exact hS f sp hsp _ (qdn hS n) args h r s' hc
   · split at hc
     ·exact qgj (qdn hS n) hc
     ·cases hc
end
end Go.AE
namespace Go.AE
open Go
section
variable {P:Program}{T:Tbl}{call:FuncId→List PV→List Obj→Option qam}{rows:List Nat}{nt:Nat}
structure AfterOps (w:World)(I:Nat→Nat→Prop)(D:Nat→Prop)(ρ:Nat→Row)(nt:Nat)(ds:List Deferred)(s s':St)(po:Option PV)(e':List PV)(Q:Exit→Act→World→Prop):Prop where
 fin:po=none→∀a' w' I' ρ',Nxt w I D ρ w' I' (ext D s.h.length s'.h.length) ρ'→Sim w' I' (ext D s.h.length s'.h.length) ρ' s'.h→EnvR w' I' (ext D s.h.length s'.h.length) ρ' nt e' a'→a'.defers=ds→Q .normal a' w'
 pan:∀p,po=some p→∀a' w' I' ρ' v,Nxt w I D ρ w' I' (ext D s.h.length s'.h.length) ρ'→Sim w' I' (ext D s.h.length s'.h.length) ρ' s'.h→VR w' I' (ext D s.h.length s'.h.length) ρ' p v→a'.defers=ds→Q (.panic [{v,recovered:=false}]) a' w'
theorem qe5{ops:Array Oper}{o:Oper}{c:AOper}(h:qbl P rows nt ops o=c):
 (c.op=.bad∧c.guard=none)∨
 ∃rm g,qno ops o.guard=some g∧c.dst=o.dst∧c.op=qar P rm o.op∧c.guard=g∧c.loud=loudOp c.op∧(∀d,o.dst=some d→d<nt)∧(∀d q,g=some (d,q)→d<nt):=by
 subst h;unfold qbl;split
 next g hg=>
   split
   next hc=>
     simp only[bA0]at hc;obtain⟨h1,h2⟩:=hc;refine .inr ⟨_,g,hg,rfl,rfl,rfl,rfl,fun d hd=>?_,fun d q hdq=>?_⟩
     ·rw[hd]at h1;simpa[dstOk]using h1
     ·rw[hdq]at h2;simpa[guardOk]using h2
   ·exact .inl ⟨rfl,rfl⟩
 ·exact .inl ⟨rfl,rfl⟩
theorem qf1{w:World}{I:Nat→Nat→Prop}{D:Nat→Prop}{ρ:Nat→Row}{e:List PV}{a:Act}(E:EnvR w I D ρ nt e a)(d:Option Nat)(hd:∀i,d=some i→i<nt):EnvR w I D ρ nt (putD e d (.tuple [])) (a.put d undef):=
 E.put d hd (.tuple [] #[] rfl fun j=>.undef _)
theorem qpc{ds:List Deferred}(hT:∀f p,T.prim f=some p→qev P f p)(hC:qd0 P call)(hS:qa7 call)(ops:Array Oper)(Q:Exit→Act→World→Prop):
 ∀(m k:Nat)(e:List PV)(s:St)(a:Act)(w:World)(I:Nat→Nat→Prop)(D:Nat→Prop)(ρ:Nat→Row)(po:Option PV)(e':List PV)(s':St),k+m=ops.size→a.defers=ds→
   qgp T call ((ops.toList.drop k).map (qbl P rows nt ops)) e s=some (po,e',s')→Sim w I D ρ s.h→EnvR w I D ρ nt e a→AfterOps w I D ρ nt ds s s' po e' Q→wpOps P ops Q (List.range' k m) a w
 |0,k,e,s,a,w,I,D,ρ,po,e',s',hk,hds,h,S,E,A=>by
   have hd:ops.toList.drop k=[]:=List.drop_eq_nil_of_le (by simp;omega);rw[hd]at h;simp only[List.map_nil,qgp]at h;cases h;exact A.fin rfl a w I ρ (by rw[qay];exact Nxt.refl _ _ _ _) (by rw[qay];exact S) (by rw[qay];exact E) hds
 |m+1,k,e,s,a,w,I,D,ρ,po,e',s',hk,hds,h,S,E,A=>by
   have hlt:k<ops.toList.length:=by simp;omega
   have hget:ops[k]?=some ops.toList[k]:=by simp
   rw[List.drop_eq_getElem_cons hlt,List.map_cons]at h;generalize ops.toList[k]=o at h hget;generalize hcc:qbl P rows nt ops o=c at h;rw[List.range'_succ];simp only[wpOps,hget];have ih:=fun e s a w I D ρ po e' s'=>qpc (ds:=ds) hT hC hS ops Q m (k+1) e s a w I D ρ po e' s' (by omega);rcases qe5 hcc with⟨hb,hg⟩|⟨rm,g,hslot,hdst,hop,hguard,_,hd1,hd2⟩
   · simp only[qgp,hg,qbk,hb,evOp]at h;cases h
   · simp only[qgp]at h;rw[hguard]at h;split at h
     ·cases h
     next hw=>
       have hwant:=qcw E hslot hd2 hw (o:=o) rfl;rw[if_neg (by simp[hwant])];rw[hdst]at h;exact ih _ _ _ _ _ _ _ _ _ _ (by rw[qcc];exact hds) h S (qf1 E o.dst hd1) A
     next hw=>
       have hwant:=qcw E hslot hd2 hw (o:=o) rfl;rw[if_pos hwant];refine .inl ?_;rw[hop]at h;split at h
       next v s1 hev=>
         have hs1:=qdy (T:=T) hS hev;have hs2:=qhw (T:=T) hS h;refine qg9 hT hC S E hev (fun p hp=>?_) (fun p hp=>by cases hp);cases hp;intro u w1 I1 ρ1 N1 S1 V1;rw[hdst]at h;have hcomp:=qg8 D hs1.len hs2.len;refine ih _ _ _ _ _ _ _ _ _ _ (by rw[qcc];exact hds) h S1 ((E.next N1).put o.dst hd1 V1) ⟨fun hn a' w' I' ρ' N' S' E' hde=>?_,fun p hp a' w' I' ρ' x N' S' V' hde=>?_⟩
         · rw[hcomp]at N' S' E';exact A.fin hn a' w' I' ρ' (Nxt.trans (fun k hk=>S.blk_lt k hk) N1 N') S' E' hde
         · rw[hcomp]at N' S' V';exact A.pan p hp a' w' I' ρ' x (Nxt.trans (fun k hk=>S.blk_lt k hk) N1 N') S' V' hde
       next v s1 hev=>
         cases h;refine qg9 hT hC S E hev (fun p hp=>by cases hp) (fun p hp=>?_);cases hp;intro u w1 I1 ρ1 N1 S1 V1;exact A.pan v rfl a w1 I1 ρ1 u N1 S1 V1 hds
       ·cases h
theorem qns{w:World}{fn:Func}{tmps:Array Value}{us:List Value}
 (h1:(fn.results.toList.mapM fun r=>(match r with
     |.tmp t=>pure (tmps.getD t undef)
     |.cell x t=>do loadVar t (←asAddr (tmps.getD x undef)):Sem Value)).run P w=.ok us w):
 (results fn tmps).run P w=.ok (if hs:us.toArray.size=1 then us.toArray[0]else .tuple us.toArray) w:=by
 unfold results;rw[Array.mapM_eq_mapM_toList];simp only[map_eq_pure_bind,Sem.run_bind];have e:∀(F G:ResultVar→Sem Value),(∀r,F r=G r)→List.mapM F fn.results.toList=List.mapM G fn.results.toList:=fun F G h=>by rw[funext h]
 rw[e _ (fun r=>(match r with
       |.tmp t=>pure (tmps.getD t undef)
       |.cell x t=>do loadVar t (←asAddr (tmps.getD x undef)):Sem Value)) (by intro r;cases r<;>rfl),h1]
 rfl
theorem qie{w:World}{I:Nat→Nat→Prop}{D:Nat→Prop}{ρ:Nat→Row}{h:List Obj}{e:List PV}{a:Act}(S:Sim w I D ρ h)(E:EnvR w I D ρ nt e a):
 ∀(rs:List ResultVar)(l:List ARes)(vs:List PV),qgk P rs=some l→resv e h l=some vs→
   ∃us:List Value,(rs.mapM fun r=>(match r with
     |.tmp t=>pure (a.tmps.getD t undef)
     |.cell x t=>do loadVar t (←asAddr (a.tmps.getD x undef)):Sem Value)).run P w=.ok us w∧VRs w I D ρ vs us
 |[],l,vs,hl,hv=>by
   simp[qgk]at hl;subst hl;simp[resv]at hv;subst hv;exact⟨[],rfl,rfl,fun j=>.undef _⟩
 |.tmp t::rs,l,vs,hl,hv=>by
   simp only[qgk,oM0]at hl;obtain⟨l',hl,rfl⟩:=hl;simp only[resv,oM0]at hv;obtain⟨vs',hv,rfl⟩:=hv;obtain⟨us,h1,h2⟩:=qie S E rs l' vs' hl hv;refine⟨a.tmps.getD t undef::us,?_,by simp[h2.1],fun j=>?_⟩
   ·simp_all
   · cases j with
     |zero=>exact E.at_ t
     |succ j=>exact h2.2 j
 |.cell x t::rs,l,vs,hl,hv=>by
   simp only[qgk]at hl;split at hl
   next g n l' hg hn hl'=>
     cases hl;simp only[resv]at hv;split at hv
     next v vs' hld hv'=>
       cases hv;obtain⟨us,h1,h2⟩:=qie S E rs l' vs' hl' hv';obtain⟨y,A,hA,hr,hvy⟩:=load_run S (E.at_ x) hld hg hn;refine⟨y::us,?_,by simp[h2.1],fun j=>?_⟩
       · have ha:asAddr (a.tmps.getD x undef)=pure A:=by rw[hA];rfl
         simp only[List.mapM_cons,Sem.run_bind,ha,Sem.run_pure,Result.andThen_ok,hr,h1]
       · cases j with
         |zero=>exact hvy
         |succ j=>exact h2.2 j
     ·cases hv
   ·cases hl
theorem tupled_VR {w:World} {I:Nat→Nat→Prop} {D:Nat→Prop} {ρ:Nat→Row} {vs:List PV} {us:List Value} (h:VRs w I D ρ vs us):
 VR w I D ρ (qdq vs) (if hs:us.toArray.size=1 then us.toArray[0]else .tuple us.toArray):=by
 obtain⟨hl,hj⟩:=h;cases vs with
 |nil=>
   have:us=[]:=List.eq_nil_of_length_eq_zero (by simpa using hl);subst this;exact .tuple _ _ rfl fun j=>.undef _
 |cons v vs=>
   cases vs with
   |nil=>
     cases us with
     |nil=>simp at hl
     |cons u us=>
       have:us=[]:=List.eq_nil_of_length_eq_zero (by simpa using hl);subst this;exact hj 0
   |cons v2 vs=>
     rw[dif_neg (by simp at hl⊢;omega)];exact .tuple _ _ (by simpa using hl) fun j=>by simpa using hj j
theorem VR.top_in{w:World}{I:Nat→Nat→Prop}{D:Nat→Prop}{ρ:Nat→Row}{N:Nat}(hD:∀k,D k→k<N){p:PV}{v:Value}(h:VR w I D ρ p v):¬ge N p.top:=by
 have lst:∀{ps:List PV}{vs:List Value},(∀j,¬ge N ((ps.getD j .undef).top))→¬ge N (tops ps):=by intro ps vs hj hg;obtain⟨x,hx,hg⟩:=qb5.1 hg;obtain⟨j,hjl,rfl⟩:=List.mem_iff_getElem.1 hx;have:=hj j;rw[gD0,gE0 hjl]at this;exact this hg
 have fl:∀{es:List PV},(∀j,¬ge N (((flat es).getD j .undef).top))→¬ge N (tops es):=by intro es hj hg;obtain⟨x,hx,hg⟩:=qb5.1 hg;obtain⟨y,hy,hgy⟩:=qfp.2 hg;have hmem:y∈flat es:=List.mem_flatMap.2 ⟨x,hx,hy⟩;obtain⟨j,hjl,rfl⟩:=List.mem_iff_getElem.1 hmem;have:=hj j;rw[gD0,gE0 hjl]at this;exact this hgy
 have one:∀{k},D k→¬ge N (some k):=by intro k hk hg;obtain⟨j,hj,hle⟩:=hg;cases hj;have:=hD k hk;omega
 induction h with
 |slice sz es m a cap b o vs hsz hm hne hcap hlen hat hv ih=>
   simp only[PV.top,qfx];rintro(hg|hg)
   · cases m with
     |tok k=>exact one hm.1 hg
     |_=>exact qfe hg
   ·exact fl ih hg
 |aref k sz off len tip a cap hD'=>exact one hD'
 |ptr k i off tip a hD'=>exact one hD'
 |iptr c off b o vs hlen hat hv ih=>
   simp only[PV.top];intro hg;obtain⟨y,hy,hgy⟩:=qfp.2 hg;obtain⟨j,hjl,rfl⟩:=List.mem_iff_getElem.1 hy;have:=ih j;rw[gD0,gE0 hjl]at this;exact this hgy
 |map k r hD'=>exact one hD'
 |func fn f c fv cv hf hc hfv hcv ih1 ih2=>
   simp only[PV.top,qfx];rintro(hg|hg)
   ·simp_all
   ·simp_all
 |iface t p v h ih=>exact ih
 |agg cs vs hlen hv ih=>exact lst (vs:=[]) ih
 |tuple ps vs hlen hv ih=>exact lst (vs:=[]) ih
 |_=>exact qfe
theorem VR.restrict{w:World}{I:Nat→Nat→Prop}{D:Nat→Prop}{ρ:Nat→Row}{N:Nat}{p:PV}{v:Value}(h:VR w I D ρ p v):¬ge N p.top→VR w I (fun k=>D k∧k<N) ρ p v:=by
 have lst:∀{ps:List PV}(j:Nat),¬ge N (tops ps)→¬ge N ((ps.getD j .undef).top):=by
  intro ps j hn hg;by_cases hj:j<ps.length
  · rw[gD0,gE0 hj]at hg;exact hn (qb5.2 ⟨_,gX0 hj,hg⟩)
  · rw[qaz ps j _ hj]at hg;exact qfe hg
 have fl:∀{es:List PV}(j:Nat),¬ge N (tops es)→¬ge N (((flat es).getD j .undef).top):=by
  intro es j hn hg;by_cases hj:j< (flat es).length
  · rw[gD0,gE0 hj]at hg;obtain⟨x,hx,hy⟩:=List.mem_flatMap.1 (gX0 hj);exact hn (qb5.2 ⟨x,hx,qfp.1 ⟨_,hy,hg⟩⟩)
  · rw[qaz (flat es) j _ hj]at hg;exact qfe hg
 have one:∀{k},D k→¬ge N (some k)→D k∧k<N:=by
  intro k hk hn;refine⟨hk,?_⟩;rcases Nat.lt_or_ge k N with h|h
  ·exact h
  ·exact absurd ⟨k,rfl,h⟩ hn
 induction h with
 |undef v=>exact fun _=>.undef v
 |bool b=>exact fun _=>.bool b
 |int k n=>exact fun _=>.int k n
 |str s=>exact fun _=>.str s
 |slice sz es m a cap b o vs hsz hm hne hcap hlen hat hv ih=>
   intro hn;simp only[PV.top,qfx,not_or]at hn;refine .slice sz es m a cap b o vs hsz ?_ hne hcap hlen hat fun j=>ih j (fl j hn.2);cases m with
   |tok k=>
     obtain⟨h1,h2⟩:=hm;exact⟨one h1 hn.1,h2⟩
   |_=>exact hm
 |aref k sz off len tip a cap hD' htip hs hlc h=>exact fun hn=>.aref k sz off len tip a cap (one hD' hn) htip hs hlc h
 |ptr k i off tip a hD' htip h=>exact fun hn=>.ptr k i off tip a (one hD' hn) htip h
 |iptr c off b o vs hlen hat hv ih=>
   intro hn;refine .iptr c off b o vs hlen hat fun j=>ih j fun hg=>hn ?_;by_cases hj:j<c.cells.length
   · rw[gD0,gE0 hj]at hg;exact(qfp (p:=c)).1 ⟨_,gX0 hj,hg⟩
   ·rw[qaz _ j _ hj]at hg;exact absurd hg qfe
 |nilptr=>exact fun _=>.nilptr
 |mapNil=>exact fun _=>.mapNil
 |map k r hD' h=>exact fun hn=>.map k r (one hD' hn) h
 |func fn f c fv cv hf hc hfv hcv ih1 ih2=>
   intro hn;simp only[PV.top,qfx,not_or]at hn;exact .func fn f c fv cv hf hc (fun j=>ih1 j (lst j hn.1)) (fun j=>ih2 j (lst j hn.2))
 |nilFunc=>exact fun _=>.nilFunc
 |iface t p v h ih=>exact fun hn=>.iface t p v (ih hn)
 |nilIface=>exact fun _=>.nilIface
 |agg cs vs hlen hv ih=>exact fun hn=>.agg cs vs hlen fun j=>ih j (lst j hn)
 |tuple ps vs hlen hv ih=>exact fun hn=>.tuple ps vs hlen fun j=>ih j (lst j hn)
end
end Go.AE
