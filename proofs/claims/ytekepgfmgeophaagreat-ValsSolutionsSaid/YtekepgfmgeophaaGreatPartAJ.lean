/- Texts of the proof, one behind the other: ValTbl, ValFns, ValT1, ValCnt, ValCnt2, ValCnt3, ValTab, ValN1, ValN2, ValR0, ValC0, ValFnsS, ValS1. -/
import Derived.Test.YtekepgfmgeophaaGreatPartAH
import Derived.Test.YtekepgfmgeophaaGreatPartAD
import Derived.Test.YtekepgfmgeophaaGreatPartAI
import Derived.KernelRfl
import Derived.Test.YtekepgfmgeophaaGreatPartAE
import Derived.Test.YtekepgfmgeophaaGreatPartAF
import Derived.Laws.Strings
set_option linter.unusedVariables false
set_option linter.unusedSimpArgs false
namespace Go.Proofs.Tryz
open Go Go.AE
abbrev Hp:=List AE.Obj
abbrev PL:=List PV
abbrev NL:=List Nat
abbrev IL:=List Int
abbrev UL:=List (Nat×Nat)
abbrev _root_.Go.AE.PV.sn:PV:=.slice 0 [] .nil
abbrev _root_.Go.AE.PV.pb(k:Nat):PV:=.ptr k 0 0 1
abbrev ba(v:PV)(h:Hp):OR×St:=(.val v,⟨h,[],[]⟩)
abbrev cF:AX:=.c (.bool false)
abbrev cT:AX:=.c (.bool true)
abbrev mC:Int:=1099511627776
abbrev iv0(n:Int):PV:=.int .i64 n
abbrev zq3:PV:=.agg [(.int .i64 0),(.int .i64 0),(.slice 0 [] .nil)]
abbrev zq6:PV:=.agg [(.int .i64 0),(.int .i64 0),(.slice 0 [] .nil),(.int .i64 0),(.int .i64 0),(.slice 0 [] .nil)]
abbrev zq8:PV:=.agg [(.slice 0 [] .nil),(.slice 0 [] .nil),(.int .i64 0),(.int .i64 0),(.slice 0 [] .nil),(.int .i64 0),(.int .i64 0),(.slice 0 [] .nil)]
abbrev ro(d:Nat)(o:AOp):AOper:=⟨some d,o,none,false,0,0,false⟩
abbrev rp(d:Nat)(o:AOp):AOper:=⟨some d,o,none,true,0,0,false⟩
abbrev rg(d:Nat)(o:AOp)(c:Nat)(b:Bool):AOper:=⟨some d,o,some (c,b),false,0,0,false⟩
abbrev rh(d:Nat)(o:AOp)(c:Nat)(b:Bool):AOper:=⟨some d,o,some (c,b),true,0,0,false⟩
abbrev mv(d i:Nat):AOper:=ro d (.move (.t i))
abbrev ci(n:Int):AX:=.c (.int .i64 n)
abbrev rd(d:Nat)(o:AOp)(l:Bool)(i b:Nat)(hd:Bool):AOper:=⟨some d,o,none,l,i,b,hd⟩
abbrev wr(o:AOp)(i b:Nat)(hd:Bool):AOper:=⟨none,o,none,true,i,b,hd⟩
abbrev l3(k:Nat):AOp:=.load true 3 (.t k)
abbrev l1(k:Nat):AOp:=.load false 1 (.t k)
abbrev la(b:Bool)(s k:Nat):AOp:=.load b s (.t k)
abbrev mo(k:Nat):AOp:=.move (.t k)
abbrev ix(s a b:Nat):AOp:=.idxAddr s (.t a) (.t b)
abbrev fa(o k:Nat):AOp:=.fieldAddr o (.t k)
abbrev nc(k:Nat):AOp:=.nilCheck (.t k)
abbrev et(k i:Nat):AOp:=.extract (.t k) i
abbrev so(s a b:Nat):AOp:=.store s (.t a) (.t b)
abbrev no(k:Nat):AOp:=.un .not (.t k)
abbrev bi(o:BinOp)(a b:Nat):AOp:=.bin o (.t a) (.t b)
abbrev bc(o:BinOp)(a:Nat)(n:Int):AOp:=.bin o (.t a) (ci n)
abbrev ll(k:Nat):AOp:=.lenL (.t k)
abbrev nx(a b:Nat):AOper:=ro a (.bin .add (.t b) (ci 1))
abbrev lo(a b c:Nat):AOper:=ro a (.bin .lss (.t b) (.t c))
abbrev ws(s a b:Nat):AOper:=wr (.store s (.t a) (.t b)) 0 0 false
abbrev c0(a:Nat):AOper:=ro a (.move (ci 0))
abbrev sr0(l:List AOper)(c:ACode):ACode:=.seq (.reg l) c
abbrev sd0(l:List AOper)(c:ACode):ACode:=.seq (.regD l) c
abbrev cn0(k:Nat)(a b:ACode):ACode:=.cond (.t k) a b
abbrev bl0(k:Nat)(c:ACode):ACode:=.block k (.loop c)
noncomputable def fnOf(n:Nat):Option AFunc:=match Tryz.prog.funcs[n]? with
 | some fn => if (fn.name == "runtime.NumGoroutine") = false then qb8 Tryz.prog [] fn else none
 |none=>none
def qab:Nat→Option Prim:=fun f=>if f=247 then some .countString else if f=272 then some .indexByteString else none
def qgx:List Nat:=[54,55,75,208,189,15,87,91,50,103,154,155,159,137,151]
structure Std (T:Tbl):Prop where
 sp:∀f,f∉qgx→T.sp f=none
 fn:∀f,T.fn f=fnOf f
 prim:T.prim=qab
 mode:∀f,T.mode f=if f=178 then 1 else if f=138 then 1 else if f=236 then 2 else 0
theorem Std.wk{T:Tbl}(hT:Std T){f:FuncId}{nt:Nat}{code:ACode}{res:List ARes}{args:List PV}{h:Hp}{r:qam}(hf:fnOf f=some ⟨args.length,nt,code,res⟩)(hs:f∉qgx)
 (hc:wpC T code args {h,ws:=[],ups:=[]} (fin res (if f=178 then 1 else if f=138 then 1 else if f=236 then 2 else 0) h.length fun p=>p=r)):Ev T f args h r:=Ev.walk (hT.sp _ hs) ((hT.fn _).trans hf) (hT.mode _) rfl hc
theorem Std.wp{T:Tbl}(hT:Std T){f:FuncId}{nt:Nat}{code:ACode}{res:List ARes}{args:List PV}{h:Hp}{α:Type}{r:α→qam}{p:α→Prop}(hf:fnOf f=some ⟨args.length,nt,code,res⟩)(hs:f∉qgx)
 (hc:wpC T code args {h,ws:=[],ups:=[]} (fin res (if f=178 then 1 else if f=138 then 1 else if f=236 then 2 else 0) h.length fun x=> ∃a,x=r a∧p a)):∃a,Ev T f args h (r a)∧p a:=Ev.walkP (hT.sp _ hs) ((hT.fn _).trans hf) (hT.mode _) rfl hc
theorem ll0:(∀(α:Type)(a:α)(l:List α),(a::l).length=l.length+1)∧∀α:Type,([]:List α).length=0:=⟨fun _ _ _=>rfl,fun _=>rfl⟩
theorem Std.q{T:Tbl}(hT:Std T):T.prim=qab∧(∀f,qab f=if f=247 then some .countString else if f=272 then some .indexByteString else none)∧(∀(α:Type)(a:α)(l:List α),(a::l).length=l.length+1)∧∀α:Type,([]:List α).length=0:=⟨hT.prim,fun _=>rfl,ll0⟩
end Go.Proofs.Tryz
namespace Go.Proofs.Tryz
open Go Go.AE
def a90b0:ACode:=(sr0 [lo 26 25 24] (.seq (cn0 26 .skip (.exit 0)) (.seq (.block 1 (sr0 [mv 27 25,ro 28 (ix 3 23 25),rp 29 (l3 28),rp 5 (.box 3 (.c (.agg [(.str ⟨#[]⟩),.sn,(.int .i64 0)]))),mv 4 27,ws 3 5 29] (sd0 [mv 30 3,rd 31 (nc 30) false 1 1 false,rd 32 (fa 3 31) false 2 3 false,rd 33 (l1 32) true 3 7 false,rd 34 (mo 4) false 4 0 false,rd 35 (fa 1 5) false 5 0 true,rd 36 (l1 35) true 6 32 true,rd 37 (ll 36) false 7 96 true,rd 38 (bc .add 37 1) false 8 224 true,rd 39 (.makeSlice 61 (.agg [(.int .i64 0),(.int .i64 0),(.int .i64 0),(.int .i64 0),(.int .i64 0),(.int .i64 0),(.int .i64 0),(.int .i64 0),(.int .i64 0),(.int .i64 0),(.int .i64 0),(.int .i64 0),(.int .i64 0),(.int .i64 0),(.int .i64 0),(.int .i64 0),(.int .i64 0),(.int .i64 0),(.int .i64 0),(.int .i64 0),(.int .i64 0),(.int .i64 0),(.int .i64 0),(.int .i64 0),(.int .i64 0),(.int .i64 0),(.int .i64 0),(.int .i64 0),(.int .i64 0),(.int .i64 0),(.int .i64 0),(.int .i64 0),(.int .i64 0),(.int .i64 0),(.int .i64 0),(.int .i64 0),(.int .i64 0),(.int .i64 0),(.int .i64 0),(.int .i64 0),(.int .i64 0),(.int .i64 0),(.int .i64 0),(.int .i64 0),(.int .i64 0),(.int .i64 0),(.int .i64 0),(.int .i64 0),(.int .i64 0),(.int .i64 0),(.int .i64 0),(.int .i64 0),(.int .i64 0),(.int .i64 0),(.int .i64 0),(.int .i64 0),(.int .i64 0),(.int .i64 0),(.int .i64 0),(.int .i64 0),(.int .i64 0)]) 488 (.t 38) (.t 38)) true 9 480 true,rd 40 (ix 1 33 34) false 10 1023 true,wr (so 1 40 39) 11 2047 true] (.regD [mv 41 3,rd 42 (nc 41) false 1 1 false,rd 43 (fa 3 42) false 2 3 false,rd 44 (l1 43) true 3 7 false,rd 45 (mo 4) false 4 0 false,rd 46 (ix 1 44 45) false 5 31 false,rd 47 (l1 46) true 6 63 false,rd 48 (fa 1 5) false 7 0 true,rd 49 (l1 48) true 8 128 true,rd 50 (ll 49) false 9 384 true,rd 51 (ix 61 47 50) false 10 1023 true,rd 52 (.idxArr 61 1 (.t 51) (ci 0)) false 11 2047 true,wr (.store 1 (.t 52) (ci 1)) 12 4095 true])))) (.reg [nx 53 25,mv 25 53]))))
def a90b1:ACode:=(.seq (sr0 [mv 74 10,mv 75 6,lo 76 74 75] (cn0 76 .skip (.exit 8))) (.seq (.block 9 (.regD [mv 79 3,rd 80 (nc 79) false 1 1 false,rd 81 (fa 3 80) false 2 3 false,rd 82 (l1 81) true 3 7 false,rd 83 (mo 7) false 4 0 false,rd 84 (ix 1 82 83) false 5 31 false,rd 85 (l1 84) true 6 63 false,rd 86 (mo 9) false 7 0 false,rd 87 (mo 6) false 8 0 false,rd 88 (bc .sub 87 1) false 9 256 false,rd 89 (mo 3) false 10 0 false,rd 90 (nc 89) false 11 1024 false,rd 91 (fa 3 90) false 12 3072 false,rd 92 (l1 91) true 13 7168 false,rd 93 (mo 7) false 14 0 false,rd 94 (ix 1 92 93) false 15 31744 false,rd 95 (l1 94) true 16 64512 false,rd 96 (mo 9) false 17 0 false,rd 97 (mo 6) false 18 0 false,rd 98 (bc .sub 97 1) false 19 262144 false,rd 99 (ix 61 95 96) false 20 261120 false,rd 100 (.idxArr 61 1 (.t 99) (.t 98)) false 21 2096128 false,rd 101 (l1 100) true 22 4193280 false,rd 102 (mo 3) false 23 0 false,rd 103 (nc 102) false 24 8388608 false,rd 104 (fa 2 103) false 25 25165824 false,rd 105 (l1 104) true 26 58720256 false,rd 106 (fa 1 8) false 27 0 false,rd 107 (l1 106) true 28 134217728 false,rd 108 (mo 9) false 29 0 false,rd 109 (ix 1 107 108) false 30 939524096 false,rd 110 (l1 109) true 31 2013265920 false,rd 111 (mo 10) false 32 0 false,rd 112 (ix 61 105 110) false 33 4286578688 false,rd 113 (.idxArr 61 1 (.t 112) (.t 111)) false 34 17171480576 false,rd 114 (l1 113) true 35 34351349760 false,rd 115 (mo 3) false 36 0 false,rd 116 (nc 115) false 37 68719476736 false,rd 117 (fa 3 116) false 38 206158430208 false,rd 118 (l1 117) true 39 481036337152 false,rd 119 (mo 7) false 40 0 false,rd 120 (ix 1 118 119) false 41 2130303778816 false,rd 121 (l1 120) true 42 4329327034368 false,rd 122 (mo 9) false 43 0 false,rd 123 (bc .add 122 1) false 44 8796093022208 false,rd 124 (mo 6) false 45 0 false,rd 125 (bc .sub 124 1) false 46 35184372088832 false,rd 126 (mo 10) false 47 0 false,rd 127 (bi .sub 125 126) false 48 246290604621824 false,rd 128 (ix 61 121 123) false 49 35115652612096 false,rd 129 (.idxArr 61 1 (.t 128) (.t 127)) false 50 1125831187365888 false,rd 130 (l1 129) true 51 2251731094208512 false,rd 131 (.call (.f 165) [(.t 114),(.t 130)]) true 52 4503599618981888 false,rd 132 (.call (.f 124) [(.t 101),(.t 131)]) true 53 9007199254739968 false,rd 133 (ix 61 85 86) false 54 255 true,rd 134 (.idxArr 61 1 (.t 133) (.t 88)) false 55 36028797018963967 true,wr (so 1 134 132) 56 72057594037927935 true])) (.reg [mv 77 10,nx 78 77,mv 10 78])))
def a90b2:ACode:=(.seq (sr0 [mv 70 9,ro 71 (bc .geq 70 0)] (cn0 71 .skip (.exit 6))) (.seq (.block 7 (sr0 [ro 10 (.move (ci 1))] (bl0 8 a90b1))) (.reg [mv 72 9,ro 73 (bc .sub 72 1),mv 9 73])))
def a90b3:ACode:=(sr0 [lo 62 61 60] (.seq (cn0 62 .skip (.exit 4)) (.seq (.block 5 (sr0 [mv 63 61,ro 64 (ix 3 59 61),rp 65 (l3 64),rp 8 (.box 3 (.c (.agg [(.str ⟨#[]⟩),.sn,(.int .i64 0)]))),mv 7 63,ws 3 8 65] (.seq (sr0 [ro 66 (fa 1 8),rp 67 (l1 66),ro 68 (ll 67),ro 69 (bc .sub 68 1),mv 9 69] (bl0 6 a90b2)) (.regD [mv 135 3,rd 136 (nc 135) false 1 1 false,rd 137 (fa 2 136) false 2 3 false,rd 138 (l1 137) true 3 7 false,rd 139 (fa 2 8) false 4 0 false,rd 140 (l1 139) true 5 16 false,rd 141 (mo 6) false 6 0 false,rd 142 (mo 3) false 7 0 false,rd 143 (nc 142) false 8 128 false,rd 144 (fa 2 143) false 9 384 false,rd 145 (l1 144) true 10 896 false,rd 146 (fa 2 8) false 11 0 false,rd 147 (l1 146) true 12 2048 false,rd 148 (mo 6) false 13 0 false,rd 149 (ix 61 145 147) false 14 8064 false,rd 150 (.idxArr 61 1 (.t 149) (.t 148)) false 15 32640 false,rd 151 (l1 150) true 16 65408 false,rd 152 (mo 3) false 17 0 false,rd 153 (nc 152) false 18 131072 false,rd 154 (fa 3 153) false 19 393216 false,rd 155 (l1 154) true 20 917504 false,rd 156 (mo 7) false 21 0 false,rd 157 (ix 1 155 156) false 22 4063232 false,rd 158 (l1 157) true 23 8257536 false,rd 159 (mo 6) false 24 0 false,rd 160 (bc .sub 159 1) false 25 16777216 false,rd 161 (.idxAddr 61 (.t 158) (ci 0)) false 26 16646144 false,rd 162 (.idxArr 61 1 (.t 161) (.t 160)) false 27 134086656 false,rd 163 (l1 162) true 28 268304384 false,rd 164 (.call (.f 124) [(.t 151),(.t 163)]) true 29 536870784 false,rd 165 (ix 61 138 140) false 30 63 true,rd 166 (.idxArr 61 1 (.t 165) (.t 141)) false 31 2147483647 true,wr (so 1 166 164) 32 4294967295 true])))) (.reg [nx 167 61,mv 61 167]))))
def a90b4:ACode:=(.seq (sr0 [mv 54 6,ro 55 (bc .leq 54 60)] (cn0 55 .skip (.exit 2))) (.seq (.block 3 (sr0 [ro 58 (fa 1 1),rp 59 (l1 58),ro 60 (ll 59),c0 61] (bl0 4 a90b3))) (.reg [mv 56 6,nx 57 56,mv 6 57])))
def a90:AFunc:=⟨1,169,(sr0 [rp 1 (.box 2 (.t 0)),ro 2 (.move (.c .nilptr))] (sd0 [rp 11 (la true 2 1),rd 12 (fa 0 1) false 1 0 false,rd 13 (l1 12) true 2 2 false,rd 14 (ll 13) false 3 6 false,rd 15 (.makeSlice 61 (.agg [(.int .i64 0),(.int .i64 0),(.int .i64 0),(.int .i64 0),(.int .i64 0),(.int .i64 0),(.int .i64 0),(.int .i64 0),(.int .i64 0),(.int .i64 0),(.int .i64 0),(.int .i64 0),(.int .i64 0),(.int .i64 0),(.int .i64 0),(.int .i64 0),(.int .i64 0),(.int .i64 0),(.int .i64 0),(.int .i64 0),(.int .i64 0),(.int .i64 0),(.int .i64 0),(.int .i64 0),(.int .i64 0),(.int .i64 0),(.int .i64 0),(.int .i64 0),(.int .i64 0),(.int .i64 0),(.int .i64 0),(.int .i64 0),(.int .i64 0),(.int .i64 0),(.int .i64 0),(.int .i64 0),(.int .i64 0),(.int .i64 0),(.int .i64 0),(.int .i64 0),(.int .i64 0),(.int .i64 0),(.int .i64 0),(.int .i64 0),(.int .i64 0),(.int .i64 0),(.int .i64 0),(.int .i64 0),(.int .i64 0),(.int .i64 0),(.int .i64 0),(.int .i64 0),(.int .i64 0),(.int .i64 0),(.int .i64 0),(.int .i64 0),(.int .i64 0),(.int .i64 0),(.int .i64 0),(.int .i64 0),(.int .i64 0)]) 488 (.t 14) (.t 14)) true 4 14 false,rd 16 (fa 1 1) false 5 0 true,rd 17 (l1 16) true 6 32 true,rd 18 (ll 17) false 7 96 true,rd 19 (.makeSlice 1 .sn 24 (.t 18) (.t 18)) true 8 224 true,rd 20 (.build [.sn,.sn,.sn,.sn] [(0,2,(.t 11)),(2,1,(.t 15)),(3,1,(.t 19))]) false 9 511 true,rd 21 (.box 4 (.t 20)) true 10 1023 true,rd 3 (mo 21) false 11 2047 true] (.seq (sr0 [ro 22 (fa 1 1),rp 23 (l1 22),ro 24 (ll 23),c0 25] (bl0 0 a90b0)) (.seq (sr0 [ro 6 (.move (ci 1))] (bl0 2 a90b4)) (sr0 [mv 168 3,mv 2 168] .ret))))),[.t 2]⟩
theorem fn90:fnOf 90=some a90:=by kernel_rfl
def a124:AFunc:=⟨2,9,(sr0 [c0 4] (sr0 [mv 5 0,mv 6 1,ro 7 (bi .add 5 6),ro 8 (.min false [(.t 7),(ci 1099511627776)]),mv 4 8] .ret)),[.t 4]⟩
theorem fn124:fnOf 124=some a124:=by kernel_rfl
def a165:AFunc:=⟨2,16,(sr0 [c0 4] (.seq (sr0 [mv 5 0,ro 6 (bc .gtr 5 0),mv 7 6,rg 8 (mo 1) 7 true,rg 9 (mo 0) 7 true,rg 10 (.bin .quo (ci 1099511627776) (.t 9)) 7 true,rg 11 (bi .gtr 8 10) 7 true,ro 12 (.pick (.t 7) (.t 11) cF)] (cn0 12 (sr0 [ro 4 (.move (ci 1099511627776))] .ret) .skip)) (sr0 [mv 13 0,mv 14 1,ro 15 (bi .mul 13 14),mv 4 15] .ret))),[.t 4]⟩
theorem fn165:fnOf 165=some a165:=by kernel_rfl
end Go.Proofs.Tryz
namespace Go.Proofs.Tryz
open Go Go.AE
open Go.AE.Obj (row)
variable {T:Tbl}(hT:Std T)
include hT
theorem plus_ev{a b:Int}{h:Hp}(ha:0≤a)(ha2:a≤1099511627776)(hb:0≤b)(hb2:b≤1099511627776):Ev T 124 [.int .i64 a,.int .i64 b] h (.val (.int .i64 (min (a+b) 1099511627776)),{h,ws:=[],ups:=[]}):=by refine Ev.walk (hT.sp _ (by decide)) ((hT.fn _).trans fn124) (hT.mode _) rfl ?_;simp(disch:=first|omega|simp only[go_sem]) only[go_sem,↓reduceIte,Nat.reduceEqDiff,reduceCtorEq,List.map]
theorem times_ev{a b:Int}{h:Hp}(ha:0≤a)(ha2:a≤1099511627776)(hb:0≤b)(hb2:b≤1099511627776):Ev T 165 [.int .i64 a,.int .i64 b] h (.val (.int .i64 (min (a*b) 1099511627776)),{h,ws:=[],ups:=[]}):=by
 refine Ev.walk (hT.sp _ (by decide)) ((hT.fn _).trans fn165) (hT.mode _) rfl ?_;by_cases h0:0<a
 · have hq0:0≤Int.tdiv 1099511627776 a:=Int.tdiv_nonneg (by omega) (by omega);have hq1:Int.tdiv 1099511627776 a≤1099511627776:=by have:=Int.tdiv_le_self (a:=1099511627776) a (by omega);omega
   have e1:Int.tdiv 1099511627776 a=1099511627776/a:=Int.tdiv_eq_ediv_of_nonneg (by omega);by_cases h1:Int.tdiv 1099511627776 a<b
   · simp(disch:=omega) only[go_sem,↓reduceIte,Nat.reduceEqDiff,reduceCtorEq,h0,decide_true,h1]
     have:1099511627776<a*b:=by
      have h2:1099511627776/a<b:=by rw[←e1];exact h1
      have:=(Int.ediv_lt_iff_lt_mul h0).1 h2
      rwa [Int.mul_comm]at this
     congr 4
     omega
   · have hm:a*b≤1099511627776:=by
      have h2:b≤1099511627776/a:=by rw[←e1];omega
      have:=(Int.le_ediv_iff_mul_le h0).1 h2
      rwa [Int.mul_comm]at this
     have hm0:0≤a*b:=Int.mul_nonneg ha hb;simp(disch:=omega) only[go_sem,↓reduceIte,Nat.reduceEqDiff,reduceCtorEq,h0,decide_true,h1,decide_false]
     congr 4
     omega
 · have:a=0:=by omega
   subst this;simp(disch:=omega) only[go_sem,↓reduceIte,Nat.reduceEqDiff,reduceCtorEq,h0,decide_false,Int.zero_mul]
   congr 4
end Go.Proofs.Tryz
namespace Go.Proofs.Tryz
open Go Go.AE
open Go.AE.Obj (row)
variable {T:Tbl}(hT:Std T)
structure Loc (h:Hp)(kT kS kR ki ko:Nat)(S1 S2:PV)(refs:PL)(i:Nat)(so ri:List (IL))(o:GOp):Prop where
 hT:h[kT]?=some (.row 4 [.agg [S1,S2,.aref kS 61 0 so.length so.length,.aref kR 1 0 refs.length refs.length]])
 hS:h[kS]?=some (.row 61 (so.map arr))
 hR:h[kR]?=some (.row 1 refs)
 href:refs[i]?=some (.aref ki 61 0 ri.length ri.length)
 hi:h[ki]?=some (.row 61 (ri.map arr))
 ho:h[ko]?=some (.row 3 [qao o])
 ne:ki≠kT∧ki≠kS∧ki≠kR∧ki≠ko
theorem qq1{h:Hp}{k i j:Nat}{r:List (IL)}{x:IL}{v:Int}(hk:h[k]?=some (.row 61 (r.map arr)))(hi:r[i]?=some x)(hj:x[j]?=some v):loadAt false 1 (.ptr k i j r.length) h=some (iv0 v):=by simp[loadAt,hk,hi,arr,sub,hj,encI]
theorem sub_int{sz:Nat}{k:IntKind}{n:Int}:sub false sz (.int k n) 0=some (.int k n):=rfl
variable {e:PL}{h:Hp}{ws:NL}{ups:UL}{kT kS kR ki ko:Nat}{S1 S2:PV}{refs:PL}{so ri:List (IL)}{o:GOp}
theorem st_row{k i j:Nat}{r:List (IL)}{x:IL}{v:Int}(hk:h[k]?=some (.row 61 (r.map arr)))(hi:r[i]?=some x)(hx:x.length=61)(hj:j<61):
 storeAt 1 (.ptr k i j r.length) (iv0 v) {h,ws,ups}=some {h:=h.set k (.row 61 ((r.set i (x.set j v)).map arr)),ws:=wadd k ws,ups}:=by
 have hc:(r.map arr)[i]?=some (arr x):=by simp[hi]
 have hlen:(x.map encI).length=61:=by simpa using hx
 have hu:upd (arr x) j (iv0 v)=some (arr (x.set j v)):=by
  have h1:¬(j=0∧(PV.int IntKind.i64 v).cells.length=(x.map encI).length):=by rw[hlen];simp[PV.cells]
  have h2:j+(PV.int IntKind.i64 v).cells.length≤(x.map encI).length:=by rw[hlen];simp only[PV.cells,ll0];omega
  unfold arr upd;simp only[];rw[if_neg h1,if_pos h2];have:(x.set j v)=x.take j++[v]++x.drop (j+1):=by rw[List.set_eq_take_append_cons_drop,if_pos (by omega)];simp
  rw[this];simp[encI,PV.cells]
 simp only[storeAt,hk,lM0,PV.cells,ll0,List.all_cons,List.all_nil,PV.isCell,Bool.and_self,and_self,if_true,hc,hu,Option.map,PV.top,qau]
 congr 2
 simp[List.map_set]
def Same(W:Nat→Prop)(e e':PL):Prop:=∀j,¬W j→eget e' j=eget e j
theorem Same.refl{W:Nat→Prop}(e:PL):Same W e e:=fun _ _=>rfl
theorem Same.trans{W:Nat→Prop}{e e' e'':PL}(h:Same W e e')(h':Same W e' e''):Same W e e'':=fun j hj=>(h' j hj).trans (h j hj)
theorem Same.mono{W V:Nat→Prop}{e e':PL}(h:Same W e e')(hV:∀j,W j→V j):Same V e e':=fun j hj=>h j fun hw=>hj (hV j hw)
include hT in
theorem b1_step{p i k m a:Nat}{x0 x1 xs:IL}{v0 v1 v2:Int}(L:Loc h kT kS kR ki ko S1 S2 refs i so ri o)(e3:eget e 3=.pb kT)(e6:eget e 6=iv0 ((p+1:Nat):Int))(e7:eget e 7=iv0 (i:Int))(e8:eget e 8=.pb ko)
 (e9:eget e 9=iv0 (k:Int))(e10:eget e 10=iv0 (m:Int))(hm:m<p+1)(hp:p<60)(hi:i<refs.length)(hk:k+1<ri.length)(hk9:ri.length<1000)
 (ha:o.args[k]?=some (a:Int))(g0:ri[k]?=some x0)(g1:ri[k+1]?=some x1)(gs:so[a]?=some xs)(y0:x0[p]?=some v0)(y1:x1[p - m]?=some v1)(ys:xs[m]?=some v2)(hx0:x0.length=61)
 (b0:0≤v0∧v0≤1099511627776)(b1:0≤v1∧v1≤1099511627776)(b2:0≤v2∧v2≤1099511627776){Q:AExit→PL→St→Prop}
 (hQ:∀e',Same (fun j=>j=10∨74≤j) e e'→eget e' 10=iv0 ((m+1:Nat):Int)→Q .normal e' {h:=h.set ki (.row 61 ((ri.set k (x0.set p (min (v0+min (v2*v1) 1099511627776) 1099511627776))).map arr)),ws:=wadd ki ws,ups}):
 wpC T a90b1 e {h,ws,ups} Q:=by
 obtain⟨hT',hS,hR,href,hri,ho,_,_,_,_⟩:=L;have f3:loadAt false 1 (.ptr kT 0 3 1) h=some (.aref kR 1 0 refs.length refs.length):=by simp[loadAt,hT',sub]
 have f2:loadAt false 1 (.ptr kT 0 2 1) h=some (.aref kS 61 0 so.length so.length):=by simp[loadAt,hT',sub]
 have fr:loadAt false 1 (.ptr kR i 0 refs.length) h=some (.aref ki 61 0 ri.length ri.length):=by simp[loadAt,hR,href,sub]
 have fo:loadAt false 1 (.ptr ko 0 1 1) h=some (.slice 1 (o.args.map encI) .any):=by simp[loadAt,ho,sub,qao]
 have l0:=qq1 hri g0 y0;have l1:=qq1 hri g1 y1;have ls:=qq1 hS gs ys;have hal:a<so.length:=(gI0.1 gs).1;have hga:(o.args.map encI)[k]?=some (iv0 (a:Int)):=by simp[ha,encI]
 have c1:∀(K:OR×St→Prop)(d:Keep K),qpl K d T 165 [iv0 v2,iv0 v1] h=K (.val (iv0 (min (v2*v1) 1099511627776)),{h,ws:=[],ups:=[]}):=fun K d=>qle (times_ev hT b2.1 b2.2 b1.1 b1.2);have hmul:0≤v2*v1:=Int.mul_nonneg b2.1 b1.1;have c2:∀(K:OR×St→Prop)(d:Keep K),qpl K d T 124 [iv0 v0,iv0 (min (v2*v1) 1099511627776)] h=K (.val (iv0 (min (v0+min (v2*v1) 1099511627776) 1099511627776)),{h,ws:=[],ups:=[]}):=fun K d=>qle (plus_ev hT b0.1 b0.2 (by omega) (by omega));have hp61:p<61:=by omega
 have hpm:p - m<61:=by omega
 have hm61:m<61:=by omega
 have hk0:k<ri.length:=by omega
 have st:=st_row (ws:=[]) (ups:=ups) (v:=min (v0+min (v2*v1) 1099511627776) 1099511627776) hri g0 hx0 hp61
 simp(disch:=first|omega|decide) only[a90b1,go_sem,↓reduceIte,Nat.reduceEqDiff,e3,e6,e7,e8,e9,e10,decide_true,f3,f2,fr,fo,l0,l1,ls,Nat.zero_add,hi,true_and,and_self,hT.prim,qab,
  cast_sub,Nat.mul_one,hm,hp61,hpm,hm61,hk0,hk,hal,hga,c1,c2,sub_int,st]
 refine hQ _ (fun j hj=>?_) ?_
 · simp only[not_or,Nat.not_le]at hj;simp(disch:=omega) only[qac]
 ·simp only[qal]
def cap(x:Int):Int:=min x 1099511627776
def qh3(x:IL):Prop:=x.length=61∧∀v∈x,0≤v∧v≤1099511627776
def qq3(xs x1:IL)(p:Nat):Nat→Nat→Int→Int
 |0,_,v=>v
 |d+1,m,v=>qq3 xs x1 p d (m+1) (min (v+min (xs.getD m 0*x1.getD (p - m) 0) 1099511627776) 1099511627776)
theorem qh3.get{x:IL}(h:qh3 x){j:Nat}(hj:j<61):x[j]?=some (x.getD j 0)∧0≤x.getD j 0∧x.getD j 0≤1099511627776:=by
 have hl:j<x.length:=by rw[h.1];exact hj
 have e1:x[j]?=some x[j]:=gE0 hl;have e2:x.getD j 0=x[j]:=by simp[gD0,e1]
 rw[e2];exact⟨e1,h.2 _ (gX0 hl)⟩
theorem qh3.set{x:IL}(h:qh3 x){j:Nat}{v:Int}(hv:0≤v∧v≤1099511627776):qh3 (x.set j v):=
 ⟨by simpa using h.1,fun u hu=>by
  rcases List.mem_or_eq_of_mem_set hu with h'|rfl
  ·exact h.2 _ h'
  ·exact hv⟩
theorem qhn{α:Type}{l:List α}{k:Nat}{x:α}(h:l[k]?=some x):l.set k x=l:=by
 apply List.ext_getElem?;intro j;by_cases hj:k=j
 ·grind
 ·grind
theorem qak{l:Hp}{k:Nat}{o o':AE.Obj}(h:l[k]?=some o):(l.set k o')[k]?=some o':=by grind
theorem qaa{l:Hp}{k k':Nat}{o o':AE.Obj}(h:l[k']?=some o)(hne:k≠k'):(l.set k o')[k']?=some o:=by grind
theorem Loc.set{i:Nat}(L:Loc h kT kS kR ki ko S1 S2 refs i so ri o){ri':List (IL)}(hl:ri'.length=ri.length):Loc (h.set ki (.row 61 (ri'.map arr))) kT kS kR ki ko S1 S2 refs i so ri' o where
 hT:=qaa L.hT L.ne.1
 hS:=qaa L.hS L.ne.2.1
 hR:=qaa L.hR L.ne.2.2.1
 href:=by rw[hl];exact L.href
 hi:=qak L.hi
 ho:=qaa L.ho L.ne.2.2.2
 ne:=L.ne
include hT in
theorem b1_loop{p i k a:Nat}{x0 x1 xs:IL}(L:Loc h kT kS kR ki ko S1 S2 refs i so ri o)(hp:p<60)(hi:i<refs.length)(hk:k+1<ri.length)(hk9:ri.length<1000)
 (ha:o.args[k]?=some (a:Int))(g1:ri[k+1]?=some x1)(gs:so[a]?=some xs)(o0:qh3 x0)(o1:qh3 x1)(os:qh3 xs){Q:AExit→PL→St→Prop}:
 ∀(d m:Nat)(v:Int)(e:PL)(ws:NL),m+d=p+1→1≤m→0≤v∧v≤1099511627776→eget e 3=.pb kT→eget e 6=iv0 ((p+1:Nat):Int)→eget e 7=iv0 (i:Int)→eget e 8=.pb ko→
   eget e 9=iv0 (k:Int)→eget e 10=iv0 (m:Int)→
   (∀e' ws',Same (fun j=>j=10∨74≤j) e e'→(∀x∈ws',x∈ws∨x=ki)→0≤qq3 xs x1 p d m v∧qq3 xs x1 p d m v≤1099511627776→Q (.exit 8) e' {h:=h.set ki (.row 61 ((ri.set k (x0.set p (qq3 xs x1 p d m v))).map arr)),ws:=ws',ups})→
   wpC T (.loop a90b1) e {h:=h.set ki (.row 61 ((ri.set k (x0.set p v)).map arr)),ws,ups} Q:=by
 intro d;induction d with
 |zero=>
   intro m v e ws hd hm1 hv e3 e6 e7 e8 e9 e10 hQ;have hm:¬m<p+1:=by omega
   refine unroll ?_;simp(disch:=first|omega|decide) only[a90b1,go_sem,↓reduceIte,Nat.reduceEqDiff,e6,e10,hm,decide_false];refine hQ _ ws (fun j hj=>?_) (fun x hx=>.inl hx) hv;simp only[not_or,Nat.not_le]at hj;simp(disch:=omega) only[qac]
 |succ d ih=>
   intro m v e ws hd hm1 hv e3 e6 e7 e8 e9 e10 hQ;have hkl:k<ri.length:=by omega
   have L':=L.set (ri':=ri.set k (x0.set p v)) (by simp);have y1:=o1.get (j:=p - m) (by omega);have ys:=os.get (j:=m) (by omega);have hmul:0≤xs.getD m 0*x1.getD (p - m) 0:=Int.mul_nonneg ys.2.1 y1.2.1
   refine unroll (b1_step hT (m:=m) (x0:=x0.set p v) L' e3 e6 e7 e8 e9 e10 (by omega) hp hi (by simpa using hk) (by simpa using hk9) ha (by rw[List.getElem?_set_self hkl]) (by rw[List.getElem?_set_ne (by omega)];exact g1) gs
    (by rw[List.getElem?_set_self (by rw[o0.1];omega)]) y1.1 ys.1 (by simpa using o0.1) hv y1.2 ys.2 fun e' hs h10=>?_)
   have st:∀j,¬(j=10∨74≤j)→eget e' j=eget e j:=hs;rw[List.set_set,List.set_set,List.set_set];refine ih (m+1) _ e' _ (by omega) (by omega) ⟨by omega,by omega⟩ (by rw[st 3 (by omega)];exact e3) (by rw[st 6 (by omega)];exact e6) (by rw[st 7 (by omega)];exact e7) (by rw[st 8 (by omega)];exact e8) (by rw[st 9 (by omega)];exact e9) h10 fun e2 ws2 hs2 hw2 hb=>?_;refine hQ e2 ws2 (hs.trans hs2) (fun x hx=>?_) hb;rcases hw2 x hx with h|h
   · unfold wadd at h;split at h
     ·exact .inl h
     · rcases mN0.1 h with h|h
       ·exact .inr h
       ·exact .inl h
   ·exact .inr h
def qju(so:List (IL))(args:IL)(p:Nat)(ri:List (IL))(k:Nat):List (IL):=
 ri.set k ((ri.getD k []).set p (qq3 (so.getD (args.getD k 0).toNat []) (ri.getD (k+1) []) p p 1 ((ri.getD k []).getD p 0)))
def qe1(so:List (IL))(args:IL)(p:Nat):Nat→List (IL)→List (IL)
 |0,ri=>ri
 |k+1,ri=>qe1 so args p k (qju so args p ri k)
def qfd(l:List (IL)):Prop:=∀x∈l,qh3 x
theorem qfd.get{l:List (IL)}(h:qfd l){k:Nat}(hk:k<l.length):l[k]?=some (l.getD k [])∧qh3 (l.getD k []):=by
 have e1:l[k]?=some l[k]:=gE0 hk;have e2:l.getD k []=l[k]:=by simp[gD0,e1]
 rw[e2];exact⟨e1,h _ (gX0 hk)⟩
theorem qfd.set{l:List (IL)}(h:qfd l){k:Nat}{x:IL}(hx:qh3 x):qfd (l.set k x):=fun y hy=>by
 rcases List.mem_or_eq_of_mem_set hy with h'|rfl
 ·exact h _ h'
 ·exact hx
theorem inner_ok{xs x1:IL}{p:Nat}(h1:qh3 x1)(hs:qh3 xs)(hp:p<60):∀(d m:Nat)(v:Int),m+d=p+1→1≤m→0≤v∧v≤1099511627776→0≤qq3 xs x1 p d m v∧qq3 xs x1 p d m v≤1099511627776
 |0,m,v,_,_,hv=>hv
 |d+1,m,v,hd,hm,hv=>by have y1:=h1.get (j:=p - m) (by omega);have ys:=hs.get (j:=m) (by omega);have hmul:0≤xs.getD m 0*x1.getD (p - m) 0:=Int.mul_nonneg ys.2.1 y1.2.1;exact inner_ok h1 hs hp d (m+1) _ (by omega) (by omega) ⟨by omega,by omega⟩
def qh5(args:IL)(n:Nat):Prop:=∀a∈args,0≤a∧a< (n:Int)
theorem qh5.get{args:IL}{n k:Nat}(h:qh5 args n)(hk:k<args.length):args[k]?=some (((args.getD k 0).toNat:Nat):Int)∧(args.getD k 0).toNat<n:=by
 have e1:args[k]?=some args[k]:=gE0 hk;have e2:args.getD k 0=args[k]:=by simp[gD0,e1]
 have:=h _ (gX0 hk);rw[e2,e1];refine⟨?_,by omega⟩
 congr 1
 omega
theorem qnr{so:List (IL)}{args:IL}{p k:Nat}{ri:List (IL)}(hso:qfd so)(hri:qfd ri)(ha:qh5 args so.length)(hp:p<60)(hl:ri.length=args.length+1)(hk:k<args.length):qfd (qju so args p ri k)∧(qju so args p ri k).length=args.length+1:=by refine⟨hri.set ((hri.get (by omega)).2.set (inner_ok (hri.get (by omega)).2 (hso.get (ha.get hk).2).2 hp p 1 _ (by omega) (by omega) ((hri.get (by omega)).2.get (by omega)).2)),by simp[qju,hl]⟩
theorem qid{so:List (IL)}{args:IL}{p:Nat}(hso:qfd so)(ha:qh5 args so.length)(hp:p<60):∀(K:Nat){ri:List (IL)},qfd ri→ri.length=args.length+1→K≤args.length→qfd (qe1 so args p K ri)∧(qe1 so args p K ri).length=args.length+1
 |0,ri,hri,hl,_=>⟨hri,hl⟩
 |k+1,ri,hri,hl,hk=>by have h:=qnr hso hri ha hp hl (show k<args.length by omega);exact qid hso ha hp k h.1 h.2 (by omega)
include hT in
theorem b2_loop{p i:Nat}{so:List (IL)}(hso:qfd so)(hp:p<60)(hi:i<refs.length)(ha:qh5 o.args so.length)(hk9:o.args.length<900){Q:AExit→PL→St→Prop}:
 ∀(K:Nat)(ri:List (IL))(e:PL)(ws:NL)(h:Hp),Loc h kT kS kR ki ko S1 S2 refs i so ri o→qfd ri→ri.length=o.args.length+1→K≤o.args.length→eget e 3=.pb kT→eget e 6=iv0 ((p+1:Nat):Int)→eget e 7=iv0 (i:Int)→eget e 8=.pb ko→
   eget e 9=iv0 ((K:Int) - 1)→
   (∀e' ws',Same (fun j=>j=9∨j=10∨70≤j) e e'→(∀x∈ws',x∈ws∨x=ki)→Q (.exit 6) e' {h:=h.set ki (.row 61 ((qe1 so o.args p K ri).map arr)),ws:=ws',ups})→
   wpC T (.loop a90b2) e {h,ws,ups} Q:=by
 intro K;induction K with
 |zero=>
   intro ri e ws h L hri hl hK e3 e6 e7 e8 e9 hQ;refine unroll ?_;have hm:¬((0:Int)≤((0:Nat):Int) - 1):=by omega
   simp(disch:=first|omega|decide) only[a90b2,go_sem,↓reduceIte,e9,hm,decide_false];have hset:h.set ki (.row 61 ((qe1 so o.args p 0 ri).map arr))=h:=by simp only[qe1];exact qhn L.hi
   rw[hset]at hQ;refine hQ _ ws (fun j hj=>?_) (fun x hx=>.inl hx);simp only[not_or,Nat.not_le]at hj;simp(disch:=omega) only[qac]
 |succ k ih=>
   intro ri e ws h L hri hl hK e3 e6 e7 e8 e9 hQ;have hge:(0:Int)≤(k:Int):=by omega
   have hk:k<o.args.length:=by omega
   obtain⟨g1,g2⟩:=ha.get hk;have q0:=hri.get (k:=k) (by omega);have q1:=hri.get (k:=k+1) (by omega);have qs:=hso.get g2;have v0:=q0.2.get (j:=p) (by omega);refine unroll ?_;simp(disch:=first|omega|decide) only[a90b2,go_sem,↓reduceIte,e9,hge,decide_true];have hself:h=h.set ki (.row 61 ((ri.set k ((ri.getD k []).set p ((ri.getD k []).getD p 0))).map arr)):=by have e1:(ri.getD k []).set p ((ri.getD k []).getD p 0)=ri.getD k []:=qhn v0.1;have e2:ri.set k (ri.getD k [])=ri:=qhn q0.1;rw[e1,e2];exact(qhn L.hi).symm
   have main:=fun Q'=>b1_loop hT (ups:=ups) (Q:=Q') (x0:=ri.getD k []) L hp hi (by omega) (by omega) g1 q1.1 qs.1 q0.2 q1.2 qs.2 p 1 ((ri.getD k []).getD p 0);rw[←hself]at main;refine main _ _ _ (by omega) (by omega) v0.2 ?_ ?_ ?_ ?_ ?_ ?_ ?_
   ·simp(disch:=omega) only[qac];exact e3
   ·simp(disch:=omega) only[qac];exact e6
   ·simp(disch:=omega) only[qac];exact e7
   ·simp(disch:=omega) only[qac];exact e8
   ·simp(disch:=omega) only[qac];rw[e9];simp
   ·simp only[qal];rfl
   · intro e' ws' hs hw hb;have st:∀j,¬(j=10∨70≤j)→eget e' j=eget e j:=fun j hj=>by simp only[not_or,Nat.not_le]at hj;rw[hs j (by omega)];simp(disch:=omega) only[qac]
     have s9:eget e' 9=iv0 (k:Int):=by rw[st 9 (by omega),e9];simp
     simp(disch:=first|omega|decide) only[go_sem,↓reduceIte,s9];have L':=L.set (ri':=qju so o.args p ri k) (by simp[qju]);obtain⟨r1,r2⟩:=qnr hso hri ha hp hl hk;refine ih _ _ ws' _ L' r1 r2 (by omega) ?_ ?_ ?_ ?_ ?_ ?_
     ·simp(disch:=omega) only[qac];rw[st 3 (by omega)];exact e3
     ·simp(disch:=omega) only[qac];rw[st 6 (by omega)];exact e6
     ·simp(disch:=omega) only[qac];rw[st 7 (by omega)];exact e7
     ·simp(disch:=omega) only[qac];rw[st 8 (by omega)];exact e8
     ·simp only[qal]
     · intro e2 ws2 hs2 hw2;rw[List.set_set];refine hQ e2 ws2 (fun j hj=>?_) (fun x hx=>?_)
       · rw[hs2 j hj];simp only[not_or,Nat.not_le]at hj;simp(disch:=omega) only[qac];exact st j (by omega)
       · rcases hw2 x hx with h|h
         ·exact hw x h
         ·exact .inr h
end Go.Proofs.Tryz
namespace Go.Proofs.Tryz
open Go Go.AE
open Go.AE.Obj (row)
variable {T:Tbl}(hT:Std T)
variable {h:Hp}{ws:NL}{ups:UL}{kT kS kR:Nat}{S1 S2:PV}
def qkm(kis:NL)(rest:List (List (IL))):PL:=List.zipWith (fun k (r:List (IL))=>PV.aref k 61 0 r.length r.length) kis rest
structure Glob (h:Hp)(kT kS kR:Nat)(kis:NL)(S1 S2:PV)(refs:PL)(so:List (IL))(rest:List (List (IL))):Prop where
 hT:h[kT]?=some (.row 4 [.agg [S1,S2,.aref kS 61 0 so.length so.length,.aref kR 1 0 refs.length refs.length]])
 hS:h[kS]?=some (.row 61 (so.map arr))
 hR:h[kR]?=some (.row 1 refs)
 refs:refs=qkm kis rest
 rows:∀(i k:Nat)(r:List (IL)),kis[i]?=some k→rest[i]?=some r→h[k]?=some (.row 61 (r.map arr))
 len:kis.length=rest.length
 nodup:∀(i j k:Nat),kis[i]?=some k→kis[j]?=some k→i=j
 ne:kT≠kS∧kT≠kR∧kS≠kR∧∀k∈kis,k≠kT∧k≠kS∧k≠kR
theorem Glob.ref{kis:NL}{refs:PL}{so:List (IL)}{rest:List (List (IL))}(G:Glob h kT kS kR kis S1 S2 refs so rest){i k:Nat}{r:List (IL)}(hk:kis[i]?=some k)(hr:rest[i]?=some r):refs[i]?=some (.aref k 61 0 r.length r.length):=by rw[G.refs];simp[qkm,List.getElem?_zipWith,hk,hr]
theorem Glob.more{kis:NL}{refs:PL}{so:List (IL)}{rest:List (List (IL))}(G:Glob h kT kS kR kis S1 S2 refs so rest){h':Hp}(hh:∀(k:Nat)(o:AE.Obj),h[k]?=some o→h'[k]?=some o):Glob h' kT kS kR kis S1 S2 refs so rest:=
 ⟨hh _ _ G.hT,hh _ _ G.hS,hh _ _ G.hR,G.refs,fun i k r h1 h2=>hh _ _ (G.rows i k r h1 h2),G.len,G.nodup,G.ne⟩
theorem Glob.loc{kis:NL}{refs:PL}{so:List (IL)}{rest:List (List (IL))}(G:Glob h kT kS kR kis S1 S2 refs so rest){i ki ko:Nat}{r:List (IL)}{o:GOp}(hk:kis[i]?=some ki)(hr:rest[i]?=some r)
 (ho:h[ko]?=some (.row 3 [qao o]))(hne:ki≠ko):Loc h kT kS kR ki ko S1 S2 refs i so r o:=
 ⟨G.hT,G.hS,G.hR,G.ref hk hr,G.rows i ki r hk hr,ho,(G.ne.2.2.2 ki (mG0 hk)).1,(G.ne.2.2.2 ki (mG0 hk)).2.1,(G.ne.2.2.2 ki (mG0 hk)).2.2,hne⟩
theorem Glob.setRow{kis:NL}{refs:PL}{so:List (IL)}{rest:List (List (IL))}(G:Glob h kT kS kR kis S1 S2 refs so rest){i ki:Nat}{r r':List (IL)}(hk:kis[i]?=some ki)(hr:rest[i]?=some r)(hl:r'.length=r.length):
 Glob (h.set ki (.row 61 (r'.map arr))) kT kS kR kis S1 S2 refs so (rest.set i r'):=by
 have hn:=G.ne.2.2.2 ki (mG0 hk);have hil:=(gI0.1 hr).1;refine⟨qaa G.hT hn.1,qaa G.hS hn.2.1,qaa G.hR hn.2.2,?_,fun j k x h1 h2=>?_,by simpa using G.len,G.nodup,G.ne⟩
 · rw[G.refs];unfold qkm;apply List.ext_getElem?;intro j;simp only[List.getElem?_zipWith,List.getElem?_set];by_cases hj:i=j
   ·grind
   ·simp[hj]
 · by_cases hj:i=j
   · subst hj;rw[hk]at h1;cases h1;rw[List.getElem?_set_self hil]at h2;cases h2;exact qak (G.rows i ki r hk hr)
   · rw[List.getElem?_set_ne hj]at h2;have hne:ki≠k:=fun e=>by subst e;exact hj (G.nodup _ _ _ hk h1)
     exact qaa (G.rows j k x h1 h2) hne
theorem Glob.setSorts{kis:NL}{refs:PL}{so so':List (IL)}{rest:List (List (IL))}(G:Glob h kT kS kR kis S1 S2 refs so rest)(hl:so'.length=so.length):
 Glob (h.set kS (.row 61 (so'.map arr))) kT kS kR kis S1 S2 refs so' rest:=
 ⟨by rw[hl];exact qaa G.hT (Ne.symm G.ne.1),qak G.hS,qaa G.hR G.ne.2.2.1,G.refs,fun j k x h1 h2=>qaa (G.rows j k x h1 h2) (Ne.symm (G.ne.2.2.2 k (mG0 h1)).2.1),G.len,G.nodup,G.ne⟩
abbrev Tab:=List (IL)×List (List (IL))
def qi5(p:Nat)(t:Tab)(i:Nat)(o:GOp):Tab:=
 let ri:=qe1 t.1 o.args p o.args.length (t.2.getD i [])
 let r:=o.res.toNat
 (t.1.set r ((t.1.getD r []).set (p+1) (min ((t.1.getD r []).getD (p+1) 0+(ri.getD 0 []).getD p 0) 1099511627776)),t.2.set i ri)
def qlz(p:Nat):List GOp→Nat→Tab→Tab
 |[],_,t=>t
 |o::os,i,t=>qlz p os (i+1) (qi5 p t i o)
structure TabOK (ops:List GOp)(nS:Nat)(t:Tab):Prop where
 so:qfd t.1
 sl:t.1.length=nS
 len:t.2.length=ops.length
 rows:∀(i:Nat)(o:GOp)(r:List (IL)),ops[i]?=some o→t.2[i]?=some r→qfd r∧r.length=o.args.length+1
def okOps(ops:List GOp)(nS:Nat):Prop:=∀o∈ops,qh5 o.args nS∧(0≤o.res∧o.res< (nS:Int))∧o.args.length<900
theorem qqo{ops:List GOp}{nS p i:Nat}{t:Tab}{o:GOp}(h:TabOK ops nS t)(hops:okOps ops nS)(hp:p<60)(ho:ops[i]?=some o):TabOK ops nS (qi5 p t i o):=by
 have hi:i<t.2.length:=by rw[h.len];exact(gI0.1 ho).1
 have e1:t.2[i]?=some (t.2.getD i []):=by grind
 obtain⟨q1,q2⟩:=h.rows i o _ ho e1;obtain⟨a1,a2,a3⟩:=hops o (mG0 ho);obtain⟨r1,r2⟩:=qid h.so (by rw[h.sl];exact a1) hp o.args.length q1 q2 (nR0 _);have hr:o.res.toNat<t.1.length:=by rw[h.sl];omega
 have s1:=(h.so.get hr).2;have v1:=s1.get (j:=p+1) (by omega);have v2:=(r1.get (k:=0) (by omega)).2.get (j:=p) (by omega);refine⟨h.so.set (s1.set ⟨by omega,by omega⟩),by simpa[qi5]using h.sl,by simpa[qi5]using h.len,fun j o' r ho' hr'=>?_⟩;by_cases hj:i=j
 · subst hj;rw[ho]at ho';cases ho';simp only[qi5]at hr';rw[List.getElem?_set_self hi]at hr';cases hr';exact⟨r1,r2⟩
 · simp only[qi5]at hr';rw[List.getElem?_set_ne hj]at hr';exact h.rows j o' r ho' hr'
theorem qnz{ops:List GOp}{nS p:Nat}(hops:okOps ops nS)(hp:p<60):∀(os:List GOp)(i:Nat)(t:Tab),TabOK ops nS t→(∀j o,os[j]?=some o→ops[i+j]?=some o)→TabOK ops nS (qlz p os i t)
 |[],i,t,h,_=>h
 |o::os,i,t,h,ho=>qnz hops hp os (i+1) _ (qqo h hops hp (ho 0 o rfl)) fun j o' hj=>by have:=ho (j+1) o' (by simpa using hj);rw[show i+1+j=i+(j+1) by omega];exact this
theorem qa5{z:PV}{sz:Nat}{c:PV}(hc:c.cells.length=sz)(hz:z.cells.length=sz)(hcell:c.cells.all PV.isCell=true)(ht:c.top=none)(hagg:∃cs,z=.agg cs)(hagc:∃cs,c=.agg cs):
 storeAt sz (.pb h.length) c {h:=h++[.row sz [z]],ws,ups}=some {h:=h++[.row sz [c]],ws:=wadd h.length ws,ups}:=by
 obtain⟨cs,rfl⟩:=hagg;obtain⟨cs',rfl⟩:=hagc;have h1:=gC0 (l:=h) (a:=row sz [PV.agg cs]);have hu:upd (.agg cs) 0 (.agg cs')=some (.agg cs'):=by unfold upd;simp only[PV.cells]at hc hz⊢;rw[if_pos (by simp[hc,hz])]
 simp only[storeAt,h1,ll0,hc,hcell,and_self,if_true,List.getElem?_cons_zero,hu,Option.map,ht,qau]
 congr 2
 simp
structure Low (n0:Nat)(h h':Hp):Prop where
 take:h'.take n0=h.take n0
 len:h.length≤h'.length
theorem Low.refl(n0:Nat)(h:Hp):Low n0 h h:=⟨rfl,nR0 _⟩
theorem Low.trans{n0:Nat}{h h' h'':Hp}(a:Low n0 h h')(b:Low n0 h' h''):Low n0 h h'':=⟨b.take.trans a.take,nT0 a.len b.len⟩
theorem Low.set{n0 k:Nat}{o:AE.Obj}(hk:n0≤k):Low n0 h (h.set k o):=⟨by rw[List.take_set_of_le hk],by simp⟩
theorem Low.more{n0:Nat}{l:Hp}(hn:n0≤h.length):Low n0 h (h++l):=⟨by rw[List.take_append_of_le_length hn],by simp⟩
theorem qa3{x k:Nat}{l:NL}(h:x∈wadd k l):x=k∨x∈l:=by
 unfold wadd at h;split at h
 ·exact .inr h
 ·grind
theorem qat{x:Nat}:∀{a b:NL},x∈wall a b→x∈a∨x∈b
 |[],b,h=>.inr h
 |k::a,b,h=>by
   have h:x∈wadd k (wall a b):=h;rcases qa3 h with h|h
   ·grind
   · rcases qat h with h|h
     ·grind
     ·exact .inr h
include hT in
theorem b3_step{p i n0:Nat}{kis:NL}{refs:PL}{ops:List GOp}{nS:Nat}{t:Tab}{o:GOp}{e:PL}(hops:okOps ops nS)(hp:p<60)(ho:ops[i]?=some o)(G:Glob h kT kS kR kis S1 S2 refs t.1 t.2)(K:TabOK ops nS t)(hrl:refs.length=ops.length)(hol:ops.length<1000)
 (hn0:n0≤h.length)(hnk:n0≤kS∧∀k∈kis,n0≤k)
 (e3:eget e 3=.pb kT)(e6:eget e 6=iv0 ((p+1:Nat):Int))(e59:eget e 59=.slice 3 (ops.map qao) .any)(e60:eget e 60=iv0 (ops.length:Int))(e61:eget e 61=iv0 (i:Int)){Q:AExit→PL→St→Prop}
 (hQ:∀e' ws' h',Same (fun j=>7≤j∧j≤10∨61≤j) e e'→eget e' 61=iv0 ((i+1:Nat):Int)→(∀x∈ws',x∈ws∨n0≤x)→Low n0 h h'→Glob h' kT kS kR kis S1 S2 refs (qi5 p t i o).1 (qi5 p t i o).2→Q .normal e' {h:=h',ws:=ws',ups}):
 wpC T a90b3 e {h,ws,ups} Q:=by
 have hil:i<ops.length:=(gI0.1 ho).1;have hi2:i<t.2.length:=by rw[K.len];exact hil
 have e1:t.2[i]?=some (t.2.getD i []):=by grind
 obtain⟨q1,q2⟩:=K.rows i o _ ho e1;obtain⟨a1,a2,a3⟩:=hops o (mG0 ho);obtain⟨ki,hki⟩:∃ki,kis[i]?=some ki:=⟨_,gE0 (by rw[G.len];exact hi2)⟩;have hkm:=mG0 hki;have hkl:ki<h.length:=(gI0.1 (G.rows i ki _ hki e1)).1;have go:(ops.map qao)[i]?=some (qao o):=by simp[ho]
 have so:sub true 3 (qao o) 0=some (qao o):=by simp[sub,qao]
 have sb:=qa5 (h:=h) (ws:=ws) (ups:=ups) (z:=.agg [(.str ⟨#[]⟩),.sn,(iv0 0)]) (sz:=3) (c:=qao o) rfl rfl rfl (by
  simp only[qao,PV.top,tops,omax]
  have:∀l:IL,tops (l.map encI)=none:=fun l=>by
   induction l with
   |nil=>rfl
   |cons x l ih=>simp[tops,encI,PV.top,ih,omax]
  rw[this]) ⟨_,rfl⟩ ⟨_,rfl⟩
 have ho3:=gC0 (l:=h) (a:=row 3 [qao o]);have fo1:loadAt false 1 (.ptr h.length 0 1 1) (h++[.row 3 [qao o]])=some (.slice 1 (o.args.map encI) .any):=by simp[loadAt,sub,qao]
 have G1:=G.more (h':=h++[.row 3 [qao o]]) fun k x hx=>by rw[gL0 (gI0.1 hx).1];exact hx
 have L:=G1.loc hki e1 ho3 (by omega);simp(disch:=first|omega|decide) only[a90b3,go_sem,↓reduceIte,Nat.reduceEqDiff,e60,e61,hil,decide_true,e59,go,so,sb,PV.cells,ll0,PV.isDef,Nat.reduceAdd,and_self,Nat.zero_add,fo1,lM0];refine b2_loop hT (so:=t.1) K.so hp (by omega) (by rw[K.sl];exact a1) a3 o.args.length (t.2.getD i []) _ _ _ L q1 q2 (nR0 _) ?_ ?_ ?_ ?_ ?_ ?_
 ·simp(disch:=omega) only[qac];exact e3
 ·simp(disch:=omega) only[qac];exact e6
 ·simp(disch:=omega) only[qac,qal]
 ·simp(disch:=omega) only[qac,qal]
 ·simp only[qal]
 · intro e' ws' hs hw;have st:∀j,¬(7≤j∧j≤10∨62≤j)→eget e' j=eget e j:=fun j hj=>by rw[hs j (by omega)];simp(disch:=omega) only[qac]
   have s8:eget e' 8=.pb h.length:=by rw[hs 8 (by omega)];simp(disch:=omega) only[qac,qal]
   have s7:eget e' 7=iv0 (i:Int):=by rw[hs 7 (by omega)];simp(disch:=omega) only[qac,qal]
   have s3:=(st 3 (by omega)).trans e3;have s6:=(st 6 (by omega)).trans e6;have s61:=(st 61 (by omega)).trans e61;obtain⟨r1,r2⟩:=qid K.so (by rw[K.sl];exact a1) hp o.args.length q1 q2 (nR0 _);have G2:=G1.setRow hki e1 (r':=qe1 t.1 o.args p o.args.length (t.2.getD i [])) (by rw[r2,q2]);generalize hri:qe1 t.1 o.args p o.args.length (t.2.getD i [])=ri at r1 r2 G2;generalize hh2:(h++[row 3 [qao o]]).set ki (.row 61 (ri.map arr))=h2 at G2;have hlen2:h2.length=h.length+1:=by rw[←hh2];simp
   obtain⟨r,hr⟩:∃r:Nat,o.res=(r:Int):=⟨o.res.toNat,by omega⟩;have hrl2:r<t.1.length:=by rw[K.sl];omega
   have hr2:o.res.toNat=r:=by omega
   have ho4:h2[h.length]?=some (.row 3 [qao o]):=by rw[←hh2];exact qaa ho3 (by omega)
   have fr2:loadAt false 1 (.ptr h.length 0 2 1) h2=some (iv0 (r:Int)):=by simp[loadAt,ho4,sub,qao,hr]
   have f3:loadAt false 1 (.ptr kT 0 3 1) h2=some (.aref kR 1 0 refs.length refs.length):=by simp[loadAt,G2.hT,sub]
   have f2:loadAt false 1 (.ptr kT 0 2 1) h2=some (.aref kS 61 0 t.1.length t.1.length):=by simp[loadAt,G2.hT,sub]
   have href:=G2.ref hki (List.getElem?_set_self hi2);have frk:loadAt false 1 (.ptr kR i 0 refs.length) h2=some (.aref ki 61 0 ri.length ri.length):=by simp[loadAt,G2.hR,href,sub]
   have q3:=K.so.get hrl2;have v1:=q3.2.get (j:=p+1) (by omega);have q4:=r1.get (k:=0) (by omega);have v2:=q4.2.get (j:=p) (by omega);have l1:=qq1 G2.hS q3.1 v1.1;have l2:=qq1 (G2.rows i ki _ hki (List.getElem?_set_self hi2)) q4.1 v2.1;have c1:∀(Kk:OR×St→Prop)(d:Keep Kk),qpl Kk d T 124 [iv0 ((t.1.getD r []).getD (p+1) 0),iv0 ((ri.getD 0 []).getD p 0)] h2=Kk (.val (iv0 (min ((t.1.getD r []).getD (p+1) 0+(ri.getD 0 []).getD p 0) 1099511627776)),{h:=h2,ws:=[],ups:=[]}):=fun Kk d=>qle (plus_ev hT v1.2.1 v1.2.2 v2.2.1 v2.2.2);have hst:=st_row (h:=h2) (ws:=[]) (ups:=ups) (v:=min ((t.1.getD r []).getD (p+1) 0+(ri.getD 0 []).getD p 0) 1099511627776) G2.hS q3.1 q3.2.1 (show p+1<61 by omega);have hp1:p+1<61:=by omega
   have hp0:p<61:=by omega
   have hri0:0<ri.length:=by omega
   have hirl:i<refs.length:=by omega
   simp(disch:=first|omega|decide) only[go_sem,↓reduceIte,Nat.reduceEqDiff,s3,s6,s7,s8,s61,fr2,f3,f2,frk,l1,l2,c1,hst,hT.prim,qab,Nat.zero_add,Nat.mul_one,hp1,hp0,hri0,hirl,hrl2,true_and,and_self];refine hQ _ _ _ (fun j hj=>?_) ?_ (fun x hx=>?_) ?_ ?_
   · simp only[not_or,Nat.not_le,not_and]at hj;simp(disch:=omega) only[qac];exact st j (by omega)
   ·simp only[qal]
   · rcases qat hx with hx|hx
     · rcases qa3 hx with rfl|hx
       ·exact .inr hnk.1
       ·cases hx
     · rcases hw x hx with hx|rfl
       · rcases qa3 hx with rfl|hx
         ·exact .inr hn0
         ·exact .inl hx
       ·exact .inr (hnk.2 _ hkm)
   · refine(Low.more (l:=[.row 3 [qao o]]) hn0).trans ?_;rw[←hh2];exact(Low.set (hnk.2 ki hkm)).trans (Low.set hnk.1)
   · have:=G2.setSorts (so':=t.1.set r ((t.1.getD r []).set (p+1) (min ((t.1.getD r []).getD (p+1) 0+(ri.getD 0 []).getD p 0) 1099511627776))) (by simp);simp only[qi5,hr2,hri];exact this
theorem drop_cons{α:Type}{l:List α}{i:Nat}{x:α}(h:l[i]?=some x):l.drop i=x::l.drop (i+1):=by obtain⟨hi,rfl⟩:=gI0.1 h;exact List.drop_eq_getElem_cons hi
include hT in
theorem b3_loop{p n0:Nat}{kis:NL}{refs:PL}{ops:List GOp}{nS:Nat}(hops:okOps ops nS)(hp:p<60)(hrl:refs.length=ops.length)(hol:ops.length<1000)(hnk:n0≤kS∧∀k∈kis,n0≤k){Q:AExit→PL→St→Prop}:
 ∀(d i:Nat)(t:Tab)(e:PL)(ws:NL)(h:Hp),i+d=ops.length→n0≤h.length→Glob h kT kS kR kis S1 S2 refs t.1 t.2→TabOK ops nS t→
   eget e 3=.pb kT→eget e 6=iv0 ((p+1:Nat):Int)→eget e 59=.slice 3 (ops.map qao) .any→eget e 60=iv0 (ops.length:Int)→eget e 61=iv0 (i:Int)→
   (∀e' ws' h',Same (fun j=>7≤j∧j≤10∨61≤j) e e'→(∀x∈ws',x∈ws∨n0≤x)→Low n0 h h'→Glob h' kT kS kR kis S1 S2 refs (qlz p (ops.drop i) i t).1 (qlz p (ops.drop i) i t).2→Q (.exit 4) e' {h:=h',ws:=ws',ups})→
   wpC T (.loop a90b3) e {h,ws,ups} Q:=by
 intro d;induction d with
 |zero=>
   intro i t e ws h hd hn G K e3 e6 e59 e60 e61 hQ;refine unroll ?_;have hm:¬(i<ops.length):=by omega
   simp(disch:=first|omega|decide) only[a90b3,go_sem,↓reduceIte,e60,e61,hm,decide_false];refine hQ _ ws h (fun j hj=>?_) (fun x hx=>.inl hx) (Low.refl _ _) ?_
   ·simp(disch:=omega) only[qac]
   · rw[List.drop_eq_nil_of_le (by omega)];exact G
 |succ d ih=>
   intro i t e ws h hd hn G K e3 e6 e59 e60 e61 hQ;obtain⟨o,ho⟩:∃o,ops[i]?=some o:=⟨_,gE0 (by omega)⟩;refine unroll (b3_step hT hops hp ho G K hrl hol hn hnk e3 e6 e59 e60 e61 fun e' ws' h' hs h61 hw hl G'=>?_);refine ih (i+1) _ e' ws' h' (by omega) (nT0 hn hl.len) G' (qqo K hops hp ho) (by rw[hs 3 (by omega)];exact e3) (by rw[hs 6 (by omega)];exact e6) (by rw[hs 59 (by omega)];exact e59) (by rw[hs 60 (by omega)];exact e60) h61 fun e2 ws2 h2 hs2 hw2 hl2 G2=>?_;refine hQ e2 ws2 h2 (hs.trans hs2) (fun x hx=>?_) (hl.trans hl2) ?_
   ·grind
   · rw[drop_cons ho];exact G2
def qi0(ops:List GOp):Nat→Nat→Tab→Tab
 |0,_,t=>t
 |d+1,p,t=>qi0 ops d (p+1) (qlz p ops 0 t)
theorem Low.get{n0 k:Nat}{h h':Hp}{o:AE.Obj}(L:Low n0 h h')(hk:k<n0)(ho:h[k]?=some o):h'[k]?=some o:=by
 have e1:(h'.take n0)[k]?=h'[k]?:=by rw[List.getElem?_take,if_pos hk]
 have e2:(h.take n0)[k]?=h[k]?:=by rw[List.getElem?_take,if_pos hk]
 rw[←e1,L.take,e2,ho]
include hT in
theorem b4_loop{n0 kb:Nat}{kis:NL}{refs:PL}{s:GSig}(hops:okOps s.ops s.sorts.length)(hrl:refs.length=s.ops.length)(hol:s.ops.length<1000)(hnk:n0≤kS∧∀k∈kis,n0≤k)(hkb:kb<n0){Q:AExit→PL→St→Prop}:
 ∀(d p:Nat)(t:Tab)(e:PL)(ws:NL)(h:Hp),p+d=60→n0≤h.length→Glob h kT kS kR kis S1 S2 refs t.1 t.2→TabOK s.ops s.sorts.length t→h[kb]?=some (.row 2 [qaf s])→
   eget e 1=.pb kb→eget e 3=.pb kT→eget e 6=iv0 ((p+1:Nat):Int)→
   (∀e' ws' h',Same (fun j=>6≤j) e e'→(∀x∈ws',x∈ws∨n0≤x)→Low n0 h h'→Glob h' kT kS kR kis S1 S2 refs (qi0 s.ops d p t).1 (qi0 s.ops d p t).2→Q (.exit 2) e' {h:=h',ws:=ws',ups})→
   wpC T (.loop a90b4) e {h,ws,ups} Q:=by
 intro d;induction d with
 |zero=>
   intro p t e ws h hd hn G K hb e1 e3 e6 hQ;refine unroll ?_;have hp:p=60:=by omega
   subst hp;simp(disch:=first|omega|decide) only[a90b4,go_sem,↓reduceIte,Nat.reduceEqDiff,e6];refine hQ _ ws h (fun j hj=>?_) (fun x hx=>.inl hx) (Low.refl _ _) G;simp(disch:=omega) only[qac]
 |succ d ih=>
   intro p t e ws h hd hn G K hb e1 e3 e6 hQ;refine unroll ?_;have hle:((p+1:Nat):Int)≤60:=by omega
   have fo:loadAt false 1 (.ptr kb 0 1 1) h=some (.slice 3 (s.ops.map qao) .any):=by simp[loadAt,hb,sub,qaf]
   simp(disch:=first|omega|decide) only[a90b4,go_sem,↓reduceIte,Nat.reduceEqDiff,e6,hle,decide_true,e1,Nat.zero_add,fo,lM0];refine b3_loop hT (p:=p) hops (by omega) hrl hol hnk s.ops.length 0 t _ ws h (by omega) hn G K ?_ ?_ ?_ ?_ ?_ ?_
   ·simp(disch:=omega) only[qac];exact e3
   ·simp(disch:=omega) only[qac];exact e6
   ·simp(disch:=omega) only[qac,qal]
   ·simp(disch:=omega) only[qac,qal]
   ·simp only[qal];rfl
   · intro e' ws' h' hs hw hl G';rw[List.drop_zero]at G';have st:∀j,j<7→eget e' j=eget e j:=fun j hj=>by rw[hs j (by omega)];simp(disch:=omega) only[qac]
     have s6:=(st 6 (by omega)).trans e6;simp(disch:=first|omega|decide) only[go_sem,↓reduceIte,s6];refine ih (p+1) _ _ ws' h' (by omega) (nT0 hn hl.len) G' (qnz hops (by omega) s.ops 0 t K fun j o hj=>by simpa using hj) (hl.get hkb hb) ?_ ?_ ?_ ?_
     ·simp(disch:=omega) only[qac];rw[st 1 (by omega)];exact e1
     ·simp(disch:=omega) only[qac];rw[st 3 (by omega)];exact e3
     ·simp only[qal]
     · intro e2 ws2 h2 hs2 hw2 hl2 G2;refine hQ e2 ws2 h2 (fun j hj=>?_) (fun x hx=>?_) (hl.trans hl2) G2
       · rw[hs2 j hj];simp(disch:=omega) only[qac];exact st j (by omega)
       ·grind
end Go.Proofs.Tryz
namespace Go.Proofs.Tryz
open Go Go.AE
variable {T:Tbl}(hT:Std T)
variable {h:Hp}{ws:NL}{ups:UL}
def zeros:IL:=List.replicate 61 0
def rest0(o:GOp):List (IL):=(List.replicate (o.args.length+1) zeros).set o.args.length (zeros.set 0 1)
def tab0(s:GSig):Tab:=(List.replicate s.sorts.length zeros,s.ops.map rest0)
def tabOf(s:GSig):Tab:=qi0 s.ops 60 0 (tab0 s)
def encTab(s:GSig):PV:=.iptr (.agg [.slice 1 (s.sorts.map .str) .any,.slice 3 (s.ops.map qao) .any,.slice 61 ((tabOf s).1.map arr) .any,.slice 1 ((tabOf s).2.map fun r=>.slice 61 (r.map arr) .any) .any]) 0
structure GOk (s:GSig):Prop where
 ops:okOps s.ops s.sorts.length
 nS:s.sorts.length<1000
 nO:s.ops.length<1000
theorem mk_ok{sz bytes n:Nat}{z:PV}(hn:n<1001)(hb:bytes≤1000)(hz:z.cells.length=sz):qjz sz bytes z (iv0 (n:Int)) (iv0 (n:Int))=some n:=by
 have h1:bytes*n≤1000*1000:=Nat.mul_le_mul hb (by omega);have h2:(bytes:Int) * (n:Int)≤(room:Int):=by have:((bytes*n:Nat):Int)≤((1000*1000:Nat):Int):=Int.ofNat_le.2 h1;simp only[room];rw[Int.natCast_mul]at this;omega
 dsimp only[qjz];rw[if_pos ⟨by omega,rfl,by simp only[room];omega,rfl,rfl,h2,hz⟩];simp
structure Lay (h0 h:Hp)(ops:List GOp)(nS i:Nat)(X Y:PV)(row:PL):Prop where
 take:h.take h0.length=h0
 len:h.length=h0.length+4+2*i
 hB:h[h0.length]?=some (.row 2 [.agg [X,Y]])
 hS:h[h0.length+1]?=some (.row 61 ((List.replicate nS zeros).map arr))
 hR:h[h0.length+2]?=some (.row 1 row)
 hT:h[h0.length+3]?=some (.row 4 [.agg [X,Y,.aref (h0.length+1) 61 0 nS nS,.aref (h0.length+2) 1 0 ops.length ops.length]])
 rl:row.length=ops.length
 laid:∀(j:Nat)(o:GOp),j<i→ops[j]?=some o→row[j]?=some (.aref (h0.length+5+2*j) 61 0 (o.args.length+1) (o.args.length+1))∧h[h0.length+5+2*j]?=some (.row 61 ((rest0 o).map arr))
theorem litZ:(PV.agg [iv0 0,iv0 0,iv0 0,iv0 0,iv0 0,iv0 0,iv0 0,iv0 0,iv0 0,iv0 0,iv0 0,iv0 0,iv0 0,iv0 0,iv0 0,iv0 0,iv0 0,iv0 0,iv0 0,iv0 0,iv0 0,iv0 0,iv0 0,iv0 0,iv0 0,iv0 0,iv0 0,iv0 0,iv0 0,iv0 0,iv0 0,iv0 0,iv0 0,iv0 0,iv0 0,iv0 0,iv0 0,iv0 0,iv0 0,iv0 0,iv0 0,iv0 0,iv0 0,iv0 0,iv0 0,iv0 0,iv0 0,iv0 0,iv0 0,iv0 0,iv0 0,iv0 0,iv0 0,iv0 0,iv0 0,iv0 0,iv0 0,iv0 0,iv0 0,iv0 0,iv0 0])=arr zeros:=rfl
theorem st_ref{k i j m n:Nat}{row:PL}{c:PV}(hk:h[k]?=some (.row 1 row))(hc:row[i]?=some c)(hcl:∀cs,c≠.agg cs)(hkj:k<j):
 storeAt 1 (.ptr k i 0 row.length) (.aref j 61 0 m n) {h,ws,ups}=some {h:=h.set k (.row 1 (row.set i (.aref j 61 0 m n))),ws:=wadd k ws,ups:=(k,j)::ups}:=by
 have hu:upd c 0 (.aref j 61 0 m n)=some (.aref j 61 0 m n):=by
  unfold upd;split
  ·grind
  ·rfl
 simp only[storeAt,hk,PV.cells,ll0,List.all_cons,List.all_nil,PV.isCell,Bool.and_self,and_self,if_true,hc,hu,Option.map,PV.top,qcj,hkj,if_true]
theorem b0_step{h0:Hp}{ops:List GOp}{nS i:Nat}{X Y:PV}{row:PL}{o:GOp}{e:PL}(ho:ops[i]?=some o)(hargs:o.args.length<900)(hrow:row[i]?=some .sn)(L:Lay h0 h ops nS i X Y row)
 (e3:eget e 3=.pb (h0.length+3))(e23:eget e 23=.slice 3 (ops.map qao) .any)(e24:eget e 24=iv0 (ops.length:Int))(e25:eget e 25=iv0 (i:Int))(hol:ops.length<1000){Q:AExit→PL→St→Prop}
 (hQ:∀e' ws' h' row',Same (fun j=>4≤j∧j≤5∨25≤j) e e'→eget e' 25=iv0 ((i+1:Nat):Int)→(∀x∈ws',x∈ws∨h0.length≤x)→Lay h0 h' ops nS (i+1) X Y row'→(∀j,i<j→row'[j]?=row[j]?)→Q .normal e' {h:=h',ws:=ws',ups:=(h0.length+2,h0.length+5+2*i)::ups}):
 wpC T a90b0 e {h,ws,ups} Q:=by
 have hil:i<ops.length:=(gI0.1 ho).1;have go:(ops.map qao)[i]?=some (qao o):=by simp[ho]
 have so:sub true 3 (qao o) 0=some (qao o):=by simp[sub,qao]
 have sb:=qa5 (h:=h) (ws:=ws) (ups:=ups) (z:=.agg [(.str ⟨#[]⟩),.sn,(iv0 0)]) (sz:=3) (c:=qao o) rfl rfl rfl (by
  simp only[qao,PV.top,tops,omax]
  have:∀l:IL,tops (l.map encI)=none:=fun l=>by
   induction l with
   |nil=>rfl
   |cons x l ih=>simp[tops,encI,PV.top,ih,omax]
  rw[this]) ⟨_,rfl⟩ ⟨_,rfl⟩
 have hl:=L.len;have keep:∀{k:Nat}{ob:AE.Obj},h[k]?=some ob→(h++[AE.Obj.row 3 [qao o]])[k]?=some ob:=fun hx=>by rw[gL0 (gI0.1 hx).1];exact hx
 have fo1:loadAt false 1 (.ptr h.length 0 1 1) (h++[.row 3 [qao o]])=some (.slice 1 (o.args.map encI) .any):=by simp[loadAt,sub,qao]
 have f3:loadAt false 1 (.ptr (h0.length+3) 0 3 1) (h++[.row 3 [qao o]])=some (.aref (h0.length+2) 1 0 ops.length ops.length):=by simp[loadAt,keep L.hT,sub]
 generalize hha:h++[AE.Obj.row 3 [qao o]]=ha at*;have hal:ha.length=h.length+1:=by rw[←hha];simp
 have hm:o.args.length+1<1001:=by omega
 have keep2:∀{k:Nat}{ob l:AE.Obj},ha[k]?=some ob→(ha++[l])[k]?=some ob:=fun hx=>by rw[gL0 (gI0.1 hx).1];exact hx
 have hhal:ha.length=h0.length+5+2*i:=by omega
 have kR:ha[h0.length+2]?=some (.row 1 row):=keep L.hR;have kT:ha[h0.length+3]?=some (.row 4 [.agg [X,Y,.aref (h0.length+1) 61 0 nS nS,.aref (h0.length+2) 1 0 ops.length ops.length]]):=keep L.hT;have kO:ha[h.length]?=some (.row 3 [qao o]):=by rw[←hha];simp
 have hrepl:List.replicate (o.args.length+1) (arr zeros)=(List.replicate (o.args.length+1) zeros).map arr:=by simp
 generalize hhb:ha++[AE.Obj.row 61 ((List.replicate (o.args.length+1) zeros).map arr)]=hb;have kN:hb[h0.length+5+2*i]?=some (.row 61 ((List.replicate (o.args.length+1) zeros).map arr)):=by rw[←hhb,←hhal];simp
 have kR2:hb[h0.length+2]?=some (.row 1 row):=by rw[←hhb];exact keep2 kR
 have kT2:hb[h0.length+3]?=some (.row 4 [.agg [X,Y,.aref (h0.length+1) 61 0 nS nS,.aref (h0.length+2) 1 0 ops.length ops.length]]):=by rw[←hhb];exact keep2 kT
 have kO2:hb[h.length]?=some (.row 3 [qao o]):=by rw[←hhb];exact keep2 kO
 have sr:=st_ref (ws:=[]) (ups:=ups) (j:=h0.length+5+2*i) (m:=o.args.length+1) (n:=o.args.length+1) kR2 hrow (fun cs hcs=>by cases hcs) (by omega);rw[L.rl]at sr;generalize hhc:hb.set (h0.length+2) (.row 1 (row.set i (.aref (h0.length+5+2*i) 61 0 (o.args.length+1) (o.args.length+1))))=hc at sr;have kN3:hc[h0.length+5+2*i]?=some (.row 61 ((List.replicate (o.args.length+1) zeros).map arr)):=by rw[←hhc];exact qaa kN (by omega)
 have kR3:hc[h0.length+2]?=some (.row 1 (row.set i (.aref (h0.length+5+2*i) 61 0 (o.args.length+1) (o.args.length+1)))):=by rw[←hhc];exact qak kR2
 have kT3:hc[h0.length+3]?=some (.row 4 [.agg [X,Y,.aref (h0.length+1) 61 0 nS nS,.aref (h0.length+2) 1 0 ops.length ops.length]]):=by rw[←hhc];exact qaa kT2 (by omega)
 have kO3:hc[h.length]?=some (.row 3 [qao o]):=by rw[←hhc];exact qaa kO2 (by omega)
 have hirow:i<row.length:=by rw[L.rl];exact hil
 have f3':loadAt false 1 (.ptr (h0.length+3) 0 3 1) hc=some (.aref (h0.length+2) 1 0 ops.length ops.length):=by simp[loadAt,kT3,sub]
 have fk:loadAt false 1 (.ptr (h0.length+2) i 0 ops.length) hc=some (.aref (h0.length+5+2*i) 61 0 (o.args.length+1) (o.args.length+1)):=by simp[loadAt,kR3,L.rl,hil,sub]
 have fo2:loadAt false 1 (.ptr h.length 0 1 1) hc=some (.slice 1 (o.args.map encI) .any):=by simp[loadAt,kO3,sub,qao]
 have s2:=st_row (ws:=[]) (ups:=(h0.length+2,h0.length+5+2*i)::ups) (i:=o.args.length) (j:=0) (x:=zeros) (v:=1) kN3 (by simp) (by simp[zeros]) (by omega);rw[List.length_replicate]at s2;have hl1:o.args.length<o.args.length+1:=by omega
 simp(disch:=first|omega|decide) only[a90b0,go_sem,↓reduceIte,Nat.reduceEqDiff,e24,e25,hil,decide_true,e23,go,so,sb,PV.cells,ll0,PV.isDef,Nat.reduceAdd,and_self,true_and,Nat.zero_add,lM0,fo1,f3,e3,mk_ok,litZ,hhal,hrepl,hhb,sr,f3',fk,fo2,s2,hl1,Nat.zero_mul,Nat.add_zero,Nat.zero_lt_succ];have chain:∀{k:Nat}{ob:AE.Obj},h[k]?=some ob→k≠h0.length+2→k≠h0.length+5+2*i→(hc.set (h0.length+5+2*i) (.row 61 ((rest0 o).map arr)))[k]?=some ob:=fun hx h1 h2=>by refine qaa ?_ (Ne.symm h2);rw[←hhc];refine qaa ?_ (Ne.symm h1);rw[←hhb];exact keep2 (keep hx)
 have hcl:hc.length=h.length+2:=by rw[←hhc,←hhb];simp;omega
 refine hQ _ _ _ (row.set i (.aref (h0.length+5+2*i) 61 0 (o.args.length+1) (o.args.length+1))) (fun j hj=>?_) ?_ (fun x hx=>?_) ?_ (fun j hj=>by rw[List.getElem?_set_ne (by omega)])
 · simp only[not_or,Nat.not_le,not_and]at hj;simp(disch:=omega) only[qac]
 ·simp only[qal]
 · rcases qat hx with hx|hx
   · rcases qa3 hx with rfl|hx
     ·omega
     ·cases hx
   · rcases qat hx with hx|hx
     · rcases qa3 hx with rfl|hx
       ·omega
       ·cases hx
     · rcases qa3 hx with rfl|hx
       ·omega
       ·grind
 · refine⟨?_,by simp[hcl,hl];omega,chain L.hB (by omega) (by omega),chain L.hS (by omega) (by omega),qaa kR3 (by omega),chain L.hT (by omega) (by omega),by simp[L.rl],fun j o' hj ho'=>?_⟩
   · rw[List.take_set_of_le (by omega),←hhc,List.take_set_of_le (by omega),←hhb,List.take_append_of_le_length (by omega),←hha,List.take_append_of_le_length (by omega)];exact L.take
   · by_cases hji:j=i
     · subst hji;rw[ho]at ho';cases ho';exact⟨by rw[List.getElem?_set_self hirow],qak kN3⟩
     · obtain⟨r1,r2⟩:=L.laid j o' (by omega) ho';exact⟨by rw[List.getElem?_set_ne (by omega)];exact r1,chain r2 (by omega) (by omega)⟩
theorem b0_loop{h0:Hp}{ops:List GOp}{nS:Nat}{X Y:PV}(hops:∀o∈ops,o.args.length<900)(hol:ops.length<1000){Q:AExit→PL→St→Prop}:
 ∀(d i:Nat)(row:PL)(e:PL)(ws:NL)(ups:UL)(h:Hp),i+d=ops.length→Lay h0 h ops nS i X Y row→(∀j,i≤j→j<ops.length→row[j]?=some .sn)→
   eget e 3=.pb (h0.length+3)→eget e 23=.slice 3 (ops.map qao) .any→eget e 24=iv0 (ops.length:Int)→eget e 25=iv0 (i:Int)→
   (∀e' ws' ups' h' row',Same (fun j=>4≤j∧j≤5∨25≤j) e e'→(∀x∈ws',x∈ws∨h0.length≤x)→(∀x∈ups',x∈ups∨h0.length≤x.1)→Lay h0 h' ops nS ops.length X Y row'→Q (.exit 0) e' {h:=h',ws:=ws',ups:=ups'})→
   wpC T (.loop a90b0) e {h,ws,ups} Q:=by
 intro d;induction d with
 |zero=>
   intro i row e ws ups h hd L hn e3 e23 e24 e25 hQ;refine unroll ?_;have hm:¬(i<ops.length):=by omega
   simp(disch:=first|omega|decide) only[a90b0,go_sem,↓reduceIte,e24,e25,hm,decide_false];have:i=ops.length:=by omega
   subst this;refine hQ _ ws ups h row (fun j hj=>?_) (fun x hx=>.inl hx) (fun x hx=>.inl hx) L;simp(disch:=omega) only[qac]
 |succ d ih=>
   intro i row e ws ups h hd L hn e3 e23 e24 e25 hQ;obtain⟨o,ho⟩:∃o,ops[i]?=some o:=⟨_,gE0 (by omega)⟩;refine unroll (b0_step ho (hops o (mG0 ho)) (hn i (nR0 _) (by omega)) L e3 e23 e24 e25 hol fun e' ws' h' row' hs h25 hw L' hr=>?_);refine ih (i+1) row' e' ws' _ h' (by omega) L' (fun j h1 h2=>by rw[hr j (by omega)];exact hn j (by omega) h2) (by rw[hs 3 (by omega)];exact e3) (by rw[hs 23 (by omega)];exact e23) (by rw[hs 24 (by omega)];exact e24) h25 fun e2 ws2 ups2 h2 row2 hs2 hw2 hu2 L2=>?_;refine hQ e2 ws2 ups2 h2 row2 (hs.trans hs2) (fun x hx=>?_) (fun x hx=>?_) L2
   ·grind
   ·grind
theorem qnw{α:Type}{f:α→Option PV}{g:α→PV}:∀{l:List α},(∀x∈l,f x=some (g x))→qbs (l.map f)=some (l.map g)
 |[],_=>rfl
 |x::l,h=>by simp only[List.map_cons,h x (by simp),qbs,qnw (l:=l) fun y hy=>h y (by simp[hy]),Option.map]
theorem qb0{n0 n:Nat}{p:PV}(hp:p.pure=true):frz h n0 (n+1) p=some p.weak:=by simp[frz,hp]
theorem qlw(l:IL):qas (l.map encI)=true∧qaq (l.map encI)=l.map encI:=by
 induction l with
 |nil=>exact⟨rfl,rfl⟩
 |cons x l ih=>simp[qas,qaq,encI,PV.pure,PV.weak]at ih⊢;exact ih
theorem arr_pure(x:IL):(arr x).pure=true∧(arr x).weak=arr x:=by simp only[arr,PV.pure,PV.weak];exact⟨(qlw x).1,by rw[(qlw x).2]⟩
theorem frz_rows{n0 n k:Nat}{r:List (IL)}(hk:h[k]?=some (.row 61 (r.map arr)))(hn:n0≤k):frz h n0 (n+2) (.aref k 61 0 r.length r.length)=some (.slice 61 (r.map arr) .any):=by
 have h1:¬(k<n0):=by omega
 have h2:qbs (((((r.map arr).drop 0).take r.length)).map (frz h n0 (n+1)))=some (r.map arr):=by
  have:((r.map arr).drop 0).take r.length=r.map arr:=by rw[List.drop_zero,tL0 (by simp)]
  rw[this,List.map_map];exact qnw (g:=arr) fun x _=>by show frz h n0 (n+1) (arr x)=_;rw[qb0 (arr_pure x).1,(arr_pure x).2]
 rw[frz];simp only[PV.pure,bF0,if_false,if_neg h1,hk,lM0,Nat.zero_add,nR0,and_self,if_true];rw[h2];rfl
theorem tidy_tab{h0:Hp}{kT kS kR:Nat}{kis:NL}{X Y:PV}{refs:PL}{so:List (IL)}{rest:List (List (IL))}(G:Glob h kT kS kR kis X Y refs so rest)(hX:X.pure=true∧X.weak=X)(hY:Y.pure=true∧Y.weak=Y)
 (ht:h.take h0.length=h0)(hT:h0.length≤kT)(hS:h0.length≤kS)(hR:h0.length≤kR)(hk:∀k∈kis,h0.length≤k)(hw:∀x∈ws,h0.length≤x)(hu:∀x∈ups,h0.length≤x.1):
 tidy 0 h0.length (.val (.pb kT)) {h,ws,ups}=(.val (.iptr (.agg [X,Y,.slice 61 (so.map arr) .any,.slice 1 (rest.map fun r=>.slice 61 (r.map arr) .any) .any]) 0),{h:=h0,ws:=[],ups:=[]}):=by
 have hR2:∀n,qbs (((((refs).drop 0).take refs.length)).map (frz h h0.length (n+2)))=some (rest.map fun r=>.slice 61 (r.map arr) .any):=fun n=>by
  have e1:(refs.drop 0).take refs.length=refs:=by simp
  rw[e1]
  have e2:∀(kis:NL)(rest:List (List (IL))),kis.length=rest.length→(∀(i k:Nat)(r:List (IL)),kis[i]?=some k→rest[i]?=some r→h[k]?=some (.row 61 (r.map arr)))→(∀k∈kis,h0.length≤k)→
   qbs ((qkm kis rest).map (frz h h0.length (n+2)))=some (rest.map fun r=>.slice 61 (r.map arr) .any):=by
   intro kis;induction kis with
   |nil=>
     intro rest hl _ _;cases rest with
     |nil=>rfl
     |cons=>simp at hl
   |cons k kis ih=>
     intro rest hl hr hk;cases rest with
     |nil=>simp at hl
     |cons r rest=>
       have h1:=frz_rows (n0:=h0.length) (n:=n) (hr 0 k r rfl rfl) (hk k (by simp));have h2:=ih rest (by simpa using hl) (fun i k' r' a b=>hr (i+1) k' r' (by simpa using a) (by simpa using b)) (fun k' hk'=>hk k' (by simp[hk']));simp only[qkm]at h2;simp only[qkm,List.zipWith_cons_cons,List.map_cons,h1,qbs,h2,Option.map]
  rw[G.refs];exact e2 kis rest G.len G.rows hk
 have fS:=frz_rows (n0:=h0.length) (n:=60) G.hS hS
 have fR:frz h h0.length 62 (.aref kR 1 0 refs.length refs.length)=some (.slice 1 (rest.map fun r=>.slice 61 (r.map arr) .any) .any):=by
  have h1:¬(kR<h0.length):=by omega
  rw[frz];simp only[PV.pure,bF0,if_false,if_neg h1,G.hR,Nat.zero_add,nR0,and_self,if_true];rw[hR2 59];rfl
 have fA:frz h h0.length 63 (.agg [X,Y,.aref kS 61 0 so.length so.length,.aref kR 1 0 refs.length refs.length])=some (.agg [X,Y,.slice 61 (so.map arr) .any,.slice 1 (rest.map fun r=>.slice 61 (r.map arr) .any) .any]):=by rw[frz];simp only[PV.pure,qas,Bool.false_and,Bool.and_false,bF0,if_false,List.map_cons,List.map_nil,qb0 hX.1,qb0 hY.1,hX.2,hY.2,fS,fR,qbs,Option.map]
 have fP:frz h h0.length 64 (.pb kT)=some (.iptr (.agg [X,Y,.slice 61 (so.map arr) .any,.slice 1 (rest.map fun r=>.slice 61 (r.map arr) .any) .any]) 0):=by
  have h1:¬(kT<h0.length):=by omega
  rw[frz];simp only[PV.pure,bF0,if_false,if_neg h1,G.hT,ll0,Nat.zero_add,if_true,List.getElem?_cons_zero,fA,Option.map]
 have hb:below h0.length ws=[]:=List.filter_eq_nil_iff.2 fun k hk=>by have:=hw k hk;simp;omega
 have hua:(ups.any fun(k,j)=>k<h0.length&&h0.length≤j)=false:=by grind
 have huf:ups.filter (fun(k,_)=>k<h0.length)=[]:=List.filter_eq_nil_iff.2 fun x hx=>by have:=hu x hx;simp;omega
 unfold tidy;rw[if_neg (by decide),if_neg (by simpa using hua)];simp only[OR.v,fP,hb,huf,ht,OR.put];rfl
theorem enc_pure(s:GSig):((PV.slice 1 (s.sorts.map .str) .any).pure=true∧(PV.slice 1 (s.sorts.map .str) .any).weak=.slice 1 (s.sorts.map .str) .any)∧(PV.slice 3 (s.ops.map qao) .any).pure=true∧(PV.slice 3 (s.ops.map qao) .any).weak=.slice 3 (s.ops.map qao) .any:=by
 have h1:∀l:List ByteArray,qas (l.map .str)=true∧qaq (l.map .str)=l.map .str:=fun l=>by
  induction l with
  |nil=>exact⟨rfl,rfl⟩
  |cons x l ih=>simp[qas,qaq,PV.pure,PV.weak]at ih⊢;exact ih
 have hp:∀x:GOp,(qao x).pure=true∧(qao x).weak=qao x:=fun x=>by
  obtain⟨a,b⟩:=qlw x.args;refine⟨?_,?_⟩
  ·simp only[qao,PV.pure,qas,a,Bool.and_self]
  ·simp only[qao,PV.weak,qaq,b]
 have h2:∀l:List GOp,qas (l.map qao)=true∧qaq (l.map qao)=l.map qao:=fun l=>by
  induction l with
  |nil=>exact⟨rfl,rfl⟩
  |cons x l ih=>simp only[List.map_cons,qas,qaq,(hp x).1,(hp x).2,ih.1,ih.2,Bool.and_self,and_self]
 refine⟨⟨(h1 _).1,?_⟩,(h2 _).1,?_⟩
 ·simp only[PV.weak,(h1 _).2]
 ·simp only[PV.weak,(h2 _).2]
theorem qif:qh3 zeros:=⟨by simp[zeros],fun v hv=>by simp[zeros]at hv;omega⟩
theorem tab0_ok(s:GSig):TabOK s.ops s.sorts.length (tab0 s):=by
 refine⟨fun x hx=>?_,by simp[tab0],by simp[tab0],fun i o r ho hr=>?_⟩
 · simp[tab0]at hx;rw[hx.2];exact qif
 · simp[tab0,ho]at hr;subst hr;refine⟨fun x hx=>?_,by simp[rest0]⟩;unfold rest0 at hx;rcases List.mem_or_eq_of_mem_set hx with h'|rfl
   · rw[List.mem_replicate]at h';rw[h'.2];exact qif
   ·exact qif.set ⟨by omega,by omega⟩
theorem Lay.glob{h0:Hp}{s:GSig}{X Y:PV}{row:PL}(L:Lay h0 h s.ops s.sorts.length s.ops.length X Y row):
 Glob h (h0.length+3) (h0.length+1) (h0.length+2) ((List.range s.ops.length).map fun j=>h0.length+5+2*j) X Y row (tab0 s).1 (tab0 s).2:=by
 have hget:∀(i k:Nat),((List.range s.ops.length).map fun j=>h0.length+5+2*j)[i]?=some k→i<s.ops.length∧k=h0.length+5+2*i:=fun i k hk=>by simp only[gM0,oM0]at hk;obtain⟨j,hj,rfl⟩:=hk;obtain⟨hi,hij⟩:=gI0.1 hj;simp at hi hij;subst hij;exact⟨hi,rfl⟩
 refine⟨by simpa[tab0,L.rl]using L.hT,by simpa[tab0]using L.hS,L.hR,?_,fun i k r hk hr=>?_,by simp[tab0],fun i j k hi hj=>?_,⟨by omega,by omega,by omega,fun k hk=>?_⟩⟩
 · apply List.ext_getElem?;intro i;by_cases hi:i<s.ops.length
   · obtain⟨o,ho⟩:∃o,s.ops[i]?=some o:=⟨_,gE0 hi⟩;rw[(L.laid i o hi ho).1];have hk:((List.range s.ops.length).map fun j=>h0.length+5+2*j)[i]?=some (h0.length+5+2*i):=by simp[hi]
     rw[qkm,List.getElem?_zipWith,hk];simp[tab0,ho,rest0]
   ·rw[List.getElem?_eq_none (by rw[L.rl];omega),List.getElem?_eq_none (by simp[qkm,tab0];omega)]
 · obtain⟨hi,rfl⟩:=hget i k hk;obtain⟨o,ho⟩:∃o,s.ops[i]?=some o:=⟨_,gE0 hi⟩;simp[tab0,ho]at hr;subst hr;exact(L.laid i o hi ho).2
 ·grind
 ·grind
include hT in
theorem counted_ev{s:GSig}(hs:GOk s){h:Hp}:Ev T 90 [qaf s] h (.val (encTab s),{h,ws:=[],ups:=[]}):=by
 refine hT.wk fn90 (by decide) ?_;have hnS:=hs.nS;have hnO:=hs.nO;have hX:qaf s=.agg [.slice 1 (s.sorts.map .str) .any,.slice 3 (s.ops.map qao) .any]:=rfl;obtain⟨pX,pY⟩:=enc_pure s;rw[hX];generalize hXX:PV.slice 1 (s.sorts.map .str) .any=X at pX;generalize hYY:PV.slice 3 (s.ops.map qao) .any=Y at pY;have lX:lenOf X=some s.sorts.length:=by rw[←hXX];simp[lenOf]
 have lY:lenOf Y=some s.ops.length:=by rw[←hYY];simp[lenOf]
 have fA:loadAt true 2 (.pb h.length) (h++[.row 2 [.agg [X,Y]]])=some (.agg [X,Y]):=by simp[loadAt,sub]
 have f0:loadAt false 1 (.pb h.length) (h++[.row 2 [.agg [X,Y]]])=some X:=by simp[loadAt,sub]
 have f1:∀l,loadAt false 1 (.ptr h.length 0 1 1) (h++ .row 2 [.agg [X,Y]]::l)=some Y:=fun l=>by simp[loadAt,sub]
 have cX:X.cells=[X]∧X.isDef=true:=by rw[←hXX];exact⟨rfl,rfl⟩
 have cY:Y.cells=[Y]∧Y.isDef=true:=by rw[←hYY];exact⟨rfl,rfl⟩
 have ff:∀A B C D:Nat,qdt [PV.sn,.sn,.sn,.sn] [(0,2,.agg [X,Y]),(2,1,.aref A 61 0 B B),(3,1,.aref C 1 0 D D)]=some [X,Y,.aref A 61 0 B B,.aref C 1 0 D D]:=fun A B C D=>by simp[qdt,PV.cells,PV.isDef]
 simp(disch:=first|omega|decide) only[go_sem,↓reduceIte,Nat.reduceEqDiff,PV.cells,ll0,PV.isDef,Nat.reduceAdd,and_self,true_and,Nat.zero_add,fA,f0,f1,lX,lY,mk_ok,List.append_assoc,lA0,litZ,ff];have L0:Lay h (h++[.row 2 [.agg [X,Y]],.row 61 (List.replicate s.sorts.length (arr zeros)),.row 1 (List.replicate s.ops.length .sn),.row 4 [.agg [X,Y,.aref (h.length+1) 61 0 s.sorts.length s.sorts.length,.aref (h.length+2) 1 0 s.ops.length s.ops.length]]]) s.ops s.sorts.length 0 X Y (List.replicate s.ops.length .sn):=by refine⟨by simp,by simp,by simp,by simp,by simp,by simp,by simp,fun j o hj=>by omega⟩
 refine b0_loop (fun o ho=>(hs.ops o ho).2.2) hnO s.ops.length 0 _ _ _ _ _ (by omega) L0 (fun j _ hj=>by simp[hj]) ?_ ?_ ?_ ?_ fun e' ws' ups' h' row' hse hw hu L'=>?_
 ·simp(disch:=omega) only[qac,qal]
 ·simp(disch:=omega) only[qac,qal];exact hYY.symm
 ·simp(disch:=omega) only[qac,qal]
 ·simp only[qal];rfl
 have s1:eget e' 1=.pb h.length:=by rw[hse 1 (by omega)];simp(disch:=omega) only[qac,qal]
 have s3:eget e' 3=.pb (h.length+3):=by rw[hse 3 (by omega)];simp(disch:=omega) only[qac,qal]
 simp(disch:=first|omega|decide) only[go_sem,↓reduceIte,Nat.reduceEqDiff];have hkis:∀k∈(List.range s.ops.length).map fun j=>h.length+5+2*j,h.length+1≤k:=fun k hk=>by obtain⟨j,_,rfl⟩:=mM0.1 hk;omega
 refine b4_loop hT (n0:=h.length+1) (kb:=h.length) hs.ops (by rw[L'.rl]) hnO ⟨nR0 _,hkis⟩ (by omega) 60 0 (tab0 s) _ ws' h' (by omega) (by rw[L'.len];omega) L'.glob (tab0_ok s) (by rw[L'.hB,hX,hXX,hYY]) ?_ ?_ ?_ fun e2 ws2 h2 hs2 hw2 hl2 G2=>?_
 ·simp(disch:=omega) only[qac];exact s1
 ·simp(disch:=omega) only[qac];exact s3
 ·simp only[qal];rfl
 have t3:eget e2 3=.pb (h.length+3):=by rw[hs2 3 (by omega)];simp(disch:=omega) only[qac];exact s3
 simp(disch:=first|omega|decide) only[go_sem,↓reduceIte,t3]
 have ht:h2.take h.length=h:=by
  have h1:(h2.take (h.length+1)).take h.length=(h'.take (h.length+1)).take h.length:=by rw[hl2.take]
  rw[List.take_take,List.take_take]at h1;rw[show min h.length (h.length+1)=h.length by omega]at h1;rw[h1,L'.take]
 rw[tidy_tab G2 pX pY ht (by omega) (by omega) (by omega) (fun k hk=>by have:=hkis k hk;omega) (fun x hx=>?_) (fun x hx=>?_)]
 · subst hXX hYY;rfl
 ·grind
 ·grind
end Go.Proofs.Tryz
namespace Go.Proofs.Tryz
open Go Go.AE
theorem qcu{α:Type}{l:List α}{i j:Nat}{x d:α}(hi:i<l.length):(l.set i x).getD j d=if i=j then x else l.getD j d:=by grind
def Eqn(t:Tab)(i:Nat)(o:GOp)(k q:Nat):Prop:=((t.2.getD i []).getD k []).getD q 0=qq3 (t.1.getD (o.args.getD k 0).toNat []) ((t.2.getD i []).getD (k+1) []) q q 1 0
structure Sem (ops:List GOp)(t:Tab)(done:Nat→Nat):Prop where
 last:∀i o,ops[i]?=some o→(t.2.getD i []).getD o.args.length []=zeros.set 0 1
 eq:∀i o k q,ops[i]?=some o→k<o.args.length→q<done i→Eqn t i o k q
 zero:∀i o k q,ops[i]?=some o→k<o.args.length→done i≤q→((t.2.getD i []).getD k []).getD q 0=0
theorem qh3.le{x:IL}(h:qh3 x)(j:Nat):x.getD j 0≤1099511627776:=by
 by_cases hj:j<61
 ·exact(h.get hj).2.2
 ·rw[gD0,List.getElem?_eq_none (by rw[h.1];omega)];decide
end Go.Proofs.Tryz
namespace Go.Proofs.Tryz
open Go Go.AE
section
variable (sv rv:Nat→Nat→Int)
def sumS(k q:Nat):Nat→Int
 |0=>0
 |j+1=>sumS k q j+sv k (j+1) *rv (k+1) (q - (j+1))
def wayW(a:Int)(k q m:Nat):Int:=cap (cap (a*sv k m) *rv (k+1) (q - m))
def preP(a:Int)(k q:Nat):Nat→Int
 |0=>0
 |j+1=>preP a k q j+wayW sv rv a k q (j+1)
def ahF(sz:Nat→Nat):Nat→Int
 |0=>1
 |k+1=>cap (ahF sz k*sv k (sz k))
def lfF(sz:Nat→Nat)(N:Nat):Nat→Nat
 |0=>N
 |k+1=>lfF sz N k - sz k
def bsF(sz:Nat→Nat)(N:Nat):Nat→Int
 |0=>0
 |k+1=>bsF sz N k+preP sv rv (ahF sv sz k) k (lfF sz N k) (sz k - 1)
def beF(sz:Nat→Nat)(L:Nat):Nat→Int
 |0=>1
 |j+1=>cap (beF sz L j*sv (L - 1 - j) (sz (L - 1 - j)))
def dnF(sz:Nat→Nat)(nm:Nat→Int)(L:Nat):Nat→Int
 |0=>0
 |j+1=>dnF sz nm L j+nm (L - 1 - j) *beF sv sz L j
structure Sys (L:Nat):Prop where
 s0:∀k m,0≤sv k m
 r0:∀k q,0≤rv k q
 rc:∀k q,rv k q≤1099511627776
 eq:∀k q,k<L→q<60→rv k q=cap (sumS sv rv k q q)
 last:∀q,rv L q=if q=0 then 1 else 0
structure Fit (L N:Nat)(sz:Nat→Nat):Prop where
 lo:∀k,k<L→1≤sz k
 le:∀k,k<L→sz k≤lfF sz N k
 all:lfF sz N L=0
 pos:∀k,k<L→1≤sv k (sz k)
end
section
variable {sv rv:Nat→Nat→Int}{L:Nat}
end
end Go.Proofs.Tryz
namespace Go.Proofs.Tryz
open Go Go.AE
def aT(ops:List GOp)(t:Tab)(r:Int)(p:Nat):Nat→Int
 |0=>0
 |i+1=>aT ops t r p i+match ops[i]? with
   |some o=>if o.res=r then((t.2.getD i []).getD 0 []).getD p 0 else 0
   |none=>0
inductive Tm where
 |mk (k n:Int)(l:List Tm)
abbrev Ts:=List Tm
abbrev LT:=List (List Tm)
mutual
def Tm.nodes:Tm→Nat
 |.mk _ _ l=>1+qba l
def qba:Ts→Nat
 |[]=>0
 |t::l=>t.nodes+qba l
end
mutual
def WT(s:GSig):Tm→Int→Prop
 |.mk k n l,a=>k=2∧0≤n∧∃o,s.ops[n.toNat]?=some o∧o.res=a∧WTs s l o.args
def WTs(s:GSig):Ts→IL→Prop
 |[],[]=>True
 |t::l,a::bs=>WT s t a∧WTs s l bs
 |_,_=>False
end
def svOf(s:GSig)(o:GOp)(k m:Nat):Int:=((tabOf s).1.getD (o.args.getD k 0).toNat []).getD m 0
def rvOf(s:GSig)(i k q:Nat):Int:=(((tabOf s).2.getD i []).getD k []).getD q 0
mutual
def Tm.num(s:GSig):Tm→Int
 |.mk _ n l=>match s.ops[n.toNat]? with
   |some o=>cap (aT s.ops (tabOf s) o.res (qba l) n.toNat+(bsF (svOf s o) (rvOf s n.toNat) (fun k=>(l.map Tm.nodes).getD k 0) (qba l) o.args.length+dnF (svOf s o) (fun k=>(l.map Tm.nodes).getD k 0) (fun k=>(numL s l).getD k 0) o.args.length o.args.length))
   |none=>0
def numL(s:GSig):Ts→IL
 |[]=>[]
 |t::l=>t.num s::numL s l
end
theorem ql0(t:Tm):1≤t.nodes:=by cases t;simp only[Tm.nodes];omega
theorem qc6:∀{l:Ts}{t:Tm},t∈l→t.nodes≤qba l
 |x::l,t,h=>by
   rcases mN0.1 h with rfl|h
   ·simp only[qba];omega
   · have:=qc6 h;simp only[qba];omega
theorem qk6{s:GSig}:∀{l:Ts}{k:Nat}{t:Tm},l[k]?=some t→(numL s l).getD k 0=t.num s
 |x::l,0,t,h=>by
   simp only[List.getElem?_cons_zero,Option.some.injEq]at h;subst h;rfl
 |x::l,k+1,t,h=>by have:=qk6 (s:=s) (l:=l) (k:=k) (t:=t) (by simpa using h);simpa[numL]using this
theorem qk8{l:Ts}{k:Nat}(hk:k<l.length):l[k]?=some l[k]:=gE0 hk
end Go.Proofs.Tryz
namespace Go.Proofs.Tryz
open Go Go.AE
theorem strAt_lt{t:ByteArray}{i:Nat}(h:i<t.size):∃c:Nat,qiw t (i:Int)=some c:=by have:t.data.toList[i]?=some (t.data.toList[i]'(by simpa using h)):=gE0 _;simp only[qiw,Int.natCast_nonneg,if_true,Int.toNat_natCast,this];exact⟨_,rfl⟩
theorem qee{l:IL}{i:Nat}(h:i<l.length):(l.map encI)[i]?=some (.int .i64 l[i]):=by simp[h,encI]
@[go_sem] theorem sigc{s:GSig}:(qaf s).cells.length=2:=rfl
@[go_sem] theorem sigd{s:GSig}:(qaf s).isDef=true:=rfl
@[go_sem] theorem sig_sorts{s:GSig}{sz:Nat}:sub false sz (qaf s) 0=some (.slice 1 (s.sorts.map .str) .any):=rfl
@[go_sem] theorem sig_ops{s:GSig}{sz:Nat}:sub false sz (qaf s) 1=some (.slice 3 (s.ops.map qao) .any):=rfl
@[go_sem] theorem sig_all{s:GSig}:sub true 2 (qaf s) 0=some (qaf s):=rfl
@[go_sem] theorem opc{o:GOp}:(qao o).cells.length=3:=rfl
@[go_sem] theorem opd{o:GOp}:(qao o).isDef=true:=rfl
@[go_sem] theorem op_name{o:GOp}{sz:Nat}:sub false sz (qao o) 0=some (.str o.name):=rfl
@[go_sem] theorem op_args{o:GOp}{sz:Nat}:sub false sz (qao o) 1=some (.slice 1 (o.args.map encI) .any):=rfl
@[go_sem] theorem op_res{o:GOp}{sz:Nat}:sub false sz (qao o) 2=some (.int .i64 o.res):=rfl
@[go_sem] theorem op_all{o:GOp}:sub true 3 (qao o) 0=some (qao o):=rfl
structure Fits (s:GSig):Prop where
 nS:s.sorts.length<1000
 nO:s.ops.length<1000
 sorts:∀t∈s.sorts,t.size<1000
 ops:∀o∈s.ops,o.name.size<1000∧o.args.length<900
theorem get_str{l:List ByteArray}{i:Nat}(h:i<l.length):(l.map PV.str)[i]?=some (.str l[i]):=by simp[h]
theorem ql9{l:List GOp}{i:Nat}(h:i<l.length):(l.map qao)[i]?=some (qao l[i]):=by simp[h]
@[go_sem] theorem subv_aref{sz k a b c d:Nat}:sub false sz (.aref k a b c d) 0=some (.aref k a b c d):=rfl
theorem ld_v{h:Hp}{k i n:Nat}{x:IL}(hk:h[k]?=some (.row 1 (x.map encI)))(hn:x.length=n)(hi:i<n):loadAt false 1 (.ptr k i 0 n) h=some (.int .i64 (x.getD i 0)):=by
 have hl:i<x.length:=by omega
 have e:(x.map encI)[i]?=some (encI x[i]):=by rw[gM0,gE0 hl];rfl
 simp[loadAt,hk,hn,e,sub,encI,gD0];rw[gE0 hl];rfl
theorem st_v{h:Hp}{ws:NL}{ups:UL}{k i n:Nat}{x:IL}{v:Int}(hk:h[k]?=some (.row 1 (x.map encI)))(hn:x.length=n)(hi:i<n):
 storeAt 1 (.ptr k i 0 n) (.int .i64 v) {h,ws,ups}=some {h:=h.set k (.row 1 ((x.set i v).map encI)),ws:=wadd k ws,ups}:=by
 have hl:i<x.length:=by omega
 have e:(x.map encI)[i]?=some (encI x[i]):=by rw[gM0,gE0 hl];rfl
 simp[storeAt,hk,hn,e,PV.cells,PV.isCell,upd,PV.top,qau,List.map_set];exact⟨_,rfl,rfl⟩
theorem qae{k n:Nat}{ws:NL}(hk:n≤k)(hw:∀j∈ws,n≤j):∀j∈wadd k ws,n≤j:=fun j hj=>by
 unfold wadd at hj;split at hj
 ·exact hw j hj
 ·grind
theorem Low.push{n0:Nat}{h H:Hp}{o:AE.Obj}(L:Low n0 h H)(hn:n0≤H.length):Low n0 h (H++[o]):=
 ⟨by rw[List.take_append_of_le_length hn];exact L.take,by have:=L.len;simp;omega⟩
theorem qan{h H:Hp}{v:PV}{ws:NL}(hp:v.pure=true)(hv:v.weak=v)(L:Low h.length h H)(hw:∀k∈ws,h.length≤k):tidy 0 h.length (.val v) {h:=H,ws,ups:=[]}=(.val v,{h,ws:=[],ups:=[]}):=by
 have:=qgv (h:=h) (v:=v) (s:={h:=H,ws,ups:=[]}) hp rfl (by rw[L.take];simp) hw
 rwa [hv]at this
end Go.Proofs.Tryz
namespace Go.Proofs.Tryz
open Go Go.AE
def qtm(c:Nat):Prop:=33≤c∧c≤126∧c≠40∧c≠41∧c≠44
def qqs(t:ByteArray):Prop:=(1≤t.size∧t.size≤32)∧∀i c:Nat,qiw t (i:Int)=some c→qtm c
def blk(t:ByteArray):Nat:=t.data.toList.countP (· ==95)
theorem qqa{t:ByteArray}{i c:Nat}:qiw t (i:Int)=some c↔∃u,t.data.toList[i]?=some u∧u.toNat=c:=by simp[qiw]
theorem qnn{t:ByteArray}{i c:Nat}(h:qiw t (i:Int)=some c):i<t.size∧c<256:=by obtain⟨u,h1,rfl⟩:=qqa.1 h;exact⟨by simpa using(gI0.1 h1).1,u.toNat_lt⟩
theorem blk_le(t:ByteArray):blk t≤t.size:=by have:=List.countP_le_length (p:=fun x:UInt8=>x==95) (l:=t.data.toList);simpa[blk]using this
theorem qoa(t:ByteArray):∀(i j:Nat)(b:Int),i+j=t.size→ByteArray.foldlM.loop (m:=_root_.Id) (fun n x=>if x==(95:UInt8)then n+1 else n) t t.size (nR0 _) i j b=(b+(((t.data.toList.drop j).countP (· ==95):Nat):Int):Int)
 |0,j,b,h=>by
   rw[List.drop_eq_nil_of_le (by simp;omega)];unfold ByteArray.foldlM.loop;rw[dif_neg (by omega)];simp only[List.countP_nil,zN0,Int.add_zero];rfl
 |i+1,j,b,h=>by
   unfold ByteArray.foldlM.loop;rw[dif_pos (by omega)];have hd:t.data.toList.drop j=t[j]::t.data.toList.drop (j+1):=by rw[List.drop_eq_getElem_cons (by simp;omega)];rfl
   rw[hd,List.countP_cons];refine(qoa t i (j+1) (if t[j]==(95:UInt8)then b+1 else b) (by omega)).trans ?_;by_cases hc:(t[j]==(95:UInt8))=true
   ·grind
   ·grind
theorem foldl_blk (t:ByteArray):t.foldl (fun n x=>if x==UInt8.ofNat ((95:Nat):Int).toNat then n+1 else n) (0:Int)=(blk t:Int):=by have:=qoa t t.size 0 0 (by omega);rw[List.drop_zero,Int.zero_add]at this;unfold ByteArray.foldl ByteArray.foldlM;rw[dif_pos (nR0 _)];exact this
def idxB(s:ByteArray)(c:Int):Int:=match(List.range s.size).find? (fun i=>s[i]! ==UInt8.ofNat c.toNat)with|some i=>(i:Int)|none=> -1
theorem idx_par:∀c:Fin 256,decide (0≤idxB ⟨#[40,41,44]⟩ (c.val:Int))=decide (c.val=40∨c.val=41∨c.val=44):=by decide+kernel
theorem idx_us(t:ByteArray):0≤idxB t ((95:Nat):Int)↔blk t≠0:=by
 have h1:blk t≠0↔∃u∈t.data.toList,(u==(95:UInt8))=true:=by unfold blk;rw[Ne,List.countP_eq_zero];simp
 rw[h1];unfold idxB;cases hf:(List.range t.size).find? (fun i=>t[i]! ==UInt8.ofNat ((95:Nat):Int).toNat)with
 |some i=>
   have hi:=List.mem_of_find?_eq_some hf;have hp:=List.find?_some hf;have hi:i<t.size:=by simpa using hi
   refine⟨fun _=>⟨t[i],?_,?_⟩,fun _=>by simp⟩
   ·exact gX0 (l:=t.data.toList) (by simpa using hi)
   ·grind
 |none=>
   refine⟨fun h=>by simp at h,fun⟨u,hu,h95⟩=>?_⟩;obtain⟨i,hi,rfl⟩:=List.getElem_of_mem hu;have hi':i<t.size:=by simpa using hi
   have:=List.find?_eq_none.1 hf i (by simpa using hi');rw[getElem!_pos t i hi']at this;exact absurd h95 this
def opP(nS:Nat)(o:GOp):Prop:=qqs o.name∧blk o.name≠o.name.size∧(blk o.name=0∨blk o.name=o.args.length)∧qh5 o.args nS∧(0≤o.res∧o.res< (nS:Int))∧o.args.length≤8
def lowB(a:Int):UInt8:=UInt8.ofNat (a %256).toNat
def keyL(o:GOp):List UInt8:=(o.name.data.toList++[40])++(o.args++[o.res]).map lowB
theorem split_at{α:Type}{c:α}:∀{a b x y:List α},c∉a→c∉b→a++c::x=b++c::y→a=b∧x=y
 |[],[],x,y,_,_,h=>⟨rfl,by simpa using h⟩
 |[],v::b,x,y,_,hb,h=>by
   simp only[List.nil_append,List.cons_append,List.cons.injEq]at h;exact absurd (by simp[h.1]) hb
 |u::a,[],x,y,ha,_,h=>by
   simp only[List.nil_append,List.cons_append,List.cons.injEq]at h;exact absurd (by simp[h.1]) ha
 |u::a,v::b,x,y,ha,hb,h=>by simp only[List.cons_append,List.cons.injEq]at h;obtain⟨h1,h2⟩:=split_at (a:=a) (b:=b) (fun hc=>ha (by simp[hc])) (fun hc=>hb (by simp[hc])) h.2;exact⟨by rw[h.1,h1],h2⟩
theorem low_inj:∀{l l':IL},(∀a∈l,0≤a∧a<256)→(∀a∈l',0≤a∧a<256)→l.map lowB=l'.map lowB→l=l'
 |[],[],_,_,_=>rfl
 |[],_::_,_,_,h=>by simp at h
 |_::_,[],_,_,h=>by simp at h
 |x::l,y::l',h1,h2,h=>by
   simp only[List.map_cons,List.cons.injEq]at h;have e:=low_inj (fun a ha=>h1 a (by simp[ha])) (fun a ha=>h2 a (by simp[ha])) h.2;obtain⟨x0,x1⟩:=h1 x (by simp);obtain⟨y0,y1⟩:=h2 y (by simp);have hb:=congrArg UInt8.toNat h.1;simp only[lowB,UInt8.toNat_ofNat']at hb;have:x=y:=by omega
   rw[this,e]
theorem qqr{t:ByteArray}(h:qqs t):(40:UInt8)∉t.data.toList:=fun hc=>by obtain⟨i,hi,he⟩:=List.getElem_of_mem hc;have:=h.2 i 40 (qqa.2 ⟨40,by rw[gE0 hi,he],rfl⟩);exact this.2.2.1 rfl
theorem key_inj{nS:Nat}(hn:nS≤256){o o':GOp}(h:opP nS o)(h':opP nS o')(he:keyL o=keyL o'):o=o':=by
 obtain⟨n,a,r⟩:=o;obtain⟨n',a',r'⟩:=o';simp only[keyL,List.append_assoc,List.singleton_append]at he;obtain⟨e1,e2⟩:=split_at (qqr h.1) (qqr h'.1) he
 have rng:∀{o:GOp},opP nS o→∀x∈o.args++[o.res],0≤x∧x<256:=fun{o} ho x hx=>by
  obtain⟨_,_,_,p1,p2,_⟩:=ho;rcases mA0.1 hx with hx|hx
  · have:=p1 x hx;omega
  ·grind
 have e3:=low_inj (rng h) (rng h') e2;obtain⟨e4,e5⟩:=List.append_inj' e3 rfl;have e6:n=n':=by obtain⟨⟨d⟩⟩:=n;obtain⟨⟨d'⟩⟩:=n';simpa using e1
 simp only[List.cons.injEq,and_true]at e5;dsimp only at e4 e5;rw[e6,e4,e5]
theorem str_eq{a b:ByteArray}:(a.toList==b.toList)=true↔a=b:=by rw[beq_iff_eq,ByteArray.toList_eq,ByteArray.toList_eq];refine⟨fun h=>?_,fun h=>by rw[h]⟩;obtain⟨⟨a⟩⟩:=a;obtain⟨⟨b⟩⟩:=b;simpa using h
structure sigP (s:GSig):Prop where
 nS:s.sorts.length≤64
 nO:s.ops.length≤256
 sorts:∀i (hi:i<s.sorts.length),qqs s.sorts[i]∧blk s.sorts[i]=0
 diff:∀i k (hi:i<s.sorts.length)(hk:k<i),s.sorts[k]'(by omega)≠s.sorts[i]
 ops:∀i (hi:i<s.ops.length),opP s.sorts.length s.ops[i]
 diffO:∀i k (hi:i<s.ops.length)(hk:k<i),s.ops[k]'(by omega)≠s.ops[i]
end Go.Proofs.Tryz
namespace Go.Proofs.Tryz
open Go Go.AE
def a203:AFunc:=⟨2,8,(sr0 [c0 4] (sr0 [mv 5 0,mv 6 1,rp 7 (.call (.f 244) [(.t 5),(.t 6)]),mv 4 7] .ret)),[.t 4]⟩
theorem fn203:fnOf 203=some a203:=by kernel_rfl
def a244:AFunc:=⟨2,8,(sr0 [c0 4] (sr0 [mv 5 0,mv 6 1,rp 7 (.call (.f 272) [(.t 5),(.t 6)]),mv 4 7] .ret)),[.t 4]⟩
theorem fn244:fnOf 244=some a244:=by kernel_rfl
def a245b0:ACode:=(.seq (sr0 [mv 57 8,mv 58 9,lo 59 57 58] (cn0 59 .skip (.exit 1))) (.block 2 (.seq (sr0 [mv 60 0,mv 61 8,ro 62 (.idxStr (.t 60) (.t 61)),mv 63 6,ro 64 (bi .neq 62 63)] (cn0 64 (sr0 [mv 65 0,mv 66 8,nx 67 66,mv 68 9,ro 69 (.strSlice (.t 65) (some (.t 67)) (some (.t 68))),mv 70 6,rp 71 (.call (.f 244) [(.t 69),(.t 70)]),mv 11 71] (.seq (sr0 [mv 72 11,ro 73 (bc .lss 72 0)] (cn0 73 (sr0 [ro 4 (.move (ci (-1)))] .ret) .skip)) (.reg [mv 74 8,mv 75 11,nx 76 75,ro 77 (bi .add 74 76),mv 8 77]))) .skip)) (.seq (sr0 [mv 78 0,mv 79 8,nx 80 79,ro 81 (.idxStr (.t 78) (.t 80)),mv 82 7,ro 83 (bi .eql 81 82),mv 84 83,rg 85 (mo 0) 84 true,rg 86 (mo 8) 84 true,rg 87 (mo 8) 84 true,rg 88 (mo 5) 84 true,rg 89 (bi .add 87 88) 84 true,rg 90 (.strSlice (.t 85) (some (.t 86)) (some (.t 89))) 84 true,rg 91 (mo 1) 84 true,rg 92 (bi .eql 90 91) 84 true,ro 93 (.pick (.t 84) (.t 92) cF)] (cn0 93 (sr0 [mv 94 8,mv 4 94] .ret) .skip)) (sr0 [mv 95 8,nx 96 95,mv 8 96] (sr0 [mv 97 10,nx 98 97,mv 10 98] (sr0 [mv 99 5,rp 100 (.load false 1 .bad),ro 101 (bi .leq 99 100),mv 102 101,rg 103 (mo 10) 102 true,rg 104 (mo 8) 102 true,rh 105 (.call (.f 274) [(.t 104)]) 102 true,rg 106 (bi .gtr 103 105) 102 true,ro 107 (.pick (.t 102) (.t 106) cF)] (cn0 107 (sr0 [mv 108 0,mv 109 8,ro 110 (.strSlice (.t 108) (some (.t 109)) none),mv 111 1,rp 112 (.call (.f 273) [(.t 110),(.t 111)]),mv 12 112] (.seq (sr0 [mv 113 12,ro 114 (bc .geq 113 0)] (cn0 114 (sr0 [mv 115 12,mv 116 8,ro 117 (bi .add 115 116),mv 4 117] .ret) .skip)) (sr0 [ro 4 (.move (ci (-1)))] .ret))) (sr0 [mv 118 5,rp 119 (.load false 1 .bad),ro 120 (bi .gtr 118 119),mv 121 120,rg 122 (mo 10) 121 true,rg 123 (mo 8) 121 true,rg 124 (.bin .shr (.t 123) (.c (.int .u64 4))) 121 true,rg 125 (.bin .add (ci 4) (.t 124)) 121 true,rg 126 (bi .geq 122 125) 121 true,ro 127 (.pick (.t 121) (.t 126) cF),mv 128 127,rg 129 (mo 8) 128 true,rg 130 (mo 9) 128 true,rg 131 (bi .lss 129 130) 128 true,ro 132 (.pick (.t 128) (.t 131) cF)] (cn0 132 (sr0 [mv 133 0,mv 134 8,ro 135 (.strSlice (.t 133) (some (.t 134)) none),mv 136 1,rp 137 (.call (.f 275) [(.t 135),(.t 136)]),mv 13 137] (.seq (sr0 [mv 138 13,ro 139 (bc .lss 138 0)] (cn0 139 (sr0 [ro 4 (.move (ci (-1)))] .ret) .skip)) (sr0 [mv 140 8,mv 141 13,ro 142 (bi .add 140 141),mv 4 142] .ret))) .skip))))))))))
def a245:AFunc:=⟨2,143,(sr0 [c0 4] (sr0 [mv 14 1,ro 15 (.lenS (.t 14)),mv 5 15] (.seq (.block 0 (sr0 [mv 17 5,ro 18 (bc .eql 17 0),mv 19 18,rg 20 (mo 1) 19 false,rg 21 (mo 0) 19 false,rg 22 (bi .eql 20 21) 19 false,ro 23 (.pick (.t 19) cT (.t 22)),mv 16 23] (cn0 16 (sr0 [c0 4] .ret) (sr0 [mv 25 5,ro 26 (bc .eql 25 1),mv 24 26] (cn0 24 (sr0 [mv 27 0,mv 28 1,ro 29 (.idxStr (.t 28) (ci 0)),rp 30 (.call (.f 244) [(.t 27),(.t 29)]),mv 4 30] .ret) (sr0 [mv 32 5,mv 33 0,ro 34 (.lenS (.t 33)),ro 35 (bi .geq 32 34),mv 31 35] (cn0 31 (sr0 [ro 4 (.move (ci (-1)))] .ret) (sr0 [mv 37 5,rp 38 (.load false 1 .bad),ro 39 (bi .leq 37 38),mv 40 39,rg 41 (mo 0) 40 true,rg 42 (.lenS (.t 41)) 40 true,rg 43 (bc .leq 42 64) 40 true,ro 44 (.pick (.t 40) (.t 43) cF),mv 36 44] (cn0 36 (sr0 [mv 45 0,mv 46 1,rp 47 (.call (.f 273) [(.t 45),(.t 46)]),mv 4 47] .ret) .skip))))))))) (sr0 [mv 48 1,ro 49 (.idxStr (.t 48) (ci 0)),mv 6 49] (sr0 [mv 50 1,ro 51 (.idxStr (.t 50) (ci 1)),mv 7 51] (sr0 [c0 8] (sr0 [mv 52 0,ro 53 (.lenS (.t 52)),mv 54 5,ro 55 (bi .sub 53 54),nx 56 55,mv 9 56] (sr0 [c0 10] (.seq (bl0 1 a245b0) (sr0 [ro 4 (.move (ci (-1)))] .ret)))))))))),[.t 4]⟩
theorem fn245:fnOf 245=some a245:=by kernel_rfl
def a162:AFunc:=⟨2,9,(sr0 [ro 4 (.move cF)] (sr0 [mv 5 0,mv 6 1,rp 7 (.call (.f 204) [(.t 5),(.t 6)]),ro 8 (bc .geq 7 0),mv 4 8] .ret)),[.t 4]⟩
theorem fn162:fnOf 162=some a162:=by kernel_rfl
def a204:AFunc:=⟨2,8,(sr0 [c0 4] (sr0 [mv 5 0,mv 6 1,rp 7 (.call (.f 245) [(.t 5),(.t 6)]),mv 4 7] .ret)),[.t 4]⟩
theorem fn204:fnOf 204=some a204:=by kernel_rfl
def a206b0:ACode:=(.block 1 (sr0 [mv 20 0,mv 21 1,rp 22 (.call (.f 204) [(.t 20),(.t 21)]),mv 6 22] (.seq (sr0 [mv 23 6,ro 24 (bc .eql 23 (-1))] (cn0 24 (sr0 [mv 25 5,mv 4 25] .ret) .skip)) (sr0 [mv 26 5,nx 27 26,mv 5 27] (.reg [mv 28 0,mv 29 6,mv 30 1,ro 31 (.lenS (.t 30)),ro 32 (bi .add 29 31),ro 33 (.strSlice (.t 28) (some (.t 32)) none),mv 0 33])))))
def a206:AFunc:=⟨2,34,(sr0 [c0 4] (.seq (sr0 [mv 7 1,ro 8 (.lenS (.t 7)),ro 9 (bc .eql 8 0)] (cn0 9 (sr0 [mv 10 0,rp 11 (.call (.f 246) [(.t 10)]),nx 12 11,mv 4 12] .ret) .skip)) (.seq (sr0 [mv 13 1,ro 14 (.lenS (.t 13)),ro 15 (bc .eql 14 1)] (cn0 15 (sr0 [mv 16 0,mv 17 1,ro 18 (.idxStr (.t 17) (ci 0)),rp 19 (.call (.f 247) [(.t 16),(.t 18)]),mv 4 19] .ret) .skip)) (sr0 [c0 5] (bl0 0 a206b0))))),[.t 4]⟩
theorem fn206:fnOf 206=some a206:=by kernel_rfl
def qoj:ACode:=(sr0 [lo 15 14 13] (.seq (cn0 15 .skip (.exit 0)) (.seq (.block 1 (sr0 [mv 16 14,mv 3 16] (sr0 [mv 17 0,mv 18 3,ro 19 (.idxStr (.t 17) (.t 18)),ro 20 (.bin .lss (.t 19) (.c (.int .u8 33))),mv 21 20,rg 22 (mo 0) 21 false,rg 23 (mo 3) 21 false,rg 24 (.idxStr (.t 22) (.t 23)) 21 false,rg 25 (.bin .gtr (.t 24) (.c (.int .u8 126))) 21 false,ro 26 (.pick (.t 21) cT (.t 25)),mv 27 26,rg 28 (mo 0) 27 false,rg 29 (mo 3) 27 false,rg 30 (.idxStr (.t 28) (.t 29)) 27 false,rh 31 (.call (.f 203) [(.c (.str ⟨#[40,41,44]⟩)),(.t 30)]) 27 false,rg 32 (bc .geq 31 0) 27 false,ro 33 (.pick (.t 27) cT (.t 32))] (cn0 33 (sr0 [ro 2 (.move cF)] .ret) .skip)))) (.reg [nx 34 14,mv 14 34]))))
def a161:AFunc:=⟨1,35,(sr0 [ro 2 (.move cF)] (.seq (sr0 [mv 4 0,ro 5 (.lenS (.t 4)),ro 6 (bc .lss 5 1),mv 7 6,rg 8 (mo 0) 7 false,rg 9 (.lenS (.t 8)) 7 false,rg 10 (bc .gtr 9 32) 7 false,ro 11 (.pick (.t 7) cT (.t 10))] (cn0 11 (sr0 [ro 2 (.move cF)] .ret) .skip)) (.seq (sr0 [mv 12 0,ro 13 (.lenS (.t 12)),c0 14] (bl0 0 qoj)) (sr0 [ro 2 (.move cT)] .ret)))),[.t 2]⟩
theorem fn161:fnOf 161=some a161:=by kernel_rfl
def a205:AFunc:=⟨2,11,(sr0 [ro 3 (.move cF)] (sr0 [mv 4 0,ro 5 (bc .geq 4 0),mv 6 5,rg 7 (mo 0) 6 true,rh 8 (l1 1) 6 true,rg 9 (bi .lss 7 8) 6 true,ro 10 (.pick (.t 6) (.t 9) cF),mv 3 10] .ret)),[.t 3]⟩
theorem fn205:fnOf 205=some a205:=by kernel_rfl
def a207:AFunc:=⟨2,8,(sr0 [ro 3 (.move cF)] (sr0 [rp 4 (l1 1),mv 5 0,rp 6 (.call (.t 4) [(.t 5)]),ro 7 (no 6),mv 3 7] .ret)),[.t 3]⟩
theorem fn207:fnOf 207=some a207:=by kernel_rfl
def a149b0:ACode:=(sr0 [lo 9 8 7] (.seq (cn0 9 .skip (.exit 0)) (.seq (.block 1 (sr0 [mv 10 8,mv 5 10] (sr0 [mv 11 1,mv 12 0,mv 13 5,ro 14 (ix 1 12 13),rp 15 (l1 14),rp 16 (.call (.t 11) [(.t 15)])] (cn0 16 (sr0 [mv 17 5,mv 4 17] .ret) .skip)))) (.reg [nx 18 8,mv 8 18]))))
def a149:AFunc:=⟨2,19,(sr0 [c0 4] (.seq (sr0 [mv 6 0,ro 7 (ll 6),c0 8] (bl0 0 a149b0)) (sr0 [ro 4 (.move (ci (-1)))] .ret))),[.t 4]⟩
theorem fn149:fnOf 149=some a149:=by kernel_rfl
def a65:AFunc:=⟨2,9,(sr0 [ro 4 (.move cF)] (sr0 [mv 5 0,mv 6 1,rp 7 (.call (.f 149) [(.t 5),(.t 6)]),ro 8 (bc .geq 7 0),mv 4 8] .ret)),[.t 4]⟩
theorem fn65:fnOf 65=some a65:=by kernel_rfl
def a163:AFunc:=⟨2,51,(sr0 [rp 2 (.box 3 (.t 0)),rp 3 (.box 1 (.t 1)),ro 4 (.move cF)] (sr0 [ro 7 (.mkFunc (.func 205) [] [(.t 3)]),rp 5 (.box 1 (.c .nilFunc)),ws 1 5 7] (sr0 [ro 8 (fa 0 2),rp 9 (l1 8),rp 10 (.call (.f 206) [(.t 9),(.c (.str ⟨#[95]⟩))]),mv 6 10] (sr0 [ro 11 (fa 0 2),rp 12 (l1 11),rp 13 (.call (.f 161) [(.t 12)]),mv 14 13,rg 15 (mo 6) 14 true,rg 16 (fa 0 2) 14 true,rh 17 (l1 16) 14 true,rg 18 (.lenS (.t 17)) 14 true,rg 19 (bi .lss 15 18) 14 true,ro 20 (.pick (.t 14) (.t 19) cF),mv 21 20,rg 22 (mo 6) 21 true,rg 23 (bc .eql 22 0) 21 true,rg 24 (mo 23) 21 true,rg 25 (mo 6) 24 false,rg 26 (fa 1 2) 24 false,rh 27 (l1 26) 24 false,rg 28 (ll 27) 24 false,rg 29 (bi .eql 25 28) 24 false,rg 30 (.pick (.t 24) cT (.t 29)) 21 true,ro 31 (.pick (.t 21) (.t 30) cF),mv 32 31,rg 33 (fa 1 2) 32 true,rh 34 (l1 33) 32 true,rg 35 (ll 34) 32 true,rg 36 (bc .leq 35 8) 32 true,ro 37 (.pick (.t 32) (.t 36) cF),mv 38 37,rh 39 (l1 5) 38 true,rg 40 (fa 2 2) 38 true,rh 41 (l1 40) 38 true,rh 42 (.call (.t 39) [(.t 41)]) 38 true,ro 43 (.pick (.t 38) (.t 42) cF),mv 44 43,rg 45 (fa 1 2) 44 true,rh 46 (l1 45) 44 true,rg 47 (.mkFunc (.func 207) [] [(.t 5)]) 44 true,rh 48 (.call (.f 65) [(.t 46),(.t 47)]) 44 true,rg 49 (no 48) 44 true,ro 50 (.pick (.t 44) (.t 49) cF),mv 4 50] .ret)))),[.t 4]⟩
theorem fn163:fnOf 163=some a163:=by kernel_rfl
def a164b0:ACode:=(sr0 [lo 19 18 17] (.seq (cn0 19 .skip (.exit 0)) (.seq (.block 1 (sr0 [ro 20 (ix 1 16 18),rp 21 (l1 20),mv 5 21] (.reg [mv 22 3,mv 23 5,ro 24 (.convInt .u8 (.t 23)),ro 25 (.buildSlice 1 (.int .u8 0) 1 [(0,(.t 24))]),rp 26 (.append 1 1 (.t 22) (.t 25)),mv 3 26]))) (.reg [nx 27 18,mv 18 27]))))
def a164:AFunc:=⟨1,30,(sr0 [rp 1 (.box 3 (.t 0)),ro 2 (.move (.c (.str ⟨#[]⟩)))] (sr0 [ro 6 (fa 0 1),rp 7 (l1 6),ro 8 (.bin .add (.t 7) (.c (.str ⟨#[40]⟩))),rp 9 (.bytesOf (.t 8)),mv 3 9] (.seq (sd0 [ro 10 (fa 1 1),rd 11 (l1 10) true 1 1 false,rd 12 (.call (.f 208) [(.t 11)]) true 2 3 false,rd 13 (fa 2 1) false 3 0 false,rd 14 (l1 13) true 4 8 false,rd 15 (.buildSlice 1 (.int .i64 0) 1 [(0,(.t 14))]) false 5 24 false,rd 16 (.append 1 8 (.t 12) (.t 15)) true 6 63 false,rd 17 (ll 16) false 7 127 false,rd 18 (.move (ci 0)) false 8 0 true] (bl0 0 a164b0)) (sr0 [mv 28 3,rp 29 (.strOf (.t 28)),mv 2 29] .ret)))),[.t 2]⟩
theorem fn164:fnOf 164=some a164:=by kernel_rfl
def a87b0:ACode:=(sr0 [lo 24 23 22] (.seq (cn0 24 .skip (.exit 0)) (.seq (.block 1 (sr0 [ro 25 (ix 1 21 23),rp 26 (l1 25),mv 5 26] (.seq (sr0 [mv 27 5,rp 28 (.call (.f 161) [(.t 27)]),ro 29 (no 28),mv 30 29,rg 31 (mo 5) 30 false,rh 32 (.call (.f 162) [(.t 31),(.c (.str ⟨#[95]⟩))]) 30 false,ro 33 (.pick (.t 30) cT (.t 32)),mv 34 33,rg 35 (mo 3) 34 false,rg 36 (mo 5) 34 false,rh 37 (.lookup .str (.bool false) false (.t 35) (.t 36)) 34 false,ro 38 (.pick (.t 34) cT (.t 37))] (cn0 38 (sr0 [ro 2 (.move (ci 40))] .ret) .skip)) (.reg [mv 39 3,mv 40 5,wr (.mapUpd .str (.t 39) (.t 40) cT) 0 0 false])))) (.reg [nx 41 23,mv 23 41]))))
def a87b1:ACode:=(sr0 [lo 47 46 45] (.seq (cn0 47 .skip (.exit 2)) (.seq (.block 3 (sr0 [ro 48 (ix 3 44 46),rp 49 (l3 48),rp 8 (.box 3 (.c (.agg [(.str ⟨#[]⟩),.sn,(.int .i64 0)]))),ws 3 8 49] (.seq (sr0 [rp 50 (l3 8),ro 51 (fa 0 1),rp 52 (l1 51),ro 53 (ll 52),rp 54 (.call (.f 163) [(.t 50),(.t 53)]),ro 55 (no 54),mv 56 55,rg 57 (mo 6) 56 false,rh 58 (l3 8) 56 false,rh 59 (.call (.f 164) [(.t 58)]) 56 false,rh 60 (.lookup .str (.bool false) false (.t 57) (.t 59)) 56 false,ro 61 (.pick (.t 56) cT (.t 60))] (cn0 61 (sr0 [ro 2 (.move (ci 40))] .ret) .skip)) (.reg [mv 62 6,rp 63 (l3 8),rp 64 (.call (.f 164) [(.t 63)]),wr (.mapUpd .str (.t 62) (.t 64) cT) 0 0 false])))) (.reg [nx 65 46,mv 46 65]))))
def a87:AFunc:=⟨1,66,(sr0 [rp 1 (.box 2 (.t 0)),c0 2] (.seq (sr0 [ro 9 (fa 0 1),rp 10 (l1 9),ro 11 (ll 10),ro 12 (bc .gtr 11 64),mv 13 12,rg 14 (fa 1 1) 13 false,rh 15 (l1 14) 13 false,rg 16 (ll 15) 13 false,rg 17 (bc .gtr 16 256) 13 false,ro 18 (.pick (.t 13) cT (.t 17))] (cn0 18 (sr0 [ro 2 (.move (ci 40))] .ret) .skip)) (sr0 [rp 19 (.makeMap),mv 3 19] (.seq (sr0 [ro 20 (fa 0 1),rp 21 (l1 20),ro 22 (ll 21),c0 23] (bl0 0 a87b0)) (sr0 [rp 42 (.makeMap),mv 6 42] (.seq (sr0 [ro 43 (fa 1 1),rp 44 (l1 43),ro 45 (ll 44),c0 46] (bl0 2 a87b1)) (sr0 [c0 2] .ret))))))),[.t 2]⟩
theorem fn87:fnOf 87=some a87:=by kernel_rfl
def a139b0:ACode:=(sr0 [lo 9 8 7] (.seq (cn0 9 .skip (.exit 0)) (.seq (.block 1 (sr0 [mv 10 8,mv 5 10] (sr0 [mv 11 1,mv 12 0,mv 13 5,ro 14 (ix 3 12 13),rp 15 (l3 14),rp 16 (.call (.t 11) [(.t 15)])] (cn0 16 (sr0 [mv 17 5,mv 4 17] .ret) .skip)))) (.reg [nx 18 8,mv 8 18]))))
def a139:AFunc:=⟨2,19,(sr0 [c0 4] (.seq (sr0 [mv 6 0,ro 7 (ll 6),c0 8] (bl0 0 a139b0)) (sr0 [ro 4 (.move (ci (-1)))] .ret))),[.t 4]⟩
theorem fn139:fnOf 139=some a139:=by kernel_rfl
def a80:AFunc:=⟨2,9,(sr0 [ro 4 (.move cF)] (sr0 [mv 5 0,mv 6 1,rp 7 (.call (.f 139) [(.t 5),(.t 6)]),ro 8 (bc .geq 7 0),mv 4 8] .ret)),[.t 4]⟩
theorem fn80:fnOf 80=some a80:=by kernel_rfl
def a160b0:ACode:=(sr0 [lo 9 8 7] (.seq (cn0 9 .skip (.exit 0)) (.seq (.block 1 (sr0 [mv 10 8,mv 5 10] (sr0 [mv 11 1,mv 12 0,mv 13 5,ro 14 (ix 1 12 13),rp 15 (l1 14),rp 16 (.call (.t 11) [(.t 15)])] (cn0 16 (sr0 [mv 17 5,mv 4 17] .ret) .skip)))) (.reg [nx 18 8,mv 8 18]))))
def a160:AFunc:=⟨2,19,(sr0 [c0 4] (.seq (sr0 [mv 6 0,ro 7 (ll 6),c0 8] (bl0 0 a160b0)) (sr0 [ro 4 (.move (ci (-1)))] .ret))),[.t 4]⟩
theorem fn160:fnOf 160=some a160:=by kernel_rfl
def a82:AFunc:=⟨2,9,(sr0 [ro 4 (.move cF)] (sr0 [mv 5 0,mv 6 1,rp 7 (.call (.f 160) [(.t 5),(.t 6)]),ro 8 (bc .geq 7 0),mv 4 8] .ret)),[.t 4]⟩
theorem fn82:fnOf 82=some a82:=by kernel_rfl
def a81:AFunc:=⟨1,13,(sr0 [rp 1 (.box 3 (.t 0)),ro 2 (.move cF)] (sr0 [ro 3 (fa 1 1),rp 4 (l1 3),ro 5 (ll 4),ro 6 (bc .gtr 5 20),mv 7 6,rg 8 (fa 0 1) 7 false,rh 9 (l1 8) 7 false,rg 10 (.lenS (.t 9)) 7 false,rg 11 (bc .gtr 10 200) 7 false,ro 12 (.pick (.t 7) cT (.t 11)),mv 2 12] .ret)),[.t 2]⟩
theorem fn81:fnOf 81=some a81:=by kernel_rfl
def a83:AFunc:=⟨1,6,(sr0 [ro 2 (.move cF)] (sr0 [mv 3 0,ro 4 (.lenS (.t 3)),ro 5 (bc .gtr 4 200),mv 2 5] .ret)),[.t 2]⟩
theorem fn83:fnOf 83=some a83:=by kernel_rfl
def a16:AFunc:=⟨1,25,(sr0 [rp 1 (.box 2 (.t 0)),ro 2 (.move cF)] (sr0 [ro 3 (fa 1 1),rp 4 (l1 3),ro 5 (ll 4),ro 6 (bc .leq 5 40),mv 7 6,rg 8 (fa 0 1) 7 true,rh 9 (l1 8) 7 true,rg 10 (ll 9) 7 true,rg 11 (bc .leq 10 20) 7 true,ro 12 (.pick (.t 7) (.t 11) cF),mv 13 12,rg 14 (fa 1 1) 13 true,rh 15 (l1 14) 13 true,rh 16 (.call (.f 80) [(.t 15),(.f 81)]) 13 true,rg 17 (no 16) 13 true,ro 18 (.pick (.t 13) (.t 17) cF),mv 19 18,rg 20 (fa 0 1) 19 true,rh 21 (l1 20) 19 true,rh 22 (.call (.f 82) [(.t 21),(.f 83)]) 19 true,rg 23 (no 22) 19 true,ro 24 (.pick (.t 19) (.t 23) cF),mv 2 24] .ret)),[.t 2]⟩
theorem fn16:fnOf 16=some a16:=by kernel_rfl
end Go.Proofs.Tryz
namespace Go.Proofs.Tryz
open Go Go.AE
open Go.AE.Obj (row)
variable {T:Tbl}(hT:Std T)
@[go_sem] theorem prim_index{s:ByteArray}{c:Int}:qi2 .indexByteString [.str s,.int .u8 c]=some (iv0 (match(List.range s.size).find? (fun i=>s[i]! ==UInt8.ofNat c.toNat)with|some i=>(i:Int)|none=> -1)):=rfl
@[go_sem] theorem prim_count {s:ByteArray} {c:Int}:qi2 .countString [.str s,.int .u8 c]=some (iv0 (s.foldl (fun n x=>if x==UInt8.ofNat c.toNat then n+1 else n) (0:Int))):=rfl
include hT in
theorem ql5(t:ByteArray)(c:Int)(h:Hp):Ev T 244 [.str t,.int .u8 c] h (ba (iv0 (idxB t c)) h):=by refine hT.wk fn244 (by decide) ?_;simp(disch:=omega) only[go_sem,hT.prim,qab];rfl
include hT in
theorem qs1(t:ByteArray)(c:Int)(h:Hp):Ev T 203 [.str t,.int .u8 c] h (ba (iv0 (idxB t c)) h):=by refine hT.wk fn203 (by decide) ?_;simp(disch:=omega) only[go_sem,hT.prim,qab,cb (ql5 hT t c h)]
theorem us_size:(ByteArray.mk #[95]).size=1:=rfl
theorem us_at:qiw ⟨#[95]⟩ 0=some 95:=rfl
theorem us_eq{t:ByteArray}(h:((⟨#[95]⟩:ByteArray).toList==t.toList)=true):idxB t ((95:Nat):Int)=0:=by have:(⟨#[95]⟩:ByteArray)=t:=str_eq.1 h;subst this;rfl
include hT in
theorem qsz(t:ByteArray)(h:Hp):Ev T 245 [.str t,.str ⟨#[95]⟩] h (ba (iv0 (idxB t ((95:Nat):Int))) h):=by refine hT.wk fn245 (by decide) ?_;have b0:(((1:Nat):Int)==0)=false:=rfl;have b1:(((1:Nat):Int)==1)=true:=rfl;have hr:=ql5 hT t ((95:Nat):Int) h;simp(disch:=omega) only[go_sem,hT.prim,qab,cb hr,us_size,us_at,b0,b1];exact bifs (fun h=>by rw[us_eq h]) (fun _=>trivial)
include hT in
theorem name_tot (t:ByteArray) (h:Hp):∃r:Bool,Ev T 161 [.str t] h (ba (.bool r) h)∧(r=true↔qqs t):=by
 refine hT.wp fn161 (by decide) ?_;by_cases hl:t.size≤32
 · have h32:¬((32:Int)< (t.size:Int)):=by omega
   by_cases hz:t.size<1
   · have hz':((t.size:Int)<1):=by omega
     simp(disch:=omega) only[go_sem,hz'];exact⟨false,rfl,nofun,fun h=>by have:=h.1.1;omega⟩
   · have hz':¬((t.size:Int)<1):=by omega
     simp(disch:=omega) only[go_sem,hz',h32];refine wpC.loopM (fun n e s=> ∃i:Nat,i+n=t.size∧eget e 0=.str t∧eget e 13=iv0 (t.size:Int)∧eget e 14=iv0 (i:Int)∧(∀j c:Nat,j<i→qiw t (j:Int)=some c→qtm c)∧s=⟨h,[],[]⟩) ?_ t.size _ _ ⟨0,by simp,by simp only[go_sem],by simp only[go_sem],by simp only[go_sem];rfl,fun j c hj=>by omega,rfl⟩;rintro n e s ⟨i,hi,e0,e13,e14,hp,rfl⟩;by_cases h1:i<t.size
     · obtain⟨c,hc⟩:=strAt_lt h1;have c256:=(qnn hc).2;have hr:=qs1 hT ⟨#[40,41,44]⟩ (c:Int) h;have hx:=idx_par ⟨c,c256⟩;have bad:¬qtm c→∃a:Bool,(false:Bool)=a∧(a=true↔qqs t):=fun hb=>⟨false,rfl,nofun,fun h=>absurd (h.2 i c hc) hb⟩;by_cases h33:c<33
       · have h33':((c:Int)<33):=by omega
         simp(disch:=omega) only[go_sem,qoj,e0,e13,e14,h1,hc,h33'];exact⟨false,rfl,nofun,fun h=>by have:=h.2 i c hc;unfold qtm at this;omega⟩
       · have h33':¬((c:Int)<33):=by omega
         by_cases h126:126<c
         · have h126':((126:Int)< (c:Int)):=by omega
           simp(disch:=omega) only[go_sem,qoj,e0,e13,e14,h1,hc,h33',h126'];exact⟨false,rfl,nofun,fun h=>by have:=h.2 i c hc;unfold qtm at this;omega⟩
         · have h126':¬((126:Int)< (c:Int)):=by omega
           by_cases hpar:c=40∨c=41∨c=44
           · have hix:0≤idxB ⟨#[40,41,44]⟩ (c:Int):=by rw[decide_eq_decide]at hx;exact hx.2 hpar
             simp(disch:=omega) only[go_sem,qoj,e0,e13,e14,h1,hc,h33',h126',cb hr,hT.prim,qab,hix];exact⟨false,rfl,nofun,fun h=>by have:=h.2 i c hc;unfold qtm at this;omega⟩
           · have hix:¬0≤idxB ⟨#[40,41,44]⟩ (c:Int):=by rw[decide_eq_decide]at hx;exact fun h=>hpar (hx.1 h)
             simp(disch:=omega) only[go_sem,qoj,e0,e13,e14,h1,hc,h33',h126',cb hr,hT.prim,qab,hix];refine⟨n - 1,by omega,i+1,by omega,rfl,fun j d hj hd=>?_,trivial⟩;by_cases hji:j=i
             · subst hji;rw[hc]at hd;cases hd;unfold qtm;omega
             ·grind
     · simp(disch:=omega) only[go_sem,qoj,e13,e14,h1];exact⟨true,rfl,fun _=>⟨⟨by omega,hl⟩,fun j c hc=>hp j c (by have:=(qnn hc).1;omega) hc⟩,fun _=>rfl⟩
 · have h2:((32:Int)< (t.size:Int)):=by omega
   have h3:¬((t.size:Int)<1):=by omega
   simp(disch:=omega) only[go_sem,h2,h3];exact⟨false,rfl,nofun,fun h=>absurd h.1.2 hl⟩
include hT in
theorem qs0(t:ByteArray)(h:Hp):Ev T 204 [.str t,.str ⟨#[95]⟩] h (ba (iv0 (idxB t ((95:Nat):Int))) h):=by refine hT.wk fn204 (by decide) ?_;simp(disch:=omega) only[go_sem,hT.prim,qab,cb (qsz hT t h)]
include hT in
theorem qrm(t:ByteArray)(h:Hp):∃r:Bool,Ev T 162 [.str t,.str ⟨#[95]⟩] h (ba (.bool r) h)∧(r=true↔blk t≠0):=by refine hT.wp fn162 (by decide) ?_;simp(disch:=omega) only[go_sem,hT.prim,qab,cb (qs0 hT t h)];exact⟨_,rfl,by rw[dE0];exact idx_us t⟩
include hT in
theorem bcount_ev(t:ByteArray)(h:Hp):Ev T 206 [.str t,.str ⟨#[95]⟩] h (ba (iv0 (blk t:Int)) h):=by refine hT.wk fn206 (by decide) ?_;have b0:(((1:Nat):Int)==0)=false:=rfl;have b1:(((1:Nat):Int)==1)=true:=rfl;simp(disch:=omega) only[go_sem,hT.prim,qab,us_size,us_at,b0,b1,foldl_blk]
def qa8(n:Int)(nS:Nat):Bool:=decide (0≤n)&&decide (n< (nS:Int))
include hT in
theorem good1_ev{n:Int}{nS k:Nat}{h:Hp}(hk:h[k]?=some (.row 1 [iv0 (nS:Int)])):Ev T 205 [iv0 n,.pb k] h (ba (.bool (qa8 n nS)) h):=by
 refine hT.wk fn205 (by decide) ?_;have fl:loadAt false 1 (.pb k) h=some (iv0 (nS:Int)):=qad hk;by_cases h0:0≤n
 ·simp(disch:=omega) only[go_sem,fl,h0,qa8,Bool.true_and]
 ·simp(disch:=omega) only[go_sem,h0,qa8,Bool.false_and]
include hT in
theorem good2_ev{n:Int}{nS k k5:Nat}{h:Hp}(hk:h[k]?=some (.row 1 [iv0 (nS:Int)]))(hk5:h[k5]?=some (.row 1 [.func (.func 205) [] [.pb k]])):Ev T 207 [iv0 n,.pb k5] h (ba (.bool (!qa8 n nS)) h):=by
 refine hT.wk fn207 (by decide) ?_;have fl:loadAt false 1 (.pb k5) h=some (.func (.func 205) [] [.pb k]):=by rw[qad hk5];rfl
 simp(disch:=omega) only[go_sem,fl,cb (good1_ev hT hk),hT.prim,qab]
def Rds(H:Hp)(v:PV)(sz:Nat)(es:PL):Prop:=(∃z m,v=.slice z es m∧(es=[]∨z=sz))∨∃k,v=.aref k sz 0 es.length es.length∧H[k]?=some (.row sz es)
theorem Rds.len{H:Hp}{v:PV}{sz:Nat}{es:PL}(h:Rds H v sz es):lenOf v=some es.length:=by rcases h with⟨z,m,rfl,_⟩|⟨k,rfl,_⟩<;>rfl
theorem Rds.low{h H:Hp}{v:PV}{sz:Nat}{es:PL}(R:Rds h v sz es)(L:Low h.length h H):Rds H v sz es:=by
 rcases R with h|⟨k,h1,h2⟩
 ·exact .inl h
 ·exact .inr ⟨k,h1,L.get (gI0.1 h2).1 h2⟩
theorem Rds.idx{h:Hp}{v:PV}{sz:Nat}{es:PL}(R:Rds h v sz es){i:Nat}{x:PV}(hx:es[i]?=some x):∃p,qcq sz v (iv0 (i:Int))=some p∧∀(H:Hp)(agg:Bool)(z:Nat),Low h.length h H→loadAt agg z p H=AE.sub agg z x 0:=by
 have hi:=(gI0.1 hx).1;rcases R with⟨z,m,rfl,hz⟩|⟨k,rfl,hk⟩
 · have hz':z=sz:=by
    rcases hz with rfl|h
    ·simp at hi
    ·exact h
   subst hz';exact⟨.iptr x 0,by rw[qc2,if_pos rfl,hx];rfl,fun H agg z _=>rfl⟩
 · refine⟨.ptr k (0+i) 0 es.length,by rw[idx_aref,if_pos ⟨hi,rfl⟩],fun H agg z L=>?_⟩;have hk':=L.get (gI0.1 hk).1 hk;simp only[loadAt,hk',if_true,Nat.zero_add,hx]
include hT in
theorem qia{g:FuncId}{cap:PL}{p:Int→Bool}{h:Hp}(hg:T.prim g=none){args:IL}{sv:PV}(hS:Rds h sv 1 (args.map encI))(hf:∀a,Ev T g (iv0 a::cap) h (ba (.bool (p a)) h))(hal:args.length<1000000):
 ∃r:Bool,Ev T 65 [sv,.func (.func g) [] cap] h (ba (.bool r) h)∧(r=false↔∀a∈args,p a=false):=by
 have ls:lenOf sv=some args.length:=by rw[hS.len,lM0]
 have W:∃r:Int,Ev T 149 [sv,.func (.func g) [] cap] h (ba (iv0 r) h)∧(r<0↔∀a∈args,p a=false):=by
  refine hT.wp fn149 (by decide) ?_;simp(disch:=omega) only[go_sem,ls];refine wpC.loopM (fun n e s=> ∃i:Nat,i+n=args.length∧eget e 0=sv∧eget e 1=.func (.func g) [] cap∧eget e 7=iv0 (args.length:Int)∧eget e 8=iv0 (i:Int)∧(∀j (hj:j<args.length),j<i→p args[j]=false)∧s=⟨h,[],[]⟩) ?_ args.length _ _ ⟨0,by simp,by simp only[go_sem],by simp only[go_sem],by simp only[go_sem],by simp only[go_sem];rfl,fun j _ hj=>by omega,rfl⟩;rintro n e s ⟨i,hi,e0,e1,e7,e8,hp,rfl⟩;by_cases h1:i<args.length
  · obtain⟨q,ix,ld⟩:=hS.idx (i:=i) (x:=encI args[i]) (by rw[gM0,gE0 h1];rfl);have l1:loadAt false 1 q h=some (iv0 args[i]):=(ld h false 1 (Low.refl _ _)).trans rfl;simp(disch:=omega) only[go_sem,a149b0,e0,e1,e7,e8,h1,ix,l1,hg,cb (hf args[i])];refine bifs (fun hpi=>⟨(i:Int),rfl,fun h=>by omega,fun h=>by rw[h _ (gX0 h1)]at hpi;cases hpi⟩) (fun hpi=>⟨n - 1,by omega,i+1,by omega,rfl,fun j hj hji=>?_,trivial⟩);by_cases hjj:j=i
    ·grind
    ·grind
  · simp(disch:=omega) only[go_sem,a149b0,e7,e8,h1];refine⟨_,rfl,fun _ a ha=>?_,fun _=>by decide⟩;obtain⟨j,hj,rfl⟩:=List.getElem_of_mem ha;exact hp j hj (by omega)
 obtain⟨r,hr,kr⟩:=W;refine hT.wp fn65 (by decide) ?_;simp(disch:=omega) only[go_sem,cb hr,hT.prim,qab];exact⟨_,rfl,by rw[←kr];simp⟩
include hT in
theorem qem{g:FuncId}{cap:PL}{p:Int→Bool}{h:Hp}(hg:T.prim g=none){args:IL}{m:SM}(hf:∀a,Ev T g (iv0 a::cap) h (ba (.bool (p a)) h))(hal:args.length<1000000):
 ∃r:Bool,Ev T 65 [.slice 1 (args.map encI) m,.func (.func g) [] cap] h (ba (.bool r) h)∧(r=false↔∀a∈args,p a=false):=qia hT hg (.inl ⟨1,m,rfl,.inr rfl⟩) hf hal
include hT in
theorem good_tot{s:GSig}(hs:Fits s){o:GOp}(hoa:o.args.length<900)(h:Hp):∃r:Bool,Ev T 163 [qao o,iv0 (s.sorts.length:Int)] h (ba (.bool r) h)∧(r=true↔opP s.sorts.length o):=by
 refine hT.wp fn163 (by decide) ?_;generalize hk3:(h++[row 3 [qao o]]).length=k3;generalize hk5:((h++[row 3 [qao o]])++[row 1 [iv0 (s.sorts.length:Int)]]).length=k5;have hlt:k3≤k5:=by rw[←hk3,←hk5];simp
 have fs:storeAt 1 (.pb k5) (.func (.func 205) [] [.pb k3]) ⟨(((h++[row 3 [qao o]])++[row 1 [iv0 (s.sorts.length:Int)]])++[.row 1 [.nilFunc]]),[],[]⟩=some ⟨(((h++[row 3 [qao o]])++[row 1 [iv0 (s.sorts.length:Int)]])++[.row 1 [.func (.func 205) [] [.pb k3]]]),wadd k5 [],[]⟩:=by
  rw[←hk5];refine qlr rfl ⟨rfl,rfl⟩ fun j hj=>?_;have:k3=j:=by simpa[PV.top,tops,omax]using hj
  rw[←hk5]at hlt;omega
 generalize hH:(((h++[row 3 [qao o]])++[row 1 [iv0 (s.sorts.length:Int)]])++[row 1 [.func (.func 205) [] [.pb k3]]])=H at fs;have g0:H[h.length]?=some (.row 3 [qao o]):=by rw[←hH];simp
 have g3:H[k3]?=some (.row 1 [iv0 (s.sorts.length:Int)]):=by rw[←hH,←hk3];simp
 have g5:H[k5]?=some (.row 1 [.func (.func 205) [] [.pb k3]]):=by rw[←hH,←hk5];simp
 have low:Low h.length h H:=by rw[←hH];exact(((Low.refl _ _).push (nR0 _)).push (by simp)).push (by simp)
 have l0:∀sz off,loadAt false sz (.ptr h.length 0 off 1) H=sub false sz (qao o) off:=fun sz off=>qad g0;have l5:loadAt false 1 (.pb k5) H=some (.func (.func 205) [] [.pb k3]):=by rw[qad g5];rfl
 have hn:=bcount_ev hT o.name H;obtain⟨b,hb,kb⟩:=name_tot hT o.name H;have hr:=good1_ev hT (n:=o.res) g3;obtain⟨c,hc,kc⟩:=qem hT (m:=.any) (g:=207) (cap:=[.pb k5]) (p:=fun a=>!qa8 a s.sorts.length) (by rw[hT.prim];rfl) (fun a=>good2_ev hT (n:=a) g3 g5) (show o.args.length<1000000 by omega);have td:∀b ws,(∀k∈ws,h.length≤k)→tidy 0 h.length (.val (.bool b)) ⟨H,ws,[]⟩=(ba (.bool b) h):=fun b ws hw=>qan rfl rfl low hw;have hk5h:h.length≤k5:=by rw[←hk5];simp
 have kw:∀k∈wadd k5 [],h.length≤k:=qae hk5h (by simp);have f0:¬opP s.sorts.length o→∃a:Bool,tidy 0 h.length (.val (.bool false)) ⟨H,wadd k5 [],[]⟩=(ba (.bool a) h)∧(a=true↔opP s.sorts.length o):=fun hp=>⟨false,td _ _ kw,nofun,fun h=>absurd h hp⟩;cases b
 · simp(disch:=omega) only[go_sem,hk3,hk5,fs,l0,cb hn,cb hb,hT.prim,qab];exact f0 fun hp=>by have:=kb.2 hp.1;cases this
 · have hnm:=kb.1 rfl;by_cases q1:blk o.name<o.name.size
   · have f1:(blk o.name=0∨blk o.name=o.args.length)→decide ((o.args.length:Int)≤8)=true→qa8 o.res s.sorts.length=true→∃a:Bool,tidy 0 h.length (.val (.bool !c)) ⟨H,wadd k5 [],[]⟩=(ba (.bool a) h)∧(a=true↔opP s.sorts.length o):=fun q2 h8 hr=>⟨!c,td _ _ kw,fun h=>by
      have hc2:c=false:=by simpa using h
      refine⟨hnm,by omega,q2,fun a ha=>?_,?_,by simp only[dE0]at h8;omega⟩
      · have:=kc.1 hc2 a ha;simpa[qa8]using this
      ·simpa[qa8]using hr,fun h=>by
      have:c=false:=kc.2 fun a ha=>by have:=h.2.2.2.1 a ha;simp[qa8];omega
      rw[this];rfl⟩
     have f8:decide ((o.args.length:Int)≤8)=false→¬opP s.sorts.length o:=fun h8 hp=>by have:=hp.2.2.2.2.2;simp only[decide_eq_false_iff_not]at h8;omega
     have fr:qa8 o.res s.sorts.length=false→¬opP s.sorts.length o:=fun hr hp=>by have:=hp.2.2.2.2.1;simp[qa8]at hr;omega
     by_cases q2:blk o.name=0
     · have b2:((blk o.name:Int)==0)=true:=by simp[q2]
       simp(disch:=first|omega|decide|simp only[go_sem]) only[go_sem,hk3,hk5,fs,l0,l5,cb hn,cb hb,cb hr,cb hc,hT.prim,qab,q1,b2];exact bifs (fun h8=>bifs (fun hr=>f1 (.inl q2) h8 hr) (fun hr=>f0 (fr hr))) (fun h8=>f0 (f8 h8))
     · have b2:((blk o.name:Int)==0)=false:=by simp[q2]
       by_cases q3:blk o.name=o.args.length
       · have b3:((blk o.name:Int)==(o.args.length:Int))=true:=by simp[q3]
         simp(disch:=first|omega|decide|simp only[go_sem]) only[go_sem,hk3,hk5,fs,l0,l5,cb hn,cb hb,cb hr,cb hc,hT.prim,qab,q1,b2,b3];exact bifs (fun h8=>bifs (fun hr=>f1 (.inr q3) h8 hr) (fun hr=>f0 (fr hr))) (fun h8=>f0 (f8 h8))
       · have b3:((blk o.name:Int)==(o.args.length:Int))=false:=by simp;omega
         simp(disch:=omega) only[go_sem,hk3,hk5,fs,l0,cb hn,cb hb,hT.prim,qab,q1,b2,b3];exact f0 fun hp=>by have:=hp.2.2.1;omega
   · simp(disch:=omega) only[go_sem,hk3,hk5,fs,l0,cb hn,cb hb,hT.prim,qab,q1];exact f0 fun hp=>by have:=hp.2.1;have:=blk_le o.name;omega
end Go.Proofs.Tryz
