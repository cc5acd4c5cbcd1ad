/- Texts of the proof, one behind the other: ValTbl, ValFnsP. -/
import Derived.Test.YtekepgfmgeophaaGreatPartAI
import Derived.Test.YtekepgfmgeophaaGreatPartAE
import Derived.KernelRfl
set_option linter.unusedVariables false
set_option linter.unusedSimpArgs false
/- The table of functions. -/
namespace Go.Proofs.Tryz
open Go Go.AE
abbrev ro (d : Nat) (o : AOp) : AOper := ⟨some d, o, none, false, 0, 0, false⟩
abbrev rp (d : Nat) (o : AOp) : AOper := ⟨some d, o, none, true, 0, 0, false⟩
abbrev rg (d : Nat) (o : AOp) (c : Nat) (b : Bool) : AOper := ⟨some d, o, some (c, b), false, 0, 0, false⟩
abbrev rh (d : Nat) (o : AOp) (c : Nat) (b : Bool) : AOper := ⟨some d, o, some (c, b), true, 0, 0, false⟩
abbrev mv (d i : Nat) : AOper := ro d (.move (.t i))
abbrev ci (n : Int) : AX := .c (.int .i64 n)
abbrev rd (d : Nat) (o : AOp) (l : Bool) (i b : Nat) (hd : Bool) : AOper := ⟨some d, o, none, l, i, b, hd⟩
abbrev wr (o : AOp) (i b : Nat) (hd : Bool) : AOper := ⟨none, o, none, true, i, b, hd⟩
noncomputable def fnOf (n : Nat) : Option AFunc := match Tryz.prog.funcs[n]? with
 | some fn => if (fn.name == "runtime.NumGoroutine") = false then compFn Tryz.prog [] fn else none
 | none => none
def primOf : Nat → Option Prim := fun f => if f = 247 then some .countString else if f = 272 then some .indexByteString else none
def spList : List Nat := [54, 55, 75, 208, 189, 15, 87, 91]
structure Std (T : Tbl) : Prop where
 sp : ∀ f, f ∉ spList → T.sp f = none
 fn : ∀ f, T.fn f = fnOf f
 prim : T.prim = primOf
 mode : ∀ f, T.mode f = if f = 178 then 1 else if f = 138 then 1 else 0
end Go.Proofs.Tryz
/- Functions of ValsCounts, as the evaluator sees them: printed by tools/Print.lean. -/
namespace Go.Proofs.Tryz
open Go Go.AE
def a9 : AFunc := ⟨3, 93, (.seq (.reg [
 rp 3 (.box 2 (.t 0)),
 ro 6 (.move (.c (.bool false)))])
 (.seq (.seq (.reg [
 rp 17 (.call (.f 15) []),
 ro 18 (.un .not (.t 17))])
 (.cond (.t 18)
 (.seq (.reg [
 ro 6 (.move (.c (.bool false)))])
 .ret)
 .skip))
 (.seq (.seq (.reg [
 rp 19 (.load true 2 (.t 3)),
 rp 20 (.call (.f 16) [(.t 19)]),
 ro 21 (.un .not (.t 20))])
 (.cond (.t 21)
 (.seq (.reg [
 ro 6 (.move (.c (.bool true)))])
 .ret)
 .skip))
 (.seq (.reg [
 rp 23 (.load true 2 (.t 3)),
 mv 24 1,
 rp 25 (.call (.f 56) [(.t 23), (.t 24)]),
 mv 22 25,
 ro 26 (.extract (.t 22) 0),
 ro 27 (.extract (.t 22) 1),
 rp 7 (.box 3 (.c (.agg [(.int .i64 0), (.int .i64 0), (.slice 0 [] .nil)]))),
 wr (.store 3 (.t 7) (.t 26)) 0 0 false,
 mv 8 27])
 (.seq (.reg [
 rp 29 (.load true 2 (.t 3)),
 mv 30 1,
 rp 31 (.call (.f 57) [(.t 29), (.t 30)]),
 mv 28 31,
 ro 32 (.extract (.t 28) 0),
 ro 33 (.extract (.t 28) 1),
 rp 9 (.box 3 (.c (.agg [(.int .i64 0), (.int .i64 0), (.slice 0 [] .nil)]))),
 wr (.store 3 (.t 9) (.t 32)) 0 0 false,
 mv 10 33])
 (.seq (.reg [
 rp 35 (.load true 2 (.t 3)),
 mv 36 1,
 mv 37 2,
 rp 38 (.call (.f 44) [(.t 35), (.t 36), (.t 37)]),
 mv 34 38,
 ro 39 (.extract (.t 34) 0),
 ro 40 (.extract (.t 34) 1),
 mv 11 39,
 mv 12 40])
 (.seq (.reg [
 rp 42 (.load true 2 (.t 3)),
 mv 43 1,
 mv 44 2,
 rp 45 (.call (.f 58) [(.t 42), (.t 43), (.t 44)]),
 mv 41 45,
 ro 46 (.extract (.t 41) 0),
 ro 47 (.extract (.t 41) 1),
 mv 13 46,
 mv 14 47])
 (.seq (.seq (.reg [
 rp 48 (.load true 3 (.t 7)),
 rp 49 (.load true 3 (.t 9)),
 rp 50 (.call (.f 22) [(.t 48), (.t 49)]),
 ro 51 (.un .not (.t 50)),
 mv 52 51,
 rg 53 (.move (.t 8)) 52 false,
 rg 54 (.move (.t 10)) 52 false,
 rg 55 (.bin .neq (.t 53) (.t 54)) 52 false,
 ro 56 (.pick (.t 52) (.c (.bool true)) (.t 55)),
 mv 57 56,
 rg 58 (.move (.t 11)) 57 false,
 rg 59 (.move (.t 13)) 57 false,
 rg 60 (.bin .neq (.t 58) (.t 59)) 57 false,
 ro 61 (.pick (.t 57) (.c (.bool true)) (.t 60)),
 mv 62 61,
 rg 63 (.move (.t 12)) 62 false,
 rg 64 (.move (.t 14)) 62 false,
 rg 65 (.bin .neq (.t 63) (.t 64)) 62 false,
 ro 66 (.pick (.t 62) (.c (.bool true)) (.t 65))])
 (.cond (.t 66)
 (.seq (.reg [
 ro 6 (.move (.c (.bool false)))])
 .ret)
 .skip))
 (.seq (.seq (.reg [
 rp 67 (.load true 2 (.t 3)),
 mv 68 2,
 rp 69 (.call (.f 27) [(.t 67), (.t 68)]),
 ro 70 (.un .not (.t 69))])
 (.cond (.t 70)
 (.seq (.reg [
 ro 6 (.move (.c (.bool true)))])
 .ret)
 .skip))
 (.seq (.reg [
 rp 72 (.load true 2 (.t 3)),
 mv 73 1,
 mv 74 2,
 rp 75 (.call (.f 59) [(.t 72), (.t 73), (.t 74)]),
 mv 71 75,
 ro 76 (.extract (.t 71) 0),
 ro 77 (.extract (.t 71) 1),
 mv 15 76,
 mv 8 77])
 (.seq (.reg [
 rp 79 (.load true 2 (.t 3)),
 mv 80 1,
 mv 81 2,
 rp 82 (.call (.f 60) [(.t 79), (.t 80), (.t 81)]),
 mv 78 82,
 ro 83 (.extract (.t 78) 0),
 ro 84 (.extract (.t 78) 1),
 mv 16 83,
 mv 10 84])
 (.seq (.reg [
 mv 85 15,
 mv 86 16,
 rp 87 (.call (.f 32) [(.t 85), (.t 86), (.f 22)]),
 mv 88 87,
 rg 89 (.move (.t 8)) 88 true,
 rg 90 (.move (.t 10)) 88 true,
 rg 91 (.bin .eql (.t 89) (.t 90)) 88 true,
 ro 92 (.pick (.t 88) (.t 91) (.c (.bool false))),
 mv 6 92])
 .ret)))))))))))), [.t 6]⟩
theorem fn9 : fnOf 9 = some a9 := by kernel_rfl
def a56b0 : ACode :=
 (.seq (.reg [
 ro 52 (.bin .lss (.t 51) (.t 50))])
 (.seq (.cond (.t 52)
 .skip
 (.exit 4))
 (.seq (.block 5 (.seq (.reg [
 ro 53 (.idxAddr 1 (.t 49) (.t 51)),
 rp 54 (.load false 1 (.t 53)),
 mv 14 54])
 (.seq (.seq (.reg [
 rp 55 (.load false 1 (.t 8)),
 mv 56 14,
 ro 57 (.idxAddr 1 (.t 55) (.t 56)),
 rp 58 (.load false 1 (.t 57)),
 ro 59 (.bin .lss (.t 58) (ci 0))])
 (.cond (.t 59)
 (.seq (.reg [
 ro 12 (.move (ci (-1)))])
 (.exit 4))
 .skip))
 (.reg [
 mv 60 12,
 rp 61 (.load false 1 (.t 7)),
 mv 62 14,
 ro 63 (.idxAddr 1 (.t 61) (.t 62)),
 rp 64 (.load false 1 (.t 63)),
 ro 65 (.bin .add (.t 60) (.t 64)),
 ro 66 (.min false [(.t 65), (ci 2001)]),
 mv 12 66]))))
 (.reg [
 ro 67 (.bin .add (.t 51) (ci 1)),
 mv 51 67]))))
def a56b1 : ACode :=
 (.seq (.reg [
 ro 44 (.bin .lss (.t 43) (.t 42))])
 (.seq (.cond (.t 44)
 .skip
 (.exit 2))
 (.seq (.block 3 (.seq (.reg [
 mv 45 43,
 ro 46 (.idxAddr 3 (.t 41) (.t 43)),
 rp 47 (.load true 3 (.t 46)),
 rp 11 (.box 3 (.c (.agg [(.str ⟨#[]⟩), (.slice 0 [] .nil), (.int .i64 0)]))),
 mv 10 45,
 wr (.store 3 (.t 11) (.t 47)) 0 0 false])
 (.seq (.reg [
 ro 12 (.move (ci 1))])
 (.seq (.seq (.reg [
 ro 48 (.fieldAddr 1 (.t 11)),
 rp 49 (.load false 1 (.t 48)),
 ro 50 (.lenL (.t 49)),
 ro 51 (.move (ci 0))])
 (.block 4 (.loop a56b0)))
 (.seq (.seq (.reg [
 mv 68 12,
 ro 69 (.bin .lss (.t 68) (ci 0))])
 (.cond (.t 69)
 (.exit 3)
 .skip))
 (.seq (.reg [
 ro 70 (.fieldAddr 2 (.t 11)),
 rp 71 (.load false 1 (.t 70)),
 mv 15 71])
 (.seq (.reg [
 rp 72 (.load false 1 (.t 8)),
 mv 73 15,
 ro 74 (.idxAddr 1 (.t 72) (.t 73)),
 rp 75 (.load false 1 (.t 74)),
 ro 76 (.bin .lss (.t 75) (ci 0)),
 mv 77 76,
 rg 78 (.move (.t 12)) 77 false,
 rh 79 (.load false 1 (.t 7)) 77 false,
 rg 80 (.move (.t 15)) 77 false,
 rg 81 (.idxAddr 1 (.t 79) (.t 80)) 77 false,
 rh 82 (.load false 1 (.t 81)) 77 false,
 rg 83 (.bin .lss (.t 78) (.t 82)) 77 false,
 ro 84 (.pick (.t 77) (.c (.bool true)) (.t 83))])
 (.cond (.t 84)
 (.seq (.regD [
 rp 85 (.load false 1 (.t 7)),
 rd 86 (.move (.t 15)) false 1 0 false,
 rd 87 (.load false 1 (.t 8)) true 2 0 false,
 rd 88 (.move (.t 15)) false 3 0 false,
 rd 89 (.move (.t 12)) false 4 0 false,
 rd 90 (.move (.t 10)) false 5 0 false,
 rd 91 (.idxAddr 1 (.t 85) (.t 86)) false 6 19 true,
 wr (.store 1 (.t 91) (.t 89)) 7 83 true,
 rd 92 (.idxAddr 1 (.t 87) (.t 88)) false 8 255 true,
 wr (.store 1 (.t 92) (.t 90)) 9 511 true])
 (.reg [
 ro 9 (.move (.c (.bool true)))]))
 .skip))))))))
 (.reg [
 ro 93 (.bin .add (.t 43) (ci 1)),
 mv 43 93]))))
def a56b2 : ACode :=
 (.seq (.seq (.reg [
 mv 39 9])
 (.cond (.t 39)
 .skip
 (.exit 0)))
 (.block 1 (.seq (.reg [
 ro 9 (.move (.c (.bool false)))])
 (.seq (.reg [
 ro 40 (.fieldAddr 1 (.t 2)),
 rp 41 (.load false 1 (.t 40)),
 ro 42 (.lenL (.t 41)),
 ro 43 (.move (ci 0))])
 (.block 2 (.loop a56b1))))))
def a56b3 : ACode :=
 (.seq (.reg [
 ro 109 (.bin .lss (.t 108) (.t 107))])
 (.seq (.cond (.t 109)
 .skip
 (.exit 6))
 (.seq (.block 7 (.seq (.reg [
 mv 110 108,
 rp 16 (.box 1 (ci 0)),
 wr (.store 1 (.t 16) (.t 110)) 0 0 false])
 (.regD [
 rp 111 (.load false 1 (.t 8)),
 rd 112 (.load false 1 (.t 16)) true 1 0 false,
 rd 113 (.fieldAddr 1 (.t 2)) false 2 0 false,
 rd 114 (.load false 1 (.t 113)) true 3 4 false,
 rd 115 (.mkFunc (.func 140) [] [(.t 8), (.t 7), (.t 16)]) false 4 0 true,
 rd 116 (.call (.f 139) [(.t 114), (.t 115)]) true 5 28 true,
 rd 117 (.idxAddr 1 (.t 111) (.t 112)) false 6 63 true,
 wr (.store 1 (.t 117) (.t 116)) 7 127 true])))
 (.reg [
 ro 118 (.bin .add (.t 108) (ci 1)),
 mv 108 118]))))
def a56 : AFunc := ⟨2, 128, (.seq (.reg [
 rp 2 (.box 2 (.t 0)),
 rp 4 (.box 3 (.c (.agg [(.int .i64 0), (.int .i64 0), (.slice 0 [] .nil)]))),
 ro 5 (.move (ci 0))])
 (.seq (.seq (.reg [
 rp 19 (.load true 2 (.t 2)),
 rp 20 (.call (.f 87) [(.t 19)]),
 mv 6 20])
 (.seq (.reg [
 mv 21 6,
 ro 22 (.bin .neq (.t 21) (ci 0))])
 (.cond (.t 22)
 (.seq (.reg [
 ro 23 (.build [(.int .i64 0), (.int .i64 0), (.slice 0 [] .nil)] []),
 mv 24 6,
 wr (.store 3 (.t 4) (.t 23)) 0 0 false,
 mv 5 24])
 .ret)
 .skip)))
 (.seq (.seq (.reg [
 rp 25 (.load true 2 (.t 2)),
 mv 26 1,
 rp 27 (.call (.f 88) [(.t 25), (.t 26)]),
 ro 28 (.un .not (.t 27))])
 (.cond (.t 28)
 (.seq (.reg [
 ro 29 (.build [(.int .i64 0), (.int .i64 0), (.slice 0 [] .nil)] []),
 wr (.store 3 (.t 4) (.t 29)) 0 0 false,
 ro 5 (.move (ci 1))])
 .ret)
 .skip))
 (.seq (.regD [
 rd 7 (.box 1 (.c (.slice 0 [] .nil))) true 9 0 false,
 rd 8 (.box 1 (.c (.slice 0 [] .nil))) true 10 0 false,
 ro 30 (.fieldAddr 0 (.t 2)),
 rd 31 (.load false 1 (.t 30)) true 1 1 false,
 rd 32 (.lenL (.t 31)) false 2 3 false,
 rd 33 (.makeSlice 1 (.int .i64 0) 8 (.t 32) (.t 32)) true 3 7 false,
 rd 34 (.buildSlice 1 (.int .i64 0) 1 [(0, (ci (-1)))]) false 4 0 false,
 rd 35 (.fieldAddr 0 (.t 2)) false 5 0 true,
 rd 36 (.load false 1 (.t 35)) true 6 32 true,
 rd 37 (.lenL (.t 36)) false 7 96 true,
 rd 38 (.call (.f 138) [(.t 34), (.t 37)]) true 8 240 true,
 wr (.store 1 (.t 7) (.t 33)) 11 2047 true,
 wr (.store 1 (.t 8) (.t 38)) 12 4095 true])
 (.seq (.seq (.reg [
 ro 9 (.move (.c (.bool true)))])
 (.block 0 (.loop a56b2)))
 (.seq (.seq (.reg [
 rp 94 (.load false 1 (.t 8)),
 mv 95 1,
 ro 96 (.idxAddr 1 (.t 94) (.t 95)),
 rp 97 (.load false 1 (.t 96)),
 ro 98 (.bin .lss (.t 97) (ci 0))])
 (.cond (.t 98)
 (.seq (.reg [
 ro 99 (.build [(.int .i64 0), (.int .i64 0), (.slice 0 [] .nil)] []),
 wr (.store 3 (.t 4) (.t 99)) 0 0 false,
 ro 5 (.move (ci 3))])
 .ret)
 .skip))
 (.seq (.seq (.reg [
 rp 100 (.load false 1 (.t 7)),
 mv 101 1,
 ro 102 (.idxAddr 1 (.t 100) (.t 101)),
 rp 103 (.load false 1 (.t 102)),
 ro 104 (.bin .gtr (.t 103) (ci 2000))])
 (.cond (.t 104)
 (.seq (.reg [
 ro 105 (.build [(.int .i64 0), (.int .i64 0), (.slice 0 [] .nil)] []),
 wr (.store 3 (.t 4) (.t 105)) 0 0 false,
 ro 5 (.move (ci 2))])
 .ret)
 .skip))
 (.seq (.seq (.reg [
 rp 106 (.load false 1 (.t 8)),
 ro 107 (.lenL (.t 106)),
 ro 108 (.move (ci 0))])
 (.block 6 (.loop a56b3)))
 (.seq (.reg [
 rp 17 (.box 1 (.c .nilFunc))])
 (.seq (.reg [
 ro 119 (.mkFunc (.func 141) [] [(.t 8), (.t 2), (.t 17)]),
 wr (.store 1 (.t 17) (.t 119)) 0 0 false])
 (.seq (.reg [
 rp 120 (.load false 1 (.t 17)),
 mv 121 1,
 rp 122 (.call (.t 120) [(.t 121)]),
 rp 18 (.box 3 (.c (.agg [(.int .i64 0), (.int .i64 0), (.slice 0 [] .nil)]))),
 wr (.store 3 (.t 18) (.t 122)) 0 0 false])
 (.seq (.seq (.reg [
 rp 123 (.load true 3 (.t 18)),
 rp 124 (.call (.f 125) [(.t 123)]),
 ro 125 (.bin .neq (.t 124) (ci 0))])
 (.cond (.t 125)
 (.seq (.reg [
 ro 126 (.build [(.int .i64 0), (.int .i64 0), (.slice 0 [] .nil)] []),
 wr (.store 3 (.t 4) (.t 126)) 0 0 false,
 ro 5 (.move (ci 2))])
 .ret)
 .skip))
 (.seq (.reg [
 rp 127 (.load true 3 (.t 18)),
 wr (.store 3 (.t 4) (.t 127)) 0 0 false,
 ro 5 (.move (ci 0))])
 .ret))))))))))))), [.cell 4 true 3, .t 5]⟩
theorem fn56 : fnOf 56 = some a56 := by kernel_rfl
def a57 : AFunc := ⟨2, 42, (.seq (.reg [
 rp 2 (.box 2 (.t 0)),
 rp 4 (.box 3 (.c (.agg [(.int .i64 0), (.int .i64 0), (.slice 0 [] .nil)]))),
 ro 5 (.move (ci 0))])
 (.seq (.reg [
 rp 10 (.load true 2 (.t 2)),
 mv 11 1,
 rp 12 (.call (.f 92) [(.t 10), (.t 11)]),
 mv 6 12])
 (.seq (.seq (.reg [
 mv 13 6,
 ro 14 (.bin .neq (.t 13) (ci 0))])
 (.cond (.t 14)
 (.seq (.reg [
 ro 15 (.build [(.int .i64 0), (.int .i64 0), (.slice 0 [] .nil)] []),
 mv 16 6,
 wr (.store 3 (.t 4) (.t 15)) 0 0 false,
 mv 5 16])
 .ret)
 .skip))
 (.seq (.reg [
 rp 17 (.load true 2 (.t 2)),
 rp 18 (.call (.f 142) [(.t 17)]),
 mv 7 18])
 (.seq (.seq (.reg [
 mv 19 7,
 mv 20 1,
 ro 21 (.idxAddr 1 (.t 19) (.t 20)),
 rp 22 (.load false 1 (.t 21)),
 ro 23 (.bin .eql (.t 22) (ci 0))])
 (.cond (.t 23)
 (.seq (.reg [
 ro 24 (.build [(.int .i64 0), (.int .i64 0), (.slice 0 [] .nil)] []),
 wr (.store 3 (.t 4) (.t 24)) 0 0 false,
 ro 5 (.move (ci 3))])
 .ret)
 .skip))
 (.seq (.seq (.reg [
 mv 25 7,
 mv 26 1,
 ro 27 (.idxAddr 1 (.t 25) (.t 26)),
 rp 28 (.load false 1 (.t 27)),
 ro 29 (.bin .gtr (.t 28) (ci 2000))])
 (.cond (.t 29)
 (.seq (.reg [
 ro 30 (.build [(.int .i64 0), (.int .i64 0), (.slice 0 [] .nil)] []),
 wr (.store 3 (.t 4) (.t 30)) 0 0 false,
 ro 5 (.move (ci 2))])
 .ret)
 .skip))
 (.seq (.reg [
 rp 32 (.load true 2 (.t 2)),
 mv 33 7,
 mv 34 1,
 rp 35 (.call (.f 143) [(.t 32), (.t 33), (.t 34), (ci 200)]),
 mv 31 35,
 ro 36 (.extract (.t 31) 0),
 ro 37 (.extract (.t 31) 1),
 rp 8 (.box 3 (.c (.agg [(.int .i64 0), (.int .i64 0), (.slice 0 [] .nil)]))),
 wr (.store 3 (.t 8) (.t 36)) 0 0 false,
 mv 9 37])
 (.seq (.seq (.reg [
 mv 38 9,
 ro 39 (.un .not (.t 38))])
 (.cond (.t 39)
 (.seq (.reg [
 ro 40 (.build [(.int .i64 0), (.int .i64 0), (.slice 0 [] .nil)] []),
 wr (.store 3 (.t 4) (.t 40)) 0 0 false,
 ro 5 (.move (ci 2))])
 .ret)
 .skip))
 (.seq (.reg [
 rp 41 (.load true 3 (.t 8)),
 wr (.store 3 (.t 4) (.t 41)) 0 0 false,
 ro 5 (.move (ci 0))])
 .ret))))))))), [.cell 4 true 3, .t 5]⟩
theorem fn57 : fnOf 57 = some a57 := by kernel_rfl
def a60b0 : ACode :=
 (.seq (.seq (.reg [
 mv 31 11,
 mv 32 2,
 ro 33 (.bin .leq (.t 31) (.t 32))])
 (.cond (.t 33)
 .skip
 (.exit 0)))
 (.seq (.block 1 (.reg [
 mv 36 10,
 mv 37 9,
 mv 38 11,
 ro 39 (.idxAddr 1 (.t 37) (.t 38)),
 rp 40 (.load false 1 (.t 39)),
 mv 41 1,
 ro 42 (.idxAddr 1 (.t 40) (.t 41)),
 rp 43 (.load false 1 (.t 42)),
 ro 44 (.bin .add (.t 36) (.t 43)),
 rp 45 (.call (.f 145) [(.t 44)]),
 mv 10 45]))
 (.reg [
 mv 34 11,
 ro 35 (.bin .add (.t 34) (ci 1)),
 mv 11 35])))
def a60b1 : ACode :=
 (.seq (.seq (.reg [
 mv 53 14,
 mv 54 9,
 mv 55 13,
 ro 56 (.idxAddr 1 (.t 54) (.t 55)),
 rp 57 (.load false 1 (.t 56)),
 mv 58 1,
 ro 59 (.idxAddr 1 (.t 57) (.t 58)),
 rp 60 (.load false 1 (.t 59)),
 ro 61 (.bin .lss (.t 53) (.t 60))])
 (.cond (.t 61)
 .skip
 (.exit 4)))
 (.seq (.block 5 (.seq (.reg [
 rp 64 (.load true 2 (.t 3)),
 mv 65 9,
 mv 66 1,
 mv 67 13,
 mv 68 14,
 rp 69 (.call (.f 94) [(.t 64), (.t 65), (.t 66), (.t 67), (.t 68)]),
 rp 15 (.box 3 (.c (.agg [(.int .i64 0), (.int .i64 0), (.slice 0 [] .nil)]))),
 wr (.store 3 (.t 15) (.t 69)) 0 0 false])
 (.reg [
 mv 70 12,
 rp 71 (.load true 3 (.t 15)),
 ro 72 (.buildSlice 3 (.agg [(.int .i64 0), (.int .i64 0), (.slice 0 [] .nil)]) 1 [(0, (.t 71))]),
 rp 73 (.append 3 40 (.t 70) (.t 72)),
 mv 12 73])))
 (.reg [
 mv 62 14,
 ro 63 (.bin .add (.t 62) (ci 1)),
 mv 14 63])))
def a60b2 : ACode :=
 (.seq (.seq (.reg [
 mv 48 13,
 mv 49 2,
 ro 50 (.bin .leq (.t 48) (.t 49))])
 (.cond (.t 50)
 .skip
 (.exit 2)))
 (.seq (.block 3 (.seq (.reg [
 ro 14 (.move (ci 0))])
 (.block 4 (.loop a60b1))))
 (.reg [
 mv 51 13,
 ro 52 (.bin .add (.t 51) (ci 1)),
 mv 13 52])))
def a60 : AFunc := ⟨3, 75, (.seq (.reg [
 rp 3 (.box 2 (.t 0)),
 ro 6 (.move (.c (.slice 0 [] .nil))),
 ro 7 (.move (ci 0))])
 (.seq (.reg [
 rp 16 (.load true 2 (.t 3)),
 mv 17 1,
 rp 18 (.call (.f 92) [(.t 16), (.t 17)]),
 mv 8 18])
 (.seq (.seq (.reg [
 mv 19 8,
 ro 20 (.bin .neq (.t 19) (ci 0))])
 (.cond (.t 20)
 (.seq (.reg [
 mv 21 8,
 ro 6 (.move (.c (.slice 0 [] .nil))),
 mv 7 21])
 .ret)
 .skip))
 (.seq (.seq (.reg [
 mv 22 2,
 ro 23 (.bin .lss (.t 22) (ci 0)),
 mv 24 23,
 rg 25 (.move (.t 2)) 24 false,
 rg 26 (.bin .gtr (.t 25) (ci 60)) 24 false,
 ro 27 (.pick (.t 24) (.c (.bool true)) (.t 26))])
 (.cond (.t 27)
 (.seq (.reg [
 ro 6 (.move (.c (.slice 0 [] .nil))),
 ro 7 (.move (ci 1))])
 .ret)
 .skip))
 (.seq (.reg [
 rp 28 (.load true 2 (.t 3)),
 mv 29 2,
 rp 30 (.call (.f 93) [(.t 28), (.t 29)]),
 mv 9 30])
 (.seq (.reg [
 ro 10 (.move (ci 0))])
 (.seq (.seq (.reg [
 ro 11 (.move (ci 1))])
 (.block 0 (.loop a60b0)))
 (.seq (.seq (.reg [
 mv 46 10,
 ro 47 (.bin .gtr (.t 46) (ci 4000))])
 (.cond (.t 47)
 (.seq (.reg [
 ro 6 (.move (.c (.slice 0 [] .nil))),
 ro 7 (.move (ci 2))])
 .ret)
 .skip))
 (.seq (.reg [
 ro 12 (.move (.c (.slice 0 [] .nil)))])
 (.seq (.seq (.reg [
 ro 13 (.move (ci 1))])
 (.block 2 (.loop a60b2)))
 (.seq (.reg [
 mv 74 12,
 mv 6 74,
 ro 7 (.move (ci 0))])
 .ret))))))))))), [.t 6, .t 7]⟩
theorem fn60 : fnOf 60 = some a60 := by kernel_rfl
def a138b0 : ACode :=
 (.seq (.seq (.reg [
 mv 34 8,
 mv 35 7,
 ro 36 (.lenL (.t 35)),
 ro 37 (.bin .lss (.t 34) (.t 36))])
 (.cond (.t 37)
 .skip
 (.exit 0)))
 (.block 1 (.regD [
 mv 38 8,
 rd 39 (.move (.t 7)) false 1 0 false,
 rd 40 (.move (.t 8)) false 2 0 false,
 rd 41 (.slice 1 (.t 39) (some (.t 40)) none none) false 3 6 false,
 rd 42 (.move (.t 7)) false 4 0 false,
 rd 43 (.move (.t 8)) false 5 0 true,
 rd 44 (.slice 1 (.t 42) none (some (.t 43)) none) false 6 48 true,
 rd 45 (.copy 1 (.t 41) (.t 44)) true 7 126 true,
 rd 46 (.bin .add (.t 38) (.t 45)) false 8 255 true,
 rd 8 (.move (.t 46)) false 9 511 true])))
def a138 : AFunc := ⟨2, 48, (.seq (.reg [
 ro 4 (.move (.c (.slice 0 [] .nil)))])
 (.seq (.seq (.reg [
 mv 9 1,
 ro 10 (.bin .lss (.t 9) (ci 0))])
 (.cond (.t 10)
 (.reg [
 ro 11 (.mkIface 9 (.c (.str ⟨#[99, 97, 110, 110, 111, 116, 32, 98, 101, 32, 110, 101, 103, 97, 116, 105, 118, 101]⟩))),
 wr (.pan (.t 11)) 0 0 false])
 .skip))
 (.seq (.reg [
 mv 13 0,
 ro 14 (.lenL (.t 13)),
 ro 15 (.convInt .u64 (.t 14)),
 mv 16 1,
 ro 17 (.convInt .u64 (.t 16)),
 rp 18 (.call (.f 193) [(.t 15), (.t 17)]),
 mv 12 18,
 ro 19 (.extract (.t 12) 0),
 ro 20 (.extract (.t 12) 1),
 mv 5 19,
 mv 6 20])
 (.seq (.seq (.reg [
 mv 21 5,
 ro 22 (.bin .gtr (.t 21) (.c (.int .u64 0))),
 mv 23 22,
 rg 24 (.move (.t 6)) 23 false,
 rg 25 (.bin .gtr (.t 24) (.c (.int .u64 9223372036854775807))) 23 false,
 ro 26 (.pick (.t 23) (.c (.bool true)) (.t 25))])
 (.cond (.t 26)
 (.reg [
 ro 27 (.mkIface 9 (.c (.str ⟨#[116, 104, 101, 32, 114, 101, 115, 117, 108, 116, 32, 111, 102, 32, 40, 108, 101, 110, 40, 120, 41, 32, 42, 32, 99, 111, 117, 110, 116, 41, 32, 111, 118, 101, 114, 102, 108, 111, 119, 115]⟩))),
 wr (.pan (.t 27)) 0 0 false])
 .skip))
 (.seq (.reg [
 mv 28 6,
 ro 29 (.convInt .i64 (.t 28)),
 rp 30 (.makeSlice 1 (.int .i64 0) 8 (.t 29) (.t 29)),
 mv 7 30])
 (.seq (.reg [
 mv 31 7,
 mv 32 0,
 rp 33 (.copy 1 (.t 31) (.t 32)),
 mv 8 33])
 (.seq (.block 0 (.loop a138b0))
 (.seq (.reg [
 mv 47 7,
 mv 4 47])
 .ret)))))))), [.t 4]⟩
theorem fn138 : fnOf 138 = some a138 := by kernel_rfl
def a140b0 : ACode :=
 (.seq (.reg [
 ro 13 (.bin .lss (.t 12) (.t 11))])
 (.seq (.cond (.t 13)
 .skip
 (.exit 0))
 (.seq (.block 1 (.seq (.reg [
 ro 14 (.idxAddr 1 (.t 10) (.t 12)),
 rp 15 (.load false 1 (.t 14)),
 mv 8 15])
 (.seq (.seq (.reg [
 rp 16 (.load false 1 (.t 1)),
 mv 17 8,
 ro 18 (.idxAddr 1 (.t 16) (.t 17)),
 rp 19 (.load false 1 (.t 18)),
 ro 20 (.bin .lss (.t 19) (ci 0))])
 (.cond (.t 20)
 (.seq (.reg [
 ro 5 (.move (.c (.bool false)))])
 .ret)
 .skip))
 (.reg [
 mv 21 6,
 rp 22 (.load false 1 (.t 2)),
 mv 23 8,
 ro 24 (.idxAddr 1 (.t 22) (.t 23)),
 rp 25 (.load false 1 (.t 24)),
 ro 26 (.bin .add (.t 21) (.t 25)),
 mv 6 26]))))
 (.reg [
 ro 27 (.bin .add (.t 12) (ci 1)),
 mv 12 27]))))
def a140 : AFunc := ⟨4, 47, (.seq (.reg [
 rp 4 (.box 3 (.t 0)),
 ro 5 (.move (.c (.bool false)))])
 (.seq (.reg [
 ro 6 (.move (ci 1))])
 (.seq (.seq (.reg [
 ro 9 (.fieldAddr 1 (.t 4)),
 rp 10 (.load false 1 (.t 9)),
 ro 11 (.lenL (.t 10)),
 ro 12 (.move (ci 0))])
 (.block 0 (.loop a140b0)))
 (.seq (.reg [
 ro 28 (.fieldAddr 2 (.t 4)),
 rp 29 (.load false 1 (.t 28)),
 rp 30 (.load false 1 (.t 3)),
 ro 31 (.bin .eql (.t 29) (.t 30)),
 mv 32 31,
 rh 33 (.load false 1 (.t 1)) 32 true,
 rh 34 (.load false 1 (.t 3)) 32 true,
 rg 35 (.idxAddr 1 (.t 33) (.t 34)) 32 true,
 rh 36 (.load false 1 (.t 35)) 32 true,
 rg 37 (.bin .geq (.t 36) (ci 0)) 32 true,
 ro 38 (.pick (.t 32) (.t 37) (.c (.bool false))),
 mv 39 38,
 rg 40 (.move (.t 6)) 39 true,
 rh 41 (.load false 1 (.t 2)) 39 true,
 rh 42 (.load false 1 (.t 3)) 39 true,
 rg 43 (.idxAddr 1 (.t 41) (.t 42)) 39 true,
 rh 44 (.load false 1 (.t 43)) 39 true,
 rg 45 (.bin .eql (.t 40) (.t 44)) 39 true,
 ro 46 (.pick (.t 39) (.t 45) (.c (.bool false))),
 mv 5 46])
 .ret)))), [.t 5]⟩
theorem fn140 : fnOf 140 = some a140 := by kernel_rfl
def a141b0 : ACode :=
 (.seq (.reg [
 ro 23 (.bin .lss (.t 22) (.t 21))])
 (.seq (.cond (.t 23)
 .skip
 (.exit 0))
 (.seq (.block 1 (.seq (.reg [
 ro 24 (.idxAddr 1 (.t 20) (.t 22)),
 rp 25 (.load false 1 (.t 24)),
 mv 8 25])
 (.regD [
 ro 26 (.fieldAddr 2 (.t 6)),
 rd 27 (.load false 1 (.t 26)) true 1 1 false,
 rd 28 (.load false 1 (.t 3)) true 2 0 false,
 rd 29 (.move (.t 8)) false 3 0 true,
 rd 30 (.call (.t 28) [(.t 29)]) true 4 12 true,
 rd 31 (.buildSlice 3 (.agg [(.int .i64 0), (.int .i64 0), (.slice 0 [] .nil)]) 1 [(0, (.t 30))]) false 5 28 true,
 rd 32 (.append 3 40 (.t 27) (.t 31)) true 6 63 true,
 rd 33 (.fieldAddr 2 (.t 6)) false 7 127 true,
 wr (.store 1 (.t 33) (.t 32)) 8 255 true])))
 (.reg [
 ro 34 (.bin .add (.t 22) (ci 1)),
 mv 22 34]))))
def a141 : AFunc := ⟨4, 36, (.seq (.reg [
 rp 5 (.box 3 (.c (.agg [(.int .i64 0), (.int .i64 0), (.slice 0 [] .nil)])))])
 (.seq (.reg [
 rp 9 (.load false 1 (.t 1)),
 mv 10 0,
 ro 11 (.idxAddr 1 (.t 9) (.t 10)),
 rp 12 (.load false 1 (.t 11)),
 ro 13 (.build [(.int .i64 0), (.int .i64 0), (.slice 0 [] .nil)] [(0, 1, (ci 2)), (1, 1, (.t 12))]),
 rp 6 (.box 3 (.c (.agg [(.int .i64 0), (.int .i64 0), (.slice 0 [] .nil)]))),
 wr (.store 3 (.t 6) (.t 13)) 0 0 false])
 (.seq (.seq (.reg [
 ro 14 (.fieldAddr 1 (.t 2)),
 rp 15 (.load false 1 (.t 14)),
 ro 16 (.fieldAddr 1 (.t 6)),
 rp 17 (.load false 1 (.t 16)),
 ro 18 (.idxAddr 3 (.t 15) (.t 17)),
 ro 19 (.fieldAddr 1 (.t 18)),
 rp 20 (.load false 1 (.t 19)),
 ro 21 (.lenL (.t 20)),
 ro 22 (.move (ci 0))])
 (.block 0 (.loop a141b0)))
 (.seq (.reg [
 rp 35 (.load true 3 (.t 6)),
 wr (.store 3 (.t 5) (.t 35)) 0 0 false])
 .ret)))), [.cell 5 true 3]⟩
theorem fn141 : fnOf 141 = some a141 := by kernel_rfl
def a142b0 : ACode :=
 (.seq (.seq (.reg [
 mv 23 8,
 ro 24 (.fieldAddr 1 (.t 1)),
 rp 25 (.load false 1 (.t 24)),
 mv 26 5,
 ro 27 (.idxAddr 3 (.t 25) (.t 26)),
 ro 28 (.fieldAddr 1 (.t 27)),
 rp 29 (.load false 1 (.t 28)),
 ro 30 (.lenL (.t 29)),
 ro 31 (.bin .lss (.t 23) (.t 30))])
 (.cond (.t 31)
 .skip
 (.exit 4)))
 (.seq (.block 5 (.seq (.reg [
 mv 34 3,
 ro 35 (.fieldAddr 1 (.t 1)),
 rp 36 (.load false 1 (.t 35)),
 mv 37 5,
 ro 38 (.idxAddr 3 (.t 36) (.t 37)),
 ro 39 (.fieldAddr 1 (.t 38)),
 rp 40 (.load false 1 (.t 39)),
 mv 41 8,
 ro 42 (.idxAddr 1 (.t 40) (.t 41)),
 rp 43 (.load false 1 (.t 42)),
 ro 44 (.idxAddr 1 (.t 34) (.t 43)),
 rp 45 (.load false 1 (.t 44)),
 mv 9 45])
 (.seq (.reg [
 mv 46 7,
 mv 47 46,
 rg 48 (.move (.t 9)) 47 true,
 rg 49 (.bin .gtr (.t 48) (ci 0)) 47 true,
 ro 50 (.pick (.t 47) (.t 49) (.c (.bool false))),
 mv 7 50])
 (.reg [
 mv 51 6,
 mv 52 9,
 ro 53 (.bin .add (.t 51) (.t 52)),
 mv 6 53]))))
 (.reg [
 mv 32 8,
 ro 33 (.bin .add (.t 32) (ci 1)),
 mv 8 33])))
def a142b1 : ACode :=
 (.seq (.seq (.reg [
 mv 16 5,
 ro 17 (.fieldAddr 1 (.t 1)),
 rp 18 (.load false 1 (.t 17)),
 ro 19 (.lenL (.t 18)),
 ro 20 (.bin .lss (.t 16) (.t 19))])
 (.cond (.t 20)
 .skip
 (.exit 2)))
 (.seq (.block 3 (.seq (.reg [
 ro 6 (.move (ci 1))])
 (.seq (.reg [
 ro 7 (.move (.c (.bool true)))])
 (.seq (.seq (.reg [
 ro 8 (.move (ci 0))])
 (.block 4 (.loop a142b0)))
 (.seq (.seq (.reg [
 mv 54 6,
 ro 55 (.bin .gtr (.t 54) (ci 2001))])
 (.cond (.t 55)
 (.reg [
 ro 6 (.move (ci 2001))])
 .skip))
 (.seq (.reg [
 ro 56 (.fieldAddr 1 (.t 1)),
 rp 57 (.load false 1 (.t 56)),
 mv 58 5,
 ro 59 (.idxAddr 3 (.t 57) (.t 58)),
 ro 60 (.fieldAddr 2 (.t 59)),
 rp 61 (.load false 1 (.t 60)),
 mv 10 61])
 (.seq (.reg [
 mv 62 7,
 mv 63 62,
 rg 64 (.move (.t 3)) 63 true,
 rg 65 (.move (.t 10)) 63 true,
 rg 66 (.idxAddr 1 (.t 64) (.t 65)) 63 true,
 rh 67 (.load false 1 (.t 66)) 63 true,
 rg 68 (.bin .eql (.t 67) (ci 0)) 63 true,
 rg 69 (.move (.t 68)) 63 true,
 rg 70 (.move (.t 6)) 69 false,
 rg 71 (.move (.t 3)) 69 false,
 rg 72 (.move (.t 10)) 69 false,
 rg 73 (.idxAddr 1 (.t 71) (.t 72)) 69 false,
 rh 74 (.load false 1 (.t 73)) 69 false,
 rg 75 (.bin .lss (.t 70) (.t 74)) 69 false,
 rg 76 (.pick (.t 69) (.c (.bool true)) (.t 75)) 63 true,
 ro 77 (.pick (.t 63) (.t 76) (.c (.bool false)))])
 (.cond (.t 77)
 (.seq (.reg [
 mv 78 3,
 mv 79 10,
 mv 80 6,
 ro 81 (.idxAddr 1 (.t 78) (.t 79)),
 wr (.store 1 (.t 81) (.t 80)) 0 0 false])
 (.reg [
 ro 4 (.move (.c (.bool true)))]))
 .skip))))))))
 (.reg [
 mv 21 5,
 ro 22 (.bin .add (.t 21) (ci 1)),
 mv 5 22])))
def a142b2 : ACode :=
 (.seq (.seq (.reg [
 mv 15 4])
 (.cond (.t 15)
 .skip
 (.exit 0)))
 (.block 1 (.seq (.reg [
 ro 4 (.move (.c (.bool false)))])
 (.seq (.reg [
 ro 5 (.move (ci 0))])
 (.block 2 (.loop a142b1))))))
def a142 : AFunc := ⟨1, 83, (.seq (.reg [
 rp 1 (.box 2 (.t 0)),
 ro 2 (.move (.c (.slice 0 [] .nil)))])
 (.seq (.reg [
 ro 11 (.fieldAddr 0 (.t 1)),
 rp 12 (.load false 1 (.t 11)),
 ro 13 (.lenL (.t 12)),
 rp 14 (.makeSlice 1 (.int .i64 0) 8 (.t 13) (.t 13)),
 mv 3 14])
 (.seq (.seq (.reg [
 ro 4 (.move (.c (.bool true)))])
 (.block 0 (.loop a142b2)))
 (.seq (.reg [
 mv 82 3,
 mv 2 82])
 .ret)))), [.t 2]⟩
theorem fn142 : fnOf 142 = some a142 := by kernel_rfl
def a143b0 : ACode :=
 (.seq (.seq (.reg [
 mv 37 13,
 ro 38 (.fieldAddr 1 (.t 4)),
 rp 39 (.load false 1 (.t 38)),
 mv 40 10,
 ro 41 (.idxAddr 3 (.t 39) (.t 40)),
 ro 42 (.fieldAddr 1 (.t 41)),
 rp 43 (.load false 1 (.t 42)),
 ro 44 (.lenL (.t 43)),
 ro 45 (.bin .lss (.t 37) (.t 44))])
 (.cond (.t 45)
 .skip
 (.exit 2)))
 (.seq (.block 3 (.seq (.reg [
 mv 48 1,
 ro 49 (.fieldAddr 1 (.t 4)),
 rp 50 (.load false 1 (.t 49)),
 mv 51 10,
 ro 52 (.idxAddr 3 (.t 50) (.t 51)),
 ro 53 (.fieldAddr 1 (.t 52)),
 rp 54 (.load false 1 (.t 53)),
 mv 55 13,
 ro 56 (.idxAddr 1 (.t 54) (.t 55)),
 rp 57 (.load false 1 (.t 56)),
 ro 58 (.idxAddr 1 (.t 48) (.t 57)),
 rp 59 (.load false 1 (.t 58)),
 mv 14 59])
 (.seq (.reg [
 mv 60 12,
 mv 61 60,
 rg 62 (.move (.t 14)) 61 true,
 rg 63 (.bin .gtr (.t 62) (ci 0)) 61 true,
 ro 64 (.pick (.t 61) (.t 63) (.c (.bool false))),
 mv 12 64])
 (.reg [
 mv 65 11,
 mv 66 14,
 ro 67 (.bin .add (.t 65) (.t 66)),
 mv 11 67]))))
 (.reg [
 mv 46 13,
 ro 47 (.bin .add (.t 46) (ci 1)),
 mv 13 47])))
def a143b1 : ACode :=
 (.seq (.seq (.reg [
 mv 80 16,
 ro 81 (.fieldAddr 1 (.t 4)),
 rp 82 (.load false 1 (.t 81)),
 mv 83 10,
 ro 84 (.idxAddr 3 (.t 82) (.t 83)),
 ro 85 (.fieldAddr 1 (.t 84)),
 rp 86 (.load false 1 (.t 85)),
 ro 87 (.lenL (.t 86)),
 ro 88 (.bin .lss (.t 80) (.t 87))])
 (.cond (.t 88)
 .skip
 (.exit 4)))
 (.seq (.block 5 (.seq (.regD [
 rd 17 (.box 3 (.c (.agg [(.int .i64 0), (.int .i64 0), (.slice 0 [] .nil)]))) true 17 0 false,
 rp 92 (.load true 2 (.t 4)),
 rd 93 (.move (.t 1)) false 1 0 false,
 rd 94 (.fieldAddr 1 (.t 4)) false 2 0 false,
 rd 95 (.load false 1 (.t 94)) true 3 4 false,
 rd 96 (.move (.t 10)) false 4 0 false,
 rd 97 (.idxAddr 3 (.t 95) (.t 96)) false 5 28 false,
 rd 98 (.fieldAddr 1 (.t 97)) false 6 60 false,
 rd 99 (.load false 1 (.t 98)) true 7 124 false,
 rd 100 (.move (.t 16)) false 8 0 false,
 rd 101 (.idxAddr 1 (.t 99) (.t 100)) false 9 508 false,
 rd 102 (.load false 1 (.t 101)) true 10 1020 false,
 rd 103 (.move (.t 3)) false 11 0 true,
 rd 104 (.bin .sub (.t 103) (ci 1)) false 12 2048 true,
 rd 105 (.call (.f 143) [(.t 92), (.t 93), (.t 102), (.t 104)]) true 13 8191 true,
 rd 91 (.move (.t 105)) false 14 16383 true,
 rd 106 (.extract (.t 91) 0) false 15 32767 false,
 rd 107 (.extract (.t 91) 1) false 16 32767 false,
 wr (.store 3 (.t 17) (.t 106)) 18 196607 true,
 rd 18 (.move (.t 107)) false 19 524287 true])
 (.seq (.seq (.reg [
 mv 108 18,
 ro 109 (.un .not (.t 108))])
 (.cond (.t 109)
 (.seq (.reg [
 ro 110 (.build [(.int .i64 0), (.int .i64 0), (.slice 0 [] .nil)] []),
 wr (.store 3 (.t 8) (.t 110)) 0 0 false,
 ro 9 (.move (.c (.bool false)))])
 .ret)
 .skip))
 (.reg [
 ro 111 (.fieldAddr 2 (.t 15)),
 rp 112 (.load false 1 (.t 111)),
 rp 113 (.load true 3 (.t 17)),
 ro 114 (.buildSlice 3 (.agg [(.int .i64 0), (.int .i64 0), (.slice 0 [] .nil)]) 1 [(0, (.t 113))]),
 rp 115 (.append 3 40 (.t 112) (.t 114)),
 ro 116 (.fieldAddr 2 (.t 15)),
 wr (.store 1 (.t 116) (.t 115)) 0 0 false]))))
 (.reg [
 mv 89 16,
 ro 90 (.bin .add (.t 89) (ci 1)),
 mv 16 90])))
def a143b2 : ACode :=
 (.seq (.seq (.reg [
 mv 22 10,
 ro 23 (.fieldAddr 1 (.t 4)),
 rp 24 (.load false 1 (.t 23)),
 ro 25 (.lenL (.t 24)),
 ro 26 (.bin .lss (.t 22) (.t 25))])
 (.cond (.t 26)
 .skip
 (.exit 0)))
 (.seq (.block 1 (.seq (.seq (.reg [
 ro 29 (.fieldAddr 1 (.t 4)),
 rp 30 (.load false 1 (.t 29)),
 mv 31 10,
 ro 32 (.idxAddr 3 (.t 30) (.t 31)),
 ro 33 (.fieldAddr 2 (.t 32)),
 rp 34 (.load false 1 (.t 33)),
 mv 35 2,
 ro 36 (.bin .neq (.t 34) (.t 35))])
 (.cond (.t 36)
 (.exit 1)
 .skip))
 (.seq (.reg [
 ro 11 (.move (ci 1))])
 (.seq (.reg [
 ro 12 (.move (.c (.bool true)))])
 (.seq (.seq (.reg [
 ro 13 (.move (ci 0))])
 (.block 2 (.loop a143b0)))
 (.seq (.seq (.reg [
 mv 68 12,
 ro 69 (.un .not (.t 68)),
 mv 70 69,
 rg 71 (.move (.t 11)) 70 false,
 rg 72 (.move (.t 1)) 70 false,
 rg 73 (.move (.t 2)) 70 false,
 rg 74 (.idxAddr 1 (.t 72) (.t 73)) 70 false,
 rh 75 (.load false 1 (.t 74)) 70 false,
 rg 76 (.bin .neq (.t 71) (.t 75)) 70 false,
 ro 77 (.pick (.t 70) (.c (.bool true)) (.t 76))])
 (.cond (.t 77)
 (.exit 1)
 .skip))
 (.seq (.reg [
 mv 78 10,
 ro 79 (.build [(.int .i64 0), (.int .i64 0), (.slice 0 [] .nil)] [(0, 1, (ci 2)), (1, 1, (.t 78))]),
 rp 15 (.box 3 (.c (.agg [(.int .i64 0), (.int .i64 0), (.slice 0 [] .nil)]))),
 wr (.store 3 (.t 15) (.t 79)) 0 0 false])
 (.seq (.seq (.reg [
 ro 16 (.move (ci 0))])
 (.block 4 (.loop a143b1)))
 (.seq (.reg [
 rp 117 (.load true 3 (.t 15)),
 wr (.store 3 (.t 8) (.t 117)) 0 0 false,
 ro 9 (.move (.c (.bool true)))])
 .ret)))))))))
 (.reg [
 mv 27 10,
 ro 28 (.bin .add (.t 27) (ci 1)),
 mv 10 28])))
def a143 : AFunc := ⟨4, 119, (.seq (.reg [
 rp 4 (.box 2 (.t 0)),
 rp 8 (.box 3 (.c (.agg [(.int .i64 0), (.int .i64 0), (.slice 0 [] .nil)]))),
 ro 9 (.move (.c (.bool false)))])
 (.seq (.seq (.reg [
 mv 19 3,
 ro 20 (.bin .lss (.t 19) (ci 1))])
 (.cond (.t 20)
 (.seq (.reg [
 ro 21 (.build [(.int .i64 0), (.int .i64 0), (.slice 0 [] .nil)] []),
 wr (.store 3 (.t 8) (.t 21)) 0 0 false,
 ro 9 (.move (.c (.bool false)))])
 .ret)
 .skip))
 (.seq (.seq (.reg [
 ro 10 (.move (ci 0))])
 (.block 0 (.loop a143b2)))
 (.seq (.reg [
 ro 118 (.build [(.int .i64 0), (.int .i64 0), (.slice 0 [] .nil)] []),
 wr (.store 3 (.t 8) (.t 118)) 0 0 false,
 ro 9 (.move (.c (.bool false)))])
 .ret)))), [.cell 8 true 3, .t 9]⟩
theorem fn143 : fnOf 143 = some a143 := by kernel_rfl
def a193 : AFunc := ⟨2, 30, (.seq (.reg [
 ro 4 (.move (.c (.int .u64 0))),
 ro 5 (.move (.c (.int .u64 0)))])
 (.seq (.cond (.c (.bool false))
 (.seq (.reg [
 mv 11 0,
 ro 12 (.convInt .u32 (.t 11)),
 mv 13 1,
 ro 14 (.convInt .u32 (.t 13)),
 rp 15 (.call (.f 239) [(.t 12), (.t 14)]),
 mv 10 15,
 ro 16 (.extract (.t 10) 0),
 ro 17 (.extract (.t 10) 1),
 mv 6 16,
 mv 7 17])
 (.seq (.reg [
 mv 18 6,
 ro 19 (.convInt .u64 (.t 18)),
 mv 20 7,
 ro 21 (.convInt .u64 (.t 20)),
 mv 4 19,
 mv 5 21])
 .ret))
 .skip)
 (.seq (.reg [
 mv 23 0,
 mv 24 1,
 rp 25 (.call (.f 240) [(.t 23), (.t 24)]),
 mv 22 25,
 ro 26 (.extract (.t 22) 0),
 ro 27 (.extract (.t 22) 1),
 mv 8 26,
 mv 9 27])
 (.seq (.reg [
 mv 28 8,
 mv 29 9,
 mv 4 28,
 mv 5 29])
 .ret)))), [.t 4, .t 5]⟩
theorem fn193 : fnOf 193 = some a193 := by kernel_rfl
def a240 : AFunc := ⟨2, 51, (.seq (.reg [
 ro 4 (.move (.c (.int .u64 0))),
 ro 5 (.move (.c (.int .u64 0)))])
 (.seq (.reg [
 mv 14 0,
 ro 15 (.bin .and (.t 14) (.c (.int .u64 4294967295))),
 mv 6 15])
 (.seq (.reg [
 mv 16 0,
 ro 17 (.bin .shr (.t 16) (.c (.int .u64 32))),
 mv 7 17])
 (.seq (.reg [
 mv 18 1,
 ro 19 (.bin .and (.t 18) (.c (.int .u64 4294967295))),
 mv 8 19])
 (.seq (.reg [
 mv 20 1,
 ro 21 (.bin .shr (.t 20) (.c (.int .u64 32))),
 mv 9 21])
 (.seq (.reg [
 mv 22 6,
 mv 23 8,
 ro 24 (.bin .mul (.t 22) (.t 23)),
 mv 10 24])
 (.seq (.reg [
 mv 25 7,
 mv 26 8,
 ro 27 (.bin .mul (.t 25) (.t 26)),
 mv 28 10,
 ro 29 (.bin .shr (.t 28) (.c (.int .u64 32))),
 ro 30 (.bin .add (.t 27) (.t 29)),
 mv 11 30])
 (.seq (.reg [
 mv 31 11,
 ro 32 (.bin .and (.t 31) (.c (.int .u64 4294967295))),
 mv 12 32])
 (.seq (.reg [
 mv 33 11,
 ro 34 (.bin .shr (.t 33) (.c (.int .u64 32))),
 mv 13 34])
 (.seq (.reg [
 mv 35 12,
 mv 36 6,
 mv 37 9,
 ro 38 (.bin .mul (.t 36) (.t 37)),
 ro 39 (.bin .add (.t 35) (.t 38)),
 mv 12 39])
 (.seq (.reg [
 mv 40 7,
 mv 41 9,
 ro 42 (.bin .mul (.t 40) (.t 41)),
 mv 43 13,
 ro 44 (.bin .add (.t 42) (.t 43)),
 mv 45 12,
 ro 46 (.bin .shr (.t 45) (.c (.int .u64 32))),
 ro 47 (.bin .add (.t 44) (.t 46)),
 mv 4 47])
 (.seq (.reg [
 mv 48 0,
 mv 49 1,
 ro 50 (.bin .mul (.t 48) (.t 49)),
 mv 5 50])
 .ret)))))))))))), [.t 4, .t 5]⟩
theorem fn240 : fnOf 240 = some a240 := by kernel_rfl
def a125 : AFunc := ⟨1, 6, (.seq (.reg [
 rp 1 (.box 3 (.t 0)),
 ro 2 (.move (ci 0))])
 (.seq (.seq (.reg [
 rp 3 (.load true 3 (.t 1)),
 rp 4 (.call (.f 130) [(.t 3)]),
 ro 5 (.un .not (.t 4))])
 (.cond (.t 5)
 (.seq (.reg [
 ro 2 (.move (ci 4))])
 .ret)
 .skip))
 (.seq (.reg [
 ro 2 (.move (ci 0))])
 .ret))), [.t 2]⟩
theorem fn125 : fnOf 125 = some a125 := by kernel_rfl
end Go.Proofs.Tryz
