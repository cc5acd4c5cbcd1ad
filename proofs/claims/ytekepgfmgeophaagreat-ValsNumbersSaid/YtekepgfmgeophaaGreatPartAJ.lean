/- Texts of the proof, one behind the other: ValTbl, ValFns, ValT1, ValCnt, ValCnt2, ValCnt3, ValTab, ValN1, ValN2. -/
import Derived.Test.YtekepgfmgeophaaGreatPartAI
import Derived.Test.YtekepgfmgeophaaGreatPartAE
import Derived.KernelRfl
import Derived.Test.YtekepgfmgeophaaGreatPartAF
import Derived.Test.YtekepgfmgeophaaGreatPartAG
set_option linter.unusedVariables false
set_option linter.unusedSimpArgs false
/- The table of functions. -/
namespace Go.Proofs.Tryz
open Go Go.AE
abbrev ro (d : Nat) (o : AOp) : AOper := ⟨some d, o, none, false, 0, 0, false⟩
abbrev rp (d : Nat) (o : AOp) : AOper := ⟨some d, o, none, true, 0, 0, false⟩
abbrev rg (d : Nat) (o : AOp) (c : Nat) (b : Bool) : AOper := ⟨some d, o, some (c, b), false, 0, 0, false⟩
abbrev rh (d : Nat) (o : AOp) (c : Nat) (b : Bool) : AOper := ⟨some d, o, some (c, b), true, 0, 0, false⟩
noncomputable def fnOf (n : Nat) : Option AFunc := match Tryz.prog.funcs[n]? with
 | some fn => if (fn.name == "runtime.NumGoroutine") = false then compFn Tryz.prog [] fn else none
 | none => none
def primOf : Nat → Option Prim := fun f => if f = 247 then some .countString else if f = 272 then some .indexByteString else none
def spList : List Nat := [54, 55, 75, 208, 189, 15, 87, 91]
structure Std (T : Tbl) : Prop where
 sp : ∀ f, f ∉ spList → T.sp f = none
 fn : ∀ f, T.fn f = fnOf f
 prim : T.prim = primOf
 mode : ∀ f, T.mode f = if f = 178 then 1 else if f = 138 then 1 else 0
end Go.Proofs.Tryz
/- Functions as the evaluator has them: printed. -/
namespace Go.Proofs.Tryz
open Go Go.AE
def a90b0 : ACode :=
 (.seq (.reg [
 ro 26 (.bin .lss (.t 25) (.t 24))])
 (.seq (.cond (.t 26)
 .skip
 (.exit 0))
 (.seq (.block 1 (.seq (.reg [
 ro 27 (.move (.t 25)),
 ro 28 (.idxAddr 3 (.t 23) (.t 25)),
 rp 29 (.load true 3 (.t 28)),
 rp 5 (.box 3 (.c (.agg [(.str ⟨#[]⟩), (.slice 0 [] .nil), (.int .i64 0)]))),
 ro 4 (.move (.t 27)),
  ⟨none, .store 3 (.t 5) (.t 29), none, true, 0, 0, false⟩])
 (.seq (.regD [
 ro 30 (.move (.t 3)),
  ⟨(some 31), .nilCheck (.t 30), none, false, 1, 1, false⟩,
  ⟨(some 32), .fieldAddr 3 (.t 31), none, false, 2, 3, false⟩,
  ⟨(some 33), .load false 1 (.t 32), none, true, 3, 7, false⟩,
  ⟨(some 34), .move (.t 4), none, false, 4, 0, false⟩,
  ⟨(some 35), .fieldAddr 1 (.t 5), none, false, 5, 0, true⟩,
  ⟨(some 36), .load false 1 (.t 35), none, true, 6, 32, true⟩,
  ⟨(some 37), .lenL (.t 36), none, false, 7, 96, true⟩,
  ⟨(some 38), .bin .add (.t 37) (.c (.int .i64 1)), none, false, 8, 224, true⟩,
  ⟨(some 39), .makeSlice 61 (.agg [(.int .i64 0), (.int .i64 0), (.int .i64 0), (.int .i64 0), (.int .i64 0), (.int .i64 0), (.int .i64 0), (.int .i64 0), (.int .i64 0), (.int .i64 0), (.int .i64 0), (.int .i64 0), (.int .i64 0), (.int .i64 0), (.int .i64 0), (.int .i64 0), (.int .i64 0), (.int .i64 0), (.int .i64 0), (.int .i64 0), (.int .i64 0), (.int .i64 0), (.int .i64 0), (.int .i64 0), (.int .i64 0), (.int .i64 0), (.int .i64 0), (.int .i64 0), (.int .i64 0), (.int .i64 0), (.int .i64 0), (.int .i64 0), (.int .i64 0), (.int .i64 0), (.int .i64 0), (.int .i64 0), (.int .i64 0), (.int .i64 0), (.int .i64 0), (.int .i64 0), (.int .i64 0), (.int .i64 0), (.int .i64 0), (.int .i64 0), (.int .i64 0), (.int .i64 0), (.int .i64 0), (.int .i64 0), (.int .i64 0), (.int .i64 0), (.int .i64 0), (.int .i64 0), (.int .i64 0), (.int .i64 0), (.int .i64 0), (.int .i64 0), (.int .i64 0), (.int .i64 0), (.int .i64 0), (.int .i64 0), (.int .i64 0)]) 488 (.t 38) (.t 38), none, true, 9, 480, true⟩,
  ⟨(some 40), .idxAddr 1 (.t 33) (.t 34), none, false, 10, 1023, true⟩,
  ⟨none, .store 1 (.t 40) (.t 39), none, true, 11, 2047, true⟩])
 (.regD [
 ro 41 (.move (.t 3)),
  ⟨(some 42), .nilCheck (.t 41), none, false, 1, 1, false⟩,
  ⟨(some 43), .fieldAddr 3 (.t 42), none, false, 2, 3, false⟩,
  ⟨(some 44), .load false 1 (.t 43), none, true, 3, 7, false⟩,
  ⟨(some 45), .move (.t 4), none, false, 4, 0, false⟩,
  ⟨(some 46), .idxAddr 1 (.t 44) (.t 45), none, false, 5, 31, false⟩,
  ⟨(some 47), .load false 1 (.t 46), none, true, 6, 63, false⟩,
  ⟨(some 48), .fieldAddr 1 (.t 5), none, false, 7, 0, true⟩,
  ⟨(some 49), .load false 1 (.t 48), none, true, 8, 128, true⟩,
  ⟨(some 50), .lenL (.t 49), none, false, 9, 384, true⟩,
  ⟨(some 51), .idxAddr 61 (.t 47) (.t 50), none, false, 10, 1023, true⟩,
  ⟨(some 52), .idxArr 61 1 (.t 51) (.c (.int .i64 0)), none, false, 11, 2047, true⟩,
  ⟨none, .store 1 (.t 52) (.c (.int .i64 1)), none, true, 12, 4095, true⟩]))))
 (.reg [
 ro 53 (.bin .add (.t 25) (.c (.int .i64 1))),
 ro 25 (.move (.t 53))]))))
def a90b1 : ACode :=
 (.seq (.seq (.reg [
 ro 74 (.move (.t 10)),
 ro 75 (.move (.t 6)),
 ro 76 (.bin .lss (.t 74) (.t 75))])
 (.cond (.t 76)
 .skip
 (.exit 8)))
 (.seq (.block 9 (.regD [
 ro 79 (.move (.t 3)),
  ⟨(some 80), .nilCheck (.t 79), none, false, 1, 1, false⟩,
  ⟨(some 81), .fieldAddr 3 (.t 80), none, false, 2, 3, false⟩,
  ⟨(some 82), .load false 1 (.t 81), none, true, 3, 7, false⟩,
  ⟨(some 83), .move (.t 7), none, false, 4, 0, false⟩,
  ⟨(some 84), .idxAddr 1 (.t 82) (.t 83), none, false, 5, 31, false⟩,
  ⟨(some 85), .load false 1 (.t 84), none, true, 6, 63, false⟩,
  ⟨(some 86), .move (.t 9), none, false, 7, 0, false⟩,
  ⟨(some 87), .move (.t 6), none, false, 8, 0, false⟩,
  ⟨(some 88), .bin .sub (.t 87) (.c (.int .i64 1)), none, false, 9, 256, false⟩,
  ⟨(some 89), .move (.t 3), none, false, 10, 0, false⟩,
  ⟨(some 90), .nilCheck (.t 89), none, false, 11, 1024, false⟩,
  ⟨(some 91), .fieldAddr 3 (.t 90), none, false, 12, 3072, false⟩,
  ⟨(some 92), .load false 1 (.t 91), none, true, 13, 7168, false⟩,
  ⟨(some 93), .move (.t 7), none, false, 14, 0, false⟩,
  ⟨(some 94), .idxAddr 1 (.t 92) (.t 93), none, false, 15, 31744, false⟩,
  ⟨(some 95), .load false 1 (.t 94), none, true, 16, 64512, false⟩,
  ⟨(some 96), .move (.t 9), none, false, 17, 0, false⟩,
  ⟨(some 97), .move (.t 6), none, false, 18, 0, false⟩,
  ⟨(some 98), .bin .sub (.t 97) (.c (.int .i64 1)), none, false, 19, 262144, false⟩,
  ⟨(some 99), .idxAddr 61 (.t 95) (.t 96), none, false, 20, 261120, false⟩,
  ⟨(some 100), .idxArr 61 1 (.t 99) (.t 98), none, false, 21, 2096128, false⟩,
  ⟨(some 101), .load false 1 (.t 100), none, true, 22, 4193280, false⟩,
  ⟨(some 102), .move (.t 3), none, false, 23, 0, false⟩,
  ⟨(some 103), .nilCheck (.t 102), none, false, 24, 8388608, false⟩,
  ⟨(some 104), .fieldAddr 2 (.t 103), none, false, 25, 25165824, false⟩,
  ⟨(some 105), .load false 1 (.t 104), none, true, 26, 58720256, false⟩,
  ⟨(some 106), .fieldAddr 1 (.t 8), none, false, 27, 0, false⟩,
  ⟨(some 107), .load false 1 (.t 106), none, true, 28, 134217728, false⟩,
  ⟨(some 108), .move (.t 9), none, false, 29, 0, false⟩,
  ⟨(some 109), .idxAddr 1 (.t 107) (.t 108), none, false, 30, 939524096, false⟩,
  ⟨(some 110), .load false 1 (.t 109), none, true, 31, 2013265920, false⟩,
  ⟨(some 111), .move (.t 10), none, false, 32, 0, false⟩,
  ⟨(some 112), .idxAddr 61 (.t 105) (.t 110), none, false, 33, 4286578688, false⟩,
  ⟨(some 113), .idxArr 61 1 (.t 112) (.t 111), none, false, 34, 17171480576, false⟩,
  ⟨(some 114), .load false 1 (.t 113), none, true, 35, 34351349760, false⟩,
  ⟨(some 115), .move (.t 3), none, false, 36, 0, false⟩,
  ⟨(some 116), .nilCheck (.t 115), none, false, 37, 68719476736, false⟩,
  ⟨(some 117), .fieldAddr 3 (.t 116), none, false, 38, 206158430208, false⟩,
  ⟨(some 118), .load false 1 (.t 117), none, true, 39, 481036337152, false⟩,
  ⟨(some 119), .move (.t 7), none, false, 40, 0, false⟩,
  ⟨(some 120), .idxAddr 1 (.t 118) (.t 119), none, false, 41, 2130303778816, false⟩,
  ⟨(some 121), .load false 1 (.t 120), none, true, 42, 4329327034368, false⟩,
  ⟨(some 122), .move (.t 9), none, false, 43, 0, false⟩,
  ⟨(some 123), .bin .add (.t 122) (.c (.int .i64 1)), none, false, 44, 8796093022208, false⟩,
  ⟨(some 124), .move (.t 6), none, false, 45, 0, false⟩,
  ⟨(some 125), .bin .sub (.t 124) (.c (.int .i64 1)), none, false, 46, 35184372088832, false⟩,
  ⟨(some 126), .move (.t 10), none, false, 47, 0, false⟩,
  ⟨(some 127), .bin .sub (.t 125) (.t 126), none, false, 48, 246290604621824, false⟩,
  ⟨(some 128), .idxAddr 61 (.t 121) (.t 123), none, false, 49, 35115652612096, false⟩,
  ⟨(some 129), .idxArr 61 1 (.t 128) (.t 127), none, false, 50, 1125831187365888, false⟩,
  ⟨(some 130), .load false 1 (.t 129), none, true, 51, 2251731094208512, false⟩,
  ⟨(some 131), .call (.f 165) [(.t 114), (.t 130)], none, true, 52, 4503599618981888, false⟩,
  ⟨(some 132), .call (.f 124) [(.t 101), (.t 131)], none, true, 53, 9007199254739968, false⟩,
  ⟨(some 133), .idxAddr 61 (.t 85) (.t 86), none, false, 54, 255, true⟩,
  ⟨(some 134), .idxArr 61 1 (.t 133) (.t 88), none, false, 55, 36028797018963967, true⟩,
  ⟨none, .store 1 (.t 134) (.t 132), none, true, 56, 72057594037927935, true⟩]))
 (.reg [
 ro 77 (.move (.t 10)),
 ro 78 (.bin .add (.t 77) (.c (.int .i64 1))),
 ro 10 (.move (.t 78))])))
def a90b2 : ACode :=
 (.seq (.seq (.reg [
 ro 70 (.move (.t 9)),
 ro 71 (.bin .geq (.t 70) (.c (.int .i64 0)))])
 (.cond (.t 71)
 .skip
 (.exit 6)))
 (.seq (.block 7 (.seq (.reg [
 ro 10 (.move (.c (.int .i64 1)))])
 (.block 8 (.loop a90b1))))
 (.reg [
 ro 72 (.move (.t 9)),
 ro 73 (.bin .sub (.t 72) (.c (.int .i64 1))),
 ro 9 (.move (.t 73))])))
def a90b3 : ACode :=
 (.seq (.reg [
 ro 62 (.bin .lss (.t 61) (.t 60))])
 (.seq (.cond (.t 62)
 .skip
 (.exit 4))
 (.seq (.block 5 (.seq (.reg [
 ro 63 (.move (.t 61)),
 ro 64 (.idxAddr 3 (.t 59) (.t 61)),
 rp 65 (.load true 3 (.t 64)),
 rp 8 (.box 3 (.c (.agg [(.str ⟨#[]⟩), (.slice 0 [] .nil), (.int .i64 0)]))),
 ro 7 (.move (.t 63)),
  ⟨none, .store 3 (.t 8) (.t 65), none, true, 0, 0, false⟩])
 (.seq (.seq (.reg [
 ro 66 (.fieldAddr 1 (.t 8)),
 rp 67 (.load false 1 (.t 66)),
 ro 68 (.lenL (.t 67)),
 ro 69 (.bin .sub (.t 68) (.c (.int .i64 1))),
 ro 9 (.move (.t 69))])
 (.block 6 (.loop a90b2)))
 (.regD [
 ro 135 (.move (.t 3)),
  ⟨(some 136), .nilCheck (.t 135), none, false, 1, 1, false⟩,
  ⟨(some 137), .fieldAddr 2 (.t 136), none, false, 2, 3, false⟩,
  ⟨(some 138), .load false 1 (.t 137), none, true, 3, 7, false⟩,
  ⟨(some 139), .fieldAddr 2 (.t 8), none, false, 4, 0, false⟩,
  ⟨(some 140), .load false 1 (.t 139), none, true, 5, 16, false⟩,
  ⟨(some 141), .move (.t 6), none, false, 6, 0, false⟩,
  ⟨(some 142), .move (.t 3), none, false, 7, 0, false⟩,
  ⟨(some 143), .nilCheck (.t 142), none, false, 8, 128, false⟩,
  ⟨(some 144), .fieldAddr 2 (.t 143), none, false, 9, 384, false⟩,
  ⟨(some 145), .load false 1 (.t 144), none, true, 10, 896, false⟩,
  ⟨(some 146), .fieldAddr 2 (.t 8), none, false, 11, 0, false⟩,
  ⟨(some 147), .load false 1 (.t 146), none, true, 12, 2048, false⟩,
  ⟨(some 148), .move (.t 6), none, false, 13, 0, false⟩,
  ⟨(some 149), .idxAddr 61 (.t 145) (.t 147), none, false, 14, 8064, false⟩,
  ⟨(some 150), .idxArr 61 1 (.t 149) (.t 148), none, false, 15, 32640, false⟩,
  ⟨(some 151), .load false 1 (.t 150), none, true, 16, 65408, false⟩,
  ⟨(some 152), .move (.t 3), none, false, 17, 0, false⟩,
  ⟨(some 153), .nilCheck (.t 152), none, false, 18, 131072, false⟩,
  ⟨(some 154), .fieldAddr 3 (.t 153), none, false, 19, 393216, false⟩,
  ⟨(some 155), .load false 1 (.t 154), none, true, 20, 917504, false⟩,
  ⟨(some 156), .move (.t 7), none, false, 21, 0, false⟩,
  ⟨(some 157), .idxAddr 1 (.t 155) (.t 156), none, false, 22, 4063232, false⟩,
  ⟨(some 158), .load false 1 (.t 157), none, true, 23, 8257536, false⟩,
  ⟨(some 159), .move (.t 6), none, false, 24, 0, false⟩,
  ⟨(some 160), .bin .sub (.t 159) (.c (.int .i64 1)), none, false, 25, 16777216, false⟩,
  ⟨(some 161), .idxAddr 61 (.t 158) (.c (.int .i64 0)), none, false, 26, 16646144, false⟩,
  ⟨(some 162), .idxArr 61 1 (.t 161) (.t 160), none, false, 27, 134086656, false⟩,
  ⟨(some 163), .load false 1 (.t 162), none, true, 28, 268304384, false⟩,
  ⟨(some 164), .call (.f 124) [(.t 151), (.t 163)], none, true, 29, 536870784, false⟩,
  ⟨(some 165), .idxAddr 61 (.t 138) (.t 140), none, false, 30, 63, true⟩,
  ⟨(some 166), .idxArr 61 1 (.t 165) (.t 141), none, false, 31, 2147483647, true⟩,
  ⟨none, .store 1 (.t 166) (.t 164), none, true, 32, 4294967295, true⟩]))))
 (.reg [
 ro 167 (.bin .add (.t 61) (.c (.int .i64 1))),
 ro 61 (.move (.t 167))]))))
def a90b4 : ACode :=
 (.seq (.seq (.reg [
 ro 54 (.move (.t 6)),
 ro 55 (.bin .leq (.t 54) (.c (.int .i64 60)))])
 (.cond (.t 55)
 .skip
 (.exit 2)))
 (.seq (.block 3 (.seq (.reg [
 ro 58 (.fieldAddr 1 (.t 1)),
 rp 59 (.load false 1 (.t 58)),
 ro 60 (.lenL (.t 59)),
 ro 61 (.move (.c (.int .i64 0)))])
 (.block 4 (.loop a90b3))))
 (.reg [
 ro 56 (.move (.t 6)),
 ro 57 (.bin .add (.t 56) (.c (.int .i64 1))),
 ro 6 (.move (.t 57))])))
def a90 : AFunc := ⟨1, 169, (.seq (.reg [
 rp 1 (.box 2 (.t 0)),
 ro 2 (.move (.c .nilptr))])
 (.seq (.regD [
 rp 11 (.load true 2 (.t 1)),
  ⟨(some 12), .fieldAddr 0 (.t 1), none, false, 1, 0, false⟩,
  ⟨(some 13), .load false 1 (.t 12), none, true, 2, 2, false⟩,
  ⟨(some 14), .lenL (.t 13), none, false, 3, 6, false⟩,
  ⟨(some 15), .makeSlice 61 (.agg [(.int .i64 0), (.int .i64 0), (.int .i64 0), (.int .i64 0), (.int .i64 0), (.int .i64 0), (.int .i64 0), (.int .i64 0), (.int .i64 0), (.int .i64 0), (.int .i64 0), (.int .i64 0), (.int .i64 0), (.int .i64 0), (.int .i64 0), (.int .i64 0), (.int .i64 0), (.int .i64 0), (.int .i64 0), (.int .i64 0), (.int .i64 0), (.int .i64 0), (.int .i64 0), (.int .i64 0), (.int .i64 0), (.int .i64 0), (.int .i64 0), (.int .i64 0), (.int .i64 0), (.int .i64 0), (.int .i64 0), (.int .i64 0), (.int .i64 0), (.int .i64 0), (.int .i64 0), (.int .i64 0), (.int .i64 0), (.int .i64 0), (.int .i64 0), (.int .i64 0), (.int .i64 0), (.int .i64 0), (.int .i64 0), (.int .i64 0), (.int .i64 0), (.int .i64 0), (.int .i64 0), (.int .i64 0), (.int .i64 0), (.int .i64 0), (.int .i64 0), (.int .i64 0), (.int .i64 0), (.int .i64 0), (.int .i64 0), (.int .i64 0), (.int .i64 0), (.int .i64 0), (.int .i64 0), (.int .i64 0), (.int .i64 0)]) 488 (.t 14) (.t 14), none, true, 4, 14, false⟩,
  ⟨(some 16), .fieldAddr 1 (.t 1), none, false, 5, 0, true⟩,
  ⟨(some 17), .load false 1 (.t 16), none, true, 6, 32, true⟩,
  ⟨(some 18), .lenL (.t 17), none, false, 7, 96, true⟩,
  ⟨(some 19), .makeSlice 1 (.slice 0 [] .nil) 24 (.t 18) (.t 18), none, true, 8, 224, true⟩,
  ⟨(some 20), .build [(.slice 0 [] .nil), (.slice 0 [] .nil), (.slice 0 [] .nil), (.slice 0 [] .nil)] [(0, 2, (.t 11)), (2, 1, (.t 15)), (3, 1, (.t 19))], none, false, 9, 511, true⟩,
  ⟨(some 21), .box 4 (.t 20), none, true, 10, 1023, true⟩,
  ⟨(some 3), .move (.t 21), none, false, 11, 2047, true⟩])
 (.seq (.seq (.reg [
 ro 22 (.fieldAddr 1 (.t 1)),
 rp 23 (.load false 1 (.t 22)),
 ro 24 (.lenL (.t 23)),
 ro 25 (.move (.c (.int .i64 0)))])
 (.block 0 (.loop a90b0)))
 (.seq (.seq (.reg [
 ro 6 (.move (.c (.int .i64 1)))])
 (.block 2 (.loop a90b4)))
 (.seq (.reg [
 ro 168 (.move (.t 3)),
 ro 2 (.move (.t 168))])
 .ret))))), [.t 2]⟩
theorem fn90 : fnOf 90 = some a90 := by kernel_rfl
def a124 : AFunc := ⟨2, 9, (.seq (.reg [
 ro 4 (.move (.c (.int .i64 0)))])
 (.seq (.reg [
 ro 5 (.move (.t 0)),
 ro 6 (.move (.t 1)),
 ro 7 (.bin .add (.t 5) (.t 6)),
 ro 8 (.min false [(.t 7), (.c (.int .i64 1099511627776))]),
 ro 4 (.move (.t 8))])
 .ret)), [.t 4]⟩
theorem fn124 : fnOf 124 = some a124 := by kernel_rfl
def a165 : AFunc := ⟨2, 16, (.seq (.reg [
 ro 4 (.move (.c (.int .i64 0)))])
 (.seq (.seq (.reg [
 ro 5 (.move (.t 0)),
 ro 6 (.bin .gtr (.t 5) (.c (.int .i64 0))),
 ro 7 (.move (.t 6)),
 rg 8 (.move (.t 1)) 7 true,
 rg 9 (.move (.t 0)) 7 true,
 rg 10 (.bin .quo (.c (.int .i64 1099511627776)) (.t 9)) 7 true,
 rg 11 (.bin .gtr (.t 8) (.t 10)) 7 true,
 ro 12 (.pick (.t 7) (.t 11) (.c (.bool false)))])
 (.cond (.t 12)
 (.seq (.reg [
 ro 4 (.move (.c (.int .i64 1099511627776)))])
 .ret)
 .skip))
 (.seq (.reg [
 ro 13 (.move (.t 0)),
 ro 14 (.move (.t 1)),
 ro 15 (.bin .mul (.t 13) (.t 14)),
 ro 4 (.move (.t 15))])
 .ret))), [.t 4]⟩
theorem fn165 : fnOf 165 = some a165 := by kernel_rfl
end Go.Proofs.Tryz
namespace Go.Proofs.Tryz
open Go Go.AE
variable {T : Tbl} (hT : Std T)
include hT
theorem plus_ev {a b : Int} {h : List AE.Obj} (ha : 0 ≤ a) (ha2 : a ≤ 1099511627776) (hb : 0 ≤ b) (hb2 : b ≤ 1099511627776) : Ev T 124 [.int .i64 a, .int .i64 b] h (.val (.int .i64 (min (a + b) 1099511627776)), { h, ws := [], ups := [] }) := by
 refine Ev.walk (hT.sp _ (by decide)) ((hT.fn _).trans fn124) (hT.mode _) rfl ?_
 simp (disch := first | omega | simp only [go_sem]) only [go_sem, ↓reduceIte, Nat.reduceEqDiff, reduceCtorEq, List.map, and_self]
theorem times_ev {a b : Int} {h : List AE.Obj} (ha : 0 ≤ a) (ha2 : a ≤ 1099511627776) (hb : 0 ≤ b) (hb2 : b ≤ 1099511627776) : Ev T 165 [.int .i64 a, .int .i64 b] h (.val (.int .i64 (min (a * b) 1099511627776)), { h, ws := [], ups := [] }) := by
 refine Ev.walk (hT.sp _ (by decide)) ((hT.fn _).trans fn165) (hT.mode _) rfl ?_
 by_cases h0 : 0 < a
 · have hq0 : 0 ≤ Int.tdiv 1099511627776 a := Int.tdiv_nonneg (by omega) (by omega)
   have hq1 : Int.tdiv 1099511627776 a ≤ 1099511627776 := by
    have := Int.tdiv_le_self (a := 1099511627776) a (by omega)
    omega
   have e1 : Int.tdiv 1099511627776 a = 1099511627776 / a := Int.tdiv_eq_ediv_of_nonneg (by omega)
   by_cases h1 : Int.tdiv 1099511627776 a < b
   · simp (disch := omega) only [go_sem, ↓reduceIte, Nat.reduceEqDiff, reduceCtorEq, List.map, and_self, h0, decide_true, h1]
     have : 1099511627776 < a * b := by
      have h2 : 1099511627776 / a < b := by rw [← e1]; exact h1
      have := (Int.ediv_lt_iff_lt_mul h0).1 h2
      rwa [Int.mul_comm] at this
     congr 4
     omega
   · have hm : a * b ≤ 1099511627776 := by
      have h2 : b ≤ 1099511627776 / a := by rw [← e1]; omega
      have := (Int.le_ediv_iff_mul_le h0).1 h2
      rwa [Int.mul_comm] at this
     have hm0 : 0 ≤ a * b := Int.mul_nonneg ha hb
     simp (disch := omega) only [go_sem, ↓reduceIte, Nat.reduceEqDiff, reduceCtorEq, List.map, and_self, h0, decide_true, h1, decide_false]
     congr 4
     omega
 · have : a = 0 := by omega
   subst this
   simp (disch := omega) only [go_sem, ↓reduceIte, Nat.reduceEqDiff, reduceCtorEq, List.map, and_self, h0, decide_false, Int.zero_mul]
   congr 4
end Go.Proofs.Tryz
/- vals.counted. -/
namespace Go.Proofs.Tryz
open Go Go.AE
variable {T : Tbl} (hT : Std T)
structure Loc (h : List AE.Obj) (kT kS kR ki ko : Nat) (S1 S2 : PV) (refs : List PV) (i : Nat) (so ri : List (List Int)) (o : GOp) : Prop where
 hT : h[kT]? = some (.row 4 [.agg [S1, S2, .aref kS 61 0 so.length so.length, .aref kR 1 0 refs.length refs.length]])
 hS : h[kS]? = some (.row 61 (so.map arr))
 hR : h[kR]? = some (.row 1 refs)
 href : refs[i]? = some (.aref ki 61 0 ri.length ri.length)
 hi : h[ki]? = some (.row 61 (ri.map arr))
 ho : h[ko]? = some (.row 3 [encOp o])
 ne : ki ≠ kT ∧ ki ≠ kS ∧ ki ≠ kR ∧ ki ≠ ko
theorem ld_row {h : List AE.Obj} {k i j : Nat} {r : List (List Int)} {x : List Int} {v : Int} (hk : h[k]? = some (.row 61 (r.map arr))) (hi : r[i]? = some x) (hj : x[j]? = some v) : loadAt false 1 (.ptr k i j r.length) h = some (.int .i64 v) := by
 simp [loadAt, hk, hi, arr, sub, hj, encI]
theorem sub_int {sz : Nat} {k : IntKind} {n : Int} : sub false sz (.int k n) 0 = some (.int k n) := rfl
variable {e : List PV} {h : List AE.Obj} {ws : List Nat} {ups : List (Nat × Nat)} {kT kS kR ki ko : Nat} {S1 S2 : PV} {refs : List PV} {so ri : List (List Int)} {o : GOp}
theorem st_row {k i j : Nat} {r : List (List Int)} {x : List Int} {v : Int} (hk : h[k]? = some (.row 61 (r.map arr))) (hi : r[i]? = some x) (hx : x.length = 61) (hj : j < 61) :
 storeAt 1 (.ptr k i j r.length) (.int .i64 v) { h, ws, ups } = some { h := h.set k (.row 61 ((r.set i (x.set j v)).map arr)), ws := wadd k ws, ups } := by
 have hc : (r.map arr)[i]? = some (arr x) := by simp [hi]
 have hlen : (x.map encI).length = 61 := by simpa using hx
 have hu : upd (arr x) j (.int .i64 v) = some (arr (x.set j v)) := by
  have h1 : ¬ (j = 0 ∧ (PV.int IntKind.i64 v).cells.length = (x.map encI).length) := by
   rw [hlen]
   simp [PV.cells]
  have h2 : j + (PV.int IntKind.i64 v).cells.length ≤ (x.map encI).length := by
   rw [hlen]
   simp only [PV.cells, List.length_cons, List.length_nil]
   omega
  unfold arr upd
  simp only []
  rw [if_neg h1, if_pos h2]
  have : (x.set j v) = x.take j ++ [v] ++ x.drop (j + 1) := by
   rw [List.set_eq_take_append_cons_drop, if_pos (by omega)]
   simp
  rw [this]
  simp [encI, PV.cells]
 simp only [storeAt, hk, List.length_map, PV.cells, List.length_cons, List.length_nil, List.all_cons, List.all_nil, PV.isCell, Bool.and_self, and_self, if_true, hc, hu, Option.map, PV.top, wrote_none]
 congr 2
 simp [List.map_set]
def Same (W : Nat → Prop) (e e' : List PV) : Prop := ∀ j, ¬ W j → eget e' j = eget e j
theorem Same.refl {W : Nat → Prop} (e : List PV) : Same W e e := fun _ _ => rfl
theorem Same.trans {W : Nat → Prop} {e e' e'' : List PV} (h : Same W e e') (h' : Same W e' e'') : Same W e e'' := fun j hj => (h' j hj).trans (h j hj)
theorem Same.mono {W V : Nat → Prop} {e e' : List PV} (h : Same W e e') (hV : ∀ j, W j → V j) : Same V e e' := fun j hj => h j fun hw => hj (hV j hw)
include hT in
theorem b1_step {p i k m a : Nat} {x0 x1 xs : List Int} {v0 v1 v2 : Int} (L : Loc h kT kS kR ki ko S1 S2 refs i so ri o) (e3 : eget e 3 = .ptr kT 0 0 1) (e6 : eget e 6 = .int .i64 ((p + 1 : Nat) : Int)) (e7 : eget e 7 = .int .i64 (i : Int)) (e8 : eget e 8 = .ptr ko 0 0 1)
 (e9 : eget e 9 = .int .i64 (k : Int)) (e10 : eget e 10 = .int .i64 (m : Int)) (hm : m < p + 1) (hp : p < 60) (hi : i < refs.length) (hk : k + 1 < ri.length) (hk9 : ri.length < 1000)
 (ha : o.args[k]? = some (a : Int)) (g0 : ri[k]? = some x0) (g1 : ri[k+1]? = some x1) (gs : so[a]? = some xs) (y0 : x0[p]? = some v0) (y1 : x1[p - m]? = some v1) (ys : xs[m]? = some v2) (hx0 : x0.length = 61)
 (b0 : 0 ≤ v0 ∧ v0 ≤ 1099511627776) (b1 : 0 ≤ v1 ∧ v1 ≤ 1099511627776) (b2 : 0 ≤ v2 ∧ v2 ≤ 1099511627776) {Q : AExit → List PV → St → Prop}
 (hQ : ∀ e', Same (fun j => j = 10 ∨ 74 ≤ j) e e' → eget e' 10 = .int .i64 ((m + 1 : Nat) : Int) → Q .normal e' { h := h.set ki (.row 61 ((ri.set k (x0.set p (min (v0 + min (v2 * v1) 1099511627776) 1099511627776))).map arr)), ws := wadd ki ws, ups }) :
 wpC T a90b1 e { h, ws, ups } Q := by
 obtain ⟨hT', hS, hR, href, hri, ho, n1, n2, n3, n4⟩ := L
 have f3 : loadAt false 1 (.ptr kT 0 3 1) h = some (.aref kR 1 0 refs.length refs.length) := by simp [loadAt, hT', sub]
 have f2 : loadAt false 1 (.ptr kT 0 2 1) h = some (.aref kS 61 0 so.length so.length) := by simp [loadAt, hT', sub]
 have fr : loadAt false 1 (.ptr kR i 0 refs.length) h = some (.aref ki 61 0 ri.length ri.length) := by simp [loadAt, hR, href, sub]
 have fo : loadAt false 1 (.ptr ko 0 1 1) h = some (.slice 1 (o.args.map encI) .any) := by simp [loadAt, ho, sub, encOp]
 have l0 := ld_row hri g0 y0
 have l1 := ld_row hri g1 y1
 have ls := ld_row hS gs ys
 have hal : a < so.length := (List.getElem?_eq_some_iff.1 gs).1
 have hga : (o.args.map encI)[k]? = some (.int .i64 (a : Int)) := by simp [ha, encI]
 have c1 : ∀ (K : OR × St → Prop) (d : Keep K), cbind K d T 165 [.int .i64 v2, .int .i64 v1] h = K (.val (.int .i64 (min (v2 * v1) 1099511627776)), { h, ws := [], ups := [] }) := fun K d => cbind_eq (times_ev hT b2.1 b2.2 b1.1 b1.2)
 have hmul : 0 ≤ v2 * v1 := Int.mul_nonneg b2.1 b1.1
 have c2 : ∀ (K : OR × St → Prop) (d : Keep K), cbind K d T 124 [.int .i64 v0, .int .i64 (min (v2 * v1) 1099511627776)] h = K (.val (.int .i64 (min (v0 + min (v2 * v1) 1099511627776) 1099511627776)), { h, ws := [], ups := [] }) := fun K d => cbind_eq (plus_ev hT b0.1 b0.2 (by omega) (by omega))
 have hp61 : p < 61 := by omega
 have hpm : p - m < 61 := by omega
 have hm61 : m < 61 := by omega
 have hk0 : k < ri.length := by omega
 have st := st_row (ws := []) (ups := ups) (v := min (v0 + min (v2 * v1) 1099511627776) 1099511627776) hri g0 hx0 hp61
 simp (disch := first | omega | decide) only [a90b1, go_sem, ↓reduceIte, Nat.reduceEqDiff, reduceCtorEq, e3, e6, e7, e8, e9, e10, hm, decide_true, f3, f2, fr, fo, l0, l1, ls, Nat.zero_add, hi, true_and, and_true, and_self, hT.prim, primOf,
  cast_sub, allocOp, Nat.mul_one, Nat.add_lt_add_iff_right, hm, hp61, hpm, hm61, hk0, hk, hal, hga, c1, c2, sub_int, st]
 refine hQ _ (fun j hj => ?_) ?_
 · simp only [not_or, Nat.not_le] at hj
   simp (disch := omega) only [eget_eput_ne]
 · simp only [eget_eput_same]
def cap (x : Int) : Int := min x 1099511627776
def okRow (x : List Int) : Prop := x.length = 61 ∧ ∀ v ∈ x, 0 ≤ v ∧ v ≤ 1099511627776
def inner (xs x1 : List Int) (p : Nat) : Nat → Nat → Int → Int
 | 0, _, v => v
 | d + 1, m, v => inner xs x1 p d (m + 1) (min (v + min (xs.getD m 0 * x1.getD (p - m) 0) 1099511627776) 1099511627776)
theorem okRow.get {x : List Int} (h : okRow x) {j : Nat} (hj : j < 61) : x[j]? = some (x.getD j 0) ∧ 0 ≤ x.getD j 0 ∧ x.getD j 0 ≤ 1099511627776 := by
 have hl : j < x.length := by rw [h.1]; exact hj
 have e1 : x[j]? = some x[j] := List.getElem?_eq_getElem hl
 have e2 : x.getD j 0 = x[j] := by simp [List.getD_eq_getElem?_getD, e1]
 rw [e2]
 exact ⟨e1, h.2 _ (List.getElem_mem hl)⟩
theorem okRow.set {x : List Int} (h : okRow x) {j : Nat} {v : Int} (hv : 0 ≤ v ∧ v ≤ 1099511627776) : okRow (x.set j v) :=
 ⟨by simpa using h.1, fun u hu => by
  rcases List.mem_or_eq_of_mem_set hu with h' | rfl
  · exact h.2 _ h'
  · exact hv⟩
theorem set_self {α : Type} {l : List α} {k : Nat} {x : α} (h : l[k]? = some x) : l.set k x = l := by
 apply List.ext_getElem?
 intro j
 by_cases hj : k = j
 · subst hj
   rw [List.getElem?_set_self (List.getElem?_eq_some_iff.1 h).1, h]
 · rw [List.getElem?_set_ne hj]
theorem get_set {l : List AE.Obj} {k : Nat} {o o' : AE.Obj} (h : l[k]? = some o) : (l.set k o')[k]? = some o' := by
 rw [List.getElem?_set_self (List.getElem?_eq_some_iff.1 h).1]
theorem get_set_ne {l : List AE.Obj} {k k' : Nat} {o o' : AE.Obj} (h : l[k']? = some o) (hne : k ≠ k') : (l.set k o')[k']? = some o := by
 rw [List.getElem?_set_ne hne]; exact h
theorem Loc.set {i : Nat} (L : Loc h kT kS kR ki ko S1 S2 refs i so ri o) {ri' : List (List Int)} (hl : ri'.length = ri.length) : Loc (h.set ki (.row 61 (ri'.map arr))) kT kS kR ki ko S1 S2 refs i so ri' o where
 hT := get_set_ne L.hT L.ne.1
 hS := get_set_ne L.hS L.ne.2.1
 hR := get_set_ne L.hR L.ne.2.2.1
 href := by rw [hl]; exact L.href
 hi := get_set L.hi
 ho := get_set_ne L.ho L.ne.2.2.2
 ne := L.ne
include hT in
theorem b1_loop {p i k a : Nat} {x0 x1 xs : List Int} (L : Loc h kT kS kR ki ko S1 S2 refs i so ri o) (hp : p < 60) (hi : i < refs.length) (hk : k + 1 < ri.length) (hk9 : ri.length < 1000)
 (ha : o.args[k]? = some (a : Int)) (g1 : ri[k+1]? = some x1) (gs : so[a]? = some xs) (o0 : okRow x0) (o1 : okRow x1) (os : okRow xs) {Q : AExit → List PV → St → Prop} :
 ∀ (d m : Nat) (v : Int) (e : List PV) (ws : List Nat), m + d = p + 1 → 1 ≤ m → 0 ≤ v ∧ v ≤ 1099511627776 → eget e 3 = .ptr kT 0 0 1 → eget e 6 = .int .i64 ((p + 1 : Nat) : Int) → eget e 7 = .int .i64 (i : Int) → eget e 8 = .ptr ko 0 0 1 →
   eget e 9 = .int .i64 (k : Int) → eget e 10 = .int .i64 (m : Int) →
   (∀ e' ws', Same (fun j => j = 10 ∨ 74 ≤ j) e e' → (∀ x ∈ ws', x ∈ ws ∨ x = ki) → 0 ≤ inner xs x1 p d m v ∧ inner xs x1 p d m v ≤ 1099511627776 → Q (.exit 8) e' { h := h.set ki (.row 61 ((ri.set k (x0.set p (inner xs x1 p d m v))).map arr)), ws := ws', ups }) →
   wpC T (.loop a90b1) e { h := h.set ki (.row 61 ((ri.set k (x0.set p v)).map arr)), ws, ups } Q := by
 intro d
 induction d with
 | zero =>
   intro m v e ws hd hm1 hv e3 e6 e7 e8 e9 e10 hQ
   have hm : ¬ m < p + 1 := by omega
   refine unroll ?_
   simp (disch := first | omega | decide) only [a90b1, go_sem, ↓reduceIte, Nat.reduceEqDiff, reduceCtorEq, e6, e10, hm, decide_false]
   refine hQ _ ws (fun j hj => ?_) (fun x hx => .inl hx) hv
   simp only [not_or, Nat.not_le] at hj
   simp (disch := omega) only [eget_eput_ne]
 | succ d ih =>
   intro m v e ws hd hm1 hv e3 e6 e7 e8 e9 e10 hQ
   have hkl : k < ri.length := by omega
   have L' := L.set (ri' := ri.set k (x0.set p v)) (by simp)
   have y1 := o1.get (j := p - m) (by omega)
   have ys := os.get (j := m) (by omega)
   have hmul : 0 ≤ xs.getD m 0 * x1.getD (p - m) 0 := Int.mul_nonneg ys.2.1 y1.2.1
   refine unroll (b1_step hT (m := m) (x0 := x0.set p v) L' e3 e6 e7 e8 e9 e10 (by omega) hp hi (by simpa using hk) (by simpa using hk9) ha (by rw [List.getElem?_set_self hkl]) (by rw [List.getElem?_set_ne (by omega)]; exact g1) gs
    (by rw [List.getElem?_set_self (by rw [o0.1]; omega)]) y1.1 ys.1 (by simpa using o0.1) hv y1.2 ys.2 fun e' hs h10 => ?_)
   have st : ∀ j, ¬ (j = 10 ∨ 74 ≤ j) → eget e' j = eget e j := hs
   rw [List.set_set, List.set_set, List.set_set]
   refine ih (m + 1) _ e' _ (by omega) (by omega) ⟨by omega, by omega⟩ (by rw [st 3 (by omega)]; exact e3) (by rw [st 6 (by omega)]; exact e6) (by rw [st 7 (by omega)]; exact e7) (by rw [st 8 (by omega)]; exact e8) (by rw [st 9 (by omega)]; exact e9) h10 fun e2 ws2 hs2 hw2 hb => ?_
   refine hQ e2 ws2 (hs.trans hs2) (fun x hx => ?_) hb
   rcases hw2 x hx with h | h
   · unfold wadd at h
     split at h
     · exact .inl h
     · rcases List.mem_cons.1 h with h | h
       · exact .inr h
       · exact .inl h
   · exact .inr h
def rowStep (so : List (List Int)) (args : List Int) (p : Nat) (ri : List (List Int)) (k : Nat) : List (List Int) :=
 ri.set k ((ri.getD k []).set p (inner (so.getD (args.getD k 0).toNat []) (ri.getD (k + 1) []) p p 1 ((ri.getD k []).getD p 0)))
def rowsDown (so : List (List Int)) (args : List Int) (p : Nat) : Nat → List (List Int) → List (List Int)
 | 0, ri => ri
 | k + 1, ri => rowsDown so args p k (rowStep so args p ri k)
def okRows (l : List (List Int)) : Prop := ∀ x ∈ l, okRow x
theorem okRows.get {l : List (List Int)} (h : okRows l) {k : Nat} (hk : k < l.length) : l[k]? = some (l.getD k []) ∧ okRow (l.getD k []) := by
 have e1 : l[k]? = some l[k] := List.getElem?_eq_getElem hk
 have e2 : l.getD k [] = l[k] := by simp [List.getD_eq_getElem?_getD, e1]
 rw [e2]
 exact ⟨e1, h _ (List.getElem_mem hk)⟩
theorem okRows.set {l : List (List Int)} (h : okRows l) {k : Nat} {x : List Int} (hx : okRow x) : okRows (l.set k x) := fun y hy => by
 rcases List.mem_or_eq_of_mem_set hy with h' | rfl
 · exact h _ h'
 · exact hx
theorem inner_ok {xs x1 : List Int} {p : Nat} (h1 : okRow x1) (hs : okRow xs) (hp : p < 60) : ∀ (d m : Nat) (v : Int), m + d = p + 1 → 1 ≤ m → 0 ≤ v ∧ v ≤ 1099511627776 → 0 ≤ inner xs x1 p d m v ∧ inner xs x1 p d m v ≤ 1099511627776
 | 0, m, v, _, _, hv => hv
 | d + 1, m, v, hd, hm, hv => by
   have y1 := h1.get (j := p - m) (by omega)
   have ys := hs.get (j := m) (by omega)
   have hmul : 0 ≤ xs.getD m 0 * x1.getD (p - m) 0 := Int.mul_nonneg ys.2.1 y1.2.1
   exact inner_ok h1 hs hp d (m + 1) _ (by omega) (by omega) ⟨by omega, by omega⟩
def okArgs (args : List Int) (n : Nat) : Prop := ∀ a ∈ args, 0 ≤ a ∧ a < (n : Int)
theorem okArgs.get {args : List Int} {n k : Nat} (h : okArgs args n) (hk : k < args.length) : args[k]? = some (((args.getD k 0).toNat : Nat) : Int) ∧ (args.getD k 0).toNat < n := by
 have e1 : args[k]? = some args[k] := List.getElem?_eq_getElem hk
 have e2 : args.getD k 0 = args[k] := by simp [List.getD_eq_getElem?_getD, e1]
 have := h _ (List.getElem_mem hk)
 rw [e2, e1]
 refine ⟨?_, by omega⟩
 congr 1
 omega
theorem rowStep_ok {so : List (List Int)} {args : List Int} {p k : Nat} {ri : List (List Int)} (hso : okRows so) (hri : okRows ri) (ha : okArgs args so.length) (hp : p < 60) (hl : ri.length = args.length + 1) (hk : k < args.length) : okRows (rowStep so args p ri k) ∧ (rowStep so args p ri k).length = args.length + 1 := by
 refine ⟨hri.set ((hri.get (by omega)).2.set (inner_ok (hri.get (by omega)).2 (hso.get (ha.get hk).2).2 hp p 1 _ (by omega) (by omega) ((hri.get (by omega)).2.get (by omega)).2)), by simp [rowStep, hl]⟩
theorem rowsDown_ok {so : List (List Int)} {args : List Int} {p : Nat} (hso : okRows so) (ha : okArgs args so.length) (hp : p < 60) : ∀ (K : Nat) {ri : List (List Int)}, okRows ri → ri.length = args.length + 1 → K ≤ args.length → okRows (rowsDown so args p K ri) ∧ (rowsDown so args p K ri).length = args.length + 1
 | 0, ri, hri, hl, _ => ⟨hri, hl⟩
 | k + 1, ri, hri, hl, hk => by
   have h := rowStep_ok hso hri ha hp hl (show k < args.length by omega)
   exact rowsDown_ok hso ha hp k h.1 h.2 (by omega)
include hT in
theorem b2_loop {p i : Nat} {so : List (List Int)} (hso : okRows so) (hp : p < 60) (hi : i < refs.length) (ha : okArgs o.args so.length) (hk9 : o.args.length < 900) {Q : AExit → List PV → St → Prop} :
 ∀ (K : Nat) (ri : List (List Int)) (e : List PV) (ws : List Nat) (h : List AE.Obj), Loc h kT kS kR ki ko S1 S2 refs i so ri o → okRows ri → ri.length = o.args.length + 1 → K ≤ o.args.length → eget e 3 = .ptr kT 0 0 1 → eget e 6 = .int .i64 ((p + 1 : Nat) : Int) → eget e 7 = .int .i64 (i : Int) → eget e 8 = .ptr ko 0 0 1 →
   eget e 9 = .int .i64 ((K : Int) - 1) →
   (∀ e' ws', Same (fun j => j = 9 ∨ j = 10 ∨ 70 ≤ j) e e' → (∀ x ∈ ws', x ∈ ws ∨ x = ki) → Q (.exit 6) e' { h := h.set ki (.row 61 ((rowsDown so o.args p K ri).map arr)), ws := ws', ups }) →
   wpC T (.loop a90b2) e { h, ws, ups } Q := by
 intro K
 induction K with
 | zero =>
   intro ri e ws h L hri hl hK e3 e6 e7 e8 e9 hQ
   refine unroll ?_
   have hm : ¬ ((0 : Int) ≤ ((0 : Nat) : Int) - 1) := by omega
   simp (disch := first | omega | decide) only [a90b2, go_sem, ↓reduceIte, Nat.reduceEqDiff, reduceCtorEq, e9, hm, decide_false]
   have hset : h.set ki (.row 61 ((rowsDown so o.args p 0 ri).map arr)) = h := by
    simp only [rowsDown]
    exact set_self L.hi
   rw [hset] at hQ
   refine hQ _ ws (fun j hj => ?_) (fun x hx => .inl hx)
   simp only [not_or, Nat.not_le] at hj
   simp (disch := omega) only [eget_eput_ne]
 | succ k ih =>
   intro ri e ws h L hri hl hK e3 e6 e7 e8 e9 hQ
   have hge : (0 : Int) ≤ (k : Int) := by omega
   have hk : k < o.args.length := by omega
   obtain ⟨g1, g2⟩ := ha.get hk
   have q0 := hri.get (k := k) (by omega)
   have q1 := hri.get (k := k + 1) (by omega)
   have qs := hso.get g2
   have v0 := q0.2.get (j := p) (by omega)
   refine unroll ?_
   simp (disch := first | omega | decide) only [a90b2, go_sem, ↓reduceIte, Nat.reduceEqDiff, reduceCtorEq, e9, hge, decide_true]
   have hself : h = h.set ki (.row 61 ((ri.set k ((ri.getD k []).set p ((ri.getD k []).getD p 0))).map arr)) := by
    have e1 : (ri.getD k []).set p ((ri.getD k []).getD p 0) = ri.getD k [] := set_self v0.1
    have e2 : ri.set k (ri.getD k []) = ri := set_self q0.1
    rw [e1, e2]
    exact (set_self L.hi).symm
   have main := fun Q' => b1_loop hT (ups := ups) (Q := Q') (x0 := ri.getD k []) L hp hi (by omega) (by omega) g1 q1.1 qs.1 q0.2 q1.2 qs.2 p 1 ((ri.getD k []).getD p 0)
   rw [← hself] at main
   refine main _ _ _ (by omega) (by omega) v0.2 ?_ ?_ ?_ ?_ ?_ ?_ ?_
   · simp (disch := omega) only [eget_eput_ne]; exact e3
   · simp (disch := omega) only [eget_eput_ne]; exact e6
   · simp (disch := omega) only [eget_eput_ne]; exact e7
   · simp (disch := omega) only [eget_eput_ne]; exact e8
   · simp (disch := omega) only [eget_eput_ne]; rw [e9]; simp
   · simp only [eget_eput_same]; rfl
   · intro e' ws' hs hw hb
     have st : ∀ j, ¬ (j = 10 ∨ 70 ≤ j) → eget e' j = eget e j := fun j hj => by
      simp only [not_or, Nat.not_le] at hj
      rw [hs j (by omega)]
      simp (disch := omega) only [eget_eput_ne]
     have s9 : eget e' 9 = .int .i64 (k : Int) := by rw [st 9 (by omega), e9]; simp
     simp (disch := first | omega | decide) only [go_sem, ↓reduceIte, Nat.reduceEqDiff, reduceCtorEq, s9]
     have L' := L.set (ri' := rowStep so o.args p ri k) (by simp [rowStep])
     obtain ⟨r1, r2⟩ := rowStep_ok hso hri ha hp hl hk
     refine ih _ _ ws' _ L' r1 r2 (by omega) ?_ ?_ ?_ ?_ ?_ ?_
     · simp (disch := omega) only [eget_eput_ne]; rw [st 3 (by omega)]; exact e3
     · simp (disch := omega) only [eget_eput_ne]; rw [st 6 (by omega)]; exact e6
     · simp (disch := omega) only [eget_eput_ne]; rw [st 7 (by omega)]; exact e7
     · simp (disch := omega) only [eget_eput_ne]; rw [st 8 (by omega)]; exact e8
     · simp only [eget_eput_same]
     · intro e2 ws2 hs2 hw2
       rw [List.set_set]
       refine hQ e2 ws2 (fun j hj => ?_) (fun x hx => ?_)
       · rw [hs2 j hj]
         simp only [not_or, Nat.not_le] at hj
         simp (disch := omega) only [eget_eput_ne]
         exact st j (by omega)
       · rcases hw2 x hx with h | h
         · exact hw x h
         · exact .inr h
end Go.Proofs.Tryz
/- vals.counted: the loops over operations and sizes. -/
namespace Go.Proofs.Tryz
open Go Go.AE
variable {T : Tbl} (hT : Std T)
variable {h : List AE.Obj} {ws : List Nat} {ups : List (Nat × Nat)} {kT kS kR : Nat} {S1 S2 : PV}
def refsOf (kis : List Nat) (rest : List (List (List Int))) : List PV := List.zipWith (fun k (r : List (List Int)) => PV.aref k 61 0 r.length r.length) kis rest
structure Glob (h : List AE.Obj) (kT kS kR : Nat) (kis : List Nat) (S1 S2 : PV) (refs : List PV) (so : List (List Int)) (rest : List (List (List Int))) : Prop where
 hT : h[kT]? = some (.row 4 [.agg [S1, S2, .aref kS 61 0 so.length so.length, .aref kR 1 0 refs.length refs.length]])
 hS : h[kS]? = some (.row 61 (so.map arr))
 hR : h[kR]? = some (.row 1 refs)
 refs : refs = refsOf kis rest
 rows : ∀ (i k : Nat) (r : List (List Int)), kis[i]? = some k → rest[i]? = some r → h[k]? = some (.row 61 (r.map arr))
 len : kis.length = rest.length
 nodup : ∀ (i j k : Nat), kis[i]? = some k → kis[j]? = some k → i = j
 ne : kT ≠ kS ∧ kT ≠ kR ∧ kS ≠ kR ∧ ∀ k ∈ kis, k ≠ kT ∧ k ≠ kS ∧ k ≠ kR
theorem Glob.ref {kis : List Nat} {refs : List PV} {so : List (List Int)} {rest : List (List (List Int))} (G : Glob h kT kS kR kis S1 S2 refs so rest) {i k : Nat} {r : List (List Int)} (hk : kis[i]? = some k) (hr : rest[i]? = some r) : refs[i]? = some (.aref k 61 0 r.length r.length) := by
 rw [G.refs]
 simp [refsOf, List.getElem?_zipWith, hk, hr]
theorem Glob.more {kis : List Nat} {refs : List PV} {so : List (List Int)} {rest : List (List (List Int))} (G : Glob h kT kS kR kis S1 S2 refs so rest) {h' : List AE.Obj} (hh : ∀ (k : Nat) (o : AE.Obj), h[k]? = some o → h'[k]? = some o) : Glob h' kT kS kR kis S1 S2 refs so rest :=
 ⟨hh _ _ G.hT, hh _ _ G.hS, hh _ _ G.hR, G.refs, fun i k r h1 h2 => hh _ _ (G.rows i k r h1 h2), G.len, G.nodup, G.ne⟩
theorem Glob.loc {kis : List Nat} {refs : List PV} {so : List (List Int)} {rest : List (List (List Int))} (G : Glob h kT kS kR kis S1 S2 refs so rest) {i ki ko : Nat} {r : List (List Int)} {o : GOp} (hk : kis[i]? = some ki) (hr : rest[i]? = some r)
 (ho : h[ko]? = some (.row 3 [encOp o])) (hne : ki ≠ ko) : Loc h kT kS kR ki ko S1 S2 refs i so r o :=
 ⟨G.hT, G.hS, G.hR, G.ref hk hr, G.rows i ki r hk hr, ho, (G.ne.2.2.2 ki (List.mem_of_getElem? hk)).1, (G.ne.2.2.2 ki (List.mem_of_getElem? hk)).2.1, (G.ne.2.2.2 ki (List.mem_of_getElem? hk)).2.2, hne⟩
theorem Glob.setRow {kis : List Nat} {refs : List PV} {so : List (List Int)} {rest : List (List (List Int))} (G : Glob h kT kS kR kis S1 S2 refs so rest) {i ki : Nat} {r r' : List (List Int)} (hk : kis[i]? = some ki) (hr : rest[i]? = some r) (hl : r'.length = r.length) :
 Glob (h.set ki (.row 61 (r'.map arr))) kT kS kR kis S1 S2 refs so (rest.set i r') := by
 have hn := G.ne.2.2.2 ki (List.mem_of_getElem? hk)
 have hil := (List.getElem?_eq_some_iff.1 hr).1
 refine ⟨get_set_ne G.hT hn.1, get_set_ne G.hS hn.2.1, get_set_ne G.hR hn.2.2, ?_, fun j k x h1 h2 => ?_, by simpa using G.len, G.nodup, G.ne⟩
 · rw [G.refs]
   unfold refsOf
   apply List.ext_getElem?
   intro j
   simp only [List.getElem?_zipWith, List.getElem?_set]
   by_cases hj : i = j
   · subst hj
     have := (List.getElem?_eq_some_iff.1 hr).2
     simp [hk, hil, hl, this]
   · simp [hj]
 · by_cases hj : i = j
   · subst hj
     rw [hk] at h1
     cases h1
     rw [List.getElem?_set_self hil] at h2
     cases h2
     exact get_set (G.rows i ki r hk hr)
   · rw [List.getElem?_set_ne hj] at h2
     have hne : ki ≠ k := fun e => by
      subst e
      exact hj (G.nodup _ _ _ hk h1)
     exact get_set_ne (G.rows j k x h1 h2) hne
theorem Glob.setSorts {kis : List Nat} {refs : List PV} {so so' : List (List Int)} {rest : List (List (List Int))} (G : Glob h kT kS kR kis S1 S2 refs so rest) (hl : so'.length = so.length) :
 Glob (h.set kS (.row 61 (so'.map arr))) kT kS kR kis S1 S2 refs so' rest :=
 ⟨by rw [hl]; exact get_set_ne G.hT (Ne.symm G.ne.1), get_set G.hS, get_set_ne G.hR G.ne.2.2.1, G.refs, fun j k x h1 h2 => get_set_ne (G.rows j k x h1 h2) (Ne.symm (G.ne.2.2.2 k (List.mem_of_getElem? h1)).2.1), G.len, G.nodup, G.ne⟩
abbrev Tab := List (List Int) × List (List (List Int))
def opStep (p : Nat) (t : Tab) (i : Nat) (o : GOp) : Tab :=
 let ri := rowsDown t.1 o.args p o.args.length (t.2.getD i [])
 let r := o.res.toNat
 (t.1.set r ((t.1.getD r []).set (p + 1) (min ((t.1.getD r []).getD (p + 1) 0 + (ri.getD 0 []).getD p 0) 1099511627776)), t.2.set i ri)
def opsFrom (p : Nat) : List GOp → Nat → Tab → Tab
 | [], _, t => t
 | o :: os, i, t => opsFrom p os (i + 1) (opStep p t i o)
structure TabOK (ops : List GOp) (nS : Nat) (t : Tab) : Prop where
 so : okRows t.1
 sl : t.1.length = nS
 len : t.2.length = ops.length
 rows : ∀ (i : Nat) (o : GOp) (r : List (List Int)), ops[i]? = some o → t.2[i]? = some r → okRows r ∧ r.length = o.args.length + 1
def okOps (ops : List GOp) (nS : Nat) : Prop := ∀ o ∈ ops, okArgs o.args nS ∧ (0 ≤ o.res ∧ o.res < (nS : Int)) ∧ o.args.length < 900
theorem opStep_ok {ops : List GOp} {nS p i : Nat} {t : Tab} {o : GOp} (h : TabOK ops nS t) (hops : okOps ops nS) (hp : p < 60) (ho : ops[i]? = some o) : TabOK ops nS (opStep p t i o) := by
 have hi : i < t.2.length := by rw [h.len]; exact (List.getElem?_eq_some_iff.1 ho).1
 have e1 : t.2[i]? = some (t.2.getD i []) := by
  rw [List.getD_eq_getElem?_getD, List.getElem?_eq_getElem hi]; rfl
 obtain ⟨q1, q2⟩ := h.rows i o _ ho e1
 obtain ⟨a1, a2, a3⟩ := hops o (List.mem_of_getElem? ho)
 obtain ⟨r1, r2⟩ := rowsDown_ok h.so (by rw [h.sl]; exact a1) hp o.args.length q1 q2 (Nat.le_refl _)
 have hr : o.res.toNat < t.1.length := by rw [h.sl]; omega
 have s1 := (h.so.get hr).2
 have v1 := s1.get (j := p + 1) (by omega)
 have v2 := (r1.get (k := 0) (by omega)).2.get (j := p) (by omega)
 refine ⟨h.so.set (s1.set ⟨by omega, by omega⟩), by simpa [opStep] using h.sl, by simpa [opStep] using h.len, fun j o' r ho' hr' => ?_⟩
 by_cases hj : i = j
 · subst hj
   rw [ho] at ho'
   cases ho'
   simp only [opStep] at hr'
   rw [List.getElem?_set_self hi] at hr'
   cases hr'
   exact ⟨r1, r2⟩
 · simp only [opStep] at hr'
   rw [List.getElem?_set_ne hj] at hr'
   exact h.rows j o' r ho' hr'
theorem opsFrom_ok {ops : List GOp} {nS p : Nat} (hops : okOps ops nS) (hp : p < 60) : ∀ (os : List GOp) (i : Nat) (t : Tab), TabOK ops nS t → (∀ j o, os[j]? = some o → ops[i + j]? = some o) → TabOK ops nS (opsFrom p os i t)
 | [], i, t, h, _ => h
 | o :: os, i, t, h, ho => opsFrom_ok hops hp os (i + 1) _ (opStep_ok h hops hp (ho 0 o rfl)) fun j o' hj => by
   have := ho (j + 1) o' (by simpa using hj)
   rw [show i + 1 + j = i + (j + 1) by omega]
   exact this
theorem st_box {z : PV} {sz : Nat} {c : PV} (hc : c.cells.length = sz) (hz : z.cells.length = sz) (hcell : c.cells.all PV.isCell = true) (ht : c.top = none) (hagg : ∃ cs, z = .agg cs) (hagc : ∃ cs, c = .agg cs) :
 storeAt sz (.ptr h.length 0 0 1) c { h := h ++ [.row sz [z]], ws, ups } = some { h := h ++ [.row sz [c]], ws := wadd h.length ws, ups } := by
 obtain ⟨cs, rfl⟩ := hagg
 obtain ⟨cs', rfl⟩ := hagc
 have h1 : (h ++ [AE.Obj.row sz [PV.agg cs]])[h.length]? = some (.row sz [.agg cs]) := by simp
 have hu : upd (.agg cs) 0 (.agg cs') = some (.agg cs') := by
  unfold upd
  simp only [PV.cells] at hc hz ⊢
  rw [if_pos (by simp [hc, hz])]
 simp only [storeAt, h1, List.length_cons, List.length_nil, hc, hcell, and_self, if_true, List.getElem?_cons_zero, hu, Option.map, ht, wrote_none]
 congr 2
 simp
structure Low (n0 : Nat) (h h' : List AE.Obj) : Prop where
 take : h'.take n0 = h.take n0
 len : h.length ≤ h'.length
theorem Low.refl (n0 : Nat) (h : List AE.Obj) : Low n0 h h := ⟨rfl, Nat.le_refl _⟩
theorem Low.trans {n0 : Nat} {h h' h'' : List AE.Obj} (a : Low n0 h h') (b : Low n0 h' h'') : Low n0 h h'' := ⟨b.take.trans a.take, Nat.le_trans a.len b.len⟩
theorem Low.set {n0 k : Nat} {o : AE.Obj} (hk : n0 ≤ k) : Low n0 h (h.set k o) := ⟨by rw [List.take_set_of_le hk], by simp⟩
theorem Low.more {n0 : Nat} {l : List AE.Obj} (hn : n0 ≤ h.length) : Low n0 h (h ++ l) := ⟨by rw [List.take_append_of_le_length hn], by simp⟩
theorem mem_wadd {x k : Nat} {l : List Nat} (h : x ∈ wadd k l) : x = k ∨ x ∈ l := by
 unfold wadd at h
 split at h
 · exact .inr h
 · exact List.mem_cons.1 h
theorem mem_wall {x : Nat} : ∀ {a b : List Nat}, x ∈ wall a b → x ∈ a ∨ x ∈ b
 | [], b, h => .inr h
 | k :: a, b, h => by
   have h : x ∈ wadd k (wall a b) := h
   rcases mem_wadd h with h | h
   · exact .inl (by simp [h])
   · rcases mem_wall h with h | h
     · exact .inl (by simp [h])
     · exact .inr h
include hT in
theorem b3_step {p i n0 : Nat} {kis : List Nat} {refs : List PV} {ops : List GOp} {nS : Nat} {t : Tab} {o : GOp} {e : List PV} (hops : okOps ops nS) (hp : p < 60) (ho : ops[i]? = some o) (G : Glob h kT kS kR kis S1 S2 refs t.1 t.2) (K : TabOK ops nS t) (hrl : refs.length = ops.length) (hol : ops.length < 1000)
 (hn0 : n0 ≤ h.length) (hnk : n0 ≤ kS ∧ ∀ k ∈ kis, n0 ≤ k)
 (e3 : eget e 3 = .ptr kT 0 0 1) (e6 : eget e 6 = .int .i64 ((p + 1 : Nat) : Int)) (e59 : eget e 59 = .slice 3 (ops.map encOp) .any) (e60 : eget e 60 = .int .i64 (ops.length : Int)) (e61 : eget e 61 = .int .i64 (i : Int)) {Q : AExit → List PV → St → Prop}
 (hQ : ∀ e' ws' h', Same (fun j => 7 ≤ j ∧ j ≤ 10 ∨ 61 ≤ j) e e' → eget e' 61 = .int .i64 ((i + 1 : Nat) : Int) → (∀ x ∈ ws', x ∈ ws ∨ n0 ≤ x) → Low n0 h h' → Glob h' kT kS kR kis S1 S2 refs (opStep p t i o).1 (opStep p t i o).2 → Q .normal e' { h := h', ws := ws', ups }) :
 wpC T a90b3 e { h, ws, ups } Q := by
 have hil : i < ops.length := (List.getElem?_eq_some_iff.1 ho).1
 have hi2 : i < t.2.length := by rw [K.len]; exact hil
 have e1 : t.2[i]? = some (t.2.getD i []) := by
  rw [List.getD_eq_getElem?_getD, List.getElem?_eq_getElem hi2]; rfl
 obtain ⟨q1, q2⟩ := K.rows i o _ ho e1
 obtain ⟨a1, a2, a3⟩ := hops o (List.mem_of_getElem? ho)
 obtain ⟨ki, hki⟩ : ∃ ki, kis[i]? = some ki := ⟨_, List.getElem?_eq_getElem (by rw [G.len]; exact hi2)⟩
 have hkm := List.mem_of_getElem? hki
 have hkl : ki < h.length := (List.getElem?_eq_some_iff.1 (G.rows i ki _ hki e1)).1
 have go : (ops.map encOp)[i]? = some (encOp o) := by simp [ho]
 have so : sub true 3 (encOp o) 0 = some (encOp o) := by simp [sub, encOp]
 have sb := st_box (h := h) (ws := ws) (ups := ups) (z := .agg [(.str ⟨#[]⟩), (.slice 0 [] .nil), (.int .i64 0)]) (sz := 3) (c := encOp o) rfl rfl rfl (by
  simp only [encOp, PV.top, tops, omax]
  have : ∀ l : List Int, tops (l.map encI) = none := fun l => by
   induction l with
   | nil => rfl
   | cons x l ih => simp [tops, encI, PV.top, ih, omax]
  rw [this]) ⟨_, rfl⟩ ⟨_, rfl⟩
 have ho3 : (h ++ [AE.Obj.row 3 [encOp o]])[h.length]? = some (.row 3 [encOp o]) := by simp
 have fo1 : loadAt false 1 (.ptr h.length 0 1 1) (h ++ [.row 3 [encOp o]]) = some (.slice 1 (o.args.map encI) .any) := by simp [loadAt, sub, encOp]
 have G1 := G.more (h' := h ++ [.row 3 [encOp o]]) fun k x hx => by
  rw [List.getElem?_append_left (List.getElem?_eq_some_iff.1 hx).1]; exact hx
 have L := G1.loc hki e1 ho3 (by omega)
 have hlt : (i : Int) < (ops.length : Int) := by omega
 simp (disch := first | omega | decide) only [a90b3, go_sem, ↓reduceIte, Nat.reduceEqDiff, reduceCtorEq, e60, e61, hil, decide_true, e59, go, so, sb, PV.cells, List.length_cons, List.length_nil, PV.isDef, Nat.reduceAdd, and_self, true_and, Nat.zero_add, fo1, List.length_map]
 refine b2_loop hT (so := t.1) K.so hp (by omega) (by rw [K.sl]; exact a1) a3 o.args.length (t.2.getD i []) _ _ _ L q1 q2 (Nat.le_refl _) ?_ ?_ ?_ ?_ ?_ ?_
 · simp (disch := omega) only [eget_eput_ne]; exact e3
 · simp (disch := omega) only [eget_eput_ne]; exact e6
 · simp (disch := omega) only [eget_eput_ne, eget_eput_same]
 · simp (disch := omega) only [eget_eput_ne, eget_eput_same]
 · simp only [eget_eput_same]
 · intro e' ws' hs hw
   have st : ∀ j, ¬ (7 ≤ j ∧ j ≤ 10 ∨ 62 ≤ j) → eget e' j = eget e j := fun j hj => by
    rw [hs j (by omega)]
    simp (disch := omega) only [eget_eput_ne]
   have s8 : eget e' 8 = .ptr h.length 0 0 1 := by
    rw [hs 8 (by omega)]
    simp (disch := omega) only [eget_eput_ne, eget_eput_same]
   have s7 : eget e' 7 = .int .i64 (i : Int) := by
    rw [hs 7 (by omega)]
    simp (disch := omega) only [eget_eput_ne, eget_eput_same]
   have s3 := (st 3 (by omega)).trans e3
   have s6 := (st 6 (by omega)).trans e6
   have s61 := (st 61 (by omega)).trans e61
   obtain ⟨r1, r2⟩ := rowsDown_ok K.so (by rw [K.sl]; exact a1) hp o.args.length q1 q2 (Nat.le_refl _)
   have G2 := G1.setRow hki e1 (r' := rowsDown t.1 o.args p o.args.length (t.2.getD i [])) (by rw [r2, q2])
   generalize hri : rowsDown t.1 o.args p o.args.length (t.2.getD i []) = ri at r1 r2 G2
   generalize hh2 : (h ++ [AE.Obj.row 3 [encOp o]]).set ki (.row 61 (ri.map arr)) = h2 at G2
   have hlen2 : h2.length = h.length + 1 := by rw [← hh2]; simp
   obtain ⟨r, hr⟩ : ∃ r : Nat, o.res = (r : Int) := ⟨o.res.toNat, by omega⟩
   have hrl2 : r < t.1.length := by rw [K.sl]; omega
   have hr2 : o.res.toNat = r := by omega
   have ho4 : h2[h.length]? = some (.row 3 [encOp o]) := by rw [← hh2]; exact get_set_ne ho3 (by omega)
   have fr2 : loadAt false 1 (.ptr h.length 0 2 1) h2 = some (.int .i64 (r : Int)) := by simp [loadAt, ho4, sub, encOp, hr]
   have f3 : loadAt false 1 (.ptr kT 0 3 1) h2 = some (.aref kR 1 0 refs.length refs.length) := by simp [loadAt, G2.hT, sub]
   have f2 : loadAt false 1 (.ptr kT 0 2 1) h2 = some (.aref kS 61 0 t.1.length t.1.length) := by simp [loadAt, G2.hT, sub]
   have href := G2.ref hki (List.getElem?_set_self hi2)
   have frk : loadAt false 1 (.ptr kR i 0 refs.length) h2 = some (.aref ki 61 0 ri.length ri.length) := by simp [loadAt, G2.hR, href, sub]
   have q3 := K.so.get hrl2
   have v1 := q3.2.get (j := p + 1) (by omega)
   have q4 := r1.get (k := 0) (by omega)
   have v2 := q4.2.get (j := p) (by omega)
   have l1 := ld_row G2.hS q3.1 v1.1
   have l2 := ld_row (G2.rows i ki _ hki (List.getElem?_set_self hi2)) q4.1 v2.1
   have c1 : ∀ (Kk : OR × St → Prop) (d : Keep Kk), cbind Kk d T 124 [.int .i64 ((t.1.getD r []).getD (p + 1) 0), .int .i64 ((ri.getD 0 []).getD p 0)] h2 = Kk (.val (.int .i64 (min ((t.1.getD r []).getD (p + 1) 0 + (ri.getD 0 []).getD p 0) 1099511627776)), { h := h2, ws := [], ups := [] }) := fun Kk d => cbind_eq (plus_ev hT v1.2.1 v1.2.2 v2.2.1 v2.2.2)
   have hst := st_row (h := h2) (ws := []) (ups := ups) (v := min ((t.1.getD r []).getD (p + 1) 0 + (ri.getD 0 []).getD p 0) 1099511627776) G2.hS q3.1 q3.2.1 (show p + 1 < 61 by omega)
   have hp1 : p + 1 < 61 := by omega
   have hp0 : p < 61 := by omega
   have hri0 : 0 < ri.length := by omega
   have hirl : i < refs.length := by omega
   simp (disch := first | omega | decide) only [go_sem, ↓reduceIte, Nat.reduceEqDiff, reduceCtorEq, s3, s6, s7, s8, s61, fr2, f3, f2, frk, l1, l2, c1, hst, hT.prim, primOf, allocOp, Nat.zero_add, Nat.mul_one, hp1, hp0, hri0, hirl, hrl2, true_and, and_true, and_self, decide_true]
   refine hQ _ _ _ (fun j hj => ?_) ?_ (fun x hx => ?_) ?_ ?_
   · simp only [not_or, Nat.not_le, not_and] at hj
     simp (disch := omega) only [eget_eput_ne]
     exact st j (by omega)
   · simp only [eget_eput_same]
   · rcases mem_wall hx with hx | hx
     · rcases mem_wadd hx with rfl | hx
       · exact .inr hnk.1
       · cases hx
     · rcases hw x hx with hx | rfl
       · rcases mem_wadd hx with rfl | hx
         · exact .inr hn0
         · exact .inl hx
       · exact .inr (hnk.2 _ hkm)
   · refine (Low.more (l := [.row 3 [encOp o]]) hn0).trans ?_
     rw [← hh2]
     exact (Low.set (hnk.2 ki hkm)).trans (Low.set hnk.1)
   · have := G2.setSorts (so' := t.1.set r ((t.1.getD r []).set (p + 1) (min ((t.1.getD r []).getD (p + 1) 0 + (ri.getD 0 []).getD p 0) 1099511627776))) (by simp)
     simp only [opStep, hr2, hri]
     exact this
theorem drop_cons {α : Type} {l : List α} {i : Nat} {x : α} (h : l[i]? = some x) : l.drop i = x :: l.drop (i + 1) := by
 obtain ⟨hi, rfl⟩ := List.getElem?_eq_some_iff.1 h
 exact List.drop_eq_getElem_cons hi
include hT in
theorem b3_loop {p n0 : Nat} {kis : List Nat} {refs : List PV} {ops : List GOp} {nS : Nat} (hops : okOps ops nS) (hp : p < 60) (hrl : refs.length = ops.length) (hol : ops.length < 1000) (hnk : n0 ≤ kS ∧ ∀ k ∈ kis, n0 ≤ k) {Q : AExit → List PV → St → Prop} :
 ∀ (d i : Nat) (t : Tab) (e : List PV) (ws : List Nat) (h : List AE.Obj), i + d = ops.length → n0 ≤ h.length → Glob h kT kS kR kis S1 S2 refs t.1 t.2 → TabOK ops nS t →
   eget e 3 = .ptr kT 0 0 1 → eget e 6 = .int .i64 ((p + 1 : Nat) : Int) → eget e 59 = .slice 3 (ops.map encOp) .any → eget e 60 = .int .i64 (ops.length : Int) → eget e 61 = .int .i64 (i : Int) →
   (∀ e' ws' h', Same (fun j => 7 ≤ j ∧ j ≤ 10 ∨ 61 ≤ j) e e' → (∀ x ∈ ws', x ∈ ws ∨ n0 ≤ x) → Low n0 h h' → Glob h' kT kS kR kis S1 S2 refs (opsFrom p (ops.drop i) i t).1 (opsFrom p (ops.drop i) i t).2 → Q (.exit 4) e' { h := h', ws := ws', ups }) →
   wpC T (.loop a90b3) e { h, ws, ups } Q := by
 intro d
 induction d with
 | zero =>
   intro i t e ws h hd hn G K e3 e6 e59 e60 e61 hQ
   refine unroll ?_
   have hm : ¬ (i < ops.length) := by omega
   simp (disch := first | omega | decide) only [a90b3, go_sem, ↓reduceIte, Nat.reduceEqDiff, reduceCtorEq, e60, e61, hm, decide_false]
   refine hQ _ ws h (fun j hj => ?_) (fun x hx => .inl hx) (Low.refl _ _) ?_
   · simp (disch := omega) only [eget_eput_ne]
   · rw [List.drop_eq_nil_of_le (by omega)]
     exact G
 | succ d ih =>
   intro i t e ws h hd hn G K e3 e6 e59 e60 e61 hQ
   obtain ⟨o, ho⟩ : ∃ o, ops[i]? = some o := ⟨_, List.getElem?_eq_getElem (by omega)⟩
   refine unroll (b3_step hT hops hp ho G K hrl hol hn hnk e3 e6 e59 e60 e61 fun e' ws' h' hs h61 hw hl G' => ?_)
   refine ih (i + 1) _ e' ws' h' (by omega) (Nat.le_trans hn hl.len) G' (opStep_ok K hops hp ho) (by rw [hs 3 (by omega)]; exact e3) (by rw [hs 6 (by omega)]; exact e6) (by rw [hs 59 (by omega)]; exact e59) (by rw [hs 60 (by omega)]; exact e60) h61 fun e2 ws2 h2 hs2 hw2 hl2 G2 => ?_
   refine hQ e2 ws2 h2 (hs.trans hs2) (fun x hx => ?_) (hl.trans hl2) ?_
   · rcases hw2 x hx with h | h
     · exact hw x h
     · exact .inr h
   · rw [drop_cons ho]
     exact G2
def sizesFrom (ops : List GOp) : Nat → Nat → Tab → Tab
 | 0, _, t => t
 | d + 1, p, t => sizesFrom ops d (p + 1) (opsFrom p ops 0 t)
theorem Low.get {n0 k : Nat} {h h' : List AE.Obj} {o : AE.Obj} (L : Low n0 h h') (hk : k < n0) (ho : h[k]? = some o) : h'[k]? = some o := by
 have e1 : (h'.take n0)[k]? = h'[k]? := by rw [List.getElem?_take, if_pos hk]
 have e2 : (h.take n0)[k]? = h[k]? := by rw [List.getElem?_take, if_pos hk]
 rw [← e1, L.take, e2, ho]
include hT in
theorem b4_loop {n0 kb : Nat} {kis : List Nat} {refs : List PV} {s : GSig} (hops : okOps s.ops s.sorts.length) (hrl : refs.length = s.ops.length) (hol : s.ops.length < 1000) (hnk : n0 ≤ kS ∧ ∀ k ∈ kis, n0 ≤ k) (hkb : kb < n0) {Q : AExit → List PV → St → Prop} :
 ∀ (d p : Nat) (t : Tab) (e : List PV) (ws : List Nat) (h : List AE.Obj), p + d = 60 → n0 ≤ h.length → Glob h kT kS kR kis S1 S2 refs t.1 t.2 → TabOK s.ops s.sorts.length t → h[kb]? = some (.row 2 [encSig s]) →
   eget e 1 = .ptr kb 0 0 1 → eget e 3 = .ptr kT 0 0 1 → eget e 6 = .int .i64 ((p + 1 : Nat) : Int) →
   (∀ e' ws' h', Same (fun j => 6 ≤ j) e e' → (∀ x ∈ ws', x ∈ ws ∨ n0 ≤ x) → Low n0 h h' → Glob h' kT kS kR kis S1 S2 refs (sizesFrom s.ops d p t).1 (sizesFrom s.ops d p t).2 → Q (.exit 2) e' { h := h', ws := ws', ups }) →
   wpC T (.loop a90b4) e { h, ws, ups } Q := by
 intro d
 induction d with
 | zero =>
   intro p t e ws h hd hn G K hb e1 e3 e6 hQ
   refine unroll ?_
   have hp : p = 60 := by omega
   subst hp
   simp (disch := first | omega | decide) only [a90b4, go_sem, ↓reduceIte, Nat.reduceEqDiff, reduceCtorEq, e6]
   refine hQ _ ws h (fun j hj => ?_) (fun x hx => .inl hx) (Low.refl _ _) G
   simp (disch := omega) only [eget_eput_ne]
 | succ d ih =>
   intro p t e ws h hd hn G K hb e1 e3 e6 hQ
   refine unroll ?_
   have hle : ((p + 1 : Nat) : Int) ≤ 60 := by omega
   have fo : loadAt false 1 (.ptr kb 0 1 1) h = some (.slice 3 (s.ops.map encOp) .any) := by simp [loadAt, hb, sub, encSig]
   simp (disch := first | omega | decide) only [a90b4, go_sem, ↓reduceIte, Nat.reduceEqDiff, reduceCtorEq, e6, hle, decide_true, e1, Nat.zero_add, fo, List.length_map]
   refine b3_loop hT (p := p) hops (by omega) hrl hol hnk s.ops.length 0 t _ ws h (by omega) hn G K ?_ ?_ ?_ ?_ ?_ ?_
   · simp (disch := omega) only [eget_eput_ne]; exact e3
   · simp (disch := omega) only [eget_eput_ne]; exact e6
   · simp (disch := omega) only [eget_eput_ne, eget_eput_same]
   · simp (disch := omega) only [eget_eput_ne, eget_eput_same]
   · simp only [eget_eput_same]; rfl
   · intro e' ws' h' hs hw hl G'
     rw [List.drop_zero] at G'
     have st : ∀ j, j < 7 → eget e' j = eget e j := fun j hj => by
      rw [hs j (by omega)]
      simp (disch := omega) only [eget_eput_ne]
     have s6 := (st 6 (by omega)).trans e6
     simp (disch := first | omega | decide) only [go_sem, ↓reduceIte, Nat.reduceEqDiff, reduceCtorEq, s6]
     refine ih (p + 1) _ _ ws' h' (by omega) (Nat.le_trans hn hl.len) G' (opsFrom_ok hops (by omega) s.ops 0 t K fun j o hj => by simpa using hj) (hl.get hkb hb) ?_ ?_ ?_ ?_
     · simp (disch := omega) only [eget_eput_ne]; rw [st 1 (by omega)]; exact e1
     · simp (disch := omega) only [eget_eput_ne]; rw [st 3 (by omega)]; exact e3
     · simp only [eget_eput_same]
     · intro e2 ws2 h2 hs2 hw2 hl2 G2
       refine hQ e2 ws2 h2 (fun j hj => ?_) (fun x hx => ?_) (hl.trans hl2) G2
       · rw [hs2 j hj]
         simp (disch := omega) only [eget_eput_ne]
         exact st j (by omega)
       · rcases hw2 x hx with h | h
         · exact hw x h
         · exact .inr h
end Go.Proofs.Tryz
/- vals.counted: the table laid, and the whole. -/
namespace Go.Proofs.Tryz
open Go Go.AE
variable {T : Tbl} (hT : Std T)
variable {h : List AE.Obj} {ws : List Nat} {ups : List (Nat × Nat)}
def zeros : List Int := List.replicate 61 0
def rest0 (o : GOp) : List (List Int) := (List.replicate (o.args.length + 1) zeros).set o.args.length (zeros.set 0 1)
def tab0 (s : GSig) : Tab := (List.replicate s.sorts.length zeros, s.ops.map rest0)
def tabOf (s : GSig) : Tab := sizesFrom s.ops 60 0 (tab0 s)
def encTab (s : GSig) : PV := .iptr (.agg [.slice 1 (s.sorts.map .str) .any, .slice 3 (s.ops.map encOp) .any, .slice 61 ((tabOf s).1.map arr) .any, .slice 1 ((tabOf s).2.map fun r => .slice 61 (r.map arr) .any) .any]) 0
structure GOk (s : GSig) : Prop where
 ops : okOps s.ops s.sorts.length
 nS : s.sorts.length < 1000
 nO : s.ops.length < 1000
theorem mk_ok {sz bytes n : Nat} {z : PV} (hn : n < 1001) (hb : bytes ≤ 1000) (hz : z.cells.length = sz) : mkslice sz bytes z (.int .i64 (n : Int)) (.int .i64 (n : Int)) = some n := by
 have h1 : bytes * n ≤ 1000 * 1000 := Nat.mul_le_mul hb (by omega)
 have h2 : (bytes : Int) * (n : Int) ≤ (room : Int) := by
  have : ((bytes * n : Nat) : Int) ≤ ((1000 * 1000 : Nat) : Int) := Int.ofNat_le.2 h1
  simp only [room]
  rw [Int.natCast_mul] at this
  omega
 dsimp only [mkslice]
 rw [if_pos ⟨by omega, rfl, by simp only [room]; omega, rfl, rfl, h2, hz⟩]
 simp
structure Lay (h0 h : List AE.Obj) (ops : List GOp) (nS i : Nat) (X Y : PV) (row : List PV) : Prop where
 take : h.take h0.length = h0
 len : h.length = h0.length + 4 + 2 * i
 hB : h[h0.length]? = some (.row 2 [.agg [X, Y]])
 hS : h[h0.length + 1]? = some (.row 61 ((List.replicate nS zeros).map arr))
 hR : h[h0.length + 2]? = some (.row 1 row)
 hT : h[h0.length + 3]? = some (.row 4 [.agg [X, Y, .aref (h0.length + 1) 61 0 nS nS, .aref (h0.length + 2) 1 0 ops.length ops.length]])
 rl : row.length = ops.length
 laid : ∀ (j : Nat) (o : GOp), j < i → ops[j]? = some o → row[j]? = some (.aref (h0.length + 5 + 2 * j) 61 0 (o.args.length + 1) (o.args.length + 1)) ∧ h[h0.length + 5 + 2 * j]? = some (.row 61 ((rest0 o).map arr))
theorem litZ : (PV.agg [.int .i64 0, .int .i64 0, .int .i64 0, .int .i64 0, .int .i64 0, .int .i64 0, .int .i64 0, .int .i64 0, .int .i64 0, .int .i64 0, .int .i64 0, .int .i64 0, .int .i64 0, .int .i64 0, .int .i64 0, .int .i64 0, .int .i64 0, .int .i64 0, .int .i64 0, .int .i64 0, .int .i64 0, .int .i64 0, .int .i64 0, .int .i64 0, .int .i64 0, .int .i64 0, .int .i64 0, .int .i64 0, .int .i64 0, .int .i64 0, .int .i64 0, .int .i64 0, .int .i64 0, .int .i64 0, .int .i64 0, .int .i64 0, .int .i64 0, .int .i64 0, .int .i64 0, .int .i64 0, .int .i64 0, .int .i64 0, .int .i64 0, .int .i64 0, .int .i64 0, .int .i64 0, .int .i64 0, .int .i64 0, .int .i64 0, .int .i64 0, .int .i64 0, .int .i64 0, .int .i64 0, .int .i64 0, .int .i64 0, .int .i64 0, .int .i64 0, .int .i64 0, .int .i64 0, .int .i64 0, .int .i64 0]) = arr zeros := rfl
theorem st_ref {k i j m n : Nat} {row : List PV} {c : PV} (hk : h[k]? = some (.row 1 row)) (hc : row[i]? = some c) (hcl : ∀ cs, c ≠ .agg cs) (hkj : k < j) :
 storeAt 1 (.ptr k i 0 row.length) (.aref j 61 0 m n) { h, ws, ups } = some { h := h.set k (.row 1 (row.set i (.aref j 61 0 m n))), ws := wadd k ws, ups := (k, j) :: ups } := by
 have hu : upd c 0 (.aref j 61 0 m n) = some (.aref j 61 0 m n) := by
  unfold upd
  split
  · exact absurd rfl (hcl _)
  · rfl
 simp only [storeAt, hk, PV.cells, List.length_cons, List.length_nil, List.all_cons, List.all_nil, PV.isCell, Bool.and_self, and_self, if_true, hc, hu, Option.map, PV.top, wrote_some, hkj, if_true]
theorem b0_step {h0 : List AE.Obj} {ops : List GOp} {nS i : Nat} {X Y : PV} {row : List PV} {o : GOp} {e : List PV} (ho : ops[i]? = some o) (hargs : o.args.length < 900) (hrow : row[i]? = some (.slice 0 [] .nil)) (L : Lay h0 h ops nS i X Y row)
 (e3 : eget e 3 = .ptr (h0.length + 3) 0 0 1) (e23 : eget e 23 = .slice 3 (ops.map encOp) .any) (e24 : eget e 24 = .int .i64 (ops.length : Int)) (e25 : eget e 25 = .int .i64 (i : Int)) (hol : ops.length < 1000) {Q : AExit → List PV → St → Prop}
 (hQ : ∀ e' ws' h' row', Same (fun j => 4 ≤ j ∧ j ≤ 5 ∨ 25 ≤ j) e e' → eget e' 25 = .int .i64 ((i + 1 : Nat) : Int) → (∀ x ∈ ws', x ∈ ws ∨ h0.length ≤ x) → Lay h0 h' ops nS (i + 1) X Y row' → (∀ j, i < j → row'[j]? = row[j]?) → Q .normal e' { h := h', ws := ws', ups := (h0.length + 2, h0.length + 5 + 2 * i) :: ups }) :
 wpC T a90b0 e { h, ws, ups } Q := by
 have hil : i < ops.length := (List.getElem?_eq_some_iff.1 ho).1
 have go : (ops.map encOp)[i]? = some (encOp o) := by simp [ho]
 have so : sub true 3 (encOp o) 0 = some (encOp o) := by simp [sub, encOp]
 have sb := st_box (h := h) (ws := ws) (ups := ups) (z := .agg [(.str ⟨#[]⟩), (.slice 0 [] .nil), (.int .i64 0)]) (sz := 3) (c := encOp o) rfl rfl rfl (by
  simp only [encOp, PV.top, tops, omax]
  have : ∀ l : List Int, tops (l.map encI) = none := fun l => by
   induction l with
   | nil => rfl
   | cons x l ih => simp [tops, encI, PV.top, ih, omax]
  rw [this]) ⟨_, rfl⟩ ⟨_, rfl⟩
 have hl := L.len
 have keep : ∀ {k : Nat} {ob : AE.Obj}, h[k]? = some ob → (h ++ [AE.Obj.row 3 [encOp o]])[k]? = some ob := fun hx => by
  rw [List.getElem?_append_left (List.getElem?_eq_some_iff.1 hx).1]; exact hx
 have fo1 : loadAt false 1 (.ptr h.length 0 1 1) (h ++ [.row 3 [encOp o]]) = some (.slice 1 (o.args.map encI) .any) := by simp [loadAt, sub, encOp]
 have f3 : loadAt false 1 (.ptr (h0.length + 3) 0 3 1) (h ++ [.row 3 [encOp o]]) = some (.aref (h0.length + 2) 1 0 ops.length ops.length) := by simp [loadAt, keep L.hT, sub]
 generalize hha : h ++ [AE.Obj.row 3 [encOp o]] = ha at *
 have hal : ha.length = h.length + 1 := by rw [← hha]; simp
 have hm : o.args.length + 1 < 1001 := by omega
 have keep2 : ∀ {k : Nat} {ob l : AE.Obj}, ha[k]? = some ob → (ha ++ [l])[k]? = some ob := fun hx => by
  rw [List.getElem?_append_left (List.getElem?_eq_some_iff.1 hx).1]; exact hx
 have hhal : ha.length = h0.length + 5 + 2 * i := by omega
 have kR : ha[h0.length + 2]? = some (.row 1 row) := keep L.hR
 have kT : ha[h0.length + 3]? = some (.row 4 [.agg [X, Y, .aref (h0.length + 1) 61 0 nS nS, .aref (h0.length + 2) 1 0 ops.length ops.length]]) := keep L.hT
 have kO : ha[h.length]? = some (.row 3 [encOp o]) := by rw [← hha]; simp
 have hrepl : List.replicate (o.args.length + 1) (arr zeros) = (List.replicate (o.args.length + 1) zeros).map arr := by simp
 generalize hhb : ha ++ [AE.Obj.row 61 ((List.replicate (o.args.length + 1) zeros).map arr)] = hb
 have kN : hb[h0.length + 5 + 2 * i]? = some (.row 61 ((List.replicate (o.args.length + 1) zeros).map arr)) := by rw [← hhb, ← hhal]; simp
 have kR2 : hb[h0.length + 2]? = some (.row 1 row) := by rw [← hhb]; exact keep2 kR
 have kT2 : hb[h0.length + 3]? = some (.row 4 [.agg [X, Y, .aref (h0.length + 1) 61 0 nS nS, .aref (h0.length + 2) 1 0 ops.length ops.length]]) := by rw [← hhb]; exact keep2 kT
 have kO2 : hb[h.length]? = some (.row 3 [encOp o]) := by rw [← hhb]; exact keep2 kO
 have sr := st_ref (ws := []) (ups := ups) (j := h0.length + 5 + 2 * i) (m := o.args.length + 1) (n := o.args.length + 1) kR2 hrow (fun cs hcs => by cases hcs) (by omega)
 rw [L.rl] at sr
 generalize hhc : hb.set (h0.length + 2) (.row 1 (row.set i (.aref (h0.length + 5 + 2 * i) 61 0 (o.args.length + 1) (o.args.length + 1)))) = hc at sr
 have kN3 : hc[h0.length + 5 + 2 * i]? = some (.row 61 ((List.replicate (o.args.length + 1) zeros).map arr)) := by rw [← hhc]; exact get_set_ne kN (by omega)
 have kR3 : hc[h0.length + 2]? = some (.row 1 (row.set i (.aref (h0.length + 5 + 2 * i) 61 0 (o.args.length + 1) (o.args.length + 1)))) := by rw [← hhc]; exact get_set kR2
 have kT3 : hc[h0.length + 3]? = some (.row 4 [.agg [X, Y, .aref (h0.length + 1) 61 0 nS nS, .aref (h0.length + 2) 1 0 ops.length ops.length]]) := by rw [← hhc]; exact get_set_ne kT2 (by omega)
 have kO3 : hc[h.length]? = some (.row 3 [encOp o]) := by rw [← hhc]; exact get_set_ne kO2 (by omega)
 have hirow : i < row.length := by rw [L.rl]; exact hil
 have f3' : loadAt false 1 (.ptr (h0.length + 3) 0 3 1) hc = some (.aref (h0.length + 2) 1 0 ops.length ops.length) := by simp [loadAt, kT3, sub]
 have fk : loadAt false 1 (.ptr (h0.length + 2) i 0 ops.length) hc = some (.aref (h0.length + 5 + 2 * i) 61 0 (o.args.length + 1) (o.args.length + 1)) := by simp [loadAt, kR3, L.rl, hil, sub]
 have fo2 : loadAt false 1 (.ptr h.length 0 1 1) hc = some (.slice 1 (o.args.map encI) .any) := by simp [loadAt, kO3, sub, encOp]
 have s2 := st_row (ws := []) (ups := (h0.length + 2, h0.length + 5 + 2 * i) :: ups) (i := o.args.length) (j := 0) (x := zeros) (v := 1) kN3 (by simp) (by simp [zeros]) (by omega)
 rw [List.length_replicate] at s2
 have hl1 : o.args.length < o.args.length + 1 := by omega
 simp (disch := first | omega | decide) only [a90b0, go_sem, ↓reduceIte, Nat.reduceEqDiff, reduceCtorEq, e24, e25, hil, decide_true, e23, go, so, sb, PV.cells, List.length_cons, List.length_nil, PV.isDef, Nat.reduceAdd, and_self, true_and, Nat.zero_add, List.length_map, hha, fo1, f3, e3, allocOp, mk_ok, litZ, hhal, hrepl, hhb, sr, f3', fk, fo2, s2, hl1, Nat.zero_mul, Nat.add_zero, Nat.zero_lt_succ]
 have chain : ∀ {k : Nat} {ob : AE.Obj}, h[k]? = some ob → k ≠ h0.length + 2 → k ≠ h0.length + 5 + 2 * i → (hc.set (h0.length + 5 + 2 * i) (.row 61 ((rest0 o).map arr)))[k]? = some ob := fun hx h1 h2 => by
  refine get_set_ne ?_ (Ne.symm h2)
  rw [← hhc]
  refine get_set_ne ?_ (Ne.symm h1)
  rw [← hhb]
  exact keep2 (keep hx)
 have hcl : hc.length = h.length + 2 := by rw [← hhc, ← hhb]; simp; omega
 refine hQ _ _ _ (row.set i (.aref (h0.length + 5 + 2 * i) 61 0 (o.args.length + 1) (o.args.length + 1))) (fun j hj => ?_) ?_ (fun x hx => ?_) ?_ (fun j hj => by rw [List.getElem?_set_ne (by omega)])
 · simp only [not_or, Nat.not_le, not_and] at hj
   simp (disch := omega) only [eget_eput_ne]
 · simp only [eget_eput_same]
 · rcases mem_wall hx with hx | hx
   · rcases mem_wadd hx with rfl | hx
     · exact .inr (by omega)
     · cases hx
   · rcases mem_wall hx with hx | hx
     · rcases mem_wadd hx with rfl | hx
       · exact .inr (by omega)
       · cases hx
     · rcases mem_wadd hx with rfl | hx
       · exact .inr (by omega)
       · exact .inl hx
 · refine ⟨?_, by simp [hcl, hl]; omega, chain L.hB (by omega) (by omega), chain L.hS (by omega) (by omega), get_set_ne kR3 (by omega), chain L.hT (by omega) (by omega), by simp [L.rl], fun j o' hj ho' => ?_⟩
   · rw [List.take_set_of_le (by omega), ← hhc, List.take_set_of_le (by omega), ← hhb, List.take_append_of_le_length (by omega), ← hha, List.take_append_of_le_length (by omega)]
     exact L.take
   · by_cases hji : j = i
     · subst hji
       rw [ho] at ho'
       cases ho'
       exact ⟨by rw [List.getElem?_set_self hirow], get_set kN3⟩
     · obtain ⟨r1, r2⟩ := L.laid j o' (by omega) ho'
       exact ⟨by rw [List.getElem?_set_ne (by omega)]; exact r1, chain r2 (by omega) (by omega)⟩
theorem b0_loop {h0 : List AE.Obj} {ops : List GOp} {nS : Nat} {X Y : PV} (hops : ∀ o ∈ ops, o.args.length < 900) (hol : ops.length < 1000) {Q : AExit → List PV → St → Prop} :
 ∀ (d i : Nat) (row : List PV) (e : List PV) (ws : List Nat) (ups : List (Nat × Nat)) (h : List AE.Obj), i + d = ops.length → Lay h0 h ops nS i X Y row → (∀ j, i ≤ j → j < ops.length → row[j]? = some (.slice 0 [] .nil)) →
   eget e 3 = .ptr (h0.length + 3) 0 0 1 → eget e 23 = .slice 3 (ops.map encOp) .any → eget e 24 = .int .i64 (ops.length : Int) → eget e 25 = .int .i64 (i : Int) →
   (∀ e' ws' ups' h' row', Same (fun j => 4 ≤ j ∧ j ≤ 5 ∨ 25 ≤ j) e e' → (∀ x ∈ ws', x ∈ ws ∨ h0.length ≤ x) → (∀ x ∈ ups', x ∈ ups ∨ h0.length ≤ x.1) → Lay h0 h' ops nS ops.length X Y row' → Q (.exit 0) e' { h := h', ws := ws', ups := ups' }) →
   wpC T (.loop a90b0) e { h, ws, ups } Q := by
 intro d
 induction d with
 | zero =>
   intro i row e ws ups h hd L hn e3 e23 e24 e25 hQ
   refine unroll ?_
   have hm : ¬ (i < ops.length) := by omega
   simp (disch := first | omega | decide) only [a90b0, go_sem, ↓reduceIte, Nat.reduceEqDiff, reduceCtorEq, e24, e25, hm, decide_false]
   have : i = ops.length := by omega
   subst this
   refine hQ _ ws ups h row (fun j hj => ?_) (fun x hx => .inl hx) (fun x hx => .inl hx) L
   simp (disch := omega) only [eget_eput_ne]
 | succ d ih =>
   intro i row e ws ups h hd L hn e3 e23 e24 e25 hQ
   obtain ⟨o, ho⟩ : ∃ o, ops[i]? = some o := ⟨_, List.getElem?_eq_getElem (by omega)⟩
   refine unroll (b0_step ho (hops o (List.mem_of_getElem? ho)) (hn i (Nat.le_refl _) (by omega)) L e3 e23 e24 e25 hol fun e' ws' h' row' hs h25 hw L' hr => ?_)
   refine ih (i + 1) row' e' ws' _ h' (by omega) L' (fun j h1 h2 => by rw [hr j (by omega)]; exact hn j (by omega) h2) (by rw [hs 3 (by omega)]; exact e3) (by rw [hs 23 (by omega)]; exact e23) (by rw [hs 24 (by omega)]; exact e24) h25 fun e2 ws2 ups2 h2 row2 hs2 hw2 hu2 L2 => ?_
   refine hQ e2 ws2 ups2 h2 row2 (hs.trans hs2) (fun x hx => ?_) (fun x hx => ?_) L2
   · rcases hw2 x hx with h | h
     · exact hw x h
     · exact .inr h
   · rcases hu2 x hx with h | h
     · rcases List.mem_cons.1 h with rfl | h
       · exact .inr (by simp)
       · exact .inl h
     · exact .inr h
theorem optAll_map {α : Type} {f : α → Option PV} {g : α → PV} : ∀ {l : List α}, (∀ x ∈ l, f x = some (g x)) → optAll (l.map f) = some (l.map g)
 | [], _ => rfl
 | x :: l, h => by
   simp only [List.map_cons, h x (by simp), optAll, optAll_map (l := l) fun y hy => h y (by simp [hy]), Option.map]
theorem frz_pure {n0 n : Nat} {p : PV} (hp : p.pure = true) : frz h n0 (n + 1) p = some p.weak := by simp [frz, hp]
theorem pures_int (l : List Int) : pures (l.map encI) = true ∧ weaks (l.map encI) = l.map encI := by
 induction l with
 | nil => exact ⟨rfl, rfl⟩
 | cons x l ih => simp [pures, weaks, encI, PV.pure, PV.weak] at ih ⊢; exact ih
theorem arr_pure (x : List Int) : (arr x).pure = true ∧ (arr x).weak = arr x := by
 simp only [arr, PV.pure, PV.weak]
 exact ⟨(pures_int x).1, by rw [(pures_int x).2]⟩
theorem frz_rows {n0 n k : Nat} {r : List (List Int)} (hk : h[k]? = some (.row 61 (r.map arr))) (hn : n0 ≤ k) : frz h n0 (n + 2) (.aref k 61 0 r.length r.length) = some (.slice 61 (r.map arr) .any) := by
 have h1 : ¬ (k < n0) := by omega
 have h2 : optAll (((((r.map arr).drop 0).take r.length)).map (frz h n0 (n + 1))) = some (r.map arr) := by
  have : ((r.map arr).drop 0).take r.length = r.map arr := by rw [List.drop_zero, List.take_of_length_le (by simp)]
  rw [this, List.map_map]
  exact optAll_map (g := arr) fun x _ => by
   show frz h n0 (n + 1) (arr x) = _
   rw [frz_pure (arr_pure x).1, (arr_pure x).2]
 rw [frz]
 simp only [PV.pure, Bool.false_eq_true, if_false, if_neg h1, hk, List.length_map, Nat.zero_add, Nat.le_refl, and_self, if_true]
 rw [h2]
 rfl
theorem tidy_tab {h0 : List AE.Obj} {kT kS kR : Nat} {kis : List Nat} {X Y : PV} {refs : List PV} {so : List (List Int)} {rest : List (List (List Int))} (G : Glob h kT kS kR kis X Y refs so rest) (hX : X.pure = true ∧ X.weak = X) (hY : Y.pure = true ∧ Y.weak = Y)
 (ht : h.take h0.length = h0) (hT : h0.length ≤ kT) (hS : h0.length ≤ kS) (hR : h0.length ≤ kR) (hk : ∀ k ∈ kis, h0.length ≤ k) (hw : ∀ x ∈ ws, h0.length ≤ x) (hu : ∀ x ∈ ups, h0.length ≤ x.1) :
 tidy 0 h0.length (.val (.ptr kT 0 0 1)) { h, ws, ups } = (.val (.iptr (.agg [X, Y, .slice 61 (so.map arr) .any, .slice 1 (rest.map fun r => .slice 61 (r.map arr) .any) .any]) 0), { h := h0, ws := [], ups := [] }) := by
 have hR2 : ∀ n, optAll (((((refs).drop 0).take refs.length)).map (frz h h0.length (n + 2))) = some (rest.map fun r => .slice 61 (r.map arr) .any) := fun n => by
  have e1 : (refs.drop 0).take refs.length = refs := by simp
  rw [e1]
  have e2 : ∀ (kis : List Nat) (rest : List (List (List Int))), kis.length = rest.length → (∀ (i k : Nat) (r : List (List Int)), kis[i]? = some k → rest[i]? = some r → h[k]? = some (.row 61 (r.map arr))) → (∀ k ∈ kis, h0.length ≤ k) →
   optAll ((refsOf kis rest).map (frz h h0.length (n + 2))) = some (rest.map fun r => .slice 61 (r.map arr) .any) := by
   intro kis
   induction kis with
   | nil =>
     intro rest hl _ _
     cases rest with
     | nil => rfl
     | cons => simp at hl
   | cons k kis ih =>
     intro rest hl hr hk
     cases rest with
     | nil => simp at hl
     | cons r rest =>
       have h1 := frz_rows (n0 := h0.length) (n := n) (hr 0 k r rfl rfl) (hk k (by simp))
       have h2 := ih rest (by simpa using hl) (fun i k' r' a b => hr (i + 1) k' r' (by simpa using a) (by simpa using b)) (fun k' hk' => hk k' (by simp [hk']))
       simp only [refsOf] at h2
       simp only [refsOf, List.zipWith_cons_cons, List.map_cons, h1, optAll, h2, Option.map]
  rw [G.refs]
  exact e2 kis rest G.len G.rows hk
 have fS := frz_rows (n0 := h0.length) (n := 60) G.hS hS
 have fR : frz h h0.length 62 (.aref kR 1 0 refs.length refs.length) = some (.slice 1 (rest.map fun r => .slice 61 (r.map arr) .any) .any) := by
  have h1 : ¬ (kR < h0.length) := by omega
  rw [frz]
  simp only [PV.pure, Bool.false_eq_true, if_false, if_neg h1, G.hR, Nat.zero_add, Nat.le_refl, and_self, if_true]
  rw [hR2 59]
  rfl
 have fA : frz h h0.length 63 (.agg [X, Y, .aref kS 61 0 so.length so.length, .aref kR 1 0 refs.length refs.length]) = some (.agg [X, Y, .slice 61 (so.map arr) .any, .slice 1 (rest.map fun r => .slice 61 (r.map arr) .any) .any]) := by
  rw [frz]
  simp only [PV.pure, pures, Bool.false_and, Bool.and_false, Bool.false_eq_true, if_false, List.map_cons, List.map_nil, frz_pure hX.1, frz_pure hY.1, hX.2, hY.2, fS, fR, optAll, Option.map]
 have fP : frz h h0.length 64 (.ptr kT 0 0 1) = some (.iptr (.agg [X, Y, .slice 61 (so.map arr) .any, .slice 1 (rest.map fun r => .slice 61 (r.map arr) .any) .any]) 0) := by
  have h1 : ¬ (kT < h0.length) := by omega
  rw [frz]
  simp only [PV.pure, Bool.false_eq_true, if_false, if_neg h1, G.hT, List.length_cons, List.length_nil, Nat.zero_add, if_true, List.getElem?_cons_zero, fA, Option.map]
 have hb : below h0.length ws = [] := List.filter_eq_nil_iff.2 fun k hk => by have := hw k hk; simp; omega
 have hua : (ups.any fun (k, j) => k < h0.length && h0.length ≤ j) = false := by
  rw [List.any_eq_false]
  rintro ⟨k, j⟩ hx
  have := hu _ hx
  simp at this ⊢
  omega
 have huf : ups.filter (fun (k, _) => k < h0.length) = [] := List.filter_eq_nil_iff.2 fun x hx => by have := hu x hx; simp; omega
 unfold tidy
 rw [if_neg (by decide), if_neg (by simpa using hua)]
 simp only [OR.v, fP, hb, huf, ht, OR.put]
 rfl
theorem enc_pure (s : GSig) : ((PV.slice 1 (s.sorts.map .str) .any).pure = true ∧ (PV.slice 1 (s.sorts.map .str) .any).weak = .slice 1 (s.sorts.map .str) .any) ∧ (PV.slice 3 (s.ops.map encOp) .any).pure = true ∧ (PV.slice 3 (s.ops.map encOp) .any).weak = .slice 3 (s.ops.map encOp) .any := by
 have h1 : ∀ l : List ByteArray, pures (l.map .str) = true ∧ weaks (l.map .str) = l.map .str := fun l => by
  induction l with
  | nil => exact ⟨rfl, rfl⟩
  | cons x l ih => simp [pures, weaks, PV.pure, PV.weak] at ih ⊢; exact ih
 have hp : ∀ x : GOp, (encOp x).pure = true ∧ (encOp x).weak = encOp x := fun x => by
  obtain ⟨a, b⟩ := pures_int x.args
  refine ⟨?_, ?_⟩
  · simp only [encOp, PV.pure, pures, a, Bool.and_self]
  · simp only [encOp, PV.weak, weaks, b]
 have h2 : ∀ l : List GOp, pures (l.map encOp) = true ∧ weaks (l.map encOp) = l.map encOp := fun l => by
  induction l with
  | nil => exact ⟨rfl, rfl⟩
  | cons x l ih => simp only [List.map_cons, pures, weaks, (hp x).1, (hp x).2, ih.1, ih.2, Bool.and_self, and_self]
 refine ⟨⟨(h1 _).1, ?_⟩, (h2 _).1, ?_⟩
 · simp only [PV.weak, (h1 _).2]
 · simp only [PV.weak, (h2 _).2]
theorem okRow_zeros : okRow zeros := ⟨by simp [zeros], fun v hv => by
 simp [zeros] at hv
 omega⟩
theorem tab0_ok (s : GSig) : TabOK s.ops s.sorts.length (tab0 s) := by
 refine ⟨fun x hx => ?_, by simp [tab0], by simp [tab0], fun i o r ho hr => ?_⟩
 · simp [tab0] at hx
   rw [hx.2]
   exact okRow_zeros
 · simp [tab0, ho] at hr
   subst hr
   refine ⟨fun x hx => ?_, by simp [rest0]⟩
   unfold rest0 at hx
   rcases List.mem_or_eq_of_mem_set hx with h' | rfl
   · rw [List.mem_replicate] at h'
     rw [h'.2]
     exact okRow_zeros
   · exact okRow_zeros.set ⟨by omega, by omega⟩
theorem Lay.glob {h0 : List AE.Obj} {s : GSig} {X Y : PV} {row : List PV} (L : Lay h0 h s.ops s.sorts.length s.ops.length X Y row) :
 Glob h (h0.length + 3) (h0.length + 1) (h0.length + 2) ((List.range s.ops.length).map fun j => h0.length + 5 + 2 * j) X Y row (tab0 s).1 (tab0 s).2 := by
 have hget : ∀ (i k : Nat), ((List.range s.ops.length).map fun j => h0.length + 5 + 2 * j)[i]? = some k → i < s.ops.length ∧ k = h0.length + 5 + 2 * i := fun i k hk => by
  simp only [List.getElem?_map, Option.map_eq_some_iff] at hk
  obtain ⟨j, hj, rfl⟩ := hk
  obtain ⟨hi, hij⟩ := List.getElem?_eq_some_iff.1 hj
  simp at hi hij
  subst hij
  exact ⟨hi, rfl⟩
 refine ⟨by simpa [tab0, L.rl] using L.hT, by simpa [tab0] using L.hS, L.hR, ?_, fun i k r hk hr => ?_, by simp [tab0], fun i j k hi hj => ?_, ⟨by omega, by omega, by omega, fun k hk => ?_⟩⟩
 · apply List.ext_getElem?
   intro i
   by_cases hi : i < s.ops.length
   · obtain ⟨o, ho⟩ : ∃ o, s.ops[i]? = some o := ⟨_, List.getElem?_eq_getElem hi⟩
     rw [(L.laid i o hi ho).1]
     have hk : ((List.range s.ops.length).map fun j => h0.length + 5 + 2 * j)[i]? = some (h0.length + 5 + 2 * i) := by simp [hi]
     rw [refsOf, List.getElem?_zipWith, hk]
     simp [tab0, ho, rest0]
   · rw [List.getElem?_eq_none (by rw [L.rl]; omega), List.getElem?_eq_none (by simp [refsOf, tab0]; omega)]
 · obtain ⟨hi, rfl⟩ := hget i k hk
   obtain ⟨o, ho⟩ : ∃ o, s.ops[i]? = some o := ⟨_, List.getElem?_eq_getElem hi⟩
   simp [tab0, ho] at hr
   subst hr
   exact (L.laid i o hi ho).2
 · have h1 := (hget i k hi).2
   have h2 := (hget j k hj).2
   omega
 · obtain ⟨j, _, rfl⟩ := List.mem_map.1 hk
   omega
include hT in
theorem counted_ev {s : GSig} (hs : GOk s) {h : List AE.Obj} : Ev T 90 [encSig s] h (.val (encTab s), { h, ws := [], ups := [] }) := by
 refine Ev.walk (hT.sp _ (by decide)) ((hT.fn _).trans fn90) (hT.mode _) rfl ?_
 have hnS := hs.nS
 have hnO := hs.nO
 have hX : encSig s = .agg [.slice 1 (s.sorts.map .str) .any, .slice 3 (s.ops.map encOp) .any] := rfl
 obtain ⟨pX, pY⟩ := enc_pure s
 rw [hX]
 generalize hXX : PV.slice 1 (s.sorts.map .str) .any = X at pX
 generalize hYY : PV.slice 3 (s.ops.map encOp) .any = Y at pY
 have lX : lenOf X = some s.sorts.length := by rw [← hXX]; simp [lenOf]
 have lY : lenOf Y = some s.ops.length := by rw [← hYY]; simp [lenOf]
 have fA : loadAt true 2 (.ptr h.length 0 0 1) (h ++ [.row 2 [.agg [X, Y]]]) = some (.agg [X, Y]) := by simp [loadAt, sub]
 have f0 : loadAt false 1 (.ptr h.length 0 0 1) (h ++ [.row 2 [.agg [X, Y]]]) = some X := by simp [loadAt, sub]
 have f1 : ∀ l, loadAt false 1 (.ptr h.length 0 1 1) (h ++ .row 2 [.agg [X, Y]] :: l) = some Y := fun l => by simp [loadAt, sub]
 have cX : X.cells = [X] ∧ X.isDef = true := by rw [← hXX]; exact ⟨rfl, rfl⟩
 have cY : Y.cells = [Y] ∧ Y.isDef = true := by rw [← hYY]; exact ⟨rfl, rfl⟩
 have ff : ∀ A B C D : Nat, fillC [PV.slice 0 [] .nil, .slice 0 [] .nil, .slice 0 [] .nil, .slice 0 [] .nil] [(0, 2, .agg [X, Y]), (2, 1, .aref A 61 0 B B), (3, 1, .aref C 1 0 D D)] = some [X, Y, .aref A 61 0 B B, .aref C 1 0 D D] := fun A B C D => by
  simp [fillC, PV.cells, PV.isDef]
 simp (disch := first | omega | decide) only [go_sem, ↓reduceIte, Nat.reduceEqDiff, reduceCtorEq, PV.cells, List.length_cons, List.length_nil, PV.isDef, Nat.reduceAdd, and_self, true_and, Nat.zero_add, List.length_map, allocOp, fA, f0, f1, lX, lY, mk_ok, List.append_assoc, List.length_append, litZ, ff]
 have L0 : Lay h (h ++ [.row 2 [.agg [X, Y]], .row 61 (List.replicate s.sorts.length (arr zeros)), .row 1 (List.replicate s.ops.length (.slice 0 [] .nil)), .row 4 [.agg [X, Y, .aref (h.length + 1) 61 0 s.sorts.length s.sorts.length, .aref (h.length + 2) 1 0 s.ops.length s.ops.length]]]) s.ops s.sorts.length 0 X Y (List.replicate s.ops.length (.slice 0 [] .nil)) := by
  refine ⟨by simp, by simp, by simp, by simp, by simp, by simp, by simp, fun j o hj => by omega⟩
 refine b0_loop (fun o ho => (hs.ops o ho).2.2) hnO s.ops.length 0 _ _ _ _ _ (by omega) L0 (fun j _ hj => by simp [hj]) ?_ ?_ ?_ ?_ fun e' ws' ups' h' row' hse hw hu L' => ?_
 · simp (disch := omega) only [eget_eput_ne, eget_eput_same]
 · simp (disch := omega) only [eget_eput_ne, eget_eput_same]; exact hYY.symm
 · simp (disch := omega) only [eget_eput_ne, eget_eput_same]
 · simp only [eget_eput_same]; rfl
 have s1 : eget e' 1 = .ptr h.length 0 0 1 := by
  rw [hse 1 (by omega)]
  simp (disch := omega) only [eget_eput_ne, eget_eput_same]
 have s3 : eget e' 3 = .ptr (h.length + 3) 0 0 1 := by
  rw [hse 3 (by omega)]
  simp (disch := omega) only [eget_eput_ne, eget_eput_same]
 simp (disch := first | omega | decide) only [go_sem, ↓reduceIte, Nat.reduceEqDiff, reduceCtorEq]
 have hkis : ∀ k ∈ (List.range s.ops.length).map fun j => h.length + 5 + 2 * j, h.length + 1 ≤ k := fun k hk => by
  obtain ⟨j, _, rfl⟩ := List.mem_map.1 hk
  omega
 refine b4_loop hT (n0 := h.length + 1) (kb := h.length) hs.ops (by rw [L'.rl]) hnO ⟨Nat.le_refl _, hkis⟩ (by omega) 60 0 (tab0 s) _ ws' h' (by omega) (by rw [L'.len]; omega) L'.glob (tab0_ok s) (by rw [L'.hB, hX, hXX, hYY]) ?_ ?_ ?_ fun e2 ws2 h2 hs2 hw2 hl2 G2 => ?_
 · simp (disch := omega) only [eget_eput_ne]; exact s1
 · simp (disch := omega) only [eget_eput_ne]; exact s3
 · simp only [eget_eput_same]; rfl
 have t3 : eget e2 3 = .ptr (h.length + 3) 0 0 1 := by
  rw [hs2 3 (by omega)]
  simp (disch := omega) only [eget_eput_ne]; exact s3
 simp (disch := first | omega | decide) only [go_sem, ↓reduceIte, Nat.reduceEqDiff, reduceCtorEq, t3]
 have ht : h2.take h.length = h := by
  have h1 : (h2.take (h.length + 1)).take h.length = (h'.take (h.length + 1)).take h.length := by rw [hl2.take]
  rw [List.take_take, List.take_take] at h1
  rw [show min h.length (h.length + 1) = h.length by omega] at h1
  rw [h1, L'.take]
 rw [tidy_tab G2 pX pY ht (by omega) (by omega) (by omega) (fun k hk => by have := hkis k hk; omega) (fun x hx => ?_) (fun x hx => ?_)]
 · subst hXX hYY
   rfl
 · rcases hw2 x hx with h | h
   · rcases hw x h with h | h
     · cases h
     · exact h
   · omega
 · rcases hu x hx with h | h
   · simp at h
   · exact h
end Go.Proofs.Tryz
/- What the table of counts satisfies: the rest of each operation is a sum that is told as at most MaxCount. -/
namespace Go.Proofs.Tryz
open Go Go.AE
theorem inner_congr {xs xs' x1 x1' : List Int} {p : Nat} : ∀ (d m : Nat) (v : Int), (∀ j, m ≤ j → j < m + d → xs.getD j 0 = xs'.getD j 0) → (∀ j, m ≤ j → j < m + d → x1.getD (p - j) 0 = x1'.getD (p - j) 0) → inner xs x1 p d m v = inner xs' x1' p d m v
 | 0, _, _, _, _ => rfl
 | d + 1, m, v, h1, h2 => by
   simp only [inner]
   rw [h1 m (by omega) (by omega), h2 m (by omega) (by omega)]
   exact inner_congr d (m + 1) _ (fun j a b => h1 j (by omega) (by omega)) (fun j a b => h2 j (by omega) (by omega))
theorem getD_set {α : Type} {l : List α} {i j : Nat} {x d : α} (hi : i < l.length) : (l.set i x).getD j d = if i = j then x else l.getD j d := by
 simp only [List.getD_eq_getElem?_getD, List.getElem?_set]
 by_cases h : i = j
 · subst h; simp [hi]
 · simp [h]
theorem getD_set_ne {α : Type} {l : List α} {i j : Nat} {x d : α} (h : i ≠ j) : (l.set i x).getD j d = l.getD j d := by
 simp only [List.getD_eq_getElem?_getD, List.getElem?_set, h, if_false]
theorem rowsDown_get {so : List (List Int)} {args : List Int} {p : Nat} : ∀ (K : Nat) (ri : List (List Int)), K < ri.length → ∀ k, (rowsDown so args p K ri).getD k [] =
 if k < K then (ri.getD k []).set p (inner (so.getD (args.getD k 0).toNat []) ((rowsDown so args p K ri).getD (k + 1) []) p p 1 ((ri.getD k []).getD p 0)) else ri.getD k []
 | 0, ri, _, k => by simp [rowsDown]
 | K + 1, ri, hK, k => by
   have hl : K < (rowStep so args p ri K).length := by simp [rowStep]; omega
   have ih := rowsDown_get (so := so) (args := args) (p := p) K (rowStep so args p ri K) hl
   simp only [rowsDown]
   by_cases h1 : k < K
   · rw [ih k, if_pos h1, if_pos (by omega)]
     have e : (rowStep so args p ri K).getD k [] = ri.getD k [] := by unfold rowStep; exact getD_set_ne (by omega)
     rw [e]
   · rw [ih k, if_neg h1]
     by_cases h2 : k = K
     · subst h2
       rw [if_pos (by omega), ih (k + 1), if_neg (by omega)]
       have e : (rowStep so args p ri k).getD (k + 1) [] = ri.getD (k + 1) [] := by unfold rowStep; exact getD_set_ne (by omega)
       rw [e]
       unfold rowStep
       rw [getD_set (by omega), if_pos rfl]
     · rw [if_neg (by omega)]
       unfold rowStep
       exact getD_set_ne (by omega)
def Eqn (t : Tab) (i : Nat) (o : GOp) (k q : Nat) : Prop := ((t.2.getD i []).getD k []).getD q 0 = inner (t.1.getD (o.args.getD k 0).toNat []) ((t.2.getD i []).getD (k + 1) []) q q 1 0
structure Sem (ops : List GOp) (t : Tab) (done : Nat → Nat) : Prop where
 last : ∀ i o, ops[i]? = some o → (t.2.getD i []).getD o.args.length [] = zeros.set 0 1
 eq : ∀ i o k q, ops[i]? = some o → k < o.args.length → q < done i → Eqn t i o k q
 zero : ∀ i o k q, ops[i]? = some o → k < o.args.length → done i ≤ q → ((t.2.getD i []).getD k []).getD q 0 = 0
theorem opStep_sem {ops : List GOp} {nS p i : Nat} {t : Tab} {o : GOp} {done : Nat → Nat} (K : TabOK ops nS t) (hops : okOps ops nS) (hp : p < 60) (ho : ops[i]? = some o) (S : Sem ops t done) (hd : done i = p) (hle : ∀ j, done j ≤ p + 1) :
 Sem ops (opStep p t i o) (fun j => if j = i then p + 1 else done j) := by
 have hi : i < t.2.length := by rw [K.len]; exact (List.getElem?_eq_some_iff.1 ho).1
 have e1 : t.2[i]? = some (t.2.getD i []) := by
  rw [List.getD_eq_getElem?_getD, List.getElem?_eq_getElem hi]; rfl
 obtain ⟨q1, q2⟩ := K.rows i o _ ho e1
 have hs : ∀ r j, j ≠ p + 1 → ((opStep p t i o).1.getD r []).getD j 0 = (t.1.getD r []).getD j 0 := fun r j hj => by
  simp only [opStep]
  by_cases hr : o.res.toNat = r
  · subst hr
    by_cases hl : o.res.toNat < t.1.length
    · rw [getD_set hl, if_pos rfl, getD_set_ne (by omega)]
    · rw [List.set_eq_of_length_le (by omega)]
  · rw [getD_set_ne hr]
 have hne : ∀ j, j ≠ i → (opStep p t i o).2.getD j [] = t.2.getD j [] := fun j hj => by
  simp only [opStep]
  exact getD_set_ne (by omega)
 have hsame : (opStep p t i o).2.getD i [] = rowsDown t.1 o.args p o.args.length (t.2.getD i []) := by
  simp only [opStep]
  rw [getD_set hi, if_pos rfl]
 have hrow := rowsDown_get (so := t.1) (args := o.args) (p := p) o.args.length (t.2.getD i []) (by omega)
 generalize hri : rowsDown t.1 o.args p o.args.length (t.2.getD i []) = ri at hsame hrow
 have hoff : ∀ k q, q ≠ p → (ri.getD k []).getD q 0 = ((t.2.getD i []).getD k []).getD q 0 := fun k q hq => by
  rw [hrow k]
  split
  · exact getD_set_ne (by omega)
  · rfl
 refine ⟨fun j o' ho' => ?_, fun j o' k q ho' hk hq => ?_, fun j o' k q ho' hk hq => ?_⟩
 · by_cases hj : j = i
   · subst hj
     rw [ho] at ho'
     cases ho'
     rw [hsame, hrow, if_neg (by omega)]
     exact S.last _ _ ho
   · rw [hne j hj]; exact S.last _ _ ho'
 · by_cases hj : j = i
   · subst hj
     rw [ho] at ho'
     cases ho'
     simp only [if_true] at hq
     unfold Eqn
     rw [hsame]
     by_cases hqp : q = p
     · subst hqp
       have h0 := S.zero j o k q ho hk (by omega)
       have hlen := (q1.get (k := k) (by omega)).2.1
       have e : (ri.getD k []).getD q 0 = inner (t.1.getD (o.args.getD k 0).toNat []) (ri.getD (k + 1) []) q q 1 (((t.2.getD j []).getD k []).getD q 0) := by
        rw [hrow k, if_pos hk, getD_set (by omega), if_pos rfl]
       rw [e, h0]
       exact inner_congr _ _ _ (fun m a b => (hs _ _ (by omega)).symm) (fun m a b => rfl)
     · rw [hoff k q hqp, S.eq j o k q ho hk (by omega)]
       exact inner_congr _ _ _ (fun m a b => (hs _ _ (by omega)).symm) (fun m a b => (hoff _ _ (by omega)).symm)
   · have hq' : q < done j := by simpa [hj] using hq
     have := hle j
     unfold Eqn
     rw [hne j hj, S.eq j o' k q ho' hk hq']
     exact inner_congr _ _ _ (fun m a b => (hs _ _ (by omega)).symm) (fun m a b => rfl)
 · by_cases hj : j = i
   · subst hj
     rw [ho] at ho'
     cases ho'
     simp only [if_true] at hq
     rw [hsame, hoff k q (by omega)]
     exact S.zero _ _ _ _ ho hk (by omega)
   · rw [hne j hj]
     exact S.zero _ _ _ _ ho' hk (by simpa [hj] using hq)
theorem opsFrom_sem {ops : List GOp} {nS p : Nat} (hops : okOps ops nS) (hp : p < 60) : ∀ (os : List GOp) (i : Nat) (t : Tab), TabOK ops nS t → (∀ j o, os[j]? = some o → ops[i + j]? = some o) → os.length + i = ops.length →
 Sem ops t (fun j => if j < i then p + 1 else p) → Sem ops (opsFrom p os i t) (fun _ => p + 1) ∧ TabOK ops nS (opsFrom p os i t)
 | [], i, t, h, _, hl, S => by
   refine ⟨⟨S.last, fun j o k q ho hk hq => S.eq j o k q ho hk ?_, fun j o k q ho hk hq => S.zero j o k q ho hk ?_⟩, h⟩
   · have := (List.getElem?_eq_some_iff.1 ho).1
     simp at hl
     rw [if_pos (by omega)]; exact hq
   · have := (List.getElem?_eq_some_iff.1 ho).1
     simp at hl
     rw [if_pos (by omega)]; exact hq
 | o :: os, i, t, h, ho, hl, S => by
   have h0 := ho 0 o rfl
   have S' := opStep_sem h hops hp (by simpa using h0) S (by simp) (fun j => by split <;> omega)
   refine opsFrom_sem hops hp os (i + 1) _ (opStep_ok h hops hp (by simpa using h0)) (fun j o' hj => ?_) (by simp at hl; omega) ?_
   · have := ho (j + 1) o' (by simpa using hj)
     rw [show i + 1 + j = i + (j + 1) by omega]
     exact this
   · refine ⟨S'.last, fun j o k q ho hk hq => S'.eq j o k q ho hk ?_, fun j o k q ho hk hq => S'.zero j o k q ho hk ?_⟩
     · split at hq <;> (repeat' split) <;> omega
     · split at hq <;> (repeat' split) <;> omega
theorem sizesFrom_sem {ops : List GOp} {nS : Nat} (hops : okOps ops nS) : ∀ (d p : Nat) (t : Tab), p + d = 60 → TabOK ops nS t → Sem ops t (fun _ => p) → Sem ops (sizesFrom ops d p t) (fun _ => 60) ∧ TabOK ops nS (sizesFrom ops d p t)
 | 0, p, t, hd, h, S => by
   have : p = 60 := by omega
   subst this
   exact ⟨S, h⟩
 | d + 1, p, t, hd, h, S => by
   obtain ⟨S', h'⟩ := opsFrom_sem hops (p := p) (by omega) ops 0 t h (fun j o hj => by simpa using hj) (by simp) (by simpa using S)
   exact sizesFrom_sem hops d (p + 1) _ (by omega) h' S'
theorem tab0_sem (s : GSig) : Sem s.ops (tab0 s) (fun _ => 0) := by
 refine ⟨fun i o ho => ?_, fun i o k q ho hk hq => by omega, fun i o k q ho hk _ => ?_⟩
 · have e : (tab0 s).2.getD i [] = rest0 o := by simp [tab0, List.getD_eq_getElem?_getD, ho]
   rw [e]
   unfold rest0
   rw [getD_set (by simp), if_pos rfl]
 · have e : (tab0 s).2.getD i [] = rest0 o := by simp [tab0, List.getD_eq_getElem?_getD, ho]
   rw [e]
   unfold rest0
   rw [getD_set_ne (by omega)]
   have : (List.replicate (o.args.length + 1) zeros).getD k [] = zeros := by
    simp only [List.getD_eq_getElem?_getD, List.getElem?_replicate]
    rw [if_pos (by omega)]; rfl
   rw [this]
   simp only [zeros, List.getD_eq_getElem?_getD, List.getElem?_replicate]
   split <;> rfl
theorem tabOf_sem {s : GSig} (hs : okOps s.ops s.sorts.length) : Sem s.ops (tabOf s) (fun _ => 60) ∧ TabOK s.ops s.sorts.length (tabOf s) :=
 sizesFrom_sem hs 60 0 (tab0 s) (by omega) (tab0_ok s) (tab0_sem s)
theorem cap_le (x : Int) : cap x ≤ x := by unfold cap; omega
theorem cap_mono {x y : Int} (h : x ≤ y) : cap x ≤ cap y := by unfold cap; omega
theorem cap_add {x y : Int} (hx : 0 ≤ x) (hy : 0 ≤ y) : cap (x + y) ≤ cap x + cap y := by unfold cap; omega
theorem cap_mul {x y : Int} (hy : 0 ≤ y) : cap (x * y) ≤ cap (cap x * y) := by
 by_cases hx : x ≤ 1099511627776
 · rw [show cap x = x by unfold cap; omega]; exact Int.le_refl _
 · rw [show cap x = 1099511627776 by unfold cap; omega]
   by_cases h0 : y = 0
   · subst h0; simp
   · have : 1099511627776 * 1 ≤ 1099511627776 * y := Int.mul_le_mul_of_nonneg_left (by omega) (by omega)
     unfold cap
     omega
def sumP (ahead : Int) (xs x1 : List Int) (p : Nat) : Nat → Nat → Int
 | 0, _ => 0
 | d + 1, m => cap (cap (ahead * xs.getD m 0) * x1.getD (p - m) 0) + sumP ahead xs x1 p d (m + 1)
theorem inner_sumP {ahead : Int} {xs x1 : List Int} {p : Nat} (ha : 0 ≤ ahead) (hs : ∀ j, 0 ≤ xs.getD j 0) (h1 : ∀ j, 0 ≤ x1.getD j 0) : ∀ (d m : Nat) (v : Int), 0 ≤ v → cap (ahead * inner xs x1 p d m v) ≤ cap (ahead * v) + sumP ahead xs x1 p d m
 | 0, m, v, _ => by simp [inner, sumP]
 | d + 1, m, v, hv => by
   have hxy : 0 ≤ xs.getD m 0 * x1.getD (p - m) 0 := Int.mul_nonneg (hs _) (h1 _)
   have ih := inner_sumP (p := p) ha hs h1 d (m + 1) (min (v + min (xs.getD m 0 * x1.getD (p - m) 0) 1099511627776) 1099511627776) (by omega)
   simp only [inner, sumP]
   generalize hw : xs.getD m 0 * x1.getD (p - m) 0 = w at *
   have b1 : cap (ahead * min (v + min w 1099511627776) 1099511627776) ≤ cap (ahead * v + ahead * w) := by
    refine cap_mono ?_
    rw [← Int.mul_add]
    exact Int.mul_le_mul_of_nonneg_left (by omega) ha
   have b2 := cap_add (Int.mul_nonneg ha hv) (Int.mul_nonneg ha hxy)
   have b3 : cap (ahead * w) ≤ cap (cap (ahead * xs.getD m 0) * x1.getD (p - m) 0) := by
    rw [← hw, ← Int.mul_assoc]
    exact cap_mul (h1 _)
   omega
theorem okRow.nonneg {x : List Int} (h : okRow x) (j : Nat) : 0 ≤ x.getD j 0 := by
 by_cases hj : j < 61
 · exact (h.get hj).2.1
 · rw [List.getD_eq_getElem?_getD, List.getElem?_eq_none (by rw [h.1]; omega)]; decide
theorem okRow.le {x : List Int} (h : okRow x) (j : Nat) : x.getD j 0 ≤ 1099511627776 := by
 by_cases hj : j < 61
 · exact (h.get hj).2.2
 · rw [List.getD_eq_getElem?_getD, List.getElem?_eq_none (by rw [h.1]; omega)]; decide
end Go.Proofs.Tryz
/- Numbers of lists: told by sizes first, then by the numbers of the elements; all told as at most MaxCount. No program in sight. -/
namespace Go.Proofs.Tryz
open Go Go.AE
theorem cap_cap_add {x y : Int} (hy : 0 ≤ y) : cap (cap x + y) = cap (x + y) := by unfold cap; omega
theorem cap_add_cap {x y : Int} (hx : 0 ≤ x) : cap (x + cap y) = cap (x + y) := by unfold cap; omega
theorem cap_mulE {x y : Int} (hx : 0 ≤ x) (hy : 0 ≤ y) : cap (cap x * y) = cap (x * y) := by
 have h1 := cap_mul (x := x) hy
 have h2 : cap (cap x * y) ≤ cap (x * y) := cap_mono (Int.mul_le_mul_of_nonneg_right (cap_le x) hy)
 omega
theorem cap_mulE' {x y : Int} (hx : 0 ≤ x) (hy : 0 ≤ y) : cap (x * cap y) = cap (x * y) := by rw [Int.mul_comm, cap_mulE hy hx, Int.mul_comm]
theorem cap_nn' {x : Int} (h : 0 ≤ x) : 0 ≤ cap x := by unfold cap; omega
theorem cap_lt {x y : Int} (h : x < y) (hc : x < 1099511627776) : x < cap y := by unfold cap; omega
theorem cap_self {x : Int} (h : x ≤ 1099511627776) : cap x = x := by unfold cap; omega
theorem cap_le_top (x : Int) : cap x ≤ 1099511627776 := by unfold cap; omega
section
variable (sv rv : Nat → Nat → Int)
def sumS (k q : Nat) : Nat → Int
 | 0 => 0
 | j + 1 => sumS k q j + sv k (j + 1) * rv (k + 1) (q - (j + 1))
def wayW (a : Int) (k q m : Nat) : Int := cap (cap (a * sv k m) * rv (k + 1) (q - m))
def preP (a : Int) (k q : Nat) : Nat → Int
 | 0 => 0
 | j + 1 => preP a k q j + wayW sv rv a k q (j + 1)
def ahF (sz : Nat → Nat) : Nat → Int
 | 0 => 1
 | k + 1 => cap (ahF sz k * sv k (sz k))
def lfF (sz : Nat → Nat) (N : Nat) : Nat → Nat
 | 0 => N
 | k + 1 => lfF sz N k - sz k
def bsF (sz : Nat → Nat) (N : Nat) : Nat → Int
 | 0 => 0
 | k + 1 => bsF sz N k + preP sv rv (ahF sv sz k) k (lfF sz N k) (sz k - 1)
def beF (sz : Nat → Nat) (L : Nat) : Nat → Int
 | 0 => 1
 | j + 1 => cap (beF sz L j * sv (L - 1 - j) (sz (L - 1 - j)))
def dnF (sz : Nat → Nat) (nm : Nat → Int) (L : Nat) : Nat → Int
 | 0 => 0
 | j + 1 => dnF sz nm L j + nm (L - 1 - j) * beF sv sz L j
structure Sys (L : Nat) : Prop where
 s0 : ∀ k m, 0 ≤ sv k m
 r0 : ∀ k q, 0 ≤ rv k q
 rc : ∀ k q, rv k q ≤ 1099511627776
 eq : ∀ k q, k < L → q < 60 → rv k q = cap (sumS sv rv k q q)
 last : ∀ q, rv L q = if q = 0 then 1 else 0
structure Fit (L N : Nat) (sz : Nat → Nat) : Prop where
 lo : ∀ k, k < L → 1 ≤ sz k
 le : ∀ k, k < L → sz k ≤ lfF sz N k
 all : lfF sz N L = 0
 pos : ∀ k, k < L → 1 ≤ sv k (sz k)
end
section
variable {sv rv : Nat → Nat → Int} {L : Nat}
theorem lf_le (sz : Nat → Nat) (N : Nat) : ∀ k, lfF sz N k ≤ N
 | 0 => Nat.le_refl _
 | k + 1 => by have := lf_le sz N k; simp only [lfF]; omega
theorem sumS_nn (S : Sys sv rv L) (k q : Nat) : ∀ j, 0 ≤ sumS sv rv k q j
 | 0 => Int.le_refl _
 | j + 1 => by
   have h1 := sumS_nn S k q j
   have h2 := Int.mul_nonneg (S.s0 k (j + 1)) (S.r0 (k + 1) (q - (j + 1)))
   simp only [sumS]; omega
theorem wayW_nn (S : Sys sv rv L) {a : Int} (ha : 0 ≤ a) (k q m : Nat) : 0 ≤ wayW sv rv a k q m := cap_nn' (Int.mul_nonneg (cap_nn' (Int.mul_nonneg ha (S.s0 k m))) (S.r0 _ _))
theorem preP_nn (S : Sys sv rv L) {a : Int} (ha : 0 ≤ a) (k q : Nat) : ∀ j, 0 ≤ preP sv rv a k q j
 | 0 => Int.le_refl _
 | j + 1 => by
   have h1 := preP_nn S ha k q j
   have h2 := wayW_nn S ha k q (j + 1)
   simp only [preP]; omega
theorem preP_mono (S : Sys sv rv L) {a : Int} (ha : 0 ≤ a) (k q : Nat) {i j : Nat} (h : i ≤ j) : preP sv rv a k q i ≤ preP sv rv a k q j := by
 induction j with
 | zero => have : i = 0 := by omega
           subst this; exact Int.le_refl _
 | succ j ih =>
   by_cases hi : i = j + 1
   · subst hi; exact Int.le_refl _
   · have h1 := ih (by omega)
     have h2 := wayW_nn S ha k q (j + 1)
     simp only [preP]; omega
theorem preP_cap (S : Sys sv rv L) {a : Int} (ha : 0 ≤ a) (k q : Nat) : ∀ j, cap (preP sv rv a k q j) = cap (a * sumS sv rv k q j)
 | 0 => by simp only [preP, sumS, Int.mul_zero]
 | j + 1 => by
   have ih := preP_cap S ha k q j
   have h0 := preP_nn S ha k q j
   have h1 := Int.mul_nonneg ha (S.s0 k (j + 1))
   have h2 := S.r0 (k + 1) (q - (j + 1))
   have h3 := Int.mul_nonneg h1 h2
   simp only [preP, sumS, wayW]
   rw [cap_mulE h1 h2, cap_add_cap h0, ← cap_cap_add h3, ih, cap_cap_add h3, Int.mul_add, Int.mul_assoc]
theorem preP_all (S : Sys sv rv L) {a : Int} (ha : 0 ≤ a) {k q : Nat} (hk : k < L) (hq : q < 60) : cap (preP sv rv a k q q) = cap (a * rv k q) := by
 rw [preP_cap S ha, S.eq k q hk hq, cap_mulE' ha (sumS_nn S k q q)]
theorem ah_pos {N : Nat} {sz : Nat → Nat} (F : Fit sv L N sz) : ∀ k, k ≤ L → 1 ≤ ahF sv sz k ∧ ahF sv sz k ≤ 1099511627776
 | 0, _ => by simp [ahF]
 | k + 1, hk => by
   obtain ⟨h1, h2⟩ := ah_pos F k (by omega)
   have h3 := F.pos k (by omega)
   have h4 : 1 * 1 ≤ ahF sv sz k * sv k (sz k) := Int.mul_le_mul h1 h3 (by omega) (by omega)
   simp only [ahF]
   unfold cap
   omega
theorem be_pos {N : Nat} {sz : Nat → Nat} (F : Fit sv L N sz) : ∀ j, j ≤ L → 1 ≤ beF sv sz L j ∧ beF sv sz L j ≤ 1099511627776
 | 0, _ => by simp [beF]
 | j + 1, hj => by
   obtain ⟨h1, h2⟩ := be_pos F j (by omega)
   have h3 := F.pos (L - 1 - j) (by omega)
   have h4 : 1 * 1 ≤ beF sv sz L j * sv (L - 1 - j) (sz (L - 1 - j)) := Int.mul_le_mul h1 h3 (by omega) (by omega)
   simp only [beF]
   unfold cap
   omega
theorem ah_be {N : Nat} {sz : Nat → Nat} (F : Fit sv L N sz) : ∀ k, k ≤ L → cap (ahF sv sz k * beF sv sz L (L - k)) = beF sv sz L L
 | 0, _ => by
   simp only [ahF, Int.one_mul, Nat.sub_zero]
   exact cap_self (be_pos F L (Nat.le_refl _)).2
 | k + 1, hk => by
   have ih := ah_be F k (by omega)
   obtain ⟨j, hj⟩ : ∃ j, L - k = j + 1 := ⟨L - k - 1, by omega⟩
   have e1 : L - (k + 1) = j := by omega
   have e2 : L - 1 - j = k := by omega
   rw [hj] at ih
   simp only [beF, e2] at ih
   rw [e1]
   simp only [ahF]
   have a1 := (ah_pos F k (by omega)).1
   have b1 := (be_pos F j (by omega)).1
   have p1 := F.pos k (by omega)
   rw [cap_mulE (Int.mul_nonneg (by omega) (by omega)) (by omega)]
   rw [cap_mulE' (by omega) (Int.mul_nonneg (by omega) (by omega))] at ih
   rw [← ih]
   congr 1
   rw [Int.mul_assoc, Int.mul_comm (sv k (sz k))]
theorem ah_last {N : Nat} {sz : Nat → Nat} (F : Fit sv L N sz) : ahF sv sz L = beF sv sz L L := by
 have := ah_be F L (Nat.le_refl _)
 rw [Nat.sub_self] at this
 simp only [beF, Int.mul_one] at this
 rwa [cap_self (ah_pos F L (Nat.le_refl _)).2] at this
theorem dn_nn {N : Nat} {sz : Nat → Nat} {nm : Nat → Int} (F : Fit sv L N sz) (hn : ∀ k, k < L → 0 ≤ nm k) : ∀ j, j ≤ L → 0 ≤ dnF sv sz nm L j
 | 0, _ => Int.le_refl _
 | j + 1, hj => by
   have h1 := dn_nn F hn j (by omega)
   have h2 := Int.mul_nonneg (hn (L - 1 - j) (by omega)) (show 0 ≤ beF sv sz L j by have := (be_pos F j (by omega)).1; omega)
   simp only [dnF]; omega
theorem dn_lt {N : Nat} {sz : Nat → Nat} {nm : Nat → Int} (F : Fit sv L N sz) (hn : ∀ k, k < L → 0 ≤ nm k ∧ nm k < sv k (sz k)) : ∀ j, j ≤ L → dnF sv sz nm L j < 1099511627776 → dnF sv sz nm L j < beF sv sz L j
 | 0, _, _ => by simp [dnF, beF]
 | j + 1, hj, hc => by
   obtain ⟨b1, b2⟩ := be_pos F j (by omega)
   obtain ⟨n0, n1⟩ := hn (L - 1 - j) (by omega)
   have h2 := Int.mul_nonneg n0 (show 0 ≤ beF sv sz L j by omega)
   have hd := dn_nn F (fun k hk => (hn k hk).1) j (by omega)
   simp only [dnF] at hc ⊢
   have h1 := dn_lt F hn j (by omega) (by omega)
   simp only [beF]
   refine cap_lt ?_ hc
   have h3 : (nm (L - 1 - j) + 1) * beF sv sz L j ≤ sv (L - 1 - j) (sz (L - 1 - j)) * beF sv sz L j := Int.mul_le_mul_of_nonneg_right (by omega) (by omega)
   rw [Int.add_mul, Int.one_mul, Int.mul_comm (sv _ _)] at h3
   omega
theorem tail_lt (S : Sys sv rv L) {N : Nat} (hN : N < 60) {sz : Nat → Nat} {nm : Nat → Int} (F : Fit sv L N sz) (hn : ∀ k, k < L → 0 ≤ nm k ∧ nm k < sv k (sz k)) : ∀ j k, k + j = L → (bsF sv rv sz N L - bsF sv rv sz N k) + dnF sv sz nm L L < 1099511627776 →
 (bsF sv rv sz N L - bsF sv rv sz N k) + dnF sv sz nm L L < cap (ahF sv sz k * rv k (lfF sz N k)) ∧ 0 ≤ bsF sv rv sz N L - bsF sv rv sz N k ∧ (k < L → (bsF sv rv sz N L - bsF sv rv sz N k) + dnF sv sz nm L L < preP sv rv (ahF sv sz k) k (lfF sz N k) (sz k))
 | 0, k, hk, hc => by
   have : k = L := by omega
   subst this
   have h1 := dn_lt F hn k (Nat.le_refl _) (by omega)
   refine ⟨?_, by omega, fun h => by omega⟩
   rw [F.all, S.last, if_pos rfl, Int.mul_one, cap_self (ah_pos F k (Nat.le_refl _)).2, ah_last F]
   omega
 | j + 1, k, hk, hc => by
   have hkL : k < L := by omega
   have a1 := (ah_pos F k (by omega)).1
   have hle := F.le k hkL
   have hlo := F.lo k hkL
   have hP := preP_nn S (show 0 ≤ ahF sv sz k by omega) k (lfF sz N k) (sz k - 1)
   have hb : bsF sv rv sz N (k + 1) = bsF sv rv sz N k + preP sv rv (ahF sv sz k) k (lfF sz N k) (sz k - 1) := rfl
   obtain ⟨h1, h2, _⟩ := tail_lt S hN F hn j (k + 1) (by omega) (by omega)
   have hw : cap (ahF sv sz (k + 1) * rv (k + 1) (lfF sz N (k + 1))) = wayW sv rv (ahF sv sz k) k (lfF sz N k) (sz k) := rfl
   rw [hw] at h1
   have hstep : preP sv rv (ahF sv sz k) k (lfF sz N k) (sz k) = preP sv rv (ahF sv sz k) k (lfF sz N k) (sz k - 1) + wayW sv rv (ahF sv sz k) k (lfF sz N k) (sz k) := by
    obtain ⟨m, hm⟩ : ∃ m, sz k = m + 1 := ⟨sz k - 1, by omega⟩
    rw [hm]; rfl
   have hmono := preP_mono S (show 0 ≤ ahF sv sz k by omega) k (lfF sz N k) hle
   have hlf := lf_le sz N k
   have hall := preP_all S (show 0 ≤ ahF sv sz k by omega) hkL (show lfF sz N k < 60 by omega)
   refine ⟨?_, by omega, fun _ => by omega⟩
   rw [← hall]
   exact cap_lt (by omega) hc
theorem list_lt (S : Sys sv rv L) {N : Nat} (hN : N < 60) {sz : Nat → Nat} {nm : Nat → Int} (F : Fit sv L N sz) (hn : ∀ k, k < L → 0 ≤ nm k ∧ nm k < sv k (sz k)) (hc : bsF sv rv sz N L + dnF sv sz nm L L < 1099511627776) :
 bsF sv rv sz N L + dnF sv sz nm L L < rv 0 N ∧ 0 ≤ bsF sv rv sz N L := by
 have h := tail_lt S hN F hn L 0 (by omega) (by simpa [bsF] using hc)
 simp only [bsF, Int.sub_zero, ahF, lfF, Int.one_mul] at h
 rw [cap_self (S.rc 0 N)] at h
 exact ⟨h.1, h.2.1⟩
theorem ah_congr {sz sz' : Nat → Nat} : ∀ k, (∀ j, j < k → sz j = sz' j) → ahF sv sz k = ahF sv sz' k
 | 0, _ => rfl
 | k + 1, h => by simp only [ahF]; rw [ah_congr k fun j hj => h j (by omega), h k (by omega)]
theorem lf_congr {sz sz' : Nat → Nat} {N : Nat} : ∀ k, (∀ j, j < k → sz j = sz' j) → lfF sz N k = lfF sz' N k
 | 0, _ => rfl
 | k + 1, h => by simp only [lfF]; rw [lf_congr k fun j hj => h j (by omega), h k (by omega)]
theorem bs_congr {sz sz' : Nat → Nat} {N : Nat} : ∀ k, (∀ j, j < k → sz j = sz' j) → bsF sv rv sz N k = bsF sv rv sz' N k
 | 0, _ => rfl
 | k + 1, h => by
   simp only [bsF]
   rw [bs_congr k fun j hj => h j (by omega), h k (by omega), ah_congr k fun j hj => h j (by omega), lf_congr k fun j hj => h j (by omega)]
theorem be_congr {sz sz' : Nat → Nat} : ∀ j, j ≤ L → (∀ k, k < L → sz k = sz' k) → beF sv sz L j = beF sv sz' L j
 | 0, _, _ => rfl
 | j + 1, hj, h => by simp only [beF]; rw [be_congr j (by omega) h, h (L - 1 - j) (by omega)]
theorem sizes_eq (S : Sys sv rv L) {N : Nat} (hN : N < 60) {sz sz' : Nat → Nat} {nm nm' : Nat → Int} (F : Fit sv L N sz) (F' : Fit sv L N sz') (hn : ∀ k, k < L → 0 ≤ nm k ∧ nm k < sv k (sz k)) (hn' : ∀ k, k < L → 0 ≤ nm' k ∧ nm' k < sv k (sz' k))
 (hc : bsF sv rv sz N L + dnF sv sz nm L L < 1099511627776) (he : bsF sv rv sz N L + dnF sv sz nm L L = bsF sv rv sz' N L + dnF sv sz' nm' L L) : ∀ k, k ≤ L → ∀ j, j < k → sz j = sz' j
 | 0, _ => fun j hj => by omega
 | k + 1, hk => fun j hj => by
   have ih := sizes_eq S hN F F' hn hn' hc he k (by omega)
   by_cases hjk : j < k
   · exact ih j hjk
   · have : j = k := by omega
     subst this
     have hb := bs_congr (sv := sv) (rv := rv) (N := N) j ih
     have ha := ah_congr (sv := sv) j ih
     have hl := lf_congr (N := N) j ih
     have b0 : 0 ≤ bsF sv rv sz N j := by
      have := tail_lt S hN F hn L 0 (by omega) (by simpa [bsF] using hc)
      exact (show ∀ k, k ≤ L → 0 ≤ bsF sv rv sz N k from fun k => by
       induction k with
       | zero => intro _; exact Int.le_refl _
       | succ k ih =>
         intro hk
         have h1 := ih (by omega)
         have h2 := preP_nn S (show 0 ≤ ahF sv sz k by have := (ah_pos F k (by omega)).1; omega) k (lfF sz N k) (sz k - 1)
         simp only [bsF]; omega) j (by omega)
     obtain ⟨_, _, h1⟩ := tail_lt S hN F hn (L - j) j (by omega) (by omega)
     obtain ⟨_, _, h2⟩ := tail_lt S hN F' hn' (L - j) j (by omega) (by omega)
     have h1 := h1 (by omega)
     have h2 := h2 (by omega)
     have a0 : 0 ≤ ahF sv sz j := by have := (ah_pos F j (by omega)).1; omega
     have g1 : preP sv rv (ahF sv sz j) j (lfF sz N j) (sz j - 1) ≤ (bsF sv rv sz N L - bsF sv rv sz N j) + dnF sv sz nm L L := by
      obtain ⟨_, q, _⟩ := tail_lt S hN F hn (L - (j + 1)) (j + 1) (by omega) (by
       have := preP_nn S a0 j (lfF sz N j) (sz j - 1)
       simp only [bsF]; omega)
      have d0 := dn_nn F (fun k hk => (hn k hk).1) L (Nat.le_refl _)
      simp only [bsF] at q
      omega
     have a0' : 0 ≤ ahF sv sz' j := by rw [← ha]; exact a0
     have g2 : preP sv rv (ahF sv sz' j) j (lfF sz' N j) (sz' j - 1) ≤ (bsF sv rv sz' N L - bsF sv rv sz' N j) + dnF sv sz' nm' L L := by
      obtain ⟨_, q, _⟩ := tail_lt S hN F' hn' (L - (j + 1)) (j + 1) (by omega) (by
       have := preP_nn S a0' j (lfF sz' N j) (sz' j - 1)
       simp only [bsF]; omega)
      have d0 := dn_nn F' (fun k hk => (hn' k hk).1) L (Nat.le_refl _)
      simp only [bsF] at q
      omega
     rw [← ha, ← hl] at h2 g2
     rcases Nat.lt_trichotomy (sz j) (sz' j) with h | h | h
     · have := preP_mono S a0 j (lfF sz N j) (show sz j ≤ sz' j - 1 by omega)
       omega
     · exact h
     · have := preP_mono S a0 j (lfF sz N j) (show sz' j ≤ sz j - 1 by omega)
       omega
theorem nums_eq {N : Nat} {sz : Nat → Nat} {nm nm' : Nat → Int} (F : Fit sv L N sz) (hn : ∀ k, k < L → 0 ≤ nm k ∧ nm k < sv k (sz k)) (hn' : ∀ k, k < L → 0 ≤ nm' k ∧ nm' k < sv k (sz k)) : ∀ j, j ≤ L → dnF sv sz nm L j < 1099511627776 → dnF sv sz nm L j = dnF sv sz nm' L j → ∀ i, i < j → nm (L - 1 - i) = nm' (L - 1 - i)
 | 0, _, _, _ => fun i hi => by omega
 | j + 1, hj, hc, he => fun i hi => by
   obtain ⟨b1, b2⟩ := be_pos F j (by omega)
   have d0 := dn_nn F (fun k hk => (hn k hk).1) j (by omega)
   have d0' := dn_nn F (fun k hk => (hn' k hk).1) j (by omega)
   have m0 := Int.mul_nonneg (hn (L - 1 - j) (by omega)).1 (show 0 ≤ beF sv sz L j by omega)
   have m0' := Int.mul_nonneg (hn' (L - 1 - j) (by omega)).1 (show 0 ≤ beF sv sz L j by omega)
   have hc' : dnF sv sz nm' L (j + 1) < 1099511627776 := by omega
   simp only [dnF] at hc hc' he
   have l1 := dn_lt F hn j (by omega) (by omega)
   have l2 := dn_lt F hn' j (by omega) (by omega)
   have hq : nm (L - 1 - j) = nm' (L - 1 - j) := by
    have e1 : (dnF sv sz nm L j + nm (L - 1 - j) * beF sv sz L j) / beF sv sz L j = nm (L - 1 - j) := by
     rw [Int.add_mul_ediv_right _ _ (by omega), Int.ediv_eq_zero_of_lt d0 l1, Int.zero_add]
    have e2 : (dnF sv sz nm' L j + nm' (L - 1 - j) * beF sv sz L j) / beF sv sz L j = nm' (L - 1 - j) := by
     rw [Int.add_mul_ediv_right _ _ (by omega), Int.ediv_eq_zero_of_lt d0' l2, Int.zero_add]
    rw [← e1, ← e2, he]
   by_cases hij : i = j
   · subst hij; exact hq
   · rw [hq] at he
     exact nums_eq F hn hn' j (by omega) (by omega) (by omega) i (by omega)
end
end Go.Proofs.Tryz
/- Terms, their sizes, sorts and numbers; what the table says of a sort. No program in sight. -/
namespace Go.Proofs.Tryz
open Go Go.AE
def aT (ops : List GOp) (t : Tab) (r : Int) (p : Nat) : Nat → Int
 | 0 => 0
 | i + 1 => aT ops t r p i + match ops[i]? with
   | some o => if o.res = r then ((t.2.getD i []).getD 0 []).getD p 0 else 0
   | none => 0
structure SemS (ops : List GOp) (nS : Nat) (t : Tab) (p i : Nat) : Prop where
 old : ∀ a q, a < nS → q < p → (t.1.getD a []).getD (q + 1) 0 = cap (aT ops t (a : Int) q ops.length)
 now : ∀ a, a < nS → (t.1.getD a []).getD (p + 1) 0 = cap (aT ops t (a : Int) p i)
 new : ∀ a q, a < nS → p < q → (t.1.getD a []).getD (q + 1) 0 = 0
theorem aT_congr {ops : List GOp} {t t' : Tab} {r : Int} {p : Nat} : ∀ i, (∀ j, j < i → ((t.2.getD j []).getD 0 []).getD p 0 = ((t'.2.getD j []).getD 0 []).getD p 0) → aT ops t r p i = aT ops t' r p i
 | 0, _ => rfl
 | i + 1, h => by simp only [aT]; rw [aT_congr i fun j hj => h j (by omega), h i (by omega)]
theorem aT_nn {ops : List GOp} {nS : Nat} {t : Tab} (K : TabOK ops nS t) {r : Int} {p : Nat} : ∀ i, 0 ≤ aT ops t r p i
 | 0 => Int.le_refl _
 | i + 1 => by
   have h1 := aT_nn K (r := r) (p := p) i
   simp only [aT]
   cases ho : ops[i]? with
   | none => simpa using h1
   | some o =>
     have hi : i < t.2.length := by rw [K.len]; exact (List.getElem?_eq_some_iff.1 ho).1
     have e1 : t.2[i]? = some (t.2.getD i []) := by
      rw [List.getD_eq_getElem?_getD, List.getElem?_eq_getElem hi]; rfl
     obtain ⟨q1, q2⟩ := K.rows i o _ ho e1
     have := (q1.get (k := 0) (by omega)).2.nonneg p
     simp only
     split <;> omega
theorem opStep_semS {ops : List GOp} {nS p i : Nat} {t : Tab} {o : GOp} (K : TabOK ops nS t) (hops : okOps ops nS) (hp : p < 60) (ho : ops[i]? = some o) (S : SemS ops nS t p i) : SemS ops nS (opStep p t i o) p (i + 1) := by
 have hi : i < t.2.length := by rw [K.len]; exact (List.getElem?_eq_some_iff.1 ho).1
 have e1 : t.2[i]? = some (t.2.getD i []) := by
  rw [List.getD_eq_getElem?_getD, List.getElem?_eq_getElem hi]; rfl
 obtain ⟨q1, q2⟩ := K.rows i o _ ho e1
 obtain ⟨a1, a2, a3⟩ := hops o (List.mem_of_getElem? ho)
 have hrow := rowsDown_get (so := t.1) (args := o.args) (p := p) o.args.length (t.2.getD i []) (by omega)
 have hne : ∀ j, j ≠ i → (opStep p t i o).2.getD j [] = t.2.getD j [] := fun j hj => by
  simp only [opStep]
  exact getD_set_ne (by omega)
 have hsame : (opStep p t i o).2.getD i [] = rowsDown t.1 o.args p o.args.length (t.2.getD i []) := by
  simp only [opStep]
  rw [getD_set hi, if_pos rfl]
 have hoff : ∀ j q, q ≠ p → (((opStep p t i o).2.getD j []).getD 0 []).getD q 0 = ((t.2.getD j []).getD 0 []).getD q 0 := fun j q hq => by
  by_cases hj : j = i
  · subst hj
    rw [hsame, hrow 0]
    split
    · exact getD_set_ne (by omega)
    · rfl
  · rw [hne j hj]
 have hq : ∀ r q, q < p → aT ops (opStep p t i o) r q ops.length = aT ops t r q ops.length := fun r q hq => aT_congr _ fun j _ => hoff j q (by omega)
 have hp2 : ∀ r, aT ops (opStep p t i o) r p i = aT ops t r p i := fun r => aT_congr _ fun j hj => by rw [hne j (by omega)]
 have hres : o.res.toNat < t.1.length := by rw [K.sl]; omega
 have hs : ∀ a j, j ≠ p + 1 → ((opStep p t i o).1.getD a []).getD j 0 = (t.1.getD a []).getD j 0 := fun a j hj => by
  simp only [opStep]
  by_cases hr : o.res.toNat = a
  · subst hr
    rw [getD_set hres, if_pos rfl, getD_set_ne (by omega)]
  · rw [getD_set_ne hr]
 refine ⟨fun a q ha hqp => ?_, fun a ha => ?_, fun a q ha hqp => ?_⟩
 · rw [hs a (q + 1) (by omega), hq _ _ hqp]
   exact S.old a q ha hqp
 · simp only [aT, ho]
   rw [hp2]
   by_cases hr : o.res = (a : Int)
   · have hra : o.res.toNat = a := by omega
     rw [if_pos hr, hsame]
     have h0 := aT_nn K (r := (a : Int)) (p := p) i
     obtain ⟨r1, r2⟩ := rowsDown_ok K.so (by rw [K.sl]; exact a1) hp o.args.length q1 q2 (Nat.le_refl _)
     have h1 := (r1.get (k := 0) (by omega)).2.nonneg p
     have hla : a < t.1.length := by rw [K.sl]; exact ha
     have hlen := (K.so.get hla).2.1
     simp only [opStep, hra]
     rw [getD_set hla, if_pos rfl, getD_set (by omega), if_pos rfl, S.now a ha]
     exact cap_cap_add h1
   · have hra : o.res.toNat ≠ a := by omega
     rw [if_neg hr, Int.add_zero]
     simp only [opStep]
     rw [getD_set_ne hra]
     exact S.now a ha
 · rw [hs a (q + 1) (by omega)]
   exact S.new a q ha hqp
theorem opsFrom_semS {ops : List GOp} {nS p : Nat} (hops : okOps ops nS) (hp : p < 60) : ∀ (os : List GOp) (i : Nat) (t : Tab), TabOK ops nS t → (∀ j o, os[j]? = some o → ops[i + j]? = some o) → os.length + i = ops.length →
 SemS ops nS t p i → SemS ops nS (opsFrom p os i t) p ops.length ∧ TabOK ops nS (opsFrom p os i t)
 | [], i, t, h, _, hl, S => by
   have : i = ops.length := by simpa using hl
   subst this
   exact ⟨S, h⟩
 | o :: os, i, t, h, ho, hl, S => by
   have h0 := ho 0 o rfl
   refine opsFrom_semS hops hp os (i + 1) _ (opStep_ok h hops hp (by simpa using h0)) (fun j o' hj => ?_) (by simp at hl; omega) (opStep_semS h hops hp (by simpa using h0) S)
   have := ho (j + 1) o' (by simpa using hj)
   rw [show i + 1 + j = i + (j + 1) by omega]
   exact this
theorem sizesFrom_semS {ops : List GOp} {nS : Nat} (hops : okOps ops nS) : ∀ (d p : Nat) (t : Tab), p + d = 60 → TabOK ops nS t → SemS ops nS t p 0 → ∀ a q, a < nS → q < 60 → ((sizesFrom ops d p t).1.getD a []).getD (q + 1) 0 = cap (aT ops (sizesFrom ops d p t) (a : Int) q ops.length)
 | 0, p, t, hd, h, S => fun a q ha hq => S.old a q ha (by omega)
 | d + 1, p, t, hd, h, S => by
   obtain ⟨S', h'⟩ := opsFrom_semS hops (p := p) (by omega) ops 0 t h (fun j o hj => by simpa using hj) (by simp) S
   refine sizesFrom_semS hops d (p + 1) _ (by omega) h' ⟨fun a q ha hq => ?_, fun a ha => ?_, fun a q ha hq => S'.new a q ha (by omega)⟩
   · by_cases hqp : q < p
     · exact S'.old a q ha hqp
     · have : q = p := by omega
       subst this
       exact S'.now a ha
   · rw [S'.new a (p + 1) ha (by omega)]; rfl
theorem tabOf_cnt {s : GSig} (hs : okOps s.ops s.sorts.length) {a q : Nat} (ha : a < s.sorts.length) (hq : q < 60) : ((tabOf s).1.getD a []).getD (q + 1) 0 = cap (aT s.ops (tabOf s) (a : Int) q s.ops.length) := by
 have z : ∀ (a j : Nat), (((tab0 s).1.getD a []).getD j 0) = 0 := fun a j => by
  simp only [tab0, zeros, List.getD_eq_getElem?_getD, List.getElem?_replicate]
  split
  · simp only [Option.getD_some, List.getElem?_replicate]
    split <;> rfl
  · rfl
 exact sizesFrom_semS hs 60 0 (tab0 s) (by omega) (tab0_ok s) ⟨fun a q _ h => by omega, fun a _ => by rw [z]; rfl, fun a q _ _ => z _ _⟩ a q ha hq
inductive Tm where
 | mk (k n : Int) (l : List Tm)
mutual
def Tm.nodes : Tm → Nat
 | .mk _ _ l => 1 + nodesL l
def nodesL : List Tm → Nat
 | [] => 0
 | t :: l => t.nodes + nodesL l
end
mutual
def WT (s : GSig) : Tm → Int → Prop
 | .mk k n l, a => k = 2 ∧ 0 ≤ n ∧ ∃ o, s.ops[n.toNat]? = some o ∧ o.res = a ∧ WTs s l o.args
def WTs (s : GSig) : List Tm → List Int → Prop
 | [], [] => True
 | t :: l, a :: bs => WT s t a ∧ WTs s l bs
 | _, _ => False
end
def svOf (s : GSig) (o : GOp) (k m : Nat) : Int := ((tabOf s).1.getD (o.args.getD k 0).toNat []).getD m 0
def rvOf (s : GSig) (i k q : Nat) : Int := (((tabOf s).2.getD i []).getD k []).getD q 0
mutual
def Tm.num (s : GSig) : Tm → Int
 | .mk _ n l => match s.ops[n.toNat]? with
   | some o => cap (aT s.ops (tabOf s) o.res (nodesL l) n.toNat + (bsF (svOf s o) (rvOf s n.toNat) (fun k => (l.map Tm.nodes).getD k 0) (nodesL l) o.args.length + dnF (svOf s o) (fun k => (l.map Tm.nodes).getD k 0) (fun k => (numL s l).getD k 0) o.args.length o.args.length))
   | none => 0
def numL (s : GSig) : List Tm → List Int
 | [] => []
 | t :: l => t.num s :: numL s l
end
theorem nodes_pos (t : Tm) : 1 ≤ t.nodes := by cases t; simp only [Tm.nodes]; omega
theorem nodesL_mem : ∀ {l : List Tm} {t : Tm}, t ∈ l → t.nodes ≤ nodesL l
 | x :: l, t, h => by
   rcases List.mem_cons.1 h with rfl | h
   · simp only [nodesL]; omega
   · have := nodesL_mem h
     simp only [nodesL]; omega
theorem WTs_len {s : GSig} : ∀ {l : List Tm} {bs : List Int}, WTs s l bs → l.length = bs.length
 | [], [], _ => rfl
 | t :: l, a :: bs, h => by simp [WTs_len h.2]
 | [], _ :: _, h => h.elim
 | _ :: _, [], h => h.elim
theorem WTs_get {s : GSig} : ∀ {l : List Tm} {bs : List Int}, WTs s l bs → ∀ {k : Nat} {t : Tm}, l[k]? = some t → WT s t (bs.getD k 0)
 | t :: l, a :: bs, h, 0, x, hx => by
   simp only [List.getElem?_cons_zero, Option.some.injEq] at hx
   subst hx
   simpa using h.1
 | t :: l, a :: bs, h, k + 1, x, hx => by
   have := WTs_get h.2 (k := k) (t := x) (by simpa using hx)
   simpa using this
 | [], [], _, k, x, hx => by simp at hx
 | [], _ :: _, h, _, _, _ => h.elim
 | _ :: _, [], h, _, _, _ => h.elim
theorem numL_get {s : GSig} : ∀ {l : List Tm} {k : Nat} {t : Tm}, l[k]? = some t → (numL s l).getD k 0 = t.num s
 | x :: l, 0, t, h => by
   simp only [List.getElem?_cons_zero, Option.some.injEq] at h
   subst h
   rfl
 | x :: l, k + 1, t, h => by
   have := numL_get (s := s) (l := l) (k := k) (t := t) (by simpa using h)
   simpa [numL] using this
theorem szs_get {l : List Tm} {k : Nat} {t : Tm} (h : l[k]? = some t) : (l.map Tm.nodes).getD k 0 = t.nodes := by
 rw [List.getD_eq_getElem?_getD, List.getElem?_map, h]; rfl
theorem lf_drop {l : List Tm} : ∀ k, lfF (fun k => (l.map Tm.nodes).getD k 0) (nodesL l) k = nodesL (l.drop k)
 | 0 => rfl
 | k + 1 => by
   simp only [lfF]
   rw [lf_drop k]
   cases h : l[k]? with
   | none =>
     have hl : l.length ≤ k := List.getElem?_eq_none_iff.1 h
     rw [List.drop_eq_nil_of_le hl, List.drop_eq_nil_of_le (by omega)]
     simp only [nodesL, Nat.zero_sub]
   | some t =>
     have hk := (List.getElem?_eq_some_iff.1 h).1
     have hd : l.drop k = t :: l.drop (k + 1) := by
      rw [List.drop_eq_getElem_cons hk, (List.getElem?_eq_some_iff.1 h).2]
     rw [hd, szs_get h]
     simp only [nodesL]
     omega
def tlS (xs x1 : List Int) (p : Nat) : Nat → Nat → Int
 | 0, _ => 0
 | d + 1, m => xs.getD m 0 * x1.getD (p - m) 0 + tlS xs x1 p d (m + 1)
theorem tlS_nn {xs x1 : List Int} {p : Nat} (h1 : ∀ j, 0 ≤ xs.getD j 0) (h2 : ∀ j, 0 ≤ x1.getD j 0) : ∀ d m, 0 ≤ tlS xs x1 p d m
 | 0, _ => Int.le_refl _
 | d + 1, m => by
   have := tlS_nn (p := p) h1 h2 d (m + 1)
   have := Int.mul_nonneg (h1 m) (h2 (p - m))
   simp only [tlS]; omega
theorem inner_tl {xs x1 : List Int} {p : Nat} (h1 : ∀ j, 0 ≤ xs.getD j 0) (h2 : ∀ j, 0 ≤ x1.getD j 0) : ∀ (d m : Nat) (v : Int), 0 ≤ v → v ≤ 1099511627776 → inner xs x1 p d m v = cap (v + tlS xs x1 p d m)
 | 0, m, v, _, hv => by simp only [inner, tlS, Int.add_zero]; rw [cap_self hv]
 | d + 1, m, v, h0, hv => by
   have hxy := Int.mul_nonneg (h1 m) (h2 (p - m))
   have ht := tlS_nn (p := p) h1 h2 d (m + 1)
   simp only [inner, tlS]
   have e : min (v + min (xs.getD m 0 * x1.getD (p - m) 0) 1099511627776) 1099511627776 = cap (v + xs.getD m 0 * x1.getD (p - m) 0) := by
    rw [← cap_add_cap h0]; rfl
   rw [e, inner_tl h1 h2 d (m + 1) _ (cap_nn' (by omega)) (cap_le_top _), cap_cap_add ht, Int.add_assoc]
def tlF (sv rv : Nat → Nat → Int) (k q : Nat) : Nat → Nat → Int
 | 0, _ => 0
 | d + 1, m => sv k m * rv (k + 1) (q - m) + tlF sv rv k q d (m + 1)
theorem tl_sum {sv rv : Nat → Nat → Int} (k q : Nat) : ∀ d j, sumS sv rv k q j + tlF sv rv k q d (j + 1) = sumS sv rv k q (j + d)
 | 0, j => by simp [tlF]
 | d + 1, j => by
   have ih := tl_sum (sv := sv) (rv := rv) k q d (j + 1)
   simp only [sumS] at ih
   rw [show j + (d + 1) = j + 1 + d by omega, ← ih]
   simp only [tlF]
   omega
theorem tlF_eq {s : GSig} {o : GOp} {i k q : Nat} : ∀ d m, tlF (svOf s o) (rvOf s i) k q d m = tlS ((tabOf s).1.getD (o.args.getD k 0).toNat []) (((tabOf s).2.getD i []).getD (k + 1) []) q d m
 | 0, _ => rfl
 | d + 1, m => by simp only [tlF, tlS]; rw [tlF_eq d (m + 1)]; rfl
theorem sysOf {s : GSig} (hs : okOps s.ops s.sorts.length) {i : Nat} {o : GOp} (ho : s.ops[i]? = some o) : Sys (svOf s o) (rvOf s i) o.args.length := by
 obtain ⟨S, K⟩ := tabOf_sem hs
 obtain ⟨a1, a2, a3⟩ := hs o (List.mem_of_getElem? ho)
 have hi : i < (tabOf s).2.length := by rw [K.len]; exact (List.getElem?_eq_some_iff.1 ho).1
 have e1 : (tabOf s).2[i]? = some ((tabOf s).2.getD i []) := by
  rw [List.getD_eq_getElem?_getD, List.getElem?_eq_getElem hi]; rfl
 obtain ⟨q1, q2⟩ := K.rows i o _ ho e1
 have row : ∀ (l : List (List Int)), okRows l → ∀ k q, 0 ≤ (l.getD k []).getD q 0 ∧ (l.getD k []).getD q 0 ≤ 1099511627776 := fun l hl k q => by
  by_cases hk : k < l.length
  · exact ⟨(hl.get hk).2.nonneg q, (hl.get hk).2.le q⟩
  · have e : l.getD k [] = [] := by rw [List.getD_eq_getElem?_getD, List.getElem?_eq_none (by omega)]; rfl
    rw [e]
    simp
 refine ⟨fun k m => (row _ K.so _ _).1, fun k q => (row _ q1 _ _).1, fun k q => (row _ q1 _ _).2, fun k q hk hq => ?_, fun q => ?_⟩
 · have := S.eq i o k q ho hk hq
   unfold Eqn at this
   have hq' : q < 61 := by omega
   rw [inner_tl (fun j => (row _ K.so _ _).1) (fun j => (row _ q1 _ _).1) q 1 0 (by omega) (by omega), Int.zero_add] at this
   have e := tl_sum (sv := svOf s o) (rv := rvOf s i) k q q 0
   simp only [Nat.zero_add, sumS, Int.zero_add, tlF_eq] at e
   rw [← e]
   exact this
 · unfold rvOf
   rw [S.last i o ho]
   simp only [zeros]
   cases q with
   | zero => rfl
   | succ q =>
     rw [if_neg (by omega), getD_set_ne (by omega)]
     simp only [List.getD_eq_getElem?_getD, List.getElem?_replicate]
     split <;> rfl
theorem getD_mem {l : List Tm} {k : Nat} (hk : k < l.length) : l[k]? = some l[k] := List.getElem?_eq_getElem hk
theorem row_lt {ops : List GOp} {nS : Nat} {t : Tab} (K : TabOK ops nS t) {r : Int} {p i : Nat} {o : GOp} (ho : ops[i]? = some o) (hr : o.res = r) : ∀ j, i < j → aT ops t r p i + ((t.2.getD i []).getD 0 []).getD p 0 ≤ aT ops t r p j
 | 0, h => by omega
 | j + 1, h => by
   by_cases hij : i = j
   · subst hij
     simp only [aT, ho, hr, if_true]
     exact Int.le_refl _
   · have h1 := row_lt (p := p) K ho hr j (by omega)
     have h2 := aT_nn K (r := r) (p := p) (j + 1)
     simp only [aT]
     cases hj : ops[j]? with
     | none => simpa using h1
     | some o' =>
       have hi : j < t.2.length := by rw [K.len]; exact (List.getElem?_eq_some_iff.1 hj).1
       have e1 : t.2[j]? = some (t.2.getD j []) := by
        rw [List.getD_eq_getElem?_getD, List.getElem?_eq_getElem hi]; rfl
       obtain ⟨q1, q2⟩ := K.rows j o' _ hj e1
       have := (q1.get (k := 0) (by omega)).2.nonneg p
       simp only
       split <;> omega
theorem fitOf {s : GSig} {o : GOp} {l : List Tm} (hl : l.length = o.args.length) (hp : ∀ k (hk : k < l.length), 1 ≤ svOf s o k (l[k]).nodes) : Fit (svOf s o) o.args.length (nodesL l) (fun k => (l.map Tm.nodes).getD k 0) := by
 refine ⟨fun k hk => ?_, fun k hk => ?_, ?_, fun k hk => ?_⟩
 · simp only [szs_get (getD_mem (show k < l.length by omega))]
   exact nodes_pos _
 · rw [lf_drop, szs_get (getD_mem (show k < l.length by omega)), List.drop_eq_getElem_cons (show k < l.length by omega)]
   simp only [nodesL]
   omega
 · rw [lf_drop, List.drop_eq_nil_of_le (by omega)]; rfl
 · have := hp k (by omega)
   simp only [szs_get (getD_mem (show k < l.length by omega))]
   exact this
theorem sum_ge {sv rv : Nat → Nat → Int} {L : Nat} (S : Sys sv rv L) (k q : Nat) : ∀ j m, 1 ≤ m → m ≤ j → sv k m * rv (k + 1) (q - m) ≤ sumS sv rv k q j
 | 0, m, h1, h2 => by omega
 | j + 1, m, h1, h2 => by
   have h0 := sumS_nn S k q j
   have h3 := Int.mul_nonneg (S.s0 k (j + 1)) (S.r0 (k + 1) (q - (j + 1)))
   simp only [sumS]
   by_cases hm : m = j + 1
   · subst hm; omega
   · have := sum_ge S k q j m h1 (by omega)
     omega
theorem rv_pos {sv rv : Nat → Nat → Int} {L N : Nat} {sz : Nat → Nat} (S : Sys sv rv L) (F : Fit sv L N sz) (hN : N < 60) : ∀ j k, k + j = L → 1 ≤ rv k (lfF sz N k)
 | 0, k, hk => by
   have : k = L := by omega
   subst this
   rw [F.all, S.last, if_pos rfl]
   exact Int.le_refl _
 | j + 1, k, hk => by
   have hkL : k < L := by omega
   have ih := rv_pos S F hN j (k + 1) (by omega)
   simp only [lfF] at ih
   have hlf := lf_le sz N k
   rw [S.eq k _ hkL (by omega)]
   have h1 := sum_ge S k (lfF sz N k) (lfF sz N k) (sz k) (F.lo k hkL) (F.le k hkL)
   have h2 := F.pos k hkL
   have h3 : 1 * 1 ≤ sv k (sz k) * rv (k + 1) (lfF sz N k - sz k) := Int.mul_le_mul h2 ih (by omega) (by omega)
   unfold cap
   omega
theorem cnt_pos {s : GSig} (hs : okOps s.ops s.sorts.length) : ∀ (N : Nat) (t : Tm) (a : Int), t.nodes ≤ N → t.nodes ≤ 60 → WT s t a → 0 ≤ a ∧ a < (s.sorts.length : Int) ∧ 1 ≤ ((tabOf s).1.getD a.toNat []).getD t.nodes 0
 | 0, t, a, h, _, _ => by have := nodes_pos t; omega
 | N + 1, .mk k n l, a, h, h60, hw => by
   obtain ⟨rfl, hn, o, ho, ha, hl⟩ := hw
   obtain ⟨S, K⟩ := tabOf_sem hs
   obtain ⟨a1, a2, a3⟩ := hs o (List.mem_of_getElem? ho)
   have hlen := WTs_len hl
   simp only [Tm.nodes] at h h60 ⊢
   have F : Fit (svOf s o) o.args.length (nodesL l) (fun k => (l.map Tm.nodes).getD k 0) := fitOf hlen fun k hk => by
    have hm := nodesL_mem (List.getElem_mem hk)
    exact (cnt_pos hs N l[k] _ (by omega) (by omega) (WTs_get hl (getD_mem hk))).2.2
   have hr := rv_pos (sysOf hs ho) F (by omega) o.args.length 0 (by omega)
   have hlt := row_lt K ho ha (p := nodesL l) s.ops.length (List.getElem?_eq_some_iff.1 ho).1
   have h0 := aT_nn K (r := a) (p := nodesL l) n.toNat
   refine ⟨by omega, by omega, ?_⟩
   rw [show 1 + nodesL l = nodesL l + 1 by omega, tabOf_cnt hs (by omega) (by omega), show ((a.toNat : Nat) : Int) = a by omega]
   simp only [lfF, rvOf] at hr
   unfold cap
   omega
theorem dn_ge {sv : Nat → Nat → Int} {L N : Nat} {sz : Nat → Nat} {nm : Nat → Int} (F : Fit sv L N sz) (hn : ∀ k, k < L → 0 ≤ nm k) : ∀ j, j ≤ L → ∀ i, i < j → nm (L - 1 - i) ≤ dnF sv sz nm L j
 | 0, _, i, hi => by omega
 | j + 1, hj, i, hi => by
   have d0 := dn_nn F hn j (by omega)
   have b1 := (be_pos F j (by omega)).1
   have n0 := hn (L - 1 - j) (by omega)
   have m0 := Int.mul_nonneg n0 (show 0 ≤ beF sv sz L j by omega)
   simp only [dnF]
   by_cases hij : i = j
   · subst hij
     have : nm (L - 1 - i) * 1 ≤ nm (L - 1 - i) * beF sv sz L i := Int.mul_le_mul_of_nonneg_left b1 n0
     omega
   · have := dn_ge F hn j (by omega) i (by omega)
     omega
theorem bs_nn {sv rv : Nat → Nat → Int} {L N : Nat} {sz : Nat → Nat} (S : Sys sv rv L) (F : Fit sv L N sz) : ∀ k, k ≤ L → 0 ≤ bsF sv rv sz N k
 | 0, _ => Int.le_refl _
 | k + 1, hk => by
   have h1 := bs_nn S F k (by omega)
   have h2 := preP_nn S (show 0 ≤ ahF sv sz k by have := (ah_pos F k (by omega)).1; omega) k (lfF sz N k) (sz k - 1)
   simp only [bsF]; omega
structure NumOK (s : GSig) (n : Nat) (o : GOp) (l : List Tm) : Prop where
 fit : Fit (svOf s o) o.args.length (nodesL l) (fun k => (l.map Tm.nodes).getD k 0)
 nums : ∀ k, k < o.args.length → 0 ≤ (numL s l).getD k 0 ∧ (numL s l).getD k 0 < svOf s o k ((l.map Tm.nodes).getD k 0)
 lt : bsF (svOf s o) (rvOf s n) (fun k => (l.map Tm.nodes).getD k 0) (nodesL l) o.args.length + dnF (svOf s o) (fun k => (l.map Tm.nodes).getD k 0) (fun k => (numL s l).getD k 0) o.args.length o.args.length < rvOf s n 0 (nodesL l)
 nn : 0 ≤ bsF (svOf s o) (rvOf s n) (fun k => (l.map Tm.nodes).getD k 0) (nodesL l) o.args.length + dnF (svOf s o) (fun k => (l.map Tm.nodes).getD k 0) (fun k => (numL s l).getD k 0) o.args.length o.args.length
theorem num_nn {s : GSig} (hs : okOps s.ops s.sorts.length) : ∀ (N : Nat) (t : Tm) (a : Int), t.nodes ≤ N → t.nodes ≤ 60 → WT s t a → 0 ≤ t.num s
 | 0, t, a, h, _, _ => by have := nodes_pos t; omega
 | N + 1, .mk k n l, a, h, h60, hw => by
   obtain ⟨rfl, hn, o, ho, ha, hl⟩ := hw
   obtain ⟨S, K⟩ := tabOf_sem hs
   have hlen := WTs_len hl
   simp only [Tm.nodes] at h h60
   have F : Fit (svOf s o) o.args.length (nodesL l) (fun k => (l.map Tm.nodes).getD k 0) := fitOf hlen fun k hk => by
    have hm := nodesL_mem (List.getElem_mem hk)
    exact (cnt_pos hs N l[k] _ (by omega) (by omega) (WTs_get hl (getD_mem hk))).2.2
   have hnn : ∀ k, k < o.args.length → 0 ≤ (numL s l).getD k 0 := fun k hk => by
    have hk' : k < l.length := by omega
    have hm := nodesL_mem (List.getElem_mem hk')
    rw [numL_get (getD_mem hk')]
    exact num_nn hs N l[k] _ (by omega) (by omega) (WTs_get hl (getD_mem hk'))
   have b0 := bs_nn (sysOf hs ho) F o.args.length (Nat.le_refl _)
   have d0 := dn_nn F hnn o.args.length (Nat.le_refl _)
   have h0 := aT_nn K (r := o.res) (p := nodesL l) n.toNat
   simp only [Tm.num, ho]
   exact cap_nn' (by omega)
theorem num_ok {s : GSig} (hs : okOps s.ops s.sorts.length) : ∀ (N : Nat) (t : Tm) (a : Int), t.nodes ≤ N → t.nodes ≤ 60 → WT s t a → t.num s < 1099511627776 →
 t.num s < ((tabOf s).1.getD a.toNat []).getD t.nodes 0 ∧ ∀ k n l o, t = .mk k n l → s.ops[n.toNat]? = some o → NumOK s n.toNat o l
 | 0, t, a, h, _, _, _ => by have := nodes_pos t; omega
 | N + 1, .mk k n l, a, h, h60, hw, hc => by
   obtain ⟨rfl, hn, o, ho, ha, hl⟩ := hw
   obtain ⟨S, K⟩ := tabOf_sem hs
   obtain ⟨a1, a2, a3⟩ := hs o (List.mem_of_getElem? ho)
   have hlen := WTs_len hl
   simp only [Tm.nodes] at h h60 ⊢
   have F : Fit (svOf s o) o.args.length (nodesL l) (fun k => (l.map Tm.nodes).getD k 0) := fitOf hlen fun k hk => by
    have hm := nodesL_mem (List.getElem_mem hk)
    exact (cnt_pos hs N l[k] _ (by omega) (by omega) (WTs_get hl (getD_mem hk))).2.2
   have hnn : ∀ k, k < o.args.length → 0 ≤ (numL s l).getD k 0 := fun k hk => by
    have hk' : k < l.length := by omega
    have hm := nodesL_mem (List.getElem_mem hk')
    rw [numL_get (getD_mem hk')]
    exact num_nn hs N l[k] _ (by omega) (by omega) (WTs_get hl (getD_mem hk'))
   have b0 := bs_nn (sysOf hs ho) F o.args.length (Nat.le_refl _)
   have d0 := dn_nn F hnn o.args.length (Nat.le_refl _)
   have h0 := aT_nn K (r := o.res) (p := nodesL l) n.toNat
   simp only [Tm.num, ho] at hc ⊢
   have hnum : ∀ k, k < o.args.length → 0 ≤ (numL s l).getD k 0 ∧ (numL s l).getD k 0 < svOf s o k ((l.map Tm.nodes).getD k 0) := fun k hk => by
    have hk' : k < l.length := by omega
    have hm := nodesL_mem (List.getElem_mem hk')
    have hge := dn_ge F hnn o.args.length (Nat.le_refl _) (o.args.length - 1 - k) (by omega)
    rw [show o.args.length - 1 - (o.args.length - 1 - k) = k by omega] at hge
    have hck : (numL s l).getD k 0 < 1099511627776 := by
     unfold cap at hc
     omega
    refine ⟨hnn k hk, ?_⟩
    rw [numL_get (getD_mem hk')] at hck ⊢
    rw [szs_get (getD_mem hk')]
    exact (num_ok hs N l[k] _ (by omega) (by omega) (WTs_get hl (getD_mem hk')) hck).1
   have hcV : bsF (svOf s o) (rvOf s n.toNat) (fun k => (l.map Tm.nodes).getD k 0) (nodesL l) o.args.length + dnF (svOf s o) (fun k => (l.map Tm.nodes).getD k 0) (fun k => (numL s l).getD k 0) o.args.length o.args.length < 1099511627776 := by
    unfold cap at hc
    omega
   obtain ⟨hlt, _⟩ := list_lt (sysOf hs ho) (by omega) F hnum hcV
   have hrow := row_lt K ho ha (p := nodesL l) s.ops.length (List.getElem?_eq_some_iff.1 ho).1
   refine ⟨?_, fun k' n' l' o' e ho' => ?_⟩
   · rw [show 1 + nodesL l = nodesL l + 1 by omega, tabOf_cnt hs (by omega) (by omega), show ((a.toNat : Nat) : Int) = a by omega]
     rw [ha] at hc ⊢
     simp only [rvOf] at hlt
     unfold cap at hc ⊢
     omega
   · cases e
     rw [ho] at ho'
     cases ho'
     exact ⟨F, hnum, hlt, by omega⟩
theorem num_inj {s : GSig} (hs : okOps s.ops s.sorts.length) : ∀ (N : Nat) (t t' : Tm) (a : Int), t.nodes ≤ N → t.nodes ≤ 60 → t.nodes = t'.nodes → WT s t a → WT s t' a → t.num s < 1099511627776 → t.num s = t'.num s → t = t'
 | 0, t, t', a, h, _, _, _, _, _, _ => by have := nodes_pos t; omega
 | N + 1, .mk k n l, .mk k' n' l', a, h, h60, hnd, hw, hw', hc, he => by
   obtain ⟨_, g1⟩ := num_ok hs (N + 1) _ a h h60 hw hc
   obtain ⟨_, g2⟩ := num_ok hs (N + 1) _ a (by omega) (by omega) hw' (by omega)
   obtain ⟨rfl, hn, o, ho, ha, hl⟩ := hw
   obtain ⟨rfl, hn', o', ho', ha', hl'⟩ := hw'
   obtain ⟨F, n1, lt1, nn1⟩ := g1 _ _ _ _ rfl ho
   obtain ⟨F', n2, lt2, nn2⟩ := g2 _ _ _ _ rfl ho'
   obtain ⟨S, K⟩ := tabOf_sem hs
   have hlen := WTs_len hl
   have hlen' := WTs_len hl'
   simp only [Tm.nodes] at h h60 hnd
   have hN : nodesL l = nodesL l' := by omega
   simp only [Tm.num, ho, ho'] at hc he
   have h0 := aT_nn K (r := a) (p := nodesL l) n.toNat
   have h0' := aT_nn K (r := a) (p := nodesL l) n'.toNat
   rw [ha] at hc he
   rw [ha', ← hN] at he
   rw [← hN] at F' lt2 nn2
   have hcc : ∀ {x y : Int}, cap x < 1099511627776 → cap x = cap y → x = y ∧ x < 1099511627776 := fun h1 h2 => by
    unfold cap at h1 h2
    omega
   obtain ⟨hx, hxc⟩ := hcc hc he
   have hnn : n = n' := by
    rcases Nat.lt_trichotomy n.toNat n'.toNat with hlt | heq | hlt
    · have := row_lt K ho ha (p := nodesL l) _ hlt
      simp only [rvOf] at lt1 hx nn2
      omega
    · omega
    · have := row_lt K ho' ha' (p := nodesL l) _ hlt
      simp only [rvOf] at lt2 hx nn1
      omega
   subst hnn
   rw [ho] at ho'
   cases ho'
   have hV : bsF (svOf s o) (rvOf s n.toNat) (fun k => (l.map Tm.nodes).getD k 0) (nodesL l) o.args.length + dnF (svOf s o) (fun k => (l.map Tm.nodes).getD k 0) (fun k => (numL s l).getD k 0) o.args.length o.args.length
    = bsF (svOf s o) (rvOf s n.toNat) (fun k => (l'.map Tm.nodes).getD k 0) (nodesL l) o.args.length + dnF (svOf s o) (fun k => (l'.map Tm.nodes).getD k 0) (fun k => (numL s l').getD k 0) o.args.length o.args.length := by omega
   have hsz := sizes_eq (sysOf hs ho) (by omega) F F' n1 n2 (by omega) hV o.args.length (Nat.le_refl _)
   have hbs := bs_congr (sv := svOf s o) (rv := rvOf s n.toNat) (N := nodesL l) o.args.length hsz
   have hdc : ∀ j, j ≤ o.args.length → dnF (svOf s o) (fun k => (l'.map Tm.nodes).getD k 0) (fun k => (numL s l').getD k 0) o.args.length j = dnF (svOf s o) (fun k => (l.map Tm.nodes).getD k 0) (fun k => (numL s l').getD k 0) o.args.length j := fun j => by
    induction j with
    | zero => intro _; rfl
    | succ j ih =>
      intro hj
      simp only [dnF]
      rw [ih (by omega), be_congr (sv := svOf s o) (L := o.args.length) j (by omega) (fun k hk => (hsz k hk).symm)]
   have hd := hdc o.args.length (Nat.le_refl _)
   have b0 := bs_nn (sysOf hs ho) F o.args.length (Nat.le_refl _)
   have n2' : ∀ k, k < o.args.length → 0 ≤ (numL s l').getD k 0 ∧ (numL s l').getD k 0 < svOf s o k ((l.map Tm.nodes).getD k 0) := fun k hk => by
    have e := hsz k hk
    rw [e]
    exact n2 k hk
   have hnm := nums_eq F n1 n2' o.args.length (Nat.le_refl _) (by omega) (by omega)
   have : l = l' := by
    refine List.ext_getElem (by omega) fun k hk hk' => ?_
    have e1 := hsz k (by omega)
    simp only [szs_get (getD_mem hk), szs_get (getD_mem hk')] at e1
    have e2 := hnm (o.args.length - 1 - k) (by omega)
    rw [show o.args.length - 1 - (o.args.length - 1 - k) = k by omega] at e2
    have e3 := e2
    rw [numL_get (getD_mem hk), numL_get (getD_mem hk')] at e3
    have hm := nodesL_mem (List.getElem_mem hk)
    have hge := dn_ge F (fun k hk => (n1 k hk).1) o.args.length (Nat.le_refl _) (o.args.length - 1 - k) (by omega)
    rw [show o.args.length - 1 - (o.args.length - 1 - k) = k by omega, numL_get (getD_mem hk)] at hge
    exact num_inj hs N l[k] l'[k] _ (by omega) (by omega) e1 (WTs_get hl (getD_mem hk)) (WTs_get hl' (getD_mem hk')) (by omega) e3
   rw [this]
end Go.Proofs.Tryz
