/- Texts of the proof, one behind the other: ValTbl, ValFnsR. -/
import Derived.Test.YtekepgfmgeophaaGreatPartAI
import Derived.Test.YtekepgfmgeophaaGreatPartAE
import Derived.KernelRfl
set_option linter.unusedVariables false
set_option linter.unusedSimpArgs false
/- The table of functions. -/
namespace Go.Proofs.Tryz
open Go Go.AE

noncomputable def fnOf (n : Nat) : Option AFunc := match Tryz.prog.funcs[n]? with
  | some fn => if (fn.name == "runtime.NumGoroutine") = false then compFn Tryz.prog [] fn else none
  | none => none
def primOf : Nat → Option Prim := fun f => if f = 247 then some .countString else if f = 272 then some .indexByteString else none
/-- Functions with a special of their own: 54 55 75 208 slices.Clone, 189 guarded; what is remembered in one law: 15 sane, 87 sig.Check, 91 nth. -/
def spList : List Nat := [54, 55, 75, 208, 189, 15, 87, 91]
structure Std (T : Tbl) : Prop where
  sp : ∀ f, f ∉ spList → T.sp f = none
  fn : ∀ f, T.fn f = fnOf f
  prim : T.prim = primOf
  mode : ∀ f, T.mode f = if f = 178 then 1 else if f = 138 then 1 else 0
end Go.Proofs.Tryz
/- Functions of the specification as the evaluator has them: printed. -/
namespace Go.Proofs.Tryz
open Go Go.AE
-- 97 madrigal/madrigalref04.Check
def a97 : AFunc := ⟨1, 6, (.seq (.reg [
    ⟨(some 1), .box 2 (.t 0), none, true, 0, 0, false⟩,
    ⟨(some 2), .move (.c (.int .i64 0)), none, false, 0, 0, false⟩])
  (.seq (.seq (.reg [
    ⟨(some 3), .load true 2 (.t 1), none, true, 0, 0, false⟩,
    ⟨(some 4), .call (.f 168) [(.t 3)], none, true, 0, 0, false⟩,
    ⟨(some 5), .un .not (.t 4), none, false, 0, 0, false⟩])
  (.cond (.t 5)
  (.seq (.reg [
    ⟨(some 2), .move (.c (.int .i64 40)), none, false, 0, 0, false⟩])
  .ret)
  .skip))
  (.seq (.reg [
    ⟨(some 2), .move (.c (.int .i64 0)), none, false, 0, 0, false⟩])
  .ret))), [.t 2]⟩
theorem fn97 : fnOf 97 = some a97 := by kernel_rfl
-- 168 madrigal/madrigalref04.IsSig
def a168b0 : ACode :=
  (.seq (.seq (.reg [
    ⟨(some 40), .move (.t 4), none, false, 0, 0, false⟩,
    ⟨(some 41), .move (.t 3), none, false, 0, 0, false⟩,
    ⟨(some 42), .bin .lss (.t 40) (.t 41), none, false, 0, 0, false⟩])
  (.cond (.t 42)
  .skip
  (.exit 2)))
  (.seq (.block 3 (.seq (.regD [
    ⟨(some 45), .fieldAddr 0 (.t 1), none, false, 0, 0, false⟩,
    ⟨(some 46), .load false 1 (.t 45), none, true, 1, 1, false⟩,
    ⟨(some 47), .move (.t 4), none, false, 2, 0, false⟩,
    ⟨(some 48), .idxAddr 1 (.t 46) (.t 47), none, false, 3, 7, false⟩,
    ⟨(some 49), .load false 1 (.t 48), none, true, 4, 15, false⟩,
    ⟨(some 50), .fieldAddr 0 (.t 1), none, false, 5, 0, false⟩,
    ⟨(some 51), .load false 1 (.t 50), none, true, 6, 32, false⟩,
    ⟨(some 52), .move (.t 3), none, false, 7, 0, true⟩,
    ⟨(some 53), .idxAddr 1 (.t 51) (.t 52), none, false, 8, 224, true⟩,
    ⟨(some 54), .load false 1 (.t 53), none, true, 9, 480, true⟩,
    ⟨(some 55), .bin .eql (.t 49) (.t 54), none, false, 10, 1023, true⟩])
  (.cond (.t 55)
  (.seq (.reg [
    ⟨(some 2), .move (.c (.bool false)), none, false, 0, 0, false⟩])
  .ret)
  .skip)))
  (.reg [
    ⟨(some 43), .move (.t 4), none, false, 0, 0, false⟩,
    ⟨(some 44), .bin .add (.t 43) (.c (.int .i64 1)), none, false, 0, 0, false⟩,
    ⟨(some 4), .move (.t 44), none, false, 0, 0, false⟩])))
def a168b1 : ACode :=
  (.seq (.seq (.reg [
    ⟨(some 17), .move (.t 3), none, false, 0, 0, false⟩,
    ⟨(some 18), .fieldAddr 0 (.t 1), none, false, 0, 0, false⟩,
    ⟨(some 19), .load false 1 (.t 18), none, true, 0, 0, false⟩,
    ⟨(some 20), .lenL (.t 19), none, false, 0, 0, false⟩,
    ⟨(some 21), .bin .lss (.t 17) (.t 20), none, false, 0, 0, false⟩])
  (.cond (.t 21)
  .skip
  (.exit 0)))
  (.seq (.block 1 (.seq (.seq (.reg [
    ⟨(some 24), .fieldAddr 0 (.t 1), none, false, 0, 0, false⟩,
    ⟨(some 25), .load false 1 (.t 24), none, true, 0, 0, false⟩,
    ⟨(some 26), .move (.t 3), none, false, 0, 0, false⟩,
    ⟨(some 27), .idxAddr 1 (.t 25) (.t 26), none, false, 0, 0, false⟩,
    ⟨(some 28), .load false 1 (.t 27), none, true, 0, 0, false⟩,
    ⟨(some 29), .call (.f 210) [(.t 28)], none, true, 0, 0, false⟩,
    ⟨(some 30), .un .not (.t 29), none, false, 0, 0, false⟩,
    ⟨(some 31), .move (.t 30), none, false, 0, 0, false⟩,
    ⟨(some 32), .fieldAddr 0 (.t 1), (some (31, false)), false, 0, 0, false⟩,
    ⟨(some 33), .load false 1 (.t 32), (some (31, false)), true, 0, 0, false⟩,
    ⟨(some 34), .move (.t 3), (some (31, false)), false, 0, 0, false⟩,
    ⟨(some 35), .idxAddr 1 (.t 33) (.t 34), (some (31, false)), false, 0, 0, false⟩,
    ⟨(some 36), .load false 1 (.t 35), (some (31, false)), true, 0, 0, false⟩,
    ⟨(some 37), .call (.f 211) [(.t 36)], (some (31, false)), true, 0, 0, false⟩,
    ⟨(some 38), .bin .gtr (.t 37) (.c (.int .i64 0)), (some (31, false)), false, 0, 0, false⟩,
    ⟨(some 39), .pick (.t 31) (.c (.bool true)) (.t 38), none, false, 0, 0, false⟩])
  (.cond (.t 39)
  (.seq (.reg [
    ⟨(some 2), .move (.c (.bool false)), none, false, 0, 0, false⟩])
  .ret)
  .skip))
  (.seq (.reg [
    ⟨(some 4), .move (.c (.int .i64 0)), none, false, 0, 0, false⟩])
  (.block 2 (.loop a168b0)))))
  (.reg [
    ⟨(some 22), .move (.t 3), none, false, 0, 0, false⟩,
    ⟨(some 23), .bin .add (.t 22) (.c (.int .i64 1)), none, false, 0, 0, false⟩,
    ⟨(some 3), .move (.t 23), none, false, 0, 0, false⟩])))
def a168b2 : ACode :=
  (.seq (.seq (.reg [
    ⟨(some 71), .move (.t 6), none, false, 0, 0, false⟩,
    ⟨(some 72), .move (.t 5), none, false, 0, 0, false⟩,
    ⟨(some 73), .bin .lss (.t 71) (.t 72), none, false, 0, 0, false⟩])
  (.cond (.t 73)
  .skip
  (.exit 6)))
  (.seq (.block 7 (.seq (.regD [
    ⟨(some 76), .fieldAddr 1 (.t 1), none, false, 0, 0, false⟩,
    ⟨(some 77), .load false 1 (.t 76), none, true, 1, 1, false⟩,
    ⟨(some 78), .move (.t 6), none, false, 2, 0, false⟩,
    ⟨(some 79), .idxAddr 3 (.t 77) (.t 78), none, false, 3, 7, false⟩,
    ⟨(some 80), .fieldAddr 0 (.t 79), none, false, 4, 15, false⟩,
    ⟨(some 81), .load false 1 (.t 80), none, true, 5, 31, false⟩,
    ⟨(some 82), .fieldAddr 1 (.t 1), none, false, 6, 0, false⟩,
    ⟨(some 83), .load false 1 (.t 82), none, true, 7, 64, false⟩,
    ⟨(some 84), .move (.t 5), none, false, 8, 0, true⟩,
    ⟨(some 85), .idxAddr 3 (.t 83) (.t 84), none, false, 9, 448, true⟩,
    ⟨(some 86), .fieldAddr 0 (.t 85), none, false, 10, 960, true⟩,
    ⟨(some 87), .load false 1 (.t 86), none, true, 11, 1984, true⟩,
    ⟨(some 88), .bin .eql (.t 81) (.t 87), none, false, 12, 4095, true⟩,
    ⟨(some 89), .move (.t 88), none, false, 13, 8191, true⟩,
    ⟨(some 90), .fieldAddr 1 (.t 1), (some (89, true)), false, 14, 16383, false⟩,
    ⟨(some 91), .load false 1 (.t 90), (some (89, true)), true, 15, 32767, false⟩,
    ⟨(some 92), .move (.t 6), (some (89, true)), false, 16, 16383, false⟩,
    ⟨(some 93), .idxAddr 3 (.t 91) (.t 92), (some (89, true)), false, 17, 131071, false⟩,
    ⟨(some 94), .fieldAddr 2 (.t 93), (some (89, true)), false, 18, 262143, false⟩,
    ⟨(some 95), .load false 1 (.t 94), (some (89, true)), true, 19, 524287, false⟩,
    ⟨(some 96), .fieldAddr 1 (.t 1), (some (89, true)), false, 20, 16383, false⟩,
    ⟨(some 97), .load false 1 (.t 96), (some (89, true)), true, 21, 1064959, false⟩,
    ⟨(some 98), .move (.t 5), (some (89, true)), false, 22, 16383, true⟩,
    ⟨(some 99), .idxAddr 3 (.t 97) (.t 98), (some (89, true)), false, 23, 7356415, true⟩,
    ⟨(some 100), .fieldAddr 2 (.t 99), (some (89, true)), false, 24, 15745023, true⟩,
    ⟨(some 101), .load false 1 (.t 100), (some (89, true)), true, 25, 32522239, true⟩,
    ⟨(some 102), .bin .eql (.t 95) (.t 101), (some (89, true)), false, 26, 67108863, true⟩,
    ⟨(some 103), .pick (.t 89) (.t 102) (.c (.bool false)), none, false, 27, 134217727, true⟩,
    ⟨(some 104), .move (.t 103), none, false, 28, 268435455, true⟩,
    ⟨(some 105), .fieldAddr 1 (.t 1), (some (104, true)), false, 29, 536870911, false⟩,
    ⟨(some 106), .load false 1 (.t 105), (some (104, true)), true, 30, 1073741823, false⟩,
    ⟨(some 107), .move (.t 6), (some (104, true)), false, 31, 536870911, false⟩,
    ⟨(some 108), .idxAddr 3 (.t 106) (.t 107), (some (104, true)), false, 32, 4294967295, false⟩,
    ⟨(some 109), .fieldAddr 1 (.t 108), (some (104, true)), false, 33, 8589934591, false⟩,
    ⟨(some 110), .load false 1 (.t 109), (some (104, true)), true, 34, 17179869183, false⟩,
    ⟨(some 111), .fieldAddr 1 (.t 1), (some (104, true)), false, 35, 536870911, false⟩,
    ⟨(some 112), .load false 1 (.t 111), (some (104, true)), true, 36, 34896609279, false⟩,
    ⟨(some 113), .move (.t 5), (some (104, true)), false, 37, 536870911, true⟩,
    ⟨(some 114), .idxAddr 3 (.t 112) (.t 113), (some (104, true)), false, 38, 241055039487, true⟩,
    ⟨(some 115), .fieldAddr 1 (.t 114), (some (104, true)), false, 39, 515932946431, true⟩,
    ⟨(some 116), .load false 1 (.t 115), (some (104, true)), true, 40, 1065688760319, true⟩,
    ⟨(some 117), .call (.f 213) [(.t 110), (.t 116)], (some (104, true)), true, 41, 2199023255551, true⟩,
    ⟨(some 118), .pick (.t 104) (.t 117) (.c (.bool false)), none, false, 42, 4398046511103, true⟩])
  (.cond (.t 118)
  (.seq (.reg [
    ⟨(some 2), .move (.c (.bool false)), none, false, 0, 0, false⟩])
  .ret)
  .skip)))
  (.reg [
    ⟨(some 74), .move (.t 6), none, false, 0, 0, false⟩,
    ⟨(some 75), .bin .add (.t 74) (.c (.int .i64 1)), none, false, 0, 0, false⟩,
    ⟨(some 6), .move (.t 75), none, false, 0, 0, false⟩])))
def a168b3 : ACode :=
  (.seq (.seq (.reg [
    ⟨(some 56), .move (.t 5), none, false, 0, 0, false⟩,
    ⟨(some 57), .fieldAddr 1 (.t 1), none, false, 0, 0, false⟩,
    ⟨(some 58), .load false 1 (.t 57), none, true, 0, 0, false⟩,
    ⟨(some 59), .lenL (.t 58), none, false, 0, 0, false⟩,
    ⟨(some 60), .bin .lss (.t 56) (.t 59), none, false, 0, 0, false⟩])
  (.cond (.t 60)
  .skip
  (.exit 4)))
  (.seq (.block 5 (.seq (.seq (.regD [
    ⟨(some 63), .load true 2 (.t 1), none, true, 0, 0, false⟩,
    ⟨(some 64), .fieldAddr 1 (.t 1), none, false, 1, 0, false⟩,
    ⟨(some 65), .load false 1 (.t 64), none, true, 2, 2, false⟩,
    ⟨(some 66), .move (.t 5), none, false, 3, 0, true⟩,
    ⟨(some 67), .idxAddr 3 (.t 65) (.t 66), none, false, 4, 14, true⟩,
    ⟨(some 68), .load true 3 (.t 67), none, true, 5, 30, true⟩,
    ⟨(some 69), .call (.f 212) [(.t 63), (.t 68)], none, true, 6, 63, true⟩,
    ⟨(some 70), .un .not (.t 69), none, false, 7, 127, true⟩])
  (.cond (.t 70)
  (.seq (.reg [
    ⟨(some 2), .move (.c (.bool false)), none, false, 0, 0, false⟩])
  .ret)
  .skip))
  (.seq (.reg [
    ⟨(some 6), .move (.c (.int .i64 0)), none, false, 0, 0, false⟩])
  (.block 6 (.loop a168b2)))))
  (.reg [
    ⟨(some 61), .move (.t 5), none, false, 0, 0, false⟩,
    ⟨(some 62), .bin .add (.t 61) (.c (.int .i64 1)), none, false, 0, 0, false⟩,
    ⟨(some 5), .move (.t 62), none, false, 0, 0, false⟩])))
def a168 : AFunc := ⟨1, 119, (.seq (.reg [
    ⟨(some 1), .box 2 (.t 0), none, true, 0, 0, false⟩,
    ⟨(some 2), .move (.c (.bool false)), none, false, 0, 0, false⟩])
  (.seq (.seq (.reg [
    ⟨(some 7), .fieldAddr 0 (.t 1), none, false, 0, 0, false⟩,
    ⟨(some 8), .load false 1 (.t 7), none, true, 0, 0, false⟩,
    ⟨(some 9), .lenL (.t 8), none, false, 0, 0, false⟩,
    ⟨(some 10), .bin .gtr (.t 9) (.c (.int .i64 64)), none, false, 0, 0, false⟩,
    ⟨(some 11), .move (.t 10), none, false, 0, 0, false⟩,
    ⟨(some 12), .fieldAddr 1 (.t 1), (some (11, false)), false, 0, 0, false⟩,
    ⟨(some 13), .load false 1 (.t 12), (some (11, false)), true, 0, 0, false⟩,
    ⟨(some 14), .lenL (.t 13), (some (11, false)), false, 0, 0, false⟩,
    ⟨(some 15), .bin .gtr (.t 14) (.c (.int .i64 256)), (some (11, false)), false, 0, 0, false⟩,
    ⟨(some 16), .pick (.t 11) (.c (.bool true)) (.t 15), none, false, 0, 0, false⟩])
  (.cond (.t 16)
  (.seq (.reg [
    ⟨(some 2), .move (.c (.bool false)), none, false, 0, 0, false⟩])
  .ret)
  .skip))
  (.seq (.seq (.reg [
    ⟨(some 3), .move (.c (.int .i64 0)), none, false, 0, 0, false⟩])
  (.block 0 (.loop a168b1)))
  (.seq (.seq (.reg [
    ⟨(some 5), .move (.c (.int .i64 0)), none, false, 0, 0, false⟩])
  (.block 4 (.loop a168b3)))
  (.seq (.reg [
    ⟨(some 2), .move (.c (.bool true)), none, false, 0, 0, false⟩])
  .ret))))), [.t 2]⟩
theorem fn168 : fnOf 168 = some a168 := by kernel_rfl
-- 169 madrigal/madrigalref04.Sorts
def a169b0 : ACode :=
  (.seq (.seq (.reg [
    ⟨(some 6), .move (.t 5), none, false, 0, 0, false⟩,
    ⟨(some 7), .move (.t 1), none, false, 0, 0, false⟩,
    ⟨(some 8), .lenL (.t 7), none, false, 0, 0, false⟩,
    ⟨(some 9), .bin .lss (.t 6) (.t 8), none, false, 0, 0, false⟩])
  (.cond (.t 9)
  .skip
  (.exit 0)))
  (.seq (.block 1 (.seq (.regD [
    ⟨(some 12), .move (.t 1), none, false, 0, 0, false⟩,
    ⟨(some 13), .move (.t 5), none, false, 1, 0, true⟩,
    ⟨(some 14), .idxAddr 1 (.t 12) (.t 13), none, false, 2, 3, true⟩,
    ⟨(some 15), .load false 1 (.t 14), none, true, 3, 7, true⟩,
    ⟨(some 16), .bin .lss (.t 15) (.c (.int .i64 0)), none, false, 4, 15, true⟩,
    ⟨(some 17), .move (.t 16), none, false, 5, 31, true⟩,
    ⟨(some 18), .move (.t 1), (some (17, false)), false, 6, 63, false⟩,
    ⟨(some 19), .move (.t 5), (some (17, false)), false, 7, 63, false⟩,
    ⟨(some 20), .idxAddr 1 (.t 18) (.t 19), (some (17, false)), false, 8, 255, false⟩,
    ⟨(some 21), .load false 1 (.t 20), (some (17, false)), true, 9, 511, false⟩,
    ⟨(some 22), .fieldAddr 0 (.t 2), (some (17, false)), false, 10, 63, true⟩,
    ⟨(some 23), .load false 1 (.t 22), (some (17, false)), true, 11, 1087, true⟩,
    ⟨(some 24), .lenL (.t 23), (some (17, false)), false, 12, 3135, true⟩,
    ⟨(some 25), .bin .geq (.t 21) (.t 24), (some (17, false)), false, 13, 8191, true⟩,
    ⟨(some 26), .pick (.t 17) (.c (.bool true)) (.t 25), none, false, 14, 16383, true⟩])
  (.cond (.t 26)
  (.seq (.reg [
    ⟨(some 4), .move (.c (.bool false)), none, false, 0, 0, false⟩])
  .ret)
  .skip)))
  (.reg [
    ⟨(some 10), .move (.t 5), none, false, 0, 0, false⟩,
    ⟨(some 11), .bin .add (.t 10) (.c (.int .i64 1)), none, false, 0, 0, false⟩,
    ⟨(some 5), .move (.t 11), none, false, 0, 0, false⟩])))
def a169 : AFunc := ⟨2, 27, (.seq (.reg [
    ⟨(some 2), .box 2 (.t 0), none, true, 0, 0, false⟩,
    ⟨(some 4), .move (.c (.bool false)), none, false, 0, 0, false⟩])
  (.seq (.seq (.reg [
    ⟨(some 5), .move (.c (.int .i64 0)), none, false, 0, 0, false⟩])
  (.block 0 (.loop a169b0)))
  (.seq (.reg [
    ⟨(some 4), .move (.c (.bool true)), none, false, 0, 0, false⟩])
  .ret))), [.t 4]⟩
theorem fn169 : fnOf 169 = some a169 := by kernel_rfl
-- 210 madrigal/madrigalref04.Name
def a210b0 : ACode :=
  (.seq (.seq (.reg [
    ⟨(some 4), .move (.t 3), none, false, 0, 0, false⟩,
    ⟨(some 5), .move (.t 0), none, false, 0, 0, false⟩,
    ⟨(some 6), .lenS (.t 5), none, false, 0, 0, false⟩,
    ⟨(some 7), .bin .lss (.t 4) (.t 6), none, false, 0, 0, false⟩])
  (.cond (.t 7)
  .skip
  (.exit 0)))
  (.seq (.block 1 (.seq (.reg [
    ⟨(some 10), .move (.t 0), none, false, 0, 0, false⟩,
    ⟨(some 11), .move (.t 3), none, false, 0, 0, false⟩,
    ⟨(some 12), .idxStr (.t 10) (.t 11), none, false, 0, 0, false⟩,
    ⟨(some 13), .bin .lss (.t 12) (.c (.int .u8 33)), none, false, 0, 0, false⟩,
    ⟨(some 14), .move (.t 13), none, false, 0, 0, false⟩,
    ⟨(some 15), .move (.t 0), (some (14, false)), false, 0, 0, false⟩,
    ⟨(some 16), .move (.t 3), (some (14, false)), false, 0, 0, false⟩,
    ⟨(some 17), .idxStr (.t 15) (.t 16), (some (14, false)), false, 0, 0, false⟩,
    ⟨(some 18), .bin .gtr (.t 17) (.c (.int .u8 126)), (some (14, false)), false, 0, 0, false⟩,
    ⟨(some 19), .pick (.t 14) (.c (.bool true)) (.t 18), none, false, 0, 0, false⟩,
    ⟨(some 20), .move (.t 19), none, false, 0, 0, false⟩,
    ⟨(some 21), .move (.t 0), (some (20, false)), false, 0, 0, false⟩,
    ⟨(some 22), .move (.t 3), (some (20, false)), false, 0, 0, false⟩,
    ⟨(some 23), .idxStr (.t 21) (.t 22), (some (20, false)), false, 0, 0, false⟩,
    ⟨(some 24), .bin .eql (.t 23) (.c (.int .u8 40)), (some (20, false)), false, 0, 0, false⟩,
    ⟨(some 25), .pick (.t 20) (.c (.bool true)) (.t 24), none, false, 0, 0, false⟩,
    ⟨(some 26), .move (.t 25), none, false, 0, 0, false⟩,
    ⟨(some 27), .move (.t 0), (some (26, false)), false, 0, 0, false⟩,
    ⟨(some 28), .move (.t 3), (some (26, false)), false, 0, 0, false⟩,
    ⟨(some 29), .idxStr (.t 27) (.t 28), (some (26, false)), false, 0, 0, false⟩,
    ⟨(some 30), .bin .eql (.t 29) (.c (.int .u8 41)), (some (26, false)), false, 0, 0, false⟩,
    ⟨(some 31), .pick (.t 26) (.c (.bool true)) (.t 30), none, false, 0, 0, false⟩,
    ⟨(some 32), .move (.t 31), none, false, 0, 0, false⟩,
    ⟨(some 33), .move (.t 0), (some (32, false)), false, 0, 0, false⟩,
    ⟨(some 34), .move (.t 3), (some (32, false)), false, 0, 0, false⟩,
    ⟨(some 35), .idxStr (.t 33) (.t 34), (some (32, false)), false, 0, 0, false⟩,
    ⟨(some 36), .bin .eql (.t 35) (.c (.int .u8 44)), (some (32, false)), false, 0, 0, false⟩,
    ⟨(some 37), .pick (.t 32) (.c (.bool true)) (.t 36), none, false, 0, 0, false⟩])
  (.cond (.t 37)
  (.seq (.reg [
    ⟨(some 2), .move (.c (.bool false)), none, false, 0, 0, false⟩])
  .ret)
  .skip)))
  (.reg [
    ⟨(some 8), .move (.t 3), none, false, 0, 0, false⟩,
    ⟨(some 9), .bin .add (.t 8) (.c (.int .i64 1)), none, false, 0, 0, false⟩,
    ⟨(some 3), .move (.t 9), none, false, 0, 0, false⟩])))
def a210 : AFunc := ⟨1, 46, (.seq (.reg [
    ⟨(some 2), .move (.c (.bool false)), none, false, 0, 0, false⟩])
  (.seq (.seq (.reg [
    ⟨(some 3), .move (.c (.int .i64 0)), none, false, 0, 0, false⟩])
  (.block 0 (.loop a210b0)))
  (.seq (.reg [
    ⟨(some 38), .move (.t 0), none, false, 0, 0, false⟩,
    ⟨(some 39), .lenS (.t 38), none, false, 0, 0, false⟩,
    ⟨(some 40), .bin .geq (.t 39) (.c (.int .i64 1)), none, false, 0, 0, false⟩,
    ⟨(some 41), .move (.t 40), none, false, 0, 0, false⟩,
    ⟨(some 42), .move (.t 0), (some (41, true)), false, 0, 0, false⟩,
    ⟨(some 43), .lenS (.t 42), (some (41, true)), false, 0, 0, false⟩,
    ⟨(some 44), .bin .leq (.t 43) (.c (.int .i64 32)), (some (41, true)), false, 0, 0, false⟩,
    ⟨(some 45), .pick (.t 41) (.t 44) (.c (.bool false)), none, false, 0, 0, false⟩,
    ⟨(some 2), .move (.t 45), none, false, 0, 0, false⟩])
  .ret))), [.t 2]⟩
theorem fn210 : fnOf 210 = some a210 := by kernel_rfl
-- 211 madrigal/madrigalref04.Blanks
def a211b0 : ACode :=
  (.seq (.seq (.reg [
    ⟨(some 5), .move (.t 4), none, false, 0, 0, false⟩,
    ⟨(some 6), .move (.t 0), none, false, 0, 0, false⟩,
    ⟨(some 7), .lenS (.t 6), none, false, 0, 0, false⟩,
    ⟨(some 8), .bin .lss (.t 5) (.t 7), none, false, 0, 0, false⟩])
  (.cond (.t 8)
  .skip
  (.exit 0)))
  (.seq (.block 1 (.seq (.reg [
    ⟨(some 11), .move (.t 0), none, false, 0, 0, false⟩,
    ⟨(some 12), .move (.t 4), none, false, 0, 0, false⟩,
    ⟨(some 13), .idxStr (.t 11) (.t 12), none, false, 0, 0, false⟩,
    ⟨(some 14), .bin .eql (.t 13) (.c (.int .u8 95)), none, false, 0, 0, false⟩])
  (.cond (.t 14)
  (.reg [
    ⟨(some 15), .move (.t 3), none, false, 0, 0, false⟩,
    ⟨(some 16), .bin .add (.t 15) (.c (.int .i64 1)), none, false, 0, 0, false⟩,
    ⟨(some 3), .move (.t 16), none, false, 0, 0, false⟩])
  .skip)))
  (.reg [
    ⟨(some 9), .move (.t 4), none, false, 0, 0, false⟩,
    ⟨(some 10), .bin .add (.t 9) (.c (.int .i64 1)), none, false, 0, 0, false⟩,
    ⟨(some 4), .move (.t 10), none, false, 0, 0, false⟩])))
def a211 : AFunc := ⟨1, 18, (.seq (.reg [
    ⟨(some 2), .move (.c (.int .i64 0)), none, false, 0, 0, false⟩])
  (.seq (.reg [
    ⟨(some 3), .move (.c (.int .i64 0)), none, false, 0, 0, false⟩])
  (.seq (.seq (.reg [
    ⟨(some 4), .move (.c (.int .i64 0)), none, false, 0, 0, false⟩])
  (.block 0 (.loop a211b0)))
  (.seq (.reg [
    ⟨(some 17), .move (.t 3), none, false, 0, 0, false⟩,
    ⟨(some 2), .move (.t 17), none, false, 0, 0, false⟩])
  .ret)))), [.t 2]⟩
theorem fn211 : fnOf 211 = some a211 := by kernel_rfl
-- 212 madrigal/madrigalref04.op
def a212 : AFunc := ⟨2, 48, (.seq (.reg [
    ⟨(some 2), .box 2 (.t 0), none, true, 0, 0, false⟩,
    ⟨(some 3), .box 3 (.t 1), none, true, 0, 0, false⟩,
    ⟨(some 4), .move (.c (.bool false)), none, false, 0, 0, false⟩])
  (.seq (.reg [
    ⟨(some 6), .fieldAddr 0 (.t 3), none, false, 0, 0, false⟩,
    ⟨(some 7), .load false 1 (.t 6), none, true, 0, 0, false⟩,
    ⟨(some 8), .call (.f 211) [(.t 7)], none, true, 0, 0, false⟩,
    ⟨(some 5), .move (.t 8), none, false, 0, 0, false⟩])
  (.seq (.seq (.reg [
    ⟨(some 9), .fieldAddr 0 (.t 3), none, false, 0, 0, false⟩,
    ⟨(some 10), .load false 1 (.t 9), none, true, 0, 0, false⟩,
    ⟨(some 11), .call (.f 210) [(.t 10)], none, true, 0, 0, false⟩,
    ⟨(some 12), .un .not (.t 11), none, false, 0, 0, false⟩,
    ⟨(some 13), .move (.t 12), none, false, 0, 0, false⟩,
    ⟨(some 14), .move (.t 5), (some (13, false)), false, 0, 0, false⟩,
    ⟨(some 15), .fieldAddr 0 (.t 3), (some (13, false)), false, 0, 0, false⟩,
    ⟨(some 16), .load false 1 (.t 15), (some (13, false)), true, 0, 0, false⟩,
    ⟨(some 17), .lenS (.t 16), (some (13, false)), false, 0, 0, false⟩,
    ⟨(some 18), .bin .eql (.t 14) (.t 17), (some (13, false)), false, 0, 0, false⟩,
    ⟨(some 19), .pick (.t 13) (.c (.bool true)) (.t 18), none, false, 0, 0, false⟩,
    ⟨(some 20), .move (.t 19), none, false, 0, 0, false⟩,
    ⟨(some 21), .move (.t 5), (some (20, false)), false, 0, 0, false⟩,
    ⟨(some 22), .bin .gtr (.t 21) (.c (.int .i64 0)), (some (20, false)), false, 0, 0, false⟩,
    ⟨(some 23), .move (.t 22), (some (20, false)), false, 0, 0, false⟩,
    ⟨(some 24), .move (.t 5), (some (23, true)), false, 0, 0, false⟩,
    ⟨(some 25), .fieldAddr 1 (.t 3), (some (23, true)), false, 0, 0, false⟩,
    ⟨(some 26), .load false 1 (.t 25), (some (23, true)), true, 0, 0, false⟩,
    ⟨(some 27), .lenL (.t 26), (some (23, true)), false, 0, 0, false⟩,
    ⟨(some 28), .bin .neq (.t 24) (.t 27), (some (23, true)), false, 0, 0, false⟩,
    ⟨(some 29), .pick (.t 23) (.t 28) (.c (.bool false)), (some (20, false)), false, 0, 0, false⟩,
    ⟨(some 30), .pick (.t 20) (.c (.bool true)) (.t 29), none, false, 0, 0, false⟩])
  (.cond (.t 30)
  (.seq (.reg [
    ⟨(some 4), .move (.c (.bool false)), none, false, 0, 0, false⟩])
  .ret)
  .skip))
  (.seq (.reg [
    ⟨(some 31), .fieldAddr 1 (.t 3), none, false, 0, 0, false⟩,
    ⟨(some 32), .load false 1 (.t 31), none, true, 0, 0, false⟩,
    ⟨(some 33), .lenL (.t 32), none, false, 0, 0, false⟩,
    ⟨(some 34), .bin .leq (.t 33) (.c (.int .i64 8)), none, false, 0, 0, false⟩,
    ⟨(some 35), .move (.t 34), none, false, 0, 0, false⟩,
    ⟨(some 36), .load true 2 (.t 2), (some (35, true)), true, 0, 0, false⟩,
    ⟨(some 37), .fieldAddr 1 (.t 3), (some (35, true)), false, 0, 0, false⟩,
    ⟨(some 38), .load false 1 (.t 37), (some (35, true)), true, 0, 0, false⟩,
    ⟨(some 39), .call (.f 169) [(.t 36), (.t 38)], (some (35, true)), true, 0, 0, false⟩,
    ⟨(some 40), .pick (.t 35) (.t 39) (.c (.bool false)), none, false, 0, 0, false⟩,
    ⟨(some 41), .move (.t 40), none, false, 0, 0, false⟩,
    ⟨(some 42), .load true 2 (.t 2), (some (41, true)), true, 0, 0, false⟩,
    ⟨(some 43), .fieldAddr 2 (.t 3), (some (41, true)), false, 0, 0, false⟩,
    ⟨(some 44), .load false 1 (.t 43), (some (41, true)), true, 0, 0, false⟩,
    ⟨(some 45), .buildSlice 1 (.int .i64 0) 1 [(0, (.t 44))], (some (41, true)), false, 0, 0, false⟩,
    ⟨(some 46), .call (.f 169) [(.t 42), (.t 45)], (some (41, true)), true, 0, 0, false⟩,
    ⟨(some 47), .pick (.t 41) (.t 46) (.c (.bool false)), none, false, 0, 0, false⟩,
    ⟨(some 4), .move (.t 47), none, false, 0, 0, false⟩])
  .ret)))), [.t 4]⟩
theorem fn212 : fnOf 212 = some a212 := by kernel_rfl
-- 213 madrigal/madrigalref04.SameInts
def a213b0 : ACode :=
  (.seq (.seq (.reg [
    ⟨(some 11), .move (.t 5), none, false, 0, 0, false⟩,
    ⟨(some 12), .move (.t 0), none, false, 0, 0, false⟩,
    ⟨(some 13), .lenL (.t 12), none, false, 0, 0, false⟩,
    ⟨(some 14), .bin .lss (.t 11) (.t 13), none, false, 0, 0, false⟩])
  (.cond (.t 14)
  .skip
  (.exit 0)))
  (.seq (.block 1 (.seq (.regD [
    ⟨(some 17), .move (.t 0), none, false, 0, 0, false⟩,
    ⟨(some 18), .move (.t 5), none, false, 1, 0, false⟩,
    ⟨(some 19), .idxAddr 1 (.t 17) (.t 18), none, false, 2, 3, false⟩,
    ⟨(some 20), .load false 1 (.t 19), none, true, 3, 7, false⟩,
    ⟨(some 21), .move (.t 1), none, false, 4, 0, false⟩,
    ⟨(some 22), .move (.t 5), none, false, 5, 0, true⟩,
    ⟨(some 23), .idxAddr 1 (.t 21) (.t 22), none, false, 6, 48, true⟩,
    ⟨(some 24), .load false 1 (.t 23), none, true, 7, 112, true⟩,
    ⟨(some 25), .bin .neq (.t 20) (.t 24), none, false, 8, 255, true⟩])
  (.cond (.t 25)
  (.seq (.reg [
    ⟨(some 4), .move (.c (.bool false)), none, false, 0, 0, false⟩])
  .ret)
  .skip)))
  (.reg [
    ⟨(some 15), .move (.t 5), none, false, 0, 0, false⟩,
    ⟨(some 16), .bin .add (.t 15) (.c (.int .i64 1)), none, false, 0, 0, false⟩,
    ⟨(some 5), .move (.t 16), none, false, 0, 0, false⟩])))
def a213 : AFunc := ⟨2, 26, (.seq (.reg [
    ⟨(some 4), .move (.c (.bool false)), none, false, 0, 0, false⟩])
  (.seq (.seq (.reg [
    ⟨(some 6), .move (.t 0), none, false, 0, 0, false⟩,
    ⟨(some 7), .lenL (.t 6), none, false, 0, 0, false⟩,
    ⟨(some 8), .move (.t 1), none, false, 0, 0, false⟩,
    ⟨(some 9), .lenL (.t 8), none, false, 0, 0, false⟩,
    ⟨(some 10), .bin .neq (.t 7) (.t 9), none, false, 0, 0, false⟩])
  (.cond (.t 10)
  (.seq (.reg [
    ⟨(some 4), .move (.c (.bool false)), none, false, 0, 0, false⟩])
  .ret)
  .skip))
  (.seq (.seq (.reg [
    ⟨(some 5), .move (.c (.int .i64 0)), none, false, 0, 0, false⟩])
  (.block 0 (.loop a213b0)))
  (.seq (.reg [
    ⟨(some 4), .move (.c (.bool true)), none, false, 0, 0, false⟩])
  .ret)))), [.t 4]⟩
theorem fn213 : fnOf 213 = some a213 := by kernel_rfl


end Go.Proofs.Tryz
