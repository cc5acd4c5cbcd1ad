/- Texts of the proof, one behind the other: ValFnsR2, ValR3, ValR4, ValR5, ValFnsS, ValS1. -/
import Derived.Test.YtekepgfmgeophaaGreatPartAJ
import Derived.Test.YtekepgfmgeophaaGreatPartAM
set_option linter.unusedVariables false
set_option linter.unusedSimpArgs false
/- Functions of the specification as the evaluator has them: printed (counting). -/
namespace Go.Proofs.Tryz
open Go Go.AE
-- 58 madrigal/madrigalref09.Count
def a58 : AFunc := ⟨3, 30, (.seq (.reg [
    ⟨(some 3), .box 2 (.t 0), none, true, 0, 0, false⟩,
    ⟨(some 6), .move (.c (.int .i64 0)), none, false, 0, 0, false⟩,
    ⟨(some 7), .move (.c (.int .i64 0)), none, false, 0, 0, false⟩])
  (.seq (.reg [
    ⟨(some 9), .load true 2 (.t 3), none, true, 0, 0, false⟩,
    ⟨(some 10), .move (.t 1), none, false, 0, 0, false⟩,
    ⟨(some 11), .call (.f 92) [(.t 9), (.t 10)], none, true, 0, 0, false⟩,
    ⟨(some 8), .move (.t 11), none, false, 0, 0, false⟩])
  (.seq (.seq (.reg [
    ⟨(some 12), .move (.t 8), none, false, 0, 0, false⟩,
    ⟨(some 13), .bin .neq (.t 12) (.c (.int .i64 0)), none, false, 0, 0, false⟩])
  (.cond (.t 13)
  (.seq (.reg [
    ⟨(some 14), .move (.t 8), none, false, 0, 0, false⟩,
    ⟨(some 6), .move (.c (.int .i64 0)), none, false, 0, 0, false⟩,
    ⟨(some 7), .move (.t 14), none, false, 0, 0, false⟩])
  .ret)
  .skip))
  (.seq (.seq (.reg [
    ⟨(some 15), .move (.t 2), none, false, 0, 0, false⟩,
    ⟨(some 16), .bin .lss (.t 15) (.c (.int .i64 0)), none, false, 0, 0, false⟩,
    ⟨(some 17), .move (.t 16), none, false, 0, 0, false⟩,
    ⟨(some 18), .move (.t 2), (some (17, false)), false, 0, 0, false⟩,
    ⟨(some 19), .bin .gtr (.t 18) (.c (.int .i64 60)), (some (17, false)), false, 0, 0, false⟩,
    ⟨(some 20), .pick (.t 17) (.c (.bool true)) (.t 19), none, false, 0, 0, false⟩])
  (.cond (.t 20)
  (.seq (.reg [
    ⟨(some 6), .move (.c (.int .i64 0)), none, false, 0, 0, false⟩,
    ⟨(some 7), .move (.c (.int .i64 1)), none, false, 0, 0, false⟩])
  .ret)
  .skip))
  (.seq (.reg [
    ⟨(some 21), .load true 2 (.t 3), none, true, 0, 0, false⟩,
    ⟨(some 22), .move (.t 2), none, false, 0, 0, false⟩,
    ⟨(some 23), .call (.f 93) [(.t 21), (.t 22)], none, true, 0, 0, false⟩,
    ⟨(some 24), .move (.t 2), none, false, 0, 0, false⟩,
    ⟨(some 25), .idxAddr 1 (.t 23) (.t 24), none, false, 0, 0, false⟩,
    ⟨(some 26), .load false 1 (.t 25), none, true, 0, 0, false⟩,
    ⟨(some 27), .move (.t 1), none, false, 0, 0, false⟩,
    ⟨(some 28), .idxAddr 1 (.t 26) (.t 27), none, false, 0, 0, false⟩,
    ⟨(some 29), .load false 1 (.t 28), none, true, 0, 0, false⟩,
    ⟨(some 6), .move (.t 29), none, false, 0, 0, false⟩,
    ⟨(some 7), .move (.c (.int .i64 0)), none, false, 0, 0, false⟩])
  .ret))))), [.t 6, .t 7]⟩
theorem fn58 : fnOf 58 = some a58 := by kernel_rfl
-- 92 madrigal/madrigalref09.asked
def a92 : AFunc := ⟨2, 20, (.seq (.reg [
    ⟨(some 2), .box 2 (.t 0), none, true, 0, 0, false⟩,
    ⟨(some 4), .move (.c (.int .i64 0)), none, false, 0, 0, false⟩])
  (.seq (.reg [
    ⟨(some 6), .load true 2 (.t 2), none, true, 0, 0, false⟩,
    ⟨(some 7), .call (.f 97) [(.t 6)], none, true, 0, 0, false⟩,
    ⟨(some 5), .move (.t 7), none, false, 0, 0, false⟩])
  (.seq (.seq (.reg [
    ⟨(some 8), .move (.t 5), none, false, 0, 0, false⟩,
    ⟨(some 9), .bin .neq (.t 8) (.c (.int .i64 0)), none, false, 0, 0, false⟩])
  (.cond (.t 9)
  (.seq (.reg [
    ⟨(some 10), .move (.t 5), none, false, 0, 0, false⟩,
    ⟨(some 4), .move (.t 10), none, false, 0, 0, false⟩])
  .ret)
  .skip))
  (.seq (.seq (.reg [
    ⟨(some 11), .move (.t 1), none, false, 0, 0, false⟩,
    ⟨(some 12), .bin .lss (.t 11) (.c (.int .i64 0)), none, false, 0, 0, false⟩,
    ⟨(some 13), .move (.t 12), none, false, 0, 0, false⟩,
    ⟨(some 14), .move (.t 1), (some (13, false)), false, 0, 0, false⟩,
    ⟨(some 15), .fieldAddr 0 (.t 2), (some (13, false)), false, 0, 0, false⟩,
    ⟨(some 16), .load false 1 (.t 15), (some (13, false)), true, 0, 0, false⟩,
    ⟨(some 17), .lenL (.t 16), (some (13, false)), false, 0, 0, false⟩,
    ⟨(some 18), .bin .geq (.t 14) (.t 17), (some (13, false)), false, 0, 0, false⟩,
    ⟨(some 19), .pick (.t 13) (.c (.bool true)) (.t 18), none, false, 0, 0, false⟩])
  (.cond (.t 19)
  (.seq (.reg [
    ⟨(some 4), .move (.c (.int .i64 1)), none, false, 0, 0, false⟩])
  .ret)
  .skip))
  (.seq (.reg [
    ⟨(some 4), .move (.c (.int .i64 0)), none, false, 0, 0, false⟩])
  .ret))))), [.t 4]⟩
theorem fn92 : fnOf 92 = some a92 := by kernel_rfl
-- 93 madrigal/madrigalref09.table
def a93b0 : ACode :=
  (.seq (.seq (.reg [
    ⟨(some 24), .move (.t 8), none, false, 0, 0, false⟩,
    ⟨(some 25), .fieldAddr 1 (.t 2), none, false, 0, 0, false⟩,
    ⟨(some 26), .load false 1 (.t 25), none, true, 0, 0, false⟩,
    ⟨(some 27), .lenL (.t 26), none, false, 0, 0, false⟩,
    ⟨(some 28), .bin .lss (.t 24) (.t 27), none, false, 0, 0, false⟩])
  (.cond (.t 28)
  .skip
  (.exit 2)))
  (.seq (.block 3 (.seq (.reg [
    ⟨(some 31), .fieldAddr 1 (.t 2), none, false, 0, 0, false⟩,
    ⟨(some 32), .load false 1 (.t 31), none, true, 0, 0, false⟩,
    ⟨(some 33), .move (.t 8), none, false, 0, 0, false⟩,
    ⟨(some 34), .idxAddr 3 (.t 32) (.t 33), none, false, 0, 0, false⟩,
    ⟨(some 35), .fieldAddr 1 (.t 34), none, false, 0, 0, false⟩,
    ⟨(some 36), .load false 1 (.t 35), none, true, 0, 0, false⟩,
    ⟨(some 37), .move (.t 6), none, false, 0, 0, false⟩,
    ⟨(some 38), .bin .sub (.t 37) (.c (.int .i64 1)), none, false, 0, 0, false⟩,
    ⟨(some 39), .move (.t 5), none, false, 0, 0, false⟩,
    ⟨(some 40), .call (.f 166) [(.t 36), (.t 38), (.t 39)], none, true, 0, 0, false⟩,
    ⟨(some 9), .move (.t 40), none, false, 0, 0, false⟩])
  (.regD [
    ⟨(some 41), .move (.t 7), none, false, 0, 0, false⟩,
    ⟨(some 42), .fieldAddr 1 (.t 2), none, false, 1, 0, false⟩,
    ⟨(some 43), .load false 1 (.t 42), none, true, 2, 2, false⟩,
    ⟨(some 44), .move (.t 8), none, false, 3, 0, false⟩,
    ⟨(some 45), .idxAddr 3 (.t 43) (.t 44), none, false, 4, 14, false⟩,
    ⟨(some 46), .fieldAddr 2 (.t 45), none, false, 5, 30, false⟩,
    ⟨(some 47), .load false 1 (.t 46), none, true, 6, 62, false⟩,
    ⟨(some 48), .move (.t 7), none, false, 7, 0, false⟩,
    ⟨(some 49), .fieldAddr 1 (.t 2), none, false, 8, 0, false⟩,
    ⟨(some 50), .load false 1 (.t 49), none, true, 9, 256, false⟩,
    ⟨(some 51), .move (.t 8), none, false, 10, 0, false⟩,
    ⟨(some 52), .idxAddr 3 (.t 50) (.t 51), none, false, 11, 1792, false⟩,
    ⟨(some 53), .fieldAddr 2 (.t 52), none, false, 12, 3840, false⟩,
    ⟨(some 54), .load false 1 (.t 53), none, true, 13, 7936, false⟩,
    ⟨(some 55), .idxAddr 1 (.t 48) (.t 54), none, false, 14, 16256, false⟩,
    ⟨(some 56), .load false 1 (.t 55), none, true, 15, 32640, false⟩,
    ⟨(some 57), .move (.t 9), none, false, 16, 0, true⟩,
    ⟨(some 58), .bin .add (.t 56) (.t 57), none, false, 17, 130944, true⟩,
    ⟨(some 59), .call (.f 145) [(.t 58)], none, true, 18, 262016, true⟩,
    ⟨(some 60), .idxAddr 1 (.t 41) (.t 47), none, false, 19, 524287, true⟩,
    ⟨none, .store 1 (.t 60) (.t 59), none, true, 20, 1048575, true⟩])))
  (.reg [
    ⟨(some 29), .move (.t 8), none, false, 0, 0, false⟩,
    ⟨(some 30), .bin .add (.t 29) (.c (.int .i64 1)), none, false, 0, 0, false⟩,
    ⟨(some 8), .move (.t 30), none, false, 0, 0, false⟩])))
def a93b1 : ACode :=
  (.seq (.seq (.reg [
    ⟨(some 15), .move (.t 6), none, false, 0, 0, false⟩,
    ⟨(some 16), .move (.t 1), none, false, 0, 0, false⟩,
    ⟨(some 17), .bin .leq (.t 15) (.t 16), none, false, 0, 0, false⟩])
  (.cond (.t 17)
  .skip
  (.exit 0)))
  (.seq (.block 1 (.seq (.reg [
    ⟨(some 20), .fieldAddr 0 (.t 2), none, false, 0, 0, false⟩,
    ⟨(some 21), .load false 1 (.t 20), none, true, 0, 0, false⟩,
    ⟨(some 22), .lenL (.t 21), none, false, 0, 0, false⟩,
    ⟨(some 23), .makeSlice 1 (.int .i64 0) 8 (.t 22) (.t 22), none, true, 0, 0, false⟩,
    ⟨(some 7), .move (.t 23), none, false, 0, 0, false⟩])
  (.seq (.seq (.reg [
    ⟨(some 8), .move (.c (.int .i64 0)), none, false, 0, 0, false⟩])
  (.block 2 (.loop a93b0)))
  (.reg [
    ⟨(some 61), .move (.t 5), none, false, 0, 0, false⟩,
    ⟨(some 62), .move (.t 7), none, false, 0, 0, false⟩,
    ⟨(some 63), .buildSlice 1 (.slice 0 [] .nil) 1 [(0, (.t 62))], none, false, 0, 0, false⟩,
    ⟨(some 64), .append 1 24 (.t 61) (.t 63), none, true, 0, 0, false⟩,
    ⟨(some 5), .move (.t 64), none, false, 0, 0, false⟩]))))
  (.reg [
    ⟨(some 18), .move (.t 6), none, false, 0, 0, false⟩,
    ⟨(some 19), .bin .add (.t 18) (.c (.int .i64 1)), none, false, 0, 0, false⟩,
    ⟨(some 6), .move (.t 19), none, false, 0, 0, false⟩])))
def a93 : AFunc := ⟨2, 66, (.seq (.reg [
    ⟨(some 2), .box 2 (.t 0), none, true, 0, 0, false⟩,
    ⟨(some 4), .move (.c (.slice 0 [] .nil)), none, false, 0, 0, false⟩])
  (.seq (.reg [
    ⟨(some 10), .fieldAddr 0 (.t 2), none, false, 0, 0, false⟩,
    ⟨(some 11), .load false 1 (.t 10), none, true, 0, 0, false⟩,
    ⟨(some 12), .lenL (.t 11), none, false, 0, 0, false⟩,
    ⟨(some 13), .makeSlice 1 (.int .i64 0) 8 (.t 12) (.t 12), none, true, 0, 0, false⟩,
    ⟨(some 14), .buildSlice 1 (.slice 0 [] .nil) 1 [(0, (.t 13))], none, false, 0, 0, false⟩,
    ⟨(some 5), .move (.t 14), none, false, 0, 0, false⟩])
  (.seq (.seq (.reg [
    ⟨(some 6), .move (.c (.int .i64 1)), none, false, 0, 0, false⟩])
  (.block 0 (.loop a93b1)))
  (.seq (.reg [
    ⟨(some 65), .move (.t 5), none, false, 0, 0, false⟩,
    ⟨(some 4), .move (.t 65), none, false, 0, 0, false⟩])
  .ret)))), [.t 4]⟩
theorem fn93 : fnOf 93 = some a93 := by kernel_rfl
-- 145 madrigal/madrigalref09.capped
def a145 : AFunc := ⟨1, 6, (.seq (.reg [
    ⟨(some 2), .move (.c (.int .i64 0)), none, false, 0, 0, false⟩])
  (.seq (.seq (.reg [
    ⟨(some 3), .move (.t 0), none, false, 0, 0, false⟩,
    ⟨(some 4), .bin .gtr (.t 3) (.c (.int .i64 1099511627776)), none, false, 0, 0, false⟩])
  (.cond (.t 4)
  (.seq (.reg [
    ⟨(some 2), .move (.c (.int .i64 1099511627776)), none, false, 0, 0, false⟩])
  .ret)
  .skip))
  (.seq (.reg [
    ⟨(some 5), .move (.t 0), none, false, 0, 0, false⟩,
    ⟨(some 2), .move (.t 5), none, false, 0, 0, false⟩])
  .ret))), [.t 2]⟩
theorem fn145 : fnOf 145 = some a145 := by kernel_rfl
-- 166 madrigal/madrigalref09.ways
def a166b0 : ACode :=
  (.seq (.seq (.reg [
    ⟨(some 41), .move (.t 11), none, false, 0, 0, false⟩,
    ⟨(some 42), .move (.t 10), none, false, 0, 0, false⟩,
    ⟨(some 43), .bin .leq (.t 41) (.t 42), none, false, 0, 0, false⟩,
    ⟨(some 44), .move (.t 43), none, false, 0, 0, false⟩,
    ⟨(some 45), .move (.t 11), (some (44, true)), false, 0, 0, false⟩,
    ⟨(some 46), .move (.t 2), (some (44, true)), false, 0, 0, false⟩,
    ⟨(some 47), .lenL (.t 46), (some (44, true)), false, 0, 0, false⟩,
    ⟨(some 48), .bin .lss (.t 45) (.t 47), (some (44, true)), false, 0, 0, false⟩,
    ⟨(some 49), .pick (.t 44) (.t 48) (.c (.bool false)), none, false, 0, 0, false⟩])
  (.cond (.t 49)
  .skip
  (.exit 4)))
  (.seq (.block 5 (.regD [
    ⟨(some 52), .move (.t 9), none, false, 0, 0, false⟩,
    ⟨(some 53), .move (.t 10), none, false, 1, 0, false⟩,
    ⟨(some 54), .move (.t 9), none, false, 2, 0, false⟩,
    ⟨(some 55), .move (.t 10), none, false, 3, 0, false⟩,
    ⟨(some 56), .idxAddr 1 (.t 54) (.t 55), none, false, 4, 12, false⟩,
    ⟨(some 57), .load false 1 (.t 56), none, true, 5, 28, false⟩,
    ⟨(some 58), .move (.t 2), none, false, 6, 0, false⟩,
    ⟨(some 59), .move (.t 11), none, false, 7, 0, false⟩,
    ⟨(some 60), .idxAddr 1 (.t 58) (.t 59), none, false, 8, 192, false⟩,
    ⟨(some 61), .load false 1 (.t 60), none, true, 9, 448, false⟩,
    ⟨(some 62), .move (.t 0), none, false, 10, 0, false⟩,
    ⟨(some 63), .move (.t 8), none, false, 11, 0, false⟩,
    ⟨(some 64), .idxAddr 1 (.t 62) (.t 63), none, false, 12, 3072, false⟩,
    ⟨(some 65), .load false 1 (.t 64), none, true, 13, 7168, false⟩,
    ⟨(some 66), .idxAddr 1 (.t 61) (.t 65), none, false, 14, 16320, false⟩,
    ⟨(some 67), .load false 1 (.t 66), none, true, 15, 32704, false⟩,
    ⟨(some 68), .move (.t 7), none, false, 16, 0, false⟩,
    ⟨(some 69), .move (.t 10), none, false, 17, 0, false⟩,
    ⟨(some 70), .move (.t 11), none, false, 18, 0, true⟩,
    ⟨(some 71), .bin .sub (.t 69) (.t 70), none, false, 19, 393216, true⟩,
    ⟨(some 72), .idxAddr 1 (.t 68) (.t 71), none, false, 20, 983040, true⟩,
    ⟨(some 73), .load false 1 (.t 72), none, true, 21, 2031616, true⟩,
    ⟨(some 74), .call (.f 174) [(.t 67), (.t 73)], none, true, 22, 4194240, true⟩,
    ⟨(some 75), .bin .add (.t 57) (.t 74), none, false, 23, 8388604, true⟩,
    ⟨(some 76), .call (.f 145) [(.t 75)], none, true, 24, 16777212, true⟩,
    ⟨(some 77), .idxAddr 1 (.t 52) (.t 53), none, false, 25, 33554431, true⟩,
    ⟨none, .store 1 (.t 77) (.t 76), none, true, 26, 67108863, true⟩]))
  (.reg [
    ⟨(some 50), .move (.t 11), none, false, 0, 0, false⟩,
    ⟨(some 51), .bin .add (.t 50) (.c (.int .i64 1)), none, false, 0, 0, false⟩,
    ⟨(some 11), .move (.t 51), none, false, 0, 0, false⟩])))
def a166b1 : ACode :=
  (.seq (.seq (.reg [
    ⟨(some 36), .move (.t 10), none, false, 0, 0, false⟩,
    ⟨(some 37), .move (.t 1), none, false, 0, 0, false⟩,
    ⟨(some 38), .bin .leq (.t 36) (.t 37), none, false, 0, 0, false⟩])
  (.cond (.t 38)
  .skip
  (.exit 2)))
  (.seq (.block 3 (.seq (.reg [
    ⟨(some 11), .move (.c (.int .i64 1)), none, false, 0, 0, false⟩])
  (.block 4 (.loop a166b0))))
  (.reg [
    ⟨(some 39), .move (.t 10), none, false, 0, 0, false⟩,
    ⟨(some 40), .bin .add (.t 39) (.c (.int .i64 1)), none, false, 0, 0, false⟩,
    ⟨(some 10), .move (.t 40), none, false, 0, 0, false⟩])))
def a166b2 : ACode :=
  (.seq (.seq (.reg [
    ⟨(some 29), .move (.t 8), none, false, 0, 0, false⟩,
    ⟨(some 30), .bin .geq (.t 29) (.c (.int .i64 0)), none, false, 0, 0, false⟩])
  (.cond (.t 30)
  .skip
  (.exit 0)))
  (.seq (.block 1 (.seq (.reg [
    ⟨(some 33), .move (.t 1), none, false, 0, 0, false⟩,
    ⟨(some 34), .bin .add (.t 33) (.c (.int .i64 1)), none, false, 0, 0, false⟩,
    ⟨(some 35), .makeSlice 1 (.int .i64 0) 8 (.t 34) (.t 34), none, true, 0, 0, false⟩,
    ⟨(some 9), .move (.t 35), none, false, 0, 0, false⟩])
  (.seq (.seq (.reg [
    ⟨(some 10), .move (.c (.int .i64 0)), none, false, 0, 0, false⟩])
  (.block 2 (.loop a166b1)))
  (.reg [
    ⟨(some 78), .move (.t 9), none, false, 0, 0, false⟩,
    ⟨(some 7), .move (.t 78), none, false, 0, 0, false⟩]))))
  (.reg [
    ⟨(some 31), .move (.t 8), none, false, 0, 0, false⟩,
    ⟨(some 32), .bin .sub (.t 31) (.c (.int .i64 1)), none, false, 0, 0, false⟩,
    ⟨(some 8), .move (.t 32), none, false, 0, 0, false⟩])))
def a166 : AFunc := ⟨3, 83, (.seq (.reg [
    ⟨(some 6), .move (.c (.int .i64 0)), none, false, 0, 0, false⟩])
  (.seq (.seq (.reg [
    ⟨(some 12), .move (.t 0), none, false, 0, 0, false⟩,
    ⟨(some 13), .lenL (.t 12), none, false, 0, 0, false⟩,
    ⟨(some 14), .bin .eql (.t 13) (.c (.int .i64 0)), none, false, 0, 0, false⟩])
  (.cond (.t 14)
  (.seq (.seq (.reg [
    ⟨(some 15), .move (.t 1), none, false, 0, 0, false⟩,
    ⟨(some 16), .bin .eql (.t 15) (.c (.int .i64 0)), none, false, 0, 0, false⟩])
  (.cond (.t 16)
  (.seq (.reg [
    ⟨(some 6), .move (.c (.int .i64 1)), none, false, 0, 0, false⟩])
  .ret)
  .skip))
  (.seq (.reg [
    ⟨(some 6), .move (.c (.int .i64 0)), none, false, 0, 0, false⟩])
  .ret))
  .skip))
  (.seq (.seq (.reg [
    ⟨(some 17), .move (.t 1), none, false, 0, 0, false⟩,
    ⟨(some 18), .move (.t 0), none, false, 0, 0, false⟩,
    ⟨(some 19), .lenL (.t 18), none, false, 0, 0, false⟩,
    ⟨(some 20), .bin .lss (.t 17) (.t 19), none, false, 0, 0, false⟩])
  (.cond (.t 20)
  (.seq (.reg [
    ⟨(some 6), .move (.c (.int .i64 0)), none, false, 0, 0, false⟩])
  .ret)
  .skip))
  (.seq (.reg [
    ⟨(some 21), .move (.t 1), none, false, 0, 0, false⟩,
    ⟨(some 22), .bin .add (.t 21) (.c (.int .i64 1)), none, false, 0, 0, false⟩,
    ⟨(some 23), .makeSlice 1 (.int .i64 0) 8 (.t 22) (.t 22), none, true, 0, 0, false⟩,
    ⟨(some 7), .move (.t 23), none, false, 0, 0, false⟩])
  (.seq (.reg [
    ⟨(some 24), .move (.t 7), none, false, 0, 0, false⟩,
    ⟨(some 25), .idxAddr 1 (.t 24) (.c (.int .i64 0)), none, false, 0, 0, false⟩,
    ⟨none, .store 1 (.t 25) (.c (.int .i64 1)), none, true, 0, 0, false⟩])
  (.seq (.seq (.reg [
    ⟨(some 26), .move (.t 0), none, false, 0, 0, false⟩,
    ⟨(some 27), .lenL (.t 26), none, false, 0, 0, false⟩,
    ⟨(some 28), .bin .sub (.t 27) (.c (.int .i64 1)), none, false, 0, 0, false⟩,
    ⟨(some 8), .move (.t 28), none, false, 0, 0, false⟩])
  (.block 0 (.loop a166b2)))
  (.seq (.reg [
    ⟨(some 79), .move (.t 7), none, false, 0, 0, false⟩,
    ⟨(some 80), .move (.t 1), none, false, 0, 0, false⟩,
    ⟨(some 81), .idxAddr 1 (.t 79) (.t 80), none, false, 0, 0, false⟩,
    ⟨(some 82), .load false 1 (.t 81), none, true, 0, 0, false⟩,
    ⟨(some 6), .move (.t 82), none, false, 0, 0, false⟩])
  .ret))))))), [.t 6]⟩
theorem fn166 : fnOf 166 = some a166 := by kernel_rfl
-- 174 madrigal/madrigalref09.product
def a174 : AFunc := ⟨2, 18, (.seq (.reg [
    ⟨(some 4), .move (.c (.int .i64 0)), none, false, 0, 0, false⟩])
  (.seq (.seq (.reg [
    ⟨(some 5), .move (.t 0), none, false, 0, 0, false⟩,
    ⟨(some 6), .bin .eql (.t 5) (.c (.int .i64 0)), none, false, 0, 0, false⟩,
    ⟨(some 7), .move (.t 6), none, false, 0, 0, false⟩,
    ⟨(some 8), .move (.t 1), (some (7, false)), false, 0, 0, false⟩,
    ⟨(some 9), .bin .eql (.t 8) (.c (.int .i64 0)), (some (7, false)), false, 0, 0, false⟩,
    ⟨(some 10), .pick (.t 7) (.c (.bool true)) (.t 9), none, false, 0, 0, false⟩])
  (.cond (.t 10)
  (.seq (.reg [
    ⟨(some 4), .move (.c (.int .i64 0)), none, false, 0, 0, false⟩])
  .ret)
  .skip))
  (.seq (.seq (.reg [
    ⟨(some 11), .move (.t 0), none, false, 0, 0, false⟩,
    ⟨(some 12), .move (.t 1), none, false, 0, 0, false⟩,
    ⟨(some 13), .bin .quo (.c (.int .i64 1099511627776)) (.t 12), none, false, 0, 0, false⟩,
    ⟨(some 14), .bin .gtr (.t 11) (.t 13), none, false, 0, 0, false⟩])
  (.cond (.t 14)
  (.seq (.reg [
    ⟨(some 4), .move (.c (.int .i64 1099511627776)), none, false, 0, 0, false⟩])
  .ret)
  .skip))
  (.seq (.reg [
    ⟨(some 15), .move (.t 0), none, false, 0, 0, false⟩,
    ⟨(some 16), .move (.t 1), none, false, 0, 0, false⟩,
    ⟨(some 17), .bin .mul (.t 15) (.t 16), none, false, 0, 0, false⟩,
    ⟨(some 4), .move (.t 17), none, false, 0, 0, false⟩])
  .ret)))), [.t 4]⟩
theorem fn174 : fnOf 174 = some a174 := by kernel_rfl


end Go.Proofs.Tryz
/- The specification counts: products, ways. -/
namespace Go.Proofs.Tryz
open Go Go.AE
variable {T : Tbl} (hT : Std T)

/-- Numbers that are told. -/
def okN (v : Int) : Prop := 0 ≤ v ∧ v ≤ 1099511627776
include hT in
theorem rcapped_tot {n : Int} (hn : 0 ≤ n) (h : List AE.Obj) : ∃ r : Int, Ev T 145 [.int .i64 n] h (.val (.int .i64 r), ⟨h, [], []⟩) ∧ okN r := by
  refine Ev.walkP (hT.sp _ (by decide)) ((hT.fn _).trans fn145) (hT.mode _) rfl ?_
  simp (disch := first | omega | decide | (simp only [eget_eput', ↓reduceIte, Nat.reduceEqDiff]; done)) only [go_sem, ↓reduceIte, Nat.reduceEqDiff, Nat.reduceAdd, Nat.reduceMul, reduceCtorEq]
  refine bifs (fun _ => ⟨_, rfl, by simp [okN]⟩) (fun hh => ⟨_, rfl, hn, by simpa using hh⟩)
include hT in
theorem rproduct_tot {a b : Int} (ha : okN a) (hb : okN b) (h : List AE.Obj) : ∃ r : Int, Ev T 174 [.int .i64 a, .int .i64 b] h (.val (.int .i64 r), ⟨h, [], []⟩) ∧ okN r := by
  refine Ev.walkP (hT.sp _ (by decide)) ((hT.fn _).trans fn174) (hT.mode _) rfl ?_
  obtain ⟨ha0, ha1⟩ := ha
  obtain ⟨hb0, hb1⟩ := hb
  by_cases hz : b = 0
  · subst hz
    simp (disch := first | omega | decide | (simp only [eget_eput', ↓reduceIte, Nat.reduceEqDiff]; done)) only [go_sem, ↓reduceIte, Nat.reduceEqDiff, Nat.reduceAdd, Nat.reduceMul, reduceCtorEq]
    repeat' first | exact ⟨0, rfl, by simp [okN]⟩ | refine bifs (fun _ => ?_) (fun _ => ?_)
  · have hq : Int.tdiv 1099511627776 b = 1099511627776 / b := Int.tdiv_eq_ediv_of_nonneg (by omega)
    have hq0 : 0 ≤ 1099511627776 / b := Int.ediv_nonneg (by omega) hb0
    have hq1 : 1099511627776 / b ≤ 1099511627776 := Int.ediv_le_self _ (by omega)
    simp (disch := first | omega | decide | (simp only [eget_eput', ↓reduceIte, Nat.reduceEqDiff]; done)) only [go_sem, ↓reduceIte, Nat.reduceEqDiff, Nat.reduceAdd, Nat.reduceMul, reduceCtorEq]
    refine bifs (fun _ => ⟨0, rfl, by simp [okN]⟩) fun _ => bifs (fun _ => ⟨0, rfl, by simp [okN]⟩) fun _ => bifs (fun _ => ⟨_, rfl, by simp [okN]⟩) fun hh => ?_
    have hb2 : 0 < b := by omega
    have hm : a * b ≤ 1099511627776 := by
      have h2 : a ≤ 1099511627776 / b := by
        rw [← hq]
        simpa using hh
      exact (Int.le_ediv_iff_mul_le hb2).1 h2
    have hm0 : 0 ≤ a * b := Int.mul_nonneg ha0 hb0
    exact ⟨a * b, by rw [wrap64 (by omega) (by omega)], hm0, hm⟩

/-- A row of numbers. -/
structure okV (x : List Int) (n : Nat) : Prop where
  len : x.length = n
  ok : ∀ v ∈ x, okN v
theorem okV.get {x : List Int} {n j : Nat} (h : okV x n) (hj : j < n) : okN (x.getD j 0) := by
  have hl : j < x.length := by rw [h.len]; exact hj
  have e2 : x.getD j 0 = x[j] := by simp [List.getD_eq_getElem?_getD, hl]
  rw [e2]
  exact h.ok _ (List.getElem_mem hl)
theorem okV.set {x : List Int} {n j : Nat} {v : Int} (h : okV x n) (hv : okN v) : okV (x.set j v) n :=
  ⟨by simpa using h.len, fun u hu => by
    rcases List.mem_or_eq_of_mem_set hu with h' | rfl
    · exact h.ok _ h'
    · exact hv⟩
theorem okV.zeros (n : Nat) : okV (List.replicate n 0) n := ⟨by simp, fun v hv => by
  have := (List.mem_replicate.1 hv).2
  subst this
  exact ⟨by omega, by omega⟩⟩
@[go_sem] theorem subv_aref {sz k a b c d : Nat} : sub false sz (.aref k a b c d) 0 = some (.aref k a b c d) := rfl
theorem ld_v {h : List AE.Obj} {k i n : Nat} {x : List Int} (hk : h[k]? = some (.row 1 (x.map encI))) (hn : x.length = n) (hi : i < n) : loadAt false 1 (.ptr k i 0 n) h = some (.int .i64 (x.getD i 0)) := by
  have hl : i < x.length := by omega
  have e : (x.map encI)[i]? = some (encI x[i]) := by rw [List.getElem?_map, List.getElem?_eq_getElem hl]; rfl
  simp [loadAt, hk, hn, e, sub, encI, List.getD_eq_getElem?_getD, hl]
  rw [List.getElem?_eq_getElem hl]; rfl
theorem st_v {h : List AE.Obj} {ws : List Nat} {ups : List (Nat × Nat)} {k i n : Nat} {x : List Int} {v : Int} (hk : h[k]? = some (.row 1 (x.map encI))) (hn : x.length = n) (hi : i < n) :
    storeAt 1 (.ptr k i 0 n) (.int .i64 v) { h, ws, ups } = some { h := h.set k (.row 1 ((x.set i v).map encI)), ws := wadd k ws, ups } := by
  have hl : i < x.length := by omega
  have e : (x.map encI)[i]? = some (encI x[i]) := by rw [List.getElem?_map, List.getElem?_eq_getElem hl]; rfl
  simp [storeAt, hk, hn, e, PV.cells, PV.isCell, upd, PV.top, wrote_none, List.map_set]
  exact ⟨_, rfl, rfl⟩
/-- The rows that are there already. -/
def RowsOK (h : List AE.Obj) (refs : List PV) (nS : Nat) : Prop := ∀ k, k < refs.length → ∃ j z, refs[k]? = some (.aref j 1 0 nS nS) ∧ j < h.length ∧ h[j]? = some (.row 1 (z.map encI)) ∧ okV z nS
/-- The two rows that are made. -/
structure WRows (h H : List AE.Obj) (a b : Nat) (x y : List Int) (n : Nat) : Prop where
  low : Low h.length h H
  ha : H[a]? = some (.row 1 (x.map encI))
  hb : H[b]? = some (.row 1 (y.map encI))
  ab : a ≠ b
  la : h.length ≤ a
  lb : h.length ≤ b
  okx : okV x n
  oky : okV y n
structure WSl (e : List PV) (args : List Int) (size : Nat) (refs : List PV) (m : SM) (a b i : Nat) : Prop where
  e0 : eget e 0 = .slice 1 (args.map encI) .any
  e1 : eget e 1 = .int .i64 (size : Int)
  e2 : eget e 2 = .slice 1 refs m
  e7 : eget e 7 = .aref a 1 0 (size + 1) (size + 1)
  e8 : eget e 8 = .int .i64 (i : Int)
  e9 : eget e 9 = .aref b 1 0 (size + 1) (size + 1)
theorem WRows.set {h H : List AE.Obj} {a b n i : Nat} {x y : List Int} {v : Int} (W : WRows h H a b x y n) (hv : okN v) : WRows h (H.set b (.row 1 ((y.set i v).map encI))) a b x (y.set i v) n :=
  ⟨W.low.trans (.set W.lb), get_set_ne W.ha (Ne.symm W.ab), get_set W.hb, W.ab, W.la, W.lb, W.okx, W.oky.set hv⟩
theorem wadd_low {k n : Nat} {ws : List Nat} (hk : n ≤ k) (hw : ∀ j ∈ ws, n ≤ j) : ∀ j ∈ wadd k ws, n ≤ j := fun j hj => by
  unfold wadd at hj
  split at hj
  · exact hw j hj
  · rcases List.mem_cons.1 hj with rfl | h
    · exact hk
    · exact hw j h
include hT in
theorem ways_b0 {h : List AE.Obj} {args : List Int} {size nS i a b nn : Nat} {refs : List PV} {m : SM} {x : List Int} (rows : RowsOK h refs nS) (hargs : okArgs args nS) (hi : i < args.length) (hsz : size < 1000) (hnn : nn ≤ size) (hr : refs.length < 1000)
    {Q : AExit → List PV → St → Prop} {e : List PV} {H : List AE.Obj} {ws : List Nat} {y : List Int} (W : WRows h H a b x y (size + 1)) (E : WSl e args size refs m a b i) (e10 : eget e 10 = .int .i64 (nn : Int)) (e11 : eget e 11 = .int .i64 1) (hw : ∀ k ∈ ws, h.length ≤ k)
    (hQ : ∀ H' e' ws' y', WRows h H' a b x y' (size + 1) → WSl e' args size refs m a b i → eget e' 10 = .int .i64 (nn : Int) → (∀ k ∈ ws', h.length ≤ k) → Q (.exit 4) e' ⟨H', ws', []⟩) : wpC T (.loop a166b0) e ⟨H, ws, []⟩ Q := by
  refine wpC.loopM (fun n e st => ∃ (k : Nat) (H : List AE.Obj) (ws : List Nat) (y : List Int), k + n = nn + 1 ∧ 1 ≤ k ∧ WRows h H a b x y (size + 1) ∧ WSl e args size refs m a b i ∧ eget e 10 = .int .i64 (nn : Int) ∧ eget e 11 = .int .i64 (k : Int) ∧ (∀ k ∈ ws, h.length ≤ k) ∧ st = ⟨H, ws, []⟩) ?_ nn _ _ ⟨1, H, ws, y, by omega, by omega, W, E, e10, e11, hw, rfl⟩
  rintro n e st ⟨k, H, ws, y, hk, hk1, W, E, e10, e11, hw, rfl⟩
  obtain ⟨e0, e1, e2, e7, e8, e9⟩ := E
  have last : ∀ e', WSl e' args size refs m a b i → eget e' 10 = .int .i64 (nn : Int) → Q (.exit 4) e' ⟨H, ws, []⟩ := fun e' h1 h2 => hQ H e' ws y W h1 h2 hw
  by_cases c1 : k ≤ nn
  · by_cases c2 : k < refs.length
    · obtain ⟨j, z, gr, hj, hz, okz⟩ := rows k c2
      obtain ⟨ga, hga⟩ := hargs.get hi
      have ga' : (args.map encI)[i]? = some (.int .i64 (((args.getD i 0).toNat : Nat) : Int)) := by
        rw [List.getElem?_map, ga]; rfl
      have fl1 := ld_v W.hb W.oky.len (show nn < size + 1 by omega)
      have fl2 := ld_v (W.low.get hj hz) okz.len hga
      have fl3 := ld_v W.ha W.okx.len (show nn - k < size + 1 by omega)
      obtain ⟨p, hp, okp⟩ := rproduct_tot hT (okz.get hga) (W.okx.get (show nn - k < size + 1 by omega)) H
      have oy := W.oky.get (show nn < size + 1 by omega)
      obtain ⟨c, hc, okc⟩ := rcapped_tot hT (n := y.getD nn 0 + p) (by have := okp.1; have := oy.1; omega) H
      have fs := st_v (ws := []) (ups := []) (v := c) W.hb W.oky.len (show nn < size + 1 by omega)
      obtain ⟨op1, op2⟩ := okp
      obtain ⟨oy1, oy2⟩ := oy
      have h1 : nn < size + 1 := by omega
      have h2 : nn - k < size + 1 := by omega
      simp (disch := first | omega | decide | (simp only [eget_eput', ↓reduceIte, Nat.reduceEqDiff]; done)) only [go_sem, ↓reduceIte, Nat.reduceEqDiff, Nat.reduceAdd, Nat.reduceMul, reduceCtorEq, a166b0, e0, e1, e2, e7, e8, e9, e10, e11, c1, c2, gr, ga', hga, fl1, fl2, fl3, cb hp, cb hc, hT.prim, primOf, cast_sub, h1, h2, fs, allocOp]
      exact ⟨n - 1, by omega, k + 1, _, _, _, by omega, by omega, W.set okc, ⟨by simp (disch := first | omega | decide | (simp only [eget_eput', ↓reduceIte, Nat.reduceEqDiff]; done)) only [go_sem, ↓reduceIte, Nat.reduceEqDiff, Nat.reduceAdd, Nat.reduceMul, reduceCtorEq, e0], by simp (disch := first | omega | decide | (simp only [eget_eput', ↓reduceIte, Nat.reduceEqDiff]; done)) only [go_sem, ↓reduceIte, Nat.reduceEqDiff, Nat.reduceAdd, Nat.reduceMul, reduceCtorEq, e1], by simp (disch := first | omega | decide | (simp only [eget_eput', ↓reduceIte, Nat.reduceEqDiff]; done)) only [go_sem, ↓reduceIte, Nat.reduceEqDiff, Nat.reduceAdd, Nat.reduceMul, reduceCtorEq, e2], by simp (disch := first | omega | decide | (simp only [eget_eput', ↓reduceIte, Nat.reduceEqDiff]; done)) only [go_sem, ↓reduceIte, Nat.reduceEqDiff, Nat.reduceAdd, Nat.reduceMul, reduceCtorEq, e7], by simp (disch := first | omega | decide | (simp only [eget_eput', ↓reduceIte, Nat.reduceEqDiff]; done)) only [go_sem, ↓reduceIte, Nat.reduceEqDiff, Nat.reduceAdd, Nat.reduceMul, reduceCtorEq, e8], by simp (disch := first | omega | decide | (simp only [eget_eput', ↓reduceIte, Nat.reduceEqDiff]; done)) only [go_sem, ↓reduceIte, Nat.reduceEqDiff, Nat.reduceAdd, Nat.reduceMul, reduceCtorEq, e9]⟩, rfl, wadd_low W.lb hw, rfl⟩
    · simp (disch := first | omega | decide | (simp only [eget_eput', ↓reduceIte, Nat.reduceEqDiff]; done)) only [go_sem, ↓reduceIte, Nat.reduceEqDiff, Nat.reduceAdd, Nat.reduceMul, reduceCtorEq, a166b0, e0, e1, e2, e7, e8, e9, e10, e11, c1, c2]
      exact last _ ⟨by simp (disch := first | omega | decide | (simp only [eget_eput', ↓reduceIte, Nat.reduceEqDiff]; done)) only [go_sem, ↓reduceIte, Nat.reduceEqDiff, Nat.reduceAdd, Nat.reduceMul, reduceCtorEq, e0], by simp (disch := first | omega | decide | (simp only [eget_eput', ↓reduceIte, Nat.reduceEqDiff]; done)) only [go_sem, ↓reduceIte, Nat.reduceEqDiff, Nat.reduceAdd, Nat.reduceMul, reduceCtorEq, e1], by simp (disch := first | omega | decide | (simp only [eget_eput', ↓reduceIte, Nat.reduceEqDiff]; done)) only [go_sem, ↓reduceIte, Nat.reduceEqDiff, Nat.reduceAdd, Nat.reduceMul, reduceCtorEq, e2], by simp (disch := first | omega | decide | (simp only [eget_eput', ↓reduceIte, Nat.reduceEqDiff]; done)) only [go_sem, ↓reduceIte, Nat.reduceEqDiff, Nat.reduceAdd, Nat.reduceMul, reduceCtorEq, e7], by simp (disch := first | omega | decide | (simp only [eget_eput', ↓reduceIte, Nat.reduceEqDiff]; done)) only [go_sem, ↓reduceIte, Nat.reduceEqDiff, Nat.reduceAdd, Nat.reduceMul, reduceCtorEq, e8], by simp (disch := first | omega | decide | (simp only [eget_eput', ↓reduceIte, Nat.reduceEqDiff]; done)) only [go_sem, ↓reduceIte, Nat.reduceEqDiff, Nat.reduceAdd, Nat.reduceMul, reduceCtorEq, e9]⟩ (by simp (disch := first | omega | decide | (simp only [eget_eput', ↓reduceIte, Nat.reduceEqDiff]; done)) only [go_sem, ↓reduceIte, Nat.reduceEqDiff, Nat.reduceAdd, Nat.reduceMul, reduceCtorEq, e10])
  · simp (disch := first | omega | decide | (simp only [eget_eput', ↓reduceIte, Nat.reduceEqDiff]; done)) only [go_sem, ↓reduceIte, Nat.reduceEqDiff, Nat.reduceAdd, Nat.reduceMul, reduceCtorEq, a166b0, e0, e1, e2, e7, e8, e9, e10, e11, c1]
    exact last _ ⟨by simp (disch := first | omega | decide | (simp only [eget_eput', ↓reduceIte, Nat.reduceEqDiff]; done)) only [go_sem, ↓reduceIte, Nat.reduceEqDiff, Nat.reduceAdd, Nat.reduceMul, reduceCtorEq, e0], by simp (disch := first | omega | decide | (simp only [eget_eput', ↓reduceIte, Nat.reduceEqDiff]; done)) only [go_sem, ↓reduceIte, Nat.reduceEqDiff, Nat.reduceAdd, Nat.reduceMul, reduceCtorEq, e1], by simp (disch := first | omega | decide | (simp only [eget_eput', ↓reduceIte, Nat.reduceEqDiff]; done)) only [go_sem, ↓reduceIte, Nat.reduceEqDiff, Nat.reduceAdd, Nat.reduceMul, reduceCtorEq, e2], by simp (disch := first | omega | decide | (simp only [eget_eput', ↓reduceIte, Nat.reduceEqDiff]; done)) only [go_sem, ↓reduceIte, Nat.reduceEqDiff, Nat.reduceAdd, Nat.reduceMul, reduceCtorEq, e7], by simp (disch := first | omega | decide | (simp only [eget_eput', ↓reduceIte, Nat.reduceEqDiff]; done)) only [go_sem, ↓reduceIte, Nat.reduceEqDiff, Nat.reduceAdd, Nat.reduceMul, reduceCtorEq, e8], by simp (disch := first | omega | decide | (simp only [eget_eput', ↓reduceIte, Nat.reduceEqDiff]; done)) only [go_sem, ↓reduceIte, Nat.reduceEqDiff, Nat.reduceAdd, Nat.reduceMul, reduceCtorEq, e9]⟩ (by simp (disch := first | omega | decide | (simp only [eget_eput', ↓reduceIte, Nat.reduceEqDiff]; done)) only [go_sem, ↓reduceIte, Nat.reduceEqDiff, Nat.reduceAdd, Nat.reduceMul, reduceCtorEq, e10])
/-- The one row that is kept. -/
structure WOne (h H : List AE.Obj) (a : Nat) (x : List Int) (n : Nat) : Prop where
  low : Low h.length h H
  ha : H[a]? = some (.row 1 (x.map encI))
  la : h.length ≤ a
  okx : okV x n
theorem Low.push {n0 : Nat} {h H : List AE.Obj} {o : AE.Obj} (L : Low n0 h H) (hn : n0 ≤ H.length) : Low n0 h (H ++ [o]) :=
  ⟨by rw [List.take_append_of_le_length hn]; exact L.take, by have := L.len; simp; omega⟩
theorem WOne.push {h H : List AE.Obj} {a n : Nat} {x : List Int} (W : WOne h H a x n) : WRows h (H ++ [.row 1 ((List.replicate n 0).map encI)]) a H.length x (List.replicate n 0) n := by
  have hl := (List.getElem?_eq_some_iff.1 W.ha).1
  refine ⟨W.low.push (by have := W.low.len; omega), ?_, by simp, by omega, W.la, by have := W.low.len; omega, W.okx, .zeros n⟩
  rw [List.getElem?_append_left hl]
  exact W.ha
theorem tidy_low {h H : List AE.Obj} {v : PV} {ws : List Nat} (hp : v.pure = true) (hv : v.weak = v) (L : Low h.length h H) (hw : ∀ k ∈ ws, h.length ≤ k) : tidy 0 h.length (.val v) { h := H, ws, ups := [] } = (.val v, { h, ws := [], ups := [] }) := by
  have := tidy_pure (h := h) (v := v) (s := { h := H, ws, ups := [] }) hp rfl (by rw [L.take]; simp) hw
  rwa [hv] at this
include hT in
theorem ways_b1 {h : List AE.Obj} {args : List Int} {size nS i a b : Nat} {refs : List PV} {m : SM} {x : List Int} (rows : RowsOK h refs nS) (hargs : okArgs args nS) (hi : i < args.length) (hsz : size < 1000) (hr : refs.length < 1000)
    {Q : AExit → List PV → St → Prop} {e : List PV} {H : List AE.Obj} {ws : List Nat} {y : List Int} (W : WRows h H a b x y (size + 1)) (E : WSl e args size refs m a b i) (e10 : eget e 10 = .int .i64 0) (hw : ∀ k ∈ ws, h.length ≤ k)
    (hQ : ∀ H' e' ws' y', WRows h H' a b x y' (size + 1) → WSl e' args size refs m a b i → (∀ k ∈ ws', h.length ≤ k) → Q (.exit 2) e' ⟨H', ws', []⟩) : wpC T (.loop a166b1) e ⟨H, ws, []⟩ Q := by
  refine wpC.loopM (fun n e st => ∃ (nn : Nat) (H : List AE.Obj) (ws : List Nat) (y : List Int), nn + n = size + 1 ∧ WRows h H a b x y (size + 1) ∧ WSl e args size refs m a b i ∧ eget e 10 = .int .i64 (nn : Int) ∧ (∀ k ∈ ws, h.length ≤ k) ∧ st = ⟨H, ws, []⟩) ?_ (size + 1) _ _ ⟨0, H, ws, y, by omega, W, E, e10, hw, rfl⟩
  rintro n e st ⟨nn, H, ws, y, hnn, W, E, e10, hw, rfl⟩
  obtain ⟨e0, e1, e2, e7, e8, e9⟩ := E
  by_cases c1 : nn ≤ size
  · simp (disch := first | omega | decide | (simp only [eget_eput', ↓reduceIte, Nat.reduceEqDiff]; done)) only [go_sem, ↓reduceIte, Nat.reduceEqDiff, Nat.reduceAdd, Nat.reduceMul, reduceCtorEq, a166b1, e1, e10, c1]
    refine ways_b0 hT (m := m) rows hargs hi hsz c1 hr W ⟨by simp (disch := first | omega | decide | (simp only [eget_eput', ↓reduceIte, Nat.reduceEqDiff]; done)) only [go_sem, ↓reduceIte, Nat.reduceEqDiff, Nat.reduceAdd, Nat.reduceMul, reduceCtorEq, e0], by simp (disch := first | omega | decide | (simp only [eget_eput', ↓reduceIte, Nat.reduceEqDiff]; done)) only [go_sem, ↓reduceIte, Nat.reduceEqDiff, Nat.reduceAdd, Nat.reduceMul, reduceCtorEq, e1], by simp (disch := first | omega | decide | (simp only [eget_eput', ↓reduceIte, Nat.reduceEqDiff]; done)) only [go_sem, ↓reduceIte, Nat.reduceEqDiff, Nat.reduceAdd, Nat.reduceMul, reduceCtorEq, e2], by simp (disch := first | omega | decide | (simp only [eget_eput', ↓reduceIte, Nat.reduceEqDiff]; done)) only [go_sem, ↓reduceIte, Nat.reduceEqDiff, Nat.reduceAdd, Nat.reduceMul, reduceCtorEq, e7], by simp (disch := first | omega | decide | (simp only [eget_eput', ↓reduceIte, Nat.reduceEqDiff]; done)) only [go_sem, ↓reduceIte, Nat.reduceEqDiff, Nat.reduceAdd, Nat.reduceMul, reduceCtorEq, e8], by simp (disch := first | omega | decide | (simp only [eget_eput', ↓reduceIte, Nat.reduceEqDiff]; done)) only [go_sem, ↓reduceIte, Nat.reduceEqDiff, Nat.reduceAdd, Nat.reduceMul, reduceCtorEq, e9]⟩ (by simp (disch := first | omega | decide | (simp only [eget_eput', ↓reduceIte, Nat.reduceEqDiff]; done)) only [go_sem, ↓reduceIte, Nat.reduceEqDiff, Nat.reduceAdd, Nat.reduceMul, reduceCtorEq, e10]) (by simp (disch := first | omega | decide | (simp only [eget_eput', ↓reduceIte, Nat.reduceEqDiff]; done)) only [go_sem, ↓reduceIte, Nat.reduceEqDiff, Nat.reduceAdd, Nat.reduceMul, reduceCtorEq]) hw fun H' e' ws' y' W' E' e10' hw' => ?_
    simp (disch := first | omega | decide | (simp only [eget_eput', ↓reduceIte, Nat.reduceEqDiff]; done)) only [go_sem, ↓reduceIte, Nat.reduceEqDiff, Nat.reduceAdd, Nat.reduceMul, reduceCtorEq, e10']
    obtain ⟨e0, e1, e2, e7, e8, e9⟩ := E'
    exact ⟨n - 1, by omega, nn + 1, _, _, _, by omega, W', ⟨by simp (disch := first | omega | decide | (simp only [eget_eput', ↓reduceIte, Nat.reduceEqDiff]; done)) only [go_sem, ↓reduceIte, Nat.reduceEqDiff, Nat.reduceAdd, Nat.reduceMul, reduceCtorEq, e0], by simp (disch := first | omega | decide | (simp only [eget_eput', ↓reduceIte, Nat.reduceEqDiff]; done)) only [go_sem, ↓reduceIte, Nat.reduceEqDiff, Nat.reduceAdd, Nat.reduceMul, reduceCtorEq, e1], by simp (disch := first | omega | decide | (simp only [eget_eput', ↓reduceIte, Nat.reduceEqDiff]; done)) only [go_sem, ↓reduceIte, Nat.reduceEqDiff, Nat.reduceAdd, Nat.reduceMul, reduceCtorEq, e2], by simp (disch := first | omega | decide | (simp only [eget_eput', ↓reduceIte, Nat.reduceEqDiff]; done)) only [go_sem, ↓reduceIte, Nat.reduceEqDiff, Nat.reduceAdd, Nat.reduceMul, reduceCtorEq, e7], by simp (disch := first | omega | decide | (simp only [eget_eput', ↓reduceIte, Nat.reduceEqDiff]; done)) only [go_sem, ↓reduceIte, Nat.reduceEqDiff, Nat.reduceAdd, Nat.reduceMul, reduceCtorEq, e8], by simp (disch := first | omega | decide | (simp only [eget_eput', ↓reduceIte, Nat.reduceEqDiff]; done)) only [go_sem, ↓reduceIte, Nat.reduceEqDiff, Nat.reduceAdd, Nat.reduceMul, reduceCtorEq, e9]⟩, rfl, hw', rfl⟩
  · simp (disch := first | omega | decide | (simp only [eget_eput', ↓reduceIte, Nat.reduceEqDiff]; done)) only [go_sem, ↓reduceIte, Nat.reduceEqDiff, Nat.reduceAdd, Nat.reduceMul, reduceCtorEq, a166b1, e1, e10, c1]
    exact hQ _ _ _ _ W ⟨by simp (disch := first | omega | decide | (simp only [eget_eput', ↓reduceIte, Nat.reduceEqDiff]; done)) only [go_sem, ↓reduceIte, Nat.reduceEqDiff, Nat.reduceAdd, Nat.reduceMul, reduceCtorEq, e0], by simp (disch := first | omega | decide | (simp only [eget_eput', ↓reduceIte, Nat.reduceEqDiff]; done)) only [go_sem, ↓reduceIte, Nat.reduceEqDiff, Nat.reduceAdd, Nat.reduceMul, reduceCtorEq, e1], by simp (disch := first | omega | decide | (simp only [eget_eput', ↓reduceIte, Nat.reduceEqDiff]; done)) only [go_sem, ↓reduceIte, Nat.reduceEqDiff, Nat.reduceAdd, Nat.reduceMul, reduceCtorEq, e2], by simp (disch := first | omega | decide | (simp only [eget_eput', ↓reduceIte, Nat.reduceEqDiff]; done)) only [go_sem, ↓reduceIte, Nat.reduceEqDiff, Nat.reduceAdd, Nat.reduceMul, reduceCtorEq, e7], by simp (disch := first | omega | decide | (simp only [eget_eput', ↓reduceIte, Nat.reduceEqDiff]; done)) only [go_sem, ↓reduceIte, Nat.reduceEqDiff, Nat.reduceAdd, Nat.reduceMul, reduceCtorEq, e8], by simp (disch := first | omega | decide | (simp only [eget_eput', ↓reduceIte, Nat.reduceEqDiff]; done)) only [go_sem, ↓reduceIte, Nat.reduceEqDiff, Nat.reduceAdd, Nat.reduceMul, reduceCtorEq, e9]⟩ hw
include hT in
theorem rways_tot {h : List AE.Obj} {args : List Int} {size nS : Nat} {refs : List PV} {m : SM} (rows : RowsOK h refs nS) (hargs : okArgs args nS) (hal : args.length < 900) (hsz : size < 1000) (hr : refs.length < 1000) :
    ∃ r : Int, Ev T 166 [.slice 1 (args.map encI) .any, .int .i64 (size : Int), .slice 1 refs m] h (.val (.int .i64 r), ⟨h, [], []⟩) ∧ okN r := by
  refine Ev.walkP (hT.sp _ (by decide)) ((hT.fn _).trans fn166) (hT.mode _) rfl ?_
  have hmk := mk_ok (sz := 1) (bytes := 8) (n := size + 1) (z := .int .i64 0) (by omega) (by omega) rfl
  have hrep : List.replicate (size + 1) (PV.int .i64 0) = (List.replicate (size + 1) (0 : Int)).map encI := by simp [encI]
  have h0 : 0 < size + 1 := by omega
  generalize hH : h ++ [AE.Obj.row 1 ((List.replicate (size + 1) (0 : Int)).map encI)] = H
  have hHk : H[h.length]? = some (.row 1 ((List.replicate (size + 1) (0 : Int)).map encI)) := by rw [← hH]; simp
  have fs := st_v (ws := []) (ups := []) (v := 1) hHk (by simp) h0
  simp (disch := first | omega | decide | (simp only [eget_eput', ↓reduceIte, Nat.reduceEqDiff]; done)) only [go_sem, ↓reduceIte, Nat.reduceEqDiff, Nat.reduceAdd, Nat.reduceMul, reduceCtorEq, hmk, hrep, hH, h0, fs, Nat.zero_lt_succ]
  refine bifs (fun _ => bifs (fun _ => ⟨1, rfl, by simp [okN]⟩) (fun _ => ⟨0, rfl, by simp [okN]⟩)) fun _ => bifs (fun _ => ⟨0, rfl, by simp [okN]⟩) fun _ => ?_
  have W0 : WOne h (H.set h.length (.row 1 (((List.replicate (size + 1) (0 : Int)).set 0 1).map encI))) h.length ((List.replicate (size + 1) (0 : Int)).set 0 1) (size + 1) :=
    ⟨.trans (by rw [← hH]; exact (Low.refl _ _).push (Nat.le_refl _)) (.set (Nat.le_refl _)), get_set hHk, Nat.le_refl _, (okV.zeros _).set ⟨by omega, by omega⟩⟩
  refine wpC.loopM (fun n e st => ∃ (H : List AE.Obj) (ws : List Nat) (a : Nat) (x : List Int), n ≤ args.length ∧ WOne h H a x (size + 1) ∧ eget e 0 = .slice 1 (args.map encI) .any ∧ eget e 1 = .int .i64 (size : Int) ∧ eget e 2 = .slice 1 refs m ∧ eget e 7 = .aref a 1 0 (size + 1) (size + 1) ∧ eget e 8 = .int .i64 ((n : Int) - 1) ∧ (∀ k ∈ ws, h.length ≤ k) ∧ st = ⟨H, ws, []⟩) ?_ args.length _ _ ⟨_, _, _, _, Nat.le_refl _, W0, by simp (disch := first | omega | decide | (simp only [eget_eput', ↓reduceIte, Nat.reduceEqDiff]; done)) only [go_sem, ↓reduceIte, Nat.reduceEqDiff, Nat.reduceAdd, Nat.reduceMul, reduceCtorEq], by simp (disch := first | omega | decide | (simp only [eget_eput', ↓reduceIte, Nat.reduceEqDiff]; done)) only [go_sem, ↓reduceIte, Nat.reduceEqDiff, Nat.reduceAdd, Nat.reduceMul, reduceCtorEq], by simp (disch := first | omega | decide | (simp only [eget_eput', ↓reduceIte, Nat.reduceEqDiff]; done)) only [go_sem, ↓reduceIte, Nat.reduceEqDiff, Nat.reduceAdd, Nat.reduceMul, reduceCtorEq], by simp (disch := first | omega | decide | (simp only [eget_eput', ↓reduceIte, Nat.reduceEqDiff]; done)) only [go_sem, ↓reduceIte, Nat.reduceEqDiff, Nat.reduceAdd, Nat.reduceMul, reduceCtorEq], by simp (disch := first | omega | decide | (simp only [eget_eput', ↓reduceIte, Nat.reduceEqDiff]; done)) only [go_sem, ↓reduceIte, Nat.reduceEqDiff, Nat.reduceAdd, Nat.reduceMul, reduceCtorEq], wadd_low (Nat.le_refl _) (by simp), rfl⟩
  rintro n e st ⟨H, ws, a, x, hn, W, e0, e1, e2, e7, e8, hw, rfl⟩
  cases n with
  | zero =>
    have c : ¬ ((0 : Int) ≤ ((0 : Nat) : Int) - 1) := by omega
    have fl := ld_v W.ha W.okx.len (show size < size + 1 by omega)
    have c2 : size < size + 1 := by omega
    simp (disch := first | omega | decide | (simp only [eget_eput', ↓reduceIte, Nat.reduceEqDiff]; done)) only [go_sem, ↓reduceIte, Nat.reduceEqDiff, Nat.reduceAdd, Nat.reduceMul, reduceCtorEq, a166b2, e0, e1, e2, e7, e8, c, fl, c2]
    exact ⟨_, tidy_low rfl rfl W.low hw, W.okx.get c2⟩
  | succ k =>
    have c : (0 : Int) ≤ (k : Int) := by omega
    have W1 := W.push
    generalize hH2 : H ++ [AE.Obj.row 1 ((List.replicate (size + 1) (0 : Int)).map encI)] = H2 at W1
    simp (disch := first | omega | decide | (simp only [eget_eput', ↓reduceIte, Nat.reduceEqDiff]; done)) only [go_sem, ↓reduceIte, Nat.reduceEqDiff, Nat.reduceAdd, Nat.reduceMul, reduceCtorEq, a166b2, e0, e1, e2, e7, e8, c, hmk, hrep, hH2]
    refine ways_b1 hT (m := m) (i := k) rows hargs (by omega) hsz hr W1 ⟨by simp (disch := first | omega | decide | (simp only [eget_eput', ↓reduceIte, Nat.reduceEqDiff]; done)) only [go_sem, ↓reduceIte, Nat.reduceEqDiff, Nat.reduceAdd, Nat.reduceMul, reduceCtorEq, e0], by simp (disch := first | omega | decide | (simp only [eget_eput', ↓reduceIte, Nat.reduceEqDiff]; done)) only [go_sem, ↓reduceIte, Nat.reduceEqDiff, Nat.reduceAdd, Nat.reduceMul, reduceCtorEq, e1], by simp (disch := first | omega | decide | (simp only [eget_eput', ↓reduceIte, Nat.reduceEqDiff]; done)) only [go_sem, ↓reduceIte, Nat.reduceEqDiff, Nat.reduceAdd, Nat.reduceMul, reduceCtorEq, e2], by simp (disch := first | omega | decide | (simp only [eget_eput', ↓reduceIte, Nat.reduceEqDiff]; done)) only [go_sem, ↓reduceIte, Nat.reduceEqDiff, Nat.reduceAdd, Nat.reduceMul, reduceCtorEq, e7], by simp (disch := first | omega | decide | (simp only [eget_eput', ↓reduceIte, Nat.reduceEqDiff]; done)) only [go_sem, ↓reduceIte, Nat.reduceEqDiff, Nat.reduceAdd, Nat.reduceMul, reduceCtorEq, e8], by simp (disch := first | omega | decide | (simp only [eget_eput', ↓reduceIte, Nat.reduceEqDiff]; done)) only [go_sem, ↓reduceIte, Nat.reduceEqDiff, Nat.reduceAdd, Nat.reduceMul, reduceCtorEq]⟩ (by simp (disch := first | omega | decide | (simp only [eget_eput', ↓reduceIte, Nat.reduceEqDiff]; done)) only [go_sem, ↓reduceIte, Nat.reduceEqDiff, Nat.reduceAdd, Nat.reduceMul, reduceCtorEq]) hw fun H' e' ws' y' W' E' hw' => ?_
    obtain ⟨e0, e1, e2, e7, e8, e9⟩ := E'
    simp (disch := first | omega | decide | (simp only [eget_eput', ↓reduceIte, Nat.reduceEqDiff]; done)) only [go_sem, ↓reduceIte, Nat.reduceEqDiff, Nat.reduceAdd, Nat.reduceMul, reduceCtorEq, e8, e9]
    exact ⟨k, by omega, _, _, _, _, by omega, ⟨W'.low, W'.hb, W'.lb, W'.oky⟩, e0, e1, e2, rfl, rfl, hw', rfl⟩
end Go.Proofs.Tryz
/- The specification's table. -/
namespace Go.Proofs.Tryz
open Go Go.AE
variable {T : Tbl} (hT : Std T)

def refOf (nS j : Nat) : PV := .aref j 1 0 nS nS
/-- The table in memory. -/
structure TS (h H : List AE.Obj) (s : GSig) (js : List Nat) (zs : List (List Int)) : Prop where
  low : Low h.length h H
  box : H[h.length]? = some (.row 2 [encSig s])
  len : zs.length = js.length
  rows : ∀ (i j : Nat) (z : List Int), js[i]? = some j → zs[i]? = some z → H[j]? = some (.row 1 (z.map encI))
  ok : ∀ z ∈ zs, okV z s.sorts.length
  big : ∀ j ∈ js, h.length < j
theorem TS.rowsOK {h H : List AE.Obj} {s : GSig} {js : List Nat} {zs : List (List Int)} (G : TS h H s js zs) : RowsOK H (js.map (refOf s.sorts.length)) s.sorts.length := by
  intro k hk
  have hk1 : k < js.length := by simpa using hk
  have hk2 : k < zs.length := by rw [G.len]; exact hk1
  have h1 := G.rows k js[k] zs[k] (List.getElem?_eq_getElem hk1) (List.getElem?_eq_getElem hk2)
  exact ⟨js[k], zs[k], by simp [hk1, refOf], (List.getElem?_eq_some_iff.1 h1).1, h1, G.ok _ (List.getElem_mem hk2)⟩
/-- Another object is written, or made. -/
theorem TS.set {h H : List AE.Obj} {s : GSig} {js : List Nat} {zs : List (List Int)} (G : TS h H s js zs) {r : Nat} {o : AE.Obj} (hr : h.length < r) (hn : r ∉ js) : TS h (H.set r o) s js zs :=
  ⟨G.low.trans (.set (by omega)), get_set_ne G.box (by omega), G.len, fun i j z a b => get_set_ne (G.rows i j z a b) (by rintro rfl; exact hn (List.mem_of_getElem? a)), G.ok, G.big⟩
theorem TS.push {h H : List AE.Obj} {s : GSig} {js : List Nat} {zs : List (List Int)} (G : TS h H s js zs) {o : AE.Obj} : TS h (H ++ [o]) s js zs := by
  have keep : ∀ {k : Nat} {ob : AE.Obj}, H[k]? = some ob → (H ++ [o])[k]? = some ob := fun hx => by
    rw [List.getElem?_append_left (List.getElem?_eq_some_iff.1 hx).1]; exact hx
  exact ⟨G.low.push (by have := G.low.len; omega), keep G.box, G.len, fun i j z a b => keep (G.rows i j z a b), G.ok, G.big⟩
theorem TS.more {h H : List AE.Obj} {s : GSig} {js : List Nat} {zs : List (List Int)} (G : TS h H s js zs) {r : Nat} {x : List Int} (hr : h.length < r) (hx : H[r]? = some (.row 1 (x.map encI))) (ok : okV x s.sorts.length) : TS h H s (js ++ [r]) (zs ++ [x]) := by
  refine ⟨G.low, G.box, by simp [G.len], fun i j z a b => ?_, fun z hz => ?_, fun j hj => ?_⟩
  · by_cases hi : i < js.length
    · rw [List.getElem?_append_left hi] at a
      rw [List.getElem?_append_left (by rw [G.len]; exact hi)] at b
      exact G.rows i j z a b
    · have hi2 : i = js.length := by
        have := (List.getElem?_eq_some_iff.1 a).1
        simp at this
        omega
      subst hi2
      simp at a
      rw [← G.len] at b
      simp at b
      subst a b
      exact hx
  · rcases List.mem_append.1 hz with h | h
    · exact G.ok z h
    · rw [List.mem_singleton.1 h]; exact ok
  · rcases List.mem_append.1 hj with h | h
    · exact G.big j h
    · rw [List.mem_singleton.1 h]; exact hr

/-- The slots that a round of the table keeps. -/
structure TSl (h : List AE.Obj) (s : GSig) (js : List Nat) (m : SM) (p r : Nat) (v : PV) (e : List PV) : Prop where
  e1 : eget e 1 = v
  e2 : eget e 2 = .ptr h.length 0 0 1
  e5 : eget e 5 = .slice 1 (js.map (refOf s.sorts.length)) m
  e6 : eget e 6 = .int .i64 ((p + 1 : Nat) : Int)
  e7 : eget e 7 = .aref r 1 0 s.sorts.length s.sorts.length
include hT in
theorem table_step {h : List AE.Obj} {s : GSig} (hs : Fits s) (hops : okOps s.ops s.sorts.length) {js : List Nat} {zs : List (List Int)} {r p i : Nat} {m : SM} {v : PV} (hp : p < 100) (hjs : js.length < 900) (c1 : i < s.ops.length)
    {Q : AExit → List PV → St → Prop} {e : List PV} {H : List AE.Obj} {ws : List Nat} {x : List Int} (G : TS h H s js zs) (hx : H[r]? = some (.row 1 (x.map encI))) (okx : okV x s.sorts.length) (E : TSl h s js m p r v e) (e8 : eget e 8 = .int .i64 (i : Int))
    (hQ : ∀ e' j c, okN c → TSl h s js m p r v e' → eget e' 8 = .int .i64 ((i + 1 : Nat) : Int) → Q .normal e' ⟨H.set r (.row 1 ((x.set j c).map encI)), wadd r ws, []⟩) : wpC T a93b0 e ⟨H, ws, []⟩ Q := by
  obtain ⟨e1, e2, e5, e6, e7⟩ := E
  have hs1 := hs.nS
  have hs2 := hs.nO
  have fb1 : loadAt false 1 (.ptr h.length 0 1 1) H = some (.slice 3 (s.ops.map encOp) .any) := by rw [ld_at G.box]; rfl
  have go := get_op c1
  obtain ⟨k1, ⟨k2, k3⟩, k4⟩ := hops _ (List.getElem_mem c1)
  obtain ⟨rn, hrn⟩ := Int.eq_ofNat_of_zero_le k2
  have hrn2 : rn < s.sorts.length := by omega
  obtain ⟨w, hw1, okw⟩ := rways_tot hT (m := m) (size := p) G.rowsOK k1 k4 (by omega) (by simp; omega)
  have fl := ld_v hx okx.len hrn2
  have ox := okx.get hrn2
  obtain ⟨c, hc, okc⟩ := rcapped_tot hT (n := x.getD rn 0 + w) (by have := okw.1; have := ox.1; omega) H
  have fs := st_v (ws := []) (ups := []) (v := c) hx okx.len hrn2
  obtain ⟨ow1, ow2⟩ := okw
  obtain ⟨ox1, ox2⟩ := ox
  simp (disch := first | omega | decide | (simp only [eget_eput', ↓reduceIte, Nat.reduceEqDiff]; done)) only [go_sem, ↓reduceIte, Nat.reduceEqDiff, Nat.reduceAdd, Nat.reduceMul, reduceCtorEq, a93b0, e2, e5, e6, e7, e8, c1, fb1, go, cb hw1, cb hc, hT.prim, primOf, hrn, hrn2, fl, fs, allocOp]
  exact hQ _ _ _ okc ⟨by simp (disch := first | omega | decide | (simp only [eget_eput', ↓reduceIte, Nat.reduceEqDiff]; done)) only [go_sem, ↓reduceIte, Nat.reduceEqDiff, Nat.reduceAdd, Nat.reduceMul, reduceCtorEq, e1], by simp (disch := first | omega | decide | (simp only [eget_eput', ↓reduceIte, Nat.reduceEqDiff]; done)) only [go_sem, ↓reduceIte, Nat.reduceEqDiff, Nat.reduceAdd, Nat.reduceMul, reduceCtorEq, e2], by simp (disch := first | omega | decide | (simp only [eget_eput', ↓reduceIte, Nat.reduceEqDiff]; done)) only [go_sem, ↓reduceIte, Nat.reduceEqDiff, Nat.reduceAdd, Nat.reduceMul, reduceCtorEq, e5], by simp (disch := first | omega | decide | (simp only [eget_eput', ↓reduceIte, Nat.reduceEqDiff]; done)) only [go_sem, ↓reduceIte, Nat.reduceEqDiff, Nat.reduceAdd, Nat.reduceMul, reduceCtorEq, e6], by simp (disch := first | omega | decide | (simp only [eget_eput', ↓reduceIte, Nat.reduceEqDiff]; done)) only [go_sem, ↓reduceIte, Nat.reduceEqDiff, Nat.reduceAdd, Nat.reduceMul, reduceCtorEq, e7]⟩ (by simp (disch := first | omega | decide | (simp only [eget_eput', ↓reduceIte, Nat.reduceEqDiff]; done)) only [go_sem, ↓reduceIte, Nat.reduceEqDiff, Nat.reduceAdd, Nat.reduceMul, reduceCtorEq])
include hT in
theorem table_b0 {h : List AE.Obj} {s : GSig} (hs : Fits s) (hops : okOps s.ops s.sorts.length) {js : List Nat} {zs : List (List Int)} {r p : Nat} {m : SM} {v : PV} (hp : p < 100) (hjs : js.length < 900) (hr : h.length < r) (hrj : r ∉ js)
    {Q : AExit → List PV → St → Prop} {e : List PV} {H : List AE.Obj} {ws : List Nat} {x : List Int} (G : TS h H s js zs) (hx : H[r]? = some (.row 1 (x.map encI))) (okx : okV x s.sorts.length) (E : TSl h s js m p r v e) (e8 : eget e 8 = .int .i64 0) (hw : ∀ k ∈ ws, h.length ≤ k)
    (hQ : ∀ H' e' ws' x', TS h H' s js zs → H'[r]? = some (.row 1 (x'.map encI)) → okV x' s.sorts.length → (∀ k o, H[k]? = some o → k ≠ r → H'[k]? = some o) → TSl h s js m p r v e' → (∀ k ∈ ws', h.length ≤ k) → Q (.exit 2) e' ⟨H', ws', []⟩) :
    wpC T (.loop a93b0) e ⟨H, ws, []⟩ Q := by
  have hs1 := hs.nS
  have hs2 := hs.nO
  refine wpC.loopM (fun n e st => ∃ (i : Nat) (H' : List AE.Obj) (ws : List Nat) (x : List Int), i + n = s.ops.length ∧ TS h H' s js zs ∧ H'[r]? = some (.row 1 (x.map encI)) ∧ okV x s.sorts.length ∧ (∀ k o, H[k]? = some o → k ≠ r → H'[k]? = some o) ∧ TSl h s js m p r v e ∧ eget e 8 = .int .i64 (i : Int) ∧ (∀ k ∈ ws, h.length ≤ k) ∧ st = ⟨H', ws, []⟩) ?_ s.ops.length _ _
    ⟨0, H, ws, x, by omega, G, hx, okx, fun _ _ h _ => h, E, e8, hw, rfl⟩
  rintro n e st ⟨i, H', ws, x, hi, G, hx, okx, same, E, e8, hw, rfl⟩
  by_cases c1 : i < s.ops.length
  · refine table_step hT hs hops hp hjs c1 G hx okx E e8 fun e' j c okc E' e8' => ?_
    exact ⟨n - 1, by omega, i + 1, _, _, _, by omega, G.set hr hrj, get_set hx, okx.set okc, fun k o hk hne => get_set_ne (same k o hk hne) (Ne.symm hne), E', e8', wadd_low (by omega) hw, rfl⟩
  · have fb1 : loadAt false 1 (.ptr h.length 0 1 1) H' = some (.slice 3 (s.ops.map encOp) .any) := by rw [ld_at G.box]; rfl
    obtain ⟨e1, e2, e5, e6, e7⟩ := E
    simp (disch := first | omega | decide | (simp only [eget_eput', ↓reduceIte, Nat.reduceEqDiff]; done)) only [go_sem, ↓reduceIte, Nat.reduceEqDiff, Nat.reduceAdd, Nat.reduceMul, reduceCtorEq, a93b0, e2, e5, e6, e7, e8, c1, fb1]
    exact hQ _ _ _ _ G hx okx same ⟨by simp (disch := first | omega | decide | (simp only [eget_eput', ↓reduceIte, Nat.reduceEqDiff]; done)) only [go_sem, ↓reduceIte, Nat.reduceEqDiff, Nat.reduceAdd, Nat.reduceMul, reduceCtorEq, e1], by simp (disch := first | omega | decide | (simp only [eget_eput', ↓reduceIte, Nat.reduceEqDiff]; done)) only [go_sem, ↓reduceIte, Nat.reduceEqDiff, Nat.reduceAdd, Nat.reduceMul, reduceCtorEq, e2], by simp (disch := first | omega | decide | (simp only [eget_eput', ↓reduceIte, Nat.reduceEqDiff]; done)) only [go_sem, ↓reduceIte, Nat.reduceEqDiff, Nat.reduceAdd, Nat.reduceMul, reduceCtorEq, e5], by simp (disch := first | omega | decide | (simp only [eget_eput', ↓reduceIte, Nat.reduceEqDiff]; done)) only [go_sem, ↓reduceIte, Nat.reduceEqDiff, Nat.reduceAdd, Nat.reduceMul, reduceCtorEq, e6], by simp (disch := first | omega | decide | (simp only [eget_eput', ↓reduceIte, Nat.reduceEqDiff]; done)) only [go_sem, ↓reduceIte, Nat.reduceEqDiff, Nat.reduceAdd, Nat.reduceMul, reduceCtorEq, e7]⟩ hw
/-- How the table stands: made at once, or appended to. -/
def Mark (h H : List AE.Obj) (n : Nat) (js : List Nat) (m : SM) : Prop := m = .lit ∨ ∃ k, m = .tok k ∧ H[k]? = some (.tok 1 n) ∧ k ∉ js ∧ h.length < k
theorem append_ref {h H : List AE.Obj} {s : GSig} {js : List Nat} {zs : List (List Int)} {R n : Nat} {x : List Int} {m : SM} {ws : List Nat} (G : TS h H s js zs) (hx : H[R]? = some (.row 1 (x.map encI))) (okx : okV x s.sorts.length) (hr : h.length < R) (hjl : js.length = n) (hn : n < 1000) (M : Mark h H n js m) (hm : ∀ k, m = .tok k → k ≠ R)
    (hw : ∀ k ∈ ws, h.length ≤ k) :
    ∃ H2 m2 ws2, appendop 1 24 (.slice 1 (js.map (refOf s.sorts.length)) m) (.slice 1 [.aref R 1 0 s.sorts.length s.sorts.length] .lit) ⟨H, ws, []⟩ = some (.slice 1 ((js ++ [R]).map (refOf s.sorts.length)) m2, ⟨H2, ws2, []⟩) ∧ TS h H2 s (js ++ [R]) (zs ++ [x]) ∧ Mark h H2 (n + 1) (js ++ [R]) m2 ∧ (∀ k ∈ ws2, h.length ≤ k) := by
  have G2 := G.more hr hx okx
  have hroom : (n + 1) * 24 ≤ room ∧ n + 1 ≤ room := by
    have : room = 4611686018427387903 ∨ 100000 ≤ room := .inr (by decide)
    constructor <;> rcases this with h | h <;> omega
  rcases M with rfl | ⟨k, rfl, h2, h3, h4⟩
  · refine ⟨H ++ [.tok 1 (n + 1)], .tok H.length, ws, ?_, G2.push, .inr ⟨H.length, rfl, by simp, fun hm => ?_, (List.getElem?_eq_some_iff.1 G.box).1⟩, hw⟩
    · simp [appendop, elems, hjl, PV.cells, PV.isCell, hroom, alloc, refOf]
    · obtain ⟨i, hi, hh⟩ := List.getElem_of_mem hm
      have := (List.getElem?_eq_some_iff.1 (G2.rows i _ ((zs ++ [x])[i]'(by rw [G2.len]; exact hi)) (List.getElem?_eq_getElem hi) (List.getElem?_eq_getElem _))).1
      omega
  · have hk : k ∉ js ++ [R] := fun hm' => by
      rcases List.mem_append.1 hm' with h | h
      · exact h3 h
      · exact hm k rfl (List.mem_singleton.1 h)
    refine ⟨H.set k (.tok 1 (n + 1)), .tok k, wadd k ws, ?_, G2.set h4 hk, .inr ⟨k, rfl, get_set h2, hk, h4⟩, wadd_low (by omega) hw⟩
    simp [appendop, elems, hjl, PV.cells, PV.isCell, hroom, wrote_none, refOf, h2]
/-- The rows as they are handed back. -/
def encRows (zs : List (List Int)) : PV := .slice 1 (zs.map fun z => .slice 1 (z.map encI) .any) .any
include hT in
theorem table_b1 {h : List AE.Obj} {s : GSig} (hs : Fits s) (hops : okOps s.ops s.sorts.length) {most : Nat} (hmost : most ≤ 60) {Q : AExit → List PV → St → Prop} {e : List PV} {H : List AE.Obj} {ws : List Nat} {j0 : Nat} {z0 : List Int} (G : TS h H s [j0] [z0])
    (e1 : eget e 1 = .int .i64 (most : Int)) (e2 : eget e 2 = .ptr h.length 0 0 1) (e5 : eget e 5 = .slice 1 [refOf s.sorts.length j0] .lit) (e6 : eget e 6 = .int .i64 1) (hw : ∀ k ∈ ws, h.length ≤ k)
    (hQ : ∀ H' e' ws' js zs m, TS h H' s js zs → zs.length = most + 1 → eget e' 5 = .slice 1 (js.map (refOf s.sorts.length)) m → (∀ k ∈ ws', h.length ≤ k) → Q (.exit 0) e' ⟨H', ws', []⟩) :
    wpC T (.loop a93b1) e ⟨H, ws, []⟩ Q := by
  have hs1 := hs.nS
  have hs2 := hs.nO
  refine wpC.loopM (fun n e st => ∃ (p : Nat) (H : List AE.Obj) (ws : List Nat) (js : List Nat) (zs : List (List Int)) (m : SM), p + n = most ∧ js.length = p + 1 ∧ TS h H s js zs ∧ Mark h H (p + 1) js m ∧ eget e 1 = .int .i64 (most : Int) ∧ eget e 2 = .ptr h.length 0 0 1 ∧ eget e 5 = .slice 1 (js.map (refOf s.sorts.length)) m ∧ eget e 6 = .int .i64 ((p + 1 : Nat) : Int) ∧ (∀ k ∈ ws, h.length ≤ k) ∧ st = ⟨H, ws, []⟩) ?_ most _ _
    ⟨0, H, ws, [j0], [z0], .lit, by omega, rfl, G, .inl rfl, e1, e2, e5, e6, hw, rfl⟩
  rintro n e st ⟨p, H, ws, js, zs, m, hp, hjl, G, M, e1, e2, e5, e6, hw, rfl⟩
  have fb0 : loadAt false 1 (.ptr h.length 0 0 1) H = some (.slice 1 (s.sorts.map .str) .any) := by rw [ld_at G.box]; rfl
  by_cases c1 : p + 1 ≤ most
  · have hmk := mk_ok (sz := 1) (bytes := 8) (n := s.sorts.length) (z := .int .i64 0) (by omega) (by omega) rfl
    have hrep : List.replicate s.sorts.length (PV.int .i64 0) = (List.replicate s.sorts.length (0 : Int)).map encI := by simp [encI]
    have G1 := G.push (o := .row 1 ((List.replicate s.sorts.length (0 : Int)).map encI))
    have hx1 : (H ++ [AE.Obj.row 1 ((List.replicate s.sorts.length (0 : Int)).map encI)])[H.length]? = some (.row 1 ((List.replicate s.sorts.length (0 : Int)).map encI)) := by simp
    have hr : h.length < H.length := (List.getElem?_eq_some_iff.1 G.box).1
    have hrj : H.length ∉ js := fun hm => by
      obtain ⟨i, hi, hh⟩ := List.getElem_of_mem hm
      have := (List.getElem?_eq_some_iff.1 (G.rows i _ (zs[i]'(by rw [G.len]; exact hi)) (List.getElem?_eq_getElem hi) (List.getElem?_eq_getElem _))).1
      omega
    have M1 : Mark h (H ++ [AE.Obj.row 1 ((List.replicate s.sorts.length (0 : Int)).map encI)]) (p + 1) js m := by
      rcases M with h | ⟨k, h1, h2, h3, h4⟩
      · exact .inl h
      · exact .inr ⟨k, h1, by rw [List.getElem?_append_left (List.getElem?_eq_some_iff.1 h2).1]; exact h2, h3, h4⟩
    have hne : ∀ k, m = .tok k → k ≠ H.length := fun k hk => by
      rcases M with h | ⟨k', h1, h2, h3, _⟩
      · rw [hk] at h; cases h
      · rw [hk] at h1; cases h1
        have := (List.getElem?_eq_some_iff.1 h2).1
        omega
    generalize hH1 : H ++ [AE.Obj.row 1 ((List.replicate s.sorts.length (0 : Int)).map encI)] = H1 at G1 hx1 M1
    generalize hRR : H.length = R at *
    simp (disch := first | omega | decide | (simp only [eget_eput', ↓reduceIte, Nat.reduceEqDiff]; done)) only [go_sem, ↓reduceIte, Nat.reduceEqDiff, Nat.reduceAdd, Nat.reduceMul, reduceCtorEq, a93b1, e1, e2, e5, e6, c1, fb0, hmk, hrep, hH1, hRR]
    refine table_b0 hT hs hops (p := p) (m := m) (v := .int .i64 (most : Int)) (by omega) (by omega) hr hrj G1 hx1 (.zeros _) ⟨by simp (disch := first | omega | decide | (simp only [eget_eput', ↓reduceIte, Nat.reduceEqDiff]; done)) only [go_sem, ↓reduceIte, Nat.reduceEqDiff, Nat.reduceAdd, Nat.reduceMul, reduceCtorEq, e1], by simp (disch := first | omega | decide | (simp only [eget_eput', ↓reduceIte, Nat.reduceEqDiff]; done)) only [go_sem, ↓reduceIte, Nat.reduceEqDiff, Nat.reduceAdd, Nat.reduceMul, reduceCtorEq, e2], by simp (disch := first | omega | decide | (simp only [eget_eput', ↓reduceIte, Nat.reduceEqDiff]; done)) only [go_sem, ↓reduceIte, Nat.reduceEqDiff, Nat.reduceAdd, Nat.reduceMul, reduceCtorEq, e5], by simp (disch := first | omega | decide | (simp only [eget_eput', ↓reduceIte, Nat.reduceEqDiff]; done)) only [go_sem, ↓reduceIte, Nat.reduceEqDiff, Nat.reduceAdd, Nat.reduceMul, reduceCtorEq, e6], by simp (disch := first | omega | decide | (simp only [eget_eput', ↓reduceIte, Nat.reduceEqDiff]; done)) only [go_sem, ↓reduceIte, Nat.reduceEqDiff, Nat.reduceAdd, Nat.reduceMul, reduceCtorEq]⟩ (by simp (disch := first | omega | decide | (simp only [eget_eput', ↓reduceIte, Nat.reduceEqDiff]; done)) only [go_sem, ↓reduceIte, Nat.reduceEqDiff, Nat.reduceAdd, Nat.reduceMul, reduceCtorEq]) hw fun H' e' ws' x' G' hx' okx' same E' hw' => ?_
    obtain ⟨e1, e2, e5, e6, e7⟩ := E'
    have fe : fillE 1 (List.replicate 1 (PV.slice 0 [] .nil)) [(0, .aref R 1 0 s.sorts.length s.sorts.length)] = some [.aref R 1 0 s.sorts.length s.sorts.length] := rfl
    have M' : Mark h H' (p + 1) js m := by
      rcases M1 with h | ⟨k, h1, h2, h3, h4⟩
      · exact .inl h
      · exact .inr ⟨k, h1, same k _ h2 (hne k h1), h3, h4⟩
    obtain ⟨H2, m2, ws2, ha, G2, M2, hw2⟩ := append_ref (ws := ws') G' hx' okx' hr hjl (by omega) M' hne hw'
    simp (disch := first | omega | decide | (simp only [eget_eput', ↓reduceIte, Nat.reduceEqDiff]; done)) only [go_sem, ↓reduceIte, Nat.reduceEqDiff, Nat.reduceAdd, Nat.reduceMul, reduceCtorEq, e1, e2, e5, e6, e7, fe, ha]
    exact ⟨n - 1, by omega, p + 1, H2, ws2, js ++ [R], zs ++ [x'], m2, by omega, by simp [hjl], G2, M2, rfl, rfl, hw2, rfl⟩
  · simp (disch := first | omega | decide | (simp only [eget_eput', ↓reduceIte, Nat.reduceEqDiff]; done)) only [go_sem, ↓reduceIte, Nat.reduceEqDiff, Nat.reduceAdd, Nat.reduceMul, reduceCtorEq, a93b1, e1, e2, e5, e6, c1]
    exact hQ _ _ _ _ _ m G (by rw [G.len]; omega) (by simp (disch := first | omega | decide | (simp only [eget_eput', ↓reduceIte, Nat.reduceEqDiff]; done)) only [go_sem, ↓reduceIte, Nat.reduceEqDiff, Nat.reduceAdd, Nat.reduceMul, reduceCtorEq, e5]) hw
theorem ints_pure : ∀ x : List Int, pures (x.map encI) = true ∧ weaks (x.map encI) = x.map encI
  | [] => ⟨rfl, rfl⟩
  | v :: x => by
    obtain ⟨a, b⟩ := ints_pure x
    exact ⟨by simp only [List.map_cons, pures, a]; rfl, by simp only [List.map_cons, weaks, b]; rfl⟩
theorem frz_ints {H : List AE.Obj} {n0 n : Nat} : ∀ x : List Int, optAll ((x.map encI).map (frz H n0 (n + 1))) = some (x.map encI)
  | [] => rfl
  | v :: x => by
    have h1 : frz H n0 (n + 1) (encI v) = some (encI v) := frz_pure rfl
    simp only [List.map_cons, h1, optAll, frz_ints x, Option.map]
theorem frz_row {H : List AE.Obj} {n0 n j nS : Nat} {z : List Int} (hj : H[j]? = some (.row 1 (z.map encI))) (hz : z.length = nS) (hn : n0 ≤ j) : frz H n0 (n + 2) (refOf nS j) = some (.slice 1 (z.map encI) .any) := by
  have h1 : ¬ (j < n0) := by omega
  have h2 : ((z.map encI).drop 0).take nS = z.map encI := by
    rw [List.drop_zero, List.take_of_length_le (by simp [hz])]
  rw [refOf, frz]
  simp only [PV.pure, Bool.false_eq_true, if_false, if_neg h1, hj, List.length_map, hz, Nat.zero_add, Nat.le_refl, and_self, if_true, h2, frz_ints, Option.map]
theorem frz_refs {H : List AE.Obj} {n0 n nS : Nat} : ∀ {js : List Nat} {zs : List (List Int)}, zs.length = js.length → (∀ (i j : Nat) (z : List Int), js[i]? = some j → zs[i]? = some z → H[j]? = some (.row 1 (z.map encI))) → (∀ z ∈ zs, z.length = nS) → (∀ j ∈ js, n0 ≤ j) →
    optAll ((js.map (refOf nS)).map (frz H n0 (n + 2))) = some (zs.map fun z => .slice 1 (z.map encI) .any)
  | [], [], _, _, _, _ => rfl
  | [], _ :: _, h, _, _, _ => by simp at h
  | _ :: _, [], h, _, _, _ => by simp at h
  | j :: js, z :: zs, hl, hr, hz, hj => by
    have h1 := frz_row (n := n) (hr 0 j z rfl rfl) (hz z (by simp)) (hj j (by simp))
    have h2 := frz_refs (n := n) (js := js) (zs := zs) (by simpa using hl) (fun i j' z' a b => hr (i + 1) j' z' (by simpa using a) (by simpa using b)) (fun z' h => hz z' (by simp [h])) (fun j' h => hj j' (by simp [h]))
    simp only [List.map_cons, h1, optAll, h2, Option.map]
theorem tidy_refs {h H : List AE.Obj} {s : GSig} {js : List Nat} {zs : List (List Int)} {m : SM} {ws : List Nat} (G : TS h H s js zs) (hne : js ≠ []) (hw : ∀ k ∈ ws, h.length ≤ k) : tidy 0 h.length (.val (.slice 1 (js.map (refOf s.sorts.length)) m)) ⟨H, ws, []⟩ = (.val (encRows zs), ⟨h, [], []⟩) := by
  have hb : below h.length ws = [] := List.filter_eq_nil_iff.2 fun k hk => by have := hw k hk; simp; omega
  have hp : (PV.slice 1 (js.map (refOf s.sorts.length)) m).pure = false := by
    cases js with
    | nil => exact absurd rfl hne
    | cons j js => simp [PV.pure, pures, refOf]
  have hf : frz H h.length 64 (.slice 1 (js.map (refOf s.sorts.length)) m) = some (encRows zs) := by
    rw [frz]
    simp only [hp, Bool.false_eq_true, if_false]
    rw [frz_refs (n := 61) G.len G.rows (fun z hz => (G.ok z hz).len) (fun j hj => by have := G.big j hj; omega)]
    rfl
  have ht : H.take h.length = h := by rw [G.low.take]; simp
  unfold tidy
  rw [if_neg (by decide), if_neg (by simp)]
  simp only [OR.v, hf, hb, ht, OR.put]
  rfl
include hT in
theorem rtable_tot {s : GSig} (hs : Fits s) (hops : okOps s.ops s.sorts.length) {most : Nat} (hmost : most ≤ 60) (h : List AE.Obj) : ∃ zs, Ev T 93 [encSig s, .int .i64 (most : Int)] h (.val (encRows zs), ⟨h, [], []⟩) ∧ zs.length = most + 1 ∧ ∀ z ∈ zs, okV z s.sorts.length := by
  have hs1 := hs.nS
  refine Ev.walkP (hT.sp _ (by decide)) ((hT.fn _).trans fn93) (hT.mode _) rfl ?_
  have hmk := mk_ok (sz := 1) (bytes := 8) (n := s.sorts.length) (z := .int .i64 0) (by omega) (by omega) rfl
  have hrep : List.replicate s.sorts.length (PV.int .i64 0) = (List.replicate s.sorts.length (0 : Int)).map encI := by simp [encI]
  have fe : ∀ R, fillE 1 (List.replicate 1 (PV.slice 0 [] .nil)) [(0, .aref R 1 0 s.sorts.length s.sorts.length)] = some [.aref R 1 0 s.sorts.length s.sorts.length] := fun _ => rfl
  have G0 : TS h (h ++ [.row 2 [encSig s]]) s [] [] := ⟨(Low.refl _ _).push (Nat.le_refl _), by simp, rfl, fun i j z a => by simp at a, fun z hz => by simp at hz, fun j hj => by simp at hj⟩
  have G1 := (G0.push (o := .row 1 ((List.replicate s.sorts.length (0 : Int)).map encI))).more (r := (h ++ [AE.Obj.row 2 [encSig s]]).length) (x := List.replicate s.sorts.length 0) (by simp) (by simp) (.zeros _)
  simp (disch := first | omega | decide | (simp only [eget_eput', ↓reduceIte, Nat.reduceEqDiff]; done)) only [go_sem, ↓reduceIte, Nat.reduceEqDiff, Nat.reduceAdd, Nat.reduceMul, reduceCtorEq, hmk, hrep, fe]
  refine table_b1 hT hs hops hmost G1 (by simp (disch := first | omega | decide | (simp only [eget_eput', ↓reduceIte, Nat.reduceEqDiff]; done)) only [go_sem, ↓reduceIte, Nat.reduceEqDiff, Nat.reduceAdd, Nat.reduceMul, reduceCtorEq]) (by simp (disch := first | omega | decide | (simp only [eget_eput', ↓reduceIte, Nat.reduceEqDiff]; done)) only [go_sem, ↓reduceIte, Nat.reduceEqDiff, Nat.reduceAdd, Nat.reduceMul, reduceCtorEq]) (by simp (disch := first | omega | decide | (simp only [eget_eput', ↓reduceIte, Nat.reduceEqDiff]; done)) only [go_sem, ↓reduceIte, Nat.reduceEqDiff, Nat.reduceAdd, Nat.reduceMul, reduceCtorEq]; rfl) (by simp (disch := first | omega | decide | (simp only [eget_eput', ↓reduceIte, Nat.reduceEqDiff]; done)) only [go_sem, ↓reduceIte, Nat.reduceEqDiff, Nat.reduceAdd, Nat.reduceMul, reduceCtorEq]) (by simp) fun H' e' ws' js zs m G' hl e5 hw' => ?_
  simp (disch := first | omega | decide | (simp only [eget_eput', ↓reduceIte, Nat.reduceEqDiff]; done)) only [go_sem, ↓reduceIte, Nat.reduceEqDiff, Nat.reduceAdd, Nat.reduceMul, reduceCtorEq, e5]
  exact ⟨zs, tidy_refs G' (by rintro rfl; have := G'.len; simp at this; subst this; simp at hl) hw', hl, G'.ok⟩
end Go.Proofs.Tryz
/- The specification counts. -/
namespace Go.Proofs.Tryz
open Go Go.AE
variable {T : Tbl} (hT : Std T)

include hT in
theorem rasked_tot {s : GSig} (hs : Fits s) (sort : Int) (h : List AE.Obj) : ∃ r : Int, Ev T 92 [encSig s, .int .i64 sort] h (.val (.int .i64 r), ⟨h, [], []⟩) ∧ (r = 0 → okOps s.ops s.sorts.length ∧ 0 ≤ sort ∧ sort < (s.sorts.length : Int)) := by
  refine Ev.walkP (hT.sp _ (by decide)) ((hT.fn _).trans fn92) (hT.mode _) rfl ?_
  have hs1 := hs.nS
  obtain ⟨r, hr, kr⟩ := rcheck_tot hT s hs (h ++ [.row 2 [encSig s]])
  simp (disch := first | omega | decide | (simp only [eget_eput', ↓reduceIte, Nat.reduceEqDiff]; done)) only [go_sem, ↓reduceIte, Nat.reduceEqDiff, Nat.reduceAdd, Nat.reduceMul, reduceCtorEq, cb hr, hT.prim, primOf]
  refine bifs (fun hh => ⟨r, rfl, fun h0 => by simp [h0] at hh⟩) fun hh => bifs (fun _ => ⟨1, rfl, by simp⟩) fun h1 => bifs (fun _ => ⟨1, rfl, by simp⟩) fun h2 => ⟨0, rfl, fun _ => ⟨kr (by simpa using hh), by simpa using h1, by simpa using h2⟩⟩
theorem get_rows {zs : List (List Int)} {i : Nat} (hi : i < zs.length) : (zs.map fun z => PV.slice 1 (z.map encI) .any)[i]? = some (.slice 1 (zs[i].map encI) .any) := by simp [hi]
include hT in
theorem rcount_tot {s : GSig} (hs : Fits s) (sort size : Int) (h : List AE.Obj) : ∃ r : Int × Int, Ev T 58 [encSig s, .int .i64 sort, .int .i64 size] h (.val (.tuple [.int .i64 r.1, .int .i64 r.2]), ⟨h, [], []⟩) ∧ okN r.1 := by
  refine Ev.walkP (hT.sp _ (by decide)) ((hT.fn _).trans fn58) (hT.mode _) rfl ?_
  obtain ⟨r, hr, kr⟩ := rasked_tot hT hs sort (h ++ [.row 2 [encSig s]])
  by_cases c : r = 0 ∧ 0 ≤ size ∧ size ≤ 60
  · obtain ⟨c1, c2, c3⟩ := c
    subst c1
    obtain ⟨k1, k2, k3⟩ := kr rfl
    obtain ⟨n, rfl⟩ := Int.eq_ofNat_of_zero_le c2
    obtain ⟨t, rfl⟩ := Int.eq_ofNat_of_zero_le k2
    obtain ⟨zs, hz, hl, okz⟩ := rtable_tot hT hs k1 (most := n) (by omega) (h ++ [.row 2 [encSig s]])
    have hnl : n < zs.length := by omega
    have gz := get_rows hnl
    have ok1 := okz _ (List.getElem_mem hnl)
    have htl : t < zs[n].length := by rw [ok1.len]; omega
    have gt := get_enc htl
    have hn : ¬ ((n : Int) < 0) := by omega
    have hn2 : ¬ ((60 : Int) < (n : Int)) := by omega
    simp (disch := first | omega | decide | (simp only [eget_eput', ↓reduceIte, Nat.reduceEqDiff]; done)) only [go_sem, ↓reduceIte, Nat.reduceEqDiff, Nat.reduceAdd, Nat.reduceMul, reduceCtorEq, cb hr, cb hz, hT.prim, primOf, encRows, gz, gt, hn, hn2]
    exact bifs (fun _ => ⟨(0, 0), rfl, by simp [okN]⟩) (fun _ => ⟨(zs[n][t], 0), rfl, ok1.ok _ (List.getElem_mem htl)⟩)
  · simp (disch := first | omega | decide | (simp only [eget_eput', ↓reduceIte, Nat.reduceEqDiff]; done)) only [go_sem, ↓reduceIte, Nat.reduceEqDiff, Nat.reduceAdd, Nat.reduceMul, reduceCtorEq, cb hr, hT.prim, primOf]
    refine bifs (fun _ => ⟨(0, r), rfl, by simp [okN]⟩) fun h1 => bifs (fun _ => ⟨(0, 1), rfl, by simp [okN]⟩) fun h2 => bifs (fun _ => ⟨(0, 1), rfl, by simp [okN]⟩) fun h3 => ?_
    exact absurd ⟨by simpa using h1, by simpa using h2, by simpa using h3⟩ c
end Go.Proofs.Tryz
/- Functions of sig and of the law as the evaluator has them: printed. -/
namespace Go.Proofs.Tryz
open Go Go.AE
-- 203 strings.IndexByte
def a203 : AFunc := ⟨2, 8, (.seq (.reg [
    ⟨(some 4), .move (.c (.int .i64 0)), none, false, 0, 0, false⟩])
  (.seq (.reg [
    ⟨(some 5), .move (.t 0), none, false, 0, 0, false⟩,
    ⟨(some 6), .move (.t 1), none, false, 0, 0, false⟩,
    ⟨(some 7), .call (.f 244) [(.t 5), (.t 6)], none, true, 0, 0, false⟩,
    ⟨(some 4), .move (.t 7), none, false, 0, 0, false⟩])
  .ret)), [.t 4]⟩
theorem fn203 : fnOf 203 = some a203 := by kernel_rfl
-- 244 internal/stringslite.IndexByte
def a244 : AFunc := ⟨2, 8, (.seq (.reg [
    ⟨(some 4), .move (.c (.int .i64 0)), none, false, 0, 0, false⟩])
  (.seq (.reg [
    ⟨(some 5), .move (.t 0), none, false, 0, 0, false⟩,
    ⟨(some 6), .move (.t 1), none, false, 0, 0, false⟩,
    ⟨(some 7), .call (.f 272) [(.t 5), (.t 6)], none, true, 0, 0, false⟩,
    ⟨(some 4), .move (.t 7), none, false, 0, 0, false⟩])
  .ret)), [.t 4]⟩
theorem fn244 : fnOf 244 = some a244 := by kernel_rfl
-- 245 internal/stringslite.Index
def a245b0 : ACode :=
  (.seq (.seq (.reg [
    ⟨(some 57), .move (.t 8), none, false, 0, 0, false⟩,
    ⟨(some 58), .move (.t 9), none, false, 0, 0, false⟩,
    ⟨(some 59), .bin .lss (.t 57) (.t 58), none, false, 0, 0, false⟩])
  (.cond (.t 59)
  .skip
  (.exit 1)))
  (.block 2 (.seq (.seq (.reg [
    ⟨(some 60), .move (.t 0), none, false, 0, 0, false⟩,
    ⟨(some 61), .move (.t 8), none, false, 0, 0, false⟩,
    ⟨(some 62), .idxStr (.t 60) (.t 61), none, false, 0, 0, false⟩,
    ⟨(some 63), .move (.t 6), none, false, 0, 0, false⟩,
    ⟨(some 64), .bin .neq (.t 62) (.t 63), none, false, 0, 0, false⟩])
  (.cond (.t 64)
  (.seq (.reg [
    ⟨(some 65), .move (.t 0), none, false, 0, 0, false⟩,
    ⟨(some 66), .move (.t 8), none, false, 0, 0, false⟩,
    ⟨(some 67), .bin .add (.t 66) (.c (.int .i64 1)), none, false, 0, 0, false⟩,
    ⟨(some 68), .move (.t 9), none, false, 0, 0, false⟩,
    ⟨(some 69), .strSlice (.t 65) (some (.t 67)) (some (.t 68)), none, false, 0, 0, false⟩,
    ⟨(some 70), .move (.t 6), none, false, 0, 0, false⟩,
    ⟨(some 71), .call (.f 244) [(.t 69), (.t 70)], none, true, 0, 0, false⟩,
    ⟨(some 11), .move (.t 71), none, false, 0, 0, false⟩])
  (.seq (.seq (.reg [
    ⟨(some 72), .move (.t 11), none, false, 0, 0, false⟩,
    ⟨(some 73), .bin .lss (.t 72) (.c (.int .i64 0)), none, false, 0, 0, false⟩])
  (.cond (.t 73)
  (.seq (.reg [
    ⟨(some 4), .move (.c (.int .i64 (-1))), none, false, 0, 0, false⟩])
  .ret)
  .skip))
  (.reg [
    ⟨(some 74), .move (.t 8), none, false, 0, 0, false⟩,
    ⟨(some 75), .move (.t 11), none, false, 0, 0, false⟩,
    ⟨(some 76), .bin .add (.t 75) (.c (.int .i64 1)), none, false, 0, 0, false⟩,
    ⟨(some 77), .bin .add (.t 74) (.t 76), none, false, 0, 0, false⟩,
    ⟨(some 8), .move (.t 77), none, false, 0, 0, false⟩])))
  .skip))
  (.seq (.seq (.reg [
    ⟨(some 78), .move (.t 0), none, false, 0, 0, false⟩,
    ⟨(some 79), .move (.t 8), none, false, 0, 0, false⟩,
    ⟨(some 80), .bin .add (.t 79) (.c (.int .i64 1)), none, false, 0, 0, false⟩,
    ⟨(some 81), .idxStr (.t 78) (.t 80), none, false, 0, 0, false⟩,
    ⟨(some 82), .move (.t 7), none, false, 0, 0, false⟩,
    ⟨(some 83), .bin .eql (.t 81) (.t 82), none, false, 0, 0, false⟩,
    ⟨(some 84), .move (.t 83), none, false, 0, 0, false⟩,
    ⟨(some 85), .move (.t 0), (some (84, true)), false, 0, 0, false⟩,
    ⟨(some 86), .move (.t 8), (some (84, true)), false, 0, 0, false⟩,
    ⟨(some 87), .move (.t 8), (some (84, true)), false, 0, 0, false⟩,
    ⟨(some 88), .move (.t 5), (some (84, true)), false, 0, 0, false⟩,
    ⟨(some 89), .bin .add (.t 87) (.t 88), (some (84, true)), false, 0, 0, false⟩,
    ⟨(some 90), .strSlice (.t 85) (some (.t 86)) (some (.t 89)), (some (84, true)), false, 0, 0, false⟩,
    ⟨(some 91), .move (.t 1), (some (84, true)), false, 0, 0, false⟩,
    ⟨(some 92), .bin .eql (.t 90) (.t 91), (some (84, true)), false, 0, 0, false⟩,
    ⟨(some 93), .pick (.t 84) (.t 92) (.c (.bool false)), none, false, 0, 0, false⟩])
  (.cond (.t 93)
  (.seq (.reg [
    ⟨(some 94), .move (.t 8), none, false, 0, 0, false⟩,
    ⟨(some 4), .move (.t 94), none, false, 0, 0, false⟩])
  .ret)
  .skip))
  (.seq (.reg [
    ⟨(some 95), .move (.t 8), none, false, 0, 0, false⟩,
    ⟨(some 96), .bin .add (.t 95) (.c (.int .i64 1)), none, false, 0, 0, false⟩,
    ⟨(some 8), .move (.t 96), none, false, 0, 0, false⟩])
  (.seq (.reg [
    ⟨(some 97), .move (.t 10), none, false, 0, 0, false⟩,
    ⟨(some 98), .bin .add (.t 97) (.c (.int .i64 1)), none, false, 0, 0, false⟩,
    ⟨(some 10), .move (.t 98), none, false, 0, 0, false⟩])
  (.seq (.reg [
    ⟨(some 99), .move (.t 5), none, false, 0, 0, false⟩,
    ⟨(some 100), .load false 1 .bad, none, true, 0, 0, false⟩,
    ⟨(some 101), .bin .leq (.t 99) (.t 100), none, false, 0, 0, false⟩,
    ⟨(some 102), .move (.t 101), none, false, 0, 0, false⟩,
    ⟨(some 103), .move (.t 10), (some (102, true)), false, 0, 0, false⟩,
    ⟨(some 104), .move (.t 8), (some (102, true)), false, 0, 0, false⟩,
    ⟨(some 105), .call (.f 274) [(.t 104)], (some (102, true)), true, 0, 0, false⟩,
    ⟨(some 106), .bin .gtr (.t 103) (.t 105), (some (102, true)), false, 0, 0, false⟩,
    ⟨(some 107), .pick (.t 102) (.t 106) (.c (.bool false)), none, false, 0, 0, false⟩])
  (.cond (.t 107)
  (.seq (.reg [
    ⟨(some 108), .move (.t 0), none, false, 0, 0, false⟩,
    ⟨(some 109), .move (.t 8), none, false, 0, 0, false⟩,
    ⟨(some 110), .strSlice (.t 108) (some (.t 109)) none, none, false, 0, 0, false⟩,
    ⟨(some 111), .move (.t 1), none, false, 0, 0, false⟩,
    ⟨(some 112), .call (.f 273) [(.t 110), (.t 111)], none, true, 0, 0, false⟩,
    ⟨(some 12), .move (.t 112), none, false, 0, 0, false⟩])
  (.seq (.seq (.reg [
    ⟨(some 113), .move (.t 12), none, false, 0, 0, false⟩,
    ⟨(some 114), .bin .geq (.t 113) (.c (.int .i64 0)), none, false, 0, 0, false⟩])
  (.cond (.t 114)
  (.seq (.reg [
    ⟨(some 115), .move (.t 12), none, false, 0, 0, false⟩,
    ⟨(some 116), .move (.t 8), none, false, 0, 0, false⟩,
    ⟨(some 117), .bin .add (.t 115) (.t 116), none, false, 0, 0, false⟩,
    ⟨(some 4), .move (.t 117), none, false, 0, 0, false⟩])
  .ret)
  .skip))
  (.seq (.reg [
    ⟨(some 4), .move (.c (.int .i64 (-1))), none, false, 0, 0, false⟩])
  .ret)))
  (.seq (.reg [
    ⟨(some 118), .move (.t 5), none, false, 0, 0, false⟩,
    ⟨(some 119), .load false 1 .bad, none, true, 0, 0, false⟩,
    ⟨(some 120), .bin .gtr (.t 118) (.t 119), none, false, 0, 0, false⟩,
    ⟨(some 121), .move (.t 120), none, false, 0, 0, false⟩,
    ⟨(some 122), .move (.t 10), (some (121, true)), false, 0, 0, false⟩,
    ⟨(some 123), .move (.t 8), (some (121, true)), false, 0, 0, false⟩,
    ⟨(some 124), .bin .shr (.t 123) (.c (.int .u64 4)), (some (121, true)), false, 0, 0, false⟩,
    ⟨(some 125), .bin .add (.c (.int .i64 4)) (.t 124), (some (121, true)), false, 0, 0, false⟩,
    ⟨(some 126), .bin .geq (.t 122) (.t 125), (some (121, true)), false, 0, 0, false⟩,
    ⟨(some 127), .pick (.t 121) (.t 126) (.c (.bool false)), none, false, 0, 0, false⟩,
    ⟨(some 128), .move (.t 127), none, false, 0, 0, false⟩,
    ⟨(some 129), .move (.t 8), (some (128, true)), false, 0, 0, false⟩,
    ⟨(some 130), .move (.t 9), (some (128, true)), false, 0, 0, false⟩,
    ⟨(some 131), .bin .lss (.t 129) (.t 130), (some (128, true)), false, 0, 0, false⟩,
    ⟨(some 132), .pick (.t 128) (.t 131) (.c (.bool false)), none, false, 0, 0, false⟩])
  (.cond (.t 132)
  (.seq (.reg [
    ⟨(some 133), .move (.t 0), none, false, 0, 0, false⟩,
    ⟨(some 134), .move (.t 8), none, false, 0, 0, false⟩,
    ⟨(some 135), .strSlice (.t 133) (some (.t 134)) none, none, false, 0, 0, false⟩,
    ⟨(some 136), .move (.t 1), none, false, 0, 0, false⟩,
    ⟨(some 137), .call (.f 275) [(.t 135), (.t 136)], none, true, 0, 0, false⟩,
    ⟨(some 13), .move (.t 137), none, false, 0, 0, false⟩])
  (.seq (.seq (.reg [
    ⟨(some 138), .move (.t 13), none, false, 0, 0, false⟩,
    ⟨(some 139), .bin .lss (.t 138) (.c (.int .i64 0)), none, false, 0, 0, false⟩])
  (.cond (.t 139)
  (.seq (.reg [
    ⟨(some 4), .move (.c (.int .i64 (-1))), none, false, 0, 0, false⟩])
  .ret)
  .skip))
  (.seq (.reg [
    ⟨(some 140), .move (.t 8), none, false, 0, 0, false⟩,
    ⟨(some 141), .move (.t 13), none, false, 0, 0, false⟩,
    ⟨(some 142), .bin .add (.t 140) (.t 141), none, false, 0, 0, false⟩,
    ⟨(some 4), .move (.t 142), none, false, 0, 0, false⟩])
  .ret)))
  .skip))))))))))
def a245 : AFunc := ⟨2, 143, (.seq (.reg [
    ⟨(some 4), .move (.c (.int .i64 0)), none, false, 0, 0, false⟩])
  (.seq (.reg [
    ⟨(some 14), .move (.t 1), none, false, 0, 0, false⟩,
    ⟨(some 15), .lenS (.t 14), none, false, 0, 0, false⟩,
    ⟨(some 5), .move (.t 15), none, false, 0, 0, false⟩])
  (.seq (.block 0 (.seq (.reg [
    ⟨(some 17), .move (.t 5), none, false, 0, 0, false⟩,
    ⟨(some 18), .bin .eql (.t 17) (.c (.int .i64 0)), none, false, 0, 0, false⟩,
    ⟨(some 19), .move (.t 18), none, false, 0, 0, false⟩,
    ⟨(some 20), .move (.t 1), (some (19, false)), false, 0, 0, false⟩,
    ⟨(some 21), .move (.t 0), (some (19, false)), false, 0, 0, false⟩,
    ⟨(some 22), .bin .eql (.t 20) (.t 21), (some (19, false)), false, 0, 0, false⟩,
    ⟨(some 23), .pick (.t 19) (.c (.bool true)) (.t 22), none, false, 0, 0, false⟩,
    ⟨(some 16), .move (.t 23), none, false, 0, 0, false⟩])
  (.cond (.t 16)
  (.seq (.reg [
    ⟨(some 4), .move (.c (.int .i64 0)), none, false, 0, 0, false⟩])
  .ret)
  (.seq (.reg [
    ⟨(some 25), .move (.t 5), none, false, 0, 0, false⟩,
    ⟨(some 26), .bin .eql (.t 25) (.c (.int .i64 1)), none, false, 0, 0, false⟩,
    ⟨(some 24), .move (.t 26), none, false, 0, 0, false⟩])
  (.cond (.t 24)
  (.seq (.reg [
    ⟨(some 27), .move (.t 0), none, false, 0, 0, false⟩,
    ⟨(some 28), .move (.t 1), none, false, 0, 0, false⟩,
    ⟨(some 29), .idxStr (.t 28) (.c (.int .i64 0)), none, false, 0, 0, false⟩,
    ⟨(some 30), .call (.f 244) [(.t 27), (.t 29)], none, true, 0, 0, false⟩,
    ⟨(some 4), .move (.t 30), none, false, 0, 0, false⟩])
  .ret)
  (.seq (.reg [
    ⟨(some 32), .move (.t 5), none, false, 0, 0, false⟩,
    ⟨(some 33), .move (.t 0), none, false, 0, 0, false⟩,
    ⟨(some 34), .lenS (.t 33), none, false, 0, 0, false⟩,
    ⟨(some 35), .bin .geq (.t 32) (.t 34), none, false, 0, 0, false⟩,
    ⟨(some 31), .move (.t 35), none, false, 0, 0, false⟩])
  (.cond (.t 31)
  (.seq (.reg [
    ⟨(some 4), .move (.c (.int .i64 (-1))), none, false, 0, 0, false⟩])
  .ret)
  (.seq (.reg [
    ⟨(some 37), .move (.t 5), none, false, 0, 0, false⟩,
    ⟨(some 38), .load false 1 .bad, none, true, 0, 0, false⟩,
    ⟨(some 39), .bin .leq (.t 37) (.t 38), none, false, 0, 0, false⟩,
    ⟨(some 40), .move (.t 39), none, false, 0, 0, false⟩,
    ⟨(some 41), .move (.t 0), (some (40, true)), false, 0, 0, false⟩,
    ⟨(some 42), .lenS (.t 41), (some (40, true)), false, 0, 0, false⟩,
    ⟨(some 43), .bin .leq (.t 42) (.c (.int .i64 64)), (some (40, true)), false, 0, 0, false⟩,
    ⟨(some 44), .pick (.t 40) (.t 43) (.c (.bool false)), none, false, 0, 0, false⟩,
    ⟨(some 36), .move (.t 44), none, false, 0, 0, false⟩])
  (.cond (.t 36)
  (.seq (.reg [
    ⟨(some 45), .move (.t 0), none, false, 0, 0, false⟩,
    ⟨(some 46), .move (.t 1), none, false, 0, 0, false⟩,
    ⟨(some 47), .call (.f 273) [(.t 45), (.t 46)], none, true, 0, 0, false⟩,
    ⟨(some 4), .move (.t 47), none, false, 0, 0, false⟩])
  .ret)
  .skip)))))))))
  (.seq (.reg [
    ⟨(some 48), .move (.t 1), none, false, 0, 0, false⟩,
    ⟨(some 49), .idxStr (.t 48) (.c (.int .i64 0)), none, false, 0, 0, false⟩,
    ⟨(some 6), .move (.t 49), none, false, 0, 0, false⟩])
  (.seq (.reg [
    ⟨(some 50), .move (.t 1), none, false, 0, 0, false⟩,
    ⟨(some 51), .idxStr (.t 50) (.c (.int .i64 1)), none, false, 0, 0, false⟩,
    ⟨(some 7), .move (.t 51), none, false, 0, 0, false⟩])
  (.seq (.reg [
    ⟨(some 8), .move (.c (.int .i64 0)), none, false, 0, 0, false⟩])
  (.seq (.reg [
    ⟨(some 52), .move (.t 0), none, false, 0, 0, false⟩,
    ⟨(some 53), .lenS (.t 52), none, false, 0, 0, false⟩,
    ⟨(some 54), .move (.t 5), none, false, 0, 0, false⟩,
    ⟨(some 55), .bin .sub (.t 53) (.t 54), none, false, 0, 0, false⟩,
    ⟨(some 56), .bin .add (.t 55) (.c (.int .i64 1)), none, false, 0, 0, false⟩,
    ⟨(some 9), .move (.t 56), none, false, 0, 0, false⟩])
  (.seq (.reg [
    ⟨(some 10), .move (.c (.int .i64 0)), none, false, 0, 0, false⟩])
  (.seq (.block 1 (.loop a245b0))
  (.seq (.reg [
    ⟨(some 4), .move (.c (.int .i64 (-1))), none, false, 0, 0, false⟩])
  .ret)))))))))), [.t 4]⟩
theorem fn245 : fnOf 245 = some a245 := by kernel_rfl
-- 162 strings.Contains
def a162 : AFunc := ⟨2, 9, (.seq (.reg [
    ⟨(some 4), .move (.c (.bool false)), none, false, 0, 0, false⟩])
  (.seq (.reg [
    ⟨(some 5), .move (.t 0), none, false, 0, 0, false⟩,
    ⟨(some 6), .move (.t 1), none, false, 0, 0, false⟩,
    ⟨(some 7), .call (.f 204) [(.t 5), (.t 6)], none, true, 0, 0, false⟩,
    ⟨(some 8), .bin .geq (.t 7) (.c (.int .i64 0)), none, false, 0, 0, false⟩,
    ⟨(some 4), .move (.t 8), none, false, 0, 0, false⟩])
  .ret)), [.t 4]⟩
theorem fn162 : fnOf 162 = some a162 := by kernel_rfl
-- 204 strings.Index
def a204 : AFunc := ⟨2, 8, (.seq (.reg [
    ⟨(some 4), .move (.c (.int .i64 0)), none, false, 0, 0, false⟩])
  (.seq (.reg [
    ⟨(some 5), .move (.t 0), none, false, 0, 0, false⟩,
    ⟨(some 6), .move (.t 1), none, false, 0, 0, false⟩,
    ⟨(some 7), .call (.f 245) [(.t 5), (.t 6)], none, true, 0, 0, false⟩,
    ⟨(some 4), .move (.t 7), none, false, 0, 0, false⟩])
  .ret)), [.t 4]⟩
theorem fn204 : fnOf 204 = some a204 := by kernel_rfl
-- 206 strings.Count
def a206b0 : ACode :=
  (.block 1 (.seq (.reg [
    ⟨(some 20), .move (.t 0), none, false, 0, 0, false⟩,
    ⟨(some 21), .move (.t 1), none, false, 0, 0, false⟩,
    ⟨(some 22), .call (.f 204) [(.t 20), (.t 21)], none, true, 0, 0, false⟩,
    ⟨(some 6), .move (.t 22), none, false, 0, 0, false⟩])
  (.seq (.seq (.reg [
    ⟨(some 23), .move (.t 6), none, false, 0, 0, false⟩,
    ⟨(some 24), .bin .eql (.t 23) (.c (.int .i64 (-1))), none, false, 0, 0, false⟩])
  (.cond (.t 24)
  (.seq (.reg [
    ⟨(some 25), .move (.t 5), none, false, 0, 0, false⟩,
    ⟨(some 4), .move (.t 25), none, false, 0, 0, false⟩])
  .ret)
  .skip))
  (.seq (.reg [
    ⟨(some 26), .move (.t 5), none, false, 0, 0, false⟩,
    ⟨(some 27), .bin .add (.t 26) (.c (.int .i64 1)), none, false, 0, 0, false⟩,
    ⟨(some 5), .move (.t 27), none, false, 0, 0, false⟩])
  (.reg [
    ⟨(some 28), .move (.t 0), none, false, 0, 0, false⟩,
    ⟨(some 29), .move (.t 6), none, false, 0, 0, false⟩,
    ⟨(some 30), .move (.t 1), none, false, 0, 0, false⟩,
    ⟨(some 31), .lenS (.t 30), none, false, 0, 0, false⟩,
    ⟨(some 32), .bin .add (.t 29) (.t 31), none, false, 0, 0, false⟩,
    ⟨(some 33), .strSlice (.t 28) (some (.t 32)) none, none, false, 0, 0, false⟩,
    ⟨(some 0), .move (.t 33), none, false, 0, 0, false⟩])))))
def a206 : AFunc := ⟨2, 34, (.seq (.reg [
    ⟨(some 4), .move (.c (.int .i64 0)), none, false, 0, 0, false⟩])
  (.seq (.seq (.reg [
    ⟨(some 7), .move (.t 1), none, false, 0, 0, false⟩,
    ⟨(some 8), .lenS (.t 7), none, false, 0, 0, false⟩,
    ⟨(some 9), .bin .eql (.t 8) (.c (.int .i64 0)), none, false, 0, 0, false⟩])
  (.cond (.t 9)
  (.seq (.reg [
    ⟨(some 10), .move (.t 0), none, false, 0, 0, false⟩,
    ⟨(some 11), .call (.f 246) [(.t 10)], none, true, 0, 0, false⟩,
    ⟨(some 12), .bin .add (.t 11) (.c (.int .i64 1)), none, false, 0, 0, false⟩,
    ⟨(some 4), .move (.t 12), none, false, 0, 0, false⟩])
  .ret)
  .skip))
  (.seq (.seq (.reg [
    ⟨(some 13), .move (.t 1), none, false, 0, 0, false⟩,
    ⟨(some 14), .lenS (.t 13), none, false, 0, 0, false⟩,
    ⟨(some 15), .bin .eql (.t 14) (.c (.int .i64 1)), none, false, 0, 0, false⟩])
  (.cond (.t 15)
  (.seq (.reg [
    ⟨(some 16), .move (.t 0), none, false, 0, 0, false⟩,
    ⟨(some 17), .move (.t 1), none, false, 0, 0, false⟩,
    ⟨(some 18), .idxStr (.t 17) (.c (.int .i64 0)), none, false, 0, 0, false⟩,
    ⟨(some 19), .call (.f 247) [(.t 16), (.t 18)], none, true, 0, 0, false⟩,
    ⟨(some 4), .move (.t 19), none, false, 0, 0, false⟩])
  .ret)
  .skip))
  (.seq (.reg [
    ⟨(some 5), .move (.c (.int .i64 0)), none, false, 0, 0, false⟩])
  (.block 0 (.loop a206b0)))))), [.t 4]⟩
theorem fn206 : fnOf 206 = some a206 := by kernel_rfl
-- 161 madrigal/sig.isName
def a161b0 : ACode :=
  (.seq (.reg [
    ⟨(some 15), .bin .lss (.t 14) (.t 13), none, false, 0, 0, false⟩])
  (.seq (.cond (.t 15)
  .skip
  (.exit 0))
  (.seq (.block 1 (.seq (.reg [
    ⟨(some 16), .move (.t 14), none, false, 0, 0, false⟩,
    ⟨(some 3), .move (.t 16), none, false, 0, 0, false⟩])
  (.seq (.reg [
    ⟨(some 17), .move (.t 0), none, false, 0, 0, false⟩,
    ⟨(some 18), .move (.t 3), none, false, 0, 0, false⟩,
    ⟨(some 19), .idxStr (.t 17) (.t 18), none, false, 0, 0, false⟩,
    ⟨(some 20), .bin .lss (.t 19) (.c (.int .u8 33)), none, false, 0, 0, false⟩,
    ⟨(some 21), .move (.t 20), none, false, 0, 0, false⟩,
    ⟨(some 22), .move (.t 0), (some (21, false)), false, 0, 0, false⟩,
    ⟨(some 23), .move (.t 3), (some (21, false)), false, 0, 0, false⟩,
    ⟨(some 24), .idxStr (.t 22) (.t 23), (some (21, false)), false, 0, 0, false⟩,
    ⟨(some 25), .bin .gtr (.t 24) (.c (.int .u8 126)), (some (21, false)), false, 0, 0, false⟩,
    ⟨(some 26), .pick (.t 21) (.c (.bool true)) (.t 25), none, false, 0, 0, false⟩,
    ⟨(some 27), .move (.t 26), none, false, 0, 0, false⟩,
    ⟨(some 28), .move (.t 0), (some (27, false)), false, 0, 0, false⟩,
    ⟨(some 29), .move (.t 3), (some (27, false)), false, 0, 0, false⟩,
    ⟨(some 30), .idxStr (.t 28) (.t 29), (some (27, false)), false, 0, 0, false⟩,
    ⟨(some 31), .call (.f 203) [(.c (.str ⟨#[40, 41, 44]⟩)), (.t 30)], (some (27, false)), true, 0, 0, false⟩,
    ⟨(some 32), .bin .geq (.t 31) (.c (.int .i64 0)), (some (27, false)), false, 0, 0, false⟩,
    ⟨(some 33), .pick (.t 27) (.c (.bool true)) (.t 32), none, false, 0, 0, false⟩])
  (.cond (.t 33)
  (.seq (.reg [
    ⟨(some 2), .move (.c (.bool false)), none, false, 0, 0, false⟩])
  .ret)
  .skip))))
  (.reg [
    ⟨(some 34), .bin .add (.t 14) (.c (.int .i64 1)), none, false, 0, 0, false⟩,
    ⟨(some 14), .move (.t 34), none, false, 0, 0, false⟩]))))
def a161 : AFunc := ⟨1, 35, (.seq (.reg [
    ⟨(some 2), .move (.c (.bool false)), none, false, 0, 0, false⟩])
  (.seq (.seq (.reg [
    ⟨(some 4), .move (.t 0), none, false, 0, 0, false⟩,
    ⟨(some 5), .lenS (.t 4), none, false, 0, 0, false⟩,
    ⟨(some 6), .bin .lss (.t 5) (.c (.int .i64 1)), none, false, 0, 0, false⟩,
    ⟨(some 7), .move (.t 6), none, false, 0, 0, false⟩,
    ⟨(some 8), .move (.t 0), (some (7, false)), false, 0, 0, false⟩,
    ⟨(some 9), .lenS (.t 8), (some (7, false)), false, 0, 0, false⟩,
    ⟨(some 10), .bin .gtr (.t 9) (.c (.int .i64 32)), (some (7, false)), false, 0, 0, false⟩,
    ⟨(some 11), .pick (.t 7) (.c (.bool true)) (.t 10), none, false, 0, 0, false⟩])
  (.cond (.t 11)
  (.seq (.reg [
    ⟨(some 2), .move (.c (.bool false)), none, false, 0, 0, false⟩])
  .ret)
  .skip))
  (.seq (.seq (.reg [
    ⟨(some 12), .move (.t 0), none, false, 0, 0, false⟩,
    ⟨(some 13), .lenS (.t 12), none, false, 0, 0, false⟩,
    ⟨(some 14), .move (.c (.int .i64 0)), none, false, 0, 0, false⟩])
  (.block 0 (.loop a161b0)))
  (.seq (.reg [
    ⟨(some 2), .move (.c (.bool true)), none, false, 0, 0, false⟩])
  .ret)))), [.t 2]⟩
theorem fn161 : fnOf 161 = some a161 := by kernel_rfl
-- 205 madrigal/sig.good$1
def a205 : AFunc := ⟨2, 11, (.seq (.reg [
    ⟨(some 3), .move (.c (.bool false)), none, false, 0, 0, false⟩])
  (.seq (.reg [
    ⟨(some 4), .move (.t 0), none, false, 0, 0, false⟩,
    ⟨(some 5), .bin .geq (.t 4) (.c (.int .i64 0)), none, false, 0, 0, false⟩,
    ⟨(some 6), .move (.t 5), none, false, 0, 0, false⟩,
    ⟨(some 7), .move (.t 0), (some (6, true)), false, 0, 0, false⟩,
    ⟨(some 8), .load false 1 (.t 1), (some (6, true)), true, 0, 0, false⟩,
    ⟨(some 9), .bin .lss (.t 7) (.t 8), (some (6, true)), false, 0, 0, false⟩,
    ⟨(some 10), .pick (.t 6) (.t 9) (.c (.bool false)), none, false, 0, 0, false⟩,
    ⟨(some 3), .move (.t 10), none, false, 0, 0, false⟩])
  .ret)), [.t 3]⟩
theorem fn205 : fnOf 205 = some a205 := by kernel_rfl
-- 207 madrigal/sig.good$2
def a207 : AFunc := ⟨2, 8, (.seq (.reg [
    ⟨(some 3), .move (.c (.bool false)), none, false, 0, 0, false⟩])
  (.seq (.reg [
    ⟨(some 4), .load false 1 (.t 1), none, true, 0, 0, false⟩,
    ⟨(some 5), .move (.t 0), none, false, 0, 0, false⟩,
    ⟨(some 6), .call (.t 4) [(.t 5)], none, true, 0, 0, false⟩,
    ⟨(some 7), .un .not (.t 6), none, false, 0, 0, false⟩,
    ⟨(some 3), .move (.t 7), none, false, 0, 0, false⟩])
  .ret)), [.t 3]⟩
theorem fn207 : fnOf 207 = some a207 := by kernel_rfl
-- 149 slices.IndexFunc[[]int,int]
def a149b0 : ACode :=
  (.seq (.reg [
    ⟨(some 9), .bin .lss (.t 8) (.t 7), none, false, 0, 0, false⟩])
  (.seq (.cond (.t 9)
  .skip
  (.exit 0))
  (.seq (.block 1 (.seq (.reg [
    ⟨(some 10), .move (.t 8), none, false, 0, 0, false⟩,
    ⟨(some 5), .move (.t 10), none, false, 0, 0, false⟩])
  (.seq (.reg [
    ⟨(some 11), .move (.t 1), none, false, 0, 0, false⟩,
    ⟨(some 12), .move (.t 0), none, false, 0, 0, false⟩,
    ⟨(some 13), .move (.t 5), none, false, 0, 0, false⟩,
    ⟨(some 14), .idxAddr 1 (.t 12) (.t 13), none, false, 0, 0, false⟩,
    ⟨(some 15), .load false 1 (.t 14), none, true, 0, 0, false⟩,
    ⟨(some 16), .call (.t 11) [(.t 15)], none, true, 0, 0, false⟩])
  (.cond (.t 16)
  (.seq (.reg [
    ⟨(some 17), .move (.t 5), none, false, 0, 0, false⟩,
    ⟨(some 4), .move (.t 17), none, false, 0, 0, false⟩])
  .ret)
  .skip))))
  (.reg [
    ⟨(some 18), .bin .add (.t 8) (.c (.int .i64 1)), none, false, 0, 0, false⟩,
    ⟨(some 8), .move (.t 18), none, false, 0, 0, false⟩]))))
def a149 : AFunc := ⟨2, 19, (.seq (.reg [
    ⟨(some 4), .move (.c (.int .i64 0)), none, false, 0, 0, false⟩])
  (.seq (.seq (.reg [
    ⟨(some 6), .move (.t 0), none, false, 0, 0, false⟩,
    ⟨(some 7), .lenL (.t 6), none, false, 0, 0, false⟩,
    ⟨(some 8), .move (.c (.int .i64 0)), none, false, 0, 0, false⟩])
  (.block 0 (.loop a149b0)))
  (.seq (.reg [
    ⟨(some 4), .move (.c (.int .i64 (-1))), none, false, 0, 0, false⟩])
  .ret))), [.t 4]⟩
theorem fn149 : fnOf 149 = some a149 := by kernel_rfl
-- 65 slices.ContainsFunc[[]int,int]
def a65 : AFunc := ⟨2, 9, (.seq (.reg [
    ⟨(some 4), .move (.c (.bool false)), none, false, 0, 0, false⟩])
  (.seq (.reg [
    ⟨(some 5), .move (.t 0), none, false, 0, 0, false⟩,
    ⟨(some 6), .move (.t 1), none, false, 0, 0, false⟩,
    ⟨(some 7), .call (.f 149) [(.t 5), (.t 6)], none, true, 0, 0, false⟩,
    ⟨(some 8), .bin .geq (.t 7) (.c (.int .i64 0)), none, false, 0, 0, false⟩,
    ⟨(some 4), .move (.t 8), none, false, 0, 0, false⟩])
  .ret)), [.t 4]⟩
theorem fn65 : fnOf 65 = some a65 := by kernel_rfl
-- 163 madrigal/sig.good
def a163 : AFunc := ⟨2, 51, (.seq (.reg [
    ⟨(some 2), .box 3 (.t 0), none, true, 0, 0, false⟩,
    ⟨(some 3), .box 1 (.t 1), none, true, 0, 0, false⟩,
    ⟨(some 4), .move (.c (.bool false)), none, false, 0, 0, false⟩])
  (.seq (.reg [
    ⟨(some 7), .mkFunc (.func 205) [] [(.t 3)], none, false, 0, 0, false⟩,
    ⟨(some 5), .box 1 (.c .nilFunc), none, true, 0, 0, false⟩,
    ⟨none, .store 1 (.t 5) (.t 7), none, true, 0, 0, false⟩])
  (.seq (.reg [
    ⟨(some 8), .fieldAddr 0 (.t 2), none, false, 0, 0, false⟩,
    ⟨(some 9), .load false 1 (.t 8), none, true, 0, 0, false⟩,
    ⟨(some 10), .call (.f 206) [(.t 9), (.c (.str ⟨#[95]⟩))], none, true, 0, 0, false⟩,
    ⟨(some 6), .move (.t 10), none, false, 0, 0, false⟩])
  (.seq (.reg [
    ⟨(some 11), .fieldAddr 0 (.t 2), none, false, 0, 0, false⟩,
    ⟨(some 12), .load false 1 (.t 11), none, true, 0, 0, false⟩,
    ⟨(some 13), .call (.f 161) [(.t 12)], none, true, 0, 0, false⟩,
    ⟨(some 14), .move (.t 13), none, false, 0, 0, false⟩,
    ⟨(some 15), .move (.t 6), (some (14, true)), false, 0, 0, false⟩,
    ⟨(some 16), .fieldAddr 0 (.t 2), (some (14, true)), false, 0, 0, false⟩,
    ⟨(some 17), .load false 1 (.t 16), (some (14, true)), true, 0, 0, false⟩,
    ⟨(some 18), .lenS (.t 17), (some (14, true)), false, 0, 0, false⟩,
    ⟨(some 19), .bin .lss (.t 15) (.t 18), (some (14, true)), false, 0, 0, false⟩,
    ⟨(some 20), .pick (.t 14) (.t 19) (.c (.bool false)), none, false, 0, 0, false⟩,
    ⟨(some 21), .move (.t 20), none, false, 0, 0, false⟩,
    ⟨(some 22), .move (.t 6), (some (21, true)), false, 0, 0, false⟩,
    ⟨(some 23), .bin .eql (.t 22) (.c (.int .i64 0)), (some (21, true)), false, 0, 0, false⟩,
    ⟨(some 24), .move (.t 23), (some (21, true)), false, 0, 0, false⟩,
    ⟨(some 25), .move (.t 6), (some (24, false)), false, 0, 0, false⟩,
    ⟨(some 26), .fieldAddr 1 (.t 2), (some (24, false)), false, 0, 0, false⟩,
    ⟨(some 27), .load false 1 (.t 26), (some (24, false)), true, 0, 0, false⟩,
    ⟨(some 28), .lenL (.t 27), (some (24, false)), false, 0, 0, false⟩,
    ⟨(some 29), .bin .eql (.t 25) (.t 28), (some (24, false)), false, 0, 0, false⟩,
    ⟨(some 30), .pick (.t 24) (.c (.bool true)) (.t 29), (some (21, true)), false, 0, 0, false⟩,
    ⟨(some 31), .pick (.t 21) (.t 30) (.c (.bool false)), none, false, 0, 0, false⟩,
    ⟨(some 32), .move (.t 31), none, false, 0, 0, false⟩,
    ⟨(some 33), .fieldAddr 1 (.t 2), (some (32, true)), false, 0, 0, false⟩,
    ⟨(some 34), .load false 1 (.t 33), (some (32, true)), true, 0, 0, false⟩,
    ⟨(some 35), .lenL (.t 34), (some (32, true)), false, 0, 0, false⟩,
    ⟨(some 36), .bin .leq (.t 35) (.c (.int .i64 8)), (some (32, true)), false, 0, 0, false⟩,
    ⟨(some 37), .pick (.t 32) (.t 36) (.c (.bool false)), none, false, 0, 0, false⟩,
    ⟨(some 38), .move (.t 37), none, false, 0, 0, false⟩,
    ⟨(some 39), .load false 1 (.t 5), (some (38, true)), true, 0, 0, false⟩,
    ⟨(some 40), .fieldAddr 2 (.t 2), (some (38, true)), false, 0, 0, false⟩,
    ⟨(some 41), .load false 1 (.t 40), (some (38, true)), true, 0, 0, false⟩,
    ⟨(some 42), .call (.t 39) [(.t 41)], (some (38, true)), true, 0, 0, false⟩,
    ⟨(some 43), .pick (.t 38) (.t 42) (.c (.bool false)), none, false, 0, 0, false⟩,
    ⟨(some 44), .move (.t 43), none, false, 0, 0, false⟩,
    ⟨(some 45), .fieldAddr 1 (.t 2), (some (44, true)), false, 0, 0, false⟩,
    ⟨(some 46), .load false 1 (.t 45), (some (44, true)), true, 0, 0, false⟩,
    ⟨(some 47), .mkFunc (.func 207) [] [(.t 5)], (some (44, true)), false, 0, 0, false⟩,
    ⟨(some 48), .call (.f 65) [(.t 46), (.t 47)], (some (44, true)), true, 0, 0, false⟩,
    ⟨(some 49), .un .not (.t 48), (some (44, true)), false, 0, 0, false⟩,
    ⟨(some 50), .pick (.t 44) (.t 49) (.c (.bool false)), none, false, 0, 0, false⟩,
    ⟨(some 4), .move (.t 50), none, false, 0, 0, false⟩])
  .ret)))), [.t 4]⟩
theorem fn163 : fnOf 163 = some a163 := by kernel_rfl
-- 164 madrigal/sig.key
def a164b0 : ACode :=
  (.seq (.reg [
    ⟨(some 19), .bin .lss (.t 18) (.t 17), none, false, 0, 0, false⟩])
  (.seq (.cond (.t 19)
  .skip
  (.exit 0))
  (.seq (.block 1 (.seq (.reg [
    ⟨(some 20), .idxAddr 1 (.t 16) (.t 18), none, false, 0, 0, false⟩,
    ⟨(some 21), .load false 1 (.t 20), none, true, 0, 0, false⟩,
    ⟨(some 5), .move (.t 21), none, false, 0, 0, false⟩])
  (.reg [
    ⟨(some 22), .move (.t 3), none, false, 0, 0, false⟩,
    ⟨(some 23), .move (.t 5), none, false, 0, 0, false⟩,
    ⟨(some 24), .convInt .u8 (.t 23), none, false, 0, 0, false⟩,
    ⟨(some 25), .buildSlice 1 (.int .u8 0) 1 [(0, (.t 24))], none, false, 0, 0, false⟩,
    ⟨(some 26), .append 1 1 (.t 22) (.t 25), none, true, 0, 0, false⟩,
    ⟨(some 3), .move (.t 26), none, false, 0, 0, false⟩])))
  (.reg [
    ⟨(some 27), .bin .add (.t 18) (.c (.int .i64 1)), none, false, 0, 0, false⟩,
    ⟨(some 18), .move (.t 27), none, false, 0, 0, false⟩]))))
def a164 : AFunc := ⟨1, 30, (.seq (.reg [
    ⟨(some 1), .box 3 (.t 0), none, true, 0, 0, false⟩,
    ⟨(some 2), .move (.c (.str ⟨#[]⟩)), none, false, 0, 0, false⟩])
  (.seq (.reg [
    ⟨(some 6), .fieldAddr 0 (.t 1), none, false, 0, 0, false⟩,
    ⟨(some 7), .load false 1 (.t 6), none, true, 0, 0, false⟩,
    ⟨(some 8), .bin .add (.t 7) (.c (.str ⟨#[40]⟩)), none, false, 0, 0, false⟩,
    ⟨(some 9), .bytesOf (.t 8), none, true, 0, 0, false⟩,
    ⟨(some 3), .move (.t 9), none, false, 0, 0, false⟩])
  (.seq (.seq (.regD [
    ⟨(some 10), .fieldAddr 1 (.t 1), none, false, 0, 0, false⟩,
    ⟨(some 11), .load false 1 (.t 10), none, true, 1, 1, false⟩,
    ⟨(some 12), .call (.f 208) [(.t 11)], none, true, 2, 3, false⟩,
    ⟨(some 13), .fieldAddr 2 (.t 1), none, false, 3, 0, false⟩,
    ⟨(some 14), .load false 1 (.t 13), none, true, 4, 8, false⟩,
    ⟨(some 15), .buildSlice 1 (.int .i64 0) 1 [(0, (.t 14))], none, false, 5, 24, false⟩,
    ⟨(some 16), .append 1 8 (.t 12) (.t 15), none, true, 6, 63, false⟩,
    ⟨(some 17), .lenL (.t 16), none, false, 7, 127, false⟩,
    ⟨(some 18), .move (.c (.int .i64 0)), none, false, 8, 0, true⟩])
  (.block 0 (.loop a164b0)))
  (.seq (.reg [
    ⟨(some 28), .move (.t 3), none, false, 0, 0, false⟩,
    ⟨(some 29), .strOf (.t 28), none, true, 0, 0, false⟩,
    ⟨(some 2), .move (.t 29), none, false, 0, 0, false⟩])
  .ret)))), [.t 2]⟩
theorem fn164 : fnOf 164 = some a164 := by kernel_rfl
-- 87 madrigal/sig.Check
def a87b0 : ACode :=
  (.seq (.reg [
    ⟨(some 24), .bin .lss (.t 23) (.t 22), none, false, 0, 0, false⟩])
  (.seq (.cond (.t 24)
  .skip
  (.exit 0))
  (.seq (.block 1 (.seq (.reg [
    ⟨(some 25), .idxAddr 1 (.t 21) (.t 23), none, false, 0, 0, false⟩,
    ⟨(some 26), .load false 1 (.t 25), none, true, 0, 0, false⟩,
    ⟨(some 5), .move (.t 26), none, false, 0, 0, false⟩])
  (.seq (.seq (.reg [
    ⟨(some 27), .move (.t 5), none, false, 0, 0, false⟩,
    ⟨(some 28), .call (.f 161) [(.t 27)], none, true, 0, 0, false⟩,
    ⟨(some 29), .un .not (.t 28), none, false, 0, 0, false⟩,
    ⟨(some 30), .move (.t 29), none, false, 0, 0, false⟩,
    ⟨(some 31), .move (.t 5), (some (30, false)), false, 0, 0, false⟩,
    ⟨(some 32), .call (.f 162) [(.t 31), (.c (.str ⟨#[95]⟩))], (some (30, false)), true, 0, 0, false⟩,
    ⟨(some 33), .pick (.t 30) (.c (.bool true)) (.t 32), none, false, 0, 0, false⟩,
    ⟨(some 34), .move (.t 33), none, false, 0, 0, false⟩,
    ⟨(some 35), .move (.t 3), (some (34, false)), false, 0, 0, false⟩,
    ⟨(some 36), .move (.t 5), (some (34, false)), false, 0, 0, false⟩,
    ⟨(some 37), .lookup .str (.bool false) false (.t 35) (.t 36), (some (34, false)), true, 0, 0, false⟩,
    ⟨(some 38), .pick (.t 34) (.c (.bool true)) (.t 37), none, false, 0, 0, false⟩])
  (.cond (.t 38)
  (.seq (.reg [
    ⟨(some 2), .move (.c (.int .i64 40)), none, false, 0, 0, false⟩])
  .ret)
  .skip))
  (.reg [
    ⟨(some 39), .move (.t 3), none, false, 0, 0, false⟩,
    ⟨(some 40), .move (.t 5), none, false, 0, 0, false⟩,
    ⟨none, .mapUpd .str (.t 39) (.t 40) (.c (.bool true)), none, true, 0, 0, false⟩]))))
  (.reg [
    ⟨(some 41), .bin .add (.t 23) (.c (.int .i64 1)), none, false, 0, 0, false⟩,
    ⟨(some 23), .move (.t 41), none, false, 0, 0, false⟩]))))
def a87b1 : ACode :=
  (.seq (.reg [
    ⟨(some 47), .bin .lss (.t 46) (.t 45), none, false, 0, 0, false⟩])
  (.seq (.cond (.t 47)
  .skip
  (.exit 2))
  (.seq (.block 3 (.seq (.reg [
    ⟨(some 48), .idxAddr 3 (.t 44) (.t 46), none, false, 0, 0, false⟩,
    ⟨(some 49), .load true 3 (.t 48), none, true, 0, 0, false⟩,
    ⟨(some 8), .box 3 (.c (.agg [(.str ⟨#[]⟩), (.slice 0 [] .nil), (.int .i64 0)])), none, true, 0, 0, false⟩,
    ⟨none, .store 3 (.t 8) (.t 49), none, true, 0, 0, false⟩])
  (.seq (.seq (.reg [
    ⟨(some 50), .load true 3 (.t 8), none, true, 0, 0, false⟩,
    ⟨(some 51), .fieldAddr 0 (.t 1), none, false, 0, 0, false⟩,
    ⟨(some 52), .load false 1 (.t 51), none, true, 0, 0, false⟩,
    ⟨(some 53), .lenL (.t 52), none, false, 0, 0, false⟩,
    ⟨(some 54), .call (.f 163) [(.t 50), (.t 53)], none, true, 0, 0, false⟩,
    ⟨(some 55), .un .not (.t 54), none, false, 0, 0, false⟩,
    ⟨(some 56), .move (.t 55), none, false, 0, 0, false⟩,
    ⟨(some 57), .move (.t 6), (some (56, false)), false, 0, 0, false⟩,
    ⟨(some 58), .load true 3 (.t 8), (some (56, false)), true, 0, 0, false⟩,
    ⟨(some 59), .call (.f 164) [(.t 58)], (some (56, false)), true, 0, 0, false⟩,
    ⟨(some 60), .lookup .str (.bool false) false (.t 57) (.t 59), (some (56, false)), true, 0, 0, false⟩,
    ⟨(some 61), .pick (.t 56) (.c (.bool true)) (.t 60), none, false, 0, 0, false⟩])
  (.cond (.t 61)
  (.seq (.reg [
    ⟨(some 2), .move (.c (.int .i64 40)), none, false, 0, 0, false⟩])
  .ret)
  .skip))
  (.reg [
    ⟨(some 62), .move (.t 6), none, false, 0, 0, false⟩,
    ⟨(some 63), .load true 3 (.t 8), none, true, 0, 0, false⟩,
    ⟨(some 64), .call (.f 164) [(.t 63)], none, true, 0, 0, false⟩,
    ⟨none, .mapUpd .str (.t 62) (.t 64) (.c (.bool true)), none, true, 0, 0, false⟩]))))
  (.reg [
    ⟨(some 65), .bin .add (.t 46) (.c (.int .i64 1)), none, false, 0, 0, false⟩,
    ⟨(some 46), .move (.t 65), none, false, 0, 0, false⟩]))))
def a87 : AFunc := ⟨1, 66, (.seq (.reg [
    ⟨(some 1), .box 2 (.t 0), none, true, 0, 0, false⟩,
    ⟨(some 2), .move (.c (.int .i64 0)), none, false, 0, 0, false⟩])
  (.seq (.seq (.reg [
    ⟨(some 9), .fieldAddr 0 (.t 1), none, false, 0, 0, false⟩,
    ⟨(some 10), .load false 1 (.t 9), none, true, 0, 0, false⟩,
    ⟨(some 11), .lenL (.t 10), none, false, 0, 0, false⟩,
    ⟨(some 12), .bin .gtr (.t 11) (.c (.int .i64 64)), none, false, 0, 0, false⟩,
    ⟨(some 13), .move (.t 12), none, false, 0, 0, false⟩,
    ⟨(some 14), .fieldAddr 1 (.t 1), (some (13, false)), false, 0, 0, false⟩,
    ⟨(some 15), .load false 1 (.t 14), (some (13, false)), true, 0, 0, false⟩,
    ⟨(some 16), .lenL (.t 15), (some (13, false)), false, 0, 0, false⟩,
    ⟨(some 17), .bin .gtr (.t 16) (.c (.int .i64 256)), (some (13, false)), false, 0, 0, false⟩,
    ⟨(some 18), .pick (.t 13) (.c (.bool true)) (.t 17), none, false, 0, 0, false⟩])
  (.cond (.t 18)
  (.seq (.reg [
    ⟨(some 2), .move (.c (.int .i64 40)), none, false, 0, 0, false⟩])
  .ret)
  .skip))
  (.seq (.reg [
    ⟨(some 19), .makeMap, none, true, 0, 0, false⟩,
    ⟨(some 3), .move (.t 19), none, false, 0, 0, false⟩])
  (.seq (.seq (.reg [
    ⟨(some 20), .fieldAddr 0 (.t 1), none, false, 0, 0, false⟩,
    ⟨(some 21), .load false 1 (.t 20), none, true, 0, 0, false⟩,
    ⟨(some 22), .lenL (.t 21), none, false, 0, 0, false⟩,
    ⟨(some 23), .move (.c (.int .i64 0)), none, false, 0, 0, false⟩])
  (.block 0 (.loop a87b0)))
  (.seq (.reg [
    ⟨(some 42), .makeMap, none, true, 0, 0, false⟩,
    ⟨(some 6), .move (.t 42), none, false, 0, 0, false⟩])
  (.seq (.seq (.reg [
    ⟨(some 43), .fieldAddr 1 (.t 1), none, false, 0, 0, false⟩,
    ⟨(some 44), .load false 1 (.t 43), none, true, 0, 0, false⟩,
    ⟨(some 45), .lenL (.t 44), none, false, 0, 0, false⟩,
    ⟨(some 46), .move (.c (.int .i64 0)), none, false, 0, 0, false⟩])
  (.block 2 (.loop a87b1)))
  (.seq (.reg [
    ⟨(some 2), .move (.c (.int .i64 0)), none, false, 0, 0, false⟩])
  .ret))))))), [.t 2]⟩
theorem fn87 : fnOf 87 = some a87 := by kernel_rfl
-- 139 slices.IndexFunc[[]madrigal/api.Op,madrigal/api.Op]
def a139b0 : ACode :=
  (.seq (.reg [
    ⟨(some 9), .bin .lss (.t 8) (.t 7), none, false, 0, 0, false⟩])
  (.seq (.cond (.t 9)
  .skip
  (.exit 0))
  (.seq (.block 1 (.seq (.reg [
    ⟨(some 10), .move (.t 8), none, false, 0, 0, false⟩,
    ⟨(some 5), .move (.t 10), none, false, 0, 0, false⟩])
  (.seq (.reg [
    ⟨(some 11), .move (.t 1), none, false, 0, 0, false⟩,
    ⟨(some 12), .move (.t 0), none, false, 0, 0, false⟩,
    ⟨(some 13), .move (.t 5), none, false, 0, 0, false⟩,
    ⟨(some 14), .idxAddr 3 (.t 12) (.t 13), none, false, 0, 0, false⟩,
    ⟨(some 15), .load true 3 (.t 14), none, true, 0, 0, false⟩,
    ⟨(some 16), .call (.t 11) [(.t 15)], none, true, 0, 0, false⟩])
  (.cond (.t 16)
  (.seq (.reg [
    ⟨(some 17), .move (.t 5), none, false, 0, 0, false⟩,
    ⟨(some 4), .move (.t 17), none, false, 0, 0, false⟩])
  .ret)
  .skip))))
  (.reg [
    ⟨(some 18), .bin .add (.t 8) (.c (.int .i64 1)), none, false, 0, 0, false⟩,
    ⟨(some 8), .move (.t 18), none, false, 0, 0, false⟩]))))
def a139 : AFunc := ⟨2, 19, (.seq (.reg [
    ⟨(some 4), .move (.c (.int .i64 0)), none, false, 0, 0, false⟩])
  (.seq (.seq (.reg [
    ⟨(some 6), .move (.t 0), none, false, 0, 0, false⟩,
    ⟨(some 7), .lenL (.t 6), none, false, 0, 0, false⟩,
    ⟨(some 8), .move (.c (.int .i64 0)), none, false, 0, 0, false⟩])
  (.block 0 (.loop a139b0)))
  (.seq (.reg [
    ⟨(some 4), .move (.c (.int .i64 (-1))), none, false, 0, 0, false⟩])
  .ret))), [.t 4]⟩
theorem fn139 : fnOf 139 = some a139 := by kernel_rfl
-- 80 slices.ContainsFunc[[]madrigal/api.Op,madrigal/api.Op]
def a80 : AFunc := ⟨2, 9, (.seq (.reg [
    ⟨(some 4), .move (.c (.bool false)), none, false, 0, 0, false⟩])
  (.seq (.reg [
    ⟨(some 5), .move (.t 0), none, false, 0, 0, false⟩,
    ⟨(some 6), .move (.t 1), none, false, 0, 0, false⟩,
    ⟨(some 7), .call (.f 139) [(.t 5), (.t 6)], none, true, 0, 0, false⟩,
    ⟨(some 8), .bin .geq (.t 7) (.c (.int .i64 0)), none, false, 0, 0, false⟩,
    ⟨(some 4), .move (.t 8), none, false, 0, 0, false⟩])
  .ret)), [.t 4]⟩
theorem fn80 : fnOf 80 = some a80 := by kernel_rfl
-- 160 slices.IndexFunc[[]string,string]
def a160b0 : ACode :=
  (.seq (.reg [
    ⟨(some 9), .bin .lss (.t 8) (.t 7), none, false, 0, 0, false⟩])
  (.seq (.cond (.t 9)
  .skip
  (.exit 0))
  (.seq (.block 1 (.seq (.reg [
    ⟨(some 10), .move (.t 8), none, false, 0, 0, false⟩,
    ⟨(some 5), .move (.t 10), none, false, 0, 0, false⟩])
  (.seq (.reg [
    ⟨(some 11), .move (.t 1), none, false, 0, 0, false⟩,
    ⟨(some 12), .move (.t 0), none, false, 0, 0, false⟩,
    ⟨(some 13), .move (.t 5), none, false, 0, 0, false⟩,
    ⟨(some 14), .idxAddr 1 (.t 12) (.t 13), none, false, 0, 0, false⟩,
    ⟨(some 15), .load false 1 (.t 14), none, true, 0, 0, false⟩,
    ⟨(some 16), .call (.t 11) [(.t 15)], none, true, 0, 0, false⟩])
  (.cond (.t 16)
  (.seq (.reg [
    ⟨(some 17), .move (.t 5), none, false, 0, 0, false⟩,
    ⟨(some 4), .move (.t 17), none, false, 0, 0, false⟩])
  .ret)
  .skip))))
  (.reg [
    ⟨(some 18), .bin .add (.t 8) (.c (.int .i64 1)), none, false, 0, 0, false⟩,
    ⟨(some 8), .move (.t 18), none, false, 0, 0, false⟩]))))
def a160 : AFunc := ⟨2, 19, (.seq (.reg [
    ⟨(some 4), .move (.c (.int .i64 0)), none, false, 0, 0, false⟩])
  (.seq (.seq (.reg [
    ⟨(some 6), .move (.t 0), none, false, 0, 0, false⟩,
    ⟨(some 7), .lenL (.t 6), none, false, 0, 0, false⟩,
    ⟨(some 8), .move (.c (.int .i64 0)), none, false, 0, 0, false⟩])
  (.block 0 (.loop a160b0)))
  (.seq (.reg [
    ⟨(some 4), .move (.c (.int .i64 (-1))), none, false, 0, 0, false⟩])
  .ret))), [.t 4]⟩
theorem fn160 : fnOf 160 = some a160 := by kernel_rfl
-- 82 slices.ContainsFunc[[]string,string]
def a82 : AFunc := ⟨2, 9, (.seq (.reg [
    ⟨(some 4), .move (.c (.bool false)), none, false, 0, 0, false⟩])
  (.seq (.reg [
    ⟨(some 5), .move (.t 0), none, false, 0, 0, false⟩,
    ⟨(some 6), .move (.t 1), none, false, 0, 0, false⟩,
    ⟨(some 7), .call (.f 160) [(.t 5), (.t 6)], none, true, 0, 0, false⟩,
    ⟨(some 8), .bin .geq (.t 7) (.c (.int .i64 0)), none, false, 0, 0, false⟩,
    ⟨(some 4), .move (.t 8), none, false, 0, 0, false⟩])
  .ret)), [.t 4]⟩
theorem fn82 : fnOf 82 = some a82 := by kernel_rfl
-- 81 madrigal/madrigallaw09.small$1
def a81 : AFunc := ⟨1, 13, (.seq (.reg [
    ⟨(some 1), .box 3 (.t 0), none, true, 0, 0, false⟩,
    ⟨(some 2), .move (.c (.bool false)), none, false, 0, 0, false⟩])
  (.seq (.reg [
    ⟨(some 3), .fieldAddr 1 (.t 1), none, false, 0, 0, false⟩,
    ⟨(some 4), .load false 1 (.t 3), none, true, 0, 0, false⟩,
    ⟨(some 5), .lenL (.t 4), none, false, 0, 0, false⟩,
    ⟨(some 6), .bin .gtr (.t 5) (.c (.int .i64 20)), none, false, 0, 0, false⟩,
    ⟨(some 7), .move (.t 6), none, false, 0, 0, false⟩,
    ⟨(some 8), .fieldAddr 0 (.t 1), (some (7, false)), false, 0, 0, false⟩,
    ⟨(some 9), .load false 1 (.t 8), (some (7, false)), true, 0, 0, false⟩,
    ⟨(some 10), .lenS (.t 9), (some (7, false)), false, 0, 0, false⟩,
    ⟨(some 11), .bin .gtr (.t 10) (.c (.int .i64 200)), (some (7, false)), false, 0, 0, false⟩,
    ⟨(some 12), .pick (.t 7) (.c (.bool true)) (.t 11), none, false, 0, 0, false⟩,
    ⟨(some 2), .move (.t 12), none, false, 0, 0, false⟩])
  .ret)), [.t 2]⟩
theorem fn81 : fnOf 81 = some a81 := by kernel_rfl
-- 83 madrigal/madrigallaw09.small$2
def a83 : AFunc := ⟨1, 6, (.seq (.reg [
    ⟨(some 2), .move (.c (.bool false)), none, false, 0, 0, false⟩])
  (.seq (.reg [
    ⟨(some 3), .move (.t 0), none, false, 0, 0, false⟩,
    ⟨(some 4), .lenS (.t 3), none, false, 0, 0, false⟩,
    ⟨(some 5), .bin .gtr (.t 4) (.c (.int .i64 200)), none, false, 0, 0, false⟩,
    ⟨(some 2), .move (.t 5), none, false, 0, 0, false⟩])
  .ret)), [.t 2]⟩
theorem fn83 : fnOf 83 = some a83 := by kernel_rfl
-- 16 madrigal/madrigallaw09.small
def a16 : AFunc := ⟨1, 25, (.seq (.reg [
    ⟨(some 1), .box 2 (.t 0), none, true, 0, 0, false⟩,
    ⟨(some 2), .move (.c (.bool false)), none, false, 0, 0, false⟩])
  (.seq (.reg [
    ⟨(some 3), .fieldAddr 1 (.t 1), none, false, 0, 0, false⟩,
    ⟨(some 4), .load false 1 (.t 3), none, true, 0, 0, false⟩,
    ⟨(some 5), .lenL (.t 4), none, false, 0, 0, false⟩,
    ⟨(some 6), .bin .leq (.t 5) (.c (.int .i64 40)), none, false, 0, 0, false⟩,
    ⟨(some 7), .move (.t 6), none, false, 0, 0, false⟩,
    ⟨(some 8), .fieldAddr 0 (.t 1), (some (7, true)), false, 0, 0, false⟩,
    ⟨(some 9), .load false 1 (.t 8), (some (7, true)), true, 0, 0, false⟩,
    ⟨(some 10), .lenL (.t 9), (some (7, true)), false, 0, 0, false⟩,
    ⟨(some 11), .bin .leq (.t 10) (.c (.int .i64 20)), (some (7, true)), false, 0, 0, false⟩,
    ⟨(some 12), .pick (.t 7) (.t 11) (.c (.bool false)), none, false, 0, 0, false⟩,
    ⟨(some 13), .move (.t 12), none, false, 0, 0, false⟩,
    ⟨(some 14), .fieldAddr 1 (.t 1), (some (13, true)), false, 0, 0, false⟩,
    ⟨(some 15), .load false 1 (.t 14), (some (13, true)), true, 0, 0, false⟩,
    ⟨(some 16), .call (.f 80) [(.t 15), (.f 81)], (some (13, true)), true, 0, 0, false⟩,
    ⟨(some 17), .un .not (.t 16), (some (13, true)), false, 0, 0, false⟩,
    ⟨(some 18), .pick (.t 13) (.t 17) (.c (.bool false)), none, false, 0, 0, false⟩,
    ⟨(some 19), .move (.t 18), none, false, 0, 0, false⟩,
    ⟨(some 20), .fieldAddr 0 (.t 1), (some (19, true)), false, 0, 0, false⟩,
    ⟨(some 21), .load false 1 (.t 20), (some (19, true)), true, 0, 0, false⟩,
    ⟨(some 22), .call (.f 82) [(.t 21), (.f 83)], (some (19, true)), true, 0, 0, false⟩,
    ⟨(some 23), .un .not (.t 22), (some (19, true)), false, 0, 0, false⟩,
    ⟨(some 24), .pick (.t 19) (.t 23) (.c (.bool false)), none, false, 0, 0, false⟩,
    ⟨(some 2), .move (.t 24), none, false, 0, 0, false⟩])
  .ret)), [.t 2]⟩
theorem fn16 : fnOf 16 = some a16 := by kernel_rfl
-- 27 madrigal/madrigallaw09.brief
def a27b0 : ACode :=
  (.seq (.seq (.reg [
    ⟨(some 38), .move (.t 7), none, false, 0, 0, false⟩,
    ⟨(some 39), .move (.t 1), none, false, 0, 0, false⟩,
    ⟨(some 40), .min false [(.t 39), (.c (.int .i64 12))], none, false, 0, 0, false⟩,
    ⟨(some 41), .bin .leq (.t 38) (.t 40), none, false, 0, 0, false⟩])
  (.cond (.t 41)
  .skip
  (.exit 2)))
  (.seq (.block 3 (.seq (.reg [
    ⟨(some 45), .load true 2 (.t 2), none, true, 0, 0, false⟩,
    ⟨(some 46), .move (.t 5), none, false, 0, 0, false⟩,
    ⟨(some 47), .move (.t 7), none, false, 0, 0, false⟩,
    ⟨(some 48), .call (.f 58) [(.t 45), (.t 46), (.t 47)], none, true, 0, 0, false⟩,
    ⟨(some 44), .move (.t 48), none, false, 0, 0, false⟩,
    ⟨(some 49), .extract (.t 44) 0, none, false, 0, 0, false⟩,
    ⟨(some 50), .extract (.t 44) 1, none, false, 0, 0, false⟩,
    ⟨(some 8), .move (.t 49), none, false, 0, 0, false⟩,
    ⟨(some 9), .move (.t 50), none, false, 0, 0, false⟩])
  (.seq (.reg [
    ⟨(some 51), .move (.t 6), none, false, 0, 0, false⟩,
    ⟨(some 52), .move (.t 8), none, false, 0, 0, false⟩,
    ⟨(some 53), .bin .add (.t 51) (.t 52), none, false, 0, 0, false⟩,
    ⟨(some 6), .move (.t 53), none, false, 0, 0, false⟩])
  (.seq (.reg [
    ⟨(some 54), .move (.t 9), none, false, 0, 0, false⟩,
    ⟨(some 55), .bin .neq (.t 54) (.c (.int .i64 0)), none, false, 0, 0, false⟩,
    ⟨(some 56), .move (.t 55), none, false, 0, 0, false⟩,
    ⟨(some 57), .move (.t 6), (some (56, false)), false, 0, 0, false⟩,
    ⟨(some 58), .bin .gtr (.t 57) (.c (.int .i64 300)), (some (56, false)), false, 0, 0, false⟩,
    ⟨(some 59), .pick (.t 56) (.c (.bool true)) (.t 58), none, false, 0, 0, false⟩])
  (.cond (.t 59)
  (.seq (.reg [
    ⟨(some 4), .move (.c (.bool false)), none, false, 0, 0, false⟩])
  .ret)
  .skip)))))
  (.reg [
    ⟨(some 42), .move (.t 7), none, false, 0, 0, false⟩,
    ⟨(some 43), .bin .add (.t 42) (.c (.int .i64 1)), none, false, 0, 0, false⟩,
    ⟨(some 7), .move (.t 43), none, false, 0, 0, false⟩])))
def a27b1 : ACode :=
  (.seq (.reg [
    ⟨(some 36), .bin .lss (.t 35) (.t 34), none, false, 0, 0, false⟩])
  (.seq (.cond (.t 36)
  .skip
  (.exit 0))
  (.seq (.block 1 (.seq (.reg [
    ⟨(some 37), .move (.t 35), none, false, 0, 0, false⟩,
    ⟨(some 5), .move (.t 37), none, false, 0, 0, false⟩])
  (.seq (.reg [
    ⟨(some 6), .move (.c (.int .i64 0)), none, false, 0, 0, false⟩])
  (.seq (.reg [
    ⟨(some 7), .move (.c (.int .i64 1)), none, false, 0, 0, false⟩])
  (.block 2 (.loop a27b0))))))
  (.reg [
    ⟨(some 60), .bin .add (.t 35) (.c (.int .i64 1)), none, false, 0, 0, false⟩,
    ⟨(some 35), .move (.t 60), none, false, 0, 0, false⟩]))))
def a27 : AFunc := ⟨2, 61, (.seq (.reg [
    ⟨(some 2), .box 2 (.t 0), none, true, 0, 0, false⟩,
    ⟨(some 4), .move (.c (.bool false)), none, false, 0, 0, false⟩])
  (.seq (.seq (.reg [
    ⟨(some 10), .move (.t 1), none, false, 0, 0, false⟩,
    ⟨(some 11), .bin .gtr (.t 10) (.c (.int .i64 12)), none, false, 0, 0, false⟩,
    ⟨(some 12), .move (.t 11), none, false, 0, 0, false⟩,
    ⟨(some 13), .move (.t 1), (some (12, true)), false, 0, 0, false⟩,
    ⟨(some 14), .bin .leq (.t 13) (.c (.int .i64 60)), (some (12, true)), false, 0, 0, false⟩,
    ⟨(some 15), .pick (.t 12) (.t 14) (.c (.bool false)), none, false, 0, 0, false⟩,
    ⟨(some 16), .move (.t 15), none, false, 0, 0, false⟩,
    ⟨(some 17), .load true 2 (.t 2), (some (16, false)), true, 0, 0, false⟩,
    ⟨(some 18), .call (.f 16) [(.t 17)], (some (16, false)), true, 0, 0, false⟩,
    ⟨(some 19), .un .not (.t 18), (some (16, false)), false, 0, 0, false⟩,
    ⟨(some 20), .pick (.t 16) (.c (.bool true)) (.t 19), none, false, 0, 0, false⟩,
    ⟨(some 21), .move (.t 20), none, false, 0, 0, false⟩,
    ⟨(some 22), .load true 2 (.t 2), (some (21, false)), true, 0, 0, false⟩,
    ⟨(some 23), .call (.f 97) [(.t 22)], (some (21, false)), true, 0, 0, false⟩,
    ⟨(some 24), .bin .neq (.t 23) (.c (.int .i64 0)), (some (21, false)), false, 0, 0, false⟩,
    ⟨(some 25), .pick (.t 21) (.c (.bool true)) (.t 24), none, false, 0, 0, false⟩])
  (.cond (.t 25)
  (.seq (.reg [
    ⟨(some 26), .move (.t 1), none, false, 0, 0, false⟩,
    ⟨(some 27), .bin .leq (.t 26) (.c (.int .i64 12)), none, false, 0, 0, false⟩,
    ⟨(some 28), .move (.t 27), none, false, 0, 0, false⟩,
    ⟨(some 29), .move (.t 1), (some (28, false)), false, 0, 0, false⟩,
    ⟨(some 30), .bin .gtr (.t 29) (.c (.int .i64 60)), (some (28, false)), false, 0, 0, false⟩,
    ⟨(some 31), .pick (.t 28) (.c (.bool true)) (.t 30), none, false, 0, 0, false⟩,
    ⟨(some 4), .move (.t 31), none, false, 0, 0, false⟩])
  .ret)
  .skip))
  (.seq (.seq (.reg [
    ⟨(some 32), .fieldAddr 0 (.t 2), none, false, 0, 0, false⟩,
    ⟨(some 33), .load false 1 (.t 32), none, true, 0, 0, false⟩,
    ⟨(some 34), .lenL (.t 33), none, false, 0, 0, false⟩,
    ⟨(some 35), .move (.c (.int .i64 0)), none, false, 0, 0, false⟩])
  (.block 0 (.loop a27b1)))
  (.seq (.reg [
    ⟨(some 4), .move (.c (.bool true)), none, false, 0, 0, false⟩])
  .ret)))), [.t 4]⟩
theorem fn27 : fnOf 27 = some a27 := by kernel_rfl


end Go.Proofs.Tryz
/- sig: names, holes, sorts in range; all total. -/
namespace Go.Proofs.Tryz
open Go Go.AE
variable {T : Tbl} (hT : Std T)

@[go_sem] theorem prim_index {s : ByteArray} {c : Int} : primop .indexByteString [.str s, .int .u8 c] = some (.int .i64 (match (List.range s.size).find? (fun i => s[i]! == UInt8.ofNat c.toNat) with | some i => (i : Int) | none => -1)) := rfl
@[go_sem] theorem prim_count {s : ByteArray} {c : Int} : primop .countString [.str s, .int .u8 c] = some (.int .i64 (s.foldl (fun n x => if x == UInt8.ofNat c.toNat then n + 1 else n) (0 : Int))) := rfl
include hT in
theorem index244_tot (t : ByteArray) (c : Int) (h : List AE.Obj) : ∃ r : Int, Ev T 244 [.str t, .int .u8 c] h (.val (.int .i64 r), ⟨h, [], []⟩) ∧ True := by
  refine Ev.walkP (hT.sp _ (by decide)) ((hT.fn _).trans fn244) (hT.mode _) rfl ?_
  simp (disch := first | omega | decide | (simp only [eget_eput', ↓reduceIte, Nat.reduceEqDiff]; done)) only [go_sem, ↓reduceIte, Nat.reduceEqDiff, Nat.reduceAdd, Nat.reduceMul, reduceCtorEq, hT.prim, primOf]
  exact ⟨_, rfl, trivial⟩
include hT in
theorem index203_tot (t : ByteArray) (c : Int) (h : List AE.Obj) : ∃ r : Int, Ev T 203 [.str t, .int .u8 c] h (.val (.int .i64 r), ⟨h, [], []⟩) ∧ True := by
  refine Ev.walkP (hT.sp _ (by decide)) ((hT.fn _).trans fn203) (hT.mode _) rfl ?_
  obtain ⟨r, hr, _⟩ := index244_tot hT t c h
  simp (disch := first | omega | decide | (simp only [eget_eput', ↓reduceIte, Nat.reduceEqDiff]; done)) only [go_sem, ↓reduceIte, Nat.reduceEqDiff, Nat.reduceAdd, Nat.reduceMul, reduceCtorEq, hT.prim, primOf, cb hr]
  exact ⟨_, rfl, trivial⟩
theorem us_size : (ByteArray.mk #[95]).size = 1 := rfl
theorem us_at : strAt ⟨#[95]⟩ 0 = some 95 := rfl
include hT in
theorem index245_tot (t : ByteArray) (h : List AE.Obj) : ∃ r : Int, Ev T 245 [.str t, .str ⟨#[95]⟩] h (.val (.int .i64 r), ⟨h, [], []⟩) ∧ True := by
  refine Ev.walkP (hT.sp _ (by decide)) ((hT.fn _).trans fn245) (hT.mode _) rfl ?_
  obtain ⟨r, hr, _⟩ := index244_tot hT t ((95 : Nat) : Int) h
  have b0 : (((1 : Nat) : Int) == 0) = false := rfl
  have b1 : (((1 : Nat) : Int) == 1) = true := rfl
  simp (disch := first | omega | decide | (simp only [eget_eput', ↓reduceIte, Nat.reduceEqDiff]; done)) only [go_sem, ↓reduceIte, Nat.reduceEqDiff, Nat.reduceAdd, Nat.reduceMul, reduceCtorEq, hT.prim, primOf, cb hr, us_size, us_at, b0, b1]
  exact bifs (fun _ => ⟨_, rfl, trivial⟩) (fun _ => ⟨_, rfl, trivial⟩)
include hT in
theorem name_tot (t : ByteArray) (h : List AE.Obj) : ∃ r, Ev T 161 [.str t] h (.val (.bool r), ⟨h, [], []⟩) ∧ True := by
  refine Ev.walkP (hT.sp _ (by decide)) ((hT.fn _).trans fn161) (hT.mode _) rfl ?_
  by_cases hl : t.size ≤ 32
  · simp (disch := first | omega | decide | (simp only [eget_eput', ↓reduceIte, Nat.reduceEqDiff]; done)) only [go_sem, ↓reduceIte, Nat.reduceEqDiff, Nat.reduceAdd, Nat.reduceMul, reduceCtorEq]
    repeat' first | exact ⟨_, rfl, trivial⟩ | refine bifs (fun _ => ?_) (fun _ => ?_)
    all_goals
      refine wpC.loopM (fun n e s => ∃ i : Nat, i + n = t.size ∧ eget e 0 = .str t ∧ eget e 13 = .int .i64 (t.size : Int) ∧ eget e 14 = .int .i64 (i : Int) ∧ s = ⟨h, [], []⟩) ?_ t.size _ _ ⟨0, by simp, by simp (disch := first | omega | decide | (simp only [eget_eput', ↓reduceIte, Nat.reduceEqDiff]; done)) only [go_sem, ↓reduceIte, Nat.reduceEqDiff, Nat.reduceAdd, Nat.reduceMul, reduceCtorEq], by simp (disch := first | omega | decide | (simp only [eget_eput', ↓reduceIte, Nat.reduceEqDiff]; done)) only [go_sem, ↓reduceIte, Nat.reduceEqDiff, Nat.reduceAdd, Nat.reduceMul, reduceCtorEq], by simp (disch := first | omega | decide | (simp only [eget_eput', ↓reduceIte, Nat.reduceEqDiff]; done)) only [go_sem, ↓reduceIte, Nat.reduceEqDiff, Nat.reduceAdd, Nat.reduceMul, reduceCtorEq]; rfl, rfl⟩
      rintro n e s ⟨i, hi, e0, e13, e14, rfl⟩
      by_cases h1 : i < t.size
      · obtain ⟨c, hc⟩ := strAt_lt h1
        obtain ⟨r, hr, _⟩ := index203_tot hT ⟨#[40, 41, 44]⟩ (c : Int) h
        simp (disch := first | omega | decide | (simp only [eget_eput', ↓reduceIte, Nat.reduceEqDiff]; done)) only [go_sem, ↓reduceIte, Nat.reduceEqDiff, Nat.reduceAdd, Nat.reduceMul, reduceCtorEq, a161b0, e0, e13, e14, h1, hc, cb hr, hT.prim, primOf]
        repeat' first | exact ⟨_, rfl, trivial⟩ | exact ⟨n - 1, by omega, i + 1, by omega, rfl, trivial⟩ | refine bifs (fun _ => ?_) (fun _ => ?_)
      · simp (disch := first | omega | decide | (simp only [eget_eput', ↓reduceIte, Nat.reduceEqDiff]; done)) only [go_sem, ↓reduceIte, Nat.reduceEqDiff, Nat.reduceAdd, Nat.reduceMul, reduceCtorEq, a161b0, e0, e13, e14, h1]
        exact ⟨_, rfl, trivial⟩
  · have h2 : ((32 : Int) < (t.size : Int)) := by omega
    simp (disch := first | omega | decide | (simp only [eget_eput', ↓reduceIte, Nat.reduceEqDiff]; done)) only [go_sem, ↓reduceIte, Nat.reduceEqDiff, Nat.reduceAdd, Nat.reduceMul, reduceCtorEq, h2]
    repeat' first | exact ⟨_, rfl, trivial⟩ | refine bifs (fun _ => ?_) (fun _ => ?_)
include hT in
theorem index204_tot (t : ByteArray) (h : List AE.Obj) : ∃ r : Int, Ev T 204 [.str t, .str ⟨#[95]⟩] h (.val (.int .i64 r), ⟨h, [], []⟩) ∧ True := by
  refine Ev.walkP (hT.sp _ (by decide)) ((hT.fn _).trans fn204) (hT.mode _) rfl ?_
  obtain ⟨r, hr, _⟩ := index245_tot hT t h
  simp (disch := first | omega | decide | (simp only [eget_eput', ↓reduceIte, Nat.reduceEqDiff]; done)) only [go_sem, ↓reduceIte, Nat.reduceEqDiff, Nat.reduceAdd, Nat.reduceMul, reduceCtorEq, hT.prim, primOf, cb hr]
  exact ⟨_, rfl, trivial⟩
include hT in
theorem contains_tot (t : ByteArray) (h : List AE.Obj) : ∃ r, Ev T 162 [.str t, .str ⟨#[95]⟩] h (.val (.bool r), ⟨h, [], []⟩) ∧ True := by
  refine Ev.walkP (hT.sp _ (by decide)) ((hT.fn _).trans fn162) (hT.mode _) rfl ?_
  obtain ⟨r, hr, _⟩ := index204_tot hT t h
  simp (disch := first | omega | decide | (simp only [eget_eput', ↓reduceIte, Nat.reduceEqDiff]; done)) only [go_sem, ↓reduceIte, Nat.reduceEqDiff, Nat.reduceAdd, Nat.reduceMul, reduceCtorEq, hT.prim, primOf, cb hr]
  exact ⟨_, rfl, trivial⟩
include hT in
theorem count_tot (t : ByteArray) (h : List AE.Obj) : ∃ r : Int, Ev T 206 [.str t, .str ⟨#[95]⟩] h (.val (.int .i64 r), ⟨h, [], []⟩) ∧ True := by
  refine Ev.walkP (hT.sp _ (by decide)) ((hT.fn _).trans fn206) (hT.mode _) rfl ?_
  have b0 : (((1 : Nat) : Int) == 0) = false := rfl
  have b1 : (((1 : Nat) : Int) == 1) = true := rfl
  simp (disch := first | omega | decide | (simp only [eget_eput', ↓reduceIte, Nat.reduceEqDiff]; done)) only [go_sem, ↓reduceIte, Nat.reduceEqDiff, Nat.reduceAdd, Nat.reduceMul, reduceCtorEq, hT.prim, primOf, us_size, us_at, b0, b1]
  exact ⟨_, rfl, trivial⟩
/-- Is it a sort? -/
def isSortB (n : Int) (nS : Nat) : Bool := decide (0 ≤ n) && decide (n < (nS : Int))
include hT in
theorem good1_ev {n : Int} {nS k : Nat} {h : List AE.Obj} (hk : h[k]? = some (.row 1 [.int .i64 (nS : Int)])) : Ev T 205 [.int .i64 n, .ptr k 0 0 1] h (.val (.bool (isSortB n nS)), ⟨h, [], []⟩) := by
  refine Ev.walk (hT.sp _ (by decide)) ((hT.fn _).trans fn205) (hT.mode _) rfl ?_
  have fl : loadAt false 1 (.ptr k 0 0 1) h = some (.int .i64 (nS : Int)) := ld_at hk
  by_cases h0 : 0 ≤ n
  · simp (disch := first | omega | decide | (simp only [eget_eput', ↓reduceIte, Nat.reduceEqDiff]; done)) only [go_sem, ↓reduceIte, Nat.reduceEqDiff, Nat.reduceAdd, Nat.reduceMul, reduceCtorEq, fl, h0, isSortB, Bool.true_and]
  · simp (disch := first | omega | decide | (simp only [eget_eput', ↓reduceIte, Nat.reduceEqDiff]; done)) only [go_sem, ↓reduceIte, Nat.reduceEqDiff, Nat.reduceAdd, Nat.reduceMul, reduceCtorEq, fl, h0, isSortB, Bool.false_and]
include hT in
theorem good2_ev {n : Int} {nS k k5 : Nat} {h : List AE.Obj} (hk : h[k]? = some (.row 1 [.int .i64 (nS : Int)])) (hk5 : h[k5]? = some (.row 1 [.func (.func 205) [] [.ptr k 0 0 1]])) : Ev T 207 [.int .i64 n, .ptr k5 0 0 1] h (.val (.bool (!isSortB n nS)), ⟨h, [], []⟩) := by
  refine Ev.walk (hT.sp _ (by decide)) ((hT.fn _).trans fn207) (hT.mode _) rfl ?_
  have fl : loadAt false 1 (.ptr k5 0 0 1) h = some (.func (.func 205) [] [.ptr k 0 0 1]) := by rw [ld_at hk5]; rfl
  simp (disch := first | omega | decide | (simp only [eget_eput', ↓reduceIte, Nat.reduceEqDiff]; done)) only [go_sem, ↓reduceIte, Nat.reduceEqDiff, Nat.reduceAdd, Nat.reduceMul, reduceCtorEq, fl, cb (good1_ev hT hk), hT.prim, primOf]
include hT in
theorem index149_tot {g : FuncId} {cap : List PV} {p : Int → Bool} {h : List AE.Obj} (hg : T.prim g = none) {args : List Int} {m : SM} (hf : ∀ a, Ev T g (.int .i64 a :: cap) h (.val (.bool (p a)), ⟨h, [], []⟩)) (hal : args.length < 1000000) :
    ∃ r : Int, Ev T 149 [.slice 1 (args.map encI) m, .func (.func g) [] cap] h (.val (.int .i64 r), ⟨h, [], []⟩) ∧ (r < 0 → ∀ a ∈ args, p a = false) := by
  refine Ev.walkP (hT.sp _ (by decide)) ((hT.fn _).trans fn149) (hT.mode _) rfl ?_
  simp (disch := first | omega | decide | (simp only [eget_eput', ↓reduceIte, Nat.reduceEqDiff]; done)) only [go_sem, ↓reduceIte, Nat.reduceEqDiff, Nat.reduceAdd, Nat.reduceMul, reduceCtorEq]
  refine wpC.loopM (fun n e s => ∃ i : Nat, i + n = args.length ∧ eget e 0 = .slice 1 (args.map encI) m ∧ eget e 1 = .func (.func g) [] cap ∧ eget e 7 = .int .i64 (args.length : Int) ∧ eget e 8 = .int .i64 (i : Int) ∧ (∀ j (hj : j < args.length), j < i → p args[j] = false) ∧ s = ⟨h, [], []⟩) ?_ args.length _ _ ⟨0, by simp, by simp (disch := first | omega | decide | (simp only [eget_eput', ↓reduceIte, Nat.reduceEqDiff]; done)) only [go_sem, ↓reduceIte, Nat.reduceEqDiff, Nat.reduceAdd, Nat.reduceMul, reduceCtorEq], by simp (disch := first | omega | decide | (simp only [eget_eput', ↓reduceIte, Nat.reduceEqDiff]; done)) only [go_sem, ↓reduceIte, Nat.reduceEqDiff, Nat.reduceAdd, Nat.reduceMul, reduceCtorEq], by simp (disch := first | omega | decide | (simp only [eget_eput', ↓reduceIte, Nat.reduceEqDiff]; done)) only [go_sem, ↓reduceIte, Nat.reduceEqDiff, Nat.reduceAdd, Nat.reduceMul, reduceCtorEq], by simp (disch := first | omega | decide | (simp only [eget_eput', ↓reduceIte, Nat.reduceEqDiff]; done)) only [go_sem, ↓reduceIte, Nat.reduceEqDiff, Nat.reduceAdd, Nat.reduceMul, reduceCtorEq]; rfl, fun j _ hj => by omega, rfl⟩
  rintro n e s ⟨i, hi, e0, e1, e7, e8, hp, rfl⟩
  by_cases h1 : i < args.length
  · have ga := get_enc h1
    simp (disch := first | omega | decide | (simp only [eget_eput', ↓reduceIte, Nat.reduceEqDiff]; done)) only [go_sem, ↓reduceIte, Nat.reduceEqDiff, Nat.reduceAdd, Nat.reduceMul, reduceCtorEq, a149b0, e0, e1, e7, e8, h1, ga, hg, cb (hf args[i])]
    refine bifs (fun _ => ⟨(i : Int), rfl, fun h => by omega⟩) (fun hpi => ⟨n - 1, by omega, i + 1, by omega, rfl, fun j hj hji => ?_, trivial⟩)
    by_cases hjj : j = i
    · subst hjj; exact hpi
    · exact hp j hj (by omega)
  · simp (disch := first | omega | decide | (simp only [eget_eput', ↓reduceIte, Nat.reduceEqDiff]; done)) only [go_sem, ↓reduceIte, Nat.reduceEqDiff, Nat.reduceAdd, Nat.reduceMul, reduceCtorEq, a149b0, e0, e1, e7, e8, h1]
    refine ⟨_, rfl, fun _ a ha => ?_⟩
    obtain ⟨j, hj, rfl⟩ := List.getElem_of_mem ha
    exact hp j hj (by omega)
include hT in
theorem contains65_tot {g : FuncId} {cap : List PV} {p : Int → Bool} {h : List AE.Obj} (hg : T.prim g = none) {args : List Int} {m : SM} (hf : ∀ a, Ev T g (.int .i64 a :: cap) h (.val (.bool (p a)), ⟨h, [], []⟩)) (hal : args.length < 1000000) :
    ∃ r, Ev T 65 [.slice 1 (args.map encI) m, .func (.func g) [] cap] h (.val (.bool r), ⟨h, [], []⟩) ∧ (r = false → ∀ a ∈ args, p a = false) := by
  refine Ev.walkP (hT.sp _ (by decide)) ((hT.fn _).trans fn65) (hT.mode _) rfl ?_
  obtain ⟨r, hr, kr⟩ := index149_tot hT (m := m) hg hf hal
  simp (disch := first | omega | decide | (simp only [eget_eput', ↓reduceIte, Nat.reduceEqDiff]; done)) only [go_sem, ↓reduceIte, Nat.reduceEqDiff, Nat.reduceAdd, Nat.reduceMul, reduceCtorEq, cb hr, hT.prim, primOf]
  exact ⟨_, rfl, fun h => kr (by simpa using h)⟩
include hT in
theorem good_tot {s : GSig} (hs : Fits s) {o : GOp} (hoa : o.args.length < 900) (h : List AE.Obj) : ∃ r, Ev T 163 [encOp o, .int .i64 (s.sorts.length : Int)] h (.val (.bool r), ⟨h, [], []⟩) ∧ (r = true → okArgs o.args s.sorts.length ∧ (0 ≤ o.res ∧ o.res < (s.sorts.length : Int)) ∧ o.args.length < 900) := by
  refine Ev.walkP (hT.sp _ (by decide)) ((hT.fn _).trans fn163) (hT.mode _) rfl ?_
  generalize hk3 : (h ++ [AE.Obj.row 3 [encOp o]]).length = k3
  generalize hk5 : ((h ++ [AE.Obj.row 3 [encOp o]]) ++ [AE.Obj.row 1 [.int .i64 (s.sorts.length : Int)]]).length = k5
  have hlt : k3 ≤ k5 := by rw [← hk3, ← hk5]; simp
  have fs : storeAt 1 (.ptr k5 0 0 1) (.func (.func 205) [] [.ptr k3 0 0 1]) ⟨(((h ++ [AE.Obj.row 3 [encOp o]]) ++ [AE.Obj.row 1 [.int .i64 (s.sorts.length : Int)]]) ++ [.row 1 [.nilFunc]]), [], []⟩ = some ⟨(((h ++ [AE.Obj.row 3 [encOp o]]) ++ [AE.Obj.row 1 [.int .i64 (s.sorts.length : Int)]]) ++ [.row 1 [.func (.func 205) [] [.ptr k3 0 0 1]]]), wadd k5 [], []⟩ := by
    rw [← hk5]
    refine st_last rfl ⟨rfl, rfl⟩ fun j hj => ?_
    have : k3 = j := by simpa [PV.top, tops, omax] using hj
    rw [← hk5] at hlt
    omega
  generalize hH : (((h ++ [AE.Obj.row 3 [encOp o]]) ++ [AE.Obj.row 1 [.int .i64 (s.sorts.length : Int)]]) ++ [AE.Obj.row 1 [.func (.func 205) [] [.ptr k3 0 0 1]]]) = H at fs
  have g0 : H[h.length]? = some (.row 3 [encOp o]) := by rw [← hH]; simp
  have g3 : H[k3]? = some (.row 1 [.int .i64 (s.sorts.length : Int)]) := by rw [← hH, ← hk3]; simp
  have g5 : H[k5]? = some (.row 1 [.func (.func 205) [] [.ptr k3 0 0 1]]) := by rw [← hH, ← hk5]; simp
  have low : Low h.length h H := by
    rw [← hH]
    exact (((Low.refl _ _).push (Nat.le_refl _)).push (by simp)).push (by simp)
  have l0 : ∀ sz off, loadAt false sz (.ptr h.length 0 off 1) H = sub false sz (encOp o) off := fun sz off => ld_at g0
  have l5 : loadAt false 1 (.ptr k5 0 0 1) H = some (.func (.func 205) [] [.ptr k3 0 0 1]) := by rw [ld_at g5]; rfl
  obtain ⟨n, hn, _⟩ := count_tot hT o.name H
  obtain ⟨b, hb, _⟩ := name_tot hT o.name H
  have hr := good1_ev hT (n := o.res) g3
  obtain ⟨c, hc, kc⟩ := contains65_tot hT (m := .any) (g := 207) (cap := [.ptr k5 0 0 1]) (p := fun a => !isSortB a s.sorts.length) (by rw [hT.prim]; rfl) (fun a => good2_ev hT (n := a) g3 g5) (show o.args.length < 1000000 by omega)
  have td : ∀ b ws, (∀ k ∈ ws, h.length ≤ k) → tidy 0 h.length (.val (.bool b)) ⟨H, ws, []⟩ = (.val (.bool b), ⟨h, [], []⟩) := fun b ws hw => tidy_low rfl rfl low hw
  have hk5h : h.length ≤ k5 := by rw [← hk5]; simp
  simp (disch := first | omega | decide | (simp only [eget_eput', ↓reduceIte, Nat.reduceEqDiff]; done)) only [go_sem, ↓reduceIte, Nat.reduceEqDiff, Nat.reduceAdd, Nat.reduceMul, reduceCtorEq, hk3, hk5, fs, l0, l5, cb hn, cb hb, cb hr, cb hc, hT.prim, primOf]
  have kw : ∀ k ∈ wadd k5 [], h.length ≤ k := wadd_low hk5h (by simp)
  have f0 : ∃ a, tidy 0 h.length (.val (.bool false)) ⟨H, wadd k5 [], []⟩ = (.val (.bool a), ⟨h, [], []⟩) ∧ (a = true → okArgs o.args s.sorts.length ∧ (0 ≤ o.res ∧ o.res < (s.sorts.length : Int)) ∧ o.args.length < 900) := ⟨false, td _ _ kw, fun h => by cases h⟩
  have f1 : isSortB o.res s.sorts.length = true → ∃ a, tidy 0 h.length (.val (.bool !c)) ⟨H, wadd k5 [], []⟩ = (.val (.bool a), ⟨h, [], []⟩) ∧ (a = true → okArgs o.args s.sorts.length ∧ (0 ≤ o.res ∧ o.res < (s.sorts.length : Int)) ∧ o.args.length < 900) := fun hr => ⟨!c, td _ _ kw, fun h => by
    have hc2 : c = false := by simpa using h
    refine ⟨fun a ha => ?_, ?_, hoa⟩
    · have := kc hc2 a ha
      simpa [isSortB] using this
    · simpa [isSortB] using hr⟩
  repeat' first | exact f0 | exact f1 (by assumption) | refine bifs (fun _ => ?_) (fun _ => ?_)
end Go.Proofs.Tryz
