/- Texts of the proof, one behind the other: ValFnsI, ValN3, ValN4, ValL10, ValL12, ValN5, ValN6, ValN7, ValN8, ValN9, ValN10, ValN11, ValN12, ValN13, ValN14, ValN15. -/
import Derived.Test.YtekepgfmgeophaaGreatPartAJ
import Derived.Test.YtekepgfmgeophaaGreatPartAN
set_option linter.unusedVariables false
set_option linter.unusedSimpArgs false
/- Functions of ValsInverse, as the evaluator sees them: printed by tools/Print.lean. -/
namespace Go.Proofs.Tryz
open Go Go.AE
-- 6 madrigal/madrigallaw09.ValsInverse
def a6t : ACode :=
  (.seq (.reg [
    ⟨(some 110), .load true 2 (.t 5), none, true, 0, 0, false⟩,
    ⟨(some 111), .load true 3 (.t 9), none, true, 0, 0, false⟩,
    ⟨(some 112), .call (.f 45) [(.t 110), (.c (.slice 0 [] .nil)), (.t 111)], none, true, 0, 0, false⟩,
    ⟨(some 109), .move (.t 112), none, false, 0, 0, false⟩,
    ⟨(some 113), .extract (.t 109) 0, none, false, 0, 0, false⟩,
    ⟨(some 114), .extract (.t 109) 1, none, false, 0, 0, false⟩,
    ⟨(some 21), .move (.t 113), none, false, 0, 0, false⟩,
    ⟨(some 22), .move (.t 114), none, false, 0, 0, false⟩])
  (.seq (.seq (.reg [
    ⟨(some 115), .move (.t 22), none, false, 0, 0, false⟩,
    ⟨(some 116), .bin .neq (.t 115) (.c (.int .i64 0)), none, false, 0, 0, false⟩])
  (.cond (.t 116)
  (.seq (.reg [
    ⟨(some 10), .move (.c (.bool true)), none, false, 0, 0, false⟩])
  .ret)
  .skip))
  (.seq (.reg [
    ⟨(some 118), .load true 3 (.t 9), none, true, 0, 0, false⟩,
    ⟨(some 119), .call (.f 46) [(.t 118)], none, true, 0, 0, false⟩,
    ⟨(some 117), .move (.t 119), none, false, 0, 0, false⟩,
    ⟨(some 120), .extract (.t 117) 0, none, false, 0, 0, false⟩,
    ⟨(some 121), .extract (.t 117) 1, none, false, 0, 0, false⟩,
    ⟨(some 23), .move (.t 120), none, false, 0, 0, false⟩,
    ⟨(some 24), .move (.t 121), none, false, 0, 0, false⟩])
  (.seq (.reg [
    ⟨(some 123), .load true 2 (.t 5), none, true, 0, 0, false⟩,
    ⟨(some 124), .load true 3 (.t 9), none, true, 0, 0, false⟩,
    ⟨(some 125), .call (.f 20) [(.t 123), (.t 124)], none, true, 0, 0, false⟩,
    ⟨(some 122), .move (.t 125), none, false, 0, 0, false⟩,
    ⟨(some 126), .extract (.t 122) 0, none, false, 0, 0, false⟩,
    ⟨(some 127), .extract (.t 122) 1, none, false, 0, 0, false⟩,
    ⟨(some 25), .move (.t 126), none, false, 0, 0, false⟩,
    ⟨(some 22), .move (.t 127), none, false, 0, 0, false⟩])
  (.seq (.seq (.reg [
    ⟨(some 128), .move (.t 22), none, false, 0, 0, false⟩,
    ⟨(some 129), .bin .neq (.t 128) (.c (.int .i64 0)), none, false, 0, 0, false⟩])
  (.cond (.t 129)
  (.seq (.reg [
    ⟨(some 130), .move (.t 22), none, false, 0, 0, false⟩,
    ⟨(some 131), .bin .eql (.t 130) (.c (.int .i64 2)), none, false, 0, 0, false⟩,
    ⟨(some 10), .move (.t 131), none, false, 0, 0, false⟩])
  .ret)
  .skip))
  (.seq (.reg [
    ⟨(some 133), .load true 2 (.t 5), none, true, 0, 0, false⟩,
    ⟨(some 134), .move (.t 21), none, false, 0, 0, false⟩,
    ⟨(some 135), .move (.t 23), none, false, 0, 0, false⟩,
    ⟨(some 136), .call (.f 44) [(.t 133), (.t 134), (.t 135)], none, true, 0, 0, false⟩,
    ⟨(some 132), .move (.t 136), none, false, 0, 0, false⟩,
    ⟨(some 137), .extract (.t 132) 0, none, false, 0, 0, false⟩,
    ⟨(some 138), .extract (.t 132) 1, none, false, 0, 0, false⟩,
    ⟨(some 26), .move (.t 137), none, false, 0, 0, false⟩,
    ⟨(some 27), .move (.t 138), none, false, 0, 0, false⟩])
  (.seq (.reg [
    ⟨(some 140), .load true 2 (.t 5), none, true, 0, 0, false⟩,
    ⟨(some 141), .move (.t 21), none, false, 0, 0, false⟩,
    ⟨(some 142), .move (.t 23), none, false, 0, 0, false⟩,
    ⟨(some 143), .move (.t 25), none, false, 0, 0, false⟩,
    ⟨(some 144), .call (.f 18) [(.t 140), (.t 141), (.t 142), (.t 143)], none, true, 0, 0, false⟩,
    ⟨(some 139), .move (.t 144), none, false, 0, 0, false⟩,
    ⟨(some 145), .extract (.t 139) 0, none, false, 0, 0, false⟩,
    ⟨(some 146), .extract (.t 139) 1, none, false, 0, 0, false⟩,
    ⟨(some 28), .box 3 (.c (.agg [(.int .i64 0), (.int .i64 0), (.slice 0 [] .nil)])), none, true, 0, 0, false⟩,
    ⟨none, .store 3 (.t 28) (.t 145), none, true, 0, 0, false⟩,
    ⟨(some 29), .move (.t 146), none, false, 0, 0, false⟩])
  (.seq (.reg [
    ⟨(some 147), .move (.t 27), none, false, 0, 0, false⟩,
    ⟨(some 148), .bin .eql (.t 147) (.c (.int .i64 0)), none, false, 0, 0, false⟩,
    ⟨(some 149), .move (.t 148), none, false, 0, 0, false⟩,
    ⟨(some 150), .move (.t 25), (some (149, true)), false, 0, 0, false⟩,
    ⟨(some 151), .bin .geq (.t 150) (.c (.int .i64 0)), (some (149, true)), false, 0, 0, false⟩,
    ⟨(some 152), .pick (.t 149) (.t 151) (.c (.bool false)), none, false, 0, 0, false⟩,
    ⟨(some 153), .move (.t 152), none, false, 0, 0, false⟩,
    ⟨(some 154), .move (.t 25), (some (153, true)), false, 0, 0, false⟩,
    ⟨(some 155), .move (.t 26), (some (153, true)), false, 0, 0, false⟩,
    ⟨(some 156), .bin .lss (.t 154) (.t 155), (some (153, true)), false, 0, 0, false⟩,
    ⟨(some 157), .pick (.t 153) (.t 156) (.c (.bool false)), none, false, 0, 0, false⟩,
    ⟨(some 158), .move (.t 157), none, false, 0, 0, false⟩,
    ⟨(some 159), .move (.t 29), (some (158, true)), false, 0, 0, false⟩,
    ⟨(some 160), .bin .eql (.t 159) (.c (.int .i64 0)), (some (158, true)), false, 0, 0, false⟩,
    ⟨(some 161), .pick (.t 158) (.t 160) (.c (.bool false)), none, false, 0, 0, false⟩,
    ⟨(some 162), .move (.t 161), none, false, 0, 0, false⟩,
    ⟨(some 163), .load true 3 (.t 28), (some (162, true)), true, 0, 0, false⟩,
    ⟨(some 164), .load true 3 (.t 9), (some (162, true)), true, 0, 0, false⟩,
    ⟨(some 165), .call (.f 22) [(.t 163), (.t 164)], (some (162, true)), true, 0, 0, false⟩,
    ⟨(some 166), .pick (.t 162) (.t 165) (.c (.bool false)), none, false, 0, 0, false⟩,
    ⟨(some 10), .move (.t 166), none, false, 0, 0, false⟩])
  .ret))))))))
def a6i : ACode :=
  (.seq (.reg [
    ⟨(some 60), .load true 2 (.t 5), none, true, 0, 0, false⟩,
    ⟨(some 61), .move (.t 1), none, false, 0, 0, false⟩,
    ⟨(some 62), .move (.t 2), none, false, 0, 0, false⟩,
    ⟨(some 63), .move (.t 3), none, false, 0, 0, false⟩,
    ⟨(some 64), .call (.f 18) [(.t 60), (.t 61), (.t 62), (.t 63)], none, true, 0, 0, false⟩,
    ⟨(some 59), .move (.t 64), none, false, 0, 0, false⟩,
    ⟨(some 65), .extract (.t 59) 0, none, false, 0, 0, false⟩,
    ⟨(some 66), .extract (.t 59) 1, none, false, 0, 0, false⟩,
    ⟨(some 13), .box 3 (.c (.agg [(.int .i64 0), (.int .i64 0), (.slice 0 [] .nil)])), none, true, 0, 0, false⟩,
    ⟨none, .store 3 (.t 13) (.t 65), none, true, 0, 0, false⟩,
    ⟨(some 14), .move (.t 66), none, false, 0, 0, false⟩])
  (.seq (.reg [
    ⟨(some 68), .load true 2 (.t 5), none, true, 0, 0, false⟩,
    ⟨(some 69), .load true 3 (.t 13), none, true, 0, 0, false⟩,
    ⟨(some 70), .call (.f 20) [(.t 68), (.t 69)], none, true, 0, 0, false⟩,
    ⟨(some 67), .move (.t 70), none, false, 0, 0, false⟩,
    ⟨(some 71), .extract (.t 67) 0, none, false, 0, 0, false⟩,
    ⟨(some 72), .extract (.t 67) 1, none, false, 0, 0, false⟩,
    ⟨(some 15), .move (.t 71), none, false, 0, 0, false⟩,
    ⟨(some 16), .move (.t 72), none, false, 0, 0, false⟩])
  (.seq (.reg [
    ⟨(some 74), .load true 2 (.t 5), none, true, 0, 0, false⟩,
    ⟨(some 75), .load true 3 (.t 13), none, true, 0, 0, false⟩,
    ⟨(some 76), .call (.f 45) [(.t 74), (.c (.slice 0 [] .nil)), (.t 75)], none, true, 0, 0, false⟩,
    ⟨(some 73), .move (.t 76), none, false, 0, 0, false⟩,
    ⟨(some 77), .extract (.t 73) 0, none, false, 0, 0, false⟩,
    ⟨(some 78), .extract (.t 73) 1, none, false, 0, 0, false⟩,
    ⟨(some 17), .move (.t 77), none, false, 0, 0, false⟩,
    ⟨(some 18), .move (.t 78), none, false, 0, 0, false⟩])
  (.seq (.reg [
    ⟨(some 80), .load true 3 (.t 13), none, true, 0, 0, false⟩,
    ⟨(some 81), .call (.f 46) [(.t 80)], none, true, 0, 0, false⟩,
    ⟨(some 79), .move (.t 81), none, false, 0, 0, false⟩,
    ⟨(some 82), .extract (.t 79) 0, none, false, 0, 0, false⟩,
    ⟨(some 83), .extract (.t 79) 1, none, false, 0, 0, false⟩,
    ⟨(some 19), .move (.t 82), none, false, 0, 0, false⟩,
    ⟨(some 20), .move (.t 83), none, false, 0, 0, false⟩])
  (.seq (.reg [
    ⟨(some 84), .move (.t 14), none, false, 0, 0, false⟩,
    ⟨(some 85), .bin .neq (.t 84) (.c (.int .i64 0)), none, false, 0, 0, false⟩,
    ⟨(some 86), .move (.t 85), none, false, 0, 0, false⟩,
    ⟨(some 87), .move (.t 16), (some (86, false)), false, 0, 0, false⟩,
    ⟨(some 88), .bin .neq (.t 87) (.c (.int .i64 0)), (some (86, false)), false, 0, 0, false⟩,
    ⟨(some 89), .pick (.t 86) (.c (.bool true)) (.t 88), none, false, 0, 0, false⟩,
    ⟨(some 90), .move (.t 89), none, false, 0, 0, false⟩,
    ⟨(some 91), .move (.t 15), (some (90, false)), false, 0, 0, false⟩,
    ⟨(some 92), .move (.t 3), (some (90, false)), false, 0, 0, false⟩,
    ⟨(some 93), .bin .neq (.t 91) (.t 92), (some (90, false)), false, 0, 0, false⟩,
    ⟨(some 94), .pick (.t 90) (.c (.bool true)) (.t 93), none, false, 0, 0, false⟩,
    ⟨(some 95), .move (.t 94), none, false, 0, 0, false⟩,
    ⟨(some 96), .move (.t 18), (some (95, false)), false, 0, 0, false⟩,
    ⟨(some 97), .bin .neq (.t 96) (.c (.int .i64 0)), (some (95, false)), false, 0, 0, false⟩,
    ⟨(some 98), .pick (.t 95) (.c (.bool true)) (.t 97), none, false, 0, 0, false⟩,
    ⟨(some 99), .move (.t 98), none, false, 0, 0, false⟩,
    ⟨(some 100), .move (.t 17), (some (99, false)), false, 0, 0, false⟩,
    ⟨(some 101), .move (.t 1), (some (99, false)), false, 0, 0, false⟩,
    ⟨(some 102), .bin .neq (.t 100) (.t 101), (some (99, false)), false, 0, 0, false⟩,
    ⟨(some 103), .pick (.t 99) (.c (.bool true)) (.t 102), none, false, 0, 0, false⟩,
    ⟨(some 104), .move (.t 103), none, false, 0, 0, false⟩,
    ⟨(some 105), .move (.t 19), (some (104, false)), false, 0, 0, false⟩,
    ⟨(some 106), .move (.t 2), (some (104, false)), false, 0, 0, false⟩,
    ⟨(some 107), .bin .neq (.t 105) (.t 106), (some (104, false)), false, 0, 0, false⟩,
    ⟨(some 108), .pick (.t 104) (.c (.bool true)) (.t 107), none, false, 0, 0, false⟩])
  (.cond (.t 108)
  (.seq (.reg [
    ⟨(some 10), .move (.c (.bool false)), none, false, 0, 0, false⟩])
  .ret)
  .skip))))))
def a6 : AFunc := ⟨5, 167, (.seq (.reg [
    ⟨(some 5), .box 2 (.t 0), none, true, 0, 0, false⟩,
    ⟨(some 9), .box 3 (.t 4), none, true, 0, 0, false⟩,
    ⟨(some 10), .move (.c (.bool false)), none, false, 0, 0, false⟩])
  (.seq (.seq (.reg [
    ⟨(some 30), .call (.f 15) [], none, true, 0, 0, false⟩,
    ⟨(some 31), .un .not (.t 30), none, false, 0, 0, false⟩])
  (.cond (.t 31)
  (.seq (.reg [
    ⟨(some 10), .move (.c (.bool false)), none, false, 0, 0, false⟩])
  .ret)
  .skip))
  (.seq (.seq (.reg [
    ⟨(some 32), .load true 2 (.t 5), none, true, 0, 0, false⟩,
    ⟨(some 33), .call (.f 16) [(.t 32)], none, true, 0, 0, false⟩,
    ⟨(some 34), .un .not (.t 33), none, false, 0, 0, false⟩,
    ⟨(some 35), .move (.t 34), none, false, 0, 0, false⟩,
    ⟨(some 36), .load true 3 (.t 9), (some (35, false)), true, 0, 0, false⟩,
    ⟨(some 37), .buildSlice 3 (.agg [(.int .i64 0), (.int .i64 0), (.slice 0 [] .nil)]) 1 [(0, (.t 36))], (some (35, false)), false, 0, 0, false⟩,
    ⟨(some 38), .call (.f 17) [(.c (.int .i64 100)), (.t 37)], (some (35, false)), true, 0, 0, false⟩,
    ⟨(some 39), .un .not (.t 38), (some (35, false)), false, 0, 0, false⟩,
    ⟨(some 40), .pick (.t 35) (.c (.bool true)) (.t 39), none, false, 0, 0, false⟩])
  (.cond (.t 40)
  (.seq (.reg [
    ⟨(some 10), .move (.c (.bool true)), none, false, 0, 0, false⟩])
  .ret)
  .skip))
  (.seq (.seq (.reg [
    ⟨(some 42), .load true 2 (.t 5), none, true, 0, 0, false⟩,
    ⟨(some 43), .move (.t 1), none, false, 0, 0, false⟩,
    ⟨(some 44), .move (.t 2), none, false, 0, 0, false⟩,
    ⟨(some 45), .call (.f 44) [(.t 42), (.t 43), (.t 44)], none, true, 0, 0, false⟩,
    ⟨(some 41), .move (.t 45), none, false, 0, 0, false⟩,
    ⟨(some 46), .extract (.t 41) 0, none, false, 0, 0, false⟩,
    ⟨(some 47), .extract (.t 41) 1, none, false, 0, 0, false⟩,
    ⟨(some 11), .move (.t 46), none, false, 0, 0, false⟩,
    ⟨(some 12), .move (.t 47), none, false, 0, 0, false⟩])
  (.seq (.reg [
    ⟨(some 48), .move (.t 12), none, false, 0, 0, false⟩,
    ⟨(some 49), .bin .eql (.t 48) (.c (.int .i64 0)), none, false, 0, 0, false⟩,
    ⟨(some 50), .move (.t 49), none, false, 0, 0, false⟩,
    ⟨(some 51), .move (.t 3), (some (50, true)), false, 0, 0, false⟩,
    ⟨(some 52), .bin .geq (.t 51) (.c (.int .i64 0)), (some (50, true)), false, 0, 0, false⟩,
    ⟨(some 53), .pick (.t 50) (.t 52) (.c (.bool false)), none, false, 0, 0, false⟩,
    ⟨(some 54), .move (.t 53), none, false, 0, 0, false⟩,
    ⟨(some 55), .move (.t 3), (some (54, true)), false, 0, 0, false⟩,
    ⟨(some 56), .move (.t 11), (some (54, true)), false, 0, 0, false⟩,
    ⟨(some 57), .bin .lss (.t 55) (.t 56), (some (54, true)), false, 0, 0, false⟩,
    ⟨(some 58), .pick (.t 54) (.t 57) (.c (.bool false)), none, false, 0, 0, false⟩])
  (.cond (.t 58)
  a6i
  .skip)))
  a6t)))), [.t 10]⟩
theorem fn6 : fnOf 6 = some a6 := by kernel_rfl
-- 17 madrigal/madrigallaw09.few
def a17 : AFunc := ⟨2, 11, (.seq (.reg [
    ⟨(some 2), .box 1 (.t 0), none, true, 0, 0, false⟩,
    ⟨(some 4), .move (.c (.bool false)), none, false, 0, 0, false⟩])
  (.seq (.reg [
    ⟨(some 5), .box 1 (.c .nilFunc), none, true, 0, 0, false⟩])
  (.seq (.reg [
    ⟨(some 6), .mkFunc (.func 84) [] [(.t 2), (.t 5)], none, false, 0, 0, false⟩,
    ⟨none, .store 1 (.t 5) (.t 6), none, true, 0, 0, false⟩])
  (.seq (.reg [
    ⟨(some 7), .move (.t 1), none, false, 0, 0, false⟩,
    ⟨(some 8), .mkFunc (.func 86) [] [(.t 5)], none, false, 0, 0, false⟩,
    ⟨(some 9), .call (.f 48) [(.t 7), (.t 8)], none, true, 0, 0, false⟩,
    ⟨(some 10), .un .not (.t 9), none, false, 0, 0, false⟩,
    ⟨(some 4), .move (.t 10), none, false, 0, 0, false⟩])
  .ret)))), [.t 4]⟩
theorem fn17 : fnOf 17 = some a17 := by kernel_rfl
-- 84 madrigal/madrigallaw09.few$1
def a84 : AFunc := ⟨4, 22, (.seq (.reg [
    ⟨(some 4), .box 3 (.t 0), none, true, 0, 0, false⟩,
    ⟨(some 5), .box 1 (.t 1), none, true, 0, 0, false⟩,
    ⟨(some 6), .move (.c (.bool false)), none, false, 0, 0, false⟩])
  (.seq (.reg [
    ⟨(some 7), .load false 1 (.t 2), none, true, 0, 0, false⟩,
    ⟨(some 8), .bin .sub (.t 7) (.c (.int .i64 1)), none, false, 0, 0, false⟩,
    ⟨none, .store 1 (.t 2) (.t 8), none, true, 0, 0, false⟩])
  (.seq (.reg [
    ⟨(some 9), .load false 1 (.t 2), none, true, 0, 0, false⟩,
    ⟨(some 10), .bin .geq (.t 9) (.c (.int .i64 0)), none, false, 0, 0, false⟩,
    ⟨(some 11), .move (.t 10), none, false, 0, 0, false⟩,
    ⟨(some 12), .load false 1 (.t 5), (some (11, true)), true, 0, 0, false⟩,
    ⟨(some 13), .bin .lss (.t 12) (.c (.int .i64 100)), (some (11, true)), false, 0, 0, false⟩,
    ⟨(some 14), .pick (.t 11) (.t 13) (.c (.bool false)), none, false, 0, 0, false⟩,
    ⟨(some 15), .move (.t 14), none, false, 0, 0, false⟩,
    ⟨(some 16), .fieldAddr 2 (.t 4), (some (15, true)), false, 0, 0, false⟩,
    ⟨(some 17), .load false 1 (.t 16), (some (15, true)), true, 0, 0, false⟩,
    ⟨(some 18), .mkFunc (.func 85) [] [(.t 3), (.t 5)], (some (15, true)), false, 0, 0, false⟩,
    ⟨(some 19), .call (.f 48) [(.t 17), (.t 18)], (some (15, true)), true, 0, 0, false⟩,
    ⟨(some 20), .un .not (.t 19), (some (15, true)), false, 0, 0, false⟩,
    ⟨(some 21), .pick (.t 15) (.t 20) (.c (.bool false)), none, false, 0, 0, false⟩,
    ⟨(some 6), .move (.t 21), none, false, 0, 0, false⟩])
  .ret))), [.t 6]⟩
theorem fn84 : fnOf 84 = some a84 := by kernel_rfl
-- 85 madrigal/madrigallaw09.few$1$1
def a85 : AFunc := ⟨3, 11, (.seq (.reg [
    ⟨(some 3), .box 3 (.t 0), none, true, 0, 0, false⟩,
    ⟨(some 4), .move (.c (.bool false)), none, false, 0, 0, false⟩])
  (.seq (.reg [
    ⟨(some 5), .load false 1 (.t 1), none, true, 0, 0, false⟩,
    ⟨(some 6), .load true 3 (.t 3), none, true, 0, 0, false⟩,
    ⟨(some 7), .load false 1 (.t 2), none, true, 0, 0, false⟩,
    ⟨(some 8), .bin .add (.t 7) (.c (.int .i64 1)), none, false, 0, 0, false⟩,
    ⟨(some 9), .call (.t 5) [(.t 6), (.t 8)], none, true, 0, 0, false⟩,
    ⟨(some 10), .un .not (.t 9), none, false, 0, 0, false⟩,
    ⟨(some 4), .move (.t 10), none, false, 0, 0, false⟩])
  .ret)), [.t 4]⟩
theorem fn85 : fnOf 85 = some a85 := by kernel_rfl
-- 86 madrigal/madrigallaw09.few$2
def a86 : AFunc := ⟨2, 8, (.seq (.reg [
    ⟨(some 2), .box 3 (.t 0), none, true, 0, 0, false⟩,
    ⟨(some 3), .move (.c (.bool false)), none, false, 0, 0, false⟩])
  (.seq (.reg [
    ⟨(some 4), .load false 1 (.t 1), none, true, 0, 0, false⟩,
    ⟨(some 5), .load true 3 (.t 2), none, true, 0, 0, false⟩,
    ⟨(some 6), .call (.t 4) [(.t 5), (.c (.int .i64 0))], none, true, 0, 0, false⟩,
    ⟨(some 7), .un .not (.t 6), none, false, 0, 0, false⟩,
    ⟨(some 3), .move (.t 7), none, false, 0, 0, false⟩])
  .ret)), [.t 3]⟩
theorem fn86 : fnOf 86 = some a86 := by kernel_rfl
-- 48 slices.ContainsFunc[[]madrigal/api.Term,madrigal/api.Term]
def a48 : AFunc := ⟨2, 9, (.seq (.reg [
    ⟨(some 4), .move (.c (.bool false)), none, false, 0, 0, false⟩])
  (.seq (.reg [
    ⟨(some 5), .move (.t 0), none, false, 0, 0, false⟩,
    ⟨(some 6), .move (.t 1), none, false, 0, 0, false⟩,
    ⟨(some 7), .call (.f 135) [(.t 5), (.t 6)], none, true, 0, 0, false⟩,
    ⟨(some 8), .bin .geq (.t 7) (.c (.int .i64 0)), none, false, 0, 0, false⟩,
    ⟨(some 4), .move (.t 8), none, false, 0, 0, false⟩])
  .ret)), [.t 4]⟩
theorem fn48 : fnOf 48 = some a48 := by kernel_rfl
-- 135 slices.IndexFunc[[]madrigal/api.Term,madrigal/api.Term]
def a135b0 : ACode :=
  (.seq (.reg [
    ⟨(some 9), .bin .lss (.t 8) (.t 7), none, false, 0, 0, false⟩])
  (.seq (.cond (.t 9)
  .skip
  (.exit 0))
  (.seq (.block 1 (.seq (.reg [
    ⟨(some 10), .move (.t 8), none, false, 0, 0, false⟩,
    ⟨(some 5), .move (.t 10), none, false, 0, 0, false⟩])
  (.seq (.reg [
    ⟨(some 11), .move (.t 1), none, false, 0, 0, false⟩,
    ⟨(some 12), .move (.t 0), none, false, 0, 0, false⟩,
    ⟨(some 13), .move (.t 5), none, false, 0, 0, false⟩,
    ⟨(some 14), .idxAddr 3 (.t 12) (.t 13), none, false, 0, 0, false⟩,
    ⟨(some 15), .load true 3 (.t 14), none, true, 0, 0, false⟩,
    ⟨(some 16), .call (.t 11) [(.t 15)], none, true, 0, 0, false⟩])
  (.cond (.t 16)
  (.seq (.reg [
    ⟨(some 17), .move (.t 5), none, false, 0, 0, false⟩,
    ⟨(some 4), .move (.t 17), none, false, 0, 0, false⟩])
  .ret)
  .skip))))
  (.reg [
    ⟨(some 18), .bin .add (.t 8) (.c (.int .i64 1)), none, false, 0, 0, false⟩,
    ⟨(some 8), .move (.t 18), none, false, 0, 0, false⟩]))))
def a135 : AFunc := ⟨2, 19, (.seq (.reg [
    ⟨(some 4), .move (.c (.int .i64 0)), none, false, 0, 0, false⟩])
  (.seq (.seq (.reg [
    ⟨(some 6), .move (.t 0), none, false, 0, 0, false⟩,
    ⟨(some 7), .lenL (.t 6), none, false, 0, 0, false⟩,
    ⟨(some 8), .move (.c (.int .i64 0)), none, false, 0, 0, false⟩])
  (.block 0 (.loop a135b0)))
  (.seq (.reg [
    ⟨(some 4), .move (.c (.int .i64 (-1))), none, false, 0, 0, false⟩])
  .ret))), [.t 4]⟩
theorem fn135 : fnOf 135 = some a135 := by kernel_rfl
-- 20 madrigal/vals.Number
def a20 : AFunc := ⟨2, 37, (.seq (.reg [
    ⟨(some 2), .box 2 (.t 0), none, true, 0, 0, false⟩,
    ⟨(some 3), .box 3 (.t 1), none, true, 0, 0, false⟩,
    ⟨(some 4), .move (.c (.int .i64 0)), none, false, 0, 0, false⟩,
    ⟨(some 5), .move (.c (.int .i64 0)), none, false, 0, 0, false⟩])
  (.seq (.seq (.reg [
    ⟨(some 11), .load true 2 (.t 2), none, true, 0, 0, false⟩,
    ⟨(some 12), .call (.f 87) [(.t 11)], none, true, 0, 0, false⟩,
    ⟨(some 6), .move (.t 12), none, false, 0, 0, false⟩])
  (.seq (.reg [
    ⟨(some 13), .move (.t 6), none, false, 0, 0, false⟩,
    ⟨(some 14), .bin .neq (.t 13) (.c (.int .i64 0)), none, false, 0, 0, false⟩])
  (.cond (.t 14)
  (.seq (.reg [
    ⟨(some 15), .move (.t 6), none, false, 0, 0, false⟩,
    ⟨(some 4), .move (.c (.int .i64 0)), none, false, 0, 0, false⟩,
    ⟨(some 5), .move (.t 15), none, false, 0, 0, false⟩])
  .ret)
  .skip)))
  (.seq (.seq (.reg [
    ⟨(some 16), .load true 2 (.t 2), none, true, 0, 0, false⟩,
    ⟨(some 17), .load true 3 (.t 3), none, true, 0, 0, false⟩,
    ⟨(some 18), .call (.f 95) [(.t 16), (.t 17)], none, true, 0, 0, false⟩,
    ⟨(some 19), .un .not (.t 18), none, false, 0, 0, false⟩])
  (.cond (.t 19)
  (.seq (.reg [
    ⟨(some 4), .move (.c (.int .i64 0)), none, false, 0, 0, false⟩,
    ⟨(some 5), .move (.c (.int .i64 4)), none, false, 0, 0, false⟩])
  .ret)
  .skip))
  (.seq (.seq (.reg [
    ⟨(some 21), .load true 3 (.t 3), none, true, 0, 0, false⟩,
    ⟨(some 22), .call (.f 46) [(.t 21)], none, true, 0, 0, false⟩,
    ⟨(some 20), .move (.t 22), none, false, 0, 0, false⟩,
    ⟨(some 23), .extract (.t 20) 0, none, false, 0, 0, false⟩,
    ⟨(some 24), .extract (.t 20) 1, none, false, 0, 0, false⟩,
    ⟨(some 7), .move (.t 23), none, false, 0, 0, false⟩,
    ⟨(some 8), .move (.t 24), none, false, 0, 0, false⟩])
  (.seq (.reg [
    ⟨(some 25), .move (.t 7), none, false, 0, 0, false⟩,
    ⟨(some 26), .bin .gtr (.t 25) (.c (.int .i64 60)), none, false, 0, 0, false⟩])
  (.cond (.t 26)
  (.seq (.reg [
    ⟨(some 4), .move (.c (.int .i64 0)), none, false, 0, 0, false⟩,
    ⟨(some 5), .move (.c (.int .i64 2)), none, false, 0, 0, false⟩])
  .ret)
  .skip)))
  (.seq (.regD [
    ⟨(some 28), .load true 2 (.t 2), none, true, 0, 0, false⟩,
    ⟨(some 29), .call (.f 90) [(.t 28)], none, true, 1, 1, false⟩,
    ⟨(some 30), .load true 3 (.t 3), none, true, 2, 0, true⟩,
    ⟨(some 31), .call (.f 96) [(.t 29), (.t 30)], none, true, 3, 7, true⟩,
    ⟨(some 27), .move (.t 31), none, false, 4, 15, true⟩,
    ⟨(some 32), .extract (.t 27) 0, none, false, 5, 31, false⟩,
    ⟨(some 33), .extract (.t 27) 1, none, false, 6, 31, false⟩,
    ⟨(some 9), .move (.t 32), none, false, 7, 63, true⟩,
    ⟨(some 10), .move (.t 33), none, false, 8, 255, true⟩])
  (.seq (.seq (.reg [
    ⟨(some 34), .move (.t 9), none, false, 0, 0, false⟩,
    ⟨(some 35), .bin .geq (.t 34) (.c (.int .i64 1099511627776)), none, false, 0, 0, false⟩])
  (.cond (.t 35)
  (.seq (.reg [
    ⟨(some 4), .move (.c (.int .i64 0)), none, false, 0, 0, false⟩,
    ⟨(some 5), .move (.c (.int .i64 2)), none, false, 0, 0, false⟩])
  .ret)
  .skip))
  (.seq (.reg [
    ⟨(some 36), .move (.t 9), none, false, 0, 0, false⟩,
    ⟨(some 4), .move (.t 36), none, false, 0, 0, false⟩,
    ⟨(some 5), .move (.c (.int .i64 0)), none, false, 0, 0, false⟩])
  .ret))))))), [.t 4, .t 5]⟩
theorem fn20 : fnOf 20 = some a20 := by kernel_rfl
-- 95 madrigal/vals.ground
def a95 : AFunc := ⟨2, 15, (.seq (.reg [
    ⟨(some 2), .box 2 (.t 0), none, true, 0, 0, false⟩,
    ⟨(some 3), .box 3 (.t 1), none, true, 0, 0, false⟩,
    ⟨(some 4), .move (.c (.bool false)), none, false, 0, 0, false⟩])
  (.seq (.reg [
    ⟨(some 8), .load true 2 (.t 2), none, true, 0, 0, false⟩,
    ⟨(some 9), .load true 3 (.t 3), none, true, 0, 0, false⟩,
    ⟨(some 10), .call (.f 45) [(.t 8), (.c (.slice 0 [] .nil)), (.t 9)], none, true, 0, 0, false⟩,
    ⟨(some 7), .move (.t 10), none, false, 0, 0, false⟩,
    ⟨(some 11), .extract (.t 7) 0, none, false, 0, 0, false⟩,
    ⟨(some 12), .extract (.t 7) 1, none, false, 0, 0, false⟩,
    ⟨(some 5), .move (.t 11), none, false, 0, 0, false⟩,
    ⟨(some 6), .move (.t 12), none, false, 0, 0, false⟩])
  (.seq (.reg [
    ⟨(some 13), .move (.t 6), none, false, 0, 0, false⟩,
    ⟨(some 14), .bin .eql (.t 13) (.c (.int .i64 0)), none, false, 0, 0, false⟩,
    ⟨(some 4), .move (.t 14), none, false, 0, 0, false⟩])
  .ret))), [.t 4]⟩
theorem fn95 : fnOf 95 = some a95 := by kernel_rfl
-- 45 madrigal/sig.Sort
def a45 : AFunc := ⟨3, 67, (.seq (.reg [
    ⟨(some 3), .box 2 (.t 0), none, true, 0, 0, false⟩,
    ⟨(some 4), .box 1 (.t 1), none, true, 0, 0, false⟩,
    ⟨(some 5), .box 3 (.t 2), none, true, 0, 0, false⟩,
    ⟨(some 6), .move (.c (.int .i64 0)), none, false, 0, 0, false⟩,
    ⟨(some 7), .move (.c (.int .i64 0)), none, false, 0, 0, false⟩])
  (.seq (.block 0 (.seq (.reg [
    ⟨(some 10), .load true 2 (.t 3), none, true, 0, 0, false⟩,
    ⟨(some 11), .call (.f 87) [(.t 10)], none, true, 0, 0, false⟩,
    ⟨(some 12), .bin .neq (.t 11) (.c (.int .i64 0)), none, false, 0, 0, false⟩,
    ⟨(some 9), .move (.t 12), none, false, 0, 0, false⟩])
  (.cond (.t 9)
  (.seq (.reg [
    ⟨(some 6), .move (.c (.int .i64 0)), none, false, 0, 0, false⟩,
    ⟨(some 7), .move (.c (.int .i64 40)), none, false, 0, 0, false⟩])
  .ret)
  (.seq (.reg [
    ⟨(some 14), .load false 1 (.t 4), none, true, 0, 0, false⟩,
    ⟨(some 15), .mkFunc (.func 129) [] [(.t 3)], none, false, 0, 0, false⟩,
    ⟨(some 16), .call (.f 65) [(.t 14), (.t 15)], none, true, 0, 0, false⟩,
    ⟨(some 13), .move (.t 16), none, false, 0, 0, false⟩])
  (.cond (.t 13)
  (.seq (.reg [
    ⟨(some 6), .move (.c (.int .i64 0)), none, false, 0, 0, false⟩,
    ⟨(some 7), .move (.c (.int .i64 1)), none, false, 0, 0, false⟩])
  .ret)
  (.seq (.reg [
    ⟨(some 18), .load true 3 (.t 5), none, true, 0, 0, false⟩,
    ⟨(some 19), .call (.f 130) [(.t 18)], none, true, 0, 0, false⟩,
    ⟨(some 20), .un .not (.t 19), none, false, 0, 0, false⟩,
    ⟨(some 17), .move (.t 20), none, false, 0, 0, false⟩])
  (.cond (.t 17)
  (.seq (.reg [
    ⟨(some 6), .move (.c (.int .i64 0)), none, false, 0, 0, false⟩,
    ⟨(some 7), .move (.c (.int .i64 4)), none, false, 0, 0, false⟩])
  .ret)
  .skip)))))))
  (.seq (.reg [
    ⟨(some 8), .move (.c (.int .i64 (-1))), none, false, 0, 0, false⟩])
  (.seq (.block 1 (.seq (.reg [
    ⟨(some 22), .fieldAddr 0 (.t 5), none, false, 0, 0, false⟩,
    ⟨(some 23), .load false 1 (.t 22), none, true, 0, 0, false⟩,
    ⟨(some 24), .bin .eql (.t 23) (.c (.int .i64 1)), none, false, 0, 0, false⟩,
    ⟨(some 25), .move (.t 24), none, false, 0, 0, false⟩,
    ⟨(some 26), .fieldAddr 1 (.t 5), (some (25, true)), false, 0, 0, false⟩,
    ⟨(some 27), .load false 1 (.t 26), (some (25, true)), true, 0, 0, false⟩,
    ⟨(some 28), .load false 1 (.t 4), (some (25, true)), true, 0, 0, false⟩,
    ⟨(some 29), .lenL (.t 28), (some (25, true)), false, 0, 0, false⟩,
    ⟨(some 30), .bin .lss (.t 27) (.t 29), (some (25, true)), false, 0, 0, false⟩,
    ⟨(some 31), .pick (.t 25) (.t 30) (.c (.bool false)), none, false, 0, 0, false⟩,
    ⟨(some 21), .move (.t 31), none, false, 0, 0, false⟩])
  (.cond (.t 21)
  (.reg [
    ⟨(some 32), .load false 1 (.t 4), none, true, 0, 0, false⟩,
    ⟨(some 33), .fieldAddr 1 (.t 5), none, false, 0, 0, false⟩,
    ⟨(some 34), .load false 1 (.t 33), none, true, 0, 0, false⟩,
    ⟨(some 35), .idxAddr 1 (.t 32) (.t 34), none, false, 0, 0, false⟩,
    ⟨(some 36), .load false 1 (.t 35), none, true, 0, 0, false⟩,
    ⟨(some 8), .move (.t 36), none, false, 0, 0, false⟩])
  (.seq (.reg [
    ⟨(some 38), .fieldAddr 0 (.t 5), none, false, 0, 0, false⟩,
    ⟨(some 39), .load false 1 (.t 38), none, true, 0, 0, false⟩,
    ⟨(some 40), .bin .eql (.t 39) (.c (.int .i64 2)), none, false, 0, 0, false⟩,
    ⟨(some 41), .move (.t 40), none, false, 0, 0, false⟩,
    ⟨(some 42), .fieldAddr 1 (.t 5), (some (41, true)), false, 0, 0, false⟩,
    ⟨(some 43), .load false 1 (.t 42), (some (41, true)), true, 0, 0, false⟩,
    ⟨(some 44), .fieldAddr 1 (.t 3), (some (41, true)), false, 0, 0, false⟩,
    ⟨(some 45), .load false 1 (.t 44), (some (41, true)), true, 0, 0, false⟩,
    ⟨(some 46), .lenL (.t 45), (some (41, true)), false, 0, 0, false⟩,
    ⟨(some 47), .bin .lss (.t 43) (.t 46), (some (41, true)), false, 0, 0, false⟩,
    ⟨(some 48), .pick (.t 41) (.t 47) (.c (.bool false)), none, false, 0, 0, false⟩,
    ⟨(some 37), .move (.t 48), none, false, 0, 0, false⟩])
  (.cond (.t 37)
  (.reg [
    ⟨(some 49), .fieldAddr 1 (.t 3), none, false, 0, 0, false⟩,
    ⟨(some 50), .load false 1 (.t 49), none, true, 0, 0, false⟩,
    ⟨(some 51), .fieldAddr 1 (.t 5), none, false, 0, 0, false⟩,
    ⟨(some 52), .load false 1 (.t 51), none, true, 0, 0, false⟩,
    ⟨(some 53), .idxAddr 3 (.t 50) (.t 52), none, false, 0, 0, false⟩,
    ⟨(some 54), .fieldAddr 2 (.t 53), none, false, 0, 0, false⟩,
    ⟨(some 55), .load false 1 (.t 54), none, true, 0, 0, false⟩,
    ⟨(some 8), .move (.t 55), none, false, 0, 0, false⟩])
  .skip)))))
  (.seq (.seq (.reg [
    ⟨(some 56), .move (.t 8), none, false, 0, 0, false⟩,
    ⟨(some 57), .bin .lss (.t 56) (.c (.int .i64 0)), none, false, 0, 0, false⟩,
    ⟨(some 58), .move (.t 57), none, false, 0, 0, false⟩,
    ⟨(some 59), .load true 2 (.t 3), (some (58, false)), true, 0, 0, false⟩,
    ⟨(some 60), .load true 3 (.t 5), (some (58, false)), true, 0, 0, false⟩,
    ⟨(some 61), .move (.t 8), (some (58, false)), false, 0, 0, false⟩,
    ⟨(some 62), .mkFunc (.func 132) [] [(.t 4)], (some (58, false)), false, 0, 0, false⟩,
    ⟨(some 63), .call (.f 131) [(.t 59), (.t 60), (.t 61), (.t 62)], (some (58, false)), true, 0, 0, false⟩,
    ⟨(some 64), .un .not (.t 63), (some (58, false)), false, 0, 0, false⟩,
    ⟨(some 65), .pick (.t 58) (.c (.bool true)) (.t 64), none, false, 0, 0, false⟩])
  (.cond (.t 65)
  (.seq (.reg [
    ⟨(some 6), .move (.c (.int .i64 0)), none, false, 0, 0, false⟩,
    ⟨(some 7), .move (.c (.int .i64 4)), none, false, 0, 0, false⟩])
  .ret)
  .skip))
  (.seq (.reg [
    ⟨(some 66), .move (.t 8), none, false, 0, 0, false⟩,
    ⟨(some 6), .move (.t 66), none, false, 0, 0, false⟩,
    ⟨(some 7), .move (.c (.int .i64 0)), none, false, 0, 0, false⟩])
  .ret)))))), [.t 6, .t 7]⟩
theorem fn45 : fnOf 45 = some a45 := by kernel_rfl
-- 129 madrigal/sig.Sort$1
def a129 : AFunc := ⟨2, 13, (.seq (.reg [
    ⟨(some 3), .move (.c (.bool false)), none, false, 0, 0, false⟩])
  (.seq (.reg [
    ⟨(some 4), .move (.t 0), none, false, 0, 0, false⟩,
    ⟨(some 5), .bin .lss (.t 4) (.c (.int .i64 0)), none, false, 0, 0, false⟩,
    ⟨(some 6), .move (.t 5), none, false, 0, 0, false⟩,
    ⟨(some 7), .move (.t 0), (some (6, false)), false, 0, 0, false⟩,
    ⟨(some 8), .fieldAddr 0 (.t 1), (some (6, false)), false, 0, 0, false⟩,
    ⟨(some 9), .load false 1 (.t 8), (some (6, false)), true, 0, 0, false⟩,
    ⟨(some 10), .lenL (.t 9), (some (6, false)), false, 0, 0, false⟩,
    ⟨(some 11), .bin .geq (.t 7) (.t 10), (some (6, false)), false, 0, 0, false⟩,
    ⟨(some 12), .pick (.t 6) (.c (.bool true)) (.t 11), none, false, 0, 0, false⟩,
    ⟨(some 3), .move (.t 12), none, false, 0, 0, false⟩])
  .ret)), [.t 3]⟩
theorem fn129 : fnOf 129 = some a129 := by kernel_rfl
-- 130 madrigal/sig.isTree
def a130 : AFunc := ⟨1, 12, (.seq (.reg [
    ⟨(some 1), .box 3 (.t 0), none, true, 0, 0, false⟩,
    ⟨(some 2), .move (.c (.bool false)), none, false, 0, 0, false⟩])
  (.seq (.reg [
    ⟨(some 3), .box 2 (.c (.agg [(.int .i64 0), (.int .i64 0)])), none, true, 0, 0, false⟩])
  (.seq (.reg [
    ⟨(some 4), .load true 3 (.t 1), none, true, 0, 0, false⟩,
    ⟨(some 5), .call (.f 133) [(.t 3), (.t 4), (.c (.int .i64 1))], none, true, 0, 0, false⟩])
  (.seq (.reg [
    ⟨(some 6), .call (.f 134) [(.t 3)], none, true, 0, 0, false⟩,
    ⟨(some 7), .un .not (.t 6), none, false, 0, 0, false⟩,
    ⟨(some 8), .move (.t 7), none, false, 0, 0, false⟩,
    ⟨(some 9), .load true 3 (.t 1), (some (8, true)), true, 0, 0, false⟩,
    ⟨(some 10), .call (.f 185) [(.t 9)], (some (8, true)), true, 0, 0, false⟩,
    ⟨(some 11), .pick (.t 8) (.t 10) (.c (.bool false)), none, false, 0, 0, false⟩,
    ⟨(some 2), .move (.t 11), none, false, 0, 0, false⟩])
  .ret)))), [.t 2]⟩
theorem fn130 : fnOf 130 = some a130 := by kernel_rfl
-- 131 madrigal/sig.typed
def a131b0 : ACode :=
  (.seq (.reg [
    ⟨(some 54), .bin .lss (.t 53) (.t 52), none, false, 0, 0, false⟩])
  (.seq (.cond (.t 54)
  .skip
  (.exit 0))
  (.seq (.block 1 (.seq (.reg [
    ⟨(some 55), .move (.t 53), none, false, 0, 0, false⟩,
    ⟨(some 56), .idxAddr 3 (.t 51) (.t 53), none, false, 0, 0, false⟩,
    ⟨(some 57), .load true 3 (.t 56), none, true, 0, 0, false⟩,
    ⟨(some 10), .box 3 (.c (.agg [(.int .i64 0), (.int .i64 0), (.slice 0 [] .nil)])), none, true, 0, 0, false⟩,
    ⟨(some 9), .move (.t 55), none, false, 0, 0, false⟩,
    ⟨none, .store 3 (.t 10) (.t 57), none, true, 0, 0, false⟩])
  (.seq (.regD [
    ⟨(some 58), .load true 2 (.t 4), none, true, 0, 0, false⟩,
    ⟨(some 59), .load true 3 (.t 10), none, true, 1, 0, false⟩,
    ⟨(some 60), .fieldAddr 1 (.t 4), none, false, 2, 0, false⟩,
    ⟨(some 61), .load false 1 (.t 60), none, true, 3, 4, false⟩,
    ⟨(some 62), .fieldAddr 1 (.t 5), none, false, 4, 0, false⟩,
    ⟨(some 63), .load false 1 (.t 62), none, true, 5, 16, false⟩,
    ⟨(some 64), .idxAddr 3 (.t 61) (.t 63), none, false, 6, 60, false⟩,
    ⟨(some 65), .fieldAddr 1 (.t 64), none, false, 7, 124, false⟩,
    ⟨(some 66), .load false 1 (.t 65), none, true, 8, 252, false⟩,
    ⟨(some 67), .move (.t 9), none, false, 9, 0, false⟩,
    ⟨(some 68), .idxAddr 1 (.t 66) (.t 67), none, false, 10, 1020, false⟩,
    ⟨(some 69), .load false 1 (.t 68), none, true, 11, 2044, false⟩,
    ⟨(some 70), .move (.t 3), none, false, 12, 0, true⟩,
    ⟨(some 71), .call (.f 131) [(.t 58), (.t 59), (.t 69), (.t 70)], none, true, 13, 8191, true⟩,
    ⟨(some 72), .un .not (.t 71), none, false, 14, 16383, true⟩])
  (.cond (.t 72)
  (.seq (.reg [
    ⟨(some 8), .move (.c (.bool false)), none, false, 0, 0, false⟩])
  .ret)
  .skip))))
  (.reg [
    ⟨(some 73), .bin .add (.t 53) (.c (.int .i64 1)), none, false, 0, 0, false⟩,
    ⟨(some 53), .move (.t 73), none, false, 0, 0, false⟩]))))
def a131 : AFunc := ⟨4, 74, (.seq (.reg [
    ⟨(some 4), .box 2 (.t 0), none, true, 0, 0, false⟩,
    ⟨(some 5), .box 3 (.t 1), none, true, 0, 0, false⟩,
    ⟨(some 8), .move (.c (.bool false)), none, false, 0, 0, false⟩])
  (.seq (.seq (.reg [
    ⟨(some 11), .fieldAddr 0 (.t 5), none, false, 0, 0, false⟩,
    ⟨(some 12), .load false 1 (.t 11), none, true, 0, 0, false⟩,
    ⟨(some 13), .bin .eql (.t 12) (.c (.int .i64 1)), none, false, 0, 0, false⟩])
  (.cond (.t 13)
  (.seq (.reg [
    ⟨(some 14), .move (.t 3), none, false, 0, 0, false⟩,
    ⟨(some 15), .fieldAddr 1 (.t 5), none, false, 0, 0, false⟩,
    ⟨(some 16), .load false 1 (.t 15), none, true, 0, 0, false⟩,
    ⟨(some 17), .move (.t 2), none, false, 0, 0, false⟩,
    ⟨(some 18), .call (.t 14) [(.t 16), (.t 17)], none, true, 0, 0, false⟩,
    ⟨(some 8), .move (.t 18), none, false, 0, 0, false⟩])
  .ret)
  .skip))
  (.seq (.seq (.regD [
    ⟨(some 19), .fieldAddr 1 (.t 5), none, false, 0, 0, false⟩,
    ⟨(some 20), .load false 1 (.t 19), none, true, 1, 1, false⟩,
    ⟨(some 21), .fieldAddr 1 (.t 4), none, false, 2, 0, true⟩,
    ⟨(some 22), .load false 1 (.t 21), none, true, 3, 4, true⟩,
    ⟨(some 23), .lenL (.t 22), none, false, 4, 12, true⟩,
    ⟨(some 24), .bin .geq (.t 20) (.t 23), none, false, 5, 31, true⟩,
    ⟨(some 25), .move (.t 24), none, false, 6, 63, true⟩,
    ⟨(some 26), .fieldAddr 1 (.t 4), (some (25, false)), false, 7, 127, false⟩,
    ⟨(some 27), .load false 1 (.t 26), (some (25, false)), true, 8, 255, false⟩,
    ⟨(some 28), .fieldAddr 1 (.t 5), (some (25, false)), false, 9, 127, false⟩,
    ⟨(some 29), .load false 1 (.t 28), (some (25, false)), true, 10, 639, false⟩,
    ⟨(some 30), .idxAddr 3 (.t 27) (.t 29), (some (25, false)), false, 11, 2047, false⟩,
    ⟨(some 31), .fieldAddr 2 (.t 30), (some (25, false)), false, 12, 4095, false⟩,
    ⟨(some 32), .load false 1 (.t 31), (some (25, false)), true, 13, 8191, false⟩,
    ⟨(some 33), .move (.t 2), (some (25, false)), false, 14, 127, true⟩,
    ⟨(some 34), .bin .neq (.t 32) (.t 33), (some (25, false)), false, 15, 32767, true⟩,
    ⟨(some 35), .pick (.t 25) (.c (.bool true)) (.t 34), none, false, 16, 65535, true⟩,
    ⟨(some 36), .move (.t 35), none, false, 17, 131071, true⟩,
    ⟨(some 37), .fieldAddr 1 (.t 4), (some (36, false)), false, 18, 262143, false⟩,
    ⟨(some 38), .load false 1 (.t 37), (some (36, false)), true, 19, 524287, false⟩,
    ⟨(some 39), .fieldAddr 1 (.t 5), (some (36, false)), false, 20, 262143, false⟩,
    ⟨(some 40), .load false 1 (.t 39), (some (36, false)), true, 21, 1310719, false⟩,
    ⟨(some 41), .idxAddr 3 (.t 38) (.t 40), (some (36, false)), false, 22, 4194303, false⟩,
    ⟨(some 42), .fieldAddr 1 (.t 41), (some (36, false)), false, 23, 8388607, false⟩,
    ⟨(some 43), .load false 1 (.t 42), (some (36, false)), true, 24, 16777215, false⟩,
    ⟨(some 44), .lenL (.t 43), (some (36, false)), false, 25, 33554431, false⟩,
    ⟨(some 45), .fieldAddr 2 (.t 5), (some (36, false)), false, 26, 262143, true⟩,
    ⟨(some 46), .load false 1 (.t 45), (some (36, false)), true, 27, 67371007, true⟩,
    ⟨(some 47), .lenL (.t 46), (some (36, false)), false, 28, 201588735, true⟩,
    ⟨(some 48), .bin .neq (.t 44) (.t 47), (some (36, false)), false, 29, 536870911, true⟩,
    ⟨(some 49), .pick (.t 36) (.c (.bool true)) (.t 48), none, false, 30, 1073741823, true⟩])
  (.cond (.t 49)
  (.seq (.reg [
    ⟨(some 8), .move (.c (.bool false)), none, false, 0, 0, false⟩])
  .ret)
  .skip))
  (.seq (.seq (.reg [
    ⟨(some 50), .fieldAddr 2 (.t 5), none, false, 0, 0, false⟩,
    ⟨(some 51), .load false 1 (.t 50), none, true, 0, 0, false⟩,
    ⟨(some 52), .lenL (.t 51), none, false, 0, 0, false⟩,
    ⟨(some 53), .move (.c (.int .i64 0)), none, false, 0, 0, false⟩])
  (.block 0 (.loop a131b0)))
  (.seq (.reg [
    ⟨(some 8), .move (.c (.bool true)), none, false, 0, 0, false⟩])
  .ret))))), [.t 8]⟩
theorem fn131 : fnOf 131 = some a131 := by kernel_rfl
-- 132 madrigal/sig.Sort$2
def a132 : AFunc := ⟨3, 18, (.seq (.reg [
    ⟨(some 5), .move (.c (.bool false)), none, false, 0, 0, false⟩])
  (.seq (.reg [
    ⟨(some 6), .move (.t 0), none, false, 0, 0, false⟩,
    ⟨(some 7), .load false 1 (.t 2), none, true, 0, 0, false⟩,
    ⟨(some 8), .lenL (.t 7), none, false, 0, 0, false⟩,
    ⟨(some 9), .bin .lss (.t 6) (.t 8), none, false, 0, 0, false⟩,
    ⟨(some 10), .move (.t 9), none, false, 0, 0, false⟩,
    ⟨(some 11), .load false 1 (.t 2), (some (10, true)), true, 0, 0, false⟩,
    ⟨(some 12), .move (.t 0), (some (10, true)), false, 0, 0, false⟩,
    ⟨(some 13), .idxAddr 1 (.t 11) (.t 12), (some (10, true)), false, 0, 0, false⟩,
    ⟨(some 14), .load false 1 (.t 13), (some (10, true)), true, 0, 0, false⟩,
    ⟨(some 15), .move (.t 1), (some (10, true)), false, 0, 0, false⟩,
    ⟨(some 16), .bin .eql (.t 14) (.t 15), (some (10, true)), false, 0, 0, false⟩,
    ⟨(some 17), .pick (.t 10) (.t 16) (.c (.bool false)), none, false, 0, 0, false⟩,
    ⟨(some 5), .move (.t 17), none, false, 0, 0, false⟩])
  .ret)), [.t 5]⟩
theorem fn132 : fnOf 132 = some a132 := by kernel_rfl
-- 133 (*madrigal/sig.measure).count
def a133b0 : ACode :=
  (.seq (.reg [
    ⟨(some 28), .bin .lss (.t 27) (.t 26), none, false, 0, 0, false⟩])
  (.seq (.cond (.t 28)
  .skip
  (.exit 0))
  (.seq (.block 1 (.seq (.reg [
    ⟨(some 29), .idxAddr 3 (.t 25) (.t 27), none, false, 0, 0, false⟩,
    ⟨(some 30), .load true 3 (.t 29), none, true, 0, 0, false⟩,
    ⟨(some 7), .box 3 (.c (.agg [(.int .i64 0), (.int .i64 0), (.slice 0 [] .nil)])), none, true, 0, 0, false⟩,
    ⟨none, .store 3 (.t 7) (.t 30), none, true, 0, 0, false⟩])
  (.seq (.seq (.reg [
    ⟨(some 31), .move (.t 0), none, false, 0, 0, false⟩,
    ⟨(some 32), .nilCheck (.t 31), none, false, 0, 0, false⟩,
    ⟨(some 33), .fieldAddr 0 (.t 32), none, false, 0, 0, false⟩,
    ⟨(some 34), .load false 1 (.t 33), none, true, 0, 0, false⟩,
    ⟨(some 35), .bin .gtr (.t 34) (.c (.int .i64 2000)), none, false, 0, 0, false⟩,
    ⟨(some 36), .move (.t 35), none, false, 0, 0, false⟩,
    ⟨(some 37), .move (.t 0), (some (36, false)), false, 0, 0, false⟩,
    ⟨(some 38), .nilCheck (.t 37), (some (36, false)), false, 0, 0, false⟩,
    ⟨(some 39), .fieldAddr 1 (.t 38), (some (36, false)), false, 0, 0, false⟩,
    ⟨(some 40), .load false 1 (.t 39), (some (36, false)), true, 0, 0, false⟩,
    ⟨(some 41), .bin .gtr (.t 40) (.c (.int .i64 200)), (some (36, false)), false, 0, 0, false⟩,
    ⟨(some 42), .pick (.t 36) (.c (.bool true)) (.t 41), none, false, 0, 0, false⟩])
  (.cond (.t 42)
  .ret
  .skip))
  (.reg [
    ⟨(some 43), .move (.t 0), none, false, 0, 0, false⟩,
    ⟨(some 44), .load true 3 (.t 7), none, true, 0, 0, false⟩,
    ⟨(some 45), .move (.t 2), none, false, 0, 0, false⟩,
    ⟨(some 46), .bin .add (.t 45) (.c (.int .i64 1)), none, false, 0, 0, false⟩,
    ⟨(some 47), .call (.f 133) [(.t 43), (.t 44), (.t 46)], none, true, 0, 0, false⟩]))))
  (.reg [
    ⟨(some 48), .bin .add (.t 27) (.c (.int .i64 1)), none, false, 0, 0, false⟩,
    ⟨(some 27), .move (.t 48), none, false, 0, 0, false⟩]))))
def a133 : AFunc := ⟨3, 49, (.seq (.reg [
    ⟨(some 4), .box 3 (.t 1), none, true, 0, 0, false⟩])
  (.seq (.reg [
    ⟨(some 8), .move (.t 0), none, false, 0, 0, false⟩,
    ⟨(some 9), .nilCheck (.t 8), none, false, 0, 0, false⟩,
    ⟨(some 10), .fieldAddr 0 (.t 9), none, false, 0, 0, false⟩,
    ⟨(some 11), .load false 1 (.t 10), none, true, 0, 0, false⟩,
    ⟨(some 12), .bin .add (.t 11) (.c (.int .i64 1)), none, false, 0, 0, false⟩,
    ⟨(some 13), .nilCheck (.t 8), none, false, 0, 0, false⟩,
    ⟨(some 14), .fieldAddr 0 (.t 13), none, false, 0, 0, false⟩,
    ⟨none, .store 1 (.t 14) (.t 12), none, true, 0, 0, false⟩])
  (.seq (.reg [
    ⟨(some 15), .move (.t 0), none, false, 0, 0, false⟩,
    ⟨(some 16), .move (.t 0), none, false, 0, 0, false⟩,
    ⟨(some 17), .nilCheck (.t 16), none, false, 0, 0, false⟩,
    ⟨(some 18), .fieldAddr 1 (.t 17), none, false, 0, 0, false⟩,
    ⟨(some 19), .load false 1 (.t 18), none, true, 0, 0, false⟩,
    ⟨(some 20), .move (.t 2), none, false, 0, 0, false⟩,
    ⟨(some 21), .min true [(.t 19), (.t 20)], none, false, 0, 0, false⟩,
    ⟨(some 22), .nilCheck (.t 15), none, false, 0, 0, false⟩,
    ⟨(some 23), .fieldAddr 1 (.t 22), none, false, 0, 0, false⟩,
    ⟨none, .store 1 (.t 23) (.t 21), none, true, 0, 0, false⟩])
  (.seq (.reg [
    ⟨(some 24), .fieldAddr 2 (.t 4), none, false, 0, 0, false⟩,
    ⟨(some 25), .load false 1 (.t 24), none, true, 0, 0, false⟩,
    ⟨(some 26), .lenL (.t 25), none, false, 0, 0, false⟩,
    ⟨(some 27), .move (.c (.int .i64 0)), none, false, 0, 0, false⟩])
  (.block 0 (.loop a133b0)))))), []⟩
theorem fn133 : fnOf 133 = some a133 := by kernel_rfl
-- 134 (*madrigal/sig.measure).over
def a134 : AFunc := ⟨1, 15, (.seq (.reg [
    ⟨(some 2), .move (.c (.bool false)), none, false, 0, 0, false⟩])
  (.seq (.reg [
    ⟨(some 3), .move (.t 0), none, false, 0, 0, false⟩,
    ⟨(some 4), .nilCheck (.t 3), none, false, 0, 0, false⟩,
    ⟨(some 5), .fieldAddr 0 (.t 4), none, false, 0, 0, false⟩,
    ⟨(some 6), .load false 1 (.t 5), none, true, 0, 0, false⟩,
    ⟨(some 7), .bin .gtr (.t 6) (.c (.int .i64 2000)), none, false, 0, 0, false⟩,
    ⟨(some 8), .move (.t 7), none, false, 0, 0, false⟩,
    ⟨(some 9), .move (.t 0), (some (8, false)), false, 0, 0, false⟩,
    ⟨(some 10), .nilCheck (.t 9), (some (8, false)), false, 0, 0, false⟩,
    ⟨(some 11), .fieldAddr 1 (.t 10), (some (8, false)), false, 0, 0, false⟩,
    ⟨(some 12), .load false 1 (.t 11), (some (8, false)), true, 0, 0, false⟩,
    ⟨(some 13), .bin .gtr (.t 12) (.c (.int .i64 200)), (some (8, false)), false, 0, 0, false⟩,
    ⟨(some 14), .pick (.t 8) (.c (.bool true)) (.t 13), none, false, 0, 0, false⟩,
    ⟨(some 2), .move (.t 14), none, false, 0, 0, false⟩])
  .ret)), [.t 2]⟩
theorem fn134 : fnOf 134 = some a134 := by kernel_rfl
-- 185 madrigal/sig.shaped
def a185 : AFunc := ⟨1, 32, (.seq (.reg [
    ⟨(some 1), .box 3 (.t 0), none, true, 0, 0, false⟩,
    ⟨(some 2), .move (.c (.bool false)), none, false, 0, 0, false⟩])
  (.seq (.block 0 (.seq (.seq (.reg [
    ⟨(some 4), .fieldAddr 1 (.t 1), none, false, 0, 0, false⟩,
    ⟨(some 5), .load false 1 (.t 4), none, true, 0, 0, false⟩,
    ⟨(some 6), .bin .lss (.t 5) (.c (.int .i64 0)), none, false, 0, 0, false⟩,
    ⟨(some 3), .move (.t 6), none, false, 0, 0, false⟩])
  (.cond (.t 3)
  .skip
  (.seq (.reg [
    ⟨(some 7), .fieldAddr 0 (.t 1), none, false, 0, 0, false⟩,
    ⟨(some 8), .load false 1 (.t 7), none, true, 0, 0, false⟩,
    ⟨(some 9), .bin .eql (.t 8) (.c (.int .i64 1)), none, false, 0, 0, false⟩,
    ⟨(some 10), .move (.t 9), none, false, 0, 0, false⟩,
    ⟨(some 11), .fieldAddr 2 (.t 1), (some (10, true)), false, 0, 0, false⟩,
    ⟨(some 12), .load false 1 (.t 11), (some (10, true)), true, 0, 0, false⟩,
    ⟨(some 13), .lenL (.t 12), (some (10, true)), false, 0, 0, false⟩,
    ⟨(some 14), .bin .gtr (.t 13) (.c (.int .i64 0)), (some (10, true)), false, 0, 0, false⟩,
    ⟨(some 15), .pick (.t 10) (.t 14) (.c (.bool false)), none, false, 0, 0, false⟩,
    ⟨(some 3), .move (.t 15), none, false, 0, 0, false⟩])
  (.cond (.t 3)
  .skip
  (.seq (.reg [
    ⟨(some 16), .fieldAddr 0 (.t 1), none, false, 0, 0, false⟩,
    ⟨(some 17), .load false 1 (.t 16), none, true, 0, 0, false⟩,
    ⟨(some 18), .bin .neq (.t 17) (.c (.int .i64 1)), none, false, 0, 0, false⟩,
    ⟨(some 19), .move (.t 18), none, false, 0, 0, false⟩,
    ⟨(some 20), .fieldAddr 0 (.t 1), (some (19, true)), false, 0, 0, false⟩,
    ⟨(some 21), .load false 1 (.t 20), (some (19, true)), true, 0, 0, false⟩,
    ⟨(some 22), .bin .neq (.t 21) (.c (.int .i64 2)), (some (19, true)), false, 0, 0, false⟩,
    ⟨(some 23), .pick (.t 19) (.t 22) (.c (.bool false)), none, false, 0, 0, false⟩,
    ⟨(some 3), .move (.t 23), none, false, 0, 0, false⟩])
  (.cond (.t 3)
  .skip
  (.reg [
    ⟨(some 24), .fieldAddr 2 (.t 1), none, false, 0, 0, false⟩,
    ⟨(some 25), .load false 1 (.t 24), none, true, 0, 0, false⟩,
    ⟨(some 26), .lenL (.t 25), none, false, 0, 0, false⟩,
    ⟨(some 27), .bin .gtr (.t 26) (.c (.int .i64 8)), none, false, 0, 0, false⟩,
    ⟨(some 3), .move (.t 27), none, false, 0, 0, false⟩])))))))
  (.cond (.t 3)
  (.seq (.reg [
    ⟨(some 2), .move (.c (.bool false)), none, false, 0, 0, false⟩])
  .ret)
  .skip)))
  (.seq (.reg [
    ⟨(some 28), .fieldAddr 2 (.t 1), none, false, 0, 0, false⟩,
    ⟨(some 29), .load false 1 (.t 28), none, true, 0, 0, false⟩,
    ⟨(some 30), .call (.f 48) [(.t 29), (.f 232)], none, true, 0, 0, false⟩,
    ⟨(some 31), .un .not (.t 30), none, false, 0, 0, false⟩,
    ⟨(some 2), .move (.t 31), none, false, 0, 0, false⟩])
  .ret))), [.t 2]⟩
theorem fn185 : fnOf 185 = some a185 := by kernel_rfl
-- 46 madrigal/sig.Size
def a46 : AFunc := ⟨1, 12, (.seq (.reg [
    ⟨(some 1), .box 3 (.t 0), none, true, 0, 0, false⟩,
    ⟨(some 2), .move (.c (.int .i64 0)), none, false, 0, 0, false⟩,
    ⟨(some 3), .move (.c (.int .i64 0)), none, false, 0, 0, false⟩])
  (.seq (.reg [
    ⟨(some 4), .box 2 (.c (.agg [(.int .i64 0), (.int .i64 0)])), none, true, 0, 0, false⟩])
  (.seq (.seq (.reg [
    ⟨(some 5), .load true 3 (.t 1), none, true, 0, 0, false⟩,
    ⟨(some 6), .call (.f 133) [(.t 4), (.t 5), (.c (.int .i64 1))], none, true, 0, 0, false⟩])
  (.seq (.reg [
    ⟨(some 7), .call (.f 134) [(.t 4)], none, true, 0, 0, false⟩])
  (.cond (.t 7)
  (.seq (.reg [
    ⟨(some 2), .move (.c (.int .i64 2001)), none, false, 0, 0, false⟩,
    ⟨(some 3), .move (.c (.int .i64 201)), none, false, 0, 0, false⟩])
  .ret)
  .skip)))
  (.seq (.regD [
    ⟨(some 8), .fieldAddr 0 (.t 4), none, false, 0, 0, false⟩,
    ⟨(some 9), .load false 1 (.t 8), none, true, 1, 1, false⟩,
    ⟨(some 10), .fieldAddr 1 (.t 4), none, false, 2, 0, false⟩,
    ⟨(some 11), .load false 1 (.t 10), none, true, 3, 4, false⟩,
    ⟨(some 2), .move (.t 9), none, false, 4, 3, true⟩,
    ⟨(some 3), .move (.t 11), none, false, 5, 31, true⟩])
  .ret)))), [.t 2, .t 3]⟩
theorem fn46 : fnOf 46 = some a46 := by kernel_rfl
-- 96 (*madrigal/vals.table).number
def a96b0 : ACode :=
  (.seq (.reg [
    ⟨(some 36), .bin .lss (.t 35) (.t 34), none, false, 0, 0, false⟩])
  (.seq (.cond (.t 36)
  .skip
  (.exit 0))
  (.seq (.block 1 (.seq (.reg [
    ⟨(some 37), .idxAddr 3 (.t 33) (.t 35), none, false, 0, 0, false⟩,
    ⟨(some 38), .load true 3 (.t 37), none, true, 0, 0, false⟩,
    ⟨(some 11), .box 3 (.c (.agg [(.int .i64 0), (.int .i64 0), (.slice 0 [] .nil)])), none, true, 0, 0, false⟩,
    ⟨none, .store 3 (.t 11) (.t 38), none, true, 0, 0, false⟩])
  (.seq (.reg [
    ⟨(some 40), .move (.t 0), none, false, 0, 0, false⟩,
    ⟨(some 41), .load true 3 (.t 11), none, true, 0, 0, false⟩,
    ⟨(some 42), .call (.f 96) [(.t 40), (.t 41)], none, true, 0, 0, false⟩,
    ⟨(some 39), .move (.t 42), none, false, 0, 0, false⟩,
    ⟨(some 43), .extract (.t 39) 0, none, false, 0, 0, false⟩,
    ⟨(some 44), .extract (.t 39) 1, none, false, 0, 0, false⟩,
    ⟨(some 12), .move (.t 43), none, false, 0, 0, false⟩,
    ⟨(some 13), .move (.t 44), none, false, 0, 0, false⟩])
  (.seq (.reg [
    ⟨(some 45), .move (.t 7), none, false, 0, 0, false⟩,
    ⟨(some 46), .move (.t 13), none, false, 0, 0, false⟩,
    ⟨(some 47), .buildSlice 1 (.int .i64 0) 1 [(0, (.t 46))], none, false, 0, 0, false⟩,
    ⟨(some 48), .append 1 8 (.t 45) (.t 47), none, true, 0, 0, false⟩,
    ⟨(some 49), .move (.t 8), none, false, 0, 0, false⟩,
    ⟨(some 50), .move (.t 12), none, false, 0, 0, false⟩,
    ⟨(some 51), .buildSlice 1 (.int .i64 0) 1 [(0, (.t 50))], none, false, 0, 0, false⟩,
    ⟨(some 52), .append 1 8 (.t 49) (.t 51), none, true, 0, 0, false⟩,
    ⟨(some 7), .move (.t 48), none, false, 0, 0, false⟩,
    ⟨(some 8), .move (.t 52), none, false, 0, 0, false⟩])
  (.reg [
    ⟨(some 53), .move (.t 9), none, false, 0, 0, false⟩,
    ⟨(some 54), .move (.t 13), none, false, 0, 0, false⟩,
    ⟨(some 55), .bin .add (.t 53) (.t 54), none, false, 0, 0, false⟩,
    ⟨(some 9), .move (.t 55), none, false, 0, 0, false⟩])))))
  (.reg [
    ⟨(some 56), .bin .add (.t 35) (.c (.int .i64 1)), none, false, 0, 0, false⟩,
    ⟨(some 35), .move (.t 56), none, false, 0, 0, false⟩]))))
def a96b1 : ACode :=
  (.seq (.reg [
    ⟨(some 60), .bin .lss (.t 59) (.t 58), none, false, 0, 0, false⟩])
  (.seq (.cond (.t 60)
  .skip
  (.exit 2))
  (.seq (.block 3 (.seq (.reg [
    ⟨(some 61), .move (.t 59), none, false, 0, 0, false⟩,
    ⟨(some 15), .move (.t 61), none, false, 0, 0, false⟩])
  (.seq (.regD [
    ⟨(some 62), .move (.t 0), none, false, 0, 0, false⟩,
    ⟨(some 63), .nilCheck (.t 62), none, false, 1, 1, false⟩,
    ⟨(some 64), .fieldAddr 0 (.t 63), none, false, 2, 3, false⟩,
    ⟨(some 65), .fieldAddr 1 (.t 64), none, false, 3, 7, false⟩,
    ⟨(some 66), .load false 1 (.t 65), none, true, 4, 15, false⟩,
    ⟨(some 67), .move (.t 15), none, false, 5, 0, false⟩,
    ⟨(some 68), .idxAddr 3 (.t 66) (.t 67), none, false, 6, 63, false⟩,
    ⟨(some 69), .fieldAddr 2 (.t 68), none, false, 7, 127, false⟩,
    ⟨(some 70), .load false 1 (.t 69), none, true, 8, 255, false⟩,
    ⟨(some 71), .fieldAddr 2 (.t 6), none, false, 9, 0, true⟩,
    ⟨(some 72), .load false 1 (.t 71), none, true, 10, 512, true⟩,
    ⟨(some 73), .bin .eql (.t 70) (.t 72), none, false, 11, 2047, true⟩])
  (.cond (.t 73)
  (.reg [
    ⟨(some 74), .move (.t 14), none, false, 0, 0, false⟩,
    ⟨(some 75), .move (.t 0), none, false, 0, 0, false⟩,
    ⟨(some 76), .nilCheck (.t 75), none, false, 0, 0, false⟩,
    ⟨(some 77), .fieldAddr 3 (.t 76), none, false, 0, 0, false⟩,
    ⟨(some 78), .load false 1 (.t 77), none, true, 0, 0, false⟩,
    ⟨(some 79), .move (.t 15), none, false, 0, 0, false⟩,
    ⟨(some 80), .idxAddr 1 (.t 78) (.t 79), none, false, 0, 0, false⟩,
    ⟨(some 81), .load false 1 (.t 80), none, true, 0, 0, false⟩,
    ⟨(some 82), .move (.t 9), none, false, 0, 0, false⟩,
    ⟨(some 83), .bin .sub (.t 82) (.c (.int .i64 1)), none, false, 0, 0, false⟩,
    ⟨(some 84), .idxAddr 61 (.t 81) (.c (.int .i64 0)), none, false, 0, 0, false⟩,
    ⟨(some 85), .idxArr 61 1 (.t 84) (.t 83), none, false, 0, 0, false⟩,
    ⟨(some 86), .load false 1 (.t 85), none, true, 0, 0, false⟩,
    ⟨(some 87), .call (.f 124) [(.t 74), (.t 86)], none, true, 0, 0, false⟩,
    ⟨(some 14), .move (.t 87), none, false, 0, 0, false⟩])
  .skip))))
  (.reg [
    ⟨(some 88), .bin .add (.t 59) (.c (.int .i64 1)), none, false, 0, 0, false⟩,
    ⟨(some 59), .move (.t 88), none, false, 0, 0, false⟩]))))
def a96b2 : ACode :=
  (.seq (.seq (.reg [
    ⟨(some 99), .move (.t 20), none, false, 0, 0, false⟩,
    ⟨(some 100), .move (.t 7), none, false, 0, 0, false⟩,
    ⟨(some 101), .move (.t 18), none, false, 0, 0, false⟩,
    ⟨(some 102), .idxAddr 1 (.t 100) (.t 101), none, false, 0, 0, false⟩,
    ⟨(some 103), .load false 1 (.t 102), none, true, 0, 0, false⟩,
    ⟨(some 104), .bin .lss (.t 99) (.t 103), none, false, 0, 0, false⟩])
  (.cond (.t 104)
  .skip
  (.exit 6)))
  (.seq (.block 7 (.regD [
    ⟨(some 107), .move (.t 14), none, false, 0, 0, false⟩,
    ⟨(some 108), .move (.t 17), none, false, 1, 0, false⟩,
    ⟨(some 109), .move (.t 0), none, false, 2, 0, false⟩,
    ⟨(some 110), .nilCheck (.t 109), none, false, 3, 4, false⟩,
    ⟨(some 111), .fieldAddr 2 (.t 110), none, false, 4, 12, false⟩,
    ⟨(some 112), .load false 1 (.t 111), none, true, 5, 28, false⟩,
    ⟨(some 113), .move (.t 19), none, false, 6, 0, false⟩,
    ⟨(some 114), .move (.t 20), none, false, 7, 0, false⟩,
    ⟨(some 115), .idxAddr 61 (.t 112) (.t 113), none, false, 8, 124, false⟩,
    ⟨(some 116), .idxArr 61 1 (.t 115) (.t 114), none, false, 9, 508, false⟩,
    ⟨(some 117), .load false 1 (.t 116), none, true, 10, 1020, false⟩,
    ⟨(some 118), .call (.f 165) [(.t 108), (.t 117)], none, true, 11, 2046, false⟩,
    ⟨(some 119), .move (.t 0), none, false, 12, 0, false⟩,
    ⟨(some 120), .nilCheck (.t 119), none, false, 13, 4096, false⟩,
    ⟨(some 121), .fieldAddr 3 (.t 120), none, false, 14, 12288, false⟩,
    ⟨(some 122), .load false 1 (.t 121), none, true, 15, 28672, false⟩,
    ⟨(some 123), .fieldAddr 1 (.t 3), none, false, 16, 0, false⟩,
    ⟨(some 124), .load false 1 (.t 123), none, true, 17, 65536, false⟩,
    ⟨(some 125), .idxAddr 1 (.t 122) (.t 124), none, false, 18, 258048, false⟩,
    ⟨(some 126), .load false 1 (.t 125), none, true, 19, 520192, false⟩,
    ⟨(some 127), .move (.t 18), none, false, 20, 0, false⟩,
    ⟨(some 128), .bin .add (.t 127) (.c (.int .i64 1)), none, false, 21, 1048576, false⟩,
    ⟨(some 129), .move (.t 16), none, false, 22, 0, false⟩,
    ⟨(some 130), .move (.t 20), none, false, 23, 0, false⟩,
    ⟨(some 131), .bin .sub (.t 129) (.t 130), none, false, 24, 12582912, false⟩,
    ⟨(some 132), .idxAddr 61 (.t 126) (.t 128), none, false, 25, 4190208, true⟩,
    ⟨(some 133), .idxArr 61 1 (.t 132) (.t 131), none, false, 26, 67104768, true⟩,
    ⟨(some 134), .load false 1 (.t 133), none, true, 27, 134213632, true⟩,
    ⟨(some 135), .call (.f 165) [(.t 118), (.t 134)], none, true, 28, 268435454, true⟩,
    ⟨(some 136), .call (.f 124) [(.t 107), (.t 135)], none, true, 29, 536870911, true⟩,
    ⟨(some 14), .move (.t 136), none, false, 30, 1073741823, true⟩]))
  (.reg [
    ⟨(some 105), .move (.t 20), none, false, 0, 0, false⟩,
    ⟨(some 106), .bin .add (.t 105) (.c (.int .i64 1)), none, false, 0, 0, false⟩,
    ⟨(some 20), .move (.t 106), none, false, 0, 0, false⟩])))
def a96b3 : ACode :=
  (.seq (.reg [
    ⟨(some 95), .bin .lss (.t 94) (.t 93), none, false, 0, 0, false⟩])
  (.seq (.cond (.t 95)
  .skip
  (.exit 4))
  (.seq (.block 5 (.seq (.reg [
    ⟨(some 96), .move (.t 94), none, false, 0, 0, false⟩,
    ⟨(some 97), .idxAddr 1 (.t 92) (.t 94), none, false, 0, 0, false⟩,
    ⟨(some 98), .load false 1 (.t 97), none, true, 0, 0, false⟩,
    ⟨(some 18), .move (.t 96), none, false, 0, 0, false⟩,
    ⟨(some 19), .move (.t 98), none, false, 0, 0, false⟩])
  (.seq (.seq (.reg [
    ⟨(some 20), .move (.c (.int .i64 1)), none, false, 0, 0, false⟩])
  (.block 6 (.loop a96b2)))
  (.seq (.regD [
    ⟨(some 137), .move (.t 17), none, false, 0, 0, false⟩,
    ⟨(some 138), .move (.t 0), none, false, 1, 0, false⟩,
    ⟨(some 139), .nilCheck (.t 138), none, false, 2, 2, false⟩,
    ⟨(some 140), .fieldAddr 2 (.t 139), none, false, 3, 6, false⟩,
    ⟨(some 141), .load false 1 (.t 140), none, true, 4, 14, false⟩,
    ⟨(some 142), .move (.t 19), none, false, 5, 0, false⟩,
    ⟨(some 143), .move (.t 7), none, false, 6, 0, false⟩,
    ⟨(some 144), .move (.t 18), none, false, 7, 0, false⟩,
    ⟨(some 145), .idxAddr 1 (.t 143) (.t 144), none, false, 8, 192, false⟩,
    ⟨(some 146), .load false 1 (.t 145), none, true, 9, 448, false⟩,
    ⟨(some 147), .idxAddr 61 (.t 141) (.t 142), none, false, 10, 62, true⟩,
    ⟨(some 148), .idxArr 61 1 (.t 147) (.t 146), none, false, 11, 2046, true⟩,
    ⟨(some 149), .load false 1 (.t 148), none, true, 12, 4094, true⟩,
    ⟨(some 150), .call (.f 165) [(.t 137), (.t 149)], none, true, 13, 8191, true⟩,
    ⟨(some 17), .move (.t 150), none, false, 14, 16383, true⟩])
  (.reg [
    ⟨(some 151), .move (.t 16), none, false, 0, 0, false⟩,
    ⟨(some 152), .move (.t 7), none, false, 0, 0, false⟩,
    ⟨(some 153), .move (.t 18), none, false, 0, 0, false⟩,
    ⟨(some 154), .idxAddr 1 (.t 152) (.t 153), none, false, 0, 0, false⟩,
    ⟨(some 155), .load false 1 (.t 154), none, true, 0, 0, false⟩,
    ⟨(some 156), .bin .sub (.t 151) (.t 155), none, false, 0, 0, false⟩,
    ⟨(some 16), .move (.t 156), none, false, 0, 0, false⟩])))))
  (.reg [
    ⟨(some 157), .bin .add (.t 94) (.c (.int .i64 1)), none, false, 0, 0, false⟩,
    ⟨(some 94), .move (.t 157), none, false, 0, 0, false⟩]))))
def a96b4 : ACode :=
  (.seq (.seq (.reg [
    ⟨(some 162), .move (.t 22), none, false, 0, 0, false⟩,
    ⟨(some 163), .bin .geq (.t 162) (.c (.int .i64 0)), none, false, 0, 0, false⟩])
  (.cond (.t 163)
  .skip
  (.exit 8)))
  (.seq (.block 9 (.seq (.reg [
    ⟨(some 166), .move (.t 14), none, false, 0, 0, false⟩,
    ⟨(some 167), .move (.t 8), none, false, 0, 0, false⟩,
    ⟨(some 168), .move (.t 22), none, false, 0, 0, false⟩,
    ⟨(some 169), .idxAddr 1 (.t 167) (.t 168), none, false, 0, 0, false⟩,
    ⟨(some 170), .load false 1 (.t 169), none, true, 0, 0, false⟩,
    ⟨(some 171), .move (.t 21), none, false, 0, 0, false⟩,
    ⟨(some 172), .call (.f 165) [(.t 170), (.t 171)], none, true, 0, 0, false⟩,
    ⟨(some 173), .call (.f 124) [(.t 166), (.t 172)], none, true, 0, 0, false⟩,
    ⟨(some 14), .move (.t 173), none, false, 0, 0, false⟩])
  (.regD [
    ⟨(some 174), .move (.t 21), none, false, 0, 0, false⟩,
    ⟨(some 175), .move (.t 0), none, false, 1, 0, false⟩,
    ⟨(some 176), .nilCheck (.t 175), none, false, 2, 2, false⟩,
    ⟨(some 177), .fieldAddr 2 (.t 176), none, false, 3, 6, false⟩,
    ⟨(some 178), .load false 1 (.t 177), none, true, 4, 14, false⟩,
    ⟨(some 179), .fieldAddr 1 (.t 6), none, false, 5, 0, false⟩,
    ⟨(some 180), .load false 1 (.t 179), none, true, 6, 32, false⟩,
    ⟨(some 181), .move (.t 22), none, false, 7, 0, false⟩,
    ⟨(some 182), .idxAddr 1 (.t 180) (.t 181), none, false, 8, 224, false⟩,
    ⟨(some 183), .load false 1 (.t 182), none, true, 9, 480, false⟩,
    ⟨(some 184), .move (.t 7), none, false, 10, 0, false⟩,
    ⟨(some 185), .move (.t 22), none, false, 11, 0, false⟩,
    ⟨(some 186), .idxAddr 1 (.t 184) (.t 185), none, false, 12, 3072, false⟩,
    ⟨(some 187), .load false 1 (.t 186), none, true, 13, 7168, false⟩,
    ⟨(some 188), .idxAddr 61 (.t 178) (.t 183), none, false, 14, 1022, true⟩,
    ⟨(some 189), .idxArr 61 1 (.t 188) (.t 187), none, false, 15, 32766, true⟩,
    ⟨(some 190), .load false 1 (.t 189), none, true, 16, 65534, true⟩,
    ⟨(some 191), .call (.f 165) [(.t 174), (.t 190)], none, true, 17, 131071, true⟩,
    ⟨(some 21), .move (.t 191), none, false, 18, 262143, true⟩])))
  (.reg [
    ⟨(some 164), .move (.t 22), none, false, 0, 0, false⟩,
    ⟨(some 165), .bin .sub (.t 164) (.c (.int .i64 1)), none, false, 0, 0, false⟩,
    ⟨(some 22), .move (.t 165), none, false, 0, 0, false⟩])))
def a96 : AFunc := ⟨2, 194, (.seq (.reg [
    ⟨(some 3), .box 3 (.t 1), none, true, 0, 0, false⟩,
    ⟨(some 4), .move (.c (.int .i64 0)), none, false, 0, 0, false⟩,
    ⟨(some 5), .move (.c (.int .i64 0)), none, false, 0, 0, false⟩])
  (.seq (.regD [
    ⟨(some 6), .box 3 (.c (.agg [(.str ⟨#[]⟩), (.slice 0 [] .nil), (.int .i64 0)])), none, true, 9, 0, false⟩,
    ⟨(some 23), .move (.t 0), none, false, 0, 0, false⟩,
    ⟨(some 24), .nilCheck (.t 23), none, false, 1, 1, false⟩,
    ⟨(some 25), .fieldAddr 0 (.t 24), none, false, 2, 3, false⟩,
    ⟨(some 26), .fieldAddr 1 (.t 25), none, false, 3, 7, false⟩,
    ⟨(some 27), .load false 1 (.t 26), none, true, 4, 15, false⟩,
    ⟨(some 28), .fieldAddr 1 (.t 3), none, false, 5, 0, true⟩,
    ⟨(some 29), .load false 1 (.t 28), none, true, 6, 32, true⟩,
    ⟨(some 30), .idxAddr 3 (.t 27) (.t 29), none, false, 7, 127, true⟩,
    ⟨(some 31), .load true 3 (.t 30), none, true, 8, 255, true⟩,
    ⟨none, .store 3 (.t 6) (.t 31), none, true, 10, 1023, true⟩])
  (.seq (.reg [
    ⟨(some 7), .move (.c (.slice 0 [] .nil)), none, false, 0, 0, false⟩])
  (.seq (.reg [
    ⟨(some 8), .move (.c (.slice 0 [] .nil)), none, false, 0, 0, false⟩])
  (.seq (.reg [
    ⟨(some 9), .move (.c (.int .i64 1)), none, false, 0, 0, false⟩])
  (.seq (.seq (.reg [
    ⟨(some 32), .fieldAddr 2 (.t 3), none, false, 0, 0, false⟩,
    ⟨(some 33), .load false 1 (.t 32), none, true, 0, 0, false⟩,
    ⟨(some 34), .lenL (.t 33), none, false, 0, 0, false⟩,
    ⟨(some 35), .move (.c (.int .i64 0)), none, false, 0, 0, false⟩])
  (.block 0 (.loop a96b0)))
  (.seq (.reg [
    ⟨(some 14), .move (.c (.int .i64 0)), none, false, 0, 0, false⟩])
  (.seq (.seq (.reg [
    ⟨(some 57), .fieldAddr 1 (.t 3), none, false, 0, 0, false⟩,
    ⟨(some 58), .load false 1 (.t 57), none, true, 0, 0, false⟩,
    ⟨(some 59), .move (.c (.int .i64 0)), none, false, 0, 0, false⟩])
  (.block 2 (.loop a96b1)))
  (.seq (.reg [
    ⟨(some 89), .move (.t 9), none, false, 0, 0, false⟩,
    ⟨(some 90), .bin .sub (.t 89) (.c (.int .i64 1)), none, false, 0, 0, false⟩,
    ⟨(some 16), .move (.t 90), none, false, 0, 0, false⟩,
    ⟨(some 17), .move (.c (.int .i64 1)), none, false, 0, 0, false⟩])
  (.seq (.seq (.reg [
    ⟨(some 91), .fieldAddr 1 (.t 6), none, false, 0, 0, false⟩,
    ⟨(some 92), .load false 1 (.t 91), none, true, 0, 0, false⟩,
    ⟨(some 93), .lenL (.t 92), none, false, 0, 0, false⟩,
    ⟨(some 94), .move (.c (.int .i64 0)), none, false, 0, 0, false⟩])
  (.block 4 (.loop a96b3)))
  (.seq (.reg [
    ⟨(some 21), .move (.c (.int .i64 1)), none, false, 0, 0, false⟩])
  (.seq (.seq (.reg [
    ⟨(some 158), .fieldAddr 1 (.t 6), none, false, 0, 0, false⟩,
    ⟨(some 159), .load false 1 (.t 158), none, true, 0, 0, false⟩,
    ⟨(some 160), .lenL (.t 159), none, false, 0, 0, false⟩,
    ⟨(some 161), .bin .sub (.t 160) (.c (.int .i64 1)), none, false, 0, 0, false⟩,
    ⟨(some 22), .move (.t 161), none, false, 0, 0, false⟩])
  (.block 8 (.loop a96b4)))
  (.seq (.reg [
    ⟨(some 192), .move (.t 14), none, false, 0, 0, false⟩,
    ⟨(some 193), .move (.t 9), none, false, 0, 0, false⟩,
    ⟨(some 4), .move (.t 192), none, false, 0, 0, false⟩,
    ⟨(some 5), .move (.t 193), none, false, 0, 0, false⟩])
  .ret))))))))))))), [.t 4, .t 5]⟩
theorem fn96 : fnOf 96 = some a96 := by kernel_rfl
-- 232 madrigal/sig.shaped$1
def a232 : AFunc := ⟨1, 6, (.seq (.reg [
    ⟨(some 1), .box 3 (.t 0), none, true, 0, 0, false⟩,
    ⟨(some 2), .move (.c (.bool false)), none, false, 0, 0, false⟩])
  (.seq (.reg [
    ⟨(some 3), .load true 3 (.t 1), none, true, 0, 0, false⟩,
    ⟨(some 4), .call (.f 185) [(.t 3)], none, true, 0, 0, false⟩,
    ⟨(some 5), .un .not (.t 4), none, false, 0, 0, false⟩,
    ⟨(some 2), .move (.t 5), none, false, 0, 0, false⟩])
  .ret)), [.t 2]⟩
theorem fn232 : fnOf 232 = some a232 := by kernel_rfl

end Go.Proofs.Tryz
/- Terms as values; a part of the heap that is written; count, over, Size. -/
namespace Go.Proofs.Tryz
open Go Go.AE
variable {T : Tbl} (hT : Std T)

theorem Enc.list {l : List Tm} {es : List PV} (hl : es.length = l.length) (he : ∀ (i : Nat) (x : Tm) (p : PV), l[i]? = some x → es[i]? = some p → Enc x p) {P : PV → Prop} (hP : ∀ x p, Enc x p → P p) : ∀ p ∈ es, P p := fun p hp => by
  obtain ⟨i, hi, rfl⟩ := List.getElem_of_mem hp
  exact hP l[i] _ (he i _ _ (List.getElem?_eq_getElem (by omega)) (List.getElem?_eq_getElem hi))
theorem Enc.facts {t : Tm} {p : PV} (h : Enc t p) : p.top = none ∧ (p.pure = true ∧ p.weak = p) := by
  induction h with
  | mk k n l sz es hs hl he ih =>
    have hall : ∀ p ∈ es, p.top = none ∧ (p.pure = true ∧ p.weak = p) := fun p hp => by
      obtain ⟨i, hi, rfl⟩ := List.getElem_of_mem hp
      exact ih i l[i] _ (List.getElem?_eq_getElem (by omega)) (List.getElem?_eq_getElem hi)
    have h1 : ∀ l : List PV, (∀ x ∈ l, x.top = none ∧ (x.pure = true ∧ x.weak = x)) → tops l = none ∧ pures l = true ∧ weaks l = l := fun l => by
      induction l with
      | nil => intro _; exact ⟨rfl, rfl, rfl⟩
      | cons x l ihl =>
        intro hx
        obtain ⟨a, b, c⟩ := ihl fun y hy => hx y (by simp [hy])
        obtain ⟨d, e, f⟩ := hx x (by simp)
        simp [tops, omax, pures, weaks, a, b, c, d, e, f]
    obtain ⟨a, b, c⟩ := h1 es hall
    simp [PV.top, tops, omax, PV.pure, pures, PV.weak, weaks, a, b, c]
theorem Enc.cells {t : Tm} {p : PV} (h : Enc t p) : p.cells.length = 3 ∧ p.cells.all PV.isCell = true ∧ p.isDef = true ∧ ∃ cs, p = .agg cs := by
  cases h
  exact ⟨rfl, rfl, rfl, _, rfl⟩
theorem Enc.sub {t : Tm} {p : PV} (h : Enc t p) : sub true 3 p 0 = some p := by
  cases h
  rfl
theorem nodesL_get {l : List Tm} {i : Nat} {t : Tm} (h : l[i]? = some t) : nodesL (l.take i) + t.nodes + nodesL (l.drop (i + 1)) = nodesL l := by
  induction l generalizing i with
  | nil => simp at h
  | cons x l ih =>
    cases i with
    | zero =>
      simp only [List.getElem?_cons_zero, Option.some.injEq] at h
      subst h
      simp [nodesL]
    | succ i =>
      have := ih (by simpa using h)
      simp only [List.take_succ_cons, List.drop_succ_cons, nodesL]
      omega
/-! ### One object of the old heap is written -/
structure Mod (h H : List AE.Obj) (km : Nat) (o : AE.Obj) : Prop where
  take : H.take h.length = h.set km o
  len : h.length ≤ H.length
  lt : km < h.length
theorem Mod.refl {h : List AE.Obj} {km : Nat} {o : AE.Obj} (hk : h[km]? = some o) : Mod h h km o := ⟨by rw [List.take_length, set_self hk], Nat.le_refl _, (List.getElem?_eq_some_iff.1 hk).1⟩
theorem Mod.get {h H : List AE.Obj} {km : Nat} {o : AE.Obj} (M : Mod h H km o) : H[km]? = some o := by
  have h1 : (H.take h.length)[km]? = some o := by rw [M.take, List.getElem?_set_self M.lt]
  rwa [List.getElem?_take_of_lt M.lt] at h1
theorem Mod.old {h H : List AE.Obj} {km k : Nat} {o x : AE.Obj} (M : Mod h H km o) (hk : h[k]? = some x) (hne : km ≠ k) : H[k]? = some x := by
  have hl := (List.getElem?_eq_some_iff.1 hk).1
  have h1 : (H.take h.length)[k]? = some x := by rw [M.take, List.getElem?_set_ne hne]; exact hk
  rwa [List.getElem?_take_of_lt hl] at h1
theorem Mod.push {h H : List AE.Obj} {km : Nat} {o o' : AE.Obj} (M : Mod h H km o) : Mod h (H ++ [o']) km o := ⟨by rw [List.take_append_of_le_length M.len]; exact M.take, by have := M.len; simp; omega, M.lt⟩
theorem Mod.put {h H : List AE.Obj} {km : Nat} {o o' : AE.Obj} (M : Mod h H km o) : Mod h (H.set km o') km o' := by
  refine ⟨?_, by simpa using M.len, M.lt⟩
  rw [List.take_set, M.take, List.set_set]
theorem Mod.putNew {h H : List AE.Obj} {km k : Nat} {o o' : AE.Obj} (M : Mod h H km o) (hk : h.length ≤ k) : Mod h (H.set k o') km o := ⟨by rw [List.take_set_of_le hk]; exact M.take, by simpa using M.len, M.lt⟩
def okWs (h : List AE.Obj) (km : Nat) (ws : List Nat) : Prop := ∀ x ∈ ws, x = km ∨ h.length ≤ x
theorem okWs.add {h : List AE.Obj} {km k : Nat} {ws : List Nat} (W : okWs h km ws) (hk : k = km ∨ h.length ≤ k) : okWs h km (wadd k ws) := fun x hx => by
  rcases mem_wadd hx with rfl | hx
  · exact hk
  · exact W x hx
theorem okWs.wall {h : List AE.Obj} {km : Nat} {a b : List Nat} (A : okWs h km a) (B : okWs h km b) : okWs h km (wall a b) := fun x hx => by
  rcases mem_wall hx with hx | hx
  · exact A x hx
  · exact B x hx
/-- The end of a call that has written one old object. -/
theorem tidy_mod {h H : List AE.Obj} {km : Nat} {o : AE.Obj} {v : PV} {ws : List Nat} (hp : v.pure = true) (M : Mod h H km o) (W : okWs h km ws) : ∃ ws', tidy 0 h.length (.val v) ⟨H, ws, []⟩ = (.val v.weak, ⟨h.set km o, ws', []⟩) ∧ ∀ x ∈ ws', x = km := by
  refine ⟨below h.length ws, ?_, fun x hx => ?_⟩
  · unfold tidy
    have hf : frz H h.length 64 v = some v.weak := frz_pure hp
    simp [OR.v, hf, M.take, OR.put]
  · obtain ⟨h1, h2⟩ := List.mem_filter.1 hx
    have h2 : x < h.length := by simpa using h2
    rcases W x h1 with h | h
    · exact h
    · omega
@[go_sem] theorem tupled_nil : tupled [] = .tuple [] := rfl
theorem st2_0 {H : List AE.Obj} {ws : List Nat} {ups : List (Nat × Nat)} {k : Nat} {a b : PV} {v : Int} (hk : H[k]? = some (.row 2 [.agg [a, b]])) :
    storeAt 1 (.ptr k 0 0 1) (.int .i64 v) ⟨H, ws, ups⟩ = some ⟨H.set k (.row 2 [.agg [.int .i64 v, b]]), wadd k ws, ups⟩ := by
  have hu : upd (.agg [a, b]) 0 (.int .i64 v) = some (.agg [.int .i64 v, b]) := rfl
  simp only [storeAt, hk, List.length_cons, List.length_nil, PV.cells, List.all_cons, List.all_nil, PV.isCell, Bool.and_self, and_self, if_true, List.getElem?_cons_zero, hu, Option.map, List.set_cons_zero, PV.top, wrote_none]
theorem st2_1 {H : List AE.Obj} {ws : List Nat} {ups : List (Nat × Nat)} {k : Nat} {a b : PV} {v : Int} (hk : H[k]? = some (.row 2 [.agg [a, b]])) :
    storeAt 1 (.ptr k 0 1 1) (.int .i64 v) ⟨H, ws, ups⟩ = some ⟨H.set k (.row 2 [.agg [a, .int .i64 v]]), wadd k ws, ups⟩ := by
  have hu : upd (.agg [a, b]) 1 (.int .i64 v) = some (.agg [a, .int .i64 v]) := rfl
  simp only [storeAt, hk, List.length_cons, List.length_nil, PV.cells, List.all_cons, List.all_nil, PV.isCell, Bool.and_self, and_self, if_true, List.getElem?_cons_zero, hu, Option.map, List.set_cons_zero, PV.top, wrote_none]
/-- What is measured. -/
def mRow (nd dp : Int) : AE.Obj := .row 2 [.agg [.int .i64 nd, .int .i64 dp]]

include hT in
theorem count_ev {t : Tm} {p : PV} (ht : Enc t p) : ∀ (h : List AE.Obj) (km : Nat) (nd dp d : Int), h[km]? = some (mRow nd dp) → 0 ≤ nd → nd + t.nodes ≤ 2000 → 0 ≤ dp → dp ≤ 200 → 1 ≤ d → d + t.nodes ≤ 201 →
    ∃ dp' ws', Ev T 133 [.ptr km 0 0 1, p, .int .i64 d] h (.val (.tuple []), ⟨h.set km (mRow (nd + t.nodes) dp'), ws', []⟩) ∧ (0 ≤ dp' ∧ dp' ≤ 200) ∧ ∀ x ∈ ws', x = km := by
  have hc := ht.cells
  have hf := ht.facts
  induction ht with
  | mk k n l sz es hs hl he ih =>
    intro h km nd dp d hk hnd hnd2 hdp hdp2 hd hd2
    have W : ∃ (x : Int × List Nat), Ev T 133 [.ptr km 0 0 1, .agg [.int .i64 k, .int .i64 n, .slice sz es .any], .int .i64 d] h (.val (.tuple []), ⟨h.set km (mRow (nd + (Tm.mk k n l).nodes) x.1), x.2, []⟩) ∧ ((0 ≤ x.1 ∧ x.1 ≤ 200) ∧ ∀ y ∈ x.2, y = km) := by
      refine Ev.walkP (r := fun (x : Int × List Nat) => (.val (.tuple []), ⟨h.set km (mRow (nd + (Tm.mk k n l).nodes) x.1), x.2, []⟩)) (hT.sp _ (by decide)) ((hT.fn _).trans fn133) (hT.mode _) rfl ?_
      simp only [Tm.nodes] at hnd2 hd2 ⊢
      have hlt := (List.getElem?_eq_some_iff.1 hk).1
      have M0 := Mod.refl hk
      generalize hP : PV.agg [.int .i64 k, .int .i64 n, .slice sz es .any] = P at *
      have M1 : Mod h (h ++ [AE.Obj.row 3 [P]]) km (mRow nd dp) := M0.push
      have kb : (h ++ [AE.Obj.row 3 [P]])[h.length]? = some (.row 3 [P]) := by simp
      generalize hH1 : h ++ [AE.Obj.row 3 [P]] = H1 at *
      have l0 : loadAt false 1 (.ptr km 0 0 1) H1 = some (.int .i64 nd) := by rw [ld_at M1.get]; rfl
      have s0 := fun ws ups => st2_0 (ws := ws) (ups := ups) (v := nd + 1) M1.get
      have M2 := M1.put (o' := mRow (nd + 1) dp)
      have kb2 : (H1.set km (mRow (nd + 1) dp))[h.length]? = some (.row 3 [P]) := get_set_ne kb (by omega)
      have e2 : H1.set km (.row 2 [.agg [.int .i64 (nd + 1), .int .i64 dp]]) = H1.set km (mRow (nd + 1) dp) := rfl
      generalize hH2 : H1.set km (mRow (nd + 1) dp) = H2 at *
      have l1 : loadAt false 1 (.ptr km 0 1 1) H2 = some (.int .i64 dp) := by rw [ld_at M2.get]; rfl
      have s1 := fun ws ups => st2_1 (ws := ws) (ups := ups) (v := max dp d) M2.get
      have M3 := M2.put (o' := mRow (nd + 1) (max dp d))
      have kb3 : (H2.set km (mRow (nd + 1) (max dp d)))[h.length]? = some (.row 3 [P]) := get_set_ne kb2 (by omega)
      have e3 : H2.set km (.row 2 [.agg [.int .i64 (nd + 1), .int .i64 (max dp d)]]) = H2.set km (mRow (nd + 1) (max dp d)) := rfl
      generalize hH3 : H2.set km (mRow (nd + 1) (max dp d)) = H3 at *
      have l2 : loadAt false 1 (.ptr h.length 0 2 1) H3 = some (.slice sz es .any) := by rw [ld_at kb3, ← hP]; rfl
      obtain ⟨c1, c2, c3, c4⟩ := hc
      have hln := nodesL_len l
      simp (disch := first | omega | decide | (simp only [eget_eput', ↓reduceIte, Nat.reduceEqDiff]; done)) only [go_sem, ↓reduceIte, Nat.reduceEqDiff, Nat.reduceAdd, Nat.reduceMul, reduceCtorEq, hH1, l0, s0, e2, l1, s1, e3, l2, c1, c3, List.length_cons, List.length_nil]
      refine wpC.loopM (fun g e st => ∃ (i : Nat) (dp1 : Int) (H : List AE.Obj) (ws : List Nat), i + g = es.length ∧ Mod h H km (mRow (nd + 1 + nodesL (l.take i)) dp1) ∧ (0 ≤ dp1 ∧ dp1 ≤ 200) ∧ okWs h km ws ∧ eget e 0 = .ptr km 0 0 1 ∧ eget e 2 = .int .i64 d ∧ eget e 25 = .slice sz es .any ∧ eget e 26 = .int .i64 (es.length : Int) ∧ eget e 27 = .int .i64 (i : Int) ∧ st = ⟨H, ws, []⟩) ?_ es.length _ _
        ⟨0, max dp d, H3, _, by omega, by simpa [nodesL] using M3, ⟨by omega, by omega⟩, okWs.add (okWs.add (fun x hx => by simp at hx) (.inl rfl)) (.inl rfl), by simp (disch := first | omega | decide | (simp only [eget_eput', ↓reduceIte, Nat.reduceEqDiff]; done)) only [go_sem, ↓reduceIte, Nat.reduceEqDiff, Nat.reduceAdd, Nat.reduceMul, reduceCtorEq], by simp (disch := first | omega | decide | (simp only [eget_eput', ↓reduceIte, Nat.reduceEqDiff]; done)) only [go_sem, ↓reduceIte, Nat.reduceEqDiff, Nat.reduceAdd, Nat.reduceMul, reduceCtorEq], by simp (disch := first | omega | decide | (simp only [eget_eput', ↓reduceIte, Nat.reduceEqDiff]; done)) only [go_sem, ↓reduceIte, Nat.reduceEqDiff, Nat.reduceAdd, Nat.reduceMul, reduceCtorEq], by simp (disch := first | omega | decide | (simp only [eget_eput', ↓reduceIte, Nat.reduceEqDiff]; done)) only [go_sem, ↓reduceIte, Nat.reduceEqDiff, Nat.reduceAdd, Nat.reduceMul, reduceCtorEq], by simp (disch := first | omega | decide | (simp only [eget_eput', ↓reduceIte, Nat.reduceEqDiff]; done)) only [go_sem, ↓reduceIte, Nat.reduceEqDiff, Nat.reduceAdd, Nat.reduceMul, reduceCtorEq]; rfl, rfl⟩
      rintro g e st ⟨i, dp1, H, ws, hi, M, hdp1, W, e0, e2, e25, e26, e27, rfl⟩
      by_cases h1 : i < es.length
      · have ga := get_lt h1
        have hx : l[i]? = some l[i] := List.getElem?_eq_getElem (by omega)
        have hE := he i l[i] es[i] hx ga
        have ihx := ih i l[i] es[i] hx ga hE.cells hE.facts
        have htk := nodesL_take hx
        have hgt := nodesL_get hx
        have hpos := nodes_pos l[i]
        generalize l[i] = x at *
        have hsz : sz = 3 := by
          rcases hs with rfl | h
          · simp at h1
          · exact h
        subst hsz
        obtain ⟨b1, b2, b3, b4⟩ := hE.cells
        have bt := hE.facts.1
        have bs := hE.sub
        generalize es[i] = q at *
        have sb := st_box (h := H) (ws := ws) (ups := []) (z := .agg [(.int .i64 0), (.int .i64 0), (.slice 0 [] .nil)]) (sz := 3) (c := q) b1 rfl b2 bt ⟨_, rfl⟩ b4
        have M1 := M.push (o' := AE.Obj.row 3 [q])
        have kq : (H ++ [AE.Obj.row 3 [q]])[H.length]? = some (.row 3 [q]) := by simp
        generalize hH5 : H ++ [AE.Obj.row 3 [q]] = H5 at *
        have ln : loadAt false 1 (.ptr km 0 0 1) H5 = some (.int .i64 (nd + 1 + nodesL (l.take i))) := by rw [ld_at M1.get]; rfl
        have ld : loadAt false 1 (.ptr km 0 1 1) H5 = some (.int .i64 dp1) := by rw [ld_at M1.get]; rfl
        have lq : loadAt true 3 (.ptr H.length 0 0 1) H5 = some q := by rw [ld_at kq]; exact bs
        obtain ⟨dp2, ws2, ev, hd2', hw2⟩ := ihx H5 km (nd + 1 + nodesL (l.take i)) dp1 (d + 1) M1.get (by omega) (by omega) hdp1.1 hdp1.2 (by omega) (by omega)
        have n1 : ¬ (2000 : Int) < nd + 1 + nodesL (l.take i) := by omega
        have n2 : ¬ (200 : Int) < dp1 := by omega
        have hMl := M.len
        simp (disch := first | omega | decide | (simp only [eget_eput', ↓reduceIte, Nat.reduceEqDiff]; done)) only [go_sem, ↓reduceIte, Nat.reduceEqDiff, Nat.reduceAdd, Nat.reduceMul, reduceCtorEq, a133b0, e0, e2, e25, e26, e27, h1, ga, bs, sb, hH5, ln, ld, lq, n1, n2, cb ev, hT.prim, primOf, List.length_cons, List.length_nil]
        exact ⟨g - 1, by omega, i + 1, dp2, _, _, by omega, by rw [htk, show (nd + 1 + ((nodesL (l.take i) + x.nodes : Nat) : Int)) = nd + 1 + (nodesL (l.take i) : Int) + (x.nodes : Int) by omega]; exact M1.put, hd2', okWs.wall (fun y hy => .inl (hw2 y hy)) (W.add (.inr hMl)), rfl, rfl⟩
      · have : i = l.length := by omega
        subst this
        obtain ⟨ws', ht1, ht2⟩ := tidy_mod (v := .tuple []) rfl M W
        simp (disch := first | omega | decide | (simp only [eget_eput', ↓reduceIte, Nat.reduceEqDiff]; done)) only [go_sem, ↓reduceIte, Nat.reduceEqDiff, Nat.reduceAdd, Nat.reduceMul, reduceCtorEq, a133b0, e0, e2, e25, e26, e27, h1, ht1]
        refine ⟨(dp1, ws'), ?_, hdp1, ht2⟩
        rw [List.take_length, show (nd + ((1 + nodesL l : Nat) : Int)) = nd + 1 + (nodesL l : Int) by omega]
        rfl
    obtain ⟨x, h1, h2, h3⟩ := W
    exact ⟨x.1, x.2, h1, h2, h3⟩
end Go.Proofs.Tryz
/- over, Size, shaped, isTree. -/
namespace Go.Proofs.Tryz
open Go Go.AE
variable {T : Tbl} (hT : Std T)

include hT in
theorem over_ev {h : List AE.Obj} {km : Nat} {nd dp : Int} (hk : h[km]? = some (mRow nd dp)) (h1 : nd ≤ 2000) (h2 : dp ≤ 200) : Ev T 134 [.ptr km 0 0 1] h (.val (.bool false), ⟨h, [], []⟩) := by
  refine Ev.walk (hT.sp _ (by decide)) ((hT.fn _).trans fn134) (hT.mode _) rfl ?_
  have l0 : loadAt false 1 (.ptr km 0 0 1) h = some (.int .i64 nd) := by rw [ld_at hk]; rfl
  have l1 : loadAt false 1 (.ptr km 0 1 1) h = some (.int .i64 dp) := by rw [ld_at hk]; rfl
  have n1 : ¬ (2000 : Int) < nd := by omega
  have n2 : ¬ (200 : Int) < dp := by omega
  simp (disch := first | omega | decide | (simp only [eget_eput', ↓reduceIte, Nat.reduceEqDiff]; done)) only [go_sem, ↓reduceIte, Nat.reduceEqDiff, Nat.reduceAdd, Nat.reduceMul, reduceCtorEq, l0, l1, n1, n2]
include hT in
theorem size_ev {t : Tm} {p : PV} (ht : Enc t p) (hn : t.nodes ≤ 200) (h : List AE.Obj) : ∃ d : Int, Ev T 46 [p] h (.val (.tuple [.int .i64 (t.nodes : Int), .int .i64 d]), ⟨h, [], []⟩) ∧ True := by
  refine Ev.walkP (r := fun d : Int => (.val (.tuple [.int .i64 (t.nodes : Int), .int .i64 d]), ⟨h, [], []⟩)) (hT.sp _ (by decide)) ((hT.fn _).trans fn46) (hT.mode _) rfl ?_
  obtain ⟨c1, c2, c3, c4⟩ := ht.cells
  have hs := ht.sub
  have kp : (h ++ [AE.Obj.row 3 [p]])[h.length]? = some (.row 3 [p]) := by simp
  have low1 : Low h.length h (h ++ [AE.Obj.row 3 [p]]) := (Low.refl _ _).push (Nat.le_refl _)
  have hl1 : (h ++ [AE.Obj.row 3 [p]]).length = h.length + 1 := by simp
  generalize hH1 : h ++ [AE.Obj.row 3 [p]] = H1 at *
  have km : (H1 ++ [AE.Obj.row 2 [PV.agg [.int .i64 0, .int .i64 0]]])[H1.length]? = some (mRow 0 0) := by simp [mRow]
  have kp2 : (H1 ++ [AE.Obj.row 2 [PV.agg [.int .i64 0, .int .i64 0]]])[h.length]? = some (.row 3 [p]) := keepL kp
  have low2 : Low h.length h (H1 ++ [AE.Obj.row 2 [PV.agg [.int .i64 0, .int .i64 0]]]) := low1.push (by omega)
  generalize hH2 : H1 ++ [AE.Obj.row 2 [PV.agg [.int .i64 0, .int .i64 0]]] = H2 at *
  have lp : loadAt true 3 (.ptr h.length 0 0 1) H2 = some p := by rw [ld_at kp2]; exact hs
  obtain ⟨dp, ws, ev, hd, hw⟩ := count_ev hT ht H2 H1.length 0 0 1 km (by omega) (by omega) (by omega) (by omega) (by omega) (by omega)
  rw [Int.zero_add] at ev
  have km3 : (H2.set H1.length (mRow (t.nodes : Int) dp))[H1.length]? = some (mRow (t.nodes : Int) dp) := get_set km
  have low3 : Low h.length h (H2.set H1.length (mRow (t.nodes : Int) dp)) := low2.trans (.set (by omega))
  generalize hH3 : H2.set H1.length (mRow (t.nodes : Int) dp) = H3 at *
  have ov := over_ev hT km3 (by omega) hd.2
  have l0 : loadAt false 1 (.ptr H1.length 0 0 1) H3 = some (.int .i64 (t.nodes : Int)) := by rw [ld_at km3]; rfl
  have l1 : loadAt false 1 (.ptr H1.length 0 1 1) H3 = some (.int .i64 dp) := by rw [ld_at km3]; rfl
  simp (disch := first | omega | decide | (simp only [eget_eput', ↓reduceIte, Nat.reduceEqDiff]; done)) only [go_sem, ↓reduceIte, Nat.reduceEqDiff, Nat.reduceAdd, Nat.reduceMul, reduceCtorEq, hH1, c1, c3, List.length_cons, List.length_nil, hH2, lp, cb ev, cb ov, l0, l1, hT.prim, primOf]
  refine ⟨dp, ?_, trivial⟩
  exact tidy_low rfl rfl low3 (fun x hx => by
    repeat' first | (have := hw x hx; omega) | (cases hx; done) | (rcases mem_wall hx with hx | hx))
mutual
/-- All nodes are variables or operations. -/
def shapedF : Tm → Bool
  | .mk k n l => decide (0 ≤ n) && !(k == 1 && decide (0 < l.length)) && (k == 1 || k == 2) && decide (l.length ≤ 8) && shapedL l
def shapedL : List Tm → Bool
  | [] => true
  | t :: l => shapedF t && shapedL l
end
theorem shapedL_all : ∀ l : List Tm, shapedL l = l.all shapedF
  | [] => rfl
  | t :: l => by simp only [shapedL, List.all_cons, shapedL_all l]
include hT in
theorem index135_tot {g : FuncId} {cap : List PV} {f : Tm → Bool} {h : List AE.Obj} (hg : T.prim g = none) {l : List Tm} {sz : Nat} {es : List PV} {m : SM} (hs : es = [] ∨ sz = 3) (hl : es.length = l.length) (he : ∀ (i : Nat) (x : Tm) (p : PV), l[i]? = some x → es[i]? = some p → Enc x p)
    (hf : ∀ (i : Nat) (x : Tm) (p : PV), l[i]? = some x → es[i]? = some p → Ev T g (p :: cap) h (.val (.bool (f x)), ⟨h, [], []⟩)) (hal : es.length < 1000000) :
    ∃ r : Int, Ev T 135 [.slice sz es m, .func (.func g) [] cap] h (.val (.int .i64 r), ⟨h, [], []⟩) ∧ (decide (0 ≤ r) = l.any f) := by
  refine Ev.walkP (hT.sp _ (by decide)) ((hT.fn _).trans fn135) (hT.mode _) rfl ?_
  simp (disch := first | omega | decide | (simp only [eget_eput', ↓reduceIte, Nat.reduceEqDiff]; done)) only [go_sem, ↓reduceIte, Nat.reduceEqDiff, Nat.reduceAdd, Nat.reduceMul, reduceCtorEq]
  refine wpC.loopM (fun n e s => ∃ i : Nat, i + n = es.length ∧ eget e 0 = .slice sz es m ∧ eget e 1 = .func (.func g) [] cap ∧ eget e 7 = .int .i64 (es.length : Int) ∧ eget e 8 = .int .i64 (i : Int) ∧ (∀ j (hj : j < l.length), j < i → f l[j] = false) ∧ s = ⟨h, [], []⟩) ?_ es.length _ _ ⟨0, by simp, by simp (disch := first | omega | decide | (simp only [eget_eput', ↓reduceIte, Nat.reduceEqDiff]; done)) only [go_sem, ↓reduceIte, Nat.reduceEqDiff, Nat.reduceAdd, Nat.reduceMul, reduceCtorEq], by simp (disch := first | omega | decide | (simp only [eget_eput', ↓reduceIte, Nat.reduceEqDiff]; done)) only [go_sem, ↓reduceIte, Nat.reduceEqDiff, Nat.reduceAdd, Nat.reduceMul, reduceCtorEq], by simp (disch := first | omega | decide | (simp only [eget_eput', ↓reduceIte, Nat.reduceEqDiff]; done)) only [go_sem, ↓reduceIte, Nat.reduceEqDiff, Nat.reduceAdd, Nat.reduceMul, reduceCtorEq], by simp (disch := first | omega | decide | (simp only [eget_eput', ↓reduceIte, Nat.reduceEqDiff]; done)) only [go_sem, ↓reduceIte, Nat.reduceEqDiff, Nat.reduceAdd, Nat.reduceMul, reduceCtorEq]; rfl, fun j _ hj => by omega, rfl⟩
  rintro n e s ⟨i, hi, e0, e1, e7, e8, hp, rfl⟩
  by_cases h1 : i < es.length
  · have ga := get_lt h1
    have hx : l[i]? = some l[i] := List.getElem?_eq_getElem (by omega)
    have hE := he i l[i] es[i] hx ga
    have ev := hf i l[i] es[i] hx ga
    have bs := hE.sub
    have hsz : sz = 3 := by
      rcases hs with rfl | h
      · simp at h1
      · exact h
    subst hsz
    simp (disch := first | omega | decide | (simp only [eget_eput', ↓reduceIte, Nat.reduceEqDiff]; done)) only [go_sem, ↓reduceIte, Nat.reduceEqDiff, Nat.reduceAdd, Nat.reduceMul, reduceCtorEq, a135b0, e0, e1, e7, e8, h1, ga, bs, hg, cb ev]
    refine bifs (fun hpi => ⟨(i : Int), rfl, by rw [any_of (show i < l.length by omega) hpi]; simp⟩) (fun hpi => ⟨n - 1, by omega, i + 1, by omega, rfl, fun j hj hji => ?_, trivial⟩)
    by_cases hjj : j = i
    · subst hjj; exact hpi
    · exact hp j hj (by omega)
  · simp (disch := first | omega | decide | (simp only [eget_eput', ↓reduceIte, Nat.reduceEqDiff]; done)) only [go_sem, ↓reduceIte, Nat.reduceEqDiff, Nat.reduceAdd, Nat.reduceMul, reduceCtorEq, a135b0, e0, e1, e7, e8, h1]
    exact ⟨_, rfl, by rw [any_none fun j hj => hp j hj (by omega)]; rfl⟩
include hT in
theorem contains48_ev {g : FuncId} {cap : List PV} {f : Tm → Bool} {h : List AE.Obj} (hg : T.prim g = none) {l : List Tm} {sz : Nat} {es : List PV} {m : SM} (hs : es = [] ∨ sz = 3) (hl : es.length = l.length) (he : ∀ (i : Nat) (x : Tm) (p : PV), l[i]? = some x → es[i]? = some p → Enc x p)
    (hf : ∀ (i : Nat) (x : Tm) (p : PV), l[i]? = some x → es[i]? = some p → Ev T g (p :: cap) h (.val (.bool (f x)), ⟨h, [], []⟩)) (hal : es.length < 1000000) :
    Ev T 48 [.slice sz es m, .func (.func g) [] cap] h (.val (.bool (l.any f)), ⟨h, [], []⟩) := by
  obtain ⟨r, hr, kr⟩ := index135_tot hT (m := m) hg hs hl he hf hal
  rw [← kr]
  refine Ev.walk (hT.sp _ (by decide)) ((hT.fn _).trans fn48) (hT.mode _) rfl ?_
  simp (disch := first | omega | decide | (simp only [eget_eput', ↓reduceIte, Nat.reduceEqDiff]; done)) only [go_sem, ↓reduceIte, Nat.reduceEqDiff, Nat.reduceAdd, Nat.reduceMul, reduceCtorEq, cb hr, hT.prim, primOf]
include hT in
theorem shaped_ev {t : Tm} {p : PV} (ht : Enc t p) : ∀ h : List AE.Obj, Ev T 185 [p] h (.val (.bool (shapedF t)), ⟨h, [], []⟩) := by
  have hc := ht.cells
  induction ht with
  | mk k n l sz es hs hl he ih =>
    intro h
    refine Ev.walk (hT.sp _ (by decide)) ((hT.fn _).trans fn185) (hT.mode _) rfl ?_
    obtain ⟨c1, c2, c3, c4⟩ := hc
    generalize hP : PV.agg [.int .i64 k, .int .i64 n, .slice sz es .any] = P at *
    have kb : (h ++ [AE.Obj.row 3 [P]])[h.length]? = some (.row 3 [P]) := by simp
    have low : Low h.length h (h ++ [AE.Obj.row 3 [P]]) := (Low.refl _ _).push (Nat.le_refl _)
    generalize hH1 : h ++ [AE.Obj.row 3 [P]] = H1 at *
    have l0 : loadAt false 1 (.ptr h.length 0 0 1) H1 = some (.int .i64 k) := by rw [ld_at kb, ← hP]; rfl
    have l1 : loadAt false 1 (.ptr h.length 0 1 1) H1 = some (.int .i64 n) := by rw [ld_at kb, ← hP]; rfl
    have l2 : loadAt false 1 (.ptr h.length 0 2 1) H1 = some (.slice sz es .any) := by rw [ld_at kb, ← hP]; rfl
    have td : ∀ b, tidy 0 h.length (.val (.bool b)) ⟨H1, [], []⟩ = (.val (.bool b), ⟨h, [], []⟩) := fun b => tidy_low rfl rfl low (by simp)
    have sh1 : ∀ (i : Nat) (x : Tm) (p : PV), l[i]? = some x → es[i]? = some p → Ev T 232 [p] H1 (.val (.bool (!shapedF x)), ⟨H1, [], []⟩) := fun i x q hx hq => by
      have hE := he i x q hx hq
      have ev := ih i x q hx hq hE.cells
      obtain ⟨b1, b2, b3, b4⟩ := hE.cells
      refine Ev.walk (hT.sp _ (by decide)) ((hT.fn _).trans fn232) (hT.mode _) rfl ?_
      have kq : (H1 ++ [AE.Obj.row 3 [q]])[H1.length]? = some (.row 3 [q]) := by simp
      have lowq : Low H1.length H1 (H1 ++ [AE.Obj.row 3 [q]]) := (Low.refl _ _).push (Nat.le_refl _)
      have lq : loadAt true 3 (.ptr H1.length 0 0 1) (H1 ++ [AE.Obj.row 3 [q]]) = some q := by rw [ld_at kq]; exact hE.sub
      simp (disch := first | omega | decide | (simp only [eget_eput', ↓reduceIte, Nat.reduceEqDiff]; done)) only [go_sem, ↓reduceIte, Nat.reduceEqDiff, Nat.reduceAdd, Nat.reduceMul, reduceCtorEq, b1, b3, lq, cb (ev _), hT.prim, primOf]
    by_cases hn : 0 ≤ n
    · have hn' : ¬ n < 0 := by omega
      by_cases h8 : l.length ≤ 8
      · have h8' : ¬ (8 : Int) < (es.length : Int) := by omega
        have ct := contains48_ev hT (g := 232) (cap := []) (f := fun x => !shapedF x) (m := .any) (by rw [hT.prim]; rfl) hs hl he sh1 (by omega)
        have hany : (!l.any fun x => !shapedF x) = shapedL l := by rw [shapedL_all, List.all_eq_not_any_not]
        by_cases k1 : k = 1
        · subst k1
          by_cases hz : 0 < l.length
          · have hz' : (0 : Int) < (es.length : Int) := by omega
            have b11 : ((1 : Int) == 1) = true := rfl
            simp (disch := first | omega | decide | (simp only [eget_eput', ↓reduceIte, Nat.reduceEqDiff]; done)) only [go_sem, ↓reduceIte, Nat.reduceEqDiff, Nat.reduceAdd, Nat.reduceMul, reduceCtorEq, hH1, c1, c3, l0, l1, l2, hn', hz', b11, td]
            simp [shapedF, hn, hz]
          · have hz' : ¬ (0 : Int) < (es.length : Int) := by omega
            have b11 : ((1 : Int) == 1) = true := rfl
            have b12 : ((1 : Int) != 1) = false := rfl
            simp (disch := first | omega | decide | (simp only [eget_eput', ↓reduceIte, Nat.reduceEqDiff]; done)) only [go_sem, ↓reduceIte, Nat.reduceEqDiff, Nat.reduceAdd, Nat.reduceMul, reduceCtorEq, hH1, c1, c3, l0, l1, l2, hn', hz', b11, b12, h8', cb ct, hT.prim, primOf, td]
            rw [hany]
            simp [shapedF, hn, hz, h8]
        · have b1 : (k == 1) = false := by simpa using k1
          have b2 : (k != 1) = true := by simpa using k1
          by_cases k2 : k = 2
          · subst k2
            have b3 : ((2 : Int) != 2) = false := rfl
            simp (disch := first | omega | decide | (simp only [eget_eput', ↓reduceIte, Nat.reduceEqDiff]; done)) only [go_sem, ↓reduceIte, Nat.reduceEqDiff, Nat.reduceAdd, Nat.reduceMul, reduceCtorEq, hH1, c1, c3, l0, l1, l2, hn', b1, b2, b3, h8', cb ct, hT.prim, primOf, td]
            rw [hany]
            simp [shapedF, hn, h8]
          · have b3 : (k != 2) = true := by simpa using k2
            simp (disch := first | omega | decide | (simp only [eget_eput', ↓reduceIte, Nat.reduceEqDiff]; done)) only [go_sem, ↓reduceIte, Nat.reduceEqDiff, Nat.reduceAdd, Nat.reduceMul, reduceCtorEq, hH1, c1, c3, l0, l1, l2, hn', b1, b2, b3, h8', td]
            simp [shapedF, k1, k2]
      · have h8' : (8 : Int) < (es.length : Int) := by omega
        have hf : shapedF (.mk k n l) = false := by simp [shapedF]; intros; omega
        rw [hf]
        by_cases k1 : k = 1
        · subst k1
          have hz' : (0 : Int) < (es.length : Int) := by omega
          have b11 : ((1 : Int) == 1) = true := rfl
          simp (disch := first | omega | decide | (simp only [eget_eput', ↓reduceIte, Nat.reduceEqDiff]; done)) only [go_sem, ↓reduceIte, Nat.reduceEqDiff, Nat.reduceAdd, Nat.reduceMul, reduceCtorEq, hH1, c1, c3, l0, l1, l2, hn', hz', b11, td]
        · have b1 : (k == 1) = false := by simpa using k1
          have b2 : (k != 1) = true := by simpa using k1
          by_cases k2 : k = 2
          · subst k2
            have b3 : ((2 : Int) != 2) = false := rfl
            simp (disch := first | omega | decide | (simp only [eget_eput', ↓reduceIte, Nat.reduceEqDiff]; done)) only [go_sem, ↓reduceIte, Nat.reduceEqDiff, Nat.reduceAdd, Nat.reduceMul, reduceCtorEq, hH1, c1, c3, l0, l1, l2, hn', b1, b2, b3, h8', td]
          · have b3 : (k != 2) = true := by simpa using k2
            simp (disch := first | omega | decide | (simp only [eget_eput', ↓reduceIte, Nat.reduceEqDiff]; done)) only [go_sem, ↓reduceIte, Nat.reduceEqDiff, Nat.reduceAdd, Nat.reduceMul, reduceCtorEq, hH1, c1, c3, l0, l1, l2, hn', b1, b2, b3, h8', td]
    · have hn' : n < 0 := by omega
      have hf : shapedF (.mk k n l) = false := by simp [shapedF, hn]
      rw [hf]
      simp (disch := first | omega | decide | (simp only [eget_eput', ↓reduceIte, Nat.reduceEqDiff]; done)) only [go_sem, ↓reduceIte, Nat.reduceEqDiff, Nat.reduceAdd, Nat.reduceMul, reduceCtorEq, hH1, c1, c3, l0, l1, l2, hn', td]
include hT in
theorem tree_ev {t : Tm} {p : PV} (ht : Enc t p) (hn : t.nodes ≤ 200) (h : List AE.Obj) : Ev T 130 [p] h (.val (.bool (shapedF t)), ⟨h, [], []⟩) := by
  refine Ev.walk (hT.sp _ (by decide)) ((hT.fn _).trans fn130) (hT.mode _) rfl ?_
  obtain ⟨c1, c2, c3, c4⟩ := ht.cells
  have hs := ht.sub
  have kp : (h ++ [AE.Obj.row 3 [p]])[h.length]? = some (.row 3 [p]) := by simp
  have low1 : Low h.length h (h ++ [AE.Obj.row 3 [p]]) := (Low.refl _ _).push (Nat.le_refl _)
  have hl1 : (h ++ [AE.Obj.row 3 [p]]).length = h.length + 1 := by simp
  generalize hH1 : h ++ [AE.Obj.row 3 [p]] = H1 at *
  have km : (H1 ++ [AE.Obj.row 2 [PV.agg [.int .i64 0, .int .i64 0]]])[H1.length]? = some (mRow 0 0) := by simp [mRow]
  have kp2 : (H1 ++ [AE.Obj.row 2 [PV.agg [.int .i64 0, .int .i64 0]]])[h.length]? = some (.row 3 [p]) := keepL kp
  have low2 : Low h.length h (H1 ++ [AE.Obj.row 2 [PV.agg [.int .i64 0, .int .i64 0]]]) := low1.push (by omega)
  generalize hH2 : H1 ++ [AE.Obj.row 2 [PV.agg [.int .i64 0, .int .i64 0]]] = H2 at *
  have lp : loadAt true 3 (.ptr h.length 0 0 1) H2 = some p := by rw [ld_at kp2]; exact hs
  obtain ⟨dp, ws, ev, hd, hw⟩ := count_ev hT ht H2 H1.length 0 0 1 km (by omega) (by omega) (by omega) (by omega) (by omega) (by omega)
  rw [Int.zero_add] at ev
  have km3 : (H2.set H1.length (mRow (t.nodes : Int) dp))[H1.length]? = some (mRow (t.nodes : Int) dp) := get_set km
  have kp3 : (H2.set H1.length (mRow (t.nodes : Int) dp))[h.length]? = some (.row 3 [p]) := get_set_ne kp2 (by omega)
  have low3 : Low h.length h (H2.set H1.length (mRow (t.nodes : Int) dp)) := low2.trans (.set (by omega))
  generalize hH3 : H2.set H1.length (mRow (t.nodes : Int) dp) = H3 at *
  have ov := over_ev hT km3 (by omega) hd.2
  have lp3 : loadAt true 3 (.ptr h.length 0 0 1) H3 = some p := by rw [ld_at kp3]; exact hs
  have sh := shaped_ev hT ht H3
  simp (disch := first | omega | decide | (simp only [eget_eput', ↓reduceIte, Nat.reduceEqDiff]; done)) only [go_sem, ↓reduceIte, Nat.reduceEqDiff, Nat.reduceAdd, Nat.reduceMul, reduceCtorEq, hH1, c1, c3, List.length_cons, List.length_nil, hH2, lp, cb ev, cb ov, lp3, cb sh, hT.prim, primOf]
  exact tidy_low rfl rfl low3 (fun x hx => by
    repeat' first | (have := hw x hx; omega) | (cases hx; done) | (rcases mem_wall hx with hx | hx))
end Go.Proofs.Tryz
/- nth: total at all sizes. -/
namespace Go.Proofs.Tryz
open Go Go.AE
variable {T : Tbl} (hT : Std T)

def tabV (s : GSig) : PV := .agg [.slice 1 (s.sorts.map .str) .any, .slice 3 (s.ops.map encOp) .any, .slice 61 ((tabOf s).1.map arr) .any, .slice 1 ((tabOf s).2.map fun r => .slice 61 (r.map arr) .any) .any]
theorem encTab_eq (s : GSig) : encTab s = .iptr (tabV s) 0 := rfl
theorem nthC {s : GSig} (hs : GOk s) {i : Nat} {o : GOp} (ho : s.ops[i]? = some o) : NthC s (tabV s) i o (tabOf s).1 ((tabOf s).2.getD i []) ((tabOf s).2.map fun r => .slice 61 (r.map arr) .any) := by
  obtain ⟨S, K⟩ := tabOf_sem hs.ops
  obtain ⟨a1, a2, a3⟩ := hs.ops o (List.mem_of_getElem? ho)
  have hi : i < (tabOf s).2.length := by rw [K.len]; exact (List.getElem?_eq_some_iff.1 ho).1
  have e1 : (tabOf s).2[i]? = some ((tabOf s).2.getD i []) := by
    rw [List.getD_eq_getElem?_getD, List.getElem?_eq_getElem hi]; rfl
  obtain ⟨q1, q2⟩ := K.rows i o _ ho e1
  exact ⟨rfl, rfl, rfl, K.sl, K.so, ho, a1, a3, by rw [List.getElem?_map, e1]; rfl, q2, q1, fun k q hk hq => S.eq i o k q ho hk hq, sysOf hs.ops ho⟩
include hT in
theorem nth_tot {s : GSig} (hs : GOk s) (h91 : T.sp 91 = none) : ∀ N, N ≤ 60 → NthIH T s (tabV s) N
  | 0, _ => fun a m n h _ h1 h2 => by omega
  | N + 1, hN => fun a m n h ha h1 h2 hn0 hn1 => by
    have ih := nth_tot hs h91 N (by omega)
    by_cases hm : m ≤ N
    · exact ih a m n h ha h1 hm hn0 hn1
    · have : m = N + 1 := by omega
      subst this
      exact nth_step hT hs h91 (by omega) (fun i o ho => nthC hs ho) rfl rfl ih a n h ha ⟨hn0, hn1⟩
end Go.Proofs.Tryz
/- Count, Nth. -/
namespace Go.Proofs.Tryz
open Go Go.AE
variable {T : Tbl} (hT : Std T) {s : GSig}

theorem encSig_ld {h : List AE.Obj} : loadAt true 2 (.ptr h.length 0 0 1) (h ++ [AE.Obj.row 2 [encSig s]]) = some (encSig s) := by
  have hk : (h ++ [AE.Obj.row 2 [encSig s]])[h.length]? = some (.row 2 [encSig s]) := by simp
  rw [ld_at hk]; rfl
include hT in
theorem count_err {r : Int} (hr : r ≠ 0) (E87 : ∀ h, Ev T 87 [encSig s] h (.val (.int .i64 r), ⟨h, [], []⟩)) (sort size : Int) (h : List AE.Obj) : Ev T 44 [encSig s, .int .i64 sort, .int .i64 size] h (.val (.tuple [.int .i64 0, .int .i64 r]), ⟨h, [], []⟩) := by
  refine Ev.walk (hT.sp _ (by decide)) ((hT.fn _).trans fn44) (hT.mode _) rfl ?_
  have hr' : (r != 0) = true := by simpa using hr
  simp (disch := first | omega | decide | (simp only [eget_eput', ↓reduceIte, Nat.reduceEqDiff]; done)) only [go_sem, ↓reduceIte, Nat.reduceEqDiff, Nat.reduceAdd, Nat.reduceMul, reduceCtorEq, encSig_ld, cb (E87 _), hT.prim, primOf, hr']
include hT in
theorem count_arg (E87 : ∀ h, Ev T 87 [encSig s] h (.val (.int .i64 0), ⟨h, [], []⟩)) {sort size : Int} (hb : (isSortB sort s.sorts.length && sizedB size) = false) (h : List AE.Obj) : Ev T 44 [encSig s, .int .i64 sort, .int .i64 size] h (.val (.tuple [.int .i64 0, .int .i64 1]), ⟨h, [], []⟩) := by
  refine Ev.walk (hT.sp _ (by decide)) ((hT.fn _).trans fn44) (hT.mode _) rfl ?_
  have c1 := fun h => isSort_ev hT (s := s) sort h
  have c2 := fun h => sized_ev hT size h
  cases h1 : isSortB sort s.sorts.length
  · rw [h1] at c1
    simp (disch := first | omega | decide | (simp only [eget_eput', ↓reduceIte, Nat.reduceEqDiff]; done)) only [go_sem, ↓reduceIte, Nat.reduceEqDiff, Nat.reduceAdd, Nat.reduceMul, reduceCtorEq, encSig_ld, cb (E87 _), hT.prim, primOf, bne_self_eq_false, cb (c1 _)]
  · rw [h1, Bool.true_and] at hb
    rw [h1] at c1
    rw [hb] at c2
    simp (disch := first | omega | decide | (simp only [eget_eput', ↓reduceIte, Nat.reduceEqDiff]; done)) only [go_sem, ↓reduceIte, Nat.reduceEqDiff, Nat.reduceAdd, Nat.reduceMul, reduceCtorEq, encSig_ld, cb (E87 _), hT.prim, primOf, bne_self_eq_false, cb (c1 _), cb (c2 _)]
theorem cnt_ok {s : GSig} (hs : GOk s) {a : Nat} (ha : a < s.sorts.length) : okRow ((tabOf s).1.getD a []) ∧ ((tabOf s).1.map arr)[a]? = some (arr ((tabOf s).1.getD a [])) := by
  obtain ⟨S, K⟩ := tabOf_sem hs.ops
  have hl : a < (tabOf s).1.length := by rw [K.sl]; exact ha
  exact ⟨(K.so.get hl).2, get_arr K.so hl⟩
theorem tab_t2 : sub false 1 (tabV s) 2 = some (.slice 61 ((tabOf s).1.map arr) .any) := rfl
include hT in
theorem count_ok (hs : GOk s) (E87 : ∀ h, Ev T 87 [encSig s] h (.val (.int .i64 0), ⟨h, [], []⟩)) {a m : Nat} (ha : a < s.sorts.length) (hm : m ≤ 60) (h : List AE.Obj) : Ev T 44 [encSig s, .int .i64 (a : Int), .int .i64 (m : Int)] h (.val (.tuple [.int .i64 (cntOf s a m), .int .i64 0]), ⟨h, [], []⟩) := by
  refine Ev.walk (hT.sp _ (by decide)) ((hT.fn _).trans fn44) (hT.mode _) rfl ?_
  have c1 := fun h => isSort_ev hT (s := s) (a : Int) h
  have c2 := fun h => sized_ev hT (m : Int) h
  have h1 : isSortB (a : Int) s.sorts.length = true := by simp [isSortB]; omega
  have h2 : sizedB (m : Int) = true := by simp [sizedB]; omega
  rw [h1] at c1
  rw [h2] at c2
  have c3 := fun h => counted_ev hT hs (h := h)
  obtain ⟨k1, k2⟩ := cnt_ok hs ha
  have hm61 : m < 61 := by omega
  have ls := ld_arr k1 hm61
  simp (disch := first | omega | decide | (simp only [eget_eput', ↓reduceIte, Nat.reduceEqDiff]; done)) only [go_sem, ↓reduceIte, Nat.reduceEqDiff, Nat.reduceAdd, Nat.reduceMul, reduceCtorEq, encSig_ld, cb (E87 _), hT.prim, primOf, bne_self_eq_false, cb (c1 _), cb (c2 _), cb (c3 _), encTab_eq, tab_t2, k2, hm61, ls]
  rfl
include hT in
theorem nth_ok (hs : GOk s) (E87 : ∀ h, Ev T 87 [encSig s] h (.val (.int .i64 0), ⟨h, [], []⟩)) {a m : Nat} {k : Int} {p : PV} (ha : a < s.sorts.length) (hm : m ≤ 60) (hk : 0 ≤ k ∧ k < cntOf s a m) (tp : IsT p) (E91 : ∀ h, Ev T 91 [encTab s, .int .i64 (a : Int), .int .i64 (m : Int), .int .i64 k] h (.val p, ⟨h, [], []⟩)) (h : List AE.Obj) :
    Ev T 18 [encSig s, .int .i64 (a : Int), .int .i64 (m : Int), .int .i64 k] h (.val (.tuple [p, .int .i64 0]), ⟨h, [], []⟩) := by
  refine Ev.walk (hT.sp _ (by decide)) ((hT.fn _).trans fn18) (hT.mode _) rfl ?_
  have c1 := fun h => isSort_ev hT (s := s) (a : Int) h
  have c2 := fun h => sized_ev hT (m : Int) h
  have h1 : isSortB (a : Int) s.sorts.length = true := by simp [isSortB]; omega
  have h2 : sizedB (m : Int) = true := by simp [sizedB]; omega
  rw [h1] at c1
  rw [h2] at c2
  have c3 := fun h => counted_ev hT hs (h := h)
  rw [encTab_eq] at c3 E91
  obtain ⟨k1, k2⟩ := cnt_ok hs ha
  have hm61 : m < 61 := by omega
  have ls := ld_arr k1 hm61
  have hk0 : ¬ k < 0 := by omega
  have hk1 : ¬ ((tabOf s).1.getD a []).getD m 0 ≤ k := by have := hk.2; unfold cntOf at this; omega
  obtain ⟨p1, p2, p3, p4⟩ := tp.cells
  obtain ⟨w1, w2⟩ := tp.pureW
  have sb := fun ws => st_box (h := h ++ [AE.Obj.row 2 [encSig s]]) (ws := ws) (ups := []) (z := .agg [(.int .i64 0), (.int .i64 0), (.slice 0 [] .nil)]) (sz := 3) (c := p) p1 rfl p2 tp.top ⟨_, rfl⟩ p4
  have kk : ((h ++ [AE.Obj.row 2 [encSig s]]) ++ [AE.Obj.row 3 [PV.agg [.int .i64 0, .int .i64 0, .slice 0 [] .nil]]])[h.length]? = some (.row 2 [encSig s]) := keepL (by simp)
  have ll : loadAt true 2 (.ptr h.length 0 0 1) ((h ++ [AE.Obj.row 2 [encSig s]]) ++ [AE.Obj.row 3 [PV.agg [.int .i64 0, .int .i64 0, .slice 0 [] .nil]]]) = some (encSig s) := by rw [ld_at kk]; rfl
  have kp : ((h ++ [AE.Obj.row 2 [encSig s]]) ++ [AE.Obj.row 3 [p]])[(h ++ [AE.Obj.row 2 [encSig s]]).length]? = some (.row 3 [p]) := by simp
  have lp : loadAt true 3 (.ptr (h ++ [AE.Obj.row 2 [encSig s]]).length 0 0 1) ((h ++ [AE.Obj.row 2 [encSig s]]) ++ [AE.Obj.row 3 [p]]) = some p := by rw [ld_at kp]; exact tp.sub
  have low : Low h.length h ((h ++ [AE.Obj.row 2 [encSig s]]) ++ [AE.Obj.row 3 [p]]) := ((Low.refl _ _).push (Nat.le_refl _)).push (by simp)
  have hlen : h.length ≤ (h ++ [AE.Obj.row 2 [encSig s]]).length := by simp
  generalize hkb : (h ++ [AE.Obj.row 2 [encSig s]]).length = kb at *
  simp (disch := first | omega | decide | (simp only [eget_eput', ↓reduceIte, Nat.reduceEqDiff]; done)) only [go_sem, ↓reduceIte, Nat.reduceEqDiff, Nat.reduceAdd, Nat.reduceMul, reduceCtorEq, List.length_cons, List.length_nil, hkb, ll, cb (E87 _), hT.prim, primOf, bne_self_eq_false, cb (c1 _), cb (c2 _), cb (c3 _), tab_t2, k2, hm61, ls, hk0, hk1, cb (E91 _), sb, resv, lp]
  exact tidy_low (by simp [PV.pure, pures, w1]) (by simp [PV.weak, weaks, w2]) low (wadd_low hlen (by simp))
end Go.Proofs.Tryz
/- typed, Sort, ground. -/
namespace Go.Proofs.Tryz
open Go Go.AE
variable {T : Tbl} (hT : Std T) {s : GSig}

mutual
def typedF (s : GSig) : Tm → Int → Bool
  | .mk k n l, a => !(k == 1) && (match s.ops[n.toNat]? with
    | some o => o.res == a && decide (o.args.length = l.length) && typedL s l o.args
    | none => false)
def typedL (s : GSig) : List Tm → List Int → Bool
  | [], _ => true
  | t :: l, bs => typedF s t (bs.getD 0 0) && typedL s l (bs.drop 1)
end
theorem typedL_false {s : GSig} : ∀ {l : List Tm} {bs : List Int} (i : Nat) {x : Tm}, l[i]? = some x → typedF s x (bs.getD i 0) = false → typedL s l bs = false
  | t :: l, bs, 0, x, hx, h => by
    simp only [List.getElem?_cons_zero, Option.some.injEq] at hx
    subst hx
    simp only [typedL, h, Bool.false_and]
  | t :: l, bs, i + 1, x, hx, h => by
    have := typedL_false (s := s) (l := l) (bs := bs.drop 1) i (x := x) (by simpa using hx) (by
      rw [List.getD_eq_getElem?_getD, List.getElem?_drop, Nat.add_comm 1 i, ← List.getD_eq_getElem?_getD]; exact h)
    simp only [typedL, this, Bool.and_false]
theorem typedL_true {s : GSig} : ∀ {l : List Tm} {bs : List Int}, (∀ (i : Nat) (x : Tm), l[i]? = some x → typedF s x (bs.getD i 0) = true) → typedL s l bs = true
  | [], _, _ => rfl
  | t :: l, bs, h => by
    have h1 := h 0 t rfl
    have h2 := typedL_true (s := s) (l := l) (bs := bs.drop 1) fun i x hx => by
      have := h (i + 1) x (by simpa using hx)
      rw [List.getD_eq_getElem?_getD, List.getElem?_drop, Nat.add_comm 1 i, ← List.getD_eq_getElem?_getD]; exact this
    simp only [typedL, h1, h2, Bool.and_self]
include hT in
theorem sort2_ev {h : List AE.Obj} {kv : Nat} (hv : h[kv]? = some (.row 1 [.slice 0 [] .nil])) {n a : Int} (hn : 0 ≤ n) : Ev T 132 [.int .i64 n, .int .i64 a, .ptr kv 0 0 1] h (.val (.bool false), ⟨h, [], []⟩) := by
  refine Ev.walk (hT.sp _ (by decide)) ((hT.fn _).trans fn132) (hT.mode _) rfl ?_
  have lv : loadAt false 1 (.ptr kv 0 0 1) h = some (.slice 0 [] .nil) := by rw [ld_at hv]; rfl
  have n0 : ¬ n < ((0 : Nat) : Int) := by omega
  simp (disch := first | omega | decide | (simp only [eget_eput', ↓reduceIte, Nat.reduceEqDiff]; done)) only [go_sem, ↓reduceIte, Nat.reduceEqDiff, Nat.reduceAdd, Nat.reduceMul, reduceCtorEq, lv, n0, List.length_nil]
include hT in
theorem typed_ev (hs : GOk s) {t : Tm} {p : PV} (ht : Enc t p) : shapedF t = true → ∀ (a : Int) (h : List AE.Obj) (kv : Nat), h[kv]? = some (.row 1 [.slice 0 [] .nil]) →
    Ev T 131 [encSig s, p, .int .i64 a, .func (.func 132) [] [.ptr kv 0 0 1]] h (.val (.bool (typedF s t a)), ⟨h, [], []⟩) := by
  have hc := ht.cells
  have hf := ht.facts
  have hsb := ht.sub
  induction ht with
  | mk k n l sz es hz hl he ih =>
    intro hsh a h kv hv
    have hnO := hs.nO
    refine Ev.walk (hT.sp _ (by decide)) ((hT.fn _).trans fn131) (hT.mode _) rfl ?_
    obtain ⟨c1, c2, c3, c4⟩ := hc
    have hsh' := hsh
    simp only [shapedF, Bool.and_eq_true, decide_eq_true_eq, shapedL_all] at hsh
    obtain ⟨⟨⟨⟨hn, _⟩, hk12⟩, hl8⟩, hall⟩ := hsh
    obtain ⟨N, rfl⟩ := Int.eq_ofNat_of_zero_le hn
    generalize hP : PV.agg [.int .i64 k, .int .i64 (N : Int), .slice sz es .any] = P at *
    have kg : (h ++ [AE.Obj.row 2 [encSig s]])[h.length]? = some (.row 2 [encSig s]) := by simp
    have kv1 : (h ++ [AE.Obj.row 2 [encSig s]])[kv]? = some (.row 1 [.slice 0 [] .nil]) := keepL hv
    have low1 : Low h.length h (h ++ [AE.Obj.row 2 [encSig s]]) := (Low.refl _ _).push (Nat.le_refl _)
    have hl1 : (h ++ [AE.Obj.row 2 [encSig s]]).length = h.length + 1 := by simp
    generalize hH1 : h ++ [AE.Obj.row 2 [encSig s]] = H1 at *
    have kp : (H1 ++ [AE.Obj.row 3 [P]])[H1.length]? = some (.row 3 [P]) := by simp
    have kg2 : (H1 ++ [AE.Obj.row 3 [P]])[h.length]? = some (.row 2 [encSig s]) := keepL kg
    have kv2 : (H1 ++ [AE.Obj.row 3 [P]])[kv]? = some (.row 1 [.slice 0 [] .nil]) := keepL kv1
    have low2 : Low h.length h (H1 ++ [AE.Obj.row 3 [P]]) := low1.push (by omega)
    have hl2 : (H1 ++ [AE.Obj.row 3 [P]]).length = h.length + 2 := by simp [hl1]
    generalize hH2 : H1 ++ [AE.Obj.row 3 [P]] = H2 at *
    have l0 : loadAt false 1 (.ptr H1.length 0 0 1) H2 = some (.int .i64 k) := by rw [ld_at kp, ← hP]; rfl
    have l1 : loadAt false 1 (.ptr H1.length 0 1 1) H2 = some (.int .i64 (N : Int)) := by rw [ld_at kp, ← hP]; rfl
    have l2 : loadAt false 1 (.ptr H1.length 0 2 1) H2 = some (.slice sz es .any) := by rw [ld_at kp, ← hP]; rfl
    have lg : loadAt false 1 (.ptr h.length 0 1 1) H2 = some (.slice 3 (s.ops.map encOp) .any) := by rw [ld_at kg2]; rfl
    have td : ∀ b, tidy 0 h.length (.val (.bool b)) ⟨H2, [], []⟩ = (.val (.bool b), ⟨h, [], []⟩) := fun b => tidy_low rfl rfl low2 (by simp)
    by_cases hk : k = 1
    · subst hk
      have e2 := sort2_ev hT kv2 (n := (N : Int)) (a := a) (by omega)
      have b11 : ((1 : Int) == 1) = true := rfl
      simp (disch := first | omega | decide | (simp only [eget_eput', ↓reduceIte, Nat.reduceEqDiff]; done)) only [go_sem, ↓reduceIte, Nat.reduceEqDiff, Nat.reduceAdd, Nat.reduceMul, reduceCtorEq, hH1, hH2, c1, c3, List.length_cons, List.length_nil, l0, l1, b11, cb e2, hT.prim, primOf, td]
      simp [typedF]
    · have hkb : (k == 1) = false := by simpa using hk
      by_cases hNO : N < s.ops.length
      · have go := get_op hNO
        have ho : s.ops[N]? = some s.ops[N] := List.getElem?_eq_getElem hNO
        obtain ⟨a1, a2, a3⟩ := hs.ops _ (List.mem_of_getElem? ho)
        generalize s.ops[N] = o at *
        have hNO' : ¬ s.ops.length ≤ N := by omega
        have so2 : sub false 1 (encOp o) 2 = some (.int .i64 o.res) := rfl
        have so1 : sub false 1 (encOp o) 1 = some (.slice 1 (o.args.map encI) .any) := rfl
        by_cases hr : o.res = a
        · have hr' : (o.res != a) = false := by simp [hr]
          by_cases hal : o.args.length = l.length
          · have hal' : ((o.args.length : Int) != (es.length : Int)) = false := by simp; omega
            have hF : typedF s (.mk k N l) a = typedL s l o.args := by simp [typedF, ho, hr, hal, hk]
            rw [hF]
            simp (disch := first | omega | decide | (simp only [eget_eput', ↓reduceIte, Nat.reduceEqDiff]; done)) only [go_sem, ↓reduceIte, Nat.reduceEqDiff, Nat.reduceAdd, Nat.reduceMul, reduceCtorEq, hH1, hH2, c1, c3, List.length_cons, List.length_nil, l0, l1, l2, lg, hkb, hNO, hNO', go, so2, so1, hr', hal', hT.prim, primOf]
            refine wpC.loopM (fun g e st => ∃ (i : Nat) (H : List AE.Obj) (ws : List Nat), i + g = es.length ∧ Low h.length h H ∧ H[h.length]? = some (.row 2 [encSig s]) ∧ H[H1.length]? = some (.row 3 [P]) ∧ H[kv]? = some (.row 1 [.slice 0 [] .nil]) ∧ (∀ x ∈ ws, h.length ≤ x) ∧ (∀ (j : Nat) (x : Tm), j < i → l[j]? = some x → typedF s x (o.args.getD j 0) = true) ∧ eget e 3 = .func (.func 132) [] [.ptr kv 0 0 1] ∧ eget e 4 = .ptr h.length 0 0 1 ∧ eget e 5 = .ptr H1.length 0 0 1 ∧ eget e 51 = .slice sz es .any ∧ eget e 52 = .int .i64 (es.length : Int) ∧ eget e 53 = .int .i64 (i : Int) ∧ st = ⟨H, ws, []⟩) ?_ es.length _ _
              ⟨0, H2, [], by omega, low2, kg2, kp, kv2, by simp, fun j x hj => by omega, by simp (disch := first | omega | decide | (simp only [eget_eput', ↓reduceIte, Nat.reduceEqDiff]; done)) only [go_sem, ↓reduceIte, Nat.reduceEqDiff, Nat.reduceAdd, Nat.reduceMul, reduceCtorEq], by simp (disch := first | omega | decide | (simp only [eget_eput', ↓reduceIte, Nat.reduceEqDiff]; done)) only [go_sem, ↓reduceIte, Nat.reduceEqDiff, Nat.reduceAdd, Nat.reduceMul, reduceCtorEq], by simp (disch := first | omega | decide | (simp only [eget_eput', ↓reduceIte, Nat.reduceEqDiff]; done)) only [go_sem, ↓reduceIte, Nat.reduceEqDiff, Nat.reduceAdd, Nat.reduceMul, reduceCtorEq], by simp (disch := first | omega | decide | (simp only [eget_eput', ↓reduceIte, Nat.reduceEqDiff]; done)) only [go_sem, ↓reduceIte, Nat.reduceEqDiff, Nat.reduceAdd, Nat.reduceMul, reduceCtorEq], by simp (disch := first | omega | decide | (simp only [eget_eput', ↓reduceIte, Nat.reduceEqDiff]; done)) only [go_sem, ↓reduceIte, Nat.reduceEqDiff, Nat.reduceAdd, Nat.reduceMul, reduceCtorEq], by simp (disch := first | omega | decide | (simp only [eget_eput', ↓reduceIte, Nat.reduceEqDiff]; done)) only [go_sem, ↓reduceIte, Nat.reduceEqDiff, Nat.reduceAdd, Nat.reduceMul, reduceCtorEq]; rfl, rfl⟩
            rintro g e st ⟨i, H, ws, hi, low, kg, kp, kv', hw, hok, e3, e4, e5, e51, e52, e53, rfl⟩
            by_cases h1 : i < es.length
            · have ga := get_lt h1
              have hx : l[i]? = some l[i] := List.getElem?_eq_getElem (by omega)
              have hE := he i l[i] es[i] hx ga
              have hshx : shapedF l[i] = true := List.all_eq_true.1 hall _ (List.getElem_mem _)
              have ihx := ih i l[i] es[i] hx ga hE.cells hE.facts hE.sub hshx
              generalize l[i] = x at *
              have hsz : sz = 3 := by
                rcases hz with rfl | h
                · simp at h1
                · exact h
              subst hsz
              obtain ⟨b1, b2, b3, b4⟩ := hE.cells
              have bt := hE.facts.1
              have bs := hE.sub
              generalize es[i] = q at *
              have sb := st_box (h := H) (ws := ws) (ups := []) (z := .agg [(.int .i64 0), (.int .i64 0), (.slice 0 [] .nil)]) (sz := 3) (c := q) b1 rfl b2 bt ⟨_, rfl⟩ b4
              have kq : (H ++ [AE.Obj.row 3 [q]])[H.length]? = some (.row 3 [q]) := by simp
              have kg3 : (H ++ [AE.Obj.row 3 [q]])[h.length]? = some (.row 2 [encSig s]) := keepL kg
              have kp3 : (H ++ [AE.Obj.row 3 [q]])[H1.length]? = some (.row 3 [P]) := keepL kp
              have kv3 : (H ++ [AE.Obj.row 3 [q]])[kv]? = some (.row 1 [.slice 0 [] .nil]) := keepL kv'
              have hHl := low.len
              have low3 : Low h.length h (H ++ [AE.Obj.row 3 [q]]) := low.push hHl
              generalize hH5 : H ++ [AE.Obj.row 3 [q]] = H5 at *
              have lq : loadAt true 3 (.ptr H.length 0 0 1) H5 = some q := by rw [ld_at kq]; exact bs
              have m1 : loadAt false 1 (.ptr H1.length 0 1 1) H5 = some (.int .i64 (N : Int)) := by rw [ld_at kp3, ← hP]; rfl
              have mg : loadAt false 1 (.ptr h.length 0 1 1) H5 = some (.slice 3 (s.ops.map encOp) .any) := by rw [ld_at kg3]; rfl
              have ms : loadAt true 2 (.ptr h.length 0 0 1) H5 = some (encSig s) := by rw [ld_at kg3]; rfl
              have hia : i < o.args.length := by omega
              have gA := get_enc hia
              have gD : o.args.getD i 0 = o.args[i] := by simp [List.getD_eq_getElem?_getD, hia]
              have ev := ihx (o.args[i]) H5 kv kv3
              have hw' : ∀ x ∈ wadd H.length ws, h.length ≤ x := wadd_low hHl hw
              cases hb : typedF s x o.args[i]
              · rw [hb] at ev
                have hfal := typedL_false (s := s) (bs := o.args) i hx (by rw [gD]; exact hb)
                rw [hfal]
                simp (disch := first | omega | decide | (simp only [eget_eput', ↓reduceIte, Nat.reduceEqDiff]; done)) only [go_sem, ↓reduceIte, Nat.reduceEqDiff, Nat.reduceAdd, Nat.reduceMul, reduceCtorEq, a131b0, e3, e4, e5, e51, e52, e53, h1, ga, bs, sb, hH5, lq, m1, mg, ms, go, so1, gA, cb ev, hT.prim, primOf, List.length_cons, List.length_nil]
                exact tidy_low rfl rfl low3 hw'
              · rw [hb] at ev
                simp (disch := first | omega | decide | (simp only [eget_eput', ↓reduceIte, Nat.reduceEqDiff]; done)) only [go_sem, ↓reduceIte, Nat.reduceEqDiff, Nat.reduceAdd, Nat.reduceMul, reduceCtorEq, a131b0, e3, e4, e5, e51, e52, e53, h1, ga, bs, sb, hH5, lq, m1, mg, ms, go, so1, gA, cb ev, hT.prim, primOf, List.length_cons, List.length_nil]
                refine ⟨g - 1, by omega, i + 1, H5, _, by omega, low3, kg3, kp3, kv3, hw', fun j y hj hy => ?_, rfl, rfl⟩
                by_cases hji : j = i
                · subst hji
                  rw [hx] at hy
                  cases hy
                  rw [gD]; exact hb
                · exact hok j y (by omega) hy
            · have htr : typedL s l o.args = true := typedL_true fun i x hx => hok i x (by have := (List.getElem?_eq_some_iff.1 hx).1; omega) hx
              rw [htr]
              simp (disch := first | omega | decide | (simp only [eget_eput', ↓reduceIte, Nat.reduceEqDiff]; done)) only [go_sem, ↓reduceIte, Nat.reduceEqDiff, Nat.reduceAdd, Nat.reduceMul, reduceCtorEq, a131b0, e3, e4, e5, e51, e52, e53, h1]
              exact tidy_low rfl rfl low hw
          · have hal' : ((o.args.length : Int) != (es.length : Int)) = true := by simp; omega
            simp (disch := first | omega | decide | (simp only [eget_eput', ↓reduceIte, Nat.reduceEqDiff]; done)) only [go_sem, ↓reduceIte, Nat.reduceEqDiff, Nat.reduceAdd, Nat.reduceMul, reduceCtorEq, hH1, hH2, c1, c3, List.length_cons, List.length_nil, l0, l1, l2, lg, hkb, hNO, hNO', go, so2, so1, hr', hal', hT.prim, primOf, td]
            simp [typedF, ho, hal]
        · have hr' : (o.res != a) = true := by simpa using hr
          simp (disch := first | omega | decide | (simp only [eget_eput', ↓reduceIte, Nat.reduceEqDiff]; done)) only [go_sem, ↓reduceIte, Nat.reduceEqDiff, Nat.reduceAdd, Nat.reduceMul, reduceCtorEq, hH1, hH2, c1, c3, List.length_cons, List.length_nil, l0, l1, l2, lg, hkb, hNO, hNO', go, so2, so1, hr', hT.prim, primOf, td]
          simp [typedF, ho, hr]
      · have hNO' : s.ops.length ≤ N := by omega
        simp (disch := first | omega | decide | (simp only [eget_eput', ↓reduceIte, Nat.reduceEqDiff]; done)) only [go_sem, ↓reduceIte, Nat.reduceEqDiff, Nat.reduceAdd, Nat.reduceMul, reduceCtorEq, hH1, hH2, c1, c3, List.length_cons, List.length_nil, l0, l1, l2, lg, hkb, hNO', hT.prim, primOf, td]
        simp [typedF, List.getElem?_eq_none hNO']
end Go.Proofs.Tryz
/- Sort, ground: what they say is what is so. -/
namespace Go.Proofs.Tryz
open Go Go.AE
variable {T : Tbl} (hT : Std T) {s : GSig}

mutual
theorem WT_of : ∀ (t : Tm) (a : Int), shapedF t = true → typedF s t a = true → WT s t a
  | .mk k n l, a, h1, h2 => by
    simp only [shapedF, Bool.and_eq_true, decide_eq_true_eq, Bool.or_eq_true, beq_iff_eq] at h1
    obtain ⟨⟨⟨⟨hn, _⟩, hk⟩, _⟩, hall⟩ := h1
    simp only [typedF, Bool.and_eq_true, Bool.not_eq_true', beq_eq_false_iff_ne, ne_eq] at h2
    obtain ⟨hk1, h2⟩ := h2
    cases ho : s.ops[n.toNat]? with
    | none => rw [ho] at h2; cases h2
    | some o =>
      rw [ho] at h2
      simp only [Bool.and_eq_true, beq_iff_eq, decide_eq_true_eq] at h2
      obtain ⟨⟨hr, hl⟩, ht⟩ := h2
      refine ⟨by rcases hk with h | h; exact absurd h hk1; exact h, hn, o, ho, hr, WTs_of2 l o.args hall ht hl⟩
theorem WTs_of2 : ∀ (l : List Tm) (bs : List Int), shapedL l = true → typedL s l bs = true → bs.length = l.length → WTs s l bs
  | [], [], _, _, _ => trivial
  | [], _ :: _, _, _, h => by simp at h
  | _ :: _, [], _, _, h => by simp at h
  | t :: l, b :: bs, h1, h2, h3 => by
    simp only [shapedL, Bool.and_eq_true] at h1
    simp only [typedL, Bool.and_eq_true] at h2
    exact ⟨WT_of t b h1.1 (by simpa using h2.1), WTs_of2 l bs h1.2 (by simpa using h2.2) (by simpa using h3)⟩
end
mutual
theorem of_WT (h8 : ∀ o ∈ s.ops, o.args.length ≤ 8) : ∀ (t : Tm) (a : Int), WT s t a → shapedF t = true ∧ typedF s t a = true
  | .mk k n l, a, h => by
    obtain ⟨rfl, hn, o, ho, hr, hl⟩ := h
    have hlen := WTs_len hl
    have := h8 o (List.mem_of_getElem? ho)
    obtain ⟨a1, a2⟩ := of_WTs h8 l o.args hl
    refine ⟨?_, ?_⟩
    · simp only [shapedF, Bool.and_eq_true, decide_eq_true_eq]
      exact ⟨⟨⟨⟨hn, rfl⟩, rfl⟩, by omega⟩, a1⟩
    · simp only [typedF, ho, hr, a2]
      simp; omega
theorem of_WTs (h8 : ∀ o ∈ s.ops, o.args.length ≤ 8) : ∀ (l : List Tm) (bs : List Int), WTs s l bs → shapedL l = true ∧ typedL s l bs = true
  | [], [], _ => ⟨rfl, rfl⟩
  | t :: l, b :: bs, h => by
    obtain ⟨a1, a2⟩ := of_WT h8 t b h.1
    obtain ⟨b1, b2⟩ := of_WTs h8 l bs h.2
    exact ⟨by simp [shapedL, a1, b1], by simp [typedL, a2, b2]⟩
  | [], _ :: _, h => h.elim
  | _ :: _, [], h => h.elim
end
/-- What Sort says. -/
def sortR (s : GSig) (t : Tm) : Int × Int := match t with
  | .mk k n l => if shapedF (.mk k n l) = true ∧ k = 2 then (match s.ops[n.toNat]? with
      | some o => if typedF s (.mk k n l) o.res = true then (o.res, 0) else (0, 4)
      | none => (0, 4)) else (0, 4)
theorem sortR_WT {t : Tm} (h : (sortR s t).2 = 0) : WT s t (sortR s t).1 := by
  obtain ⟨k, n, l⟩ := t
  simp only [sortR] at h ⊢
  split at h
  · rename_i h1
    rw [if_pos h1]
    split at h
    · rename_i o ho
      split at h
      · rename_i h2
        simp only [h2, if_true]
        exact WT_of _ _ h1.1 h2
      · simp at h
    · simp at h
  · simp at h
theorem sortR_of (h8 : ∀ o ∈ s.ops, o.args.length ≤ 8) {t : Tm} {a : Int} (h : WT s t a) : sortR s t = (a, 0) := by
  obtain ⟨h1, h2⟩ := of_WT h8 t a h
  obtain ⟨k, n, l⟩ := t
  obtain ⟨rfl, hn, o, ho, hr, hl⟩ := h
  simp only [sortR]
  rw [if_pos ⟨h1, trivial⟩, ho]
  simp only [hr, h2, if_true]
include hT in
theorem contains65_nil {g : FuncId} {cap : List PV} {m : SM} (h : List AE.Obj) : Ev T 65 [.slice 0 [] m, .func (.func g) [] cap] h (.val (.bool false), ⟨h, [], []⟩) := by
  have i149 : Ev T 149 [.slice 0 [] m, .func (.func g) [] cap] h (.val (.int .i64 (-1)), ⟨h, [], []⟩) := by
    refine Ev.walk (hT.sp _ (by decide)) ((hT.fn _).trans fn149) (hT.mode _) rfl ?_
    simp (disch := first | omega | decide | (simp only [eget_eput', ↓reduceIte, Nat.reduceEqDiff]; done)) only [go_sem, ↓reduceIte, Nat.reduceEqDiff, Nat.reduceAdd, Nat.reduceMul, reduceCtorEq, List.length_nil]
    refine unroll ?_
    have n0 : ¬ ((0 : Int) < ((0 : Nat) : Int)) := by omega
    simp (disch := first | omega | decide | (simp only [eget_eput', ↓reduceIte, Nat.reduceEqDiff]; done)) only [go_sem, ↓reduceIte, Nat.reduceEqDiff, Nat.reduceAdd, Nat.reduceMul, reduceCtorEq, a149b0, n0]
  refine Ev.walk (hT.sp _ (by decide)) ((hT.fn _).trans fn65) (hT.mode _) rfl ?_
  have n1 : ¬ ((0 : Int) ≤ -1) := by omega
  simp (disch := first | omega | decide | (simp only [eget_eput', ↓reduceIte, Nat.reduceEqDiff]; done)) only [go_sem, ↓reduceIte, Nat.reduceEqDiff, Nat.reduceAdd, Nat.reduceMul, reduceCtorEq, cb i149, hT.prim, primOf, n1]
include hT in
theorem sort_err {r : Int} (hr : r ≠ 0) (E87 : ∀ h, Ev T 87 [encSig s] h (.val (.int .i64 r), ⟨h, [], []⟩)) {t : Tm} {p : PV} (ht : Enc t p) (h : List AE.Obj) : Ev T 45 [encSig s, .slice 0 [] .nil, p] h (.val (.tuple [.int .i64 0, .int .i64 40]), ⟨h, [], []⟩) := by
  refine Ev.walk (hT.sp _ (by decide)) ((hT.fn _).trans fn45) (hT.mode _) rfl ?_
  obtain ⟨c1, c2, c3, c4⟩ := ht.cells
  have hr' : (r != 0) = true := by simpa using hr
  have kg : (((h ++ [AE.Obj.row 2 [encSig s]]) ++ [AE.Obj.row 1 [PV.slice 0 [] .nil]]) ++ [AE.Obj.row 3 [p]])[h.length]? = some (.row 2 [encSig s]) := keepL (keepL (by simp))
  have lg : loadAt true 2 (.ptr h.length 0 0 1) (((h ++ [AE.Obj.row 2 [encSig s]]) ++ [AE.Obj.row 1 [PV.slice 0 [] .nil]]) ++ [AE.Obj.row 3 [p]]) = some (encSig s) := by rw [ld_at kg]; rfl
  simp (disch := first | omega | decide | (simp only [eget_eput', ↓reduceIte, Nat.reduceEqDiff]; done)) only [go_sem, ↓reduceIte, Nat.reduceEqDiff, Nat.reduceAdd, Nat.reduceMul, reduceCtorEq, c1, c3, lg, cb (E87 _), hr', hT.prim, primOf, List.length_cons, List.length_nil]
include hT in
theorem sort_ev (hs : GOk s) (E87 : ∀ h, Ev T 87 [encSig s] h (.val (.int .i64 0), ⟨h, [], []⟩)) {t : Tm} {p : PV} (ht : Enc t p) (hn : t.nodes ≤ 200) (h : List AE.Obj) :
    Ev T 45 [encSig s, .slice 0 [] .nil, p] h (.val (.tuple [.int .i64 (sortR s t).1, .int .i64 (sortR s t).2]), ⟨h, [], []⟩) := by
  refine Ev.walk (hT.sp _ (by decide)) ((hT.fn _).trans fn45) (hT.mode _) rfl ?_
  have htr := tree_ev hT ht hn
  have hty := fun hsh a h kv hv => typed_ev hT hs ht hsh a h kv hv
  have hsub := ht.sub
  obtain ⟨c1, c2, c3, c4⟩ := ht.cells
  have hnO := hs.nO
  have kg : (((h ++ [AE.Obj.row 2 [encSig s]]) ++ [AE.Obj.row 1 [PV.slice 0 [] .nil]]) ++ [AE.Obj.row 3 [p]])[h.length]? = some (.row 2 [encSig s]) := keepL (keepL (by simp))
  have hl1 : (h ++ [AE.Obj.row 2 [encSig s]]).length = h.length + 1 := by simp
  have kv : (((h ++ [AE.Obj.row 2 [encSig s]]) ++ [AE.Obj.row 1 [PV.slice 0 [] .nil]]) ++ [AE.Obj.row 3 [p]])[(h ++ [AE.Obj.row 2 [encSig s]]).length]? = some (.row 1 [.slice 0 [] .nil]) := keepL (by simp)
  have kp : (((h ++ [AE.Obj.row 2 [encSig s]]) ++ [AE.Obj.row 1 [PV.slice 0 [] .nil]]) ++ [AE.Obj.row 3 [p]])[((h ++ [AE.Obj.row 2 [encSig s]]) ++ [AE.Obj.row 1 [PV.slice 0 [] .nil]]).length]? = some (.row 3 [p]) := by simp
  have low : Low h.length h (((h ++ [AE.Obj.row 2 [encSig s]]) ++ [AE.Obj.row 1 [PV.slice 0 [] .nil]]) ++ [AE.Obj.row 3 [p]]) := (((Low.refl _ _).push (Nat.le_refl _)).push (by simp)).push (by simp)
  generalize hk1 : (h ++ [AE.Obj.row 2 [encSig s]]).length = k1 at *
  generalize hk2 : ((h ++ [AE.Obj.row 2 [encSig s]]) ++ [AE.Obj.row 1 [PV.slice 0 [] .nil]]).length = k2 at *
  generalize hH : ((h ++ [AE.Obj.row 2 [encSig s]]) ++ [AE.Obj.row 1 [PV.slice 0 [] .nil]]) ++ [AE.Obj.row 3 [p]] = H at *
  have lg : loadAt true 2 (.ptr h.length 0 0 1) H = some (encSig s) := by rw [ld_at kg]; rfl
  have lg1 : loadAt false 1 (.ptr h.length 0 1 1) H = some (.slice 3 (s.ops.map encOp) .any) := by rw [ld_at kg]; rfl
  have lv : loadAt false 1 (.ptr k1 0 0 1) H = some (.slice 0 [] .nil) := by rw [ld_at kv]; rfl
  have lp : loadAt true 3 (.ptr k2 0 0 1) H = some p := by rw [ld_at kp]; exact hsub
  have c65' := contains65_nil hT (g := 129) (cap := [.ptr (h.length) 0 0 1]) (m := .nil) H
  have td : ∀ a b, tidy 0 h.length (.val (.tuple [.int .i64 a, .int .i64 b])) ⟨H, [], []⟩ = (.val (.tuple [.int .i64 a, .int .i64 b]), ⟨h, [], []⟩) := fun a b => tidy_low rfl rfl low (by simp)
  cases hsh : shapedF t
  · have hF : sortR s t = (0, 4) := by
      obtain ⟨k, n, l⟩ := t
      simp [sortR, hsh]
    rw [hF]
    rw [hsh] at htr
    simp (disch := first | omega | decide | (simp only [eget_eput', ↓reduceIte, Nat.reduceEqDiff]; done)) only [go_sem, ↓reduceIte, Nat.reduceEqDiff, Nat.reduceAdd, Nat.reduceMul, reduceCtorEq, hk1, hk2, hH, c1, c3, lg, cb (E87 _), lv, cb c65', lp, cb (htr _), bne_self_eq_false, hT.prim, primOf, List.length_cons, List.length_nil, td]
  · rw [hsh] at htr
    cases ht with
    | mk k n l sz es hz hl he =>
      have lp0 : loadAt false 1 (.ptr k2 0 0 1) H = some (.int .i64 k) := by rw [ld_at kp]; rfl
      have lp1 : loadAt false 1 (.ptr k2 0 1 1) H = some (.int .i64 n) := by rw [ld_at kp]; rfl
      have hsh' := hsh
      simp only [shapedF, Bool.and_eq_true, decide_eq_true_eq, Bool.or_eq_true, beq_iff_eq] at hsh
      obtain ⟨⟨⟨⟨hn0, _⟩, hk12⟩, _⟩, _⟩ := hsh
      obtain ⟨N, rfl⟩ := Int.eq_ofNat_of_zero_le hn0
      have b10 : ¬ ((N : Int) < ((0 : Nat) : Int)) := by omega
      have m1 : ((-1 : Int) < 0) := by omega
      rcases hk12 with rfl | rfl
      · have hF : sortR s (.mk 1 N l) = (0, 4) := by simp [sortR]
        rw [hF]
        have b11 : ((1 : Int) == 1) = true := rfl
        have b12 : ((1 : Int) == 2) = false := rfl
        simp (disch := first | omega | decide | (simp only [eget_eput', ↓reduceIte, Nat.reduceEqDiff]; done)) only [go_sem, ↓reduceIte, Nat.reduceEqDiff, Nat.reduceAdd, Nat.reduceMul, reduceCtorEq, hk1, hk2, hH, c1, c3, lg, cb (E87 _), lv, cb c65', lp, cb (htr _), bne_self_eq_false, hT.prim, primOf, List.length_cons, List.length_nil, td, lp0, lp1, b11, b12, b10, m1]
      · have b11 : ((2 : Int) == 1) = false := rfl
        have b12 : ((2 : Int) == 2) = true := rfl
        by_cases hNO : N < s.ops.length
        · have go := get_op hNO
          have ho : s.ops[N]? = some s.ops[N] := List.getElem?_eq_getElem hNO
          obtain ⟨a1, a2, a3⟩ := hs.ops _ (List.mem_of_getElem? ho)
          generalize s.ops[N] = o at *
          have so2 : sub false 1 (encOp o) 2 = some (.int .i64 o.res) := rfl
          have r0 : ¬ o.res < 0 := by omega
          have ety := hty hsh' o.res H k1 kv
          cases hb : typedF s (.mk 2 N l) o.res
          · have hF : sortR s (.mk 2 N l) = (0, 4) := by simp [sortR, hsh', ho, hb]
            rw [hF]
            rw [hb] at ety
            simp (disch := first | omega | decide | (simp only [eget_eput', ↓reduceIte, Nat.reduceEqDiff]; done)) only [go_sem, ↓reduceIte, Nat.reduceEqDiff, Nat.reduceAdd, Nat.reduceMul, reduceCtorEq, hk1, hk2, hH, c1, c3, lg, lg1, cb (E87 _), lv, cb c65', lp, cb (htr _), bne_self_eq_false, hT.prim, primOf, List.length_cons, List.length_nil, td, lp0, lp1, b11, b12, hNO, go, so2, r0, cb ety]
          · have hF : sortR s (.mk 2 N l) = (o.res, 0) := by simp [sortR, hsh', ho, hb]
            rw [hF]
            rw [hb] at ety
            simp (disch := first | omega | decide | (simp only [eget_eput', ↓reduceIte, Nat.reduceEqDiff]; done)) only [go_sem, ↓reduceIte, Nat.reduceEqDiff, Nat.reduceAdd, Nat.reduceMul, reduceCtorEq, hk1, hk2, hH, c1, c3, lg, lg1, cb (E87 _), lv, cb c65', lp, cb (htr _), bne_self_eq_false, hT.prim, primOf, List.length_cons, List.length_nil, td, lp0, lp1, b11, b12, hNO, go, so2, r0, cb ety]
        · have hF : sortR s (.mk 2 N l) = (0, 4) := by simp [sortR, hsh', List.getElem?_eq_none (show s.ops.length ≤ N by omega)]
          rw [hF]
          simp (disch := first | omega | decide | (simp only [eget_eput', ↓reduceIte, Nat.reduceEqDiff]; done)) only [go_sem, ↓reduceIte, Nat.reduceEqDiff, Nat.reduceAdd, Nat.reduceMul, reduceCtorEq, hk1, hk2, hH, c1, c3, lg, lg1, cb (E87 _), lv, cb c65', lp, cb (htr _), bne_self_eq_false, hT.prim, primOf, List.length_cons, List.length_nil, td, lp0, lp1, b11, b12, hNO, m1]
end Go.Proofs.Tryz
/- number: what it adds up. -/
namespace Go.Proofs.Tryz
open Go Go.AE
variable {T : Tbl} (hT : Std T) {s : GSig}

/-- Two lists of numbers that grow side by side. -/
def App2 (H : List AE.Obj) (v w : PV) (xs ys : List Int) (lo : Nat) : Prop := (xs = [] ∧ ys = [] ∧ v = .slice 0 [] .nil ∧ w = .slice 0 [] .nil) ∨
  ∃ k1 k2, k1 ≠ k2 ∧ v = .slice 1 (xs.map encI) (.tok k1) ∧ w = .slice 1 (ys.map encI) (.tok k2) ∧ H[k1]? = some (.tok 1 xs.length) ∧ H[k2]? = some (.tok 1 ys.length) ∧ lo ≤ k1 ∧ lo ≤ k2
theorem App2.slices {H : List AE.Obj} {v w : PV} {xs ys : List Int} {lo : Nat} (A : App2 H v w xs ys lo) : ∃ z1 m1 z2 m2, v = .slice z1 (xs.map encI) m1 ∧ w = .slice z2 (ys.map encI) m2 ∧ (xs = [] ∨ z1 = 1) ∧ (ys = [] ∨ z2 = 1) := by
  rcases A with ⟨rfl, rfl, rfl, rfl⟩ | ⟨k1, k2, _, rfl, rfl, _⟩
  · exact ⟨0, .nil, 0, .nil, rfl, rfl, .inl rfl, .inl rfl⟩
  · exact ⟨1, _, 1, _, rfl, rfl, .inr rfl, .inr rfl⟩
theorem App2.push {H : List AE.Obj} {o : AE.Obj} {v w : PV} {xs ys : List Int} {lo : Nat} (A : App2 H v w xs ys lo) : App2 (H ++ [o]) v w xs ys lo := by
  rcases A with h | ⟨k1, k2, h0, h1, h2, h3, h4, h5, h6⟩
  · exact .inl h
  · exact .inr ⟨k1, k2, h0, h1, h2, keepL h3, keepL h4, h5, h6⟩
theorem app2_one {H : List AE.Obj} {v w : PV} {xs ys : List Int} {lo : Nat} (A : App2 H v w xs ys lo) (hx : xs.length < 100000) (hy : ys.length < 100000) (hlo : lo ≤ H.length) (ws : List Nat) (m n : Int) :
    ∃ v' w' H1 ws1 H2 ws2, (∀ ups, appendop 1 8 v (.slice 1 [.int .i64 m] .lit) ⟨H, ws, ups⟩ = some (v', ⟨H1, ws1, ups⟩)) ∧ (∀ ups, appendop 1 8 w (.slice 1 [.int .i64 n] .lit) ⟨H1, ws1, ups⟩ = some (w', ⟨H2, ws2, ups⟩)) ∧
      App2 H2 v' w' (xs ++ [m]) (ys ++ [n]) lo ∧ (∀ (j sz : Nat) (r : List PV), H[j]? = some (.row sz r) → H2[j]? = some (.row sz r)) ∧ Low lo H H2 ∧ ∀ x ∈ ws2, x ∈ ws ∨ lo ≤ x := by
  have hr : ∀ l : List Int, l.length < 100000 → (l.length + 1) * 8 ≤ room ∧ l.length + 1 ≤ room := fun l hl => by
    have : 10000000 ≤ room := by decide
    constructor <;> omega
  have ci : ∀ n : Int, (PV.int .i64 n).cells.all PV.isCell = true := fun _ => rfl
  have hrx := hr xs hx
  have hry := hr ys hy
  rcases A with ⟨rfl, rfl, rfl, rfl⟩ | ⟨k1, k2, h0, rfl, rfl, h3, h4, h5, h6⟩
  · simp at hrx
    refine ⟨.slice 1 [.int .i64 m] (.tok H.length), .slice 1 [.int .i64 n] (.tok (H ++ [AE.Obj.tok 1 1]).length), H ++ [.tok 1 1], ws, (H ++ [.tok 1 1]) ++ [.tok 1 1], ws, fun ups => ?_, fun ups => ?_, .inr ⟨H.length, (H ++ [AE.Obj.tok 1 1]).length, by simp, rfl, rfl, keepL (by simp), by simp, hlo, by simp; omega⟩, fun j sz r hj => keepL (keepL hj), ((Low.refl _ _).push hlo).push (by simp; omega), fun x hx => .inl hx⟩
    · simp [appendop, elems, ci, hrx, alloc]
    · simp [appendop, elems, ci, hrx, alloc]
  · have g2 : (H.set k1 (.tok 1 (xs.length + 1)))[k2]? = some (.tok 1 ys.length) := get_set_ne h4 h0
    refine ⟨.slice 1 ((xs ++ [m]).map encI) (.tok k1), .slice 1 ((ys ++ [n]).map encI) (.tok k2), H.set k1 (.tok 1 (xs.length + 1)), wadd k1 ws, (H.set k1 (.tok 1 (xs.length + 1))).set k2 (.tok 1 (ys.length + 1)), wadd k2 (wadd k1 ws), fun ups => ?_, fun ups => ?_, .inr ⟨k1, k2, h0, rfl, rfl, ?_, ?_, h5, h6⟩, fun j sz r hj => ?_, (Low.set h5).trans (.set h6), fun x hx => ?_⟩
    · simp [appendop, elems, ci, hrx, h3, wrote_none, encI]
    · simp [appendop, elems, ci, hry, g2, wrote_none, encI]
    · rw [get_set_ne (get_set h3) (Ne.symm h0)]; simp
    · rw [get_set g2]; simp
    · refine get_set_ne (get_set_ne hj ?_) ?_
      · rintro rfl; rw [h3] at hj; cases hj
      · rintro rfl; rw [h4] at hj; cases hj
    · rcases mem_wadd hx with h | h
      · rw [h]; exact .inr h6
      · rcases mem_wadd h with h | h
        · rw [h]; exact .inr h5
        · exact .inl h
theorem fe_int (n : Int) : fillE 1 (List.replicate 1 (PV.int .i64 0)) [(0, .int .i64 n)] = some [.int .i64 n] := rfl
/-- Sizes, as numbers. -/
def szsI (l : List Tm) : List Int := l.map fun t => (t.nodes : Int)
theorem szsI_get {l : List Tm} {k : Nat} (h : k < l.length) : (szsI l).map encI = (szsI l).map encI ∧ ((szsI l).map encI)[k]? = some (.int .i64 (((l.map Tm.nodes).getD k 0 : Nat) : Int)) := by
  refine ⟨rfl, ?_⟩
  rw [szs_get (getD_mem h)]
  simp [szsI, encI, h]
theorem numL_len : ∀ l : List Tm, (numL s l).length = l.length
  | [] => rfl
  | t :: l => by simp [numL, numL_len l]
theorem numL_take : ∀ (l : List Tm) (i : Nat), (numL s l).take i = numL s (l.take i)
  | [], _ => by simp [numL]
  | t :: l, 0 => by simp [numL]
  | t :: l, i + 1 => by simp [numL, numL_take l i]
theorem numL_app : ∀ (a b : List Tm), numL s (a ++ b) = numL s a ++ numL s b
  | [], _ => rfl
  | t :: a, b => by simp [numL, numL_app a b]
theorem take_app {l : List Tm} {i : Nat} {t : Tm} (h : l[i]? = some t) : l.take (i + 1) = l.take i ++ [t] := by
  rw [List.take_add_one, h]; rfl
include hT in
theorem number_b0 {l : List Tm} {z3 : Nat} {es : List PV} (hs3 : es = [] ∨ z3 = 3) (hl : es.length = l.length) (he : ∀ (i : Nat) (x : Tm) (p : PV), l[i]? = some x → es[i]? = some p → Enc x p) (hl9 : nodesL l < 1000)
    (ev : ∀ (i : Nat) (x : Tm) (p : PV), l[i]? = some x → es[i]? = some p → ∀ h, Ev T 96 [.iptr (tabV s) 0, p] h (.val (.tuple [.int .i64 (x.num s), .int .i64 (x.nodes : Int)]), ⟨h, [], []⟩))
    {h H0 : List AE.Obj} {ws0 : List Nat} {e0 : List PV} {k3 k6 : Nat} {P : PV} {o : GOp} {Q : AExit → List PV → St → Prop} (low0 : Low h.length h H0) (hw0 : ∀ x ∈ ws0, h.length ≤ x) (hk3 : H0[k3]? = some (.row 3 [P])) (hk6 : H0[k6]? = some (.row 3 [encOp o]))
    (f0 : eget e0 0 = .iptr (tabV s) 0) (f3 : eget e0 3 = .ptr k3 0 0 1) (f6 : eget e0 6 = .ptr k6 0 0 1) (f7 : eget e0 7 = .slice 0 [] .nil) (f8 : eget e0 8 = .slice 0 [] .nil) (f9 : eget e0 9 = .int .i64 1) (f33 : eget e0 33 = .slice z3 es .any) (f34 : eget e0 34 = .int .i64 (es.length : Int)) (f35 : eget e0 35 = .int .i64 0)
    (hQ : ∀ e' H ws v w, Low h.length h H → (∀ x ∈ ws, h.length ≤ x) → H[k3]? = some (.row 3 [P]) → H[k6]? = some (.row 3 [encOp o]) → App2 H v w (szsI l) (numL s l) h.length → eget e' 0 = .iptr (tabV s) 0 → eget e' 3 = .ptr k3 0 0 1 → eget e' 6 = .ptr k6 0 0 1 → eget e' 7 = v → eget e' 8 = w → eget e' 9 = .int .i64 ((1 + nodesL l : Nat) : Int) → Q (.exit 0) e' ⟨H, ws, []⟩) :
    wpC T (.loop a96b0) e0 ⟨H0, ws0, []⟩ Q := by
  refine wpC.loopM (fun g e st => ∃ (i : Nat) (H : List AE.Obj) (ws : List Nat) (v w : PV), i + g = es.length ∧ Low h.length h H ∧ (∀ x ∈ ws, h.length ≤ x) ∧ H[k3]? = some (.row 3 [P]) ∧ H[k6]? = some (.row 3 [encOp o]) ∧ App2 H v w (szsI (l.take i)) (numL s (l.take i)) h.length ∧ eget e 0 = .iptr (tabV s) 0 ∧ eget e 3 = .ptr k3 0 0 1 ∧ eget e 6 = .ptr k6 0 0 1 ∧ eget e 7 = v ∧ eget e 8 = w ∧ eget e 9 = .int .i64 ((1 + nodesL (l.take i) : Nat) : Int) ∧ eget e 33 = .slice z3 es .any ∧ eget e 34 = .int .i64 (es.length : Int) ∧ eget e 35 = .int .i64 (i : Int) ∧ st = ⟨H, ws, []⟩) ?_ es.length _ _
    ⟨0, H0, ws0, _, _, by omega, low0, hw0, hk3, hk6, .inl ⟨rfl, rfl, rfl, rfl⟩, f0, f3, f6, f7, f8, f9, f33, f34, f35, rfl⟩
  rintro g e st ⟨i, H, ws, v, w, hi, low, hw, hk3, hk6, A, e0, e3, e6, e7, e8, e9, e33, e34, e35, rfl⟩
  by_cases h1 : i < es.length
  · have ga := get_lt h1
    have hx : l[i]? = some l[i] := List.getElem?_eq_getElem (by omega)
    have hE := he i l[i] es[i] hx ga
    have evx := ev i l[i] es[i] hx ga
    have htk := take_app hx
    have hnt := nodesL_take hx
    have hng := nodesL_get hx
    have hll := nodesL_len l
    generalize l[i] = x at *
    have hsz : z3 = 3 := by
      rcases hs3 with rfl | h
      · simp at h1
      · exact h
    subst hsz
    obtain ⟨b1, b2, b3, b4⟩ := hE.cells
    have bt := hE.facts.1
    have bs := hE.sub
    generalize es[i] = q at *
    have sb := st_box (h := H) (ws := ws) (ups := []) (z := .agg [(.int .i64 0), (.int .i64 0), (.slice 0 [] .nil)]) (sz := 3) (c := q) b1 rfl b2 bt ⟨_, rfl⟩ b4
    have kq : (H ++ [AE.Obj.row 3 [q]])[H.length]? = some (.row 3 [q]) := by simp
    have hHl := low.len
    have low1 : Low h.length h (H ++ [AE.Obj.row 3 [q]]) := low.push hHl
    have hk3' : (H ++ [AE.Obj.row 3 [q]])[k3]? = some (.row 3 [P]) := keepL hk3
    have hk6' : (H ++ [AE.Obj.row 3 [q]])[k6]? = some (.row 3 [encOp o]) := keepL hk6
    have A1 := A.push (o := AE.Obj.row 3 [q])
    generalize hH5 : H ++ [AE.Obj.row 3 [q]] = H5 at *
    have lq : loadAt true 3 (.ptr H.length 0 0 1) H5 = some q := by rw [ld_at kq]; exact bs
    obtain ⟨v', w', Ha, wsa, Hb, wsb, ap1, ap2, A2, keep, low2, hwb⟩ := app2_one A1 (by simp [szsI]; omega) (by rw [numL_len]; simp; omega) low1.len (wadd H.length ws) (x.nodes : Int) (x.num s)
    have hcast : ((1 + nodesL (l.take i) : Nat) : Int) + (x.nodes : Int) = ((1 + nodesL (l.take (i + 1)) : Nat) : Int) := by rw [hnt]; omega
    have w64 : IntKind.i64.wrap (((1 + nodesL (l.take i) : Nat) : Int) + (x.nodes : Int)) = ((1 + nodesL (l.take (i + 1)) : Nat) : Int) := by rw [wrap64 (by omega) (by omega), hcast]
    simp (disch := first | omega | decide | (simp only [eget_eput', ↓reduceIte, Nat.reduceEqDiff]; done)) only [go_sem, ↓reduceIte, Nat.reduceEqDiff, Nat.reduceAdd, Nat.reduceMul, reduceCtorEq, a96b0, e0, e3, e6, e7, e8, e9, e33, e34, e35, h1, ga, bs, sb, hH5, lq, cb (evx _), hT.prim, primOf, fe_int, ap1, ap2, w64, List.length_cons, List.length_nil]
    refine ⟨g - 1, by omega, i + 1, Hb, wsb, v', w', by omega, low1.trans low2, fun y hy => ?_, keep _ _ _ hk3', keep _ _ _ hk6', ?_, rfl, rfl, ?_, rfl, rfl⟩
    · rcases hwb y hy with h | h
      · rcases mem_wadd h with h | h
        · rw [h]; exact hHl
        · exact hw y h
      · exact h
    · rw [htk, numL_app]
      simpa [szsI, numL] using A2
    · first | rfl | rw [hcast]
  · have : i = l.length := by omega
    subst this
    rw [List.take_length] at A e9
    simp (disch := first | omega | decide | (simp only [eget_eput', ↓reduceIte, Nat.reduceEqDiff]; done)) only [go_sem, ↓reduceIte, Nat.reduceEqDiff, Nat.reduceAdd, Nat.reduceMul, reduceCtorEq, a96b0, e0, e3, e6, e7, e8, e9, e33, e34, e35, h1]
    exact hQ _ H ws v w low hw hk3 hk6 A (by simp (disch := first | omega | decide | (simp only [eget_eput', ↓reduceIte, Nat.reduceEqDiff]; done)) only [go_sem, ↓reduceIte, Nat.reduceEqDiff, Nat.reduceAdd, Nat.reduceMul, reduceCtorEq, e0]) (by simp (disch := first | omega | decide | (simp only [eget_eput', ↓reduceIte, Nat.reduceEqDiff]; done)) only [go_sem, ↓reduceIte, Nat.reduceEqDiff, Nat.reduceAdd, Nat.reduceMul, reduceCtorEq, e3]) (by simp (disch := first | omega | decide | (simp only [eget_eput', ↓reduceIte, Nat.reduceEqDiff]; done)) only [go_sem, ↓reduceIte, Nat.reduceEqDiff, Nat.reduceAdd, Nat.reduceMul, reduceCtorEq, e6]) (by simp (disch := first | omega | decide | (simp only [eget_eput', ↓reduceIte, Nat.reduceEqDiff]; done)) only [go_sem, ↓reduceIte, Nat.reduceEqDiff, Nat.reduceAdd, Nat.reduceMul, reduceCtorEq, e7]) (by simp (disch := first | omega | decide | (simp only [eget_eput', ↓reduceIte, Nat.reduceEqDiff]; done)) only [go_sem, ↓reduceIte, Nat.reduceEqDiff, Nat.reduceAdd, Nat.reduceMul, reduceCtorEq, e8]) (by simp (disch := first | omega | decide | (simp only [eget_eput', ↓reduceIte, Nat.reduceEqDiff]; done)) only [go_sem, ↓reduceIte, Nat.reduceEqDiff, Nat.reduceAdd, Nat.reduceMul, reduceCtorEq, e9])
end Go.Proofs.Tryz
/- number: the sums. -/
namespace Go.Proofs.Tryz
open Go Go.AE
variable {T : Tbl} (hT : Std T) {s : GSig}

theorem tab_t1 : sub false 1 (tabV s) 1 = some (.slice 3 (s.ops.map encOp) .any) := rfl
theorem tab_t3 : sub false 1 (tabV s) 3 = some (.slice 1 ((tabOf s).2.map fun r => .slice 61 (r.map arr) .any) .any) := rfl
@[go_sem] theorem encOp_sub2 {o : GOp} : sub false 1 (encOp o) 2 = some (.int .i64 o.res) := rfl
@[go_sem] theorem encOp_sub1 {o : GOp} : sub false 1 (encOp o) 1 = some (.slice 1 (o.args.map encI) .any) := rfl
include hT in
theorem number_b1 (hs : GOk s) {N p : Nat} (hN : N ≤ s.ops.length) (hp : p < 60) {H : List AE.Obj} {ws : List Nat} {e0 : List PV} {k3 k6 : Nat} {v w : PV} {o : GOp} {Q : AExit → List PV → St → Prop} (hk6 : H[k6]? = some (.row 3 [encOp o]))
    (f0 : eget e0 0 = .iptr (tabV s) 0) (f3 : eget e0 3 = .ptr k3 0 0 1) (f6 : eget e0 6 = .ptr k6 0 0 1) (f7 : eget e0 7 = v) (f8 : eget e0 8 = w) (f9 : eget e0 9 = .int .i64 ((p + 1 : Nat) : Int)) (f14 : eget e0 14 = .int .i64 0) (f58 : eget e0 58 = .int .i64 (N : Int)) (f59 : eget e0 59 = .int .i64 0)
    (hQ : ∀ e', eget e' 0 = .iptr (tabV s) 0 → eget e' 3 = .ptr k3 0 0 1 → eget e' 6 = .ptr k6 0 0 1 → eget e' 7 = v → eget e' 8 = w → eget e' 9 = .int .i64 ((p + 1 : Nat) : Int) → eget e' 14 = .int .i64 (cap (aT s.ops (tabOf s) o.res p N)) → Q (.exit 2) e' ⟨H, ws, []⟩) :
    wpC T (.loop a96b1) e0 ⟨H, ws, []⟩ Q := by
  have hnO := hs.nO
  obtain ⟨_, K⟩ := tabOf_sem hs.ops
  refine wpC.loopM (fun g e st => ∃ i : Nat, i + g = N ∧ eget e 0 = .iptr (tabV s) 0 ∧ eget e 3 = .ptr k3 0 0 1 ∧ eget e 6 = .ptr k6 0 0 1 ∧ eget e 7 = v ∧ eget e 8 = w ∧ eget e 9 = .int .i64 ((p + 1 : Nat) : Int) ∧ eget e 14 = .int .i64 (cap (aT s.ops (tabOf s) o.res p i)) ∧ eget e 58 = .int .i64 (N : Int) ∧ eget e 59 = .int .i64 (i : Int) ∧ st = ⟨H, ws, []⟩) ?_ N _ _
    ⟨0, by omega, f0, f3, f6, f7, f8, f9, f14, f58, f59, rfl⟩
  rintro g e st ⟨i, hi, e0, e3, e6, e7, e8, e9, e14, e58, e59, rfl⟩
  have l2 : loadAt false 1 (.ptr k6 0 2 1) H = some (.int .i64 o.res) := by rw [ld_at hk6]; rfl
  by_cases h1 : i < N
  · have hiO : i < s.ops.length := by omega
    have go := get_op hiO
    have ho : s.ops[i]? = some s.ops[i] := List.getElem?_eq_getElem hiO
    have C := nthC hs ho
    generalize s.ops[i] = oi at *
    have gr := C.gr
    have gk := get_arr C.okR (k := 0) (by rw [C.rl]; omega)
    have hr0 := (C.okR.get (k := 0) (by rw [C.rl]; omega)).2
    have hp61 : p < 61 := by omega
    have lw := ld_arr hr0 hp61
    have bw := (hr0.get hp61).2
    have a0 := aT_nn K (r := o.res) (p := p) i
    have c1 := fun h => plus_ev hT (h := h) (cap_nn a0) (cap_top _) bw.1 bw.2
    simp only [cap_def] at c1
    have hn1 : aT s.ops (tabOf s) o.res p (i + 1) = aT s.ops (tabOf s) o.res p i + if oi.res = o.res then (((tabOf s).2.getD i []).getD 0 []).getD p 0 else 0 := by simp only [aT, ho]
    by_cases hr : oi.res = o.res
    · rw [if_pos hr] at hn1
      have b1 : (oi.res == o.res) = true := by simpa using hr
      rw [cap_cap_add bw.1, ← hn1] at c1
      simp (disch := first | omega | decide | (simp only [eget_eput', ↓reduceIte, Nat.reduceEqDiff]; done)) only [go_sem, ↓reduceIte, Nat.reduceEqDiff, Nat.reduceAdd, Nat.reduceMul, reduceCtorEq, a96b1, e0, e3, e6, e7, e8, e9, e14, e58, e59, h1, tab_t1, tab_t3, go, b1, l2, gr, gk, lw, hp61, cb (c1 _), hT.prim, primOf]
      exact ⟨g - 1, by omega, i + 1, by omega, rfl, rfl, trivial⟩
    · rw [if_neg hr, Int.add_zero] at hn1
      have b1 : (oi.res == o.res) = false := by simpa using hr
      simp (disch := first | omega | decide | (simp only [eget_eput', ↓reduceIte, Nat.reduceEqDiff]; done)) only [go_sem, ↓reduceIte, Nat.reduceEqDiff, Nat.reduceAdd, Nat.reduceMul, reduceCtorEq, a96b1, e0, e3, e6, e7, e8, e9, e14, e58, e59, h1, tab_t1, tab_t3, go, b1, l2, hT.prim, primOf]
      exact ⟨g - 1, by omega, i + 1, by omega, by rw [hn1], rfl, trivial⟩
  · have : i = N := by omega
    subst this
    simp (disch := first | omega | decide | (simp only [eget_eput', ↓reduceIte, Nat.reduceEqDiff]; done)) only [go_sem, ↓reduceIte, Nat.reduceEqDiff, Nat.reduceAdd, Nat.reduceMul, reduceCtorEq, a96b1, e0, e3, e6, e7, e8, e9, e14, e58, e59, h1]
    exact hQ _ (by simp (disch := first | omega | decide | (simp only [eget_eput', ↓reduceIte, Nat.reduceEqDiff]; done)) only [go_sem, ↓reduceIte, Nat.reduceEqDiff, Nat.reduceAdd, Nat.reduceMul, reduceCtorEq, e0]) (by simp (disch := first | omega | decide | (simp only [eget_eput', ↓reduceIte, Nat.reduceEqDiff]; done)) only [go_sem, ↓reduceIte, Nat.reduceEqDiff, Nat.reduceAdd, Nat.reduceMul, reduceCtorEq, e3]) (by simp (disch := first | omega | decide | (simp only [eget_eput', ↓reduceIte, Nat.reduceEqDiff]; done)) only [go_sem, ↓reduceIte, Nat.reduceEqDiff, Nat.reduceAdd, Nat.reduceMul, reduceCtorEq, e6]) (by simp (disch := first | omega | decide | (simp only [eget_eput', ↓reduceIte, Nat.reduceEqDiff]; done)) only [go_sem, ↓reduceIte, Nat.reduceEqDiff, Nat.reduceAdd, Nat.reduceMul, reduceCtorEq, e7]) (by simp (disch := first | omega | decide | (simp only [eget_eput', ↓reduceIte, Nat.reduceEqDiff]; done)) only [go_sem, ↓reduceIte, Nat.reduceEqDiff, Nat.reduceAdd, Nat.reduceMul, reduceCtorEq, e8]) (by simp (disch := first | omega | decide | (simp only [eget_eput', ↓reduceIte, Nat.reduceEqDiff]; done)) only [go_sem, ↓reduceIte, Nat.reduceEqDiff, Nat.reduceAdd, Nat.reduceMul, reduceCtorEq, e9]) (by simp (disch := first | omega | decide | (simp only [eget_eput', ↓reduceIte, Nat.reduceEqDiff]; done)) only [go_sem, ↓reduceIte, Nat.reduceEqDiff, Nat.reduceAdd, Nat.reduceMul, reduceCtorEq, e14])
include hT in
theorem number_b2 (hs : GOk s) {N k a q sz : Nat} {o : GOp} (ho : s.ops[N]? = some o) (hk : k < o.args.length) (haa : (o.args.getD k 0).toNat = a) (hq : q < 60) (hsz : sz ≤ q) (hsz1 : 1 ≤ sz) {ah base : Int} (hah : 0 ≤ ah ∧ ah ≤ 1099511627776) (hbase : 0 ≤ base) {H : List AE.Obj} {ws : List Nat} {e0 : List PV} {k3 : Nat} {kk : Int} {Lz : PV} {zs : List PV} {m7 : SM} {Q : AExit → List PV → St → Prop}
    (hk3 : H[k3]? = some (.row 3 [.agg [.int .i64 kk, .int .i64 (N : Int), Lz]])) (gz : zs[k]? = some (.int .i64 (sz : Int)))
    (f0 : eget e0 0 = .iptr (tabV s) 0) (f3 : eget e0 3 = .ptr k3 0 0 1) (f7 : eget e0 7 = .slice 1 zs m7) (f14 : eget e0 14 = .int .i64 (cap base)) (f16 : eget e0 16 = .int .i64 (q : Int)) (f17 : eget e0 17 = .int .i64 ah) (f18 : eget e0 18 = .int .i64 (k : Int)) (f19 : eget e0 19 = .int .i64 (a : Int)) (f20 : eget e0 20 = .int .i64 1)
    (hQ : ∀ e', Same (fun j => j = 14 ∨ j = 20 ∨ 99 ≤ j) e0 e' → eget e' 14 = .int .i64 (cap (base + preP (svOf s o) (rvOf s N) ah k q (sz - 1))) → Q (.exit 6) e' ⟨H, ws, []⟩) :
    wpC T (.loop a96b2) e0 ⟨H, ws, []⟩ Q := by
  have C := nthC hs ho
  have S := sysOf hs.ops ho
  have hal := C.al
  obtain ⟨_, gl⟩ := C.args.get hk
  rw [haa] at gl
  have hso := (C.okS.get (k := a) (by rw [C.ro]; exact gl)).2
  have hr1 := (C.okR.get (k := k + 1) (by rw [C.rl]; omega)).2
  have gs := get_arr C.okS (k := a) (by rw [C.ro]; exact gl)
  have gk := get_arr C.okR (k := k + 1) (by rw [C.rl]; omega)
  have gr := C.gr
  have hnO := hs.nO
  have hNO : N < s.ops.length := (List.getElem?_eq_some_iff.1 ho).1
  have l1 : loadAt false 1 (.ptr k3 0 1 1) H = some (.int .i64 (N : Int)) := by rw [ld_at hk3]; rfl
  refine wpC.loopM (fun g e st => ∃ m : Nat, m + g = sz ∧ 1 ≤ m ∧ Same (fun j => j = 14 ∨ j = 20 ∨ 99 ≤ j) e0 e ∧ eget e 14 = .int .i64 (cap (base + preP (svOf s o) (rvOf s N) ah k q (m - 1))) ∧ eget e 20 = .int .i64 (m : Int) ∧ st = ⟨H, ws, []⟩) ?_ (sz - 1) _ _
    ⟨1, by omega, by omega, Same.refl _, by simpa [preP] using f14, f20, rfl⟩
  rintro g e st ⟨m, hm, hm1, hsm, e14, e20, rfl⟩
  have e0' := (hsm 0 (by omega)).trans f0
  have e3 := (hsm 3 (by omega)).trans f3
  have e7 := (hsm 7 (by omega)).trans f7
  have e16 := (hsm 16 (by omega)).trans f16
  have e17 := (hsm 17 (by omega)).trans f17
  have e18 := (hsm 18 (by omega)).trans f18
  have e19 := (hsm 19 (by omega)).trans f19
  by_cases h1 : m < sz
  · have hmq : m ≤ q := by omega
    have hm61 : m < 61 := by omega
    have hqm : q - m < 61 := by omega
    have ls := ld_arr hso hm61
    have lr := ld_arr hr1 hqm
    have b2 := (hso.get hm61).2
    have b1 := (hr1.get hqm).2
    have hp1 := Int.mul_nonneg hah.1 b2.1
    have c1 := fun h => times_ev hT (h := h) hah.1 hah.2 b2.1 b2.2
    have c2 := fun h => times_ev hT (h := h) (cap_nn hp1) (cap_top _) b1.1 b1.2
    simp only [cap_def] at c1 c2
    have hp2 := Int.mul_nonneg (cap_nn hp1) b1.1
    have hpre := preP_nn S hah.1 k q (m - 1)
    have hw0 := cap_nn hp2
    have c3 := fun h => plus_ev hT (h := h) (cap_nn (show 0 ≤ base + preP (svOf s o) (rvOf s N) ah k q (m - 1) by omega)) (cap_top _) hw0 (cap_top _)
    simp only [cap_def] at c3
    rw [cap_cap_add hw0] at c3
    have hstep : base + preP (svOf s o) (rvOf s N) ah k q (m - 1) + cap (cap (ah * ((tabOf s).1.getD a []).getD m 0) * (((tabOf s).2.getD N []).getD (k + 1) []).getD (q - m) 0) = base + preP (svOf s o) (rvOf s N) ah k q m := by
      obtain ⟨m', rfl⟩ : ∃ m', m = m' + 1 := ⟨m - 1, by omega⟩
      simp only [preP, Nat.add_sub_cancel, wayW, svOf, rvOf, haa]
      omega
    rw [hstep] at c3
    simp (disch := first | omega | decide | (simp only [eget_eput', ↓reduceIte, Nat.reduceEqDiff]; done)) only [go_sem, ↓reduceIte, Nat.reduceEqDiff, Nat.reduceAdd, Nat.reduceMul, reduceCtorEq, a96b2, e0', e3, e7, e14, e16, e17, e18, e19, e20, gz, h1, tab_t2, tab_t3, gs, gk, gr, ls, lr, l1, cb (c1 _), cb (c2 _), cb (c3 _), hT.prim, primOf, cast_sub hmq, hm61, hqm]
    refine ⟨g - 1, by omega, m + 1, by omega, by omega, fun j hj => ?_, rfl, rfl, trivial⟩
    have h1 := hsm j hj
    simp only [not_or, Nat.not_le] at hj
    simp (disch := omega) only [eget_eput_ne]
    exact h1
  · have : m = sz := by omega
    subst this
    simp (disch := first | omega | decide | (simp only [eget_eput', ↓reduceIte, Nat.reduceEqDiff]; done)) only [go_sem, ↓reduceIte, Nat.reduceEqDiff, Nat.reduceAdd, Nat.reduceMul, reduceCtorEq, a96b2, e0', e3, e7, e14, e16, e17, e18, e19, e20, gz, h1]
    refine hQ _ (fun j hj => ?_) (by simp (disch := first | omega | decide | (simp only [eget_eput', ↓reduceIte, Nat.reduceEqDiff]; done)) only [go_sem, ↓reduceIte, Nat.reduceEqDiff, Nat.reduceAdd, Nat.reduceMul, reduceCtorEq, e14])
    have h1 := hsm j hj
    simp only [not_or, Nat.not_le] at hj
    simp (disch := omega) only [eget_eput_ne]
    exact h1
end Go.Proofs.Tryz
/- number: whole. -/
namespace Go.Proofs.Tryz
open Go Go.AE
variable {T : Tbl} (hT : Std T) {s : GSig}

/-- What number reads. -/
structure NumH (s : GSig) (H : List AE.Obj) (k3 k6 N : Nat) (kk : Int) (Lz : PV) (o : GOp) (l : List Tm) (zs ns : List PV) (z1 z2 : Nat) : Prop where
  h3 : H[k3]? = some (.row 3 [.agg [.int .i64 kk, .int .i64 (N : Int), Lz]])
  h6 : H[k6]? = some (.row 3 [encOp o])
  ezs : zs = (szsI l).map encI
  ens : ns = (numL s l).map encI
  hz1 : zs = [] ∨ z1 = 1
  hz2 : ns = [] ∨ z2 = 1
include hT in
theorem number_b3 (hs : GOk s) {N : Nat} {o : GOp} (ho : s.ops[N]? = some o) {l : List Tm} (hl : l.length = o.args.length) (hN60 : nodesL l < 60) (F : Fit (svOf s o) o.args.length (nodesL l) (fun k => (l.map Tm.nodes).getD k 0)) {A : Int} (hA : 0 ≤ A)
    {H : List AE.Obj} {ws : List Nat} {e0 : List PV} {k3 k6 : Nat} {kk : Int} {Lz : PV} {zs ns : List PV} {z1 z2 : Nat} {m7 m8 : SM} (R : NumH s H k3 k6 N kk Lz o l zs ns z1 z2) {Q : AExit → List PV → St → Prop}
    (f0 : eget e0 0 = .iptr (tabV s) 0) (f3 : eget e0 3 = .ptr k3 0 0 1) (f7 : eget e0 7 = .slice z1 zs m7) (f14 : eget e0 14 = .int .i64 (cap A)) (f16 : eget e0 16 = .int .i64 (nodesL l : Int)) (f17 : eget e0 17 = .int .i64 1) (f92 : eget e0 92 = .slice 1 (o.args.map encI) .any) (f93 : eget e0 93 = .int .i64 (o.args.length : Int)) (f94 : eget e0 94 = .int .i64 0)
    (hQ : ∀ e', Same (fun j => 14 ≤ j ∧ j ≤ 20 ∨ 94 ≤ j) e0 e' → eget e' 14 = .int .i64 (cap (A + bsF (svOf s o) (rvOf s N) (fun k => (l.map Tm.nodes).getD k 0) (nodesL l) o.args.length)) → Q (.exit 4) e' ⟨H, ws, []⟩) :
    wpC T (.loop a96b3) e0 ⟨H, ws, []⟩ Q := by
  have C := nthC hs ho
  have S := sysOf hs.ops ho
  have hal := C.al
  generalize hszf : (fun k => (l.map Tm.nodes).getD k 0) = sz at *
  refine wpC.loopM (fun g e st => ∃ k : Nat, k + g = o.args.length ∧ Same (fun j => 14 ≤ j ∧ j ≤ 20 ∨ 94 ≤ j) e0 e ∧ eget e 14 = .int .i64 (cap (A + bsF (svOf s o) (rvOf s N) sz (nodesL l) k)) ∧ eget e 16 = .int .i64 (lfF sz (nodesL l) k : Int) ∧ eget e 17 = .int .i64 (ahF (svOf s o) sz k) ∧ eget e 94 = .int .i64 (k : Int) ∧ st = ⟨H, ws, []⟩) ?_ o.args.length _ _
    ⟨0, by omega, Same.refl _, by simpa [bsF] using f14, f16, f17, f94, rfl⟩
  rintro g e st ⟨k, hk0, hsm, e14, e16, e17, e94, rfl⟩
  have e0' := (hsm 0 (by omega)).trans f0
  have e3 := (hsm 3 (by omega)).trans f3
  have e7 := (hsm 7 (by omega)).trans f7
  have e92 := (hsm 92 (by omega)).trans f92
  have e93 := (hsm 93 (by omega)).trans f93
  by_cases hk : k < o.args.length
  · obtain ⟨ga, gl⟩ := C.args.get hk
    have gaE : (o.args.map encI)[k]? = some (.int .i64 (((o.args.getD k 0).toNat : Nat) : Int)) := by rw [List.getElem?_map, ga]; rfl
    have hsv : ∀ m, svOf s o k m = ((tabOf s).1.getD (o.args.getD k 0).toNat []).getD m 0 := fun m => rfl
    have hso := (C.okS.get (k := (o.args.getD k 0).toNat) (by rw [C.ro]; exact gl)).2
    have gs := get_arr C.okS (k := (o.args.getD k 0).toNat) (by rw [C.ro]; exact gl)
    have haa : (o.args.getD k 0).toNat = (o.args.getD k 0).toNat := rfl
    have gz : zs[k]? = some (.int .i64 (sz k : Int)) := by
      rw [R.ezs, ← hszf]
      exact (szsI_get (show k < l.length by omega)).2
    have hz1 : z1 = 1 := by
      rcases R.hz1 with h | h
      · rw [h] at gz; simp at gz
      · exact h
    subst hz1
    have hlo := F.lo k hk
    have hle := F.le k hk
    have hlf := lf_le sz (nodesL l) k
    have ahp := ah_pos F k (by omega)
    have b0 := bs_nn S F k (by omega)
    have hs61 : sz k < 61 := by omega
    have ls := ld_arr hso hs61
    have b2 := (hso.get hs61).2
    have c1 := fun h => times_ev hT (h := h) (show 0 ≤ ahF (svOf s o) sz k by omega) ahp.2 b2.1 b2.2
    simp only [cap_def] at c1
    have hbs : A + bsF (svOf s o) (rvOf s N) sz (nodesL l) k + preP (svOf s o) (rvOf s N) (ahF (svOf s o) sz k) k (lfF sz (nodesL l) k) (sz k - 1) = A + bsF (svOf s o) (rvOf s N) sz (nodesL l) (k + 1) := by simp only [bsF]; omega
    have hah : cap (ahF (svOf s o) sz k * ((tabOf s).1.getD (o.args.getD k 0).toNat []).getD (sz k) 0) = ahF (svOf s o) sz (k + 1) := rfl
    rw [hah] at c1
    generalize ha : (o.args.getD k 0).toNat = a at *
    simp (disch := first | omega | decide | (simp only [eget_eput', ↓reduceIte, Nat.reduceEqDiff]; done)) only [go_sem, ↓reduceIte, Nat.reduceEqDiff, Nat.reduceAdd, Nat.reduceMul, reduceCtorEq, a96b3, e0', e3, e7, e14, e16, e17, e92, e93, e94, hk, gaE]
    refine number_b2 hT hs ho hk ha (m7 := m7) (q := lfF sz (nodesL l) k) (sz := sz k) (by omega) hle hlo ⟨by omega, ahp.2⟩ (base := A + bsF (svOf s o) (rvOf s N) sz (nodesL l) k) (by omega) R.h3 gz (by simp (disch := first | omega | decide | (simp only [eget_eput', ↓reduceIte, Nat.reduceEqDiff]; done)) only [go_sem, ↓reduceIte, Nat.reduceEqDiff, Nat.reduceAdd, Nat.reduceMul, reduceCtorEq, e0']) (by simp (disch := first | omega | decide | (simp only [eget_eput', ↓reduceIte, Nat.reduceEqDiff]; done)) only [go_sem, ↓reduceIte, Nat.reduceEqDiff, Nat.reduceAdd, Nat.reduceMul, reduceCtorEq, e3]) (by simp (disch := first | omega | decide | (simp only [eget_eput', ↓reduceIte, Nat.reduceEqDiff]; done)) only [go_sem, ↓reduceIte, Nat.reduceEqDiff, Nat.reduceAdd, Nat.reduceMul, reduceCtorEq, e7]) (by simp (disch := first | omega | decide | (simp only [eget_eput', ↓reduceIte, Nat.reduceEqDiff]; done)) only [go_sem, ↓reduceIte, Nat.reduceEqDiff, Nat.reduceAdd, Nat.reduceMul, reduceCtorEq, e14]) (by simp (disch := first | omega | decide | (simp only [eget_eput', ↓reduceIte, Nat.reduceEqDiff]; done)) only [go_sem, ↓reduceIte, Nat.reduceEqDiff, Nat.reduceAdd, Nat.reduceMul, reduceCtorEq, e16]) (by simp (disch := first | omega | decide | (simp only [eget_eput', ↓reduceIte, Nat.reduceEqDiff]; done)) only [go_sem, ↓reduceIte, Nat.reduceEqDiff, Nat.reduceAdd, Nat.reduceMul, reduceCtorEq, e17]) (by simp (disch := first | omega | decide | (simp only [eget_eput', ↓reduceIte, Nat.reduceEqDiff]; done)) only [go_sem, ↓reduceIte, Nat.reduceEqDiff, Nat.reduceAdd, Nat.reduceMul, reduceCtorEq]) (by simp (disch := first | omega | decide | (simp only [eget_eput', ↓reduceIte, Nat.reduceEqDiff]; done)) only [go_sem, ↓reduceIte, Nat.reduceEqDiff, Nat.reduceAdd, Nat.reduceMul, reduceCtorEq]) (by simp (disch := first | omega | decide | (simp only [eget_eput', ↓reduceIte, Nat.reduceEqDiff]; done)) only [go_sem, ↓reduceIte, Nat.reduceEqDiff, Nat.reduceAdd, Nat.reduceMul, reduceCtorEq]) fun e' hs' e14' => ?_
    rw [hbs] at e14'
    have g0 : eget e' 0 = .iptr (tabV s) 0 := (hs' 0 (by omega)).trans (by simp (disch := first | omega | decide | (simp only [eget_eput', ↓reduceIte, Nat.reduceEqDiff]; done)) only [go_sem, ↓reduceIte, Nat.reduceEqDiff, Nat.reduceAdd, Nat.reduceMul, reduceCtorEq, e0'])
    have g7 : eget e' 7 = .slice 1 zs m7 := (hs' 7 (by omega)).trans (by simp (disch := first | omega | decide | (simp only [eget_eput', ↓reduceIte, Nat.reduceEqDiff]; done)) only [go_sem, ↓reduceIte, Nat.reduceEqDiff, Nat.reduceAdd, Nat.reduceMul, reduceCtorEq, e7])
    have g16 : eget e' 16 = .int .i64 (lfF sz (nodesL l) k : Int) := (hs' 16 (by omega)).trans (by simp (disch := first | omega | decide | (simp only [eget_eput', ↓reduceIte, Nat.reduceEqDiff]; done)) only [go_sem, ↓reduceIte, Nat.reduceEqDiff, Nat.reduceAdd, Nat.reduceMul, reduceCtorEq, e16])
    have g17 : eget e' 17 = .int .i64 (ahF (svOf s o) sz k) := (hs' 17 (by omega)).trans (by simp (disch := first | omega | decide | (simp only [eget_eput', ↓reduceIte, Nat.reduceEqDiff]; done)) only [go_sem, ↓reduceIte, Nat.reduceEqDiff, Nat.reduceAdd, Nat.reduceMul, reduceCtorEq, e17])
    have g18 : eget e' 18 = .int .i64 (k : Int) := (hs' 18 (by omega)).trans (by simp (disch := first | omega | decide | (simp only [eget_eput', ↓reduceIte, Nat.reduceEqDiff]; done)) only [go_sem, ↓reduceIte, Nat.reduceEqDiff, Nat.reduceAdd, Nat.reduceMul, reduceCtorEq])
    have g19 : eget e' 19 = .int .i64 (a : Int) := (hs' 19 (by omega)).trans (by simp (disch := first | omega | decide | (simp only [eget_eput', ↓reduceIte, Nat.reduceEqDiff]; done)) only [go_sem, ↓reduceIte, Nat.reduceEqDiff, Nat.reduceAdd, Nat.reduceMul, reduceCtorEq])
    have g94 : eget e' 94 = .int .i64 (k : Int) := (hs' 94 (by omega)).trans (by simp (disch := first | omega | decide | (simp only [eget_eput', ↓reduceIte, Nat.reduceEqDiff]; done)) only [go_sem, ↓reduceIte, Nat.reduceEqDiff, Nat.reduceAdd, Nat.reduceMul, reduceCtorEq, e94])
    simp (disch := first | omega | decide | (simp only [eget_eput', ↓reduceIte, Nat.reduceEqDiff]; done)) only [go_sem, ↓reduceIte, Nat.reduceEqDiff, Nat.reduceAdd, Nat.reduceMul, reduceCtorEq, g0, g7, g16, g17, g18, g19, g94, gz, tab_t2, gs, hs61, ls, cb (c1 _), hT.prim, primOf, cast_sub hle]
    refine ⟨g - 1, by omega, k + 1, by omega, fun j hj => ?_, e14', rfl, rfl, rfl, trivial⟩
    have h1 := hsm j hj
    simp only [not_or, not_and, Nat.not_le] at hj
    have h2 := hs' j (by omega)
    simp (disch := omega) only [eget_eput_ne] at h2 ⊢
    exact h2.trans h1
  · have : k = o.args.length := by omega
    subst this
    simp (disch := first | omega | decide | (simp only [eget_eput', ↓reduceIte, Nat.reduceEqDiff]; done)) only [go_sem, ↓reduceIte, Nat.reduceEqDiff, Nat.reduceAdd, Nat.reduceMul, reduceCtorEq, a96b3, e0', e3, e7, e14, e16, e17, e92, e93, e94, hk]
    refine hQ _ (fun j hj => ?_) (by simp (disch := first | omega | decide | (simp only [eget_eput', ↓reduceIte, Nat.reduceEqDiff]; done)) only [go_sem, ↓reduceIte, Nat.reduceEqDiff, Nat.reduceAdd, Nat.reduceMul, reduceCtorEq, e14])
    have h1 := hsm j hj
    simp only [not_or, not_and, Nat.not_le] at hj
    simp (disch := omega) only [eget_eput_ne]
    exact h1
include hT in
theorem number_b4 (hs : GOk s) {N : Nat} {o : GOp} (ho : s.ops[N]? = some o) {l : List Tm} (hl : l.length = o.args.length) (hN60 : nodesL l < 60) (F : Fit (svOf s o) o.args.length (nodesL l) (fun k => (l.map Tm.nodes).getD k 0)) (hnm : ∀ k, k < o.args.length → 0 ≤ (numL s l).getD k 0 ∧ (numL s l).getD k 0 ≤ 1099511627776) {A : Int} (hA : 0 ≤ A)
    {H : List AE.Obj} {ws : List Nat} {e0 : List PV} {k3 k6 : Nat} {kk : Int} {Lz : PV} {zs ns : List PV} {z1 z2 : Nat} {m7 m8 : SM} (R : NumH s H k3 k6 N kk Lz o l zs ns z1 z2) {Q : AExit → List PV → St → Prop}
    (f0 : eget e0 0 = .iptr (tabV s) 0) (f6 : eget e0 6 = .ptr k6 0 0 1) (f7 : eget e0 7 = .slice z1 zs m7) (f8 : eget e0 8 = .slice z2 ns m8) (f14 : eget e0 14 = .int .i64 (cap A)) (f21 : eget e0 21 = .int .i64 1) (f22 : eget e0 22 = .int .i64 ((o.args.length : Int) - 1))
    (hQ : ∀ e', Same (fun j => j = 14 ∨ j = 21 ∨ j = 22 ∨ 162 ≤ j) e0 e' → eget e' 14 = .int .i64 (cap (A + dnF (svOf s o) (fun k => (l.map Tm.nodes).getD k 0) (fun k => (numL s l).getD k 0) o.args.length o.args.length)) → Q (.exit 8) e' ⟨H, ws, []⟩) :
    wpC T (.loop a96b4) e0 ⟨H, ws, []⟩ Q := by
  have C := nthC hs ho
  have hal := C.al
  generalize hszf : (fun k => (l.map Tm.nodes).getD k 0) = sz at *
  generalize hnmf : (fun k => (numL s l).getD k 0) = nm at *
  have hnm' : ∀ k, k < o.args.length → 0 ≤ nm k ∧ nm k ≤ 1099511627776 := fun k hk => by rw [← hnmf]; exact hnm k hk
  refine wpC.loopM (fun d e st => d ≤ o.args.length ∧ Same (fun j => j = 14 ∨ j = 21 ∨ j = 22 ∨ 162 ≤ j) e0 e ∧ eget e 14 = .int .i64 (cap (A + dnF (svOf s o) sz nm o.args.length (o.args.length - d))) ∧ eget e 21 = .int .i64 (beF (svOf s o) sz o.args.length (o.args.length - d)) ∧ eget e 22 = .int .i64 ((d : Int) - 1) ∧ st = ⟨H, ws, []⟩) ?_ o.args.length _ _
    ⟨Nat.le_refl _, Same.refl _, by simpa [dnF] using f14, by simpa [beF] using f21, f22, rfl⟩
  rintro d e st ⟨hd, hsm, e14, e21, e22, rfl⟩
  have e0' := (hsm 0 (by omega)).trans f0
  have e6 := (hsm 6 (by omega)).trans f6
  have e7 := (hsm 7 (by omega)).trans f7
  have e8 := (hsm 8 (by omega)).trans f8
  cases d with
  | zero =>
    have c : ¬ ((0 : Int) ≤ ((0 : Nat) : Int) - 1) := by omega
    simp (disch := first | omega | decide | (simp only [eget_eput', ↓reduceIte, Nat.reduceEqDiff]; done)) only [go_sem, ↓reduceIte, Nat.reduceEqDiff, Nat.reduceAdd, Nat.reduceMul, reduceCtorEq, a96b4, e0', e6, e7, e8, e14, e21, e22, c]
    refine hQ _ (fun j hj => ?_) (by simp (disch := first | omega | decide | (simp only [eget_eput', ↓reduceIte, Nat.reduceEqDiff]; done)) only [go_sem, ↓reduceIte, Nat.reduceEqDiff, Nat.reduceAdd, Nat.reduceMul, reduceCtorEq, e14]; rfl)
    have h1 := hsm j hj
    simp only [not_or, Nat.not_le] at hj
    simp (disch := omega) only [eget_eput_ne]
    exact h1
  | succ k =>
    have c : (0 : Int) ≤ (k : Int) := by omega
    have hk : k < o.args.length := by omega
    obtain ⟨ga, gl⟩ := C.args.get hk
    have gaE : (o.args.map encI)[k]? = some (.int .i64 (((o.args.getD k 0).toNat : Nat) : Int)) := by rw [List.getElem?_map, ga]; rfl
    have hso := (C.okS.get (k := (o.args.getD k 0).toNat) (by rw [C.ro]; exact gl)).2
    have gs := get_arr C.okS (k := (o.args.getD k 0).toNat) (by rw [C.ro]; exact gl)
    have gz : zs[k]? = some (.int .i64 (sz k : Int)) := by
      rw [R.ezs, ← hszf]
      exact (szsI_get (show k < l.length by omega)).2
    have gn : ns[k]? = some (.int .i64 (nm k)) := by
      rw [R.ens, ← hnmf, List.getElem?_map]
      show Option.map encI (numL s l)[k]? = some (.int .i64 ((numL s l).getD k 0))
      rw [List.getD_eq_getElem?_getD, List.getElem?_eq_getElem (by rw [numL_len]; omega)]
      rfl
    have hz1 : z1 = 1 := by
      rcases R.hz1 with h | h
      · rw [h] at gz; simp at gz
      · exact h
    have hz2 : z2 = 1 := by
      rcases R.hz2 with h | h
      · rw [h] at gn; simp at gn
      · exact h
    subst hz1 hz2
    have hle := F.le k hk
    have hlf := lf_le sz (nodesL l) k
    have hs61 : sz k < 61 := by omega
    have ls := ld_arr hso hs61
    have b2 := (hso.get hs61).2
    obtain ⟨j, hj⟩ : ∃ j, o.args.length - (k + 1) = j := ⟨_, rfl⟩
    have hj1 : o.args.length - k = j + 1 := by omega
    have hj2 : o.args.length - 1 - j = k := by omega
    rw [hj] at e14 e21
    have bep := be_pos F j (by omega)
    have d0 := dn_nn F (fun k hk => (hnm' k hk).1) j (by omega)
    have nk := hnm' k hk
    have hp1 := Int.mul_nonneg nk.1 (show 0 ≤ beF (svOf s o) sz o.args.length j by omega)
    have c1 := fun h => times_ev hT (h := h) nk.1 nk.2 (show 0 ≤ beF (svOf s o) sz o.args.length j by omega) bep.2
    have c2 := fun h => plus_ev hT (h := h) (cap_nn (show 0 ≤ A + dnF (svOf s o) sz nm o.args.length j by omega)) (cap_top _) (cap_nn hp1) (cap_top _)
    have c3 := fun h => times_ev hT (h := h) (show 0 ≤ beF (svOf s o) sz o.args.length j by omega) bep.2 b2.1 b2.2
    simp only [cap_def] at c1 c2 c3
    have hout : cap (cap (A + dnF (svOf s o) sz nm o.args.length j) + cap (nm k * beF (svOf s o) sz o.args.length j)) = cap (A + dnF (svOf s o) sz nm o.args.length (j + 1)) := by
      rw [cap_cap_add (cap_nn hp1), cap_add_cap (by omega)]
      simp only [dnF, hj2]
      rw [Int.add_assoc]
    rw [hout] at c2
    have hbe : cap (beF (svOf s o) sz o.args.length j * ((tabOf s).1.getD (o.args.getD k 0).toNat []).getD (sz k) 0) = beF (svOf s o) sz o.args.length (j + 1) := by
      simp only [beF, hj2]
      rfl
    rw [hbe] at c3
    have lo : loadAt false 1 (.ptr k6 0 1 1) H = some (.slice 1 (o.args.map encI) .any) := by rw [ld_at R.h6]; rfl
    generalize (o.args.getD k 0).toNat = a at *
    simp (disch := first | omega | decide | (simp only [eget_eput', ↓reduceIte, Nat.reduceEqDiff]; done)) only [go_sem, ↓reduceIte, Nat.reduceEqDiff, Nat.reduceAdd, Nat.reduceMul, reduceCtorEq, a96b4, e0', e6, e7, e8, e14, e21, e22, c, gn, gz, gaE, tab_t2, gs, hs61, ls, lo, cb (c1 _), cb (c2 _), cb (c3 _), hT.prim, primOf]
    refine ⟨k, by omega, by omega, fun j' hj' => ?_, by rw [hj1], by rw [hj1], rfl, trivial⟩
    have h1 := hsm j' hj'
    simp only [not_or, Nat.not_le] at hj'
    simp (disch := omega) only [eget_eput_ne]
    exact h1
end Go.Proofs.Tryz
/- number, ground, Number. -/
namespace Go.Proofs.Tryz
open Go Go.AE
variable {T : Tbl} (hT : Std T) {s : GSig}

theorem num_cap (t : Tm) : t.num s ≤ 1099511627776 := by
  obtain ⟨k, n, l⟩ := t
  simp only [Tm.num]
  split
  · exact cap_le_top _
  · decide
include hT in
theorem number_ev (hs : GOk s) {t : Tm} {p : PV} (ht : Enc t p) : ∀ (a : Int), WT s t a → t.nodes ≤ 60 → ∀ h : List AE.Obj, Ev T 96 [.iptr (tabV s) 0, p] h (.val (.tuple [.int .i64 (t.num s), .int .i64 (t.nodes : Int)]), ⟨h, [], []⟩) := by
  have hc := ht.cells
  have hf := ht.facts
  induction ht with
  | mk k n l sz es hz hl he ih =>
    intro a hw h60 h
    obtain ⟨rfl, hn, o, ho, hr, hls⟩ := hw
    obtain ⟨N, rfl⟩ := Int.eq_ofNat_of_zero_le hn
    simp only [Int.toNat_natCast] at ho
    have hlen := WTs_len hls
    simp only [Tm.nodes] at h60
    refine Ev.walk (hT.sp _ (by decide)) ((hT.fn _).trans fn96) (hT.mode _) rfl ?_
    obtain ⟨c1, c2, c3, c4⟩ := hc
    have evc : ∀ (i : Nat) (x : Tm) (p : PV), l[i]? = some x → es[i]? = some p → ∀ h, Ev T 96 [.iptr (tabV s) 0, p] h (.val (.tuple [.int .i64 (x.num s), .int .i64 (x.nodes : Int)]), ⟨h, [], []⟩) := fun i x q hx hq h => by
      have hE := he i x q hx hq
      have hm := nodesL_mem (List.mem_of_getElem? hx)
      exact ih i x q hx hq hE.cells hE.facts _ (WTs_get hls hx) (by omega) h
    have hNO : N < s.ops.length := (List.getElem?_eq_some_iff.1 ho).1
    have hnO := hs.nO
    obtain ⟨a1, a2, a3⟩ := hs.ops _ (List.mem_of_getElem? ho)
    have go : (s.ops.map encOp)[N]? = some (encOp o) := by rw [List.getElem?_map, ho]; rfl
    have soo : sub true 3 (encOp o) 0 = some (encOp o) := rfl
    have F : Fit (svOf s o) o.args.length (nodesL l) (fun k => (l.map Tm.nodes).getD k 0) := fitOf hlen fun k hk => by
      have hm := nodesL_mem (List.getElem_mem hk)
      exact (cnt_pos hs.ops _ l[k] _ (Nat.le_refl _) (by omega) (WTs_get hls (getD_mem hk))).2.2
    have hnm : ∀ k, k < o.args.length → 0 ≤ (numL s l).getD k 0 ∧ (numL s l).getD k 0 ≤ 1099511627776 := fun k hk => by
      have hk' : k < l.length := by omega
      have hm := nodesL_mem (List.getElem_mem hk')
      rw [numL_get (getD_mem hk')]
      exact ⟨num_nn hs.ops _ l[k] _ (Nat.le_refl _) (by omega) (WTs_get hls (getD_mem hk')), num_cap _⟩
    have hb0 := bs_nn (sysOf hs.ops ho) F o.args.length (Nat.le_refl _)
    obtain ⟨_, K⟩ := tabOf_sem hs.ops
    have hA0 := aT_nn K (r := o.res) (p := nodesL l) N
    have hnum : Tm.num s (.mk 2 (N : Int) l) = cap (aT s.ops (tabOf s) o.res (nodesL l) N + bsF (svOf s o) (rvOf s N) (fun k => (l.map Tm.nodes).getD k 0) (nodesL l) o.args.length + dnF (svOf s o) (fun k => (l.map Tm.nodes).getD k 0) (fun k => (numL s l).getD k 0) o.args.length o.args.length) := by
      simp only [Tm.num, Int.toNat_natCast, ho]
      rw [Int.add_assoc]
    have hnodes : ((Tm.mk 2 (N : Int) l).nodes : Int) = ((nodesL l + 1 : Nat) : Int) := by simp only [Tm.nodes]; omega
    rw [hnum, hnodes]
    generalize hP : PV.agg [.int .i64 2, .int .i64 (N : Int), .slice sz es .any] = P at *
    have kp : (h ++ [AE.Obj.row 3 [P]])[h.length]? = some (.row 3 [P]) := by simp
    have low1 : Low h.length h (h ++ [AE.Obj.row 3 [P]]) := (Low.refl _ _).push (Nat.le_refl _)
    have hl1 : (h ++ [AE.Obj.row 3 [P]]).length = h.length + 1 := by simp
    generalize hH1 : h ++ [AE.Obj.row 3 [P]] = H1 at *
    have kz : ∀ z, (H1 ++ [AE.Obj.row 3 [z]])[h.length]? = some (.row 3 [P]) := fun z => keepL kp
    have lz1 : ∀ z, loadAt false 1 (.ptr h.length 0 1 1) (H1 ++ [AE.Obj.row 3 [z]]) = some (.int .i64 (N : Int)) := fun z => by rw [ld_at (kz z), ← hP]; rfl
    have sb := fun ws => st_box (h := H1) (ws := ws) (ups := []) (z := .agg [(.str ⟨#[]⟩), (.slice 0 [] .nil), (.int .i64 0)]) (sz := 3) (c := encOp o) rfl rfl rfl (top_op _) ⟨_, rfl⟩ ⟨_, rfl⟩
    have ko : (H1 ++ [AE.Obj.row 3 [encOp o]])[H1.length]? = some (.row 3 [encOp o]) := by simp
    have kp2 : (H1 ++ [AE.Obj.row 3 [encOp o]])[h.length]? = some (.row 3 [P]) := keepL kp
    have low2 : Low h.length h (H1 ++ [AE.Obj.row 3 [encOp o]]) := low1.push (by omega)
    have lz2 : loadAt false 1 (.ptr h.length 0 2 1) (H1 ++ [AE.Obj.row 3 [encOp o]]) = some (.slice sz es .any) := by rw [ld_at kp2, ← hP]; rfl
    generalize hH2 : H1 ++ [AE.Obj.row 3 [encOp o]] = H2 at *
    simp (disch := first | omega | decide | (simp only [eget_eput', ↓reduceIte, Nat.reduceEqDiff]; done)) only [go_sem, ↓reduceIte, Nat.reduceEqDiff, Nat.reduceAdd, Nat.reduceMul, reduceCtorEq, hH1, c1, c3, List.length_cons, List.length_nil, tab_t1, lz1, go, soo, sb, hH2, lz2]
    refine number_b0 hT (o := o) hz hl he (by omega) evc (h := h) low2 (fun x hx => by
      rcases mem_wall hx with hx | hx
      · rcases mem_wadd hx with hx | hx
        · omega
        · cases hx
      · cases hx) kp2 ko (by simp (disch := first | omega | decide | (simp only [eget_eput', ↓reduceIte, Nat.reduceEqDiff]; done)) only [go_sem, ↓reduceIte, Nat.reduceEqDiff, Nat.reduceAdd, Nat.reduceMul, reduceCtorEq]) (by simp (disch := first | omega | decide | (simp only [eget_eput', ↓reduceIte, Nat.reduceEqDiff]; done)) only [go_sem, ↓reduceIte, Nat.reduceEqDiff, Nat.reduceAdd, Nat.reduceMul, reduceCtorEq]) (by simp (disch := first | omega | decide | (simp only [eget_eput', ↓reduceIte, Nat.reduceEqDiff]; done)) only [go_sem, ↓reduceIte, Nat.reduceEqDiff, Nat.reduceAdd, Nat.reduceMul, reduceCtorEq]) (by simp (disch := first | omega | decide | (simp only [eget_eput', ↓reduceIte, Nat.reduceEqDiff]; done)) only [go_sem, ↓reduceIte, Nat.reduceEqDiff, Nat.reduceAdd, Nat.reduceMul, reduceCtorEq]) (by simp (disch := first | omega | decide | (simp only [eget_eput', ↓reduceIte, Nat.reduceEqDiff]; done)) only [go_sem, ↓reduceIte, Nat.reduceEqDiff, Nat.reduceAdd, Nat.reduceMul, reduceCtorEq]) (by simp (disch := first | omega | decide | (simp only [eget_eput', ↓reduceIte, Nat.reduceEqDiff]; done)) only [go_sem, ↓reduceIte, Nat.reduceEqDiff, Nat.reduceAdd, Nat.reduceMul, reduceCtorEq]) (by simp (disch := first | omega | decide | (simp only [eget_eput', ↓reduceIte, Nat.reduceEqDiff]; done)) only [go_sem, ↓reduceIte, Nat.reduceEqDiff, Nat.reduceAdd, Nat.reduceMul, reduceCtorEq]) (by simp (disch := first | omega | decide | (simp only [eget_eput', ↓reduceIte, Nat.reduceEqDiff]; done)) only [go_sem, ↓reduceIte, Nat.reduceEqDiff, Nat.reduceAdd, Nat.reduceMul, reduceCtorEq]) (by simp (disch := first | omega | decide | (simp only [eget_eput', ↓reduceIte, Nat.reduceEqDiff]; done)) only [go_sem, ↓reduceIte, Nat.reduceEqDiff, Nat.reduceAdd, Nat.reduceMul, reduceCtorEq]) fun e1' H3 ws3 v w low3 hw3 kp3 ko3 A2 g0 g3 g6 g7 g8 g9 => ?_
    obtain ⟨z1, m1, z2, m2, rfl, rfl, hz1, hz2⟩ := A2.slices
    have l31 : loadAt false 1 (.ptr h.length 0 1 1) H3 = some (.int .i64 (N : Int)) := by rw [ld_at kp3, ← hP]; rfl
    have l61 : loadAt false 1 (.ptr H1.length 0 1 1) H3 = some (.slice 1 (o.args.map encI) .any) := by rw [ld_at ko3]; rfl
    have R : NumH s H3 h.length H1.length N 2 (.slice sz es .any) o l ((szsI l).map encI) ((numL s l).map encI) z1 z2 := ⟨by rw [kp3, ← hP], ko3, rfl, rfl, by rcases hz1 with h | h; exact .inl (by rw [h]; rfl); exact .inr h, by rcases hz2 with h | h; exact .inl (by rw [h]; rfl); exact .inr h⟩
    have g9' : eget e1' 9 = .int .i64 ((nodesL l + 1 : Nat) : Int) := by rw [g9, Nat.add_comm]
    simp (disch := first | omega | decide | (simp only [eget_eput', ↓reduceIte, Nat.reduceEqDiff]; done)) only [go_sem, ↓reduceIte, Nat.reduceEqDiff, Nat.reduceAdd, Nat.reduceMul, reduceCtorEq, g0, g3, g6, g7, g8, g9', l31]
    refine number_b1 hT hs (o := o) (N := N) (p := nodesL l) (k3 := h.length) (k6 := H1.length) (v := .slice z1 ((szsI l).map encI) m1) (w := .slice z2 ((numL s l).map encI) m2) (by omega) (by omega) ko3 (by simp (disch := first | omega | decide | (simp only [eget_eput', ↓reduceIte, Nat.reduceEqDiff]; done)) only [go_sem, ↓reduceIte, Nat.reduceEqDiff, Nat.reduceAdd, Nat.reduceMul, reduceCtorEq, g0]) (by simp (disch := first | omega | decide | (simp only [eget_eput', ↓reduceIte, Nat.reduceEqDiff]; done)) only [go_sem, ↓reduceIte, Nat.reduceEqDiff, Nat.reduceAdd, Nat.reduceMul, reduceCtorEq, g3]) (by simp (disch := first | omega | decide | (simp only [eget_eput', ↓reduceIte, Nat.reduceEqDiff]; done)) only [go_sem, ↓reduceIte, Nat.reduceEqDiff, Nat.reduceAdd, Nat.reduceMul, reduceCtorEq, g6]) (by simp (disch := first | omega | decide | (simp only [eget_eput', ↓reduceIte, Nat.reduceEqDiff]; done)) only [go_sem, ↓reduceIte, Nat.reduceEqDiff, Nat.reduceAdd, Nat.reduceMul, reduceCtorEq, g7]) (by simp (disch := first | omega | decide | (simp only [eget_eput', ↓reduceIte, Nat.reduceEqDiff]; done)) only [go_sem, ↓reduceIte, Nat.reduceEqDiff, Nat.reduceAdd, Nat.reduceMul, reduceCtorEq, g8]) (by simp (disch := first | omega | decide | (simp only [eget_eput', ↓reduceIte, Nat.reduceEqDiff]; done)) only [go_sem, ↓reduceIte, Nat.reduceEqDiff, Nat.reduceAdd, Nat.reduceMul, reduceCtorEq, g9']) (by simp (disch := first | omega | decide | (simp only [eget_eput', ↓reduceIte, Nat.reduceEqDiff]; done)) only [go_sem, ↓reduceIte, Nat.reduceEqDiff, Nat.reduceAdd, Nat.reduceMul, reduceCtorEq]) (by simp (disch := first | omega | decide | (simp only [eget_eput', ↓reduceIte, Nat.reduceEqDiff]; done)) only [go_sem, ↓reduceIte, Nat.reduceEqDiff, Nat.reduceAdd, Nat.reduceMul, reduceCtorEq]) (by simp (disch := first | omega | decide | (simp only [eget_eput', ↓reduceIte, Nat.reduceEqDiff]; done)) only [go_sem, ↓reduceIte, Nat.reduceEqDiff, Nat.reduceAdd, Nat.reduceMul, reduceCtorEq]) fun e2' q0 q3 q6 q7 q8 q9 q14 => ?_
    simp (disch := first | omega | decide | (simp only [eget_eput', ↓reduceIte, Nat.reduceEqDiff]; done)) only [go_sem, ↓reduceIte, Nat.reduceEqDiff, Nat.reduceAdd, Nat.reduceMul, reduceCtorEq, q0, q3, q6, q7, q8, q9, q14, l61]
    refine number_b3 hT hs ho hlen (by omega) F hA0 (m8 := m2) R (m7 := m1) (by simp (disch := first | omega | decide | (simp only [eget_eput', ↓reduceIte, Nat.reduceEqDiff]; done)) only [go_sem, ↓reduceIte, Nat.reduceEqDiff, Nat.reduceAdd, Nat.reduceMul, reduceCtorEq, q0]) (by simp (disch := first | omega | decide | (simp only [eget_eput', ↓reduceIte, Nat.reduceEqDiff]; done)) only [go_sem, ↓reduceIte, Nat.reduceEqDiff, Nat.reduceAdd, Nat.reduceMul, reduceCtorEq, q3]) (by simp (disch := first | omega | decide | (simp only [eget_eput', ↓reduceIte, Nat.reduceEqDiff]; done)) only [go_sem, ↓reduceIte, Nat.reduceEqDiff, Nat.reduceAdd, Nat.reduceMul, reduceCtorEq, q7]) (by simp (disch := first | omega | decide | (simp only [eget_eput', ↓reduceIte, Nat.reduceEqDiff]; done)) only [go_sem, ↓reduceIte, Nat.reduceEqDiff, Nat.reduceAdd, Nat.reduceMul, reduceCtorEq, q14]) (by simp (disch := first | omega | decide | (simp only [eget_eput', ↓reduceIte, Nat.reduceEqDiff]; done)) only [go_sem, ↓reduceIte, Nat.reduceEqDiff, Nat.reduceAdd, Nat.reduceMul, reduceCtorEq]) (by simp (disch := first | omega | decide | (simp only [eget_eput', ↓reduceIte, Nat.reduceEqDiff]; done)) only [go_sem, ↓reduceIte, Nat.reduceEqDiff, Nat.reduceAdd, Nat.reduceMul, reduceCtorEq]) (by simp (disch := first | omega | decide | (simp only [eget_eput', ↓reduceIte, Nat.reduceEqDiff]; done)) only [go_sem, ↓reduceIte, Nat.reduceEqDiff, Nat.reduceAdd, Nat.reduceMul, reduceCtorEq]) (by simp (disch := first | omega | decide | (simp only [eget_eput', ↓reduceIte, Nat.reduceEqDiff]; done)) only [go_sem, ↓reduceIte, Nat.reduceEqDiff, Nat.reduceAdd, Nat.reduceMul, reduceCtorEq]) (by simp (disch := first | omega | decide | (simp only [eget_eput', ↓reduceIte, Nat.reduceEqDiff]; done)) only [go_sem, ↓reduceIte, Nat.reduceEqDiff, Nat.reduceAdd, Nat.reduceMul, reduceCtorEq]) fun e3' hs3 r14 => ?_
    have r0 : eget e3' 0 = .iptr (tabV s) 0 := (hs3 0 (by omega)).trans (by simp (disch := first | omega | decide | (simp only [eget_eput', ↓reduceIte, Nat.reduceEqDiff]; done)) only [go_sem, ↓reduceIte, Nat.reduceEqDiff, Nat.reduceAdd, Nat.reduceMul, reduceCtorEq, q0])
    have r6 : eget e3' 6 = .ptr H1.length 0 0 1 := (hs3 6 (by omega)).trans (by simp (disch := first | omega | decide | (simp only [eget_eput', ↓reduceIte, Nat.reduceEqDiff]; done)) only [go_sem, ↓reduceIte, Nat.reduceEqDiff, Nat.reduceAdd, Nat.reduceMul, reduceCtorEq, q6])
    have r7 : eget e3' 7 = .slice z1 ((szsI l).map encI) m1 := (hs3 7 (by omega)).trans (by simp (disch := first | omega | decide | (simp only [eget_eput', ↓reduceIte, Nat.reduceEqDiff]; done)) only [go_sem, ↓reduceIte, Nat.reduceEqDiff, Nat.reduceAdd, Nat.reduceMul, reduceCtorEq, q7])
    have r8 : eget e3' 8 = .slice z2 ((numL s l).map encI) m2 := (hs3 8 (by omega)).trans (by simp (disch := first | omega | decide | (simp only [eget_eput', ↓reduceIte, Nat.reduceEqDiff]; done)) only [go_sem, ↓reduceIte, Nat.reduceEqDiff, Nat.reduceAdd, Nat.reduceMul, reduceCtorEq, q8])
    have r9 : eget e3' 9 = .int .i64 ((nodesL l + 1 : Nat) : Int) := (hs3 9 (by omega)).trans (by simp (disch := first | omega | decide | (simp only [eget_eput', ↓reduceIte, Nat.reduceEqDiff]; done)) only [go_sem, ↓reduceIte, Nat.reduceEqDiff, Nat.reduceAdd, Nat.reduceMul, reduceCtorEq, q9])
    simp (disch := first | omega | decide | (simp only [eget_eput', ↓reduceIte, Nat.reduceEqDiff]; done)) only [go_sem, ↓reduceIte, Nat.reduceEqDiff, Nat.reduceAdd, Nat.reduceMul, reduceCtorEq, r0, r6, r7, r8, r9, r14, l61]
    refine number_b4 hT hs ho hlen (by omega) F hnm (show 0 ≤ aT s.ops (tabOf s) o.res (nodesL l) N + bsF (svOf s o) (rvOf s N) (fun k => (l.map Tm.nodes).getD k 0) (nodesL l) o.args.length by omega) R (m7 := m1) (m8 := m2) (by simp (disch := first | omega | decide | (simp only [eget_eput', ↓reduceIte, Nat.reduceEqDiff]; done)) only [go_sem, ↓reduceIte, Nat.reduceEqDiff, Nat.reduceAdd, Nat.reduceMul, reduceCtorEq, r0]) (by simp (disch := first | omega | decide | (simp only [eget_eput', ↓reduceIte, Nat.reduceEqDiff]; done)) only [go_sem, ↓reduceIte, Nat.reduceEqDiff, Nat.reduceAdd, Nat.reduceMul, reduceCtorEq, r6]) (by simp (disch := first | omega | decide | (simp only [eget_eput', ↓reduceIte, Nat.reduceEqDiff]; done)) only [go_sem, ↓reduceIte, Nat.reduceEqDiff, Nat.reduceAdd, Nat.reduceMul, reduceCtorEq, r7]) (by simp (disch := first | omega | decide | (simp only [eget_eput', ↓reduceIte, Nat.reduceEqDiff]; done)) only [go_sem, ↓reduceIte, Nat.reduceEqDiff, Nat.reduceAdd, Nat.reduceMul, reduceCtorEq, r8]) (by simp (disch := first | omega | decide | (simp only [eget_eput', ↓reduceIte, Nat.reduceEqDiff]; done)) only [go_sem, ↓reduceIte, Nat.reduceEqDiff, Nat.reduceAdd, Nat.reduceMul, reduceCtorEq, r14]) (by simp (disch := first | omega | decide | (simp only [eget_eput', ↓reduceIte, Nat.reduceEqDiff]; done)) only [go_sem, ↓reduceIte, Nat.reduceEqDiff, Nat.reduceAdd, Nat.reduceMul, reduceCtorEq]) (by simp (disch := first | omega | decide | (simp only [eget_eput', ↓reduceIte, Nat.reduceEqDiff]; done)) only [go_sem, ↓reduceIte, Nat.reduceEqDiff, Nat.reduceAdd, Nat.reduceMul, reduceCtorEq]) fun e4' hs4 t14 => ?_
    have t9 : eget e4' 9 = .int .i64 ((nodesL l + 1 : Nat) : Int) := (hs4 9 (by omega)).trans (by simp (disch := first | omega | decide | (simp only [eget_eput', ↓reduceIte, Nat.reduceEqDiff]; done)) only [go_sem, ↓reduceIte, Nat.reduceEqDiff, Nat.reduceAdd, Nat.reduceMul, reduceCtorEq, r9])
    simp (disch := first | omega | decide | (simp only [eget_eput', ↓reduceIte, Nat.reduceEqDiff]; done)) only [go_sem, ↓reduceIte, Nat.reduceEqDiff, Nat.reduceAdd, Nat.reduceMul, reduceCtorEq, t9, t14]
    exact tidy_low rfl rfl low3 hw3
end Go.Proofs.Tryz
/- ground, Number. -/
namespace Go.Proofs.Tryz
open Go Go.AE
variable {T : Tbl} (hT : Std T) {s : GSig}

include hT in
theorem ground_ev (hs : GOk s) (E87 : ∀ h, Ev T 87 [encSig s] h (.val (.int .i64 0), ⟨h, [], []⟩)) {t : Tm} {p : PV} (ht : Enc t p) (hn : t.nodes ≤ 200) (h : List AE.Obj) :
    Ev T 95 [encSig s, p] h (.val (.bool ((sortR s t).2 == 0)), ⟨h, [], []⟩) := by
  refine Ev.walk (hT.sp _ (by decide)) ((hT.fn _).trans fn95) (hT.mode _) rfl ?_
  have hsub := ht.sub
  obtain ⟨c1, c2, c3, c4⟩ := ht.cells
  have c45 := fun h => sort_ev hT hs E87 ht hn h
  have kg : ((h ++ [AE.Obj.row 2 [encSig s]]) ++ [AE.Obj.row 3 [p]])[h.length]? = some (.row 2 [encSig s]) := keepL (by simp)
  have kp : ((h ++ [AE.Obj.row 2 [encSig s]]) ++ [AE.Obj.row 3 [p]])[(h ++ [AE.Obj.row 2 [encSig s]]).length]? = some (.row 3 [p]) := by simp
  have low : Low h.length h ((h ++ [AE.Obj.row 2 [encSig s]]) ++ [AE.Obj.row 3 [p]]) := (((Low.refl _ _).push (Nat.le_refl _)).push (by simp))
  generalize hk1 : (h ++ [AE.Obj.row 2 [encSig s]]).length = k1 at *
  generalize hH : (h ++ [AE.Obj.row 2 [encSig s]]) ++ [AE.Obj.row 3 [p]] = H at *
  have lg : loadAt true 2 (.ptr h.length 0 0 1) H = some (encSig s) := by rw [ld_at kg]; rfl
  have lp : loadAt true 3 (.ptr k1 0 0 1) H = some p := by rw [ld_at kp]; exact hsub
  simp (disch := first | omega | decide | (simp only [eget_eput', ↓reduceIte, Nat.reduceEqDiff]; done)) only [go_sem, ↓reduceIte, Nat.reduceEqDiff, Nat.reduceAdd, Nat.reduceMul, reduceCtorEq, hk1, hH, c1, c3, lg, lp, cb (c45 _), hT.prim, primOf]
  exact tidy_low rfl rfl low (by simp)
def numR (s : GSig) (t : Tm) : Int × Int := if (sortR s t).2 = 0 then (if t.nodes ≤ 60 then (if t.num s < 1099511627776 then (t.num s, 0) else (0, 2)) else (0, 2)) else (0, 4)
include hT in
theorem numb_err {r : Int} (hr : r ≠ 0) (E87 : ∀ h, Ev T 87 [encSig s] h (.val (.int .i64 r), ⟨h, [], []⟩)) {t : Tm} {p : PV} (ht : Enc t p) (h : List AE.Obj) : Ev T 20 [encSig s, p] h (.val (.tuple [.int .i64 0, .int .i64 r]), ⟨h, [], []⟩) := by
  refine Ev.walk (hT.sp _ (by decide)) ((hT.fn _).trans fn20) (hT.mode _) rfl ?_
  obtain ⟨c1, c2, c3, c4⟩ := ht.cells
  have hr' : (r != 0) = true := by simpa using hr
  have kg : ((h ++ [AE.Obj.row 2 [encSig s]]) ++ [AE.Obj.row 3 [p]])[h.length]? = some (.row 2 [encSig s]) := keepL (by simp)
  have low : Low h.length h ((h ++ [AE.Obj.row 2 [encSig s]]) ++ [AE.Obj.row 3 [p]]) := (((Low.refl _ _).push (Nat.le_refl _)).push (by simp))
  generalize hH : (h ++ [AE.Obj.row 2 [encSig s]]) ++ [AE.Obj.row 3 [p]] = H at *
  have lg : loadAt true 2 (.ptr h.length 0 0 1) H = some (encSig s) := by rw [ld_at kg]; rfl
  simp (disch := first | omega | decide | (simp only [eget_eput', ↓reduceIte, Nat.reduceEqDiff]; done)) only [go_sem, ↓reduceIte, Nat.reduceEqDiff, Nat.reduceAdd, Nat.reduceMul, reduceCtorEq, hH, c1, c3, lg, cb (E87 _), hT.prim, primOf, hr']
  exact tidy_low rfl rfl low (by simp)
include hT in
theorem numb_ev (hs : GOk s) (E87 : ∀ h, Ev T 87 [encSig s] h (.val (.int .i64 0), ⟨h, [], []⟩)) {t : Tm} {p : PV} (ht : Enc t p) (hn : t.nodes ≤ 200) (h : List AE.Obj) :
    Ev T 20 [encSig s, p] h (.val (.tuple [.int .i64 (numR s t).1, .int .i64 (numR s t).2]), ⟨h, [], []⟩) := by
  refine Ev.walk (hT.sp _ (by decide)) ((hT.fn _).trans fn20) (hT.mode _) rfl ?_
  have hsub := ht.sub
  obtain ⟨c1, c2, c3, c4⟩ := ht.cells
  have c95 := fun h => ground_ev hT hs E87 ht hn h
  have c90 := fun h => counted_ev hT hs (h := h)
  rw [encTab_eq] at c90
  have kg : ((h ++ [AE.Obj.row 2 [encSig s]]) ++ [AE.Obj.row 3 [p]])[h.length]? = some (.row 2 [encSig s]) := keepL (by simp)
  have kp : ((h ++ [AE.Obj.row 2 [encSig s]]) ++ [AE.Obj.row 3 [p]])[(h ++ [AE.Obj.row 2 [encSig s]]).length]? = some (.row 3 [p]) := by simp
  have low : Low h.length h ((h ++ [AE.Obj.row 2 [encSig s]]) ++ [AE.Obj.row 3 [p]]) := (((Low.refl _ _).push (Nat.le_refl _)).push (by simp))
  generalize hk1 : (h ++ [AE.Obj.row 2 [encSig s]]).length = k1 at *
  generalize hH : (h ++ [AE.Obj.row 2 [encSig s]]) ++ [AE.Obj.row 3 [p]] = H at *
  have lg : loadAt true 2 (.ptr h.length 0 0 1) H = some (encSig s) := by rw [ld_at kg]; rfl
  have lp : loadAt true 3 (.ptr k1 0 0 1) H = some p := by rw [ld_at kp]; exact hsub
  have td : ∀ a b, tidy 0 h.length (.val (.tuple [.int .i64 a, .int .i64 b])) ⟨H, [], []⟩ = (.val (.tuple [.int .i64 a, .int .i64 b]), ⟨h, [], []⟩) := fun a b => tidy_low rfl rfl low (by simp)
  obtain ⟨d, c46, _⟩ := size_ev hT ht hn H
  unfold numR
  by_cases h0 : (sortR s t).2 = 0
  · have h0' : ((sortR s t).2 == 0) = true := by simpa using h0
    rw [if_pos h0]
    rw [h0'] at c95
    by_cases h60 : t.nodes ≤ 60
    · have h60' : ¬ ((60 : Int) < (t.nodes : Int)) := by omega
      rw [if_pos h60]
      have c96 := fun h => number_ev hT hs ht _ (sortR_WT h0) h60 h
      by_cases hc : t.num s < 1099511627776
      · have hc' : ¬ (1099511627776 : Int) ≤ t.num s := by omega
        rw [if_pos hc]
        simp (disch := first | omega | decide | (simp only [eget_eput', ↓reduceIte, Nat.reduceEqDiff]; done)) only [go_sem, ↓reduceIte, Nat.reduceEqDiff, Nat.reduceAdd, Nat.reduceMul, reduceCtorEq, hk1, hH, c1, c3, lg, lp, cb (E87 _), bne_self_eq_false, cb (c95 _), cb c46, hT.prim, primOf, h60', cb (c90 _), cb (c96 _), hc', td]
      · have hc' : (1099511627776 : Int) ≤ t.num s := by omega
        rw [if_neg hc]
        simp (disch := first | omega | decide | (simp only [eget_eput', ↓reduceIte, Nat.reduceEqDiff]; done)) only [go_sem, ↓reduceIte, Nat.reduceEqDiff, Nat.reduceAdd, Nat.reduceMul, reduceCtorEq, hk1, hH, c1, c3, lg, lp, cb (E87 _), bne_self_eq_false, cb (c95 _), cb c46, hT.prim, primOf, h60', cb (c90 _), cb (c96 _), hc', td]
    · have h60' : ((60 : Int) < (t.nodes : Int)) := by omega
      rw [if_neg h60]
      simp (disch := first | omega | decide | (simp only [eget_eput', ↓reduceIte, Nat.reduceEqDiff]; done)) only [go_sem, ↓reduceIte, Nat.reduceEqDiff, Nat.reduceAdd, Nat.reduceMul, reduceCtorEq, hk1, hH, c1, c3, lg, lp, cb (E87 _), bne_self_eq_false, cb (c95 _), cb c46, hT.prim, primOf, h60', td]
  · have h0' : ((sortR s t).2 == 0) = false := by simpa using h0
    rw [if_neg h0]
    rw [h0'] at c95
    simp (disch := first | omega | decide | (simp only [eget_eput', ↓reduceIte, Nat.reduceEqDiff]; done)) only [go_sem, ↓reduceIte, Nat.reduceEqDiff, Nat.reduceAdd, Nat.reduceMul, reduceCtorEq, hk1, hH, c1, c3, lg, lp, cb (E87 _), bne_self_eq_false, cb (c95 _), hT.prim, primOf, td]
end Go.Proofs.Tryz
/- Two values of one term are the same. -/
namespace Go.Proofs.Tryz
open Go Go.AE
variable {T : Tbl} (hT : Std T)

include hT in
theorem equalE_ev {l : List Tm} {sz sz' : Nat} {es fs : List PV} (hs : es = [] ∨ sz = 3) (hs' : fs = [] ∨ sz' = 3) (hl : es.length = l.length) (hl' : fs.length = l.length) (hb : l.length < 5000) (he : ∀ (i : Nat) (x : Tm) (p : PV), l[i]? = some x → es[i]? = some p → Enc x p) (hf : ∀ (i : Nat) (x : Tm) (p : PV), l[i]? = some x → fs[i]? = some p → Enc x p)
    (ih : ∀ (i : Nat) (x : Tm) (p q : PV), l[i]? = some x → es[i]? = some p → fs[i]? = some q → ∀ h, Ev T 22 [p, q] h (.val (.bool true), ⟨h, [], []⟩)) (h : List AE.Obj) :
    Ev T 32 [.slice sz es .any, .slice sz' fs .any, .func (.func 22) [] []] h (.val (.bool true), ⟨h, [], []⟩) := by
  refine Ev.walk (hT.sp _ (by decide)) ((hT.fn _).trans fn32) (hT.mode _) rfl ?_
  have hlen : es.length = fs.length := by omega
  simp (disch := first | omega | decide | (simp only [eget_eput', ↓reduceIte, Nat.reduceEqDiff]; done)) only [go_sem, ↓reduceIte, Nat.reduceEqDiff, Nat.reduceAdd, Nat.reduceMul, reduceCtorEq, bne_self_eq_false, hlen]
  refine wpC.loopM (fun n e st => ∃ (i : Nat) (H : List AE.Obj) (ws : List Nat), i + n = fs.length ∧ Low h.length h H ∧ (∀ k ∈ ws, h.length ≤ k) ∧ eget e 1 = .slice sz' fs .any ∧ eget e 2 = .func (.func 22) [] [] ∧ eget e 15 = .slice sz es .any ∧ eget e 16 = .int .i64 (fs.length : Int) ∧ eget e 17 = .int .i64 (i : Int) ∧ st = ⟨H, ws, []⟩) ?_ fs.length _ _ ⟨0, h, [], by omega, Low.refl _ _, by simp, by simp (disch := first | omega | decide | (simp only [eget_eput', ↓reduceIte, Nat.reduceEqDiff]; done)) only [go_sem, ↓reduceIte, Nat.reduceEqDiff, Nat.reduceAdd, Nat.reduceMul, reduceCtorEq], by simp (disch := first | omega | decide | (simp only [eget_eput', ↓reduceIte, Nat.reduceEqDiff]; done)) only [go_sem, ↓reduceIte, Nat.reduceEqDiff, Nat.reduceAdd, Nat.reduceMul, reduceCtorEq], by simp (disch := first | omega | decide | (simp only [eget_eput', ↓reduceIte, Nat.reduceEqDiff]; done)) only [go_sem, ↓reduceIte, Nat.reduceEqDiff, Nat.reduceAdd, Nat.reduceMul, reduceCtorEq], by simp (disch := first | omega | decide | (simp only [eget_eput', ↓reduceIte, Nat.reduceEqDiff]; done)) only [go_sem, ↓reduceIte, Nat.reduceEqDiff, Nat.reduceAdd, Nat.reduceMul, reduceCtorEq], by simp (disch := first | omega | decide | (simp only [eget_eput', ↓reduceIte, Nat.reduceEqDiff]; done)) only [go_sem, ↓reduceIte, Nat.reduceEqDiff, Nat.reduceAdd, Nat.reduceMul, reduceCtorEq]; rfl, rfl⟩
  rintro n e st ⟨i, H, ws, hi, low, hw, e1, e2, e15, e16, e17, rfl⟩
  by_cases h1 : i < fs.length
  · have ga := get_lt (show i < es.length by omega)
    have gb := get_lt h1
    have gl := getD_mem (show i < l.length by omega)
    have tx := he i _ _ gl ga
    have ty := hf i _ _ gl gb
    have ex := ih i _ _ _ gl ga gb
    have hsz : sz = 3 := by
      rcases hs with rfl | h
      · simp at hlen; omega
      · exact h
    have hsz' : sz' = 3 := by
      rcases hs' with rfl | h
      · simp at h1
      · exact h
    subst hsz hsz'
    obtain ⟨c1, c2, c3, c4⟩ := tx.cells
    have tt := tx.facts.1
    have ts := tx.sub
    obtain ⟨d1, d2, d3, d4⟩ := ty.cells
    have dt := ty.facts.1
    have ds := ty.sub
    generalize fs[i] = y at *
    generalize es[i]'(by omega) = x at *
    have s1 := st_box (h := H) (ws := ws) (ups := []) (z := .agg [(.int .i64 0), (.int .i64 0), (.slice 0 [] .nil)]) (sz := 3) (c := x) c1 rfl c2 tt ⟨_, rfl⟩ c4
    have s2 := st_box (h := H ++ [AE.Obj.row 3 [x]]) (ws := wadd H.length ws) (ups := []) (z := .agg [(.int .i64 0), (.int .i64 0), (.slice 0 [] .nil)]) (sz := 3) (c := y) d1 rfl d2 dt ⟨_, rfl⟩ d4
    have b1 : (H ++ [AE.Obj.row 3 [x]])[H.length]? = some (.row 3 [x]) := by simp
    have b1' : ((H ++ [AE.Obj.row 3 [x]]) ++ [AE.Obj.row 3 [y]])[H.length]? = some (.row 3 [x]) := keepL b1
    have b2 : ((H ++ [AE.Obj.row 3 [x]]) ++ [AE.Obj.row 3 [y]])[(H ++ [AE.Obj.row 3 [x]]).length]? = some (.row 3 [y]) := by simp
    have low2 : Low h.length h ((H ++ [AE.Obj.row 3 [x]]) ++ [AE.Obj.row 3 [y]]) := by
      have := low.len
      exact (low.push (by omega)).push (by simp; omega)
    have hHl := low.len
    generalize hk2 : (H ++ [AE.Obj.row 3 [x]]).length = k2 at *
    have hk2' : h.length ≤ k2 := by rw [← hk2]; simp; omega
    generalize hH2 : (H ++ [AE.Obj.row 3 [x]]) ++ [AE.Obj.row 3 [y]] = H2 at *
    have l1 : loadAt true 3 (.ptr H.length 0 0 1) H2 = some x := by rw [ld_at b1', ts]
    have l2 : loadAt true 3 (.ptr k2 0 0 1) H2 = some y := by rw [ld_at b2, ds]
    simp (disch := first | omega | decide | (simp only [eget_eput', ↓reduceIte, Nat.reduceEqDiff]; done)) only [go_sem, ↓reduceIte, Nat.reduceEqDiff, Nat.reduceAdd, Nat.reduceMul, reduceCtorEq, a32b0, e1, e2, e15, e16, e17, h1, ga, gb, s1, s2, hk2, ts, ds, l1, l2, cb (ex H2), hT.prim, primOf, List.length_cons, List.length_nil]
    exact ⟨n - 1, by omega, i + 1, H2, wadd k2 (wadd H.length ws), by omega, low2, wadd_low (by omega) (wadd_low (by omega) hw), rfl, rfl⟩
  · simp (disch := first | omega | decide | (simp only [eget_eput', ↓reduceIte, Nat.reduceEqDiff]; done)) only [go_sem, ↓reduceIte, Nat.reduceEqDiff, Nat.reduceAdd, Nat.reduceMul, reduceCtorEq, a32b0, e1, e2, e15, e16, e17, h1]
    exact tidy_low rfl rfl low hw
include hT in
theorem sameE_ev {t : Tm} {p : PV} (hp : Enc t p) : ∀ q, Enc t q → t.nodes ≤ 4000 → ∀ h, Ev T 22 [p, q] h (.val (.bool true), ⟨h, [], []⟩) := by
  induction hp with
  | mk k n l sz es hs hl he ih =>
    intro q hq hn h
    obtain ⟨sz', fs, hs', hl', hf, rfl⟩ : ∃ (sz' : Nat) (fs : List PV), (fs = [] ∨ sz' = 3) ∧ fs.length = l.length ∧ (∀ (i : Nat) (x : Tm) (p : PV), l[i]? = some x → fs[i]? = some p → Enc x p) ∧ q = .agg [.int .i64 k, .int .i64 n, .slice sz' fs .any] := by
      cases hq with
      | mk k n l sz' fs hs' hl' hf => exact ⟨sz', fs, hs', hl', hf, rfl⟩
    refine Ev.walk (hT.sp _ (by decide)) ((hT.fn _).trans fn22) (hT.mode _) rfl ?_
    simp only [Tm.nodes] at hn
    have hll := nodesL_len l
    have b1 : (h ++ [AE.Obj.row 3 [PV.agg [.int .i64 k, .int .i64 n, .slice sz es .any]]])[h.length]? = some (.row 3 [PV.agg [.int .i64 k, .int .i64 n, .slice sz es .any]]) := by simp
    generalize hH1 : h ++ [AE.Obj.row 3 [PV.agg [.int .i64 k, .int .i64 n, .slice sz es .any]]] = H1 at *
    have b1' : (H1 ++ [AE.Obj.row 3 [PV.agg [.int .i64 k, .int .i64 n, .slice sz' fs .any]]])[h.length]? = some (.row 3 [PV.agg [.int .i64 k, .int .i64 n, .slice sz es .any]]) := keepL b1
    have b2 : (H1 ++ [AE.Obj.row 3 [PV.agg [.int .i64 k, .int .i64 n, .slice sz' fs .any]]])[H1.length]? = some (.row 3 [PV.agg [.int .i64 k, .int .i64 n, .slice sz' fs .any]]) := by simp
    have low : Low h.length h (H1 ++ [AE.Obj.row 3 [PV.agg [.int .i64 k, .int .i64 n, .slice sz' fs .any]]]) := by
      rw [← hH1]
      exact ((Low.refl _ _).push (Nat.le_refl _)).push (by simp)
    generalize hH2 : H1 ++ [AE.Obj.row 3 [PV.agg [.int .i64 k, .int .i64 n, .slice sz' fs .any]]] = H2 at *
    have l0 : ∀ j : Nat, loadAt false 1 (.ptr h.length 0 j 1) H2 = ([PV.int .i64 k, .int .i64 n, .slice sz es .any])[j]? := fun j => by rw [ld_at b1']; rfl
    have l1 : ∀ j : Nat, loadAt false 1 (.ptr H1.length 0 j 1) H2 = ([PV.int .i64 k, .int .i64 n, .slice sz' fs .any])[j]? := fun j => by rw [ld_at b2]; rfl
    have g0 : ([PV.int .i64 k, .int .i64 n, .slice sz es .any])[0]? = some (.int .i64 k) := rfl
    have g1 : ([PV.int .i64 k, .int .i64 n, .slice sz es .any])[1]? = some (.int .i64 n) := rfl
    have g2 : ([PV.int .i64 k, .int .i64 n, .slice sz es .any])[2]? = some (.slice sz es .any) := rfl
    have f0 : ([PV.int .i64 k, .int .i64 n, .slice sz' fs .any])[0]? = some (.int .i64 k) := rfl
    have f1 : ([PV.int .i64 k, .int .i64 n, .slice sz' fs .any])[1]? = some (.int .i64 n) := rfl
    have f2 : ([PV.int .i64 k, .int .i64 n, .slice sz' fs .any])[2]? = some (.slice sz' fs .any) := rfl
    have eq := equalE_ev hT hs hs' hl hl' (by omega) he hf (fun i x p q hx hp hq => by
      have hm := nodesL_mem (List.mem_of_getElem? hx)
      exact ih i x p hx hp q (hf i x q hx hq) (by omega)) H2
    have td : tidy 0 h.length (.val (.bool true)) ⟨H2, [], []⟩ = (.val (.bool true), ⟨h, [], []⟩) := tidy_low rfl rfl low (by simp)
    simp (disch := first | omega | decide | (simp only [eget_eput', ↓reduceIte, Nat.reduceEqDiff]; done)) only [go_sem, ↓reduceIte, Nat.reduceEqDiff, Nat.reduceAdd, Nat.reduceMul, reduceCtorEq, hH1, hH2, l0, l1, g0, g1, g2, f0, f1, f2, cb eq, hT.prim, primOf, td, List.length_cons, List.length_nil]
end Go.Proofs.Tryz
/- few: its closures write one old object. -/
namespace Go.Proofs.Tryz
open Go Go.AE
variable {T : Tbl} (hT : Std T)

def lRow (x : Int) : AE.Obj := .row 1 [.int .i64 x]
def fRow (kl kw : Nat) : AE.Obj := .row 1 [.func (.func 84) [] [.ptr kl 0 0 1, .ptr kw 0 0 1]]
theorem st1_0 {H : List AE.Obj} {ws : List Nat} {ups : List (Nat × Nat)} {k : Nat} {x v : Int} (hk : H[k]? = some (lRow x)) :
    storeAt 1 (.ptr k 0 0 1) (.int .i64 v) ⟨H, ws, ups⟩ = some ⟨H.set k (lRow v), wadd k ws, ups⟩ := by
  unfold lRow at *
  have hu : upd (.int .i64 x) 0 (.int .i64 v) = some (.int .i64 v) := rfl
  simp only [storeAt, hk, List.length_cons, List.length_nil, PV.cells, List.all_cons, List.all_nil, PV.isCell, Bool.and_self, and_self, if_true, List.getElem?_cons_zero, hu, Option.map, List.set_cons_zero, PV.top, wrote_none]
/-- What a call of few's closures does. -/
def FewR (T : Tbl) (f : FuncId) (args : List PV) (H : List AE.Obj) (kl : Nat) (lf : Int) (nd : Nat) (neg : Bool) : Prop := ∃ x : Bool × Int × List Nat, Ev T f args H (.val (.bool (neg ^^ x.1)), ⟨H.set kl (lRow x.2.1), x.2.2, []⟩) ∧ (-1 ≤ x.2.1 ∧ x.2.1 < lf) ∧ (x.1 = true → 0 ≤ x.2.1 ∧ x.2.1 + nd = lf) ∧ ∀ y ∈ x.2.2, y = kl

include hT in
theorem index135_w {g : FuncId} {cap : List PV} {H0 : List AE.Obj} {kl : Nat} {left0 : Int} (hg : T.prim g = none) (hk : H0[kl]? = some (lRow left0)) (h0 : 0 ≤ left0 ∧ left0 ≤ 100) {l : List Tm} {sz : Nat} {es : List PV} {m : SM} (hs : es = [] ∨ sz = 3) (hl : es.length = l.length) (he : ∀ (i : Nat) (x : Tm) (p : PV), l[i]? = some x → es[i]? = some p → Enc x p)
    (hf : ∀ (i : Nat) (x : Tm) (p : PV), l[i]? = some x → es[i]? = some p → ∀ lf, 0 ≤ lf → lf ≤ left0 → FewR T g (p :: cap) (H0.set kl (lRow lf)) kl lf x.nodes true) :
    ∃ r : Int × Int × List Nat, Ev T 135 [.slice sz es m, .func (.func g) [] cap] H0 (.val (.int .i64 r.1), ⟨H0.set kl (lRow r.2.1), r.2.2, []⟩) ∧ (-1 ≤ r.2.1 ∧ r.2.1 ≤ left0) ∧ (¬ 0 ≤ r.1 → 0 ≤ r.2.1 ∧ r.2.1 + nodesL l = left0) ∧ ∀ y ∈ r.2.2, y = kl := by
  refine Ev.walkP (r := fun (r : Int × Int × List Nat) => (.val (.int .i64 r.1), ⟨H0.set kl (lRow r.2.1), r.2.2, []⟩)) (hT.sp _ (by decide)) ((hT.fn _).trans fn135) (hT.mode _) rfl ?_
  simp (disch := first | omega | decide | (simp only [eget_eput', ↓reduceIte, Nat.reduceEqDiff]; done)) only [go_sem, ↓reduceIte, Nat.reduceEqDiff, Nat.reduceAdd, Nat.reduceMul, reduceCtorEq]
  have hH0 : (⟨H0, [], []⟩ : St) = ⟨H0.set kl (lRow left0), [], []⟩ := by rw [set_self hk]
  rw [hH0]
  refine wpC.loopM (fun n e s => ∃ (i : Nat) (lf : Int) (ws : List Nat), i + n = es.length ∧ eget e 0 = .slice sz es m ∧ eget e 1 = .func (.func g) [] cap ∧ eget e 7 = .int .i64 (es.length : Int) ∧ eget e 8 = .int .i64 (i : Int) ∧ 0 ≤ lf ∧ lf + nodesL (l.take i) = left0 ∧ (∀ y ∈ ws, y = kl) ∧ s = ⟨H0.set kl (lRow lf), ws, []⟩) ?_ es.length _ _ ⟨0, left0, [], by simp, by simp (disch := first | omega | decide | (simp only [eget_eput', ↓reduceIte, Nat.reduceEqDiff]; done)) only [go_sem, ↓reduceIte, Nat.reduceEqDiff, Nat.reduceAdd, Nat.reduceMul, reduceCtorEq], by simp (disch := first | omega | decide | (simp only [eget_eput', ↓reduceIte, Nat.reduceEqDiff]; done)) only [go_sem, ↓reduceIte, Nat.reduceEqDiff, Nat.reduceAdd, Nat.reduceMul, reduceCtorEq], by simp (disch := first | omega | decide | (simp only [eget_eput', ↓reduceIte, Nat.reduceEqDiff]; done)) only [go_sem, ↓reduceIte, Nat.reduceEqDiff, Nat.reduceAdd, Nat.reduceMul, reduceCtorEq], by simp (disch := first | omega | decide | (simp only [eget_eput', ↓reduceIte, Nat.reduceEqDiff]; done)) only [go_sem, ↓reduceIte, Nat.reduceEqDiff, Nat.reduceAdd, Nat.reduceMul, reduceCtorEq]; rfl, h0.1, by simp [nodesL], by simp, rfl⟩
  rintro n e s ⟨i, lf, ws, hi, e0, e1, e7, e8, hlf, hsum, hw, rfl⟩
  have M : ∀ z, Mod H0 (H0.set kl (lRow z)) kl (lRow z) := fun z => (Mod.refl hk).put
  have W0 : ∀ ws : List Nat, (∀ y ∈ ws, y = kl) → okWs H0 kl ws := fun ws h x hx => .inl (h x hx)
  by_cases h1 : i < es.length
  · have ga := get_lt h1
    have hx : l[i]? = some l[i] := List.getElem?_eq_getElem (by omega)
    have hE := he i l[i] es[i] hx ga
    have hlen := nodesL_len (l.take i)
    rw [List.length_take] at hlen
    obtain ⟨⟨b, lf', ws'⟩, ev, hb1, hb2, hb3⟩ := hf i l[i] es[i] hx ga lf hlf (by omega)
    have htk := nodesL_take hx
    have bs := hE.sub
    have hsz : sz = 3 := by
      rcases hs with rfl | h
      · simp at h1
      · exact h
    subst hsz
    simp only [List.set_set, Bool.true_xor] at ev hb1 hb2 hb3
    have hww : ∀ y ∈ wall ws' ws, y = kl := fun y hy => by
      rcases mem_wall hy with h | h
      · exact hb3 y h
      · exact hw y h
    cases b
    · obtain ⟨wz, t1, t2⟩ := tidy_mod (v := .int .i64 (i : Int)) rfl (M lf') (W0 _ hww)
      simp (disch := first | omega | decide | (simp only [eget_eput', ↓reduceIte, Nat.reduceEqDiff]; done)) only [go_sem, ↓reduceIte, Nat.reduceEqDiff, Nat.reduceAdd, Nat.reduceMul, reduceCtorEq, a135b0, e0, e1, e7, e8, h1, ga, bs, hg, cb ev, Bool.not_false, t1]
      exact ⟨((i : Int), lf', wz), rfl, ⟨hb1.1, by dsimp only; omega⟩, fun h => absurd (by dsimp only; omega) h, t2⟩
    · obtain ⟨q1, q2⟩ := hb2 rfl
      simp (disch := first | omega | decide | (simp only [eget_eput', ↓reduceIte, Nat.reduceEqDiff]; done)) only [go_sem, ↓reduceIte, Nat.reduceEqDiff, Nat.reduceAdd, Nat.reduceMul, reduceCtorEq, a135b0, e0, e1, e7, e8, h1, ga, bs, hg, cb ev, Bool.not_true]
      exact ⟨n - 1, by omega, i + 1, lf', wall ws' ws, by omega, rfl, q1, by omega, hww, rfl⟩
  · obtain ⟨wz, t1, t2⟩ := tidy_mod (v := .int .i64 (-1)) rfl (M lf) (W0 _ hw)
    have hil : i = l.length := by omega
    subst hil
    rw [List.take_length] at hsum
    simp (disch := first | omega | decide | (simp only [eget_eput', ↓reduceIte, Nat.reduceEqDiff]; done)) only [go_sem, ↓reduceIte, Nat.reduceEqDiff, Nat.reduceAdd, Nat.reduceMul, reduceCtorEq, a135b0, e0, e1, e7, e8, h1, t1]
    exact ⟨(-1, lf, wz), rfl, ⟨by dsimp only; omega, by dsimp only; omega⟩, fun _ => ⟨hlf, hsum⟩, t2⟩
include hT in
theorem contains48_w {g : FuncId} {cap : List PV} {H0 : List AE.Obj} {kl : Nat} {left0 : Int} (hg : T.prim g = none) (hk : H0[kl]? = some (lRow left0)) (h0 : 0 ≤ left0 ∧ left0 ≤ 100) {l : List Tm} {sz : Nat} {es : List PV} {m : SM} (hs : es = [] ∨ sz = 3) (hl : es.length = l.length) (he : ∀ (i : Nat) (x : Tm) (p : PV), l[i]? = some x → es[i]? = some p → Enc x p)
    (hf : ∀ (i : Nat) (x : Tm) (p : PV), l[i]? = some x → es[i]? = some p → ∀ lf, 0 ≤ lf → lf ≤ left0 → FewR T g (p :: cap) (H0.set kl (lRow lf)) kl lf x.nodes true) :
    ∃ r : Bool × Int × List Nat, Ev T 48 [.slice sz es m, .func (.func g) [] cap] H0 (.val (.bool r.1), ⟨H0.set kl (lRow r.2.1), r.2.2, []⟩) ∧ (-1 ≤ r.2.1 ∧ r.2.1 ≤ left0) ∧ (r.1 = false → 0 ≤ r.2.1 ∧ r.2.1 + nodesL l = left0) ∧ ∀ y ∈ r.2.2, y = kl := by
  obtain ⟨⟨r, lf, ws⟩, ev, h1, h2, h3⟩ := index135_w hT (m := m) hg hk h0 hs hl he hf
  refine Ev.walkP (r := fun (r : Bool × Int × List Nat) => (.val (.bool r.1), ⟨H0.set kl (lRow r.2.1), r.2.2, []⟩)) (hT.sp _ (by decide)) ((hT.fn _).trans fn48) (hT.mode _) rfl ?_
  obtain ⟨wz, t1, t2⟩ := tidy_mod (v := .bool (decide (0 ≤ r))) (ws := wall ws []) rfl ((Mod.refl hk).put (o' := lRow lf)) (fun x hx => .inl (by
    rcases mem_wall hx with h | h
    · exact h3 x h
    · cases h))
  simp (disch := first | omega | decide | (simp only [eget_eput', ↓reduceIte, Nat.reduceEqDiff]; done)) only [go_sem, ↓reduceIte, Nat.reduceEqDiff, Nat.reduceAdd, Nat.reduceMul, reduceCtorEq, cb ev, hT.prim, primOf, t1]
  exact ⟨(decide (0 ≤ r), lf, wz), rfl, h1, fun h => h2 (by simpa using h), t2⟩
end Go.Proofs.Tryz
/- few. -/
namespace Go.Proofs.Tryz
open Go Go.AE
variable {T : Tbl} (hT : Std T)

theorem ld_l {H : List AE.Obj} {k : Nat} {x : Int} (hk : H[k]? = some (lRow x)) : loadAt false 1 (.ptr k 0 0 1) H = some (.int .i64 x) := by rw [ld_at hk]; rfl
theorem ld_f {H : List AE.Obj} {k kl kw : Nat} (hk : H[k]? = some (fRow kl kw)) : loadAt false 1 (.ptr k 0 0 1) H = some (.func (.func 84) [] [.ptr kl 0 0 1, .ptr kw 0 0 1]) := by rw [ld_at hk]; rfl
include hT in
theorem few85 {x : Tm} {p : PV} (hx : Enc x p) {H : List AE.Obj} {kl kw kd : Nat} {lf deep : Int} (h1 : H[kl]? = some (lRow lf)) (h2 : H[kw]? = some (fRow kl kw)) (h3 : H[kd]? = some (lRow deep)) (hd : 0 ≤ deep ∧ deep < 100)
    (E84 : ∀ H', H'[kl]? = some (lRow lf) → H'[kw]? = some (fRow kl kw) → FewR T 84 [p, .int .i64 (deep + 1), .ptr kl 0 0 1, .ptr kw 0 0 1] H' kl lf x.nodes false) : FewR T 85 [p, .ptr kw 0 0 1, .ptr kd 0 0 1] H kl lf x.nodes true := by
  refine Ev.walkP (r := fun (x : Bool × Int × List Nat) => (.val (.bool (true ^^ x.1)), ⟨H.set kl (lRow x.2.1), x.2.2, []⟩)) (hT.sp _ (by decide)) ((hT.fn _).trans fn85) (hT.mode _) rfl ?_
  obtain ⟨c1, c2, c3, c4⟩ := hx.cells
  have hsub := hx.sub
  have M1 : Mod H (H ++ [AE.Obj.row 3 [p]]) kl (lRow lf) := (Mod.refl h1).push
  have k1 : (H ++ [AE.Obj.row 3 [p]])[kl]? = some (lRow lf) := keepL h1
  have k2 : (H ++ [AE.Obj.row 3 [p]])[kw]? = some (fRow kl kw) := keepL h2
  have k3 : (H ++ [AE.Obj.row 3 [p]])[kd]? = some (lRow deep) := keepL h3
  have k4 : (H ++ [AE.Obj.row 3 [p]])[H.length]? = some (.row 3 [p]) := by simp
  generalize hH1 : H ++ [AE.Obj.row 3 [p]] = H1 at *
  have lp : loadAt true 3 (.ptr H.length 0 0 1) H1 = some p := by rw [ld_at k4]; exact hsub
  obtain ⟨⟨b, lf', ws⟩, ev, q1, q2, q3⟩ := E84 H1 k1 k2
  simp only [Bool.false_xor] at ev q1 q2 q3
  obtain ⟨wz, t1, t2⟩ := tidy_mod (v := .bool (!b)) (ws := wall ws []) rfl (M1.put (o' := lRow lf')) (fun x hx => .inl (by
    rcases mem_wall hx with h | h
    · exact q3 x h
    · cases h))
  simp (disch := first | omega | decide | (simp only [eget_eput', ↓reduceIte, Nat.reduceEqDiff]; done)) only [go_sem, ↓reduceIte, Nat.reduceEqDiff, Nat.reduceAdd, Nat.reduceMul, reduceCtorEq, hH1, c1, c3, ld_l k3, ld_f k2, lp, cb ev, hT.prim, primOf, t1]
  exact ⟨(b, lf', wz), by simp only [Bool.true_xor], q1, q2, t2⟩
include hT in
theorem few84 {t : Tm} {p : PV} (ht : Enc t p) : ∀ (H : List AE.Obj) (kl kw : Nat) (lf deep : Int), H[kl]? = some (lRow lf) → H[kw]? = some (fRow kl kw) → kl ≠ kw → 0 ≤ lf ∧ lf ≤ 100 → 0 ≤ deep ∧ deep ≤ 100 → FewR T 84 [p, .int .i64 deep, .ptr kl 0 0 1, .ptr kw 0 0 1] H kl lf t.nodes false := by
  have hc := ht.cells
  induction ht with
  | mk k n l sz es hs hl he ih =>
    intro H kl kw lf deep h1 h2 hne hlf hdp
    refine Ev.walkP (r := fun (x : Bool × Int × List Nat) => (.val (.bool (false ^^ x.1)), ⟨H.set kl (lRow x.2.1), x.2.2, []⟩)) (hT.sp _ (by decide)) ((hT.fn _).trans fn84) (hT.mode _) rfl ?_
    obtain ⟨c1, c2, c3, c4⟩ := hc
    generalize hP : PV.agg [.int .i64 k, .int .i64 n, .slice sz es .any] = P at *
    have hlt := (List.getElem?_eq_some_iff.1 h1).1
    have hltw := (List.getElem?_eq_some_iff.1 h2).1
    have M2 : Mod H ((H ++ [AE.Obj.row 3 [P]]) ++ [AE.Obj.row 1 [.int .i64 deep]]) kl (lRow lf) := (Mod.refl h1).push.push
    have k1 : ((H ++ [AE.Obj.row 3 [P]]) ++ [AE.Obj.row 1 [.int .i64 deep]])[kl]? = some (lRow lf) := keepL (keepL h1)
    have k2 : ((H ++ [AE.Obj.row 3 [P]]) ++ [AE.Obj.row 1 [.int .i64 deep]])[kw]? = some (fRow kl kw) := keepL (keepL h2)
    have k3 : ((H ++ [AE.Obj.row 3 [P]]) ++ [AE.Obj.row 1 [.int .i64 deep]])[(H ++ [AE.Obj.row 3 [P]]).length]? = some (lRow deep) := by simp [lRow]
    have k4 : ((H ++ [AE.Obj.row 3 [P]]) ++ [AE.Obj.row 1 [.int .i64 deep]])[H.length]? = some (.row 3 [P]) := keepL (by simp)
    have hkd : kl < (H ++ [AE.Obj.row 3 [P]]).length := by simp; omega
    have hkP : kl < H.length := hlt
    generalize hkd' : (H ++ [AE.Obj.row 3 [P]]).length = kd at *
    generalize hH2 : (H ++ [AE.Obj.row 3 [P]]) ++ [AE.Obj.row 1 [.int .i64 deep]] = H2 at *
    have s1 := fun ws ups => st1_0 (ws := ws) (ups := ups) (v := lf - 1) k1
    have M3 := M2.put (o' := lRow (lf - 1))
    have j1 : (H2.set kl (lRow (lf - 1)))[kl]? = some (lRow (lf - 1)) := get_set k1
    have j2 : (H2.set kl (lRow (lf - 1)))[kw]? = some (fRow kl kw) := get_set_ne k2 hne
    have j3 : (H2.set kl (lRow (lf - 1)))[kd]? = some (lRow deep) := get_set_ne k3 (by omega)
    have j4 : (H2.set kl (lRow (lf - 1)))[H.length]? = some (.row 3 [P]) := get_set_ne k4 (by omega)
    generalize hH3 : H2.set kl (lRow (lf - 1)) = H3 at *
    have lP : loadAt false 1 (.ptr H.length 0 2 1) H3 = some (.slice sz es .any) := by rw [ld_at j4, ← hP]; rfl
    obtain ⟨wz, t1, t2⟩ := tidy_mod (v := .bool false) (ws := wadd kl []) rfl M3 (fun x hx => by
      rcases mem_wadd hx with h | h
      · exact .inl h
      · cases h)
    by_cases hz : lf = 0
    · have b0 : ¬ (0 : Int) ≤ lf - 1 := by omega
      simp (disch := first | omega | decide | (simp only [eget_eput', ↓reduceIte, Nat.reduceEqDiff]; done)) only [go_sem, ↓reduceIte, Nat.reduceEqDiff, Nat.reduceAdd, Nat.reduceMul, reduceCtorEq, c1, c3, hkd', hH2, ld_l k1, s1, hH3, ld_l j1, b0, t1]
      exact ⟨(false, lf - 1, wz), rfl, ⟨by dsimp only; omega, by dsimp only; omega⟩, (fun h => by cases h), t2⟩
    · have b0 : (0 : Int) ≤ lf - 1 := by omega
      by_cases hd : deep < 100
      · obtain ⟨⟨r, lf', ws⟩, ev, q1, q2, q3⟩ := contains48_w hT (g := 85) (cap := [.ptr kw 0 0 1, .ptr kd 0 0 1]) (left0 := lf - 1) (m := .any) (by rw [hT.prim]; rfl) j1 ⟨b0, by omega⟩ hs hl he fun i x p hx hp lf' hl0 hl1 => few85 hT (he i x p hx hp) (get_set j1) (get_set_ne j2 hne) (get_set_ne j3 (by omega)) ⟨hdp.1, hd⟩ fun H' g1 g2 => ih i x p hx hp (he i x p hx hp).cells H' kl kw lf' (deep + 1) g1 g2 hne ⟨hl0, by omega⟩ ⟨by omega, by omega⟩
        obtain ⟨wy, u1, u2⟩ := tidy_mod (v := .bool (!r)) (ws := wall ws (wadd kl [])) rfl (M3.put (o' := lRow lf')) (fun x hx => .inl (by
          rcases mem_wall hx with h | h
          · exact q3 x h
          · rcases mem_wadd h with h | h
            · exact h
            · cases h))
        simp (disch := first | omega | decide | (simp only [eget_eput', ↓reduceIte, Nat.reduceEqDiff]; done)) only [go_sem, ↓reduceIte, Nat.reduceEqDiff, Nat.reduceAdd, Nat.reduceMul, reduceCtorEq, c1, c3, hkd', hH2, ld_l k1, s1, hH3, ld_l j1, b0, ld_l j3, hd, lP, cb ev, hT.prim, primOf, u1]
        refine ⟨(!r, lf', wy), by simp only [Bool.false_xor], ⟨q1.1, by have := q1.2; dsimp only at *; omega⟩, fun h => ?_, u2⟩
        have hr : r = false := by simpa using h
        obtain ⟨a1, a2⟩ := q2 hr
        simp only [Tm.nodes]
        dsimp only at *
        omega
      · simp (disch := first | omega | decide | (simp only [eget_eput', ↓reduceIte, Nat.reduceEqDiff]; done)) only [go_sem, ↓reduceIte, Nat.reduceEqDiff, Nat.reduceAdd, Nat.reduceMul, reduceCtorEq, c1, c3, hkd', hH2, ld_l k1, s1, hH3, ld_l j1, b0, ld_l j3, hd, t1]
        exact ⟨(false, lf - 1, wz), rfl, ⟨by dsimp only; omega, by dsimp only; omega⟩, (fun h => by cases h), t2⟩
include hT in
theorem few86 {x : Tm} {p : PV} (hx : Enc x p) {H : List AE.Obj} {kl kw : Nat} {lf : Int} (h1 : H[kl]? = some (lRow lf)) (h2 : H[kw]? = some (fRow kl kw)) (hne : kl ≠ kw) (hlf : 0 ≤ lf ∧ lf ≤ 100) : FewR T 86 [p, .ptr kw 0 0 1] H kl lf x.nodes true := by
  refine Ev.walkP (r := fun (x : Bool × Int × List Nat) => (.val (.bool (true ^^ x.1)), ⟨H.set kl (lRow x.2.1), x.2.2, []⟩)) (hT.sp _ (by decide)) ((hT.fn _).trans fn86) (hT.mode _) rfl ?_
  obtain ⟨c1, c2, c3, c4⟩ := hx.cells
  have hsub := hx.sub
  have M1 : Mod H (H ++ [AE.Obj.row 3 [p]]) kl (lRow lf) := (Mod.refl h1).push
  have k1 : (H ++ [AE.Obj.row 3 [p]])[kl]? = some (lRow lf) := keepL h1
  have k2 : (H ++ [AE.Obj.row 3 [p]])[kw]? = some (fRow kl kw) := keepL h2
  have k4 : (H ++ [AE.Obj.row 3 [p]])[H.length]? = some (.row 3 [p]) := by simp
  generalize hH1 : H ++ [AE.Obj.row 3 [p]] = H1 at *
  have lp : loadAt true 3 (.ptr H.length 0 0 1) H1 = some p := by rw [ld_at k4]; exact hsub
  obtain ⟨⟨b, lf', ws⟩, ev, q1, q2, q3⟩ := few84 hT hx H1 kl kw lf 0 k1 k2 hne hlf ⟨by omega, by omega⟩
  simp only [Bool.false_xor] at ev q1 q2 q3
  obtain ⟨wz, t1, t2⟩ := tidy_mod (v := .bool (!b)) (ws := wall ws []) rfl (M1.put (o' := lRow lf')) (fun x hx => .inl (by
    rcases mem_wall hx with h | h
    · exact q3 x h
    · cases h))
  simp (disch := first | omega | decide | (simp only [eget_eput', ↓reduceIte, Nat.reduceEqDiff]; done)) only [go_sem, ↓reduceIte, Nat.reduceEqDiff, Nat.reduceAdd, Nat.reduceMul, reduceCtorEq, hH1, c1, c3, ld_f k2, lp, cb ev, hT.prim, primOf, t1]
  exact ⟨(b, lf', wz), by simp only [Bool.true_xor], q1, q2, t2⟩
theorem st_fn {H : List AE.Obj} {ws : List Nat} {ups : List (Nat × Nat)} {k kl kw : Nat} (hk : H[k]? = some (.row 1 [.nilFunc])) :
    ∃ ups', storeAt 1 (.ptr k 0 0 1) (.func (.func 84) [] [.ptr kl 0 0 1, .ptr kw 0 0 1]) ⟨H, ws, ups⟩ = some ⟨H.set k (fRow kl kw), wadd k ws, ups'⟩ ∧ ∀ x ∈ ups', x ∈ ups ∨ x.1 = k := by
  have hu : upd .nilFunc 0 (.func (.func 84) [] [.ptr kl 0 0 1, .ptr kw 0 0 1]) = some (.func (.func 84) [] [.ptr kl 0 0 1, .ptr kw 0 0 1]) := rfl
  have h1 : storeAt 1 (.ptr k 0 0 1) (.func (.func 84) [] [.ptr kl 0 0 1, .ptr kw 0 0 1]) ⟨H, ws, ups⟩ = some (wrote k (fRow kl kw) (PV.func (.func 84) [] [.ptr kl 0 0 1, .ptr kw 0 0 1]).top ⟨H, ws, ups⟩) := by
    simp only [storeAt, hk, List.length_cons, List.length_nil, PV.cells, List.all_cons, List.all_nil, PV.isCell, Bool.and_self, and_self, if_true, List.getElem?_cons_zero, hu, Option.map, List.set_cons_zero, fRow]
  rw [h1]
  cases (PV.func (.func 84) [] [.ptr kl 0 0 1, .ptr kw 0 0 1]).top with
  | none => exact ⟨ups, by rw [wrote_none], fun x hx => .inl hx⟩
  | some j =>
    refine ⟨_, by rw [wrote_some], fun x hx => ?_⟩
    split at hx
    · rcases List.mem_cons.1 hx with rfl | h
      · exact .inr rfl
      · exact .inl h
    · exact .inl hx
include hT in
theorem few_ev {t : Tm} {p : PV} (ht : Enc t p) (h : List AE.Obj) : ∃ b : Bool, Ev T 17 [.int .i64 100, .slice 3 [p] .lit] h (.val (.bool b), ⟨h, [], []⟩) ∧ (b = true → t.nodes ≤ 100) := by
  refine Ev.walkP (r := fun (b : Bool) => (.val (.bool b), ⟨h, [], []⟩)) (hT.sp _ (by decide)) ((hT.fn _).trans fn17) (hT.mode _) rfl ?_
  have low : Low h.length h ((h ++ [AE.Obj.row 1 [.int .i64 100]]) ++ [AE.Obj.row 1 [.nilFunc]]) := ((Low.refl _ _).push (Nat.le_refl _)).push (by simp)
  have k1 : ((h ++ [AE.Obj.row 1 [.int .i64 100]]) ++ [AE.Obj.row 1 [.nilFunc]])[h.length]? = some (lRow 100) := keepL (by simp [lRow])
  have k2 : ((h ++ [AE.Obj.row 1 [.int .i64 100]]) ++ [AE.Obj.row 1 [.nilFunc]])[(h ++ [AE.Obj.row 1 [.int .i64 100]]).length]? = some (.row 1 [.nilFunc]) := by simp
  have hkw : (h ++ [AE.Obj.row 1 [.int .i64 100]]).length = h.length + 1 := by simp
  generalize hkw' : (h ++ [AE.Obj.row 1 [.int .i64 100]]).length = kw at *
  generalize hH : (h ++ [AE.Obj.row 1 [.int .i64 100]]) ++ [AE.Obj.row 1 [.nilFunc]] = H at *
  obtain ⟨ups, sf, hu⟩ := st_fn (ws := []) (ups := []) (kl := h.length) (kw := kw) k2
  have j1 : (H.set kw (fRow h.length kw))[h.length]? = some (lRow 100) := get_set_ne k1 (by omega)
  have j2 : (H.set kw (fRow h.length kw))[kw]? = some (fRow h.length kw) := get_set k2
  have low2 : Low h.length h (H.set kw (fRow h.length kw)) := low.trans (.set (by omega))
  generalize hH1 : H.set kw (fRow h.length kw) = H1 at *
  have hx1 : ∀ (i : Nat) (x : Tm) (q : PV), [t][i]? = some x → [p][i]? = some q → Enc x q := fun i x q h1 h2 => by
    cases i with
    | zero => simp at h1 h2; subst h1 h2; exact ht
    | succ i => simp at h1
  obtain ⟨⟨r, lf', ws⟩, ev, q1, q2, q3⟩ := contains48_w hT (g := 86) (cap := [.ptr kw 0 0 1]) (left0 := 100) (m := .lit) (sz := 3) (by rw [hT.prim]; rfl) j1 ⟨by omega, by omega⟩ (.inr rfl) (show [p].length = [t].length from rfl) hx1 fun i x q hx hq lf' hl0 hl1 => few86 hT (hx1 i x q hx hq) (get_set j1) (get_set_ne j2 (by omega)) (by omega) ⟨hl0, hl1⟩
  dsimp only at ev q1 q2 q3
  have td : tidy 0 h.length (.val (.bool (!r))) ⟨H1.set h.length (lRow lf'), wall ws (wadd kw []), ups⟩ = (.val (.bool (!r)), ⟨h, [], []⟩) := tidy_ups rfl (low2.trans (.set (Nat.le_refl _))) (fun x hx => by
    rcases mem_wall hx with h | h
    · have := q3 x h; omega
    · rcases mem_wadd h with h | h
      · omega
      · cases h) (fun x hx => by
    rcases hu x hx with h | h
    · cases h
    · omega)
  simp (disch := first | omega | decide | (simp only [eget_eput', ↓reduceIte, Nat.reduceEqDiff]; done)) only [go_sem, ↓reduceIte, Nat.reduceEqDiff, Nat.reduceAdd, Nat.reduceMul, reduceCtorEq, hkw', hH, sf, hH1, cb ev, hT.prim, primOf, td]
  refine ⟨!r, rfl, fun h => ?_⟩
  have hr : r = false := by simpa using h
  obtain ⟨a1, a2⟩ := q2 hr
  simp only [nodesL] at a2
  omega
end Go.Proofs.Tryz
/- ValsInverse: from a term to its number and back. -/
namespace Go.Proofs.Tryz
open Go Go.AE
variable {T : Tbl} (hT : Std T) {s : GSig}

/-- What the law knows of nth. -/
def Nth6 (T : Tbl) (s : GSig) : Prop := ∀ (a m : Nat) (n : Int), a < s.sorts.length → 1 ≤ m → m ≤ 60 → 0 ≤ n → n < cntOf s a m → ∃ p, Nth91 s a m n p ∧ ∀ h, Ev T 91 [encTab s, .int .i64 (a : Int), .int .i64 (m : Int), .int .i64 n] h (.val p, ⟨h, [], []⟩)
/-- The end of the law. -/
def QT (Q : AExit → List PV → St → Prop) (lo : Nat) (h : List AE.Obj) : Prop := ∀ e' H' ws', eget e' 10 = .bool true → Low lo h H' → (∀ x ∈ ws', lo ≤ x) → Q .ret e' ⟨H', ws', []⟩

include hT in
theorem inv_t_err {r : Int} (hr : r ≠ 0) (E87 : ∀ h, Ev T 87 [encSig s] h (.val (.int .i64 r), ⟨h, [], []⟩)) {t : Tm} {p : PV} (ht : Enc t p) {h H : List AE.Obj} {ws : List Nat} {lo k5 k9 : Nat} {e : List PV} {Q : AExit → List PV → St → Prop} (k5' : H[k5]? = some (.row 2 [encSig s])) (k9' : H[k9]? = some (.row 3 [p])) (low : Low lo h H) (hw : ∀ x ∈ ws, lo ≤ x) (e5 : eget e 5 = .ptr k5 0 0 1) (e9 : eget e 9 = .ptr k9 0 0 1) (hQ : QT Q lo h) : wpC T a6t e ⟨H, ws, []⟩ Q := by
  have l5 : loadAt true 2 (.ptr k5 0 0 1) H = some (encSig s) := by rw [ld_at k5']; rfl
  have l9 : loadAt true 3 (.ptr k9 0 0 1) H = some p := by rw [ld_at k9']; exact ht.sub
  have c45 := fun h => sort_err hT hr E87 ht h
  have b1 : ((40 : Int) != 0) = true := rfl
  simp (disch := first | omega | decide | (simp only [eget_eput', ↓reduceIte, Nat.reduceEqDiff]; done)) only [go_sem, ↓reduceIte, Nat.reduceEqDiff, Nat.reduceAdd, Nat.reduceMul, reduceCtorEq, a6t, e5, e9, l5, l9, cb (c45 _), hT.prim, primOf, b1]
  exact hQ _ _ _ (by simp (disch := first | omega | decide | (simp only [eget_eput', ↓reduceIte, Nat.reduceEqDiff]; done)) only [go_sem, ↓reduceIte, Nat.reduceEqDiff, Nat.reduceAdd, Nat.reduceMul, reduceCtorEq]) low hw
include hT in
theorem inv_t_ok (hs : GOk s) (E87 : ∀ h, Ev T 87 [encSig s] h (.val (.int .i64 0), ⟨h, [], []⟩)) (E91 : Nth6 T s) {t : Tm} {p : PV} (ht : Enc t p) (hn : t.nodes ≤ 100) {h H : List AE.Obj} {ws : List Nat} {lo k5 k9 : Nat} {e : List PV} {Q : AExit → List PV → St → Prop} (k5' : H[k5]? = some (.row 2 [encSig s])) (k9' : H[k9]? = some (.row 3 [p])) (low : Low lo h H) (hlo : lo ≤ H.length) (hw : ∀ x ∈ ws, lo ≤ x) (e5 : eget e 5 = .ptr k5 0 0 1) (e9 : eget e 9 = .ptr k9 0 0 1) (hQ : QT Q lo h) : wpC T a6t e ⟨H, ws, []⟩ Q := by
  have l5 : loadAt true 2 (.ptr k5 0 0 1) H = some (encSig s) := by rw [ld_at k5']; rfl
  have l9 : loadAt true 3 (.ptr k9 0 0 1) H = some p := by rw [ld_at k9']; exact ht.sub
  have c45 := fun h => sort_ev hT hs E87 ht (by omega) h
  have c20 := fun h => numb_ev hT hs E87 ht (by omega) h
  obtain ⟨d, c46, _⟩ := size_ev hT ht (by omega) H
  by_cases h0 : (sortR s t).2 = 0
  · have hwt := sortR_WT h0
    have h0' : ((sortR s t).2 != 0) = false := by simp [h0]
    by_cases hok : t.nodes ≤ 60 ∧ t.num s < 1099511627776
    · obtain ⟨h60, hnum⟩ := hok
      have hnr : numR s t = (t.num s, 0) := by simp [numR, h0, h60, hnum]
      rw [hnr] at c20
      obtain ⟨hN, _⟩ := num_ok hs.ops _ t _ (Nat.le_refl _) h60 hwt hnum
      have hN0 := num_nn hs.ops _ t _ (Nat.le_refl _) h60 hwt
      obtain ⟨ha0, ha1, _⟩ := cnt_pos hs.ops _ t _ (Nat.le_refl _) h60 hwt
      generalize hsa : (sortR s t).1 = a0 at *
      obtain ⟨a, rfl⟩ := Int.eq_ofNat_of_zero_le ha0
      have hcnt : t.num s < cntOf s a t.nodes := hN
      have ha : a < s.sorts.length := by omega
      obtain ⟨q, ⟨x, hx, hxw, hxn, hxq⟩, e91⟩ := E91 a t.nodes (t.num s) ha (nodes_pos t) h60 hN0 hcnt
      have hxt : t = x := num_inj hs.ops _ t x _ (Nat.le_refl _) h60 hxn.symm hwt hxw hnum hxq.symm
      subst hxt
      have c44 := fun h => count_ok hT hs E87 ha h60 h
      have c18 := fun h => nth_ok hT hs E87 ha h60 ⟨hN0, hcnt⟩ (hx.isT (by omega)) e91 h
      have c22 := fun h => sameE_ev hT hx p ht (by omega) h
      obtain ⟨d1, d2, d3, d4⟩ := hx.cells
      have sb := fun ws => st_box (h := H) (ws := ws) (ups := []) (z := .agg [(.int .i64 0), (.int .i64 0), (.slice 0 [] .nil)]) (sz := 3) (c := q) d1 rfl d2 hx.facts.1 ⟨_, rfl⟩ d4
      have kq : (H ++ [AE.Obj.row 3 [q]])[H.length]? = some (.row 3 [q]) := by simp
      have kp : (H ++ [AE.Obj.row 3 [q]])[k9]? = some (.row 3 [p]) := keepL k9'
      have low2 : Low lo h (H ++ [AE.Obj.row 3 [q]]) := low.push hlo
      generalize hH1 : H ++ [AE.Obj.row 3 [q]] = H1 at *
      have lq : loadAt true 3 (.ptr H.length 0 0 1) H1 = some q := by rw [ld_at kq]; exact hx.sub
      have lp : loadAt true 3 (.ptr k9 0 0 1) H1 = some p := by rw [ld_at kp]; exact ht.sub
      simp (disch := first | omega | decide | (simp only [eget_eput', ↓reduceIte, Nat.reduceEqDiff]; done)) only [go_sem, ↓reduceIte, Nat.reduceEqDiff, Nat.reduceAdd, Nat.reduceMul, reduceCtorEq, a6t, e5, e9, l5, l9, cb (c45 _), hsa, h0', h0, cb c46, cb (c20 _), cb (c44 _), cb (c18 _), cb (c22 _), sb, hH1, lq, lp, hN0, hcnt, bne_self_eq_false, beq_self_eq_true, List.length_cons, List.length_nil, hT.prim, primOf]
      exact hQ _ _ _ (by simp (disch := first | omega | decide | (simp only [eget_eput', ↓reduceIte, Nat.reduceEqDiff]; done)) only [go_sem, ↓reduceIte, Nat.reduceEqDiff, Nat.reduceAdd, Nat.reduceMul, reduceCtorEq]) low2 (wadd_low hlo hw)
    · have hnr : numR s t = (0, 2) := by
        unfold numR
        rw [if_pos h0]
        by_cases h60 : t.nodes ≤ 60
        · rw [if_pos h60, if_neg fun h => hok ⟨h60, h⟩]
        · rw [if_neg h60]
      rw [hnr] at c20
      have b2 : ((2 : Int) != 0) = true := rfl
      have b3 : ((2 : Int) == 2) = true := rfl
      simp (disch := first | omega | decide | (simp only [eget_eput', ↓reduceIte, Nat.reduceEqDiff]; done)) only [go_sem, ↓reduceIte, Nat.reduceEqDiff, Nat.reduceAdd, Nat.reduceMul, reduceCtorEq, a6t, e5, e9, l5, l9, cb (c45 _), h0', h0, cb c46, cb (c20 _), b2, b3, bne_self_eq_false, hT.prim, primOf]
      exact hQ _ _ _ (by simp (disch := first | omega | decide | (simp only [eget_eput', ↓reduceIte, Nat.reduceEqDiff]; done)) only [go_sem, ↓reduceIte, Nat.reduceEqDiff, Nat.reduceAdd, Nat.reduceMul, reduceCtorEq]) low hw
  · have h0' : ((sortR s t).2 != 0) = true := by simpa using h0
    simp (disch := first | omega | decide | (simp only [eget_eput', ↓reduceIte, Nat.reduceEqDiff]; done)) only [go_sem, ↓reduceIte, Nat.reduceEqDiff, Nat.reduceAdd, Nat.reduceMul, reduceCtorEq, a6t, e5, e9, l5, l9, cb (c45 _), h0', hT.prim, primOf]
    exact hQ _ _ _ (by simp (disch := first | omega | decide | (simp only [eget_eput', ↓reduceIte, Nat.reduceEqDiff]; done)) only [go_sem, ↓reduceIte, Nat.reduceEqDiff, Nat.reduceAdd, Nat.reduceMul, reduceCtorEq]) low hw
end Go.Proofs.Tryz
