/- Texts of the proof, one behind the other: ValFnsN, ValM6, ValM7, ValFnsR, ValR1. -/
import Derived.Test.YtekepgfmgeophaaGreatPartAJ
import Derived.Test.YtekepgfmgeophaaGreatPartAN
import Derived.Test.YtekepgfmgeophaaGreatPartAL
set_option linter.unusedVariables false
set_option linter.unusedSimpArgs false
/- Functions of ValsNumbers, as the evaluator sees them: printed by tools/Print.lean. -/
namespace Go.Proofs.Tryz
open Go Go.AE
def a3 : AFunc := ⟨5, 76, (.seq (.reg [
 rp 5 (.box 2 (.t 0)),
 rp 9 (.box 3 (.t 4)),
 ro 10 (.move (.c (.bool false)))])
 (.seq (.seq (.reg [
 rp 19 (.call (.f 15) []),
 ro 20 (.un .not (.t 19))])
 (.cond (.t 20)
 (.seq (.reg [
 ro 10 (.move (.c (.bool false)))])
 .ret)
 .skip))
 (.seq (.seq (.reg [
 rp 21 (.load true 2 (.t 5)),
 rp 22 (.call (.f 16) [(.t 21)]),
 ro 23 (.un .not (.t 22)),
 ro 24 (.move (.t 23)),
 rh 25 (.load true 3 (.t 9)) 24 false,
 rg 26 (.buildSlice 3 (.agg [(.int .i64 0), (.int .i64 0), (.slice 0 [] .nil)]) 1 [(0, (.t 25))]) 24 false,
 rh 27 (.call (.f 17) [(.c (.int .i64 100)), (.t 26)]) 24 false,
 rg 28 (.un .not (.t 27)) 24 false,
 ro 29 (.pick (.t 24) (.c (.bool true)) (.t 28))])
 (.cond (.t 29)
 (.seq (.reg [
 ro 10 (.move (.c (.bool true)))])
 .ret)
 .skip))
 (.seq (.reg [
 rp 31 (.load true 2 (.t 5)),
 ro 32 (.move (.t 1)),
 ro 33 (.move (.t 2)),
 ro 34 (.move (.t 3)),
 rp 35 (.call (.f 18) [(.t 31), (.t 32), (.t 33), (.t 34)]),
 ro 30 (.move (.t 35)),
 ro 36 (.extract (.t 30) 0),
 ro 37 (.extract (.t 30) 1),
 rp 11 (.box 3 (.c (.agg [(.int .i64 0), (.int .i64 0), (.slice 0 [] .nil)]))),
  ⟨none, .store 3 (.t 11) (.t 36), none, true, 0, 0, false⟩,
 ro 12 (.move (.t 37))])
 (.seq (.reg [
 rp 39 (.load true 2 (.t 5)),
 ro 40 (.move (.t 1)),
 ro 41 (.move (.t 2)),
 ro 42 (.move (.t 3)),
 rp 43 (.call (.f 19) [(.t 39), (.t 40), (.t 41), (.t 42)]),
 ro 38 (.move (.t 43)),
 ro 44 (.extract (.t 38) 0),
 ro 45 (.extract (.t 38) 1),
 rp 13 (.box 3 (.c (.agg [(.int .i64 0), (.int .i64 0), (.slice 0 [] .nil)]))),
  ⟨none, .store 3 (.t 13) (.t 44), none, true, 0, 0, false⟩,
 ro 14 (.move (.t 45))])
 (.seq (.reg [
 rp 47 (.load true 2 (.t 5)),
 rp 48 (.load true 3 (.t 9)),
 rp 49 (.call (.f 20) [(.t 47), (.t 48)]),
 ro 46 (.move (.t 49)),
 ro 50 (.extract (.t 46) 0),
 ro 51 (.extract (.t 46) 1),
 ro 15 (.move (.t 50)),
 ro 16 (.move (.t 51))])
 (.seq (.reg [
 rp 53 (.load true 2 (.t 5)),
 rp 54 (.load true 3 (.t 9)),
 rp 55 (.call (.f 21) [(.t 53), (.t 54)]),
 ro 52 (.move (.t 55)),
 ro 56 (.extract (.t 52) 0),
 ro 57 (.extract (.t 52) 1),
 ro 17 (.move (.t 56)),
 ro 18 (.move (.t 57))])
 (.seq (.reg [
 rp 58 (.load true 3 (.t 11)),
 rp 59 (.load true 3 (.t 13)),
 rp 60 (.call (.f 22) [(.t 58), (.t 59)]),
 ro 61 (.move (.t 60)),
 rg 62 (.move (.t 12)) 61 true,
 rg 63 (.move (.t 14)) 61 true,
 rg 64 (.bin .eql (.t 62) (.t 63)) 61 true,
 ro 65 (.pick (.t 61) (.t 64) (.c (.bool false))),
 ro 66 (.move (.t 65)),
 rg 67 (.move (.t 15)) 66 true,
 rg 68 (.move (.t 17)) 66 true,
 rg 69 (.bin .eql (.t 67) (.t 68)) 66 true,
 ro 70 (.pick (.t 66) (.t 69) (.c (.bool false))),
 ro 71 (.move (.t 70)),
 rg 72 (.move (.t 16)) 71 true,
 rg 73 (.move (.t 18)) 71 true,
 rg 74 (.bin .eql (.t 72) (.t 73)) 71 true,
 ro 75 (.pick (.t 71) (.t 74) (.c (.bool false))),
 ro 10 (.move (.t 75))])
 .ret)))))))), [.t 10]⟩
theorem fn3 : fnOf 3 = some a3 := by kernel_rfl
def a19 : AFunc := ⟨4, 49, (.seq (.reg [
 rp 4 (.box 2 (.t 0)),
 rp 8 (.box 3 (.c (.agg [(.int .i64 0), (.int .i64 0), (.slice 0 [] .nil)]))),
 ro 9 (.move (.c (.int .i64 0)))])
 (.seq (.reg [
 rp 12 (.load true 2 (.t 4)),
 ro 13 (.move (.t 1)),
 rp 14 (.call (.f 92) [(.t 12), (.t 13)]),
 ro 10 (.move (.t 14))])
 (.seq (.seq (.reg [
 ro 15 (.move (.t 10)),
 ro 16 (.bin .neq (.t 15) (.c (.int .i64 0)))])
 (.cond (.t 16)
 (.seq (.reg [
 ro 17 (.build [(.int .i64 0), (.int .i64 0), (.slice 0 [] .nil)] []),
 ro 18 (.move (.t 10)),
  ⟨none, .store 3 (.t 8) (.t 17), none, true, 0, 0, false⟩,
 ro 9 (.move (.t 18))])
 .ret)
 .skip))
 (.seq (.seq (.reg [
 ro 19 (.move (.t 2)),
 ro 20 (.bin .lss (.t 19) (.c (.int .i64 1))),
 ro 21 (.move (.t 20)),
 rg 22 (.move (.t 2)) 21 false,
 rg 23 (.bin .gtr (.t 22) (.c (.int .i64 60))) 21 false,
 ro 24 (.pick (.t 21) (.c (.bool true)) (.t 23))])
 (.cond (.t 24)
 (.seq (.reg [
 ro 25 (.build [(.int .i64 0), (.int .i64 0), (.slice 0 [] .nil)] []),
  ⟨none, .store 3 (.t 8) (.t 25), none, true, 0, 0, false⟩,
 ro 9 (.move (.c (.int .i64 1)))])
 .ret)
 .skip))
 (.seq (.reg [
 rp 26 (.load true 2 (.t 4)),
 ro 27 (.move (.t 2)),
 rp 28 (.call (.f 93) [(.t 26), (.t 27)]),
 ro 11 (.move (.t 28))])
 (.seq (.seq (.reg [
 ro 29 (.move (.t 3)),
 ro 30 (.bin .lss (.t 29) (.c (.int .i64 0))),
 ro 31 (.move (.t 30)),
 rg 32 (.move (.t 3)) 31 false,
 rg 33 (.move (.t 11)) 31 false,
 rg 34 (.move (.t 2)) 31 false,
 rg 35 (.idxAddr 1 (.t 33) (.t 34)) 31 false,
 rh 36 (.load false 1 (.t 35)) 31 false,
 rg 37 (.move (.t 1)) 31 false,
 rg 38 (.idxAddr 1 (.t 36) (.t 37)) 31 false,
 rh 39 (.load false 1 (.t 38)) 31 false,
 rg 40 (.bin .geq (.t 32) (.t 39)) 31 false,
 ro 41 (.pick (.t 31) (.c (.bool true)) (.t 40))])
 (.cond (.t 41)
 (.seq (.reg [
 ro 42 (.build [(.int .i64 0), (.int .i64 0), (.slice 0 [] .nil)] []),
  ⟨none, .store 3 (.t 8) (.t 42), none, true, 0, 0, false⟩,
 ro 9 (.move (.c (.int .i64 1)))])
 .ret)
 .skip))
 (.seq (.reg [
 rp 43 (.load true 2 (.t 4)),
 ro 44 (.move (.t 11)),
 ro 45 (.move (.t 1)),
 ro 46 (.move (.t 2)),
 ro 47 (.move (.t 3)),
 rp 48 (.call (.f 94) [(.t 43), (.t 44), (.t 45), (.t 46), (.t 47)]),
  ⟨none, .store 3 (.t 8) (.t 48), none, true, 0, 0, false⟩,
 ro 9 (.move (.c (.int .i64 0)))])
 .ret))))))), [.cell 8 true 3, .t 9]⟩
theorem fn19 : fnOf 19 = some a19 := by kernel_rfl
def a21 : AFunc := ⟨2, 39, (.seq (.reg [
 rp 2 (.box 2 (.t 0)),
 rp 3 (.box 3 (.t 1)),
 ro 4 (.move (.c (.int .i64 0))),
 ro 5 (.move (.c (.int .i64 0)))])
 (.seq (.reg [
 rp 10 (.load true 2 (.t 2)),
 rp 11 (.call (.f 97) [(.t 10)]),
 ro 6 (.move (.t 11))])
 (.seq (.seq (.reg [
 ro 12 (.move (.t 6)),
 ro 13 (.bin .neq (.t 12) (.c (.int .i64 0)))])
 (.cond (.t 13)
 (.seq (.reg [
 ro 14 (.move (.t 6)),
 ro 4 (.move (.c (.int .i64 0))),
 ro 5 (.move (.t 14))])
 .ret)
 .skip))
 (.seq (.reg [
 rp 16 (.load true 2 (.t 2)),
 rp 17 (.load true 3 (.t 3)),
 rp 18 (.call (.f 98) [(.t 16), (.c (.slice 0 [] .nil)), (.t 17)]),
 ro 15 (.move (.t 18)),
 ro 19 (.extract (.t 15) 0),
 ro 20 (.extract (.t 15) 1),
 ro 6 (.move (.t 20))])
 (.seq (.seq (.reg [
 ro 21 (.move (.t 6)),
 ro 22 (.bin .neq (.t 21) (.c (.int .i64 0)))])
 (.cond (.t 22)
 (.seq (.reg [
 ro 4 (.move (.c (.int .i64 0))),
 ro 5 (.move (.c (.int .i64 4)))])
 .ret)
 .skip))
 (.seq (.reg [
 rp 24 (.load true 3 (.t 3)),
 rp 25 (.call (.f 99) [(.t 24)]),
 ro 23 (.move (.t 25)),
 ro 26 (.extract (.t 23) 0),
 ro 27 (.extract (.t 23) 1),
 ro 7 (.move (.t 26)),
 ro 8 (.move (.t 27))])
 (.seq (.seq (.reg [
 ro 28 (.move (.t 7)),
 ro 29 (.bin .gtr (.t 28) (.c (.int .i64 60)))])
 (.cond (.t 29)
 (.seq (.reg [
 ro 4 (.move (.c (.int .i64 0))),
 ro 5 (.move (.c (.int .i64 2)))])
 .ret)
 .skip))
 (.seq (.regD [
 rp 30 (.load true 2 (.t 2)),
  ⟨(some 31), .load true 2 (.t 2), none, true, 1, 0, false⟩,
  ⟨(some 32), .move (.t 7), none, false, 2, 0, false⟩,
  ⟨(some 33), .call (.f 93) [(.t 31), (.t 32)], none, true, 3, 6, false⟩,
  ⟨(some 34), .load true 3 (.t 3), none, true, 4, 0, true⟩,
  ⟨(some 35), .call (.f 100) [(.t 30), (.t 33), (.t 34)], none, true, 5, 31, true⟩,
  ⟨(some 9), .move (.t 35), none, false, 6, 63, true⟩])
 (.seq (.seq (.reg [
 ro 36 (.move (.t 9)),
 ro 37 (.bin .geq (.t 36) (.c (.int .i64 1099511627776)))])
 (.cond (.t 37)
 (.seq (.reg [
 ro 4 (.move (.c (.int .i64 0))),
 ro 5 (.move (.c (.int .i64 2)))])
 .ret)
 .skip))
 (.seq (.reg [
 ro 38 (.move (.t 9)),
 ro 4 (.move (.t 38)),
 ro 5 (.move (.c (.int .i64 0)))])
 .ret)))))))))), [.t 4, .t 5]⟩
theorem fn21 : fnOf 21 = some a21 := by kernel_rfl
def a94b0 : ACode :=
 (.seq (.seq (.reg [
 ro 13 (.move (.t 11)),
 ro 14 (.fieldAddr 1 (.t 5)),
 rp 15 (.load false 1 (.t 14)),
 ro 16 (.lenL (.t 15)),
 ro 17 (.bin .lss (.t 13) (.t 16))])
 (.cond (.t 17)
 .skip
 (.exit 0)))
 (.seq (.block 1 (.seq (.seq (.reg [
 ro 20 (.fieldAddr 1 (.t 5)),
 rp 21 (.load false 1 (.t 20)),
 ro 22 (.move (.t 11)),
 ro 23 (.idxAddr 3 (.t 21) (.t 22)),
 ro 24 (.fieldAddr 2 (.t 23)),
 rp 25 (.load false 1 (.t 24)),
 ro 26 (.move (.t 2)),
 ro 27 (.bin .neq (.t 25) (.t 26))])
 (.cond (.t 27)
 (.exit 1)
 .skip))
 (.seq (.reg [
 ro 28 (.fieldAddr 1 (.t 5)),
 rp 29 (.load false 1 (.t 28)),
 ro 30 (.move (.t 11)),
 ro 31 (.idxAddr 3 (.t 29) (.t 30)),
 ro 32 (.fieldAddr 1 (.t 31)),
 rp 33 (.load false 1 (.t 32)),
 ro 34 (.move (.t 3)),
 ro 35 (.bin .sub (.t 34) (.c (.int .i64 1))),
 ro 36 (.move (.t 1)),
 rp 37 (.call (.f 166) [(.t 33), (.t 35), (.t 36)]),
 ro 12 (.move (.t 37))])
 (.seq (.seq (.reg [
 ro 38 (.move (.t 4)),
 ro 39 (.move (.t 12)),
 ro 40 (.bin .lss (.t 38) (.t 39))])
 (.cond (.t 40)
 (.seq (.regD [
 ro 41 (.move (.t 11)),
  ⟨(some 42), .load true 2 (.t 5), none, true, 1, 0, false⟩,
  ⟨(some 43), .move (.t 1), none, false, 2, 0, false⟩,
  ⟨(some 44), .fieldAddr 1 (.t 5), none, false, 3, 0, false⟩,
  ⟨(some 45), .load false 1 (.t 44), none, true, 4, 8, false⟩,
  ⟨(some 46), .move (.t 11), none, false, 5, 0, false⟩,
  ⟨(some 47), .idxAddr 3 (.t 45) (.t 46), none, false, 6, 56, false⟩,
  ⟨(some 48), .fieldAddr 1 (.t 47), none, false, 7, 120, false⟩,
  ⟨(some 49), .load false 1 (.t 48), none, true, 8, 248, false⟩,
  ⟨(some 50), .move (.t 3), none, false, 9, 0, false⟩,
  ⟨(some 51), .bin .sub (.t 50) (.c (.int .i64 1)), none, false, 10, 512, false⟩,
  ⟨(some 52), .move (.t 4), none, false, 11, 0, true⟩,
  ⟨(some 53), .call (.f 167) [(.t 42), (.t 43), (.t 49), (.t 51), (.t 52)], none, true, 12, 4094, true⟩,
  ⟨(some 54), .build [(.int .i64 0), (.int .i64 0), (.slice 0 [] .nil)] [(0, 1, (.c (.int .i64 2))), (1, 1, (.t 41)), (2, 1, (.t 53))], none, false, 13, 8191, true⟩,
  ⟨none, .store 3 (.t 10) (.t 54), none, true, 14, 16383, true⟩])
 .ret)
 .skip))
 (.reg [
 ro 55 (.move (.t 4)),
 ro 56 (.move (.t 12)),
 ro 57 (.bin .sub (.t 55) (.t 56)),
 ro 4 (.move (.t 57))])))))
 (.reg [
 ro 18 (.move (.t 11)),
 ro 19 (.bin .add (.t 18) (.c (.int .i64 1))),
 ro 11 (.move (.t 19))])))
def a94 : AFunc := ⟨5, 59, (.seq (.reg [
 rp 5 (.box 2 (.t 0)),
 rp 10 (.box 3 (.c (.agg [(.int .i64 0), (.int .i64 0), (.slice 0 [] .nil)])))])
 (.seq (.seq (.reg [
 ro 11 (.move (.c (.int .i64 0)))])
 (.block 0 (.loop a94b0)))
 (.seq (.reg [
 ro 58 (.build [(.int .i64 0), (.int .i64 0), (.slice 0 [] .nil)] []),
  ⟨none, .store 3 (.t 10) (.t 58), none, true, 0, 0, false⟩])
 .ret))), [.cell 10 true 3]⟩
theorem fn94 : fnOf 94 = some a94 := by kernel_rfl
def a98 : AFunc := ⟨3, 30, (.seq (.reg [
 rp 3 (.box 2 (.t 0)),
 rp 5 (.box 3 (.t 2)),
 ro 6 (.move (.c (.int .i64 0))),
 ro 7 (.move (.c (.int .i64 0)))])
 (.seq (.seq (.reg [
 rp 10 (.load true 2 (.t 3)),
 rp 11 (.call (.f 168) [(.t 10)]),
 ro 12 (.un .not (.t 11))])
 (.cond (.t 12)
 (.seq (.reg [
 ro 6 (.move (.c (.int .i64 0))),
 ro 7 (.move (.c (.int .i64 40)))])
 .ret)
 .skip))
 (.seq (.seq (.reg [
 rp 13 (.load true 2 (.t 3)),
 ro 14 (.move (.t 1)),
 rp 15 (.call (.f 169) [(.t 13), (.t 14)]),
 ro 16 (.un .not (.t 15))])
 (.cond (.t 16)
 (.seq (.reg [
 ro 6 (.move (.c (.int .i64 0))),
 ro 7 (.move (.c (.int .i64 1)))])
 .ret)
 .skip))
 (.seq (.seq (.reg [
 rp 17 (.load true 3 (.t 5)),
 rp 18 (.call (.f 170) [(.t 17)]),
 ro 19 (.un .not (.t 18))])
 (.cond (.t 19)
 (.seq (.reg [
 ro 6 (.move (.c (.int .i64 0))),
 ro 7 (.move (.c (.int .i64 4)))])
 .ret)
 .skip))
 (.seq (.reg [
 rp 21 (.load true 2 (.t 3)),
 ro 22 (.move (.t 1)),
 rp 23 (.load true 3 (.t 5)),
 rp 24 (.call (.f 171) [(.t 21), (.t 22), (.t 23)]),
 ro 20 (.move (.t 24)),
 ro 25 (.extract (.t 20) 0),
 ro 26 (.extract (.t 20) 1),
 ro 8 (.move (.t 25)),
 ro 9 (.move (.t 26))])
 (.seq (.seq (.reg [
 ro 27 (.move (.t 9)),
 ro 28 (.un .not (.t 27))])
 (.cond (.t 28)
 (.seq (.reg [
 ro 6 (.move (.c (.int .i64 0))),
 ro 7 (.move (.c (.int .i64 4)))])
 .ret)
 .skip))
 (.seq (.reg [
 ro 29 (.move (.t 8)),
 ro 6 (.move (.t 29)),
 ro 7 (.move (.c (.int .i64 0)))])
 .ret))))))), [.t 6, .t 7]⟩
theorem fn98 : fnOf 98 = some a98 := by kernel_rfl
def a99 : AFunc := ⟨1, 17, (.seq (.reg [
 rp 1 (.box 3 (.t 0)),
 ro 2 (.move (.c (.int .i64 0))),
 ro 3 (.move (.c (.int .i64 0)))])
 (.seq (.reg [
 rp 7 (.load true 3 (.t 1)),
 rp 8 (.call (.f 172) [(.t 7), (.c (.int .i64 2000)), (.c (.int .i64 1))]),
 ro 6 (.move (.t 8)),
 ro 9 (.extract (.t 6) 0),
 ro 10 (.extract (.t 6) 1),
 ro 4 (.move (.t 9)),
 ro 5 (.move (.t 10))])
 (.seq (.seq (.reg [
 ro 11 (.move (.t 5)),
 ro 12 (.un .not (.t 11))])
 (.cond (.t 12)
 (.seq (.reg [
 ro 2 (.move (.c (.int .i64 2001))),
 ro 3 (.move (.c (.int .i64 201)))])
 .ret)
 .skip))
 (.seq (.reg [
 ro 13 (.move (.t 4)),
 ro 14 (.bin .sub (.c (.int .i64 2000)) (.t 13)),
 rp 15 (.load true 3 (.t 1)),
 rp 16 (.call (.f 173) [(.t 15)]),
 ro 2 (.move (.t 14)),
 ro 3 (.move (.t 16))])
 .ret)))), [.t 2, .t 3]⟩
theorem fn99 : fnOf 99 = some a99 := by kernel_rfl
def a100b0 : ACode :=
 (.seq (.seq (.reg [
 ro 35 (.move (.t 11)),
 ro 36 (.fieldAddr 1 (.t 5)),
 rp 37 (.load false 1 (.t 36)),
 ro 38 (.bin .lss (.t 35) (.t 37))])
 (.cond (.t 38)
 .skip
 (.exit 0)))
 (.seq (.block 1 (.seq (.regD [
 ro 41 (.fieldAddr 1 (.t 3)),
  ⟨(some 42), .load false 1 (.t 41), none, true, 1, 1, false⟩,
  ⟨(some 43), .move (.t 11), none, false, 2, 0, false⟩,
  ⟨(some 44), .idxAddr 3 (.t 42) (.t 43), none, false, 3, 7, false⟩,
  ⟨(some 45), .fieldAddr 2 (.t 44), none, false, 4, 15, false⟩,
  ⟨(some 46), .load false 1 (.t 45), none, true, 5, 31, false⟩,
  ⟨(some 47), .fieldAddr 2 (.t 9), none, false, 6, 0, true⟩,
  ⟨(some 48), .load false 1 (.t 47), none, true, 7, 64, true⟩,
  ⟨(some 49), .bin .eql (.t 46) (.t 48), none, false, 8, 255, true⟩])
 (.cond (.t 49)
 (.seq (.reg [
 ro 50 (.fieldAddr 1 (.t 3)),
 rp 51 (.load false 1 (.t 50)),
 ro 52 (.move (.t 11)),
 ro 53 (.idxAddr 3 (.t 51) (.t 52)),
 ro 54 (.fieldAddr 1 (.t 53)),
 rp 55 (.load false 1 (.t 54)),
 ro 56 (.move (.t 7)),
 ro 57 (.bin .sub (.t 56) (.c (.int .i64 1))),
 ro 58 (.move (.t 1)),
 rp 59 (.call (.f 166) [(.t 55), (.t 57), (.t 58)]),
 ro 12 (.move (.t 59))])
 (.reg [
 ro 60 (.move (.t 10)),
 ro 61 (.move (.t 12)),
 ro 62 (.bin .add (.t 60) (.t 61)),
 rp 63 (.call (.f 145) [(.t 62)]),
 ro 10 (.move (.t 63))]))
 .skip)))
 (.reg [
 ro 39 (.move (.t 11)),
 ro 40 (.bin .add (.t 39) (.c (.int .i64 1))),
 ro 11 (.move (.t 40))])))
def a100b1 : ACode :=
 (.seq (.seq (.reg [
 ro 82 (.move (.t 18)),
 ro 83 (.move (.t 16)),
 ro 84 (.bin .lss (.t 82) (.t 83))])
 (.cond (.t 84)
 .skip
 (.exit 4)))
 (.seq (.block 5 (.regD [
 ro 87 (.move (.t 10)),
  ⟨(some 88), .move (.t 14), none, false, 1, 0, false⟩,
  ⟨(some 89), .move (.t 1), none, false, 2, 0, false⟩,
  ⟨(some 90), .move (.t 18), none, false, 3, 0, false⟩,
  ⟨(some 91), .idxAddr 1 (.t 89) (.t 90), none, false, 4, 12, false⟩,
  ⟨(some 92), .load false 1 (.t 91), none, true, 5, 28, false⟩,
  ⟨(some 93), .fieldAddr 1 (.t 9), none, false, 6, 0, false⟩,
  ⟨(some 94), .load false 1 (.t 93), none, true, 7, 64, false⟩,
  ⟨(some 95), .move (.t 15), none, false, 8, 0, false⟩,
  ⟨(some 96), .idxAddr 1 (.t 94) (.t 95), none, false, 9, 448, false⟩,
  ⟨(some 97), .load false 1 (.t 96), none, true, 10, 960, false⟩,
  ⟨(some 98), .idxAddr 1 (.t 92) (.t 97), none, false, 11, 2044, false⟩,
  ⟨(some 99), .load false 1 (.t 98), none, true, 12, 4092, false⟩,
  ⟨(some 100), .call (.f 174) [(.t 88), (.t 99)], none, true, 13, 8190, false⟩,
  ⟨(some 101), .fieldAddr 1 (.t 9), none, false, 14, 0, false⟩,
  ⟨(some 102), .load false 1 (.t 101), none, true, 15, 16384, false⟩,
  ⟨(some 103), .move (.t 15), none, false, 16, 0, false⟩,
  ⟨(some 104), .bin .add (.t 103) (.c (.int .i64 1)), none, false, 17, 65536, false⟩,
  ⟨(some 105), .slice 1 (.t 102) (some (.t 104)) none none, none, false, 18, 245760, false⟩,
  ⟨(some 106), .move (.t 13), none, false, 19, 0, false⟩,
  ⟨(some 107), .move (.t 18), none, false, 20, 0, false⟩,
  ⟨(some 108), .bin .sub (.t 106) (.t 107), none, false, 21, 1572864, false⟩,
  ⟨(some 109), .move (.t 1), none, false, 22, 0, true⟩,
  ⟨(some 110), .call (.f 166) [(.t 105), (.t 108), (.t 109)], none, true, 23, 8388606, true⟩,
  ⟨(some 111), .call (.f 174) [(.t 100), (.t 110)], none, true, 24, 16777214, true⟩,
  ⟨(some 112), .bin .add (.t 87) (.t 111), none, false, 25, 33554431, true⟩,
  ⟨(some 113), .call (.f 145) [(.t 112)], none, true, 26, 67108863, true⟩,
  ⟨(some 10), .move (.t 113), none, false, 27, 134217727, true⟩]))
 (.reg [
 ro 85 (.move (.t 18)),
 ro 86 (.bin .add (.t 85) (.c (.int .i64 1))),
 ro 18 (.move (.t 86))])))
def a100b2 : ACode :=
 (.seq (.seq (.reg [
 ro 66 (.move (.t 15)),
 ro 67 (.fieldAddr 2 (.t 5)),
 rp 68 (.load false 1 (.t 67)),
 ro 69 (.lenL (.t 68)),
 ro 70 (.bin .lss (.t 66) (.t 69))])
 (.cond (.t 70)
 .skip
 (.exit 2)))
 (.seq (.block 3 (.seq (.reg [
 ro 74 (.fieldAddr 2 (.t 5)),
 rp 75 (.load false 1 (.t 74)),
 ro 76 (.move (.t 15)),
 ro 77 (.idxAddr 3 (.t 75) (.t 76)),
 rp 78 (.load true 3 (.t 77)),
 rp 79 (.call (.f 99) [(.t 78)]),
 ro 73 (.move (.t 79)),
 ro 80 (.extract (.t 73) 0),
 ro 81 (.extract (.t 73) 1),
 ro 16 (.move (.t 80)),
 ro 17 (.move (.t 81))])
 (.seq (.seq (.reg [
 ro 18 (.move (.c (.int .i64 1)))])
 (.block 4 (.loop a100b1)))
 (.seq (.regD [
 ro 114 (.move (.t 14)),
  ⟨(some 115), .move (.t 1), none, false, 1, 0, false⟩,
  ⟨(some 116), .move (.t 16), none, false, 2, 0, false⟩,
  ⟨(some 117), .idxAddr 1 (.t 115) (.t 116), none, false, 3, 6, false⟩,
  ⟨(some 118), .load false 1 (.t 117), none, true, 4, 14, false⟩,
  ⟨(some 119), .fieldAddr 1 (.t 9), none, false, 5, 0, false⟩,
  ⟨(some 120), .load false 1 (.t 119), none, true, 6, 32, false⟩,
  ⟨(some 121), .move (.t 15), none, false, 7, 0, true⟩,
  ⟨(some 122), .idxAddr 1 (.t 120) (.t 121), none, false, 8, 224, true⟩,
  ⟨(some 123), .load false 1 (.t 122), none, true, 9, 480, true⟩,
  ⟨(some 124), .idxAddr 1 (.t 118) (.t 123), none, false, 10, 1022, true⟩,
  ⟨(some 125), .load false 1 (.t 124), none, true, 11, 2046, true⟩,
  ⟨(some 126), .call (.f 174) [(.t 114), (.t 125)], none, true, 12, 4095, true⟩,
  ⟨(some 14), .move (.t 126), none, false, 13, 8191, true⟩])
 (.reg [
 ro 127 (.move (.t 13)),
 ro 128 (.move (.t 16)),
 ro 129 (.bin .sub (.t 127) (.t 128)),
 ro 13 (.move (.t 129))])))))
 (.reg [
 ro 71 (.move (.t 15)),
 ro 72 (.bin .add (.t 71) (.c (.int .i64 1))),
 ro 15 (.move (.t 72))])))
def a100b3 : ACode :=
 (.seq (.seq (.reg [
 ro 130 (.move (.t 20)),
 ro 131 (.fieldAddr 2 (.t 5)),
 rp 132 (.load false 1 (.t 131)),
 ro 133 (.lenL (.t 132)),
 ro 134 (.bin .lss (.t 130) (.t 133))])
 (.cond (.t 134)
 .skip
 (.exit 6)))
 (.seq (.block 7 (.seq (.reg [
 ro 138 (.fieldAddr 2 (.t 5)),
 rp 139 (.load false 1 (.t 138)),
 ro 140 (.move (.t 20)),
 ro 141 (.idxAddr 3 (.t 139) (.t 140)),
 rp 142 (.load true 3 (.t 141)),
 rp 143 (.call (.f 99) [(.t 142)]),
 ro 137 (.move (.t 143)),
 ro 144 (.extract (.t 137) 0),
 ro 145 (.extract (.t 137) 1),
 ro 21 (.move (.t 144)),
 ro 22 (.move (.t 145))])
 (.seq (.regD [
 rp 146 (.load true 2 (.t 3)),
  ⟨(some 147), .move (.t 1), none, false, 1, 0, false⟩,
  ⟨(some 148), .fieldAddr 2 (.t 5), none, false, 2, 0, false⟩,
  ⟨(some 149), .load false 1 (.t 148), none, true, 3, 4, false⟩,
  ⟨(some 150), .move (.t 20), none, false, 4, 0, true⟩,
  ⟨(some 151), .idxAddr 3 (.t 149) (.t 150), none, false, 5, 28, true⟩,
  ⟨(some 152), .load true 3 (.t 151), none, true, 6, 60, true⟩,
  ⟨(some 153), .call (.f 100) [(.t 146), (.t 147), (.t 152)], none, true, 7, 127, true⟩,
  ⟨(some 23), .move (.t 153), none, false, 8, 255, true⟩])
 (.regD [
 ro 154 (.move (.t 19)),
  ⟨(some 155), .move (.t 1), none, false, 1, 0, false⟩,
  ⟨(some 156), .move (.t 21), none, false, 2, 0, false⟩,
  ⟨(some 157), .idxAddr 1 (.t 155) (.t 156), none, false, 3, 6, false⟩,
  ⟨(some 158), .load false 1 (.t 157), none, true, 4, 14, false⟩,
  ⟨(some 159), .fieldAddr 1 (.t 9), none, false, 5, 0, false⟩,
  ⟨(some 160), .load false 1 (.t 159), none, true, 6, 32, false⟩,
  ⟨(some 161), .move (.t 20), none, false, 7, 0, false⟩,
  ⟨(some 162), .idxAddr 1 (.t 160) (.t 161), none, false, 8, 224, false⟩,
  ⟨(some 163), .load false 1 (.t 162), none, true, 9, 480, false⟩,
  ⟨(some 164), .idxAddr 1 (.t 158) (.t 163), none, false, 10, 1022, false⟩,
  ⟨(some 165), .load false 1 (.t 164), none, true, 11, 2046, false⟩,
  ⟨(some 166), .call (.f 174) [(.t 154), (.t 165)], none, true, 12, 4095, false⟩,
  ⟨(some 167), .move (.t 23), none, false, 13, 0, true⟩,
  ⟨(some 168), .bin .add (.t 166) (.t 167), none, false, 14, 16383, true⟩,
  ⟨(some 169), .call (.f 145) [(.t 168)], none, true, 15, 32767, true⟩,
  ⟨(some 19), .move (.t 169), none, false, 16, 65535, true⟩]))))
 (.reg [
 ro 135 (.move (.t 20)),
 ro 136 (.bin .add (.t 135) (.c (.int .i64 1))),
 ro 20 (.move (.t 136))])))
def a100 : AFunc := ⟨3, 174, (.seq (.reg [
 rp 3 (.box 2 (.t 0)),
 rp 5 (.box 3 (.t 2)),
 ro 6 (.move (.c (.int .i64 0)))])
 (.seq (.reg [
 rp 25 (.load true 3 (.t 5)),
 rp 26 (.call (.f 99) [(.t 25)]),
 ro 24 (.move (.t 26)),
 ro 27 (.extract (.t 24) 0),
 ro 28 (.extract (.t 24) 1),
 ro 7 (.move (.t 27)),
 ro 8 (.move (.t 28))])
 (.seq (.reg [
 ro 29 (.fieldAddr 1 (.t 3)),
 rp 30 (.load false 1 (.t 29)),
 ro 31 (.fieldAddr 1 (.t 5)),
 rp 32 (.load false 1 (.t 31)),
 ro 33 (.idxAddr 3 (.t 30) (.t 32)),
 rp 34 (.load true 3 (.t 33)),
 rp 9 (.box 3 (.c (.agg [(.str ⟨#[]⟩), (.slice 0 [] .nil), (.int .i64 0)]))),
  ⟨none, .store 3 (.t 9) (.t 34), none, true, 0, 0, false⟩])
 (.seq (.reg [
 ro 10 (.move (.c (.int .i64 0)))])
 (.seq (.seq (.reg [
 ro 11 (.move (.c (.int .i64 0)))])
 (.block 0 (.loop a100b0)))
 (.seq (.reg [
 ro 64 (.move (.t 7)),
 ro 65 (.bin .sub (.t 64) (.c (.int .i64 1))),
 ro 13 (.move (.t 65))])
 (.seq (.reg [
 ro 14 (.move (.c (.int .i64 1)))])
 (.seq (.seq (.reg [
 ro 15 (.move (.c (.int .i64 0)))])
 (.block 2 (.loop a100b2)))
 (.seq (.reg [
 ro 19 (.move (.c (.int .i64 0)))])
 (.seq (.seq (.reg [
 ro 20 (.move (.c (.int .i64 0)))])
 (.block 6 (.loop a100b3)))
 (.seq (.reg [
 ro 170 (.move (.t 10)),
 ro 171 (.move (.t 19)),
 ro 172 (.bin .add (.t 170) (.t 171)),
 rp 173 (.call (.f 145) [(.t 172)]),
 ro 6 (.move (.t 173))])
 .ret))))))))))), [.t 6]⟩
theorem fn100 : fnOf 100 = some a100 := by kernel_rfl
def a167b0 : ACode :=
 (.seq (.seq (.reg [
 ro 34 (.move (.t 16)),
 ro 35 (.move (.t 11)),
 ro 36 (.lenL (.t 35)),
 ro 37 (.bin .lss (.t 34) (.t 36))])
 (.cond (.t 37)
 .skip
 (.exit 2)))
 (.seq (.block 3 (.regD [
 ro 40 (.move (.t 15)),
  ⟨(some 41), .move (.t 1), none, false, 1, 0, false⟩,
  ⟨(some 42), .move (.t 11), none, false, 2, 0, false⟩,
  ⟨(some 43), .move (.t 16), none, false, 3, 0, false⟩,
  ⟨(some 44), .idxAddr 1 (.t 42) (.t 43), none, false, 4, 12, false⟩,
  ⟨(some 45), .load false 1 (.t 44), none, true, 5, 28, false⟩,
  ⟨(some 46), .idxAddr 1 (.t 41) (.t 45), none, false, 6, 62, false⟩,
  ⟨(some 47), .load false 1 (.t 46), none, true, 7, 126, false⟩,
  ⟨(some 48), .move (.t 2), none, false, 8, 0, false⟩,
  ⟨(some 49), .move (.t 16), none, false, 9, 0, true⟩,
  ⟨(some 50), .idxAddr 1 (.t 48) (.t 49), none, false, 10, 768, true⟩,
  ⟨(some 51), .load false 1 (.t 50), none, true, 11, 1792, true⟩,
  ⟨(some 52), .idxAddr 1 (.t 47) (.t 51), none, false, 12, 4094, true⟩,
  ⟨(some 53), .load false 1 (.t 52), none, true, 13, 8190, true⟩,
  ⟨(some 54), .call (.f 174) [(.t 40), (.t 53)], none, true, 14, 16383, true⟩,
  ⟨(some 15), .move (.t 54), none, false, 15, 32767, true⟩]))
 (.reg [
 ro 38 (.move (.t 16)),
 ro 39 (.bin .add (.t 38) (.c (.int .i64 1))),
 ro 16 (.move (.t 39))])))
def a167b1 : ACode :=
 (.seq (.seq (.reg [
 ro 26 (.move (.t 14)),
 ro 27 (.move (.t 11)),
 ro 28 (.lenL (.t 27)),
 ro 29 (.bin .lss (.t 26) (.t 28))])
 (.cond (.t 29)
 .skip
 (.exit 0)))
 (.seq (.block 1 (.seq (.reg [
 ro 15 (.move (.c (.int .i64 1)))])
 (.seq (.seq (.reg [
 ro 32 (.move (.t 14)),
 ro 33 (.bin .add (.t 32) (.c (.int .i64 1))),
 ro 16 (.move (.t 33))])
 (.block 2 (.loop a167b0)))
 (.seq (.reg [
 ro 55 (.move (.t 12)),
 ro 56 (.move (.t 15)),
 ro 57 (.bin .quo (.t 55) (.t 56)),
 ro 17 (.move (.t 57))])
 (.seq (.reg [
 ro 58 (.move (.t 12)),
 ro 59 (.move (.t 17)),
 ro 60 (.move (.t 15)),
 ro 61 (.bin .mul (.t 59) (.t 60)),
 ro 62 (.bin .sub (.t 58) (.t 61)),
 ro 12 (.move (.t 62))])
 (.regD [
 ro 63 (.move (.t 13)),
  ⟨(some 64), .load true 2 (.t 5), none, true, 1, 0, false⟩,
  ⟨(some 65), .move (.t 1), none, false, 2, 0, false⟩,
  ⟨(some 66), .move (.t 2), none, false, 3, 0, false⟩,
  ⟨(some 67), .move (.t 14), none, false, 4, 0, false⟩,
  ⟨(some 68), .idxAddr 1 (.t 66) (.t 67), none, false, 5, 24, false⟩,
  ⟨(some 69), .load false 1 (.t 68), none, true, 6, 56, false⟩,
  ⟨(some 70), .move (.t 11), none, false, 7, 0, false⟩,
  ⟨(some 71), .move (.t 14), none, false, 8, 0, false⟩,
  ⟨(some 72), .idxAddr 1 (.t 70) (.t 71), none, false, 9, 384, false⟩,
  ⟨(some 73), .load false 1 (.t 72), none, true, 10, 896, false⟩,
  ⟨(some 74), .move (.t 17), none, false, 11, 0, true⟩,
  ⟨(some 75), .call (.f 94) [(.t 64), (.t 65), (.t 69), (.t 73), (.t 74)], none, true, 12, 4094, true⟩,
  ⟨(some 76), .buildSlice 3 (.agg [(.int .i64 0), (.int .i64 0), (.slice 0 [] .nil)]) 1 [(0, (.t 75))], none, false, 13, 8190, true⟩,
  ⟨(some 77), .append 3 40 (.t 63) (.t 76), none, true, 14, 16383, true⟩,
  ⟨(some 13), .move (.t 77), none, false, 15, 32767, true⟩]))))))
 (.reg [
 ro 30 (.move (.t 14)),
 ro 31 (.bin .add (.t 30) (.c (.int .i64 1))),
 ro 14 (.move (.t 31))])))
def a167 : AFunc := ⟨5, 79, (.seq (.reg [
 rp 5 (.box 2 (.t 0)),
 ro 10 (.move (.c (.slice 0 [] .nil)))])
 (.seq (.reg [
 ro 19 (.move (.t 1)),
 ro 20 (.move (.t 2)),
 ro 21 (.move (.t 3)),
 ro 22 (.move (.t 4)),
 rp 23 (.call (.f 209) [(.t 19), (.t 20), (.t 21), (.t 22)]),
 ro 18 (.move (.t 23)),
 ro 24 (.extract (.t 18) 0),
 ro 25 (.extract (.t 18) 1),
 ro 11 (.move (.t 24)),
 ro 12 (.move (.t 25))])
 (.seq (.reg [
 ro 13 (.move (.c (.slice 0 [] .nil)))])
 (.seq (.seq (.reg [
 ro 14 (.move (.c (.int .i64 0)))])
 (.block 0 (.loop a167b1)))
 (.seq (.reg [
 ro 78 (.move (.t 13)),
 ro 10 (.move (.t 78))])
 .ret))))), [.t 10]⟩
theorem fn167 : fnOf 167 = some a167 := by kernel_rfl
def a170 : AFunc := ⟨1, 15, (.seq (.reg [
 rp 1 (.box 3 (.t 0)),
 ro 2 (.move (.c (.bool false)))])
 (.seq (.reg [
 rp 6 (.load true 3 (.t 1)),
 rp 7 (.call (.f 172) [(.t 6), (.c (.int .i64 2000)), (.c (.int .i64 1))]),
 ro 5 (.move (.t 7)),
 ro 8 (.extract (.t 5) 0),
 ro 9 (.extract (.t 5) 1),
 ro 3 (.move (.t 8)),
 ro 4 (.move (.t 9))])
 (.seq (.reg [
 ro 10 (.move (.t 4)),
 ro 11 (.move (.t 10)),
 rh 12 (.load true 3 (.t 1)) 11 true,
 rh 13 (.call (.f 214) [(.t 12)]) 11 true,
 ro 14 (.pick (.t 11) (.t 13) (.c (.bool false))),
 ro 2 (.move (.t 14))])
 .ret))), [.t 2]⟩
theorem fn170 : fnOf 170 = some a170 := by kernel_rfl
def a171b0 : ACode :=
 (.seq (.seq (.reg [
 ro 44 (.move (.t 8)),
 ro 45 (.fieldAddr 2 (.t 5)),
 rp 46 (.load false 1 (.t 45)),
 ro 47 (.lenL (.t 46)),
 ro 48 (.bin .lss (.t 44) (.t 47))])
 (.cond (.t 48)
 .skip
 (.exit 0)))
 (.seq (.block 1 (.seq (.regD [
 rp 52 (.load true 2 (.t 3)),
  ⟨(some 53), .move (.t 1), none, false, 1, 0, false⟩,
  ⟨(some 54), .fieldAddr 2 (.t 5), none, false, 2, 0, false⟩,
  ⟨(some 55), .load false 1 (.t 54), none, true, 3, 4, false⟩,
  ⟨(some 56), .move (.t 8), none, false, 4, 0, true⟩,
  ⟨(some 57), .idxAddr 3 (.t 55) (.t 56), none, false, 5, 28, true⟩,
  ⟨(some 58), .load true 3 (.t 57), none, true, 6, 60, true⟩,
  ⟨(some 59), .call (.f 171) [(.t 52), (.t 53), (.t 58)], none, true, 7, 127, true⟩,
  ⟨(some 51), .move (.t 59), none, false, 8, 255, true⟩,
  ⟨(some 60), .extract (.t 51) 0, none, false, 9, 511, false⟩,
  ⟨(some 61), .extract (.t 51) 1, none, false, 10, 511, false⟩,
  ⟨(some 9), .move (.t 60), none, false, 11, 1023, true⟩,
  ⟨(some 10), .move (.t 61), none, false, 12, 4095, true⟩])
 (.seq (.reg [
 ro 62 (.move (.t 10)),
 ro 63 (.un .not (.t 62)),
 ro 64 (.move (.t 63)),
 rg 65 (.move (.t 9)) 64 false,
 rg 66 (.fieldAddr 1 (.t 3)) 64 false,
 rh 67 (.load false 1 (.t 66)) 64 false,
 rg 68 (.fieldAddr 1 (.t 5)) 64 false,
 rh 69 (.load false 1 (.t 68)) 64 false,
 rg 70 (.idxAddr 3 (.t 67) (.t 69)) 64 false,
 rg 71 (.fieldAddr 1 (.t 70)) 64 false,
 rh 72 (.load false 1 (.t 71)) 64 false,
 rg 73 (.move (.t 8)) 64 false,
 rg 74 (.idxAddr 1 (.t 72) (.t 73)) 64 false,
 rh 75 (.load false 1 (.t 74)) 64 false,
 rg 76 (.bin .neq (.t 65) (.t 75)) 64 false,
 ro 77 (.pick (.t 64) (.c (.bool true)) (.t 76))])
 (.cond (.t 77)
 (.seq (.reg [
 ro 6 (.move (.c (.int .i64 0))),
 ro 7 (.move (.c (.bool false)))])
 .ret)
 .skip))))
 (.reg [
 ro 49 (.move (.t 8)),
 ro 50 (.bin .add (.t 49) (.c (.int .i64 1))),
 ro 8 (.move (.t 50))])))
def a171 : AFunc := ⟨3, 85, (.seq (.reg [
 rp 3 (.box 2 (.t 0)),
 rp 5 (.box 3 (.t 2)),
 ro 6 (.move (.c (.int .i64 0))),
 ro 7 (.move (.c (.bool false)))])
 (.seq (.seq (.reg [
 ro 11 (.fieldAddr 0 (.t 5)),
 rp 12 (.load false 1 (.t 11)),
 ro 13 (.bin .eql (.t 12) (.c (.int .i64 1)))])
 (.cond (.t 13)
 (.seq (.seq (.reg [
 ro 14 (.fieldAddr 1 (.t 5)),
 rp 15 (.load false 1 (.t 14)),
 ro 16 (.move (.t 1)),
 ro 17 (.lenL (.t 16)),
 ro 18 (.bin .geq (.t 15) (.t 17))])
 (.cond (.t 18)
 (.seq (.reg [
 ro 6 (.move (.c (.int .i64 0))),
 ro 7 (.move (.c (.bool false)))])
 .ret)
 .skip))
 (.seq (.reg [
 ro 19 (.move (.t 1)),
 ro 20 (.fieldAddr 1 (.t 5)),
 rp 21 (.load false 1 (.t 20)),
 ro 22 (.idxAddr 1 (.t 19) (.t 21)),
 rp 23 (.load false 1 (.t 22)),
 ro 6 (.move (.t 23)),
 ro 7 (.move (.c (.bool true)))])
 .ret))
 .skip))
 (.seq (.seq (.regD [
 ro 24 (.fieldAddr 1 (.t 5)),
  ⟨(some 25), .load false 1 (.t 24), none, true, 1, 1, false⟩,
  ⟨(some 26), .fieldAddr 1 (.t 3), none, false, 2, 0, true⟩,
  ⟨(some 27), .load false 1 (.t 26), none, true, 3, 4, true⟩,
  ⟨(some 28), .lenL (.t 27), none, false, 4, 12, true⟩,
  ⟨(some 29), .bin .geq (.t 25) (.t 28), none, false, 5, 31, true⟩,
  ⟨(some 30), .move (.t 29), none, false, 6, 63, true⟩,
  ⟨(some 31), .fieldAddr 1 (.t 3), (some (30, false)), false, 7, 127, false⟩,
  ⟨(some 32), .load false 1 (.t 31), (some (30, false)), true, 8, 255, false⟩,
  ⟨(some 33), .fieldAddr 1 (.t 5), (some (30, false)), false, 9, 127, false⟩,
  ⟨(some 34), .load false 1 (.t 33), (some (30, false)), true, 10, 639, false⟩,
  ⟨(some 35), .idxAddr 3 (.t 32) (.t 34), (some (30, false)), false, 11, 2047, false⟩,
  ⟨(some 36), .fieldAddr 1 (.t 35), (some (30, false)), false, 12, 4095, false⟩,
  ⟨(some 37), .load false 1 (.t 36), (some (30, false)), true, 13, 8191, false⟩,
  ⟨(some 38), .lenL (.t 37), (some (30, false)), false, 14, 16383, false⟩,
  ⟨(some 39), .fieldAddr 2 (.t 5), (some (30, false)), false, 15, 127, true⟩,
  ⟨(some 40), .load false 1 (.t 39), (some (30, false)), true, 16, 32895, true⟩,
  ⟨(some 41), .lenL (.t 40), (some (30, false)), false, 17, 98431, true⟩,
  ⟨(some 42), .bin .neq (.t 38) (.t 41), (some (30, false)), false, 18, 262143, true⟩,
  ⟨(some 43), .pick (.t 30) (.c (.bool true)) (.t 42), none, false, 19, 524287, true⟩])
 (.cond (.t 43)
 (.seq (.reg [
 ro 6 (.move (.c (.int .i64 0))),
 ro 7 (.move (.c (.bool false)))])
 .ret)
 .skip))
 (.seq (.seq (.reg [
 ro 8 (.move (.c (.int .i64 0)))])
 (.block 0 (.loop a171b0)))
 (.seq (.reg [
 ro 78 (.fieldAddr 1 (.t 3)),
 rp 79 (.load false 1 (.t 78)),
 ro 80 (.fieldAddr 1 (.t 5)),
 rp 81 (.load false 1 (.t 80)),
 ro 82 (.idxAddr 3 (.t 79) (.t 81)),
 ro 83 (.fieldAddr 2 (.t 82)),
 rp 84 (.load false 1 (.t 83)),
 ro 6 (.move (.t 84)),
 ro 7 (.move (.c (.bool true)))])
 .ret))))), [.t 6, .t 7]⟩
theorem fn171 : fnOf 171 = some a171 := by kernel_rfl
def a172b0 : ACode :=
 (.seq (.seq (.reg [
 ro 20 (.move (.t 8)),
 ro 21 (.fieldAddr 2 (.t 3)),
 rp 22 (.load false 1 (.t 21)),
 ro 23 (.lenL (.t 22)),
 ro 24 (.bin .lss (.t 20) (.t 23))])
 (.cond (.t 24)
 .skip
 (.exit 0)))
 (.seq (.block 1 (.seq (.reg [
 ro 28 (.fieldAddr 2 (.t 3)),
 rp 29 (.load false 1 (.t 28)),
 ro 30 (.move (.t 8)),
 ro 31 (.idxAddr 3 (.t 29) (.t 30)),
 rp 32 (.load true 3 (.t 31)),
 ro 33 (.move (.t 1)),
 ro 34 (.move (.t 2)),
 ro 35 (.bin .add (.t 34) (.c (.int .i64 1))),
 rp 36 (.call (.f 172) [(.t 32), (.t 33), (.t 35)]),
 ro 27 (.move (.t 36)),
 ro 37 (.extract (.t 27) 0),
 ro 38 (.extract (.t 27) 1),
 ro 9 (.move (.t 37)),
 ro 10 (.move (.t 38))])
 (.seq (.reg [
 ro 39 (.move (.t 9)),
 ro 1 (.move (.t 39))])
 (.seq (.reg [
 ro 40 (.move (.t 10)),
 ro 41 (.un .not (.t 40))])
 (.cond (.t 41)
 (.seq (.reg [
 ro 42 (.move (.t 1)),
 ro 6 (.move (.t 42)),
 ro 7 (.move (.c (.bool false)))])
 .ret)
 .skip)))))
 (.reg [
 ro 25 (.move (.t 8)),
 ro 26 (.bin .add (.t 25) (.c (.int .i64 1))),
 ro 8 (.move (.t 26))])))
def a172 : AFunc := ⟨3, 44, (.seq (.reg [
 rp 3 (.box 3 (.t 0)),
 ro 6 (.move (.c (.int .i64 0))),
 ro 7 (.move (.c (.bool false)))])
 (.seq (.reg [
 ro 11 (.move (.t 1)),
 ro 12 (.bin .sub (.t 11) (.c (.int .i64 1))),
 ro 1 (.move (.t 12))])
 (.seq (.seq (.reg [
 ro 13 (.move (.t 1)),
 ro 14 (.bin .lss (.t 13) (.c (.int .i64 0))),
 ro 15 (.move (.t 14)),
 rg 16 (.move (.t 2)) 15 false,
 rg 17 (.bin .gtr (.t 16) (.c (.int .i64 200))) 15 false,
 ro 18 (.pick (.t 15) (.c (.bool true)) (.t 17))])
 (.cond (.t 18)
 (.seq (.reg [
 ro 19 (.move (.t 1)),
 ro 6 (.move (.t 19)),
 ro 7 (.move (.c (.bool false)))])
 .ret)
 .skip))
 (.seq (.seq (.reg [
 ro 8 (.move (.c (.int .i64 0)))])
 (.block 0 (.loop a172b0)))
 (.seq (.reg [
 ro 43 (.move (.t 1)),
 ro 6 (.move (.t 43)),
 ro 7 (.move (.c (.bool true)))])
 .ret))))), [.t 6, .t 7]⟩
theorem fn172 : fnOf 172 = some a172 := by kernel_rfl
def a173b0 : ACode :=
 (.seq (.seq (.reg [
 ro 5 (.move (.t 4)),
 ro 6 (.fieldAddr 2 (.t 1)),
 rp 7 (.load false 1 (.t 6)),
 ro 8 (.lenL (.t 7)),
 ro 9 (.bin .lss (.t 5) (.t 8))])
 (.cond (.t 9)
 .skip
 (.exit 0)))
 (.seq (.block 1 (.reg [
 ro 12 (.move (.t 3)),
 ro 13 (.fieldAddr 2 (.t 1)),
 rp 14 (.load false 1 (.t 13)),
 ro 15 (.move (.t 4)),
 ro 16 (.idxAddr 3 (.t 14) (.t 15)),
 rp 17 (.load true 3 (.t 16)),
 rp 18 (.call (.f 173) [(.t 17)]),
 ro 19 (.min true [(.t 12), (.t 18)]),
 ro 3 (.move (.t 19))]))
 (.reg [
 ro 10 (.move (.t 4)),
 ro 11 (.bin .add (.t 10) (.c (.int .i64 1))),
 ro 4 (.move (.t 11))])))
def a173 : AFunc := ⟨1, 22, (.seq (.reg [
 rp 1 (.box 3 (.t 0)),
 ro 2 (.move (.c (.int .i64 0)))])
 (.seq (.reg [
 ro 3 (.move (.c (.int .i64 0)))])
 (.seq (.seq (.reg [
 ro 4 (.move (.c (.int .i64 0)))])
 (.block 0 (.loop a173b0)))
 (.seq (.reg [
 ro 20 (.move (.t 3)),
 ro 21 (.bin .add (.t 20) (.c (.int .i64 1))),
 ro 2 (.move (.t 21))])
 .ret)))), [.t 2]⟩
theorem fn173 : fnOf 173 = some a173 := by kernel_rfl
def a209b0 : ACode :=
 (.seq (.seq (.reg [
 ro 21 (.move (.t 13)),
 ro 22 (.move (.t 0)),
 ro 23 (.lenL (.t 22)),
 ro 24 (.bin .lss (.t 21) (.t 23)),
 ro 25 (.move (.t 24)),
 rg 26 (.move (.t 13)) 25 true,
 rg 27 (.move (.t 2)) 25 true,
 rg 28 (.bin .leq (.t 26) (.t 27)) 25 true,
 ro 29 (.pick (.t 25) (.t 28) (.c (.bool false)))])
 (.cond (.t 29)
 .skip
 (.exit 2)))
 (.seq (.block 3 (.seq (.regD [
 ro 32 (.move (.t 11)),
  ⟨(some 33), .move (.t 0), none, false, 1, 0, false⟩,
  ⟨(some 34), .move (.t 13), none, false, 2, 0, false⟩,
  ⟨(some 35), .idxAddr 1 (.t 33) (.t 34), none, false, 3, 6, false⟩,
  ⟨(some 36), .load false 1 (.t 35), none, true, 4, 14, false⟩,
  ⟨(some 37), .move (.t 1), none, false, 5, 0, false⟩,
  ⟨(some 38), .move (.t 12), none, false, 6, 0, false⟩,
  ⟨(some 39), .idxAddr 1 (.t 37) (.t 38), none, false, 7, 96, false⟩,
  ⟨(some 40), .load false 1 (.t 39), none, true, 8, 224, false⟩,
  ⟨(some 41), .idxAddr 1 (.t 36) (.t 40), none, false, 9, 510, false⟩,
  ⟨(some 42), .load false 1 (.t 41), none, true, 10, 1022, false⟩,
  ⟨(some 43), .call (.f 174) [(.t 32), (.t 42)], none, true, 11, 2047, false⟩,
  ⟨(some 44), .move (.t 1), none, false, 12, 0, false⟩,
  ⟨(some 45), .move (.t 12), none, false, 13, 0, false⟩,
  ⟨(some 46), .bin .add (.t 45) (.c (.int .i64 1)), none, false, 14, 8192, false⟩,
  ⟨(some 47), .slice 1 (.t 44) (some (.t 46)) none none, none, false, 15, 28672, false⟩,
  ⟨(some 48), .move (.t 2), none, false, 16, 0, false⟩,
  ⟨(some 49), .move (.t 13), none, false, 17, 0, false⟩,
  ⟨(some 50), .bin .sub (.t 48) (.t 49), none, false, 18, 196608, false⟩,
  ⟨(some 51), .move (.t 0), none, false, 19, 0, true⟩,
  ⟨(some 52), .call (.f 166) [(.t 47), (.t 50), (.t 51)], none, true, 20, 1048575, true⟩,
  ⟨(some 53), .call (.f 174) [(.t 43), (.t 52)], none, true, 21, 2097151, true⟩,
  ⟨(some 14), .move (.t 53), none, false, 22, 4194303, true⟩])
 (.seq (.seq (.reg [
 ro 54 (.move (.t 3)),
 ro 55 (.move (.t 14)),
 ro 56 (.bin .lss (.t 54) (.t 55))])
 (.cond (.t 56)
 (.seq (.reg [
 ro 57 (.move (.t 10)),
 ro 58 (.move (.t 13)),
 ro 59 (.buildSlice 1 (.int .i64 0) 1 [(0, (.t 58))]),
 rp 60 (.append 1 8 (.t 57) (.t 59)),
 ro 10 (.move (.t 60))])
 (.seq (.regD [
 ro 61 (.move (.t 11)),
  ⟨(some 62), .move (.t 0), none, false, 1, 0, false⟩,
  ⟨(some 63), .move (.t 13), none, false, 2, 0, false⟩,
  ⟨(some 64), .idxAddr 1 (.t 62) (.t 63), none, false, 3, 6, false⟩,
  ⟨(some 65), .load false 1 (.t 64), none, true, 4, 14, false⟩,
  ⟨(some 66), .move (.t 1), none, false, 5, 0, false⟩,
  ⟨(some 67), .move (.t 12), none, false, 6, 0, true⟩,
  ⟨(some 68), .idxAddr 1 (.t 66) (.t 67), none, false, 7, 96, true⟩,
  ⟨(some 69), .load false 1 (.t 68), none, true, 8, 224, true⟩,
  ⟨(some 70), .idxAddr 1 (.t 65) (.t 69), none, false, 9, 510, true⟩,
  ⟨(some 71), .load false 1 (.t 70), none, true, 10, 1022, true⟩,
  ⟨(some 72), .call (.f 174) [(.t 61), (.t 71)], none, true, 11, 2047, true⟩,
  ⟨(some 11), .move (.t 72), none, false, 12, 4095, true⟩])
 (.seq (.reg [
 ro 73 (.move (.t 2)),
 ro 74 (.move (.t 13)),
 ro 75 (.bin .sub (.t 73) (.t 74)),
 ro 2 (.move (.t 75))])
 (.exit 2))))
 .skip))
 (.reg [
 ro 76 (.move (.t 3)),
 ro 77 (.move (.t 14)),
 ro 78 (.bin .sub (.t 76) (.t 77)),
 ro 3 (.move (.t 78))]))))
 (.reg [
 ro 30 (.move (.t 13)),
 ro 31 (.bin .add (.t 30) (.c (.int .i64 1))),
 ro 13 (.move (.t 31))])))
def a209b1 : ACode :=
 (.seq (.seq (.reg [
 ro 15 (.move (.t 12)),
 ro 16 (.move (.t 1)),
 ro 17 (.lenL (.t 16)),
 ro 18 (.bin .lss (.t 15) (.t 17))])
 (.cond (.t 18)
 .skip
 (.exit 0)))
 (.seq (.block 1 (.seq (.seq (.reg [
 ro 13 (.move (.c (.int .i64 1)))])
 (.block 2 (.loop a209b0)))
 (.seq (.reg [
 ro 79 (.move (.t 10)),
 ro 80 (.lenL (.t 79)),
 ro 81 (.move (.t 12)),
 ro 82 (.bin .add (.t 81) (.c (.int .i64 1))),
 ro 83 (.bin .neq (.t 80) (.t 82))])
 (.cond (.t 83)
 (.seq (.reg [
 ro 84 (.move (.t 10)),
 ro 85 (.move (.t 3)),
 ro 8 (.move (.t 84)),
 ro 9 (.move (.t 85))])
 .ret)
 .skip))))
 (.reg [
 ro 19 (.move (.t 12)),
 ro 20 (.bin .add (.t 19) (.c (.int .i64 1))),
 ro 12 (.move (.t 20))])))
def a209 : AFunc := ⟨4, 88, (.seq (.reg [
 ro 8 (.move (.c (.slice 0 [] .nil))),
 ro 9 (.move (.c (.int .i64 0)))])
 (.seq (.reg [
 ro 10 (.move (.c (.slice 0 [] .nil)))])
 (.seq (.reg [
 ro 11 (.move (.c (.int .i64 1)))])
 (.seq (.seq (.reg [
 ro 12 (.move (.c (.int .i64 0)))])
 (.block 0 (.loop a209b1)))
 (.seq (.reg [
 ro 86 (.move (.t 10)),
 ro 87 (.move (.t 3)),
 ro 8 (.move (.t 86)),
 ro 9 (.move (.t 87))])
 .ret))))), [.t 8, .t 9]⟩
theorem fn209 : fnOf 209 = some a209 := by kernel_rfl
def a214b0 : ACode :=
 (.seq (.seq (.reg [
 ro 34 (.move (.t 3)),
 ro 35 (.fieldAddr 2 (.t 1)),
 rp 36 (.load false 1 (.t 35)),
 ro 37 (.lenL (.t 36)),
 ro 38 (.bin .lss (.t 34) (.t 37))])
 (.cond (.t 38)
 .skip
 (.exit 0)))
 (.seq (.block 1 (.seq (.reg [
 ro 41 (.fieldAddr 2 (.t 1)),
 rp 42 (.load false 1 (.t 41)),
 ro 43 (.move (.t 3)),
 ro 44 (.idxAddr 3 (.t 42) (.t 43)),
 rp 45 (.load true 3 (.t 44)),
 rp 46 (.call (.f 214) [(.t 45)]),
 ro 47 (.un .not (.t 46))])
 (.cond (.t 47)
 (.seq (.reg [
 ro 2 (.move (.c (.bool false)))])
 .ret)
 .skip)))
 (.reg [
 ro 39 (.move (.t 3)),
 ro 40 (.bin .add (.t 39) (.c (.int .i64 1))),
 ro 3 (.move (.t 40))])))
def a214 : AFunc := ⟨1, 48, (.seq (.reg [
 rp 1 (.box 3 (.t 0)),
 ro 2 (.move (.c (.bool false)))])
 (.seq (.seq (.reg [
 ro 4 (.fieldAddr 1 (.t 1)),
 rp 5 (.load false 1 (.t 4)),
 ro 6 (.bin .lss (.t 5) (.c (.int .i64 0))),
 ro 7 (.move (.t 6)),
 rg 8 (.fieldAddr 0 (.t 1)) 7 false,
 rh 9 (.load false 1 (.t 8)) 7 false,
 rg 10 (.bin .neq (.t 9) (.c (.int .i64 1))) 7 false,
 rg 11 (.move (.t 10)) 7 false,
 rg 12 (.fieldAddr 0 (.t 1)) 11 true,
 rh 13 (.load false 1 (.t 12)) 11 true,
 rg 14 (.bin .neq (.t 13) (.c (.int .i64 2))) 11 true,
 rg 15 (.pick (.t 11) (.t 14) (.c (.bool false))) 7 false,
 ro 16 (.pick (.t 7) (.c (.bool true)) (.t 15)),
 ro 17 (.move (.t 16)),
 rg 18 (.fieldAddr 0 (.t 1)) 17 false,
 rh 19 (.load false 1 (.t 18)) 17 false,
 rg 20 (.bin .eql (.t 19) (.c (.int .i64 1))) 17 false,
 rg 21 (.move (.t 20)) 17 false,
 rg 22 (.fieldAddr 2 (.t 1)) 21 true,
 rh 23 (.load false 1 (.t 22)) 21 true,
 rg 24 (.lenL (.t 23)) 21 true,
 rg 25 (.bin .gtr (.t 24) (.c (.int .i64 0))) 21 true,
 rg 26 (.pick (.t 21) (.t 25) (.c (.bool false))) 17 false,
 ro 27 (.pick (.t 17) (.c (.bool true)) (.t 26)),
 ro 28 (.move (.t 27)),
 rg 29 (.fieldAddr 2 (.t 1)) 28 false,
 rh 30 (.load false 1 (.t 29)) 28 false,
 rg 31 (.lenL (.t 30)) 28 false,
 rg 32 (.bin .gtr (.t 31) (.c (.int .i64 8))) 28 false,
 ro 33 (.pick (.t 28) (.c (.bool true)) (.t 32))])
 (.cond (.t 33)
 (.seq (.reg [
 ro 2 (.move (.c (.bool false)))])
 .ret)
 .skip))
 (.seq (.seq (.reg [
 ro 3 (.move (.c (.int .i64 0)))])
 (.block 0 (.loop a214b0)))
 (.seq (.reg [
 ro 2 (.move (.c (.bool true)))])
 .ret)))), [.t 2]⟩
theorem fn214 : fnOf 214 = some a214 := by kernel_rfl
end Go.Proofs.Tryz
/- The specification's trees: how many nodes, how deep, all right. -/
namespace Go.Proofs.Tryz
open Go Go.AE
variable {T : Tbl} (hT : Std T) {s : GSig}
theorem enc_mem {l : List Tm} {es : List PV} (hl : es.length = l.length) (he : ∀ (i : Nat) (x : Tm) (p : PV), l[i]? = some x → es[i]? = some p → Enc x p) {i : Nat} (hi : i < es.length) : ∃ x p, l[i]? = some x ∧ es[i]? = some p ∧ Enc x p := by
 have h1 := List.getElem?_eq_getElem hi
 have h2 := List.getElem?_eq_getElem (show i < l.length by omega)
 exact ⟨_, _, h2, h1, he i _ _ h2 h1⟩
include hT in
theorem rcounted_ev {t : Tm} {p : PV} (ht : Enc t p) : ∀ (left deep : Int) (h : List AE.Obj), (t.nodes : Int) ≤ left → left ≤ 2000 → 1 ≤ deep → deep + t.nodes ≤ 201 → Ev T 172 [p, .int .i64 left, .int .i64 deep] h (.val (.tuple [.int .i64 (left - t.nodes), .bool true]), ⟨h, [], []⟩) := by
 have hc := ht.cells
 induction ht with
 | mk k n l sz es hs hl he ih =>
   intro left deep h h1 h2 h3 h4
   refine Ev.walk (hT.sp _ (by decide)) ((hT.fn _).trans fn172) (hT.mode _) rfl ?_
   obtain ⟨c1, c2, c3, c4⟩ := hc
   simp only [Tm.nodes] at h1 h4 ⊢
   generalize hP : PV.agg [.int .i64 k, .int .i64 n, .slice sz es .any] = P at *
   have kb : (h ++ [AE.Obj.row 3 [P]])[h.length]? = some (.row 3 [P]) := by simp
   have low : Low h.length h (h ++ [AE.Obj.row 3 [P]]) := (Low.refl _ _).push (Nat.le_refl _)
   generalize hH : h ++ [AE.Obj.row 3 [P]] = H at *
   have l2 : loadAt false 1 (.ptr h.length 0 2 1) H = some (.slice sz es .any) := by rw [ld_at kb, ← hP]; rfl
   have td : ∀ a : Int, tidy 0 h.length (.val (.tuple [.int .i64 a, .bool true])) ⟨H, [], []⟩ = (.val (.tuple [.int .i64 a, .bool true]), ⟨h, [], []⟩) := fun a => tidy_low rfl rfl low (by simp)
   have hln := nodesL_len l
   have b1 : ¬ (left - 1 < 0) := by omega
   have b2 : ¬ ((200 : Int) < deep) := by omega
   simp (disch := first | omega | decide | simp only [go_sem]) only [go_sem, hH, c1, c3, b1, b2]
   refine wpC.loopM (fun g e st => ∃ i : Nat, i + g = es.length ∧ eget e 1 = .int .i64 (left - 1 - nodesL (l.take i)) ∧ eget e 2 = .int .i64 deep ∧ eget e 3 = .ptr h.length 0 0 1 ∧ eget e 8 = .int .i64 (i : Int) ∧ st = ⟨H, [], []⟩) ?_ es.length _ _
    ⟨0, by omega, by simp (disch := first | omega | decide | simp only [go_sem]) only [go_sem]; simp [nodesL], by simp (disch := first | omega | decide | simp only [go_sem]) only [go_sem], by simp (disch := first | omega | decide | simp only [go_sem]) only [go_sem], by simp (disch := first | omega | decide | simp only [go_sem]) only [go_sem]; rfl, rfl⟩
   rintro g e st ⟨i, hi, e1, e2, e3, e8, rfl⟩
   by_cases hie : i < es.length
   · obtain ⟨x, q, hx, hq, hE⟩ := enc_mem hl he hie
     have hsz : sz = 3 := by
      rcases hs with rfl | h
      · simp at hie
      · exact h
     subst hsz
     have htk := nodesL_take hx
     have hgt := nodesL_get hx
     have bs := hE.sub
     have ev := ih i x q hx hq hE.cells (left - 1 - nodesL (l.take i)) (deep + 1) H (by omega) (by omega) (by omega) (by omega)
     simp (disch := first | omega | decide | simp only [go_sem]) only [go_sem, a172b0, e1, e2, e3, e8, l2, hie, hq, bs, cb ev, hT.prim, primOf]
     exact ⟨g - 1, by omega, i + 1, by omega, by rw [htk]; congr 1; omega, rfl, trivial⟩
   · have : i = l.length := by omega
     subst this
     rw [List.take_length] at e1
     simp (disch := first | omega | decide | simp only [go_sem]) only [go_sem, a172b0, e1, e2, e3, e8, l2, hie]
     rw [td, show left - 1 - (nodesL l : Int) = left - ((1 + nodesL l : Nat) : Int) by omega]
include hT in
theorem rdepth_ev {t : Tm} {p : PV} (ht : Enc t p) : t.nodes ≤ 1000 → ∀ h : List AE.Obj, ∃ d : Int, Ev T 173 [p] h (.val (.int .i64 d), ⟨h, [], []⟩) ∧ (0 ≤ d ∧ d ≤ t.nodes) := by
 have hc := ht.cells
 induction ht with
 | mk k n l sz es hs hl he ih =>
   intro hn h
   refine Ev.walkP (r := fun (d : Int) => (.val (.int .i64 d), ⟨h, [], []⟩)) (hT.sp _ (by decide)) ((hT.fn _).trans fn173) (hT.mode _) rfl ?_
   obtain ⟨c1, c2, c3, c4⟩ := hc
   simp only [Tm.nodes] at hn ⊢
   generalize hP : PV.agg [.int .i64 k, .int .i64 n, .slice sz es .any] = P at *
   have kb : (h ++ [AE.Obj.row 3 [P]])[h.length]? = some (.row 3 [P]) := by simp
   have low : Low h.length h (h ++ [AE.Obj.row 3 [P]]) := (Low.refl _ _).push (Nat.le_refl _)
   generalize hH : h ++ [AE.Obj.row 3 [P]] = H at *
   have l2 : loadAt false 1 (.ptr h.length 0 2 1) H = some (.slice sz es .any) := by rw [ld_at kb, ← hP]; rfl
   have td : ∀ a : Int, tidy 0 h.length (.val (.int .i64 a)) ⟨H, [], []⟩ = (.val (.int .i64 a), ⟨h, [], []⟩) := fun a => tidy_low rfl rfl low (by simp)
   have hln := nodesL_len l
   simp (disch := first | omega | decide | simp only [go_sem]) only [go_sem, hH, c1, c3]
   refine wpC.loopM (fun g e st => ∃ (i : Nat) (d : Int), i + g = es.length ∧ (0 ≤ d ∧ d ≤ nodesL l) ∧ eget e 1 = .ptr h.length 0 0 1 ∧ eget e 3 = .int .i64 d ∧ eget e 4 = .int .i64 (i : Int) ∧ st = ⟨H, [], []⟩) ?_ es.length _ _
    ⟨0, 0, by omega, by omega, by simp (disch := first | omega | decide | simp only [go_sem]) only [go_sem], by simp (disch := first | omega | decide | simp only [go_sem]) only [go_sem], by simp (disch := first | omega | decide | simp only [go_sem]) only [go_sem]; rfl, rfl⟩
   rintro g e st ⟨i, d, hi, hd, e1, e3, e4, rfl⟩
   by_cases hie : i < es.length
   · obtain ⟨x, q, hx, hq, hE⟩ := enc_mem hl he hie
     have hsz : sz = 3 := by
      rcases hs with rfl | h
      · simp at hie
      · exact h
     subst hsz
     have hm := nodesL_mem (List.mem_of_getElem? hx)
     have bs := hE.sub
     obtain ⟨d2, ev, hd2⟩ := ih i x q hx hq hE.cells (by omega) H
     simp (disch := first | omega | decide | simp only [go_sem]) only [go_sem, a173b0, e1, e3, e4, l2, hie, hq, bs, cb ev, hT.prim, primOf]
     exact ⟨g - 1, by omega, i + 1, max d d2, by omega, by omega, rfl, rfl, trivial⟩
   · simp (disch := first | omega | decide | simp only [go_sem]) only [go_sem, a173b0, e1, e3, e4, l2, hie, td]
     exact ⟨d + 1, rfl, by omega, by omega⟩
include hT in
theorem rsize_ev {t : Tm} {p : PV} (ht : Enc t p) (hn : t.nodes ≤ 200) (h : List AE.Obj) : ∃ d : Int, Ev T 99 [p] h (.val (.tuple [.int .i64 (t.nodes : Int), .int .i64 d]), ⟨h, [], []⟩) ∧ True := by
 refine Ev.walkP (r := fun (d : Int) => (.val (.tuple [.int .i64 (t.nodes : Int), .int .i64 d]), ⟨h, [], []⟩)) (hT.sp _ (by decide)) ((hT.fn _).trans fn99) (hT.mode _) rfl ?_
 obtain ⟨c1, c2, c3, c4⟩ := ht.cells
 have hsub := ht.sub
 have kb : (h ++ [AE.Obj.row 3 [p]])[h.length]? = some (.row 3 [p]) := by simp
 have low : Low h.length h (h ++ [AE.Obj.row 3 [p]]) := (Low.refl _ _).push (Nat.le_refl _)
 generalize hH : h ++ [AE.Obj.row 3 [p]] = H at *
 have lp : loadAt true 3 (.ptr h.length 0 0 1) H = some p := by rw [ld_at kb]; exact hsub
 have ev := rcounted_ev hT ht 2000 1 H (by omega) (by omega) (by omega) (by omega)
 obtain ⟨d, ev2, _⟩ := rdepth_ev hT ht (by omega) H
 have hsb : (2000 : Int) - (2000 - (t.nodes : Int)) = (t.nodes : Int) := by omega
 have td : tidy 0 h.length (.val (.tuple [.int .i64 (t.nodes : Int), .int .i64 d])) ⟨H, [], []⟩ = (.val (.tuple [.int .i64 (t.nodes : Int), .int .i64 d]), ⟨h, [], []⟩) := tidy_low rfl rfl low (by simp)
 simp (disch := first | omega | decide | simp only [go_sem]) only [go_sem, hH, c1, c3, lp, cb ev, cb ev2, hT.prim, primOf, hsb, td]
 exact ⟨d, rfl, trivial⟩
end Go.Proofs.Tryz
/- The specification's trees and terms: all nodes right; the sort. -/
namespace Go.Proofs.Tryz
open Go Go.AE
variable {T : Tbl} (hT : Std T) {s : GSig}
theorem shapedL_false {l : List Tm} {i : Nat} {x : Tm} (hx : l[i]? = some x) (h : shapedF x = false) : shapedL l = false := by
 rw [shapedL_all]
 exact List.all_eq_false.2 ⟨x, List.mem_of_getElem? hx, by simp [h]⟩
theorem shapedL_true {l : List Tm} (h : ∀ (i : Nat) (x : Tm), l[i]? = some x → shapedF x = true) : shapedL l = true := by
 rw [shapedL_all]
 refine List.all_eq_true.2 fun x hx => ?_
 obtain ⟨i, hi, rfl⟩ := List.getElem_of_mem hx
 exact h i _ (List.getElem?_eq_getElem hi)
include hT in
theorem rnodes_ev {t : Tm} {p : PV} (ht : Enc t p) : t.nodes ≤ 100000 → ∀ h : List AE.Obj, Ev T 214 [p] h (.val (.bool (shapedF t)), ⟨h, [], []⟩) := by
 have hc := ht.cells
 induction ht with
 | mk k n l sz es hs hl he ih =>
   intro hnd h
   refine Ev.walk (hT.sp _ (by decide)) ((hT.fn _).trans fn214) (hT.mode _) rfl ?_
   obtain ⟨c1, c2, c3, c4⟩ := hc
   simp only [Tm.nodes] at hnd
   generalize hP : PV.agg [.int .i64 k, .int .i64 n, .slice sz es .any] = P at *
   have kb : (h ++ [AE.Obj.row 3 [P]])[h.length]? = some (.row 3 [P]) := by simp
   have low : Low h.length h (h ++ [AE.Obj.row 3 [P]]) := (Low.refl _ _).push (Nat.le_refl _)
   generalize hH1 : h ++ [AE.Obj.row 3 [P]] = H1 at *
   have l0 : loadAt false 1 (.ptr h.length 0 0 1) H1 = some (.int .i64 k) := by rw [ld_at kb, ← hP]; rfl
   have l1 : loadAt false 1 (.ptr h.length 0 1 1) H1 = some (.int .i64 n) := by rw [ld_at kb, ← hP]; rfl
   have l2 : loadAt false 1 (.ptr h.length 0 2 1) H1 = some (.slice sz es .any) := by rw [ld_at kb, ← hP]; rfl
   have td : ∀ b, tidy 0 h.length (.val (.bool b)) ⟨H1, [], []⟩ = (.val (.bool b), ⟨h, [], []⟩) := fun b => tidy_low rfl rfl low (by simp)
   have hln := nodesL_len l
   have loop : ∀ (e : List PV) (Q : AExit → List PV → St → Prop), eget e 1 = .ptr h.length 0 0 1 → eget e 3 = .int .i64 0 → (shapedL l = false → ∀ e', eget e' 2 = .bool false → Q .ret e' ⟨H1, [], []⟩) → (shapedL l = true → ∀ e', Q (.exit 0) e' ⟨H1, [], []⟩) → wpC T (.loop a214b0) e ⟨H1, [], []⟩ Q := by
    intro e Q e1 e3 q1 q2
    refine wpC.loopM (fun g e st => ∃ i : Nat, i + g = es.length ∧ (∀ (j : Nat) (x : Tm), j < i → l[j]? = some x → shapedF x = true) ∧ eget e 1 = .ptr h.length 0 0 1 ∧ eget e 3 = .int .i64 (i : Int) ∧ st = ⟨H1, [], []⟩) ?_ es.length _ _ ⟨0, by omega, fun j x hj => by omega, e1, e3, rfl⟩
    rintro g e st ⟨i, hi, hp, e1, e3, rfl⟩
    by_cases hie : i < es.length
    · obtain ⟨x, q, hx, hq, hE⟩ := enc_mem hl he hie
      have hsz : sz = 3 := by
       rcases hs with rfl | h
       · simp at hie
       · exact h
      subst hsz
      have hm := nodesL_mem (List.mem_of_getElem? hx)
      have bs := hE.sub
      have ev := ih i x q hx hq hE.cells (by omega) H1
      cases hsx : shapedF x
      · rw [hsx] at ev
        simp (disch := first | omega | decide | simp only [go_sem]) only [go_sem, a214b0, e1, e3, l2, hie, hq, bs, cb ev, hT.prim, primOf, Bool.not_false]
        exact q1 (shapedL_false hx hsx) _ (by simp (disch := first | omega | decide | simp only [go_sem]) only [go_sem])
      · rw [hsx] at ev
        simp (disch := first | omega | decide | simp only [go_sem]) only [go_sem, a214b0, e1, e3, l2, hie, hq, bs, cb ev, hT.prim, primOf, Bool.not_true]
        refine ⟨g - 1, by omega, i + 1, by omega, fun j y hj hy => ?_, rfl, trivial⟩
        by_cases hji : j = i
        · subst hji
          rw [hx] at hy; cases hy
          exact hsx
        · exact hp j y (by omega) hy
    · simp (disch := first | omega | decide | simp only [go_sem]) only [go_sem, a214b0, e1, e3, l2, hie]
      exact q2 (shapedL_true fun j x hj => hp j x (by have := (List.getElem?_eq_some_iff.1 hj).1; omega) hj) _
   by_cases hn : 0 ≤ n
   · have hn' : ¬ n < 0 := by omega
     by_cases k1 : k = 1
     · subst k1
       have b11 : ((1 : Int) == 1) = true := rfl
       have b12 : ((1 : Int) != 1) = false := rfl
       by_cases hz : 0 < l.length
       · have hz' : (0 : Int) < (es.length : Int) := by omega
         simp (disch := first | omega | decide | simp only [go_sem]) only [go_sem, hH1, c1, c3, l0, l1, l2, hn', hz', b11, b12, td]
         simp [shapedF, hn, hz]
       · have hz' : ¬ (0 : Int) < (es.length : Int) := by omega
         have h8' : ¬ (8 : Int) < (es.length : Int) := by omega
         have hsh : shapedF (.mk 1 n l) = shapedL l := by simp [shapedF, hn, hz]; omega
         rw [hsh]
         simp (disch := first | omega | decide | simp only [go_sem]) only [go_sem, hH1, c1, c3, l0, l1, l2, hn', hz', b11, b12, h8']
         refine loop _ _ (by simp (disch := first | omega | decide | simp only [go_sem]) only [go_sem]) (by simp (disch := first | omega | decide | simp only [go_sem]) only [go_sem]) (fun hf e' e2 => ?_) (fun ht e' => ?_)
         · rw [hf]; simp (disch := first | omega | decide | simp only [go_sem]) only [go_sem, e2, td]
         · rw [ht]; simp (disch := first | omega | decide | simp only [go_sem]) only [go_sem, td]
     · have b1 : (k == 1) = false := by simpa using k1
       have b2 : (k != 1) = true := by simpa using k1
       by_cases k2 : k = 2
       · subst k2
         have b3 : ((2 : Int) != 2) = false := rfl
         by_cases h8 : l.length ≤ 8
         · have h8' : ¬ (8 : Int) < (es.length : Int) := by omega
           have hsh : shapedF (.mk 2 n l) = shapedL l := by simp [shapedF, hn, h8]
           rw [hsh]
           simp (disch := first | omega | decide | simp only [go_sem]) only [go_sem, hH1, c1, c3, l0, l1, l2, hn', b1, b2, b3, h8']
           refine loop _ _ (by simp (disch := first | omega | decide | simp only [go_sem]) only [go_sem]) (by simp (disch := first | omega | decide | simp only [go_sem]) only [go_sem]) (fun hf e' e2 => ?_) (fun ht e' => ?_)
           · rw [hf]; simp (disch := first | omega | decide | simp only [go_sem]) only [go_sem, e2, td]
           · rw [ht]; simp (disch := first | omega | decide | simp only [go_sem]) only [go_sem, td]
         · have h8' : (8 : Int) < (es.length : Int) := by omega
           have hf : shapedF (.mk 2 n l) = false := by simp [shapedF]; intros; omega
           rw [hf]
           simp (disch := first | omega | decide | simp only [go_sem]) only [go_sem, hH1, c1, c3, l0, l1, l2, hn', b1, b2, b3, h8', td]
       · have b3 : (k != 2) = true := by simpa using k2
         simp (disch := first | omega | decide | simp only [go_sem]) only [go_sem, hH1, c1, c3, l0, l1, l2, hn', b1, b2, b3, td]
         simp [shapedF, k1, k2]
   · have hn' : n < 0 := by omega
     have hf : shapedF (.mk k n l) = false := by simp [shapedF, hn]
     rw [hf]
     simp (disch := first | omega | decide | simp only [go_sem]) only [go_sem, hH1, c1, c3, l0, l1, l2, hn', td]
include hT in
theorem ris_ev {t : Tm} {p : PV} (ht : Enc t p) (hn : t.nodes ≤ 200) (h : List AE.Obj) : Ev T 170 [p] h (.val (.bool (shapedF t)), ⟨h, [], []⟩) := by
 refine Ev.walk (hT.sp _ (by decide)) ((hT.fn _).trans fn170) (hT.mode _) rfl ?_
 obtain ⟨c1, c2, c3, c4⟩ := ht.cells
 have hsub := ht.sub
 have kb : (h ++ [AE.Obj.row 3 [p]])[h.length]? = some (.row 3 [p]) := by simp
 have low : Low h.length h (h ++ [AE.Obj.row 3 [p]]) := (Low.refl _ _).push (Nat.le_refl _)
 generalize hH : h ++ [AE.Obj.row 3 [p]] = H at *
 have lp : loadAt true 3 (.ptr h.length 0 0 1) H = some p := by rw [ld_at kb]; exact hsub
 have ev := rcounted_ev hT ht 2000 1 H (by omega) (by omega) (by omega) (by omega)
 have ev2 := rnodes_ev hT ht (by omega) H
 have td : ∀ b, tidy 0 h.length (.val (.bool b)) ⟨H, [], []⟩ = (.val (.bool b), ⟨h, [], []⟩) := fun b => tidy_low rfl rfl low (by simp)
 simp (disch := first | omega | decide | simp only [go_sem]) only [go_sem, hH, c1, c3, lp, cb ev, cb ev2, hT.prim, primOf, td]
end Go.Proofs.Tryz
/- Functions of the specification as the evaluator has them: printed. -/
namespace Go.Proofs.Tryz
open Go Go.AE
def a97 : AFunc := ⟨1, 6, (.seq (.reg [
 rp 1 (.box 2 (.t 0)),
 ro 2 (.move (.c (.int .i64 0)))])
 (.seq (.seq (.reg [
 rp 3 (.load true 2 (.t 1)),
 rp 4 (.call (.f 168) [(.t 3)]),
 ro 5 (.un .not (.t 4))])
 (.cond (.t 5)
 (.seq (.reg [
 ro 2 (.move (.c (.int .i64 40)))])
 .ret)
 .skip))
 (.seq (.reg [
 ro 2 (.move (.c (.int .i64 0)))])
 .ret))), [.t 2]⟩
theorem fn97 : fnOf 97 = some a97 := by kernel_rfl
def a168b0 : ACode :=
 (.seq (.seq (.reg [
 ro 40 (.move (.t 4)),
 ro 41 (.move (.t 3)),
 ro 42 (.bin .lss (.t 40) (.t 41))])
 (.cond (.t 42)
 .skip
 (.exit 2)))
 (.seq (.block 3 (.seq (.regD [
 ro 45 (.fieldAddr 0 (.t 1)),
  ⟨(some 46), .load false 1 (.t 45), none, true, 1, 1, false⟩,
  ⟨(some 47), .move (.t 4), none, false, 2, 0, false⟩,
  ⟨(some 48), .idxAddr 1 (.t 46) (.t 47), none, false, 3, 7, false⟩,
  ⟨(some 49), .load false 1 (.t 48), none, true, 4, 15, false⟩,
  ⟨(some 50), .fieldAddr 0 (.t 1), none, false, 5, 0, false⟩,
  ⟨(some 51), .load false 1 (.t 50), none, true, 6, 32, false⟩,
  ⟨(some 52), .move (.t 3), none, false, 7, 0, true⟩,
  ⟨(some 53), .idxAddr 1 (.t 51) (.t 52), none, false, 8, 224, true⟩,
  ⟨(some 54), .load false 1 (.t 53), none, true, 9, 480, true⟩,
  ⟨(some 55), .bin .eql (.t 49) (.t 54), none, false, 10, 1023, true⟩])
 (.cond (.t 55)
 (.seq (.reg [
 ro 2 (.move (.c (.bool false)))])
 .ret)
 .skip)))
 (.reg [
 ro 43 (.move (.t 4)),
 ro 44 (.bin .add (.t 43) (.c (.int .i64 1))),
 ro 4 (.move (.t 44))])))
def a168b1 : ACode :=
 (.seq (.seq (.reg [
 ro 17 (.move (.t 3)),
 ro 18 (.fieldAddr 0 (.t 1)),
 rp 19 (.load false 1 (.t 18)),
 ro 20 (.lenL (.t 19)),
 ro 21 (.bin .lss (.t 17) (.t 20))])
 (.cond (.t 21)
 .skip
 (.exit 0)))
 (.seq (.block 1 (.seq (.seq (.reg [
 ro 24 (.fieldAddr 0 (.t 1)),
 rp 25 (.load false 1 (.t 24)),
 ro 26 (.move (.t 3)),
 ro 27 (.idxAddr 1 (.t 25) (.t 26)),
 rp 28 (.load false 1 (.t 27)),
 rp 29 (.call (.f 210) [(.t 28)]),
 ro 30 (.un .not (.t 29)),
 ro 31 (.move (.t 30)),
 rg 32 (.fieldAddr 0 (.t 1)) 31 false,
 rh 33 (.load false 1 (.t 32)) 31 false,
 rg 34 (.move (.t 3)) 31 false,
 rg 35 (.idxAddr 1 (.t 33) (.t 34)) 31 false,
 rh 36 (.load false 1 (.t 35)) 31 false,
 rh 37 (.call (.f 211) [(.t 36)]) 31 false,
 rg 38 (.bin .gtr (.t 37) (.c (.int .i64 0))) 31 false,
 ro 39 (.pick (.t 31) (.c (.bool true)) (.t 38))])
 (.cond (.t 39)
 (.seq (.reg [
 ro 2 (.move (.c (.bool false)))])
 .ret)
 .skip))
 (.seq (.reg [
 ro 4 (.move (.c (.int .i64 0)))])
 (.block 2 (.loop a168b0)))))
 (.reg [
 ro 22 (.move (.t 3)),
 ro 23 (.bin .add (.t 22) (.c (.int .i64 1))),
 ro 3 (.move (.t 23))])))
def a168b2 : ACode :=
 (.seq (.seq (.reg [
 ro 71 (.move (.t 6)),
 ro 72 (.move (.t 5)),
 ro 73 (.bin .lss (.t 71) (.t 72))])
 (.cond (.t 73)
 .skip
 (.exit 6)))
 (.seq (.block 7 (.seq (.regD [
 ro 76 (.fieldAddr 1 (.t 1)),
  ⟨(some 77), .load false 1 (.t 76), none, true, 1, 1, false⟩,
  ⟨(some 78), .move (.t 6), none, false, 2, 0, false⟩,
  ⟨(some 79), .idxAddr 3 (.t 77) (.t 78), none, false, 3, 7, false⟩,
  ⟨(some 80), .fieldAddr 0 (.t 79), none, false, 4, 15, false⟩,
  ⟨(some 81), .load false 1 (.t 80), none, true, 5, 31, false⟩,
  ⟨(some 82), .fieldAddr 1 (.t 1), none, false, 6, 0, false⟩,
  ⟨(some 83), .load false 1 (.t 82), none, true, 7, 64, false⟩,
  ⟨(some 84), .move (.t 5), none, false, 8, 0, true⟩,
  ⟨(some 85), .idxAddr 3 (.t 83) (.t 84), none, false, 9, 448, true⟩,
  ⟨(some 86), .fieldAddr 0 (.t 85), none, false, 10, 960, true⟩,
  ⟨(some 87), .load false 1 (.t 86), none, true, 11, 1984, true⟩,
  ⟨(some 88), .bin .eql (.t 81) (.t 87), none, false, 12, 4095, true⟩,
  ⟨(some 89), .move (.t 88), none, false, 13, 8191, true⟩,
  ⟨(some 90), .fieldAddr 1 (.t 1), (some (89, true)), false, 14, 16383, false⟩,
  ⟨(some 91), .load false 1 (.t 90), (some (89, true)), true, 15, 32767, false⟩,
  ⟨(some 92), .move (.t 6), (some (89, true)), false, 16, 16383, false⟩,
  ⟨(some 93), .idxAddr 3 (.t 91) (.t 92), (some (89, true)), false, 17, 131071, false⟩,
  ⟨(some 94), .fieldAddr 2 (.t 93), (some (89, true)), false, 18, 262143, false⟩,
  ⟨(some 95), .load false 1 (.t 94), (some (89, true)), true, 19, 524287, false⟩,
  ⟨(some 96), .fieldAddr 1 (.t 1), (some (89, true)), false, 20, 16383, false⟩,
  ⟨(some 97), .load false 1 (.t 96), (some (89, true)), true, 21, 1064959, false⟩,
  ⟨(some 98), .move (.t 5), (some (89, true)), false, 22, 16383, true⟩,
  ⟨(some 99), .idxAddr 3 (.t 97) (.t 98), (some (89, true)), false, 23, 7356415, true⟩,
  ⟨(some 100), .fieldAddr 2 (.t 99), (some (89, true)), false, 24, 15745023, true⟩,
  ⟨(some 101), .load false 1 (.t 100), (some (89, true)), true, 25, 32522239, true⟩,
  ⟨(some 102), .bin .eql (.t 95) (.t 101), (some (89, true)), false, 26, 67108863, true⟩,
  ⟨(some 103), .pick (.t 89) (.t 102) (.c (.bool false)), none, false, 27, 134217727, true⟩,
  ⟨(some 104), .move (.t 103), none, false, 28, 268435455, true⟩,
  ⟨(some 105), .fieldAddr 1 (.t 1), (some (104, true)), false, 29, 536870911, false⟩,
  ⟨(some 106), .load false 1 (.t 105), (some (104, true)), true, 30, 1073741823, false⟩,
  ⟨(some 107), .move (.t 6), (some (104, true)), false, 31, 536870911, false⟩,
  ⟨(some 108), .idxAddr 3 (.t 106) (.t 107), (some (104, true)), false, 32, 4294967295, false⟩,
  ⟨(some 109), .fieldAddr 1 (.t 108), (some (104, true)), false, 33, 8589934591, false⟩,
  ⟨(some 110), .load false 1 (.t 109), (some (104, true)), true, 34, 17179869183, false⟩,
  ⟨(some 111), .fieldAddr 1 (.t 1), (some (104, true)), false, 35, 536870911, false⟩,
  ⟨(some 112), .load false 1 (.t 111), (some (104, true)), true, 36, 34896609279, false⟩,
  ⟨(some 113), .move (.t 5), (some (104, true)), false, 37, 536870911, true⟩,
  ⟨(some 114), .idxAddr 3 (.t 112) (.t 113), (some (104, true)), false, 38, 241055039487, true⟩,
  ⟨(some 115), .fieldAddr 1 (.t 114), (some (104, true)), false, 39, 515932946431, true⟩,
  ⟨(some 116), .load false 1 (.t 115), (some (104, true)), true, 40, 1065688760319, true⟩,
  ⟨(some 117), .call (.f 213) [(.t 110), (.t 116)], (some (104, true)), true, 41, 2199023255551, true⟩,
  ⟨(some 118), .pick (.t 104) (.t 117) (.c (.bool false)), none, false, 42, 4398046511103, true⟩])
 (.cond (.t 118)
 (.seq (.reg [
 ro 2 (.move (.c (.bool false)))])
 .ret)
 .skip)))
 (.reg [
 ro 74 (.move (.t 6)),
 ro 75 (.bin .add (.t 74) (.c (.int .i64 1))),
 ro 6 (.move (.t 75))])))
def a168b3 : ACode :=
 (.seq (.seq (.reg [
 ro 56 (.move (.t 5)),
 ro 57 (.fieldAddr 1 (.t 1)),
 rp 58 (.load false 1 (.t 57)),
 ro 59 (.lenL (.t 58)),
 ro 60 (.bin .lss (.t 56) (.t 59))])
 (.cond (.t 60)
 .skip
 (.exit 4)))
 (.seq (.block 5 (.seq (.seq (.regD [
 rp 63 (.load true 2 (.t 1)),
  ⟨(some 64), .fieldAddr 1 (.t 1), none, false, 1, 0, false⟩,
  ⟨(some 65), .load false 1 (.t 64), none, true, 2, 2, false⟩,
  ⟨(some 66), .move (.t 5), none, false, 3, 0, true⟩,
  ⟨(some 67), .idxAddr 3 (.t 65) (.t 66), none, false, 4, 14, true⟩,
  ⟨(some 68), .load true 3 (.t 67), none, true, 5, 30, true⟩,
  ⟨(some 69), .call (.f 212) [(.t 63), (.t 68)], none, true, 6, 63, true⟩,
  ⟨(some 70), .un .not (.t 69), none, false, 7, 127, true⟩])
 (.cond (.t 70)
 (.seq (.reg [
 ro 2 (.move (.c (.bool false)))])
 .ret)
 .skip))
 (.seq (.reg [
 ro 6 (.move (.c (.int .i64 0)))])
 (.block 6 (.loop a168b2)))))
 (.reg [
 ro 61 (.move (.t 5)),
 ro 62 (.bin .add (.t 61) (.c (.int .i64 1))),
 ro 5 (.move (.t 62))])))
def a168 : AFunc := ⟨1, 119, (.seq (.reg [
 rp 1 (.box 2 (.t 0)),
 ro 2 (.move (.c (.bool false)))])
 (.seq (.seq (.reg [
 ro 7 (.fieldAddr 0 (.t 1)),
 rp 8 (.load false 1 (.t 7)),
 ro 9 (.lenL (.t 8)),
 ro 10 (.bin .gtr (.t 9) (.c (.int .i64 64))),
 ro 11 (.move (.t 10)),
 rg 12 (.fieldAddr 1 (.t 1)) 11 false,
 rh 13 (.load false 1 (.t 12)) 11 false,
 rg 14 (.lenL (.t 13)) 11 false,
 rg 15 (.bin .gtr (.t 14) (.c (.int .i64 256))) 11 false,
 ro 16 (.pick (.t 11) (.c (.bool true)) (.t 15))])
 (.cond (.t 16)
 (.seq (.reg [
 ro 2 (.move (.c (.bool false)))])
 .ret)
 .skip))
 (.seq (.seq (.reg [
 ro 3 (.move (.c (.int .i64 0)))])
 (.block 0 (.loop a168b1)))
 (.seq (.seq (.reg [
 ro 5 (.move (.c (.int .i64 0)))])
 (.block 4 (.loop a168b3)))
 (.seq (.reg [
 ro 2 (.move (.c (.bool true)))])
 .ret))))), [.t 2]⟩
theorem fn168 : fnOf 168 = some a168 := by kernel_rfl
def a169b0 : ACode :=
 (.seq (.seq (.reg [
 ro 6 (.move (.t 5)),
 ro 7 (.move (.t 1)),
 ro 8 (.lenL (.t 7)),
 ro 9 (.bin .lss (.t 6) (.t 8))])
 (.cond (.t 9)
 .skip
 (.exit 0)))
 (.seq (.block 1 (.seq (.regD [
 ro 12 (.move (.t 1)),
  ⟨(some 13), .move (.t 5), none, false, 1, 0, true⟩,
  ⟨(some 14), .idxAddr 1 (.t 12) (.t 13), none, false, 2, 3, true⟩,
  ⟨(some 15), .load false 1 (.t 14), none, true, 3, 7, true⟩,
  ⟨(some 16), .bin .lss (.t 15) (.c (.int .i64 0)), none, false, 4, 15, true⟩,
  ⟨(some 17), .move (.t 16), none, false, 5, 31, true⟩,
  ⟨(some 18), .move (.t 1), (some (17, false)), false, 6, 63, false⟩,
  ⟨(some 19), .move (.t 5), (some (17, false)), false, 7, 63, false⟩,
  ⟨(some 20), .idxAddr 1 (.t 18) (.t 19), (some (17, false)), false, 8, 255, false⟩,
  ⟨(some 21), .load false 1 (.t 20), (some (17, false)), true, 9, 511, false⟩,
  ⟨(some 22), .fieldAddr 0 (.t 2), (some (17, false)), false, 10, 63, true⟩,
  ⟨(some 23), .load false 1 (.t 22), (some (17, false)), true, 11, 1087, true⟩,
  ⟨(some 24), .lenL (.t 23), (some (17, false)), false, 12, 3135, true⟩,
  ⟨(some 25), .bin .geq (.t 21) (.t 24), (some (17, false)), false, 13, 8191, true⟩,
  ⟨(some 26), .pick (.t 17) (.c (.bool true)) (.t 25), none, false, 14, 16383, true⟩])
 (.cond (.t 26)
 (.seq (.reg [
 ro 4 (.move (.c (.bool false)))])
 .ret)
 .skip)))
 (.reg [
 ro 10 (.move (.t 5)),
 ro 11 (.bin .add (.t 10) (.c (.int .i64 1))),
 ro 5 (.move (.t 11))])))
def a169 : AFunc := ⟨2, 27, (.seq (.reg [
 rp 2 (.box 2 (.t 0)),
 ro 4 (.move (.c (.bool false)))])
 (.seq (.seq (.reg [
 ro 5 (.move (.c (.int .i64 0)))])
 (.block 0 (.loop a169b0)))
 (.seq (.reg [
 ro 4 (.move (.c (.bool true)))])
 .ret))), [.t 4]⟩
theorem fn169 : fnOf 169 = some a169 := by kernel_rfl
def a210b0 : ACode :=
 (.seq (.seq (.reg [
 ro 4 (.move (.t 3)),
 ro 5 (.move (.t 0)),
 ro 6 (.lenS (.t 5)),
 ro 7 (.bin .lss (.t 4) (.t 6))])
 (.cond (.t 7)
 .skip
 (.exit 0)))
 (.seq (.block 1 (.seq (.reg [
 ro 10 (.move (.t 0)),
 ro 11 (.move (.t 3)),
 ro 12 (.idxStr (.t 10) (.t 11)),
 ro 13 (.bin .lss (.t 12) (.c (.int .u8 33))),
 ro 14 (.move (.t 13)),
 rg 15 (.move (.t 0)) 14 false,
 rg 16 (.move (.t 3)) 14 false,
 rg 17 (.idxStr (.t 15) (.t 16)) 14 false,
 rg 18 (.bin .gtr (.t 17) (.c (.int .u8 126))) 14 false,
 ro 19 (.pick (.t 14) (.c (.bool true)) (.t 18)),
 ro 20 (.move (.t 19)),
 rg 21 (.move (.t 0)) 20 false,
 rg 22 (.move (.t 3)) 20 false,
 rg 23 (.idxStr (.t 21) (.t 22)) 20 false,
 rg 24 (.bin .eql (.t 23) (.c (.int .u8 40))) 20 false,
 ro 25 (.pick (.t 20) (.c (.bool true)) (.t 24)),
 ro 26 (.move (.t 25)),
 rg 27 (.move (.t 0)) 26 false,
 rg 28 (.move (.t 3)) 26 false,
 rg 29 (.idxStr (.t 27) (.t 28)) 26 false,
 rg 30 (.bin .eql (.t 29) (.c (.int .u8 41))) 26 false,
 ro 31 (.pick (.t 26) (.c (.bool true)) (.t 30)),
 ro 32 (.move (.t 31)),
 rg 33 (.move (.t 0)) 32 false,
 rg 34 (.move (.t 3)) 32 false,
 rg 35 (.idxStr (.t 33) (.t 34)) 32 false,
 rg 36 (.bin .eql (.t 35) (.c (.int .u8 44))) 32 false,
 ro 37 (.pick (.t 32) (.c (.bool true)) (.t 36))])
 (.cond (.t 37)
 (.seq (.reg [
 ro 2 (.move (.c (.bool false)))])
 .ret)
 .skip)))
 (.reg [
 ro 8 (.move (.t 3)),
 ro 9 (.bin .add (.t 8) (.c (.int .i64 1))),
 ro 3 (.move (.t 9))])))
def a210 : AFunc := ⟨1, 46, (.seq (.reg [
 ro 2 (.move (.c (.bool false)))])
 (.seq (.seq (.reg [
 ro 3 (.move (.c (.int .i64 0)))])
 (.block 0 (.loop a210b0)))
 (.seq (.reg [
 ro 38 (.move (.t 0)),
 ro 39 (.lenS (.t 38)),
 ro 40 (.bin .geq (.t 39) (.c (.int .i64 1))),
 ro 41 (.move (.t 40)),
 rg 42 (.move (.t 0)) 41 true,
 rg 43 (.lenS (.t 42)) 41 true,
 rg 44 (.bin .leq (.t 43) (.c (.int .i64 32))) 41 true,
 ro 45 (.pick (.t 41) (.t 44) (.c (.bool false))),
 ro 2 (.move (.t 45))])
 .ret))), [.t 2]⟩
theorem fn210 : fnOf 210 = some a210 := by kernel_rfl
def a211b0 : ACode :=
 (.seq (.seq (.reg [
 ro 5 (.move (.t 4)),
 ro 6 (.move (.t 0)),
 ro 7 (.lenS (.t 6)),
 ro 8 (.bin .lss (.t 5) (.t 7))])
 (.cond (.t 8)
 .skip
 (.exit 0)))
 (.seq (.block 1 (.seq (.reg [
 ro 11 (.move (.t 0)),
 ro 12 (.move (.t 4)),
 ro 13 (.idxStr (.t 11) (.t 12)),
 ro 14 (.bin .eql (.t 13) (.c (.int .u8 95)))])
 (.cond (.t 14)
 (.reg [
 ro 15 (.move (.t 3)),
 ro 16 (.bin .add (.t 15) (.c (.int .i64 1))),
 ro 3 (.move (.t 16))])
 .skip)))
 (.reg [
 ro 9 (.move (.t 4)),
 ro 10 (.bin .add (.t 9) (.c (.int .i64 1))),
 ro 4 (.move (.t 10))])))
def a211 : AFunc := ⟨1, 18, (.seq (.reg [
 ro 2 (.move (.c (.int .i64 0)))])
 (.seq (.reg [
 ro 3 (.move (.c (.int .i64 0)))])
 (.seq (.seq (.reg [
 ro 4 (.move (.c (.int .i64 0)))])
 (.block 0 (.loop a211b0)))
 (.seq (.reg [
 ro 17 (.move (.t 3)),
 ro 2 (.move (.t 17))])
 .ret)))), [.t 2]⟩
theorem fn211 : fnOf 211 = some a211 := by kernel_rfl
def a212 : AFunc := ⟨2, 48, (.seq (.reg [
 rp 2 (.box 2 (.t 0)),
 rp 3 (.box 3 (.t 1)),
 ro 4 (.move (.c (.bool false)))])
 (.seq (.reg [
 ro 6 (.fieldAddr 0 (.t 3)),
 rp 7 (.load false 1 (.t 6)),
 rp 8 (.call (.f 211) [(.t 7)]),
 ro 5 (.move (.t 8))])
 (.seq (.seq (.reg [
 ro 9 (.fieldAddr 0 (.t 3)),
 rp 10 (.load false 1 (.t 9)),
 rp 11 (.call (.f 210) [(.t 10)]),
 ro 12 (.un .not (.t 11)),
 ro 13 (.move (.t 12)),
 rg 14 (.move (.t 5)) 13 false,
 rg 15 (.fieldAddr 0 (.t 3)) 13 false,
 rh 16 (.load false 1 (.t 15)) 13 false,
 rg 17 (.lenS (.t 16)) 13 false,
 rg 18 (.bin .eql (.t 14) (.t 17)) 13 false,
 ro 19 (.pick (.t 13) (.c (.bool true)) (.t 18)),
 ro 20 (.move (.t 19)),
 rg 21 (.move (.t 5)) 20 false,
 rg 22 (.bin .gtr (.t 21) (.c (.int .i64 0))) 20 false,
 rg 23 (.move (.t 22)) 20 false,
 rg 24 (.move (.t 5)) 23 true,
 rg 25 (.fieldAddr 1 (.t 3)) 23 true,
 rh 26 (.load false 1 (.t 25)) 23 true,
 rg 27 (.lenL (.t 26)) 23 true,
 rg 28 (.bin .neq (.t 24) (.t 27)) 23 true,
 rg 29 (.pick (.t 23) (.t 28) (.c (.bool false))) 20 false,
 ro 30 (.pick (.t 20) (.c (.bool true)) (.t 29))])
 (.cond (.t 30)
 (.seq (.reg [
 ro 4 (.move (.c (.bool false)))])
 .ret)
 .skip))
 (.seq (.reg [
 ro 31 (.fieldAddr 1 (.t 3)),
 rp 32 (.load false 1 (.t 31)),
 ro 33 (.lenL (.t 32)),
 ro 34 (.bin .leq (.t 33) (.c (.int .i64 8))),
 ro 35 (.move (.t 34)),
 rh 36 (.load true 2 (.t 2)) 35 true,
 rg 37 (.fieldAddr 1 (.t 3)) 35 true,
 rh 38 (.load false 1 (.t 37)) 35 true,
 rh 39 (.call (.f 169) [(.t 36), (.t 38)]) 35 true,
 ro 40 (.pick (.t 35) (.t 39) (.c (.bool false))),
 ro 41 (.move (.t 40)),
 rh 42 (.load true 2 (.t 2)) 41 true,
 rg 43 (.fieldAddr 2 (.t 3)) 41 true,
 rh 44 (.load false 1 (.t 43)) 41 true,
 rg 45 (.buildSlice 1 (.int .i64 0) 1 [(0, (.t 44))]) 41 true,
 rh 46 (.call (.f 169) [(.t 42), (.t 45)]) 41 true,
 ro 47 (.pick (.t 41) (.t 46) (.c (.bool false))),
 ro 4 (.move (.t 47))])
 .ret)))), [.t 4]⟩
theorem fn212 : fnOf 212 = some a212 := by kernel_rfl
def a213b0 : ACode :=
 (.seq (.seq (.reg [
 ro 11 (.move (.t 5)),
 ro 12 (.move (.t 0)),
 ro 13 (.lenL (.t 12)),
 ro 14 (.bin .lss (.t 11) (.t 13))])
 (.cond (.t 14)
 .skip
 (.exit 0)))
 (.seq (.block 1 (.seq (.regD [
 ro 17 (.move (.t 0)),
  ⟨(some 18), .move (.t 5), none, false, 1, 0, false⟩,
  ⟨(some 19), .idxAddr 1 (.t 17) (.t 18), none, false, 2, 3, false⟩,
  ⟨(some 20), .load false 1 (.t 19), none, true, 3, 7, false⟩,
  ⟨(some 21), .move (.t 1), none, false, 4, 0, false⟩,
  ⟨(some 22), .move (.t 5), none, false, 5, 0, true⟩,
  ⟨(some 23), .idxAddr 1 (.t 21) (.t 22), none, false, 6, 48, true⟩,
  ⟨(some 24), .load false 1 (.t 23), none, true, 7, 112, true⟩,
  ⟨(some 25), .bin .neq (.t 20) (.t 24), none, false, 8, 255, true⟩])
 (.cond (.t 25)
 (.seq (.reg [
 ro 4 (.move (.c (.bool false)))])
 .ret)
 .skip)))
 (.reg [
 ro 15 (.move (.t 5)),
 ro 16 (.bin .add (.t 15) (.c (.int .i64 1))),
 ro 5 (.move (.t 16))])))
def a213 : AFunc := ⟨2, 26, (.seq (.reg [
 ro 4 (.move (.c (.bool false)))])
 (.seq (.seq (.reg [
 ro 6 (.move (.t 0)),
 ro 7 (.lenL (.t 6)),
 ro 8 (.move (.t 1)),
 ro 9 (.lenL (.t 8)),
 ro 10 (.bin .neq (.t 7) (.t 9))])
 (.cond (.t 10)
 (.seq (.reg [
 ro 4 (.move (.c (.bool false)))])
 .ret)
 .skip))
 (.seq (.seq (.reg [
 ro 5 (.move (.c (.int .i64 0)))])
 (.block 0 (.loop a213b0)))
 (.seq (.reg [
 ro 4 (.move (.c (.bool true)))])
 .ret)))), [.t 4]⟩
theorem fn213 : fnOf 213 = some a213 := by kernel_rfl
end Go.Proofs.Tryz
/- The specification's checks of signatures, exact: names, blanks, sorts. -/
namespace Go.Proofs.Tryz
open Go Go.AE
variable {T : Tbl} (hT : Std T)
include hT in
theorem rname_tot (t : ByteArray) (ht : t.size < 1000000) (h : List AE.Obj) : ∃ b : Bool, Ev T 210 [.str t] h (.val (.bool b), ⟨h, [], []⟩) ∧ (b = true ↔ nameP t) := by
 refine Ev.walkP (hT.sp _ (by decide)) ((hT.fn _).trans fn210) (hT.mode _) rfl ?_
 simp (disch := first | omega | decide | simp only [go_sem]) only [go_sem]
 refine wpC.loopM (fun n e s => ∃ i : Nat, i + n = t.size ∧ eget e 0 = .str t ∧ eget e 3 = .int .i64 (i : Int) ∧ (∀ j c : Nat, j < i → strAt t (j : Int) = some c → byteP c) ∧ s = ⟨h, [], []⟩) ?_ t.size _ _ ⟨0, by simp, rfl, rfl, fun j c hj => by omega, rfl⟩
 rintro n e s ⟨i, hi, e0, e3, hp, rfl⟩
 by_cases h1 : i < t.size
 · obtain ⟨c, hc⟩ := strAt_lt h1
   by_cases h33 : c < 33
   · have h33' : ((c : Int) < 33) := by omega
     simp (disch := first | omega | decide | simp only [go_sem]) only [go_sem, a210b0, e0, e3, h1, hc, h33']
     exact ⟨false, rfl, nofun, fun h => by have := h.2 i c hc; unfold byteP at this; omega⟩
   · have h33' : ¬ ((c : Int) < 33) := by omega
     by_cases h126 : 126 < c
     · have h126' : ((126 : Int) < (c : Int)) := by omega
       simp (disch := first | omega | decide | simp only [go_sem]) only [go_sem, a210b0, e0, e3, h1, hc, h33', h126']
       exact ⟨false, rfl, nofun, fun h => by have := h.2 i c hc; unfold byteP at this; omega⟩
     · have h126' : ¬ ((126 : Int) < (c : Int)) := by omega
       by_cases p1 : c = 40
       · subst p1
         have b1 : (((40 : Nat) : Int) == 40) = true := rfl
         simp (disch := first | omega | decide | simp only [go_sem]) only [go_sem, a210b0, e0, e3, h1, hc, h33', h126', b1]
         exact ⟨false, rfl, nofun, fun h => by have := h.2 i _ hc; unfold byteP at this; omega⟩
       · have b1 : ((c : Int) == 40) = false := by simp; omega
         by_cases p2 : c = 41
         · subst p2
           have b2 : (((41 : Nat) : Int) == 41) = true := rfl
           simp (disch := first | omega | decide | simp only [go_sem]) only [go_sem, a210b0, e0, e3, h1, hc, h33', h126', b1, b2]
           exact ⟨false, rfl, nofun, fun h => by have := h.2 i _ hc; unfold byteP at this; omega⟩
         · have b2 : ((c : Int) == 41) = false := by simp; omega
           by_cases p3 : c = 44
           · subst p3
             have b3 : (((44 : Nat) : Int) == 44) = true := rfl
             simp (disch := first | omega | decide | simp only [go_sem]) only [go_sem, a210b0, e0, e3, h1, hc, h33', h126', b1, b2, b3]
             exact ⟨false, rfl, nofun, fun h => by have := h.2 i _ hc; unfold byteP at this; omega⟩
           · have b3 : ((c : Int) == 44) = false := by simp; omega
             simp (disch := first | omega | decide | simp only [go_sem]) only [go_sem, a210b0, e0, e3, h1, hc, h33', h126', b1, b2, b3]
             refine ⟨n - 1, by omega, i + 1, by omega, rfl, fun j d hj hd => ?_, trivial⟩
             by_cases hji : j = i
             · subst hji
               rw [hc] at hd
               cases hd
               unfold byteP
               omega
             · exact hp j d (by omega) hd
 · have hall : ∀ j c : Nat, strAt t (j : Int) = some c → byteP c := fun j c hc => hp j c (by have := (strAt_some hc).1; omega) hc
   by_cases q1 : 1 ≤ t.size
   · have q1' : ((1 : Int) ≤ (t.size : Int)) := by omega
     simp (disch := first | omega | decide | simp only [go_sem]) only [go_sem, a210b0, e0, e3, h1, q1']
     exact ⟨_, rfl, fun h => ⟨⟨q1, by simp only [decide_eq_true_eq] at h; omega⟩, hall⟩, fun h => by have := h.1.2; simp only [decide_eq_true_eq]; omega⟩
   · have q1' : ¬ ((1 : Int) ≤ (t.size : Int)) := by omega
     simp (disch := first | omega | decide | simp only [go_sem]) only [go_sem, a210b0, e0, e3, h1, q1']
     exact ⟨false, rfl, nofun, fun h => by have := h.1.1; omega⟩
include hT in
theorem blanks_ev (t : ByteArray) (ht : t.size < 1000000) (h : List AE.Obj) : Ev T 211 [.str t] h (.val (.int .i64 (blk t : Int)), ⟨h, [], []⟩) := by
 refine Ev.walk (hT.sp _ (by decide)) ((hT.fn _).trans fn211) (hT.mode _) rfl ?_
 simp (disch := first | omega | decide | simp only [go_sem]) only [go_sem]
 refine wpC.loopM (fun n e s => ∃ i : Nat, i + n = t.size ∧ eget e 0 = .str t ∧ eget e 4 = .int .i64 (i : Int) ∧ eget e 3 = .int .i64 (blkTo t i : Int) ∧ s = ⟨h, [], []⟩) ?_ t.size _ _ ⟨0, by simp, rfl, rfl, rfl, rfl⟩
 rintro n e s ⟨i, hi, e0, e4, e3, rfl⟩
 have hb : blkTo t i ≤ i := by
  have := List.countP_le_length (p := fun x : UInt8 => x == 95) (l := t.data.toList.take i)
  have h2 : (t.data.toList.take i).length ≤ i := by rw [List.length_take]; omega
  unfold blkTo
  omega
 by_cases h1 : i < t.size
 · obtain ⟨c, hc⟩ := strAt_lt h1
   have hs := blkTo_succ hc
   by_cases h95 : c = 95
   · subst h95
     rw [if_pos rfl] at hs
     have b1 : (((95 : Nat) : Int) == 95) = true := rfl
     simp (disch := first | omega | decide | simp only [go_sem]) only [go_sem, a211b0, e0, e3, e4, h1, hc, b1]
     exact ⟨n - 1, by omega, i + 1, by omega, rfl, by rw [hs]; first | done | rfl, trivial⟩
   · rw [if_neg h95] at hs
     have b1 : ((c : Int) == 95) = false := by simp; omega
     simp (disch := first | omega | decide | simp only [go_sem]) only [go_sem, a211b0, e0, e3, e4, h1, hc, b1]
     exact ⟨n - 1, by omega, i + 1, by omega, rfl, by rw [hs]; rfl, trivial⟩
 · rw [blkTo_all (by omega)] at e3
   simp (disch := first | omega | decide | simp only [go_sem]) only [go_sem, a211b0, e0, e3, e4, h1]
include hT in
theorem rsame_tot (a b : List Int) (ha : a.length < 1000000) (h : List AE.Obj) : ∃ r : Bool, Ev T 213 [.slice 1 (a.map encI) .any, .slice 1 (b.map encI) .any] h (.val (.bool r), ⟨h, [], []⟩) ∧ (r = true ↔ a = b) := by
 refine Ev.walkP (hT.sp _ (by decide)) ((hT.fn _).trans fn213) (hT.mode _) rfl ?_
 simp (disch := first | omega | decide | simp only [go_sem]) only [go_sem, List.length_map]
 refine bifs (fun hb => ⟨false, rfl, nofun, fun he => by subst he; simp at hb⟩) (fun hb => ?_)
 have hl : a.length = b.length := by
  simp only [bne_eq_false_iff_eq] at hb
  omega
 refine wpC.loopM (fun n e s => ∃ i : Nat, i + n = a.length ∧ eget e 0 = .slice 1 (a.map encI) .any ∧ eget e 1 = .slice 1 (b.map encI) .any ∧ eget e 5 = .int .i64 (i : Int) ∧ (∀ j, j < i → a[j]? = b[j]?) ∧ s = ⟨h, [], []⟩) ?_ a.length _ _ ⟨0, by simp, rfl, rfl, rfl, fun j hj => by omega, rfl⟩
 rintro n e s ⟨i, hi, e0, e1, e5, hp, rfl⟩
 by_cases h1 : i < a.length
 · have ga := get_enc h1
   have gb := get_enc (l := b) (i := i) (by omega)
   simp (disch := first | omega | decide | simp only [go_sem]) only [go_sem, a213b0, List.length_map, e0, e1, e5, h1, ga, gb]
   refine bifs (fun hx => ⟨false, rfl, nofun, fun he => by subst he; simp at hx⟩) (fun hx => ⟨n - 1, by omega, i + 1, by omega, rfl, fun j hj => ?_, trivial⟩)
   by_cases hji : j = i
   · subst hji
     simp only [bne_eq_false_iff_eq] at hx
     rw [List.getElem?_eq_getElem h1, List.getElem?_eq_getElem (show j < b.length by omega), hx]
   · exact hp j (by omega)
 · simp (disch := first | omega | decide | simp only [go_sem]) only [go_sem, a213b0, List.length_map, e0, e1, e5, h1]
   refine ⟨true, rfl, fun _ => List.ext_getElem? fun j => ?_, fun _ => rfl⟩
   by_cases hj : j < i
   · exact hp j hj
   · rw [List.getElem?_eq_none (by omega), List.getElem?_eq_none (by omega)]
include hT in
theorem rsorts_tot (s : GSig) (hs : s.sorts.length < 1000000) (l : List Int) (hl : l.length < 1000000) (m : SM) (h : List AE.Obj) : ∃ r : Bool, Ev T 169 [encSig s, .slice 1 (l.map encI) m] h (.val (.bool r), ⟨h, [], []⟩) ∧ (r = true ↔ okArgs l s.sorts.length) := by
 refine Ev.walkP (hT.sp _ (by decide)) ((hT.fn _).trans fn169) (hT.mode _) rfl ?_
 simp (disch := first | omega | decide | (simp only [eget_eput', ↓reduceIte, Nat.reduceEqDiff]; done)) only [go_sem, ↓reduceIte, Nat.reduceEqDiff, reduceCtorEq, List.length_map, fin_ret]
 refine wpC.loopM (fun n e st => ∃ i : Nat, i + n = l.length ∧ eget e 1 = .slice 1 (l.map encI) m ∧ eget e 2 = .ptr h.length 0 0 1 ∧ eget e 5 = .int .i64 (i : Int) ∧ (∀ j, j < i → 0 ≤ l.getD j 0 ∧ l.getD j 0 < (s.sorts.length : Int)) ∧ st = ⟨h ++ [.row 2 [encSig s]], [], []⟩) ?_ l.length _ _ ⟨0, by simp, rfl, rfl, rfl, fun j hj => by omega, rfl⟩
 rintro n e st ⟨i, hi, e1, e2, e5, hp, rfl⟩
 by_cases h1 : i < l.length
 · have ga := get_enc h1
   simp (disch := first | omega | decide | simp only [go_sem]) only [go_sem, a169b0, e1, e2, e5, h1, ga]
   have hmem : l[i] ∈ l := List.getElem_mem h1
   refine bifs (fun hb => ⟨false, rfl, nofun, fun ho => by have := ho _ hmem; simp only [decide_eq_true_eq] at hb; omega⟩) (fun h2 => bifs (fun hb => ⟨false, rfl, nofun, fun ho => by have := ho _ hmem; simp only [decide_eq_true_eq] at hb; omega⟩) fun h3 => ?_)
   refine ⟨n - 1, by omega, i + 1, by omega, rfl, fun j hj => ?_, trivial⟩
   by_cases hji : j = i
   · subst hji
     have : l.getD j 0 = l[j] := by simp [List.getD_eq_getElem?_getD, h1]
     simp at h2 h3
     omega
   · exact hp j (by omega)
 · simp (disch := first | omega | decide | simp only [go_sem]) only [go_sem, a169b0, e1, e2, e5, h1]
   refine ⟨true, rfl, fun _ a ha => ?_, fun _ => rfl⟩
   obtain ⟨j, hj, rfl⟩ := List.getElem_of_mem ha
   have := hp j (by omega)
   have e : l.getD j 0 = l[j] := by simp [List.getD_eq_getElem?_getD, hj]
   rwa [e] at this
include hT in
theorem rop_tot (s : GSig) (hs : Fits s) (o : GOp) (ho : o.name.size < 1000 ∧ o.args.length < 900) (h : List AE.Obj) : ∃ r : Bool, Ev T 212 [encSig s, encOp o] h (.val (.bool r), ⟨h, [], []⟩) ∧ (r = true ↔ opP s.sorts.length o) := by
 refine Ev.walkP (hT.sp _ (by decide)) ((hT.fn _).trans fn212) (hT.mode _) rfl ?_
 have hs1 := hs.nS
 have hn := blanks_ev hT o.name (by omega) ((h ++ [.row 2 [encSig s]]) ++ [.row 3 [encOp o]])
 obtain ⟨b, hb, kb⟩ := rname_tot hT o.name (by omega) ((h ++ [.row 2 [encSig s]]) ++ [.row 3 [encOp o]])
 obtain ⟨c, hc, kc⟩ := rsorts_tot hT s (by omega) o.args (by omega) .any ((h ++ [.row 2 [encSig s]]) ++ [.row 3 [encOp o]])
 obtain ⟨d, hd, kd⟩ := rsorts_tot hT s (by omega) [o.res] (by simp) .lit ((h ++ [.row 2 [encSig s]]) ++ [.row 3 [encOp o]])
 have hd' : Ev T 169 [encSig s, .slice 1 [.int .i64 o.res] .lit] ((h ++ [.row 2 [encSig s]]) ++ [.row 3 [encOp o]]) (.val (.bool d), ⟨(h ++ [.row 2 [encSig s]]) ++ [.row 3 [encOp o]], [], []⟩) := hd
 have kd' : d = true ↔ 0 ≤ o.res ∧ o.res < (s.sorts.length : Int) := kd.trans ⟨fun h => h _ (by simp), fun h a ha => by rw [List.mem_singleton.1 ha]; exact h⟩
 have fe : fillE 1 (List.replicate 1 (PV.int .i64 0)) [(0, .int .i64 o.res)] = some [.int .i64 o.res] := rfl
 cases b
 · simp (disch := first | omega | decide | simp only [go_sem]) only [go_sem, cb hn, cb hb, hT.prim, primOf, fe]
   exact ⟨false, rfl, nofun, fun hp => by have := kb.2 hp.1; cases this⟩
 · have hnm := kb.1 rfl
   by_cases q1 : blk o.name = o.name.size
   · have b1 : ((blk o.name : Int) == (o.name.size : Int)) = true := by simp [q1]
     simp (disch := first | omega | decide | simp only [go_sem]) only [go_sem, cb hn, cb hb, hT.prim, primOf, fe, b1]
     exact ⟨false, rfl, nofun, fun hp => absurd q1 hp.2.1⟩
   · have b1 : ((blk o.name : Int) == (o.name.size : Int)) = false := by simp; omega
     have fin : (blk o.name = 0 ∨ blk o.name = o.args.length) → o.args.length ≤ 8 → (d = true ∧ c = true ↔ opP s.sorts.length o) := fun q2 h8 => by
      rw [kd', kc]
      exact ⟨fun ⟨h1, h2⟩ => ⟨hnm, q1, q2, h2, h1, h8⟩, fun h => ⟨h.2.2.2.2.1, h.2.2.2.1⟩⟩
     have f8 : ¬ ((o.args.length : Int) ≤ 8) → ¬ opP s.sorts.length o := fun h8 hp => by
      have := hp.2.2.2.2.2
      omega
     by_cases q2 : 0 < blk o.name
     · have b2 : ((0 : Int) < (blk o.name : Int)) := by omega
       by_cases q3 : blk o.name = o.args.length
       · have b3 : ((blk o.name : Int) != (o.args.length : Int)) = false := by simp [q3]
         by_cases h8 : ((o.args.length : Int) ≤ 8)
         · have hfin := fin (.inr q3) (by omega)
           cases c
           · simp (disch := first | omega | decide | simp only [go_sem]) only [go_sem, cb hn, cb hb, cb hc, cb hd', hT.prim, primOf, fe, b1, b2, b3, h8]
             exact ⟨false, rfl, nofun, fun hp => by have := (hfin.2 hp).2; cases this⟩
           · simp (disch := first | omega | decide | simp only [go_sem]) only [go_sem, cb hn, cb hb, cb hc, cb hd', hT.prim, primOf, fe, b1, b2, b3, h8]
             exact ⟨d, rfl, fun h => hfin.1 ⟨h, rfl⟩, fun h => (hfin.2 h).1⟩
         · simp (disch := first | omega | decide | simp only [go_sem]) only [go_sem, cb hn, cb hb, cb hc, cb hd', hT.prim, primOf, fe, b1, b2, b3, h8]
           exact ⟨false, rfl, nofun, fun hp => absurd hp (f8 h8)⟩
       · have b3 : ((blk o.name : Int) != (o.args.length : Int)) = true := by simp; omega
         simp (disch := first | omega | decide | simp only [go_sem]) only [go_sem, cb hn, cb hb, hT.prim, primOf, fe, b1, b2, b3]
         exact ⟨false, rfl, nofun, fun hp => by have := hp.2.2.1; omega⟩
     · have b2 : ¬ ((0 : Int) < (blk o.name : Int)) := by omega
       by_cases h8 : ((o.args.length : Int) ≤ 8)
       · have hfin := fin (.inl (by omega)) (by omega)
         cases c
         · simp (disch := first | omega | decide | simp only [go_sem]) only [go_sem, cb hn, cb hb, cb hc, cb hd', hT.prim, primOf, fe, b1, b2, h8]
           exact ⟨false, rfl, nofun, fun hp => by have := (hfin.2 hp).2; cases this⟩
         · simp (disch := first | omega | decide | simp only [go_sem]) only [go_sem, cb hn, cb hb, cb hc, cb hd', hT.prim, primOf, fe, b1, b2, h8]
           exact ⟨d, rfl, fun h => hfin.1 ⟨h, rfl⟩, fun h => (hfin.2 h).1⟩
       · simp (disch := first | omega | decide | simp only [go_sem]) only [go_sem, cb hn, cb hb, cb hc, cb hd', hT.prim, primOf, fe, b1, b2, h8]
         exact ⟨false, rfl, nofun, fun hp => absurd hp (f8 h8)⟩
end Go.Proofs.Tryz
