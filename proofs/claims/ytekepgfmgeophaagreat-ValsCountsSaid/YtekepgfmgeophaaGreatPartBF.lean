/- ValsCounts: the closed facts of its row, one by one. -/
import Derived.Test.YtekepgfmgeophaaGreatRows
import Derived.JoinedOf
import Derived.KernelRfl
set_option linter.unusedVariables false
set_option linter.unusedSimpArgs false
namespace Go.Proofs.YtekepgfmgeophaaGreat.valsCounts
open Go
theorem j0 : Rows.valsCountsRow.wf (OpenSpec.ofChange Rows.valsCountsSpec) = true := by kernel_rfl
theorem j1 : laidOutB Tryz.prog = true := by kernel_rfl
theorem j2 : mapsRowed Tryz.prog = true := by kernel_rfl
theorem j3 : Tryz.f9.params.all (Tryz.prog.readableRec ·) = true := by kernel_rfl
theorem j4 : namedTie Tryz.prog Rows.valsCountsRow.named Rows.valsCountsSpec.vars = true := by kernel_rfl
theorem j5 : (Rows.valsCountsRow.stops == []) = true := by kernel_rfl
theorem j6 : (Tryz.prog.stops == []) = true := by kernel_rfl
theorem j7 : (Rows.valsCountsRow.knobs == []) = true := by kernel_rfl
theorem j8 : (Tryz.prog.stopKnobs == []) = true := by kernel_rfl
theorem j9 : (Rows.valsCountsRow.inPlace == Tryz.prog.inPlace 9) = true := by kernel_rfl
theorem j10 : (Rows.valsCountsRow.unfollowed == Tryz.prog.unfollowed 9) = true := by kernel_rfl
theorem j11 : (Rows.valsCountsRow.recurses == Tryz.prog.recurses 9) = true := by kernel_rfl
theorem j12 : (Rows.valsCountsRow.named == Tryz.prog.varsNamed 9) = true := by kernel_rfl
theorem j13 : (Rows.valsCountsRow.maps == (Tryz.f9.params.toList ++ Rows.valsCountsSpec.plain.varTypes Tryz.prog).any (Tryz.prog.mapsRec ·)) = true := by kernel_rfl
theorem j14 : (Rows.valsCountsRow.ifaces == (Tryz.f9.params.toList ++ Rows.valsCountsSpec.plain.varTypes Tryz.prog).any (Tryz.prog.ifacesRec ·)) = true := by kernel_rfl
theorem j15 : (Rows.valsCountsRow.mapsOut == Tryz.prog.mapsAmong Tryz.f9.resultTypes.toList) = true := by kernel_rfl
theorem j16 : (Rows.valsCountsRow.loops == (Tryz.f9.params.toList ++ Rows.valsCountsSpec.plain.varTypes Tryz.prog).any (Tryz.prog.loopsFrom ·)) = true := by kernel_rfl
theorem j17 : (Rows.valsCountsRow.wideKeys == (Tryz.f9.params.toList ++ Rows.valsCountsSpec.plain.varTypes Tryz.prog ++ Tryz.f9.resultTypes.toList).any (Tryz.prog.wideKeysFrom ·)) = true := by kernel_rfl
theorem j18 : Rows.valsCountsSpec.vars.all (Tryz.prog.varReadable ·) = true := by kernel_rfl
theorem j19 : Tryz.f9.resultTypes.all (fun t => Tryz.prog.readableRec t && decide (t < Tryz.prog.types.size)) = true := by kernel_rfl
theorem j20 : (Rows.valsCountsRow.ifacesOut == Tryz.f9.resultTypes.toList.any (Tryz.prog.ifacesRec ·)) = true := by kernel_rfl
theorem j21 : (Rows.valsCountsRow.loopsOut == Tryz.f9.resultTypes.toList.any (Tryz.prog.loopsFrom ·)) = true := by kernel_rfl
theorem j22 : (Rows.valsCountsRow.plainKeys == Tryz.prog.plainKeys) = true := by kernel_rfl
theorem j23 : Rows.valsCountsRow.shortTexts.isNone = true := by kernel_rfl
theorem j24 : Tryz.prog.stopsHeard = true := by kernel_rfl
theorem j25 : Tryz.prog.mayEnter = true := by kernel_rfl
theorem j26 : (Rows.valsCountsRow.lifted == Tryz.prog.liftsFinal) = true := by kernel_rfl
theorem j27 : (Tryz.prog.make == some Rows.valsCountsRow.make) = true := by kernel_rfl
theorem j29 : (Rows.valsCountsRow.pinned == Rows.valsCountsRow.pinnedBy) = true := by kernel_rfl
theorem j30 : (Rows.valsCountsRow.veiled == (Tryz.f9.params.toList ++ Rows.valsCountsSpec.plain.varTypes Tryz.prog ++ Tryz.f9.resultTypes.toList).any (Tryz.prog.veiledRec ·)) = true := by kernel_rfl
theorem j31 : Rows.valsCountsRow.veiledFits Tryz.prog Tryz.f9.params.toList (Tryz.f9.params.toList ++ Rows.valsCountsSpec.plain.varTypes Tryz.prog ++ Tryz.f9.resultTypes.toList) = true := by kernel_rfl
theorem facts : joinedFacts Tryz.prog 9 Tryz.f9 Rows.valsCountsSpec Rows.valsCountsRow = true := by
 unfold joinedFacts
 simp only [j0, j1, j2, j3, j4, j5, j6, j7, j8, j9, j10, j11, j12, j13, j14, j15, j16, j17, j18, j19, j20, j21, j22, j23, j24, j25, j26, j27, j29, j30, j31, Bool.and_self]
 kernel_rfl
end Go.Proofs.YtekepgfmgeophaaGreat.valsCounts
