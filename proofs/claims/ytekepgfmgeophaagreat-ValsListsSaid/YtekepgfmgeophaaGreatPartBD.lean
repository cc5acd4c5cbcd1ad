/- ValsLists: the closed facts of its row, one by one. -/
import Derived.Test.YtekepgfmgeophaaGreatRows
import Derived.JoinedOf
import Derived.KernelRfl
set_option linter.unusedVariables false
set_option linter.unusedSimpArgs false
namespace Go.Proofs.YtekepgfmgeophaaGreat.valsLists
open Go

theorem j0 : Rows.valsListsRow.wf (OpenSpec.ofChange Rows.valsListsSpec) = true := by kernel_rfl
theorem j1 : laidOutB Tryz.prog = true := by kernel_rfl
theorem j2 : mapsRowed Tryz.prog = true := by kernel_rfl
theorem j3 : Tryz.f10.params.all (Tryz.prog.readableRec ·) = true := by kernel_rfl
theorem j4 : namedTie Tryz.prog Rows.valsListsRow.named Rows.valsListsSpec.vars = true := by kernel_rfl
theorem j5 : (Rows.valsListsRow.stops == []) = true := by kernel_rfl
theorem j6 : (Tryz.prog.stops == []) = true := by kernel_rfl
theorem j7 : (Rows.valsListsRow.knobs == []) = true := by kernel_rfl
theorem j8 : (Tryz.prog.stopKnobs == []) = true := by kernel_rfl
theorem j9 : (Rows.valsListsRow.inPlace == Tryz.prog.inPlace 10) = true := by kernel_rfl
theorem j10 : (Rows.valsListsRow.unfollowed == Tryz.prog.unfollowed 10) = true := by kernel_rfl
theorem j11 : (Rows.valsListsRow.recurses == Tryz.prog.recurses 10) = true := by kernel_rfl
theorem j12 : (Rows.valsListsRow.named == Tryz.prog.varsNamed 10) = true := by kernel_rfl
theorem j13 : (Rows.valsListsRow.maps == (Tryz.f10.params.toList ++ Rows.valsListsSpec.plain.varTypes Tryz.prog).any (Tryz.prog.mapsRec ·)) = true := by kernel_rfl
theorem j14 : (Rows.valsListsRow.ifaces == (Tryz.f10.params.toList ++ Rows.valsListsSpec.plain.varTypes Tryz.prog).any (Tryz.prog.ifacesRec ·)) = true := by kernel_rfl
theorem j15 : (Rows.valsListsRow.mapsOut == Tryz.prog.mapsAmong Tryz.f10.resultTypes.toList) = true := by kernel_rfl
theorem j16 : (Rows.valsListsRow.loops == (Tryz.f10.params.toList ++ Rows.valsListsSpec.plain.varTypes Tryz.prog).any (Tryz.prog.loopsFrom ·)) = true := by kernel_rfl
theorem j17 : (Rows.valsListsRow.wideKeys == (Tryz.f10.params.toList ++ Rows.valsListsSpec.plain.varTypes Tryz.prog ++ Tryz.f10.resultTypes.toList).any (Tryz.prog.wideKeysFrom ·)) = true := by kernel_rfl
theorem j18 : Rows.valsListsSpec.vars.all (Tryz.prog.varReadable ·) = true := by kernel_rfl
theorem j19 : Tryz.f10.resultTypes.all (fun t => Tryz.prog.readableRec t && decide (t < Tryz.prog.types.size)) = true := by kernel_rfl
theorem j20 : (Rows.valsListsRow.ifacesOut == Tryz.f10.resultTypes.toList.any (Tryz.prog.ifacesRec ·)) = true := by kernel_rfl
theorem j21 : (Rows.valsListsRow.loopsOut == Tryz.f10.resultTypes.toList.any (Tryz.prog.loopsFrom ·)) = true := by kernel_rfl
theorem j22 : (Rows.valsListsRow.plainKeys == Tryz.prog.plainKeys) = true := by kernel_rfl
theorem j23 : Rows.valsListsRow.shortTexts.isNone = true := by kernel_rfl
theorem j24 : Tryz.prog.stopsHeard = true := by kernel_rfl
theorem j25 : Tryz.prog.mayEnter = true := by kernel_rfl
theorem j26 : (Rows.valsListsRow.lifted == Tryz.prog.liftsFinal) = true := by kernel_rfl
theorem j27 : (Tryz.prog.make == some Rows.valsListsRow.make) = true := by kernel_rfl
theorem j29 : (Rows.valsListsRow.pinned == Rows.valsListsRow.pinnedBy) = true := by kernel_rfl
theorem j30 : (Rows.valsListsRow.veiled == (Tryz.f10.params.toList ++ Rows.valsListsSpec.plain.varTypes Tryz.prog ++ Tryz.f10.resultTypes.toList).any (Tryz.prog.veiledRec ·)) = true := by kernel_rfl
theorem j31 : Rows.valsListsRow.veiledFits Tryz.prog Tryz.f10.params.toList (Tryz.f10.params.toList ++ Rows.valsListsSpec.plain.varTypes Tryz.prog ++ Tryz.f10.resultTypes.toList) = true := by kernel_rfl
theorem facts : joinedFacts Tryz.prog 10 Tryz.f10 Rows.valsListsSpec Rows.valsListsRow = true := by
  unfold joinedFacts
  simp only [j0, j1, j2, j3, j4, j5, j6, j7, j8, j9, j10, j11, j12, j13, j14, j15, j16, j17, j18, j19, j20, j21, j22, j23, j24, j25, j26, j27, j29, j30, j31, Bool.and_self]
  kernel_rfl
end Go.Proofs.YtekepgfmgeophaaGreat.valsLists
