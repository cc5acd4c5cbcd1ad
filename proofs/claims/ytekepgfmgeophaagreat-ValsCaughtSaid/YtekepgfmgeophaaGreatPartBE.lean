/- ValsCaught: the closed facts of its row, one by one. -/
import Derived.Test.YtekepgfmgeophaaGreatRows
import Derived.JoinedOf
import Derived.KernelRfl
set_option linter.unusedVariables false
set_option linter.unusedSimpArgs false
namespace Go.Proofs.YtekepgfmgeophaaGreat.valsCaught
open Go
theorem j0:Rows.valsCaughtRow.wf (OpenSpec.ofChange Rows.valsCaughtSpec)=true:=by kernel_rfl
theorem j1:laidOutB Tryz.prog=true:=by kernel_rfl
theorem j2:mapsRowed Tryz.prog=true:=by kernel_rfl
theorem j3:Tryz.f8.params.all (Tryz.prog.readableRec ·)=true:=by kernel_rfl
theorem j4:namedTie Tryz.prog Rows.valsCaughtRow.named Rows.valsCaughtSpec.vars=true:=by kernel_rfl
theorem j5:(Rows.valsCaughtRow.stops == [])=true:=by kernel_rfl
theorem j6:(Tryz.prog.stops == [])=true:=by kernel_rfl
theorem j7:(Rows.valsCaughtRow.knobs == [])=true:=by kernel_rfl
theorem j8:(Tryz.prog.stopKnobs == [])=true:=by kernel_rfl
theorem j9:(Rows.valsCaughtRow.inPlace == Tryz.prog.inPlace 8)=true:=by kernel_rfl
theorem j10:(Rows.valsCaughtRow.unfollowed == Tryz.prog.unfollowed 8)=true:=by kernel_rfl
theorem j11:(Rows.valsCaughtRow.recurses == Tryz.prog.recurses 8)=true:=by kernel_rfl
theorem j12:(Rows.valsCaughtRow.named == Tryz.prog.varsNamed 8)=true:=by kernel_rfl
theorem j13:(Rows.valsCaughtRow.maps == (Tryz.f8.params.toList ++ Rows.valsCaughtSpec.plain.varTypes Tryz.prog).any (Tryz.prog.mapsRec ·))=true:=by kernel_rfl
theorem j14:(Rows.valsCaughtRow.ifaces == (Tryz.f8.params.toList ++ Rows.valsCaughtSpec.plain.varTypes Tryz.prog).any (Tryz.prog.ifacesRec ·))=true:=by kernel_rfl
theorem j15:(Rows.valsCaughtRow.mapsOut == Tryz.prog.mapsAmong Tryz.f8.resultTypes.toList)=true:=by kernel_rfl
theorem j16:(Rows.valsCaughtRow.loops == (Tryz.f8.params.toList ++ Rows.valsCaughtSpec.plain.varTypes Tryz.prog).any (Tryz.prog.loopsFrom ·))=true:=by kernel_rfl
theorem j17:(Rows.valsCaughtRow.wideKeys == (Tryz.f8.params.toList ++ Rows.valsCaughtSpec.plain.varTypes Tryz.prog ++ Tryz.f8.resultTypes.toList).any (Tryz.prog.wideKeysFrom ·))=true:=by kernel_rfl
theorem j18:Rows.valsCaughtSpec.vars.all (Tryz.prog.varReadable ·)=true:=by kernel_rfl
theorem j19:Tryz.f8.resultTypes.all (fun t => Tryz.prog.readableRec t && decide (t < Tryz.prog.types.size))=true:=by kernel_rfl
theorem j20:(Rows.valsCaughtRow.ifacesOut == Tryz.f8.resultTypes.toList.any (Tryz.prog.ifacesRec ·))=true:=by kernel_rfl
theorem j21:(Rows.valsCaughtRow.loopsOut == Tryz.f8.resultTypes.toList.any (Tryz.prog.loopsFrom ·))=true:=by kernel_rfl
theorem j22:(Rows.valsCaughtRow.plainKeys == Tryz.prog.plainKeys)=true:=by kernel_rfl
theorem j23:Rows.valsCaughtRow.shortTexts.isNone=true:=by kernel_rfl
theorem j24:Tryz.prog.stopsHeard=true:=by kernel_rfl
theorem j25:Tryz.prog.mayEnter=true:=by kernel_rfl
theorem j26:(Rows.valsCaughtRow.lifted == Tryz.prog.liftsFinal)=true:=by kernel_rfl
theorem j27:(Tryz.prog.make == some Rows.valsCaughtRow.make)=true:=by kernel_rfl
theorem j29:(Rows.valsCaughtRow.pinned == Rows.valsCaughtRow.pinnedBy)=true:=by kernel_rfl
theorem j30:(Rows.valsCaughtRow.veiled == (Tryz.f8.params.toList ++ Rows.valsCaughtSpec.plain.varTypes Tryz.prog ++ Tryz.f8.resultTypes.toList).any (Tryz.prog.veiledRec ·))=true:=by kernel_rfl
theorem j31:Rows.valsCaughtRow.veiledFits Tryz.prog Tryz.f8.params.toList (Tryz.f8.params.toList ++ Rows.valsCaughtSpec.plain.varTypes Tryz.prog ++ Tryz.f8.resultTypes.toList)=true:=by kernel_rfl
theorem facts:joinedFacts Tryz.prog 8 Tryz.f8 Rows.valsCaughtSpec Rows.valsCaughtRow=true:=by
 unfold joinedFacts
 simp only [j0,j1,j2,j3,j4,j5,j6,j7,j8,j9,j10,j11,j12,j13,j14,j15,j16,j17,j18,j19,j20,j21,j22,j23,j24,j25,j26,j27,j29,j30,j31,Bool.and_self]
 kernel_rfl
end Go.Proofs.YtekepgfmgeophaaGreat.valsCaught
