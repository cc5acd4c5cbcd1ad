/- ValsSolutions: the closed facts of its row, one by one. -/
import Derived.Test.YtekepgfmgeophaaGreatRows
import Derived.JoinedOf
import Derived.KernelRfl
set_option linter.unusedVariables false
set_option linter.unusedSimpArgs false
namespace Go.Proofs.YtekepgfmgeophaaGreat.valsSolutions
open Go
theorem j0:Rows.valsSolutionsRow.wf (OpenSpec.ofChange Rows.valsSolutionsSpec)=true:=by kernel_rfl
theorem j1:laidOutB Tryz.prog=true:=by kernel_rfl
theorem j2:mapsRowed Tryz.prog=true:=by kernel_rfl
theorem j3:Tryz.f13.params.all (Tryz.prog.readableRec ·)=true:=by kernel_rfl
theorem j4:namedTie Tryz.prog Rows.valsSolutionsRow.named Rows.valsSolutionsSpec.vars=true:=by kernel_rfl
theorem j5:(Rows.valsSolutionsRow.stops==[])=true:=by kernel_rfl
theorem j6:(Tryz.prog.stops==[])=true:=by kernel_rfl
theorem j7:(Rows.valsSolutionsRow.knobs==[])=true:=by kernel_rfl
theorem j8:(Tryz.prog.stopKnobs==[])=true:=by kernel_rfl
theorem j9:(Rows.valsSolutionsRow.inPlace==Tryz.prog.inPlace 13)=true:=by kernel_rfl
theorem j10:(Rows.valsSolutionsRow.unfollowed==Tryz.prog.unfollowed 13)=true:=by kernel_rfl
theorem j11:(Rows.valsSolutionsRow.recurses==Tryz.prog.recurses 13)=true:=by kernel_rfl
theorem j12:(Rows.valsSolutionsRow.named==Tryz.prog.varsNamed 13)=true:=by kernel_rfl
theorem j13:(Rows.valsSolutionsRow.maps==(Tryz.f13.params.toList++Rows.valsSolutionsSpec.plain.varTypes Tryz.prog).any (Tryz.prog.mapsRec ·))=true:=by kernel_rfl
theorem j14:(Rows.valsSolutionsRow.ifaces==(Tryz.f13.params.toList++Rows.valsSolutionsSpec.plain.varTypes Tryz.prog).any (Tryz.prog.ifacesRec ·))=true:=by kernel_rfl
theorem j15:(Rows.valsSolutionsRow.mapsOut==Tryz.prog.mapsAmong Tryz.f13.resultTypes.toList)=true:=by kernel_rfl
theorem j16:(Rows.valsSolutionsRow.loops==(Tryz.f13.params.toList++Rows.valsSolutionsSpec.plain.varTypes Tryz.prog).any (Tryz.prog.loopsFrom ·))=true:=by kernel_rfl
theorem j17:(Rows.valsSolutionsRow.wideKeys==(Tryz.f13.params.toList++Rows.valsSolutionsSpec.plain.varTypes Tryz.prog++Tryz.f13.resultTypes.toList).any (Tryz.prog.wideKeysFrom ·))=true:=by kernel_rfl
theorem j18:Rows.valsSolutionsSpec.vars.all (Tryz.prog.varReadable ·)=true:=by kernel_rfl
theorem j19:Tryz.f13.resultTypes.all (fun t=>Tryz.prog.readableRec t&&decide (t<Tryz.prog.types.size))=true:=by kernel_rfl
theorem j20:(Rows.valsSolutionsRow.ifacesOut==Tryz.f13.resultTypes.toList.any (Tryz.prog.ifacesRec ·))=true:=by kernel_rfl
theorem j21:(Rows.valsSolutionsRow.loopsOut==Tryz.f13.resultTypes.toList.any (Tryz.prog.loopsFrom ·))=true:=by kernel_rfl
theorem j22:(Rows.valsSolutionsRow.plainKeys==Tryz.prog.plainKeys)=true:=by kernel_rfl
theorem j23:Rows.valsSolutionsRow.shortTexts.isNone=true:=by kernel_rfl
theorem j24:Tryz.prog.stopsHeard=true:=by kernel_rfl
theorem j25:Tryz.prog.mayEnter=true:=by kernel_rfl
theorem j26:(Rows.valsSolutionsRow.lifted==Tryz.prog.liftsFinal)=true:=by kernel_rfl
theorem j27:(Tryz.prog.make==some Rows.valsSolutionsRow.make)=true:=by kernel_rfl
theorem j29:(Rows.valsSolutionsRow.pinned==Rows.valsSolutionsRow.pinnedBy)=true:=by kernel_rfl
theorem j30:(Rows.valsSolutionsRow.veiled==(Tryz.f13.params.toList++Rows.valsSolutionsSpec.plain.varTypes Tryz.prog++Tryz.f13.resultTypes.toList).any (Tryz.prog.veiledRec ·))=true:=by kernel_rfl
theorem j31:Rows.valsSolutionsRow.veiledFits Tryz.prog Tryz.f13.params.toList (Tryz.f13.params.toList++Rows.valsSolutionsSpec.plain.varTypes Tryz.prog++Tryz.f13.resultTypes.toList)=true:=by kernel_rfl
theorem facts:joinedFacts Tryz.prog 13 Tryz.f13 Rows.valsSolutionsSpec Rows.valsSolutionsRow=true:=by unfold joinedFacts;simp only[j0,j1,j2,j3,j4,j5,j6,j7,j8,j9,j10,j11,j12,j13,j14,j15,j16,j17,j18,j19,j20,j21,j22,j23,j24,j25,j26,j27,j29,j30,j31,Bool.and_self];kernel_rfl
end Go.Proofs.YtekepgfmgeophaaGreat.valsSolutions
