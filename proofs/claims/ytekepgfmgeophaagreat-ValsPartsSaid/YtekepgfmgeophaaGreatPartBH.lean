/- ValsParts: the closed facts of its row, one by one. -/
import Derived.Test.YtekepgfmgeophaaGreatRows
import Derived.JoinedOf
import Derived.KernelRfl
set_option linter.unusedVariables false
set_option linter.unusedSimpArgs false
namespace Go.Proofs.YtekepgfmgeophaaGreat.valsParts
open Go
theorem j0:Rows.valsPartsRow.wf (OpenSpec.ofChange Rows.valsPartsSpec)=true:=by kernel_rfl
theorem j1:laidOutB Tryz.prog=true:=by kernel_rfl
theorem j2:mapsRowed Tryz.prog=true:=by kernel_rfl
theorem j3:Tryz.f14.params.all (Tryz.prog.readableRec ·)=true:=by kernel_rfl
theorem j4:namedTie Tryz.prog Rows.valsPartsRow.named Rows.valsPartsSpec.vars=true:=by kernel_rfl
theorem j5:(Rows.valsPartsRow.stops==[])=true:=by kernel_rfl
theorem j6:(Tryz.prog.stops==[])=true:=by kernel_rfl
theorem j7:(Rows.valsPartsRow.knobs==[])=true:=by kernel_rfl
theorem j8:(Tryz.prog.stopKnobs==[])=true:=by kernel_rfl
theorem j9:(Rows.valsPartsRow.inPlace==Tryz.prog.inPlace 14)=true:=by kernel_rfl
theorem j10:(Rows.valsPartsRow.unfollowed==Tryz.prog.unfollowed 14)=true:=by kernel_rfl
theorem j11:(Rows.valsPartsRow.recurses==Tryz.prog.recurses 14)=true:=by kernel_rfl
theorem j12:(Rows.valsPartsRow.named==Tryz.prog.varsNamed 14)=true:=by kernel_rfl
theorem j13:(Rows.valsPartsRow.maps==(Tryz.f14.params.toList++Rows.valsPartsSpec.plain.varTypes Tryz.prog).any (Tryz.prog.mapsRec ·))=true:=by kernel_rfl
theorem j14:(Rows.valsPartsRow.ifaces==(Tryz.f14.params.toList++Rows.valsPartsSpec.plain.varTypes Tryz.prog).any (Tryz.prog.ifacesRec ·))=true:=by kernel_rfl
theorem j15:(Rows.valsPartsRow.mapsOut==Tryz.prog.mapsAmong Tryz.f14.resultTypes.toList)=true:=by kernel_rfl
theorem j16:(Rows.valsPartsRow.loops==(Tryz.f14.params.toList++Rows.valsPartsSpec.plain.varTypes Tryz.prog).any (Tryz.prog.loopsFrom ·))=true:=by kernel_rfl
theorem j17:(Rows.valsPartsRow.wideKeys==(Tryz.f14.params.toList++Rows.valsPartsSpec.plain.varTypes Tryz.prog++Tryz.f14.resultTypes.toList).any (Tryz.prog.wideKeysFrom ·))=true:=by kernel_rfl
theorem j18:Rows.valsPartsSpec.vars.all (Tryz.prog.varReadable ·)=true:=by kernel_rfl
theorem j19:Tryz.f14.resultTypes.all (fun t=>Tryz.prog.readableRec t&&decide (t<Tryz.prog.types.size))=true:=by kernel_rfl
theorem j20:(Rows.valsPartsRow.ifacesOut==Tryz.f14.resultTypes.toList.any (Tryz.prog.ifacesRec ·))=true:=by kernel_rfl
theorem j21:(Rows.valsPartsRow.loopsOut==Tryz.f14.resultTypes.toList.any (Tryz.prog.loopsFrom ·))=true:=by kernel_rfl
theorem j22:(Rows.valsPartsRow.plainKeys==Tryz.prog.plainKeys)=true:=by kernel_rfl
theorem j23:Rows.valsPartsRow.shortTexts.isNone=true:=by kernel_rfl
theorem j24:Tryz.prog.stopsHeard=true:=by kernel_rfl
theorem j25:Tryz.prog.mayEnter=true:=by kernel_rfl
theorem j26:(Rows.valsPartsRow.lifted==Tryz.prog.liftsFinal)=true:=by kernel_rfl
theorem j27:(Tryz.prog.make==some Rows.valsPartsRow.make)=true:=by kernel_rfl
theorem j29:(Rows.valsPartsRow.pinned==Rows.valsPartsRow.pinnedBy)=true:=by kernel_rfl
theorem j30:(Rows.valsPartsRow.veiled==(Tryz.f14.params.toList++Rows.valsPartsSpec.plain.varTypes Tryz.prog++Tryz.f14.resultTypes.toList).any (Tryz.prog.veiledRec ·))=true:=by kernel_rfl
theorem j31:Rows.valsPartsRow.veiledFits Tryz.prog Tryz.f14.params.toList (Tryz.f14.params.toList++Rows.valsPartsSpec.plain.varTypes Tryz.prog++Tryz.f14.resultTypes.toList)=true:=by kernel_rfl
theorem facts:joinedFacts Tryz.prog 14 Tryz.f14 Rows.valsPartsSpec Rows.valsPartsRow=true:=by unfold joinedFacts;simp only[j0,j1,j2,j3,j4,j5,j6,j7,j8,j9,j10,j11,j12,j13,j14,j15,j16,j17,j18,j19,j20,j21,j22,j23,j24,j25,j26,j27,j29,j30,j31,Bool.and_self];kernel_rfl
end Go.Proofs.YtekepgfmgeophaaGreat.valsParts
