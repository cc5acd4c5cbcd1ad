/- The chapter's example: calls that are evaluated once (normal forms). -/
import Derived.Test.YtekepgfmgeophaaGreatPartAU
set_option linter.unusedVariables false
set_option linter.unusedSimpArgs false
namespace Go.Proofs.Tryz
open Go Go.AE
def key27:PL:=[natT,(.agg [(i64 2),(i64 2),(.slice 3 [oneT,zT] .any)])]
def val27:PV:=(.tuple [oneT,(i64 0)])
theorem known27:qbd Tryz.prog 50 key27 val27:=⟨rfl,T2,100,qm7,by kernel_rfl⟩
end Go.Proofs.Tryz
