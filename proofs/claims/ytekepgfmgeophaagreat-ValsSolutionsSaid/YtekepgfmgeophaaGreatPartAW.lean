/- The chapter's example: calls that are evaluated once (normal forms). -/
import Derived.Test.YtekepgfmgeophaaGreatPartAU
set_option linter.unusedVariables false
set_option linter.unusedSimpArgs false
namespace Go.Proofs.Tryz
open Go Go.AE
def key25:PL:=[natT,(.agg [(i64 2),(i64 1),(.slice 3 [(.agg [(i64 2),(i64 2),(.slice 3 [zT,zT] .any)])] .any)])]
def val25:PV:=(.tuple [oneT,(i64 0)])
theorem known25:qbd Tryz.prog 50 key25 val25:=⟨rfl,T2,100,qm7,by kernel_rfl⟩
def key26:PL:=[natT,(.agg [(i64 2),(i64 2),(.slice 3 [zT,oneT] .any)])]
def val26:PV:=(.tuple [oneT,(i64 0)])
theorem known26:qbd Tryz.prog 50 key26 val26:=⟨rfl,T2,100,qm7,by kernel_rfl⟩
end Go.Proofs.Tryz
