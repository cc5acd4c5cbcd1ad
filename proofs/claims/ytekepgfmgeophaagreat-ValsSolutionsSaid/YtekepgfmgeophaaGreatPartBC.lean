/- The chapter's example: calls that are evaluated once (values, domains, solutions). -/
import Derived.Test.YtekepgfmgeophaaGreatPartAZ
set_option linter.unusedVariables false
set_option linter.unusedSimpArgs false
namespace Go.Proofs.Tryz
open Go Go.AE
def key44:PL:=[natT,(.slice 1 [(.slice 3 [zT,oneT] .any)] .any),(.slice 1 [(i64 0),(i64 0)] .any),(.slice 6 [(.agg [(i64 2),(i64 2),(.slice 3 [(.agg [(i64 1),(i64 0),(.slice 0 [] .any)]),(.agg [(i64 1),(i64 1),(.slice 0 [] .any)])] .any),(i64 2),(i64 1),(.slice 3 [zT] .any)])] .any)]
def val44:PV:=(.tuple [(.slice 1 [(.slice 3 [zT,oneT] .any),(.slice 3 [oneT,zT] .any)] .any),(i64 0)])
theorem known44:qbd Tryz.prog 39 key44 val44:=⟨rfl,T5,100,qpr,by kernel_rfl⟩
end Go.Proofs.Tryz
