/- The chapter's example: calls that are evaluated once (values, domains, solutions). -/
import Derived.Test.YtekepgfmgeophaaGreatPartAZ
set_option linter.unusedVariables false
set_option linter.unusedSimpArgs false
namespace Go.Proofs.Tryz
open Go Go.AE
def key34:PL:=[natT,(.slice 1 [(.slice 3 [zT,oneT] .any)] .any)]
def val34:PV:=(i64 0)
theorem known34:qbd Tryz.prog 25 key34 val34:=⟨rfl,T5,100,qpr,by kernel_rfl⟩
def key36:PL:=[natT,(.slice 1 [(.slice 3 [zT,oneT] .any)] .any)]
def val36:PV:=(.tuple [(i64 1),(.slice 3 [oneT] .any),(.bool true),(i64 0)])
theorem known36:qbd Tryz.prog 42 key36 val36:=⟨rfl,T5,100,qpr,by kernel_rfl⟩
def key45:PL:=[natT,(.slice 1 [(.slice 3 [oneT,zT] .any)] .any)]
def val45:PV:=(i64 90)
theorem known45:qbd Tryz.prog 25 key45 val45:=⟨rfl,T5,100,qpr,by kernel_rfl⟩
def key47:PL:=[natT,(.slice 1 [(.slice 3 [(.agg [(i64 2),(i64 2),(.slice 3 [zT,zT] .any)])] .any)] .any)]
def val47:PV:=(i64 90)
theorem known47:qbd Tryz.prog 25 key47 val47:=⟨rfl,T5,100,qpr,by kernel_rfl⟩
end Go.Proofs.Tryz
