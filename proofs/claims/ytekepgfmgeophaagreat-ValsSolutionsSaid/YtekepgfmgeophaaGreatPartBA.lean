/- The chapter's example: calls that are evaluated once (values, domains, solutions). -/
import Derived.Test.YtekepgfmgeophaaGreatPartAZ
set_option linter.unusedVariables false
set_option linter.unusedSimpArgs false
namespace Go.Proofs.Tryz
open Go Go.AE
def key28:PL:=[natT,(i64 0),(i64 4)]
def val28:PV:=(.tuple [(.slice 3 [zT,oneT,twoT,(.agg [(i64 2),(i64 1),(.slice 3 [twoT] .any)])] .any),(i64 0)])
theorem known28:qbd Tryz.prog 28 key28 val28:=⟨rfl,T5,100,qpr,by kernel_rfl⟩
def key29:PL:=[natT,(i64 4)]
def val29:PV:=(.tuple [(.slice 1 [(i64 0),(i64 1)] .any),(i64 0)])
theorem known29:qbd Tryz.prog 30 key29 val29:=⟨rfl,T5,100,qpr,by kernel_rfl⟩
def key31:PL:=[natT,(.slice 1 [(i64 2)] .any)]
def val31:PV:=(.tuple [(.slice 1 [(.slice 3 [zT,oneT] .any)] .any),(i64 0)])
theorem known31:qbd Tryz.prog 34 key31 val31:=⟨rfl,T5,100,qpr,by kernel_rfl⟩
end Go.Proofs.Tryz
