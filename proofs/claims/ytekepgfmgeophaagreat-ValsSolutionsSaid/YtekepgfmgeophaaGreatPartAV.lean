/- The chapter's example: calls that are evaluated once (normal forms). -/
import Derived.Test.YtekepgfmgeophaaGreatPartAU
set_option linter.unusedVariables false
set_option linter.unusedSimpArgs false
namespace Go.Proofs.Tryz
open Go Go.AE
def key20:PL:=[natT,zT]
def val20:PV:=(.tuple [zT,(i64 0)])
theorem known20:qbd Tryz.prog 50 key20 val20:=⟨rfl,T2,100,qm7,by kernel_rfl⟩
def key21:PL:=[natT,oneT]
def val21:PV:=(.tuple [oneT,(i64 0)])
theorem known21:qbd Tryz.prog 50 key21 val21:=⟨rfl,T2,100,qm7,by kernel_rfl⟩
def key22:PL:=[natT,twoT]
def val22:PV:=(.tuple [twoT,(i64 0)])
theorem known22:qbd Tryz.prog 50 key22 val22:=⟨rfl,T2,100,qm7,by kernel_rfl⟩
def key23:PL:=[natT,(.agg [(i64 2),(i64 2),(.slice 3 [zT,zT] .any)])]
def val23:PV:=(.tuple [zT,(i64 0)])
theorem known23:qbd Tryz.prog 50 key23 val23:=⟨rfl,T2,100,qm7,by kernel_rfl⟩
def key24:PL:=[natT,(.agg [(i64 2),(i64 1),(.slice 3 [twoT] .any)])]
def val24:PV:=(.tuple [(.agg [(i64 2),(i64 1),(.slice 3 [twoT] .any)]),(i64 0)])
theorem known24:qbd Tryz.prog 50 key24 val24:=⟨rfl,T2,100,qm7,by kernel_rfl⟩
end Go.Proofs.Tryz
