/- The chapter's example: calls that are evaluated once (normal forms). -/
import Derived.Test.YtekepgfmgeophaaGreatPartAV
import Derived.Test.YtekepgfmgeophaaGreatPartAW
import Derived.Test.YtekepgfmgeophaaGreatPartAX
import Derived.Test.YtekepgfmgeophaaGreatPartAY
set_option linter.unusedVariables false
set_option linter.unusedSimpArgs false
namespace Go.Proofs.Tryz
open Go Go.AE
noncomputable def T3:Tbl:=T2.with 100 [(50,key20,val20),(50,key21,val21),(50,key22,val22),(50,key23,val23),(50,key24,val24),(50,key25,val25),(50,key26,val26),(50,key27,val27),(50,key42,val42)]
theorem T3_ok:TblOK Tryz.prog T3:=Tbl.with_ok qm7 fun p hp=>by
 simp only[mN0,List.not_mem_nil,or_false]at hp;rcases hp with rfl|rfl|rfl|rfl|rfl|rfl|rfl|rfl|rfl
 ·exact known20
 ·exact known21
 ·exact known22
 ·exact known23
 ·exact known24
 ·exact known25
 ·exact known26
 ·exact known27
 ·exact known42
def key35:PL:=[natT,(.slice 1 [(.slice 3 [zT,oneT] .any)] .any)]
def val35:PV:=(i64 0)
theorem known35:qbd Tryz.prog 114 key35 val35:=⟨rfl,T3,100,T3_ok,by kernel_rfl⟩
def key39:PL:=[natT,(.slice 6 [(.agg [(i64 2),(i64 2),(.slice 3 [(.agg [(i64 1),(i64 0),(.slice 0 [] .any)]),(.agg [(i64 1),(i64 1),(.slice 0 [] .any)])] .any),(i64 2),(i64 1),(.slice 3 [zT] .any)])] .any),(.slice 3 [zT,zT] .any)]
def val39:PV:=(.tuple [(.bool false),(i64 0)])
theorem known39:qbd Tryz.prog 118 key39 val39:=⟨rfl,T3,100,T3_ok,by kernel_rfl⟩
def key40:PL:=[natT,(.slice 6 [(.agg [(i64 2),(i64 2),(.slice 3 [(.agg [(i64 1),(i64 0),(.slice 0 [] .any)]),(.agg [(i64 1),(i64 1),(.slice 0 [] .any)])] .any),(i64 2),(i64 1),(.slice 3 [zT] .any)])] .any),(.slice 3 [zT,oneT] .any)]
def val40:PV:=(.tuple [(.bool true),(i64 0)])
theorem known40:qbd Tryz.prog 118 key40 val40:=⟨rfl,T3,100,T3_ok,by kernel_rfl⟩
def key41:PL:=[natT,(.slice 6 [(.agg [(i64 2),(i64 2),(.slice 3 [(.agg [(i64 1),(i64 0),(.slice 0 [] .any)]),(.agg [(i64 1),(i64 1),(.slice 0 [] .any)])] .any),(i64 2),(i64 1),(.slice 3 [zT] .any)])] .any),(.slice 3 [oneT,zT] .any)]
def val41:PV:=(.tuple [(.bool true),(i64 0)])
theorem known41:qbd Tryz.prog 118 key41 val41:=⟨rfl,T3,100,T3_ok,by kernel_rfl⟩
def key43:PL:=[natT,(.slice 6 [(.agg [(i64 2),(i64 2),(.slice 3 [(.agg [(i64 1),(i64 0),(.slice 0 [] .any)]),(.agg [(i64 1),(i64 1),(.slice 0 [] .any)])] .any),(i64 2),(i64 1),(.slice 3 [zT] .any)])] .any),(.slice 3 [oneT,oneT] .any)]
def val43:PV:=(.tuple [(.bool false),(i64 0)])
theorem known43:qbd Tryz.prog 118 key43 val43:=⟨rfl,T3,100,T3_ok,by kernel_rfl⟩
noncomputable def T5:Tbl:=T3.with 100 [(114,key35,val35),(118,key39,val39),(118,key40,val40),(118,key41,val41),(118,key43,val43)]
theorem qpr:TblOK Tryz.prog T5:=Tbl.with_ok T3_ok fun p hp=>by
 simp only[mN0,List.not_mem_nil,or_false]at hp;rcases hp with rfl|rfl|rfl|rfl|rfl
 ·exact known35
 ·exact known39
 ·exact known40
 ·exact known41
 ·exact known43
end Go.Proofs.Tryz
