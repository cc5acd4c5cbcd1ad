/- The chapter's example: calls that are evaluated once (the example as a whole). -/
import Derived.Test.YtekepgfmgeophaaGreatPartBA
import Derived.Test.YtekepgfmgeophaaGreatPartBB
import Derived.Test.YtekepgfmgeophaaGreatPartBC
set_option linter.unusedVariables false
set_option linter.unusedSimpArgs false
namespace Go.Proofs.Tryz
open Go Go.AE
noncomputable def T4:Tbl:=T5.with 100 [(56,key1,val1),(44,key2,val2),(44,key3,val3),(44,key4,val4),(44,key5,val5),(44,key6,val6),(18,key9,val9),(20,key11,val11),(28,key28,val28),(30,key29,val29),(34,key31,val31),(25,key34,val34),(42,key36,val36),(39,key44,val44),(25,key45,val45),(25,key47,val47)]
theorem T4_ok:TblOK Tryz.prog T4:=Tbl.with_ok qpr fun p hp=>by
 simp only[mN0,List.not_mem_nil,or_false]at hp;rcases hp with rfl|rfl|rfl|rfl|rfl|rfl|rfl|rfl|rfl|rfl|rfl|rfl|rfl|rfl|rfl|rfl
 ·exact known1
 ·exact known2
 ·exact known3
 ·exact known4
 ·exact known5
 ·exact known6
 ·exact known9
 ·exact known11
 ·exact known28
 ·exact known29
 ·exact known31
 ·exact known34
 ·exact known36
 ·exact known44
 ·exact known45
 ·exact known47
theorem sane_known:qbd Tryz.prog 15 [] (.bool true):=⟨rfl,T4,100,T4_ok,by kernel_rfl⟩
end Go.Proofs.Tryz
