/- The specification's check of a signature, exact. -/
import Derived.Test.YtekepgfmgeophaaGreatPartAN
import Derived.Test.YtekepgfmgeophaaGreatPartAJ
set_option linter.unusedVariables false
set_option linter.unusedSimpArgs false
namespace Go.Proofs.Tryz
open Go Go.AE
variable {T:Tbl}(hT:Std T)
theorem sigP.okOps{s:GSig}(h:sigP s):okOps s.ops s.sorts.length:=fun o ho=>by obtain⟨i,hi,rfl⟩:=List.getElem_of_mem ho;obtain⟨_,_,_,h1,h2,h3⟩:=h.ops i hi;exact⟨h1,h2,by omega⟩
end Go.Proofs.Tryz
