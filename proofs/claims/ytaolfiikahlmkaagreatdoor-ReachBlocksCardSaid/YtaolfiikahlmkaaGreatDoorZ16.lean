/- Joined. -/
import Derived.Test.YtaolfiikahlmkaaGreatDoorZ15
set_option linter.unusedVariables false
set_option linter.unusedSimpArgs false
set_option maxHeartbeats 16000000
namespace Go.Proofs.YtaolfiikahlmkaaGreatDoor
open Go Go.Proofs Sy Go.RowKit Go.Deep Go.ChangeShapes
section
variable {H:Type} {enc:TypeId×Value→H} {P:Program} {w:World} {base:Nat} {spare:Nat→Bool} {held:Bool}
theorem Acts.keep {w':World} {s:SlV} {l:List ActD} (h:Acts w s l) (hs:∀ k,k<w.heap.size→w'.heap[k]?=w.heap[k]?):Acts w' s l :=
 ⟨RowsD.keep h.1 hs,fun a ha=>⟨RowsD.keep (h.2 a ha).1 hs,RowsD.keep (h.2 a ha).2 hs⟩⟩
end
end Go.Proofs.YtaolfiikahlmkaaGreatDoor
