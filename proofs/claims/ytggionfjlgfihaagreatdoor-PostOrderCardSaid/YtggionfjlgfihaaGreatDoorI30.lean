/- Joined. -/
import Derived.Test.YtggionfjlgfihaaGreatDoorI0
import Derived.Test.YtggionfjlgfihaaGreatDoorI23
import Derived.Test.YtggionfjlgfihaaGreatDoorI29
import Derived.Test.YtggionfjlgfihaaGreatDoorI24
set_option linter.unusedVariables false
set_option linter.unusedSimpArgs false
set_option maxHeartbeats 16000000
namespace Go.Proofs.YtggionfjlgfihaaGreatDoor
open Go Go.Proofs Sy
theorem eT (x:ByteArray) (l:List ByteArray):textsV (x::l)=textV x++textsV l:=rfl
theorem fB:textsV []=ByteArray.empty:=rfl
theorem fJ (x:Int) (l:List Int):numsV (x::l)=numV x++numsV l:=rfl
theorem gS:numsV []=ByteArray.empty:=rfl
structure Xg.Sm (c:Xg):Prop where
 actor:c.actor.size≤1000000
 prev:c.prev.size≤1000000
structure Xi.Sm (c:Xi):Prop where
 actor:c.actor.size≤1000000
 claim:c.claim.size≤1000000
structure Xr.Sm (c:Xr):Prop where
 actor:c.actor.size≤1000000
 object:c.object.size≤1000000
 text:c.text.size≤1000000
 to:(listV c.toL).size≤1000000
end Go.Proofs.YtggionfjlgfihaaGreatDoor
