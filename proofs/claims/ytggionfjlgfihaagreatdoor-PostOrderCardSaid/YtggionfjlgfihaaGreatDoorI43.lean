/- Joined. -/
import Derived.Test.YtggionfjlgfihaaGreatDoorI0
import Derived.Test.YtggionfjlgfihaaGreatDoorI42
set_option linter.unusedVariables false
set_option linter.unusedSimpArgs false
set_option maxHeartbeats 16000000
namespace Go.Proofs.YtggionfjlgfihaaGreatDoor
open Go Go.Proofs Sy
section
variable {N:Nat} {av bor:List Nat} {w0:World} {ops:Array Oper} {rest:List Oper} {k:St→Prop} {E:Env} {loc:List Xk} {X:World→Prop} {ty:TypeId} {pos:String} {af:Array Edge} {g:Option (Nat×Bool)} {bb want:Bool} {n:Nat} {t t2:TypeId} {x y:Operand}
end
structure StaI (P:List Xc) (n w:Nat) where
 a:Nat
 b:Nat
 h1:a≤n
 h2:b=a+w
 Q:List Xc
 hQ:Q.Perm P
structure StaO (P:List Xc) (n:Nat) where
 z:Nat
 h1:1≤z
 h2:z≤2*n+20
 Q:List Xc
 hQ:Q.Perm P
end Go.Proofs.YtggionfjlgfihaaGreatDoor
