/- Joined. -/
import Derived.Test.YtggionfjlgfihaaGreatDoorI0
import Derived.Test.YtggionfjlgfihaaGreatDoorI1
import Derived.Test.YtggionfjlgfihaaGreatDoorI14
set_option linter.unusedVariables false
set_option linter.unusedSimpArgs false
set_option maxHeartbeats 16000000
namespace Go.Proofs.YtggionfjlgfihaaGreatDoor
open Go Go.Proofs Sy
section
variable {N:Nat} {av bor:List Nat} {w0:World} {ops:Array Oper} {rest:List Oper} {k:St→Prop} {E:Env} {loc:List Xk} {X:World→Prop} {d:Option Tmp} {ty:TypeId} {pos:String} {af:Array Edge} {g:Option (Nat×Bool)} {bb want:Bool} {n:Nat} {t t2:TypeId}
end
structure BinI (lo hi:Nat) where
 i:Nat
 j:Nat
 h1:lo≤i
 h2:i≤j
 h3:j≤hi
structure UpI (P:List Xc) (a:Nat) where
 k:Nat
 h1:a≤k
 Q:List Xc
 hQ:Q.Perm P
structure DownI (P:List Xc) (i m:Nat) where
 k:Nat
 h1:i≤k
 h2:k≤m
 Q:List Xc
 hQ:Q.Perm P
structure MerI (a m b mid:Nat) where
 i:Nat
 j:Nat
 h1:i≤j
 h2:mid<m→mid+m≤i+b∧j≤mid
 h3:m≤mid→a≤i∧j≤m
end Go.Proofs.YtggionfjlgfihaaGreatDoor
