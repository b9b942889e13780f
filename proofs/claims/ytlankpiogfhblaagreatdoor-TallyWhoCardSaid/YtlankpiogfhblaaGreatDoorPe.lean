/- What post.open has found: its register. -/
import Derived.Test.YtlankpiogfhblaaGreatDoorSt
set_option linter.unusedVariables false
set_option linter.unusedSimpArgs false
namespace Go.Proofs.YtlankpiogfhblaaGreatDoor
open Go Go.Proofs Sy
instance : TyMap Tryz.prog 83 3 (keyD Int) := ⟨by kernel_rfl⟩
instance : TyMap Tryz.prog 84 3 (keyD ByteArray) := ⟨by kernel_rfl⟩
/-- What open has found after k activities. -/
structure RegI (c : ChainD) where
  k : Nat
  hk : k ≤ c.actsL.length
  P : List PostD
  hP : P.map PostD.can = openF c k
  hz : ∀ p ∈ P, p.ed = ⟨none, 0, 0⟩ ∧ p.edL = []
  pl : List (ByteArray × Value)
  hpl : ∀ d, mget pl d = (idxV (c.actsL.take k) d).map fun (j : Nat) => Value.int .i64 (j : Int)
  num : List (Int × Value)
  hnum : ∀ j : Nat, mget num (j : Int) = (posP P j).map fun (n : Nat) => Value.int .i64 (n : Int)
  n : Nat
  hn : n = P.length
  xs : List Value
  hxs : xs = (P.map PostD.cells).flatten
  A : Option Addr
  cp : Nat
def RegI.s {c : ChainD} (r : RegI c) : SlV := ⟨r.A, r.n, r.cp⟩
def regC (c : ChainD) (u : Value) (q1 q2 : Nat) : List Value := c.cells ++ [u, .map (some q1), .map (some q2)]
def RegAt (c : ChainD) (u : Value) (R : List Res) (X : World → Prop) : Prop := ∃ (r : RegI c) (b b1 q1 q2 : Nat), r.k = c.actsL.length ∧ u = .pointer (some ⟨b, 0, none⟩) ∧ R = [cel b 86 (regC c r.s.v q1 q2), mapr q2 r.pl, mapr q1 r.num, cel b1 38 c.cells, postR r.s r.P] ∧ ∀ w, X w → ∀ p ∈ r.P, Strs w p.to p.toL
end Go.Proofs.YtlankpiogfhblaaGreatDoor
