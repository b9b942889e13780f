/- Ranges over functions, for the calculus of XSy. No program in sight. -/
import Derived.Test.YtepckpofhegmiaaGreatDoorMb
import Derived.RangeFuncSeq
import Derived.OrdersIn
set_option linter.unusedVariables false
namespace Go.Proofs.YtepckpofhegmiaaGreatDoor.Sy
open Go Go.RowKit

/-! ### From the walk outside a round to the walk in one -/
def fen (ρ : Option Nat) : Fence := { Fence.wide with round := ρ }
section
variable {P : Program} {N : Nat} {av bor : List Nat} {w0 : World} {ops : Array Oper} {st : St}
end

/-! ### In a round -/
/-- The code is walked in a round of the loop l. -/
def Cr (P : Program) (N : Nat) (av bor : List Nat) (w0 : World) (l : Nat) (c : Code) (st : St) (K : Exit → St → Prop) : Prop :=
  ∀ n a w, Ok N av bor w0 st a w → c.wpIn (fen (some l)) n P (post N av bor w0 K) a w
theorem Cr.mk {P : Program} {N : Nat} {av bor : List Nat} {w0 : World} {l : Nat} {c : Code} {st : St} {K : Exit → St → Prop} (h : ∀ n a w, Ok N av bor w0 st a w → c.wpIn (fen (some l)) n P (post N av bor w0 K) a w) : Cr P N av bor w0 l c st K := h
theorem Cr.run {P : Program} {N : Nat} {av bor : List Nat} {w0 : World} {l : Nat} {c : Code} {st : St} {K : Exit → St → Prop} (h : Cr P N av bor w0 l c st K) : ∀ n a w, Ok N av bor w0 st a w → c.wpIn (fen (some l)) n P (post N av bor w0 K) a w := h
namespace Rd
section
variable {P : Program} {N : Nat} {av bor : List Nat} {w0 : World} {l : Nat} {st : St} {K : Exit → St → Prop} {E : Env} {loc : List Res} {X : World → Prop}
theorem cw_cond {c : Operand} {x y : Code} {b : Bool} (hc : ev st.env c = some (.bool b) := by rfl) (ht : b = true → Cr P N av bor w0 l x st K) (hf : b = false → Cr P N av bor w0 l y st K) :
    Cr P N av bor w0 l (.cond c x y) st K := fun n a w ok => wpIn_cond_split (ok.eval hc) (fun h => ht h n a w ok) (fun h => hf h n a w ok)
end
end Rd

/-! ### A call of yield -/
/-- What a round says to the function that is ranged over: it is handed 'pre'. -/
def YCt (P : Program) (l : Nat) (args : List Value) (pre : List Res) (X : World → Prop) (Post : Value → List Res → (World → Prop) → Prop) : Prop :=
  ∀ (n : Nat) (w : World) (av : List Nat), Gam av (fps pre) w pre X w → YieldAt Fence.wide n P l args.toArray w fun e w' => ∃ v R X', e = .returned v ∧ Post v R X' ∧ Gam av (fps pre) w R X' w'
section
variable {P : Program} {N : Nat} {av bor : List Nat} {w0 : World} {ops : Array Oper} {rest : List Oper} {k : St → Prop} {E : Env} {loc : List Res} {X : World → Prop} {K : Exit → St → Prop}
variable {d : Option Tmp} {ty : TypeId} {pos : String} {af : Array Edge} {g : Option (Nat × Bool)} {bb want : Bool}
end

/-! ### The statement -/
/-- The function value 'g' with the captured 'lb' hands its yield 'xs', one after another, and leaves the rest to the rounds. -/
def It {α : Type} (P : Program) (g : FuncId) (lb : List Value) (X1 : World → Prop) (enc : α → List Value) (xs : List α) : Prop :=
  ∀ (l : Nat) (X : World → Prop) (Rs : List α → List Res → Prop), (∀ w, X w → X1 w) →
    (∀ pre x suf R, xs = pre ++ x :: suf → Rs pre R → YCt P l (enc x) R X fun v R' _ => v = .bool true ∧ Rs (pre ++ [x]) R') →
    ∀ R0, Rs [] R0 → Ct P g (.func (.yield l) #[] #[] :: lb).toArray R0 X fun _ R' _ => Rs xs R'

section
variable {P : Program} {N : Nat} {av bor : List Nat} {w0 : World} {E : Env} {loc : List Res} {X : World → Prop} {K : Exit → St → Prop}
end
end Go.Proofs.YtepckpofhegmiaaGreatDoor.Sy
