/- A row of chains of which one is written anew. No program in sight. -/
import Derived.Test.YtepckpofhegmiaaGreatDoorTq
set_option linter.unusedVariables false
set_option linter.unusedSimpArgs false
namespace Go.Proofs.YtepckpofhegmiaaGreatDoor
open Go Go.Proofs Sy
theorem flatten_set : ∀ (L : List ChainD) (p : Nat) (x : ChainD), p < L.length → (L.map ChainD.cells).flatten.take (p * 6) ++ x.cells ++ (L.map ChainD.cells).flatten.drop (p * 6 + 6) = ((L.set p x).map ChainD.cells).flatten
  | [], p, x, h => absurd h (by simp)
  | c :: L, 0, x, h => by
    have h6 : c.cells.length = 6 := rfl
    rw [List.set_cons_zero, List.map_cons, List.map_cons, List.flatten_cons, List.flatten_cons, Nat.zero_mul, Nat.zero_add, List.take_zero, List.nil_append, List.drop_append, h6, List.drop_of_length_le (by omega)]
    rfl
  | c :: L, p + 1, x, h => by
    have h6 : c.cells.length = 6 := rfl
    have ih := flatten_set L p x (by simpa using h)
    rw [List.set_cons_succ, List.map_cons, List.map_cons, List.flatten_cons, List.flatten_cons, ← ih, List.take_append, List.drop_append, h6, List.take_of_length_le (by omega), List.drop_of_length_le (by omega),
      show (p + 1) * 6 - 6 = p * 6 from by omega, show (p + 1) * 6 + 6 - 6 = p * 6 + 6 from by omega, List.nil_append, List.append_assoc, List.append_assoc, List.append_assoc]
theorem more_can {c : ChainD} {a v : ActD} {s s1 s2 : SlV} (ha : v.re s1 s2 = a) (h1 : s1.n = v.to.n) (h2 : s2.n = v.wraps.n) (hs : s.n = c.acts.n + 1) : (c.more s a).can = { moreV c.can v with keys := c.can.keys } := by
  subst ha
  simp only [ChainD.more, ChainD.can, moreV, List.map_append, List.map_cons, List.map_nil, can_re v h1 h2, dig_re h1 h2, hs]
theorem set_can (L : List ChainD) (p : Nat) (x : ChainD) : (L.set p x).map ChainD.can = (L.map ChainD.can).set p x.can := by
  rw [List.map_set]
end Go.Proofs.YtepckpofhegmiaaGreatDoor
