/- Plain laws: what a chain of which only the first activities are read answers, whatever follows in it. No program in sight. -/
import Derived.Test.YtfpojkoddcdojaaGreatDoorWe
set_option linter.unusedVariables false
set_option linter.unusedSimpArgs false
namespace Go.Proofs.YtfpojkoddcdojaaGreatDoor
open Go Go.Proofs Sy
structure Agree (n : Nat) (l l' : List ActD) : Prop where
  at_ : ∀ k, k < n → l[k]? = l'[k]?
  left : n ≤ l.length
  right : n ≤ l'.length
theorem Agree.getD {n : Nat} {l l' : List ActD} (h : Agree n l l') {k : Nat} (hk : k < n) : l.getD k ActD.zero = l'.getD k ActD.zero := by
  rw [List.getD_eq_getElem?_getD, List.getD_eq_getElem?_getD, h.at_ k hk]
theorem agree_take {n : Nat} (l m : List ActD) (h : n ≤ l.length) : Agree n l (l.take n ++ m) := ⟨fun k hk => by
  rw [List.getElem?_append_left (by rw [List.length_take]; omega), List.getElem?_take, if_pos hk], h, by rw [List.length_append, List.length_take]; omega⟩
theorem grantF_agree {n : Nat} {l l' : List ActD} (h : Agree n l l') (sc : Int) (g : ByteArray) : ∀ k, k ≤ n → grantF l sc g k = grantF l' sc g k
  | 0, _ => rfl
  | k + 1, hk => by simp only [grantF, grantF_agree h sc g k (by omega), h.getD (show k < n by omega)]
theorem circF_agree {n : Nat} {l l' : List ActD} (h : Agree n l l') (g : ByteArray) : ∀ k, k ≤ n → circF l g k = circF l' g k
  | 0, _ => rfl
  | k + 1, hk => by simp only [circF, circF_agree h g k (by omega), h.getD (show k < n by omega)]
theorem idxV_agree {n : Nat} {l l' : List ActD} (h : Agree n l l') (d : ByteArray) {j : Nat} (hj : j < n) (e : idxV l d = some j) : idxV l' d = some j := by
  rw [idxV, List.findIdx?_eq_some_iff_getElem] at e ⊢
  obtain ⟨h1, h2, h3⟩ := e
  have hl' : j < l'.length := by have := h.right; omega
  have ev : ∀ i (hi : i < n) (a : i < l.length) (b : i < l'.length), l[i] = l'[i] := fun i hi a b => by
    have := h.at_ i hi
    rw [List.getElem?_eq_getElem a, List.getElem?_eq_getElem b] at this
    exact Option.some.inj this
  refine ⟨hl', by rw [← ev j hj h1 hl']; exact h2, fun i hi => ?_⟩
  rw [← ev i (by omega) (by omega) (by omega)]
  exact h3 i hi
theorem Agree.symm {n : Nat} {l l' : List ActD} (h : Agree n l l') : Agree n l' l := ⟨fun k hk => (h.at_ k hk).symm, h.right, h.left⟩
theorem stepT_agree {n : Nat} {l l' : List ActD} (h : Agree n l l') {i : Nat} (hi : i < n) (t : TieS) (x : ActD) : stepT l i t x = stepT l' i t x := by
  have key : (match idxV l x.object with | some j => bif decide ((j : Int) < (i : Int)) then undoT t (l.getD j ActD.zero) else t | none => t) = (match idxV l' x.object with | some j => bif decide ((j : Int) < (i : Int)) then undoT t (l'.getD j ActD.zero) else t | none => t) := by
    cases e : idxV l x.object with
    | none =>
      cases e' : idxV l' x.object with
      | none => rfl
      | some j =>
        have : ¬ j < n := fun hj => by have := idxV_agree h.symm _ hj e'; rw [e] at this; cases this
        have h1 : ¬ ((j : Int) < (i : Int)) := by omega
        simp only [decide_eq_false h1, cond_false]
    | some j =>
      by_cases hj : j < n
      · rw [idxV_agree h _ hj e]
        simp only [h.getD hj]
      · have h1 : ¬ ((j : Int) < (i : Int)) := by omega
        cases e' : idxV l' x.object with
        | none => simp only [decide_eq_false h1, cond_false]
        | some j' =>
          have : ¬ j' < n := fun hj' => by have := idxV_agree h.symm _ hj' e'; rw [e] at this; exact hj (by cases this; exact hj')
          have h2 : ¬ ((j' : Int) < (i : Int)) := by omega
          simp only [decide_eq_false h1, decide_eq_false h2, cond_false]
  unfold stepT
  congr 6
theorem tieF_agree {n : Nat} {l l' : List ActD} (h : Agree n l l') : ∀ k, k ≤ n → tieF l k = tieF l' k
  | 0, _ => rfl
  | k + 1, hk => by simp only [tieF, tieF_agree h k (by omega), h.getD (show k < n by omega), stepT_agree h (show k < n by omega)]
theorem limN_nat {n len : Nat} (h : n ≤ len) : limN (n : Int) len = n := by rw [limN_eq]; omega
theorem epochO_agree {n : Nat} {l l' : List ActD} (h : Agree n l l') (sc : Int) (g : ByteArray) : epochO l n sc g = epochO l' n sc g := by
  have e : grantV l n sc g = grantV l' n sc g := by rw [grantV, grantV, limN_nat h.left, limN_nat h.right, grantF_agree h sc g n (Nat.le_refl _)]
  have hg := grantF_le l sc g n
  rw [epochO, epochO, ← e]
  cases hb : decide ((0 : Int) < ((grantV l n sc g).2 : Nat)) with
  | false => rfl
  | true =>
    simp only [cond_true]
    refine h.at_ _ ?_
    have h1 : grantV l n sc g = grantF l sc g n := by rw [grantV, limN_nat h.left]
    rw [h1] at hb ⊢
    have := of_decide_eq_true hb
    exact hg.2 (by omega)
theorem membersV_agree {n : Nat} {c d : ChainD} (h : Agree n c.actsL d.actsL) (hid : c.id = d.id) (sc : Int) (g : ByteArray) (toL : List ByteArray) : membersV c n sc g toL = membersV d n sc g toL := by
  have e1 : tieV c.actsL n = tieV d.actsL n := by rw [tieV, tieV, limN_nat h.left, limN_nat h.right, tieF_agree h n (Nat.le_refl _)]
  have e2 : circF c.actsL g (limN n c.actsL.length) = circF d.actsL g (limN n d.actsL.length) := by rw [limN_nat h.left, limN_nat h.right, circF_agree h g n (Nat.le_refl _)]
  have e3 : keepM c = keepM d := by funext bs x; simp only [keepM, hid]
  simp only [membersV, listOf, e1, e2, e3]
end Go.Proofs.YtfpojkoddcdojaaGreatDoor
