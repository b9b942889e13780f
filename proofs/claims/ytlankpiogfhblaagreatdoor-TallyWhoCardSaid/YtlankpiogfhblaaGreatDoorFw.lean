/- The bound of lists of chains ('few'), as a value. -/
import Derived.Test.YtlankpiogfhblaaGreatDoorMf
set_option linter.unusedVariables false
set_option linter.unusedSimpArgs false
namespace Go.Proofs.YtlankpiogfhblaaGreatDoor
open Go Go.Proofs Sy
def fewBad (l : List ChainD) (k : Nat) : Bool := !shortV (l.getD k ChainD.zero)
def fewV (l : List ChainD) : Bool := decide (l.length ≤ 6) && allB l.length (fewBad l)
theorem few_ok {l : List ChainD} (hr : ∀ c ∈ l, ∀ a ∈ c.actsL, a.Rng ∧ a.target.size ≤ maxLen) (h : fewV l = true) : l.length ≤ 6 ∧ ∀ c ∈ l, ActsOk c.actsL ∧ c.actsL.length ≤ 24 := by
  simp only [fewV, Bool.and_eq_true, decide_eq_true_eq] at h
  refine ⟨h.1, fun c hc => ?_⟩
  obtain ⟨i, hi, rfl⟩ := List.getElem_of_mem hc
  have h1 := allB_at h.2 hi
  simp only [fewBad, List.getD_eq_getElem?_getD, List.getElem?_eq_getElem hi, Option.getD_some, Bool.not_eq_false'] at h1
  exact actsOk_of (fun a ha => (hr _ (List.getElem_mem hi) a ha).1) (fun a ha => (hr _ (List.getElem_mem hi) a ha).2) h1
end Go.Proofs.YtlankpiogfhblaaGreatDoor
