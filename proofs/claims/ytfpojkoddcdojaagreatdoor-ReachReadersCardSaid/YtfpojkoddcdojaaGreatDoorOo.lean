/- More openers: lists of strings with their sizes, lists of chains; what stays behind the call. -/
import Derived.Test.YtfpojkoddcdojaaGreatDoorOn
set_option linter.unusedVariables false
set_option linter.unusedSimpArgs false
namespace Go.Proofs.YtfpojkoddcdojaaGreatDoor
open Go Go.Proofs Sy Go.RowKit Go.Deep Go.ChangeShapes
section
variable {H : Type} {enc : TypeId × Value → H} {P : Program} {w : World} {base : Nat} {spare : Nat → Bool} {held : Bool}
theorem open_stringsZ {fuel : Nat} {cs : List Value} {x : DataW H × List MemPlace} (h : DataW.trod enc Tryz.prog w base spare held fuel 23 cs = some x) : ∃ (s : SlV) (l : List ByteArray), cs = [s.v] ∧ Strs w s l ∧ ∀ x ∈ l, x.size ≤ maxLen := by
  obtain ⟨s, l, h1, h2, h3⟩ := open_rows (α := ByteArray) Tryz.underlying23 (size := 1) (by kernel_rfl) (fun s => [.string s]) (fun s => s.size ≤ maxLen) (fun n cs y hy => by obtain ⟨s, h1, h2⟩ := open_str1 hy; exact ⟨s, h1, h2⟩) h
  exact ⟨s, l, h1, h2, h3⟩
theorem open_chains {fuel : Nat} {cs : List Value} {x : DataW H × List MemPlace} (h : DataW.trod enc Tryz.prog w base spare held fuel 22 cs = some x) : ∃ (s : SlV) (l : List ChainD), cs = [s.v] ∧ Chains w s l ∧ ∀ c ∈ l, ∀ a ∈ c.actsL, a.Rng ∧ a.target.size ≤ maxLen := by
  haveI : Inhabited ChainD := ⟨ChainD.zero⟩
  obtain ⟨s, l, h1, h2, h3⟩ := open_rows (α := ChainD) Tryz.underlying22 (size := 6) (by kernel_rfl) ChainD.cells (fun c => c.at_ w ∧ ∀ a ∈ c.actsL, a.Rng ∧ a.target.size ≤ maxLen) (fun n cs y hy => open_chain hy) h
  exact ⟨s, l, h1, ⟨h2, fun a ha => (h3 a ha).1⟩, fun a ha => (h3 a ha).2⟩
theorem ChainD.keep {w' : World} {c : ChainD} (h : c.at_ w) (hs : ∀ k, k < w.heap.size → w'.heap[k]? = w.heap[k]?) : c.at_ w' :=
  ⟨RowsD.keep h.1 hs, fun a ha => ⟨RowsD.keep (h.2 a ha).1 hs, RowsD.keep (h.2 a ha).2 hs⟩⟩
theorem Chains.keep {w' : World} {s : SlV} {l : List ChainD} (h : Chains w s l) (hs : ∀ k, k < w.heap.size → w'.heap[k]? = w.heap[k]?) : Chains w' s l :=
  ⟨RowsD.keep h.1 hs, fun c hc => ChainD.keep (h.2 c hc) hs⟩
end
end Go.Proofs.YtfpojkoddcdojaaGreatDoor
