/- Sets as lists: putting. Plain. -/
import Derived.Test.YtlankpiogfhblaaGreatDoorMf
import Derived.Test.YtlankpiogfhblaaGreatDoorMb
set_option linter.unusedVariables false
set_option linter.unusedSimpArgs false
namespace Go.Proofs.YtlankpiogfhblaaGreatDoor
open Go Go.Proofs Sy
theorem eqbB (a b : ByteArray) : KeyT.eqb a b = seqB a b := Bool.eq_iff_iff.2 ((KeyT.eqb_iff a b).trans seqB_iff.symm)
theorem mem_sput {k x : ByteArray} : ∀ {ks : List ByteArray}, x ∈ sput ks k ↔ x = k ∨ x ∈ ks
  | [] => by simp [sput]
  | a :: ks => by
    have ih := mem_sput (k := k) (x := x) (ks := ks)
    rw [sput, eqbB]
    cases h : seqB k a with
    | true =>
      obtain rfl := seqB_iff.1 h
      simp only [cond_true, List.mem_cons]
      constructor
      · rintro (h | h)
        · exact .inl h
        · exact .inr (.inr h)
      · rintro (h | h | h)
        · exact .inl h
        · exact .inl h
        · exact .inr h
    | false =>
      simp only [cond_false, List.mem_cons, ih]
      constructor
      · rintro (h | h | h)
        · exact .inr (.inl h)
        · exact .inl h
        · exact .inr (.inr h)
      · rintro (h | h | h)
        · exact .inr (.inl h)
        · exact .inl h
        · exact .inr (.inr h)
theorem nodup_sput {k : ByteArray} : ∀ {ks : List ByteArray}, ks.Nodup → (sput ks k).Nodup
  | [], _ => by simp [sput]
  | a :: ks, h => by
    rw [List.nodup_cons] at h
    rw [sput, eqbB]
    cases hk : seqB k a with
    | true =>
      obtain rfl := seqB_iff.1 hk
      exact List.nodup_cons.2 h
    | false =>
      refine List.nodup_cons.2 ⟨fun hm => ?_, nodup_sput h.2⟩
      rcases mem_sput.1 hm with hm | hm
      · exact seqB_ne.1 hk hm.symm
      · exact h.1 hm
end Go.Proofs.YtlankpiogfhblaaGreatDoor
