/- Plain law of RelationLists (and of sets of strings). No program in sight. -/
import Derived.Test.YtepckpofhegmiaaGreatDoorRt
import Derived.Test.YtepckpofhegmiaaGreatDoorMf
set_option linter.unusedVariables false
set_option linter.unusedSimpArgs false
namespace Go.Proofs.YtepckpofhegmiaaGreatDoor
open Go Go.Proofs Sy
theorem eqbB (a b : ByteArray) : KeyT.eqb a b = seqB a b := Bool.eq_iff_iff.2 ((KeyT.eqb_iff a b).trans seqB_iff.symm)
theorem mem_sput {k x : ByteArray} : ∀ {ks : List ByteArray}, x ∈ sput ks k ↔ x = k ∨ x ∈ ks
  | [] => by simp [sput]
  | a :: ks => by
    have ih := mem_sput (k := k) (x := x) (ks := ks)
    rw [sput, eqbB]
    cases h : seqB k a with
    | true =>
      obtain rfl := seqB_iff.1 h
      simp only [cond_true, List.mem_cons]
      constructor
      · rintro (h | h)
        · exact .inl h
        · exact .inr (.inr h)
      · rintro (h | h | h)
        · exact .inl h
        · exact .inl h
        · exact .inr h
    | false =>
      simp only [cond_false, List.mem_cons, ih]
      constructor
      · rintro (h | h | h)
        · exact .inr (.inl h)
        · exact .inl h
        · exact .inr (.inr h)
      · rintro (h | h | h)
        · exact .inr (.inl h)
        · exact .inl h
        · exact .inr (.inr h)
theorem nodup_sput {k : ByteArray} : ∀ {ks : List ByteArray}, ks.Nodup → (sput ks k).Nodup
  | [], _ => by simp [sput]
  | a :: ks, h => by
    rw [List.nodup_cons] at h
    rw [sput, eqbB]
    cases hk : seqB k a with
    | true =>
      obtain rfl := seqB_iff.1 hk
      exact List.nodup_cons.2 h
    | false =>
      refine List.nodup_cons.2 ⟨fun hm => ?_, nodup_sput h.2⟩
      rcases mem_sput.1 hm with hm | hm
      · exact seqB_ne.1 hk hm.symm
      · exact h.1 hm
theorem fersF_nodup (l : List ChainD) (id : ByteArray) : ∀ i, (fersF l id i).Nodup
  | 0 => List.nodup_nil
  | i + 1 => by
    have ih := fersF_nodup l id i
    rw [fersF]
    cases followsV l (l.getD i ChainD.zero).id id with
    | true => exact nodup_sput ih
    | false => exact ih
theorem mem_fersF {l : List ChainD} {id x : ByteArray} : ∀ {n}, x ∈ fersF l id n ↔ ∃ i, i < n ∧ (l.getD i ChainD.zero).id = x ∧ followsV l x id = true
  | 0 => by simp [fersF]
  | n + 1 => by
    have ih := mem_fersF (l := l) (id := id) (x := x) (n := n)
    rw [fersF]
    cases h : followsV l (l.getD n ChainD.zero).id id with
    | true =>
      rw [cond_true, mem_sput, ih]
      constructor
      · rintro (rfl | ⟨i, hi, h1, h2⟩)
        · exact ⟨n, Nat.lt_succ_self n, rfl, h⟩
        · exact ⟨i, by omega, h1, h2⟩
      · rintro ⟨i, hi, h1, h2⟩
        rcases Nat.lt_succ_iff_lt_or_eq.1 hi with hi | rfl
        · exact .inr ⟨i, hi, h1, h2⟩
        · exact .inl h1.symm
    | false =>
      rw [cond_false, ih]
      constructor
      · rintro ⟨i, hi, h1, h2⟩
        exact ⟨i, by omega, h1, h2⟩
      · rintro ⟨i, hi, h1, h2⟩
        rcases Nat.lt_succ_iff_lt_or_eq.1 hi with hi | rfl
        · exact ⟨i, hi, h1, h2⟩
        · rw [h1, h2] at h
          cases h
theorem fers_asc (l : List ChainD) (id : ByteArray) : Asc (fersV l id) := asc_sortB (fersF_nodup l id _)
theorem fers_has {l : List ChainD} {c : ChainD} (hc : c ∈ l) (id : ByteArray) : hasS (fersV l id) c.id = followsV l c.id id := by
  rw [Bool.eq_iff_iff, hasS_iff, fersV, mem_sortB, mem_fersF]
  constructor
  · rintro ⟨_, _, _, h⟩
    exact h
  · intro h
    obtain ⟨i, hi, rfl⟩ := List.getElem_of_mem hc
    exact ⟨i, hi, by rw [List.getD_eq_getElem?_getD, List.getElem?_eq_getElem hi]; rfl, h⟩
theorem fingF_nodup (l : List ChainD) (id : ByteArray) (ks : List ByteArray) : ∀ i, (fingF l id ks i).Nodup
  | 0 => List.nodup_nil
  | i + 1 => by
    have ih := fingF_nodup l id ks i
    rw [fingF]
    cases followsV l id (ks.getD i .empty) with
    | true => exact nodup_sput ih
    | false => exact ih
theorem mem_fingF {l : List ChainD} {id x : ByteArray} {ks : List ByteArray} : ∀ {n}, x ∈ fingF l id ks n ↔ ∃ i, i < n ∧ ks.getD i .empty = x ∧ followsV l id x = true
  | 0 => by simp [fingF]
  | n + 1 => by
    have ih := mem_fingF (l := l) (id := id) (x := x) (ks := ks) (n := n)
    rw [fingF]
    cases h : followsV l id (ks.getD n .empty) with
    | true =>
      rw [cond_true, mem_sput, ih]
      constructor
      · rintro (rfl | ⟨i, hi, h1, h2⟩)
        · exact ⟨n, Nat.lt_succ_self n, rfl, h⟩
        · exact ⟨i, by omega, h1, h2⟩
      · rintro ⟨i, hi, h1, h2⟩
        rcases Nat.lt_succ_iff_lt_or_eq.1 hi with hi | rfl
        · exact .inr ⟨i, hi, h1, h2⟩
        · exact .inl h1.symm
    | false =>
      rw [cond_false, ih]
      constructor
      · rintro ⟨i, hi, h1, h2⟩
        exact ⟨i, by omega, h1, h2⟩
      · rintro ⟨i, hi, h1, h2⟩
        rcases Nat.lt_succ_iff_lt_or_eq.1 hi with hi | rfl
        · exact ⟨i, hi, h1, h2⟩
        · rw [h1, h2] at h
          cases h
theorem fing_asc (l : List ChainD) (id : ByteArray) : Asc (fingV l id) := asc_sortB (fingF_nodup l id _ _)
theorem fing_mem {l : List ChainD} {id x : ByteArray} (h : x ∈ fingV l id) : followsV l id x = true := by
  rw [fingV, mem_sortB, mem_fingF] at h
  obtain ⟨_, _, _, h⟩ := h
  exact h
theorem fing_has (l : List ChainD) (id x : ByteArray) : hasS (fingV l id) x = followsV l id x := by
  rw [Bool.eq_iff_iff, hasS_iff]
  constructor
  · exact fing_mem
  · intro h
    have h1 : x ∈ sortB (tieC l id).f := by
      rw [mem_sortB, ← hasS_iff]
      simp only [followsV, Bool.and_eq_true] at h
      exact h.1.1.1
    obtain ⟨i, hi, rfl⟩ := List.getElem_of_mem h1
    rw [fingV, mem_sortB, mem_fingF]
    exact ⟨i, hi, by rw [List.getD_eq_getElem?_getD, List.getElem?_eq_getElem hi]; rfl, h⟩
theorem blocked_comm (l : List ChainD) (a b : ByteArray) : blockedV l a b = blockedV l b a := Bool.or_comm _ _
theorem follows_blocked {l : List ChainD} {a b : ByteArray} (h : followsV l a b = true) : blockedV l b a = false := by
  simp only [followsV, Bool.and_eq_true, Bool.not_eq_true'] at h
  rw [blockedV, h.1.2, h.2]
  rfl
end Go.Proofs.YtepckpofhegmiaaGreatDoor
