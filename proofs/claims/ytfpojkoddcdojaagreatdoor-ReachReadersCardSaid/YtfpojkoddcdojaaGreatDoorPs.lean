/- Plain laws of strings, sorted lists and compacted lists. No program in sight. -/
import Derived.Test.YtfpojkoddcdojaaGreatDoorSo
import Derived.Sort.Walk0
set_option linter.unusedVariables false
set_option linter.unusedSimpArgs false
namespace Go.Proofs.YtfpojkoddcdojaaGreatDoor.Sy
open Go Go.Proofs

theorem toList_bl (a : ByteArray) : a.toList = bl a := by simp [bl, ByteArray.toList_eq]
theorem bl_inj {a b : ByteArray} (h : bl a = bl b) : a = b := by rw [← lb_bl a, ← lb_bl b, h]
theorem seqB_iff {a b : ByteArray} : seqB a b = true ↔ a = b := by
  unfold seqB
  rw [toList_bl, toList_bl, beq_iff_eq]
  exact ⟨bl_inj, fun h => by rw [h]⟩
theorem seqB_self (a : ByteArray) : seqB a a = true := seqB_iff.2 rfl
theorem seqB_ne {a b : ByteArray} : seqB a b = false ↔ a ≠ b := by
  rw [← Bool.not_eq_true, seqB_iff]
theorem seqB_comm (a b : ByteArray) : seqB a b = seqB b a := by
  cases h : seqB b a with
  | true => rw [seqB_iff.1 h]; exact seqB_self _
  | false => exact seqB_ne.2 fun e => seqB_ne.1 h e.symm
/-- The order of strings. -/
def ltB (a b : ByteArray) : Bool := Op.bytesLess a.toList b.toList
theorem ltB_iff {a b : ByteArray} : ltB a b = true ↔ bl a < bl b := by
  unfold ltB
  rw [toList_bl, toList_bl, Go.Proofs.bytesLess_eq, decide_eq_true_eq]
theorem ltB_irrefl (a : ByteArray) : ltB a a = false := by
  rw [← Bool.not_eq_true, ltB_iff]
  exact List.lt_irrefl _
theorem ltB_trans {a b c : ByteArray} (h : ltB a b = true) (k : ltB b c = true) : ltB a c = true := by
  rw [ltB_iff] at *
  exact List.lt_trans h k
theorem ltB_asymm {a b : ByteArray} (h : ltB a b = true) : ltB b a = false := by
  rw [← Bool.not_eq_true]
  intro k
  have := ltB_trans h k
  rw [ltB_irrefl] at this
  cases this
theorem ltB_total {a b : ByteArray} (h : ltB a b = false) (k : ltB b a = false) : a = b := by
  rw [← Bool.not_eq_true, ltB_iff] at *
  exact bl_inj (List.le_antisymm (List.not_lt.1 k) (List.not_lt.1 h))
theorem ltB_ne {a b : ByteArray} (h : ltB a b = true) : a ≠ b := by
  rintro rfl
  rw [ltB_irrefl] at h
  cases h

/-- Ascending and distinct. -/
def Asc (l : List ByteArray) : Prop := l.Pairwise fun a b => ltB a b = true
theorem Asc.nodup {l : List ByteArray} (h : Asc l) : l.Nodup := List.Pairwise.imp (fun h => ltB_ne h) h
theorem Asc.getD {l : List ByteArray} (h : Asc l) {i j : Nat} (hij : i < j) (hj : j < l.length) : ltB (l.getD i .empty) (l.getD j .empty) = true := by
  rw [List.getD_eq_getElem?_getD, List.getD_eq_getElem?_getD, List.getElem?_eq_getElem hj, List.getElem?_eq_getElem (by omega)]
  exact List.pairwise_iff_getElem.1 h i j (by omega) hj hij
theorem Asc.ext {l m : List ByteArray} (hl : Asc l) (hm : Asc m) (h : ∀ x, x ∈ l ↔ x ∈ m) : l = m := by
  have hp : l.Perm m := (List.perm_ext_iff_of_nodup hl.nodup hm.nodup).2 h
  refine hp.eq_of_pairwise (fun a b _ _ h1 h2 => ?_) hl hm
  rw [ltB_asymm h1] at h2
  cases h2

theorem mem_sortB {x : ByteArray} {l : List ByteArray} : x ∈ sortB l ↔ x ∈ l := by
  unfold sortB
  have hp : (((l.map bl).mergeSort leB).map lb).Perm ((l.map bl).map lb) := (List.mergeSort_perm _ _).map lb
  rw [hp.mem_iff, List.map_map]
  have e : (lb ∘ bl) = id := by funext a; exact lb_bl a
  rw [e, List.map_id]
theorem leB_pw (l : List (List UInt8)) : (l.mergeSort leB).Pairwise fun a b => a ≤ b := by
  have h := List.pairwise_mergeSort (le := leB) (fun a b c h1 h2 => by
    simp only [leB, decide_eq_true_eq] at *
    exact List.le_trans h1 h2) (fun a b => by
    simp only [leB, Bool.or_eq_true, decide_eq_true_eq]
    exact List.le_total a b) l
  exact h.imp fun h => by simpa [leB] using h

theorem mem_compact {zs : List (List UInt8)} {x : List UInt8} : x ∈ Lib.compact zs ↔ x ∈ zs := by
  unfold Lib.compact Lib.compactUpTo
  simp only [List.mem_map, List.mem_filter, List.mem_range]
  constructor
  · rintro ⟨j, ⟨hj, _⟩, rfl⟩
    rw [getElem!_pos zs.toArray j (by simpa using hj)]
    simp
  · intro h
    obtain ⟨j, hj, rfl⟩ := List.getElem_of_mem h
    induction j with
    | zero => exact ⟨0, ⟨hj, by simp [Lib.keeps]⟩, by rw [getElem!_pos zs.toArray 0 (by simpa using hj)]; simp⟩
    | succ j ih =>
      cases hk : Lib.keeps zs.toArray (j + 1) with
      | true => exact ⟨j + 1, ⟨hj, hk⟩, by rw [getElem!_pos zs.toArray (j + 1) (by simpa using hj)]; simp⟩
      | false =>
        have e : zs.toArray[j + 1]! = zs.toArray[j + 1 - 1]! := by
          simp only [Lib.keeps, decide_eq_false_iff_not, not_or, Decidable.not_not] at hk
          exact hk.2
        rw [Nat.add_sub_cancel, getElem!_pos zs.toArray (j + 1) (by simpa using hj), getElem!_pos zs.toArray j (by simp; omega)] at e
        simp only [List.getElem_toArray] at e
        rw [e]
        exact ih (by omega) (List.getElem_mem _)
theorem compact_pw {zs : List (List UInt8)} (h : zs.Pairwise fun a b => a ≤ b) : (Lib.compact zs).Pairwise fun a b => a < b := by
  unfold Lib.compact Lib.compactUpTo
  rw [List.pairwise_map, List.pairwise_filter]
  refine (List.Pairwise.and_mem.1 (List.pairwise_lt_range (n := zs.length))).imp ?_
  rintro i j ⟨_, hj, hij⟩ _ hk
  have hj' := List.mem_range.1 hj
  have hne : zs.toArray[j]! ≠ zs.toArray[j - 1]! := by
    simp only [Lib.keeps, decide_eq_true_eq] at hk
    exact hk.resolve_left (by omega)
  have hpw := List.pairwise_iff_getElem.1 h
  rw [getElem!_pos zs.toArray j (by simpa using hj'), getElem!_pos zs.toArray (j - 1) (by simp; omega)] at hne
  rw [getElem!_pos zs.toArray j (by simpa using hj'), getElem!_pos zs.toArray i (by simp; omega)]
  simp only [List.getElem_toArray] at *
  have h1 : zs[j - 1] ≤ zs[j] := hpw (j - 1) j (by omega) hj' (by omega)
  have h2 : zs[i] ≤ zs[j - 1] := by
    by_cases e : i = j - 1
    · subst e; exact List.le_refl _
    · exact hpw i (j - 1) (by omega) (by omega) (by omega)
  have h3 : zs[j - 1] < zs[j] := by
    rcases Decidable.em (zs[j - 1] < zs[j]) with h | h
    · exact h
    · exact absurd (List.le_antisymm (List.not_lt.1 h) h1) hne
  exact List.not_le.1 fun h4 => absurd (List.lt_of_le_of_lt h2 h3) (List.not_lt.2 h4)
theorem mem_compB {x : ByteArray} {l : List ByteArray} : x ∈ compB l ↔ x ∈ l := by
  unfold compB
  simp only [List.mem_map, mem_compact]
  constructor
  · rintro ⟨a, ⟨b, hb, rfl⟩, rfl⟩
    rwa [lb_bl]
  · intro h
    exact ⟨bl x, ⟨x, h, rfl⟩, lb_bl x⟩
theorem map_bl_lb (l : List (List UInt8)) : (l.map lb).map bl = l := by
  rw [List.map_map]
  have e : (bl ∘ lb) = id := by funext a; exact bl_lb a
  rw [e, List.map_id]
theorem asc_compB_sortB (l : List ByteArray) : Asc (compB (sortB l)) := by
  unfold Asc compB sortB
  rw [map_bl_lb, List.pairwise_map]
  refine (compact_pw (leB_pw _)).imp fun h => ?_
  rw [ltB_iff, bl_lb, bl_lb]
  exact h
theorem mem_compB_sortB {x : ByteArray} {l : List ByteArray} : x ∈ compB (sortB l) ↔ x ∈ l := by rw [mem_compB, mem_sortB]
/-- The same members, ascending: the compacted sorted list. -/
theorem compB_sortB_eq {l m : List ByteArray} (hm : Asc m) (h : ∀ x, x ∈ l ↔ x ∈ m) : compB (sortB l) = m := (asc_compB_sortB l).ext hm fun x => by rw [mem_compB_sortB, h]
/-- Of a list without repetitions nothing goes. -/
theorem compB_sortB_len {l : List ByteArray} (hn : l.Nodup) : (compB (sortB l)).length = l.length :=
  ((List.perm_ext_iff_of_nodup (asc_compB_sortB l).nodup hn).2 fun _ => mem_compB_sortB).length_eq
/-- Sorted, of a list without repetitions: ascending. -/
theorem asc_sortB {l : List ByteArray} (hn : l.Nodup) : Asc (sortB l) := by
  have hp : (sortB l).Perm l := by
    unfold sortB
    have hp : (((l.map bl).mergeSort leB).map lb).Perm ((l.map bl).map lb) := (List.mergeSort_perm _ _).map lb
    have e : (lb ∘ bl) = id := by funext a; exact lb_bl a
    rwa [List.map_map, e, List.map_id] at hp
  have hn' : (sortB l).Nodup := hp.nodup_iff.2 hn
  have h1 : (sortB l).Pairwise fun a b => bl a ≤ bl b := by
    unfold sortB
    rw [List.pairwise_map]
    exact (leB_pw (l.map bl)).imp (fun {a b} (h : a ≤ b) => by rw [bl_lb, bl_lb]; exact h)
  unfold Asc
  refine (h1.and hn').imp (fun {a b} ⟨h2, h3⟩ => ?_)
  rw [ltB_iff]
  rcases Decidable.em (bl a < bl b) with h | h
  · exact h
  · exact absurd (bl_inj (List.le_antisymm h2 (List.not_lt.1 h))) h3
end Go.Proofs.YtfpojkoddcdojaaGreatDoor.Sy
