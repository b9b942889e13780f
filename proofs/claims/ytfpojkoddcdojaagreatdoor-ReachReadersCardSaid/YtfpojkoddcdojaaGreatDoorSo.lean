/- Sorting and compacting a row of the call's own, out of the shelf's contracts. No program in sight. -/
import Derived.Test.YtfpojkoddcdojaaGreatDoorMp
import Derived.Sort.OwnSorted
import Derived.Lib.SlKeysI
import Derived.Lib.SlicesCompact
set_option linter.unusedVariables false
set_option linter.unusedSimpArgs false
namespace Go.Proofs.YtfpojkoddcdojaaGreatDoor.Sy
open Go Go.RowKit Go.Sort Go.Proofs

def bl (s : ByteArray) : List UInt8 := s.data.toList
def lb (l : List UInt8) : ByteArray := ⟨l.toArray⟩
theorem lb_bl (s : ByteArray) : lb (bl s) = s := by simp [lb, bl]
theorem bl_lb (l : List UInt8) : bl (lb l) = l := by simp [lb, bl]
def encB (s : ByteArray) : Value := .string s
theorem encStr_bl (s : ByteArray) : encStr (bl s) = encB s := by simp [encStr, bl, encB]
theorem map_encStr (l : List (List UInt8)) : l.map encStr = (l.map lb).map encB := by
  rw [List.map_map]
  apply List.map_congr_left
  intro a _
  show encStr a = encB (lb a)
  rw [← encStr_bl, bl_lb]
theorem map_encB (l : List ByteArray) : l.map encB = (l.map bl).map encStr := by
  rw [List.map_map]
  apply List.map_congr_left
  intro a _
  exact (encStr_bl a).symm
/-- Sorted by bytes. -/
def sortB (l : List ByteArray) : List ByteArray := ((l.map bl).mergeSort leB).map lb
def compB (l : List ByteArray) : List ByteArray := (Lib.compact (l.map bl)).map lb
theorem sortB_len (l : List ByteArray) : (sortB l).length = l.length := by simp [sortB]

theorem holds_orow {α : Type} [Inhabited α] {enc : α → Value} {w : World} {e g n : Nat} {cur : Array Value} {fz : Nat × Nat} {ss : List α} (hb : w.heap[g]? = some (.cells cur e fz)) (hl : ss.length = n) (ht : cur.toList.take (n * 1) = ss.map enc)
    (hz : fz.1 = fz.2 ∨ cur.size ≤ fz.1) : Go.Sort.Holds enc w g 0 ss.toArray := by
  intro j hj
  have hj' : j < ss.length := by simpa using hj
  have h1 : (cur.toList.take (n * 1))[j]? = (ss.map enc)[j]? := by rw [ht]
  rw [List.getElem?_take_of_lt (by omega)] at h1
  have hjc : j < cur.size := by
    rcases Nat.lt_or_ge j cur.size with h | h
    · exact h
    · rw [List.getElem?_eq_none (by simpa using h), List.getElem?_map, List.getElem?_eq_getElem hj'] at h1
      simp at h1
  refine ⟨?_, ?_⟩
  · simp only [World.cell?, hb, Nat.zero_add]
    simp only [Option.isSome_none, Bool.false_eq_true, if_false]
    rw [← Array.getElem?_toList, h1]
    simp [hj']
  · obtain ⟨lo, hi⟩ := fz
    simp only [World.frozen?, hb]
    simp only at hz
    have : ¬ (lo ≤ 0 + j ∧ 0 + j < hi) := by omega
    simpa using this
theorem heap_put {α : Type} [Inhabited α] {enc : α → Value} {w : World} {g n : Nat} {os : Array Obj} {cur : Array Value} {e : Nat} {fr : Nat × Nat} (d : Array α) (hb : w.heap[g]? = some (.cells cur e fr)) :
    (grow (putRow enc (Sort.ahead w n) g 0 d) os).heap[g]? = some (.cells (putCells enc 0 d cur) e fr) := by
  have hg : g < w.heap.size := (Array.getElem?_eq_some_iff.1 hb).1
  rw [heap_grow_old _ _ (by simpa using hg)]
  simp [putRow, mapBlock, Sort.ahead, Array.getElem?_modify, hb, onCells]
theorem heap_other {α : Type} [Inhabited α] {enc : α → Value} {w : World} {g n : Nat} {os : Array Obj} (d : Array α) (k : Nat) (hk : k < w.heap.size) (hne : k ≠ g) :
    (grow (putRow enc (Sort.ahead w n) g 0 d) os).heap[k]? = w.heap[k]? := by
  rw [heap_grow_old _ _ (by simpa using hk)]
  have : g ≠ k := fun e => hne e.symm
  simp [putRow, mapBlock, Sort.ahead, Array.getElem?_modify, this]
theorem take_put {α : Type} [Inhabited α] {enc : α → Value} (cur : Array Value) (ts us : List α) (h : (ts ++ us).length ≤ cur.size) : (putCells enc 0 (ts ++ us).toArray cur).toList.take ts.length = ts.map enc := by
  apply List.ext_getElem?
  intro j
  by_cases hj : j < ts.length
  · rw [List.getElem?_take_of_lt hj, Array.getElem?_toList]
    have h2 : ts.length + us.length ≤ cur.size := by simpa using h
    simp [putCells, hj, show j < cur.size by omega, show j < ts.length + us.length by omega]
  · rw [List.getElem?_take_eq_none (by omega), List.getElem?_eq_none (by simp; omega)]
/-- The row g of the call's own holds other cells, new blocks lie behind: the state goes on. -/
theorem Gam.putRow {α : Type} [Inhabited α] {enc : α → Value} {av bor : List Nat} {w0 w : World} {loc loc' : List Res} {X : World → Prop} {e g cap n n' q : Nat} {xs : List Value} {cur : Array Value} {fz : Nat × Nat} {os : Array Obj} {ts us : List α}
    (G : Gam av bor w0 loc X w) (hb : w.heap[g]? = some (.cells cur e fz)) (hcm : cap ≤ maxLen) (hcs : cur.size = cap) (hz : fz.1 = fz.2 ∨ cur.size ≤ fz.1) (hle : n' ≤ cap) (htl : ts.length = n') (hus : (ts ++ us).length ≤ cap)
    (hA : At (orow e 1 (.slice (some ⟨g, 0, none⟩) n cap) n xs) (orow e 1 (.slice (some ⟨g, 0, none⟩) n' cap) n' (ts.map enc)) loc loc') :
    Gam av bor w0 loc' X (grow (Go.Sort.putRow enc (Sort.ahead w q) g 0 (ts ++ us).toArray) os) := by
  have hg : g < w.heap.size := (Array.getElem?_eq_some_iff.1 hb).1
  refine G.swap hA rfl rfl rfl (by simp) (fun i hi hne => heap_other _ i hi ?_) (by simp [orow, Value.ownBlock]) (fun i hi => ?_) (orow_holds ?_)
  · simpa [orow, Value.ownBlock] using hne
  · simp only [orow, Value.ownBlock, Option.toList_some, List.mem_singleton] at hi ⊢
    subst hi
    exact ⟨by simp; omega, .inl rfl⟩
  · refine ⟨by simp [htl], .inr ⟨g, cap, _, fz, rfl, heap_put _ hb, hle, hcm, by simp [putCells, hcs], ?_, by simpa [putCells] using hz⟩⟩
    rw [Nat.mul_one, ← htl]
    exact take_put cur ts us (by omega)

section
variable {P : Program} {f : FuncId}
/-- What the shelf says of slices.Sort, of slices.Compact. -/
structure SortC {α : Type} [Inhabited α] (P : Program) (f : FuncId) (enc : α → Value) (srt : List α → List α) : Prop where
  some_ : ∀ (blk off cap : Nat) (ss : List α) (w : World), Go.Sort.Holds enc w blk off ss.toArray → blk < w.heap.size → ss.length < 4611686018427387904 →
    Calls P f #[.slice (some ⟨blk, off, none⟩) ss.length cap] w fun e w' => e = .returned (.tuple #[]) ∧ ∃ n os, w' = grow (Go.Sort.putRow enc (Sort.ahead w n) blk off (srt ss).toArray) os
  none_ : ∀ (p : Option Addr) (cap : Nat) (w : World), Calls P f #[.slice p 0 cap] w fun e w' => e = .returned (.tuple #[]) ∧ w' = w
  len : ∀ ss, (srt ss).length = ss.length
theorem SortC.ct {α : Type} [Inhabited α] {enc : α → Value} {srt : List α → List α} (h : SortC P f enc srt) {e n : Nat} {v : Value} {ss : List α} (hn : n ≤ 1000000000) :
    Ct P f #[v] [orow e 1 v n (ss.map enc)] (fun _ => True) fun u R _ => u = .tuple #[] ∧ R = [orow e 1 v n ((srt ss).map enc)] := Ct.mk fun w av G => by
  have ho : ORow w e 1 v n (ss.map enc) := (G.here _ List.mem_cons_self).now
  have hl : ss.length = n := by simpa using ho.1
  rcases ho.2 with ⟨rfl, rfl⟩ | ⟨g, cap, cur, fz, rfl, hg, hnc, hcm, hcs, htake, hfz⟩
  · have hss : ss = [] := List.eq_nil_of_length_eq_zero hl
    have hss' : srt ss = [] := List.eq_nil_of_length_eq_zero (by rw [h.len, hl])
    refine (h.none_ none 0 w).mono fun e w' ⟨h1, h2⟩ => ⟨_, _, fun _ => True, h1, ⟨rfl, rfl⟩, ?_⟩
    subst h2
    rw [hss']
    rw [hss] at G
    exact G
  · have hgl : g < w.heap.size := (Array.getElem?_eq_some_iff.1 hg).1
    subst hl
    have h62 : ss.length < 4611686018427387904 := by omega
    refine (h.some_ g 0 cap ss w (holds_orow hg rfl htake hfz) hgl h62).mono fun e w' ⟨h1, n, os, h2⟩ => ⟨_, _, fun _ => True, h1, ⟨rfl, rfl⟩, ?_⟩
    subst h2
    have := G.putRow (us := []) (ts := srt ss) (q := n) (os := os) (enc := enc) hg hcm (by omega) hfz hnc (h.len ss) (by simp [h.len]; omega) (At.here [])
    rw [List.append_nil] at this
    exact this
structure CompC {α : Type} [Inhabited α] (P : Program) (f : FuncId) (enc : α → Value) (z : α) (cmp : List α → List α) : Prop where
  some_ : ∀ (blk off cap : Nat) (ss : List α) (w : World), Go.Sort.Holds enc w blk off ss.toArray → ss.length ≤ 9223372036854775807 → ss.length ≤ cap →
    Calls P f #[.slice (some ⟨blk, off, none⟩) ss.length cap] w fun e w' => e = .returned (.slice (some ⟨blk, off, none⟩) (cmp ss).length cap) ∧ ∃ q, w' = Go.Sort.putRow enc (Sort.ahead w q) blk off (cmp ss ++ List.replicate (ss.length - (cmp ss).length) z).toArray
  none_ : ∀ (a : Option Addr) (cap : Nat) (w : World), Calls P f #[.slice a 0 cap] w fun e w' => e = .returned (.slice a 0 cap) ∧ w' = w
  len : ∀ ss, (cmp ss).length ≤ ss.length
theorem CompC.ct {α : Type} [Inhabited α] {enc : α → Value} {z : α} {cmp : List α → List α} (h : CompC P f enc z cmp) {e n : Nat} {v : Value} {ss : List α} :
    Ct P f #[v] [orow e 1 v n (ss.map enc)] (fun _ => True) fun u R _ => ∃ A c, u = .slice A (cmp ss).length c ∧ R = [orow e 1 u (cmp ss).length ((cmp ss).map enc)] := Ct.mk fun w av G => by
  have ho : ORow w e 1 v n (ss.map enc) := (G.here _ List.mem_cons_self).now
  have hl : ss.length = n := by simpa using ho.1
  rcases ho.2 with ⟨rfl, rfl⟩ | ⟨g, cap, cur, fz, rfl, hg, hnc, hcm, hcs, htake, hfz⟩
  · have hss : ss = [] := List.eq_nil_of_length_eq_zero hl
    have hss' : cmp ss = [] := List.eq_nil_of_length_eq_zero (by have := h.len ss; omega)
    refine (h.none_ none 0 w).mono fun e w' ⟨h1, h2⟩ => ⟨_, _, fun _ => True, h1, ⟨none, 0, by rw [hss']; rfl, rfl⟩, ?_⟩
    subst h2
    rw [hss']
    rw [hss] at G
    exact G
  · subst hl
    have h62 : ss.length ≤ 9223372036854775807 := by simp only [maxLen] at hcm; omega
    have hlen := h.len ss
    refine (h.some_ g 0 cap ss w (holds_orow hg rfl htake hfz) h62 hnc).mono fun e w' ⟨h1, q, h2⟩ => ⟨_, _, fun _ => True, h1, ⟨_, _, rfl, rfl⟩, ?_⟩
    subst h2
    have := G.putRow (us := List.replicate (ss.length - (cmp ss).length) z) (ts := cmp ss) (n' := (cmp ss).length) (q := q) (os := #[]) (enc := enc) hg hcm (by omega) hfz (by omega) rfl (by simp; omega) (At.here [])
    rw [grow_empty] at this
    exact this
end
end Go.Proofs.YtfpojkoddcdojaaGreatDoor.Sy
