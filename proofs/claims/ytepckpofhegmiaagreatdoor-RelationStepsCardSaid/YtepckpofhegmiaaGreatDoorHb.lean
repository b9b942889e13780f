/- The model of SHA-256 on natural numbers: bytes, blocks, the padded end, the digest. Plain. -/
import Derived.Test.YtepckpofhegmiaaGreatDoorHn
set_option linter.unusedVariables false
set_option linter.unusedSimpArgs false
namespace Go.Proofs.YtepckpofhegmiaaGreatDoor
open Go Go.Proofs Sy
/-- the bytes of a string, as numbers -/
def nl (s : ByteArray) : List Nat := s.data.toList.map UInt8.toNat
theorem nl_len (s : ByteArray) : (nl s).length = s.size := by simp [nl]
theorem nl_append (a b : ByteArray) : nl (a ++ b) = nl a ++ nl b := by simp [nl, ByteArray.data_append]
theorem nl_lt (s : ByteArray) : ∀ x ∈ nl s, x < 256 := fun x hx => by
  obtain ⟨b, _, rfl⟩ := List.mem_map.1 hx
  exact b.toNat_lt
theorem nl_extract (s : ByteArray) (a b : Nat) : nl (s.extract a b) = ((nl s).drop a).take (b - a) := by
  simp [nl, ByteArray.data_extract, Array.toList_extract, List.map_take, List.map_drop]
theorem nl_inj {a b : ByteArray} (h : nl a = nl b) : a = b := by
  apply ByteArray.ext
  apply Array.ext'
  have key : ∀ l m : List UInt8, l.map UInt8.toNat = m.map UInt8.toNat → l = m := fun l => by
    induction l with
    | nil => intro m h; cases m with | nil => rfl | cons _ _ => cases h
    | cons a l ih =>
      intro m h
      cases m with
      | nil => cases h
      | cons b m =>
        simp only [List.map_cons, List.cons.injEq] at h
        rw [UInt8.toNat_inj.1 h.1, ih m h.2]
  exact key _ _ h
theorem bytesI_nl (s : ByteArray) : bytesI s = (nl s).map fun (n : Nat) => (n : Int) := by simp [bytesI, nl, Function.comp_def]
def wdN (a b c d : Nat) : Nat := ((a * 16777216 % 4294967296 ||| (b * 65536 % 4294967296)) ||| (c * 256 % 4294967296)) ||| d
def fW (l : List Nat) (t : Nat) : Nat := wdN (l.getD (4 * t) 0) (l.getD (4 * t + 1) 0) (l.getD (4 * t + 2) 0) (l.getD (4 * t + 3) 0)
theorem byteAt_nl (s : ByteArray) (i j : Nat) (hj : j < 4) : byteAt (s.extract (4 * (i : Int)).toNat (4 * (i : Int) + 4).toNat) j = (((nl s).getD (4 * i + j) 0 : Nat) : Int) := by
  have h1 : (4 * (i : Int)).toNat = 4 * i := by omega
  have h2 : (4 * (i : Int) + 4).toNat = 4 * i + 4 := by omega
  have h0 : ∀ (e : ByteArray) (k : Nat), byteAt e k = (((nl e).getD k 0 : Nat) : Int) := fun e k => by
    simp only [byteAt, nl, List.getD_eq_getElem?_getD, List.getElem?_map]
    cases e.data.toList[k]? <;> rfl
  rw [h1, h2, h0, nl_extract, show 4 * i + 4 - 4 * i = 4 by omega, List.getD_eq_getElem?_getD, List.getD_eq_getElem?_getD, List.getElem?_take, if_pos hj, List.getElem?_drop]
theorem getD_lt {l : List Nat} (h : ∀ x ∈ l, x < 256) (i : Nat) : l.getD i 0 < 256 := by
  rw [List.getD_eq_getElem?_getD]
  cases hx : l[i]? with
  | none => decide
  | some x => exact h x (List.mem_of_getElem? hx)
theorem word_nl (s : ByteArray) (i : Nat) : IsN (wordV s i) (fW (nl s) i) := by
  have hb : ∀ j, j < 4 → IsN (IntKind.u32.wrap (byteAt (s.extract (4 * (i : Int)).toNat (4 * (i : Int) + 4).toNat) j)) ((nl s).getD (4 * i + j) 0) := fun j hj => by
    have h := getD_lt (nl_lt s) (4 * i + j)
    rw [byteAt_nl s i j hj, wrap32, Nat.mod_eq_of_lt (by omega)]
    exact ⟨rfl, by omega⟩
  unfold wordV fW wdN
  exact ((((hb 0 (by omega)).shl 16777216 (by kernel_rfl)).or ((hb 1 (by omega)).shl 65536 (by kernel_rfl))).or ((hb 2 (by omega)).shl 256 (by kernel_rfl))).or (hb 3 (by omega))
/-! blocks -/
def rd1 {α : Type} (z : α) (l : List Nat) (k : Nat → List Nat → α) : α := match l with
  | a :: b :: c :: d :: r => fc (wdN a b c d) fun w => k w r
  | _ => z
theorem rd1_eq {α : Type} {z : α} {l : List Nat} {k : Nat → List Nat → α} (h : 4 ≤ l.length) : rd1 z l k = k (fW l 0) (l.drop 4) := by
  match l, h with
  | a :: b :: c :: d :: r, _ => rw [rd1, fc_eq]; rfl
def blkN {α : Type} (z : α) (l : List Nat) (k : W16 → List Nat → α) : α :=
  rd1 z l fun w0 l => rd1 z l fun w1 l => rd1 z l fun w2 l => rd1 z l fun w3 l => rd1 z l fun w4 l => rd1 z l fun w5 l => rd1 z l fun w6 l => rd1 z l fun w7 l =>
  rd1 z l fun w8 l => rd1 z l fun w9 l => rd1 z l fun w10 l => rd1 z l fun w11 l => rd1 z l fun w12 l => rd1 z l fun w13 l => rd1 z l fun w14 l => rd1 z l fun w15 l =>
  k ⟨w0, w1, w2, w3, w4, w5, w6, w7, w8, w9, w10, w11, w12, w13, w14, w15⟩ l
theorem fW_drop (l : List Nat) (m t : Nat) : fW (l.drop (4 * m)) t = fW l (m + t) := by
  have e : ∀ j, (l.drop (4 * m)).getD (4 * t + j) 0 = l.getD (4 * (m + t) + j) 0 := fun j => by
    rw [List.getD_eq_getElem?_getD, List.getD_eq_getElem?_getD, List.getElem?_drop, show 4 * m + (4 * t + j) = 4 * (m + t) + j by omega]
  have e0 := e 0
  simp only [Nat.add_zero] at e0
  rw [fW, fW, e0, e 1, e 2, e 3]
theorem blkN_eq {α : Type} {z : α} {l : List Nat} {k : W16 → List Nat → α} (h : 64 ≤ l.length) : blkN z l k = k (winN (fW l) 0) (l.drop 64) := by
  have st : ∀ (m : Nat) (k' : Nat → List Nat → α), m < 16 → rd1 z (l.drop (4 * m)) k' = k' (fW l m) (l.drop (4 * (m + 1))) := fun m k' hm => by
    rw [rd1_eq (by rw [List.length_drop]; omega), fW_drop, List.drop_drop]
    rfl
  have h0 : l = l.drop (4 * 0) := rfl
  unfold blkN
  rw [h0, st 0 _ (by omega), st 1 _ (by omega), st 2 _ (by omega), st 3 _ (by omega), st 4 _ (by omega), st 5 _ (by omega), st 6 _ (by omega), st 7 _ (by omega), st 8 _ (by omega), st 9 _ (by omega), st 10 _ (by omega), st 11 _ (by omega), st 12 _ (by omega), st 13 _ (by omega), st 14 _ (by omega), st 15 _ (by omega)]
  rfl
def runN : Nat → S8 → List Nat → S8
  | 0, x, _ => x
  | f + 1, x, l => blkN x l fun w r => runN f (mixN x w) r
theorem runN_succ {f : Nat} {x : S8} {l : List Nat} (h : 64 ≤ l.length) : runN (f + 1) x l = runN f (mixN x (winN (fW l) 0)) (l.drop 64) := blkN_eq h
theorem fW_take {l : List Nat} (t : Nat) (h : t < 16) : fW (l.take 64) t = fW l t := by
  have e : ∀ j, j < 64 → (l.take 64).getD j 0 = l.getD j 0 := fun j hj => by
    rw [List.getD_eq_getElem?_getD, List.getD_eq_getElem?_getD, List.getElem?_take, if_pos hj]
  rw [fW, fW, e _ (by omega), e _ (by omega), e _ (by omega), e _ (by omega)]
theorem RS.blk {x : St8} {n : S8} (h : RS x n) (r : ByteArray) (hr : 64 ≤ r.size) : RS (mixV x (r.extract 0 64)) (mixN n (winN (fW (nl r)) 0)) :=
  h.mix fun t ht => by
    have h1 := word_nl (r.extract 0 64) t
    rw [nl_extract, List.drop_zero] at h1
    rwa [fW_take t ht] at h1
theorem nl_rest (r : ByteArray) : nl (r.extract 64 r.size) = (nl r).drop 64 := by
  rw [nl_extract, List.take_of_length_le (by rw [List.length_drop, nl_len]; omega)]
theorem size_rest (r : ByteArray) (h : 64 ≤ r.size) : (r.extract 64 r.size).size = r.size - 64 := by
  rw [← nl_len, nl_rest, List.length_drop, nl_len]
/-- the loop over whole blocks -/
theorem loopV_run : ∀ (f : Nat) (x : St8) (n : S8) (r : ByteArray), RS x n → r.size / 64 ≤ f → RS (loopV f x r).1 (runN (r.size / 64) n (nl r)) ∧ nl (loopV f x r).2 = (nl r).drop (64 * (r.size / 64))
  | 0, x, n, r, h, hf => by
    have e : r.size / 64 = 0 := by omega
    rw [e]
    exact ⟨h, rfl⟩
  | f + 1, x, n, r, h, hf => by
    by_cases hr : 64 ≤ r.size
    · have e : r.size / 64 = (r.size - 64) / 64 + 1 := by omega
      have hs := size_rest r hr
      have ih := loopV_run f (mixV x (r.extract 0 64)) _ (r.extract 64 r.size) (h.blk r hr) (by rw [hs]; omega)
      rw [hs, nl_rest] at ih
      have e2 : loopV (f + 1) x r = loopV f (mixV x (r.extract 0 64)) (r.extract 64 r.size) := by rw [loopV, decide_eq_true (by omega), cond_true]
      rw [e2, e, runN_succ (by rw [nl_len]; omega)]
      refine ⟨ih.1, ?_⟩
      rw [ih.2, List.drop_drop]
      congr 1
      omega
    · have e : r.size / 64 = 0 := by omega
      have e2 : loopV (f + 1) x r = (x, r) := by rw [loopV, decide_eq_false (by omega), cond_false]
      rw [e, e2]
      exact ⟨h, rfl⟩
theorem loopE_run : ∀ (f : Nat) (x : St8) (n : S8) (r : ByteArray), RS x n → r.size % 64 = 0 → r.size / 64 ≤ f → RS (loopE f x r) (runN (r.size / 64) n (nl r))
  | 0, x, n, r, h, _, hf => by
    have e : r.size / 64 = 0 := by omega
    rw [e]
    exact h
  | f + 1, x, n, r, h, hm, hf => by
    by_cases hr : r.size = 0
    · have e : r.size / 64 = 0 := by omega
      have e2 : loopE (f + 1) x r = x := by rw [loopE, seqB_empty, decide_eq_true hr, cond_true]
      rw [e, e2]
      exact h
    · have hs := size_rest r (by omega)
      have e : r.size / 64 = (r.size - 64) / 64 + 1 := by omega
      have ih := loopE_run f (mixV x (r.extract 0 64)) _ (r.extract 64 r.size) (h.blk r (by omega)) (by rw [hs]; omega) (by rw [hs]; omega)
      rw [hs, nl_rest] at ih
      have e2 : loopE (f + 1) x r = loopE f (mixV x (r.extract 0 64)) (r.extract 64 r.size) := by rw [loopE, seqB_empty, decide_eq_false hr, cond_false]
      rw [e2, e, runN_succ (by rw [nl_len]; omega)]
      exact ih
end Go.Proofs.YtepckpofhegmiaaGreatDoor
