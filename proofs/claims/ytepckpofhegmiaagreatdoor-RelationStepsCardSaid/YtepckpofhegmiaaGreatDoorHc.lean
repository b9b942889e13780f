/- The model of SHA-256 on natural numbers: a digest as a list of numbers. Plain. -/
import Derived.Test.YtepckpofhegmiaaGreatDoorHb
set_option linter.unusedVariables false
set_option linter.unusedSimpArgs false
namespace Go.Proofs.YtepckpofhegmiaaGreatDoor
open Go Go.Proofs Sy
theorem winN_congr {f g : Nat → Nat} (h : ∀ t, t < 16 → f t = g t) : winN f 0 = winN g 0 := by
  have e : ∀ t, t < 16 → sN f 0 t = sN g 0 t := fun t ht => by rw [sN, sN]; exact h t ht
  rw [winN, winN, W16.mk.injEq]
  exact ⟨e 0 (by omega), e 1 (by omega), e 2 (by omega), e 3 (by omega), e 4 (by omega), e 5 (by omega), e 6 (by omega), e 7 (by omega), e 8 (by omega), e 9 (by omega), e 10 (by omega), e 11 (by omega), e 12 (by omega), e 13 (by omega), e 14 (by omega), e 15 (by omega)⟩
theorem fW_append {l e : List Nat} (h : 64 ≤ l.length) (t : Nat) (ht : t < 16) : fW (l ++ e) t = fW l t := by
  have k : ∀ j, j < 64 → (l ++ e).getD j 0 = l.getD j 0 := fun j hj => by
    rw [List.getD_eq_getElem?_getD, List.getD_eq_getElem?_getD, List.getElem?_append_left (by omega)]
  rw [fW, fW, k _ (by omega), k _ (by omega), k _ (by omega), k _ (by omega)]
theorem runN_append (h : Nat) (e : List Nat) : ∀ (g : Nat) (x : S8) (l : List Nat), 64 * g ≤ l.length → runN (g + h) x (l ++ e) = runN h (runN g x l) (l.drop (64 * g) ++ e)
  | 0, x, l, _ => by
    rw [Nat.zero_add, Nat.mul_zero, List.drop_zero, runN]
  | g + 1, x, l, hl => by
    have ih := runN_append h e g (mixN x (winN (fW l) 0)) (l.drop 64) (by rw [List.length_drop]; omega)
    rw [show g + 1 + h = (g + h) + 1 by omega, runN_succ (by rw [List.length_append]; omega), winN_congr (fun t ht => fW_append (by omega) t ht), List.drop_append_of_le_length (by omega), ih, runN_succ (by omega), List.drop_drop]
    congr 3
    omega
def sizeN (n : Nat) : List Nat := [n * 8 / 72057594037927936 % 256, n * 8 / 281474976710656 % 256, n * 8 / 1099511627776 % 256, n * 8 / 4294967296 % 256, n * 8 / 16777216 % 256, n * 8 / 65536 % 256, n * 8 / 256 % 256, n * 8 % 256]
def padL (l : List Nat) : List Nat := l ++ (128 :: (List.replicate (padN (l.length + 1)) 0 ++ sizeN l.length))
def iniN : S8 := ⟨1779033703, 3144134277, 1013904242, 2773480762, 1359893119, 2600822924, 528734635, 1541459225⟩
def d4N (w : Nat) : List Nat := [w / 16777216 % 256, w / 65536 % 256, w / 256 % 256, w % 256]
def digN (s : S8) : List Nat := match s with
  | ⟨a, b, c, d, e, f, g, h⟩ => d4N a ++ (d4N b ++ (d4N c ++ (d4N d ++ (d4N e ++ (d4N f ++ (d4N g ++ d4N h))))))
def shaL (l : List Nat) : List Nat := digN (runN ((padL l).length / 64) iniN (padL l))
theorem wrap8 (n : Nat) : IntKind.u8.wrap (n : Int) = ((n % 256 : Nat) : Int) := by
  simp [IntKind.wrap, IntKind.signed, IntKind.bits]
theorem nl_ofInts (ns : List Nat) (h : ∀ x ∈ ns, x < 256) : nl (ofInts (ns.map fun (n : Nat) => (n : Int))) = ns := by
  have key : ∀ (ns : List Nat) (r : ByteArray), (∀ x ∈ ns, x < 256) → nl ((ns.map fun (n : Nat) => (n : Int)).foldl (fun r n => r.push (UInt8.ofNat n.toNat)) r) = nl r ++ ns := fun ns => by
    induction ns with
    | nil => intro r _; simp
    | cons a ns ih =>
      intro r h
      rw [List.map_cons, List.foldl_cons, ih _ fun x hx => h x (List.mem_cons_of_mem _ hx)]
      have ha := h a List.mem_cons_self
      have : nl (r.push (UInt8.ofNat ((a : Int)).toNat)) = nl r ++ [a] := by
        simp [nl, ByteArray.data_push, Nat.mod_eq_of_lt ha]
      rw [this, List.append_assoc]
      rfl
  have := key ns ByteArray.empty h
  simpa [ofInts, nl] using this
theorem digB_nl {x : Int} {n : Nat} (h : IsN x n) : digB x = (d4N n).map fun (n : Nat) => (n : Int) := by
  have h24 := (h.shr (c := 24) 16777216 (by kernel_rfl)).1
  have h16 := (h.shr (c := 16) 65536 (by kernel_rfl)).1
  have h8 := (h.shr (c := 8) 256 (by kernel_rfl)).1
  unfold digB d4N
  rw [h24, h16, h8, h.1, wrap8, wrap8, wrap8, wrap8]
  rfl
theorem d4_lt (n : Nat) : ∀ x ∈ d4N n, x < 256 := fun x hx => by
  simp only [d4N, List.mem_cons, List.not_mem_nil, or_false] at hx
  rcases hx with rfl | rfl | rfl | rfl <;> exact Nat.mod_lt _ (by decide)
theorem dig_nl {x : St8} {n : S8} (h : RS x n) : nl (ofInts (x.l.flatMap digB)) = digN n := by
  obtain ⟨a, b, c, d, e, f, g, hh⟩ := n
  have e1 : x.l.flatMap digB = (digN ⟨a, b, c, d, e, f, g, hh⟩).map fun (n : Nat) => (n : Int) := by
    simp only [St8.l, digN, List.flatMap_cons, List.flatMap_nil, List.append_nil, List.map_append, digB_nl h.a, digB_nl h.b, digB_nl h.c, digB_nl h.d, digB_nl h.e, digB_nl h.f, digB_nl h.g, digB_nl h.h]
  rw [e1]
  refine nl_ofInts _ fun x hx => ?_
  simp only [digN, List.mem_append] at hx
  rcases hx with h | h | h | h | h | h | h | h <;> exact d4_lt _ _ h
theorem sizeB_nl (n : Nat) (hn : n < 2305843009213693952) : sizeB (n : Int) 8 = (sizeN n).map fun (n : Nat) => (n : Int) := by
  have hw : ∀ m : Nat, m < 18446744073709551616 → IntKind.u64.wrap (m : Int) = (m : Int) := fun m hm => by
    simp [IntKind.wrap, IntKind.signed, IntKind.bits]
    omega
  have h1 : IntKind.u64.wrap (IntKind.u64.wrap (n : Int) * 8) = ((n * 8 : Nat) : Int) := by
    rw [hw n (by omega), show (n : Int) * 8 = ((n * 8 : Nat) : Int) by omega, hw _ (by omega)]
  have hs : ∀ (c : Int) (p : Nat), (2 : Int) ^ (min c.toNat 64) = (p : Int) → shrV .u64 ((n * 8 : Nat) : Int) c = ((n * 8 / p : Nat) : Int) := fun c p hp => by
    show ((n * 8 : Nat) : Int).fdiv (2 ^ (min c.toNat 64)) = _
    rw [hp, ← Int.ofNat_fdiv]
  unfold sizeB sizeN
  rw [h1, show List.range 8 = [0, 1, 2, 3, 4, 5, 6, 7] by rfl]
  simp only [List.map_cons, List.map_nil]
  rw [hs _ 72057594037927936 (by kernel_rfl), hs _ 281474976710656 (by kernel_rfl), hs _ 1099511627776 (by kernel_rfl), hs _ 4294967296 (by kernel_rfl), hs _ 16777216 (by kernel_rfl), hs _ 65536 (by kernel_rfl), hs _ 256 (by kernel_rfl), hs _ 1 (by kernel_rfl), Nat.div_one]
  simp only [wrap8]
theorem end_nl (s : ByteArray) (n : Nat) (hn : n < 2305843009213693952) : nl (endV s (n : Int)) = nl s ++ (128 :: (List.replicate (padN (s.size + 1)) 0 ++ sizeN n)) := by
  have e : endL s ++ List.replicate (padN (s.size + 1)) 0 ++ sizeB (n : Int) 8 = (nl s ++ (128 :: (List.replicate (padN (s.size + 1)) 0 ++ sizeN n))).map fun (n : Nat) => (n : Int) := by
    rw [endL, bytesI_nl, sizeB_nl n hn]
    simp
  rw [endV, e]
  refine nl_ofInts _ fun x hx => ?_
  simp only [List.mem_append, List.mem_cons, List.mem_replicate] at hx
  rcases hx with h | h | h | h
  · exact nl_lt s x h
  · omega
  · omega
  · simp only [sizeN, List.mem_cons, List.not_mem_nil, or_false] at h
    rcases h with rfl | rfl | rfl | rfl | rfl | rfl | rfl | rfl <;> exact Nat.mod_lt _ (by decide)
theorem sha_nl (s : ByteArray) (hs : s.size < 2305843009213693952) : nl (shaV s) = shaL (nl s) := by
  have hi : RS iniS iniN := ⟨⟨rfl, by decide⟩, ⟨rfl, by decide⟩, ⟨rfl, by decide⟩, ⟨rfl, by decide⟩, ⟨rfl, by decide⟩, ⟨rfl, by decide⟩, ⟨rfl, by decide⟩, ⟨rfl, by decide⟩⟩
  obtain ⟨h1, h2⟩ := loopV_run s.size iniS iniN s hi (Nat.div_le_self _ _)
  have h3 : shaV s = ofInts ((loopE (endV (loopV s.size iniS s).2 s.size).size (loopV s.size iniS s).1 (endV (loopV s.size iniS s).2 s.size)).l.flatMap digB) := rfl
  rw [h3]
  generalize loopV s.size iniS s = p at h1 h2
  have he := end_nl p.2 s.size hs
  have hps : p.2.size = s.size % 64 := by
    rw [← nl_len, h2, List.length_drop, nl_len]
    omega
  have hlen : (endV p.2 s.size).size % 64 = 0 := endV_size _ _
  have h4 := loopE_run (endV p.2 s.size).size p.1 _ (endV p.2 s.size) h1 hlen (Nat.div_le_self _ _)
  rw [dig_nl h4, shaL]
  congr 1
  have hpad : padN (p.2.size + 1) = padN ((nl s).length + 1) := by
    rw [hps, nl_len, padN, padN]
    omega
  have hpl : padL (nl s) = nl s ++ (128 :: (List.replicate (padN ((nl s).length + 1)) 0 ++ sizeN s.size)) := by rw [padL, nl_len]
  have hll : (padL (nl s)).length / 64 = s.size / 64 + (endV p.2 s.size).size / 64 := by
    have e1 : (endV p.2 s.size).size = (s.size % 64) + 1 + padN ((nl s).length + 1) + 8 := by
      rw [← nl_len, he, h2, hpad]
      simp only [List.length_append, List.length_cons, List.length_replicate, List.length_drop, nl_len, sizeN, List.length_nil]
      omega
    have e2 : (padL (nl s)).length = s.size + 1 + padN ((nl s).length + 1) + 8 := by
      rw [hpl]
      simp only [List.length_append, List.length_cons, List.length_replicate, nl_len, sizeN, List.length_nil]
      omega
    rw [e1, e2]
    rw [e1] at hlen
    omega
  rw [hll, hpl, runN_append _ _ _ _ _ (by rw [nl_len]; omega), he, h2, hpad]
end Go.Proofs.YtepckpofhegmiaaGreatDoor
