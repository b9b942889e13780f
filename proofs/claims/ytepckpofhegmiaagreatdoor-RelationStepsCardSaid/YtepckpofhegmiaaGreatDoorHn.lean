/- The model of SHA-256 on natural numbers, so that the kernel can count a digest out: words, schedule, rounds. Plain. -/
import Derived.Test.YtepckpofhegmiaaGreatDoorMe1
set_option linter.unusedVariables false
set_option linter.unusedSimpArgs false
namespace Go.Proofs.YtepckpofhegmiaaGreatDoor
open Go Go.Proofs Sy
def IsN (x : Int) (n : Nat) : Prop := x = (n : Int) ∧ n < 4294967296
theorem wrap32 (n : Nat) : IntKind.u32.wrap (n : Int) = ((n % 4294967296 : Nat) : Int) := by
  simp [IntKind.wrap, IntKind.signed, IntKind.bits]
theorem IsN.xor {x y : Int} {m n : Nat} (h : IsN x m) (k : IsN y n) : IsN (bitsV .xor .u32 x y) (m ^^^ n) := by
  obtain ⟨rfl, hm⟩ := h
  obtain ⟨rfl, hn⟩ := k
  have hx : m ^^^ n < 2 ^ 32 := Nat.xor_lt_two_pow hm hn
  refine ⟨?_, hx⟩
  show IntKind.u32.wrap ((((BitVec.ofInt 32 (m : Int)) ^^^ (BitVec.ofInt 32 (n : Int))).toNat : Nat) : Int) = _
  rw [BitVec.ofInt_natCast, BitVec.ofInt_natCast, BitVec.toNat_xor, BitVec.toNat_ofNat, BitVec.toNat_ofNat, Nat.mod_eq_of_lt (show m < 2 ^ 32 from hm), Nat.mod_eq_of_lt (show n < 2 ^ 32 from hn), wrap32, Nat.mod_eq_of_lt hx]
theorem IsN.and {x y : Int} {m n : Nat} (h : IsN x m) (k : IsN y n) : IsN (bitsV .and .u32 x y) (m &&& n) := by
  obtain ⟨rfl, hm⟩ := h
  obtain ⟨rfl, hn⟩ := k
  have hx : m &&& n < 2 ^ 32 := Nat.and_lt_two_pow m hn
  refine ⟨?_, hx⟩
  show IntKind.u32.wrap ((((BitVec.ofInt 32 (m : Int)) &&& (BitVec.ofInt 32 (n : Int))).toNat : Nat) : Int) = _
  rw [BitVec.ofInt_natCast, BitVec.ofInt_natCast, BitVec.toNat_and, BitVec.toNat_ofNat, BitVec.toNat_ofNat, Nat.mod_eq_of_lt (show m < 2 ^ 32 from hm), Nat.mod_eq_of_lt (show n < 2 ^ 32 from hn), wrap32, Nat.mod_eq_of_lt hx]
theorem IsN.or {x y : Int} {m n : Nat} (h : IsN x m) (k : IsN y n) : IsN (bitsV .or .u32 x y) (m ||| n) := by
  obtain ⟨rfl, hm⟩ := h
  obtain ⟨rfl, hn⟩ := k
  have hx : m ||| n < 2 ^ 32 := Nat.or_lt_two_pow hm hn
  refine ⟨?_, hx⟩
  show IntKind.u32.wrap ((((BitVec.ofInt 32 (m : Int)) ||| (BitVec.ofInt 32 (n : Int))).toNat : Nat) : Int) = _
  rw [BitVec.ofInt_natCast, BitVec.ofInt_natCast, BitVec.toNat_or, BitVec.toNat_ofNat, BitVec.toNat_ofNat, Nat.mod_eq_of_lt (show m < 2 ^ 32 from hm), Nat.mod_eq_of_lt (show n < 2 ^ 32 from hn), wrap32, Nat.mod_eq_of_lt hx]
theorem IsN.add {x y : Int} {m n : Nat} (h : IsN x m) (k : IsN y n) : IsN (a32 x y) ((m + n) % 4294967296) := by
  obtain ⟨rfl, hm⟩ := h
  obtain ⟨rfl, hn⟩ := k
  refine ⟨?_, Nat.mod_lt _ (by decide)⟩
  show IntKind.u32.wrap ((m : Int) + (n : Int)) = _
  rw [← Int.natCast_add, wrap32]
theorem IsN.shl {x : Int} {m : Nat} (h : IsN x m) {c : Int} (p : Nat) (hp : (2 : Int) ^ (min c.toNat 32) = (p : Int)) : IsN (shlV .u32 x c) (m * p % 4294967296) := by
  obtain ⟨rfl, hm⟩ := h
  refine ⟨?_, Nat.mod_lt _ (by decide)⟩
  show IntKind.u32.wrap ((m : Int) * 2 ^ (min c.toNat 32)) = _
  rw [hp, ← Int.natCast_mul, wrap32]
theorem IsN.shr {x : Int} {m : Nat} (h : IsN x m) {c : Int} (p : Nat) (hp : (2 : Int) ^ (min c.toNat 32) = (p : Int)) : IsN (shrV .u32 x c) (m / p) := by
  obtain ⟨rfl, hm⟩ := h
  refine ⟨?_, Nat.lt_of_le_of_lt (Nat.div_le_self _ _) hm⟩
  show (m : Int).fdiv (2 ^ (min c.toNat 32)) = _
  rw [hp, ← Int.ofNat_fdiv]
def rot (p q m : Nat) : Nat := (m * p % 4294967296) ||| (m / q)
theorem IsN.turn {x : Int} {m : Nat} (h : IsN x m) {r c : Int} (p q : Nat) (hc : bitsV .and .u64 (IntKind.u64.wrap (IntKind.i64.wrap (0 - r))) 31 = c) (hd : IntKind.u64.wrap (32 - c) = r) (hp : (2 : Int) ^ (min c.toNat 32) = (p : Int)) (hq : (2 : Int) ^ (min r.toNat 32) = (q : Int)) :
    IsN (turnV x r) (rot p q m) := by
  unfold turnV rotlV
  rw [hc, hd]
  exact (h.shl p hp).or (h.shr q hq)
def s0N (m : Nat) : Nat := rot 33554432 128 m ^^^ rot 16384 262144 m ^^^ (m / 8)
def s1N (m : Nat) : Nat := rot 32768 131072 m ^^^ rot 8192 524288 m ^^^ (m / 1024)
def b1N (m : Nat) : Nat := rot 67108864 64 m ^^^ rot 2097152 2048 m ^^^ rot 128 33554432 m
def b0N (m : Nat) : Nat := rot 1073741824 4 m ^^^ rot 524288 8192 m ^^^ rot 1024 4194304 m
theorem IsN.s0 {x : Int} {m : Nat} (h : IsN x m) : IsN (bitsV .xor .u32 (bitsV .xor .u32 (turnV x 7) (turnV x 18)) (shrV .u32 x 3)) (s0N m) :=
  ((h.turn (c := 25) _ _ (by kernel_rfl) (by kernel_rfl) (by kernel_rfl) (by kernel_rfl)).xor (h.turn (c := 14) _ _ (by kernel_rfl) (by kernel_rfl) (by kernel_rfl) (by kernel_rfl))).xor (h.shr 8 (by kernel_rfl))
theorem IsN.s1 {x : Int} {m : Nat} (h : IsN x m) : IsN (bitsV .xor .u32 (bitsV .xor .u32 (turnV x 17) (turnV x 19)) (shrV .u32 x 10)) (s1N m) :=
  ((h.turn (c := 15) _ _ (by kernel_rfl) (by kernel_rfl) (by kernel_rfl) (by kernel_rfl)).xor (h.turn (c := 13) _ _ (by kernel_rfl) (by kernel_rfl) (by kernel_rfl) (by kernel_rfl))).xor (h.shr 1024 (by kernel_rfl))
theorem IsN.b1 {x : Int} {m : Nat} (h : IsN x m) : IsN (x32 (x32 (turnV x 6) (turnV x 11)) (turnV x 25)) (b1N m) :=
  ((h.turn (c := 26) _ _ (by kernel_rfl) (by kernel_rfl) (by kernel_rfl) (by kernel_rfl)).xor (h.turn (c := 21) _ _ (by kernel_rfl) (by kernel_rfl) (by kernel_rfl) (by kernel_rfl))).xor (h.turn (c := 7) _ _ (by kernel_rfl) (by kernel_rfl) (by kernel_rfl) (by kernel_rfl))
theorem IsN.b0 {x : Int} {m : Nat} (h : IsN x m) : IsN (x32 (x32 (turnV x 2) (turnV x 13)) (turnV x 22)) (b0N m) :=
  ((h.turn (c := 30) _ _ (by kernel_rfl) (by kernel_rfl) (by kernel_rfl) (by kernel_rfl)).xor (h.turn (c := 19) _ _ (by kernel_rfl) (by kernel_rfl) (by kernel_rfl) (by kernel_rfl))).xor (h.turn (c := 10) _ _ (by kernel_rfl) (by kernel_rfl) (by kernel_rfl) (by kernel_rfl))
/-- a value counted out before it is handed on -/
def fc {α : Type} (n : Nat) (k : Nat → α) : α := match n with
  | 0 => k 0
  | m + 1 => k (Nat.succ m)
theorem fc_eq {α : Type} (n : Nat) (k : Nat → α) : fc n k = k n := by cases n <;> rfl
structure S8 where
  a : Nat
  b : Nat
  c : Nat
  d : Nat
  e : Nat
  f : Nat
  g : Nat
  h : Nat
structure RS (x : St8) (n : S8) : Prop where
  a : IsN x.a n.a
  b : IsN x.b n.b
  c : IsN x.c n.c
  d : IsN x.d n.d
  e : IsN x.e n.e
  f : IsN x.f n.f
  g : IsN x.g n.g
  h : IsN x.h n.h
def t1N (h e f g k w : Nat) : Nat := ((((h + b1N e) % 4294967296 + ((e &&& f) ^^^ ((4294967295 ^^^ e) &&& g))) % 4294967296 + k) % 4294967296 + w) % 4294967296
def t2N (a b c : Nat) : Nat := (b0N a + (((a &&& b) ^^^ (a &&& c)) ^^^ (b &&& c))) % 4294967296
def roundN (s : S8) (k w : Nat) : S8 := match s with
  | ⟨a, b, c, d, e, f, g, h⟩ => fc (t1N h e f g k w) fun t1 => fc ((t1 + t2N a b c) % 4294967296) fun x => fc ((d + t1) % 4294967296) fun y => ⟨x, a, b, c, y, e, f, g⟩
theorem RS.round {x : St8} {n : S8} (h : RS x n) {k w : Int} {k' w' : Nat} (hk : IsN k k') (hw : IsN w w') : RS (roundV x k w) (roundN n k' w') := by
  obtain ⟨a, b, c, d, e, f, g, hh⟩ := n
  obtain ⟨ha, hb, hc, hd, he, hf, hg, hh⟩ := h
  simp only [roundN, fc_eq]
  have hm : IsN (if IntKind.u32.signed then -1 else IntKind.u32.max) 4294967295 := ⟨by kernel_rfl, by decide⟩
  have h1 : IsN (t1V x k w) (t1N _ e f g k' w') := (((hh.add he.b1).add ((he.and hf).xor ((hm.xor he).and hg))).add hk).add hw
  have h2 : IsN (t2V x) (t2N a b c) := ha.b0.add (((ha.and hb).xor (ha.and hc)).xor (hb.and hc))
  exact ⟨h1.add h2, ha, hb, hc, hd.add h1, he, hf, hg⟩
/-! the schedule -/
structure W16 where
  w0 : Nat
  w1 : Nat
  w2 : Nat
  w3 : Nat
  w4 : Nat
  w5 : Nat
  w6 : Nat
  w7 : Nat
  w8 : Nat
  w9 : Nat
  w10 : Nat
  w11 : Nat
  w12 : Nat
  w13 : Nat
  w14 : Nat
  w15 : Nat
def nextW (a b c d : Nat) : Nat := (((a + s0N b) % 4294967296 + c) % 4294967296 + s1N d) % 4294967296
def W16.next (w : W16) : W16 := match w with
  | ⟨a0, a1, a2, a3, a4, a5, a6, a7, a8, a9, a10, a11, a12, a13, a14, a15⟩ => fc (nextW a0 a1 a9 a14) fun x => ⟨a1, a2, a3, a4, a5, a6, a7, a8, a9, a10, a11, a12, a13, a14, a15, x⟩
def sN (f : Nat → Nat) : Nat → Nat → Nat
  | 0, t => f t
  | k + 1, t => if t = 16 + k then nextW (sN f k k) (sN f k (k + 1)) (sN f k (k + 9)) (sN f k (k + 14)) else sN f k t
def winN (f : Nat → Nat) (t : Nat) : W16 := ⟨sN f t t, sN f t (t + 1), sN f t (t + 2), sN f t (t + 3), sN f t (t + 4), sN f t (t + 5), sN f t (t + 6), sN f t (t + 7), sN f t (t + 8), sN f t (t + 9), sN f t (t + 10), sN f t (t + 11), sN f t (t + 12), sN f t (t + 13), sN f t (t + 14), sN f t (t + 15)⟩
theorem sN_old (f : Nat → Nat) {k t : Nat} (h : t ≠ 16 + k) : sN f (k + 1) t = sN f k t := by rw [sN, if_neg h]
theorem sN_new (f : Nat → Nat) (k : Nat) : sN f (k + 1) (16 + k) = nextW (sN f k k) (sN f k (k + 1)) (sN f k (k + 9)) (sN f k (k + 14)) := by rw [sN, if_pos rfl]
theorem sN_stay (f : Nat → Nat) {k t : Nat} : ∀ j, t < 16 + k → sN f (k + j) t = sN f k t
  | 0, _ => rfl
  | j + 1, h => by
    rw [show k + (j + 1) = (k + j) + 1 from rfl, sN_old f (by omega)]
    exact sN_stay f j h
theorem W16.next_eq (a0 a1 a2 a3 a4 a5 a6 a7 a8 a9 a10 a11 a12 a13 a14 a15 : Nat) : W16.next ⟨a0, a1, a2, a3, a4, a5, a6, a7, a8, a9, a10, a11, a12, a13, a14, a15⟩ = ⟨a1, a2, a3, a4, a5, a6, a7, a8, a9, a10, a11, a12, a13, a14, a15, nextW a0 a1 a9 a14⟩ := by rw [W16.next, fc_eq]
theorem winN_next (f : Nat → Nat) (t : Nat) : (winN f t).next = winN f (t + 1) := by
  rw [winN, W16.next_eq, ← sN_new, winN]
  have e : ∀ j, j < 15 → sN f t (t + (j + 1)) = sN f (t + 1) (t + 1 + j) := fun j hj => by
    rw [sN_old f (by omega)]; congr 1; omega
  have e15 : sN f (t + 1) (16 + t) = sN f (t + 1) (t + 1 + 15) := by congr 1; omega
  rw [W16.mk.injEq]
  exact ⟨e 0 (by omega), e 1 (by omega), e 2 (by omega), e 3 (by omega), e 4 (by omega), e 5 (by omega), e 6 (by omega), e 7 (by omega), e 8 (by omega), e 9 (by omega), e 10 (by omega), e 11 (by omega), e 12 (by omega), e 13 (by omega), e 14 (by omega), e15⟩
theorem sched_isN {s : ByteArray} {f : Nat → Nat} (h : ∀ t, t < 16 → IsN (wordV s t) (f t)) : ∀ k, k ≤ 48 → ∀ t, t < 16 + k → IsN ((w2 s k).getD t 0) (sN f k t)
  | 0, _, t, ht => by
    have key : ∀ i, i ≤ 16 → ∀ t, t < i → (w1 s i).getD t 0 = wordV s t := fun i => by
      induction i with
      | zero => intro _ t ht; omega
      | succ i ih =>
        intro hi t ht
        rw [w1, List.getD_eq_getElem?_getD, List.getElem?_set]
        by_cases e : i = t
        · subst e
          rw [if_pos rfl, if_pos (by rw [w1_len]; omega)]; rfl
        · rw [if_neg e, ← List.getD_eq_getElem?_getD]
          exact ih (by omega) t (by omega)
    rw [w2, key 16 (by omega) t (by omega)]
    exact h t (by omega)
  | k + 1, hk, t, ht => by
    have ih := sched_isN h k (by omega)
    rw [w2, List.getD_eq_getElem?_getD, List.getElem?_set]
    by_cases e : 16 + k = t
    · subst e
      rw [if_pos rfl, if_pos (by rw [w2_len]; omega), sN_new]
      have h0 := ih k (by omega)
      have h1 := ih (16 + k - 15) (by omega)
      have h9 := ih (16 + k - 7) (by omega)
      have h14 := ih (16 + k - 2) (by omega)
      rw [show 16 + k - 15 = k + 1 by omega] at h1
      rw [show 16 + k - 7 = k + 9 by omega] at h9
      rw [show 16 + k - 2 = k + 14 by omega] at h14
      have he : early (w2 s k) (16 + k) = _ := rfl
      unfold early late
      rw [show 16 + k - 15 = k + 1 by omega, show 16 + k - 7 = k + 9 by omega, show 16 + k - 2 = k + 14 by omega]
      exact ((h0.add h1.s0).add h9).add h14.s1
    · rw [if_neg e, ← List.getD_eq_getElem?_getD, sN_old f (by omega)]
      exact ih t (by omega)
/-! the rounds -/
def kN : List Nat := kC.map Int.toNat
def stepN (p : S8 × W16) (k : Nat) : S8 × W16 := match p with
  | (s, w) => (roundN s k w.w0, w.next)
theorem stepN_eq (s : S8) (w : W16) (k : Nat) : stepN (s, w) k = (roundN s k w.w0, w.next) := by unfold stepN; rfl
def roundsN (ks : List Nat) (s : S8) (w : W16) : S8 := (ks.foldl stepN (s, w)).1
theorem rounds_eq {x : St8} {ws : List Int} {f : Nat → Nat} (hw : ∀ t, t < 64 → IsN (ws.getD t 0) (sN f t t)) : ∀ (n t : Nat) (s : S8), t + n = 64 → RS (roundsV x ws t) s → RS (roundsV x ws 64) ((kN.drop t).foldl stepN (s, winN f t)).1 := by
  intro n
  have hl : kN.length = 64 := by kernel_rfl
  have hk : ∀ t, t < 64 → kC.getD t 0 = ((kN.getD t 0 : Nat) : Int) ∧ kN.getD t 0 < 4294967296 := by decide +kernel
  induction n with
  | zero =>
    intro t s ht h
    have e : t = 64 := by omega
    subst e
    rw [List.drop_of_length_le (by omega), List.foldl_nil]
    exact h
  | succ n ih =>
    intro t s ht h
    have hd : kN.drop t = kN[t]'(by omega) :: kN.drop (t + 1) := List.drop_eq_getElem_cons (by omega)
    have e2 : kN.getD t 0 = kN[t]'(by omega) := by rw [List.getD_eq_getElem?_getD, List.getElem?_eq_getElem (by omega)]; rfl
    have h1 := hk t (by omega)
    rw [e2] at h1
    have hw0 : (winN f t).w0 = sN f t t := by unfold winN; rfl
    have hr : roundsV x ws (t + 1) = roundV (roundsV x ws t) (kC.getD t 0) (ws.getD t 0) := by rw [roundsV]
    rw [hd, List.foldl_cons, stepN_eq, winN_next, hw0]
    refine ih (t + 1) _ (by omega) ?_
    rw [hr]
    exact h.round h1 (hw t (by omega))
theorem roundsN_eq {x : St8} {ws : List Int} {f : Nat → Nat} (hw : ∀ t, t < 64 → IsN (ws.getD t 0) (sN f t t)) {s : S8} (h : RS x s) : RS (roundsV x ws 64) (roundsN kN s (winN f 0)) := by
  have h1 := rounds_eq (x := x) hw 64 0 s (Nat.zero_add _) (by rw [roundsV]; exact h)
  rw [List.drop_zero] at h1
  unfold roundsN
  exact h1
def addN (x y : S8) : S8 := match x, y with
  | ⟨a, b, c, d, e, f, g, h⟩, ⟨a', b', c', d', e', f', g', h'⟩ => fc ((a + a') % 4294967296) fun a => fc ((b + b') % 4294967296) fun b => fc ((c + c') % 4294967296) fun c => fc ((d + d') % 4294967296) fun d => fc ((e + e') % 4294967296) fun e => fc ((f + f') % 4294967296) fun f => fc ((g + g') % 4294967296) fun g => fc ((h + h') % 4294967296) fun h => ⟨a, b, c, d, e, f, g, h⟩
def mixN (s : S8) (w : W16) : S8 := addN s (roundsN kN s w)
theorem RS.add {x y : St8} {m n : S8} (h : RS x m) (h1 : RS y n) : RS ⟨a32 x.a y.a, a32 x.b y.b, a32 x.c y.c, a32 x.d y.d, a32 x.e y.e, a32 x.f y.f, a32 x.g y.g, a32 x.h y.h⟩ (addN m n) := by
  obtain ⟨a, b, c, d, e, f, g, hh⟩ := m
  obtain ⟨a', b', c', d', e', f', g', h'⟩ := n
  simp only [addN, fc_eq]
  exact ⟨h.a.add h1.a, h.b.add h1.b, h.c.add h1.c, h.d.add h1.d, h.e.add h1.e, h.f.add h1.f, h.g.add h1.g, h.h.add h1.h⟩
theorem RS.mix {x : St8} {n : S8} (h : RS x n) {s : ByteArray} {f : Nat → Nat} (hs : ∀ t, t < 16 → IsN (wordV s t) (f t)) : RS (mixV x s) (mixN n (winN f 0)) := by
  have h1 := roundsN_eq (x := x) (ws := schedV s) (f := f) (fun t ht => by
    have h2 := sched_isN hs 48 (by omega) t (by omega)
    by_cases e : t ≤ 48
    · have h3 := sN_stay f (k := t) (t := t) (48 - t) (by omega)
      rw [show t + (48 - t) = 48 by omega] at h3
      rw [schedV]
      rwa [h3] at h2
    · have h3 := sN_stay f (k := 48) (t := t) (t - 48) (by omega)
      rw [show 48 + (t - 48) = t by omega] at h3
      rw [schedV, h3]
      exact h2) h
  unfold mixV mixN
  generalize roundsV x (schedV s) 64 = y at h1 ⊢
  generalize roundsN kN n (winN f 0) = y' at h1 ⊢
  exact h.add h1
end Go.Proofs.YtepckpofhegmiaaGreatDoor
