/- A right activity has bounded strings and lists. No walk in sight. -/
import Derived.Test.YtfpojkoddcdojaaGreatDoorG
import Derived.Test.YtfpojkoddcdojaaGreatDoorSh
set_option linter.unusedVariables false
set_option linter.unusedSimpArgs false
namespace Go.Proofs.YtfpojkoddcdojaaGreatDoor
open Go Go.Proofs Sy
structure ActD.Rng (a : ActD) : Prop where
  ints : a.seq < 9223372036854775808 ∧ a.kind < 9223372036854775808 ∧ a.time < 9223372036854775808 ∧ a.scope < 9223372036854775808 ∧ a.epoch < 9223372036854775808 ∧ a.n < 9223372036854775808 ∧ a.m < 9223372036854775808 ∧ a.e < 9223372036854775808 ∧ a.s < 9223372036854775808
  wints : ∀ w ∈ a.wrapsL, w.to < 9223372036854775808 ∧ w.eph < 9223372036854775808
  to_len : a.to.n = a.toL.length
  wraps_len : a.wraps.n = a.wrapsL.length
def useU (z0 z1 z2 z3 z4 z5 z6 z7 z8 z9 z10 : Bool) : Int :=
  noteV (noteV (noteV (noteV (noteV (noteV (noteV (noteV (noteV (noteV (noteV 0 1 z0) 2 z1) 4 z2) 8 z3) 16 z4) 32 z5) 64 z6) 128 z7) 256 z8) 512 z9) 1024 z10
def useOk (fs : Nat) (z0 z1 z2 z3 z4 z5 z6 z7 z8 z9 z10 : Bool) : Bool :=
  !decide (bitsV .andNot .i64 (useU z0 z1 z2 z3 z4 z5 z6 z7 z8 z9 z10) fs = 0) || ((fs.testBit 0 || z0) && (fs.testBit 1 || z1) && (fs.testBit 3 || z3) && (fs.testBit 4 || z4) && (fs.testBit 5 || z5) && (fs.testBit 6 || z6) && (fs.testBit 8 || z8))
def bools (p : Bool → Bool) : Bool := p true && p false
theorem bools_all {p : Bool → Bool} (h : bools p = true) (b : Bool) : p b = true := by
  simp only [bools, Bool.and_eq_true] at h
  cases b
  · exact h.2
  · exact h.1
def useAll (fs : Nat) : Bool := bools fun z0 => bools fun z1 => bools fun z2 => bools fun z3 => bools fun z4 => bools fun z5 => bools fun z6 => bools fun z7 => bools fun z8 => bools fun z9 => bools fun z10 => useOk fs z0 z1 z2 z3 z4 z5 z6 z7 z8 z9 z10
theorem useAll_all : ([1568, 252, 253, 1, 2, 33, 24, 412, 35, 1536, 1808, 513, 546].all useAll) = true := by decide +kernel
theorem use_zero {fs : Nat} (hfs : useAll fs = true) {z0 z1 z2 z3 z4 z5 z6 z7 z8 z9 z10 : Bool} (h : bitsV .andNot .i64 (useU z0 z1 z2 z3 z4 z5 z6 z7 z8 z9 z10) fs = 0) :
    (fs.testBit 0 || z0) = true ∧ (fs.testBit 1 || z1) = true ∧ (fs.testBit 3 || z3) = true ∧ (fs.testBit 4 || z4) = true ∧ (fs.testBit 5 || z5) = true ∧ (fs.testBit 6 || z6) = true ∧ (fs.testBit 8 || z8) = true := by
  have h1 := bools_all (bools_all (bools_all (bools_all (bools_all (bools_all (bools_all (bools_all (bools_all (bools_all (bools_all hfs z0) z1) z2) z3) z4) z5) z6) z7) z8) z9) z10
  simp only [useOk, h, decide_true, Bool.not_true, Bool.false_or, Bool.and_eq_true] at h1
  obtain ⟨⟨⟨⟨⟨⟨h2, h3⟩, h4⟩, h5⟩, h6⟩, h7⟩, h8⟩ := h1
  exact ⟨h2, h3, h4, h5, h6, h7, h8⟩

theorem isId_size {s : ByteArray} (h : isId s = true) : s.size = 16 := by
  simp only [isId, Bool.and_eq_true, decide_eq_true_eq] at h
  omega
theorem isName_size {s : ByteArray} (h : isName s = true) : s.size ≤ 24 := by
  simp only [isName, Bool.and_eq_true, Bool.not_eq_true', decide_eq_false_iff_not] at h
  omega
theorem isDigest_size {s : ByteArray} (h : isDigestB s = true) : s.size = 32 := by
  simp only [isDigestB, decide_eq_true_eq] at h
  omega
theorem isShort_size {s : ByteArray} (h : isShortB s = true) : s.size ≤ 500 := by
  simp only [isShortB, decide_eq_true_eq] at h
  omega
theorem empty_size {s : ByteArray} (h : seqB s ⟨#[]⟩ = true) : s.size = 0 := by
  rw [seqB_empty] at h
  exact of_decide_eq_true h
structure Short (b : BoxD) : Prop where
  nonce : b.nonce.size ≤ 500
  data : b.data.size ≤ 500
  tag : b.tag.size ≤ 500
theorem Short.fit {b : BoxD} (h : Short b) : b.Fit := ⟨by have := h.nonce; omega, by have := h.data; omega, by have := h.tag; omega⟩
theorem Short.size {b : BoxD} (h : Short b) : (boxV b).size ≤ 1530 := by
  have h1 := textV_size b.nonce
  have h2 := textV_size b.data
  have h3 := textV_size b.tag
  have := h.nonce
  have := h.data
  have := h.tag
  simp only [boxV, ByteArray.size_append]
  omega
theorem isSealed_short {b : BoxD} (h : isSealedB b = true) : Short b := by
  simp only [isSealedB, Bool.and_eq_true, decide_eq_true_eq] at h
  have := isShort_size h.2
  exact ⟨by omega, this, by omega⟩
theorem boxZero_short {b : BoxD} (h : boxEq b BoxD.zero = true) : Short b := by
  simp only [boxEq, Bool.and_eq_true, BoxD.zero] at h
  obtain ⟨⟨h1, h2⟩, h3⟩ := h
  have := empty_size h1
  have := empty_size h2
  have := empty_size h3
  exact ⟨by omega, by omega, by omega⟩
structure ToOk (l : List ByteArray) : Prop where
  len : l.length ≤ 64
  each : ∀ x ∈ l, x.size ≤ 16
theorem allB_at {n : Nat} {bad : Nat → Bool} (h : allB n bad = true) {k : Nat} (hk : k < n) : bad k = false := by
  simp only [allB, List.all_eq_true, List.mem_range] at h
  simpa using h k hk
theorem isIds_ok {l : List ByteArray} (h : isIds l = true) : ToOk l := by
  simp only [isIds, Bool.and_eq_true, Bool.not_eq_true', decide_eq_false_iff_not] at h
  refine ⟨by omega, fun x hx => ?_⟩
  obtain ⟨k, hk, rfl⟩ := List.getElem_of_mem hx
  have h1 := allB_at h.2 hk
  simp only [badIds, Bool.or_eq_false_iff, Bool.not_eq_false'] at h1
  have h2 : l.getD k .empty = l[k] := by simp [hk]
  rw [h2] at h1
  have := isId_size h1.1
  omega
theorem cats_le {B : Nat} : ∀ (l : List ByteArray), (∀ x ∈ l, x.size ≤ B) → (cats l).size ≤ l.length * B
  | [], _ => by simp [cats]
  | x :: l, h => by
    have h1 := cats_le l fun y hy => h y (List.mem_cons_of_mem _ hy)
    have h2 := h x List.mem_cons_self
    simp only [cats, ByteArray.size_append, List.length_cons, Nat.add_mul, Nat.one_mul]
    omega
theorem ToOk.size {l : List ByteArray} (h : ToOk l) : (listV l).size ≤ 1073741824 := by
  have h1 := numV_size l.length
  have h2 := cats_le (B := 26) (l.map textV) (fun x hx => by
    obtain ⟨y, hy, rfl⟩ := List.mem_map.1 hx
    have := h.each y hy
    have := textV_size y
    omega)
  have h3 := h.len
  simp only [List.length_map] at h2
  simp only [listV, ByteArray.size_append]
  omega
theorem ToOk.nil {l : List ByteArray} (h : l.length = 0) : ToOk l := by
  have : l = [] := List.eq_nil_of_length_eq_zero h
  subst this
  exact ⟨by simp, by simp⟩
structure WrapsOk (l : List WrapD) : Prop where
  len : l.length ≤ 64
  each : ∀ x ∈ l, Short x.box
theorem WrapsOk.size {l : List WrapD} (h : WrapsOk l) : (cats (l.map wrapV)).size ≤ 1073741824 := by
  have h2 := cats_le (B := 1550) (l.map wrapV) (fun x hx => by
    obtain ⟨y, hy, rfl⟩ := List.mem_map.1 hx
    have := (h.each y hy).size
    have := numV_size y.to
    have := numV_size y.eph
    simp only [wrapV, ByteArray.size_append]
    omega)
  have h3 := h.len
  simp only [List.length_map] at h2
  omega
theorem WrapsOk.nil {l : List WrapD} (h : l.length = 0) : WrapsOk l := by
  have : l = [] := List.eq_nil_of_length_eq_zero h
  subst this
  exact ⟨by simp, by simp⟩
theorem wrapped_ok {a : ActD} (hr : a.Rng) (ht : ToOk a.toL) (h : wrappedB a = true) : WrapsOk a.wrapsL := by
  simp only [wrappedB, Bool.and_eq_true, decide_eq_true_eq] at h
  have h1 := hr.to_len
  have h2 := hr.wraps_len
  have h3 := ht.len
  refine ⟨by omega, fun x hx => ?_⟩
  obtain ⟨k, hk, rfl⟩ := List.getElem_of_mem hx
  have h4 := allB_at h.1 hk
  rw [badW_at (List.getElem?_eq_getElem hk)] at h4
  simp only [Bool.or_eq_false_iff, Bool.not_eq_false'] at h4
  exact isSealed_short h4.2.2
/-- What a rule says of the parts that are bounded by it. -/
structure Bnd (a : ActD) : Prop where
  object : a.object.size ≤ 500
  target : a.target.size ≤ 500
  group : a.group.size ≤ 500
  text : a.text.size ≤ 500
  body : Short a.body
  to : ToOk a.toL
  wraps : WrapsOk a.wrapsL
theorem mget_mem {κ β : Type} [KeyT κ] {k : κ} {x : β} : ∀ {l : List (κ × β)}, mget l k = some x → ∃ k', (k', x) ∈ l
  | [], h => by cases h
  | (k', v) :: r, h => by
    simp only [mget] at h
    cases hb : KeyT.eqb k k' with
    | true => rw [hb] at h; simp at h; subst h; exact ⟨k', List.mem_cons_self⟩
    | false => rw [hb] at h; obtain ⟨k2, h2⟩ := mget_mem (l := r) (by simpa using h); exact ⟨k2, List.mem_cons_of_mem _ h2⟩
theorem scope_size {sc : Int} {g : ByteArray} (h : sealedScopeB sc g = true) : g.size ≤ 500 := by
  unfold sealedScopeB at h
  cases h1 : decide (sc = 2) <;> cases h2 : decide (sc = 1) <;> cases h3 : decide (sc = 3) <;> simp only [h1, h2, h3, cond_true, cond_false] at h
  all_goals first
    | (have := isName_size h; omega)
    | (have := empty_size h; omega)
    | cases h
theorem audience_ok {a : ActD} (h : audienceB a = true) : a.group.size ≤ 500 ∧ a.text.size ≤ 500 ∧ Short a.body ∧ ToOk a.toL := by
  unfold audienceB at h
  cases h0 : isIds a.toL with
  | false => simp [h0] at h
  | true =>
    have ht := isIds_ok h0
    cases h1 : decide (a.scope = 0) with
    | true =>
      simp only [h0, h1, Bool.not_true, cond_true, cond_false, Bool.and_eq_true] at h
      obtain ⟨⟨⟨h2, h3⟩, h4⟩, h5⟩ := h
      have := empty_size h2
      have := isShort_size h4
      exact ⟨by omega, by omega, boxZero_short h5, ht⟩
    | false =>
      cases h6 : (decide (0 < (a.to.n : Int)) && !decide (a.scope = 3)) with
      | true => simp only [h0, h1, h6, Bool.not_true, cond_true, cond_false] at h; cases h
      | false =>
        simp only [h0, h1, h6, Bool.not_true, cond_true, cond_false, Bool.and_eq_true] at h
        obtain ⟨⟨⟨h2, h3⟩, h4⟩, h5⟩ := h
        have := empty_size h4
        exact ⟨scope_size h2, by omega, isSealed_short h5, ht⟩
theorem z_empty {s : ByteArray} (h : seqB s ⟨#[]⟩ = true) : s.size ≤ 500 := by have := empty_size h; omega
theorem z_to {a : ActD} (hr : a.Rng) (h : decide ((a.to.n : Int) = 0) = true) : ToOk a.toL := ToOk.nil (by have := of_decide_eq_true h; have := hr.to_len; omega)
theorem z_wraps {a : ActD} (hr : a.Rng) (h : decide ((a.wraps.n : Int) = 0) = true) : WrapsOk a.wrapsL := WrapsOk.nil (by have := of_decide_eq_true h; have := hr.wraps_len; omega)
theorem d_500 {s : ByteArray} (h : isDigestB s = true) : s.size ≤ 500 := by have := isDigest_size h; omega
theorem i_500 {s : ByteArray} (h : isId s = true) : s.size ≤ 500 := by have := isId_size h; omega
theorem n_500 {s : ByteArray} (h : isName s = true) : s.size ≤ 500 := by have := isName_size h; omega
theorem usedV_eq (a : ActD) : usedV a = useU (seqB a.object ⟨#[]⟩) (seqB a.target ⟨#[]⟩) (decide (a.scope = 0)) (seqB a.group ⟨#[]⟩) (decide ((a.to.n : Int) = 0)) (seqB a.text ⟨#[]⟩) (boxEq a.body BoxD.zero) (decide (a.epoch = 0)) (decide ((a.wraps.n : Int) = 0)) (decide (a.n = 0)) (decide (a.m = 0)) := rfl
theorem bnd_of_rule {a : ActD} (hr : a.Rng) (h : ruleB a = true) : Bnd a := by
  unfold ruleB at h
  cases hk : mget (ruleL a) a.kind with
  | none => rw [hk] at h; cases h
  | some x =>
    obtain ⟨fs, b⟩ := x
    rw [hk] at h
    simp only [Bool.and_eq_true, decide_eq_true_eq] at h
    obtain ⟨hu, hb⟩ := h
    rw [usedV_eq] at hu
    obtain ⟨k', hm⟩ := mget_mem hk
    obtain ⟨n, hn, hmem⟩ : ∃ n : Nat, fs = n ∧ n ∈ [1568, 252, 253, 1, 2, 33, 24, 412, 35, 1536, 1808, 513, 546] := by
      simp only [ruleL, List.mem_cons, Prod.mk.injEq, List.not_mem_nil, or_false] at hm
      clear hu hb hk
      rcases hm with ⟨-, h9, -⟩ | ⟨-, h9, -⟩ | ⟨-, h9, -⟩ | ⟨-, h9, -⟩ | ⟨-, h9, -⟩ | ⟨-, h9, -⟩ | ⟨-, h9, -⟩ | ⟨-, h9, -⟩ | ⟨-, h9, -⟩ | ⟨-, h9, -⟩ | ⟨-, h9, -⟩ | ⟨-, h9, -⟩ | ⟨-, h9, -⟩ | ⟨-, h9, -⟩ | ⟨-, h9, -⟩ | ⟨-, h9, -⟩ | ⟨-, h9, -⟩ | ⟨-, h9, -⟩ | ⟨-, h9, -⟩ | ⟨-, h9, -⟩ | ⟨-, h9, -⟩ | ⟨-, h9, -⟩ | ⟨-, h9, -⟩ | ⟨-, h9, -⟩ <;> exact ⟨fs.toNat, by omega, by rw [h9]; decide⟩
    rw [hn] at hu
    obtain ⟨u0, u1, u3, u4, u5, u6, u8⟩ := use_zero (List.all_eq_true.1 useAll_all n hmem) hu
    clear hu hmem hk
    simp only [ruleL, List.mem_cons, Prod.mk.injEq, List.not_mem_nil, or_false] at hm
    rcases hm with ⟨-, rfl, rfl⟩ | ⟨-, rfl, rfl⟩ | ⟨-, rfl, rfl⟩ | ⟨-, rfl, rfl⟩ | ⟨-, rfl, rfl⟩ | ⟨-, rfl, rfl⟩ | ⟨-, rfl, rfl⟩ | ⟨-, rfl, rfl⟩ | ⟨-, rfl, rfl⟩ | ⟨-, rfl, rfl⟩ | ⟨-, rfl, rfl⟩ | ⟨-, rfl, rfl⟩ | ⟨-, rfl, rfl⟩ | ⟨-, rfl, rfl⟩ | ⟨-, rfl, rfl⟩ | ⟨-, rfl, rfl⟩ | ⟨-, rfl, rfl⟩ | ⟨-, rfl, rfl⟩ | ⟨-, rfl, rfl⟩ | ⟨-, rfl, rfl⟩ | ⟨-, rfl, rfl⟩ | ⟨-, rfl, rfl⟩ | ⟨-, rfl, rfl⟩ | ⟨-, rfl, rfl⟩
    all_goals
      have hn' := congrArg Int.toNat hn
      rw [Int.toNat_natCast] at hn'
      subst hn'
      try simp only [rule1B, rule2B, rule3B, rule4B, rule5B, rule6B, objectB, targetB, grantB, setupB, Bool.and_eq_true] at hb
    all_goals first
      | (have hA := audience_ok hb; exact ⟨z_empty u0, z_empty u1, hA.1, hA.2.1, hA.2.2.1, hA.2.2.2, z_wraps hr u8⟩)
      | (have hA := audience_ok hb.2; exact ⟨d_500 hb.1, z_empty u1, hA.1, hA.2.1, hA.2.2.1, hA.2.2.2, z_wraps hr u8⟩)
      | (have hT := isIds_ok hb.1.2; exact ⟨z_empty u0, z_empty u1, scope_size hb.1.1.1, z_empty u5, boxZero_short u6, hT, wrapped_ok hr hT hb.2⟩)
      | (have hT := isIds_ok hb.1.1.1.2; exact ⟨z_empty u0, z_empty u1, z_empty u3, z_empty u5, boxZero_short u6, hT, wrapped_ok hr hT hb.1.1.2⟩)
      | exact ⟨by first | exact z_empty u0 | exact d_500 hb.1 | exact d_500 hb, by first | exact z_empty u1 | exact i_500 hb | exact i_500 hb.1.1, by first | exact z_empty u3 | exact n_500 hb.1, by first | exact z_empty u5 | exact isShort_size hb.2 | exact n_500 hb.1 | exact isShort_size hb.1.2, boxZero_short u6, by first | exact z_to hr u4 | exact isIds_ok hb.2, z_wraps hr u8⟩
      | skip
    -- a label: of an object or of a target
    unfold labelB at hb
    cases hN : isName a.text with
    | false => simp [hN] at hb
    | true =>
      simp only [hN, Bool.not_true, cond_false, Bool.or_eq_true, Bool.and_eq_true, objectB, targetB] at hb
      refine ⟨?_, ?_, z_empty u3, n_500 hN, boxZero_short u6, z_to hr u4, z_wraps hr u8⟩
      · rcases hb with hb | hb
        · exact d_500 hb.1
        · exact z_empty hb.2
      · rcases hb with hb | hb
        · exact z_empty hb.2
        · exact i_500 hb.1
theorem fit_of_right {a : ActD} (hr : a.Rng) (h : rightB a = true) : a.Fit := by
  simp only [rightB, Bool.and_eq_true] at h
  obtain ⟨⟨⟨⟨⟨h1, h2⟩, h3⟩, h4⟩, h5⟩, h6⟩ := h
  have hB := bnd_of_rule hr h6
  have hp : a.prev.size ≤ 500 := by
    unfold placedB at h2
    cases hs : decide (a.seq = 0) with
    | true => simp only [hs, cond_true, Bool.and_eq_true] at h2; exact z_empty h2.2
    | false => simp only [hs, cond_false, Bool.and_eq_true] at h2; exact d_500 h2.2
  have := isId_size h1
  have := hB.object
  have := hB.target
  have := hB.group
  have := hB.text
  exact ⟨by omega, by omega, by omega, by omega, by omega, by omega, hB.body.fit, hB.to.size, fun w hw => (hB.wraps.each w hw).fit, hB.wraps.size, hr.ints, hr.wints⟩
end Go.Proofs.YtfpojkoddcdojaaGreatDoor
