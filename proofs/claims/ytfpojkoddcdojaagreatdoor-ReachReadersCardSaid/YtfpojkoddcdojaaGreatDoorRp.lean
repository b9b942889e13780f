/- Plain laws of who may read (package reach), and of a posting that is written next (CircleFresh). No program in sight. -/
import Derived.Test.YtfpojkoddcdojaaGreatDoorFs
import Derived.Test.YtfpojkoddcdojaaGreatDoorPs
set_option linter.unusedVariables false
set_option linter.unusedSimpArgs false
namespace Go.Proofs.YtfpojkoddcdojaaGreatDoor
open Go Go.Proofs Sy
theorem hasS_iff {l : List ByteArray} {x : ByteArray} : hasS l x = true ↔ x ∈ l := by
  rw [hasS, List.any_eq_true]
  constructor
  · rintro ⟨y, hy, h⟩
    rw [seqB_iff.1 h]; exact hy
  · intro h
    exact ⟨x, h, seqB_self x⟩
theorem hasS_false {l : List ByteArray} {x : ByteArray} : hasS l x = false ↔ x ∉ l := by
  rw [← Bool.not_eq_true, hasS_iff]
def rtextV (c : ChainD) (i : Int) : Bool := decide (0 ≤ i) && (match c.actsL[i.toNat]? with
  | some a => postK a.kind || decide (a.kind = 14)
  | none => false)
def rmemV (c : ChainD) (i : Int) : List ByteArray := bif wellV c i then (match c.actsL[i.toNat]? with
  | some a => membersV c i a.scope a.group a.toL
  | none => []) else []
def pubV (c : ChainD) (i : Int) : Bool := match c.actsL[i.toNat]? with
  | some a => decide (a.scope = 0)
  | none => false
def readL (c : ChainD) (i : Int) : List ByteArray := bif rtextV c i && !pubV c i then compB (sortB (rmemV c i ++ [c.id])) else []
def readB (c : ChainD) (i : Int) : Bool := !rtextV c i || !pubV c i
def mayV (c : ChainD) (i : Int) (r : ByteArray) : Bool := rtextV c i && (seqB r c.id || pubV c i || hasS (rmemV c i) r)
theorem members_mem {c : ChainD} {n sc : Int} {g : ByteArray} {toL : List ByteArray} {x : ByteArray} (h : x ∈ membersV c n sc g toL) : x ≠ c.id ∧ x ∉ sortB (tieV c.actsL n).b := by
  rw [membersV, mem_compB_sortB, List.mem_filter] at h
  have h2 := h.2
  simp only [keepM, Bool.and_eq_true, Bool.not_eq_true'] at h2
  exact ⟨seqB_ne.1 h2.1, hasS_false.1 h2.2⟩
theorem asc_members (c : ChainD) (n sc : Int) (g : ByteArray) (toL : List ByteArray) : Asc (membersV c n sc g toL) := asc_compB_sortB _
theorem may_read (c : ChainD) (i : Int) (r : ByteArray) : mayV c i r = (!readB c i || hasS (readL c i) r) := by
  unfold mayV readB readL
  cases rtextV c i <;> cases pubV c i <;> simp only [Bool.false_and, Bool.true_and, Bool.not_false, Bool.not_true, Bool.or_true, Bool.true_or, Bool.false_or, Bool.or_false, cond_true, cond_false]
  · rfl
  · rfl
  · rw [Bool.eq_iff_iff, Bool.or_eq_true, hasS_iff, hasS_iff, seqB_iff, mem_compB_sortB, List.mem_append, List.mem_singleton]
    exact Or.comm
theorem rmem_some {c : ChainD} {i : Int} {a : ActD} (h : c.actsL[i.toNat]? = some a) : rmemV c i = bif wellV c i then membersV c i a.scope a.group a.toL else [] := by
  rw [rmemV, h]
structure ReadF (c : ChainD) (i : Int) (a : ActD) (l : List ByteArray) : Prop where
  asc : Asc l
  own : c.id ∈ l
  mem : ∀ x ∈ l, x ≠ c.id → x ∈ membersV c i a.scope a.group a.toL
  len : l.length = 1 + (bif wellV c i then (membersV c i a.scope a.group a.toL).length else 0)
theorem read_facts {c : ChainD} {i : Int} {a : ActD} (h : c.actsL[i.toNat]? = some a) : ReadF c i a (compB (sortB (rmemV c i ++ [c.id]))) := by
  have hn : (rmemV c i ++ [c.id]).Nodup := by
    rw [rmem_some h]
    cases wellV c i with
    | false => simp
    | true =>
      simp only [cond_true]
      rw [List.nodup_append]
      refine ⟨(asc_members c i a.scope a.group a.toL).nodup, by simp, fun x hx y hy => ?_⟩
      rw [List.mem_singleton] at hy
      subst hy
      exact (members_mem hx).1
  refine ⟨asc_compB_sortB _, by rw [mem_compB_sortB]; simp, fun x hx hne => ?_, ?_⟩
  · rw [mem_compB_sortB, List.mem_append, List.mem_singleton] at hx
    have hx := hx.resolve_right hne
    rw [rmem_some h] at hx
    cases hw : wellV c i with
    | false => rw [hw] at hx; cases hx
    | true => rw [hw] at hx; exact hx
  · rw [compB_sortB_len hn, rmem_some h]
    cases wellV c i <;> simp [Nat.add_comm]

/-! a posting that is written after the first n activities -/
theorem sealed_scope (sc : Int) : (decide (sc = 1) || decide (sc = 2) || decide (sc = 3)) = (decide (1 ≤ sc) && decide (sc ≤ 3)) := by
  rw [Bool.eq_iff_iff]
  simp only [Bool.or_eq_true, Bool.and_eq_true, decide_eq_true_eq]
  omega
def sealK (kd sc : Int) : Bool := (postK kd || decide (kd = 14)) && (decide (1 ≤ sc) && decide (sc ≤ 3))
theorem fresh_well {c d : ChainD} {n : Nat} {a : ActD} {rest : List ActD} (hid : c.id = d.id) (hn : n ≤ c.actsL.length) (hd : d.actsL = c.actsL.take n ++ a :: rest) :
    wellV d n = (sealK a.kind a.scope && !freshV c n a.scope a.group a.toL && decide (((epochO c.actsL n a.scope a.group).map (·.epoch)).getD 0 = a.epoch)) := by
  have hA : Agree n c.actsL d.actsL := by rw [hd]; exact agree_take _ _ hn
  have hx : d.actsL[((n : Nat) : Int).toNat]? = some a := by
    rw [hd, Int.toNat_natCast, List.getElem?_append_right (by rw [List.length_take]; omega), List.length_take, Nat.min_eq_left hn, Nat.sub_self]
    rfl
  rw [wellV, decide_eq_true (by omega), Bool.true_and, hx]
  show wellA d n a = _
  rw [wellA, ← epochO_agree hA, ← membersV_agree hA hid, sealed_scope, freshV, sealK]
  generalize epochO c.actsL n a.scope a.group = o
  generalize membersV c n a.scope a.group a.toL = M
  cases o with
  | none => simp
  | some e =>
    simp only [Option.isSome_some, Option.map_some, Option.getD_some, Bool.not_true, Bool.false_or, Bool.not_not]
    rw [Bool.and_comm (decide (e.epoch = a.epoch)), ← Bool.and_assoc]
theorem fresh_none {c : ChainD} {n sc : Int} {g : ByteArray} {toL : List ByteArray} (h : epochO c.actsL n sc g = none) : freshV c n sc g toL = true := by
  rw [freshV, h]
  rfl
theorem well_neg (d : ChainD) : wellV d (-1) = false := by rw [wellV, decide_eq_false (by omega), Bool.false_and]
theorem well_end (d : ChainD) : wellV d (d.actsL.length : Nat) = false := by
  rw [wellV, Int.toNat_natCast, List.getElem?_eq_none (Nat.le_refl _), Bool.and_false]
end Go.Proofs.YtfpojkoddcdojaaGreatDoor
