/- The law TallyWho, plain. -/
import Derived.Test.YtlankpiogfhblaaGreatDoorQa
set_option linter.unusedVariables false
set_option linter.unusedSimpArgs false
namespace Go.Proofs.YtlankpiogfhblaaGreatDoor
open Go Go.Proofs Sy
theorem hasM_act (c : ChainD) (kind : Int) (id : ByteArray) : ∀ i, i ≤ c.actsL.length → 0 < (hasM c kind id i).length → ∃ a ∈ c.actsL, a.kind = kind ∧ a.object = id
  | 0, _, h => absurd h (Nat.lt_irrefl 0)
  | i + 1, hi, h => by
    have ih := hasM_act c kind id i (by omega)
    have hm : c.actsL.getD i ActD.zero ∈ c.actsL := by
      rw [List.getD_eq_getElem?_getD, List.getElem?_eq_getElem (by omega)]
      exact List.getElem_mem _
    rw [hasM] at h
    cases hb : decide ((c.actsL.getD i ActD.zero).kind = kind) && seqB (c.actsL.getD i ActD.zero).object id with
    | true =>
      simp only [Bool.and_eq_true, decide_eq_true_eq] at hb
      exact ⟨_, hm, hb.1, seqB_iff.1 hb.2⟩
    | false =>
      simp only [hb, cond_false] at h
      apply ih
      cases hc : decide ((c.actsL.getD i ActD.zero).kind = 6) && decide (0 < (hasM c kind id i).length) with
      | true => simp only [Bool.and_eq_true, decide_eq_true_eq] at hc; exact hc.2
      | false => simp only [hc, cond_false] at h; exact h
theorem hasV_act {c : ChainD} {kind : Int} {id : ByteArray} (h : hasV c kind id = true) : ∃ a ∈ c.actsL, a.kind = kind ∧ a.object = id :=
  hasM_act c kind id _ (Nat.le_refl _) (of_decide_eq_true h)
theorem liveV_find {l : List ChainD} {id : ByteArray} {p : PostD} (h : liveV l id = some p) : findPV l id = some p := by
  rw [liveV] at h
  cases hf : findPV l id with
  | none => rw [hf] at h; cases h
  | some q =>
    rw [hf] at h
    change (bif q.gone then none else some q) = some p at h
    cases hg : q.gone with
    | true => rw [hg] at h; cases h
    | false => rw [hg] at h; exact h
theorem liveV_id {l : List ChainD} {id : ByteArray} {p : PostD} (h : liveV l id = some p) : p.id = id :=
  seqB_iff.1 (List.find?_some (liveV_find h) : isPost id p = true)
theorem whoV_live {l : List ChainD} {id : ByteArray} {p : PostD} {kind : Int} (hk : kind = 5 ∨ kind = 4) (h : liveV l id = some p) : whoV l id kind = actorsV l p kind := by
  rw [whoV, h]
  rcases hk with rfl | rfl <;> rfl
theorem whoV_dead {l : List ChainD} {id : ByteArray} {kind : Int} (h : liveV l id = none) : whoV l id kind = [] := by
  rw [whoV, h]
  cases decide (kind = 5) || decide (kind = 4) <;> rfl
theorem actorsV_asc (l : List ChainD) (p : PostD) (kind : Int) : Asc (actorsV l p kind) := asc_sortB (actF_nodup l p kind _)
theorem actorsV_fact {l : List ChainD} {id : ByteArray} {p : PostD} {kind : Int} (hlv : liveV l id = some p) {x : ByteArray} (hx : x ∈ actorsV l p kind) :
    ∃ c ∈ l, c.id = x ∧ (∃ a ∈ c.actsL, a.kind = kind ∧ a.object = id) ∧ admV l x p.author = true := by
  obtain ⟨c, hc, he, hh, ha⟩ := actF_mem l p kind l.length (Nat.le_refl _) x (mem_sortB.1 hx)
  rw [liveV_id hlv] at hh
  exact ⟨c, hc, he, hasV_act hh, ha⟩
def kdOf (bo : Bool) : Int := bif bo then 4 else 5
theorem kdOf_or (bo : Bool) : kdOf bo = 5 ∨ kdOf bo = 4 := by cases bo <;> simp [kdOf]
def rB28 (id : ByteArray) (q : PostD) : Bool := decide (q.kind = 2) && seqB q.object id
theorem rep_le (l : List ChainD) (id au : ByteArray) (L : List PostD) : L.countP (repB l id au) ≤ L.countP (rB28 id) :=
  List.countP_mono_left fun q _ h => by
    simp only [repB, Bool.and_eq_true] at h
    simp only [rB28, Bool.and_eq_true]
    exact h.1.1
structure LawI (n : Nat) where
  k : Nat
  hk : k ≤ n
structure GivI (l : List ChainD) (x id : ByteArray) (kd : Int) where
  k : Nat
  hk : k ≤ l.length
  g : Bool
  hg : ∀ j c, j < k → l[j]? = some c → c.id = x → ∀ a ∈ c.actsL, a.kind = kd → a.object = id → g = true
structure GinI (L : List ActD) (id : ByteArray) (kd : Int) (B : Bool → Prop) where
  k : Nat
  hk : k ≤ L.length
  g : Bool
  hB : B g
  hg : ∀ j a, j < k → L[j]? = some a → a.kind = kd → a.object = id → g = true
end Go.Proofs.YtlankpiogfhblaaGreatDoor
