/- Posts of a chain as data: the model of post.Of. Plain. -/
import Derived.Test.YtlankpiogfhblaaGreatDoorRn
import Derived.Test.YtlankpiogfhblaaGreatDoorMf
set_option linter.unusedVariables false
set_option linter.unusedSimpArgs false
namespace Go.Proofs.YtlankpiogfhblaaGreatDoor
open Go Go.Proofs Sy
structure PostD where
  id : ByteArray
  author : ByteArray
  pos : Nat
  kind : Int
  scope : Int
  group : ByteArray
  to : SlV
  object : ByteArray
  time : Int
  ed : SlV
  gone : Bool
  toL : List ByteArray
  edL : List Int
def PostD.cells (p : PostD) : List Value := [.string p.id, .string p.author, .int .i64 (p.pos : Nat), .int .i64 p.kind, .int .i64 p.scope, .string p.group, p.to.v, .string p.object, .int .i64 p.time, p.ed.v, .bool p.gone]
def PostD.v (p : PostD) : Value := .agg p.cells.toArray
def PostD.zero : PostD := ⟨⟨#[]⟩, ⟨#[]⟩, 0, 0, 0, ⟨#[]⟩, ⟨none, 0, 0⟩, ⟨#[]⟩, 0, ⟨none, 0, 0⟩, false, [], []⟩
theorem cells11 (L : List PostD) : ∀ r ∈ L.map PostD.cells, r.length = 11 := fun r hr => by
  obtain ⟨c, _, rfl⟩ := List.mem_map.1 hr
  rfl
/-- Its edits, a row of the call's own. -/
def edR (p : PostD) : Res := orow 3 1 (.slice p.ed.p p.ed.n p.ed.c) p.ed.n (p.edL.map fun n => .int .i64 n)
/-- A post whose headers are no longer told apart. -/
def PostD.can (p : PostD) : PostD := { p with to := ⟨none, 0, 0⟩, ed := ⟨none, 0, 0⟩ }
def newP (id : ByteArray) (i : Nat) (a : ActD) : PostD := ⟨digV a, id, i, a.kind, a.scope, a.group, ⟨none, 0, 0⟩, a.object, a.time, ⟨none, 0, 0⟩, false, a.toL, []⟩
def openF (c : ChainD) : Nat → List PostD
  | 0 => []
  | i + 1 => openF c i ++ (bif postK (c.actsL.getD i ActD.zero).kind then [newP c.id i (c.actsL.getD i ActD.zero)] else [])
def posP (P : List PostD) (j : Nat) : Option Nat := P.findIdx? fun p => p.pos == j
def refV (l : List ActD) (P : List PostD) (i : Nat) : Option Nat := match idxV l (l.getD i ActD.zero).object with
  | some j => bif decide (j < i) then posP P j else none
  | none => none
def goneP (p : PostD) : PostD := { p with gone := true }
def editB (a : ActD) (p : PostD) : Bool := !p.gone && decide (a.scope = p.scope) && seqB a.group p.group && eqL a.toL p.toL
def editP (a : ActD) (i : Nat) (p : PostD) : PostD := bif editB a p then { p with edL := p.edL ++ [(i : Int)] } else p
def modP (P : List PostD) (o : Option Nat) (f : PostD → PostD) : List PostD := match o with
  | some n => P.set n (f (P.getD n PostD.zero))
  | none => P
def stepP (l : List ActD) (i : Nat) (P : List PostD) : List PostD :=
  bif decide ((l.getD i ActD.zero).kind = 13) then modP P (refV l P i) goneP else bif decide ((l.getD i ActD.zero).kind = 14) then modP P (refV l P i) (editP (l.getD i ActD.zero) i) else P
def ofP (c : ChainD) : Nat → List PostD
  | 0 => openF c c.actsL.length
  | i + 1 => stepP c.actsL i (ofP c i)
/-- post.Of, told without headers. -/
def postsV (c : ChainD) : List PostD := ofP c c.actsL.length
theorem posP_can (P : List PostD) (j : Nat) : posP (P.map PostD.can) j = posP P j := by
  rw [posP, posP, List.findIdx?_map]
  rfl
theorem refV_can (l : List ActD) (P : List PostD) (i : Nat) : refV l (P.map PostD.can) i = refV l P i := by
  rw [refV, refV]
  cases idxV l (l.getD i ActD.zero).object with
  | none => rfl
  | some j => simp only [posP_can]
theorem getD_canP (P : List PostD) (n : Nat) : (P.map PostD.can).getD n PostD.zero = (P.getD n PostD.zero).can := by
  rw [List.getD_eq_getElem?_getD, List.getD_eq_getElem?_getD, List.getElem?_map]
  cases P[n]? <;> rfl
theorem openF_len (c : ChainD) : ∀ i, (openF c i).length ≤ i
  | 0 => Nat.le_refl _
  | i + 1 => by
    have ih := openF_len c i
    rw [openF, List.length_append]
    cases postK (c.actsL.getD i ActD.zero).kind with
    | true => simp only [cond_true, List.length_singleton]; omega
    | false => simp only [cond_false, List.length_nil]; omega
theorem posP_lt {P : List PostD} {j n : Nat} (h : posP P j = some n) : n < P.length := by
  rw [posP, List.findIdx?_eq_some_iff_getElem] at h
  exact h.1
theorem openF_pos (c : ChainD) : ∀ i, ∀ p ∈ openF c i, p.pos < i
  | 0, p, h => (List.not_mem_nil h).elim
  | i + 1, p, h => by
    rw [openF] at h
    rcases List.mem_append.1 h with h | h
    · have := openF_pos c i p h
      omega
    · revert h
      cases postK (c.actsL.getD i ActD.zero).kind with
      | true => intro h; rw [cond_true, List.mem_singleton] at h; subst h; exact Nat.lt_succ_self i
      | false => intro h; exact (List.not_mem_nil h).elim
theorem mget_mputG {κ β : Type} [KeyT κ] : ∀ (b : List (κ × β)) (k a : κ) (v : β), mget (mput b k v) a = bif KeyT.eqb a k then some v else mget b a
  | [], k, a, v => rfl
  | (k', v') :: r, k, a, v => by
    have ih := mget_mputG r k a v
    simp only [mput]
    cases hk : KeyT.eqb k k' with
    | true =>
      obtain rfl := (KeyT.eqb_iff k k').1 hk
      simp only [cond_true, mget]
      cases KeyT.eqb a k <;> rfl
    | false =>
      simp only [cond_false, mget, ih]
      cases ha : KeyT.eqb a k' with
      | true =>
        obtain rfl := (KeyT.eqb_iff a k').1 ha
        have hne : KeyT.eqb a k = false := by
          rw [← Bool.not_eq_true]
          intro e
          rw [(KeyT.eqb_iff a k).1 e, (KeyT.eqb_iff k k).2 rfl] at hk
          cases hk
        rw [hne]
        rfl
      | false => rfl
theorem idxV_take {l : List ActD} {k : Nat} {x : ActD} (hx : l[k]? = some x) (d : ByteArray) : idxV (l.take (k + 1)) d = (idxV (l.take k) d).or (bif seqB (digV x) d then some k else none) := by
  have hk : k < l.length := (List.getElem?_eq_some_iff.1 hx).1
  have hl : (l.take k).length = k := by rw [List.length_take]; omega
  rw [idxV, idxV, List.take_add_one, hx, Option.toList_some, List.findIdx?_append, hl]
  congr 1
  rw [List.findIdx?_singleton]
  cases seqB (digV x) d with
  | true => simp
  | false => simp
theorem posP_append (P : List PostD) (p : PostD) (j : Nat) : posP (P ++ [p]) j = (posP P j).or (bif p.pos == j then some P.length else none) := by
  rw [posP, posP, List.findIdx?_append]
  congr 1
  rw [List.findIdx?_singleton]
  cases p.pos == j with
  | true => simp
  | false => simp
theorem posP_none {P : List PostD} {j : Nat} (h : ∀ p ∈ P, p.pos ≠ j) : posP P j = none := by
  rw [posP, List.findIdx?_eq_none_iff]
  intro p hp
  simpa using h p hp
theorem eqbI (a b : Int) : KeyT.eqb a b = decide (a = b) := rfl
end Go.Proofs.YtlankpiogfhblaaGreatDoor
