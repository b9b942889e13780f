/- Package agoralaw28: the examples. -/
import Derived.Test.YtlankpiogfhblaaGreatDoorPy
set_option linter.unusedVariables false
set_option linter.unusedSimpArgs false
namespace Go.Proofs.YtlankpiogfhblaaGreatDoor
open Go Go.Proofs Sy
def sx28 : ByteArray := ⟨#[120]⟩
def smP28 : ByteArray := ⟨#[48, 49, 50, 51, 52, 53, 54, 55, 56, 57, 48, 49, 50, 51, 52, 53, 54, 55, 56, 57, 48, 49, 50, 51, 52, 53, 54, 55, 56, 57, 48, 49]⟩
def smA28 : ActD := { ActD.zero with author := idA, kind := 0, text := sx28, n := 1 }
def smB28 : ActD := { ActD.zero with author := idA, seq := 1, prev := smP28, kind := 1, text := sx28 }
def smL28 : List ActD := [smA28, smB28]
def smC28 (b : Nat) : ChainD := ⟨idA, ⟨some ⟨b, 0, none⟩, 2, 2⟩, ⟨none, 0, 0⟩, ⟨#[]⟩, 0, false, smL28⟩
def smK28 (id : ByteArray) : ActD := { ActD.zero with kind := 5, object := id }
def smO28 : ActD := { ActD.zero with kind := 4, object := sx28 }
def smM28 (id : ByteArray) : List ActD := [smK28 id, smK28 id, smO28]
def smD28 (id : ByteArray) (b : Nat) : ChainD := ⟨idB, ⟨some ⟨b, 0, none⟩, 3, 3⟩, ⟨none, 0, 0⟩, ⟨#[]⟩, 0, false, smM28 id⟩
def smI28 : ByteArray := digV smB28
theorem digV_size (a : ActD) : (digV a).size = 0 ∨ (digV a).size = 32 := by
  rw [digV]
  cases seqB (bytesV a) ⟨#[]⟩ with
  | true => rw [cond_true]; exact .inl rfl
  | false => rw [cond_false]; exact .inr (shaV_size _)
theorem smI28_x : seqB smI28 sx28 = false := by
  cases h : seqB smI28 sx28 with
  | false => rfl
  | true =>
    have h1 := seqB_iff.1 h
    have h2 := digV_size smB28
    rw [show digV smB28 = smI28 from rfl, h1] at h2
    rcases h2 with h2 | h2 <;> cases h2
theorem sx28_I : seqB sx28 smI28 = false := by
  cases h : seqB sx28 smI28 with
  | false => rfl
  | true => rw [← smI28_x, seqB_iff.1 h]; exact (seqB_self _).symm
theorem smPostC (b : Nat) : postsV (smC28 b) = [newP idA 1 smB28] := by kernel_rfl
theorem smPostD (id : ByteArray) (b : Nat) : postsV (smD28 id b) = [] := by kernel_rfl
theorem smHasC5 (id : ByteArray) (b : Nat) : hasV (smC28 b) 5 id = false := by kernel_rfl
theorem smHasC4 (id : ByteArray) (b : Nat) : hasV (smC28 b) 4 id = false := by kernel_rfl
theorem smHasD5 (id : ByteArray) (b : Nat) : hasV (smD28 id b) 5 id = true := by
  have e : seqB id id = true := seqB_self id
  have h1 : hasM (smD28 id b) 5 id 1 = bif seqB id id then [(0, .bool true)] else [] := by kernel_rfl
  rw [e] at h1
  have h2 : hasM (smD28 id b) 5 id 2 = bif seqB id id then mput (hasM (smD28 id b) 5 id 1) 1 (.bool true) else hasM (smD28 id b) 5 id 1 := by kernel_rfl
  rw [e, h1] at h2
  have h3 : hasM (smD28 id b) 5 id 3 = hasM (smD28 id b) 5 id 2 := by kernel_rfl
  show decide (0 < (hasM (smD28 id b) 5 id 3).length) = true
  rw [h3, h2]
  kernel_rfl
theorem smHasD4 {id : ByteArray} (h : seqB sx28 id = false) (b : Nat) : hasV (smD28 id b) 4 id = false := by
  have h1 : hasM (smD28 id b) 4 id 3 = bif seqB sx28 id then [(2, .bool true)] else [] := by kernel_rfl
  rw [h] at h1
  show decide (0 < (hasM (smD28 id b) 4 id 3).length) = false
  rw [h1]
  rfl
theorem smBlock (id : ByteArray) (b b2 : Nat) : admV [smC28 b, smD28 id b2] idB idA = true := by kernel_rfl
theorem smLive (b b2 : Nat) : liveV [smC28 b, smD28 smI28 b2] smI28 = some (newP idA 1 smB28) := by
  have h : findPV [smC28 b, smD28 smI28 b2] smI28 = some (newP idA 1 smB28) := by
    rw [findPV, List.flatMap_cons, List.flatMap_cons, smPostC, smPostD]
    show List.find? _ (newP idA 1 smB28 :: _) = _
    rw [List.find?_cons_of_pos (by show seqB (digV smB28) smI28 = true; exact seqB_self _)]
  rw [liveV, h]
  rfl
theorem smDead (b b2 : Nat) : liveV [smC28 b, smD28 smI28 b2] sx28 = none := by
  have h : findPV [smC28 b, smD28 smI28 b2] sx28 = none := by
    rw [findPV, List.flatMap_cons, List.flatMap_cons, smPostC, smPostD]
    show List.find? _ [newP idA 1 smB28] = _
    rw [List.find?_cons_of_neg (by show ¬ seqB smI28 sx28 = true; rw [smI28_x]; decide)]
    rfl
  rw [liveV, h]
theorem smAct5 (b b2 : Nat) : actorsV [smC28 b, smD28 smI28 b2] (newP idA 1 smB28) 5 = [idB] := by
  have h : actF [smC28 b, smD28 smI28 b2] (newP idA 1 smB28) 5 2 = [idB] := by
    have h1 : actF [smC28 b, smD28 smI28 b2] (newP idA 1 smB28) 5 1 = [] := by
      have h0 : actF [smC28 b, smD28 smI28 b2] (newP idA 1 smB28) 5 1 = bif (bif hasV (smC28 b) 5 smI28 then admV [smC28 b, smD28 smI28 b2] idA idA else false) then [idA] else [] := by kernel_rfl
      rw [h0, smHasC5]; rfl
    have h2 : actF [smC28 b, smD28 smI28 b2] (newP idA 1 smB28) 5 2 = bif actB [smC28 b, smD28 smI28 b2] (newP idA 1 smB28) 5 (actF [smC28 b, smD28 smI28 b2] (newP idA 1 smB28) 5 1) (smD28 smI28 b2) then sput (actF [smC28 b, smD28 smI28 b2] (newP idA 1 smB28) 5 1) idB else actF [smC28 b, smD28 smI28 b2] (newP idA 1 smB28) 5 1 := by kernel_rfl
    rw [h2, h1]
    have h3 : actB [smC28 b, smD28 smI28 b2] (newP idA 1 smB28) 5 [] (smD28 smI28 b2) = true := by
      have h4 : actB [smC28 b, smD28 smI28 b2] (newP idA 1 smB28) 5 [] (smD28 smI28 b2) = bif hasV (smD28 smI28 b2) 5 smI28 then admV [smC28 b, smD28 smI28 b2] idB idA else false := by kernel_rfl
      rw [h4, smHasD5, smBlock]; rfl
    rw [h3]
    rfl
  show sortB (actF _ _ _ 2) = _
  rw [h]
  exact (asc_sortB (List.nodup_cons.2 ⟨List.not_mem_nil, List.nodup_nil⟩)).ext (List.pairwise_singleton _ _) fun x => mem_sortB
theorem smAct4 (b b2 : Nat) : actorsV [smC28 b, smD28 smI28 b2] (newP idA 1 smB28) 4 = [] := by
  have h1 : actF [smC28 b, smD28 smI28 b2] (newP idA 1 smB28) 4 1 = [] := by
    have h0 : actF [smC28 b, smD28 smI28 b2] (newP idA 1 smB28) 4 1 = bif (bif hasV (smC28 b) 4 smI28 then admV [smC28 b, smD28 smI28 b2] idA idA else false) then [idA] else [] := by kernel_rfl
    rw [h0, smHasC4]; rfl
  have h2 : actF [smC28 b, smD28 smI28 b2] (newP idA 1 smB28) 4 2 = bif actB [smC28 b, smD28 smI28 b2] (newP idA 1 smB28) 4 (actF [smC28 b, smD28 smI28 b2] (newP idA 1 smB28) 4 1) (smD28 smI28 b2) then sput (actF [smC28 b, smD28 smI28 b2] (newP idA 1 smB28) 4 1) idB else actF [smC28 b, smD28 smI28 b2] (newP idA 1 smB28) 4 1 := by kernel_rfl
  have h3 : actB [smC28 b, smD28 smI28 b2] (newP idA 1 smB28) 4 [] (smD28 smI28 b2) = false := by
    have h4 : actB [smC28 b, smD28 smI28 b2] (newP idA 1 smB28) 4 [] (smD28 smI28 b2) = bif hasV (smD28 smI28 b2) 4 smI28 then admV [smC28 b, smD28 smI28 b2] idB idA else false := by kernel_rfl
    rw [h4, smHasD4 sx28_I]; rfl
  show sortB (actF _ _ _ 2) = _
  rw [h2, h1, h3, cond_false]
  simp [sortB]
theorem smTally (b b2 : Nat) : tallyV [smC28 b, smD28 smI28 b2] smI28 = ⟨1, 0, 0⟩ := by
  rw [tallyV, smLive]
  show TalD.mk (actorsV _ _ 5).length (actorsV _ _ 4).length _ = _
  rw [smAct5, smAct4, List.flatMap_cons, List.flatMap_cons, smPostC, smPostD]
  rfl
theorem smTallyX (b b2 : Nat) : tallyV [smC28 b, smD28 smI28 b2] sx28 = ⟨0, 0, 0⟩ := by rw [tallyV, smDead]
theorem smTally0 (id : ByteArray) : tallyV [] id = ⟨0, 0, 0⟩ := rfl
theorem smWho5 (b b2 : Nat) : whoV [smC28 b, smD28 smI28 b2] smI28 5 = [idB] := by
  rw [whoV, smLive]
  exact smAct5 b b2
theorem smWho7 (l : List ChainD) (id : ByteArray) : whoV l id 7 = [] := rfl
theorem smWho0 (id : ByteArray) : whoV [] id 5 = [] := rfl
end Go.Proofs.YtlankpiogfhblaaGreatDoor
