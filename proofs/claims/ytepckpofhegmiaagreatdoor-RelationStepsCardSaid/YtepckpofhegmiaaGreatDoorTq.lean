/- Nothing that the tale asks sees the headers of an activity's rows. No program in sight. -/
import Derived.Test.YtepckpofhegmiaaGreatDoorTp
import Derived.Test.YtepckpofhegmiaaGreatDoorRu
set_option linter.unusedVariables false
set_option linter.unusedSimpArgs false
namespace Go.Proofs.YtepckpofhegmiaaGreatDoor
open Go Go.Proofs Sy
theorem can_dig (a : ActD) : digV a.can = digV a := dig_re rfl rfl
theorem getD_can (l : List ActD) (i : Nat) : (l.map ActD.can).getD i ActD.zero = (l.getD i ActD.zero).can := by
  rw [List.getD_eq_getElem?_getD, List.getD_eq_getElem?_getD, List.getElem?_map]
  cases l[i]? <;> rfl
theorem idxV_can (l : List ActD) (d : ByteArray) : idxV (l.map ActD.can) d = idxV l d := by
  rw [idxV, idxV, List.findIdx?_map]
  exact congrArg (fun p => l.findIdx? p) (funext fun a => by
    show seqB (digV a.can) d = _
    rw [can_dig])
theorem fitsV_can (c : ChainD) (a : ActD) (o : Option Nat) : fitsV c.can a o = fitsV c a o := by
  have h : ∀ p, atK c.can o p = atK c o p := fun p => by
    cases o with
    | none => rfl
    | some j =>
      show p ((c.actsL.map ActD.can).getD j ActD.zero).kind = p (c.actsL.getD j ActD.zero).kind
      rw [getD_can]
      rfl
  rw [fitsV, fitsV, h, h]
  rfl
theorem fitsV_re (c : ChainD) (a : ActD) (o : Option Nat) {s1 s2 : SlV} (h1 : s1.n = a.to.n) (h2 : s2.n = a.wraps.n) : fitsV c (a.re s1 s2) o = fitsV c a o := by
  rw [fitsV, fitsV, right_re h1 h2]
  rfl
theorem draftW_can (c : ChainD) (w : WishD) (ks : List ByteArray) : draftW c.can w ks = draftW c w ks := rfl
theorem undoT_can (t : TieS) (a : ActD) : undoT t a.can = undoT t a := rfl
theorem stepT_can (l : List ActD) (i : Nat) (t : TieS) (x : ActD) : stepT (l.map ActD.can) i t x.can = stepT l i t x := by
  rw [stepT, stepT, show x.can.kind = x.kind from rfl, show x.can.target = x.target from rfl, show x.can.object = x.object from rfl, idxV_can]
  cases idxV l x.object with
  | none => rfl
  | some j => simp only [getD_can, undoT_can]
theorem tieF_can (l : List ActD) : ∀ n, tieF (l.map ActD.can) n = tieF l n
  | 0 => rfl
  | n + 1 => by rw [tieF, tieF, tieF_can l n, getD_can, stepT_can]
theorem tieV_can (l : List ActD) (n : Int) : tieV (l.map ActD.can) n = tieV l n := by
  rw [tieV, tieV, tieF_can, List.length_map]
theorem findC_can (l : List ChainD) (id : ByteArray) : findC (l.map ChainD.can) id = (findC l id).map ChainD.can := by
  rw [findC, findC, List.find?_map]
  rfl
theorem chainC_can (l : List ChainD) (id : ByteArray) : chainC (l.map ChainD.can) id = (chainC l id).can := by
  rw [chainC, chainC, findC_can]
  cases findC l id <;> rfl
theorem tieC_can (l : List ChainD) (id : ByteArray) : tieC (l.map ChainD.can) id = tieC l id := by
  rw [tieC, tieC, chainC_can]
  exact tieV_can _ _
theorem followsV_can (l : List ChainD) (a b : ByteArray) : followsV (l.map ChainD.can) a b = followsV l a b := by
  rw [followsV, followsV, tieC_can, tieC_can]
theorem blockedV_can (l : List ChainD) (a b : ByteArray) : blockedV (l.map ChainD.can) a b = blockedV l a b := by
  rw [blockedV, blockedV, tieC_can, tieC_can]
theorem fersF_can (l : List ChainD) (id : ByteArray) : ∀ n, fersF (l.map ChainD.can) id n = fersF l id n
  | 0 => rfl
  | n + 1 => by
    have e : ((l.map ChainD.can).getD n ChainD.zero).id = (l.getD n ChainD.zero).id := by
      rw [List.getD_eq_getElem?_getD, List.getD_eq_getElem?_getD, List.getElem?_map]
      cases l[n]? <;> rfl
    rw [fersF, fersF, fersF_can l id n, followsV_can, e]
theorem fersV_can (l : List ChainD) (id : ByteArray) : fersV (l.map ChainD.can) id = fersV l id := by
  rw [fersV, fersV, fersF_can, List.length_map]
theorem fingF_can (l : List ChainD) (id : ByteArray) (ks : List ByteArray) : ∀ n, fingF (l.map ChainD.can) id ks n = fingF l id ks n
  | 0 => rfl
  | n + 1 => by rw [fingF, fingF, fingF_can l id ks n, followsV_can]
theorem fingV_can (l : List ChainD) (id : ByteArray) : fingV (l.map ChainD.can) id = fingV l id := by
  rw [fingV, fingV, tieC_can, fingF_can]
end Go.Proofs.YtepckpofhegmiaaGreatDoor
