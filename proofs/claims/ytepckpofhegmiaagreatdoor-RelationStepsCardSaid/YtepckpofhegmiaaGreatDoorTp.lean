/- The tale of agoralaw21 as a plain fold; Draft for every wish that the small law makes. -/
import Derived.Test.YtepckpofhegmiaaGreatDoorTo
import Derived.Test.YtepckpofhegmiaaGreatDoorTl
set_option linter.unusedVariables false
set_option linter.unusedSimpArgs false
namespace Go.Proofs.YtepckpofhegmiaaGreatDoor
open Go Go.Proofs Sy
def draftW (c : ChainD) (w : WishD) (ks : List ByteArray) : ActD :=
  bif decide (w.do_ = 6) then { draftV c w.do_ w.time with object := ks.getD (pickV w.what (ks.length : Nat)).toNat .empty } else { draftV c w.do_ w.time with target := idA21 (pickV w.who (4 : Nat)).toNat }
def WishOk (w : WishD) (ks : List ByteArray) : Prop := (w.do_ = 7 ∨ w.do_ = 8 ∨ w.do_ = 10) ∨ (w.do_ = 6 ∧ 0 < ks.length)
theorem draftW_pu (c : ChainD) (w : WishD) (s : SlV) (ks : List ByteArray) (hw : WishOk w ks) : Pu Tryz.prog 28 #[c.v, w.v, s.v] (fun w => Strs w s ks ∧ Glob w) (draftW c w ks).v := by
  rcases hw with hk | ⟨hk, hl⟩
  · obtain ⟨p, hp4, hp⟩ := pickV_rng w.who 4 (by decide)
    have h := draftT_pu c w s p hp hp4 hk
    have e : draftW c w ks = { draftV c w.do_ w.time with target := idA21 p } := by
      rw [draftW, decide_eq_false (by omega), hp]
      rfl
    rw [e]
    exact pu_weak h fun w h => h.2
  · obtain ⟨p, hpl, hp⟩ := pickV_rng w.what ks.length hl
    obtain ⟨x, hx⟩ : ∃ x, ks[p]? = some x := ⟨_, List.getElem?_eq_getElem hpl⟩
    have h := draftO_pu c w s ks p hl hp hpl hk x hx
    have e : draftW c w ks = { draftV c w.do_ w.time with object := x } := by
      rw [draftW, decide_eq_true hk, hp, Int.toNat_natCast, List.getD_eq_getElem?_getD, hx]
      rfl
    rw [e]
    exact h
/-- One wish. The chains are told without their rows' headers. -/
def moreV (c : ChainD) (a : ActD) : ChainD := { c with acts := ⟨none, c.acts.n + 1, 0⟩, actsL := c.actsL ++ [a.can], prev := digV a }
def toldA (cs : List ChainD) (ks : List ByteArray) (w : WishD) : ActD :=
  actSignV (keyA (pickV w.by_ (4 : Nat)).toNat) (draftW (cs.getD (pickV w.by_ (4 : Nat)).toNat ChainD.zero) w ks)
def toldB (cs : List ChainD) (ks : List ByteArray) (w : WishD) : Bool :=
  fitsV (cs.getD (pickV w.by_ (4 : Nat)).toNat ChainD.zero) (toldA cs ks w) (idxV (cs.getD (pickV w.by_ (4 : Nat)).toNat ChainD.zero).actsL (toldA cs ks w).object)
def toldS (st : List ChainD × List ByteArray) (w : WishD) : List ChainD × List ByteArray :=
  bif toldB st.1 st.2 w then (st.1.set (pickV w.by_ (4 : Nat)).toNat (moreV (st.1.getD (pickV w.by_ (4 : Nat)).toNat ChainD.zero) (toldA st.1 st.2 w)), st.2 ++ [digV (toldA st.1 st.2 w)]) else st
def toldV (l : List WishD) : List ChainD × List ByteArray := l.foldl toldS ((List.range 4).map beginC, [])
end Go.Proofs.YtepckpofhegmiaaGreatDoor
