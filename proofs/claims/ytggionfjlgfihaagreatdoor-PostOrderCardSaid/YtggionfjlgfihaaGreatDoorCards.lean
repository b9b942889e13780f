/-
  DERIVED. GIVEN WITH THE SEED: THE CARDS: each row of YtggionfjlgfihaaGreatDoorRows.lean that lists a variable, with what it lists TIED to the program's text (the seventh form; the later family's looks); each row that meets fmt, with fmt's text TOLD by the authors' own Lean function (tested against real Go, not proved from fmt's source: count such statements apart). THE CARD IS WHAT COUNTS. Prove the row's statement (the work); the ties are given (YtggionfjlgfihaaGreatDoorTie.lean); close each card by the builder's one call (the guide's Derived/Test/ToyasCard.lean, 'card_holds'). Laid BY PROGRAM, IN A SANDBOX (cutbox-door.mjs). By AI agents, Wed Nov 11 2026. No macro, syntax, notation, axiom, sorry.
-/
import Derived.Test.YtggionfjlgfihaaGreatDoorRows
import GoSem.ClaimSeven
namespace Go.Proofs.YtggionfjlgfihaaGreatDoor
namespace Rows

/-- THE TIED CARD OF 'agoralaw26.PostOrder'. -/
def postOrderCard : Claim7 := { stood := { row := postOrderRow, standIns := [], harness := (true, "e3e4cad654ad56f1e0bf3842e3186830a8b3cf15d69a3819c00fb9139edc4663"), looks := false }, kinds := [], alts := [], laidByText := true, laidKinds := [.data, .data], laidTests := true, laidLooks := .later }
def PostOrderCardSaid : Prop := Claim7.holds Tryz.pinned (.plain (OpenSpec.ofChange postOrderSpec)) postOrderCard

/-- THE SECOND FORM's CARD OF 'agoralaw26.PostOrder'. -/
def postOrderUptoCard : Claim7 := { stood := { row := postOrderUptoRow, standIns := [], harness := (true, "e3e4cad654ad56f1e0bf3842e3186830a8b3cf15d69a3819c00fb9139edc4663"), looks := false }, kinds := [], alts := [], laidByText := true, laidKinds := [.data, .data], laidTests := true, laidLooks := .later }
def PostOrderUptoCardSaid : Prop := Claim7.holds Tryz.pinned (.plain (OpenSpec.upto postOrderSpec)) postOrderUptoCard
end Rows
end Go.Proofs.YtggionfjlgfihaaGreatDoor
