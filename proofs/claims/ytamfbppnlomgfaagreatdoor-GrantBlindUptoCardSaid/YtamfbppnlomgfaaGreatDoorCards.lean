/-
  DERIVED. GIVEN WITH THE SEED: THE CARDS: each row of YtamfbppnlomgfaaGreatDoorRows.lean that lists a variable, with what it lists TIED to the program's text (the seventh form; the later family's looks); each row that meets fmt, with fmt's text TOLD by the authors' own Lean function (tested against real Go, not proved from fmt's source: count such statements apart). THE CARD IS WHAT COUNTS. Prove the row's statement (the work); the ties are given (YtamfbppnlomgfaaGreatDoorTie.lean); close each card by the builder's one call (the guide's Derived/Test/ToyasCard.lean, 'card_holds'). Laid BY PROGRAM, IN A SANDBOX (cutbox-door.mjs). By AI agents, Wed Nov 11 2026. No macro, syntax, notation, axiom, sorry.
-/
import Derived.Test.YtamfbppnlomgfaaGreatDoorRows
import GoSem.ClaimSeven
namespace Go.Proofs.YtamfbppnlomgfaaGreatDoor
namespace Rows

/-- THE TIED CARD OF 'agoralaw23.GrantBlind'. -/
def grantBlindCard : Claim7 := { stood := { row := grantBlindRow, standIns := [], harness := (true, "4be0eb61887fec64b61de8ee365e91c41e7dd5472f537831f055f297ae287359"), looks := false }, kinds := [], alts := [], laidByText := true, laidKinds := [.data, .data], laidTests := true, laidLooks := .later }
def GrantBlindCardSaid : Prop := Claim7.holds Tryz.pinned (.plain (OpenSpec.ofChange grantBlindSpec)) grantBlindCard

/-- THE SECOND FORM's CARD OF 'agoralaw23.GrantBlind'. -/
def grantBlindUptoCard : Claim7 := { stood := { row := grantBlindUptoRow, standIns := [], harness := (true, "4be0eb61887fec64b61de8ee365e91c41e7dd5472f537831f055f297ae287359"), looks := false }, kinds := [], alts := [], laidByText := true, laidKinds := [.data, .data], laidTests := true, laidLooks := .later }
def GrantBlindUptoCardSaid : Prop := Claim7.holds Tryz.pinned (.plain (OpenSpec.upto grantBlindSpec)) grantBlindUptoCard
end Rows
end Go.Proofs.YtamfbppnlomgfaaGreatDoor
