/-
  DERIVED. GIVEN WITH THE SEED: THE CARDS: each row of YtgffbiobmamobaaGreatDoorRows.lean that lists a variable, with what it lists TIED to the program's text (the seventh form; the later family's looks); each row that meets fmt, with fmt's text TOLD by the authors' own Lean function (tested against real Go, not proved from fmt's source: count such statements apart). THE CARD IS WHAT COUNTS. Prove the row's statement (the work); the ties are given (YtgffbiobmamobaaGreatDoorTie.lean); close each card by the builder's one call (the guide's Derived/Test/ToyasCard.lean, 'card_holds'). Laid BY PROGRAM, IN A SANDBOX (cutbox-door.mjs). By AI agents, Wed Nov 11 2026. No macro, syntax, notation, axiom, sorry.
-/
import Derived.Test.YtgffbiobmamobaaGreatDoorRows
import GoSem.ClaimSeven
namespace Go.Proofs.YtgffbiobmamobaaGreatDoor
namespace Rows

/-- THE TIED CARD OF 'agoralaw36.AppealEnds'. -/
def appealEndsCard : Claim7 := { stood := { row := appealEndsRow, standIns := [], harness := (true, "7b4bbb79a76d3ebc5f9bc0f43d5ca09a63c265d14fc24a1f551594026b65cc3a"), looks := false }, kinds := [], alts := [], laidByText := true, laidKinds := [.data, .data], laidTests := true, laidLooks := .later }
def AppealEndsCardSaid : Prop := Claim7.holds Tryz.pinned (.plain (OpenSpec.ofChange appealEndsSpec)) appealEndsCard

/-- THE SECOND FORM's CARD OF 'agoralaw36.AppealEnds'. -/
def appealEndsUptoCard : Claim7 := { stood := { row := appealEndsUptoRow, standIns := [], harness := (true, "7b4bbb79a76d3ebc5f9bc0f43d5ca09a63c265d14fc24a1f551594026b65cc3a"), looks := false }, kinds := [], alts := [], laidByText := true, laidKinds := [.data, .data], laidTests := true, laidLooks := .later }
def AppealEndsUptoCardSaid : Prop := Claim7.holds Tryz.pinned (.plain (OpenSpec.upto appealEndsSpec)) appealEndsUptoCard
end Rows
end Go.Proofs.YtgffbiobmamobaaGreatDoor
