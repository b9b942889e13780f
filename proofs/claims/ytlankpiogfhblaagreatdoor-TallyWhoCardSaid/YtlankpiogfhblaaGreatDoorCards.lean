/-
  DERIVED. GIVEN WITH THE SEED: THE CARDS: each row of YtlankpiogfhblaaGreatDoorRows.lean that lists a variable, with what it lists TIED to the program's text (the seventh form; the later family's looks); each row that meets fmt, with fmt's text TOLD by the authors' own Lean function (tested against real Go, not proved from fmt's source: count such statements apart). THE CARD IS WHAT COUNTS. Prove the row's statement (the work); the ties are given (YtlankpiogfhblaaGreatDoorTie.lean); close each card by the builder's one call (the guide's Derived/Test/ToyasCard.lean, 'card_holds'). Laid BY PROGRAM, IN A SANDBOX (cutbox-door.mjs). By AI agents, Wed Nov 11 2026. No macro, syntax, notation, axiom, sorry.
-/
import Derived.Test.YtlankpiogfhblaaGreatDoorRows
import GoSem.ClaimSeven
namespace Go.Proofs.YtlankpiogfhblaaGreatDoor
namespace Rows

/-- THE TIED CARD OF 'agoralaw28.TallyWho'. -/
def tallyWhoCard : Claim7 := { stood := { row := tallyWhoRow, standIns := [], harness := (true, "e9a270a9e49ba7e6d5cc6210ff236c21ad7fce68c84921407c99acdc75419dee"), looks := false }, kinds := [], alts := [], laidByText := true, laidKinds := [.data, .data], laidTests := true, laidLooks := .later }
def TallyWhoCardSaid : Prop := Claim7.holds Tryz.pinned (.plain (OpenSpec.ofChange tallyWhoSpec)) tallyWhoCard

/-- THE SECOND FORM's CARD OF 'agoralaw28.TallyWho'. -/
def tallyWhoUptoCard : Claim7 := { stood := { row := tallyWhoUptoRow, standIns := [], harness := (true, "e9a270a9e49ba7e6d5cc6210ff236c21ad7fce68c84921407c99acdc75419dee"), looks := false }, kinds := [], alts := [], laidByText := true, laidKinds := [.data, .data], laidTests := true, laidLooks := .later }
def TallyWhoUptoCardSaid : Prop := Claim7.holds Tryz.pinned (.plain (OpenSpec.upto tallyWhoSpec)) tallyWhoUptoCard
end Rows
end Go.Proofs.YtlankpiogfhblaaGreatDoor
