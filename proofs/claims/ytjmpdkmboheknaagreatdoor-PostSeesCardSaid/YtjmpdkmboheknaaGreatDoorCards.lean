/-
  DERIVED. GIVEN WITH THE SEED: THE CARDS: each row of YtjmpdkmboheknaaGreatDoorRows.lean that lists a variable, with what it lists TIED to the program's text (the seventh form; the later family's looks); each row that meets fmt, with fmt's text TOLD by the authors' own Lean function (tested against real Go, not proved from fmt's source: count such statements apart). THE CARD IS WHAT COUNTS. Prove the row's statement (the work); the ties are given (YtjmpdkmboheknaaGreatDoorTie.lean); close each card by the builder's one call (the guide's Derived/Test/ToyasCard.lean, 'card_holds'). Laid BY PROGRAM, IN A SANDBOX (cutbox-door.mjs). By AI agents, Wed Nov 11 2026. No macro, syntax, notation, axiom, sorry.
-/
import Derived.Test.YtjmpdkmboheknaaGreatDoorRows
import GoSem.ClaimSeven
namespace Go.Proofs.YtjmpdkmboheknaaGreatDoor
namespace Rows

/-- THE TIED CARD OF 'agoralaw26.PostReads'. -/
def postReadsCard : Claim7 := { stood := { row := postReadsRow, standIns := [], harness := (true, "17902b67c024e506b647b95761bad3cf93cd2e717510fa0e673f2bec983e6f59"), looks := false }, kinds := [], alts := [], laidByText := true, laidKinds := [.data, .data], laidTests := true, laidLooks := .later }
def PostReadsCardSaid : Prop := Claim7.holds Tryz.pinned (.plain (OpenSpec.ofChange postReadsSpec)) postReadsCard

/-- THE TIED CARD OF 'agoralaw26.PostGrows'. -/
def postGrowsCard : Claim7 := { stood := { row := postGrowsRow, standIns := [], harness := (true, "17902b67c024e506b647b95761bad3cf93cd2e717510fa0e673f2bec983e6f59"), looks := false }, kinds := [], alts := [], laidByText := true, laidKinds := [.data, .data], laidTests := true, laidLooks := .later }
def PostGrowsCardSaid : Prop := Claim7.holds Tryz.pinned (.plain (OpenSpec.ofChange postGrowsSpec)) postGrowsCard

/-- THE TIED CARD OF 'agoralaw26.PostSees'. -/
def postSeesCard : Claim7 := { stood := { row := postSeesRow, standIns := [], harness := (true, "17902b67c024e506b647b95761bad3cf93cd2e717510fa0e673f2bec983e6f59"), looks := false }, kinds := [], alts := [], laidByText := true, laidKinds := [.data, .data], laidTests := true, laidLooks := .later }
def PostSeesCardSaid : Prop := Claim7.holds Tryz.pinned (.plain (OpenSpec.ofChange postSeesSpec)) postSeesCard

/-- THE SECOND FORM's CARD OF 'agoralaw26.PostReads'. -/
def postReadsUptoCard : Claim7 := { stood := { row := postReadsUptoRow, standIns := [], harness := (true, "17902b67c024e506b647b95761bad3cf93cd2e717510fa0e673f2bec983e6f59"), looks := false }, kinds := [], alts := [], laidByText := true, laidKinds := [.data, .data], laidTests := true, laidLooks := .later }
def PostReadsUptoCardSaid : Prop := Claim7.holds Tryz.pinned (.plain (OpenSpec.upto postReadsSpec)) postReadsUptoCard

/-- THE SECOND FORM's CARD OF 'agoralaw26.PostGrows'. -/
def postGrowsUptoCard : Claim7 := { stood := { row := postGrowsUptoRow, standIns := [], harness := (true, "17902b67c024e506b647b95761bad3cf93cd2e717510fa0e673f2bec983e6f59"), looks := false }, kinds := [], alts := [], laidByText := true, laidKinds := [.data, .data], laidTests := true, laidLooks := .later }
def PostGrowsUptoCardSaid : Prop := Claim7.holds Tryz.pinned (.plain (OpenSpec.upto postGrowsSpec)) postGrowsUptoCard

/-- THE SECOND FORM's CARD OF 'agoralaw26.PostSees'. -/
def postSeesUptoCard : Claim7 := { stood := { row := postSeesUptoRow, standIns := [], harness := (true, "17902b67c024e506b647b95761bad3cf93cd2e717510fa0e673f2bec983e6f59"), looks := false }, kinds := [], alts := [], laidByText := true, laidKinds := [.data, .data], laidTests := true, laidLooks := .later }
def PostSeesUptoCardSaid : Prop := Claim7.holds Tryz.pinned (.plain (OpenSpec.upto postSeesSpec)) postSeesUptoCard
end Rows
end Go.Proofs.YtjmpdkmboheknaaGreatDoor
