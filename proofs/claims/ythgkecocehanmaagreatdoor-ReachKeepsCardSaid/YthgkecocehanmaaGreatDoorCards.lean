/-
  DERIVED. GIVEN WITH THE SEED: THE CARDS: each row of YthgkecocehanmaaGreatDoorRows.lean that lists a variable, with what it lists TIED to the program's text (the seventh form; the later family's looks); each row that meets fmt, with fmt's text TOLD by the authors' own Lean function (tested against real Go, not proved from fmt's source: count such statements apart). THE CARD IS WHAT COUNTS. Prove the row's statement (the work); the ties are given (YthgkecocehanmaaGreatDoorTie.lean); close each card by the builder's one call (the guide's Derived/Test/ToyasCard.lean, 'card_holds'). Laid BY PROGRAM, IN A SANDBOX (cutbox-door.mjs). By AI agents, Wed Nov 11 2026. No macro, syntax, notation, axiom, sorry.
-/
import Derived.Test.YthgkecocehanmaaGreatDoorRows
import GoSem.ClaimSeven
namespace Go.Proofs.YthgkecocehanmaaGreatDoor
namespace Rows

/-- THE TIED CARD OF 'agoralaw25.ReachKeeps'. -/
def reachKeepsCard : Claim7 := { stood := { row := reachKeepsRow, standIns := [], harness := (true, "ea3854d79d80242cf372b4aaed661b65e141e8e36b82c7cae194468b482507ee"), looks := false }, kinds := [], alts := [], laidByText := true, laidKinds := [.data, .data], laidTests := true, laidLooks := .later }
def ReachKeepsCardSaid : Prop := Claim7.holds Tryz.pinned (.plain (OpenSpec.ofChange reachKeepsSpec)) reachKeepsCard

/-- THE TIED CARD OF 'agoralaw21.RelationLists'. -/
def relationListsCard : Claim7 := { stood := { row := relationListsRow, standIns := [], harness := (true, "ea3854d79d80242cf372b4aaed661b65e141e8e36b82c7cae194468b482507ee"), looks := false }, kinds := [], alts := [], laidByText := true, laidKinds := [.data, .data], laidTests := true, laidLooks := .later }
def RelationListsCardSaid : Prop := Claim7.holds Tryz.pinned (.plain (OpenSpec.ofChange relationListsSpec)) relationListsCard

/-- THE TIED CARD OF 'agoralaw21.RelationSteps'. -/
def relationStepsCard : Claim7 := { stood := { row := relationStepsRow, standIns := [], harness := (true, "ea3854d79d80242cf372b4aaed661b65e141e8e36b82c7cae194468b482507ee"), looks := false }, kinds := [], alts := [], laidByText := true, laidKinds := [.data, .data], laidTests := true, laidLooks := .later }
def RelationStepsCardSaid : Prop := Claim7.holds Tryz.pinned (.plain (OpenSpec.ofChange relationStepsSpec)) relationStepsCard

/-- THE TIED CARD OF 'agoralaw21.RelationBlocks'. -/
def relationBlocksCard : Claim7 := { stood := { row := relationBlocksRow, standIns := [], harness := (true, "ea3854d79d80242cf372b4aaed661b65e141e8e36b82c7cae194468b482507ee"), looks := false }, kinds := [], alts := [], laidByText := true, laidKinds := [.data, .data], laidTests := true, laidLooks := .later }
def RelationBlocksCardSaid : Prop := Claim7.holds Tryz.pinned (.plain (OpenSpec.ofChange relationBlocksSpec)) relationBlocksCard

/-- THE SECOND FORM's CARD OF 'agoralaw25.ReachKeeps'. -/
def reachKeepsUptoCard : Claim7 := { stood := { row := reachKeepsUptoRow, standIns := [], harness := (true, "ea3854d79d80242cf372b4aaed661b65e141e8e36b82c7cae194468b482507ee"), looks := false }, kinds := [], alts := [], laidByText := true, laidKinds := [.data, .data], laidTests := true, laidLooks := .later }
def ReachKeepsUptoCardSaid : Prop := Claim7.holds Tryz.pinned (.plain (OpenSpec.upto reachKeepsSpec)) reachKeepsUptoCard

/-- THE SECOND FORM's CARD OF 'agoralaw21.RelationLists'. -/
def relationListsUptoCard : Claim7 := { stood := { row := relationListsUptoRow, standIns := [], harness := (true, "ea3854d79d80242cf372b4aaed661b65e141e8e36b82c7cae194468b482507ee"), looks := false }, kinds := [], alts := [], laidByText := true, laidKinds := [.data, .data], laidTests := true, laidLooks := .later }
def RelationListsUptoCardSaid : Prop := Claim7.holds Tryz.pinned (.plain (OpenSpec.upto relationListsSpec)) relationListsUptoCard

/-- THE SECOND FORM's CARD OF 'agoralaw21.RelationSteps'. -/
def relationStepsUptoCard : Claim7 := { stood := { row := relationStepsUptoRow, standIns := [], harness := (true, "ea3854d79d80242cf372b4aaed661b65e141e8e36b82c7cae194468b482507ee"), looks := false }, kinds := [], alts := [], laidByText := true, laidKinds := [.data, .data], laidTests := true, laidLooks := .later }
def RelationStepsUptoCardSaid : Prop := Claim7.holds Tryz.pinned (.plain (OpenSpec.upto relationStepsSpec)) relationStepsUptoCard

/-- THE SECOND FORM's CARD OF 'agoralaw21.RelationBlocks'. -/
def relationBlocksUptoCard : Claim7 := { stood := { row := relationBlocksUptoRow, standIns := [], harness := (true, "ea3854d79d80242cf372b4aaed661b65e141e8e36b82c7cae194468b482507ee"), looks := false }, kinds := [], alts := [], laidByText := true, laidKinds := [.data, .data], laidTests := true, laidLooks := .later }
def RelationBlocksUptoCardSaid : Prop := Claim7.holds Tryz.pinned (.plain (OpenSpec.upto relationBlocksSpec)) relationBlocksUptoCard
end Rows
end Go.Proofs.YthgkecocehanmaaGreatDoor
