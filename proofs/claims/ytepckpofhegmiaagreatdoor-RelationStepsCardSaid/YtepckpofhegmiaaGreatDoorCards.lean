/-
  DERIVED. GIVEN WITH THE SEED: THE CARDS: each row of YtepckpofhegmiaaGreatDoorRows.lean that lists a variable, with what it lists TIED to the program's text (the seventh form; the later family's looks); each row that meets fmt, with fmt's text TOLD by the authors' own Lean function (tested against real Go, not proved from fmt's source: count such statements apart). THE CARD IS WHAT COUNTS. Prove the row's statement (the work); the ties are given (YtepckpofhegmiaaGreatDoorTie.lean); close each card by the builder's one call (the guide's Derived/Test/ToyasCard.lean, 'card_holds'). Laid BY PROGRAM, IN A SANDBOX (cutbox-door.mjs). By AI agents, Wed Nov 11 2026. No macro, syntax, notation, axiom, sorry.
-/
import Derived.Test.YtepckpofhegmiaaGreatDoorRows
import GoSem.ClaimSeven
namespace Go.Proofs.YtepckpofhegmiaaGreatDoor
namespace Rows

/-- THE TIED CARD OF 'agoralaw21.RelationLists'. -/
def relationListsCard : Claim7 := { stood := { row := relationListsRow, standIns := [], harness := (true, "6078d228c62b2a29844ab57a3ba6035be891ebbf5b94e34ff2567a15f7f7c4f5"), looks := false }, kinds := [], alts := [], laidByText := true, laidKinds := [.data, .data], laidTests := true, laidLooks := .later }
def RelationListsCardSaid : Prop := Claim7.holds Tryz.pinned (.plain (OpenSpec.ofChange relationListsSpec)) relationListsCard

/-- THE TIED CARD OF 'agoralaw21.RelationSteps'. -/
def relationStepsCard : Claim7 := { stood := { row := relationStepsRow, standIns := [], harness := (true, "6078d228c62b2a29844ab57a3ba6035be891ebbf5b94e34ff2567a15f7f7c4f5"), looks := false }, kinds := [], alts := [], laidByText := true, laidKinds := [.data, .data], laidTests := true, laidLooks := .later }
def RelationStepsCardSaid : Prop := Claim7.holds Tryz.pinned (.plain (OpenSpec.ofChange relationStepsSpec)) relationStepsCard

/-- THE SECOND FORM's CARD OF 'agoralaw21.RelationLists'. -/
def relationListsUptoCard : Claim7 := { stood := { row := relationListsUptoRow, standIns := [], harness := (true, "6078d228c62b2a29844ab57a3ba6035be891ebbf5b94e34ff2567a15f7f7c4f5"), looks := false }, kinds := [], alts := [], laidByText := true, laidKinds := [.data, .data], laidTests := true, laidLooks := .later }
def RelationListsUptoCardSaid : Prop := Claim7.holds Tryz.pinned (.plain (OpenSpec.upto relationListsSpec)) relationListsUptoCard

/-- THE SECOND FORM's CARD OF 'agoralaw21.RelationSteps'. -/
def relationStepsUptoCard : Claim7 := { stood := { row := relationStepsUptoRow, standIns := [], harness := (true, "6078d228c62b2a29844ab57a3ba6035be891ebbf5b94e34ff2567a15f7f7c4f5"), looks := false }, kinds := [], alts := [], laidByText := true, laidKinds := [.data, .data], laidTests := true, laidLooks := .later }
def RelationStepsUptoCardSaid : Prop := Claim7.holds Tryz.pinned (.plain (OpenSpec.upto relationStepsSpec)) relationStepsUptoCard
end Rows
end Go.Proofs.YtepckpofhegmiaaGreatDoor
