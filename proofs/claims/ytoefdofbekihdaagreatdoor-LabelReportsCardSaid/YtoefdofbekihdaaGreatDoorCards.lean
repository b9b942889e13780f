/-
  DERIVED. GIVEN WITH THE SEED: THE CARDS: each row of YtoefdofbekihdaaGreatDoorRows.lean that lists a variable, with what it lists TIED to the program's text (the seventh form; the later family's looks); each row that meets fmt, with fmt's text TOLD by the authors' own Lean function (tested against real Go, not proved from fmt's source: count such statements apart). THE CARD IS WHAT COUNTS. Prove the row's statement (the work); the ties are given (YtoefdofbekihdaaGreatDoorTie.lean); close each card by the builder's one call (the guide's Derived/Test/ToyasCard.lean, 'card_holds'). Laid BY PROGRAM, IN A SANDBOX (cutbox-door.mjs). By AI agents, Wed Nov 11 2026. No macro, syntax, notation, axiom, sorry.
-/
import Derived.Test.YtoefdofbekihdaaGreatDoorRows
import GoSem.ClaimSeven
namespace Go.Proofs.YtoefdofbekihdaaGreatDoor
namespace Rows

/-- THE TIED CARD OF 'agoralaw37.ListsUndone'. -/
def listsUndoneCard : Claim7 := { stood := { row := listsUndoneRow, standIns := [], harness := (true, "88d50d5c1eda36756fa638a495bdc79261fcf46927f8533750fc623fcb302242"), looks := false }, kinds := [], alts := [], laidByText := true, laidKinds := [.data, .data], laidTests := true, laidLooks := .later }
def ListsUndoneCardSaid : Prop := Claim7.holds Tryz.pinned (.plain (OpenSpec.ofChange listsUndoneSpec)) listsUndoneCard

/-- THE TIED CARD OF 'agoralaw34.LabelFollows'. -/
def labelFollowsCard : Claim7 := { stood := { row := labelFollowsRow, standIns := [], harness := (true, "88d50d5c1eda36756fa638a495bdc79261fcf46927f8533750fc623fcb302242"), looks := false }, kinds := [], alts := [], laidByText := true, laidKinds := [.data, .data], laidTests := true, laidLooks := .later }
def LabelFollowsCardSaid : Prop := Claim7.holds Tryz.pinned (.plain (OpenSpec.ofChange labelFollowsSpec)) labelFollowsCard

/-- THE TIED CARD OF 'agoralaw34.LabelReports'. -/
def labelReportsCard : Claim7 := { stood := { row := labelReportsRow, standIns := [], harness := (true, "88d50d5c1eda36756fa638a495bdc79261fcf46927f8533750fc623fcb302242"), looks := false }, kinds := [], alts := [], laidByText := true, laidKinds := [.data, .data], laidTests := true, laidLooks := .later }
def LabelReportsCardSaid : Prop := Claim7.holds Tryz.pinned (.plain (OpenSpec.ofChange labelReportsSpec)) labelReportsCard

/-- THE SECOND FORM's CARD OF 'agoralaw37.ListsUndone'. -/
def listsUndoneUptoCard : Claim7 := { stood := { row := listsUndoneUptoRow, standIns := [], harness := (true, "88d50d5c1eda36756fa638a495bdc79261fcf46927f8533750fc623fcb302242"), looks := false }, kinds := [], alts := [], laidByText := true, laidKinds := [.data, .data], laidTests := true, laidLooks := .later }
def ListsUndoneUptoCardSaid : Prop := Claim7.holds Tryz.pinned (.plain (OpenSpec.upto listsUndoneSpec)) listsUndoneUptoCard

/-- THE SECOND FORM's CARD OF 'agoralaw34.LabelFollows'. -/
def labelFollowsUptoCard : Claim7 := { stood := { row := labelFollowsUptoRow, standIns := [], harness := (true, "88d50d5c1eda36756fa638a495bdc79261fcf46927f8533750fc623fcb302242"), looks := false }, kinds := [], alts := [], laidByText := true, laidKinds := [.data, .data], laidTests := true, laidLooks := .later }
def LabelFollowsUptoCardSaid : Prop := Claim7.holds Tryz.pinned (.plain (OpenSpec.upto labelFollowsSpec)) labelFollowsUptoCard

/-- THE SECOND FORM's CARD OF 'agoralaw34.LabelReports'. -/
def labelReportsUptoCard : Claim7 := { stood := { row := labelReportsUptoRow, standIns := [], harness := (true, "88d50d5c1eda36756fa638a495bdc79261fcf46927f8533750fc623fcb302242"), looks := false }, kinds := [], alts := [], laidByText := true, laidKinds := [.data, .data], laidTests := true, laidLooks := .later }
def LabelReportsUptoCardSaid : Prop := Claim7.holds Tryz.pinned (.plain (OpenSpec.upto labelReportsSpec)) labelReportsUptoCard
end Rows
end Go.Proofs.YtoefdofbekihdaaGreatDoor
