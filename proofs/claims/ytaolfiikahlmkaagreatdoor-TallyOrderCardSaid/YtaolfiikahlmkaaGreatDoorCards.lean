/-
  DERIVED. GIVEN WITH THE SEED: THE CARDS: each row of YtaolfiikahlmkaaGreatDoorRows.lean that lists a variable, with what it lists TIED to the program's text (the seventh form; the later family's looks); each row that meets fmt, with fmt's text TOLD by the authors' own Lean function (tested against real Go, not proved from fmt's source: count such statements apart). THE CARD IS WHAT COUNTS. Prove the row's statement (the work); the ties are given (YtaolfiikahlmkaaGreatDoorTie.lean); close each card by the builder's one call (the guide's Derived/Test/ToyasCard.lean, 'card_holds'). Laid BY PROGRAM, IN A SANDBOX (cutbox-door.mjs). By AI agents, Wed Nov 11 2026. No macro, syntax, notation, axiom, sorry.
-/
import Derived.Test.YtaolfiikahlmkaaGreatDoorRows
import GoSem.ClaimSeven
namespace Go.Proofs.YtaolfiikahlmkaaGreatDoor
namespace Rows

/-- THE TIED CARD OF 'agoralaw34.LabelFollows'. -/
def labelFollowsCard : Claim7 := { stood := { row := labelFollowsRow, standIns := [], harness := (true, "681ac7f4c62ed4e42be9e9199b116b230491999361f48c6f9646fa8f1966fe11"), looks := false }, kinds := [], alts := [], laidByText := true, laidKinds := [.data, .data], laidTests := true, laidLooks := .later }
def LabelFollowsCardSaid : Prop := Claim7.holds Tryz.pinned (.plain (OpenSpec.ofChange labelFollowsSpec)) labelFollowsCard

/-- THE TIED CARD OF 'agoralaw28.TallyOrder'. -/
def tallyOrderCard : Claim7 := { stood := { row := tallyOrderRow, standIns := [], harness := (true, "681ac7f4c62ed4e42be9e9199b116b230491999361f48c6f9646fa8f1966fe11"), looks := false }, kinds := [], alts := [], laidByText := true, laidKinds := [.data, .data], laidTests := true, laidLooks := .later }
def TallyOrderCardSaid : Prop := Claim7.holds Tryz.pinned (.plain (OpenSpec.ofChange tallyOrderSpec)) tallyOrderCard

/-- THE TIED CARD OF 'agoralaw22.CircleRenews'. -/
def circleRenewsCard : Claim7 := { stood := { row := circleRenewsRow, standIns := [], harness := (true, "681ac7f4c62ed4e42be9e9199b116b230491999361f48c6f9646fa8f1966fe11"), looks := false }, kinds := [], alts := [], laidByText := true, laidKinds := [.data, .data], laidTests := true, laidLooks := .later }
def CircleRenewsCardSaid : Prop := Claim7.holds Tryz.pinned (.plain (OpenSpec.ofChange circleRenewsSpec)) circleRenewsCard

/-- THE TIED CARD OF 'agoralaw25.ReachBlocks'. -/
def reachBlocksCard : Claim7 := { stood := { row := reachBlocksRow, standIns := [], harness := (true, "681ac7f4c62ed4e42be9e9199b116b230491999361f48c6f9646fa8f1966fe11"), looks := false }, kinds := [], alts := [], laidByText := true, laidKinds := [.data, .data], laidTests := true, laidLooks := .later }
def ReachBlocksCardSaid : Prop := Claim7.holds Tryz.pinned (.plain (OpenSpec.ofChange reachBlocksSpec)) reachBlocksCard

/-- THE TIED CARD OF 'agoralaw28.TallyLikes'. -/
def tallyLikesCard : Claim7 := { stood := { row := tallyLikesRow, standIns := [], harness := (true, "681ac7f4c62ed4e42be9e9199b116b230491999361f48c6f9646fa8f1966fe11"), looks := false }, kinds := [], alts := [], laidByText := true, laidKinds := [.data, .data], laidTests := true, laidLooks := .later }
def TallyLikesCardSaid : Prop := Claim7.holds Tryz.pinned (.plain (OpenSpec.ofChange tallyLikesSpec)) tallyLikesCard

/-- THE TIED CARD OF 'agoralaw28.TallyBlocks'. -/
def tallyBlocksCard : Claim7 := { stood := { row := tallyBlocksRow, standIns := [], harness := (true, "681ac7f4c62ed4e42be9e9199b116b230491999361f48c6f9646fa8f1966fe11"), looks := false }, kinds := [], alts := [], laidByText := true, laidKinds := [.data, .data], laidTests := true, laidLooks := .later }
def TallyBlocksCardSaid : Prop := Claim7.holds Tryz.pinned (.plain (OpenSpec.ofChange tallyBlocksSpec)) tallyBlocksCard

/-- THE SECOND FORM's CARD OF 'agoralaw34.LabelFollows'. -/
def labelFollowsUptoCard : Claim7 := { stood := { row := labelFollowsUptoRow, standIns := [], harness := (true, "681ac7f4c62ed4e42be9e9199b116b230491999361f48c6f9646fa8f1966fe11"), looks := false }, kinds := [], alts := [], laidByText := true, laidKinds := [.data, .data], laidTests := true, laidLooks := .later }
def LabelFollowsUptoCardSaid : Prop := Claim7.holds Tryz.pinned (.plain (OpenSpec.upto labelFollowsSpec)) labelFollowsUptoCard

/-- THE SECOND FORM's CARD OF 'agoralaw28.TallyOrder'. -/
def tallyOrderUptoCard : Claim7 := { stood := { row := tallyOrderUptoRow, standIns := [], harness := (true, "681ac7f4c62ed4e42be9e9199b116b230491999361f48c6f9646fa8f1966fe11"), looks := false }, kinds := [], alts := [], laidByText := true, laidKinds := [.data, .data], laidTests := true, laidLooks := .later }
def TallyOrderUptoCardSaid : Prop := Claim7.holds Tryz.pinned (.plain (OpenSpec.upto tallyOrderSpec)) tallyOrderUptoCard

/-- THE SECOND FORM's CARD OF 'agoralaw22.CircleRenews'. -/
def circleRenewsUptoCard : Claim7 := { stood := { row := circleRenewsUptoRow, standIns := [], harness := (true, "681ac7f4c62ed4e42be9e9199b116b230491999361f48c6f9646fa8f1966fe11"), looks := false }, kinds := [], alts := [], laidByText := true, laidKinds := [.data, .data], laidTests := true, laidLooks := .later }
def CircleRenewsUptoCardSaid : Prop := Claim7.holds Tryz.pinned (.plain (OpenSpec.upto circleRenewsSpec)) circleRenewsUptoCard

/-- THE SECOND FORM's CARD OF 'agoralaw25.ReachBlocks'. -/
def reachBlocksUptoCard : Claim7 := { stood := { row := reachBlocksUptoRow, standIns := [], harness := (true, "681ac7f4c62ed4e42be9e9199b116b230491999361f48c6f9646fa8f1966fe11"), looks := false }, kinds := [], alts := [], laidByText := true, laidKinds := [.data, .data], laidTests := true, laidLooks := .later }
def ReachBlocksUptoCardSaid : Prop := Claim7.holds Tryz.pinned (.plain (OpenSpec.upto reachBlocksSpec)) reachBlocksUptoCard

/-- THE SECOND FORM's CARD OF 'agoralaw28.TallyLikes'. -/
def tallyLikesUptoCard : Claim7 := { stood := { row := tallyLikesUptoRow, standIns := [], harness := (true, "681ac7f4c62ed4e42be9e9199b116b230491999361f48c6f9646fa8f1966fe11"), looks := false }, kinds := [], alts := [], laidByText := true, laidKinds := [.data, .data], laidTests := true, laidLooks := .later }
def TallyLikesUptoCardSaid : Prop := Claim7.holds Tryz.pinned (.plain (OpenSpec.upto tallyLikesSpec)) tallyLikesUptoCard

/-- THE SECOND FORM's CARD OF 'agoralaw28.TallyBlocks'. -/
def tallyBlocksUptoCard : Claim7 := { stood := { row := tallyBlocksUptoRow, standIns := [], harness := (true, "681ac7f4c62ed4e42be9e9199b116b230491999361f48c6f9646fa8f1966fe11"), looks := false }, kinds := [], alts := [], laidByText := true, laidKinds := [.data, .data], laidTests := true, laidLooks := .later }
def TallyBlocksUptoCardSaid : Prop := Claim7.holds Tryz.pinned (.plain (OpenSpec.upto tallyBlocksSpec)) tallyBlocksUptoCard
end Rows
end Go.Proofs.YtaolfiikahlmkaaGreatDoor
