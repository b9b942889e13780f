/-
  DERIVED. GIVEN WITH THE SEED: THE CARDS: each row of YtcdcfimlikojeaaGreatDoorRows.lean that lists a variable, with what it lists TIED to the program's text (the seventh form; the later family's looks); each row that meets fmt, with fmt's text TOLD by the authors' own Lean function (tested against real Go, not proved from fmt's source: count such statements apart). THE CARD IS WHAT COUNTS. Prove the row's statement (the work); the ties are given (YtcdcfimlikojeaaGreatDoorTie.lean); close each card by the builder's one call (the guide's Derived/Test/ToyasCard.lean, 'card_holds'). Laid BY PROGRAM, IN A SANDBOX (cutbox-door.mjs). By AI agents, Wed Nov 11 2026. No macro, syntax, notation, axiom, sorry.
-/
import Derived.Test.YtcdcfimlikojeaaGreatDoorRows
import GoSem.ClaimSeven
namespace Go.Proofs.YtcdcfimlikojeaaGreatDoor
namespace Rows

/-- THE TIED CARD OF 'agoralaw25.ReachSpots'. -/
def reachSpotsCard : Claim7 := { stood := { row := reachSpotsRow, standIns := [], harness := (true, "f6fdab24de4b4baf479c7d85435bed03833c780dfdb623b1e357f568bd875eb5"), looks := false }, kinds := [], alts := [], laidByText := true, laidKinds := [.data, .data], laidTests := true, laidLooks := .later }
def ReachSpotsCardSaid : Prop := Claim7.holds Tryz.pinned (.plain (OpenSpec.ofChange reachSpotsSpec)) reachSpotsCard

/-- THE TIED CARD OF 'agoralaw28.TallyWho'. -/
def tallyWhoCard : Claim7 := { stood := { row := tallyWhoRow, standIns := [], harness := (true, "f6fdab24de4b4baf479c7d85435bed03833c780dfdb623b1e357f568bd875eb5"), looks := false }, kinds := [], alts := [], laidByText := true, laidKinds := [.data, .data], laidTests := true, laidLooks := .later }
def TallyWhoCardSaid : Prop := Claim7.holds Tryz.pinned (.plain (OpenSpec.ofChange tallyWhoSpec)) tallyWhoCard

/-- THE TIED CARD OF 'agoralaw21.RelationLists'. -/
def relationListsCard : Claim7 := { stood := { row := relationListsRow, standIns := [], harness := (true, "f6fdab24de4b4baf479c7d85435bed03833c780dfdb623b1e357f568bd875eb5"), looks := false }, kinds := [], alts := [], laidByText := true, laidKinds := [.data, .data], laidTests := true, laidLooks := .later }
def RelationListsCardSaid : Prop := Claim7.holds Tryz.pinned (.plain (OpenSpec.ofChange relationListsSpec)) relationListsCard

/-- THE TIED CARD OF 'agoralaw21.RelationSteps'. -/
def relationStepsCard : Claim7 := { stood := { row := relationStepsRow, standIns := [], harness := (true, "f6fdab24de4b4baf479c7d85435bed03833c780dfdb623b1e357f568bd875eb5"), looks := false }, kinds := [], alts := [], laidByText := true, laidKinds := [.data, .data], laidTests := true, laidLooks := .later }
def RelationStepsCardSaid : Prop := Claim7.holds Tryz.pinned (.plain (OpenSpec.ofChange relationStepsSpec)) relationStepsCard

/-- THE TIED CARD OF 'agoralaw21.RelationBlocks'. -/
def relationBlocksCard : Claim7 := { stood := { row := relationBlocksRow, standIns := [], harness := (true, "f6fdab24de4b4baf479c7d85435bed03833c780dfdb623b1e357f568bd875eb5"), looks := false }, kinds := [], alts := [], laidByText := true, laidKinds := [.data, .data], laidTests := true, laidLooks := .later }
def RelationBlocksCardSaid : Prop := Claim7.holds Tryz.pinned (.plain (OpenSpec.ofChange relationBlocksSpec)) relationBlocksCard

/-- THE TIED CARD OF 'agoralaw19.ChainCuts'. -/
def chainCutsCard : Claim7 := { stood := { row := chainCutsRow, standIns := [], harness := (true, "f6fdab24de4b4baf479c7d85435bed03833c780dfdb623b1e357f568bd875eb5"), looks := false }, kinds := [], alts := [], laidByText := true, laidKinds := [.data, .data], laidTests := true, laidLooks := .later }
def ChainCutsCardSaid : Prop := Claim7.holds Tryz.pinned (.plain (OpenSpec.ofChange chainCutsSpec)) chainCutsCard

/-- THE TIED CARD OF 'agoralaw19.ChainOrder'. -/
def chainOrderCard : Claim7 := { stood := { row := chainOrderRow, standIns := [], harness := (true, "f6fdab24de4b4baf479c7d85435bed03833c780dfdb623b1e357f568bd875eb5"), looks := false }, kinds := [], alts := [], laidByText := true, laidKinds := [.data, .data], laidTests := true, laidLooks := .later }
def ChainOrderCardSaid : Prop := Claim7.holds Tryz.pinned (.plain (OpenSpec.ofChange chainOrderSpec)) chainOrderCard

/-- THE TIED CARD OF 'agoralaw19.ChainHolds'. -/
def chainHoldsCard : Claim7 := { stood := { row := chainHoldsRow, standIns := [], harness := (true, "f6fdab24de4b4baf479c7d85435bed03833c780dfdb623b1e357f568bd875eb5"), looks := false }, kinds := [], alts := [], laidByText := true, laidKinds := [.data, .data], laidTests := true, laidLooks := .later }
def ChainHoldsCardSaid : Prop := Claim7.holds Tryz.pinned (.plain (OpenSpec.ofChange chainHoldsSpec)) chainHoldsCard

/-- THE TIED CARD OF 'agoralaw19.ChainContinues'. -/
def chainContinuesCard : Claim7 := { stood := { row := chainContinuesRow, standIns := [], harness := (true, "f6fdab24de4b4baf479c7d85435bed03833c780dfdb623b1e357f568bd875eb5"), looks := false }, kinds := [], alts := [], laidByText := true, laidKinds := [.data, .data], laidTests := true, laidLooks := .later }
def ChainContinuesCardSaid : Prop := Claim7.holds Tryz.pinned (.plain (OpenSpec.ofChange chainContinuesSpec)) chainContinuesCard

/-- THE SECOND FORM's CARD OF 'agoralaw25.ReachSpots'. -/
def reachSpotsUptoCard : Claim7 := { stood := { row := reachSpotsUptoRow, standIns := [], harness := (true, "f6fdab24de4b4baf479c7d85435bed03833c780dfdb623b1e357f568bd875eb5"), looks := false }, kinds := [], alts := [], laidByText := true, laidKinds := [.data, .data], laidTests := true, laidLooks := .later }
def ReachSpotsUptoCardSaid : Prop := Claim7.holds Tryz.pinned (.plain (OpenSpec.upto reachSpotsSpec)) reachSpotsUptoCard

/-- THE SECOND FORM's CARD OF 'agoralaw28.TallyWho'. -/
def tallyWhoUptoCard : Claim7 := { stood := { row := tallyWhoUptoRow, standIns := [], harness := (true, "f6fdab24de4b4baf479c7d85435bed03833c780dfdb623b1e357f568bd875eb5"), looks := false }, kinds := [], alts := [], laidByText := true, laidKinds := [.data, .data], laidTests := true, laidLooks := .later }
def TallyWhoUptoCardSaid : Prop := Claim7.holds Tryz.pinned (.plain (OpenSpec.upto tallyWhoSpec)) tallyWhoUptoCard

/-- THE SECOND FORM's CARD OF 'agoralaw21.RelationLists'. -/
def relationListsUptoCard : Claim7 := { stood := { row := relationListsUptoRow, standIns := [], harness := (true, "f6fdab24de4b4baf479c7d85435bed03833c780dfdb623b1e357f568bd875eb5"), looks := false }, kinds := [], alts := [], laidByText := true, laidKinds := [.data, .data], laidTests := true, laidLooks := .later }
def RelationListsUptoCardSaid : Prop := Claim7.holds Tryz.pinned (.plain (OpenSpec.upto relationListsSpec)) relationListsUptoCard

/-- THE SECOND FORM's CARD OF 'agoralaw21.RelationSteps'. -/
def relationStepsUptoCard : Claim7 := { stood := { row := relationStepsUptoRow, standIns := [], harness := (true, "f6fdab24de4b4baf479c7d85435bed03833c780dfdb623b1e357f568bd875eb5"), looks := false }, kinds := [], alts := [], laidByText := true, laidKinds := [.data, .data], laidTests := true, laidLooks := .later }
def RelationStepsUptoCardSaid : Prop := Claim7.holds Tryz.pinned (.plain (OpenSpec.upto relationStepsSpec)) relationStepsUptoCard

/-- THE SECOND FORM's CARD OF 'agoralaw21.RelationBlocks'. -/
def relationBlocksUptoCard : Claim7 := { stood := { row := relationBlocksUptoRow, standIns := [], harness := (true, "f6fdab24de4b4baf479c7d85435bed03833c780dfdb623b1e357f568bd875eb5"), looks := false }, kinds := [], alts := [], laidByText := true, laidKinds := [.data, .data], laidTests := true, laidLooks := .later }
def RelationBlocksUptoCardSaid : Prop := Claim7.holds Tryz.pinned (.plain (OpenSpec.upto relationBlocksSpec)) relationBlocksUptoCard

/-- THE SECOND FORM's CARD OF 'agoralaw19.ChainCuts'. -/
def chainCutsUptoCard : Claim7 := { stood := { row := chainCutsUptoRow, standIns := [], harness := (true, "f6fdab24de4b4baf479c7d85435bed03833c780dfdb623b1e357f568bd875eb5"), looks := false }, kinds := [], alts := [], laidByText := true, laidKinds := [.data, .data], laidTests := true, laidLooks := .later }
def ChainCutsUptoCardSaid : Prop := Claim7.holds Tryz.pinned (.plain (OpenSpec.upto chainCutsSpec)) chainCutsUptoCard

/-- THE SECOND FORM's CARD OF 'agoralaw19.ChainOrder'. -/
def chainOrderUptoCard : Claim7 := { stood := { row := chainOrderUptoRow, standIns := [], harness := (true, "f6fdab24de4b4baf479c7d85435bed03833c780dfdb623b1e357f568bd875eb5"), looks := false }, kinds := [], alts := [], laidByText := true, laidKinds := [.data, .data], laidTests := true, laidLooks := .later }
def ChainOrderUptoCardSaid : Prop := Claim7.holds Tryz.pinned (.plain (OpenSpec.upto chainOrderSpec)) chainOrderUptoCard

/-- THE SECOND FORM's CARD OF 'agoralaw19.ChainHolds'. -/
def chainHoldsUptoCard : Claim7 := { stood := { row := chainHoldsUptoRow, standIns := [], harness := (true, "f6fdab24de4b4baf479c7d85435bed03833c780dfdb623b1e357f568bd875eb5"), looks := false }, kinds := [], alts := [], laidByText := true, laidKinds := [.data, .data], laidTests := true, laidLooks := .later }
def ChainHoldsUptoCardSaid : Prop := Claim7.holds Tryz.pinned (.plain (OpenSpec.upto chainHoldsSpec)) chainHoldsUptoCard

/-- THE SECOND FORM's CARD OF 'agoralaw19.ChainContinues'. -/
def chainContinuesUptoCard : Claim7 := { stood := { row := chainContinuesUptoRow, standIns := [], harness := (true, "f6fdab24de4b4baf479c7d85435bed03833c780dfdb623b1e357f568bd875eb5"), looks := false }, kinds := [], alts := [], laidByText := true, laidKinds := [.data, .data], laidTests := true, laidLooks := .later }
def ChainContinuesUptoCardSaid : Prop := Claim7.holds Tryz.pinned (.plain (OpenSpec.upto chainContinuesSpec)) chainContinuesUptoCard
end Rows
end Go.Proofs.YtcdcfimlikojeaaGreatDoor
