/-
  DERIVED. GIVEN WITH THE SEED: THE CARDS: each row of YtfnjklhjngphmaaGreatDoorRows.lean that lists a variable, with what it lists TIED to the program's text (the seventh form; the later family's looks); each row that meets fmt, with fmt's text TOLD by the authors' own Lean function (tested against real Go, not proved from fmt's source: count such statements apart). THE CARD IS WHAT COUNTS. Prove the row's statement (the work); the ties are given (YtfnjklhjngphmaaGreatDoorTie.lean); close each card by the builder's one call (the guide's Derived/Test/ToyasCard.lean, 'card_holds'). Laid BY PROGRAM, IN A SANDBOX (cutbox-door.mjs). By AI agents, Wed Nov 11 2026. No macro, syntax, notation, axiom, sorry.
-/
import Derived.Test.YtfnjklhjngphmaaGreatDoorRows
import GoSem.ClaimSeven
namespace Go.Proofs.YtfnjklhjngphmaaGreatDoor
namespace Rows

/-- THE TIED CARD OF 'agoralaw19.ChainCuts'. -/
def chainCutsCard : Claim7 := { stood := { row := chainCutsRow, standIns := [], harness := (true, "512397a359a8df4ccf2e99f23ed511f62d6fe648e137fd9702e2a14dbfe71bd5"), looks := false }, kinds := [], alts := [], laidByText := true, laidKinds := [.data, .data], laidTests := true, laidLooks := .later }
def ChainCutsCardSaid : Prop := Claim7.holds Tryz.pinned (.plain (OpenSpec.ofChange chainCutsSpec)) chainCutsCard

/-- THE TIED CARD OF 'agoralaw19.ChainOrder'. -/
def chainOrderCard : Claim7 := { stood := { row := chainOrderRow, standIns := [], harness := (true, "512397a359a8df4ccf2e99f23ed511f62d6fe648e137fd9702e2a14dbfe71bd5"), looks := false }, kinds := [], alts := [], laidByText := true, laidKinds := [.data, .data], laidTests := true, laidLooks := .later }
def ChainOrderCardSaid : Prop := Claim7.holds Tryz.pinned (.plain (OpenSpec.ofChange chainOrderSpec)) chainOrderCard

/-- THE TIED CARD OF 'agoralaw19.ChainHolds'. -/
def chainHoldsCard : Claim7 := { stood := { row := chainHoldsRow, standIns := [], harness := (true, "512397a359a8df4ccf2e99f23ed511f62d6fe648e137fd9702e2a14dbfe71bd5"), looks := false }, kinds := [], alts := [], laidByText := true, laidKinds := [.data, .data], laidTests := true, laidLooks := .later }
def ChainHoldsCardSaid : Prop := Claim7.holds Tryz.pinned (.plain (OpenSpec.ofChange chainHoldsSpec)) chainHoldsCard

/-- THE TIED CARD OF 'agoralaw19.ChainContinues'. -/
def chainContinuesCard : Claim7 := { stood := { row := chainContinuesRow, standIns := [], harness := (true, "512397a359a8df4ccf2e99f23ed511f62d6fe648e137fd9702e2a14dbfe71bd5"), looks := false }, kinds := [], alts := [], laidByText := true, laidKinds := [.data, .data], laidTests := true, laidLooks := .later }
def ChainContinuesCardSaid : Prop := Claim7.holds Tryz.pinned (.plain (OpenSpec.ofChange chainContinuesSpec)) chainContinuesCard

/-- THE TIED CARD OF 'agoralaw26.PostReads'. -/
def postReadsCard : Claim7 := { stood := { row := postReadsRow, standIns := [], harness := (true, "512397a359a8df4ccf2e99f23ed511f62d6fe648e137fd9702e2a14dbfe71bd5"), looks := false }, kinds := [], alts := [], laidByText := true, laidKinds := [.data, .data], laidTests := true, laidLooks := .later }
def PostReadsCardSaid : Prop := Claim7.holds Tryz.pinned (.plain (OpenSpec.ofChange postReadsSpec)) postReadsCard

/-- THE SECOND FORM's CARD OF 'agoralaw19.ChainCuts'. -/
def chainCutsUptoCard : Claim7 := { stood := { row := chainCutsUptoRow, standIns := [], harness := (true, "512397a359a8df4ccf2e99f23ed511f62d6fe648e137fd9702e2a14dbfe71bd5"), looks := false }, kinds := [], alts := [], laidByText := true, laidKinds := [.data, .data], laidTests := true, laidLooks := .later }
def ChainCutsUptoCardSaid : Prop := Claim7.holds Tryz.pinned (.plain (OpenSpec.upto chainCutsSpec)) chainCutsUptoCard

/-- THE SECOND FORM's CARD OF 'agoralaw19.ChainOrder'. -/
def chainOrderUptoCard : Claim7 := { stood := { row := chainOrderUptoRow, standIns := [], harness := (true, "512397a359a8df4ccf2e99f23ed511f62d6fe648e137fd9702e2a14dbfe71bd5"), looks := false }, kinds := [], alts := [], laidByText := true, laidKinds := [.data, .data], laidTests := true, laidLooks := .later }
def ChainOrderUptoCardSaid : Prop := Claim7.holds Tryz.pinned (.plain (OpenSpec.upto chainOrderSpec)) chainOrderUptoCard

/-- THE SECOND FORM's CARD OF 'agoralaw19.ChainHolds'. -/
def chainHoldsUptoCard : Claim7 := { stood := { row := chainHoldsUptoRow, standIns := [], harness := (true, "512397a359a8df4ccf2e99f23ed511f62d6fe648e137fd9702e2a14dbfe71bd5"), looks := false }, kinds := [], alts := [], laidByText := true, laidKinds := [.data, .data], laidTests := true, laidLooks := .later }
def ChainHoldsUptoCardSaid : Prop := Claim7.holds Tryz.pinned (.plain (OpenSpec.upto chainHoldsSpec)) chainHoldsUptoCard

/-- THE SECOND FORM's CARD OF 'agoralaw19.ChainContinues'. -/
def chainContinuesUptoCard : Claim7 := { stood := { row := chainContinuesUptoRow, standIns := [], harness := (true, "512397a359a8df4ccf2e99f23ed511f62d6fe648e137fd9702e2a14dbfe71bd5"), looks := false }, kinds := [], alts := [], laidByText := true, laidKinds := [.data, .data], laidTests := true, laidLooks := .later }
def ChainContinuesUptoCardSaid : Prop := Claim7.holds Tryz.pinned (.plain (OpenSpec.upto chainContinuesSpec)) chainContinuesUptoCard

/-- THE SECOND FORM's CARD OF 'agoralaw26.PostReads'. -/
def postReadsUptoCard : Claim7 := { stood := { row := postReadsUptoRow, standIns := [], harness := (true, "512397a359a8df4ccf2e99f23ed511f62d6fe648e137fd9702e2a14dbfe71bd5"), looks := false }, kinds := [], alts := [], laidByText := true, laidKinds := [.data, .data], laidTests := true, laidLooks := .later }
def PostReadsUptoCardSaid : Prop := Claim7.holds Tryz.pinned (.plain (OpenSpec.upto postReadsSpec)) postReadsUptoCard
end Rows
end Go.Proofs.YtfnjklhjngphmaaGreatDoor
