/-
  DERIVED. GIVEN WITH THE SEED: THE CARDS: each row of YtcdilibijnboeaaGreatDoorRows.lean that lists a variable, with what it lists TIED to the program's text (the seventh form; the later family's looks); each row that meets fmt, with fmt's text TOLD by the authors' own Lean function (tested against real Go, not proved from fmt's source: count such statements apart). THE CARD IS WHAT COUNTS. Prove the row's statement (the work); the ties are given (YtcdilibijnboeaaGreatDoorTie.lean); close each card by the builder's one call (the guide's Derived/Test/ToyasCard.lean, 'card_holds'). Laid BY PROGRAM, IN A SANDBOX (cutbox-door.mjs). By AI agents, Wed Nov 11 2026. No macro, syntax, notation, axiom, sorry.
-/
import Derived.Test.YtcdilibijnboeaaGreatDoorRows
import GoSem.ClaimSeven
namespace Go.Proofs.YtcdilibijnboeaaGreatDoor
namespace Rows

/-- THE TIED CARD OF 'agoralaw19.ChainCuts'. -/
def chainCutsCard : Claim7 := { stood := { row := chainCutsRow, standIns := [], harness := (true, "c93a94eef6677a8351a1c0e049593ecefda805d7a845b38ff109dbd2d730c0af"), looks := false }, kinds := [], alts := [], laidByText := true, laidKinds := [.data, .data], laidTests := true, laidLooks := .later }
def ChainCutsCardSaid : Prop := Claim7.holds Tryz.pinned (.plain (OpenSpec.ofChange chainCutsSpec)) chainCutsCard

/-- THE TIED CARD OF 'agoralaw19.ChainOrder'. -/
def chainOrderCard : Claim7 := { stood := { row := chainOrderRow, standIns := [], harness := (true, "c93a94eef6677a8351a1c0e049593ecefda805d7a845b38ff109dbd2d730c0af"), looks := false }, kinds := [], alts := [], laidByText := true, laidKinds := [.data, .data], laidTests := true, laidLooks := .later }
def ChainOrderCardSaid : Prop := Claim7.holds Tryz.pinned (.plain (OpenSpec.ofChange chainOrderSpec)) chainOrderCard

/-- THE TIED CARD OF 'agoralaw19.ChainHolds'. -/
def chainHoldsCard : Claim7 := { stood := { row := chainHoldsRow, standIns := [], harness := (true, "c93a94eef6677a8351a1c0e049593ecefda805d7a845b38ff109dbd2d730c0af"), looks := false }, kinds := [], alts := [], laidByText := true, laidKinds := [.data, .data], laidTests := true, laidLooks := .later }
def ChainHoldsCardSaid : Prop := Claim7.holds Tryz.pinned (.plain (OpenSpec.ofChange chainHoldsSpec)) chainHoldsCard

/-- THE TIED CARD OF 'agoralaw19.ChainContinues'. -/
def chainContinuesCard : Claim7 := { stood := { row := chainContinuesRow, standIns := [], harness := (true, "c93a94eef6677a8351a1c0e049593ecefda805d7a845b38ff109dbd2d730c0af"), looks := false }, kinds := [], alts := [], laidByText := true, laidKinds := [.data, .data], laidTests := true, laidLooks := .later }
def ChainContinuesCardSaid : Prop := Claim7.holds Tryz.pinned (.plain (OpenSpec.ofChange chainContinuesSpec)) chainContinuesCard

/-- THE SECOND FORM's CARD OF 'agoralaw19.ChainCuts'. -/
def chainCutsUptoCard : Claim7 := { stood := { row := chainCutsUptoRow, standIns := [], harness := (true, "c93a94eef6677a8351a1c0e049593ecefda805d7a845b38ff109dbd2d730c0af"), looks := false }, kinds := [], alts := [], laidByText := true, laidKinds := [.data, .data], laidTests := true, laidLooks := .later }
def ChainCutsUptoCardSaid : Prop := Claim7.holds Tryz.pinned (.plain (OpenSpec.upto chainCutsSpec)) chainCutsUptoCard

/-- THE SECOND FORM's CARD OF 'agoralaw19.ChainOrder'. -/
def chainOrderUptoCard : Claim7 := { stood := { row := chainOrderUptoRow, standIns := [], harness := (true, "c93a94eef6677a8351a1c0e049593ecefda805d7a845b38ff109dbd2d730c0af"), looks := false }, kinds := [], alts := [], laidByText := true, laidKinds := [.data, .data], laidTests := true, laidLooks := .later }
def ChainOrderUptoCardSaid : Prop := Claim7.holds Tryz.pinned (.plain (OpenSpec.upto chainOrderSpec)) chainOrderUptoCard

/-- THE SECOND FORM's CARD OF 'agoralaw19.ChainHolds'. -/
def chainHoldsUptoCard : Claim7 := { stood := { row := chainHoldsUptoRow, standIns := [], harness := (true, "c93a94eef6677a8351a1c0e049593ecefda805d7a845b38ff109dbd2d730c0af"), looks := false }, kinds := [], alts := [], laidByText := true, laidKinds := [.data, .data], laidTests := true, laidLooks := .later }
def ChainHoldsUptoCardSaid : Prop := Claim7.holds Tryz.pinned (.plain (OpenSpec.upto chainHoldsSpec)) chainHoldsUptoCard

/-- THE SECOND FORM's CARD OF 'agoralaw19.ChainContinues'. -/
def chainContinuesUptoCard : Claim7 := { stood := { row := chainContinuesUptoRow, standIns := [], harness := (true, "c93a94eef6677a8351a1c0e049593ecefda805d7a845b38ff109dbd2d730c0af"), looks := false }, kinds := [], alts := [], laidByText := true, laidKinds := [.data, .data], laidTests := true, laidLooks := .later }
def ChainContinuesUptoCardSaid : Prop := Claim7.holds Tryz.pinned (.plain (OpenSpec.upto chainContinuesSpec)) chainContinuesUptoCard
end Rows
end Go.Proofs.YtcdilibijnboeaaGreatDoor
