/-
  DERIVED. GIVEN WITH THE SEED: THE CARDS: each row of YtlmhlmendnjmlaaDoorRows.lean that lists a variable, with what it lists TIED to the program's text (the seventh form; the later family's looks); each row that meets fmt, with fmt's text TOLD by the authors' own Lean function (tested against real Go, not proved from fmt's source: count such statements apart). THE CARD IS WHAT COUNTS. Prove the row's statement (the work); the ties are given (YtlmhlmendnjmlaaDoorTie.lean); close each card by the builder's one call (the guide's Derived/Test/ToyasCard.lean, 'card_holds'). Laid BY PROGRAM, IN A SANDBOX (cutbox-door.mjs). By AI agents, Wed Nov 11 2026. No macro, syntax, notation, axiom, sorry.
-/
import Derived.Test.YtlmhlmendnjmlaaDoorRows
import GoSem.ClaimSeven
namespace Go.Proofs.YtlmhlmendnjmlaaDoor
namespace Rows

/-- THE TIED CARD OF 'diacriticlaw11.SyncBack'. -/
def syncBackCard : Claim7 := { stood := { row := syncBackRow, standIns := [], harness := (true, "ef692d09c30da549637b3a5db525b70b85f6016183b1cfacbf5668a4c4fffd5b"), looks := false }, kinds := [], alts := [], laidByText := true, laidKinds := [.data, .pinned], laidTests := true, laidLooks := .later }
def SyncBackCardSaid : Prop := Claim7.holds Tryd.pinned (.plain (OpenSpec.ofChange syncBackSpec)) syncBackCard

/-- THE TIED CARD OF 'diacriticlaw11.SyncPuts'. -/
def syncPutsCard : Claim7 := { stood := { row := syncPutsRow, standIns := [], harness := (true, "ef692d09c30da549637b3a5db525b70b85f6016183b1cfacbf5668a4c4fffd5b"), looks := false }, kinds := [], alts := [], laidByText := true, laidKinds := [.data, .pinned], laidTests := true, laidLooks := .later }
def SyncPutsCardSaid : Prop := Claim7.holds Tryd.pinned (.plain (OpenSpec.ofChange syncPutsSpec)) syncPutsCard

/-- THE TIED CARD OF 'diacriticlaw11.SyncParts'. -/
def syncPartsCard : Claim7 := { stood := { row := syncPartsRow, standIns := [], harness := (true, "ef692d09c30da549637b3a5db525b70b85f6016183b1cfacbf5668a4c4fffd5b"), looks := false }, kinds := [], alts := [], laidByText := true, laidKinds := [.data, .pinned], laidTests := true, laidLooks := .later }
def SyncPartsCardSaid : Prop := Claim7.holds Tryd.pinned (.plain (OpenSpec.ofChange syncPartsSpec)) syncPartsCard

/-- THE TIED CARD OF 'diacriticlaw13.FrameFlags'. -/
def frameFlagsCard : Claim7 := { stood := { row := frameFlagsRow, standIns := [], harness := (true, "ef692d09c30da549637b3a5db525b70b85f6016183b1cfacbf5668a4c4fffd5b"), looks := false }, kinds := [], alts := [], laidByText := true, laidKinds := [.data, .pinned], laidTests := true, laidLooks := .later }
def FrameFlagsCardSaid : Prop := Claim7.holds Tryd.pinned (.plain (OpenSpec.ofChange frameFlagsSpec)) frameFlagsCard

/-- THE TIED CARD OF 'diacriticlaw13.FramePrints'. -/
def framePrintsCard : Claim7 := { stood := { row := framePrintsRow, standIns := [], harness := (true, "ef692d09c30da549637b3a5db525b70b85f6016183b1cfacbf5668a4c4fffd5b"), looks := false }, kinds := [], alts := [], laidByText := true, laidKinds := [.data, .pinned], laidTests := true, laidLooks := .later }
def FramePrintsCardSaid : Prop := Claim7.holds Tryd.pinned (.plain (OpenSpec.ofChange framePrintsSpec)) framePrintsCard

/-- THE TIED CARD OF 'diacriticlaw13.FrameSizes'. -/
def frameSizesCard : Claim7 := { stood := { row := frameSizesRow, standIns := [], harness := (true, "ef692d09c30da549637b3a5db525b70b85f6016183b1cfacbf5668a4c4fffd5b"), looks := false }, kinds := [], alts := [], laidByText := true, laidKinds := [.data, .pinned], laidTests := true, laidLooks := .later }
def FrameSizesCardSaid : Prop := Claim7.holds Tryd.pinned (.plain (OpenSpec.ofChange frameSizesSpec)) frameSizesCard

/-- THE TIED CARD OF 'diacriticlaw13.FrameCuts'. -/
def frameCutsCard : Claim7 := { stood := { row := frameCutsRow, standIns := [], harness := (true, "ef692d09c30da549637b3a5db525b70b85f6016183b1cfacbf5668a4c4fffd5b"), looks := false }, kinds := [], alts := [], laidByText := true, laidKinds := [.data, .pinned], laidTests := true, laidLooks := .later }
def FrameCutsCardSaid : Prop := Claim7.holds Tryd.pinned (.plain (OpenSpec.ofChange frameCutsSpec)) frameCutsCard

/-- THE SECOND FORM's CARD OF 'diacriticlaw11.SyncBack'. -/
def syncBackUptoCard : Claim7 := { stood := { row := syncBackUptoRow, standIns := [], harness := (true, "ef692d09c30da549637b3a5db525b70b85f6016183b1cfacbf5668a4c4fffd5b"), looks := false }, kinds := [], alts := [], laidByText := true, laidKinds := [.data, .pinned], laidTests := true, laidLooks := .later }
def SyncBackUptoCardSaid : Prop := Claim7.holds Tryd.pinned (.plain (OpenSpec.upto syncBackSpec)) syncBackUptoCard

/-- THE SECOND FORM's CARD OF 'diacriticlaw11.SyncPuts'. -/
def syncPutsUptoCard : Claim7 := { stood := { row := syncPutsUptoRow, standIns := [], harness := (true, "ef692d09c30da549637b3a5db525b70b85f6016183b1cfacbf5668a4c4fffd5b"), looks := false }, kinds := [], alts := [], laidByText := true, laidKinds := [.data, .pinned], laidTests := true, laidLooks := .later }
def SyncPutsUptoCardSaid : Prop := Claim7.holds Tryd.pinned (.plain (OpenSpec.upto syncPutsSpec)) syncPutsUptoCard

/-- THE SECOND FORM's CARD OF 'diacriticlaw11.SyncParts'. -/
def syncPartsUptoCard : Claim7 := { stood := { row := syncPartsUptoRow, standIns := [], harness := (true, "ef692d09c30da549637b3a5db525b70b85f6016183b1cfacbf5668a4c4fffd5b"), looks := false }, kinds := [], alts := [], laidByText := true, laidKinds := [.data, .pinned], laidTests := true, laidLooks := .later }
def SyncPartsUptoCardSaid : Prop := Claim7.holds Tryd.pinned (.plain (OpenSpec.upto syncPartsSpec)) syncPartsUptoCard

/-- THE SECOND FORM's CARD OF 'diacriticlaw13.FrameFlags'. -/
def frameFlagsUptoCard : Claim7 := { stood := { row := frameFlagsUptoRow, standIns := [], harness := (true, "ef692d09c30da549637b3a5db525b70b85f6016183b1cfacbf5668a4c4fffd5b"), looks := false }, kinds := [], alts := [], laidByText := true, laidKinds := [.data, .pinned], laidTests := true, laidLooks := .later }
def FrameFlagsUptoCardSaid : Prop := Claim7.holds Tryd.pinned (.plain (OpenSpec.upto frameFlagsSpec)) frameFlagsUptoCard

/-- THE SECOND FORM's CARD OF 'diacriticlaw13.FramePrints'. -/
def framePrintsUptoCard : Claim7 := { stood := { row := framePrintsUptoRow, standIns := [], harness := (true, "ef692d09c30da549637b3a5db525b70b85f6016183b1cfacbf5668a4c4fffd5b"), looks := false }, kinds := [], alts := [], laidByText := true, laidKinds := [.data, .pinned], laidTests := true, laidLooks := .later }
def FramePrintsUptoCardSaid : Prop := Claim7.holds Tryd.pinned (.plain (OpenSpec.upto framePrintsSpec)) framePrintsUptoCard

/-- THE SECOND FORM's CARD OF 'diacriticlaw13.FrameSizes'. -/
def frameSizesUptoCard : Claim7 := { stood := { row := frameSizesUptoRow, standIns := [], harness := (true, "ef692d09c30da549637b3a5db525b70b85f6016183b1cfacbf5668a4c4fffd5b"), looks := false }, kinds := [], alts := [], laidByText := true, laidKinds := [.data, .pinned], laidTests := true, laidLooks := .later }
def FrameSizesUptoCardSaid : Prop := Claim7.holds Tryd.pinned (.plain (OpenSpec.upto frameSizesSpec)) frameSizesUptoCard

/-- THE SECOND FORM's CARD OF 'diacriticlaw13.FrameCuts'. -/
def frameCutsUptoCard : Claim7 := { stood := { row := frameCutsUptoRow, standIns := [], harness := (true, "ef692d09c30da549637b3a5db525b70b85f6016183b1cfacbf5668a4c4fffd5b"), looks := false }, kinds := [], alts := [], laidByText := true, laidKinds := [.data, .pinned], laidTests := true, laidLooks := .later }
def FrameCutsUptoCardSaid : Prop := Claim7.holds Tryd.pinned (.plain (OpenSpec.upto frameCutsSpec)) frameCutsUptoCard
end Rows
end Go.Proofs.YtlmhlmendnjmlaaDoor
