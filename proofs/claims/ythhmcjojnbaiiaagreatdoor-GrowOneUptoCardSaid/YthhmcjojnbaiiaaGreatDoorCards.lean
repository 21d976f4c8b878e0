/-
  DERIVED. GIVEN WITH THE SEED: THE CARDS: each row of YthhmcjojnbaiiaaGreatDoorRows.lean that lists a variable, with what it lists TIED to the program's text (the seventh form; the later family's looks); each row that meets fmt, with fmt's text TOLD by the authors' own Lean function (tested against real Go, not proved from fmt's source: count such statements apart). THE CARD IS WHAT COUNTS. Prove the row's statement (the work); the ties are given (YthhmcjojnbaiiaaGreatDoorTie.lean); close each card by the builder's one call (the guide's Derived/Test/ToyasCard.lean, 'card_holds'). Laid BY PROGRAM, IN A SANDBOX (cutbox-door.mjs). By AI agents, Wed Nov 11 2026. No macro, syntax, notation, axiom, sorry.
-/
import Derived.Test.YthhmcjojnbaiiaaGreatDoorRows
import GoSem.ClaimSeven
namespace Go.Proofs.YthhmcjojnbaiiaaGreatDoor
namespace Rows

/-- THE TIED CARD OF 'cambiumlaw07.TreeOwn'. -/
def treeOwnCard : Claim7 := { stood := { row := treeOwnRow, standIns := [], harness := (true, "4438d3d8ea9c1aa37ae0fce160057f54be88a3da67c4a265c42bd2bb84c30b75"), looks := false }, kinds := [], alts := [], laidByText := true, laidKinds := [.data, .pinned], laidTests := true, laidLooks := .later }
def TreeOwnCardSaid : Prop := Claim7.holds Tryz.pinned (.plain (OpenSpec.ofChange treeOwnSpec)) treeOwnCard

/-- THE TIED CARD OF 'cambiumlaw07.TreeBlocks'. -/
def treeBlocksCard : Claim7 := { stood := { row := treeBlocksRow, standIns := [], harness := (true, "4438d3d8ea9c1aa37ae0fce160057f54be88a3da67c4a265c42bd2bb84c30b75"), looks := false }, kinds := [], alts := [], laidByText := true, laidKinds := [.data, .pinned], laidTests := true, laidLooks := .later }
def TreeBlocksCardSaid : Prop := Claim7.holds Tryz.pinned (.plain (OpenSpec.ofChange treeBlocksSpec)) treeBlocksCard

/-- THE TIED CARD OF 'cambiumlaw07.TreeReads'. -/
def treeReadsCard : Claim7 := { stood := { row := treeReadsRow, standIns := [], harness := (true, "4438d3d8ea9c1aa37ae0fce160057f54be88a3da67c4a265c42bd2bb84c30b75"), looks := false }, kinds := [], alts := [], laidByText := true, laidKinds := [.data, .pinned], laidTests := true, laidLooks := .later }
def TreeReadsCardSaid : Prop := Claim7.holds Tryz.pinned (.plain (OpenSpec.ofChange treeReadsSpec)) treeReadsCard

/-- THE TIED CARD OF 'cambiumlaw07.TreeRight'. -/
def treeRightCard : Claim7 := { stood := { row := treeRightRow, standIns := [], harness := (true, "4438d3d8ea9c1aa37ae0fce160057f54be88a3da67c4a265c42bd2bb84c30b75"), looks := false }, kinds := [], alts := [], laidByText := true, laidKinds := [.data, .pinned], laidTests := true, laidLooks := .later }
def TreeRightCardSaid : Prop := Claim7.holds Tryz.pinned (.plain (OpenSpec.ofChange treeRightSpec)) treeRightCard

/-- THE TIED CARD OF 'cambiumlaw07.TreeKeys'. -/
def treeKeysCard : Claim7 := { stood := { row := treeKeysRow, standIns := [], harness := (true, "4438d3d8ea9c1aa37ae0fce160057f54be88a3da67c4a265c42bd2bb84c30b75"), looks := false }, kinds := [], alts := [], laidByText := true, laidKinds := [.data, .pinned], laidTests := true, laidLooks := .later }
def TreeKeysCardSaid : Prop := Claim7.holds Tryz.pinned (.plain (OpenSpec.ofChange treeKeysSpec)) treeKeysCard

/-- THE TIED CARD OF 'cambiumlaw08.GrowTurned'. -/
def growTurnedCard : Claim7 := { stood := { row := growTurnedRow, standIns := [], harness := (true, "4438d3d8ea9c1aa37ae0fce160057f54be88a3da67c4a265c42bd2bb84c30b75"), looks := false }, kinds := [], alts := [], laidByText := true, laidKinds := [.data, .pinned], laidTests := true, laidLooks := .later }
def GrowTurnedCardSaid : Prop := Claim7.holds Tryz.pinned (.plain (OpenSpec.ofChange growTurnedSpec)) growTurnedCard

/-- THE TIED CARD OF 'cambiumlaw08.GrowBack'. -/
def growBackCard : Claim7 := { stood := { row := growBackRow, standIns := [], harness := (true, "4438d3d8ea9c1aa37ae0fce160057f54be88a3da67c4a265c42bd2bb84c30b75"), looks := false }, kinds := [], alts := [], laidByText := true, laidKinds := [.data, .pinned], laidTests := true, laidLooks := .later }
def GrowBackCardSaid : Prop := Claim7.holds Tryz.pinned (.plain (OpenSpec.ofChange growBackSpec)) growBackCard

/-- THE TIED CARD OF 'cambiumlaw08.GrowFull'. -/
def growFullCard : Claim7 := { stood := { row := growFullRow, standIns := [], harness := (true, "4438d3d8ea9c1aa37ae0fce160057f54be88a3da67c4a265c42bd2bb84c30b75"), looks := false }, kinds := [], alts := [], laidByText := true, laidKinds := [.data, .pinned], laidTests := true, laidLooks := .later }
def GrowFullCardSaid : Prop := Claim7.holds Tryz.pinned (.plain (OpenSpec.ofChange growFullSpec)) growFullCard

/-- THE TIED CARD OF 'cambiumlaw08.GrowNeeds'. -/
def growNeedsCard : Claim7 := { stood := { row := growNeedsRow, standIns := [], harness := (true, "4438d3d8ea9c1aa37ae0fce160057f54be88a3da67c4a265c42bd2bb84c30b75"), looks := false }, kinds := [], alts := [], laidByText := true, laidKinds := [.data, .pinned], laidTests := true, laidLooks := .later }
def GrowNeedsCardSaid : Prop := Claim7.holds Tryz.pinned (.plain (OpenSpec.ofChange growNeedsSpec)) growNeedsCard

/-- THE TIED CARD OF 'cambiumlaw08.GrowOne'. -/
def growOneCard : Claim7 := { stood := { row := growOneRow, standIns := [], harness := (true, "4438d3d8ea9c1aa37ae0fce160057f54be88a3da67c4a265c42bd2bb84c30b75"), looks := false }, kinds := [], alts := [], laidByText := true, laidKinds := [.data, .pinned], laidTests := true, laidLooks := .later }
def GrowOneCardSaid : Prop := Claim7.holds Tryz.pinned (.plain (OpenSpec.ofChange growOneSpec)) growOneCard

/-- THE TIED CARD OF 'cambiumlaw08.GrowNone'. -/
def growNoneCard : Claim7 := { stood := { row := growNoneRow, standIns := [], harness := (true, "4438d3d8ea9c1aa37ae0fce160057f54be88a3da67c4a265c42bd2bb84c30b75"), looks := false }, kinds := [], alts := [], laidByText := true, laidKinds := [.data, .pinned], laidTests := true, laidLooks := .later }
def GrowNoneCardSaid : Prop := Claim7.holds Tryz.pinned (.plain (OpenSpec.ofChange growNoneSpec)) growNoneCard

/-- THE SECOND FORM's CARD OF 'cambiumlaw07.TreeOwn'. -/
def treeOwnUptoCard : Claim7 := { stood := { row := treeOwnUptoRow, standIns := [], harness := (true, "4438d3d8ea9c1aa37ae0fce160057f54be88a3da67c4a265c42bd2bb84c30b75"), looks := false }, kinds := [], alts := [], laidByText := true, laidKinds := [.data, .pinned], laidTests := true, laidLooks := .later }
def TreeOwnUptoCardSaid : Prop := Claim7.holds Tryz.pinned (.plain (OpenSpec.upto treeOwnSpec)) treeOwnUptoCard

/-- THE SECOND FORM's CARD OF 'cambiumlaw07.TreeBlocks'. -/
def treeBlocksUptoCard : Claim7 := { stood := { row := treeBlocksUptoRow, standIns := [], harness := (true, "4438d3d8ea9c1aa37ae0fce160057f54be88a3da67c4a265c42bd2bb84c30b75"), looks := false }, kinds := [], alts := [], laidByText := true, laidKinds := [.data, .pinned], laidTests := true, laidLooks := .later }
def TreeBlocksUptoCardSaid : Prop := Claim7.holds Tryz.pinned (.plain (OpenSpec.upto treeBlocksSpec)) treeBlocksUptoCard

/-- THE SECOND FORM's CARD OF 'cambiumlaw07.TreeReads'. -/
def treeReadsUptoCard : Claim7 := { stood := { row := treeReadsUptoRow, standIns := [], harness := (true, "4438d3d8ea9c1aa37ae0fce160057f54be88a3da67c4a265c42bd2bb84c30b75"), looks := false }, kinds := [], alts := [], laidByText := true, laidKinds := [.data, .pinned], laidTests := true, laidLooks := .later }
def TreeReadsUptoCardSaid : Prop := Claim7.holds Tryz.pinned (.plain (OpenSpec.upto treeReadsSpec)) treeReadsUptoCard

/-- THE SECOND FORM's CARD OF 'cambiumlaw07.TreeRight'. -/
def treeRightUptoCard : Claim7 := { stood := { row := treeRightUptoRow, standIns := [], harness := (true, "4438d3d8ea9c1aa37ae0fce160057f54be88a3da67c4a265c42bd2bb84c30b75"), looks := false }, kinds := [], alts := [], laidByText := true, laidKinds := [.data, .pinned], laidTests := true, laidLooks := .later }
def TreeRightUptoCardSaid : Prop := Claim7.holds Tryz.pinned (.plain (OpenSpec.upto treeRightSpec)) treeRightUptoCard

/-- THE SECOND FORM's CARD OF 'cambiumlaw07.TreeKeys'. -/
def treeKeysUptoCard : Claim7 := { stood := { row := treeKeysUptoRow, standIns := [], harness := (true, "4438d3d8ea9c1aa37ae0fce160057f54be88a3da67c4a265c42bd2bb84c30b75"), looks := false }, kinds := [], alts := [], laidByText := true, laidKinds := [.data, .pinned], laidTests := true, laidLooks := .later }
def TreeKeysUptoCardSaid : Prop := Claim7.holds Tryz.pinned (.plain (OpenSpec.upto treeKeysSpec)) treeKeysUptoCard

/-- THE SECOND FORM's CARD OF 'cambiumlaw08.GrowTurned'. -/
def growTurnedUptoCard : Claim7 := { stood := { row := growTurnedUptoRow, standIns := [], harness := (true, "4438d3d8ea9c1aa37ae0fce160057f54be88a3da67c4a265c42bd2bb84c30b75"), looks := false }, kinds := [], alts := [], laidByText := true, laidKinds := [.data, .pinned], laidTests := true, laidLooks := .later }
def GrowTurnedUptoCardSaid : Prop := Claim7.holds Tryz.pinned (.plain (OpenSpec.upto growTurnedSpec)) growTurnedUptoCard

/-- THE SECOND FORM's CARD OF 'cambiumlaw08.GrowBack'. -/
def growBackUptoCard : Claim7 := { stood := { row := growBackUptoRow, standIns := [], harness := (true, "4438d3d8ea9c1aa37ae0fce160057f54be88a3da67c4a265c42bd2bb84c30b75"), looks := false }, kinds := [], alts := [], laidByText := true, laidKinds := [.data, .pinned], laidTests := true, laidLooks := .later }
def GrowBackUptoCardSaid : Prop := Claim7.holds Tryz.pinned (.plain (OpenSpec.upto growBackSpec)) growBackUptoCard

/-- THE SECOND FORM's CARD OF 'cambiumlaw08.GrowFull'. -/
def growFullUptoCard : Claim7 := { stood := { row := growFullUptoRow, standIns := [], harness := (true, "4438d3d8ea9c1aa37ae0fce160057f54be88a3da67c4a265c42bd2bb84c30b75"), looks := false }, kinds := [], alts := [], laidByText := true, laidKinds := [.data, .pinned], laidTests := true, laidLooks := .later }
def GrowFullUptoCardSaid : Prop := Claim7.holds Tryz.pinned (.plain (OpenSpec.upto growFullSpec)) growFullUptoCard

/-- THE SECOND FORM's CARD OF 'cambiumlaw08.GrowNeeds'. -/
def growNeedsUptoCard : Claim7 := { stood := { row := growNeedsUptoRow, standIns := [], harness := (true, "4438d3d8ea9c1aa37ae0fce160057f54be88a3da67c4a265c42bd2bb84c30b75"), looks := false }, kinds := [], alts := [], laidByText := true, laidKinds := [.data, .pinned], laidTests := true, laidLooks := .later }
def GrowNeedsUptoCardSaid : Prop := Claim7.holds Tryz.pinned (.plain (OpenSpec.upto growNeedsSpec)) growNeedsUptoCard

/-- THE SECOND FORM's CARD OF 'cambiumlaw08.GrowOne'. -/
def growOneUptoCard : Claim7 := { stood := { row := growOneUptoRow, standIns := [], harness := (true, "4438d3d8ea9c1aa37ae0fce160057f54be88a3da67c4a265c42bd2bb84c30b75"), looks := false }, kinds := [], alts := [], laidByText := true, laidKinds := [.data, .pinned], laidTests := true, laidLooks := .later }
def GrowOneUptoCardSaid : Prop := Claim7.holds Tryz.pinned (.plain (OpenSpec.upto growOneSpec)) growOneUptoCard

/-- THE SECOND FORM's CARD OF 'cambiumlaw08.GrowNone'. -/
def growNoneUptoCard : Claim7 := { stood := { row := growNoneUptoRow, standIns := [], harness := (true, "4438d3d8ea9c1aa37ae0fce160057f54be88a3da67c4a265c42bd2bb84c30b75"), looks := false }, kinds := [], alts := [], laidByText := true, laidKinds := [.data, .pinned], laidTests := true, laidLooks := .later }
def GrowNoneUptoCardSaid : Prop := Claim7.holds Tryz.pinned (.plain (OpenSpec.upto growNoneSpec)) growNoneUptoCard
end Rows
end Go.Proofs.YthhmcjojnbaiiaaGreatDoor
