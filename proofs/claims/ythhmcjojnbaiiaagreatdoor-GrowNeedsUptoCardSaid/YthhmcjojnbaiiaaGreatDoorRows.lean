/-
  NARROWER THAN 'FOR EVERY INPUT', by the rows' own cells (each row's printed sentence says how): TreeOwn: laid · TreeBlocks: laid · TreeReads: laid · TreeRight: laid · TreeKeys: laid · GrowTurned: laid · GrowBack: laid · GrowFull: laid · GrowNeeds: laid · GrowOne: laid · GrowNone: laid.
  DERIVED. THE GIVEN ROWS OF THIS SEAT. 11 by the template 'for every input the law returns true; each argument reads behind the call as it read before'; 0 by the template 'total and deterministic' (their statements: YthhmcjojnbaiiaaGreatDoorTotals.lean).
  GIVEN WITH THE SEED: the statements are not yours to turn. If you find one false, say at which input.
  Laid BY PROGRAM, IN A SANDBOX (cutbox-rows.mjs): the forced cells as the released guide's own fill.sh prints them over the translation 11ecdbc01855f5b6… (all of the seat's roots in one cut). By AI agents, Wed Nov 11 2026. No macro, syntax, notation, axiom, sorry.
-/
import Derived.Test.YthhmcjojnbaiiaaGreatDoorChecked
import GoSem.PinnedTables
import GoSem.Claim
import GoSem.ClaimJoined
import GoSem.ClaimMapViews
import Derived.JoinedTies
import Derived.KernelRfl
namespace Go.Proofs.YthhmcjojnbaiiaaGreatDoor
/- THE CELL 'sum', in the pinned program and in every row, IS THE sha256 OF THE DUMP (.gsa) THAT YthhmcjojnbaiiaaGreatDoorProg.lean LOADS. Nothing in Lean hashes anything: it is a label: what it is worth is what the hold of that sum in a sandbox is worth. -/
noncomputable def Tryz.pinned : Pinned := { name := "ythhmcjojnbaiiaagreatdoor", sum := "11ecdbc01855f5b6a28e2449910b5d224b9aee8b2a85a3bdfa971830ab10ec44", checked := Tryz.checked }
namespace Rows
def none {H : Type} : Left H := { results := [], args := [] }

/- WHAT THE LISTED PACKAGE-LEVEL VARIABLES READ AS WHEN THE CALL BEGINS. Each datum BY PROGRAM (the guide's laid-datum.mjs) off the statement by which the dump's own 'gosem.cut.vars' lays the variable. In a bare row this is a premise. The card (YthhmcjojnbaiiaaGreatDoorCards.lean) ties it to the program's text. -/
def laid_unicode_utf8_acceptRanges {H : Type} : DataW H := .agg [.agg [.lit (.int .u8 128), .lit (.int .u8 191)], .agg [.lit (.int .u8 160), .lit (.int .u8 191)], .agg [.lit (.int .u8 128), .lit (.int .u8 159)], .agg [.lit (.int .u8 144), .lit (.int .u8 191)], .agg [.lit (.int .u8 128), .lit (.int .u8 143)], .agg [.lit (.int .u8 0), .lit (.int .u8 0)], .agg [.lit (.int .u8 0), .lit (.int .u8 0)], .agg [.lit (.int .u8 0), .lit (.int .u8 0)], .agg [.lit (.int .u8 0), .lit (.int .u8 0)], .agg [.lit (.int .u8 0), .lit (.int .u8 0)], .agg [.lit (.int .u8 0), .lit (.int .u8 0)], .agg [.lit (.int .u8 0), .lit (.int .u8 0)], .agg [.lit (.int .u8 0), .lit (.int .u8 0)], .agg [.lit (.int .u8 0), .lit (.int .u8 0)], .agg [.lit (.int .u8 0), .lit (.int .u8 0)], .agg [.lit (.int .u8 0), .lit (.int .u8 0)]]
/-- One of Go's own tables, pinned by name: the form's constant. -/
def laid_unicode_utf8_first : DataW Unit := Go.Pinned.utf8First

/-- 'cambiumlaw07.TreeOwn': WHATEVER THE INPUT: true; the input reads as it did. -/
def treeOwnSpec : ChangeSpec := { name := "treeOwn", fn := fun _ => fun
  | [d1, d2] => { results := [.lit (.bool true)], args := [d1, d2] }
  | _ => none }
def treeOwnRow : OpenClaim := { program := "ythhmcjojnbaiiaagreatdoor", sum := "11ecdbc01855f5b6a28e2449910b5d224b9aee8b2a85a3bdfa971830ab10ec44", func := "cambium/cambiumlaw07.TreeOwn", spec := "treeOwn", inPlace := ["internal/abi.NoEscape", "internal/bytealg.MakeNoZero", "sync/atomic.AddUint64", "internal/bytealg.IndexByteString", "internal/bytealg.IndexString", "sync/atomic.AddInt64", "slices.overlaps[*cambium/heap.cell]"], unfollowed := true, recurses := true, named := ["unicode/utf8.first", "unicode/utf8.acceptRanges", "internal/bytealg.MaxLen"], apart := false, laid := [("unicode/utf8.acceptRanges", laid_unicode_utf8_acceptRanges), ("unicode/utf8.first", laid_unicode_utf8_first)] }
def TreeOwnSaid : Prop := treeOwnRow.holds Tryz.pinned (OpenSpec.ofChange treeOwnSpec)

/-- ITS FALSE NEIGHBOUR: 'it returns false'. Refute it at one input. -/
def treeOwnWrong : ChangeSpec := { name := "treeOwn", fn := fun _ => fun
  | [d1, d2] => { results := [.lit (.bool false)], args := [d1, d2] }
  | _ => none }
def TreeOwnWrongFalsely : Prop := treeOwnRow.holds Tryz.pinned (OpenSpec.ofChange treeOwnWrong)

/-- 'cambiumlaw07.TreeBlocks': WHATEVER THE INPUT: true; the input reads as it did. -/
def treeBlocksSpec : ChangeSpec := { name := "treeBlocks", fn := fun _ => fun
  | [d1, d2] => { results := [.lit (.bool true)], args := [d1, d2] }
  | _ => none }
def treeBlocksRow : OpenClaim := { program := "ythhmcjojnbaiiaagreatdoor", sum := "11ecdbc01855f5b6a28e2449910b5d224b9aee8b2a85a3bdfa971830ab10ec44", func := "cambium/cambiumlaw07.TreeBlocks", spec := "treeBlocks", inPlace := ["internal/abi.NoEscape", "internal/bytealg.MakeNoZero", "sync/atomic.AddUint64", "internal/bytealg.IndexByteString", "internal/bytealg.IndexString", "sync/atomic.AddInt64", "slices.overlaps[*cambium/heap.cell]"], unfollowed := true, recurses := true, named := ["unicode/utf8.first", "unicode/utf8.acceptRanges", "internal/bytealg.MaxLen"], apart := false, laid := [("unicode/utf8.acceptRanges", laid_unicode_utf8_acceptRanges), ("unicode/utf8.first", laid_unicode_utf8_first)] }
def TreeBlocksSaid : Prop := treeBlocksRow.holds Tryz.pinned (OpenSpec.ofChange treeBlocksSpec)

/-- ITS FALSE NEIGHBOUR: 'it returns false'. Refute it at one input. -/
def treeBlocksWrong : ChangeSpec := { name := "treeBlocks", fn := fun _ => fun
  | [d1, d2] => { results := [.lit (.bool false)], args := [d1, d2] }
  | _ => none }
def TreeBlocksWrongFalsely : Prop := treeBlocksRow.holds Tryz.pinned (OpenSpec.ofChange treeBlocksWrong)

/-- 'cambiumlaw07.TreeReads': WHATEVER THE INPUT: true; the input reads as it did. -/
def treeReadsSpec : ChangeSpec := { name := "treeReads", fn := fun _ => fun
  | [d1, d2, d3] => { results := [.lit (.bool true)], args := [d1, d2, d3] }
  | _ => none }
def treeReadsRow : OpenClaim := { program := "ythhmcjojnbaiiaagreatdoor", sum := "11ecdbc01855f5b6a28e2449910b5d224b9aee8b2a85a3bdfa971830ab10ec44", func := "cambium/cambiumlaw07.TreeReads", spec := "treeReads", inPlace := ["internal/abi.NoEscape", "internal/bytealg.MakeNoZero", "sync/atomic.AddUint64", "internal/bytealg.IndexByteString", "internal/bytealg.IndexString", "sync/atomic.AddInt64", "slices.overlaps[*cambium/heap.cell]"], unfollowed := true, recurses := true, named := ["unicode/utf8.first", "unicode/utf8.acceptRanges", "internal/bytealg.MaxLen"], apart := false, laid := [("unicode/utf8.acceptRanges", laid_unicode_utf8_acceptRanges), ("unicode/utf8.first", laid_unicode_utf8_first)] }
def TreeReadsSaid : Prop := treeReadsRow.holds Tryz.pinned (OpenSpec.ofChange treeReadsSpec)

/-- ITS FALSE NEIGHBOUR: 'it returns false'. Refute it at one input. -/
def treeReadsWrong : ChangeSpec := { name := "treeReads", fn := fun _ => fun
  | [d1, d2, d3] => { results := [.lit (.bool false)], args := [d1, d2, d3] }
  | _ => none }
def TreeReadsWrongFalsely : Prop := treeReadsRow.holds Tryz.pinned (OpenSpec.ofChange treeReadsWrong)

/-- 'cambiumlaw07.TreeRight': WHATEVER THE INPUT: true; the input reads as it did. -/
def treeRightSpec : ChangeSpec := { name := "treeRight", fn := fun _ => fun
  | [d1, d2, d3] => { results := [.lit (.bool true)], args := [d1, d2, d3] }
  | _ => none }
def treeRightRow : OpenClaim := { program := "ythhmcjojnbaiiaagreatdoor", sum := "11ecdbc01855f5b6a28e2449910b5d224b9aee8b2a85a3bdfa971830ab10ec44", func := "cambium/cambiumlaw07.TreeRight", spec := "treeRight", inPlace := ["internal/abi.NoEscape", "internal/bytealg.MakeNoZero", "sync/atomic.AddUint64", "internal/bytealg.IndexByteString", "internal/bytealg.IndexString", "sync/atomic.AddInt64", "slices.overlaps[*cambium/heap.cell]"], unfollowed := true, recurses := true, named := ["unicode/utf8.first", "unicode/utf8.acceptRanges", "internal/bytealg.MaxLen"], apart := false, laid := [("unicode/utf8.acceptRanges", laid_unicode_utf8_acceptRanges), ("unicode/utf8.first", laid_unicode_utf8_first)] }
def TreeRightSaid : Prop := treeRightRow.holds Tryz.pinned (OpenSpec.ofChange treeRightSpec)

/-- ITS FALSE NEIGHBOUR: 'it returns false'. Refute it at one input. -/
def treeRightWrong : ChangeSpec := { name := "treeRight", fn := fun _ => fun
  | [d1, d2, d3] => { results := [.lit (.bool false)], args := [d1, d2, d3] }
  | _ => none }
def TreeRightWrongFalsely : Prop := treeRightRow.holds Tryz.pinned (OpenSpec.ofChange treeRightWrong)

/-- 'cambiumlaw07.TreeKeys': WHATEVER THE INPUT: true; the input reads as it did. -/
def treeKeysSpec : ChangeSpec := { name := "treeKeys", fn := fun _ => fun
  | [d1, d2, d3] => { results := [.lit (.bool true)], args := [d1, d2, d3] }
  | _ => none }
def treeKeysRow : OpenClaim := { program := "ythhmcjojnbaiiaagreatdoor", sum := "11ecdbc01855f5b6a28e2449910b5d224b9aee8b2a85a3bdfa971830ab10ec44", func := "cambium/cambiumlaw07.TreeKeys", spec := "treeKeys", inPlace := ["internal/abi.NoEscape", "internal/bytealg.MakeNoZero", "sync/atomic.AddUint64", "internal/bytealg.IndexByteString", "internal/bytealg.IndexString", "sync/atomic.AddInt64", "slices.overlaps[*cambium/heap.cell]"], unfollowed := true, recurses := true, named := ["unicode/utf8.first", "unicode/utf8.acceptRanges", "internal/bytealg.MaxLen"], apart := false, laid := [("unicode/utf8.acceptRanges", laid_unicode_utf8_acceptRanges), ("unicode/utf8.first", laid_unicode_utf8_first)] }
def TreeKeysSaid : Prop := treeKeysRow.holds Tryz.pinned (OpenSpec.ofChange treeKeysSpec)

/-- ITS FALSE NEIGHBOUR: 'it returns false'. Refute it at one input. -/
def treeKeysWrong : ChangeSpec := { name := "treeKeys", fn := fun _ => fun
  | [d1, d2, d3] => { results := [.lit (.bool false)], args := [d1, d2, d3] }
  | _ => none }
def TreeKeysWrongFalsely : Prop := treeKeysRow.holds Tryz.pinned (OpenSpec.ofChange treeKeysWrong)

/-- 'cambiumlaw08.GrowTurned': WHATEVER THE INPUT: true; the input reads as it did. -/
def growTurnedSpec : ChangeSpec := { name := "growTurned", fn := fun _ => fun
  | [d1, d2, d3, d4] => { results := [.lit (.bool true)], args := [d1, d2, d3, d4] }
  | _ => none }
def growTurnedRow : OpenClaim := { program := "ythhmcjojnbaiiaagreatdoor", sum := "11ecdbc01855f5b6a28e2449910b5d224b9aee8b2a85a3bdfa971830ab10ec44", func := "cambium/cambiumlaw08.GrowTurned", spec := "growTurned", inPlace := ["internal/abi.NoEscape", "internal/bytealg.MakeNoZero", "sync/atomic.AddUint64", "internal/bytealg.IndexByteString", "internal/bytealg.IndexString", "sync/atomic.AddInt64", "slices.overlaps[*cambium/heap.cell]", "slices.overlaps[cambium/api.Item]"], unfollowed := true, recurses := true, named := ["unicode/utf8.first", "unicode/utf8.acceptRanges", "internal/bytealg.MaxLen"], apart := false, laid := [("unicode/utf8.acceptRanges", laid_unicode_utf8_acceptRanges), ("unicode/utf8.first", laid_unicode_utf8_first)] }
def GrowTurnedSaid : Prop := growTurnedRow.holds Tryz.pinned (OpenSpec.ofChange growTurnedSpec)

/-- ITS FALSE NEIGHBOUR: 'it returns false'. Refute it at one input. -/
def growTurnedWrong : ChangeSpec := { name := "growTurned", fn := fun _ => fun
  | [d1, d2, d3, d4] => { results := [.lit (.bool false)], args := [d1, d2, d3, d4] }
  | _ => none }
def GrowTurnedWrongFalsely : Prop := growTurnedRow.holds Tryz.pinned (OpenSpec.ofChange growTurnedWrong)

/-- 'cambiumlaw08.GrowBack': WHATEVER THE INPUT: true; the input reads as it did. -/
def growBackSpec : ChangeSpec := { name := "growBack", fn := fun _ => fun
  | [d1, d2, d3] => { results := [.lit (.bool true)], args := [d1, d2, d3] }
  | _ => none }
def growBackRow : OpenClaim := { program := "ythhmcjojnbaiiaagreatdoor", sum := "11ecdbc01855f5b6a28e2449910b5d224b9aee8b2a85a3bdfa971830ab10ec44", func := "cambium/cambiumlaw08.GrowBack", spec := "growBack", inPlace := ["internal/abi.NoEscape", "internal/bytealg.MakeNoZero", "sync/atomic.AddUint64", "internal/bytealg.IndexByteString", "internal/bytealg.IndexString", "sync/atomic.AddInt64", "slices.overlaps[*cambium/heap.cell]", "slices.overlaps[cambium/api.Item]"], unfollowed := true, recurses := true, named := ["unicode/utf8.first", "unicode/utf8.acceptRanges", "internal/bytealg.MaxLen"], apart := false, laid := [("unicode/utf8.acceptRanges", laid_unicode_utf8_acceptRanges), ("unicode/utf8.first", laid_unicode_utf8_first)] }
def GrowBackSaid : Prop := growBackRow.holds Tryz.pinned (OpenSpec.ofChange growBackSpec)

/-- ITS FALSE NEIGHBOUR: 'it returns false'. Refute it at one input. -/
def growBackWrong : ChangeSpec := { name := "growBack", fn := fun _ => fun
  | [d1, d2, d3] => { results := [.lit (.bool false)], args := [d1, d2, d3] }
  | _ => none }
def GrowBackWrongFalsely : Prop := growBackRow.holds Tryz.pinned (OpenSpec.ofChange growBackWrong)

/-- 'cambiumlaw08.GrowFull': WHATEVER THE INPUT: true; the input reads as it did. -/
def growFullSpec : ChangeSpec := { name := "growFull", fn := fun _ => fun
  | [d1, d2] => { results := [.lit (.bool true)], args := [d1, d2] }
  | _ => none }
def growFullRow : OpenClaim := { program := "ythhmcjojnbaiiaagreatdoor", sum := "11ecdbc01855f5b6a28e2449910b5d224b9aee8b2a85a3bdfa971830ab10ec44", func := "cambium/cambiumlaw08.GrowFull", spec := "growFull", inPlace := ["internal/abi.NoEscape", "internal/bytealg.MakeNoZero", "sync/atomic.AddUint64", "internal/bytealg.IndexByteString", "internal/bytealg.IndexString", "sync/atomic.AddInt64", "slices.overlaps[*cambium/heap.cell]", "slices.overlaps[cambium/api.Item]"], unfollowed := true, recurses := true, named := ["unicode/utf8.first", "unicode/utf8.acceptRanges", "internal/bytealg.MaxLen"], apart := false, laid := [("unicode/utf8.acceptRanges", laid_unicode_utf8_acceptRanges), ("unicode/utf8.first", laid_unicode_utf8_first)] }
def GrowFullSaid : Prop := growFullRow.holds Tryz.pinned (OpenSpec.ofChange growFullSpec)

/-- ITS FALSE NEIGHBOUR: 'it returns false'. Refute it at one input. -/
def growFullWrong : ChangeSpec := { name := "growFull", fn := fun _ => fun
  | [d1, d2] => { results := [.lit (.bool false)], args := [d1, d2] }
  | _ => none }
def GrowFullWrongFalsely : Prop := growFullRow.holds Tryz.pinned (OpenSpec.ofChange growFullWrong)

/-- 'cambiumlaw08.GrowNeeds': WHATEVER THE INPUT: true; the input reads as it did. -/
def growNeedsSpec : ChangeSpec := { name := "growNeeds", fn := fun _ => fun
  | [d] => { results := [.lit (.bool true)], args := [d] }
  | _ => none }
def growNeedsRow : OpenClaim := { program := "ythhmcjojnbaiiaagreatdoor", sum := "11ecdbc01855f5b6a28e2449910b5d224b9aee8b2a85a3bdfa971830ab10ec44", func := "cambium/cambiumlaw08.GrowNeeds", spec := "growNeeds", inPlace := ["internal/abi.NoEscape", "internal/bytealg.MakeNoZero", "sync/atomic.AddUint64", "internal/bytealg.IndexByteString", "internal/bytealg.IndexString", "sync/atomic.AddInt64", "slices.overlaps[*cambium/heap.cell]", "slices.overlaps[cambium/api.Item]"], unfollowed := true, recurses := true, named := ["unicode/utf8.first", "unicode/utf8.acceptRanges", "internal/bytealg.MaxLen"], apart := false, laid := [("unicode/utf8.acceptRanges", laid_unicode_utf8_acceptRanges), ("unicode/utf8.first", laid_unicode_utf8_first)] }
def GrowNeedsSaid : Prop := growNeedsRow.holds Tryz.pinned (OpenSpec.ofChange growNeedsSpec)

/-- ITS FALSE NEIGHBOUR: 'it returns false'. Refute it at one input. -/
def growNeedsWrong : ChangeSpec := { name := "growNeeds", fn := fun _ => fun
  | [d] => { results := [.lit (.bool false)], args := [d] }
  | _ => none }
def GrowNeedsWrongFalsely : Prop := growNeedsRow.holds Tryz.pinned (OpenSpec.ofChange growNeedsWrong)

/-- 'cambiumlaw08.GrowOne': WHATEVER THE INPUT: true; the input reads as it did. -/
def growOneSpec : ChangeSpec := { name := "growOne", fn := fun _ => fun
  | [d1, d2, d3] => { results := [.lit (.bool true)], args := [d1, d2, d3] }
  | _ => none }
def growOneRow : OpenClaim := { program := "ythhmcjojnbaiiaagreatdoor", sum := "11ecdbc01855f5b6a28e2449910b5d224b9aee8b2a85a3bdfa971830ab10ec44", func := "cambium/cambiumlaw08.GrowOne", spec := "growOne", inPlace := ["internal/abi.NoEscape", "internal/bytealg.MakeNoZero", "sync/atomic.AddUint64", "internal/bytealg.IndexByteString", "internal/bytealg.IndexString", "sync/atomic.AddInt64", "slices.overlaps[*cambium/heap.cell]", "slices.overlaps[cambium/api.Item]"], unfollowed := true, recurses := true, named := ["unicode/utf8.first", "unicode/utf8.acceptRanges", "internal/bytealg.MaxLen"], apart := false, laid := [("unicode/utf8.acceptRanges", laid_unicode_utf8_acceptRanges), ("unicode/utf8.first", laid_unicode_utf8_first)] }
def GrowOneSaid : Prop := growOneRow.holds Tryz.pinned (OpenSpec.ofChange growOneSpec)

/-- ITS FALSE NEIGHBOUR: 'it returns false'. Refute it at one input. -/
def growOneWrong : ChangeSpec := { name := "growOne", fn := fun _ => fun
  | [d1, d2, d3] => { results := [.lit (.bool false)], args := [d1, d2, d3] }
  | _ => none }
def GrowOneWrongFalsely : Prop := growOneRow.holds Tryz.pinned (OpenSpec.ofChange growOneWrong)

/-- 'cambiumlaw08.GrowNone': WHATEVER THE INPUT: true; the input reads as it did. -/
def growNoneSpec : ChangeSpec := { name := "growNone", fn := fun _ => fun
  | [d1, d2] => { results := [.lit (.bool true)], args := [d1, d2] }
  | _ => none }
def growNoneRow : OpenClaim := { program := "ythhmcjojnbaiiaagreatdoor", sum := "11ecdbc01855f5b6a28e2449910b5d224b9aee8b2a85a3bdfa971830ab10ec44", func := "cambium/cambiumlaw08.GrowNone", spec := "growNone", inPlace := ["internal/abi.NoEscape", "internal/bytealg.MakeNoZero", "sync/atomic.AddUint64", "internal/bytealg.IndexByteString", "internal/bytealg.IndexString", "sync/atomic.AddInt64", "slices.overlaps[*cambium/heap.cell]", "slices.overlaps[cambium/api.Item]"], unfollowed := true, recurses := true, named := ["unicode/utf8.first", "unicode/utf8.acceptRanges", "internal/bytealg.MaxLen"], apart := false, laid := [("unicode/utf8.acceptRanges", laid_unicode_utf8_acceptRanges), ("unicode/utf8.first", laid_unicode_utf8_first)] }
def GrowNoneSaid : Prop := growNoneRow.holds Tryz.pinned (OpenSpec.ofChange growNoneSpec)

/-- ITS FALSE NEIGHBOUR: 'it returns false'. Refute it at one input. -/
def growNoneWrong : ChangeSpec := { name := "growNone", fn := fun _ => fun
  | [d1, d2] => { results := [.lit (.bool false)], args := [d1, d2] }
  | _ => none }
def GrowNoneWrongFalsely : Prop := growNoneRow.holds Tryz.pinned (OpenSpec.ofChange growNoneWrong)

/- THE SECOND FORM. 'bulk': how many values and letters a reading holds, each counted each time it is reached (what is shared counts as often as it is met; a slice's spare places count too). A statement '..UptoSaid' is the law's where the arguments, and the package variables that the reading takes, are together of bulk at most 1048576: NARROWER than '..Said'. Prove '..Said' where nothing that the law and all that it calls make is longer than what came in: it says more and counts as full. Else prove '..UptoSaid'. A law counts once. -/
mutual
def uptoBulk {H : Type} : DataW H → Nat
  | .lit (.string bytes) => bytes.length + 1
  | .lit _ => 1
  | .nil => 1
  | .ptr d => uptoBulk d + 1
  | .slice elems spare => uptoBulkAll elems + uptoBulkAll spare + 1
  | .agg parts => uptoBulkAll parts + 1
  | .iface _ d => uptoBulk d + 1
  | .map entries => uptoBulkEntries entries + 1
  | .held _ => 1
def uptoBulkAll {H : Type} : List (DataW H) → Nat
  | [] => 0
  | d :: r => uptoBulk d + uptoBulkAll r
def uptoBulkEntries {H : Type} : List (Lit × DataW H) → Nat
  | [] => 0
  | x :: r => uptoBulkEntry x + uptoBulkEntries r
def uptoBulkEntry {H : Type} : Lit × DataW H → Nat
  | (.string bytes, d) => bytes.length + uptoBulk d + 1
  | (_, d) => uptoBulk d + 1
 end
def uptoSmall : (H : Type) → List (DataW H) → Bool := fun _ ds => decide (uptoBulkAll ds ≤ 1048576)
def OpenSpec.upto (s : _root_.Go.ChangeSpec) : _root_.Go.OpenSpec := { _root_.Go.OpenSpec.ofChange s with cond := some uptoSmall }

/-- 'cambiumlaw07.TreeOwn', WHERE WHAT IT READS IS OF BULK AT MOST 1048576: true; the input reads as it did. -/
def treeOwnUptoRow : OpenClaim := { program := "ythhmcjojnbaiiaagreatdoor", sum := "11ecdbc01855f5b6a28e2449910b5d224b9aee8b2a85a3bdfa971830ab10ec44", func := "cambium/cambiumlaw07.TreeOwn", spec := "treeOwn", inPlace := ["internal/abi.NoEscape", "internal/bytealg.MakeNoZero", "sync/atomic.AddUint64", "internal/bytealg.IndexByteString", "internal/bytealg.IndexString", "sync/atomic.AddInt64", "slices.overlaps[*cambium/heap.cell]"], unfollowed := true, recurses := true, named := ["unicode/utf8.first", "unicode/utf8.acceptRanges", "internal/bytealg.MaxLen"], apart := false, laid := [("unicode/utf8.acceptRanges", laid_unicode_utf8_acceptRanges), ("unicode/utf8.first", laid_unicode_utf8_first)], narrowed := true }
def TreeOwnUptoSaid : Prop := treeOwnUptoRow.holds Tryz.pinned (OpenSpec.upto treeOwnSpec)

/-- 'cambiumlaw07.TreeBlocks', WHERE WHAT IT READS IS OF BULK AT MOST 1048576: true; the input reads as it did. -/
def treeBlocksUptoRow : OpenClaim := { program := "ythhmcjojnbaiiaagreatdoor", sum := "11ecdbc01855f5b6a28e2449910b5d224b9aee8b2a85a3bdfa971830ab10ec44", func := "cambium/cambiumlaw07.TreeBlocks", spec := "treeBlocks", inPlace := ["internal/abi.NoEscape", "internal/bytealg.MakeNoZero", "sync/atomic.AddUint64", "internal/bytealg.IndexByteString", "internal/bytealg.IndexString", "sync/atomic.AddInt64", "slices.overlaps[*cambium/heap.cell]"], unfollowed := true, recurses := true, named := ["unicode/utf8.first", "unicode/utf8.acceptRanges", "internal/bytealg.MaxLen"], apart := false, laid := [("unicode/utf8.acceptRanges", laid_unicode_utf8_acceptRanges), ("unicode/utf8.first", laid_unicode_utf8_first)], narrowed := true }
def TreeBlocksUptoSaid : Prop := treeBlocksUptoRow.holds Tryz.pinned (OpenSpec.upto treeBlocksSpec)

/-- 'cambiumlaw07.TreeReads', WHERE WHAT IT READS IS OF BULK AT MOST 1048576: true; the input reads as it did. -/
def treeReadsUptoRow : OpenClaim := { program := "ythhmcjojnbaiiaagreatdoor", sum := "11ecdbc01855f5b6a28e2449910b5d224b9aee8b2a85a3bdfa971830ab10ec44", func := "cambium/cambiumlaw07.TreeReads", spec := "treeReads", inPlace := ["internal/abi.NoEscape", "internal/bytealg.MakeNoZero", "sync/atomic.AddUint64", "internal/bytealg.IndexByteString", "internal/bytealg.IndexString", "sync/atomic.AddInt64", "slices.overlaps[*cambium/heap.cell]"], unfollowed := true, recurses := true, named := ["unicode/utf8.first", "unicode/utf8.acceptRanges", "internal/bytealg.MaxLen"], apart := false, laid := [("unicode/utf8.acceptRanges", laid_unicode_utf8_acceptRanges), ("unicode/utf8.first", laid_unicode_utf8_first)], narrowed := true }
def TreeReadsUptoSaid : Prop := treeReadsUptoRow.holds Tryz.pinned (OpenSpec.upto treeReadsSpec)

/-- 'cambiumlaw07.TreeRight', WHERE WHAT IT READS IS OF BULK AT MOST 1048576: true; the input reads as it did. -/
def treeRightUptoRow : OpenClaim := { program := "ythhmcjojnbaiiaagreatdoor", sum := "11ecdbc01855f5b6a28e2449910b5d224b9aee8b2a85a3bdfa971830ab10ec44", func := "cambium/cambiumlaw07.TreeRight", spec := "treeRight", inPlace := ["internal/abi.NoEscape", "internal/bytealg.MakeNoZero", "sync/atomic.AddUint64", "internal/bytealg.IndexByteString", "internal/bytealg.IndexString", "sync/atomic.AddInt64", "slices.overlaps[*cambium/heap.cell]"], unfollowed := true, recurses := true, named := ["unicode/utf8.first", "unicode/utf8.acceptRanges", "internal/bytealg.MaxLen"], apart := false, laid := [("unicode/utf8.acceptRanges", laid_unicode_utf8_acceptRanges), ("unicode/utf8.first", laid_unicode_utf8_first)], narrowed := true }
def TreeRightUptoSaid : Prop := treeRightUptoRow.holds Tryz.pinned (OpenSpec.upto treeRightSpec)

/-- 'cambiumlaw07.TreeKeys', WHERE WHAT IT READS IS OF BULK AT MOST 1048576: true; the input reads as it did. -/
def treeKeysUptoRow : OpenClaim := { program := "ythhmcjojnbaiiaagreatdoor", sum := "11ecdbc01855f5b6a28e2449910b5d224b9aee8b2a85a3bdfa971830ab10ec44", func := "cambium/cambiumlaw07.TreeKeys", spec := "treeKeys", inPlace := ["internal/abi.NoEscape", "internal/bytealg.MakeNoZero", "sync/atomic.AddUint64", "internal/bytealg.IndexByteString", "internal/bytealg.IndexString", "sync/atomic.AddInt64", "slices.overlaps[*cambium/heap.cell]"], unfollowed := true, recurses := true, named := ["unicode/utf8.first", "unicode/utf8.acceptRanges", "internal/bytealg.MaxLen"], apart := false, laid := [("unicode/utf8.acceptRanges", laid_unicode_utf8_acceptRanges), ("unicode/utf8.first", laid_unicode_utf8_first)], narrowed := true }
def TreeKeysUptoSaid : Prop := treeKeysUptoRow.holds Tryz.pinned (OpenSpec.upto treeKeysSpec)

/-- 'cambiumlaw08.GrowTurned', WHERE WHAT IT READS IS OF BULK AT MOST 1048576: true; the input reads as it did. -/
def growTurnedUptoRow : OpenClaim := { program := "ythhmcjojnbaiiaagreatdoor", sum := "11ecdbc01855f5b6a28e2449910b5d224b9aee8b2a85a3bdfa971830ab10ec44", func := "cambium/cambiumlaw08.GrowTurned", spec := "growTurned", inPlace := ["internal/abi.NoEscape", "internal/bytealg.MakeNoZero", "sync/atomic.AddUint64", "internal/bytealg.IndexByteString", "internal/bytealg.IndexString", "sync/atomic.AddInt64", "slices.overlaps[*cambium/heap.cell]", "slices.overlaps[cambium/api.Item]"], unfollowed := true, recurses := true, named := ["unicode/utf8.first", "unicode/utf8.acceptRanges", "internal/bytealg.MaxLen"], apart := false, laid := [("unicode/utf8.acceptRanges", laid_unicode_utf8_acceptRanges), ("unicode/utf8.first", laid_unicode_utf8_first)], narrowed := true }
def GrowTurnedUptoSaid : Prop := growTurnedUptoRow.holds Tryz.pinned (OpenSpec.upto growTurnedSpec)

/-- 'cambiumlaw08.GrowBack', WHERE WHAT IT READS IS OF BULK AT MOST 1048576: true; the input reads as it did. -/
def growBackUptoRow : OpenClaim := { program := "ythhmcjojnbaiiaagreatdoor", sum := "11ecdbc01855f5b6a28e2449910b5d224b9aee8b2a85a3bdfa971830ab10ec44", func := "cambium/cambiumlaw08.GrowBack", spec := "growBack", inPlace := ["internal/abi.NoEscape", "internal/bytealg.MakeNoZero", "sync/atomic.AddUint64", "internal/bytealg.IndexByteString", "internal/bytealg.IndexString", "sync/atomic.AddInt64", "slices.overlaps[*cambium/heap.cell]", "slices.overlaps[cambium/api.Item]"], unfollowed := true, recurses := true, named := ["unicode/utf8.first", "unicode/utf8.acceptRanges", "internal/bytealg.MaxLen"], apart := false, laid := [("unicode/utf8.acceptRanges", laid_unicode_utf8_acceptRanges), ("unicode/utf8.first", laid_unicode_utf8_first)], narrowed := true }
def GrowBackUptoSaid : Prop := growBackUptoRow.holds Tryz.pinned (OpenSpec.upto growBackSpec)

/-- 'cambiumlaw08.GrowFull', WHERE WHAT IT READS IS OF BULK AT MOST 1048576: true; the input reads as it did. -/
def growFullUptoRow : OpenClaim := { program := "ythhmcjojnbaiiaagreatdoor", sum := "11ecdbc01855f5b6a28e2449910b5d224b9aee8b2a85a3bdfa971830ab10ec44", func := "cambium/cambiumlaw08.GrowFull", spec := "growFull", inPlace := ["internal/abi.NoEscape", "internal/bytealg.MakeNoZero", "sync/atomic.AddUint64", "internal/bytealg.IndexByteString", "internal/bytealg.IndexString", "sync/atomic.AddInt64", "slices.overlaps[*cambium/heap.cell]", "slices.overlaps[cambium/api.Item]"], unfollowed := true, recurses := true, named := ["unicode/utf8.first", "unicode/utf8.acceptRanges", "internal/bytealg.MaxLen"], apart := false, laid := [("unicode/utf8.acceptRanges", laid_unicode_utf8_acceptRanges), ("unicode/utf8.first", laid_unicode_utf8_first)], narrowed := true }
def GrowFullUptoSaid : Prop := growFullUptoRow.holds Tryz.pinned (OpenSpec.upto growFullSpec)

/-- 'cambiumlaw08.GrowNeeds', WHERE WHAT IT READS IS OF BULK AT MOST 1048576: true; the input reads as it did. -/
def growNeedsUptoRow : OpenClaim := { program := "ythhmcjojnbaiiaagreatdoor", sum := "11ecdbc01855f5b6a28e2449910b5d224b9aee8b2a85a3bdfa971830ab10ec44", func := "cambium/cambiumlaw08.GrowNeeds", spec := "growNeeds", inPlace := ["internal/abi.NoEscape", "internal/bytealg.MakeNoZero", "sync/atomic.AddUint64", "internal/bytealg.IndexByteString", "internal/bytealg.IndexString", "sync/atomic.AddInt64", "slices.overlaps[*cambium/heap.cell]", "slices.overlaps[cambium/api.Item]"], unfollowed := true, recurses := true, named := ["unicode/utf8.first", "unicode/utf8.acceptRanges", "internal/bytealg.MaxLen"], apart := false, laid := [("unicode/utf8.acceptRanges", laid_unicode_utf8_acceptRanges), ("unicode/utf8.first", laid_unicode_utf8_first)], narrowed := true }
def GrowNeedsUptoSaid : Prop := growNeedsUptoRow.holds Tryz.pinned (OpenSpec.upto growNeedsSpec)

/-- 'cambiumlaw08.GrowOne', WHERE WHAT IT READS IS OF BULK AT MOST 1048576: true; the input reads as it did. -/
def growOneUptoRow : OpenClaim := { program := "ythhmcjojnbaiiaagreatdoor", sum := "11ecdbc01855f5b6a28e2449910b5d224b9aee8b2a85a3bdfa971830ab10ec44", func := "cambium/cambiumlaw08.GrowOne", spec := "growOne", inPlace := ["internal/abi.NoEscape", "internal/bytealg.MakeNoZero", "sync/atomic.AddUint64", "internal/bytealg.IndexByteString", "internal/bytealg.IndexString", "sync/atomic.AddInt64", "slices.overlaps[*cambium/heap.cell]", "slices.overlaps[cambium/api.Item]"], unfollowed := true, recurses := true, named := ["unicode/utf8.first", "unicode/utf8.acceptRanges", "internal/bytealg.MaxLen"], apart := false, laid := [("unicode/utf8.acceptRanges", laid_unicode_utf8_acceptRanges), ("unicode/utf8.first", laid_unicode_utf8_first)], narrowed := true }
def GrowOneUptoSaid : Prop := growOneUptoRow.holds Tryz.pinned (OpenSpec.upto growOneSpec)

/-- 'cambiumlaw08.GrowNone', WHERE WHAT IT READS IS OF BULK AT MOST 1048576: true; the input reads as it did. -/
def growNoneUptoRow : OpenClaim := { program := "ythhmcjojnbaiiaagreatdoor", sum := "11ecdbc01855f5b6a28e2449910b5d224b9aee8b2a85a3bdfa971830ab10ec44", func := "cambium/cambiumlaw08.GrowNone", spec := "growNone", inPlace := ["internal/abi.NoEscape", "internal/bytealg.MakeNoZero", "sync/atomic.AddUint64", "internal/bytealg.IndexByteString", "internal/bytealg.IndexString", "sync/atomic.AddInt64", "slices.overlaps[*cambium/heap.cell]", "slices.overlaps[cambium/api.Item]"], unfollowed := true, recurses := true, named := ["unicode/utf8.first", "unicode/utf8.acceptRanges", "internal/bytealg.MaxLen"], apart := false, laid := [("unicode/utf8.acceptRanges", laid_unicode_utf8_acceptRanges), ("unicode/utf8.first", laid_unicode_utf8_first)], narrowed := true }
def GrowNoneUptoSaid : Prop := growNoneUptoRow.holds Tryz.pinned (OpenSpec.upto growNoneSpec)

end Rows
end Go.Proofs.YthhmcjojnbaiiaaGreatDoor
