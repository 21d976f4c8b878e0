/-
  DERIVED. GIVEN WITH THE SEED: THE CARDS: each row of YtpaohkkhejpgjaaGreatDoorRows.lean that lists a variable, with what it lists TIED to the program's text (the seventh form; the later family's looks); each row that meets fmt, with fmt's text TOLD by the authors' own Lean function (tested against real Go, not proved from fmt's source: count such statements apart). THE CARD IS WHAT COUNTS. Prove the row's statement (the work); the ties are given (YtpaohkkhejpgjaaGreatDoorTie.lean); close each card by the builder's one call (the guide's Derived/Test/ToyasCard.lean, 'card_holds'). Laid BY PROGRAM, IN A SANDBOX (cutbox-door.mjs). By AI agents, Wed Nov 11 2026. No macro, syntax, notation, axiom, sorry.
-/
import Derived.Test.YtpaohkkhejpgjaaGreatDoorRows
import GoSem.ClaimSeven
namespace Go.Proofs.YtpaohkkhejpgjaaGreatDoor
namespace Rows

/-- THE TIED CARD OF 'cambiumlaw10.MountDoes'. -/
def mountDoesCard : Claim7 := { stood := { row := mountDoesRow, standIns := [], harness := (true, "02e575540c332900648ae6ad81324b944045b323003cbbe227d0fe828cd88dde"), looks := false }, kinds := [], alts := [], laidByText := true, laidKinds := [.data, .pinned], laidTests := true, laidLooks := .later }
def MountDoesCardSaid : Prop := Claim7.holds Tryz.pinned (.plain (OpenSpec.ofChange mountDoesSpec)) mountDoesCard

/-- THE TIED CARD OF 'cambiumlaw10.MountAgain'. -/
def mountAgainCard : Claim7 := { stood := { row := mountAgainRow, standIns := [], harness := (true, "02e575540c332900648ae6ad81324b944045b323003cbbe227d0fe828cd88dde"), looks := false }, kinds := [], alts := [], laidByText := true, laidKinds := [.data, .pinned], laidTests := true, laidLooks := .later }
def MountAgainCardSaid : Prop := Claim7.holds Tryz.pinned (.plain (OpenSpec.ofChange mountAgainSpec)) mountAgainCard

/-- THE TIED CARD OF 'cambiumlaw10.MountTwice'. -/
def mountTwiceCard : Claim7 := { stood := { row := mountTwiceRow, standIns := [], harness := (true, "02e575540c332900648ae6ad81324b944045b323003cbbe227d0fe828cd88dde"), looks := false }, kinds := [], alts := [], laidByText := true, laidKinds := [.data, .pinned], laidTests := true, laidLooks := .later }
def MountTwiceCardSaid : Prop := Claim7.holds Tryz.pinned (.plain (OpenSpec.ofChange mountTwiceSpec)) mountTwiceCard

/-- THE TIED CARD OF 'cambiumlaw10.MountNew'. -/
def mountNewCard : Claim7 := { stood := { row := mountNewRow, standIns := [], harness := (true, "02e575540c332900648ae6ad81324b944045b323003cbbe227d0fe828cd88dde"), looks := false }, kinds := [], alts := [], laidByText := true, laidKinds := [.data, .pinned], laidTests := true, laidLooks := .later }
def MountNewCardSaid : Prop := Claim7.holds Tryz.pinned (.plain (OpenSpec.ofChange mountNewSpec)) mountNewCard

/-- THE TIED CARD OF 'cambiumlaw10.MountRight'. -/
def mountRightCard : Claim7 := { stood := { row := mountRightRow, standIns := [], harness := (true, "02e575540c332900648ae6ad81324b944045b323003cbbe227d0fe828cd88dde"), looks := false }, kinds := [], alts := [], laidByText := true, laidKinds := [.data, .pinned], laidTests := true, laidLooks := .later }
def MountRightCardSaid : Prop := Claim7.holds Tryz.pinned (.plain (OpenSpec.ofChange mountRightSpec)) mountRightCard

/-- THE TIED CARD OF 'cambiumlaw10.MountWhole'. -/
def mountWholeCard : Claim7 := { stood := { row := mountWholeRow, standIns := [], harness := (true, "02e575540c332900648ae6ad81324b944045b323003cbbe227d0fe828cd88dde"), looks := false }, kinds := [], alts := [], laidByText := true, laidKinds := [.data, .pinned], laidTests := true, laidLooks := .later }
def MountWholeCardSaid : Prop := Claim7.holds Tryz.pinned (.plain (OpenSpec.ofChange mountWholeSpec)) mountWholeCard

/-- THE TIED CARD OF 'cambiumlaw10.MountSpoilt'. -/
def mountSpoiltCard : Claim7 := { stood := { row := mountSpoiltRow, standIns := [], harness := (true, "02e575540c332900648ae6ad81324b944045b323003cbbe227d0fe828cd88dde"), looks := false }, kinds := [], alts := [], laidByText := true, laidKinds := [.data, .pinned], laidTests := true, laidLooks := .later }
def MountSpoiltCardSaid : Prop := Claim7.holds Tryz.pinned (.plain (OpenSpec.ofChange mountSpoiltSpec)) mountSpoiltCard

/-- THE SECOND FORM's CARD OF 'cambiumlaw10.MountDoes'. -/
def mountDoesUptoCard : Claim7 := { stood := { row := mountDoesUptoRow, standIns := [], harness := (true, "02e575540c332900648ae6ad81324b944045b323003cbbe227d0fe828cd88dde"), looks := false }, kinds := [], alts := [], laidByText := true, laidKinds := [.data, .pinned], laidTests := true, laidLooks := .later }
def MountDoesUptoCardSaid : Prop := Claim7.holds Tryz.pinned (.plain (OpenSpec.upto mountDoesSpec)) mountDoesUptoCard

/-- THE SECOND FORM's CARD OF 'cambiumlaw10.MountAgain'. -/
def mountAgainUptoCard : Claim7 := { stood := { row := mountAgainUptoRow, standIns := [], harness := (true, "02e575540c332900648ae6ad81324b944045b323003cbbe227d0fe828cd88dde"), looks := false }, kinds := [], alts := [], laidByText := true, laidKinds := [.data, .pinned], laidTests := true, laidLooks := .later }
def MountAgainUptoCardSaid : Prop := Claim7.holds Tryz.pinned (.plain (OpenSpec.upto mountAgainSpec)) mountAgainUptoCard

/-- THE SECOND FORM's CARD OF 'cambiumlaw10.MountTwice'. -/
def mountTwiceUptoCard : Claim7 := { stood := { row := mountTwiceUptoRow, standIns := [], harness := (true, "02e575540c332900648ae6ad81324b944045b323003cbbe227d0fe828cd88dde"), looks := false }, kinds := [], alts := [], laidByText := true, laidKinds := [.data, .pinned], laidTests := true, laidLooks := .later }
def MountTwiceUptoCardSaid : Prop := Claim7.holds Tryz.pinned (.plain (OpenSpec.upto mountTwiceSpec)) mountTwiceUptoCard

/-- THE SECOND FORM's CARD OF 'cambiumlaw10.MountNew'. -/
def mountNewUptoCard : Claim7 := { stood := { row := mountNewUptoRow, standIns := [], harness := (true, "02e575540c332900648ae6ad81324b944045b323003cbbe227d0fe828cd88dde"), looks := false }, kinds := [], alts := [], laidByText := true, laidKinds := [.data, .pinned], laidTests := true, laidLooks := .later }
def MountNewUptoCardSaid : Prop := Claim7.holds Tryz.pinned (.plain (OpenSpec.upto mountNewSpec)) mountNewUptoCard

/-- THE SECOND FORM's CARD OF 'cambiumlaw10.MountRight'. -/
def mountRightUptoCard : Claim7 := { stood := { row := mountRightUptoRow, standIns := [], harness := (true, "02e575540c332900648ae6ad81324b944045b323003cbbe227d0fe828cd88dde"), looks := false }, kinds := [], alts := [], laidByText := true, laidKinds := [.data, .pinned], laidTests := true, laidLooks := .later }
def MountRightUptoCardSaid : Prop := Claim7.holds Tryz.pinned (.plain (OpenSpec.upto mountRightSpec)) mountRightUptoCard

/-- THE SECOND FORM's CARD OF 'cambiumlaw10.MountWhole'. -/
def mountWholeUptoCard : Claim7 := { stood := { row := mountWholeUptoRow, standIns := [], harness := (true, "02e575540c332900648ae6ad81324b944045b323003cbbe227d0fe828cd88dde"), looks := false }, kinds := [], alts := [], laidByText := true, laidKinds := [.data, .pinned], laidTests := true, laidLooks := .later }
def MountWholeUptoCardSaid : Prop := Claim7.holds Tryz.pinned (.plain (OpenSpec.upto mountWholeSpec)) mountWholeUptoCard

/-- THE SECOND FORM's CARD OF 'cambiumlaw10.MountSpoilt'. -/
def mountSpoiltUptoCard : Claim7 := { stood := { row := mountSpoiltUptoRow, standIns := [], harness := (true, "02e575540c332900648ae6ad81324b944045b323003cbbe227d0fe828cd88dde"), looks := false }, kinds := [], alts := [], laidByText := true, laidKinds := [.data, .pinned], laidTests := true, laidLooks := .later }
def MountSpoiltUptoCardSaid : Prop := Claim7.holds Tryz.pinned (.plain (OpenSpec.upto mountSpoiltSpec)) mountSpoiltUptoCard
end Rows
end Go.Proofs.YtpaohkkhejpgjaaGreatDoor
