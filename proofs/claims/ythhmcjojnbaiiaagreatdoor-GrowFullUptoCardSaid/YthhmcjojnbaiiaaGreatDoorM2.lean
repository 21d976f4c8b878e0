/- Texts of the proof: Lo. -/
import Derived.Test.YthhmcjojnbaiiaaGreatDoorM1
set_option linter.all false
/- A load under another name: go_region_held3 tries each load of a region first and warns where it cannot (the cell is written in the same region); a load that it does not know for one it leaves in its place. -/
namespace Go.Proofs.YthhmcjojnbaiiaaGreatDoor
open Go Go.RowKit
@[go_sem] def ldOp (t : TypeId) (x : Operand) : Op := Op.load t x
theorem ldOp_eq (t : TypeId) (x : Operand) : Op.load t x = ldOp t x := rfl
end Go.Proofs.YthhmcjojnbaiiaaGreatDoor
