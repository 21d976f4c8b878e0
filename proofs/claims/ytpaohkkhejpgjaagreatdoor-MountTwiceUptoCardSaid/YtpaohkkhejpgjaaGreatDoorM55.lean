/- Texts of the proof: Jp. -/
import Derived.Test.YtpaohkkhejpgjaaGreatDoorM54
set_option linter.all false
set_option maxRecDepth 100000
set_option maxHeartbeats 8000000
namespace Go.Proofs.YtpaohkkhejpgjaaGreatDoor.mountTwice
open Go
theorem closedFacts:joinedFacts Tryz.pinned.checked.prog 5 Tryz.f5 (Rows.OpenSpec.upto Rows.mountTwiceSpec).bare Rows.mountTwiceUptoRow=true:=
 joined_of cf1 cf2 cf3 cf4 cf5 (by kernel_rfl) (by kernel_rfl) (by kernel_rfl) (by kernel_rfl)
end Go.Proofs.YtpaohkkhejpgjaaGreatDoor.mountTwice
