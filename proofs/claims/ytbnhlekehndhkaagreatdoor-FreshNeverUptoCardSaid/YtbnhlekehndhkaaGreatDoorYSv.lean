import Derived.Test.YtbnhlekehndhkaaGreatDoorYPv
import Derived.Test.YtbnhlekehndhkaaGreatDoorYGx0
import Derived.Test.YtbnhlekehndhkaaGreatDoorYGA



/- (not yet a claim) the document's One and Same -/
namespace Go.Proofs.YtbnhlekehndhkaaGreatDoor.V
open Go.RowKit Go.Proofs.YtbnhlekehndhkaaGreatDoorW.PrintWords Go.Proofs.YtbnhlekehndhkaaGreatDoor.G
set_option linter.unusedVariables false
set_option linter.unusedSimpArgs false
theorem wr (n : Nat) (h : n < 1099511627776) : wrap64 ((n : Int) + 1) = ((n + 1 : Nat) : Int) := by unfold wrap64; omega
end Go.Proofs.YtbnhlekehndhkaaGreatDoor.V

