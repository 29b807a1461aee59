import Derived.Test.YtmmommcgjafbbaaDoorXDaU
import Derived.Test.YtmmommcgjafbbaaDoorXGxf32
import Derived.Test.YtmmommcgjafbbaaDoorXGxf36



/- The document's digits. -/
namespace Go.Proofs.YtmmommcgjafbbaaDoor.Da
open Go.RowKit Go.Proofs.YtmmommcgjafbbaaDoorW.PrintWords Go.Proofs.YtmmommcgjafbbaaDoorW.PrintLast Go.Proofs.YtmmommcgjafbbaaDoorW.PrintMore Go.Proofs.YtmmommcgjafbbaaDoor.G
set_option linter.unusedVariables false
theorem digits_two : ∀ n : Nat, n < 100 → (turnbuckleref16_digits.f 4 (n : Int) 2).map (·.data.toList) = some (two n) := by decide +kernel
theorem digits_fours : ∀ a : Nat, a < 100 → ∀ b : Nat, b < 100 → (turnbuckleref16_digits.f 6 ((100 * a + b : Nat) : Int) 4).map (·.data.toList) = some (two a ++ two b) := by decide +kernel
end Go.Proofs.YtmmommcgjafbbaaDoor.Da

