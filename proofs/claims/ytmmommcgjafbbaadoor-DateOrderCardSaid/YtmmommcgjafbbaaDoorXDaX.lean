import Derived.Test.YtmmommcgjafbbaaDoorXDaV
import Derived.Test.YtmmommcgjafbbaaDoorXGxf10
import Derived.Test.YtmmommcgjafbbaaDoorXGx0



/- DateNumbers: its walk. -/
namespace Go.Proofs.YtmmommcgjafbbaaDoor.Da
open Go.RowKit Go.Proofs.YtmmommcgjafbbaaDoorW.PrintWords Go.Proofs.YtmmommcgjafbbaaDoorW.PrintLast Go.Proofs.YtmmommcgjafbbaaDoorW.PrintMore Go.Proofs.YtmmommcgjafbbaaDoor.G
set_option linter.unusedVariables false
set_option linter.unusedSimpArgs false
theorem theirs_q (y m d h mi s : Int) (w : World) : Calls Tryd.prog 10 #[date6 y m d h mi s] w fun e w' => e = .returned (date6 y m d h mi s) ∧ Below w.heap.size w w' := turnbucklelaw16_theirs.calls y m d h mi s y m d h mi s w rfl
end Go.Proofs.YtmmommcgjafbbaaDoor.Da

