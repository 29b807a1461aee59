-- written by a program for this claim
import Derived.Test.YtkbbjjegpjdpeaaDoorZGx0
import Derived.Test.YtkbbjjegpjdpeaaDoorZGxf30
namespace Go.Proofs.YtkbbjjegpjdpeaaDoor.G
open Go.RowKit Go.Proofs.YtkbbjjegpjdpeaaDoorW.PrintWords Go.Proofs.YtkbbjjegpjdpeaaDoorW.PrintLast Go.Proofs.YtkbbjjegpjdpeaaDoorW.PrintMore
attribute [local go_sem] max2_int min2_int max_two min_two max_three min_three max_four min_four   -- for this text's walks alone
set_option linter.unusedVariables false
set_option linter.unusedSimpArgs false

/-! ### turnbuckleref20_Size: function 12 -/
end Go.Proofs.YtkbbjjegpjdpeaaDoor.G

