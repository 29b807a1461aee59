-- written by a program for this claim
import Derived.Test.YtakdfjehjnhikaaGx0
import Derived.Test.YtakdfjehjnhikaaGx1
import Derived.Test.YtakdfjehjnhikaaGx2
namespace Go.Proofs.Ytakdfjehjnhikaa.G
open Go.RowKit Go.Proofs.YtakdfjehjnhikaaW.PrintWords Go.Proofs.YtakdfjehjnhikaaW.PrintLast Go.Proofs.YtakdfjehjnhikaaW.PrintMore
attribute [local go_sem] max2_int min2_int max_two min_two max_three min_three max_four min_four   -- for this text's walks alone
set_option linter.unusedVariables false
set_option linter.unusedSimpArgs false

end Go.Proofs.Ytakdfjehjnhikaa.G
