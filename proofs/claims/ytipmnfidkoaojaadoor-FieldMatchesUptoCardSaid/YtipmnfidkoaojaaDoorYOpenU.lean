import Derived.Test.YtipmnfidkoaojaaDoorYWWords
import Derived.Test.YtipmnfidkoaojaaDoorRows
import Derived.ChangeArms
import Derived.ChangeSlices
import Derived.ChangeOld
import Derived.SizedLaws






/- What reads as data is of a kind: integers, strings, structs, slices, in each other; and its measure is at most the reading's bulk. -/
namespace Go.Proofs.YtipmnfidkoaojaaDoor.OpnU
open Go.RowKit Go.Proofs.YtipmnfidkoaojaaDoorW.PrintWords
set_option linter.unusedVariables false

theorem at_le {H : Type} {d : DataW H} : ∀ {l : List (DataW H)} {j : Nat}, l[j]? = some d → Rows.uptoBulk d ≤ Rows.uptoBulkAll l
  | [], j, h => by simp at h
  | x :: r, 0, h => by
    simp at h; subst h
    simp only [Rows.uptoBulkAll]; omega
  | x :: r, j + 1, h => by
    have := at_le (l := r) (j := j) (by simpa using h)
    simp only [Rows.uptoBulkAll]; omega
end Go.Proofs.YtipmnfidkoaojaaDoor.OpnU

