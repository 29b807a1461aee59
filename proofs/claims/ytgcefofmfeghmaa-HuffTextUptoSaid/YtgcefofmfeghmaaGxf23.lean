import Derived.Test.YtgcefofmfeghmaaGx0
import Derived.Test.YtgcefofmfeghmaaPFld
/- huff.Fields, by its contract. -/
namespace Go.Proofs.Ytgcefofmfeghmaa.G
open Go.RowKit Go.Proofs.YtgcefofmfeghmaaW.PrintWords Go.Proofs.YtgcefofmfeghmaaW.PrintLast Go.Proofs.YtgcefofmfeghmaaW.PrintMore
set_option linter.unusedVariables false
def huff_Fields.f (k : Nat) : Option (List Int) := Pl.fields.f
theorem huff_Fields.mono : ∀ k, LeO (huff_Fields.f k) (huff_Fields.f (k + 1)) := fun k => LeO.refl _
theorem huff_Fields.calls (k : Nat) (r : List Int) (w : World) (h : huff_Fields.f k = some r) : Calls Try.prog 23 #[] w fun e w' => ∃ v0_ : Value, e = .returned v0_ ∧ Kd.R (Kd.int .i64) 3 w' w.heap.size (fun _ => True) v0_ r ∧ Below w.heap.size w w' := Pl.fields.calls r w h
end Go.Proofs.Ytgcefofmfeghmaa.G
