import Derived.Test.YtkbbjjegpjdpeaaDoorZPv
import Derived.Test.YtkbbjjegpjdpeaaDoorZGx0
import Derived.Test.YtkbbjjegpjdpeaaDoorZPSm


/- (not yet a claim) the document's vary and Matches say what the program's say: plain lists of bytes -/
namespace Go.Proofs.YtkbbjjegpjdpeaaDoor.V
open Go.RowKit Go.Proofs.YtkbbjjegpjdpeaaDoorW.PrintWords Go.Proofs.YtkbbjjegpjdpeaaDoorW.PrintLast Go.Proofs.YtkbbjjegpjdpeaaDoorW.PrintMore Go.Proofs.YtkbbjjegpjdpeaaDoor.G
set_option linter.unusedVariables false
set_option linter.unusedSimpArgs false

/-! ### Trim -/
def sp (b : UInt8) : Bool := [(32 : UInt8), 9].contains b
def rd (l : List UInt8) : List UInt8 := (l.reverse.dropWhile sp).reverse
/-! ### one, Elements -/
/-- where the walk of one stands -/
structure At (s : ByteArray) (t cur : List UInt8) (i fr : Nat) : Prop where
  t : (D s).drop i = t
  cur : ((D s).drop fr).take (i - fr) = cur
  le : fr ≤ i
  fr : fr ≤ s.size
  i : i ≤ s.size + 1
theorem At.step {s : ByteArray} {c : UInt8} {t cur : List UInt8} {i fr : Nat} (h : At s (c :: t) cur i fr) : At s t (cur ++ [c]) (i + 1) fr ∧ i < s.size := by
  obtain ⟨h1, h2, h3, h4, h5⟩ := h
  obtain ⟨a, b, d⟩ := drop_step h1
  rw [D_len] at d
  refine ⟨⟨a, ?_, by omega, h4, by omega⟩, d⟩
  have h := (drop_step (l := (D s).drop fr) (i := i - fr) (c := c) (t := t) (by rw [List.drop_drop, show fr + (i - fr) = i by omega]; exact h1)).2.1
  rw [show i + 1 - fr = i - fr + 1 by omega, h, h2]
theorem At.over {s : ByteArray} {cur : List UInt8} {i fr : Nat} (h : At s [] cur i fr) (hi : i ≤ s.size) : At s [] cur (i + 1) fr := by
  obtain ⟨h1, h2, h3, h4, h5⟩ := h
  have hl := List.drop_eq_nil_iff.1 h1
  rw [D_len] at hl
  refine ⟨List.drop_eq_nil_of_le (by rw [D_len]; omega), ?_, by omega, h4, by omega⟩
  rw [← h2, List.take_of_length_le (by rw [List.length_drop, D_len]; omega), List.take_of_length_le (by rw [List.length_drop, D_len]; omega)]
/-! ### All, Has, Vary, Texts, Matches -/
end Go.Proofs.YtkbbjjegpjdpeaaDoor.V

