import Derived.Test.YtbnhlekehndhkaaGreatDoorZPv
import Derived.Test.YtbnhlekehndhkaaGreatDoorZGx0
import Derived.Test.YtbnhlekehndhkaaGreatDoorZGA
import Derived.Test.YtbnhlekehndhkaaGreatDoorZPSm


/- (not yet a claim) the document's vary and Matches say what the program's say: plain lists of bytes -/
namespace Go.Proofs.YtbnhlekehndhkaaGreatDoor.V
open Go.RowKit Go.Proofs.YtbnhlekehndhkaaGreatDoorW.PrintWords Go.Proofs.YtbnhlekehndhkaaGreatDoorW.PrintLast Go.Proofs.YtbnhlekehndhkaaGreatDoorW.PrintMore Go.Proofs.YtbnhlekehndhkaaGreatDoor.G
set_option linter.unusedVariables false
set_option linter.unusedSimpArgs false

/-! ### Trim -/
def sp (b : UInt8) : Bool := [(32 : UInt8), 9].contains b
def rd (l : List UInt8) : List UInt8 := (l.reverse.dropWhile sp).reverse
/-! ### one, Elements -/
/-- where the walk of one stands -/
structure At (s : ByteArray) (t cur : List UInt8) (i fr : Nat) : Prop where
  t : (D s).drop i = t
  cur : ((D s).drop fr).take (i - fr) = cur
  le : fr ≤ i
  fr : fr ≤ s.size
  i : i ≤ s.size + 1
theorem At.step {s : ByteArray} {c : UInt8} {t cur : List UInt8} {i fr : Nat} (h : At s (c :: t) cur i fr) : At s t (cur ++ [c]) (i + 1) fr ∧ i < s.size := by
  obtain ⟨h1, h2, h3, h4, h5⟩ := h
  obtain ⟨a, b, d⟩ := drop_step h1
  rw [D_len] at d
  refine ⟨⟨a, ?_, by omega, h4, by omega⟩, d⟩
  have h := (drop_step (l := (D s).drop fr) (i := i - fr) (c := c) (t := t) (by rw [List.drop_drop, show fr + (i - fr) = i by omega]; exact h1)).2.1
  rw [show i + 1 - fr = i - fr + 1 by omega, h, h2]
theorem At.cut {s : ByteArray} {c : UInt8} {t cur : List UInt8} {i fr : Nat} (h : At s (c :: t) cur i fr) : At s t [] (i + 1) (i + 1) := by
  obtain ⟨h1, h2⟩ := h.step
  exact ⟨h1.t, by simp, Nat.le_refl _, by omega, by omega⟩
theorem At.over {s : ByteArray} {cur : List UInt8} {i fr : Nat} (h : At s [] cur i fr) (hi : i ≤ s.size) : At s [] cur (i + 1) fr := by
  obtain ⟨h1, h2, h3, h4, h5⟩ := h
  have hl := List.drop_eq_nil_iff.1 h1
  rw [D_len] at hl
  refine ⟨List.drop_eq_nil_of_le (by rw [D_len]; omega), ?_, by omega, h4, by omega⟩
  rw [← h2, List.take_of_length_le (by rw [List.length_drop, D_len]; omega), List.take_of_length_le (by rw [List.length_drop, D_len]; omega)]
theorem tot_mem : ∀ {vs : List ByteArray} {v : ByteArray}, v ∈ vs → v.size + 1 ≤ tot vs
  | [], v, h => by cases h
  | a :: t, v, h => by
    simp only [tot, List.map_cons, List.sum_cons]
    rcases List.mem_cons.1 h with rfl | h
    · omega
    · have := tot_mem h; unfold tot at this; omega
/-! ### All, Has, Vary, Texts, Matches -/
end Go.Proofs.YtbnhlekehndhkaaGreatDoor.V

