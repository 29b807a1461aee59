import Derived.Test.YtmmommcgjafbbaaDoorXDa3

/- The document's Right: its contract. -/
namespace Go.Proofs.YtmmommcgjafbbaaDoor.Da
open Go.RowKit
set_option linter.unusedVariables false
def RightB (y m d h mi s D : Int) : Bool := decide (¬ y < 0 ∧ ¬ 9999 < y ∧ ¬ m < 1 ∧ ¬ 12 < m ∧ ¬ d < 1 ∧ ¬ D < d ∧ 0 ≤ h ∧ h ≤ 23 ∧ 0 ≤ mi ∧ mi ≤ 59 ∧ 0 ≤ s ∧ s ≤ 59)
theorem rright_calls (y m d h mi s D : Int) (hD : DaysAs y m D) (w : World) : Calls Tryd.prog 24 #[date6 y m d h mi s] w fun e w' => e = .returned (.bool (RightB y m d h mi s D)) ∧ Below w.heap.size w w' := by
  have no : (¬ (¬ y < 0 ∧ ¬ 9999 < y ∧ ¬ m < 1 ∧ ¬ 12 < m ∧ ¬ d < 1 ∧ ¬ D < d ∧ 0 ≤ h ∧ h ≤ 23 ∧ 0 ≤ mi ∧ mi ≤ 59 ∧ 0 ≤ s ∧ s ≤ 59)) → RightB y m d h mi s D = false := fun q => decide_eq_false q
  by_cases h0 : y < 0
  · rw [no (by omega)]; exact rright_0 y m d h mi s D hD h0 w
  by_cases h1 : 9999 < y
  · rw [no (by omega)]; exact rright_1 y m d h mi s D hD h0 h1 w
  by_cases h2 : m < 1
  · rw [no (by omega)]; exact rright_2 y m d h mi s D hD h0 h1 h2 w
  by_cases h3 : 12 < m
  · rw [no (by omega)]; exact rright_3 y m d h mi s D hD h0 h1 h2 h3 w
  by_cases h4 : d < 1
  · rw [no (by omega)]; exact rright_4 y m d h mi s D hD h0 h1 h2 h3 h4 w
  by_cases h5 : D < d
  · rw [no (by omega)]; exact rright_5 y m d h mi s D hD h0 h1 h2 h3 h4 h5 w
  by_cases g0 : 0 ≤ h
  · by_cases g1 : h ≤ 23
    · by_cases g2 : 0 ≤ mi
      · by_cases g3 : mi ≤ 59
        · by_cases g4 : 0 ≤ s
          · by_cases g5 : s ≤ 59
            · rw [show RightB y m d h mi s D = true from decide_eq_true ⟨h0, h1, h2, h3, h4, h5, g0, g1, g2, g3, g4, g5⟩]
              exact rright_all y m d h mi s D hD h0 h1 h2 h3 h4 h5 g0 g1 g2 g3 g4 g5 w
            · rw [no (by omega)]; exact rright_t5 y m d h mi s D hD h0 h1 h2 h3 h4 h5 g0 g1 g2 g3 g4 g5 w
          · rw [no (by omega)]; exact rright_t4 y m d h mi s D hD h0 h1 h2 h3 h4 h5 g0 g1 g2 g3 g4 w
        · rw [no (by omega)]; exact rright_t3 y m d h mi s D hD h0 h1 h2 h3 h4 h5 g0 g1 g2 g3 w
      · rw [no (by omega)]; exact rright_t2 y m d h mi s D hD h0 h1 h2 h3 h4 h5 g0 g1 g2 w
    · rw [no (by omega)]; exact rright_t1 y m d h mi s D hD h0 h1 h2 h3 h4 h5 g0 g1 w
  · rw [no (by omega)]; exact rright_t0 y m d h mi s D hD h0 h1 h2 h3 h4 h5 g0 w
end Go.Proofs.YtmmommcgjafbbaaDoor.Da

