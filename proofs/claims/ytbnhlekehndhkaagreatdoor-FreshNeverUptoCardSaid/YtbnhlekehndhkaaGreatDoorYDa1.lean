import Derived.Test.YtbnhlekehndhkaaGreatDoorYGx0
import Derived.Lib.Hide


/- date.lengths: how many days the months have. -/
namespace Go.Proofs.YtbnhlekehndhkaaGreatDoor.Da
open Go.RowKit Go.Proofs.YtbnhlekehndhkaaGreatDoorW.PrintWords Go.Proofs.YtbnhlekehndhkaaGreatDoorW.PrintLast Go.Proofs.YtbnhlekehndhkaaGreatDoorW.PrintMore Go.Proofs.YtbnhlekehndhkaaGreatDoor.G
set_option linter.unusedVariables false
set_option linter.unusedSimpArgs false

def lenAgg (f : Int) : Value := .agg #[.int .i64 31, .int .i64 f, .int .i64 31, .int .i64 30, .int .i64 31, .int .i64 30, .int .i64 31, .int .i64 31, .int .i64 30, .int .i64 31, .int .i64 30, .int .i64 31]
set_option maxHeartbeats 8000000 in
set_option maxRecDepth 100000 in
theorem lengths_4 (y : Int) (h4 : Int.tmod y 4 ≠ 0) (w : World) : Calls Tryz.prog 149 #[.int .i64 y] w fun e w' => e = .returned (lenAgg 28) ∧ Below w.heap.size w w' := by
  have b4 : (Int.tmod y 4 == 0) = false := beq_eq_false_iff_ne.2 h4
  go_enter Tryz.func149, Tryz.ntmps149
  go_wp2
  exact bodyPost_ret (v := lenAgg 28) (by simp [results, Tryz.results149, go_sem, lenAgg]) rfl ⟨rfl, by repeat (first | exact Below.refl _ _ | apply below_drew | apply pw_below_drewN | apply below_alloc | (refine Below.setCell ?_ (by simp) _))⟩
set_option maxHeartbeats 8000000 in
set_option maxRecDepth 100000 in
theorem lengths_100 (y : Int) (h4 : Int.tmod y 4 = 0) (h1 : Int.tmod y 100 ≠ 0) (w : World) : Calls Tryz.prog 149 #[.int .i64 y] w fun e w' => e = .returned (lenAgg 29) ∧ Below w.heap.size w w' := by
  have b4 : (Int.tmod y 4 == 0) = true := beq_iff_eq.2 h4
  have b1 : (Int.tmod y 100 != 0) = true := bne_iff_ne.2 h1
  go_enter Tryz.func149, Tryz.ntmps149
  go_wp2
  exact bodyPost_ret (v := lenAgg 29) (by simp [results, Tryz.results149, go_sem, lenAgg]) rfl ⟨rfl, by repeat (first | exact Below.refl _ _ | apply below_drew | apply pw_below_drewN | apply below_alloc | (refine Below.setCell ?_ (by simp) _))⟩
set_option maxHeartbeats 8000000 in
set_option maxRecDepth 100000 in
theorem lengths_400 (y : Int) (h4 : Int.tmod y 4 = 0) (h1 : Int.tmod y 100 = 0) (h2 : Int.tmod y 400 = 0) (w : World) : Calls Tryz.prog 149 #[.int .i64 y] w fun e w' => e = .returned (lenAgg 29) ∧ Below w.heap.size w w' := by
  have b4 : (Int.tmod y 4 == 0) = true := beq_iff_eq.2 h4
  have b1 : (Int.tmod y 100 != 0) = false := bne_eq_false_iff_eq.2 h1
  have b2 : (Int.tmod y 400 == 0) = true := beq_iff_eq.2 h2
  go_enter Tryz.func149, Tryz.ntmps149
  go_wp2
  exact bodyPost_ret (v := lenAgg 29) (by simp [results, Tryz.results149, go_sem, lenAgg]) rfl ⟨rfl, by repeat (first | exact Below.refl _ _ | apply below_drew | apply pw_below_drewN | apply below_alloc | (refine Below.setCell ?_ (by simp) _))⟩
set_option maxHeartbeats 8000000 in
set_option maxRecDepth 100000 in
theorem lengths_n400 (y : Int) (h4 : Int.tmod y 4 = 0) (h1 : Int.tmod y 100 = 0) (h2 : Int.tmod y 400 ≠ 0) (w : World) : Calls Tryz.prog 149 #[.int .i64 y] w fun e w' => e = .returned (lenAgg 28) ∧ Below w.heap.size w w' := by
  have b4 : (Int.tmod y 4 == 0) = true := beq_iff_eq.2 h4
  have b1 : (Int.tmod y 100 != 0) = false := bne_eq_false_iff_eq.2 h1
  have b2 : (Int.tmod y 400 == 0) = false := beq_eq_false_iff_ne.2 h2
  go_enter Tryz.func149, Tryz.ntmps149
  go_wp2
  exact bodyPost_ret (v := lenAgg 28) (by simp [results, Tryz.results149, go_sem, lenAgg]) rfl ⟨rfl, by repeat (first | exact Below.refl _ _ | apply below_drew | apply pw_below_drewN | apply below_alloc | (refine Below.setCell ?_ (by simp) _))⟩
def feb (y : Int) : Int := if Int.tmod y 4 = 0 then (if Int.tmod y 100 = 0 then (if Int.tmod y 400 = 0 then 29 else 28) else 29) else 28
/-- how many days the months of a year have -/
theorem lengths_calls (y : Int) (w : World) : Calls Tryz.prog 149 #[.int .i64 y] w fun e w' => e = .returned (lenAgg (feb y)) ∧ Below w.heap.size w w' := by
  unfold feb
  by_cases h4 : Int.tmod y 4 = 0
  · by_cases h1 : Int.tmod y 100 = 0
    · by_cases h2 : Int.tmod y 400 = 0
      · rw [if_pos h4, if_pos h1, if_pos h2]; exact lengths_400 y h4 h1 h2 w
      · rw [if_pos h4, if_pos h1, if_neg h2]; exact lengths_n400 y h4 h1 h2 w
    · rw [if_pos h4, if_neg h1]; exact lengths_100 y h4 h1 w
  · rw [if_neg h4]; exact lengths_4 y h4 w
end Go.Proofs.YtbnhlekehndhkaaGreatDoor.Da

