import Derived.Test.YtmmommcgjafbbaaDoorXGx0
-- written by a program for this claim

namespace Go.Proofs.YtmmommcgjafbbaaDoor.G
open Go.RowKit Go.Proofs.YtmmommcgjafbbaaDoorW.PrintWords Go.Proofs.YtmmommcgjafbbaaDoorW.PrintLast Go.Proofs.YtmmommcgjafbbaaDoorW.PrintMore
attribute [local go_sem] max2_int min2_int max_two min_two max_three min_three max_four min_four   -- for this text's walks alone
set_option linter.unusedVariables false
set_option linter.unusedSimpArgs false

/-! ### turnbuckleref16_Weekday: function 16 -/
def turnbuckleref16_Weekday.f (a0 : Int) : Option (Int) := if a0 < (-62167219200) then (some 0) else (if a0 > 253402300799 then (some 0) else (some (Int.tmod (wrap64 ((wrap64 (Int.tdiv (wrap64 (a0 - (-62167219200))) 86400)) + 5)) 7)))
set_option maxHeartbeats 8000000 in
set_option maxRecDepth 100000 in
theorem turnbuckleref16_Weekday.calls (a0 : Int) (r : Int) (w : World) (h : turnbuckleref16_Weekday.f a0 = some r) :
    Calls Tryd.prog 16 #[.int .i64 a0] w fun e w' => e = .returned (.int .i64 r) ∧ Drawn0 w w' := by
  have H : (if a0 < (-62167219200) then (some 0) else (if a0 > 253402300799 then (some 0) else (some (Int.tmod (wrap64 ((wrap64 (Int.tdiv (wrap64 (a0 - (-62167219200))) 86400)) + 5)) 7)))) = some r := h
  clear h
  by_cases c2 : a0 < (-62167219200)
  · rw [if_pos c2] at H
    have c2b0 : decide (a0 < (-62167219200)) = true := decide_eq_true c2
    clear c2
    obtain rfl := Option.some.inj H
    go_enter Tryd.func16, Tryd.ntmps16
    go_wp2
    go_ret
    exact ⟨by first | rfl | (simp; done) | (simp [*]; done), by repeat (first | exact Drawn0.refl _ | apply Drawn0.step)⟩
  · rw [if_neg c2] at H
    have c2b0 : decide (a0 < (-62167219200)) = false := decide_eq_false c2
    clear c2
    by_cases c3 : a0 > 253402300799
    · rw [if_pos c3] at H
      have c3b0 : decide (253402300799 < a0) = true := decide_eq_true c3
      clear c3
      obtain rfl := Option.some.inj H
      go_enter Tryd.func16, Tryd.ntmps16
      go_wp2
      go_ret
      exact ⟨by first | rfl | (simp; done) | (simp [*]; done), by repeat (first | exact Drawn0.refl _ | apply Drawn0.step)⟩
    · rw [if_neg c3] at H
      have c3b0 : decide (253402300799 < a0) = false := decide_eq_false c3
      clear c3
      obtain rfl := Option.some.inj H
      go_enter Tryd.func16, Tryd.ntmps16
      go_wp2
      go_ret
      exact ⟨by first | rfl | (simp; done) | (simp [*]; done), by repeat (first | exact Drawn0.refl _ | apply Drawn0.step)⟩

end Go.Proofs.YtmmommcgjafbbaaDoor.G

