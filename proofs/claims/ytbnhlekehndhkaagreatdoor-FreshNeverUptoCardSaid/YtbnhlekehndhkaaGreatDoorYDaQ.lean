import Derived.Test.YtbnhlekehndhkaaGreatDoorYDaP
import Derived.Test.YtbnhlekehndhkaaGreatDoorYDa1
import Derived.Test.YtbnhlekehndhkaaGreatDoorYDa2
import Derived.Lib.Hide
import Derived.Test.YtbnhlekehndhkaaGreatDoorYGB
import Derived.Test.YtbnhlekehndhkaaGreatDoorYGx0








/- within, before, days, length, Weekday: their contracts in the words of days. -/
namespace Go.Proofs.YtbnhlekehndhkaaGreatDoor.Da
open Go.RowKit Go.Proofs.YtbnhlekehndhkaaGreatDoorW.PrintWords Go.Proofs.YtbnhlekehndhkaaGreatDoorW.PrintLast Go.Proofs.YtbnhlekehndhkaaGreatDoorW.PrintMore Go.Proofs.YtbnhlekehndhkaaGreatDoor.G
set_option linter.unusedVariables false
set_option linter.unusedSimpArgs false
theorem d0 {w w' : World} (h : Drawn0 w w') : Below w.heap.size w w' := by
  exact h.below
def wB (a lo hi : Int) : Bool := decide (lo ≤ a ∧ a ≤ hi)
theorem wB_yes {a lo hi : Int} (h : lo ≤ a) (h' : a ≤ hi) : wB a lo hi = true := decide_eq_true ⟨h, h'⟩
theorem wB_no {a lo hi : Int} (h : ¬ (lo ≤ a ∧ a ≤ hi)) : wB a lo hi = false := decide_eq_false h
theorem wB_tells {a lo hi : Int} (h : wB a lo hi = true) : lo ≤ a ∧ a ≤ hi := of_decide_eq_true h
theorem within_q (a lo hi : Int) (w : World) : Calls Tryz.prog 148 #[.int .i64 a, .int .i64 lo, .int .i64 hi] w fun e w' => e = .returned (.bool (wB a lo hi)) ∧ Drawn0 w w' := by
  refine date_within.calls a lo hi (wB a lo hi) w ?_
  unfold date_within.f wB
  by_cases h : a ≥ lo
  · have h' : lo ≤ a := h
    rw [if_pos h]; simp [h']
  · have h' : ¬ lo ≤ a := h
    rw [if_neg h]; simp [h']
theorem tmod_0 (y k : Int) : Int.tmod y k = 0 ↔ y % k = 0 := by
  rw [← Int.dvd_iff_emod_eq_zero, Int.dvd_iff_tmod_eq_zero]
theorem feb_lp (y : Int) : feb y = 28 + lp y := by
  unfold feb lp
  have e4 := tmod_0 y 4
  have e1 := tmod_0 y 100
  have e2 := tmod_0 y 400
  by_cases h4 : Int.tmod y 4 = 0
  · rw [if_pos h4]
    by_cases h1 : Int.tmod y 100 = 0
    · rw [if_pos h1]
      by_cases h2 : Int.tmod y 400 = 0
      · rw [if_pos h2, if_pos ⟨e4.1 h4, .inr (e2.1 h2)⟩]; rfl
      · have : ¬ y % 400 = 0 := fun h => h2 (e2.2 h)
        have h1' := e1.1 h1
        rw [if_neg h2, if_neg (by omega)]; rfl
    · have : ¬ y % 100 = 0 := fun h => h1 (e1.2 h)
      rw [if_neg h1, if_pos ⟨e4.1 h4, .inl this⟩]; rfl
  · have h4' : ¬ y % 4 = 0 := fun h => h4 (e4.2 h)
    rw [if_neg h4, if_neg (by omega)]; rfl
def wday (n : Int) : Int := if -62167219200 ≤ n ∧ n ≤ 253402300799 then ((n - -62167219200) / 86400 + 5) % 7 else 0
theorem weekday_q (n : Int) (w : World) : Calls Tryz.prog 153 #[.int .i64 n] w fun e w' => e = .returned (.int .i64 (wday n)) ∧ Drawn0 w w' := by
  refine date_Weekday.calls n (wday n) w ?_
  unfold date_Weekday.f date_within.f wday
  by_cases h : -62167219200 ≤ n ∧ n ≤ 253402300799
  · have h' : n ≥ -62167219200 := h.1
    have e1 : wrap64 (n - -62167219200) = n - -62167219200 := by unfold wrap64; omega
    rw [if_pos h', if_pos h, e1, Int.tdiv_eq_ediv_of_nonneg (by omega)]
    simp only [Option.bind_some, decide_eq_true_eq, h.2, if_true]
    have e2 : wrap64 (wrap64 ((n - -62167219200) / 86400) + 5) = (n - -62167219200) / 86400 + 5 := by unfold wrap64; omega
    rw [e2, Int.tmod_eq_emod_of_nonneg (by omega)]
  · rw [if_neg h]
    by_cases h' : n ≥ -62167219200
    · have : ¬ n ≤ 253402300799 := fun q => h ⟨h', q⟩
      rw [if_pos h']; simp [this]
    · rw [if_neg h']; simp
theorem index_len (y : Int) (i : Nat) (h : i < 12) (w : World) : Sem.run Tryz.prog (Instr.index 177 (lenAgg (feb y)) (.int .i64 (i : Int))) w = .ok (.int .i64 (dim y ((i : Int) + 1))) w := by
  rw [feb_lp]
  have : i = 0 ∨ i = 1 ∨ i = 2 ∨ i = 3 ∨ i = 4 ∨ i = 5 ∨ i = 6 ∨ i = 7 ∨ i = 8 ∨ i = 9 ∨ i = 10 ∨ i = 11 := by omega
  rcases this with rfl | rfl | rfl | rfl | rfl | rfl | rfl | rfl | rfl | rfl | rfl | rfl <;> simp [Instr.index, asIntOf, run_underlying Tryz.underlying177, go_sem, lenAgg, dim]
set_option maxHeartbeats 1000000 in
theorem length_calls (y : Int) (w : World) (h0 : 0 ≤ y) (h1 : y ≤ 10000) : Calls Tryz.prog 182 #[.int .i64 y] w fun e w' => e = .returned (.int .i64 (365 + lp y)) ∧ Below w.heap.size w w' := by
  have HI := Lib.hid (index_len y 1 (by decide))
  have hl := lp_01 y
  have hi : ∀ W, Sem.run Tryz.prog (Instr.index 177 (lenAgg (feb y)) (.int .i64 1)) W = .ok (.int .i64 (28 + lp y)) W := by
    intro W
    have := HI.out W
    simpa [dim] using this
  go_enter Tryz.func182, Tryz.ntmps182
  go_wp2_with (go_at_call 149; refine (lengths_calls y _).mono ?_; rintro e w1 ⟨rfl, hb1⟩; have HB1 := Lib.hid hb1; clear hb1)
  go_ret
  exact ⟨by show Ending.returned (Value.int IntKind.i64 (337 + (28 + lp y))) = _; congr 2; omega, HB1.out⟩
abbrev lenA (y : Int) : Array Value := #[.int .i64 31, .int .i64 (28 + lp y), .int .i64 31, .int .i64 30, .int .i64 31, .int .i64 30, .int .i64 31, .int .i64 31, .int .i64 30, .int .i64 31, .int .i64 30, .int .i64 31]
theorem lengths_lit (y : Int) (w : World) : Calls Tryz.prog 149 #[.int .i64 y] w fun e w' => e = .returned (.agg (lenA y)) ∧ Below w.heap.size w w' := by
  have h := lengths_calls y w
  rw [feb_lp] at h
  exact h
theorem len_at (y : Int) (i : Nat) (h : i < 12) : (lenA y)[i]? = some (.int .i64 (dim y ((i : Int) + 1))) := by
  have : i = 0 ∨ i = 1 ∨ i = 2 ∨ i = 3 ∨ i = 4 ∨ i = 5 ∨ i = 6 ∨ i = 7 ∨ i = 8 ∨ i = 9 ∨ i = 10 ∨ i = 11 := by omega
  rcases this with rfl | rfl | rfl | rfl | rfl | rfl | rfl | rfl | rfl | rfl | rfl | rfl <;> simp [dim]
end Go.Proofs.YtbnhlekehndhkaaGreatDoor.Da

