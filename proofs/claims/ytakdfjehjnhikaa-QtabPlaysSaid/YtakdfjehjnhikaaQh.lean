import Derived.Test.YtakdfjehjnhikaaQg
namespace Go.Proofs.Ytakdfjehjnhikaa.Q
open Go.RowKit Go.Proofs.YtakdfjehjnhikaaW.PrintWords Go.Proofs.YtakdfjehjnhikaaW.PrintLast Go.Proofs.YtakdfjehjnhikaaW.PrintMore Go.Proofs.Ytakdfjehjnhikaa.G
set_option linter.unusedVariables false
set_option linter.unusedSimpArgs false

theorem a_cap (w : World) (g : Nat) (h : TabAt w g t0) : Calls Try.prog 27 #[.pointer (some ⟨g, 0, none⟩), .int .i64 70] w fun e w' => e = .returned (.int .i64 0) ∧ TabAt w' g t1 ∧ w.grownBy w' (some g) := by
  have := setcap_any w g t0 70 h t0_ok; rw [t1_eq] at this; exact this
theorem a_a (w : World) (g : Nat) (h : TabAt w g t1) : Calls Try.prog 25 #[.pointer (some ⟨g, 0, none⟩), .agg #[.string ⟨#[97]⟩, .string ⟨#[98]⟩]] w fun e w' => e = .returned (.tuple #[.int .i64 0, .int .i64 0]) ∧ TabAt w' g t2 ∧ w.grownBy w' (some g) := by
  have := insert_any w g t1 fa (fun _ _ => trivial) h t1_ok; rw [t2_eq] at this; exact this
theorem a_c (w : World) (g : Nat) (h : TabAt w g t2) : Calls Try.prog 25 #[.pointer (some ⟨g, 0, none⟩), .agg #[.string ⟨#[99]⟩, .string ⟨#[100]⟩]] w fun e w' => e = .returned (.tuple #[.int .i64 1, .int .i64 0]) ∧ TabAt w' g t3 ∧ w.grownBy w' (some g) := by
  have := insert_any w g t2 fc (fun _ _ => trivial) h t2_ok; rw [t3_eq] at this; exact this
theorem a_e (w : World) (g : Nat) (h : TabAt w g t3) : Calls Try.prog 25 #[.pointer (some ⟨g, 0, none⟩), .agg #[.string ⟨#[101]⟩, .string ⟨#[102]⟩]] w fun e w' => e = .returned (.tuple #[.int .i64 2, .int .i64 0]) ∧ TabAt w' g t4 ∧ w.grownBy w' (some g) := by
  have := insert_any w g t3 fe (fun _ _ => trivial) h t3_ok; rw [t4_eq] at this; exact this

theorem a_first (w : World) (g : Nat) (h : TabAt w g t4) : Calls Try.prog 14 #[.pointer (some ⟨g, 0, none⟩)] w fun e w' => e = .returned (.int .i64 1) ∧ w' = w := first_made w g t4 h
theorem a_used (w : World) (g : Nat) (h : TabAt w g t4) : Calls Try.prog 13 #[.pointer (some ⟨g, 0, none⟩)] w fun e w' => e = .returned (.int .i64 68) ∧ w' = w := used_made w g t4 h
theorem a_count (w : World) (g : Nat) (h : TabAt w g t4) : Calls Try.prog 15 #[.pointer (some ⟨g, 0, none⟩)] w fun e w' => e = .returned (.int .i64 3) ∧ Drawn0 w w' := by
  have := count_made w g t4 h
  rw [show wrap64 (t4.first + (t4.l.length : Int)) = 3 by decide +kernel] at this
  exact this

theorem below_of_grown {w w1 w2 : World} {g : Nat} (h : Below w.heap.size w w1) (hg : w1.grownBy w2 (some g)) (hgl : w.heap.size ≤ g) : Below w.heap.size w w2 :=
  h.grown hg h.size (fun k e => by injection e with e; omega)

theorem alive_calls (w : World) : Calls Try.prog 10 #[] w fun e w' => e = .returned (.bool true) ∧ Below w.heap.size w w' := by
  go_enter Try.func10, Try.ntmps10
  go_wp2_with fail
  refine (new_yes w 100 (by omega) (by omega)).mono ?_
  rintro e w1 ⟨rfl, hT0, hb1⟩
  go_wp2_with fail
  refine (a_cap _ _ hT0).mono ?_
  rintro e w2 ⟨rfl, hT1, hg2⟩
  have hb2 := below_of_grown hb1 hg2 (Nat.le_refl _)
  clear hT0 hb1 hg2
  go_wp2_with fail
  refine (a_a _ _ hT1).mono ?_
  rintro e w3 ⟨rfl, hT2, hg3⟩
  have hb3 := below_of_grown hb2 hg3 (Nat.le_refl _)
  clear hT1 hb2 hg3
  go_wp2_with fail
  refine (a_c _ _ hT2).mono ?_
  rintro e w4 ⟨rfl, hT3, hg4⟩
  have hb4 := below_of_grown hb3 hg4 (Nat.le_refl _)
  clear hT2 hb3 hg4
  go_wp2_with fail
  refine (a_e _ _ hT3).mono ?_
  rintro e w5 ⟨rfl, hT4, hg5⟩
  have hb5 := below_of_grown hb4 hg5 (Nat.le_refl _)
  clear hT3 hb4 hg5
  go_wp2_with fail
  refine (qtab_Fixed.calls 1 _ _ _ w5 fixed1).mono ?_
  rintro e w6 ⟨rfl, hb6⟩
  have HT4 := Lib.hid (hT4.below hb6)
  have HB6 := Lib.hid (below_step hb5 hb6)
  have hgl : w.heap.size < w6.heap.size := by obtain ⟨A, c, hh, -⟩ := HT4.out; exact blk_lt' hh
  clear hT4 hb5 hb6
  have HT5 := fun o => Lib.hid (HT4.out.below (below_alloc (Below.refl w6.heap.size w6) o))
  go_wp2_with (first | (go_at_call 14; refine (a_first _ _ (HT5 _).out).mono ?_; rintro e w' ⟨rfl, rfl⟩) | (go_at_call 15; refine (a_count _ _ (HT5 _).out).mono ?_; rintro e w' ⟨rfl, ⟨⟨m, rfl⟩⟩⟩) | (go_at_call 13; refine (a_used _ _ ((HT5 _).out.below (pw_below_drewN (Below.refl _ _) _))).mono ?_; rintro e w' ⟨rfl, rfl⟩))
  go_ret
  exact ⟨rfl, pw_below_drewN (below_alloc HB6.out _) _⟩
end Go.Proofs.Ytakdfjehjnhikaa.Q
