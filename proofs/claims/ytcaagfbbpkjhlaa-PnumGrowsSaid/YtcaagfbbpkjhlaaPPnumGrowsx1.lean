-- PRINTED BY print.sh 35421559b90ae4d0a3588c463048766b98c2df88dd9212a6774a882060cdf62d: not written by this session
import Derived.Test.YtcaagfbbpkjhlaaPPnumGrowsx0
namespace Go.Proofs.Ytcaagfbbpkjhlaa.PPnumGrows
open Go.RowKit Go.Proofs.YtcaagfbbpkjhlaaW.PrintWords Go.Proofs.YtcaagfbbpkjhlaaW.PrintLast Go.Proofs.YtcaagfbbpkjhlaaW.PrintMore
attribute [local go_sem] max2_int min2_int max_two min_two max_three min_three max_four min_four   -- for this text's walks alone
set_option linter.unusedVariables false
set_option linter.unusedSimpArgs false

/-! ### pnum_row: function 15 -/
def pnum_row.f (a0 : Int) : Option (Int) := if a0 < 1 then (some 0) else (if a0 > 4 then (some 0) else (if 0 ≤ (wrap64 (8 * a0)) then (some (shl .i64 1 (wrap64 (8 * a0)))) else (none)))
set_option maxHeartbeats 8000000 in
set_option maxRecDepth 100000 in
theorem pnum_row.calls (a0 : Int) (r : Int) (w : World) (h : pnum_row.f a0 = some r) :
    Calls Try.prog 15 #[.int .i64 a0] w fun e w' => e = .returned (.int .i64 r) ∧ Drawn0 w w' := by
  have H : (if a0 < 1 then (some 0) else (if a0 > 4 then (some 0) else (if 0 ≤ (wrap64 (8 * a0)) then (some (shl .i64 1 (wrap64 (8 * a0)))) else (none)))) = some r := h
  clear h
  by_cases c2 : a0 < 1
  · rw [if_pos c2] at H
    have c2b0 : decide (a0 < 1) = true := decide_eq_true c2
    clear c2
    obtain rfl := Option.some.inj H
    go_enter Try.func15, Try.ntmps15
    go_wp2
    go_ret
    exact ⟨by first | rfl | (simp; done) | (simp [*]; done), by repeat (first | exact Drawn0.refl _ | apply Drawn0.step)⟩
  · rw [if_neg c2] at H
    have c2b0 : decide (a0 < 1) = false := decide_eq_false c2
    clear c2
    by_cases c3 : a0 > 4
    · rw [if_pos c3] at H
      have c3b0 : decide (4 < a0) = true := decide_eq_true c3
      clear c3
      obtain rfl := Option.some.inj H
      go_enter Try.func15, Try.ntmps15
      go_wp2
      go_ret
      exact ⟨by first | rfl | (simp; done) | (simp [*]; done), by repeat (first | exact Drawn0.refl _ | apply Drawn0.step)⟩
    · rw [if_neg c3] at H
      have c3b0 : decide (4 < a0) = false := decide_eq_false c3
      clear c3
      obtain ⟨ji4, hji4⟩ : ∃ j_ : Int, (wrap64 (8 * a0)) = j_ := ⟨_, rfl⟩
      replace H : (if 0 ≤ (ji4) then (some (shl .i64 1 (ji4))) else (none)) = some r := by first | (rw [hji4] at H; exact H) | (simp only [hji4] at H ⊢; exact H)
      have hji4w : (IntKind.i64.wrap (8 * a0)) = ji4 := (i64_w _).trans hji4
      by_cases c5 : 0 ≤ (ji4)
      · rw [if_pos c5] at H
        have c5b0 := eq_true c5
        have c5b1 : decide (0 ≤ (ji4)) = true := decide_eq_true c5
        clear c5
        obtain ⟨ji6, hji6⟩ : ∃ j_ : Int, (shl .i64 1 (ji4)) = j_ := ⟨_, rfl⟩
        replace H : (some ji6) = some r := by first | (rw [hji6] at H; exact H) | (simp only [hji6] at H ⊢; exact H)
        have hji6_ : (IntKind.i64.wrap (1 * 2 ^ min (ji4).toNat 64)) = ji6 := hji6
        have hji6z : (ji4) ≤ 64 → (IntKind.i64.wrap (1 * 2 ^ (ji4).toNat)) = ji6 := shl_small hji6
        have hji6u : (IntKind.i64.wrap (2 ^ min (ji4).toNat 64)) = ji6 := by have h_ := hji6_; rw [Int.one_mul] at h_; exact h_
        have hji6v : (ji4) ≤ 64 → (IntKind.i64.wrap (2 ^ (ji4).toNat)) = ji6 := fun hle_ => by have h_ := hji6z hle_; rw [Int.one_mul] at h_; exact h_
        have hji6y : (wrap64 (1 * 2 ^ min (ji4).toNat 64)) = ji6 := (i64_w _).symm.trans hji6_
        have hji6x : (ji4) ≤ 64 → (wrap64 (1 * 2 ^ (ji4).toNat)) = ji6 := fun h_ => (i64_w _).symm.trans (hji6z h_)
        obtain rfl := Option.some.inj H
        go_enter Try.func15, Try.ntmps15
        go_wp2
        go_ret
        exact ⟨by first | rfl | (simp; done) | (simp only [← hji4, ← hji6] <;> (first | rfl | simp)) | (simp [*]; done), by repeat (first | exact Drawn0.refl _ | apply Drawn0.step)⟩
      · rw [if_neg c5] at H
        exact absurd H (by simp)

/-! ### pnum_isNumber: function 16 -/
def pnum_isNumber.f (a0 : Int) : Option (Bool) := if a0 ≥ 0 then (some (decide (a0 ≤ 4611686018427387903))) else (some false)
set_option maxHeartbeats 8000000 in
set_option maxRecDepth 100000 in
theorem pnum_isNumber.calls (a0 : Int) (r : Bool) (w : World) (h : pnum_isNumber.f a0 = some r) :
    Calls Try.prog 16 #[.int .i64 a0] w fun e w' => e = .returned (.bool r) ∧ Drawn0 w w' := by
  have H : (if a0 ≥ 0 then (some (decide (a0 ≤ 4611686018427387903))) else (some false)) = some r := h
  clear h
  by_cases c2 : a0 ≥ 0
  · rw [if_pos c2] at H
    have c2b0 : decide (0 ≤ a0) = true := decide_eq_true c2
    clear c2
    obtain rfl := Option.some.inj H
    go_enter Try.func16, Try.ntmps16
    go_wp2
    go_ret
    exact ⟨by first | rfl | (simp; done) | (simp [*]; done), by repeat (first | exact Drawn0.refl _ | apply Drawn0.step)⟩
  · rw [if_neg c2] at H
    have c2b0 : decide (0 ≤ a0) = false := decide_eq_false c2
    clear c2
    obtain rfl := Option.some.inj H
    go_enter Try.func16, Try.ntmps16
    go_wp2
    go_ret
    exact ⟨by first | rfl | (simp; done) | (simp [*]; done), by repeat (first | exact Drawn0.refl _ | apply Drawn0.step)⟩

/-! ### pnum_Grow: function 8 -/
def pnum_Grow.j0 : Nat → Int → Int → Int → Bool → Option (Int × Int)
  | 0, _, _, _, _ => none
  | k + 1, x0, x1, x8, x29 => if x29 = true then (some (0, 1)) else (if x8 = 0 then (none) else (if (wrap64 ((wrap64 ((wrap64 ((wrap64 (x0 + 1)) - (wrap64 (Int.tdiv x8 2)))) + 1)) + (Int.tmod (wrap64 ((Int.tmod (wrap64 (x1 - (wrap64 ((wrap64 ((wrap64 (x0 + 1)) - (wrap64 (Int.tdiv x8 2)))) + 1)))) x8) + x8)) x8))) < 0 then (some (wrap64 ((wrap64 ((wrap64 ((wrap64 ((wrap64 (x0 + 1)) - (wrap64 (Int.tdiv x8 2)))) + 1)) + (Int.tmod (wrap64 ((Int.tmod (wrap64 (x1 - (wrap64 ((wrap64 ((wrap64 (x0 + 1)) - (wrap64 (Int.tdiv x8 2)))) + 1)))) x8) + x8)) x8))) + x8), 0)) else (if (wrap64 ((wrap64 ((wrap64 ((wrap64 (x0 + 1)) - (wrap64 (Int.tdiv x8 2)))) + 1)) + (Int.tmod (wrap64 ((Int.tmod (wrap64 (x1 - (wrap64 ((wrap64 ((wrap64 (x0 + 1)) - (wrap64 (Int.tdiv x8 2)))) + 1)))) x8) + x8)) x8))) > 4611686018427387903 then (some (wrap64 ((wrap64 ((wrap64 ((wrap64 ((wrap64 (x0 + 1)) - (wrap64 (Int.tdiv x8 2)))) + 1)) + (Int.tmod (wrap64 ((Int.tmod (wrap64 (x1 - (wrap64 ((wrap64 ((wrap64 (x0 + 1)) - (wrap64 (Int.tdiv x8 2)))) + 1)))) x8) + x8)) x8))) - x8), 0)) else (some (wrap64 ((wrap64 ((wrap64 ((wrap64 (x0 + 1)) - (wrap64 (Int.tdiv x8 2)))) + 1)) + (Int.tmod (wrap64 ((Int.tmod (wrap64 (x1 - (wrap64 ((wrap64 ((wrap64 (x0 + 1)) - (wrap64 (Int.tdiv x8 2)))) + 1)))) x8) + x8)) x8)), 0)))))
def pnum_Grow.f (k : Nat) (a0 : Int) (a1 : Int) (a2 : Int) : Option (Int × Int) := (pnum_row.f a2).bind fun t101 => (if a0 = (-1) then (if a1 < 0 then (pnum_Grow.j0 k a0 a1 t101 true) else (pnum_Grow.j0 k a0 a1 t101 (decide (a1 ≥ t101)))) else ((pnum_isNumber.f a0).bind fun t102 => (if t102 = true then (if a1 < 0 then (pnum_Grow.j0 k a0 a1 t101 true) else (pnum_Grow.j0 k a0 a1 t101 (decide (a1 ≥ t101)))) else (pnum_Grow.j0 k a0 a1 t101 true))))
theorem pnum_Grow.mono_l : ∀ k, (∀ y0 y1 y2 y3, LeO (pnum_Grow.j0 k y0 y1 y2 y3) (pnum_Grow.j0 (k + 1) y0 y1 y2 y3))
  | 0 => fun _ _ _ _ r h => by simp [pnum_Grow.j0] at h
  | k + 1 => by
    have ih0 := pnum_Grow.mono_l k
    · intro y0 y1 y2 y3
      unfold pnum_Grow.j0
      repeat' first
      | (with_reducible exact ih0 _ _ _ _)
      | (with_reducible exact LeO.refl _)
      | (with_reducible exact LeO.none _)
      | (with_reducible refine LeO.ite ?_ ?_)
      | (with_reducible refine LeO.bind ?_ (fun _ => ?_))
      | exact ih0 _ _ _ _
      | exact LeO.none _
      | refine LeO.ite ?_ ?_
      | refine LeO.bind ?_ (fun _ => ?_)
theorem pnum_Grow.mono : ∀ a0 a1 a2 k, LeO (pnum_Grow.f k a0 a1 a2) (pnum_Grow.f (k + 1) a0 a1 a2) := by
  intro a0 a1 a2 k
  have ih0 := pnum_Grow.mono_l k
  unfold pnum_Grow.f
  repeat' first
      | (with_reducible exact ih0 _ _ _ _)
      | (with_reducible exact LeO.refl _)
      | (with_reducible exact LeO.none _)
      | (with_reducible refine LeO.ite ?_ ?_)
      | (with_reducible refine LeO.bind ?_ (fun _ => ?_))
      | exact ih0 _ _ _ _
      | exact LeO.none _
      | refine LeO.ite ?_ ?_
      | refine LeO.bind ?_ (fun _ => ?_)
set_option maxHeartbeats 8000000 in
set_option maxRecDepth 100000 in
theorem pnum_Grow.calls (k : Nat) (a0 : Int) (a1 : Int) (a2 : Int) (r1 : Int) (r2 : Int) (w : World) (h : pnum_Grow.f k a0 a1 a2 = some (r1, r2)) :
    Calls Try.prog 8 #[.int .i64 a0, .int .i64 a1, .int .i64 a2] w fun e w' => e = .returned (.tuple #[.int .i64 r1, .int .i64 r2]) ∧ Drawn0 w w' := by
  have H : ((pnum_row.f a2).bind fun t101 => (if a0 = (-1) then (if a1 < 0 then (pnum_Grow.j0 k a0 a1 t101 true) else (pnum_Grow.j0 k a0 a1 t101 (decide (a1 ≥ t101)))) else ((pnum_isNumber.f a0).bind fun t102 => (if t102 = true then (if a1 < 0 then (pnum_Grow.j0 k a0 a1 t101 true) else (pnum_Grow.j0 k a0 a1 t101 (decide (a1 ≥ t101)))) else (pnum_Grow.j0 k a0 a1 t101 true))))) = some (r1, r2) := h
  clear h
  replace H := Option.bind_eq_some_iff.mp H
  obtain ⟨t101, A40, H⟩ := H
  replace H : (if a0 = (-1) then (if a1 < 0 then (pnum_Grow.j0 k a0 a1 t101 true) else (pnum_Grow.j0 k a0 a1 t101 (decide (a1 ≥ t101)))) else ((pnum_isNumber.f a0).bind fun t102 => (if t102 = true then (if a1 < 0 then (pnum_Grow.j0 k a0 a1 t101 true) else (pnum_Grow.j0 k a0 a1 t101 (decide (a1 ≥ t101)))) else (pnum_Grow.j0 k a0 a1 t101 true)))) = some (r1, r2) := H
  have A4 := Aside0.mk A40
  clear A40
  have HC5 := Aside0.mk H
  clear H
  go_enter Try.func8, Try.ntmps8
  go_upto_region 2 with (first | ((with_reducible refine gate_callee (f := 15) rfl ?_); refine goesL_ (some 13) rfl rfl Try.func15 (by kernel_rfl) rfl #[.int .i64 a2] rfl (by (try simp only [List.map_toArray, List.map_cons, List.map_nil]); first | done | rfl | (simp only [List.length_drop, List.length_take]; rfl)) ?_; (with_reducible refine (pnum_row.calls a2 t101 _ A4.out).mono ?_); rintro e w' ⟨rfl, ⟨nd, rfl⟩⟩; refine ⟨_, rfl, ?_⟩))
  (try simp only [Act.put, List.setIfInBounds_toArray, List.set_cons_zero, List.set_cons_succ])
  go_cut [29] (fun v29 wc => ∃ (kq : Nat) (x29_4 : Bool), v29 = .bool x29_4 ∧ Aside0 (pnum_Grow.j0 kq a0 a1 t101 x29_4 = some (r1, r2)) ∧ Aside0 (kq ≤ k) ∧ Drawn0 w wc)
  case first =>
    have H := HC5.out
    clear HC5
    by_cases c6 : a0 = (-1)
    · rw [if_pos c6] at H
      have c6b0 : (a0 == (-1)) = true := beq_iff_eq.mpr c6
      have c6b1 : (a0 != (-1)) = false := bne_eq_false_iff_eq.mpr c6
      clear c6
      (first | rw [c6b0] | (simp only [i64_w, i32_w]; rw [c6b0]) | skip)
      by_cases c7 : a1 < 0
      · rw [if_pos c7] at H
        have c7b0 : decide (a1 < 0) = true := decide_eq_true c7
        clear c7
        have H' := Aside0.mk H
        clear H
        go_wp2
        go_meet
        case rel => exact ⟨_, (true), (by first | rfl | (simp; done) | (simp [*]; done)), H', ⟨by first | omega | exact Nat.le_refl _⟩, by repeat (first | exact Drawn0.refl _ | apply Drawn0.step)⟩
      · rw [if_neg c7] at H
        have c7b0 : decide (a1 < 0) = false := decide_eq_false c7
        clear c7
        have H' := Aside0.mk H
        clear H
        go_wp2
        go_meet
        case rel => exact ⟨_, (decide (a1 ≥ t101)), (by first | rfl | (simp; done) | (simp [*]; done)), H', ⟨by first | omega | exact Nat.le_refl _⟩, by repeat (first | exact Drawn0.refl _ | apply Drawn0.step)⟩
    · rw [if_neg c6] at H
      have c6b0 : (a0 == (-1)) = false := beq_eq_false_iff_ne.mpr c6
      have c6b1 : (a0 != (-1)) = true := bne_iff_ne.mpr c6
      (first | rw [c6b0] | (simp only [i64_w, i32_w]; rw [c6b0]) | skip)
      replace H := Option.bind_eq_some_iff.mp H
      obtain ⟨t102, A80, H⟩ := H
      replace H : (if t102 = true then (if a1 < 0 then (pnum_Grow.j0 k a0 a1 t101 true) else (pnum_Grow.j0 k a0 a1 t101 (decide (a1 ≥ t101)))) else (pnum_Grow.j0 k a0 a1 t101 true)) = some (r1, r2) := H
      have A8 := Aside0.mk A80
      clear A80
      by_cases c9 : t102 = true
      · subst c9
        have H1 : (if a1 < 0 then (pnum_Grow.j0 k a0 a1 t101 true) else (pnum_Grow.j0 k a0 a1 t101 (decide (a1 ≥ t101)))) = some (r1, r2) := by rw [if_pos rfl] at H; exact H
        clear H
        have H := H1
        clear H1
        by_cases c10 : a1 < 0
        · rw [if_pos c10] at H
          have c10b0 : decide (a1 < 0) = true := decide_eq_true c10
          clear c10
          have H' := Aside0.mk H
          clear H
          go_wp2_with (first | (go_at_call 16; (with_reducible refine (pnum_isNumber.calls a0 true _ A8.out).mono ?_); rintro e w' ⟨rfl, ⟨nd, rfl⟩⟩))
          go_meet
          case rel => exact ⟨_, (true), (by first | rfl | (simp; done) | (simp [*]; done)), H', ⟨by first | omega | exact Nat.le_refl _⟩, by repeat (first | exact Drawn0.refl _ | apply Drawn0.step)⟩
        · rw [if_neg c10] at H
          have c10b0 : decide (a1 < 0) = false := decide_eq_false c10
          clear c10
          have H' := Aside0.mk H
          clear H
          go_wp2_with (first | (go_at_call 16; (with_reducible refine (pnum_isNumber.calls a0 true _ A8.out).mono ?_); rintro e w' ⟨rfl, ⟨nd, rfl⟩⟩))
          go_meet
          case rel => exact ⟨_, (decide (a1 ≥ t101)), (by first | rfl | (simp; done) | (simp [*]; done)), H', ⟨by first | omega | exact Nat.le_refl _⟩, by repeat (first | exact Drawn0.refl _ | apply Drawn0.step)⟩
      · replace c9 := Bool.eq_false_iff.mpr c9
        subst c9
        have H1 : (pnum_Grow.j0 k a0 a1 t101 true) = some (r1, r2) := by rw [if_neg (show ¬ (false = true) by decide)] at H; exact H
        clear H
        have H := H1
        clear H1
        have H' := Aside0.mk H
        clear H
        go_wp2_with (first | (go_at_call 16; (with_reducible refine (pnum_isNumber.calls a0 false _ A8.out).mono ?_); rintro e w' ⟨rfl, ⟨nd, rfl⟩⟩))
        go_meet
        case rel => exact ⟨_, (true), (by first | rfl | (simp; done) | (simp [*]; done)), H', ⟨by first | omega | exact Nat.le_refl _⟩, by repeat (first | exact Drawn0.refl _ | apply Drawn0.step)⟩
  case rest =>
    clear HC5
    try clear c1
    try clear p2
    try clear c6
    try clear c6b0
    try clear c6b1
    try clear c7
    try clear c7b0
    try clear c8
    try clear c9
    try clear c10
    try clear c10b0
    obtain ⟨kq, x29_4, rfl, HA, HJ4, ⟨mc4, rfl⟩⟩ := hcut
    cases kq with
    | zero => exact absurd HA.out (by simp [pnum_Grow.j0])
    | succ kj4 =>
      have H := HA.out
      clear HA
      simp only [pnum_Grow.j0] at H
      by_cases c11 : x29_4 = true
      · subst c11
        have H1 : (some (0, 1)) = some (r1, r2) := by rw [if_pos rfl] at H; exact H
        clear H
        have H := H1
        clear H1
        simp only [Option.some.injEq, Prod.mk.injEq] at H
        obtain ⟨rfl, rfl⟩ := H
        go_wp2
        go_ret2
        exact ⟨by first | rfl | (simp; done) | (simp [*]; done), by repeat (first | exact Drawn0.refl _ | apply Drawn0.step)⟩
      · replace c11 := Bool.eq_false_iff.mpr c11
        subst c11
        have H1 : (if t101 = 0 then (none) else (if (wrap64 ((wrap64 ((wrap64 ((wrap64 (a0 + 1)) - (wrap64 (Int.tdiv t101 2)))) + 1)) + (Int.tmod (wrap64 ((Int.tmod (wrap64 (a1 - (wrap64 ((wrap64 ((wrap64 (a0 + 1)) - (wrap64 (Int.tdiv t101 2)))) + 1)))) t101) + t101)) t101))) < 0 then (some (wrap64 ((wrap64 ((wrap64 ((wrap64 ((wrap64 (a0 + 1)) - (wrap64 (Int.tdiv t101 2)))) + 1)) + (Int.tmod (wrap64 ((Int.tmod (wrap64 (a1 - (wrap64 ((wrap64 ((wrap64 (a0 + 1)) - (wrap64 (Int.tdiv t101 2)))) + 1)))) t101) + t101)) t101))) + t101), 0)) else (if (wrap64 ((wrap64 ((wrap64 ((wrap64 (a0 + 1)) - (wrap64 (Int.tdiv t101 2)))) + 1)) + (Int.tmod (wrap64 ((Int.tmod (wrap64 (a1 - (wrap64 ((wrap64 ((wrap64 (a0 + 1)) - (wrap64 (Int.tdiv t101 2)))) + 1)))) t101) + t101)) t101))) > 4611686018427387903 then (some (wrap64 ((wrap64 ((wrap64 ((wrap64 ((wrap64 (a0 + 1)) - (wrap64 (Int.tdiv t101 2)))) + 1)) + (Int.tmod (wrap64 ((Int.tmod (wrap64 (a1 - (wrap64 ((wrap64 ((wrap64 (a0 + 1)) - (wrap64 (Int.tdiv t101 2)))) + 1)))) t101) + t101)) t101))) - t101), 0)) else (some (wrap64 ((wrap64 ((wrap64 ((wrap64 (a0 + 1)) - (wrap64 (Int.tdiv t101 2)))) + 1)) + (Int.tmod (wrap64 ((Int.tmod (wrap64 (a1 - (wrap64 ((wrap64 ((wrap64 (a0 + 1)) - (wrap64 (Int.tdiv t101 2)))) + 1)))) t101) + t101)) t101)), 0))))) = some (r1, r2) := by rw [if_neg (show ¬ (false = true) by decide)] at H; exact H
        clear H
        have H := H1
        clear H1
        by_cases c12 : t101 = 0
        · rw [if_pos c12] at H
          exact absurd H (by simp)
        · rw [if_neg c12] at H
          have c12b0 : (t101 == 0) = false := beq_eq_false_iff_ne.mpr c12
          have c12b1 : (t101 != 0) = true := bne_iff_ne.mpr c12
          by_cases c13 : (wrap64 ((wrap64 ((wrap64 ((wrap64 (a0 + 1)) - (wrap64 (Int.tdiv t101 2)))) + 1)) + (Int.tmod (wrap64 ((Int.tmod (wrap64 (a1 - (wrap64 ((wrap64 ((wrap64 (a0 + 1)) - (wrap64 (Int.tdiv t101 2)))) + 1)))) t101) + t101)) t101))) < 0
          · rw [if_pos c13] at H
            have c13b0 : decide ((wrap64 ((wrap64 ((wrap64 ((wrap64 (a0 + 1)) - (wrap64 (Int.tdiv t101 2)))) + 1)) + (Int.tmod (wrap64 ((Int.tmod (wrap64 (a1 - (wrap64 ((wrap64 ((wrap64 (a0 + 1)) - (wrap64 (Int.tdiv t101 2)))) + 1)))) t101) + t101)) t101))) < 0) = true := decide_eq_true c13
            clear c13
            simp only [Option.some.injEq, Prod.mk.injEq] at H
            obtain ⟨rfl, rfl⟩ := H
            go_wp2
            go_ret2
            exact ⟨by first | rfl | (simp; done) | (simp [*]; done), by repeat (first | exact Drawn0.refl _ | apply Drawn0.step)⟩
          · rw [if_neg c13] at H
            have c13b0 : decide ((wrap64 ((wrap64 ((wrap64 ((wrap64 (a0 + 1)) - (wrap64 (Int.tdiv t101 2)))) + 1)) + (Int.tmod (wrap64 ((Int.tmod (wrap64 (a1 - (wrap64 ((wrap64 ((wrap64 (a0 + 1)) - (wrap64 (Int.tdiv t101 2)))) + 1)))) t101) + t101)) t101))) < 0) = false := decide_eq_false c13
            clear c13
            by_cases c14 : (wrap64 ((wrap64 ((wrap64 ((wrap64 (a0 + 1)) - (wrap64 (Int.tdiv t101 2)))) + 1)) + (Int.tmod (wrap64 ((Int.tmod (wrap64 (a1 - (wrap64 ((wrap64 ((wrap64 (a0 + 1)) - (wrap64 (Int.tdiv t101 2)))) + 1)))) t101) + t101)) t101))) > 4611686018427387903
            · rw [if_pos c14] at H
              have c14b0 : decide (4611686018427387903 < (wrap64 ((wrap64 ((wrap64 ((wrap64 (a0 + 1)) - (wrap64 (Int.tdiv t101 2)))) + 1)) + (Int.tmod (wrap64 ((Int.tmod (wrap64 (a1 - (wrap64 ((wrap64 ((wrap64 (a0 + 1)) - (wrap64 (Int.tdiv t101 2)))) + 1)))) t101) + t101)) t101)))) = true := decide_eq_true c14
              clear c14
              simp only [Option.some.injEq, Prod.mk.injEq] at H
              obtain ⟨rfl, rfl⟩ := H
              go_wp2
              go_ret2
              exact ⟨by first | rfl | (simp; done) | (simp [*]; done), by repeat (first | exact Drawn0.refl _ | apply Drawn0.step)⟩
            · rw [if_neg c14] at H
              have c14b0 : decide (4611686018427387903 < (wrap64 ((wrap64 ((wrap64 ((wrap64 (a0 + 1)) - (wrap64 (Int.tdiv t101 2)))) + 1)) + (Int.tmod (wrap64 ((Int.tmod (wrap64 (a1 - (wrap64 ((wrap64 ((wrap64 (a0 + 1)) - (wrap64 (Int.tdiv t101 2)))) + 1)))) t101) + t101)) t101)))) = false := decide_eq_false c14
              clear c14
              simp only [Option.some.injEq, Prod.mk.injEq] at H
              obtain ⟨rfl, rfl⟩ := H
              go_wp2
              go_ret2
              exact ⟨by first | rfl | (simp; done) | (simp [*]; done), by repeat (first | exact Drawn0.refl _ | apply Drawn0.step)⟩

/-! ### turnbuckleref03_Grow: function 9 -/
mutual
def turnbuckleref03_Grow.j0 : Nat → Int → Int → Int → Bool → Option (Int × Int)
  | 0, _, _, _, _ => none
  | k + 1, x0, x1, x2, x35 => if x35 = true then (some (0, 1)) else (if 0 ≤ (wrap64 (8 * x2)) then (if (shl .i64 1 (wrap64 (8 * x2))) = 0 then (none) else (if (wrap64 ((wrap64 ((wrap64 (x0 + 1)) - (Int.tmod (wrap64 (x0 + 1)) (shl .i64 1 (wrap64 (8 * x2)))))) + x1)) ≤ (wrap64 ((wrap64 (x0 + 1)) - (wrap64 (Int.tdiv (shl .i64 1 (wrap64 (8 * x2))) 2)))) then (turnbuckleref03_Grow.j1 k (shl .i64 1 (wrap64 (8 * x2))) (wrap64 ((wrap64 ((wrap64 ((wrap64 (x0 + 1)) - (Int.tmod (wrap64 (x0 + 1)) (shl .i64 1 (wrap64 (8 * x2)))))) + x1)) + (shl .i64 1 (wrap64 (8 * x2)))))) else (if (wrap64 ((wrap64 ((wrap64 (x0 + 1)) - (Int.tmod (wrap64 (x0 + 1)) (shl .i64 1 (wrap64 (8 * x2)))))) + x1)) > (wrap64 ((wrap64 (x0 + 1)) + (wrap64 (Int.tdiv (shl .i64 1 (wrap64 (8 * x2))) 2)))) then (turnbuckleref03_Grow.j1 k (shl .i64 1 (wrap64 (8 * x2))) (wrap64 ((wrap64 ((wrap64 ((wrap64 (x0 + 1)) - (Int.tmod (wrap64 (x0 + 1)) (shl .i64 1 (wrap64 (8 * x2)))))) + x1)) - (shl .i64 1 (wrap64 (8 * x2)))))) else (turnbuckleref03_Grow.j1 k (shl .i64 1 (wrap64 (8 * x2))) (wrap64 ((wrap64 ((wrap64 (x0 + 1)) - (Int.tmod (wrap64 (x0 + 1)) (shl .i64 1 (wrap64 (8 * x2)))))) + x1)))))) else (none))
def turnbuckleref03_Grow.j1 : Nat → Int → Int → Option (Int × Int)
  | 0, _, _ => none
  | k + 1, x8, x10 => if x10 < 0 then (if (wrap64 (x10 + x8)) > 4611686018427387903 then (some (wrap64 ((wrap64 (x10 + x8)) - x8), 0)) else (some (wrap64 (x10 + x8), 0))) else (if x10 > 4611686018427387903 then (some (wrap64 (x10 - x8), 0)) else (some (x10, 0)))
end
def turnbuckleref03_Grow.f (k : Nat) (a0 : Int) (a1 : Int) (a2 : Int) : Option (Int × Int) := if a0 < (-1) then (turnbuckleref03_Grow.j0 k a0 a1 a2 true) else (if a0 > 4611686018427387903 then (turnbuckleref03_Grow.j0 k a0 a1 a2 true) else (if a2 < 1 then (turnbuckleref03_Grow.j0 k a0 a1 a2 true) else (if a2 > 4 then (turnbuckleref03_Grow.j0 k a0 a1 a2 true) else (if a1 < 0 then (turnbuckleref03_Grow.j0 k a0 a1 a2 true) else (if 0 ≤ (wrap64 (8 * a2)) then (turnbuckleref03_Grow.j0 k a0 a1 a2 (decide (a1 ≥ (shl .i64 1 (wrap64 (8 * a2)))))) else (none))))))
theorem turnbuckleref03_Grow.mono_l : ∀ k, (∀ y0 y1 y2 y3, LeO (turnbuckleref03_Grow.j0 k y0 y1 y2 y3) (turnbuckleref03_Grow.j0 (k + 1) y0 y1 y2 y3)) ∧ (∀ y0 y1, LeO (turnbuckleref03_Grow.j1 k y0 y1) (turnbuckleref03_Grow.j1 (k + 1) y0 y1))
  | 0 => ⟨fun _ _ _ _ r h => by simp [turnbuckleref03_Grow.j0] at h, fun _ _ r h => by simp [turnbuckleref03_Grow.j1] at h⟩
  | k + 1 => by
    obtain ⟨ih0, ih1⟩ := turnbuckleref03_Grow.mono_l k
    refine ⟨?_, ?_⟩
    · intro y0 y1 y2 y3
      unfold turnbuckleref03_Grow.j0
      repeat' first
      | (with_reducible exact ih0 _ _ _ _)
      | (with_reducible exact ih1 _ _)
      | (with_reducible exact LeO.refl _)
      | (with_reducible exact LeO.none _)
      | (with_reducible refine LeO.ite ?_ ?_)
      | (with_reducible refine LeO.bind ?_ (fun _ => ?_))
      | exact ih0 _ _ _ _
      | exact ih1 _ _
      | exact LeO.none _
      | refine LeO.ite ?_ ?_
      | refine LeO.bind ?_ (fun _ => ?_)
    · intro y0 y1
      unfold turnbuckleref03_Grow.j1
      repeat' first
      | (with_reducible exact ih0 _ _ _ _)
      | (with_reducible exact ih1 _ _)
      | (with_reducible exact LeO.refl _)
      | (with_reducible exact LeO.none _)
      | (with_reducible refine LeO.ite ?_ ?_)
      | (with_reducible refine LeO.bind ?_ (fun _ => ?_))
      | exact ih0 _ _ _ _
      | exact ih1 _ _
      | exact LeO.none _
      | refine LeO.ite ?_ ?_
      | refine LeO.bind ?_ (fun _ => ?_)
theorem turnbuckleref03_Grow.mono : ∀ a0 a1 a2 k, LeO (turnbuckleref03_Grow.f k a0 a1 a2) (turnbuckleref03_Grow.f (k + 1) a0 a1 a2) := by
  intro a0 a1 a2 k
  obtain ⟨ih0, ih1⟩ := turnbuckleref03_Grow.mono_l k
  unfold turnbuckleref03_Grow.f
  repeat' first
      | (with_reducible exact ih0 _ _ _ _)
      | (with_reducible exact ih1 _ _)
      | (with_reducible exact LeO.refl _)
      | (with_reducible exact LeO.none _)
      | (with_reducible refine LeO.ite ?_ ?_)
      | (with_reducible refine LeO.bind ?_ (fun _ => ?_))
      | exact ih0 _ _ _ _
      | exact ih1 _ _
      | exact LeO.none _
      | refine LeO.ite ?_ ?_
      | refine LeO.bind ?_ (fun _ => ?_)
set_option maxHeartbeats 8000000 in
set_option maxRecDepth 100000 in
theorem turnbuckleref03_Grow.calls (k : Nat) (a0 : Int) (a1 : Int) (a2 : Int) (r1 : Int) (r2 : Int) (w : World) (h : turnbuckleref03_Grow.f k a0 a1 a2 = some (r1, r2)) :
    Calls Try.prog 9 #[.int .i64 a0, .int .i64 a1, .int .i64 a2] w fun e w' => e = .returned (.tuple #[.int .i64 r1, .int .i64 r2]) ∧ Drawn0 w w' := by
  have H : (if a0 < (-1) then (turnbuckleref03_Grow.j0 k a0 a1 a2 true) else (if a0 > 4611686018427387903 then (turnbuckleref03_Grow.j0 k a0 a1 a2 true) else (if a2 < 1 then (turnbuckleref03_Grow.j0 k a0 a1 a2 true) else (if a2 > 4 then (turnbuckleref03_Grow.j0 k a0 a1 a2 true) else (if a1 < 0 then (turnbuckleref03_Grow.j0 k a0 a1 a2 true) else (if 0 ≤ (wrap64 (8 * a2)) then (turnbuckleref03_Grow.j0 k a0 a1 a2 (decide (a1 ≥ (shl .i64 1 (wrap64 (8 * a2)))))) else (none))))))) = some (r1, r2) := h
  clear h
  have HC4 := Aside0.mk H
  clear H
  go_enter Try.func9, Try.ntmps9
  go_upto_region 1 with (fail)
  go_cut [35] (fun v35 wc => ∃ (kq : Nat) (x35_3 : Bool), v35 = .bool x35_3 ∧ Aside0 (turnbuckleref03_Grow.j0 kq a0 a1 a2 x35_3 = some (r1, r2)) ∧ Aside0 (kq ≤ k) ∧ Drawn0 w wc)
  case first =>
    have H := HC4.out
    clear HC4
    by_cases c5 : a0 < (-1)
    · rw [if_pos c5] at H
      have c5b0 : decide (a0 < (-1)) = true := decide_eq_true c5
      clear c5
      (first | rw [c5b0] | (simp only [i64_w, i32_w]; rw [c5b0]) | skip)
      have H' := Aside0.mk H
      clear H
      go_wp2
      go_meet
      case rel => exact ⟨_, (true), (by first | rfl | (simp; done) | (simp [*]; done)), H', ⟨by first | omega | exact Nat.le_refl _⟩, by repeat (first | exact Drawn0.refl _ | apply Drawn0.step)⟩
    · rw [if_neg c5] at H
      have c5b0 : decide (a0 < (-1)) = false := decide_eq_false c5
      clear c5
      (first | rw [c5b0] | (simp only [i64_w, i32_w]; rw [c5b0]) | skip)
      by_cases c6 : a0 > 4611686018427387903
      · rw [if_pos c6] at H
        have c6b0 : decide (4611686018427387903 < a0) = true := decide_eq_true c6
        clear c6
        have H' := Aside0.mk H
        clear H
        go_wp2
        go_meet
        case rel => exact ⟨_, (true), (by first | rfl | (simp; done) | (simp [*]; done)), H', ⟨by first | omega | exact Nat.le_refl _⟩, by repeat (first | exact Drawn0.refl _ | apply Drawn0.step)⟩
      · rw [if_neg c6] at H
        have c6b0 : decide (4611686018427387903 < a0) = false := decide_eq_false c6
        clear c6
        by_cases c7 : a2 < 1
        · rw [if_pos c7] at H
          have c7b0 : decide (a2 < 1) = true := decide_eq_true c7
          clear c7
          have H' := Aside0.mk H
          clear H
          go_wp2
          go_meet
          case rel => exact ⟨_, (true), (by first | rfl | (simp; done) | (simp [*]; done)), H', ⟨by first | omega | exact Nat.le_refl _⟩, by repeat (first | exact Drawn0.refl _ | apply Drawn0.step)⟩
        · rw [if_neg c7] at H
          have c7b0 : decide (a2 < 1) = false := decide_eq_false c7
          clear c7
          by_cases c8 : a2 > 4
          · rw [if_pos c8] at H
            have c8b0 : decide (4 < a2) = true := decide_eq_true c8
            clear c8
            have H' := Aside0.mk H
            clear H
            go_wp2
            go_meet
            case rel => exact ⟨_, (true), (by first | rfl | (simp; done) | (simp [*]; done)), H', ⟨by first | omega | exact Nat.le_refl _⟩, by repeat (first | exact Drawn0.refl _ | apply Drawn0.step)⟩
          · rw [if_neg c8] at H
            have c8b0 : decide (4 < a2) = false := decide_eq_false c8
            clear c8
            by_cases c9 : a1 < 0
            · rw [if_pos c9] at H
              have c9b0 : decide (a1 < 0) = true := decide_eq_true c9
              clear c9
              have H' := Aside0.mk H
              clear H
              go_wp2
              go_meet
              case rel => exact ⟨_, (true), (by first | rfl | (simp; done) | (simp [*]; done)), H', ⟨by first | omega | exact Nat.le_refl _⟩, by repeat (first | exact Drawn0.refl _ | apply Drawn0.step)⟩
            · rw [if_neg c9] at H
              have c9b0 : decide (a1 < 0) = false := decide_eq_false c9
              clear c9
              obtain ⟨ji10, hji10⟩ : ∃ j_ : Int, (wrap64 (8 * a2)) = j_ := ⟨_, rfl⟩
              replace H : (if 0 ≤ (ji10) then (turnbuckleref03_Grow.j0 k a0 a1 a2 (decide (a1 ≥ (shl .i64 1 (ji10))))) else (none)) = some (r1, r2) := by first | (rw [hji10] at H; exact H) | (simp only [hji10] at H ⊢; exact H)
              have hji10w : (IntKind.i64.wrap (8 * a2)) = ji10 := (i64_w _).trans hji10
              by_cases c11 : 0 ≤ (ji10)
              · rw [if_pos c11] at H
                have c11b0 := eq_true c11
                have c11b1 : decide (0 ≤ (ji10)) = true := decide_eq_true c11
                clear c11
                obtain ⟨ji12, hji12⟩ : ∃ j_ : Int, (shl .i64 1 (ji10)) = j_ := ⟨_, rfl⟩
                replace H : (turnbuckleref03_Grow.j0 k a0 a1 a2 (decide (a1 ≥ (ji12)))) = some (r1, r2) := by first | (rw [hji12] at H; exact H) | (simp only [hji12] at H ⊢; exact H)
                have hji12_ : (IntKind.i64.wrap (1 * 2 ^ min (ji10).toNat 64)) = ji12 := hji12
                have hji12z : (ji10) ≤ 64 → (IntKind.i64.wrap (1 * 2 ^ (ji10).toNat)) = ji12 := shl_small hji12
                have hji12u : (IntKind.i64.wrap (2 ^ min (ji10).toNat 64)) = ji12 := by have h_ := hji12_; rw [Int.one_mul] at h_; exact h_
                have hji12v : (ji10) ≤ 64 → (IntKind.i64.wrap (2 ^ (ji10).toNat)) = ji12 := fun hle_ => by have h_ := hji12z hle_; rw [Int.one_mul] at h_; exact h_
                have hji12y : (wrap64 (1 * 2 ^ min (ji10).toNat 64)) = ji12 := (i64_w _).symm.trans hji12_
                have hji12x : (ji10) ≤ 64 → (wrap64 (1 * 2 ^ (ji10).toNat)) = ji12 := fun h_ => (i64_w _).symm.trans (hji12z h_)
                have H' := Aside0.mk H
                clear H
                go_wp2
                go_meet
                case rel => exact ⟨_, (decide (a1 ≥ (ji12))), (by first | rfl | (simp; done) | (simp only [← hji12] <;> (first | rfl | simp)) | (simp [*]; done)), H', ⟨by first | omega | exact Nat.le_refl _⟩, by repeat (first | exact Drawn0.refl _ | apply Drawn0.step)⟩
              · rw [if_neg c11] at H
                exact absurd H (by simp)
  case rest =>
    clear HC4
    try clear c1
    try clear p2
    try clear c5
    try clear c5b0
    try clear c6
    try clear c6b0
    try clear p6
    try clear c7
    try clear c7b0
    try clear c8
    try clear c8b0
    try clear c9
    try clear c9b0
    try clear c11
    try clear c11b0
    try clear c11b1
    obtain ⟨kq, x35_3, rfl, HA, HJ3, ⟨mc3, rfl⟩⟩ := hcut
    cases kq with
    | zero => exact absurd HA.out (by simp [turnbuckleref03_Grow.j0])
    | succ kj3 =>
      have H := HA.out
      clear HA
      simp only [turnbuckleref03_Grow.j0] at H
      by_cases c13 : x35_3 = true
      · subst c13
        have H1 : (some (0, 1)) = some (r1, r2) := by rw [if_pos rfl] at H; exact H
        clear H
        have H := H1
        clear H1
        simp only [Option.some.injEq, Prod.mk.injEq] at H
        obtain ⟨rfl, rfl⟩ := H
        go_wp2
        go_ret2
        exact ⟨by first | rfl | (simp; done) | (simp [*]; done), by repeat (first | exact Drawn0.refl _ | apply Drawn0.step)⟩
      · replace c13 := Bool.eq_false_iff.mpr c13
        subst c13
        have H1 : (if 0 ≤ (wrap64 (8 * a2)) then (if (shl .i64 1 (wrap64 (8 * a2))) = 0 then (none) else (if (wrap64 ((wrap64 ((wrap64 (a0 + 1)) - (Int.tmod (wrap64 (a0 + 1)) (shl .i64 1 (wrap64 (8 * a2)))))) + a1)) ≤ (wrap64 ((wrap64 (a0 + 1)) - (wrap64 (Int.tdiv (shl .i64 1 (wrap64 (8 * a2))) 2)))) then (turnbuckleref03_Grow.j1 kj3 (shl .i64 1 (wrap64 (8 * a2))) (wrap64 ((wrap64 ((wrap64 ((wrap64 (a0 + 1)) - (Int.tmod (wrap64 (a0 + 1)) (shl .i64 1 (wrap64 (8 * a2)))))) + a1)) + (shl .i64 1 (wrap64 (8 * a2)))))) else (if (wrap64 ((wrap64 ((wrap64 (a0 + 1)) - (Int.tmod (wrap64 (a0 + 1)) (shl .i64 1 (wrap64 (8 * a2)))))) + a1)) > (wrap64 ((wrap64 (a0 + 1)) + (wrap64 (Int.tdiv (shl .i64 1 (wrap64 (8 * a2))) 2)))) then (turnbuckleref03_Grow.j1 kj3 (shl .i64 1 (wrap64 (8 * a2))) (wrap64 ((wrap64 ((wrap64 ((wrap64 (a0 + 1)) - (Int.tmod (wrap64 (a0 + 1)) (shl .i64 1 (wrap64 (8 * a2)))))) + a1)) - (shl .i64 1 (wrap64 (8 * a2)))))) else (turnbuckleref03_Grow.j1 kj3 (shl .i64 1 (wrap64 (8 * a2))) (wrap64 ((wrap64 ((wrap64 (a0 + 1)) - (Int.tmod (wrap64 (a0 + 1)) (shl .i64 1 (wrap64 (8 * a2)))))) + a1)))))) else (none)) = some (r1, r2) := by rw [if_neg (show ¬ (false = true) by decide)] at H; exact H
        clear H
        have H := H1
        clear H1
        obtain ⟨ji14, hji14⟩ : ∃ j_ : Int, (wrap64 (8 * a2)) = j_ := ⟨_, rfl⟩
        replace H : (if 0 ≤ (ji14) then (if (shl .i64 1 (ji14)) = 0 then (none) else (if (wrap64 ((wrap64 ((wrap64 (a0 + 1)) - (Int.tmod (wrap64 (a0 + 1)) (shl .i64 1 (ji14))))) + a1)) ≤ (wrap64 ((wrap64 (a0 + 1)) - (wrap64 (Int.tdiv (shl .i64 1 (ji14)) 2)))) then (turnbuckleref03_Grow.j1 kj3 (shl .i64 1 (ji14)) (wrap64 ((wrap64 ((wrap64 ((wrap64 (a0 + 1)) - (Int.tmod (wrap64 (a0 + 1)) (shl .i64 1 (ji14))))) + a1)) + (shl .i64 1 (ji14))))) else (if (wrap64 ((wrap64 ((wrap64 (a0 + 1)) - (Int.tmod (wrap64 (a0 + 1)) (shl .i64 1 (ji14))))) + a1)) > (wrap64 ((wrap64 (a0 + 1)) + (wrap64 (Int.tdiv (shl .i64 1 (ji14)) 2)))) then (turnbuckleref03_Grow.j1 kj3 (shl .i64 1 (ji14)) (wrap64 ((wrap64 ((wrap64 ((wrap64 (a0 + 1)) - (Int.tmod (wrap64 (a0 + 1)) (shl .i64 1 (ji14))))) + a1)) - (shl .i64 1 (ji14))))) else (turnbuckleref03_Grow.j1 kj3 (shl .i64 1 (ji14)) (wrap64 ((wrap64 ((wrap64 (a0 + 1)) - (Int.tmod (wrap64 (a0 + 1)) (shl .i64 1 (ji14))))) + a1)))))) else (none)) = some (r1, r2) := by first | (rw [hji14] at H; exact H) | (simp only [hji14] at H ⊢; exact H)
        have hji14w : (IntKind.i64.wrap (8 * a2)) = ji14 := (i64_w _).trans hji14
        by_cases c15 : 0 ≤ (ji14)
        · rw [if_pos c15] at H
          have c15b0 := eq_true c15
          have c15b1 : decide (0 ≤ (ji14)) = true := decide_eq_true c15
          clear c15
          obtain ⟨ji16, hji16⟩ : ∃ j_ : Int, (shl .i64 1 (ji14)) = j_ := ⟨_, rfl⟩
          replace H : (if (ji16) = 0 then (none) else (if (wrap64 ((wrap64 ((wrap64 (a0 + 1)) - (Int.tmod (wrap64 (a0 + 1)) (ji16)))) + a1)) ≤ (wrap64 ((wrap64 (a0 + 1)) - (wrap64 (Int.tdiv (ji16) 2)))) then (turnbuckleref03_Grow.j1 kj3 ji16 (wrap64 ((wrap64 ((wrap64 ((wrap64 (a0 + 1)) - (Int.tmod (wrap64 (a0 + 1)) (ji16)))) + a1)) + (ji16)))) else (if (wrap64 ((wrap64 ((wrap64 (a0 + 1)) - (Int.tmod (wrap64 (a0 + 1)) (ji16)))) + a1)) > (wrap64 ((wrap64 (a0 + 1)) + (wrap64 (Int.tdiv (ji16) 2)))) then (turnbuckleref03_Grow.j1 kj3 ji16 (wrap64 ((wrap64 ((wrap64 ((wrap64 (a0 + 1)) - (Int.tmod (wrap64 (a0 + 1)) (ji16)))) + a1)) - (ji16)))) else (turnbuckleref03_Grow.j1 kj3 ji16 (wrap64 ((wrap64 ((wrap64 (a0 + 1)) - (Int.tmod (wrap64 (a0 + 1)) (ji16)))) + a1)))))) = some (r1, r2) := by first | (rw [hji16] at H; exact H) | (simp only [hji16] at H ⊢; exact H)
          have hji16_ : (IntKind.i64.wrap (1 * 2 ^ min (ji14).toNat 64)) = ji16 := hji16
          have hji16z : (ji14) ≤ 64 → (IntKind.i64.wrap (1 * 2 ^ (ji14).toNat)) = ji16 := shl_small hji16
          have hji16u : (IntKind.i64.wrap (2 ^ min (ji14).toNat 64)) = ji16 := by have h_ := hji16_; rw [Int.one_mul] at h_; exact h_
          have hji16v : (ji14) ≤ 64 → (IntKind.i64.wrap (2 ^ (ji14).toNat)) = ji16 := fun hle_ => by have h_ := hji16z hle_; rw [Int.one_mul] at h_; exact h_
          have hji16y : (wrap64 (1 * 2 ^ min (ji14).toNat 64)) = ji16 := (i64_w _).symm.trans hji16_
          have hji16x : (ji14) ≤ 64 → (wrap64 (1 * 2 ^ (ji14).toNat)) = ji16 := fun h_ => (i64_w _).symm.trans (hji16z h_)
          by_cases c17 : (ji16) = 0
          · rw [if_pos c17] at H
            exact absurd H (by simp)
          · rw [if_neg c17] at H
            have c17b0 : ((ji16) == 0) = false := beq_eq_false_iff_ne.mpr c17
            have c17b1 : ((ji16) != 0) = true := bne_iff_ne.mpr c17
            have HC18 := Aside0.mk H
            clear H
            go_upto_block 0 with (fail)
            go_cut [10] (fun v10 wc => ∃ (kq : Nat) (x10_17 : Int), v10 = .int .i64 x10_17 ∧ Aside0 (turnbuckleref03_Grow.j1 kq ji16 x10_17 = some (r1, r2)) ∧ Aside0 (kq ≤ kj3) ∧ Drawn0 w wc)
            case first =>
              have H := HC18.out
              clear HC18
              by_cases c19 : (wrap64 ((wrap64 ((wrap64 (a0 + 1)) - (Int.tmod (wrap64 (a0 + 1)) (ji16)))) + a1)) ≤ (wrap64 ((wrap64 (a0 + 1)) - (wrap64 (Int.tdiv (ji16) 2))))
              · rw [if_pos c19] at H
                have c19b0 : decide ((wrap64 ((wrap64 ((wrap64 (a0 + 1)) - (Int.tmod (wrap64 (a0 + 1)) (ji16)))) + a1)) ≤ (wrap64 ((wrap64 (a0 + 1)) - (wrap64 (Int.tdiv (ji16) 2))))) = true := decide_eq_true c19
                clear c19
                (first | rw [c19b0] | (simp only [i64_w, i32_w]; rw [c19b0]) | skip)
                have H' := Aside0.mk H
                clear H
                go_wp2
                go_meet
                case rel => exact ⟨_, (wrap64 ((wrap64 ((wrap64 ((wrap64 (a0 + 1)) - (Int.tmod (wrap64 (a0 + 1)) (ji16)))) + a1)) + (ji16))), (by first | rfl | (simp; done) | (simp only [← hji16] <;> (first | rfl | simp)) | (simp [*]; done)), H', ⟨by have := HJ3.out; first | omega | exact Nat.le_refl _⟩, by repeat (first | exact Drawn0.refl _ | apply Drawn0.step)⟩
              · rw [if_neg c19] at H
                have c19b0 : decide ((wrap64 ((wrap64 ((wrap64 (a0 + 1)) - (Int.tmod (wrap64 (a0 + 1)) (ji16)))) + a1)) ≤ (wrap64 ((wrap64 (a0 + 1)) - (wrap64 (Int.tdiv (ji16) 2))))) = false := decide_eq_false c19
                clear c19
                (first | rw [c19b0] | (simp only [i64_w, i32_w]; rw [c19b0]) | skip)
                by_cases c20 : (wrap64 ((wrap64 ((wrap64 (a0 + 1)) - (Int.tmod (wrap64 (a0 + 1)) (ji16)))) + a1)) > (wrap64 ((wrap64 (a0 + 1)) + (wrap64 (Int.tdiv (ji16) 2))))
                · rw [if_pos c20] at H
                  have c20b0 : decide ((wrap64 ((wrap64 (a0 + 1)) + (wrap64 (Int.tdiv (ji16) 2)))) < (wrap64 ((wrap64 ((wrap64 (a0 + 1)) - (Int.tmod (wrap64 (a0 + 1)) (ji16)))) + a1))) = true := decide_eq_true c20
                  clear c20
                  have H' := Aside0.mk H
                  clear H
                  go_wp2
                  go_meet
                  case rel => exact ⟨_, (wrap64 ((wrap64 ((wrap64 ((wrap64 (a0 + 1)) - (Int.tmod (wrap64 (a0 + 1)) (ji16)))) + a1)) - (ji16))), (by first | rfl | (simp; done) | (simp only [← hji16] <;> (first | rfl | simp)) | (simp [*]; done)), H', ⟨by have := HJ3.out; first | omega | exact Nat.le_refl _⟩, by repeat (first | exact Drawn0.refl _ | apply Drawn0.step)⟩
                · rw [if_neg c20] at H
                  have c20b0 : decide ((wrap64 ((wrap64 (a0 + 1)) + (wrap64 (Int.tdiv (ji16) 2)))) < (wrap64 ((wrap64 ((wrap64 (a0 + 1)) - (Int.tmod (wrap64 (a0 + 1)) (ji16)))) + a1))) = false := decide_eq_false c20
                  clear c20
                  have H' := Aside0.mk H
                  clear H
                  go_wp2
                  go_meet
                  case rel => exact ⟨_, (wrap64 ((wrap64 ((wrap64 (a0 + 1)) - (Int.tmod (wrap64 (a0 + 1)) (ji16)))) + a1)), (by first | rfl | (simp; done) | (simp only [← hji16] <;> (first | rfl | simp)) | (simp [*]; done)), H', ⟨by have := HJ3.out; first | omega | exact Nat.le_refl _⟩, by repeat (first | exact Drawn0.refl _ | apply Drawn0.step)⟩
            case rest =>
              clear HC18
              try clear c1
              try clear c2
              try clear p2
              try clear c3
              try clear c5
              try clear c5b0
              try clear c6
              try clear c6b0
              try clear p6
              try clear c7
              try clear c7b0
              try clear c8
              try clear c8b0
              try clear c9
              try clear c9b0
              try clear c11
              try clear c11b0
              try clear c11b1
              try clear c13
              try clear c15
              try clear c15b0
              try clear c15b1
              try clear c17
              try clear c17b0
              try clear c17b1
              try clear c19
              try clear c19b0
              try clear c20
              try clear c20b0
              try clear p2
              try clear p6
              obtain ⟨kq, x10_17, rfl, HA, HJ17, ⟨mc17, rfl⟩⟩ := hcut
              cases kq with
              | zero => exact absurd HA.out (by simp [turnbuckleref03_Grow.j1])
              | succ kj17 =>
                have H := HA.out
                clear HA
                simp only [turnbuckleref03_Grow.j1] at H
                by_cases c21 : x10_17 < 0
                · rw [if_pos c21] at H
                  have c21b0 : decide (x10_17 < 0) = true := decide_eq_true c21
                  clear c21
                  by_cases c22 : (wrap64 (x10_17 + ji16)) > 4611686018427387903
                  · rw [if_pos c22] at H
                    have c22b0 : decide (4611686018427387903 < (wrap64 (x10_17 + ji16))) = true := decide_eq_true c22
                    clear c22
                    simp only [Option.some.injEq, Prod.mk.injEq] at H
                    obtain ⟨rfl, rfl⟩ := H
                    go_wp2
                    go_ret2
                    exact ⟨by first | rfl | (simp; done) | (simp only [← hji14, ← hji16] <;> (first | rfl | simp)) | (simp [*]; done), by repeat (first | exact Drawn0.refl _ | apply Drawn0.step)⟩
                  · rw [if_neg c22] at H
                    have c22b0 : decide (4611686018427387903 < (wrap64 (x10_17 + ji16))) = false := decide_eq_false c22
                    clear c22
                    simp only [Option.some.injEq, Prod.mk.injEq] at H
                    obtain ⟨rfl, rfl⟩ := H
                    go_wp2
                    go_ret2
                    exact ⟨by first | rfl | (simp; done) | (simp only [← hji14, ← hji16] <;> (first | rfl | simp)) | (simp [*]; done), by repeat (first | exact Drawn0.refl _ | apply Drawn0.step)⟩
                · rw [if_neg c21] at H
                  have c21b0 : decide (x10_17 < 0) = false := decide_eq_false c21
                  clear c21
                  by_cases c23 : x10_17 > 4611686018427387903
                  · rw [if_pos c23] at H
                    have c23b0 : decide (4611686018427387903 < x10_17) = true := decide_eq_true c23
                    clear c23
                    simp only [Option.some.injEq, Prod.mk.injEq] at H
                    obtain ⟨rfl, rfl⟩ := H
                    go_wp2
                    go_ret2
                    exact ⟨by first | rfl | (simp; done) | (simp only [← hji14, ← hji16] <;> (first | rfl | simp)) | (simp [*]; done), by repeat (first | exact Drawn0.refl _ | apply Drawn0.step)⟩
                  · rw [if_neg c23] at H
                    have c23b0 : decide (4611686018427387903 < x10_17) = false := decide_eq_false c23
                    clear c23
                    simp only [Option.some.injEq, Prod.mk.injEq] at H
                    obtain ⟨rfl, rfl⟩ := H
                    go_wp2
                    go_ret2
                    exact ⟨by first | rfl | (simp; done) | (simp only [← hji14, ← hji16] <;> (first | rfl | simp)) | (simp [*]; done), by repeat (first | exact Drawn0.refl _ | apply Drawn0.step)⟩
        · rw [if_neg c15] at H
          exact absurd H (by simp)

/-! ### pnum_Cut: function 11 -/
def pnum_Cut.f (a0 : Int) (a1 : Int) : Option (Int × Int) := (pnum_isNumber.f a0).bind fun t103 => (if t103 = true then ((pnum_row.f a1).bind fun t104 => (if t104 = 0 then (some (0, 1)) else ((pnum_row.f a1).bind fun t105 => (some (Go.bits .and .i64 a0 (wrap64 (t105 - 1)), 0))))) else (some (0, 1)))
set_option maxHeartbeats 8000000 in
set_option maxRecDepth 100000 in
theorem pnum_Cut.calls (a0 : Int) (a1 : Int) (r1 : Int) (r2 : Int) (w : World) (h : pnum_Cut.f a0 a1 = some (r1, r2)) :
    Calls Try.prog 11 #[.int .i64 a0, .int .i64 a1] w fun e w' => e = .returned (.tuple #[.int .i64 r1, .int .i64 r2]) ∧ Drawn0 w w' := by
  have H : ((pnum_isNumber.f a0).bind fun t103 => (if t103 = true then ((pnum_row.f a1).bind fun t104 => (if t104 = 0 then (some (0, 1)) else ((pnum_row.f a1).bind fun t105 => (some (Go.bits .and .i64 a0 (wrap64 (t105 - 1)), 0))))) else (some (0, 1)))) = some (r1, r2) := h
  clear h
  replace H := Option.bind_eq_some_iff.mp H
  obtain ⟨t103, A30, H⟩ := H
  replace H : (if t103 = true then ((pnum_row.f a1).bind fun t104 => (if t104 = 0 then (some (0, 1)) else ((pnum_row.f a1).bind fun t105 => (some (Go.bits .and .i64 a0 (wrap64 (t105 - 1)), 0))))) else (some (0, 1))) = some (r1, r2) := H
  have A3 := Aside0.mk A30
  clear A30
  by_cases c4 : t103 = true
  · subst c4
    have H1 : ((pnum_row.f a1).bind fun t104 => (if t104 = 0 then (some (0, 1)) else ((pnum_row.f a1).bind fun t105 => (some (Go.bits .and .i64 a0 (wrap64 (t105 - 1)), 0))))) = some (r1, r2) := by rw [if_pos rfl] at H; exact H
    clear H
    have H := H1
    clear H1
    replace H := Option.bind_eq_some_iff.mp H
    obtain ⟨t104, A50, H⟩ := H
    replace H : (if t104 = 0 then (some (0, 1)) else ((pnum_row.f a1).bind fun t105 => (some (Go.bits .and .i64 a0 (wrap64 (t105 - 1)), 0)))) = some (r1, r2) := H
    have A5 := Aside0.mk A50
    clear A50
    by_cases c6 : t104 = 0
    · rw [if_pos c6] at H
      have c6b0 : (t104 == 0) = true := beq_iff_eq.mpr c6
      have c6b1 : (t104 != 0) = false := bne_eq_false_iff_eq.mpr c6
      clear c6
      simp only [Option.some.injEq, Prod.mk.injEq] at H
      obtain ⟨rfl, rfl⟩ := H
      go_enter Try.func11, Try.ntmps11
      go_wp2_with (first | ((with_reducible refine gate_callee (f := 16) rfl ?_); refine goesL_ (some 7) rfl rfl Try.func16 (by kernel_rfl) rfl #[.int .i64 a0] rfl (by (try simp only [List.map_toArray, List.map_cons, List.map_nil]); first | done | rfl | (simp only [List.length_drop, List.length_take]; rfl)) ?_; (with_reducible refine (pnum_isNumber.calls a0 true _ A3.out).mono ?_); rintro e w' ⟨rfl, ⟨nd, rfl⟩⟩; refine ⟨_, rfl, ?_⟩) | (go_at_call 15; (with_reducible refine (pnum_row.calls a1 t104 _ A5.out).mono ?_); rintro e w' ⟨rfl, ⟨nd, rfl⟩⟩))
      go_ret2
      exact ⟨by first | rfl | (simp; done) | (simp [*]; done), by repeat (first | exact Drawn0.refl _ | apply Drawn0.step)⟩
    · rw [if_neg c6] at H
      have c6b0 : (t104 == 0) = false := beq_eq_false_iff_ne.mpr c6
      have c6b1 : (t104 != 0) = true := bne_iff_ne.mpr c6
      replace H := Option.bind_eq_some_iff.mp H
      obtain ⟨t105, A70, H⟩ := H
      replace H : (some (Go.bits .and .i64 a0 (wrap64 (t105 - 1)), 0)) = some (r1, r2) := H
      have A7 := Aside0.mk A70
      clear A70
      simp only [Option.some.injEq, Prod.mk.injEq] at H
      obtain ⟨rfl, rfl⟩ := H
      go_enter Try.func11, Try.ntmps11
      go_wp2_with (first | ((with_reducible refine gate_callee (f := 16) rfl ?_); refine goesL_ (some 7) rfl rfl Try.func16 (by kernel_rfl) rfl #[.int .i64 a0] rfl (by (try simp only [List.map_toArray, List.map_cons, List.map_nil]); first | done | rfl | (simp only [List.length_drop, List.length_take]; rfl)) ?_; (with_reducible refine (pnum_isNumber.calls a0 true _ A3.out).mono ?_); rintro e w' ⟨rfl, ⟨nd, rfl⟩⟩; refine ⟨_, rfl, ?_⟩) | (go_at_call 15; (with_reducible refine (pnum_row.calls a1 t104 _ A5.out).mono ?_); rintro e w' ⟨rfl, ⟨nd, rfl⟩⟩) | ((with_reducible refine gate_callee (f := 15) rfl ?_); refine goesL_ (some 16) rfl rfl Try.func15 (by kernel_rfl) rfl #[.int .i64 a1] rfl (by (try simp only [List.map_toArray, List.map_cons, List.map_nil]); first | done | rfl | (simp only [List.length_drop, List.length_take]; rfl)) ?_; (with_reducible refine (pnum_row.calls a1 t105 _ A7.out).mono ?_); rintro e w' ⟨rfl, ⟨nd, rfl⟩⟩; refine ⟨_, rfl, ?_⟩))
      go_ret2
      exact ⟨by first | rfl | (simp; done) | (simp [*]; done), by repeat (first | exact Drawn0.refl _ | apply Drawn0.step)⟩
  · replace c4 := Bool.eq_false_iff.mpr c4
    subst c4
    have H1 : (some (0, 1)) = some (r1, r2) := by rw [if_neg (show ¬ (false = true) by decide)] at H; exact H
    clear H
    have H := H1
    clear H1
    simp only [Option.some.injEq, Prod.mk.injEq] at H
    obtain ⟨rfl, rfl⟩ := H
    go_enter Try.func11, Try.ntmps11
    go_wp2_with (first | ((with_reducible refine gate_callee (f := 16) rfl ?_); refine goesL_ (some 7) rfl rfl Try.func16 (by kernel_rfl) rfl #[.int .i64 a0] rfl (by (try simp only [List.map_toArray, List.map_cons, List.map_nil]); first | done | rfl | (simp only [List.length_drop, List.length_take]; rfl)) ?_; (with_reducible refine (pnum_isNumber.calls a0 false _ A3.out).mono ?_); rintro e w' ⟨rfl, ⟨nd, rfl⟩⟩; refine ⟨_, rfl, ?_⟩))
    go_ret2
    exact ⟨by first | rfl | (simp; done) | (simp [*]; done), by repeat (first | exact Drawn0.refl _ | apply Drawn0.step)⟩

/-! ### turnbucklelaw03_alive: function 10 -/
def turnbucklelaw03_alive.f (k : Nat)  : Option (Bool) := (pnum_Grow.f k 2821665002 39730 2).bind fun bt106 => ((pnum_Cut.f 2821692210 2).bind fun bt108 => (if bt106.2 = 0 then (if bt106.1 = 2821692210 then (if bt108.2 = 0 then (some (bt108.1 == 39730)) else (some false)) else (some false)) else (some false)))
theorem turnbucklelaw03_alive.mono : ∀ k, LeO (turnbucklelaw03_alive.f k ) (turnbucklelaw03_alive.f (k + 1) ) := by
  intro  k
  unfold turnbucklelaw03_alive.f
  repeat' first
      | (with_reducible exact pnum_Grow.mono _ _ _ _)
      | (with_reducible exact LeO.refl _)
      | (with_reducible exact LeO.none _)
      | (with_reducible refine LeO.ite ?_ ?_)
      | (with_reducible refine LeO.bind ?_ (fun _ => ?_))
      | exact pnum_Grow.mono _ _ _ _
      | exact LeO.none _
      | refine LeO.ite ?_ ?_
      | refine LeO.bind ?_ (fun _ => ?_)
set_option maxHeartbeats 8000000 in
set_option maxRecDepth 100000 in
theorem turnbucklelaw03_alive.calls (k : Nat)  (r : Bool) (w : World) (h : turnbucklelaw03_alive.f k  = some r) :
    Calls Try.prog 10 #[] w fun e w' => e = .returned (.bool r) ∧ Drawn0 w w' := by
  have H : ((pnum_Grow.f k 2821665002 39730 2).bind fun bt106 => ((pnum_Cut.f 2821692210 2).bind fun bt108 => (if bt106.2 = 0 then (if bt106.1 = 2821692210 then (if bt108.2 = 0 then (some (bt108.1 == 39730)) else (some false)) else (some false)) else (some false)))) = some r := h
  clear h
  replace H := Option.bind_eq_some_iff.mp H
  obtain ⟨⟨t106, t107⟩, A10, H⟩ := H
  replace H : ((pnum_Cut.f 2821692210 2).bind fun bt108 => (if t107 = 0 then (if t106 = 2821692210 then (if bt108.2 = 0 then (some (bt108.1 == 39730)) else (some false)) else (some false)) else (some false))) = some r := H
  have A1 := Aside0.mk A10
  clear A10
  replace H := Option.bind_eq_some_iff.mp H
  obtain ⟨⟨t108, t109⟩, A20, H⟩ := H
  replace H : (if t107 = 0 then (if t106 = 2821692210 then (if t109 = 0 then (some (t108 == 39730)) else (some false)) else (some false)) else (some false)) = some r := H
  have A2 := Aside0.mk A20
  clear A20
  by_cases c3 : t107 = 0
  · rw [if_pos c3] at H
    have c3b0 : (t107 == 0) = true := beq_iff_eq.mpr c3
    have c3b1 : (t107 != 0) = false := bne_eq_false_iff_eq.mpr c3
    clear c3
    by_cases c4 : t106 = 2821692210
    · rw [if_pos c4] at H
      have c4b0 : (t106 == 2821692210) = true := beq_iff_eq.mpr c4
      have c4b1 : (t106 != 2821692210) = false := bne_eq_false_iff_eq.mpr c4
      clear c4
      by_cases c5 : t109 = 0
      · rw [if_pos c5] at H
        have c5b0 : (t109 == 0) = true := beq_iff_eq.mpr c5
        have c5b1 : (t109 != 0) = false := bne_eq_false_iff_eq.mpr c5
        clear c5
        obtain rfl := Option.some.inj H
        go_enter Try.func10, Try.ntmps10
        go_wp2_with (first | ((with_reducible refine gate_callee (f := 8) rfl ?_); refine goesL_ (some 6) rfl rfl Try.func8 (by kernel_rfl) rfl #[.int .i64 2821665002, .int .i64 39730, .int .i64 2] rfl (by (try simp only [List.map_toArray, List.map_cons, List.map_nil]); first | done | rfl | (simp only [List.length_drop, List.length_take]; rfl)) ?_; (with_reducible refine (pnum_Grow.calls k 2821665002 39730 2 t106 t107 _ A1.out).mono ?_); rintro e w' ⟨rfl, ⟨nd, rfl⟩⟩; refine ⟨_, rfl, ?_⟩) | ((with_reducible refine gate_callee (f := 11) rfl ?_); refine goesL_ (some 10) rfl rfl Try.func11 (by kernel_rfl) rfl #[.int .i64 2821692210, .int .i64 2] rfl (by (try simp only [List.map_toArray, List.map_cons, List.map_nil]); first | done | rfl | (simp only [List.length_drop, List.length_take]; rfl)) ?_; (with_reducible refine (pnum_Cut.calls 2821692210 2 t108 t109 _ A2.out).mono ?_); rintro e w' ⟨rfl, ⟨nd, rfl⟩⟩; refine ⟨_, rfl, ?_⟩))
        go_ret
        exact ⟨by first | rfl | (simp; done) | (simp [*]; done), by repeat (first | exact Drawn0.refl _ | apply Drawn0.step)⟩
      · rw [if_neg c5] at H
        have c5b0 : (t109 == 0) = false := beq_eq_false_iff_ne.mpr c5
        have c5b1 : (t109 != 0) = true := bne_iff_ne.mpr c5
        obtain rfl := Option.some.inj H
        go_enter Try.func10, Try.ntmps10
        go_wp2_with (first | ((with_reducible refine gate_callee (f := 8) rfl ?_); refine goesL_ (some 6) rfl rfl Try.func8 (by kernel_rfl) rfl #[.int .i64 2821665002, .int .i64 39730, .int .i64 2] rfl (by (try simp only [List.map_toArray, List.map_cons, List.map_nil]); first | done | rfl | (simp only [List.length_drop, List.length_take]; rfl)) ?_; (with_reducible refine (pnum_Grow.calls k 2821665002 39730 2 t106 t107 _ A1.out).mono ?_); rintro e w' ⟨rfl, ⟨nd, rfl⟩⟩; refine ⟨_, rfl, ?_⟩) | ((with_reducible refine gate_callee (f := 11) rfl ?_); refine goesL_ (some 10) rfl rfl Try.func11 (by kernel_rfl) rfl #[.int .i64 2821692210, .int .i64 2] rfl (by (try simp only [List.map_toArray, List.map_cons, List.map_nil]); first | done | rfl | (simp only [List.length_drop, List.length_take]; rfl)) ?_; (with_reducible refine (pnum_Cut.calls 2821692210 2 t108 t109 _ A2.out).mono ?_); rintro e w' ⟨rfl, ⟨nd, rfl⟩⟩; refine ⟨_, rfl, ?_⟩))
        go_ret
        exact ⟨by first | rfl | (simp; done) | (simp [*]; done), by repeat (first | exact Drawn0.refl _ | apply Drawn0.step)⟩
    · rw [if_neg c4] at H
      have c4b0 : (t106 == 2821692210) = false := beq_eq_false_iff_ne.mpr c4
      have c4b1 : (t106 != 2821692210) = true := bne_iff_ne.mpr c4
      obtain rfl := Option.some.inj H
      go_enter Try.func10, Try.ntmps10
      go_wp2_with (first | ((with_reducible refine gate_callee (f := 8) rfl ?_); refine goesL_ (some 6) rfl rfl Try.func8 (by kernel_rfl) rfl #[.int .i64 2821665002, .int .i64 39730, .int .i64 2] rfl (by (try simp only [List.map_toArray, List.map_cons, List.map_nil]); first | done | rfl | (simp only [List.length_drop, List.length_take]; rfl)) ?_; (with_reducible refine (pnum_Grow.calls k 2821665002 39730 2 t106 t107 _ A1.out).mono ?_); rintro e w' ⟨rfl, ⟨nd, rfl⟩⟩; refine ⟨_, rfl, ?_⟩) | ((with_reducible refine gate_callee (f := 11) rfl ?_); refine goesL_ (some 10) rfl rfl Try.func11 (by kernel_rfl) rfl #[.int .i64 2821692210, .int .i64 2] rfl (by (try simp only [List.map_toArray, List.map_cons, List.map_nil]); first | done | rfl | (simp only [List.length_drop, List.length_take]; rfl)) ?_; (with_reducible refine (pnum_Cut.calls 2821692210 2 t108 t109 _ A2.out).mono ?_); rintro e w' ⟨rfl, ⟨nd, rfl⟩⟩; refine ⟨_, rfl, ?_⟩))
      go_ret
      exact ⟨by first | rfl | (simp; done) | (simp [*]; done), by repeat (first | exact Drawn0.refl _ | apply Drawn0.step)⟩
  · rw [if_neg c3] at H
    have c3b0 : (t107 == 0) = false := beq_eq_false_iff_ne.mpr c3
    have c3b1 : (t107 != 0) = true := bne_iff_ne.mpr c3
    obtain rfl := Option.some.inj H
    go_enter Try.func10, Try.ntmps10
    go_wp2_with (first | ((with_reducible refine gate_callee (f := 8) rfl ?_); refine goesL_ (some 6) rfl rfl Try.func8 (by kernel_rfl) rfl #[.int .i64 2821665002, .int .i64 39730, .int .i64 2] rfl (by (try simp only [List.map_toArray, List.map_cons, List.map_nil]); first | done | rfl | (simp only [List.length_drop, List.length_take]; rfl)) ?_; (with_reducible refine (pnum_Grow.calls k 2821665002 39730 2 t106 t107 _ A1.out).mono ?_); rintro e w' ⟨rfl, ⟨nd, rfl⟩⟩; refine ⟨_, rfl, ?_⟩) | ((with_reducible refine gate_callee (f := 11) rfl ?_); refine goesL_ (some 10) rfl rfl Try.func11 (by kernel_rfl) rfl #[.int .i64 2821692210, .int .i64 2] rfl (by (try simp only [List.map_toArray, List.map_cons, List.map_nil]); first | done | rfl | (simp only [List.length_drop, List.length_take]; rfl)) ?_; (with_reducible refine (pnum_Cut.calls 2821692210 2 t108 t109 _ A2.out).mono ?_); rintro e w' ⟨rfl, ⟨nd, rfl⟩⟩; refine ⟨_, rfl, ?_⟩))
    go_ret
    exact ⟨by first | rfl | (simp; done) | (simp [*]; done), by repeat (first | exact Drawn0.refl _ | apply Drawn0.step)⟩

/-! ### turnbucklelaw03_PnumGrows: function 3 -/
def turnbucklelaw03_PnumGrows.f (k : Nat) (a0 : Int) (a1 : Int) (a2 : Int) : Option (Bool) := (pnum_Grow.f k a0 a1 a2).bind fun bt110 => ((turnbuckleref03_Grow.f k a0 a1 a2).bind fun bt112 => (if bt110.1 = bt112.1 then (if bt110.2 = bt112.2 then ((turnbucklelaw03_alive.f k).bind fun t114 => (some t114)) else (some false)) else (some false)))
theorem turnbucklelaw03_PnumGrows.mono : ∀ a0 a1 a2 k, LeO (turnbucklelaw03_PnumGrows.f k a0 a1 a2) (turnbucklelaw03_PnumGrows.f (k + 1) a0 a1 a2) := by
  intro a0 a1 a2 k
  unfold turnbucklelaw03_PnumGrows.f
  repeat' first
      | (with_reducible exact pnum_Grow.mono _ _ _ _)
      | (with_reducible exact turnbucklelaw03_alive.mono _)
      | (with_reducible exact turnbuckleref03_Grow.mono _ _ _ _)
      | (with_reducible exact LeO.refl _)
      | (with_reducible exact LeO.none _)
      | (with_reducible refine LeO.ite ?_ ?_)
      | (with_reducible refine LeO.bind ?_ (fun _ => ?_))
      | exact pnum_Grow.mono _ _ _ _
      | exact turnbucklelaw03_alive.mono _
      | exact turnbuckleref03_Grow.mono _ _ _ _
      | exact LeO.none _
      | refine LeO.ite ?_ ?_
      | refine LeO.bind ?_ (fun _ => ?_)
set_option maxHeartbeats 8000000 in
set_option maxRecDepth 100000 in
theorem turnbucklelaw03_PnumGrows.calls (k : Nat) (a0 : Int) (a1 : Int) (a2 : Int) (r : Bool) (w : World) (h : turnbucklelaw03_PnumGrows.f k a0 a1 a2 = some r) :
    Calls Try.prog 3 #[.int .i64 a0, .int .i64 a1, .int .i64 a2] w fun e w' => e = .returned (.bool r) ∧ Drawn0 w w' := by
  have H : ((pnum_Grow.f k a0 a1 a2).bind fun bt110 => ((turnbuckleref03_Grow.f k a0 a1 a2).bind fun bt112 => (if bt110.1 = bt112.1 then (if bt110.2 = bt112.2 then ((turnbucklelaw03_alive.f k).bind fun t114 => (some t114)) else (some false)) else (some false)))) = some r := h
  clear h
  replace H := Option.bind_eq_some_iff.mp H
  obtain ⟨⟨t110, t111⟩, A40, H⟩ := H
  replace H : ((turnbuckleref03_Grow.f k a0 a1 a2).bind fun bt112 => (if t110 = bt112.1 then (if t111 = bt112.2 then ((turnbucklelaw03_alive.f k).bind fun t114 => (some t114)) else (some false)) else (some false))) = some r := H
  have A4 := Aside0.mk A40
  clear A40
  replace H := Option.bind_eq_some_iff.mp H
  obtain ⟨⟨t112, t113⟩, A50, H⟩ := H
  replace H : (if t110 = t112 then (if t111 = t113 then ((turnbucklelaw03_alive.f k).bind fun t114 => (some t114)) else (some false)) else (some false)) = some r := H
  have A5 := Aside0.mk A50
  clear A50
  by_cases c6 : t110 = t112
  · rw [if_pos c6] at H
    have c6b0 : (t110 == t112) = true := beq_iff_eq.mpr c6
    have c6b1 : (t110 != t112) = false := bne_eq_false_iff_eq.mpr c6
    clear c6
    by_cases c7 : t111 = t113
    · rw [if_pos c7] at H
      have c7b0 : (t111 == t113) = true := beq_iff_eq.mpr c7
      have c7b1 : (t111 != t113) = false := bne_eq_false_iff_eq.mpr c7
      clear c7
      replace H := Option.bind_eq_some_iff.mp H
      obtain ⟨t114, A80, H⟩ := H
      replace H : (some t114) = some r := H
      have A8 := Aside0.mk A80
      clear A80
      obtain rfl := Option.some.inj H
      go_enter Try.func3, Try.ntmps3
      go_wp2_with (first | ((with_reducible refine gate_callee (f := 8) rfl ?_); refine goesL_ (some 15) rfl rfl Try.func8 (by kernel_rfl) rfl #[.int .i64 a0, .int .i64 a1, .int .i64 a2] rfl (by (try simp only [List.map_toArray, List.map_cons, List.map_nil]); first | done | rfl | (simp only [List.length_drop, List.length_take]; rfl)) ?_; (with_reducible refine (pnum_Grow.calls k a0 a1 a2 t110 t111 _ A4.out).mono ?_); rintro e w' ⟨rfl, ⟨nd, rfl⟩⟩; refine ⟨_, rfl, ?_⟩) | ((with_reducible refine gate_callee (f := 9) rfl ?_); refine goesL_ (some 22) rfl rfl Try.func9 (by kernel_rfl) rfl #[.int .i64 a0, .int .i64 a1, .int .i64 a2] rfl (by (try simp only [List.map_toArray, List.map_cons, List.map_nil]); first | done | rfl | (simp only [List.length_drop, List.length_take]; rfl)) ?_; (with_reducible refine (turnbuckleref03_Grow.calls k a0 a1 a2 t112 t113 _ A5.out).mono ?_); rintro e w' ⟨rfl, ⟨nd, rfl⟩⟩; refine ⟨_, rfl, ?_⟩) | (go_at_call 10; (with_reducible refine (turnbucklelaw03_alive.calls k  t114 _ A8.out).mono ?_); rintro e w' ⟨rfl, ⟨nd, rfl⟩⟩))
      go_ret
      exact ⟨by first | rfl | (simp; done) | (simp [*]; done), by repeat (first | exact Drawn0.refl _ | apply Drawn0.step)⟩
    · rw [if_neg c7] at H
      have c7b0 : (t111 == t113) = false := beq_eq_false_iff_ne.mpr c7
      have c7b1 : (t111 != t113) = true := bne_iff_ne.mpr c7
      obtain rfl := Option.some.inj H
      go_enter Try.func3, Try.ntmps3
      go_wp2_with (first | ((with_reducible refine gate_callee (f := 8) rfl ?_); refine goesL_ (some 15) rfl rfl Try.func8 (by kernel_rfl) rfl #[.int .i64 a0, .int .i64 a1, .int .i64 a2] rfl (by (try simp only [List.map_toArray, List.map_cons, List.map_nil]); first | done | rfl | (simp only [List.length_drop, List.length_take]; rfl)) ?_; (with_reducible refine (pnum_Grow.calls k a0 a1 a2 t110 t111 _ A4.out).mono ?_); rintro e w' ⟨rfl, ⟨nd, rfl⟩⟩; refine ⟨_, rfl, ?_⟩) | ((with_reducible refine gate_callee (f := 9) rfl ?_); refine goesL_ (some 22) rfl rfl Try.func9 (by kernel_rfl) rfl #[.int .i64 a0, .int .i64 a1, .int .i64 a2] rfl (by (try simp only [List.map_toArray, List.map_cons, List.map_nil]); first | done | rfl | (simp only [List.length_drop, List.length_take]; rfl)) ?_; (with_reducible refine (turnbuckleref03_Grow.calls k a0 a1 a2 t112 t113 _ A5.out).mono ?_); rintro e w' ⟨rfl, ⟨nd, rfl⟩⟩; refine ⟨_, rfl, ?_⟩))
      go_ret
      exact ⟨by first | rfl | (simp; done) | (simp [*]; done), by repeat (first | exact Drawn0.refl _ | apply Drawn0.step)⟩
  · rw [if_neg c6] at H
    have c6b0 : (t110 == t112) = false := beq_eq_false_iff_ne.mpr c6
    have c6b1 : (t110 != t112) = true := bne_iff_ne.mpr c6
    obtain rfl := Option.some.inj H
    go_enter Try.func3, Try.ntmps3
    go_wp2_with (first | ((with_reducible refine gate_callee (f := 8) rfl ?_); refine goesL_ (some 15) rfl rfl Try.func8 (by kernel_rfl) rfl #[.int .i64 a0, .int .i64 a1, .int .i64 a2] rfl (by (try simp only [List.map_toArray, List.map_cons, List.map_nil]); first | done | rfl | (simp only [List.length_drop, List.length_take]; rfl)) ?_; (with_reducible refine (pnum_Grow.calls k a0 a1 a2 t110 t111 _ A4.out).mono ?_); rintro e w' ⟨rfl, ⟨nd, rfl⟩⟩; refine ⟨_, rfl, ?_⟩) | ((with_reducible refine gate_callee (f := 9) rfl ?_); refine goesL_ (some 22) rfl rfl Try.func9 (by kernel_rfl) rfl #[.int .i64 a0, .int .i64 a1, .int .i64 a2] rfl (by (try simp only [List.map_toArray, List.map_cons, List.map_nil]); first | done | rfl | (simp only [List.length_drop, List.length_take]; rfl)) ?_; (with_reducible refine (turnbuckleref03_Grow.calls k a0 a1 a2 t112 t113 _ A5.out).mono ?_); rintro e w' ⟨rfl, ⟨nd, rfl⟩⟩; refine ⟨_, rfl, ?_⟩))
    go_ret
    exact ⟨by first | rfl | (simp; done) | (simp [*]; done), by repeat (first | exact Drawn0.refl _ | apply Drawn0.step)⟩

/-- THE ONE PURE STATEMENT of turnbucklelaw03_PnumGrows: yours. -/
def turnbucklelaw03_PnumGrows.Pure : Prop := ∀ (a0 : Int) (a1 : Int) (a2 : Int), (Lit.int .i64 a0).wf = true → (Lit.int .i64 a1).wf = true → (Lit.int .i64 a2).wf = true → ∃ k, turnbucklelaw03_PnumGrows.f k a0 a1 a2 = some true
theorem turnbucklelaw03_PnumGrows.walk (P : turnbucklelaw03_PnumGrows.Pure) (a0 : Int) (a1 : Int) (a2 : Int) (w : World) (w0 : (Lit.int .i64 a0).wf = true) (w1 : (Lit.int .i64 a1).wf = true) (w2 : (Lit.int .i64 a2).wf = true) :
    Calls Try.prog 3 #[.int .i64 a0, .int .i64 a1, .int .i64 a2] w fun e w' => e = .returned (.bool true) ∧ Below w.heap.size w w' := by
  obtain ⟨k, h⟩ := P a0 a1 a2 w0 w1 w2
  refine (turnbucklelaw03_PnumGrows.calls k a0 a1 a2 true w h).mono ?_
  rintro e w' ⟨rfl, hd⟩
  exact ⟨rfl, hd.below⟩

end Go.Proofs.Ytcaagfbbpkjhlaa.PPnumGrows
