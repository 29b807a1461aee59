-- written by a program for this claim
import Derived.Test.YtgcefofmfeghmaaGx0
import Derived.Test.YtgcefofmfeghmaaGxf30
namespace Go.Proofs.Ytgcefofmfeghmaa.G
open Go.RowKit Go.Proofs.YtgcefofmfeghmaaW.PrintWords Go.Proofs.YtgcefofmfeghmaaW.PrintLast Go.Proofs.YtgcefofmfeghmaaW.PrintMore
attribute [local go_sem] max2_int min2_int max_two min_two max_three min_three max_four min_four   -- for this text's walks alone
set_option linter.unusedVariables false
set_option linter.unusedSimpArgs false

/-! ### turnbuckleref12_Fields: function 24 -/
mutual
def turnbuckleref12_Fields.l0 : Nat → List Int → Int → Option (List Int)
  | 0, _, _ => none
  | k + 1, x1, x2 => if x2 < 256 then ((turnbuckleref12_among.f k (⟨#[97, 99, 101, 105, 110, 111, 114, 115, 116, 47, 45, 46, 48, 49, 50]⟩ : ByteArray) ((x2) % 256)).bind fun t280 => (if t280 = true then (if x1.length < 17592186044416 then (turnbuckleref12_Fields.l0 k (x1 ++ [5]) (wrap64 (x2 + 1))) else (none)) else (if ((x2) % 256) ≥ 97 then (if ((x2) % 256) ≤ 122 then (turnbuckleref12_Fields.j1 k x1 x2 ((x2) % 256) true) else (if ((x2) % 256) ≥ 48 then (if ((x2) % 256) ≤ 57 then (turnbuckleref12_Fields.j1 k x1 x2 ((x2) % 256) true) else ((turnbuckleref12_among.f k (⟨#[32, 58, 59, 61, 44, 37, 95, 42, 34, 63, 38, 43]⟩ : ByteArray) ((x2) % 256)).bind fun t284 => (turnbuckleref12_Fields.j1 k x1 x2 ((x2) % 256) t284))) else ((turnbuckleref12_among.f k (⟨#[32, 58, 59, 61, 44, 37, 95, 42, 34, 63, 38, 43]⟩ : ByteArray) ((x2) % 256)).bind fun t285 => (turnbuckleref12_Fields.j1 k x1 x2 ((x2) % 256) t285)))) else (if ((x2) % 256) ≥ 48 then (if ((x2) % 256) ≤ 57 then (turnbuckleref12_Fields.j1 k x1 x2 ((x2) % 256) true) else ((turnbuckleref12_among.f k (⟨#[32, 58, 59, 61, 44, 37, 95, 42, 34, 63, 38, 43]⟩ : ByteArray) ((x2) % 256)).bind fun t286 => (turnbuckleref12_Fields.j1 k x1 x2 ((x2) % 256) t286))) else ((turnbuckleref12_among.f k (⟨#[32, 58, 59, 61, 44, 37, 95, 42, 34, 63, 38, 43]⟩ : ByteArray) ((x2) % 256)).bind fun t287 => (turnbuckleref12_Fields.j1 k x1 x2 ((x2) % 256) t287)))))) else (some x1)
def turnbuckleref12_Fields.j1 : Nat → List Int → Int → Int → Bool → Option (List Int)
  | 0, _, _, _, _ => none
  | k + 1, x1, x2, x3, x19 => if x19 = true then (if x1.length < 17592186044416 then (turnbuckleref12_Fields.l0 k (x1 ++ [7]) (wrap64 (x2 + 1))) else (none)) else (if x3 ≥ 33 then (if x3 ≤ 126 then (if x1.length < 17592186044416 then (turnbuckleref12_Fields.l0 k (x1 ++ [9]) (wrap64 (x2 + 1))) else (none)) else (if x1.length < 17592186044416 then (turnbuckleref12_Fields.l0 k (x1 ++ [13]) (wrap64 (x2 + 1))) else (none))) else (if x1.length < 17592186044416 then (turnbuckleref12_Fields.l0 k (x1 ++ [13]) (wrap64 (x2 + 1))) else (none)))
end
def turnbuckleref12_Fields.f (k : Nat)  : Option (List Int) := turnbuckleref12_Fields.l0 k ([] : List Int) 0
theorem turnbuckleref12_Fields.mono_l : ∀ k, (∀ y0 y1, LeO (turnbuckleref12_Fields.l0 k y0 y1) (turnbuckleref12_Fields.l0 (k + 1) y0 y1)) ∧ (∀ y0 y1 y2 y3, LeO (turnbuckleref12_Fields.j1 k y0 y1 y2 y3) (turnbuckleref12_Fields.j1 (k + 1) y0 y1 y2 y3))
  | 0 => ⟨fun _ _ r h => by simp [turnbuckleref12_Fields.l0] at h, fun _ _ _ _ r h => by simp [turnbuckleref12_Fields.j1] at h⟩
  | k + 1 => by
    obtain ⟨ih0, ih1⟩ := turnbuckleref12_Fields.mono_l k
    refine ⟨?_, ?_⟩
    · intro y0 y1
      unfold turnbuckleref12_Fields.l0
      repeat' first
      | (with_reducible exact ih0 _ _)
      | (with_reducible exact ih1 _ _ _ _)
      | (with_reducible exact turnbuckleref12_among.mono _ _ _)
      | (with_reducible exact LeO.refl _)
      | (with_reducible exact LeO.none _)
      | (with_reducible refine LeO.ite ?_ ?_)
      | (with_reducible refine LeO.bind ?_ (fun _ => ?_))
      | exact ih0 _ _
      | exact ih1 _ _ _ _
      | exact turnbuckleref12_among.mono _ _ _
      | exact LeO.none _
      | refine LeO.ite ?_ ?_
      | refine LeO.bind ?_ (fun _ => ?_)
    · intro y0 y1 y2 y3
      unfold turnbuckleref12_Fields.j1
      repeat' first
      | (with_reducible exact ih0 _ _)
      | (with_reducible exact ih1 _ _ _ _)
      | (with_reducible exact turnbuckleref12_among.mono _ _ _)
      | (with_reducible exact LeO.refl _)
      | (with_reducible exact LeO.none _)
      | (with_reducible refine LeO.ite ?_ ?_)
      | (with_reducible refine LeO.bind ?_ (fun _ => ?_))
      | exact ih0 _ _
      | exact ih1 _ _ _ _
      | exact turnbuckleref12_among.mono _ _ _
      | exact LeO.none _
      | refine LeO.ite ?_ ?_
      | refine LeO.bind ?_ (fun _ => ?_)
theorem turnbuckleref12_Fields.mono : ∀ k, LeO (turnbuckleref12_Fields.f k ) (turnbuckleref12_Fields.f (k + 1) ) := by
  intro  k
  obtain ⟨ih0, ih1⟩ := turnbuckleref12_Fields.mono_l k
  unfold turnbuckleref12_Fields.f
  repeat' first
      | (with_reducible exact ih0 _ _)
      | (with_reducible exact ih1 _ _ _ _)
      | (with_reducible exact turnbuckleref12_among.mono _ _ _)
      | (with_reducible exact LeO.refl _)
      | (with_reducible exact LeO.none _)
      | (with_reducible refine LeO.ite ?_ ?_)
      | (with_reducible refine LeO.bind ?_ (fun _ => ?_))
      | exact ih0 _ _
      | exact ih1 _ _ _ _
      | exact turnbuckleref12_among.mono _ _ _
      | exact LeO.none _
      | refine LeO.ite ?_ ?_
      | refine LeO.bind ?_ (fun _ => ?_)
set_option maxHeartbeats 8000000 in
set_option maxRecDepth 100000 in
theorem turnbuckleref12_Fields.calls (k : Nat)  (r : List Int) (w : World) (h : turnbuckleref12_Fields.f k  = some r) :
    Calls Try.prog 24 #[] w fun e w' => ∃ v0_ : Value, e = .returned (v0_) ∧ Kd.R (Kd.int .i64) 3 w' w.heap.size (fun _ => True) v0_ r ∧ Below w.heap.size w w' := by
  have HB := Aside0.mk (Below.refl w.heap.size w)
  have H : (turnbuckleref12_Fields.l0 k ([] : List Int) 0) = some r := h
  clear h
  have H' := Aside0.mk H
  clear H
  go_enter Try.func24, Try.ntmps24
  go_wp2
  go_loopg [1, 2] k (fun kq v1 v2 w' => ∃ (x1_1 : List Int) (x2_1 : Int), v2 = .int .i64 x2_1 ∧ Aside0 (turnbuckleref12_Fields.l0 kq x1_1 x2_1 = some r) ∧ Aside0 (kq ≤ k) ∧ Aside0 (Kd.R (Kd.int .i64) 3 w' w.heap.size (fun _ => True) v1 x1_1) ∧ Aside0 (Below w.heap.size w w'))
  case atStart => exact ⟨(([] : List Int)), (0), (by first | rfl | (simp; done) | (simp [*]; done)), H', ⟨Nat.le_refl _⟩, ⟨by first | exact Kd.R_nil _ _ _ _ _ | exact Kd.N_nil _ _ _ _ _ | exact Kd.V_nil _ _ _ _ _ | exact Kd.Q_nil _ _ _ _ _ | exact Kd.S_nil _ _ _ _ _⟩, ⟨by repeat (first | (with_reducible first | exact HB.out | apply below_alloc | apply pw_below_drewN | apply below_drew1) | exact HB.out)⟩⟩
  case round =>
    clear H'
    obtain ⟨x1_1, x2_1, rfl, HA, HK1, HO_1, HB⟩ := hrel
    cases gk with
    | zero => exact absurd HA.out (by simp [turnbuckleref12_Fields.l0])
    | succ k1 =>
      have H := HA.out
      clear HA
      simp only [turnbuckleref12_Fields.l0] at H
      by_cases c1 : x2_1 < 256
      · rw [if_pos c1] at H
        have c1b0 : decide (x2_1 < 256) = true := decide_eq_true c1
        clear c1
        replace H := Option.bind_eq_some_iff.mp H
        obtain ⟨t280, A20, H⟩ := H
        replace H : (if t280 = true then (if x1_1.length < 17592186044416 then (turnbuckleref12_Fields.l0 k1 (x1_1 ++ [5]) (wrap64 (x2_1 + 1))) else (none)) else (if ((x2_1) % 256) ≥ 97 then (if ((x2_1) % 256) ≤ 122 then (turnbuckleref12_Fields.j1 k1 x1_1 x2_1 ((x2_1) % 256) true) else (if ((x2_1) % 256) ≥ 48 then (if ((x2_1) % 256) ≤ 57 then (turnbuckleref12_Fields.j1 k1 x1_1 x2_1 ((x2_1) % 256) true) else ((turnbuckleref12_among.f k1 (⟨#[32, 58, 59, 61, 44, 37, 95, 42, 34, 63, 38, 43]⟩ : ByteArray) ((x2_1) % 256)).bind fun t284 => (turnbuckleref12_Fields.j1 k1 x1_1 x2_1 ((x2_1) % 256) t284))) else ((turnbuckleref12_among.f k1 (⟨#[32, 58, 59, 61, 44, 37, 95, 42, 34, 63, 38, 43]⟩ : ByteArray) ((x2_1) % 256)).bind fun t285 => (turnbuckleref12_Fields.j1 k1 x1_1 x2_1 ((x2_1) % 256) t285)))) else (if ((x2_1) % 256) ≥ 48 then (if ((x2_1) % 256) ≤ 57 then (turnbuckleref12_Fields.j1 k1 x1_1 x2_1 ((x2_1) % 256) true) else ((turnbuckleref12_among.f k1 (⟨#[32, 58, 59, 61, 44, 37, 95, 42, 34, 63, 38, 43]⟩ : ByteArray) ((x2_1) % 256)).bind fun t286 => (turnbuckleref12_Fields.j1 k1 x1_1 x2_1 ((x2_1) % 256) t286))) else ((turnbuckleref12_among.f k1 (⟨#[32, 58, 59, 61, 44, 37, 95, 42, 34, 63, 38, 43]⟩ : ByteArray) ((x2_1) % 256)).bind fun t287 => (turnbuckleref12_Fields.j1 k1 x1_1 x2_1 ((x2_1) % 256) t287))))) = some r := H
        have A2 := Aside0.mk A20
        clear A20
        by_cases c3 : t280 = true
        · subst c3
          have H1 : (if x1_1.length < 17592186044416 then (turnbuckleref12_Fields.l0 k1 (x1_1 ++ [5]) (wrap64 (x2_1 + 1))) else (none)) = some r := by rw [if_pos rfl] at H; exact H
          clear H
          have H := H1
          clear H1
          by_cases c4 : x1_1.length < 17592186044416
          · rw [if_pos c4] at H
            have LMc4 := Aside0.mk c4
            clear c4
            obtain ⟨y281, hy281⟩ : ∃ y_ : List Int, y_ = (x1_1 ++ [5]) := ⟨_, rfl⟩
            replace H : (turnbuckleref12_Fields.l0 k1 y281 (wrap64 (x2_1 + 1))) = some r := by first | (rw [hy281]; with_reducible exact H) | (have H2_ := (Option.bind_some _ _).symm.trans H; rw [hy281]; with_reducible exact H2_) | (have H2_ := (Option.bind_some _ _).symm.trans H; with_reducible exact H2_) | with_reducible exact H | (rw [hy281]; exact H) | exact H
            have Ny281 := Aside0.mk hy281
            clear hy281
            have H' := Aside0.mk H
            clear H
            go_wp2_with (first | ((with_reducible refine gate_callee (f := 30) rfl ?_); refine goesL_ (some 15) rfl rfl Try.func30 (by kernel_rfl) rfl #[.string (⟨#[97, 99, 101, 105, 110, 111, 114, 115, 116, 47, 45, 46, 48, 49, 50]⟩ : ByteArray), .int .u8 ((x2_1) % 256)] rfl (by (try simp only [List.map_toArray, List.map_cons, List.map_nil]); first | done | rfl | (simp only [List.length_drop, List.length_take]; rfl)) ?_; (with_reducible refine (turnbuckleref12_among.calls k1 (⟨#[97, 99, 101, 105, 110, 111, 114, 115, 116, 47, 45, 46, 48, 49, 50]⟩ : ByteArray) ((x2_1) % 256) true _ A2.out).mono ?_); rintro e w' ⟨rfl, ⟨nd, rfl⟩⟩; refine ⟨_, rfl, ?_⟩) | ((with_reducible refine gate_builtin (b := .append) (xs := #[.tmp 16, .tmp 17]) rfl ?_); at_builtin; refine Kd.R_append (Kd.int .i64) (w0 := w) w.heap.size rfl (.tmp 16) (.tmp 17) 22 3 (.int .i64 0) 8 rfl Try.underlying22 info3 rfl (by decide) (by omega) u1 x1_1 5 [.int .i64 5] (fun _ => True) (fun _ => False) rfl rfl ?aP (fun _ hk => hk.elim) ?aF ?aO ?aB ?aS ?aL ?_; (case aP => exact rfl); (case aB => exact (by repeat (first | (with_reducible first | exact HB.out | apply below_alloc | apply pw_below_drewN | apply below_drew1) | exact HB.out))); (case aF => exact (fun _ _ => trivial)); (case aO => exact (by (with_reducible repeat (first | apply Kd.R_alloc | apply Kd.R_drewN | apply Kd.R_drew)); exact HO_1.out)); (case aS => exact (below_size (by repeat (first | (with_reducible first | exact HB.out | apply below_alloc | apply pw_below_drewN | apply below_drew1) | exact HB.out)))); (case aL => have := LMc4.out; omega); intro v282 w5 ho hb hg hat; rw [← Ny281.out] at ho; have n0_ := Aside0.mk (hb); have n1_ := Aside0.mk (ho); clear HB; clear HO_1; have HB := n0_; have HO283 := n1_; clear n0_ n1_; clear ho hb hg hat))
            go_roundg k1
            case measure => have := HK1.out; omega
            case rel => exact ⟨(y281), (wrap64 (x2_1 + 1)), (by first | rfl | (simp; done) | (simp [*]; done)), H', ⟨by have := HK1.out; omega⟩, ⟨by (with_reducible repeat (first | apply Kd.R_alloc | apply Kd.R_drewN | apply Kd.R_drew)); exact HO283.out⟩, ⟨by repeat (first | (with_reducible first | exact HB.out | apply below_alloc | apply pw_below_drewN | apply below_drew1) | exact HB.out)⟩⟩
          · rw [if_neg c4] at H
            exact absurd H (by simp)
        · replace c3 := Bool.eq_false_iff.mpr c3
          subst c3
          have H1 : (if ((x2_1) % 256) ≥ 97 then (if ((x2_1) % 256) ≤ 122 then (turnbuckleref12_Fields.j1 k1 x1_1 x2_1 ((x2_1) % 256) true) else (if ((x2_1) % 256) ≥ 48 then (if ((x2_1) % 256) ≤ 57 then (turnbuckleref12_Fields.j1 k1 x1_1 x2_1 ((x2_1) % 256) true) else ((turnbuckleref12_among.f k1 (⟨#[32, 58, 59, 61, 44, 37, 95, 42, 34, 63, 38, 43]⟩ : ByteArray) ((x2_1) % 256)).bind fun t284 => (turnbuckleref12_Fields.j1 k1 x1_1 x2_1 ((x2_1) % 256) t284))) else ((turnbuckleref12_among.f k1 (⟨#[32, 58, 59, 61, 44, 37, 95, 42, 34, 63, 38, 43]⟩ : ByteArray) ((x2_1) % 256)).bind fun t285 => (turnbuckleref12_Fields.j1 k1 x1_1 x2_1 ((x2_1) % 256) t285)))) else (if ((x2_1) % 256) ≥ 48 then (if ((x2_1) % 256) ≤ 57 then (turnbuckleref12_Fields.j1 k1 x1_1 x2_1 ((x2_1) % 256) true) else ((turnbuckleref12_among.f k1 (⟨#[32, 58, 59, 61, 44, 37, 95, 42, 34, 63, 38, 43]⟩ : ByteArray) ((x2_1) % 256)).bind fun t286 => (turnbuckleref12_Fields.j1 k1 x1_1 x2_1 ((x2_1) % 256) t286))) else ((turnbuckleref12_among.f k1 (⟨#[32, 58, 59, 61, 44, 37, 95, 42, 34, 63, 38, 43]⟩ : ByteArray) ((x2_1) % 256)).bind fun t287 => (turnbuckleref12_Fields.j1 k1 x1_1 x2_1 ((x2_1) % 256) t287)))) = some r := by rw [if_neg (show ¬ (false = true) by decide)] at H; exact H
          clear H
          have H := H1
          clear H1
          have HC6 := Aside0.mk H
          clear H
          go_upto_region 9 with (first | ((with_reducible refine gate_callee (f := 30) rfl ?_); refine goesL_ (some 15) rfl rfl Try.func30 (by kernel_rfl) rfl #[.string (⟨#[97, 99, 101, 105, 110, 111, 114, 115, 116, 47, 45, 46, 48, 49, 50]⟩ : ByteArray), .int .u8 ((x2_1) % 256)] rfl (by (try simp only [List.map_toArray, List.map_cons, List.map_nil]); first | done | rfl | (simp only [List.length_drop, List.length_take]; rfl)) ?_; (with_reducible refine (turnbuckleref12_among.calls k1 (⟨#[97, 99, 101, 105, 110, 111, 114, 115, 116, 47, 45, 46, 48, 49, 50]⟩ : ByteArray) ((x2_1) % 256) false _ A2.out).mono ?_); rintro e w' ⟨rfl, ⟨nd, rfl⟩⟩; refine ⟨_, rfl, ?_⟩))
          (try simp only [Act.put, List.setIfInBounds_toArray, List.set_cons_zero, List.set_cons_succ])
          go_cut [19] (fun v19 wc => ∃ (kq : Nat) (x19_5 : Bool), v19 = .bool x19_5 ∧ Aside0 (turnbuckleref12_Fields.j1 kq x1_1 x2_1 ((x2_1) % 256) x19_5 = some r) ∧ Aside0 (kq ≤ k1) ∧ Aside0 (Kd.R (Kd.int .i64) 3 wc w.heap.size (fun _ => True) u1 x1_1) ∧ Aside0 (Below w.heap.size w wc))
          case first =>
            have H := HC6.out
            clear HC6
            by_cases c7 : ((x2_1) % 256) ≥ 97
            · rw [if_pos c7] at H
              have c7b0 : decide (97 ≤ ((x2_1) % 256)) = true := decide_eq_true c7
              clear c7
              (first | rw [c7b0] | (simp only [i64_w, i32_w]; rw [c7b0]) | skip)
              by_cases c8 : ((x2_1) % 256) ≤ 122
              · rw [if_pos c8] at H
                have c8b0 : decide (((x2_1) % 256) ≤ 122) = true := decide_eq_true c8
                clear c8
                have H' := Aside0.mk H
                clear H
                go_wp2
                go_meet
                case rel => exact ⟨_, (true), (by first | rfl | (simp; done) | (simp [*]; done)), H', ⟨by have := HK1.out; first | omega | exact Nat.le_refl _⟩, ⟨by (with_reducible repeat (first | apply Kd.R_alloc | apply Kd.R_drewN | apply Kd.R_drew)); exact HO_1.out⟩, ⟨by repeat (first | (with_reducible first | exact HB.out | apply below_alloc | apply pw_below_drewN | apply below_drew1) | exact HB.out)⟩⟩
              · rw [if_neg c8] at H
                have c8b0 : decide (((x2_1) % 256) ≤ 122) = false := decide_eq_false c8
                clear c8
                by_cases c9 : ((x2_1) % 256) ≥ 48
                · rw [if_pos c9] at H
                  have c9b0 : decide (48 ≤ ((x2_1) % 256)) = true := decide_eq_true c9
                  clear c9
                  by_cases c10 : ((x2_1) % 256) ≤ 57
                  · rw [if_pos c10] at H
                    have c10b0 : decide (((x2_1) % 256) ≤ 57) = true := decide_eq_true c10
                    clear c10
                    have H' := Aside0.mk H
                    clear H
                    go_wp2
                    go_meet
                    case rel => exact ⟨_, (true), (by first | rfl | (simp; done) | (simp [*]; done)), H', ⟨by have := HK1.out; first | omega | exact Nat.le_refl _⟩, ⟨by (with_reducible repeat (first | apply Kd.R_alloc | apply Kd.R_drewN | apply Kd.R_drew)); exact HO_1.out⟩, ⟨by repeat (first | (with_reducible first | exact HB.out | apply below_alloc | apply pw_below_drewN | apply below_drew1) | exact HB.out)⟩⟩
                  · rw [if_neg c10] at H
                    have c10b0 : decide (((x2_1) % 256) ≤ 57) = false := decide_eq_false c10
                    clear c10
                    replace H := Option.bind_eq_some_iff.mp H
                    obtain ⟨t284, A110, H⟩ := H
                    replace H : (turnbuckleref12_Fields.j1 k1 x1_1 x2_1 ((x2_1) % 256) t284) = some r := H
                    have A11 := Aside0.mk A110
                    clear A110
                    have H' := Aside0.mk H
                    clear H
                    go_wp2_with (first | (go_at_call 30; (with_reducible refine (turnbuckleref12_among.calls k1 (⟨#[32, 58, 59, 61, 44, 37, 95, 42, 34, 63, 38, 43]⟩ : ByteArray) ((x2_1) % 256) t284 _ A11.out).mono ?_); rintro e w' ⟨rfl, ⟨nd, rfl⟩⟩))
                    go_meet
                    case rel => exact ⟨_, (t284), (by first | rfl | (simp; done) | (simp [*]; done)), H', ⟨by have := HK1.out; first | omega | exact Nat.le_refl _⟩, ⟨by (with_reducible repeat (first | apply Kd.R_alloc | apply Kd.R_drewN | apply Kd.R_drew)); exact HO_1.out⟩, ⟨by repeat (first | (with_reducible first | exact HB.out | apply below_alloc | apply pw_below_drewN | apply below_drew1) | exact HB.out)⟩⟩
                · rw [if_neg c9] at H
                  have c9b0 : decide (48 ≤ ((x2_1) % 256)) = false := decide_eq_false c9
                  clear c9
                  replace H := Option.bind_eq_some_iff.mp H
                  obtain ⟨t285, A120, H⟩ := H
                  replace H : (turnbuckleref12_Fields.j1 k1 x1_1 x2_1 ((x2_1) % 256) t285) = some r := H
                  have A12 := Aside0.mk A120
                  clear A120
                  have H' := Aside0.mk H
                  clear H
                  go_wp2_with (first | (go_at_call 30; (with_reducible refine (turnbuckleref12_among.calls k1 (⟨#[32, 58, 59, 61, 44, 37, 95, 42, 34, 63, 38, 43]⟩ : ByteArray) ((x2_1) % 256) t285 _ A12.out).mono ?_); rintro e w' ⟨rfl, ⟨nd, rfl⟩⟩))
                  go_meet
                  case rel => exact ⟨_, (t285), (by first | rfl | (simp; done) | (simp [*]; done)), H', ⟨by have := HK1.out; first | omega | exact Nat.le_refl _⟩, ⟨by (with_reducible repeat (first | apply Kd.R_alloc | apply Kd.R_drewN | apply Kd.R_drew)); exact HO_1.out⟩, ⟨by repeat (first | (with_reducible first | exact HB.out | apply below_alloc | apply pw_below_drewN | apply below_drew1) | exact HB.out)⟩⟩
            · rw [if_neg c7] at H
              have c7b0 : decide (97 ≤ ((x2_1) % 256)) = false := decide_eq_false c7
              clear c7
              (first | rw [c7b0] | (simp only [i64_w, i32_w]; rw [c7b0]) | skip)
              by_cases c13 : ((x2_1) % 256) ≥ 48
              · rw [if_pos c13] at H
                have c13b0 : decide (48 ≤ ((x2_1) % 256)) = true := decide_eq_true c13
                clear c13
                by_cases c14 : ((x2_1) % 256) ≤ 57
                · rw [if_pos c14] at H
                  have c14b0 : decide (((x2_1) % 256) ≤ 57) = true := decide_eq_true c14
                  clear c14
                  have H' := Aside0.mk H
                  clear H
                  go_wp2
                  go_meet
                  case rel => exact ⟨_, (true), (by first | rfl | (simp; done) | (simp [*]; done)), H', ⟨by have := HK1.out; first | omega | exact Nat.le_refl _⟩, ⟨by (with_reducible repeat (first | apply Kd.R_alloc | apply Kd.R_drewN | apply Kd.R_drew)); exact HO_1.out⟩, ⟨by repeat (first | (with_reducible first | exact HB.out | apply below_alloc | apply pw_below_drewN | apply below_drew1) | exact HB.out)⟩⟩
                · rw [if_neg c14] at H
                  have c14b0 : decide (((x2_1) % 256) ≤ 57) = false := decide_eq_false c14
                  clear c14
                  replace H := Option.bind_eq_some_iff.mp H
                  obtain ⟨t286, A150, H⟩ := H
                  replace H : (turnbuckleref12_Fields.j1 k1 x1_1 x2_1 ((x2_1) % 256) t286) = some r := H
                  have A15 := Aside0.mk A150
                  clear A150
                  have H' := Aside0.mk H
                  clear H
                  go_wp2_with (first | (go_at_call 30; (with_reducible refine (turnbuckleref12_among.calls k1 (⟨#[32, 58, 59, 61, 44, 37, 95, 42, 34, 63, 38, 43]⟩ : ByteArray) ((x2_1) % 256) t286 _ A15.out).mono ?_); rintro e w' ⟨rfl, ⟨nd, rfl⟩⟩))
                  go_meet
                  case rel => exact ⟨_, (t286), (by first | rfl | (simp; done) | (simp [*]; done)), H', ⟨by have := HK1.out; first | omega | exact Nat.le_refl _⟩, ⟨by (with_reducible repeat (first | apply Kd.R_alloc | apply Kd.R_drewN | apply Kd.R_drew)); exact HO_1.out⟩, ⟨by repeat (first | (with_reducible first | exact HB.out | apply below_alloc | apply pw_below_drewN | apply below_drew1) | exact HB.out)⟩⟩
              · rw [if_neg c13] at H
                have c13b0 : decide (48 ≤ ((x2_1) % 256)) = false := decide_eq_false c13
                clear c13
                replace H := Option.bind_eq_some_iff.mp H
                obtain ⟨t287, A160, H⟩ := H
                replace H : (turnbuckleref12_Fields.j1 k1 x1_1 x2_1 ((x2_1) % 256) t287) = some r := H
                have A16 := Aside0.mk A160
                clear A160
                have H' := Aside0.mk H
                clear H
                go_wp2_with (first | (go_at_call 30; (with_reducible refine (turnbuckleref12_among.calls k1 (⟨#[32, 58, 59, 61, 44, 37, 95, 42, 34, 63, 38, 43]⟩ : ByteArray) ((x2_1) % 256) t287 _ A16.out).mono ?_); rintro e w' ⟨rfl, ⟨nd, rfl⟩⟩))
                go_meet
                case rel => exact ⟨_, (t287), (by first | rfl | (simp; done) | (simp [*]; done)), H', ⟨by have := HK1.out; first | omega | exact Nat.le_refl _⟩, ⟨by (with_reducible repeat (first | apply Kd.R_alloc | apply Kd.R_drewN | apply Kd.R_drew)); exact HO_1.out⟩, ⟨by repeat (first | (with_reducible first | exact HB.out | apply below_alloc | apply pw_below_drewN | apply below_drew1) | exact HB.out)⟩⟩
          case rest =>
            clear HC6
            try clear c1
            try clear c1b0
            try clear c2
            try clear p2
            try clear c3
            try clear c4
            try clear p6
            try clear c7
            try clear c7b0
            try clear c8
            try clear c8b0
            try clear c9
            try clear c9b0
            try clear c10
            try clear c10b0
            try clear c13
            try clear c13b0
            try clear c14
            try clear c14b0
            obtain ⟨kq, x19_5, rfl, HA, HJ5, HO_1, HB⟩ := hcut
            cases kq with
            | zero => exact absurd HA.out (by simp [turnbuckleref12_Fields.j1])
            | succ kj5 =>
              have H := HA.out
              clear HA
              simp only [turnbuckleref12_Fields.j1] at H
              by_cases c17 : x19_5 = true
              · subst c17
                have H1 : (if x1_1.length < 17592186044416 then (turnbuckleref12_Fields.l0 kj5 (x1_1 ++ [7]) (wrap64 (x2_1 + 1))) else (none)) = some r := by rw [if_pos rfl] at H; exact H
                clear H
                have H := H1
                clear H1
                by_cases c18 : x1_1.length < 17592186044416
                · rw [if_pos c18] at H
                  have LMc18 := Aside0.mk c18
                  clear c18
                  obtain ⟨y288, hy288⟩ : ∃ y_ : List Int, y_ = (x1_1 ++ [7]) := ⟨_, rfl⟩
                  replace H : (turnbuckleref12_Fields.l0 kj5 y288 (wrap64 (x2_1 + 1))) = some r := by first | (rw [hy288]; with_reducible exact H) | (have H2_ := (Option.bind_some _ _).symm.trans H; rw [hy288]; with_reducible exact H2_) | (have H2_ := (Option.bind_some _ _).symm.trans H; with_reducible exact H2_) | with_reducible exact H | (rw [hy288]; exact H) | exact H
                  have Ny288 := Aside0.mk hy288
                  clear hy288
                  have H' := Aside0.mk H
                  clear H
                  go_wp2_with (first | ((with_reducible refine gate_builtin (b := .append) (xs := #[.tmp 38, .tmp 39]) rfl ?_); at_builtin; refine Kd.R_append (Kd.int .i64) (w0 := w) w.heap.size rfl (.tmp 38) (.tmp 39) 22 3 (.int .i64 0) 8 rfl Try.underlying22 info3 rfl (by decide) (by omega) u1 x1_1 7 [.int .i64 7] (fun _ => True) (fun _ => False) rfl rfl ?aP (fun _ hk => hk.elim) ?aF ?aO ?aB ?aS ?aL ?_; (case aP => exact rfl); (case aB => exact (by repeat (first | (with_reducible first | exact HB.out | apply below_alloc | apply pw_below_drewN | apply below_drew1) | exact HB.out))); (case aF => exact (fun _ _ => trivial)); (case aO => exact (by (with_reducible repeat (first | apply Kd.R_alloc | apply Kd.R_drewN | apply Kd.R_drew)); exact HO_1.out)); (case aS => exact (below_size (by repeat (first | (with_reducible first | exact HB.out | apply below_alloc | apply pw_below_drewN | apply below_drew1) | exact HB.out)))); (case aL => have := LMc18.out; omega); intro v289 w19 ho hb hg hat; rw [← Ny288.out] at ho; have n0_ := Aside0.mk (hb); have n1_ := Aside0.mk (ho); clear HB; clear HO_1; have HB := n0_; have HO290 := n1_; clear n0_ n1_; clear ho hb hg hat))
                  go_roundg kj5
                  case measure => have := HK1.out; have := HJ5.out; omega
                  case rel => exact ⟨(y288), (wrap64 (x2_1 + 1)), (by first | rfl | (simp; done) | (simp [*]; done)), H', ⟨by have := HK1.out; have := HJ5.out; omega⟩, ⟨by (with_reducible repeat (first | apply Kd.R_alloc | apply Kd.R_drewN | apply Kd.R_drew)); exact HO290.out⟩, ⟨by repeat (first | (with_reducible first | exact HB.out | apply below_alloc | apply pw_below_drewN | apply below_drew1) | exact HB.out)⟩⟩
                · rw [if_neg c18] at H
                  exact absurd H (by simp)
              · replace c17 := Bool.eq_false_iff.mpr c17
                subst c17
                have H1 : (if ((x2_1) % 256) ≥ 33 then (if ((x2_1) % 256) ≤ 126 then (if x1_1.length < 17592186044416 then (turnbuckleref12_Fields.l0 kj5 (x1_1 ++ [9]) (wrap64 (x2_1 + 1))) else (none)) else (if x1_1.length < 17592186044416 then (turnbuckleref12_Fields.l0 kj5 (x1_1 ++ [13]) (wrap64 (x2_1 + 1))) else (none))) else (if x1_1.length < 17592186044416 then (turnbuckleref12_Fields.l0 kj5 (x1_1 ++ [13]) (wrap64 (x2_1 + 1))) else (none))) = some r := by rw [if_neg (show ¬ (false = true) by decide)] at H; exact H
                clear H
                have H := H1
                clear H1
                by_cases c20 : ((x2_1) % 256) ≥ 33
                · rw [if_pos c20] at H
                  have c20b0 : decide (33 ≤ ((x2_1) % 256)) = true := decide_eq_true c20
                  clear c20
                  by_cases c21 : ((x2_1) % 256) ≤ 126
                  · rw [if_pos c21] at H
                    have c21b0 : decide (((x2_1) % 256) ≤ 126) = true := decide_eq_true c21
                    clear c21
                    by_cases c22 : x1_1.length < 17592186044416
                    · rw [if_pos c22] at H
                      have LMc22 := Aside0.mk c22
                      clear c22
                      obtain ⟨y291, hy291⟩ : ∃ y_ : List Int, y_ = (x1_1 ++ [9]) := ⟨_, rfl⟩
                      replace H : (turnbuckleref12_Fields.l0 kj5 y291 (wrap64 (x2_1 + 1))) = some r := by first | (rw [hy291]; with_reducible exact H) | (have H2_ := (Option.bind_some _ _).symm.trans H; rw [hy291]; with_reducible exact H2_) | (have H2_ := (Option.bind_some _ _).symm.trans H; with_reducible exact H2_) | with_reducible exact H | (rw [hy291]; exact H) | exact H
                      have Ny291 := Aside0.mk hy291
                      clear hy291
                      have H' := Aside0.mk H
                      clear H
                      go_wp2_with (first | ((with_reducible refine gate_builtin (b := .append) (xs := #[.tmp 48, .tmp 49]) rfl ?_); at_builtin; refine Kd.R_append (Kd.int .i64) (w0 := w) w.heap.size rfl (.tmp 48) (.tmp 49) 22 3 (.int .i64 0) 8 rfl Try.underlying22 info3 rfl (by decide) (by omega) u1 x1_1 9 [.int .i64 9] (fun _ => True) (fun _ => False) rfl rfl ?aP (fun _ hk => hk.elim) ?aF ?aO ?aB ?aS ?aL ?_; (case aP => exact rfl); (case aB => exact (by repeat (first | (with_reducible first | exact HB.out | apply below_alloc | apply pw_below_drewN | apply below_drew1) | exact HB.out))); (case aF => exact (fun _ _ => trivial)); (case aO => exact (by (with_reducible repeat (first | apply Kd.R_alloc | apply Kd.R_drewN | apply Kd.R_drew)); exact HO_1.out)); (case aS => exact (below_size (by repeat (first | (with_reducible first | exact HB.out | apply below_alloc | apply pw_below_drewN | apply below_drew1) | exact HB.out)))); (case aL => have := LMc22.out; omega); intro v292 w23 ho hb hg hat; rw [← Ny291.out] at ho; have n0_ := Aside0.mk (hb); have n1_ := Aside0.mk (ho); clear HB; clear HO_1; have HB := n0_; have HO293 := n1_; clear n0_ n1_; clear ho hb hg hat))
                      go_roundg kj5
                      case measure => have := HK1.out; have := HJ5.out; omega
                      case rel => exact ⟨(y291), (wrap64 (x2_1 + 1)), (by first | rfl | (simp; done) | (simp [*]; done)), H', ⟨by have := HK1.out; have := HJ5.out; omega⟩, ⟨by (with_reducible repeat (first | apply Kd.R_alloc | apply Kd.R_drewN | apply Kd.R_drew)); exact HO293.out⟩, ⟨by repeat (first | (with_reducible first | exact HB.out | apply below_alloc | apply pw_below_drewN | apply below_drew1) | exact HB.out)⟩⟩
                    · rw [if_neg c22] at H
                      exact absurd H (by simp)
                  · rw [if_neg c21] at H
                    have c21b0 : decide (((x2_1) % 256) ≤ 126) = false := decide_eq_false c21
                    clear c21
                    by_cases c24 : x1_1.length < 17592186044416
                    · rw [if_pos c24] at H
                      have LMc24 := Aside0.mk c24
                      clear c24
                      obtain ⟨y294, hy294⟩ : ∃ y_ : List Int, y_ = (x1_1 ++ [13]) := ⟨_, rfl⟩
                      replace H : (turnbuckleref12_Fields.l0 kj5 y294 (wrap64 (x2_1 + 1))) = some r := by first | (rw [hy294]; with_reducible exact H) | (have H2_ := (Option.bind_some _ _).symm.trans H; rw [hy294]; with_reducible exact H2_) | (have H2_ := (Option.bind_some _ _).symm.trans H; with_reducible exact H2_) | with_reducible exact H | (rw [hy294]; exact H) | exact H
                      have Ny294 := Aside0.mk hy294
                      clear hy294
                      have H' := Aside0.mk H
                      clear H
                      go_wp2_with (first | ((with_reducible refine gate_builtin (b := .append) (xs := #[.tmp 10, .tmp 11]) rfl ?_); at_builtin; refine Kd.R_append (Kd.int .i64) (w0 := w) w.heap.size rfl (.tmp 10) (.tmp 11) 22 3 (.int .i64 0) 8 rfl Try.underlying22 info3 rfl (by decide) (by omega) u1 x1_1 13 [.int .i64 13] (fun _ => True) (fun _ => False) rfl rfl ?aP (fun _ hk => hk.elim) ?aF ?aO ?aB ?aS ?aL ?_; (case aP => exact rfl); (case aB => exact (by repeat (first | (with_reducible first | exact HB.out | apply below_alloc | apply pw_below_drewN | apply below_drew1) | exact HB.out))); (case aF => exact (fun _ _ => trivial)); (case aO => exact (by (with_reducible repeat (first | apply Kd.R_alloc | apply Kd.R_drewN | apply Kd.R_drew)); exact HO_1.out)); (case aS => exact (below_size (by repeat (first | (with_reducible first | exact HB.out | apply below_alloc | apply pw_below_drewN | apply below_drew1) | exact HB.out)))); (case aL => have := LMc24.out; omega); intro v295 w25 ho hb hg hat; rw [← Ny294.out] at ho; have n0_ := Aside0.mk (hb); have n1_ := Aside0.mk (ho); clear HB; clear HO_1; have HB := n0_; have HO296 := n1_; clear n0_ n1_; clear ho hb hg hat))
                      go_roundg kj5
                      case measure => have := HK1.out; have := HJ5.out; omega
                      case rel => exact ⟨(y294), (wrap64 (x2_1 + 1)), (by first | rfl | (simp; done) | (simp [*]; done)), H', ⟨by have := HK1.out; have := HJ5.out; omega⟩, ⟨by (with_reducible repeat (first | apply Kd.R_alloc | apply Kd.R_drewN | apply Kd.R_drew)); exact HO296.out⟩, ⟨by repeat (first | (with_reducible first | exact HB.out | apply below_alloc | apply pw_below_drewN | apply below_drew1) | exact HB.out)⟩⟩
                    · rw [if_neg c24] at H
                      exact absurd H (by simp)
                · rw [if_neg c20] at H
                  have c20b0 : decide (33 ≤ ((x2_1) % 256)) = false := decide_eq_false c20
                  clear c20
                  by_cases c26 : x1_1.length < 17592186044416
                  · rw [if_pos c26] at H
                    have LMc26 := Aside0.mk c26
                    clear c26
                    obtain ⟨y297, hy297⟩ : ∃ y_ : List Int, y_ = (x1_1 ++ [13]) := ⟨_, rfl⟩
                    replace H : (turnbuckleref12_Fields.l0 kj5 y297 (wrap64 (x2_1 + 1))) = some r := by first | (rw [hy297]; with_reducible exact H) | (have H2_ := (Option.bind_some _ _).symm.trans H; rw [hy297]; with_reducible exact H2_) | (have H2_ := (Option.bind_some _ _).symm.trans H; with_reducible exact H2_) | with_reducible exact H | (rw [hy297]; exact H) | exact H
                    have Ny297 := Aside0.mk hy297
                    clear hy297
                    have H' := Aside0.mk H
                    clear H
                    go_wp2_with (first | ((with_reducible refine gate_builtin (b := .append) (xs := #[.tmp 10, .tmp 11]) rfl ?_); at_builtin; refine Kd.R_append (Kd.int .i64) (w0 := w) w.heap.size rfl (.tmp 10) (.tmp 11) 22 3 (.int .i64 0) 8 rfl Try.underlying22 info3 rfl (by decide) (by omega) u1 x1_1 13 [.int .i64 13] (fun _ => True) (fun _ => False) rfl rfl ?aP (fun _ hk => hk.elim) ?aF ?aO ?aB ?aS ?aL ?_; (case aP => exact rfl); (case aB => exact (by repeat (first | (with_reducible first | exact HB.out | apply below_alloc | apply pw_below_drewN | apply below_drew1) | exact HB.out))); (case aF => exact (fun _ _ => trivial)); (case aO => exact (by (with_reducible repeat (first | apply Kd.R_alloc | apply Kd.R_drewN | apply Kd.R_drew)); exact HO_1.out)); (case aS => exact (below_size (by repeat (first | (with_reducible first | exact HB.out | apply below_alloc | apply pw_below_drewN | apply below_drew1) | exact HB.out)))); (case aL => have := LMc26.out; omega); intro v298 w27 ho hb hg hat; rw [← Ny297.out] at ho; have n0_ := Aside0.mk (hb); have n1_ := Aside0.mk (ho); clear HB; clear HO_1; have HB := n0_; have HO299 := n1_; clear n0_ n1_; clear ho hb hg hat))
                    go_roundg kj5
                    case measure => have := HK1.out; have := HJ5.out; omega
                    case rel => exact ⟨(y297), (wrap64 (x2_1 + 1)), (by first | rfl | (simp; done) | (simp [*]; done)), H', ⟨by have := HK1.out; have := HJ5.out; omega⟩, ⟨by (with_reducible repeat (first | apply Kd.R_alloc | apply Kd.R_drewN | apply Kd.R_drew)); exact HO299.out⟩, ⟨by repeat (first | (with_reducible first | exact HB.out | apply below_alloc | apply pw_below_drewN | apply below_drew1) | exact HB.out)⟩⟩
                  · rw [if_neg c26] at H
                    exact absurd H (by simp)
      · rw [if_neg c1] at H
        have c1b0 : decide (x2_1 < 256) = false := decide_eq_false c1
        clear c1
        obtain rfl := Option.some.inj H
        go_wp2
        go_ret
        exact ⟨_, by first | rfl | (simp [errW_none, errW_some] <;> rfl) | (simp [*, errW_none, errW_some] <;> rfl), by (with_reducible repeat (first | apply Kd.R_alloc | apply Kd.R_drewN | apply Kd.R_drew)); exact HO_1.out, by repeat (first | (with_reducible first | exact HB.out | apply below_alloc | apply pw_below_drewN | apply below_drew1) | exact HB.out)⟩

end Go.Proofs.Ytgcefofmfeghmaa.G
