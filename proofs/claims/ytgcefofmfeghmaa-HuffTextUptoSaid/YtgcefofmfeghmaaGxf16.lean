-- written by a program for this claim
import Derived.Test.YtgcefofmfeghmaaGx0
import Derived.Test.YtgcefofmfeghmaaGxf20
import Derived.Test.YtgcefofmfeghmaaPOrd
namespace Go.Proofs.Ytgcefofmfeghmaa.G
open Go.RowKit Go.Proofs.YtgcefofmfeghmaaW.PrintWords Go.Proofs.YtgcefofmfeghmaaW.PrintLast Go.Proofs.YtgcefofmfeghmaaW.PrintMore
attribute [local go_sem] max2_int min2_int max_two min_two max_three min_three max_four min_four   -- for this text's walks alone
set_option linter.unusedVariables false
set_option linter.unusedSimpArgs false

/-! ### huff_Words: function 16 -/
def huff_Words.l0 : Nat → List Int → List (S36) → Int → List Int → Int → Int → Option ((List (S36)) × Int)
  | 0, _, _, _, _, _, _ => none
  | k + 1, x0, x4, x5, x16, x17, x18 => if x18 < x17 then (if 0 ≤ x18 then (if x18 < (x16.length : Int) then (if 0 ≤ (rd x16 x18) then (if (rd x16 x18) < (x0.length : Int) then (if 0 ≤ (wrap64 (24 - (rd x0 (rd x16 x18)))) then (if (rd x16 x18) < (x4.length : Int) then (huff_Words.l0 k x0 (x4.set ((rd x16 x18) : Int).toNat (⟨shr .i64 x5 (wrap64 (24 - (rd x0 (rd x16 x18)))), rd x0 (rd x16 x18)⟩ : S36)) (wrap64 (x5 + (shl .i64 1 (wrap64 (24 - (rd x0 (rd x16 x18))))))) x16 x17 (wrap64 (x18 + 1))) else (none)) else (none)) else (none)) else (none)) else (none)) else (none)) else (some (x4, 0))
def huff_Words.f (k : Nat) (l0 : List Int) : Option ((List (S36)) × Int) := (huff_Right.f k l0).bind fun t102 => (if t102 = true then (if 0 ≤ (l0.length : Int) then (if ((l0.length : Int) : Int).toNat ≤ 17592186044416 then ((Pl.order.f l0).bind fun t106 => (huff_Words.l0 k l0 (List.replicate ((l0.length : Int) : Int).toNat z36) 0 t106 (t106.length : Int) 0)) else (none)) else (none)) else (some (([] : List (S36)), 1)))
theorem huff_Words.mono_l : ∀ k, (∀ y0 y1 y2 y3 y4 y5, LeO (huff_Words.l0 k y0 y1 y2 y3 y4 y5) (huff_Words.l0 (k + 1) y0 y1 y2 y3 y4 y5))
  | 0 => fun _ _ _ _ _ _ r h => by simp [huff_Words.l0] at h
  | k + 1 => by
    have ih0 := huff_Words.mono_l k
    · intro y0 y1 y2 y3 y4 y5
      unfold huff_Words.l0
      repeat' first
      | (with_reducible exact ih0 _ _ _ _ _ _)
      | (with_reducible exact huff_Right.mono _ _)
      | (with_reducible exact LeO.refl _)
      | (with_reducible exact LeO.none _)
      | (with_reducible refine LeO.ite ?_ ?_)
      | (with_reducible refine LeO.bind ?_ (fun _ => ?_))
      | exact ih0 _ _ _ _ _ _
      | exact huff_Right.mono _ _
      | exact LeO.none _
      | refine LeO.ite ?_ ?_
      | refine LeO.bind ?_ (fun _ => ?_)
theorem huff_Words.mono : ∀ a0 k, LeO (huff_Words.f k a0) (huff_Words.f (k + 1) a0) := by
  intro a0 k
  have ih0 := huff_Words.mono_l k
  unfold huff_Words.f
  repeat' first
      | (with_reducible exact ih0 _ _ _ _ _ _)
      | (with_reducible exact huff_Right.mono _ _)
      | (with_reducible exact LeO.refl _)
      | (with_reducible exact LeO.none _)
      | (with_reducible refine LeO.ite ?_ ?_)
      | (with_reducible refine LeO.bind ?_ (fun _ => ?_))
      | exact ih0 _ _ _ _ _ _
      | exact huff_Right.mono _ _
      | exact LeO.none _
      | refine LeO.ite ?_ ?_
      | refine LeO.bind ?_ (fun _ => ?_)
set_option maxHeartbeats 8000000 in
set_option maxRecDepth 100000 in
theorem huff_Words.calls (k : Nat) (A0 : Option Addr) (c0 : Nat) (l0 : List Int) (r1 : List (S36)) (r2 : Int) (w : World) (hr0 : Kd.C (Kd.int .i64) w A0 l0.length l0) (hc0 : l0.length ≤ c0) (h : huff_Words.f k l0 = some (r1, r2)) :
    Calls Try.prog 16 #[.slice A0 l0.length c0] w fun e w' => ∃ v0_ : Value, e = .returned (.tuple #[v0_, .int .i64 r2]) ∧ Kd.R k36 36 w' w.heap.size (fun _ => True) v0_ r1 ∧ Below w.heap.size w w' := by
  have hu36 := Try.underlying36
  have HR0 := Aside0.mk hr0
  have HC0 := Aside0.mk hc0
  clear hr0 hc0
  have HB := Aside0.mk (Below.refl w.heap.size w)
  have H : ((huff_Right.f k l0).bind fun t102 => (if t102 = true then (if 0 ≤ (l0.length : Int) then (if ((l0.length : Int) : Int).toNat ≤ 17592186044416 then ((Pl.order.f l0).bind fun t106 => (huff_Words.l0 k l0 (List.replicate ((l0.length : Int) : Int).toNat z36) 0 t106 (t106.length : Int) 0)) else (none)) else (none)) else (some (([] : List (S36)), 1)))) = some (r1, r2) := h
  clear h
  replace H := Option.bind_eq_some_iff.mp H
  obtain ⟨t102, A20, H⟩ := H
  replace H : (if t102 = true then (if 0 ≤ (l0.length : Int) then (if ((l0.length : Int) : Int).toNat ≤ 17592186044416 then ((Pl.order.f l0).bind fun t106 => (huff_Words.l0 k l0 (List.replicate ((l0.length : Int) : Int).toNat z36) 0 t106 (t106.length : Int) 0)) else (none)) else (none)) else (some (([] : List (S36)), 1))) = some (r1, r2) := H
  have A2 := Aside0.mk A20
  clear A20
  by_cases c3 : t102 = true
  · subst c3
    have H1 : (if 0 ≤ (l0.length : Int) then (if ((l0.length : Int) : Int).toNat ≤ 17592186044416 then ((Pl.order.f l0).bind fun t106 => (huff_Words.l0 k l0 (List.replicate ((l0.length : Int) : Int).toNat z36) 0 t106 (t106.length : Int) 0)) else (none)) else (none)) = some (r1, r2) := by rw [if_pos rfl] at H; exact H
    clear H
    have H := H1
    clear H1
    by_cases c4 : 0 ≤ (l0.length : Int)
    · rw [if_pos c4] at H
      have c4b0 := eq_true c4
      have c4b1 : decide (0 ≤ (l0.length : Int)) = true := decide_eq_true c4
      clear c4
      by_cases c5 : ((l0.length : Int) : Int).toNat ≤ 17592186044416
      · rw [if_pos c5] at H
        have c5b0 := eq_true c5
        have c5b1 : decide (((l0.length : Int) : Int).toNat ≤ 17592186044416) = true := decide_eq_true c5
        clear c5
        obtain ⟨y103, hy103⟩ : ∃ y_ : List (S36), y_ = (List.replicate ((l0.length : Int) : Int).toNat z36) := ⟨_, rfl⟩
        replace H : ((Pl.order.f l0).bind fun t106 => (huff_Words.l0 k l0 y103 0 t106 (t106.length : Int) 0)) = some (r1, r2) := by first | (rw [hy103]; with_reducible exact H) | (have H2_ := (Option.bind_some _ _).symm.trans H; rw [hy103]; with_reducible exact H2_) | (have H2_ := (Option.bind_some _ _).symm.trans H; with_reducible exact H2_) | with_reducible exact H | (rw [hy103]; exact H) | exact H
        have Ny103 := Aside0.mk hy103
        clear hy103
        replace H := Option.bind_eq_some_iff.mp H
        obtain ⟨t106, A60, H⟩ := H
        replace H : (huff_Words.l0 k l0 y103 0 t106 (t106.length : Int) 0) = some (r1, r2) := H
        have A6 := Aside0.mk A60
        clear A60
        have H' := Aside0.mk H
        clear H
        go_enter Try.func16, Try.ntmps16
        go_wp2_with (first | ((with_reducible refine gate_callee (f := 20) rfl ?_); refine goesL_ (some 10) rfl rfl Try.func20 (by kernel_rfl) rfl #[.slice A0 l0.length c0] rfl (by (try simp only [List.map_toArray, List.map_cons, List.map_nil]); first | done | rfl | (simp only [List.length_drop, List.length_take]; rfl)) ?_; (with_reducible refine (huff_Right.calls k _ _ l0 true _ ?side1 ?side2 A2.out).mono ?_); (case side1 => repeat (first | exact HR0.out | (with_reducible refine Kd.C_alloc ?_ _) | (with_reducible refine Kd.C_drewN ?_ _) | (with_reducible refine Kd.C_drew ?_))); (case side2 => exact HC0.out); rintro e w' ⟨rfl, ⟨nd, rfl⟩⟩; refine ⟨_, rfl, ?_⟩) | ((with_reducible refine gate_dst (N := 14) rfl ?_); refine Kd.R_make k36 _ 36 rfl (N := 14) rfl 32 _ _ rfl (l0.length : Int) rfl rfl Try.underlying32 (.agg #[(.int .i64 0), (.int .i64 0)]) 16 info36 rfl (by decide) (by omega) z36 (ok := fun _ => True) (okp := fun _ => True) (k36_mkM _ _ _ z36 ) (fun _ hk => hk) trivial (of_decide_eq_true (by first | (with_reducible assumption) | assumption)) (Nat.le_trans (Nat.mul_le_mul_right _ (of_decide_eq_true (by first | (with_reducible assumption) | assumption) : (l0.length : Int).toNat ≤ 17592186044416)) (by omega)) (Below.refl _ _) (Nat.le_refl _) ?_; intro v104 w7 ho8 hb hg_ hnew_; clear hg_ hnew_; (first | rw [← Ny103.out] at ho8 | (simp only [Int.reduceToNat] at ho8; rw [← Ny103.out] at ho8)); have n0_ := Aside0.mk (Kd.R_lower ho8 (below_size (by repeat (first | (with_reducible first | exact HB.out | apply below_alloc | apply pw_below_drewN | apply below_drew1) | exact HB.out)))); have n1_ := Aside0.mk (below_step (by repeat (first | (with_reducible first | exact HB.out | apply below_alloc | apply pw_below_drewN | apply below_drew1) | exact HB.out)) hb); clear HB; have HO105 := n0_; have HB := n1_; clear n0_ n1_; clear hb ho8) | ((with_reducible refine gate_callee (f := 27) rfl ?_); refine goesL_ (some 16) rfl rfl Try.func27 (by kernel_rfl) rfl #[.slice A0 l0.length c0] rfl (by (try simp only [List.map_toArray, List.map_cons, List.map_nil]); first | done | rfl | (simp only [List.length_drop, List.length_take]; rfl)) ?_; (with_reducible refine (Pl.order.calls _ _ l0 t106 _ ?side1 ?side2 A6.out).mono ?_); (case side1 => repeat (first | exact (Kd.C_below HR0.out HB.out) | (with_reducible refine Kd.C_alloc ?_ _) | (with_reducible refine Kd.C_drewN ?_ _) | (with_reducible refine Kd.C_drew ?_))); (case side2 => exact HC0.out); rintro e w9 ⟨v107, rfl, ho0, hb⟩; refine ⟨_, rfl, ?_⟩; have n0_ := Aside0.mk (Kd.R_below (by (with_reducible repeat (first | apply Kd.R_alloc | apply Kd.R_drewN | apply Kd.R_drew)); exact HO105.out) hb); have n1_ := Aside0.mk (Kd.R_lower ho0 (below_size (by repeat (first | (with_reducible first | exact HB.out | apply below_alloc | apply pw_below_drewN | apply below_drew1) | exact HB.out)))); have n2_ := Aside0.mk (below_step (by repeat (first | (with_reducible first | exact HB.out | apply below_alloc | apply pw_below_drewN | apply below_drew1) | exact HB.out)) hb); clear HO105; clear HB; have HO105 := n0_; have HO108 := n1_; have HB := n2_; clear n0_ n1_ n2_; (try clear hb); (try clear hb2); (try clear hk); (try clear hi); (try clear ho0); obtain ⟨Ao10, co10, eo10⟩ := Kd.R_slice HO108.out; subst eo10))
        go_loopg [5, 18] k (fun kq v5 v18 w' => ∃ (x4_1 : List (S36)) (x5_1 : Int) (x18_1 : Int), v5 = .int .i64 x5_1 ∧ v18 = .int .i64 x18_1 ∧ Aside0 (huff_Words.l0 kq l0 x4_1 x5_1 t106 (t106.length : Int) x18_1 = some (r1, r2)) ∧ Aside0 (kq ≤ k) ∧ Aside0 (Kd.R k36 36 w' w.heap.size (fun _ => True) v104 x4_1) ∧ Aside0 (Kd.R (Kd.int .i64) 3 w' w.heap.size (fun _ => True) (.slice Ao10 t106.length co10) t106) ∧ Aside0 (Below w.heap.size w w'))
        case atStart => exact ⟨(y103), (0), (0), (by first | rfl | (simp; done) | (simp [*]; done)), (by first | rfl | (simp; done) | (simp [*]; done)), H', ⟨Nat.le_refl _⟩, ⟨by (with_reducible repeat (first | apply Kd.R_alloc | apply Kd.R_drewN | apply Kd.R_drew)); exact HO105.out⟩, ⟨by (with_reducible repeat (first | apply Kd.R_alloc | apply Kd.R_drewN | apply Kd.R_drew)); exact HO108.out⟩, ⟨by repeat (first | (with_reducible first | exact HB.out | apply below_alloc | apply pw_below_drewN | apply below_drew1) | exact HB.out)⟩⟩
        case round =>
          clear H'
          try clear c1
          try clear c2
          try clear p2
          try clear c3
          try clear c4
          try clear c4b0
          try clear c4b1
          try clear c5
          try clear c5b0
          try clear c5b1
          obtain ⟨x4_1, x5_1, x18_1, rfl, rfl, HA, HK1, HO_4, HO_16, HB⟩ := hrel
          cases gk with
          | zero => exact absurd HA.out (by simp [huff_Words.l0])
          | succ k1 =>
            have H := HA.out
            clear HA
            simp only [huff_Words.l0] at H
            by_cases c11 : x18_1 < (t106.length : Int)
            · rw [if_pos c11] at H
              have c11b0 : decide (x18_1 < (t106.length : Int)) = true := decide_eq_true c11
              clear c11
              by_cases c12 : 0 ≤ x18_1
              · rw [if_pos c12] at H
                have c12b0 : decide (0 ≤ x18_1) = true := decide_eq_true c12
                clear c12
                by_cases c13 : x18_1 < (t106.length : Int)
                · rw [if_pos c13] at H
                  have c13b0 : decide (x18_1 < (t106.length : Int)) = true := decide_eq_true c13
                  clear c13
                  by_cases c14 : 0 ≤ (rd t106 x18_1)
                  · rw [if_pos c14] at H
                    have c14b0 : decide (0 ≤ (rd t106 x18_1)) = true := decide_eq_true c14
                    clear c14
                    by_cases c15 : (rd t106 x18_1) < (l0.length : Int)
                    · rw [if_pos c15] at H
                      have c15b0 : decide ((rd t106 x18_1) < (l0.length : Int)) = true := decide_eq_true c15
                      clear c15
                      obtain ⟨ji16, hji16⟩ : ∃ j_ : Int, (wrap64 (24 - (rd l0 (rd t106 x18_1)))) = j_ := ⟨_, rfl⟩
                      replace H : (if 0 ≤ (ji16) then (if (rd t106 x18_1) < (x4_1.length : Int) then (huff_Words.l0 k1 l0 (x4_1.set ((rd t106 x18_1) : Int).toNat (⟨shr .i64 x5_1 (ji16), rd l0 (rd t106 x18_1)⟩ : S36)) (wrap64 (x5_1 + (shl .i64 1 (ji16)))) t106 (t106.length : Int) (wrap64 (x18_1 + 1))) else (none)) else (none)) = some (r1, r2) := by first | (rw [hji16] at H; exact H) | (simp only [hji16] at H ⊢; exact H)
                      have hji16w : (IntKind.i64.wrap (24 - (rd l0 (rd t106 x18_1)))) = ji16 := (i64_w _).trans hji16
                      by_cases c17 : 0 ≤ (ji16)
                      · rw [if_pos c17] at H
                        have c17b0 := eq_true c17
                        have c17b1 : decide (0 ≤ (ji16)) = true := decide_eq_true c17
                        clear c17
                        obtain ⟨ji18, hji18⟩ : ∃ j_ : Int, (shr .i64 x5_1 (ji16)) = j_ := ⟨_, rfl⟩
                        replace H : (if (rd t106 x18_1) < (x4_1.length : Int) then (huff_Words.l0 k1 l0 (x4_1.set ((rd t106 x18_1) : Int).toNat (⟨ji18, rd l0 (rd t106 x18_1)⟩ : S36)) (wrap64 (x5_1 + (shl .i64 1 (ji16)))) t106 (t106.length : Int) (wrap64 (x18_1 + 1))) else (none)) = some (r1, r2) := by first | (rw [hji18] at H; exact H) | (simp only [hji18] at H ⊢; exact H)
                        have hji18_ : (x5_1 / 2 ^ min (ji16).toNat 64) = ji18 := hji18
                        have hji18z : (ji16) ≤ 64 → (x5_1 / 2 ^ (ji16).toNat) = ji18 := shr_small hji18
                        by_cases c19 : (rd t106 x18_1) < (x4_1.length : Int)
                        · rw [if_pos c19] at H
                          have c19b0 : decide ((rd t106 x18_1) < (x4_1.length : Int)) = true := decide_eq_true c19
                          clear c19
                          obtain ⟨y111, hy111⟩ : ∃ y_ : List (S36), y_ = (x4_1.set ((rd t106 x18_1) : Int).toNat (⟨ji18, rd l0 (rd t106 x18_1)⟩ : S36)) := ⟨_, rfl⟩
                          replace H : (huff_Words.l0 k1 l0 y111 (wrap64 (x5_1 + (shl .i64 1 (ji16)))) t106 (t106.length : Int) (wrap64 (x18_1 + 1))) = some (r1, r2) := by first | (rw [hy111]; with_reducible exact H) | (have H2_ := (Option.bind_some _ _).symm.trans H; rw [hy111]; with_reducible exact H2_) | (have H2_ := (Option.bind_some _ _).symm.trans H; with_reducible exact H2_) | with_reducible exact H | (rw [hy111]; exact H) | exact H
                          have Ny111 := Aside0.mk hy111
                          clear hy111
                          have c21b0 := eq_true (of_decide_eq_true (by first | (with_reducible assumption) | assumption) : 0 ≤ (ji16))
                          obtain ⟨ji22, hji22⟩ : ∃ j_ : Int, (shl .i64 1 (ji16)) = j_ := ⟨_, rfl⟩
                          replace H : (huff_Words.l0 k1 l0 y111 (wrap64 (x5_1 + (ji22))) t106 (t106.length : Int) (wrap64 (x18_1 + 1))) = some (r1, r2) := by first | (rw [hji22] at H; exact H) | (simp only [hji22] at H ⊢; exact H)
                          have hji22_ : (IntKind.i64.wrap (1 * 2 ^ min (ji16).toNat 64)) = ji22 := hji22
                          have hji22z : (ji16) ≤ 64 → (IntKind.i64.wrap (1 * 2 ^ (ji16).toNat)) = ji22 := shl_small hji22
                          have hji22u : (IntKind.i64.wrap (2 ^ min (ji16).toNat 64)) = ji22 := by have h_ := hji22_; rw [Int.one_mul] at h_; exact h_
                          have hji22v : (ji16) ≤ 64 → (IntKind.i64.wrap (2 ^ (ji16).toNat)) = ji22 := fun hle_ => by have h_ := hji22z hle_; rw [Int.one_mul] at h_; exact h_
                          have hji22y : (wrap64 (1 * 2 ^ min (ji16).toNat 64)) = ji22 := (i64_w _).symm.trans hji22_
                          have hji22x : (ji16) ≤ 64 → (wrap64 (1 * 2 ^ (ji16).toNat)) = ji22 := fun h_ => (i64_w _).symm.trans (hji22z h_)
                          have H' := Aside0.mk H
                          clear H
                          have p109 : 0 ≤ (x18_1 : Int) := of_decide_eq_true (by first | (with_reducible assumption) | assumption)
                          have q109 : x18_1 < (t106.length : Int) := of_decide_eq_true (by first | (with_reducible assumption) | assumption)
                          obtain ⟨ad109, e109, hx109_0⟩ := Kd.at_int (Kd.R_reads' HO_16.out).2.2 x18_1 p109 q109
                          cases e109
                          replace p109 := eq_true p109
                          replace q109 := eq_true q109
                          have p110 : 0 ≤ ((rd t106 x18_1) : Int) := of_decide_eq_true (by first | (with_reducible assumption) | assumption)
                          have q110 : (rd t106 x18_1) < (l0.length : Int) := of_decide_eq_true (by first | (with_reducible assumption) | assumption)
                          obtain ⟨ad110, e110, hx110_0⟩ := Kd.at_int HR0.out (rd t106 x18_1) p110 q110
                          cases e110
                          replace hx110_0 := (HB.out.cell (World.block_lt_of_cell? w _ hx110_0)).trans hx110_0
                          replace p110 := eq_true p110
                          replace q110 := eq_true q110
                          have p20 : 0 ≤ ((rd t106 x18_1) : Int) := of_decide_eq_true (by first | (with_reducible assumption) | assumption)
                          have q20 : ((rd t106 x18_1) : Int) < ((x4_1.length : Int) : Int) := of_decide_eq_true (by first | (with_reducible assumption) | assumption)
                          obtain ⟨go20, co20, eo20, gb20, gl20, cl20, HG20⟩ := Kd.R_form HO_4.out (by omega)
                          (first | cases eo20 | (injection eo20 with ea_ en_ ec_; (first | subst ea_ | (injection ea_ with ea_; subst ea_)); subst ec_; clear en_))
                          have GB20 := Aside0.mk gb20
                          have GG20 := Aside0.mk HG20
                          clear gb20 gl20 HG20
                          obtain ⟨ce20, hcl20, hM20, hcc20, hfr20⟩ := Kd.R_elem HO_4.out z36 ((rd t106 x18_1) : Int) p20 q20
                          obtain rfl := k36_openM hM20
                          have hx20_0 : wr.cell? ⟨go20, ((rd t106 x18_1) : Int).toNat * 2, none⟩ = some (.int .i64 ((rd_T36 x4_1 (rd t106 x18_1)).f0)) := hcc20 0 _ rfl
                          have hx20_1 : wr.cell? ⟨go20, ((rd t106 x18_1) : Int).toNat * 2 + 1, none⟩ = some (.int .i64 ((rd_T36 x4_1 (rd t106 x18_1)).f1)) := hcc20 1 _ rfl
                          have hf20_0 : wr.frozen? ⟨go20, ((rd t106 x18_1) : Int).toNat * 2, none⟩ = false := hfr20 0
                          have hf20_1 : wr.frozen? ⟨go20, ((rd t106 x18_1) : Int).toNat * 2 + 1, none⟩ = false := hfr20 1
                          clear hcl20 hcc20 hfr20 hM20
                          replace p20 := eq_true p20
                          replace q20 := eq_true q20
                          have HX23 := Aside0.mk (show Kd.R k36 36 wr w.heap.size (fun _ => True) (.slice (some ⟨go20, 0, none⟩) x4_1.length co20) x4_1 from (by (with_reducible repeat (first | apply Kd.R_alloc | apply Kd.R_drewN | apply Kd.R_drew)); exact HO_4.out))
                          obtain ⟨ce23, hcl23, hM23, hcc23, hfr23⟩ := Kd.R_elem HX23.out z36 ((rd t106 x18_1) : Int) (of_decide_eq_true (by first | (with_reducible assumption) | assumption)) (by have h_ : ((rd t106 x18_1) : Int) < ((x4_1.length : Int) : Int) := of_decide_eq_true (by first | (with_reducible assumption) | assumption); first | exact h_ | (have e_ := (Kd.R_reads' HO_4.out).1; omega) | simpa using h_)
                          obtain rfl := k36_openM hM23
                          have HP23 := Kd.R_seg HX23.out ((rd t106 x18_1) : Int) (of_decide_eq_true (by first | (with_reducible assumption) | assumption)) (by have h_ : ((rd t106 x18_1) : Int) < ((x4_1.length : Int) : Int) := of_decide_eq_true (by first | (with_reducible assumption) | assumption); first | exact h_ | (have e_ := (Kd.R_reads' HO_4.out).1; omega) | simpa using h_) (seg := [.int .i64 ji18, .int .i64 (rd l0 (rd t106 x18_1))]) (j := 0) hcl23 hcc23 (show 2 ≤ 2 from by decide) (x' := (⟨ji18, rd l0 (rd t106 x18_1)⟩ : S36)) (k36_mkM _ _ _ (⟨ji18, rd l0 (rd t106 x18_1)⟩ : S36) ) (fun _ hk => hk)
                          have hx23_0 := hcc23 0 _ rfl
                          (try simp only [show (k36).sz = 2 from rfl, Nat.mul_one, Nat.add_zero] at hx23_0)
                          have hf23_0 := hfr23 0
                          (try simp only [show (k36).sz = 2 from rfl, Nat.mul_one, Nat.add_zero] at hf23_0)
                          have hx23_1 := hcc23 1 _ rfl
                          (try simp only [show (k36).sz = 2 from rfl, Nat.mul_one, Nat.add_zero] at hx23_1)
                          have hf23_1 := hfr23 1
                          (try simp only [show (k36).sz = 2 from rfl, Nat.mul_one, Nat.add_zero] at hf23_1)
                          clear hcl23 hcc23 hfr23 hM23
                          go_wp2_with (first | ((with_reducible refine gate_store (t := 36) (p := 34) rfl ?_); refine store_event (t := 36) (p := 34) (v := ?vo_w24) (w1 := ((wr.setCell ⟨go20, ((rd t106 x18_1) : Int).toNat * 2, none⟩ (.int .i64 ji18)).setCell ⟨go20, ((rd t106 x18_1) : Int).toNat * 2 + 1, none⟩ (.int .i64 (rd l0 (rd t106 x18_1))))) ?hg ?ho ?hn ?hr ?_; (case ho => rfl); (case hg => rfl); (case hn => rfl); (case hr => first | (go_simp; done) | (go_simp; rfl)); intro w24 hw; have hg : wr.grownBy w24 (some go20) := (by rw [hw]; exact HP23.2); have hp_ : Kd.R k36 36 w24 w.heap.size (fun _ => True) (.slice (some ⟨go20, 0, none⟩) x4_1.length co20) y111 := (by rw [hw, Ny111.out]; exact HP23.1); clear HP23; have n0_ := Aside0.mk (hp_); have n1_ := Aside0.mk (Kd.R_over' (v := (.slice (some ⟨go20, 0, none⟩) x4_1.length co20)) (by (with_reducible repeat (first | apply Kd.R_alloc | apply Kd.R_drewN | apply Kd.R_drew)); exact HO_16.out) (Kd.R_typed HO_4.out) (by decide) hg); have n2_ := Aside0.mk ((by rw [hw]; exact below_set (below_set (HB.out) GB20.out) GB20.out : Below w.heap.size w w24)); clear HO_4; clear HO_16; clear HB; have HO_4 := n0_; have HO_16 := n1_; have HB := n2_; clear n0_ n1_ n2_; clear hg hw hp_))
                          go_roundg k1
                          case measure => have := HK1.out; omega
                          case rel => exact ⟨(y111), (wrap64 (x5_1 + (ji22))), (wrap64 (x18_1 + 1)), (by first | rfl | (simp; done) | (simp only [← hji22] <;> (first | rfl | simp)) | (simp [*]; done)), (by first | rfl | (simp; done) | (simp [*]; done)), H', ⟨by have := HK1.out; omega⟩, ⟨by (with_reducible repeat (first | apply Kd.R_alloc | apply Kd.R_drewN | apply Kd.R_drew)); exact HO_4.out⟩, ⟨by (with_reducible repeat (first | apply Kd.R_alloc | apply Kd.R_drewN | apply Kd.R_drew)); exact HO_16.out⟩, ⟨by repeat (first | (with_reducible first | exact HB.out | apply below_alloc | apply pw_below_drewN | apply below_drew1) | exact HB.out)⟩⟩
                        · rw [if_neg c19] at H
                          exact absurd H (by simp)
                      · rw [if_neg c17] at H
                        exact absurd H (by simp)
                    · rw [if_neg c15] at H
                      exact absurd H (by simp)
                  · rw [if_neg c14] at H
                    exact absurd H (by simp)
                · rw [if_neg c13] at H
                  exact absurd H (by simp)
              · rw [if_neg c12] at H
                exact absurd H (by simp)
            · rw [if_neg c11] at H
              have c11b0 : decide (x18_1 < (t106.length : Int)) = false := decide_eq_false c11
              clear c11
              simp only [Option.some.injEq, Prod.mk.injEq] at H
              obtain ⟨rfl, rfl⟩ := H
              go_wp2
              go_ret2
              exact ⟨_, by first | rfl | (simp [errW_none, errW_some] <;> rfl) | (simp [*, errW_none, errW_some] <;> rfl), by (with_reducible repeat (first | apply Kd.R_alloc | apply Kd.R_drewN | apply Kd.R_drew)); exact HO_4.out, by repeat (first | (with_reducible first | exact HB.out | apply below_alloc | apply pw_below_drewN | apply below_drew1) | exact HB.out)⟩
      · rw [if_neg c5] at H
        exact absurd H (by simp)
    · rw [if_neg c4] at H
      exact absurd H (by simp)
  · replace c3 := Bool.eq_false_iff.mpr c3
    subst c3
    have H1 : (some (([] : List (S36)), 1)) = some (r1, r2) := by rw [if_neg (show ¬ (false = true) by decide)] at H; exact H
    clear H
    have H := H1
    clear H1
    simp only [Option.some.injEq, Prod.mk.injEq] at H
    obtain ⟨rfl, rfl⟩ := H
    go_enter Try.func16, Try.ntmps16
    go_wp2_with (first | ((with_reducible refine gate_callee (f := 20) rfl ?_); refine goesL_ (some 10) rfl rfl Try.func20 (by kernel_rfl) rfl #[.slice A0 l0.length c0] rfl (by (try simp only [List.map_toArray, List.map_cons, List.map_nil]); first | done | rfl | (simp only [List.length_drop, List.length_take]; rfl)) ?_; (with_reducible refine (huff_Right.calls k _ _ l0 false _ ?side1 ?side2 A2.out).mono ?_); (case side1 => repeat (first | exact HR0.out | (with_reducible refine Kd.C_alloc ?_ _) | (with_reducible refine Kd.C_drewN ?_ _) | (with_reducible refine Kd.C_drew ?_))); (case side2 => exact HC0.out); rintro e w' ⟨rfl, ⟨nd, rfl⟩⟩; refine ⟨_, rfl, ?_⟩))
    go_ret2
    exact ⟨_, by first | rfl | (simp [errW_none, errW_some] <;> rfl) | (simp [*, errW_none, errW_some] <;> rfl), by first | exact Kd.R_nil _ _ _ _ _ | exact Kd.N_nil _ _ _ _ _ | exact Kd.V_nil _ _ _ _ _ | exact Kd.Q_nil _ _ _ _ _ | exact Kd.S_nil _ _ _ _ _, by repeat (first | (with_reducible first | exact HB.out | apply below_alloc | apply pw_below_drewN | apply below_drew1) | exact HB.out)⟩

end Go.Proofs.Ytgcefofmfeghmaa.G
