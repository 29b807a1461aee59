import Derived.Test.YtbnhlekehndhkaaGreatDoorYFrX

/- Lifetime and Age: the walks. -/
namespace Go.Proofs.YtbnhlekehndhkaaGreatDoor.Fr
open Go.RowKit Go.Proofs.YtbnhlekehndhkaaGreatDoorW.PrintWords Go.Proofs.YtbnhlekehndhkaaGreatDoorW.PrintLast Go.Proofs.YtbnhlekehndhkaaGreatDoorW.PrintMore Go.Proofs.YtbnhlekehndhkaaGreatDoor.G Go.Proofs.YtbnhlekehndhkaaGreatDoor.V Go.Proofs.YtbnhlekehndhkaaGreatDoor.S
set_option linter.unusedVariables false
set_option linter.unusedSimpArgs false
set_option maxRecDepth 100000 in
set_option maxHeartbeats 4000000 in
theorem life_q (w : World) (P : Nat → Prop) (x : S34) (r : Rf) (h : Ex w P x r) (hG : Da.Glob w) (hs : wt x.f1.f1 < 268435456) :
    Calls Tryz.prog 19 #[.agg (Vx x r)] w fun e w' => e = .returned (.tuple #[.int .i64 (lifeN x).1, .bool (lifeN x).2]) ∧ Below w.heap.size w w' := by
  have HB0 := Lib.hid (below_alloc (Below.refl w.heap.size w) (.cells (Vx x r) 34))
  have HX0 := Lib.hid (show (w.alloc (.cells (Vx x r) 34)).heap[w.heap.size]? = some (Bx x r) from heap_alloc_new _ _)
  have HRI := Lib.hid (fun W (hb : Below w.heap.size w W) => right_calls W P x r (h.below hb))
  have HDA := Lib.hid (fun W (hb : Below w.heap.size w W) => dated_q W P x r (h.below hb) DATE (hG.below hb) hs)
  have HDL := Lib.hid (fun W (hb : Below w.heap.size w W) => dated_q W P x r (h.below hb) LASTMOD (hG.below hb) hs)
  obtain ⟨r0, hr0⟩ : ∃ r0, r0 = lifeN x := ⟨_, rfl⟩
  rw [← hr0]
  unfold lifeN at hr0
  obtain ⟨l0, l1, l2, l3, l4, l5, l6, l7, l8, l9, l10⟩ := bx_cells HX0.out
  cases hb : rightB x with
  | false =>
    rw [hb] at HRI hr0
    have HE : Hid (r0 = (0, false)) := Lib.hid (by rw [hr0]; rfl)
    clear hb hr0 h hG
    go_enter Tryz.func19, Tryz.ntmps19
    go_wp2_with (go_at_call 39; refine (HRI.out _ HB0.out).mono ?_; rintro e w1 ⟨rfl, hb1⟩; have HB1 := Lib.hid (below_step HB0.out hb1); have HX1 := Lib.hid (blk_bel hb1 HX0.out); obtain ⟨l0, l1, l2, l3, l4, l5, l6, l7, l8, l9, l10⟩ := bx_cells HX1.out; clear hb1)
    go_ret2
    exact ⟨by rw [HE.out]; rfl, HB1.out⟩
  | true =>
    have hx := (rightB_iff x).1 hb
    have HTO := Lib.hid (fun W (hbw : Below w.heap.size w W) => told_q W P x r (h.below hbw) (hG.below hbw) hs (by omega) (by omega))
    rw [hb] at HRI hr0
    clear hb h hG hx
    rw [if_pos rfl] at hr0
    cases ht : toldN x.f1.f1 x.f3 with
    | some n =>
      rw [ht] at HTO hr0
      have HE := Lib.hid hr0
      clear ht hr0
      go_enter Tryz.func19, Tryz.ntmps19
      go_wp2_with (first | (go_at_call 39; refine (HRI.out _ HB0.out).mono ?_; rintro e w1 ⟨rfl, hb1⟩; have HB1 := Lib.hid (below_step HB0.out hb1); have HX1 := Lib.hid (blk_bel hb1 HX0.out); obtain ⟨l0, l1, l2, l3, l4, l5, l6, l7, l8, l9, l10⟩ := bx_cells HX1.out; clear hb1) | (go_at_call 45; refine (HTO.out _ HB1.out).mono ?_; rintro e w2 ⟨rfl, hb2⟩; have HB2 := Lib.hid (below_step HB1.out hb2); have HX2 := Lib.hid (blk_bel hb2 HX1.out); obtain ⟨l0, l1, l2, l3, l4, l5, l6, l7, l8, l9, l10⟩ := bx_cells HX2.out; clear hb2))
      go_ret2
      exact ⟨by rw [HE.out]; rfl, HB2.out⟩
    | none =>
      rw [ht] at HTO hr0
      clear ht
      simp only at hr0
      unfold guessN at hr0
      cases ha : datedN x.f1.f1 DATE with
      | none =>
        rw [ha] at HDA hr0
        have HE : Hid (r0 = (0, false)) := Lib.hid (by rw [hr0])
        clear ha hr0
        go_enter Tryz.func19, Tryz.ntmps19
        go_wp2_with (first | (go_at_call 43; refine (HDL.out _ HB3.out).mono ?_; rintro e w4 ⟨rfl, hb4⟩; have HB4 := Lib.hid (below_step HB3.out hb4); have HX4 := Lib.hid (blk_bel hb4 HX3.out); obtain ⟨l0, l1, l2, l3, l4, l5, l6, l7, l8, l9, l10⟩ := bx_cells HX4.out; clear hb4) | (go_at_call 43; refine (HDA.out _ HB2.out).mono ?_; rintro e w3 ⟨rfl, hb3⟩; have HB3 := Lib.hid (below_step HB2.out hb3); have HX3 := Lib.hid (blk_bel hb3 HX2.out); obtain ⟨l0, l1, l2, l3, l4, l5, l6, l7, l8, l9, l10⟩ := bx_cells HX3.out; clear hb3) | (go_at_call 39; refine (HRI.out _ HB0.out).mono ?_; rintro e w1 ⟨rfl, hb1⟩; have HB1 := Lib.hid (below_step HB0.out hb1); have HX1 := Lib.hid (blk_bel hb1 HX0.out); obtain ⟨l0, l1, l2, l3, l4, l5, l6, l7, l8, l9, l10⟩ := bx_cells HX1.out; clear hb1) | (go_at_call 45; refine (HTO.out _ HB1.out).mono ?_; rintro e w2 ⟨rfl, hb2⟩; have HB2 := Lib.hid (below_step HB1.out hb2); have HX2 := Lib.hid (blk_bel hb2 HX1.out); obtain ⟨l0, l1, l2, l3, l4, l5, l6, l7, l8, l9, l10⟩ := bx_cells HX2.out; clear hb2))
        go_ret2
        exact ⟨by rw [HE.out]; rfl, HB4.out⟩
      | some a =>
        have b1 := datedN_bd ha
        rw [ha] at HDA hr0
        clear ha
        cases hc : datedN x.f1.f1 LASTMOD with
        | none =>
          rw [hc] at HDL hr0
          have HE : Hid (r0 = (0, false)) := Lib.hid (by rw [hr0])
          clear hc hr0 b1
          go_enter Tryz.func19, Tryz.ntmps19
          go_wp2_with (first | (go_at_call 43; refine (HDL.out _ HB3.out).mono ?_; rintro e w4 ⟨rfl, hb4⟩; have HB4 := Lib.hid (below_step HB3.out hb4); have HX4 := Lib.hid (blk_bel hb4 HX3.out); obtain ⟨l0, l1, l2, l3, l4, l5, l6, l7, l8, l9, l10⟩ := bx_cells HX4.out; clear hb4) | (go_at_call 43; refine (HDA.out _ HB2.out).mono ?_; rintro e w3 ⟨rfl, hb3⟩; have HB3 := Lib.hid (below_step HB2.out hb3); have HX3 := Lib.hid (blk_bel hb3 HX2.out); obtain ⟨l0, l1, l2, l3, l4, l5, l6, l7, l8, l9, l10⟩ := bx_cells HX3.out; clear hb3) | (go_at_call 39; refine (HRI.out _ HB0.out).mono ?_; rintro e w1 ⟨rfl, hb1⟩; have HB1 := Lib.hid (below_step HB0.out hb1); have HX1 := Lib.hid (blk_bel hb1 HX0.out); obtain ⟨l0, l1, l2, l3, l4, l5, l6, l7, l8, l9, l10⟩ := bx_cells HX1.out; clear hb1) | (go_at_call 45; refine (HTO.out _ HB1.out).mono ?_; rintro e w2 ⟨rfl, hb2⟩; have HB2 := Lib.hid (below_step HB1.out hb2); have HX2 := Lib.hid (blk_bel hb2 HX1.out); obtain ⟨l0, l1, l2, l3, l4, l5, l6, l7, l8, l9, l10⟩ := bx_cells HX2.out; clear hb2))
          go_ret2
          exact ⟨by rw [HE.out]; rfl, HB4.out⟩
        | some b =>
          have b2 := datedN_bd hc
          rw [hc] at HDL hr0
          simp only at hr0
          have e1 : wrap64 (a - b) = a - b := by unfold wrap64; omega
          have e2 : Int.tdiv (max 0 (a - b)) 10 = max 0 (a - b) / 10 := Int.tdiv_eq_ediv_of_nonneg (by omega)
          have e3 : wrap64 (max 0 (a - b) / 10) = max 0 (a - b) / 10 := by unfold wrap64; omega
          have HE := Lib.hid hr0
          have E1 := Lib.hid e1; have E2 := Lib.hid e2; have E3 := Lib.hid e3
          clear hc hr0 b1 b2 e1 e2 e3
          go_enter Tryz.func19, Tryz.ntmps19
          go_wp2_with (first | (go_at_call 43; refine (HDL.out _ HB3.out).mono ?_; rintro e w4 ⟨rfl, hb4⟩; have HB4 := Lib.hid (below_step HB3.out hb4); have HX4 := Lib.hid (blk_bel hb4 HX3.out); obtain ⟨l0, l1, l2, l3, l4, l5, l6, l7, l8, l9, l10⟩ := bx_cells HX4.out; clear hb4) | (go_at_call 43; refine (HDA.out _ HB2.out).mono ?_; rintro e w3 ⟨rfl, hb3⟩; have HB3 := Lib.hid (below_step HB2.out hb3); have HX3 := Lib.hid (blk_bel hb3 HX2.out); obtain ⟨l0, l1, l2, l3, l4, l5, l6, l7, l8, l9, l10⟩ := bx_cells HX3.out; clear hb3) | (go_at_call 39; refine (HRI.out _ HB0.out).mono ?_; rintro e w1 ⟨rfl, hb1⟩; have HB1 := Lib.hid (below_step HB0.out hb1); have HX1 := Lib.hid (blk_bel hb1 HX0.out); obtain ⟨l0, l1, l2, l3, l4, l5, l6, l7, l8, l9, l10⟩ := bx_cells HX1.out; clear hb1) | (go_at_call 45; refine (HTO.out _ HB1.out).mono ?_; rintro e w2 ⟨rfl, hb2⟩; have HB2 := Lib.hid (below_step HB1.out hb2); have HX2 := Lib.hid (blk_bel hb2 HX1.out); obtain ⟨l0, l1, l2, l3, l4, l5, l6, l7, l8, l9, l10⟩ := bx_cells HX2.out; clear hb2))
          go_ret2
          exact ⟨by rw [HE.out]; simp only [E1.out, E2.out, E3.out]; rfl, HB4.out⟩
set_option maxRecDepth 100000 in
set_option maxHeartbeats 4000000 in
theorem age_q (w : World) (P : Nat → Prop) (x : S34) (r : Rf) (h : Ex w P x r) (now : Int) (hG : Da.Glob w) (hs : wt x.f1.f1 < 268435456) :
    Calls Tryz.prog 16 #[.agg (Vx x r), .int .i64 now] w fun e w' => e = .returned (.int .i64 (ageN x now)) ∧ Below w.heap.size w w' := by
  have HB0 := Lib.hid (below_alloc (Below.refl w.heap.size w) (.cells (Vx x r) 34))
  have HX0 := Lib.hid (show (w.alloc (.cells (Vx x r) 34)).heap[w.heap.size]? = some (Bx x r) from heap_alloc_new _ _)
  have HRI := Lib.hid (fun W (hb : Below w.heap.size w W) => right_calls W P x r (h.below hb))
  have HIT := Lib.hid (fun W (hb : Below w.heap.size w W) => isTime_q now W)
  have HDA := Lib.hid (fun W (hb : Below w.heap.size w W) => dated_q W P x r (h.below hb) DATE (hG.below hb) hs)
  have HF := Lib.hid (fun W (hb : Below w.heap.size w W) => first_q W r.A7 r.c7 x.f1.f1 AGE (Kd.C_below h.g7 hb) (by have := wt_len x.f1.f1; omega))
  obtain ⟨r0, hr0⟩ : ∃ r0, r0 = ageN x now := ⟨_, rfl⟩
  rw [← hr0]
  unfold ageN at hr0
  obtain ⟨l0, l1, l2, l3, l4, l5, l6, l7, l8, l9, l10⟩ := bx_cells HX0.out
  cases hb : rightB x with
  | false =>
    rw [hb] at HRI hr0
    have HE : Hid (r0 = 0) := Lib.hid (by rw [hr0]; rfl)
    clear hb hr0 h hG
    go_enter Tryz.func16, Tryz.ntmps16
    go_wp2_with (go_at_call 39; refine (HRI.out _ HB0.out).mono ?_; rintro e w1 ⟨rfl, hb1⟩; have HB1 := Lib.hid (below_step HB0.out hb1); have HX1 := Lib.hid (blk_bel hb1 HX0.out); obtain ⟨l0, l1, l2, l3, l4, l5, l6, l7, l8, l9, l10⟩ := bx_cells HX1.out; clear hb1)
    go_ret
    exact ⟨by rw [HE.out]; rfl, HB1.out⟩
  | true =>
    have hx := (rightB_iff x).1 hb
    have hbb := base_bd x hb
    rw [hb] at HRI hr0
    clear hb
    cases hi : isT now with
    | false =>
      rw [hi] at HIT hr0
      have HE : Hid (r0 = 0) := Lib.hid (by rw [hr0]; rfl)
      clear hi hr0 h hG hbb hx
      go_enter Tryz.func16, Tryz.ntmps16
      go_wp2_with (first | (go_at_call 39; refine (HRI.out _ HB0.out).mono ?_; rintro e w1 ⟨rfl, hb1⟩; have HB1 := Lib.hid (below_step HB0.out hb1); have HX1 := Lib.hid (blk_bel hb1 HX0.out); obtain ⟨l0, l1, l2, l3, l4, l5, l6, l7, l8, l9, l10⟩ := bx_cells HX1.out; clear hb1) | (go_at_call 40; refine (HIT.out _ HB1.out).mono ?_; rintro e w2 ⟨rfl, hb2⟩; have HB2 := Lib.hid (below_step HB1.out hb2); have HX2 := Lib.hid (blk_bel hb2 HX1.out); obtain ⟨l0, l1, l2, l3, l4, l5, l6, l7, l8, l9, l10⟩ := bx_cells HX2.out; clear hb2))
      go_ret
      exact ⟨by rw [HE.out]; rfl, HB2.out⟩
    | true =>
      have ht := (isT_iff now).1 hi
      rw [hi] at HIT hr0
      rw [Bool.and_self, if_pos rfl] at hr0
      unfold baseN at hr0 hbb
      obtain ⟨se, hse⟩ : ∃ s, s = secN x := ⟨_, rfl⟩
      have hsb := secV_bd ((firstN x.f1.f1 AGE).getD ⟨#[]⟩).data.toList
      rw [← hse] at hr0 hbb
      unfold secN at hse
      rw [← hse] at hsb
      have HSE := Lib.hid (fun W (hb : Below w.heap.size w W) => Fb.seconds_q ((firstN x.f1.f1 AGE).getD ⟨#[]⟩) (by
        cases hf : firstN x.f1.f1 AGE with
        | none => decide
        | some v => have := first_le hf; rw [Option.getD_some]; omega) W)
      rw [← hse] at HSE
      clear hi h hG hse
      cases hd : datedN x.f1.f1 DATE with
      | none =>
        rw [hd] at HDA hr0 hbb
        simp only at hr0 hbb
        have e1 : wrap64 (x.f3 - x.f2) = x.f3 - x.f2 := by unfold wrap64; omega
        have e2 : wrap64 (se + (x.f3 - x.f2)) = se + (x.f3 - x.f2) := by unfold wrap64; omega
        have e3 : wrap64 (now - x.f3) = now - x.f3 := by unfold wrap64; omega
        have e4 : wrap64 (se + (x.f3 - x.f2) + max 0 (now - x.f3)) = se + (x.f3 - x.f2) + max 0 (now - x.f3) := by unfold wrap64; omega
        have HE := Lib.hid hr0
        have E1 := Lib.hid e1; have E2 := Lib.hid e2; have E3 := Lib.hid e3; have E4 := Lib.hid e4
        clear hd hr0 e1 e2 e3 e4 hx hbb ht hsb
        go_enter Tryz.func16, Tryz.ntmps16
        go_wp2_with (first | (go_at_call 39; refine (HRI.out _ HB0.out).mono ?_; rintro e w1 ⟨rfl, hb1⟩; have HB1 := Lib.hid (below_step HB0.out hb1); have HX1 := Lib.hid (blk_bel hb1 HX0.out); obtain ⟨l0, l1, l2, l3, l4, l5, l6, l7, l8, l9, l10⟩ := bx_cells HX1.out; clear hb1) | (go_at_call 40; refine (HIT.out _ HB1.out).mono ?_; rintro e w2 ⟨rfl, hb2⟩; have HB2 := Lib.hid (below_step HB1.out hb2); have HX2 := Lib.hid (blk_bel hb2 HX1.out); obtain ⟨l0, l1, l2, l3, l4, l5, l6, l7, l8, l9, l10⟩ := bx_cells HX2.out; clear hb2) | (go_at_call 41; refine (HF.out _ HB2.out).mono ?_; rintro e w3 ⟨rfl, hb3⟩; have HB3 := Lib.hid (below_step HB2.out hb3); have HX3 := Lib.hid (blk_bel hb3 HX2.out); obtain ⟨l0, l1, l2, l3, l4, l5, l6, l7, l8, l9, l10⟩ := bx_cells HX3.out; clear hb3) | (go_at_call 42; refine (HSE.out _ HB3.out).mono ?_; rintro e w4 ⟨rfl, hb4⟩; have HB4 := Lib.hid (below_step HB3.out hb4); have HX4 := Lib.hid (blk_bel hb4 HX3.out); obtain ⟨l0, l1, l2, l3, l4, l5, l6, l7, l8, l9, l10⟩ := bx_cells HX4.out; clear hb4) | (go_at_call 43; refine (HDA.out _ HB4.out).mono ?_; rintro e w5 ⟨rfl, hb5⟩; have HB5 := Lib.hid (below_step HB4.out hb5); have HX5 := Lib.hid (blk_bel hb5 HX4.out); obtain ⟨l0, l1, l2, l3, l4, l5, l6, l7, l8, l9, l10⟩ := bx_cells HX5.out; clear hb5))
        go_ret
        exact ⟨by rw [HE.out]; simp only [E1.out, E2.out, E3.out, E4.out]; rfl, HB5.out⟩
      | some d =>
        have b1 := datedN_bd hd
        rw [hd] at HDA hr0 hbb
        simp only at hr0 hbb
        have e1 : wrap64 (x.f3 - x.f2) = x.f3 - x.f2 := by unfold wrap64; omega
        have e2 : wrap64 (se + (x.f3 - x.f2)) = se + (x.f3 - x.f2) := by unfold wrap64; omega
        have e5 : wrap64 (x.f3 - d) = x.f3 - d := by unfold wrap64; omega
        have e3 : wrap64 (now - x.f3) = now - x.f3 := by unfold wrap64; omega
        have e4 : wrap64 (max (se + (x.f3 - x.f2)) (x.f3 - d) + max 0 (now - x.f3)) = max (se + (x.f3 - x.f2)) (x.f3 - d) + max 0 (now - x.f3) := by unfold wrap64; omega
        have HE := Lib.hid hr0
        have E1 := Lib.hid e1; have E2 := Lib.hid e2; have E3 := Lib.hid e3; have E4 := Lib.hid e4; have E5 := Lib.hid e5
        clear hd hr0 e1 e2 e3 e4 e5 hx hbb ht hsb b1
        go_enter Tryz.func16, Tryz.ntmps16
        go_wp2_with (first | (go_at_call 39; refine (HRI.out _ HB0.out).mono ?_; rintro e w1 ⟨rfl, hb1⟩; have HB1 := Lib.hid (below_step HB0.out hb1); have HX1 := Lib.hid (blk_bel hb1 HX0.out); obtain ⟨l0, l1, l2, l3, l4, l5, l6, l7, l8, l9, l10⟩ := bx_cells HX1.out; clear hb1) | (go_at_call 40; refine (HIT.out _ HB1.out).mono ?_; rintro e w2 ⟨rfl, hb2⟩; have HB2 := Lib.hid (below_step HB1.out hb2); have HX2 := Lib.hid (blk_bel hb2 HX1.out); obtain ⟨l0, l1, l2, l3, l4, l5, l6, l7, l8, l9, l10⟩ := bx_cells HX2.out; clear hb2) | (go_at_call 41; refine (HF.out _ HB2.out).mono ?_; rintro e w3 ⟨rfl, hb3⟩; have HB3 := Lib.hid (below_step HB2.out hb3); have HX3 := Lib.hid (blk_bel hb3 HX2.out); obtain ⟨l0, l1, l2, l3, l4, l5, l6, l7, l8, l9, l10⟩ := bx_cells HX3.out; clear hb3) | (go_at_call 42; refine (HSE.out _ HB3.out).mono ?_; rintro e w4 ⟨rfl, hb4⟩; have HB4 := Lib.hid (below_step HB3.out hb4); have HX4 := Lib.hid (blk_bel hb4 HX3.out); obtain ⟨l0, l1, l2, l3, l4, l5, l6, l7, l8, l9, l10⟩ := bx_cells HX4.out; clear hb4) | (go_at_call 43; refine (HDA.out _ HB4.out).mono ?_; rintro e w5 ⟨rfl, hb5⟩; have HB5 := Lib.hid (below_step HB4.out hb5); have HX5 := Lib.hid (blk_bel hb5 HX4.out); obtain ⟨l0, l1, l2, l3, l4, l5, l6, l7, l8, l9, l10⟩ := bx_cells HX5.out; clear hb5))
        go_ret
        exact ⟨by rw [HE.out]; simp only [E1.out, E2.out, E3.out, E4.out, E5.out]; rfl, HB5.out⟩
end Go.Proofs.YtbnhlekehndhkaaGreatDoor.Fr

