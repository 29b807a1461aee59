import Derived.Test.YtbnhlekehndhkaaGreatDoorZFrL

/- FreshAges: its walk. -/
namespace Go.Proofs.YtbnhlekehndhkaaGreatDoor.Fr
open Go.RowKit Go.Proofs.YtbnhlekehndhkaaGreatDoorW.PrintWords Go.Proofs.YtbnhlekehndhkaaGreatDoorW.PrintLast Go.Proofs.YtbnhlekehndhkaaGreatDoorW.PrintMore Go.Proofs.YtbnhlekehndhkaaGreatDoor.G Go.Proofs.YtbnhlekehndhkaaGreatDoor.V Go.Proofs.YtbnhlekehndhkaaGreatDoor.S
set_option linter.unusedVariables false
set_option linter.unusedSimpArgs false
abbrev Br (x : S34) (r : Rf) : Obj := .cells #[.string x.f0.f0, .string x.f0.f1, .string x.f0.f2, .string x.f0.f3, .slice r.A4 x.f0.f4.length r.c4, .slice r.A5 x.f0.f5.length r.c5, .int .i64 x.f1.f0, .slice r.A7 x.f1.f1.length r.c7, .slice r.A8 x.f1.f2.length r.c8, .int .i64 x.f2, .int .i64 x.f3] 29 (0, 0)
theorem bxr_cells {W : World} {b : Nat} {x : S34} {r : Rf} (h : W.heap[b]? = some (Br x r)) : W.cell? ⟨b, 0, none⟩ = some (.string x.f0.f0) ∧ W.cell? ⟨b, 1, none⟩ = some (.string x.f0.f1) ∧ W.cell? ⟨b, 2, none⟩ = some (.string x.f0.f2) ∧ W.cell? ⟨b, 3, none⟩ = some (.string x.f0.f3) ∧ W.cell? ⟨b, 4, none⟩ = some (.slice r.A4 x.f0.f4.length r.c4) ∧ W.cell? ⟨b, 5, none⟩ = some (.slice r.A5 x.f0.f5.length r.c5) ∧ W.cell? ⟨b, 6, none⟩ = some (.int .i64 x.f1.f0) ∧ W.cell? ⟨b, 7, none⟩ = some (.slice r.A7 x.f1.f1.length r.c7) ∧ W.cell? ⟨b, 8, none⟩ = some (.slice r.A8 x.f1.f2.length r.c8) ∧ W.cell? ⟨b, 9, none⟩ = some (.int .i64 x.f2) ∧ W.cell? ⟨b, 10, none⟩ = some (.int .i64 x.f3) :=
  ⟨c_of h 0 rfl, c_of h 1 rfl, c_of h 2 rfl, c_of h 3 rfl, c_of h 4 rfl, c_of h 5 rfl, c_of h 6 rfl, c_of h 7 rfl, c_of h 8 rfl, c_of h 9 rfl, c_of h 10 rfl⟩
theorem xright_q (w : World) (P : Nat → Prop) (x : S34) (r : Rf) (h : Ex w P x r) : Calls Tryz.prog 13 #[.agg (Vx x r)] w fun e w' => e = .returned (.bool (rightB x)) ∧ Below w.heap.size w w' := xright_calls w P x r h
set_option maxRecDepth 100000 in
set_option maxHeartbeats 8000000 in
theorem ages_calls (w : World) (P : Nat → Prop) (x : S34) (r : Rf) (h : Ex w P x r) (now later : Int) (hG : Da.Glob w) (hs : wt x.f1.f1 < 268435456) :
    Calls Tryz.prog 3 #[.agg (Vx x r), .int .i64 now, .int .i64 later] w fun e w' => e = .returned (.bool true) ∧ Below w.heap.size w w' := by
  have HB0 := Lib.hid (below_alloc (Below.refl w.heap.size w) (.cells (Vx x r) 29))
  have HX0 := Lib.hid (show (w.alloc (.cells (Vx x r) 29)).heap[w.heap.size]? = some (Br x r) from heap_alloc_new _ _)
  have HRI := Lib.hid (fun W (hb : Below w.heap.size w W) => xright_q W P x r (h.below hb))
  have HT1 := Lib.hid (fun W (hb : Below w.heap.size w W) => rtime_q now W)
  have HT2 := Lib.hid (fun W (hb : Below w.heap.size w W) => rtime_q later W)
  have HAL := Lib.hid (fun W (hb : Below w.heap.size w W) => alive_q W (hG.below hb))
  have HAG := Lib.hid (fun n W (hb : Below w.heap.size w W) => age_q W P x r (h.below hb) n (hG.below hb) hs)
  obtain ⟨l0, l1, l2, l3, l4, l5, l6, l7, l8, l9, l10⟩ := bxr_cells HX0.out
  have hlaw := fun a b => ages_law x a b
  clear h hG
  obtain ⟨b1, hb1⟩ : ∃ b, b = rightB x := ⟨_, rfl⟩
  obtain ⟨b2, hb2⟩ : ∃ b, b = isT now := ⟨_, rfl⟩
  obtain ⟨b3, hb3⟩ : ∃ b, b = isT later := ⟨_, rfl⟩
  rw [← hb1] at HRI hlaw
  rw [← hb2] at HT1
  rw [← hb3] at HT2
  have H2 := Lib.hid hb2; have H3 := Lib.hid hb3
  clear hb1 hb2 hb3
  cases b1 with
  | false =>
    clear hlaw
    go_enter Tryz.func3, Tryz.ntmps3
    go_wp2_with (first | (go_at_call 15; refine (HAL.out _ HB1.out).mono ?_; rintro e w2 ⟨rfl, hb2⟩; have HB2 := Lib.hid (below_step HB1.out hb2); clear hb2) | (go_at_call 13; refine (HRI.out _ HB0.out).mono ?_; rintro e w1 ⟨rfl, hb1⟩; have HB1 := Lib.hid (below_step HB0.out hb1); have HX1 := Lib.hid (blk_bel hb1 HX0.out); obtain ⟨l0, l1, l2, l3, l4, l5, l6, l7, l8, l9, l10⟩ := bxr_cells HX1.out; clear hb1))
    go_ret
    exact ⟨rfl, HB2.out⟩
  | true =>
    cases b2 with
    | false =>
      clear hlaw
      go_enter Tryz.func3, Tryz.ntmps3
      go_wp2_with (first | (go_at_call 15; refine (HAL.out _ HB2.out).mono ?_; rintro e w3 ⟨rfl, hb3⟩; have HB3 := Lib.hid (below_step HB2.out hb3); clear hb3) | (go_at_call 14; refine (HT1.out _ HB1.out).mono ?_; rintro e w2 ⟨rfl, hb2⟩; have HB2 := Lib.hid (below_step HB1.out hb2); have HX2 := Lib.hid (blk_bel hb2 HX1.out); obtain ⟨l0, l1, l2, l3, l4, l5, l6, l7, l8, l9, l10⟩ := bxr_cells HX2.out; clear hb2) | (go_at_call 13; refine (HRI.out _ HB0.out).mono ?_; rintro e w1 ⟨rfl, hb1⟩; have HB1 := Lib.hid (below_step HB0.out hb1); have HX1 := Lib.hid (blk_bel hb1 HX0.out); obtain ⟨l0, l1, l2, l3, l4, l5, l6, l7, l8, l9, l10⟩ := bxr_cells HX1.out; clear hb1))
      go_ret
      exact ⟨rfl, HB3.out⟩
    | true =>
      cases b3 with
      | false =>
        clear hlaw
        go_enter Tryz.func3, Tryz.ntmps3
        go_wp2_with (first | (go_at_call 15; refine (HAL.out _ HB3.out).mono ?_; rintro e w4 ⟨rfl, hb4⟩; have HB4 := Lib.hid (below_step HB3.out hb4); clear hb4) | (go_at_call 14; refine (HT2.out _ HB2.out).mono ?_; rintro e w3 ⟨rfl, hb3⟩; have HB3 := Lib.hid (below_step HB2.out hb3); have HX3 := Lib.hid (blk_bel hb3 HX2.out); obtain ⟨l0, l1, l2, l3, l4, l5, l6, l7, l8, l9, l10⟩ := bxr_cells HX3.out; clear hb3) | (go_at_call 14; refine (HT1.out _ HB1.out).mono ?_; rintro e w2 ⟨rfl, hb2⟩; have HB2 := Lib.hid (below_step HB1.out hb2); have HX2 := Lib.hid (blk_bel hb2 HX1.out); obtain ⟨l0, l1, l2, l3, l4, l5, l6, l7, l8, l9, l10⟩ := bxr_cells HX2.out; clear hb2) | (go_at_call 13; refine (HRI.out _ HB0.out).mono ?_; rintro e w1 ⟨rfl, hb1⟩; have HB1 := Lib.hid (below_step HB0.out hb1); have HX1 := Lib.hid (blk_bel hb1 HX0.out); obtain ⟨l0, l1, l2, l3, l4, l5, l6, l7, l8, l9, l10⟩ := bxr_cells HX1.out; clear hb1))
        go_ret
        exact ⟨rfl, HB4.out⟩
      | true =>
        have i1 := (isT_iff now).1 H2.out.symm
        have i2 := (isT_iff later).1 H3.out.symm
        obtain ⟨n1, hn1⟩ : ∃ n, n = min now later := ⟨_, rfl⟩
        obtain ⟨n2, hn2⟩ : ∃ n, n = max now later := ⟨_, rfl⟩
        have j1 : isT n1 = true := (isT_iff n1).2 (by omega)
        have j2 : isT n2 = true := (isT_iff n2).2 (by omega)
        have HL := hlaw n1 n2 rfl j1 j2 (by omega)
        have HA1' := Lib.hid (HAG.out n1)
        have HA2' := Lib.hid (HAG.out n2)
        obtain ⟨a1, ha1⟩ : ∃ a, a = ageN x n1 := ⟨_, rfl⟩
        obtain ⟨a2, ha2⟩ : ∃ a, a = ageN x n2 := ⟨_, rfl⟩
        rw [← ha1] at HL HA1'
        rw [← ha2] at HL HA2'
        obtain ⟨k1, k2, k3, k4⟩ := HL
        have hm1 : 0 ≤ n1 ∧ n1 ≤ 1099511627776 := (isT_iff n1).1 j1
        have hm2 : 0 ≤ n2 ∧ n2 ≤ 1099511627776 := (isT_iff n2).1 j2
        have T1 := Lib.hid (show decide (a1 ≥ 0) = true from decide_eq_true (by omega))
        have T2 := Lib.hid (show decide (a1 ≤ a2) = true from decide_eq_true (by omega))
        have T3 := Lib.hid (show decide (wrap64 (a2 - a1) ≤ wrap64 (n2 - n1)) = true from decide_eq_true (by
          have e1 : wrap64 (a2 - a1) = a2 - a1 := by unfold wrap64; omega
          have e2 : wrap64 (n2 - n1) = n2 - n1 := by unfold wrap64; omega
          rw [e1, e2]; exact k3))
        have T4 := Lib.hid (show decide (a2 ≤ 2147483648) = true from decide_eq_true (by omega))
        have N1 := Lib.hid hn1; have N2 := Lib.hid hn2
        clear hlaw ha1 ha2 k1 k2 k3 k4 hm1 hm2 j1 j2 i1 i2 hn1 hn2
        go_enter Tryz.func3, Tryz.ntmps3
        go_upto_region 3 with (first | (go_at_call 14; refine (HT2.out _ HB2.out).mono ?_; rintro e w3 ⟨rfl, hb3⟩; have HB3 := Lib.hid (below_step HB2.out hb3); have HX3 := Lib.hid (blk_bel hb3 HX2.out); obtain ⟨l0, l1, l2, l3, l4, l5, l6, l7, l8, l9, l10⟩ := bxr_cells HX3.out; clear hb3) | (go_at_call 14; refine (HT1.out _ HB1.out).mono ?_; rintro e w2 ⟨rfl, hb2⟩; have HB2 := Lib.hid (below_step HB1.out hb2); have HX2 := Lib.hid (blk_bel hb2 HX1.out); obtain ⟨l0, l1, l2, l3, l4, l5, l6, l7, l8, l9, l10⟩ := bxr_cells HX2.out; clear hb2) | (go_at_call 13; refine (HRI.out _ HB0.out).mono ?_; rintro e w1 ⟨rfl, hb1⟩; have HB1 := Lib.hid (below_step HB0.out hb1); have HX1 := Lib.hid (blk_bel hb1 HX0.out); obtain ⟨l0, l1, l2, l3, l4, l5, l6, l7, l8, l9, l10⟩ := bxr_cells HX1.out; clear hb1))
        obtain ⟨W1, hW1⟩ : ∃ W, W = w3 := ⟨_, rfl⟩
        rw [← hW1] at HB3 HX3 ⊢
        clear hW1
        go_cut [1, 2] (fun v1 v2 wx => v1 = .int .i64 n1 ∧ v2 = .int .i64 n2 ∧ wx = W1)
        case first =>
          go_wp2
          go_meet
          case rel => exact ⟨by rw [N1.out], by rw [N2.out], rfl⟩
        case rest =>
          obtain ⟨rfl, rfl, hwx⟩ := hcut
          replace hwx := hwx.symm
          subst hwx
          have HX := HX3
          have HA1 := Lib.hid (fun W (hb : Below W1.heap.size W1 W) => HA1'.out W (below_step HB3.out hb))
          have HA2 := Lib.hid (fun W (hb : Below W1.heap.size W1 W) => HA2'.out W (below_step HB3.out hb))
          go_upto_region 4 with fail
          refine start_ (n := 10) (S := fun w' => w'.cell? ⟨w.heap.size, 0, none⟩ = some (.string x.f0.f0) ∧ w'.cell? ⟨w.heap.size, 1, none⟩ = some (.string x.f0.f1) ∧ w'.cell? ⟨w.heap.size, 2, none⟩ = some (.string x.f0.f2) ∧ w'.cell? ⟨w.heap.size, 3, none⟩ = some (.string x.f0.f3) ∧ w'.cell? ⟨w.heap.size, 4, none⟩ = some (.slice r.A4 x.f0.f4.length r.c4) ∧ w'.cell? ⟨w.heap.size, 5, none⟩ = some (.slice r.A5 x.f0.f5.length r.c5) ∧ w'.cell? ⟨w.heap.size, 6, none⟩ = some (.int .i64 x.f1.f0) ∧ w'.cell? ⟨w.heap.size, 7, none⟩ = some (.slice r.A7 x.f1.f1.length r.c7) ∧ w'.cell? ⟨w.heap.size, 8, none⟩ = some (.slice r.A8 x.f1.f2.length r.c8) ∧ w'.cell? ⟨w.heap.size, 9, none⟩ = some (.int .i64 x.f2) ∧ w'.cell? ⟨w.heap.size, 10, none⟩ = some (.int .i64 x.f3)) (ds := []) #[false, false, false, false, false, false, false, false, false, false] (by kernel_rfl) rfl rfl ⟨c_of (blk_bel (below_drew (Below.refl _ _)) HX.out) 0 (v := .string x.f0.f0) rfl, c_of (blk_bel (below_drew (Below.refl _ _)) HX.out) 1 (v := .string x.f0.f1) rfl, c_of (blk_bel (below_drew (Below.refl _ _)) HX.out) 2 (v := .string x.f0.f2) rfl, c_of (blk_bel (below_drew (Below.refl _ _)) HX.out) 3 (v := .string x.f0.f3) rfl, c_of (blk_bel (below_drew (Below.refl _ _)) HX.out) 4 (v := .slice r.A4 x.f0.f4.length r.c4) rfl, c_of (blk_bel (below_drew (Below.refl _ _)) HX.out) 5 (v := .slice r.A5 x.f0.f5.length r.c5) rfl, c_of (blk_bel (below_drew (Below.refl _ _)) HX.out) 6 (v := .int .i64 x.f1.f0) rfl, c_of (blk_bel (below_drew (Below.refl _ _)) HX.out) 7 (v := .slice r.A7 x.f1.f1.length r.c7) rfl, c_of (blk_bel (below_drew (Below.refl _ _)) HX.out) 8 (v := .slice r.A8 x.f1.f2.length r.c8) rfl, c_of (blk_bel (below_drew (Below.refl _ _)) HX.out) 9 (v := .int .i64 x.f2) rfl, c_of (blk_bel (below_drew (Below.refl _ _)) HX.out) 10 (v := .int .i64 x.f3) rfl⟩ (fun hHeld => ?_)
          refine pure_ (i := 2) (N := some 31) (v := ?_) (a' := ?_) #[false, false, true, false, false, false, false, false, false, false] rfl rfl (by kernel_rfl) (fun _ _ _ h => h) (Or.inl ⟨by rfl, ?_⟩) ?_ ?_
          rotate_left
          · intro w'
            go_simp
            with_reducible rfl
          rotate_left
          · simp only [Act.put, List.setIfInBounds_toArray, List.set_cons_zero, List.set_cons_succ, i64_w, i32_w]
            rfl
          refine pure_ (i := 6) (N := some 35) (v := ?_) (a' := ?_) #[false, false, true, false, false, false, true, false, false, false] rfl rfl (by kernel_rfl) (fun _ _ _ h => h) (Or.inl ⟨by rfl, ?_⟩) ?_ ?_
          rotate_left
          · intro w'
            go_simp
            with_reducible rfl
          rotate_left
          · simp only [Act.put, List.setIfInBounds_toArray, List.set_cons_zero, List.set_cons_succ, i64_w, i32_w]
            rfl
          refine take_ (i := 0) (N := some 29) (v := ?_) (a' := ?_) #[true, false, true, false, false, false, true, false, false, false] rfl rfl (by kernel_rfl) (fun _ _ _ h => h) (Or.inl ⟨by rfl, ?_⟩) hHeld ?_ ?_
          rotate_left
          · rintro w' ⟨s0, s1, s2, s3, s4, s5, s6, s7, s8, s9, s10⟩
            go_simp
            with_reducible rfl
          rotate_left
          · simp only [Act.put, List.setIfInBounds_toArray, List.set_cons_zero, List.set_cons_succ, i64_w, i32_w]
            rfl
          refine take_ (i := 4) (N := some 33) (v := ?_) (a' := ?_) #[true, false, true, false, true, false, true, false, false, false] rfl rfl (by kernel_rfl) (fun _ _ _ h => h) (Or.inl ⟨by rfl, ?_⟩) hHeld ?_ ?_
          rotate_left
          · rintro w' ⟨s0, s1, s2, s3, s4, s5, s6, s7, s8, s9, s10⟩
            go_simp
            with_reducible rfl
          rotate_left
          · simp only [Act.put, List.setIfInBounds_toArray, List.set_cons_zero, List.set_cons_succ, i64_w, i32_w]
            rfl
          refine one_ (i := 1) (N := some 30) #[true, true, true, false, true, false, true, false, false, false] rfl rfl (by kernel_rfl) (by decide) (fun K hK => ?_)
          refine goes_ Tryz.func17 (by kernel_rfl) rfl #[.agg #[.string x.f0.f0, .string x.f0.f1, .string x.f0.f2, .string x.f0.f3, .slice r.A4 x.f0.f4.length r.c4, .slice r.A5 x.f0.f5.length r.c5, .int .i64 x.f1.f0, .slice r.A7 x.f1.f1.length r.c7, .slice r.A8 x.f1.f2.length r.c8, .int .i64 x.f2, .int .i64 x.f3]] (by rfl) rfl rfl (by simp only [List.map_toArray, List.map_cons, List.map_nil]; rfl) ?_
          with_reducible refine (theirs_q _ x r).mono ?_
          rintro e w4 ⟨rfl, hb4⟩
          refine ⟨_, rfl, ?_⟩
          have HB4 : Hid (Below W1.heap.size W1 w4) := Lib.hid (below_step (below_drew (Below.refl _ _)) hb4)
          refine hK.out _ _ ⟨c_of (blk_bel HB4.out HX.out) 0 (v := .string x.f0.f0) rfl, c_of (blk_bel HB4.out HX.out) 1 (v := .string x.f0.f1) rfl, c_of (blk_bel HB4.out HX.out) 2 (v := .string x.f0.f2) rfl, c_of (blk_bel HB4.out HX.out) 3 (v := .string x.f0.f3) rfl, c_of (blk_bel HB4.out HX.out) 4 (v := .slice r.A4 x.f0.f4.length r.c4) rfl, c_of (blk_bel HB4.out HX.out) 5 (v := .slice r.A5 x.f0.f5.length r.c5) rfl, c_of (blk_bel HB4.out HX.out) 6 (v := .int .i64 x.f1.f0) rfl, c_of (blk_bel HB4.out HX.out) 7 (v := .slice r.A7 x.f1.f1.length r.c7) rfl, c_of (blk_bel HB4.out HX.out) 8 (v := .slice r.A8 x.f1.f2.length r.c8) rfl, c_of (blk_bel HB4.out HX.out) 9 (v := .int .i64 x.f2) rfl, c_of (blk_bel HB4.out HX.out) 10 (v := .int .i64 x.f3) rfl⟩ (fun hHeld => ?_)
          clear hK K
          refine norm_ (a' := ?_) ?_ ?_
          rotate_left
          · show Act.put _ (some 30) _ = _
            simp only [Act.put, List.setIfInBounds_toArray, List.set_cons_zero, List.set_cons_succ, i64_w, i32_w]
            rfl
          refine one_ (i := 3) (N := some 32) #[true, true, true, true, true, false, true, false, false, false] rfl rfl (by kernel_rfl) (by decide) (fun K hK => ?_)
          refine goes_ Tryz.func16 (by kernel_rfl) rfl #[.agg #[.string x.f0.f0, .string x.f0.f1, .string x.f0.f2, .string x.f0.f3, .slice r.A4 x.f0.f4.length r.c4, .slice r.A5 x.f0.f5.length r.c5, .int .i64 x.f1.f0, .slice r.A7 x.f1.f1.length r.c7, .slice r.A8 x.f1.f2.length r.c8, .int .i64 x.f2, .int .i64 x.f3], .int .i64 n1] (by rfl) rfl rfl (by simp only [List.map_toArray, List.map_cons, List.map_nil]; rfl) ?_
          with_reducible refine (HA1.out _ HB4.out).mono ?_
          rintro e w5 ⟨rfl, hb5⟩
          refine ⟨_, rfl, ?_⟩
          have HB5 : Hid (Below W1.heap.size W1 w5) := Lib.hid (below_step HB4.out hb5)
          refine hK.out _ _ ⟨c_of (blk_bel HB5.out HX.out) 0 (v := .string x.f0.f0) rfl, c_of (blk_bel HB5.out HX.out) 1 (v := .string x.f0.f1) rfl, c_of (blk_bel HB5.out HX.out) 2 (v := .string x.f0.f2) rfl, c_of (blk_bel HB5.out HX.out) 3 (v := .string x.f0.f3) rfl, c_of (blk_bel HB5.out HX.out) 4 (v := .slice r.A4 x.f0.f4.length r.c4) rfl, c_of (blk_bel HB5.out HX.out) 5 (v := .slice r.A5 x.f0.f5.length r.c5) rfl, c_of (blk_bel HB5.out HX.out) 6 (v := .int .i64 x.f1.f0) rfl, c_of (blk_bel HB5.out HX.out) 7 (v := .slice r.A7 x.f1.f1.length r.c7) rfl, c_of (blk_bel HB5.out HX.out) 8 (v := .slice r.A8 x.f1.f2.length r.c8) rfl, c_of (blk_bel HB5.out HX.out) 9 (v := .int .i64 x.f2) rfl, c_of (blk_bel HB5.out HX.out) 10 (v := .int .i64 x.f3) rfl⟩ (fun hHeld => ?_)
          clear hK K
          refine norm_ (a' := ?_) ?_ ?_
          rotate_left
          · show Act.put _ (some 32) _ = _
            simp only [Act.put, List.setIfInBounds_toArray, List.set_cons_zero, List.set_cons_succ, i64_w, i32_w]
            rfl
          refine one_ (i := 5) (N := some 34) #[true, true, true, true, true, true, true, false, false, false] rfl rfl (by kernel_rfl) (by decide) (fun K hK => ?_)
          refine goes_ Tryz.func17 (by kernel_rfl) rfl #[.agg #[.string x.f0.f0, .string x.f0.f1, .string x.f0.f2, .string x.f0.f3, .slice r.A4 x.f0.f4.length r.c4, .slice r.A5 x.f0.f5.length r.c5, .int .i64 x.f1.f0, .slice r.A7 x.f1.f1.length r.c7, .slice r.A8 x.f1.f2.length r.c8, .int .i64 x.f2, .int .i64 x.f3]] (by rfl) rfl rfl (by simp only [List.map_toArray, List.map_cons, List.map_nil]; rfl) ?_
          with_reducible refine (theirs_q _ x r).mono ?_
          rintro e w6 ⟨rfl, hb6⟩
          refine ⟨_, rfl, ?_⟩
          have HB6 : Hid (Below W1.heap.size W1 w6) := Lib.hid (below_step HB5.out hb6)
          refine hK.out _ _ ⟨c_of (blk_bel HB6.out HX.out) 0 (v := .string x.f0.f0) rfl, c_of (blk_bel HB6.out HX.out) 1 (v := .string x.f0.f1) rfl, c_of (blk_bel HB6.out HX.out) 2 (v := .string x.f0.f2) rfl, c_of (blk_bel HB6.out HX.out) 3 (v := .string x.f0.f3) rfl, c_of (blk_bel HB6.out HX.out) 4 (v := .slice r.A4 x.f0.f4.length r.c4) rfl, c_of (blk_bel HB6.out HX.out) 5 (v := .slice r.A5 x.f0.f5.length r.c5) rfl, c_of (blk_bel HB6.out HX.out) 6 (v := .int .i64 x.f1.f0) rfl, c_of (blk_bel HB6.out HX.out) 7 (v := .slice r.A7 x.f1.f1.length r.c7) rfl, c_of (blk_bel HB6.out HX.out) 8 (v := .slice r.A8 x.f1.f2.length r.c8) rfl, c_of (blk_bel HB6.out HX.out) 9 (v := .int .i64 x.f2) rfl, c_of (blk_bel HB6.out HX.out) 10 (v := .int .i64 x.f3) rfl⟩ (fun hHeld => ?_)
          clear hK K
          refine norm_ (a' := ?_) ?_ ?_
          rotate_left
          · show Act.put _ (some 34) _ = _
            simp only [Act.put, List.setIfInBounds_toArray, List.set_cons_zero, List.set_cons_succ, i64_w, i32_w]
            rfl
          refine one_ (i := 7) (N := some 36) #[true, true, true, true, true, true, true, true, false, false] rfl rfl (by kernel_rfl) (by decide) (fun K hK => ?_)
          refine goes_ Tryz.func16 (by kernel_rfl) rfl #[.agg #[.string x.f0.f0, .string x.f0.f1, .string x.f0.f2, .string x.f0.f3, .slice r.A4 x.f0.f4.length r.c4, .slice r.A5 x.f0.f5.length r.c5, .int .i64 x.f1.f0, .slice r.A7 x.f1.f1.length r.c7, .slice r.A8 x.f1.f2.length r.c8, .int .i64 x.f2, .int .i64 x.f3], .int .i64 n2] (by rfl) rfl rfl (by simp only [List.map_toArray, List.map_cons, List.map_nil]; rfl) ?_
          with_reducible refine (HA2.out _ HB6.out).mono ?_
          rintro e w7 ⟨rfl, hb7⟩
          refine ⟨_, rfl, ?_⟩
          have HB7 : Hid (Below W1.heap.size W1 w7) := Lib.hid (below_step HB6.out hb7)
          refine hK.out _ _ ⟨c_of (blk_bel HB7.out HX.out) 0 (v := .string x.f0.f0) rfl, c_of (blk_bel HB7.out HX.out) 1 (v := .string x.f0.f1) rfl, c_of (blk_bel HB7.out HX.out) 2 (v := .string x.f0.f2) rfl, c_of (blk_bel HB7.out HX.out) 3 (v := .string x.f0.f3) rfl, c_of (blk_bel HB7.out HX.out) 4 (v := .slice r.A4 x.f0.f4.length r.c4) rfl, c_of (blk_bel HB7.out HX.out) 5 (v := .slice r.A5 x.f0.f5.length r.c5) rfl, c_of (blk_bel HB7.out HX.out) 6 (v := .int .i64 x.f1.f0) rfl, c_of (blk_bel HB7.out HX.out) 7 (v := .slice r.A7 x.f1.f1.length r.c7) rfl, c_of (blk_bel HB7.out HX.out) 8 (v := .slice r.A8 x.f1.f2.length r.c8) rfl, c_of (blk_bel HB7.out HX.out) 9 (v := .int .i64 x.f2) rfl, c_of (blk_bel HB7.out HX.out) 10 (v := .int .i64 x.f3) rfl⟩ (fun hHeld => ?_)
          clear hK K
          refine norm_ (a' := ?_) ?_ ?_
          rotate_left
          · show Act.put _ (some 36) _ = _
            simp only [Act.put, List.setIfInBounds_toArray, List.set_cons_zero, List.set_cons_succ, i64_w, i32_w]
            rfl
          refine pure_ (i := 8) (N := some 7) (v := ?_) (a' := ?_) #[true, true, true, true, true, true, true, true, true, false] rfl rfl (by kernel_rfl) (fun _ _ _ h => h) (Or.inl ⟨by rfl, ?_⟩) ?_ ?_
          rotate_left
          · intro w'
            go_simp
            with_reducible rfl
          rotate_left
          · simp only [Act.put, List.setIfInBounds_toArray, List.set_cons_zero, List.set_cons_succ, i64_w, i32_w]
            rfl
          refine pure_ (i := 9) (N := some 8) (v := ?_) (a' := ?_) #[true, true, true, true, true, true, true, true, true, true] rfl rfl (by kernel_rfl) (fun _ _ _ h => h) (Or.inl ⟨by rfl, ?_⟩) ?_ ?_
          rotate_left
          · intro w'
            go_simp
            with_reducible rfl
          rotate_left
          · simp only [Act.put, List.setIfInBounds_toArray, List.set_cons_zero, List.set_cons_succ, i64_w, i32_w]
            rfl
          refine done_ (by kernel_rfl) ?_
          have HBw := Lib.hid (below_step HB3.out HB7.out)
          have t1 := T1.out; have t2 := T2.out; have t3 := T3.out; have t4 := T4.out
          go_wp2_with (go_at_call 15; refine (HAL.out _ HBw.out).mono ?_; rintro e w8 ⟨rfl, hb8⟩; have HB8 := Lib.hid (below_step HBw.out hb8); clear hb8)
          go_ret
          exact ⟨rfl, HB8.out⟩
end Go.Proofs.YtbnhlekehndhkaaGreatDoor.Fr

