import Derived.Test.YtbnhlekehndhkaaGreatDoorYFrMD

/- FreshYoung: its walk. -/
namespace Go.Proofs.YtbnhlekehndhkaaGreatDoor.Fr
open Go.RowKit Go.Proofs.YtbnhlekehndhkaaGreatDoorW.PrintWords Go.Proofs.YtbnhlekehndhkaaGreatDoorW.PrintLast Go.Proofs.YtbnhlekehndhkaaGreatDoorW.PrintMore Go.Proofs.YtbnhlekehndhkaaGreatDoor.G Go.Proofs.YtbnhlekehndhkaaGreatDoor.V Go.Proofs.YtbnhlekehndhkaaGreatDoor.S
set_option linter.unusedVariables false
set_option linter.unusedSimpArgs false
theorem theirs_h (w : World) (x : S34) (r : Rf) : ∀ W, Below w.heap.size w W → Calls Tryz.prog 17 #[.agg (Vx x r)] W fun e w' => e = .returned (.agg (Vx x r)) ∧ Below W.heap.size W w' := fun W _ => theirs_q W x r
set_option maxRecDepth 100000 in
set_option maxHeartbeats 16000000 in
theorem young_calls (w : World) (P : Nat → Prop) (x : S34) (r : Rf) (h : Ex w P x r) (q : S25) (A4 : Option Addr) (c4 : Nat) (A5 : Option Addr) (c5 : Nat) (hC : Kd.C k59 w A4 q.f4.length q.f4) (hc : q.f4.length ≤ c4) (now : Int)
    (hG : Da.Glob w) (hs : wt x.f1.f1 < 268435456) (hq : wt q.f4 < 268435456) :
    Calls Tryz.prog 4 #[.agg (Vx x r), .agg (Vq q A4 c4 A5 c5), .int .i64 now] w fun e w' => e = .returned (.bool true) ∧ Below w.heap.size w w' := by
  obtain ⟨W0, hW0⟩ : ∃ W, W = (w.alloc (.cells (Vx x r) 29)).alloc (.cells (Vq q A4 c4 A5 c5) 25) := ⟨_, rfl⟩
  have HB0 : Hid (Below w.heap.size w W0) := Lib.hid (by rw [hW0]; exact below_alloc (below_alloc (Below.refl _ _) _) _)
  have HX : Hid (W0.heap[w.heap.size]? = some (Br x r)) := Lib.hid (by rw [hW0, heap_alloc_old _ _ (by simp)]; exact heap_alloc_new w _)
  have HQ : Hid (W0.heap[w.heap.size + 1]? = some (.cells (Vq q A4 c4 A5 c5) 25 (0, 0))) := Lib.hid (by
    have := heap_alloc_new (w.alloc (.cells (Vx x r) 29)) (.cells (Vq q A4 c4 A5 c5) 25)
    rw [World.size_alloc] at this
    rw [hW0]; exact this)
  have HEQ := Lib.hid hW0
  have HTH := Lib.hid (theirs_h w x r)
  have HAL := Lib.hid (fun W (hb : Below w.heap.size w W) => alive_q W (hG.below hb))
  have HVE0 := Lib.hid (fun W (hb : Below w.heap.size w W) => verd_q W P x r (h.below hb) q A4 c4 A5 c5 (Kd.C_below hC hb) hc now (hG.below hb) hs hq)
  have HAG := Lib.hid (fun W (hb : Below w.heap.size w W) => age_q W P x r (h.below hb) now (hG.below hb) hs)
  have HLI := Lib.hid (fun W (hb : Below w.heap.size w W) => life_q W P x r (h.below hb) (hG.below hb) hs)
  have HRD := Lib.hid (fun W (hb : Below w.heap.size w W) => rdirs_of A4 c4 q.f4 W (Kd.C_below hC hb) hc hq)
  have hlaw := young_law x q now
  have b1 := age_bd x now
  have b2 := life_bd x
  obtain ⟨v, hv⟩ : ∃ v, v = verdN x q now := ⟨_, rfl⟩
  obtain ⟨ag, hag⟩ : ∃ v, v = ageN x now := ⟨_, rfl⟩
  obtain ⟨li, hli⟩ : ∃ v, v = (lifeN x).1 := ⟨_, rfl⟩
  obtain ⟨R, hR⟩ : ∃ v, v = dirsOf q.f4 := ⟨_, rfl⟩
  rw [← hv] at HVE0 hlaw
  rw [← hag] at HAG hlaw b1
  rw [← hli] at HLI hlaw b2
  rw [← hR] at HRD hlaw
  unfold Fb.Ct.cells at HRD
  clear h hC hG hW0 hv hag hli hR
  obtain ⟨W1, hW1⟩ : ∃ W, W = W0 := ⟨_, rfl⟩
  rw [← hW1] at HB0 HX HQ HEQ
  clear hW1
  have HVE := Lib.hid (fun W (hb : Below W1.heap.size W1 W) => HVE0.out W (below_step HB0.out hb))
  by_cases h1 : v = 1
  · have tv : (v != 1) = false := by rw [h1]; rfl
    obtain ⟨p1, p2, p3⟩ := hlaw h1
    have e1 : wrap64 (ag - li) = ag - li := by unfold wrap64; omega
    have e2 : wrap64 (li - ag) = li - ag := by unfold wrap64; omega
    have P1 := Lib.hid p1; have P2 := Lib.hid p2; have P3 := Lib.hid p3; have E1 := Lib.hid e1; have E2 := Lib.hid e2
    clear hlaw b1 b2 p1 p2 p3 e1 e2 h1
    go_enter Tryz.func4, Tryz.ntmps4
    go_upto_region 1 with fail
    rw [← HEQ.out]
    refine start_ (n := 6) (S := fun w' => w'.cell? ⟨w.heap.size, 0, none⟩ = some (.string x.f0.f0) ∧ w'.cell? ⟨w.heap.size, 1, none⟩ = some (.string x.f0.f1) ∧ w'.cell? ⟨w.heap.size, 2, none⟩ = some (.string x.f0.f2) ∧ w'.cell? ⟨w.heap.size, 3, none⟩ = some (.string x.f0.f3) ∧ w'.cell? ⟨w.heap.size, 4, none⟩ = some (.slice r.A4 x.f0.f4.length r.c4) ∧ w'.cell? ⟨w.heap.size, 5, none⟩ = some (.slice r.A5 x.f0.f5.length r.c5) ∧ w'.cell? ⟨w.heap.size, 6, none⟩ = some (.int .i64 x.f1.f0) ∧ w'.cell? ⟨w.heap.size, 7, none⟩ = some (.slice r.A7 x.f1.f1.length r.c7) ∧ w'.cell? ⟨w.heap.size, 8, none⟩ = some (.slice r.A8 x.f1.f2.length r.c8) ∧ w'.cell? ⟨w.heap.size, 9, none⟩ = some (.int .i64 x.f2) ∧ w'.cell? ⟨w.heap.size, 10, none⟩ = some (.int .i64 x.f3) ∧ w'.cell? ⟨w.heap.size + 1, 0, none⟩ = some (.string q.f0) ∧ w'.cell? ⟨w.heap.size + 1, 1, none⟩ = some (.string q.f1) ∧ w'.cell? ⟨w.heap.size + 1, 2, none⟩ = some (.string q.f2) ∧ w'.cell? ⟨w.heap.size + 1, 3, none⟩ = some (.string q.f3) ∧ w'.cell? ⟨w.heap.size + 1, 4, none⟩ = some (.slice A4 q.f4.length c4) ∧ w'.cell? ⟨w.heap.size + 1, 5, none⟩ = some (.slice A5 q.f5.length c5)) (ds := []) #[false, false, false, false, false, false] (by kernel_rfl) rfl rfl ⟨c_of (blk_bel (below_drew (Below.refl _ _)) HX.out) 0 (v := .string x.f0.f0) rfl, c_of (blk_bel (below_drew (Below.refl _ _)) HX.out) 1 (v := .string x.f0.f1) rfl, c_of (blk_bel (below_drew (Below.refl _ _)) HX.out) 2 (v := .string x.f0.f2) rfl, c_of (blk_bel (below_drew (Below.refl _ _)) HX.out) 3 (v := .string x.f0.f3) rfl, c_of (blk_bel (below_drew (Below.refl _ _)) HX.out) 4 (v := .slice r.A4 x.f0.f4.length r.c4) rfl, c_of (blk_bel (below_drew (Below.refl _ _)) HX.out) 5 (v := .slice r.A5 x.f0.f5.length r.c5) rfl, c_of (blk_bel (below_drew (Below.refl _ _)) HX.out) 6 (v := .int .i64 x.f1.f0) rfl, c_of (blk_bel (below_drew (Below.refl _ _)) HX.out) 7 (v := .slice r.A7 x.f1.f1.length r.c7) rfl, c_of (blk_bel (below_drew (Below.refl _ _)) HX.out) 8 (v := .slice r.A8 x.f1.f2.length r.c8) rfl, c_of (blk_bel (below_drew (Below.refl _ _)) HX.out) 9 (v := .int .i64 x.f2) rfl, c_of (blk_bel (below_drew (Below.refl _ _)) HX.out) 10 (v := .int .i64 x.f3) rfl, c_of (blk_bel (below_drew (Below.refl _ _)) HQ.out) 0 (v := .string q.f0) rfl, c_of (blk_bel (below_drew (Below.refl _ _)) HQ.out) 1 (v := .string q.f1) rfl, c_of (blk_bel (below_drew (Below.refl _ _)) HQ.out) 2 (v := .string q.f2) rfl, c_of (blk_bel (below_drew (Below.refl _ _)) HQ.out) 3 (v := .string q.f3) rfl, c_of (blk_bel (below_drew (Below.refl _ _)) HQ.out) 4 (v := .slice A4 q.f4.length c4) rfl, c_of (blk_bel (below_drew (Below.refl _ _)) HQ.out) 5 (v := .slice A5 q.f5.length c5) rfl⟩ (fun hHeld => ?_)
    refine pure_ (i := 3) (N := some 14) (v := ?_) (a' := ?_) #[false, false, false, true, false, false] rfl rfl (by kernel_rfl) (fun _ _ _ h => h) (Or.inl ⟨by rfl, ?_⟩) ?_ ?_
    rotate_left
    · intro w'
      go_simp
      with_reducible rfl
    rotate_left
    · simp only [Act.put, List.setIfInBounds_toArray, List.set_cons_zero, List.set_cons_succ, i64_w, i32_w]
      rfl
    refine take_ (i := 0) (N := some 11) (v := ?_) (a' := ?_) #[true, false, false, true, false, false] rfl rfl (by kernel_rfl) (fun _ _ _ h => h) (Or.inl ⟨by rfl, ?_⟩) hHeld ?_ ?_
    rotate_left
    · rintro w' ⟨s0, s1, s2, s3, s4, s5, s6, s7, s8, s9, s10, s11, s12, s13, s14, s15, s16⟩
      go_simp
      with_reducible rfl
    rotate_left
    · simp only [Act.put, List.setIfInBounds_toArray, List.set_cons_zero, List.set_cons_succ, i64_w, i32_w]
      rfl
    refine take_ (i := 2) (N := some 13) (v := ?_) (a' := ?_) #[true, false, true, true, false, false] rfl rfl (by kernel_rfl) (fun _ _ _ h => h) (Or.inl ⟨by rfl, ?_⟩) hHeld ?_ ?_
    rotate_left
    · rintro w' ⟨s0, s1, s2, s3, s4, s5, s6, s7, s8, s9, s10, s11, s12, s13, s14, s15, s16⟩
      go_simp
      with_reducible rfl
    rotate_left
    · simp only [Act.put, List.setIfInBounds_toArray, List.set_cons_zero, List.set_cons_succ, i64_w, i32_w]
      rfl
    refine one_ (i := 1) (N := some 12) #[true, true, true, true, false, false] rfl rfl (by kernel_rfl) (by decide) (fun K hK => ?_)
    refine goes_ Tryz.func17 (by kernel_rfl) rfl #[.agg #[.string x.f0.f0, .string x.f0.f1, .string x.f0.f2, .string x.f0.f3, .slice r.A4 x.f0.f4.length r.c4, .slice r.A5 x.f0.f5.length r.c5, .int .i64 x.f1.f0, .slice r.A7 x.f1.f1.length r.c7, .slice r.A8 x.f1.f2.length r.c8, .int .i64 x.f2, .int .i64 x.f3]] (by rfl) rfl rfl (by simp only [List.map_toArray, List.map_cons, List.map_nil]; rfl) ?_
    with_reducible refine (theirs_q _ x r).mono ?_
    rintro e w4 ⟨rfl, hb4⟩
    refine ⟨_, rfl, ?_⟩
    have HB4 : Hid (Below W1.heap.size W1 w4) := Lib.hid (below_step (below_drew (Below.refl _ _)) hb4)
    refine hK.out _ _ ⟨c_of (blk_bel HB4.out HX.out) 0 (v := .string x.f0.f0) rfl, c_of (blk_bel HB4.out HX.out) 1 (v := .string x.f0.f1) rfl, c_of (blk_bel HB4.out HX.out) 2 (v := .string x.f0.f2) rfl, c_of (blk_bel HB4.out HX.out) 3 (v := .string x.f0.f3) rfl, c_of (blk_bel HB4.out HX.out) 4 (v := .slice r.A4 x.f0.f4.length r.c4) rfl, c_of (blk_bel HB4.out HX.out) 5 (v := .slice r.A5 x.f0.f5.length r.c5) rfl, c_of (blk_bel HB4.out HX.out) 6 (v := .int .i64 x.f1.f0) rfl, c_of (blk_bel HB4.out HX.out) 7 (v := .slice r.A7 x.f1.f1.length r.c7) rfl, c_of (blk_bel HB4.out HX.out) 8 (v := .slice r.A8 x.f1.f2.length r.c8) rfl, c_of (blk_bel HB4.out HX.out) 9 (v := .int .i64 x.f2) rfl, c_of (blk_bel HB4.out HX.out) 10 (v := .int .i64 x.f3) rfl, c_of (blk_bel HB4.out HQ.out) 0 (v := .string q.f0) rfl, c_of (blk_bel HB4.out HQ.out) 1 (v := .string q.f1) rfl, c_of (blk_bel HB4.out HQ.out) 2 (v := .string q.f2) rfl, c_of (blk_bel HB4.out HQ.out) 3 (v := .string q.f3) rfl, c_of (blk_bel HB4.out HQ.out) 4 (v := .slice A4 q.f4.length c4) rfl, c_of (blk_bel HB4.out HQ.out) 5 (v := .slice A5 q.f5.length c5) rfl⟩ (fun hHeld => ?_)
    clear hK K
    refine norm_ (a' := ?_) ?_ ?_
    rotate_left
    · show Act.put _ (some 12) _ = _
      simp only [Act.put, List.setIfInBounds_toArray, List.set_cons_zero, List.set_cons_succ, i64_w, i32_w]
      rfl
    refine one_ (i := 4) (N := some 15) #[true, true, true, true, true, false] rfl rfl (by kernel_rfl) (by decide) (fun K hK => ?_)
    refine goes_ Tryz.func18 (by kernel_rfl) rfl #[.agg #[.string x.f0.f0, .string x.f0.f1, .string x.f0.f2, .string x.f0.f3, .slice r.A4 x.f0.f4.length r.c4, .slice r.A5 x.f0.f5.length r.c5, .int .i64 x.f1.f0, .slice r.A7 x.f1.f1.length r.c7, .slice r.A8 x.f1.f2.length r.c8, .int .i64 x.f2, .int .i64 x.f3], .agg #[.string q.f0, .string q.f1, .string q.f2, .string q.f3, .slice A4 q.f4.length c4, .slice A5 q.f5.length c5], .int .i64 now] (by rfl) rfl rfl (by simp only [List.map_toArray, List.map_cons, List.map_nil]; rfl) ?_
    with_reducible refine (HVE.out _ HB4.out).mono ?_
    rintro e w5 ⟨rfl, hb5⟩
    refine ⟨_, rfl, ?_⟩
    have HB5 : Hid (Below W1.heap.size W1 w5) := Lib.hid (below_step HB4.out hb5)
    refine hK.out _ _ ⟨c_of (blk_bel HB5.out HX.out) 0 (v := .string x.f0.f0) rfl, c_of (blk_bel HB5.out HX.out) 1 (v := .string x.f0.f1) rfl, c_of (blk_bel HB5.out HX.out) 2 (v := .string x.f0.f2) rfl, c_of (blk_bel HB5.out HX.out) 3 (v := .string x.f0.f3) rfl, c_of (blk_bel HB5.out HX.out) 4 (v := .slice r.A4 x.f0.f4.length r.c4) rfl, c_of (blk_bel HB5.out HX.out) 5 (v := .slice r.A5 x.f0.f5.length r.c5) rfl, c_of (blk_bel HB5.out HX.out) 6 (v := .int .i64 x.f1.f0) rfl, c_of (blk_bel HB5.out HX.out) 7 (v := .slice r.A7 x.f1.f1.length r.c7) rfl, c_of (blk_bel HB5.out HX.out) 8 (v := .slice r.A8 x.f1.f2.length r.c8) rfl, c_of (blk_bel HB5.out HX.out) 9 (v := .int .i64 x.f2) rfl, c_of (blk_bel HB5.out HX.out) 10 (v := .int .i64 x.f3) rfl, c_of (blk_bel HB5.out HQ.out) 0 (v := .string q.f0) rfl, c_of (blk_bel HB5.out HQ.out) 1 (v := .string q.f1) rfl, c_of (blk_bel HB5.out HQ.out) 2 (v := .string q.f2) rfl, c_of (blk_bel HB5.out HQ.out) 3 (v := .string q.f3) rfl, c_of (blk_bel HB5.out HQ.out) 4 (v := .slice A4 q.f4.length c4) rfl, c_of (blk_bel HB5.out HQ.out) 5 (v := .slice A5 q.f5.length c5) rfl⟩ (fun hHeld => ?_)
    clear hK K
    refine norm_ (a' := ?_) ?_ ?_
    rotate_left
    · show Act.put _ (some 15) _ = _
      simp only [Act.put, List.setIfInBounds_toArray, List.set_cons_zero, List.set_cons_succ, i64_w, i32_w]
      rfl
    refine pure_ (i := 5) (N := some 16) (v := ?_) (a' := ?_) #[true, true, true, true, true, true] rfl rfl (by kernel_rfl) (fun _ _ _ h => h) (Or.inl ⟨by rfl, ?_⟩) ?_ ?_
    rotate_left
    · intro w'
      go_simp
      with_reducible rfl
    rotate_left
    · simp only [Act.put, List.setIfInBounds_toArray, List.set_cons_zero, List.set_cons_succ, i64_w, i32_w]
      rfl
    refine done_ (by kernel_rfl) ?_
    have HBa := Lib.hid (below_step HB0.out HB5.out)
    have HXa := Lib.hid (blk_bel HB5.out HX.out)
    have HQa := Lib.hid (blk_bel HB5.out HQ.out)
    obtain ⟨l0, l1, l2, l3, l4, l5, l6, l7, l8, l9, l10⟩ := bxr_cells HXa.out
    go_upto_region 6 with (first | (go_at_call 20; refine (HRD.out _ HBe.out).mono ?_; rintro e wf ⟨rfl, hbf⟩; have HBf := Lib.hid (below_step HBe.out hbf); have HXf := Lib.hid (blk_bel hbf HXe.out); have HQf := Lib.hid (blk_bel hbf HQe.out); obtain ⟨l0, l1, l2, l3, l4, l5, l6, l7, l8, l9, l10⟩ := bxr_cells HXf.out; have q4_ := c_of HQf.out 4 (v := .slice A4 q.f4.length c4) rfl; clear hbf) | (go_at_call 19; refine (HLI.out _ HBd.out).mono ?_; rintro e we ⟨rfl, hbe⟩; have HBe := Lib.hid (below_step HBd.out hbe); have HXe := Lib.hid (blk_bel hbe HXd.out); have HQe := Lib.hid (blk_bel hbe HQd.out); obtain ⟨l0, l1, l2, l3, l4, l5, l6, l7, l8, l9, l10⟩ := bxr_cells HXe.out; have q4_ := c_of HQe.out 4 (v := .slice A4 q.f4.length c4) rfl; clear hbe) | (go_at_call 17; refine (HTH.out _ HBc.out).mono ?_; rintro e wd ⟨rfl, hbd⟩; have HBd := Lib.hid (below_step HBc.out hbd); have HXd := Lib.hid (blk_bel hbd HXc.out); have HQd := Lib.hid (blk_bel hbd HQc.out); obtain ⟨l0, l1, l2, l3, l4, l5, l6, l7, l8, l9, l10⟩ := bxr_cells HXd.out; have q4_ := c_of HQd.out 4 (v := .slice A4 q.f4.length c4) rfl; clear hbd) | (go_at_call 16; refine (HAG.out _ HBb.out).mono ?_; rintro e wc ⟨rfl, hbc⟩; have HBc := Lib.hid (below_step HBb.out hbc); have HXc := Lib.hid (blk_bel hbc HXb.out); have HQc := Lib.hid (blk_bel hbc HQb.out); obtain ⟨l0, l1, l2, l3, l4, l5, l6, l7, l8, l9, l10⟩ := bxr_cells HXc.out; have q4_ := c_of HQc.out 4 (v := .slice A4 q.f4.length c4) rfl; clear hbc) | (go_at_call 17; refine (HTH.out _ HBa.out).mono ?_; rintro e wb ⟨rfl, hbb⟩; have HBb := Lib.hid (below_step HBa.out hbb); have HXb := Lib.hid (blk_bel hbb HXa.out); have HQb := Lib.hid (blk_bel hbb HQa.out); obtain ⟨l0, l1, l2, l3, l4, l5, l6, l7, l8, l9, l10⟩ := bxr_cells HXb.out; have q4_ := c_of HQb.out 4 (v := .slice A4 q.f4.length c4) rfl; clear hbb))
    obtain ⟨W6, hW6⟩ : ∃ W, W = wf.alloc (.cells #[.bool (R.fl 0), .bool (R.fl 1), .bool (R.fl 2), .bool (R.fl 3), .bool (R.fl 4), .bool (R.fl 5), .int .i64 (R.nm 6), .int .i64 (R.nm 7), .int .i64 (R.nm 8), .int .i64 (R.nm 9), .int .i64 (R.nm 10), .int .i64 (R.nm 11)] 41) := ⟨_, rfl⟩
    rw [← hW6]
    have HCC : Hid (W6.heap[wf.heap.size]? = some (.cells #[.bool (R.fl 0), .bool (R.fl 1), .bool (R.fl 2), .bool (R.fl 3), .bool (R.fl 4), .bool (R.fl 5), .int .i64 (R.nm 6), .int .i64 (R.nm 7), .int .i64 (R.nm 8), .int .i64 (R.nm 9), .int .i64 (R.nm 10), .int .i64 (R.nm 11)] 41 (0, 0))) := Lib.hid (by rw [hW6]; exact heap_alloc_new _ _)
    have HB6 : Hid (Below w.heap.size w W6) := Lib.hid (by rw [hW6]; exact below_alloc HBf.out _)
    clear hW6
    have r6 := c_of HCC.out 6 (v := .int .i64 (R.nm 6)) rfl
    have r8 := c_of HCC.out 8 (v := .int .i64 (R.nm 8)) rfl
    have r9 := c_of HCC.out 9 (v := .int .i64 (R.nm 9)) rfl
    by_cases ca : ag < li
    · have ta : decide (ag < li) = true := decide_eq_true ca
      by_cases cb : R.nm 6 < 0
      · have tb : decide (R.nm 6 < 0) = true := decide_eq_true cb
        by_cases cc : R.nm 8 < 0
        · have tc : decide (R.nm 8 < 0) = true := decide_eq_true cc
          clear ca cb cc
          go_wp2_with (go_at_call 15; refine (HAL.out _ HB6.out).mono ?_; rintro e w8 ⟨rfl, hb8⟩; have HB8 := Lib.hid (below_step HB6.out hb8); clear hb8)
          go_ret
          exact ⟨rfl, HB8.out⟩
        · have tc : decide (R.nm 8 < 0) = false := decide_eq_false cc
          have uc : decide (wrap64 (li - ag) ≥ R.nm 8) = true := decide_eq_true (by rw [E2.out]; have := P3.out; omega)
          clear ca cb cc
          go_wp2_with (go_at_call 15; refine (HAL.out _ HB6.out).mono ?_; rintro e w8 ⟨rfl, hb8⟩; have HB8 := Lib.hid (below_step HB6.out hb8); clear hb8)
          go_ret
          exact ⟨rfl, HB8.out⟩
      · have tb : decide (R.nm 6 < 0) = false := decide_eq_false cb
        have ub : decide (ag ≤ R.nm 6) = true := decide_eq_true (by have := P2.out; omega)
        by_cases cc : R.nm 8 < 0
        · have tc : decide (R.nm 8 < 0) = true := decide_eq_true cc
          clear ca cb cc
          go_wp2_with (go_at_call 15; refine (HAL.out _ HB6.out).mono ?_; rintro e w8 ⟨rfl, hb8⟩; have HB8 := Lib.hid (below_step HB6.out hb8); clear hb8)
          go_ret
          exact ⟨rfl, HB8.out⟩
        · have tc : decide (R.nm 8 < 0) = false := decide_eq_false cc
          have uc : decide (wrap64 (li - ag) ≥ R.nm 8) = true := decide_eq_true (by rw [E2.out]; have := P3.out; omega)
          clear ca cb cc
          go_wp2_with (go_at_call 15; refine (HAL.out _ HB6.out).mono ?_; rintro e w8 ⟨rfl, hb8⟩; have HB8 := Lib.hid (below_step HB6.out hb8); clear hb8)
          go_ret
          exact ⟨rfl, HB8.out⟩
    · have ta : decide (ag < li) = false := decide_eq_false ca
      have ua : decide (R.nm 9 ≥ wrap64 (ag - li)) = true := decide_eq_true (by rw [E1.out]; have := P1.out; omega)
      by_cases cb : R.nm 6 < 0
      · have tb : decide (R.nm 6 < 0) = true := decide_eq_true cb
        by_cases cc : R.nm 8 < 0
        · have tc : decide (R.nm 8 < 0) = true := decide_eq_true cc
          clear ca cb cc
          go_wp2_with (go_at_call 15; refine (HAL.out _ HB6.out).mono ?_; rintro e w8 ⟨rfl, hb8⟩; have HB8 := Lib.hid (below_step HB6.out hb8); clear hb8)
          go_ret
          exact ⟨rfl, HB8.out⟩
        · have tc : decide (R.nm 8 < 0) = false := decide_eq_false cc
          have uc : decide (wrap64 (li - ag) ≥ R.nm 8) = true := decide_eq_true (by rw [E2.out]; have := P3.out; omega)
          clear ca cb cc
          go_wp2_with (go_at_call 15; refine (HAL.out _ HB6.out).mono ?_; rintro e w8 ⟨rfl, hb8⟩; have HB8 := Lib.hid (below_step HB6.out hb8); clear hb8)
          go_ret
          exact ⟨rfl, HB8.out⟩
      · have tb : decide (R.nm 6 < 0) = false := decide_eq_false cb
        have ub : decide (ag ≤ R.nm 6) = true := decide_eq_true (by have := P2.out; omega)
        by_cases cc : R.nm 8 < 0
        · have tc : decide (R.nm 8 < 0) = true := decide_eq_true cc
          clear ca cb cc
          go_wp2_with (go_at_call 15; refine (HAL.out _ HB6.out).mono ?_; rintro e w8 ⟨rfl, hb8⟩; have HB8 := Lib.hid (below_step HB6.out hb8); clear hb8)
          go_ret
          exact ⟨rfl, HB8.out⟩
        · have tc : decide (R.nm 8 < 0) = false := decide_eq_false cc
          have uc : decide (wrap64 (li - ag) ≥ R.nm 8) = true := decide_eq_true (by rw [E2.out]; have := P3.out; omega)
          clear ca cb cc
          go_wp2_with (go_at_call 15; refine (HAL.out _ HB6.out).mono ?_; rintro e w8 ⟨rfl, hb8⟩; have HB8 := Lib.hid (below_step HB6.out hb8); clear hb8)
          go_ret
          exact ⟨rfl, HB8.out⟩
  · have tv : (v != 1) = true := bne_iff_ne.2 h1
    clear hlaw b1 b2 h1
    go_enter Tryz.func4, Tryz.ntmps4
    go_upto_region 1 with fail
    rw [← HEQ.out]
    refine start_ (n := 6) (S := fun w' => w'.cell? ⟨w.heap.size, 0, none⟩ = some (.string x.f0.f0) ∧ w'.cell? ⟨w.heap.size, 1, none⟩ = some (.string x.f0.f1) ∧ w'.cell? ⟨w.heap.size, 2, none⟩ = some (.string x.f0.f2) ∧ w'.cell? ⟨w.heap.size, 3, none⟩ = some (.string x.f0.f3) ∧ w'.cell? ⟨w.heap.size, 4, none⟩ = some (.slice r.A4 x.f0.f4.length r.c4) ∧ w'.cell? ⟨w.heap.size, 5, none⟩ = some (.slice r.A5 x.f0.f5.length r.c5) ∧ w'.cell? ⟨w.heap.size, 6, none⟩ = some (.int .i64 x.f1.f0) ∧ w'.cell? ⟨w.heap.size, 7, none⟩ = some (.slice r.A7 x.f1.f1.length r.c7) ∧ w'.cell? ⟨w.heap.size, 8, none⟩ = some (.slice r.A8 x.f1.f2.length r.c8) ∧ w'.cell? ⟨w.heap.size, 9, none⟩ = some (.int .i64 x.f2) ∧ w'.cell? ⟨w.heap.size, 10, none⟩ = some (.int .i64 x.f3) ∧ w'.cell? ⟨w.heap.size + 1, 0, none⟩ = some (.string q.f0) ∧ w'.cell? ⟨w.heap.size + 1, 1, none⟩ = some (.string q.f1) ∧ w'.cell? ⟨w.heap.size + 1, 2, none⟩ = some (.string q.f2) ∧ w'.cell? ⟨w.heap.size + 1, 3, none⟩ = some (.string q.f3) ∧ w'.cell? ⟨w.heap.size + 1, 4, none⟩ = some (.slice A4 q.f4.length c4) ∧ w'.cell? ⟨w.heap.size + 1, 5, none⟩ = some (.slice A5 q.f5.length c5)) (ds := []) #[false, false, false, false, false, false] (by kernel_rfl) rfl rfl ⟨c_of (blk_bel (below_drew (Below.refl _ _)) HX.out) 0 (v := .string x.f0.f0) rfl, c_of (blk_bel (below_drew (Below.refl _ _)) HX.out) 1 (v := .string x.f0.f1) rfl, c_of (blk_bel (below_drew (Below.refl _ _)) HX.out) 2 (v := .string x.f0.f2) rfl, c_of (blk_bel (below_drew (Below.refl _ _)) HX.out) 3 (v := .string x.f0.f3) rfl, c_of (blk_bel (below_drew (Below.refl _ _)) HX.out) 4 (v := .slice r.A4 x.f0.f4.length r.c4) rfl, c_of (blk_bel (below_drew (Below.refl _ _)) HX.out) 5 (v := .slice r.A5 x.f0.f5.length r.c5) rfl, c_of (blk_bel (below_drew (Below.refl _ _)) HX.out) 6 (v := .int .i64 x.f1.f0) rfl, c_of (blk_bel (below_drew (Below.refl _ _)) HX.out) 7 (v := .slice r.A7 x.f1.f1.length r.c7) rfl, c_of (blk_bel (below_drew (Below.refl _ _)) HX.out) 8 (v := .slice r.A8 x.f1.f2.length r.c8) rfl, c_of (blk_bel (below_drew (Below.refl _ _)) HX.out) 9 (v := .int .i64 x.f2) rfl, c_of (blk_bel (below_drew (Below.refl _ _)) HX.out) 10 (v := .int .i64 x.f3) rfl, c_of (blk_bel (below_drew (Below.refl _ _)) HQ.out) 0 (v := .string q.f0) rfl, c_of (blk_bel (below_drew (Below.refl _ _)) HQ.out) 1 (v := .string q.f1) rfl, c_of (blk_bel (below_drew (Below.refl _ _)) HQ.out) 2 (v := .string q.f2) rfl, c_of (blk_bel (below_drew (Below.refl _ _)) HQ.out) 3 (v := .string q.f3) rfl, c_of (blk_bel (below_drew (Below.refl _ _)) HQ.out) 4 (v := .slice A4 q.f4.length c4) rfl, c_of (blk_bel (below_drew (Below.refl _ _)) HQ.out) 5 (v := .slice A5 q.f5.length c5) rfl⟩ (fun hHeld => ?_)
    refine pure_ (i := 3) (N := some 14) (v := ?_) (a' := ?_) #[false, false, false, true, false, false] rfl rfl (by kernel_rfl) (fun _ _ _ h => h) (Or.inl ⟨by rfl, ?_⟩) ?_ ?_
    rotate_left
    · intro w'
      go_simp
      with_reducible rfl
    rotate_left
    · simp only [Act.put, List.setIfInBounds_toArray, List.set_cons_zero, List.set_cons_succ, i64_w, i32_w]
      rfl
    refine take_ (i := 0) (N := some 11) (v := ?_) (a' := ?_) #[true, false, false, true, false, false] rfl rfl (by kernel_rfl) (fun _ _ _ h => h) (Or.inl ⟨by rfl, ?_⟩) hHeld ?_ ?_
    rotate_left
    · rintro w' ⟨s0, s1, s2, s3, s4, s5, s6, s7, s8, s9, s10, s11, s12, s13, s14, s15, s16⟩
      go_simp
      with_reducible rfl
    rotate_left
    · simp only [Act.put, List.setIfInBounds_toArray, List.set_cons_zero, List.set_cons_succ, i64_w, i32_w]
      rfl
    refine take_ (i := 2) (N := some 13) (v := ?_) (a' := ?_) #[true, false, true, true, false, false] rfl rfl (by kernel_rfl) (fun _ _ _ h => h) (Or.inl ⟨by rfl, ?_⟩) hHeld ?_ ?_
    rotate_left
    · rintro w' ⟨s0, s1, s2, s3, s4, s5, s6, s7, s8, s9, s10, s11, s12, s13, s14, s15, s16⟩
      go_simp
      with_reducible rfl
    rotate_left
    · simp only [Act.put, List.setIfInBounds_toArray, List.set_cons_zero, List.set_cons_succ, i64_w, i32_w]
      rfl
    refine one_ (i := 1) (N := some 12) #[true, true, true, true, false, false] rfl rfl (by kernel_rfl) (by decide) (fun K hK => ?_)
    refine goes_ Tryz.func17 (by kernel_rfl) rfl #[.agg #[.string x.f0.f0, .string x.f0.f1, .string x.f0.f2, .string x.f0.f3, .slice r.A4 x.f0.f4.length r.c4, .slice r.A5 x.f0.f5.length r.c5, .int .i64 x.f1.f0, .slice r.A7 x.f1.f1.length r.c7, .slice r.A8 x.f1.f2.length r.c8, .int .i64 x.f2, .int .i64 x.f3]] (by rfl) rfl rfl (by simp only [List.map_toArray, List.map_cons, List.map_nil]; rfl) ?_
    with_reducible refine (theirs_q _ x r).mono ?_
    rintro e w4 ⟨rfl, hb4⟩
    refine ⟨_, rfl, ?_⟩
    have HB4 : Hid (Below W1.heap.size W1 w4) := Lib.hid (below_step (below_drew (Below.refl _ _)) hb4)
    refine hK.out _ _ ⟨c_of (blk_bel HB4.out HX.out) 0 (v := .string x.f0.f0) rfl, c_of (blk_bel HB4.out HX.out) 1 (v := .string x.f0.f1) rfl, c_of (blk_bel HB4.out HX.out) 2 (v := .string x.f0.f2) rfl, c_of (blk_bel HB4.out HX.out) 3 (v := .string x.f0.f3) rfl, c_of (blk_bel HB4.out HX.out) 4 (v := .slice r.A4 x.f0.f4.length r.c4) rfl, c_of (blk_bel HB4.out HX.out) 5 (v := .slice r.A5 x.f0.f5.length r.c5) rfl, c_of (blk_bel HB4.out HX.out) 6 (v := .int .i64 x.f1.f0) rfl, c_of (blk_bel HB4.out HX.out) 7 (v := .slice r.A7 x.f1.f1.length r.c7) rfl, c_of (blk_bel HB4.out HX.out) 8 (v := .slice r.A8 x.f1.f2.length r.c8) rfl, c_of (blk_bel HB4.out HX.out) 9 (v := .int .i64 x.f2) rfl, c_of (blk_bel HB4.out HX.out) 10 (v := .int .i64 x.f3) rfl, c_of (blk_bel HB4.out HQ.out) 0 (v := .string q.f0) rfl, c_of (blk_bel HB4.out HQ.out) 1 (v := .string q.f1) rfl, c_of (blk_bel HB4.out HQ.out) 2 (v := .string q.f2) rfl, c_of (blk_bel HB4.out HQ.out) 3 (v := .string q.f3) rfl, c_of (blk_bel HB4.out HQ.out) 4 (v := .slice A4 q.f4.length c4) rfl, c_of (blk_bel HB4.out HQ.out) 5 (v := .slice A5 q.f5.length c5) rfl⟩ (fun hHeld => ?_)
    clear hK K
    refine norm_ (a' := ?_) ?_ ?_
    rotate_left
    · show Act.put _ (some 12) _ = _
      simp only [Act.put, List.setIfInBounds_toArray, List.set_cons_zero, List.set_cons_succ, i64_w, i32_w]
      rfl
    refine one_ (i := 4) (N := some 15) #[true, true, true, true, true, false] rfl rfl (by kernel_rfl) (by decide) (fun K hK => ?_)
    refine goes_ Tryz.func18 (by kernel_rfl) rfl #[.agg #[.string x.f0.f0, .string x.f0.f1, .string x.f0.f2, .string x.f0.f3, .slice r.A4 x.f0.f4.length r.c4, .slice r.A5 x.f0.f5.length r.c5, .int .i64 x.f1.f0, .slice r.A7 x.f1.f1.length r.c7, .slice r.A8 x.f1.f2.length r.c8, .int .i64 x.f2, .int .i64 x.f3], .agg #[.string q.f0, .string q.f1, .string q.f2, .string q.f3, .slice A4 q.f4.length c4, .slice A5 q.f5.length c5], .int .i64 now] (by rfl) rfl rfl (by simp only [List.map_toArray, List.map_cons, List.map_nil]; rfl) ?_
    with_reducible refine (HVE.out _ HB4.out).mono ?_
    rintro e w5 ⟨rfl, hb5⟩
    refine ⟨_, rfl, ?_⟩
    have HB5 : Hid (Below W1.heap.size W1 w5) := Lib.hid (below_step HB4.out hb5)
    refine hK.out _ _ ⟨c_of (blk_bel HB5.out HX.out) 0 (v := .string x.f0.f0) rfl, c_of (blk_bel HB5.out HX.out) 1 (v := .string x.f0.f1) rfl, c_of (blk_bel HB5.out HX.out) 2 (v := .string x.f0.f2) rfl, c_of (blk_bel HB5.out HX.out) 3 (v := .string x.f0.f3) rfl, c_of (blk_bel HB5.out HX.out) 4 (v := .slice r.A4 x.f0.f4.length r.c4) rfl, c_of (blk_bel HB5.out HX.out) 5 (v := .slice r.A5 x.f0.f5.length r.c5) rfl, c_of (blk_bel HB5.out HX.out) 6 (v := .int .i64 x.f1.f0) rfl, c_of (blk_bel HB5.out HX.out) 7 (v := .slice r.A7 x.f1.f1.length r.c7) rfl, c_of (blk_bel HB5.out HX.out) 8 (v := .slice r.A8 x.f1.f2.length r.c8) rfl, c_of (blk_bel HB5.out HX.out) 9 (v := .int .i64 x.f2) rfl, c_of (blk_bel HB5.out HX.out) 10 (v := .int .i64 x.f3) rfl, c_of (blk_bel HB5.out HQ.out) 0 (v := .string q.f0) rfl, c_of (blk_bel HB5.out HQ.out) 1 (v := .string q.f1) rfl, c_of (blk_bel HB5.out HQ.out) 2 (v := .string q.f2) rfl, c_of (blk_bel HB5.out HQ.out) 3 (v := .string q.f3) rfl, c_of (blk_bel HB5.out HQ.out) 4 (v := .slice A4 q.f4.length c4) rfl, c_of (blk_bel HB5.out HQ.out) 5 (v := .slice A5 q.f5.length c5) rfl⟩ (fun hHeld => ?_)
    clear hK K
    refine norm_ (a' := ?_) ?_ ?_
    rotate_left
    · show Act.put _ (some 15) _ = _
      simp only [Act.put, List.setIfInBounds_toArray, List.set_cons_zero, List.set_cons_succ, i64_w, i32_w]
      rfl
    refine pure_ (i := 5) (N := some 16) (v := ?_) (a' := ?_) #[true, true, true, true, true, true] rfl rfl (by kernel_rfl) (fun _ _ _ h => h) (Or.inl ⟨by rfl, ?_⟩) ?_ ?_
    rotate_left
    · intro w'
      go_simp
      with_reducible rfl
    rotate_left
    · simp only [Act.put, List.setIfInBounds_toArray, List.set_cons_zero, List.set_cons_succ, i64_w, i32_w]
      rfl
    refine done_ (by kernel_rfl) ?_
    have HBa := Lib.hid (below_step HB0.out HB5.out)
    go_wp2_with (go_at_call 15; refine (HAL.out _ HBa.out).mono ?_; rintro e w8 ⟨rfl, hb8⟩; have HB8 := Lib.hid (below_step HBa.out hb8); clear hb8)
    go_ret
    exact ⟨rfl, HB8.out⟩
end Go.Proofs.YtbnhlekehndhkaaGreatDoor.Fr

