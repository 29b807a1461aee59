import Derived.Test.YtmmommcgjafbbaaDoorYDaX

/- DateBack: its walk. -/
namespace Go.Proofs.YtmmommcgjafbbaaDoor.Da
open Go.RowKit Go.Proofs.YtmmommcgjafbbaaDoorW.PrintWords Go.Proofs.YtmmommcgjafbbaaDoorW.PrintLast Go.Proofs.YtmmommcgjafbbaaDoorW.PrintMore Go.Proofs.YtmmommcgjafbbaaDoor.G
set_option linter.unusedVariables false
set_option linter.unusedSimpArgs false
set_option maxRecDepth 100000 in
set_option maxHeartbeats 1000000 in
theorem back_12 (A n ay am ad ah ai as_ by_ bm bd bh bi bs : Int) (w : World) (hG : Glob w)
    (hA : ∀ w : World, Calls Tryd.prog 9 #[date6 ay am ad ah ai as_] w fun e w' => e = .returned (.tuple #[.int .i64 A, .int .i64 0]) ∧ Below w.heap.size w w')
    (hN : ∀ w : World, Calls Tryd.prog 12 #[.int .i64 n] w fun e w' => e = .returned (.tuple #[date6 by_ bm bd bh bi bs, .int .i64 0]) ∧ Below w.heap.size w w')
    (hO : ∀ w : World, Calls Tryd.prog 12 #[.int .i64 A] w fun e w' => e = .returned (.tuple #[date6 ay am ad ah ai as_, .int .i64 0]) ∧ Below w.heap.size w w')
    (hM : ∀ w : World, Calls Tryd.prog 9 #[date6 by_ bm bd bh bi bs] w fun e w' => e = .returned (.tuple #[.int .i64 n, .int .i64 0]) ∧ Below w.heap.size w w')
    (t0 : decide (-62167219200 ≤ n) = true)
    (t1 : decide (n ≤ 253402300799) = true) :
    Calls Tryd.prog 5 #[.agg #[.int .i64 ay, .int .i64 am, .int .i64 ad, .int .i64 ah, .int .i64 ai, .int .i64 as_], .int .i64 n] w fun e w' => e = .returned (.bool true) ∧ Below w.heap.size w w' := by
  have HA := Lib.hid hA
  have HN := Lib.hid hN
  have HG := Lib.hid hG
  have HX := Lib.hid (heap_alloc_new w (.cells #[.int .i64 ay, .int .i64 am, .int .i64 ad, .int .i64 ah, .int .i64 ai, .int .i64 as_] 23))
  have HO := Lib.hid hO
  have HM := Lib.hid hM
  clear hA hN hG hO hM
  go_enter Tryd.func5, Tryd.ntmps5
  go_upto_region 3 with (first | (go_at_call 10; refine (theirs_q _ _ _ _ _ _ _).mono ?_; rintro e_ w_ ⟨rfl, hb_⟩; have HB := Lib.hid (below_step (below_alloc (Below.refl w.heap.size w) _) hb_); replace HX := Lib.hid (blk_bel hb_ HX.out); clear hb_) | (go_at_call 9; refine (HA.out _).mono ?_; rintro e_ w_ ⟨rfl, hb_⟩; replace HB := Lib.hid (below_step HB.out hb_); replace HX := Lib.hid (blk_bel hb_ HX.out); clear hb_))
  go_upto_region 4 with (go_at_call 12; refine (HO.out _).mono ?_; rintro e_ w_ ⟨rfl, hb_⟩; replace HB := Lib.hid (below_step HB.out hb_); replace HX := Lib.hid (blk_bel hb_ HX.out); clear hb_)
  obtain ⟨W1, hW1⟩ : ∃ W, W = w_.alloc (.cells #[.int .i64 ay, .int .i64 am, .int .i64 ad, .int .i64 ah, .int .i64 ai, .int .i64 as_] 27) := ⟨_, rfl⟩
  obtain ⟨g1, hg1⟩ : ∃ g, g = w_.heap.size := ⟨_, rfl⟩
  rw [← hW1, ← hg1]
  have HD : Hid (W1.heap[g1]? = some (.cells #[.int .i64 ay, .int .i64 am, .int .i64 ad, .int .i64 ah, .int .i64 ai, .int .i64 as_] 27 (0, 0))) := Lib.hid (by rw [hW1, hg1]; exact heap_alloc_new _ _)
  replace HX : Hid (W1.heap[w.heap.size]? = some (.cells #[.int .i64 ay, .int .i64 am, .int .i64 ad, .int .i64 ah, .int .i64 ai, .int .i64 as_] 23 (0, 0))) := Lib.hid (by rw [hW1]; exact blk_bel (below_alloc (Below.refl _ _) _) HX.out)
  replace HB : Hid (Below w.heap.size w W1) := Lib.hid (by rw [hW1]; exact below_alloc HB.out _)
  clear hW1 hg1
  refine start_ (n := 8) (S := fun w' => w'.cell? ⟨g1, 0, none⟩ = some (.int .i64 ay) ∧ w'.cell? ⟨g1, 1, none⟩ = some (.int .i64 am) ∧ w'.cell? ⟨g1, 2, none⟩ = some (.int .i64 ad) ∧ w'.cell? ⟨g1, 3, none⟩ = some (.int .i64 ah) ∧ w'.cell? ⟨g1, 4, none⟩ = some (.int .i64 ai) ∧ w'.cell? ⟨g1, 5, none⟩ = some (.int .i64 as_) ∧ w'.cell? ⟨w.heap.size, 0, none⟩ = some (.int .i64 ay) ∧ w'.cell? ⟨w.heap.size, 1, none⟩ = some (.int .i64 am) ∧ w'.cell? ⟨w.heap.size, 2, none⟩ = some (.int .i64 ad) ∧ w'.cell? ⟨w.heap.size, 3, none⟩ = some (.int .i64 ah) ∧ w'.cell? ⟨w.heap.size, 4, none⟩ = some (.int .i64 ai) ∧ w'.cell? ⟨w.heap.size, 5, none⟩ = some (.int .i64 as_)) (ds := []) #[false, false, false, false, false, false, false, false] (by kernel_rfl) rfl rfl ⟨c_of HD.out 0 rfl, c_of HD.out 1 rfl, c_of HD.out 2 rfl, c_of HD.out 3 rfl, c_of HD.out 4 rfl, c_of HD.out 5 rfl, c_of HX.out 0 rfl, c_of HX.out 1 rfl, c_of HX.out 2 rfl, c_of HX.out 3 rfl, c_of HX.out 4 rfl, c_of HX.out 5 rfl⟩ (fun hHeld => ?_)
  refine pure_ (i := 0) (N := some 26) (v := ?_) (a' := ?_) #[true, false, false, false, false, false, false, false] rfl rfl (by kernel_rfl) (fun _ _ _ h => h) (Or.inl ⟨by rfl, ?_⟩) ?_ ?_
  rotate_left
  · intro w'
    go_simp
    with_reducible rfl
  rotate_left
  · simp only [Act.put, List.setIfInBounds_toArray, List.set_cons_zero, List.set_cons_succ, i64_w, i32_w]
    rfl
  refine pure_ (i := 1) (N := some 27) (v := ?_) (a' := ?_) #[true, true, false, false, false, false, false, false] rfl rfl (by kernel_rfl) (fun _ _ _ h => h) (Or.inl ⟨by rfl, ?_⟩) ?_ ?_
  rotate_left
  · intro w'
    go_simp
    with_reducible rfl
  rotate_left
  · simp only [Act.put, List.setIfInBounds_toArray, List.set_cons_zero, List.set_cons_succ, i64_w, i32_w]
    rfl
  refine pure_ (i := 2) (N := some 28) (v := ?_) (a' := ?_) #[true, true, true, false, false, false, false, false] rfl rfl (by kernel_rfl) (fun _ _ _ h => h) (Or.inl ⟨by rfl, ?_⟩) ?_ ?_
  rotate_left
  · intro w'
    go_simp
    with_reducible rfl
  rotate_left
  · simp only [Act.put, List.setIfInBounds_toArray, List.set_cons_zero, List.set_cons_succ, i64_w, i32_w]
    rfl
  refine take_ (i := 3) (N := some 29) (v := ?_) (a' := ?_) #[true, true, true, true, false, false, false, false] rfl rfl (by kernel_rfl) (fun _ _ _ h => h) (Or.inl ⟨by rfl, ?_⟩) hHeld ?_ ?_
  rotate_left
  · rintro w' ⟨s0, s1, s2, s3, s4, s5, s6, s7, s8, s9, s10, s11⟩
    go_simp
    with_reducible rfl
  rotate_left
  · simp only [Act.put, List.setIfInBounds_toArray, List.set_cons_zero, List.set_cons_succ, i64_w, i32_w]
    rfl
  refine take_ (i := 5) (N := some 31) (v := ?_) (a' := ?_) #[true, true, true, true, false, true, false, false] rfl rfl (by kernel_rfl) (fun _ _ _ h => h) (Or.inl ⟨by rfl, ?_⟩) hHeld ?_ ?_
  rotate_left
  · rintro w' ⟨s0, s1, s2, s3, s4, s5, s6, s7, s8, s9, s10, s11⟩
    go_simp
    with_reducible rfl
  rotate_left
  · simp only [Act.put, List.setIfInBounds_toArray, List.set_cons_zero, List.set_cons_succ, i64_w, i32_w]
    rfl
  refine one_ (i := 4) (N := some 30) #[true, true, true, true, true, true, false, false] rfl rfl (by kernel_rfl) (by decide) (fun K hK => ?_)
  refine goes_ Tryd.func14 (by kernel_rfl) rfl #[date6 ay am ad ah ai as_] (by rfl) rfl rfl (by simp only [List.map_toArray, List.map_cons, List.map_nil]; rfl) ?_
  with_reducible refine (ours_q ay am ad ah ai as_ _).mono ?_
  rintro e v1 ⟨rfl, hd1⟩
  refine ⟨_, rfl, ?_⟩
  have HF1 := Lib.hid (below_step (below_drew (Below.refl _ W1)) hd1)
  clear hd1
  refine hK.out _ _ ⟨c_of (blk_bel HF1.out HD.out) 0 rfl, c_of (blk_bel HF1.out HD.out) 1 rfl, c_of (blk_bel HF1.out HD.out) 2 rfl, c_of (blk_bel HF1.out HD.out) 3 rfl, c_of (blk_bel HF1.out HD.out) 4 rfl, c_of (blk_bel HF1.out HD.out) 5 rfl, c_of (blk_bel HF1.out HX.out) 0 rfl, c_of (blk_bel HF1.out HX.out) 1 rfl, c_of (blk_bel HF1.out HX.out) 2 rfl, c_of (blk_bel HF1.out HX.out) 3 rfl, c_of (blk_bel HF1.out HX.out) 4 rfl, c_of (blk_bel HF1.out HX.out) 5 rfl⟩ (fun hHeld => ?_)
  clear hK K
  refine norm_ (a' := ?_) ?_ ?_
  rotate_left
  · show Act.put _ (some 30) _ = _
    simp only [Act.put, List.setIfInBounds_toArray, List.set_cons_zero, List.set_cons_succ, i64_w, i32_w]
    rfl
  refine pure_ (i := 6) (N := some 32) (v := ?_) (a' := ?_) #[true, true, true, true, true, true, true, false] rfl rfl (by kernel_rfl) (fun _ _ _ h => h) (Or.inl ⟨by rfl, ?_⟩) ?_ ?_
  rotate_left
  · intro w'
    go_simp
    with_reducible rfl
  rotate_left
  · simp only [Act.put, List.setIfInBounds_toArray, List.set_cons_zero, List.set_cons_succ, i64_w, i32_w]
    rfl
  refine pure_ (i := 7) (N := some 33) (v := ?_) (a' := ?_) #[true, true, true, true, true, true, true, true] rfl rfl (by kernel_rfl) (fun _ _ _ h => h) (Or.inl ⟨by rfl, ?_⟩) ?_ ?_
  rotate_left
  · intro w'
    go_simp
    with_reducible rfl
  rotate_left
  · simp only [Act.put, List.setIfInBounds_toArray, List.set_cons_zero, List.set_cons_succ, i64_w, i32_w]
    rfl
  refine done_ (by kernel_rfl) ?_
  clear hHeld
  replace HB := Lib.hid (below_step HB.out HF1.out)
  clear HF1 HD
  go_upto_region 6 with fail
  clear HX
  go_upto_region 8 with (go_at_call 12; refine (HN.out _).mono ?_; rintro e_ w_ ⟨rfl, hb_⟩; replace HB := Lib.hid (below_step HB.out hb_); clear hb_)
  obtain ⟨W3, hW3⟩ : ∃ W, W = w_.alloc (.cells #[.int .i64 by_, .int .i64 bm, .int .i64 bd, .int .i64 bh, .int .i64 bi, .int .i64 bs] 27) := ⟨_, rfl⟩
  obtain ⟨g3, hg3⟩ : ∃ g, g = w_.heap.size := ⟨_, rfl⟩
  rw [← hW3, ← hg3]
  have HE : Hid (W3.heap[g3]? = some (.cells #[.int .i64 by_, .int .i64 bm, .int .i64 bd, .int .i64 bh, .int .i64 bi, .int .i64 bs] 27 (0, 0))) := Lib.hid (by rw [hW3, hg3]; exact heap_alloc_new _ _)
  replace HB : Hid (Below w.heap.size w W3) := Lib.hid (by rw [hW3]; exact below_alloc HB.out _)
  clear hW3 hg3
  have x0 := c_of HE.out 0 (v := .int .i64 by_) rfl
  have x1 := c_of HE.out 1 (v := .int .i64 bm) rfl
  have x2 := c_of HE.out 2 (v := .int .i64 bd) rfl
  have x3 := c_of HE.out 3 (v := .int .i64 bh) rfl
  have x4 := c_of HE.out 4 (v := .int .i64 bi) rfl
  have x5 := c_of HE.out 5 (v := .int .i64 bs) rfl
  go_upto_region 11 with (go_at_call 9; refine (HM.out _).mono ?_; rintro e_ w_ ⟨rfl, hb_⟩; replace HB := Lib.hid (below_step HB.out hb_); clear hb_)
  clear x0 x1 x2 x3 x4 x5
  go_wp2_with (go_at_call 17; refine (alive_q _ (HG.out.below (by repeat (first | exact HB.out | apply below_alloc)))).mono ?_; rintro e_ w_ ⟨rfl, hb_⟩; replace HB := Lib.hid (below_step (by repeat (first | exact HB.out | apply below_alloc)) hb_); clear hb_)
  go_ret
  exact ⟨rfl, HB.out⟩
set_option maxRecDepth 100000 in
set_option maxHeartbeats 1000000 in
theorem back_11 (A n ay am ad ah ai as_ by_ bm bd bh bi bs : Int) (w : World) (hG : Glob w)
    (hA : ∀ w : World, Calls Tryd.prog 9 #[date6 ay am ad ah ai as_] w fun e w' => e = .returned (.tuple #[.int .i64 A, .int .i64 0]) ∧ Below w.heap.size w w')
    (hN : ∀ w : World, Calls Tryd.prog 12 #[.int .i64 n] w fun e w' => e = .returned (.tuple #[date6 by_ bm bd bh bi bs, .int .i64 1]) ∧ Below w.heap.size w w')
    (hO : ∀ w : World, Calls Tryd.prog 12 #[.int .i64 A] w fun e w' => e = .returned (.tuple #[date6 ay am ad ah ai as_, .int .i64 0]) ∧ Below w.heap.size w w')
    (t0 : decide (-62167219200 ≤ n) = true)
    (t1 : decide (n ≤ 253402300799) = false) :
    Calls Tryd.prog 5 #[.agg #[.int .i64 ay, .int .i64 am, .int .i64 ad, .int .i64 ah, .int .i64 ai, .int .i64 as_], .int .i64 n] w fun e w' => e = .returned (.bool true) ∧ Below w.heap.size w w' := by
  have HA := Lib.hid hA
  have HN := Lib.hid hN
  have HG := Lib.hid hG
  have HX := Lib.hid (heap_alloc_new w (.cells #[.int .i64 ay, .int .i64 am, .int .i64 ad, .int .i64 ah, .int .i64 ai, .int .i64 as_] 23))
  have HO := Lib.hid hO
  clear hA hN hG hO
  go_enter Tryd.func5, Tryd.ntmps5
  go_upto_region 3 with (first | (go_at_call 10; refine (theirs_q _ _ _ _ _ _ _).mono ?_; rintro e_ w_ ⟨rfl, hb_⟩; have HB := Lib.hid (below_step (below_alloc (Below.refl w.heap.size w) _) hb_); replace HX := Lib.hid (blk_bel hb_ HX.out); clear hb_) | (go_at_call 9; refine (HA.out _).mono ?_; rintro e_ w_ ⟨rfl, hb_⟩; replace HB := Lib.hid (below_step HB.out hb_); replace HX := Lib.hid (blk_bel hb_ HX.out); clear hb_))
  go_upto_region 4 with (go_at_call 12; refine (HO.out _).mono ?_; rintro e_ w_ ⟨rfl, hb_⟩; replace HB := Lib.hid (below_step HB.out hb_); replace HX := Lib.hid (blk_bel hb_ HX.out); clear hb_)
  obtain ⟨W1, hW1⟩ : ∃ W, W = w_.alloc (.cells #[.int .i64 ay, .int .i64 am, .int .i64 ad, .int .i64 ah, .int .i64 ai, .int .i64 as_] 27) := ⟨_, rfl⟩
  obtain ⟨g1, hg1⟩ : ∃ g, g = w_.heap.size := ⟨_, rfl⟩
  rw [← hW1, ← hg1]
  have HD : Hid (W1.heap[g1]? = some (.cells #[.int .i64 ay, .int .i64 am, .int .i64 ad, .int .i64 ah, .int .i64 ai, .int .i64 as_] 27 (0, 0))) := Lib.hid (by rw [hW1, hg1]; exact heap_alloc_new _ _)
  replace HX : Hid (W1.heap[w.heap.size]? = some (.cells #[.int .i64 ay, .int .i64 am, .int .i64 ad, .int .i64 ah, .int .i64 ai, .int .i64 as_] 23 (0, 0))) := Lib.hid (by rw [hW1]; exact blk_bel (below_alloc (Below.refl _ _) _) HX.out)
  replace HB : Hid (Below w.heap.size w W1) := Lib.hid (by rw [hW1]; exact below_alloc HB.out _)
  clear hW1 hg1
  refine start_ (n := 8) (S := fun w' => w'.cell? ⟨g1, 0, none⟩ = some (.int .i64 ay) ∧ w'.cell? ⟨g1, 1, none⟩ = some (.int .i64 am) ∧ w'.cell? ⟨g1, 2, none⟩ = some (.int .i64 ad) ∧ w'.cell? ⟨g1, 3, none⟩ = some (.int .i64 ah) ∧ w'.cell? ⟨g1, 4, none⟩ = some (.int .i64 ai) ∧ w'.cell? ⟨g1, 5, none⟩ = some (.int .i64 as_) ∧ w'.cell? ⟨w.heap.size, 0, none⟩ = some (.int .i64 ay) ∧ w'.cell? ⟨w.heap.size, 1, none⟩ = some (.int .i64 am) ∧ w'.cell? ⟨w.heap.size, 2, none⟩ = some (.int .i64 ad) ∧ w'.cell? ⟨w.heap.size, 3, none⟩ = some (.int .i64 ah) ∧ w'.cell? ⟨w.heap.size, 4, none⟩ = some (.int .i64 ai) ∧ w'.cell? ⟨w.heap.size, 5, none⟩ = some (.int .i64 as_)) (ds := []) #[false, false, false, false, false, false, false, false] (by kernel_rfl) rfl rfl ⟨c_of HD.out 0 rfl, c_of HD.out 1 rfl, c_of HD.out 2 rfl, c_of HD.out 3 rfl, c_of HD.out 4 rfl, c_of HD.out 5 rfl, c_of HX.out 0 rfl, c_of HX.out 1 rfl, c_of HX.out 2 rfl, c_of HX.out 3 rfl, c_of HX.out 4 rfl, c_of HX.out 5 rfl⟩ (fun hHeld => ?_)
  refine pure_ (i := 0) (N := some 26) (v := ?_) (a' := ?_) #[true, false, false, false, false, false, false, false] rfl rfl (by kernel_rfl) (fun _ _ _ h => h) (Or.inl ⟨by rfl, ?_⟩) ?_ ?_
  rotate_left
  · intro w'
    go_simp
    with_reducible rfl
  rotate_left
  · simp only [Act.put, List.setIfInBounds_toArray, List.set_cons_zero, List.set_cons_succ, i64_w, i32_w]
    rfl
  refine pure_ (i := 1) (N := some 27) (v := ?_) (a' := ?_) #[true, true, false, false, false, false, false, false] rfl rfl (by kernel_rfl) (fun _ _ _ h => h) (Or.inl ⟨by rfl, ?_⟩) ?_ ?_
  rotate_left
  · intro w'
    go_simp
    with_reducible rfl
  rotate_left
  · simp only [Act.put, List.setIfInBounds_toArray, List.set_cons_zero, List.set_cons_succ, i64_w, i32_w]
    rfl
  refine pure_ (i := 2) (N := some 28) (v := ?_) (a' := ?_) #[true, true, true, false, false, false, false, false] rfl rfl (by kernel_rfl) (fun _ _ _ h => h) (Or.inl ⟨by rfl, ?_⟩) ?_ ?_
  rotate_left
  · intro w'
    go_simp
    with_reducible rfl
  rotate_left
  · simp only [Act.put, List.setIfInBounds_toArray, List.set_cons_zero, List.set_cons_succ, i64_w, i32_w]
    rfl
  refine take_ (i := 3) (N := some 29) (v := ?_) (a' := ?_) #[true, true, true, true, false, false, false, false] rfl rfl (by kernel_rfl) (fun _ _ _ h => h) (Or.inl ⟨by rfl, ?_⟩) hHeld ?_ ?_
  rotate_left
  · rintro w' ⟨s0, s1, s2, s3, s4, s5, s6, s7, s8, s9, s10, s11⟩
    go_simp
    with_reducible rfl
  rotate_left
  · simp only [Act.put, List.setIfInBounds_toArray, List.set_cons_zero, List.set_cons_succ, i64_w, i32_w]
    rfl
  refine take_ (i := 5) (N := some 31) (v := ?_) (a' := ?_) #[true, true, true, true, false, true, false, false] rfl rfl (by kernel_rfl) (fun _ _ _ h => h) (Or.inl ⟨by rfl, ?_⟩) hHeld ?_ ?_
  rotate_left
  · rintro w' ⟨s0, s1, s2, s3, s4, s5, s6, s7, s8, s9, s10, s11⟩
    go_simp
    with_reducible rfl
  rotate_left
  · simp only [Act.put, List.setIfInBounds_toArray, List.set_cons_zero, List.set_cons_succ, i64_w, i32_w]
    rfl
  refine one_ (i := 4) (N := some 30) #[true, true, true, true, true, true, false, false] rfl rfl (by kernel_rfl) (by decide) (fun K hK => ?_)
  refine goes_ Tryd.func14 (by kernel_rfl) rfl #[date6 ay am ad ah ai as_] (by rfl) rfl rfl (by simp only [List.map_toArray, List.map_cons, List.map_nil]; rfl) ?_
  with_reducible refine (ours_q ay am ad ah ai as_ _).mono ?_
  rintro e v1 ⟨rfl, hd1⟩
  refine ⟨_, rfl, ?_⟩
  have HF1 := Lib.hid (below_step (below_drew (Below.refl _ W1)) hd1)
  clear hd1
  refine hK.out _ _ ⟨c_of (blk_bel HF1.out HD.out) 0 rfl, c_of (blk_bel HF1.out HD.out) 1 rfl, c_of (blk_bel HF1.out HD.out) 2 rfl, c_of (blk_bel HF1.out HD.out) 3 rfl, c_of (blk_bel HF1.out HD.out) 4 rfl, c_of (blk_bel HF1.out HD.out) 5 rfl, c_of (blk_bel HF1.out HX.out) 0 rfl, c_of (blk_bel HF1.out HX.out) 1 rfl, c_of (blk_bel HF1.out HX.out) 2 rfl, c_of (blk_bel HF1.out HX.out) 3 rfl, c_of (blk_bel HF1.out HX.out) 4 rfl, c_of (blk_bel HF1.out HX.out) 5 rfl⟩ (fun hHeld => ?_)
  clear hK K
  refine norm_ (a' := ?_) ?_ ?_
  rotate_left
  · show Act.put _ (some 30) _ = _
    simp only [Act.put, List.setIfInBounds_toArray, List.set_cons_zero, List.set_cons_succ, i64_w, i32_w]
    rfl
  refine pure_ (i := 6) (N := some 32) (v := ?_) (a' := ?_) #[true, true, true, true, true, true, true, false] rfl rfl (by kernel_rfl) (fun _ _ _ h => h) (Or.inl ⟨by rfl, ?_⟩) ?_ ?_
  rotate_left
  · intro w'
    go_simp
    with_reducible rfl
  rotate_left
  · simp only [Act.put, List.setIfInBounds_toArray, List.set_cons_zero, List.set_cons_succ, i64_w, i32_w]
    rfl
  refine pure_ (i := 7) (N := some 33) (v := ?_) (a' := ?_) #[true, true, true, true, true, true, true, true] rfl rfl (by kernel_rfl) (fun _ _ _ h => h) (Or.inl ⟨by rfl, ?_⟩) ?_ ?_
  rotate_left
  · intro w'
    go_simp
    with_reducible rfl
  rotate_left
  · simp only [Act.put, List.setIfInBounds_toArray, List.set_cons_zero, List.set_cons_succ, i64_w, i32_w]
    rfl
  refine done_ (by kernel_rfl) ?_
  clear hHeld
  replace HB := Lib.hid (below_step HB.out HF1.out)
  clear HF1 HD
  go_upto_region 6 with fail
  clear HX
  go_upto_region 11 with (go_at_call 12; refine (HN.out _).mono ?_; rintro e_ w_ ⟨rfl, hb_⟩; replace HB := Lib.hid (below_step HB.out hb_); clear hb_)
  go_wp2_with (go_at_call 17; refine (alive_q _ (HG.out.below (by repeat (first | exact HB.out | apply below_alloc)))).mono ?_; rintro e_ w_ ⟨rfl, hb_⟩; replace HB := Lib.hid (below_step (by repeat (first | exact HB.out | apply below_alloc)) hb_); clear hb_)
  go_ret
  exact ⟨rfl, HB.out⟩
set_option maxRecDepth 100000 in
set_option maxHeartbeats 1000000 in
theorem back_10 (A n ay am ad ah ai as_ by_ bm bd bh bi bs : Int) (w : World) (hG : Glob w)
    (hA : ∀ w : World, Calls Tryd.prog 9 #[date6 ay am ad ah ai as_] w fun e w' => e = .returned (.tuple #[.int .i64 A, .int .i64 0]) ∧ Below w.heap.size w w')
    (hN : ∀ w : World, Calls Tryd.prog 12 #[.int .i64 n] w fun e w' => e = .returned (.tuple #[date6 by_ bm bd bh bi bs, .int .i64 1]) ∧ Below w.heap.size w w')
    (hO : ∀ w : World, Calls Tryd.prog 12 #[.int .i64 A] w fun e w' => e = .returned (.tuple #[date6 ay am ad ah ai as_, .int .i64 0]) ∧ Below w.heap.size w w')
    (t0 : decide (-62167219200 ≤ n) = false) :
    Calls Tryd.prog 5 #[.agg #[.int .i64 ay, .int .i64 am, .int .i64 ad, .int .i64 ah, .int .i64 ai, .int .i64 as_], .int .i64 n] w fun e w' => e = .returned (.bool true) ∧ Below w.heap.size w w' := by
  have HA := Lib.hid hA
  have HN := Lib.hid hN
  have HG := Lib.hid hG
  have HX := Lib.hid (heap_alloc_new w (.cells #[.int .i64 ay, .int .i64 am, .int .i64 ad, .int .i64 ah, .int .i64 ai, .int .i64 as_] 23))
  have HO := Lib.hid hO
  clear hA hN hG hO
  go_enter Tryd.func5, Tryd.ntmps5
  go_upto_region 3 with (first | (go_at_call 10; refine (theirs_q _ _ _ _ _ _ _).mono ?_; rintro e_ w_ ⟨rfl, hb_⟩; have HB := Lib.hid (below_step (below_alloc (Below.refl w.heap.size w) _) hb_); replace HX := Lib.hid (blk_bel hb_ HX.out); clear hb_) | (go_at_call 9; refine (HA.out _).mono ?_; rintro e_ w_ ⟨rfl, hb_⟩; replace HB := Lib.hid (below_step HB.out hb_); replace HX := Lib.hid (blk_bel hb_ HX.out); clear hb_))
  go_upto_region 4 with (go_at_call 12; refine (HO.out _).mono ?_; rintro e_ w_ ⟨rfl, hb_⟩; replace HB := Lib.hid (below_step HB.out hb_); replace HX := Lib.hid (blk_bel hb_ HX.out); clear hb_)
  obtain ⟨W1, hW1⟩ : ∃ W, W = w_.alloc (.cells #[.int .i64 ay, .int .i64 am, .int .i64 ad, .int .i64 ah, .int .i64 ai, .int .i64 as_] 27) := ⟨_, rfl⟩
  obtain ⟨g1, hg1⟩ : ∃ g, g = w_.heap.size := ⟨_, rfl⟩
  rw [← hW1, ← hg1]
  have HD : Hid (W1.heap[g1]? = some (.cells #[.int .i64 ay, .int .i64 am, .int .i64 ad, .int .i64 ah, .int .i64 ai, .int .i64 as_] 27 (0, 0))) := Lib.hid (by rw [hW1, hg1]; exact heap_alloc_new _ _)
  replace HX : Hid (W1.heap[w.heap.size]? = some (.cells #[.int .i64 ay, .int .i64 am, .int .i64 ad, .int .i64 ah, .int .i64 ai, .int .i64 as_] 23 (0, 0))) := Lib.hid (by rw [hW1]; exact blk_bel (below_alloc (Below.refl _ _) _) HX.out)
  replace HB : Hid (Below w.heap.size w W1) := Lib.hid (by rw [hW1]; exact below_alloc HB.out _)
  clear hW1 hg1
  refine start_ (n := 8) (S := fun w' => w'.cell? ⟨g1, 0, none⟩ = some (.int .i64 ay) ∧ w'.cell? ⟨g1, 1, none⟩ = some (.int .i64 am) ∧ w'.cell? ⟨g1, 2, none⟩ = some (.int .i64 ad) ∧ w'.cell? ⟨g1, 3, none⟩ = some (.int .i64 ah) ∧ w'.cell? ⟨g1, 4, none⟩ = some (.int .i64 ai) ∧ w'.cell? ⟨g1, 5, none⟩ = some (.int .i64 as_) ∧ w'.cell? ⟨w.heap.size, 0, none⟩ = some (.int .i64 ay) ∧ w'.cell? ⟨w.heap.size, 1, none⟩ = some (.int .i64 am) ∧ w'.cell? ⟨w.heap.size, 2, none⟩ = some (.int .i64 ad) ∧ w'.cell? ⟨w.heap.size, 3, none⟩ = some (.int .i64 ah) ∧ w'.cell? ⟨w.heap.size, 4, none⟩ = some (.int .i64 ai) ∧ w'.cell? ⟨w.heap.size, 5, none⟩ = some (.int .i64 as_)) (ds := []) #[false, false, false, false, false, false, false, false] (by kernel_rfl) rfl rfl ⟨c_of HD.out 0 rfl, c_of HD.out 1 rfl, c_of HD.out 2 rfl, c_of HD.out 3 rfl, c_of HD.out 4 rfl, c_of HD.out 5 rfl, c_of HX.out 0 rfl, c_of HX.out 1 rfl, c_of HX.out 2 rfl, c_of HX.out 3 rfl, c_of HX.out 4 rfl, c_of HX.out 5 rfl⟩ (fun hHeld => ?_)
  refine pure_ (i := 0) (N := some 26) (v := ?_) (a' := ?_) #[true, false, false, false, false, false, false, false] rfl rfl (by kernel_rfl) (fun _ _ _ h => h) (Or.inl ⟨by rfl, ?_⟩) ?_ ?_
  rotate_left
  · intro w'
    go_simp
    with_reducible rfl
  rotate_left
  · simp only [Act.put, List.setIfInBounds_toArray, List.set_cons_zero, List.set_cons_succ, i64_w, i32_w]
    rfl
  refine pure_ (i := 1) (N := some 27) (v := ?_) (a' := ?_) #[true, true, false, false, false, false, false, false] rfl rfl (by kernel_rfl) (fun _ _ _ h => h) (Or.inl ⟨by rfl, ?_⟩) ?_ ?_
  rotate_left
  · intro w'
    go_simp
    with_reducible rfl
  rotate_left
  · simp only [Act.put, List.setIfInBounds_toArray, List.set_cons_zero, List.set_cons_succ, i64_w, i32_w]
    rfl
  refine pure_ (i := 2) (N := some 28) (v := ?_) (a' := ?_) #[true, true, true, false, false, false, false, false] rfl rfl (by kernel_rfl) (fun _ _ _ h => h) (Or.inl ⟨by rfl, ?_⟩) ?_ ?_
  rotate_left
  · intro w'
    go_simp
    with_reducible rfl
  rotate_left
  · simp only [Act.put, List.setIfInBounds_toArray, List.set_cons_zero, List.set_cons_succ, i64_w, i32_w]
    rfl
  refine take_ (i := 3) (N := some 29) (v := ?_) (a' := ?_) #[true, true, true, true, false, false, false, false] rfl rfl (by kernel_rfl) (fun _ _ _ h => h) (Or.inl ⟨by rfl, ?_⟩) hHeld ?_ ?_
  rotate_left
  · rintro w' ⟨s0, s1, s2, s3, s4, s5, s6, s7, s8, s9, s10, s11⟩
    go_simp
    with_reducible rfl
  rotate_left
  · simp only [Act.put, List.setIfInBounds_toArray, List.set_cons_zero, List.set_cons_succ, i64_w, i32_w]
    rfl
  refine take_ (i := 5) (N := some 31) (v := ?_) (a' := ?_) #[true, true, true, true, false, true, false, false] rfl rfl (by kernel_rfl) (fun _ _ _ h => h) (Or.inl ⟨by rfl, ?_⟩) hHeld ?_ ?_
  rotate_left
  · rintro w' ⟨s0, s1, s2, s3, s4, s5, s6, s7, s8, s9, s10, s11⟩
    go_simp
    with_reducible rfl
  rotate_left
  · simp only [Act.put, List.setIfInBounds_toArray, List.set_cons_zero, List.set_cons_succ, i64_w, i32_w]
    rfl
  refine one_ (i := 4) (N := some 30) #[true, true, true, true, true, true, false, false] rfl rfl (by kernel_rfl) (by decide) (fun K hK => ?_)
  refine goes_ Tryd.func14 (by kernel_rfl) rfl #[date6 ay am ad ah ai as_] (by rfl) rfl rfl (by simp only [List.map_toArray, List.map_cons, List.map_nil]; rfl) ?_
  with_reducible refine (ours_q ay am ad ah ai as_ _).mono ?_
  rintro e v1 ⟨rfl, hd1⟩
  refine ⟨_, rfl, ?_⟩
  have HF1 := Lib.hid (below_step (below_drew (Below.refl _ W1)) hd1)
  clear hd1
  refine hK.out _ _ ⟨c_of (blk_bel HF1.out HD.out) 0 rfl, c_of (blk_bel HF1.out HD.out) 1 rfl, c_of (blk_bel HF1.out HD.out) 2 rfl, c_of (blk_bel HF1.out HD.out) 3 rfl, c_of (blk_bel HF1.out HD.out) 4 rfl, c_of (blk_bel HF1.out HD.out) 5 rfl, c_of (blk_bel HF1.out HX.out) 0 rfl, c_of (blk_bel HF1.out HX.out) 1 rfl, c_of (blk_bel HF1.out HX.out) 2 rfl, c_of (blk_bel HF1.out HX.out) 3 rfl, c_of (blk_bel HF1.out HX.out) 4 rfl, c_of (blk_bel HF1.out HX.out) 5 rfl⟩ (fun hHeld => ?_)
  clear hK K
  refine norm_ (a' := ?_) ?_ ?_
  rotate_left
  · show Act.put _ (some 30) _ = _
    simp only [Act.put, List.setIfInBounds_toArray, List.set_cons_zero, List.set_cons_succ, i64_w, i32_w]
    rfl
  refine pure_ (i := 6) (N := some 32) (v := ?_) (a' := ?_) #[true, true, true, true, true, true, true, false] rfl rfl (by kernel_rfl) (fun _ _ _ h => h) (Or.inl ⟨by rfl, ?_⟩) ?_ ?_
  rotate_left
  · intro w'
    go_simp
    with_reducible rfl
  rotate_left
  · simp only [Act.put, List.setIfInBounds_toArray, List.set_cons_zero, List.set_cons_succ, i64_w, i32_w]
    rfl
  refine pure_ (i := 7) (N := some 33) (v := ?_) (a' := ?_) #[true, true, true, true, true, true, true, true] rfl rfl (by kernel_rfl) (fun _ _ _ h => h) (Or.inl ⟨by rfl, ?_⟩) ?_ ?_
  rotate_left
  · intro w'
    go_simp
    with_reducible rfl
  rotate_left
  · simp only [Act.put, List.setIfInBounds_toArray, List.set_cons_zero, List.set_cons_succ, i64_w, i32_w]
    rfl
  refine done_ (by kernel_rfl) ?_
  clear hHeld
  replace HB := Lib.hid (below_step HB.out HF1.out)
  clear HF1 HD
  go_upto_region 6 with fail
  clear HX
  go_upto_region 11 with (go_at_call 12; refine (HN.out _).mono ?_; rintro e_ w_ ⟨rfl, hb_⟩; replace HB := Lib.hid (below_step HB.out hb_); clear hb_)
  go_wp2_with (go_at_call 17; refine (alive_q _ (HG.out.below (by repeat (first | exact HB.out | apply below_alloc)))).mono ?_; rintro e_ w_ ⟨rfl, hb_⟩; replace HB := Lib.hid (below_step (by repeat (first | exact HB.out | apply below_alloc)) hb_); clear hb_)
  go_ret
  exact ⟨rfl, HB.out⟩
set_option maxRecDepth 100000 in
set_option maxHeartbeats 1000000 in
theorem back_02 (A n ay am ad ah ai as_ by_ bm bd bh bi bs : Int) (w : World) (hG : Glob w)
    (hA : ∀ w : World, Calls Tryd.prog 9 #[date6 ay am ad ah ai as_] w fun e w' => e = .returned (.tuple #[.int .i64 0, .int .i64 1]) ∧ Below w.heap.size w w')
    (hN : ∀ w : World, Calls Tryd.prog 12 #[.int .i64 n] w fun e w' => e = .returned (.tuple #[date6 by_ bm bd bh bi bs, .int .i64 0]) ∧ Below w.heap.size w w')
    (hM : ∀ w : World, Calls Tryd.prog 9 #[date6 by_ bm bd bh bi bs] w fun e w' => e = .returned (.tuple #[.int .i64 n, .int .i64 0]) ∧ Below w.heap.size w w')
    (t0 : decide (-62167219200 ≤ n) = true)
    (t1 : decide (n ≤ 253402300799) = true) :
    Calls Tryd.prog 5 #[.agg #[.int .i64 ay, .int .i64 am, .int .i64 ad, .int .i64 ah, .int .i64 ai, .int .i64 as_], .int .i64 n] w fun e w' => e = .returned (.bool true) ∧ Below w.heap.size w w' := by
  have HA := Lib.hid hA
  have HN := Lib.hid hN
  have HG := Lib.hid hG
  have HX := Lib.hid (heap_alloc_new w (.cells #[.int .i64 ay, .int .i64 am, .int .i64 ad, .int .i64 ah, .int .i64 ai, .int .i64 as_] 23))
  have HM := Lib.hid hM
  clear hA hN hG hM
  go_enter Tryd.func5, Tryd.ntmps5
  go_upto_region 6 with (first | (go_at_call 10; refine (theirs_q _ _ _ _ _ _ _).mono ?_; rintro e_ w_ ⟨rfl, hb_⟩; have HB := Lib.hid (below_step (below_alloc (Below.refl w.heap.size w) _) hb_); replace HX := Lib.hid (blk_bel hb_ HX.out); clear hb_) | (go_at_call 9; refine (HA.out _).mono ?_; rintro e_ w_ ⟨rfl, hb_⟩; replace HB := Lib.hid (below_step HB.out hb_); replace HX := Lib.hid (blk_bel hb_ HX.out); clear hb_))
  clear HX
  go_upto_region 8 with (go_at_call 12; refine (HN.out _).mono ?_; rintro e_ w_ ⟨rfl, hb_⟩; replace HB := Lib.hid (below_step HB.out hb_); clear hb_)
  obtain ⟨W3, hW3⟩ : ∃ W, W = w_.alloc (.cells #[.int .i64 by_, .int .i64 bm, .int .i64 bd, .int .i64 bh, .int .i64 bi, .int .i64 bs] 27) := ⟨_, rfl⟩
  obtain ⟨g3, hg3⟩ : ∃ g, g = w_.heap.size := ⟨_, rfl⟩
  rw [← hW3, ← hg3]
  have HE : Hid (W3.heap[g3]? = some (.cells #[.int .i64 by_, .int .i64 bm, .int .i64 bd, .int .i64 bh, .int .i64 bi, .int .i64 bs] 27 (0, 0))) := Lib.hid (by rw [hW3, hg3]; exact heap_alloc_new _ _)
  replace HB : Hid (Below w.heap.size w W3) := Lib.hid (by rw [hW3]; exact below_alloc HB.out _)
  clear hW3 hg3
  have x0 := c_of HE.out 0 (v := .int .i64 by_) rfl
  have x1 := c_of HE.out 1 (v := .int .i64 bm) rfl
  have x2 := c_of HE.out 2 (v := .int .i64 bd) rfl
  have x3 := c_of HE.out 3 (v := .int .i64 bh) rfl
  have x4 := c_of HE.out 4 (v := .int .i64 bi) rfl
  have x5 := c_of HE.out 5 (v := .int .i64 bs) rfl
  go_upto_region 11 with (go_at_call 9; refine (HM.out _).mono ?_; rintro e_ w_ ⟨rfl, hb_⟩; replace HB := Lib.hid (below_step HB.out hb_); clear hb_)
  clear x0 x1 x2 x3 x4 x5
  go_wp2_with (go_at_call 17; refine (alive_q _ (HG.out.below (by repeat (first | exact HB.out | apply below_alloc)))).mono ?_; rintro e_ w_ ⟨rfl, hb_⟩; replace HB := Lib.hid (below_step (by repeat (first | exact HB.out | apply below_alloc)) hb_); clear hb_)
  go_ret
  exact ⟨rfl, HB.out⟩
set_option maxRecDepth 100000 in
set_option maxHeartbeats 1000000 in
theorem back_01 (A n ay am ad ah ai as_ by_ bm bd bh bi bs : Int) (w : World) (hG : Glob w)
    (hA : ∀ w : World, Calls Tryd.prog 9 #[date6 ay am ad ah ai as_] w fun e w' => e = .returned (.tuple #[.int .i64 0, .int .i64 1]) ∧ Below w.heap.size w w')
    (hN : ∀ w : World, Calls Tryd.prog 12 #[.int .i64 n] w fun e w' => e = .returned (.tuple #[date6 by_ bm bd bh bi bs, .int .i64 1]) ∧ Below w.heap.size w w')
    (t0 : decide (-62167219200 ≤ n) = true)
    (t1 : decide (n ≤ 253402300799) = false) :
    Calls Tryd.prog 5 #[.agg #[.int .i64 ay, .int .i64 am, .int .i64 ad, .int .i64 ah, .int .i64 ai, .int .i64 as_], .int .i64 n] w fun e w' => e = .returned (.bool true) ∧ Below w.heap.size w w' := by
  have HA := Lib.hid hA
  have HN := Lib.hid hN
  have HG := Lib.hid hG
  have HX := Lib.hid (heap_alloc_new w (.cells #[.int .i64 ay, .int .i64 am, .int .i64 ad, .int .i64 ah, .int .i64 ai, .int .i64 as_] 23))
  clear hA hN hG
  go_enter Tryd.func5, Tryd.ntmps5
  go_upto_region 6 with (first | (go_at_call 10; refine (theirs_q _ _ _ _ _ _ _).mono ?_; rintro e_ w_ ⟨rfl, hb_⟩; have HB := Lib.hid (below_step (below_alloc (Below.refl w.heap.size w) _) hb_); replace HX := Lib.hid (blk_bel hb_ HX.out); clear hb_) | (go_at_call 9; refine (HA.out _).mono ?_; rintro e_ w_ ⟨rfl, hb_⟩; replace HB := Lib.hid (below_step HB.out hb_); replace HX := Lib.hid (blk_bel hb_ HX.out); clear hb_))
  clear HX
  go_upto_region 11 with (go_at_call 12; refine (HN.out _).mono ?_; rintro e_ w_ ⟨rfl, hb_⟩; replace HB := Lib.hid (below_step HB.out hb_); clear hb_)
  go_wp2_with (go_at_call 17; refine (alive_q _ (HG.out.below (by repeat (first | exact HB.out | apply below_alloc)))).mono ?_; rintro e_ w_ ⟨rfl, hb_⟩; replace HB := Lib.hid (below_step (by repeat (first | exact HB.out | apply below_alloc)) hb_); clear hb_)
  go_ret
  exact ⟨rfl, HB.out⟩
set_option maxRecDepth 100000 in
set_option maxHeartbeats 1000000 in
theorem back_00 (A n ay am ad ah ai as_ by_ bm bd bh bi bs : Int) (w : World) (hG : Glob w)
    (hA : ∀ w : World, Calls Tryd.prog 9 #[date6 ay am ad ah ai as_] w fun e w' => e = .returned (.tuple #[.int .i64 0, .int .i64 1]) ∧ Below w.heap.size w w')
    (hN : ∀ w : World, Calls Tryd.prog 12 #[.int .i64 n] w fun e w' => e = .returned (.tuple #[date6 by_ bm bd bh bi bs, .int .i64 1]) ∧ Below w.heap.size w w')
    (t0 : decide (-62167219200 ≤ n) = false) :
    Calls Tryd.prog 5 #[.agg #[.int .i64 ay, .int .i64 am, .int .i64 ad, .int .i64 ah, .int .i64 ai, .int .i64 as_], .int .i64 n] w fun e w' => e = .returned (.bool true) ∧ Below w.heap.size w w' := by
  have HA := Lib.hid hA
  have HN := Lib.hid hN
  have HG := Lib.hid hG
  have HX := Lib.hid (heap_alloc_new w (.cells #[.int .i64 ay, .int .i64 am, .int .i64 ad, .int .i64 ah, .int .i64 ai, .int .i64 as_] 23))
  clear hA hN hG
  go_enter Tryd.func5, Tryd.ntmps5
  go_upto_region 6 with (first | (go_at_call 10; refine (theirs_q _ _ _ _ _ _ _).mono ?_; rintro e_ w_ ⟨rfl, hb_⟩; have HB := Lib.hid (below_step (below_alloc (Below.refl w.heap.size w) _) hb_); replace HX := Lib.hid (blk_bel hb_ HX.out); clear hb_) | (go_at_call 9; refine (HA.out _).mono ?_; rintro e_ w_ ⟨rfl, hb_⟩; replace HB := Lib.hid (below_step HB.out hb_); replace HX := Lib.hid (blk_bel hb_ HX.out); clear hb_))
  clear HX
  go_upto_region 11 with (go_at_call 12; refine (HN.out _).mono ?_; rintro e_ w_ ⟨rfl, hb_⟩; replace HB := Lib.hid (below_step HB.out hb_); clear hb_)
  go_wp2_with (go_at_call 17; refine (alive_q _ (HG.out.below (by repeat (first | exact HB.out | apply below_alloc)))).mono ?_; rintro e_ w_ ⟨rfl, hb_⟩; replace HB := Lib.hid (below_step (by repeat (first | exact HB.out | apply below_alloc)) hb_); clear hb_)
  go_ret
  exact ⟨rfl, HB.out⟩
theorem of_gives {y m d h mi s : Int} (o : DateOk y m d h mi s) (w' : World) : Calls Tryd.prog 12 #[.int .i64 (num y m d h mi s)] w' fun e w'' => e = .returned (.tuple #[date6 y m d h mi s, .int .i64 0]) ∧ Below w'.heap.size w' w'' := by
  have hr := num_bd o
  refine (of_yes _ w' (wB_yes hr.1 hr.2)).mono ?_
  rintro e w'' ⟨⟨y', m', d', h', mi', s', o', hn', rfl⟩, hb⟩
  obtain ⟨rfl, rfl, rfl, rfl, rfl, rfl⟩ := num_inj o' o hn'
  exact ⟨rfl, hb⟩
theorem of_there (n : Int) (w : World) (h0 : -62167219200 ≤ n) (h1 : n ≤ 253402300799) : ∃ y m d h mi s, DateOk y m d h mi s ∧ num y m d h mi s = n := by
  obtain ⟨_, _, _, ⟨⟨y, m, d, h, mi, s, o, hn, -⟩, -⟩, -⟩ := of_yes n w (wB_yes h0 h1) []
  exact ⟨y, m, d, h, mi, s, o, hn⟩
theorem back_calls (ay am ad ah ai as_ n : Int) (w : World) (hG : Glob w) : Calls Tryd.prog 5 #[.agg #[.int .i64 ay, .int .i64 am, .int .i64 ad, .int .i64 ah, .int .i64 ai, .int .i64 as_], .int .i64 n] w fun e w' => e = .returned (.bool true) ∧ Below w.heap.size w w' := by
  by_cases h0 : -62167219200 ≤ n
  · by_cases h1 : n ≤ 253402300799
    · obtain ⟨y, m, d, h, mi, s, o', hn⟩ := of_there n w h0 h1
      have hof := of_gives o'
      rw [hn] at hof
      have hM := fun w => number_ok y m d h mi s w o'
      rw [hn] at hM
      by_cases o : DateOk ay am ad ah ai as_
      · exact back_12 _ n _ _ _ _ _ _ _ _ _ _ _ _ w hG (fun w => number_ok _ _ _ _ _ _ w o) hof (of_gives o) hM (decide_eq_true h0) (decide_eq_true h1)
      · exact back_02 0 n _ _ _ _ _ _ _ _ _ _ _ _ w hG (fun w => number_no _ _ _ _ _ _ w o) hof hM (decide_eq_true h0) (decide_eq_true h1)
    · by_cases o : DateOk ay am ad ah ai as_
      · exact back_11 _ n _ _ _ _ _ _ _ _ _ _ _ _ w hG (fun w => number_ok _ _ _ _ _ _ w o) (fun w => of_no n w (wB_no (by omega))) (of_gives o) (decide_eq_true h0) (decide_eq_false h1)
      · exact back_01 0 n _ _ _ _ _ _ _ _ _ _ _ _ w hG (fun w => number_no _ _ _ _ _ _ w o) (fun w => of_no n w (wB_no (by omega))) (decide_eq_true h0) (decide_eq_false h1)
  · by_cases o : DateOk ay am ad ah ai as_
    · exact back_10 _ n _ _ _ _ _ _ _ _ _ _ _ _ w hG (fun w => number_ok _ _ _ _ _ _ w o) (fun w => of_no n w (wB_no (by omega))) (of_gives o) (decide_eq_false h0)
    · exact back_00 0 n _ _ _ _ _ _ _ _ _ _ _ _ w hG (fun w => number_no _ _ _ _ _ _ w o) (fun w => of_no n w (wB_no (by omega))) (decide_eq_false h0)
end Go.Proofs.YtmmommcgjafbbaaDoor.Da

