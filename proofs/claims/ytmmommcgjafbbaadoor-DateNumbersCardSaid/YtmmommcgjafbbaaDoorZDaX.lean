import Derived.Test.YtmmommcgjafbbaaDoorZDaV
import Derived.Test.YtmmommcgjafbbaaDoorZGxf10
import Derived.Test.YtmmommcgjafbbaaDoorZGxf14



/- DateNumbers: its walk. -/
namespace Go.Proofs.YtmmommcgjafbbaaDoor.Da
open Go.RowKit Go.Proofs.YtmmommcgjafbbaaDoorW.PrintWords Go.Proofs.YtmmommcgjafbbaaDoorW.PrintLast Go.Proofs.YtmmommcgjafbbaaDoorW.PrintMore Go.Proofs.YtmmommcgjafbbaaDoor.G
set_option linter.unusedVariables false
set_option linter.unusedSimpArgs false
theorem theirs_q (y m d h mi s : Int) (w : World) : Calls Tryd.prog 10 #[date6 y m d h mi s] w fun e w' => e = .returned (date6 y m d h mi s) ∧ Below w.heap.size w w' := turnbucklelaw16_theirs.calls y m d h mi s y m d h mi s w rfl
theorem ours_q (y m d h mi s : Int) (w : World) : Calls Tryd.prog 14 #[date6 y m d h mi s] w fun e w' => e = .returned (date6 y m d h mi s) ∧ Below w.heap.size w w' := turnbucklelaw16_ours.calls y m d h mi s y m d h mi s w rfl
theorem num_both (y m d h mi s : Int) : ∃ a e, (∀ w : World, Calls Tryd.prog 9 #[date6 y m d h mi s] w fun e' w' => e' = .returned (.tuple #[.int .i64 a, .int .i64 e]) ∧ Below w.heap.size w w') ∧ (∀ w : World, Calls Tryd.prog 11 #[date6 y m d h mi s] w fun e' w' => e' = .returned (.tuple #[.int .i64 a, .int .i64 e]) ∧ Below w.heap.size w w') := by
  by_cases o : DateOk y m d h mi s
  · exact ⟨_, _, fun w => number_ok y m d h mi s w o, fun w => rnumber_ok y m d h mi s w o⟩
  · exact ⟨_, _, fun w => number_no y m d h mi s w o, fun w => rnumber_no y m d h mi s w o⟩
theorem of_both (n : Int) (w0 : World) : ∃ y m d h mi s e, (∀ w : World, Calls Tryd.prog 12 #[.int .i64 n] w fun e' w' => e' = .returned (.tuple #[date6 y m d h mi s, .int .i64 e]) ∧ Below w.heap.size w w') ∧ (∀ w : World, Calls Tryd.prog 13 #[.int .i64 n] w fun e' w' => e' = .returned (.tuple #[date6 y m d h mi s, .int .i64 e]) ∧ Below w.heap.size w w') := by
  by_cases hr : -62167219200 ≤ n ∧ n ≤ 253402300799
  · obtain ⟨_, _, _, ⟨⟨y, m, d, h, mi, s, o, hn, -⟩, -⟩, -⟩ := of_yes n w0 (wB_yes hr.1 hr.2) []
    refine ⟨y, m, d, h, mi, s, 0, fun w' => (of_yes n w' (wB_yes hr.1 hr.2)).mono ?_, fun w' => (rof_yes n w' hr.1 hr.2).mono ?_⟩ <;>
    · rintro e w'' ⟨⟨y', m', d', h', mi', s', o', hn', rfl⟩, hb⟩
      obtain ⟨rfl, rfl, rfl, rfl, rfl, rfl⟩ := num_inj o' o (hn'.trans hn.symm)
      exact ⟨rfl, hb⟩
  · exact ⟨0, 0, 0, 0, 0, 0, 1, fun w => of_no n w (wB_no hr), fun w => rof_no n w hr⟩
set_option maxRecDepth 100000 in
set_option maxHeartbeats 4000000 in
theorem numbers_calls (ay am ad ah ai as_ n : Int) (w : World) (hG : Glob w) : Calls Tryd.prog 3 #[.agg #[.int .i64 ay, .int .i64 am, .int .i64 ad, .int .i64 ah, .int .i64 ai, .int .i64 as_], .int .i64 n] w fun e w' => e = .returned (.bool true) ∧ Below w.heap.size w w' := by
  obtain ⟨a, e, h9, h11⟩ := num_both ay am ad ah ai as_
  obtain ⟨by_, bm, bd, bh, bi, bs, f, h12, h13⟩ := of_both n w
  have H9 := Lib.hid h9
  have H11 := Lib.hid h11
  have H12 := Lib.hid h12
  have H13 := Lib.hid h13
  have HG := Lib.hid hG
  have HB := Lib.hid (Below.refl w.heap.size w)
  have HX := Lib.hid (heap_alloc_new w (.cells #[.int .i64 ay, .int .i64 am, .int .i64 ad, .int .i64 ah, .int .i64 ai, .int .i64 as_] 23))
  clear h9 h11 h12 h13 hG
  go_enter Tryd.func3, Tryd.ntmps3
  go_upto_region 2 with (first | (go_at_call 10; refine (theirs_q _ _ _ _ _ _ _).mono ?_; rintro e_ w_ ⟨rfl, hb_⟩; have HB := Lib.hid (below_step (below_alloc (Below.refl w.heap.size w) _) hb_); replace HX := Lib.hid (blk_bel hb_ HX.out); clear hb_) | (go_at_call 9; refine (H9.out _).mono ?_; rintro e_ w_ ⟨rfl, hb_⟩; replace HB := Lib.hid (below_step HB.out hb_); replace HX := Lib.hid (blk_bel hb_ HX.out); clear hb_))
  have x0 := c_of HX.out 0 (v := .int .i64 ay) rfl
  have x1 := c_of HX.out 1 (v := .int .i64 am) rfl
  have x2 := c_of HX.out 2 (v := .int .i64 ad) rfl
  have x3 := c_of HX.out 3 (v := .int .i64 ah) rfl
  have x4 := c_of HX.out 4 (v := .int .i64 ai) rfl
  have x5 := c_of HX.out 5 (v := .int .i64 as_) rfl
  go_upto_region 3 with (go_at_call 11; refine (H11.out _).mono ?_; rintro e_ w_ ⟨rfl, hb_⟩; replace HB := Lib.hid (below_step HB.out hb_); clear hb_)
  clear x0 x1 x2 x3 x4 x5 HX
  go_upto_region 4 with (go_at_call 12; refine (H12.out _).mono ?_; rintro e_ w_ ⟨rfl, hb_⟩; replace HB := Lib.hid (below_step HB.out hb_); clear hb_)
  obtain ⟨W1, hW1⟩ : ∃ W, W = w_.alloc (.cells #[.int .i64 by_, .int .i64 bm, .int .i64 bd, .int .i64 bh, .int .i64 bi, .int .i64 bs] 27) := ⟨_, rfl⟩
  obtain ⟨g1, hg1⟩ : ∃ g, g = w_.heap.size := ⟨_, rfl⟩
  rw [← hW1, ← hg1]
  have HD : Hid (W1.heap[g1]? = some (.cells #[.int .i64 by_, .int .i64 bm, .int .i64 bd, .int .i64 bh, .int .i64 bi, .int .i64 bs] 27 (0, 0))) := Lib.hid (by rw [hW1, hg1]; exact heap_alloc_new _ _)
  replace HB : Hid (Below w.heap.size w W1) := Lib.hid (by rw [hW1]; exact below_alloc HB.out _)
  clear hW1 hg1
  go_upto_region 5 with (go_at_call 13; refine (H13.out _).mono ?_; rintro e_ w2_ ⟨rfl, hb_⟩; replace HB := Lib.hid (below_step HB.out hb_); have HC := Lib.hid hb_; clear hb_)
  obtain ⟨W2, hW2⟩ : ∃ W, W = w2_.alloc (.cells #[.int .i64 by_, .int .i64 bm, .int .i64 bd, .int .i64 bh, .int .i64 bi, .int .i64 bs] 23) := ⟨_, rfl⟩
  obtain ⟨g2, hg2⟩ : ∃ g, g = w2_.heap.size := ⟨_, rfl⟩
  rw [← hW2, ← hg2]
  have HE : Hid (W2.heap[g2]? = some (.cells #[.int .i64 by_, .int .i64 bm, .int .i64 bd, .int .i64 bh, .int .i64 bi, .int .i64 bs] 23 (0, 0))) := Lib.hid (by rw [hW2, hg2]; exact heap_alloc_new _ _)
  replace HD : Hid (W2.heap[g1]? = some (.cells #[.int .i64 by_, .int .i64 bm, .int .i64 bd, .int .i64 bh, .int .i64 bi, .int .i64 bs] 27 (0, 0))) := Lib.hid (by rw [hW2]; exact blk_bel (below_alloc HC.out _) HD.out)
  replace HB : Hid (Below w.heap.size w W2) := Lib.hid (by rw [hW2]; exact below_alloc HB.out _)
  clear hW2 hg2 HC H9 H11 H12 H13
  have HG2 := Lib.hid (HG.out.below HB.out)
  refine start_ (n := 30) (S := fun w' => w'.cell? ⟨g1, 0, none⟩ = some (.int .i64 by_) ∧ w'.cell? ⟨g1, 1, none⟩ = some (.int .i64 bm) ∧ w'.cell? ⟨g1, 2, none⟩ = some (.int .i64 bd) ∧ w'.cell? ⟨g1, 3, none⟩ = some (.int .i64 bh) ∧ w'.cell? ⟨g1, 4, none⟩ = some (.int .i64 bi) ∧ w'.cell? ⟨g1, 5, none⟩ = some (.int .i64 bs) ∧ w'.cell? ⟨g2, 0, none⟩ = some (.int .i64 by_) ∧ w'.cell? ⟨g2, 1, none⟩ = some (.int .i64 bm) ∧ w'.cell? ⟨g2, 2, none⟩ = some (.int .i64 bd) ∧ w'.cell? ⟨g2, 3, none⟩ = some (.int .i64 bh) ∧ w'.cell? ⟨g2, 4, none⟩ = some (.int .i64 bi) ∧ w'.cell? ⟨g2, 5, none⟩ = some (.int .i64 bs)) (ds := []) #[false, false, false, false, false, false, false, false, false, false, false, false, false, false, false, false, false, false, false, false, false, false, false, false, false, false, false, false, false, false] (by kernel_rfl) rfl rfl ⟨c_of HD.out 0 rfl, c_of HD.out 1 rfl, c_of HD.out 2 rfl, c_of HD.out 3 rfl, c_of HD.out 4 rfl, c_of HD.out 5 rfl, c_of HE.out 0 rfl, c_of HE.out 1 rfl, c_of HE.out 2 rfl, c_of HE.out 3 rfl, c_of HE.out 4 rfl, c_of HE.out 5 rfl⟩ (fun hHeld => ?_)
  refine pure_ (i := 0) (N := some 34) (v := ?_) (a' := ?_) #[true, false, false, false, false, false, false, false, false, false, false, false, false, false, false, false, false, false, false, false, false, false, false, false, false, false, false, false, false, false] rfl rfl (by kernel_rfl) (fun _ _ _ h => h) (Or.inl ⟨by rfl, ?_⟩) ?_ ?_
  rotate_left
  · intro w'
    go_simp
    with_reducible rfl
  rotate_left
  · simp only [Act.put, List.setIfInBounds_toArray, List.set_cons_zero, List.set_cons_succ, i64_w, i32_w]
    rfl
  refine pure_ (i := 1) (N := some 35) (v := ?_) (a' := ?_) #[true, true, false, false, false, false, false, false, false, false, false, false, false, false, false, false, false, false, false, false, false, false, false, false, false, false, false, false, false, false] rfl rfl (by kernel_rfl) (fun _ _ _ h => h) (Or.inl ⟨by rfl, ?_⟩) ?_ ?_
  rotate_left
  · intro w'
    go_simp
    with_reducible rfl
  rotate_left
  · simp only [Act.put, List.setIfInBounds_toArray, List.set_cons_zero, List.set_cons_succ, i64_w, i32_w]
    rfl
  refine pure_ (i := 2) (N := some 36) (v := ?_) (a' := ?_) #[true, true, true, false, false, false, false, false, false, false, false, false, false, false, false, false, false, false, false, false, false, false, false, false, false, false, false, false, false, false] rfl rfl (by kernel_rfl) (fun _ _ _ h => h) (Or.inl ⟨by rfl, ?_⟩) ?_ ?_
  rotate_left
  · intro w'
    go_simp
    with_reducible rfl
  rotate_left
  · simp only [Act.put, List.setIfInBounds_toArray, List.set_cons_zero, List.set_cons_succ, i64_w, i32_w]
    rfl
  refine pure_ (i := 3) (N := some 37) (v := ?_) (a' := ?_) #[true, true, true, true, false, false, false, false, false, false, false, false, false, false, false, false, false, false, false, false, false, false, false, false, false, false, false, false, false, false] rfl rfl (by kernel_rfl) (fun _ _ _ h => h) (Or.inl ⟨by rfl, ?_⟩) ?_ ?_
  rotate_left
  · intro w'
    go_simp
    with_reducible rfl
  rotate_left
  · simp only [Act.put, List.setIfInBounds_toArray, List.set_cons_zero, List.set_cons_succ, i64_w, i32_w]
    rfl
  refine pure_ (i := 4) (N := some 38) (v := ?_) (a' := ?_) #[true, true, true, true, true, false, false, false, false, false, false, false, false, false, false, false, false, false, false, false, false, false, false, false, false, false, false, false, false, false] rfl rfl (by kernel_rfl) (fun _ _ _ h => h) (Or.inl ⟨by rfl, ?_⟩) ?_ ?_
  rotate_left
  · intro w'
    go_simp
    with_reducible rfl
  rotate_left
  · simp only [Act.put, List.setIfInBounds_toArray, List.set_cons_zero, List.set_cons_succ, i64_w, i32_w]
    rfl
  refine pure_ (i := 5) (N := some 39) (v := ?_) (a' := ?_) #[true, true, true, true, true, true, false, false, false, false, false, false, false, false, false, false, false, false, false, false, false, false, false, false, false, false, false, false, false, false] rfl rfl (by kernel_rfl) (fun _ _ _ h => h) (Or.inl ⟨by rfl, ?_⟩) ?_ ?_
  rotate_left
  · intro w'
    go_simp
    with_reducible rfl
  rotate_left
  · simp only [Act.put, List.setIfInBounds_toArray, List.set_cons_zero, List.set_cons_succ, i64_w, i32_w]
    rfl
  refine pure_ (i := 6) (N := some 40) (v := ?_) (a' := ?_) #[true, true, true, true, true, true, true, false, false, false, false, false, false, false, false, false, false, false, false, false, false, false, false, false, false, false, false, false, false, false] rfl rfl (by kernel_rfl) (fun _ _ _ h => h) (Or.inl ⟨by rfl, ?_⟩) ?_ ?_
  rotate_left
  · intro w'
    go_simp
    with_reducible rfl
  rotate_left
  · simp only [Act.put, List.setIfInBounds_toArray, List.set_cons_zero, List.set_cons_succ, i64_w, i32_w]
    rfl
  refine pure_ (i := 7) (N := some 41) (v := ?_) (a' := ?_) #[true, true, true, true, true, true, true, true, false, false, false, false, false, false, false, false, false, false, false, false, false, false, false, false, false, false, false, false, false, false] rfl rfl (by kernel_rfl) (fun _ _ _ h => h) (Or.inl ⟨by rfl, ?_⟩) ?_ ?_
  rotate_left
  · intro w'
    go_simp
    with_reducible rfl
  rotate_left
  · simp only [Act.put, List.setIfInBounds_toArray, List.set_cons_zero, List.set_cons_succ, i64_w, i32_w]
    rfl
  refine pure_ (i := 8) (N := some 42) (v := ?_) (a' := ?_) #[true, true, true, true, true, true, true, true, true, false, false, false, false, false, false, false, false, false, false, false, false, false, false, false, false, false, false, false, false, false] rfl rfl (by kernel_rfl) (fun _ _ _ h => h) (Or.inl ⟨by rfl, ?_⟩) ?_ ?_
  rotate_left
  · intro w'
    go_simp
    with_reducible rfl
  rotate_left
  · simp only [Act.put, List.setIfInBounds_toArray, List.set_cons_zero, List.set_cons_succ, i64_w, i32_w]
    rfl
  refine take_ (i := 9) (N := some 43) (v := ?_) (a' := ?_) #[true, true, true, true, true, true, true, true, true, true, false, false, false, false, false, false, false, false, false, false, false, false, false, false, false, false, false, false, false, false] rfl rfl (by kernel_rfl) (fun _ _ _ h => h) (Or.inl ⟨by rfl, ?_⟩) hHeld ?_ ?_
  rotate_left
  · rintro w' ⟨s0, s1, s2, s3, s4, s5, s6, s7, s8, s9, s10, s11⟩
    go_simp
    with_reducible rfl
  rotate_left
  · simp only [Act.put, List.setIfInBounds_toArray, List.set_cons_zero, List.set_cons_succ, i64_w, i32_w]
    rfl
  refine take_ (i := 11) (N := some 45) (v := ?_) (a' := ?_) #[true, true, true, true, true, true, true, true, true, true, false, true, false, false, false, false, false, false, false, false, false, false, false, false, false, false, false, false, false, false] rfl rfl (by kernel_rfl) (fun _ _ _ h => h) (Or.inl ⟨by rfl, ?_⟩) hHeld ?_ ?_
  rotate_left
  · rintro w' ⟨s0, s1, s2, s3, s4, s5, s6, s7, s8, s9, s10, s11⟩
    go_simp
    with_reducible rfl
  rotate_left
  · simp only [Act.put, List.setIfInBounds_toArray, List.set_cons_zero, List.set_cons_succ, i64_w, i32_w]
    rfl
  refine one_ (i := 10) (N := some 44) #[true, true, true, true, true, true, true, true, true, true, true, true, false, false, false, false, false, false, false, false, false, false, false, false, false, false, false, false, false, false] rfl rfl (by kernel_rfl) (by decide) (fun K hK => ?_)
  refine goes_ Tryd.func14 (by kernel_rfl) rfl #[date6 by_ bm bd bh bi bs] (by rfl) rfl rfl (by simp only [List.map_toArray, List.map_cons, List.map_nil]; rfl) ?_
  with_reducible refine (ours_q by_ bm bd bh bi bs _).mono ?_
  rintro e v1 ⟨rfl, hd1⟩
  refine ⟨_, rfl, ?_⟩
  have HF1 := Lib.hid (below_step (below_drew (Below.refl _ W2)) hd1)
  clear hd1
  refine hK.out _ _ ⟨c_of (blk_bel HF1.out HD.out) 0 rfl, c_of (blk_bel HF1.out HD.out) 1 rfl, c_of (blk_bel HF1.out HD.out) 2 rfl, c_of (blk_bel HF1.out HD.out) 3 rfl, c_of (blk_bel HF1.out HD.out) 4 rfl, c_of (blk_bel HF1.out HD.out) 5 rfl, c_of (blk_bel HF1.out HE.out) 0 rfl, c_of (blk_bel HF1.out HE.out) 1 rfl, c_of (blk_bel HF1.out HE.out) 2 rfl, c_of (blk_bel HF1.out HE.out) 3 rfl, c_of (blk_bel HF1.out HE.out) 4 rfl, c_of (blk_bel HF1.out HE.out) 5 rfl⟩ (fun hHeld => ?_)
  clear hK K
  refine norm_ (a' := ?_) ?_ ?_
  rotate_left
  · show Act.put _ (some 44) _ = _
    simp only [Act.put, List.setIfInBounds_toArray, List.set_cons_zero, List.set_cons_succ, i64_w, i32_w]
    rfl
  refine pure_ (i := 12) (N := some 46) (v := ?_) (a' := ?_) #[true, true, true, true, true, true, true, true, true, true, true, true, true, false, false, false, false, false, false, false, false, false, false, false, false, false, false, false, false, false] rfl rfl (by kernel_rfl) (fun _ _ _ h => h) (Or.inl ⟨by rfl, ?_⟩) ?_ ?_
  rotate_left
  · intro w'
    go_simp
    with_reducible rfl
  rotate_left
  · simp only [Act.put, List.setIfInBounds_toArray, List.set_cons_zero, List.set_cons_succ, i64_w, i32_w]
    rfl
  refine pure_ (i := 13) (N := some 47) (v := ?_) (a' := ?_) #[true, true, true, true, true, true, true, true, true, true, true, true, true, true, false, false, false, false, false, false, false, false, false, false, false, false, false, false, false, false] rfl rfl (by kernel_rfl) (fun _ _ _ h => h) (Or.inl ⟨by rfl, ?_⟩) ?_ ?_
  rotate_left
  · intro w'
    go_simp
    with_reducible rfl
  rotate_left
  · simp only [Act.put, List.setIfInBounds_toArray, List.set_cons_zero, List.set_cons_succ, i64_w, i32_w]
    rfl
  refine pure_ (i := 14) (N := some 48) (v := ?_) (a' := ?_) #[true, true, true, true, true, true, true, true, true, true, true, true, true, true, true, false, false, false, false, false, false, false, false, false, false, false, false, false, false, false] rfl rfl (by kernel_rfl) (fun _ _ _ h => h) (Or.inl ⟨by rfl, ?_⟩) ?_ ?_
  rotate_left
  · intro w'
    go_simp
    with_reducible rfl
  rotate_left
  · simp only [Act.put, List.setIfInBounds_toArray, List.set_cons_zero, List.set_cons_succ, i64_w, i32_w]
    rfl
  refine pure_ (i := 15) (N := some 49) (v := ?_) (a' := ?_) #[true, true, true, true, true, true, true, true, true, true, true, true, true, true, true, true, false, false, false, false, false, false, false, false, false, false, false, false, false, false] rfl rfl (by kernel_rfl) (fun _ _ _ h => h) (Or.inl ⟨by rfl, ?_⟩) ?_ ?_
  rotate_left
  · intro w'
    go_simp
    with_reducible rfl
  rotate_left
  · simp only [Act.put, List.setIfInBounds_toArray, List.set_cons_zero, List.set_cons_succ, i64_w, i32_w]
    rfl
  refine pure_ (i := 16) (N := some 50) (v := ?_) (a' := ?_) #[true, true, true, true, true, true, true, true, true, true, true, true, true, true, true, true, true, false, false, false, false, false, false, false, false, false, false, false, false, false] rfl rfl (by kernel_rfl) (fun _ _ _ h => h) (Or.inl ⟨by rfl, ?_⟩) ?_ ?_
  rotate_left
  · intro w'
    go_simp
    with_reducible rfl
  rotate_left
  · simp only [Act.put, List.setIfInBounds_toArray, List.set_cons_zero, List.set_cons_succ, i64_w, i32_w]
    rfl
  refine pure_ (i := 17) (N := some 51) (v := ?_) (a' := ?_) #[true, true, true, true, true, true, true, true, true, true, true, true, true, true, true, true, true, true, false, false, false, false, false, false, false, false, false, false, false, false] rfl rfl (by kernel_rfl) (fun _ _ _ h => h) (Or.inl ⟨by rfl, ?_⟩) ?_ ?_
  rotate_left
  · intro w'
    go_simp
    with_reducible rfl
  rotate_left
  · simp only [Act.put, List.setIfInBounds_toArray, List.set_cons_zero, List.set_cons_succ, i64_w, i32_w]
    rfl
  refine pure_ (i := 18) (N := some 52) (v := ?_) (a' := ?_) #[true, true, true, true, true, true, true, true, true, true, true, true, true, true, true, true, true, true, true, false, false, false, false, false, false, false, false, false, false, false] rfl rfl (by kernel_rfl) (fun _ _ _ h => h) (Or.inl ⟨by rfl, ?_⟩) ?_ ?_
  rotate_left
  · intro w'
    go_simp
    with_reducible rfl
  rotate_left
  · simp only [Act.put, List.setIfInBounds_toArray, List.set_cons_zero, List.set_cons_succ, i64_w, i32_w]
    rfl
  refine pure_ (i := 19) (N := some 53) (v := ?_) (a' := ?_) #[true, true, true, true, true, true, true, true, true, true, true, true, true, true, true, true, true, true, true, true, false, false, false, false, false, false, false, false, false, false] rfl rfl (by kernel_rfl) (fun _ _ _ h => h) (Or.inl ⟨by rfl, ?_⟩) ?_ ?_
  rotate_left
  · intro w'
    go_simp
    with_reducible rfl
  rotate_left
  · simp only [Act.put, List.setIfInBounds_toArray, List.set_cons_zero, List.set_cons_succ, i64_w, i32_w]
    rfl
  refine pure_ (i := 20) (N := some 54) (v := ?_) (a' := ?_) #[true, true, true, true, true, true, true, true, true, true, true, true, true, true, true, true, true, true, true, true, true, false, false, false, false, false, false, false, false, false] rfl rfl (by kernel_rfl) (fun _ _ _ h => h) (Or.inl ⟨by rfl, ?_⟩) ?_ ?_
  rotate_left
  · intro w'
    go_simp
    with_reducible rfl
  rotate_left
  · simp only [Act.put, List.setIfInBounds_toArray, List.set_cons_zero, List.set_cons_succ, i64_w, i32_w]
    rfl
  refine pure_ (i := 22) (N := some 56) (v := ?_) (a' := ?_) #[true, true, true, true, true, true, true, true, true, true, true, true, true, true, true, true, true, true, true, true, true, false, true, false, false, false, false, false, false, false] rfl rfl (by kernel_rfl) (fun _ _ _ h => h) (Or.inl ⟨by rfl, ?_⟩) ?_ ?_
  rotate_left
  · intro w'
    go_simp
    with_reducible rfl
  rotate_left
  · simp only [Act.put, List.setIfInBounds_toArray, List.set_cons_zero, List.set_cons_succ, i64_w, i32_w]
    rfl
  refine one_ (i := 21) (N := some 55) #[true, true, true, true, true, true, true, true, true, true, true, true, true, true, true, true, true, true, true, true, true, true, true, false, false, false, false, false, false, false] rfl rfl (by kernel_rfl) (by decide) (fun K hK => ?_)
  refine goes_ Tryd.func15 (by kernel_rfl) rfl #[.int .i64 n] (by rfl) rfl rfl (by simp only [List.map_toArray, List.map_cons, List.map_nil]; rfl) ?_
  with_reducible refine (weekday_q n _).mono ?_
  rintro e v2 ⟨rfl, hd2⟩
  refine ⟨_, rfl, ?_⟩
  have HF2 := Lib.hid (below_step HF1.out hd2.below)
  clear hd2
  refine hK.out _ _ ⟨c_of (blk_bel HF2.out HD.out) 0 rfl, c_of (blk_bel HF2.out HD.out) 1 rfl, c_of (blk_bel HF2.out HD.out) 2 rfl, c_of (blk_bel HF2.out HD.out) 3 rfl, c_of (blk_bel HF2.out HD.out) 4 rfl, c_of (blk_bel HF2.out HD.out) 5 rfl, c_of (blk_bel HF2.out HE.out) 0 rfl, c_of (blk_bel HF2.out HE.out) 1 rfl, c_of (blk_bel HF2.out HE.out) 2 rfl, c_of (blk_bel HF2.out HE.out) 3 rfl, c_of (blk_bel HF2.out HE.out) 4 rfl, c_of (blk_bel HF2.out HE.out) 5 rfl⟩ (fun hHeld => ?_)
  clear hK K
  refine norm_ (a' := ?_) ?_ ?_
  rotate_left
  · show Act.put _ (some 55) _ = _
    simp only [Act.put, List.setIfInBounds_toArray, List.set_cons_zero, List.set_cons_succ, i64_w, i32_w]
    rfl
  refine one_ (i := 23) (N := some 57) #[true, true, true, true, true, true, true, true, true, true, true, true, true, true, true, true, true, true, true, true, true, true, true, true, false, false, false, false, false, false] rfl rfl (by kernel_rfl) (by decide) (fun K hK => ?_)
  refine goes_ Tryd.func16 (by kernel_rfl) rfl #[.int .i64 n] (by rfl) rfl rfl (by simp only [List.map_toArray, List.map_cons, List.map_nil]; rfl) ?_
  with_reducible refine (rweekday_q n _).mono ?_
  rintro e v3 ⟨rfl, hd3⟩
  refine ⟨_, rfl, ?_⟩
  have HF3 := Lib.hid (below_step HF2.out hd3.below)
  clear hd3
  refine hK.out _ _ ⟨c_of (blk_bel HF3.out HD.out) 0 rfl, c_of (blk_bel HF3.out HD.out) 1 rfl, c_of (blk_bel HF3.out HD.out) 2 rfl, c_of (blk_bel HF3.out HD.out) 3 rfl, c_of (blk_bel HF3.out HD.out) 4 rfl, c_of (blk_bel HF3.out HD.out) 5 rfl, c_of (blk_bel HF3.out HE.out) 0 rfl, c_of (blk_bel HF3.out HE.out) 1 rfl, c_of (blk_bel HF3.out HE.out) 2 rfl, c_of (blk_bel HF3.out HE.out) 3 rfl, c_of (blk_bel HF3.out HE.out) 4 rfl, c_of (blk_bel HF3.out HE.out) 5 rfl⟩ (fun hHeld => ?_)
  clear hK K
  refine norm_ (a' := ?_) ?_ ?_
  rotate_left
  · show Act.put _ (some 57) _ = _
    simp only [Act.put, List.setIfInBounds_toArray, List.set_cons_zero, List.set_cons_succ, i64_w, i32_w]
    rfl
  refine pure_ (i := 24) (N := some 58) (v := ?_) (a' := ?_) #[true, true, true, true, true, true, true, true, true, true, true, true, true, true, true, true, true, true, true, true, true, true, true, true, true, false, false, false, false, false] rfl rfl (by kernel_rfl) (fun _ _ _ h => h) (Or.inl ⟨by rfl, ?_⟩) ?_ ?_
  rotate_left
  · intro w'
    go_simp
    with_reducible rfl
  rotate_left
  · simp only [Act.put, List.setIfInBounds_toArray, List.set_cons_zero, List.set_cons_succ, i64_w, i32_w]
    rfl
  refine pure_ (i := 25) (N := some 59) (v := ?_) (a' := ?_) #[true, true, true, true, true, true, true, true, true, true, true, true, true, true, true, true, true, true, true, true, true, true, true, true, true, true, false, false, false, false] rfl rfl (by kernel_rfl) (fun _ _ _ h => h) (Or.inl ⟨by rfl, ?_⟩) ?_ ?_
  rotate_left
  · intro w'
    go_simp
    with_reducible rfl
  rotate_left
  · simp only [Act.put, List.setIfInBounds_toArray, List.set_cons_zero, List.set_cons_succ, i64_w, i32_w]
    rfl
  refine pure_ (i := 26) (N := some 60) (v := ?_) (a' := ?_) #[true, true, true, true, true, true, true, true, true, true, true, true, true, true, true, true, true, true, true, true, true, true, true, true, true, true, true, false, false, false] rfl rfl (by kernel_rfl) (fun _ _ _ h => h) (Or.inl ⟨by rfl, ?_⟩) ?_ ?_
  rotate_left
  · intro w'
    go_simp
    with_reducible rfl
  rotate_left
  · simp only [Act.put, List.setIfInBounds_toArray, List.set_cons_zero, List.set_cons_succ, i64_w, i32_w]
    rfl
  refine one_ (i := 27) (N := some 61) #[true, true, true, true, true, true, true, true, true, true, true, true, true, true, true, true, true, true, true, true, true, true, true, true, true, true, true, true, false, false] rfl rfl (by kernel_rfl) (by decide) (fun K hK => ?_)
  refine goes_ Tryd.func17 (by kernel_rfl) rfl #[] (by rfl) rfl rfl (by simp only [List.map_toArray, List.map_cons, List.map_nil]) ?_
  with_reducible refine (alive_q _ (HG2.out.below HF3.out)).mono ?_
  rintro e v4 ⟨rfl, hd4⟩
  refine ⟨_, rfl, ?_⟩
  have HF4 := Lib.hid (below_step HF3.out hd4)
  clear hd4
  refine hK.out _ _ ⟨c_of (blk_bel HF4.out HD.out) 0 rfl, c_of (blk_bel HF4.out HD.out) 1 rfl, c_of (blk_bel HF4.out HD.out) 2 rfl, c_of (blk_bel HF4.out HD.out) 3 rfl, c_of (blk_bel HF4.out HD.out) 4 rfl, c_of (blk_bel HF4.out HD.out) 5 rfl, c_of (blk_bel HF4.out HE.out) 0 rfl, c_of (blk_bel HF4.out HE.out) 1 rfl, c_of (blk_bel HF4.out HE.out) 2 rfl, c_of (blk_bel HF4.out HE.out) 3 rfl, c_of (blk_bel HF4.out HE.out) 4 rfl, c_of (blk_bel HF4.out HE.out) 5 rfl⟩ (fun hHeld => ?_)
  clear hK K
  refine norm_ (a' := ?_) ?_ ?_
  rotate_left
  · show Act.put _ (some 61) _ = _
    simp only [Act.put, List.setIfInBounds_toArray, List.set_cons_zero, List.set_cons_succ, i64_w, i32_w]
    rfl
  refine pure_ (i := 28) (N := some 62) (v := ?_) (a' := ?_) #[true, true, true, true, true, true, true, true, true, true, true, true, true, true, true, true, true, true, true, true, true, true, true, true, true, true, true, true, true, false] rfl rfl (by kernel_rfl) (fun _ _ _ h => h) (Or.inl ⟨by rfl, ?_⟩) ?_ ?_
  rotate_left
  · intro w'
    go_simp
    with_reducible rfl
  rotate_left
  · simp only [Act.put, List.setIfInBounds_toArray, List.set_cons_zero, List.set_cons_succ, i64_w, i32_w]
    rfl
  refine pure_ (i := 29) (N := some 4) (v := ?_) (a' := ?_) #[true, true, true, true, true, true, true, true, true, true, true, true, true, true, true, true, true, true, true, true, true, true, true, true, true, true, true, true, true, true] rfl rfl (by kernel_rfl) (fun _ _ _ h => h) (Or.inl ⟨by rfl, ?_⟩) ?_ ?_
  rotate_left
  · intro w'
    go_simp
    with_reducible rfl
  rotate_left
  · simp only [Act.put, List.setIfInBounds_toArray, List.set_cons_zero, List.set_cons_succ, i64_w, i32_w]
    rfl
  refine done_ (by kernel_rfl) ?_
  clear hHeld
  go_wp2
  go_ret
  exact ⟨rfl, below_step HB.out HF4.out⟩
end Go.Proofs.YtmmommcgjafbbaaDoor.Da

