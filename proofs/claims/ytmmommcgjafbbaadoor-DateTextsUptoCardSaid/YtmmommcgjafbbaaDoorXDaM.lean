import Derived.Test.YtmmommcgjafbbaaDoorXDaO

/- The document's Number: its contract. -/
namespace Go.Proofs.YtmmommcgjafbbaaDoor.Da
open Go.RowKit Go.Proofs.YtmmommcgjafbbaaDoorW.PrintWords Go.Proofs.YtmmommcgjafbbaaDoorW.PrintLast Go.Proofs.YtmmommcgjafbbaaDoorW.PrintMore Go.Proofs.YtmmommcgjafbbaaDoor.G
set_option linter.unusedVariables false
set_option linter.unusedSimpArgs false
theorem right_no {y m d h mi s : Int} (hn : ¬ DateOk y m d h mi s) : RightB y m d h mi s (dim y m) = false :=
  decide_eq_false (fun q => hn ⟨⟨by omega, by omega, by omega, by omega, by omega, by omega⟩, by omega, by omega, by omega, by omega, by omega, by omega⟩)
theorem right_yes {y m d h mi s : Int} (o : DateOk y m d h mi s) : RightB y m d h mi s (dim y m) = true := by
  obtain ⟨⟨y0, y1, m0, m1, d0, d1⟩, h0, h1, mi0, mi1, s0, s1⟩ := o
  exact decide_eq_true (by omega)
set_option maxRecDepth 100000 in
set_option maxHeartbeats 2000000 in
theorem rnumber_no (y m d h mi s : Int) (w : World) (hn : ¬ DateOk y m d h mi s) : Calls Tryd.prog 11 #[date6 y m d h mi s] w fun e w' => e = .returned (.tuple #[.int .i64 0, .int .i64 1]) ∧ Below w.heap.size w w' := by
  have HR := Lib.hid (right_no hn)
  clear hn
  go_enter Tryd.func11, Tryd.ntmps11
  go_wp2_with (go_at_call 24; refine (rright_calls y m d h mi s _ (daysAs y m) _).mono ?_; rintro e w1 ⟨rfl, hb1⟩; rw [HR.out])
  go_ret2
  exact ⟨rfl, below_step (below_alloc (Below.refl _ _) _) hb1⟩
set_option maxRecDepth 100000 in
set_option maxHeartbeats 8000000 in
theorem rnumber_ok (y m d h mi s : Int) (w : World) (o : DateOk y m d h mi s) : Calls Tryd.prog 11 #[date6 y m d h mi s] w fun e w' => e = .returned (.tuple #[.int .i64 (num y m d h mi s), .int .i64 0]) ∧ Below w.heap.size w w' := by
  have HR := Lib.hid (right_yes o)
  obtain ⟨⟨y0, y1, m0, m1, d0, d1⟩, h0, h1, mi0, mi1, s0, s1⟩ := o
  have d31 : d ≤ 31 := by have := dim_lo y m; omega
  have D1 := Lib.hid d1
  clear d1
  go_enter Tryd.func11, Tryd.ntmps11
  go_upto_region 3 with (go_at_call 24; refine (rright_calls y m d h mi s _ (daysAs y m) _).mono ?_; rintro e w1 ⟨rfl, hb1⟩; rw [HR.out]; have HN : Hid (w1.heap[w.heap.size]? = some (.cells #[.int .i64 y, .int .i64 m, .int .i64 d, .int .i64 h, .int .i64 mi, .int .i64 s] 23 (0, 0))) := Lib.hid (blk_bel hb1 (heap_alloc_new _ _)); have HB : Hid (Below w.heap.size w w1) := Lib.hid (below_step (below_alloc (Below.refl _ _) _) hb1); clear hb1)
  clear HR
  have hbl := bef_le y y0
  have hbg := bef_ge y y0
  have hw1 : wrap64 (bef y + d) = bef y + d := by unfold wrap64; omega
  have hw2 : wrap64 (bef y + d - 1) = bef y + d - 1 := by clear hw1; unfold wrap64; omega
  refine start_ (n := 8) (S := fun w' => w'.cell? ⟨w.heap.size, 0, none⟩ = some (.int .i64 y) ∧ w'.cell? ⟨w.heap.size, 2, none⟩ = some (.int .i64 d)) (ds := []) #[false, false, false, false, false, false, false, false] (by kernel_rfl) rfl rfl ⟨c_of HN.out 0 rfl, c_of HN.out 2 rfl⟩ (fun hHeld => ?_)
  refine pure_ (i := 0) (N := some 9) (v := ?_) (a' := ?_) #[true, false, false, false, false, false, false, false] rfl rfl (by kernel_rfl) (fun _ _ _ h => h) (Or.inl ⟨by rfl, ?_⟩) ?_ ?_
  rotate_left
  · intro w'
    go_simp
    with_reducible rfl
  rotate_left
  · simp only [Act.put, List.setIfInBounds_toArray, List.set_cons_zero, List.set_cons_succ, i64_w, i32_w]
    rfl
  refine pure_ (i := 3) (N := some 12) (v := ?_) (a' := ?_) #[true, false, false, true, false, false, false, false] rfl rfl (by kernel_rfl) (fun _ _ _ h => h) (Or.inl ⟨by rfl, ?_⟩) ?_ ?_
  rotate_left
  · intro w'
    go_simp
    with_reducible rfl
  rotate_left
  · simp only [Act.put, List.setIfInBounds_toArray, List.set_cons_zero, List.set_cons_succ, i64_w, i32_w]
    rfl
  refine take_ (i := 1) (N := some 10) (v := ?_) (a' := ?_) #[true, true, false, true, false, false, false, false] rfl rfl (by kernel_rfl) (fun _ _ _ h => h) (Or.inl ⟨by rfl, ?_⟩) hHeld ?_ ?_
  rotate_left
  · rintro w' ⟨s0, s1⟩
    go_simp
    with_reducible rfl
  rotate_left
  · simp only [Act.put, List.setIfInBounds_toArray, List.set_cons_zero, List.set_cons_succ, i64_w, i32_w]
    rfl
  refine take_ (i := 4) (N := some 13) (v := ?_) (a' := ?_) #[true, true, false, true, true, false, false, false] rfl rfl (by kernel_rfl) (fun _ _ _ h => h) (Or.inl ⟨by rfl, ?_⟩) hHeld ?_ ?_
  rotate_left
  · rintro w' ⟨s0, s1⟩
    go_simp
    with_reducible rfl
  rotate_left
  · simp only [Act.put, List.setIfInBounds_toArray, List.set_cons_zero, List.set_cons_succ, i64_w, i32_w]
    rfl
  refine one_ (i := 2) (N := some 11) #[true, true, true, true, true, false, false, false] rfl rfl (by kernel_rfl) (by decide) (fun K hK => ?_)
  refine goes_ Tryd.func25 (by kernel_rfl) rfl #[.int .i64 y] (by rfl) rfl rfl (by simp only [List.map_toArray, List.map_cons, List.map_nil]; rfl) ?_
  with_reducible refine (before_q y _ y0 (by omega)).mono ?_
  rintro e w3 ⟨rfl, hd3⟩
  refine ⟨_, rfl, ?_⟩
  have HB3 : Hid (Below w1.heap.size w1 w3) := Lib.hid (below_step (below_drew (Below.refl _ _)) hd3.below)
  refine hK.out _ _ ⟨c_of (blk_bel HB3.out HN.out) 0 rfl, c_of (blk_bel HB3.out HN.out) 2 rfl⟩ (fun hHeld => ?_)
  clear hK K
  refine norm_ (a' := ?_) ?_ ?_
  rotate_left
  · show Act.put _ (some 11) _ = _
    simp only [Act.put, List.setIfInBounds_toArray, List.set_cons_zero, List.set_cons_succ, i64_w, i32_w]
    rfl
  refine pure_ (i := 5) (N := some 14) (v := ?_) (a' := ?_) #[true, true, true, true, true, true, false, false] rfl rfl (by kernel_rfl) (fun _ _ _ h => h) (Or.inl ⟨by rfl, ?_⟩) ?_ ?_
  rotate_left
  · intro w'
    go_simp
    with_reducible rfl
  rotate_left
  · simp only [Act.put, List.setIfInBounds_toArray, List.set_cons_zero, List.set_cons_succ, i64_w, i32_w]
    rfl
  refine pure_ (i := 6) (N := some 15) (v := ?_) (a' := ?_) #[true, true, true, true, true, true, true, false] rfl rfl (by kernel_rfl) (fun _ _ _ h => h) (Or.inl ⟨by rfl, ?_⟩) ?_ ?_
  rotate_left
  · intro w'
    go_simp
    with_reducible rfl
  rotate_left
  · simp only [Act.put, List.setIfInBounds_toArray, List.set_cons_zero, List.set_cons_succ, i64_w, i32_w]
    rfl
  refine pure_ (i := 7) (N := some 4) (v := ?_) (a' := ?_) #[true, true, true, true, true, true, true, true] rfl rfl (by kernel_rfl) (fun _ _ _ h => h) (Or.inl ⟨by rfl, ?_⟩) ?_ ?_
  rotate_left
  · intro w'
    go_simp
    with_reducible rfl
  rotate_left
  · simp only [Act.put, List.setIfInBounds_toArray, List.set_cons_zero, List.set_cons_succ, i64_w, i32_w]
    rfl
  refine done_ (by kernel_rfl) ?_
  clear hHeld hw1 hw2
  replace HB := Lib.hid (below_step HB.out HB3.out)
  replace HN := Lib.hid (blk_bel HB3.out HN.out)
  clear HB3
  go_wp2
  go_loopg [4, 5] 13 (fun k v4 v5 W => ∃ j : Int, 1 ≤ j ∧ j ≤ m ∧ v5 = .int .i64 j ∧ v4 = .int .i64 (bef y + d - 1 + cum y j) ∧ 13 ≤ k + j.toNat ∧ Hid (W.heap[w.heap.size]? = some (.cells #[.int .i64 y, .int .i64 m, .int .i64 d, .int .i64 h, .int .i64 mi, .int .i64 s] 23 (0, 0))) ∧ Hid (Below w.heap.size w W))
  case atStart =>
    refine ⟨1, by omega, by omega, rfl, ?_, by omega, HN, HB⟩
    rw [cum_1]
    congr 1
    omega
  case round =>
    obtain ⟨j, j0, j1, rfl, rfl, hk, HN, HB⟩ := hrel
    rename World => Wo
    have hc := cum_bd y j (by omega) (by omega)
    have hlp := lp_01 y
    have hdi := dim_lo y j
    have c0 := c_of HN.out 0 (v := .int .i64 y) rfl
    have c1 := c_of HN.out 1 (v := .int .i64 m) rfl
    have c2 := c_of HN.out 2 (v := .int .i64 d) rfl
    have c3 := c_of HN.out 3 (v := .int .i64 h) rfl
    have c4 := c_of HN.out 4 (v := .int .i64 mi) rfl
    have c5 := c_of HN.out 5 (v := .int .i64 s) rfl
    by_cases hlt : j < m
    · obtain ⟨ko, rfl⟩ : ∃ ko, gk = ko + 1 := ⟨gk - 1, by omega⟩
      have hk2 : 13 ≤ ko + (j + 1).toNat := by omega
      have j2 : 1 ≤ j + 1 := by omega
      have j3 : j + 1 ≤ m := by omega
      have HS := Lib.hid (cum_succ y j (by omega) (by omega))
      have t0 : decide (j < m) = true := decide_eq_true hlt
      go_wp2_with (go_at_call 26; refine (days_q y j _).mono ?_; rintro e w2 ⟨rfl, hd2⟩; replace HB := Lib.hid (below_step HB.out hd2.below); replace HN := Lib.hid (blk_bel hd2.below HN.out); clear hd2)
      go_roundg ko
      case measure => omega
      case rel =>
        refine ⟨j + 1, j2, j3, rfl, ?_, hk2, HN, HB⟩
        have e := HS.out
        rw [e]
        congr 1
        omega
    · obtain rfl : j = m := by omega
      have t0 : decide (j < j) = false := decide_eq_false (by omega)
      go_wp2
      go_ret2
      refine ⟨?_, HB.out⟩
      show Ending.returned (.tuple #[.int .i64 (-62167219200 + (bef y + d - 1 + cum y j) * 86400 + h * 3600 + mi * 60 + s), .int .i64 0]) = _
      have e : num y j d h mi s = -62167219200 + (bef y + d - 1 + cum y j) * 86400 + h * 3600 + mi * 60 + s := by unfold num dno; omega
      rw [e]
end Go.Proofs.YtmmommcgjafbbaaDoor.Da

