import Derived.Test.YtbnhlekehndhkaaGreatDoorYDaQ

/- date.Number: its contract. -/
namespace Go.Proofs.YtbnhlekehndhkaaGreatDoor.Da
open Go.RowKit Go.Proofs.YtbnhlekehndhkaaGreatDoorW.PrintWords Go.Proofs.YtbnhlekehndhkaaGreatDoorW.PrintLast Go.Proofs.YtbnhlekehndhkaaGreatDoorW.PrintMore Go.Proofs.YtbnhlekehndhkaaGreatDoor.G
set_option linter.unusedVariables false
set_option linter.unusedSimpArgs false
theorem cells_of {w : World} {g : Nat} {cs : Array Value} {t : Nat} {m : Nat × Nat} (h : w.heap[g]? = some (.cells cs t m)) (j : Nat) : w.cell? ⟨g, j, none⟩ = cs[j]? := by simp [World.cell?, h]
theorem c_of {w : World} {g : Nat} {cs : Array Value} {t : Nat} {m : Nat × Nat} {v : Value} (h : w.heap[g]? = some (.cells cs t m)) (j : Nat) (e : cs[j]? = some v) : w.cell? ⟨g, j, none⟩ = some v := (cells_of h j).trans e
theorem fr_of {w : World} {g : Nat} {cs : Array Value} {t : Nat} (h : w.heap[g]? = some (.cells cs t (0, 0))) (j : Nat) : w.frozen? ⟨g, j, none⟩ = false := frozen_of_row w g j cs t h
theorem blk_lt {w : World} {g : Nat} {o : Obj} (h : w.heap[g]? = some o) : g < w.heap.size := (Array.getElem?_eq_some_iff.1 h).1
theorem blk_bel {W W' : World} {b : Nat} {o : Obj} (hg : Below W.heap.size W W') (hb : W.heap[b]? = some o) : W'.heap[b]? = some o := (hg.block _ (blk_lt hb)).trans hb
set_option maxRecDepth 100000 in
set_option maxHeartbeats 2000000 in
theorem number_no0 (y m d h mi s : Int) (w : World) (h0 : wB y 0 9999 = false) : Calls Tryz.prog 113 #[date6 y m d h mi s] w fun e w' => e = .returned (.tuple #[.int .i64 0, .int .i64 1]) ∧ Below w.heap.size w w' := by
  go_enter Tryz.func113, Tryz.ntmps113
  go_wp2_with (go_at_call 148; refine (within_q _ _ _ _).mono ?_; rintro e w' ⟨rfl, ⟨⟨n_, rfl⟩⟩⟩)
  go_ret2
  exact ⟨rfl, by repeat (first | exact below_alloc (Below.refl _ _) _ | apply pw_below_drewN)⟩
set_option maxRecDepth 100000 in
set_option maxHeartbeats 2000000 in
theorem number_no1 (y m d h mi s : Int) (w : World) (h0 : wB y 0 9999 = true) (h1 : wB m 1 12 = false) : Calls Tryz.prog 113 #[date6 y m d h mi s] w fun e w' => e = .returned (.tuple #[.int .i64 0, .int .i64 1]) ∧ Below w.heap.size w w' := by
  go_enter Tryz.func113, Tryz.ntmps113
  go_wp2_with (go_at_call 148; refine (within_q _ _ _ _).mono ?_; rintro e w' ⟨rfl, ⟨⟨n_, rfl⟩⟩⟩)
  go_ret2
  exact ⟨rfl, by repeat (first | exact below_alloc (Below.refl _ _) _ | apply pw_below_drewN)⟩
set_option maxRecDepth 100000 in
set_option maxHeartbeats 2000000 in
theorem number_no2 (y m d h mi s : Int) (w : World) (h0 : wB y 0 9999 = true) (h1 : wB m 1 12 = true) (h2 : wB h 0 23 = false) : Calls Tryz.prog 113 #[date6 y m d h mi s] w fun e w' => e = .returned (.tuple #[.int .i64 0, .int .i64 1]) ∧ Below w.heap.size w w' := by
  go_enter Tryz.func113, Tryz.ntmps113
  go_wp2_with (go_at_call 148; refine (within_q _ _ _ _).mono ?_; rintro e w' ⟨rfl, ⟨⟨n_, rfl⟩⟩⟩)
  go_ret2
  exact ⟨rfl, by repeat (first | exact below_alloc (Below.refl _ _) _ | apply pw_below_drewN)⟩
set_option maxRecDepth 100000 in
set_option maxHeartbeats 2000000 in
theorem number_no3 (y m d h mi s : Int) (w : World) (h0 : wB y 0 9999 = true) (h1 : wB m 1 12 = true) (h2 : wB h 0 23 = true) (h3 : wB mi 0 59 = false) : Calls Tryz.prog 113 #[date6 y m d h mi s] w fun e w' => e = .returned (.tuple #[.int .i64 0, .int .i64 1]) ∧ Below w.heap.size w w' := by
  go_enter Tryz.func113, Tryz.ntmps113
  go_wp2_with (go_at_call 148; refine (within_q _ _ _ _).mono ?_; rintro e w' ⟨rfl, ⟨⟨n_, rfl⟩⟩⟩)
  go_ret2
  exact ⟨rfl, by repeat (first | exact below_alloc (Below.refl _ _) _ | apply pw_below_drewN)⟩
set_option maxRecDepth 100000 in
set_option maxHeartbeats 2000000 in
theorem number_no4 (y m d h mi s : Int) (w : World) (h0 : wB y 0 9999 = true) (h1 : wB m 1 12 = true) (h2 : wB h 0 23 = true) (h3 : wB mi 0 59 = true) (h4 : wB s 0 59 = false) : Calls Tryz.prog 113 #[date6 y m d h mi s] w fun e w' => e = .returned (.tuple #[.int .i64 0, .int .i64 1]) ∧ Below w.heap.size w w' := by
  go_enter Tryz.func113, Tryz.ntmps113
  go_wp2_with (go_at_call 148; refine (within_q _ _ _ _).mono ?_; rintro e w' ⟨rfl, ⟨⟨n_, rfl⟩⟩⟩)
  go_ret2
  exact ⟨rfl, by repeat (first | exact below_alloc (Below.refl _ _) _ | apply pw_below_drewN)⟩
set_option maxRecDepth 100000 in
set_option maxHeartbeats 4000000 in
theorem number_nod (y : Int) (M : Nat) (d h mi s : Int) (w : World) (h0 : wB y 0 9999 = true) (h1 : wB ((M : Int) + 1) 1 12 = true) (h2 : wB h 0 23 = true) (h3 : wB mi 0 59 = true) (h4 : wB s 0 59 = true) (h5 : wB d 1 (dim y ((M : Int) + 1)) = false) :
    Calls Tryz.prog 113 #[date6 y ((M : Int) + 1) d h mi s] w fun e w' => e = .returned (.tuple #[.int .i64 0, .int .i64 1]) ∧ Below w.heap.size w w' := by
  have Q0 := Lib.hid (wB_tells h0)
  have Q1 := Lib.hid (wB_tells h1)
  have Q2 := Lib.hid (wB_tells h2)
  have Q3 := Lib.hid (wB_tells h3)
  have Q4 := Lib.hid (wB_tells h4)
  have H5 := Lib.hid h5
  clear h5
  go_enter Tryz.func113, Tryz.ntmps113
  go_upto_region 1 with fail
  obtain ⟨W0, hW0⟩ : ∃ W, W = w.alloc (.cells #[.int .i64 y, .int .i64 ((M : Int) + 1), .int .i64 d, .int .i64 h, .int .i64 mi, .int .i64 s] 136) := ⟨_, rfl⟩
  rw [← hW0]
  have HN : Hid (W0.heap[w.heap.size]? = some (.cells #[.int .i64 y, .int .i64 ((M : Int) + 1), .int .i64 d, .int .i64 h, .int .i64 mi, .int .i64 s] 136 (0, 0))) := Lib.hid (by rw [hW0]; exact heap_alloc_new _ _)
  have HB : Hid (Below w.heap.size w W0) := Lib.hid (by rw [hW0]; exact below_alloc (Below.refl _ _) _)
  clear hW0
  have c0 := c_of HN.out 0 (v := .int .i64 y) rfl
  go_upto_region 3 with (go_at_call 148; refine (within_q _ _ _ _).mono ?_; rintro e w' ⟨rfl, hd⟩; replace HB := Lib.hid (below_step HB.out hd.below); replace HN := Lib.hid (blk_bel hd.below HN.out); clear hd; have c0 := c_of HN.out 0 (v := .int .i64 y) rfl; have c1 := c_of HN.out 1 (v := .int .i64 ((M : Int) + 1)) rfl; have c2 := c_of HN.out 2 (v := .int .i64 d) rfl; have c3 := c_of HN.out 3 (v := .int .i64 h) rfl; have c4 := c_of HN.out 4 (v := .int .i64 mi) rfl; have c5 := c_of HN.out 5 (v := .int .i64 s) rfl)
  clear h0 h1 h2 h3 h4
  go_upto_region 4 with (go_at_call 149; refine (lengths_lit y _).mono ?_; rintro e w1 ⟨rfl, hb1⟩; replace HB := Lib.hid (below_step HB.out hb1); replace HN := Lib.hid (blk_bel hb1 HN.out); clear hb1)
  obtain ⟨W1, hW1⟩ : ∃ W, W = w1.alloc (.cells (lenA y) 177) := ⟨_, rfl⟩
  rw [← hW1]
  have HL1 : Hid (W1.heap[w1.heap.size]? = some (.cells (lenA y) 177 (0, 0))) := Lib.hid (by rw [hW1]; exact heap_alloc_new _ _)
  have HB2 : Hid (Below w1.heap.size w1 W1) := Lib.hid (by rw [hW1]; exact below_alloc (Below.refl _ _) _)
  replace HB := Lib.hid (below_step HB.out HB2.out)
  replace HN := Lib.hid (blk_bel HB2.out HN.out)
  clear hW1 c0 c1 c2 c3 c4 c5
  have hM : M < 12 := by have := Q1.out; omega
  have i0 : (0 : Int) ≤ (M : Int) := by omega
  have i1 : (M : Int) < 12 := by omega
  have HC := Lib.hid (len_at y M hM)
  have hw : wrap64 (M : Int) = (M : Int) := by unfold wrap64; omega
  refine start_ (n := 9) (S := fun w' => w'.cell? ⟨w.heap.size, 2, none⟩ = some (.int .i64 d) ∧ w'.cell? ⟨w.heap.size, 1, none⟩ = some (.int .i64 ((M : Int) + 1)) ∧ w'.cell? ⟨w1.heap.size, M, none⟩ = some (.int .i64 (dim y ((M : Int) + 1)))) (ds := []) #[false, false, false, false, false, false, false, false, false] (by kernel_rfl) rfl rfl ⟨c_of HN.out 2 rfl, c_of HN.out 1 rfl, c_of HL1.out M HC.out⟩ (fun hHeld => ?_)
  refine pure_ (i := 0) (N := some 39) (v := ?_) (a' := ?_) #[true, false, false, false, false, false, false, false, false] rfl rfl (by kernel_rfl) (fun _ _ _ h => h) (Or.inl ⟨by rfl, ?_⟩) ?_ ?_
  rotate_left
  · intro w'
    go_simp
    with_reducible rfl
  rotate_left
  · simp only [Act.put, List.setIfInBounds_toArray, List.set_cons_zero, List.set_cons_succ, i64_w, i32_w]
    rfl
  refine pure_ (i := 2) (N := some 41) (v := ?_) (a' := ?_) #[true, false, true, false, false, false, false, false, false] rfl rfl (by kernel_rfl) (fun _ _ _ h => h) (Or.inl ⟨by rfl, ?_⟩) ?_ ?_
  rotate_left
  · intro w'
    go_simp
    with_reducible rfl
  rotate_left
  · simp only [Act.put, List.setIfInBounds_toArray, List.set_cons_zero, List.set_cons_succ, i64_w, i32_w]
    rfl
  refine take_ (i := 1) (N := some 40) (v := ?_) (a' := ?_) #[true, true, true, false, false, false, false, false, false] rfl rfl (by kernel_rfl) (fun _ _ _ h => h) (Or.inl ⟨by rfl, ?_⟩) hHeld ?_ ?_
  rotate_left
  · rintro w' ⟨s0, s1, s2⟩
    go_simp
    with_reducible rfl
  rotate_left
  · simp only [Act.put, List.setIfInBounds_toArray, List.set_cons_zero, List.set_cons_succ, i64_w, i32_w]
    rfl
  refine take_ (i := 3) (N := some 42) (v := ?_) (a' := ?_) #[true, true, true, true, false, false, false, false, false] rfl rfl (by kernel_rfl) (fun _ _ _ h => h) (Or.inl ⟨by rfl, ?_⟩) hHeld ?_ ?_
  rotate_left
  · rintro w' ⟨s0, s1, s2⟩
    go_simp
    with_reducible rfl
  rotate_left
  · simp only [Act.put, List.setIfInBounds_toArray, List.set_cons_zero, List.set_cons_succ, i64_w, i32_w]
    rfl
  refine pure_ (i := 4) (N := some 43) (v := ?_) (a' := ?_) #[true, true, true, true, true, false, false, false, false] rfl rfl (by kernel_rfl) (fun _ _ _ h => h) (Or.inl ⟨by rfl, ?_⟩) ?_ ?_
  rotate_left
  · intro w'
    go_simp
    with_reducible rfl
  rotate_left
  · simp only [Act.put, List.setIfInBounds_toArray, List.set_cons_zero, List.set_cons_succ, i64_w, i32_w]
    rfl
  refine pure_ (i := 5) (N := some 44) (v := ?_) (a' := ?_) #[true, true, true, true, true, true, false, false, false] rfl rfl (by kernel_rfl) (fun _ _ _ h => h) (Or.inl ⟨by rfl, ?_⟩) ?_ ?_
  rotate_left
  · intro w'
    go_simp
    with_reducible rfl
  rotate_left
  · simp only [Act.put, List.setIfInBounds_toArray, List.set_cons_zero, List.set_cons_succ, i64_w, i32_w]
    rfl
  refine take_ (i := 6) (N := some 45) (v := ?_) (a' := ?_) #[true, true, true, true, true, true, true, false, false] rfl rfl (by kernel_rfl) (fun _ _ _ h => h) (Or.inl ⟨by rfl, ?_⟩) hHeld ?_ ?_
  rotate_left
  · rintro w' ⟨s0, s1, s2⟩
    go_simp
    with_reducible rfl
  rotate_left
  · simp only [Act.put, List.setIfInBounds_toArray, List.set_cons_zero, List.set_cons_succ, i64_w, i32_w]
    rfl
  refine one_ (i := 7) (N := some 46) #[true, true, true, true, true, true, true, true, false] rfl rfl (by kernel_rfl) (by decide) (fun K hK => ?_)
  refine goes_ Tryz.func148 (by kernel_rfl) rfl #[.int .i64 d, .int .i64 1, .int .i64 (dim y ((M : Int) + 1))] (by rfl) rfl rfl (by simp only [List.map_toArray, List.map_cons, List.map_nil]; rfl) ?_
  with_reducible refine (within_q d 1 (dim y ((M : Int) + 1)) _).mono ?_
  rintro e w7 ⟨rfl, hd7⟩
  refine ⟨_, rfl, ?_⟩
  have HB7 : Hid (Below W1.heap.size W1 w7) := Lib.hid (below_step (below_drew (Below.refl _ _)) hd7.below)
  refine hK.out _ _ ⟨c_of (blk_bel HB7.out HN.out) 2 rfl, c_of (blk_bel HB7.out HN.out) 1 rfl, c_of (blk_bel HB7.out HL1.out) M HC.out⟩ (fun hHeld => ?_)
  clear hK K
  refine norm_ (a' := ?_) ?_ ?_
  rotate_left
  · show Act.put _ (some 46) _ = _
    simp only [Act.put, List.setIfInBounds_toArray, List.set_cons_zero, List.set_cons_succ, i64_w, i32_w]
    rfl
  refine pure_ (i := 8) (N := some 47) (v := ?_) (a' := ?_) #[true, true, true, true, true, true, true, true, true] rfl rfl (by kernel_rfl) (fun _ _ _ h => h) (Or.inl ⟨by rfl, ?_⟩) ?_ ?_
  rotate_left
  · intro w'
    go_simp
    with_reducible rfl
  rotate_left
  · simp only [Act.put, List.setIfInBounds_toArray, List.set_cons_zero, List.set_cons_succ, i64_w, i32_w]
    rfl
  refine done_ (by kernel_rfl) ?_
  clear hHeld hw
  rw [H5.out]
  go_wp2
  go_ret2
  exact ⟨rfl, below_step HB.out HB7.out⟩

set_option maxRecDepth 100000 in
set_option maxHeartbeats 4000000 in
theorem number_yes (y : Int) (M : Nat) (d h mi s : Int) (w : World) (h0 : wB y 0 9999 = true) (h1 : wB ((M : Int) + 1) 1 12 = true) (h2 : wB h 0 23 = true) (h3 : wB mi 0 59 = true) (h4 : wB s 0 59 = true) (h5 : wB d 1 (dim y ((M : Int) + 1)) = true) :
    Calls Tryz.prog 113 #[date6 y ((M : Int) + 1) d h mi s] w fun e w' => e = .returned (.tuple #[.int .i64 (num y ((M : Int) + 1) d h mi s), .int .i64 0]) ∧ Below w.heap.size w w' := by
  have Q0 := Lib.hid (wB_tells h0)
  have Q1 := Lib.hid (wB_tells h1)
  have Q2 := Lib.hid (wB_tells h2)
  have Q3 := Lib.hid (wB_tells h3)
  have Q4 := Lib.hid (wB_tells h4)
  have H5 := Lib.hid h5
  clear h5
  go_enter Tryz.func113, Tryz.ntmps113
  go_upto_region 1 with fail
  obtain ⟨W0, hW0⟩ : ∃ W, W = w.alloc (.cells #[.int .i64 y, .int .i64 ((M : Int) + 1), .int .i64 d, .int .i64 h, .int .i64 mi, .int .i64 s] 136) := ⟨_, rfl⟩
  rw [← hW0]
  have HN : Hid (W0.heap[w.heap.size]? = some (.cells #[.int .i64 y, .int .i64 ((M : Int) + 1), .int .i64 d, .int .i64 h, .int .i64 mi, .int .i64 s] 136 (0, 0))) := Lib.hid (by rw [hW0]; exact heap_alloc_new _ _)
  have HB : Hid (Below w.heap.size w W0) := Lib.hid (by rw [hW0]; exact below_alloc (Below.refl _ _) _)
  clear hW0
  have c0 := c_of HN.out 0 (v := .int .i64 y) rfl
  go_upto_region 3 with (go_at_call 148; refine (within_q _ _ _ _).mono ?_; rintro e w' ⟨rfl, hd⟩; replace HB := Lib.hid (below_step HB.out hd.below); replace HN := Lib.hid (blk_bel hd.below HN.out); clear hd; have c0 := c_of HN.out 0 (v := .int .i64 y) rfl; have c1 := c_of HN.out 1 (v := .int .i64 ((M : Int) + 1)) rfl; have c2 := c_of HN.out 2 (v := .int .i64 d) rfl; have c3 := c_of HN.out 3 (v := .int .i64 h) rfl; have c4 := c_of HN.out 4 (v := .int .i64 mi) rfl; have c5 := c_of HN.out 5 (v := .int .i64 s) rfl)
  clear h0 h1 h2 h3 h4
  go_upto_region 4 with (go_at_call 149; refine (lengths_lit y _).mono ?_; rintro e w1 ⟨rfl, hb1⟩; replace HB := Lib.hid (below_step HB.out hb1); replace HN := Lib.hid (blk_bel hb1 HN.out); clear hb1)
  obtain ⟨W1, hW1⟩ : ∃ W, W = w1.alloc (.cells (lenA y) 177) := ⟨_, rfl⟩
  rw [← hW1]
  have HL1 : Hid (W1.heap[w1.heap.size]? = some (.cells (lenA y) 177 (0, 0))) := Lib.hid (by rw [hW1]; exact heap_alloc_new _ _)
  have HB2 : Hid (Below w1.heap.size w1 W1) := Lib.hid (by rw [hW1]; exact below_alloc (Below.refl _ _) _)
  replace HB := Lib.hid (below_step HB.out HB2.out)
  replace HN := Lib.hid (blk_bel HB2.out HN.out)
  clear hW1 c0 c1 c2 c3 c4 c5
  have hM : M < 12 := by have := Q1.out; omega
  have i0 : (0 : Int) ≤ (M : Int) := by omega
  have i1 : (M : Int) < 12 := by omega
  have HC := Lib.hid (len_at y M hM)
  have hw : wrap64 (M : Int) = (M : Int) := by unfold wrap64; omega
  refine start_ (n := 9) (S := fun w' => w'.cell? ⟨w.heap.size, 2, none⟩ = some (.int .i64 d) ∧ w'.cell? ⟨w.heap.size, 1, none⟩ = some (.int .i64 ((M : Int) + 1)) ∧ w'.cell? ⟨w1.heap.size, M, none⟩ = some (.int .i64 (dim y ((M : Int) + 1)))) (ds := []) #[false, false, false, false, false, false, false, false, false] (by kernel_rfl) rfl rfl ⟨c_of HN.out 2 rfl, c_of HN.out 1 rfl, c_of HL1.out M HC.out⟩ (fun hHeld => ?_)
  refine pure_ (i := 0) (N := some 39) (v := ?_) (a' := ?_) #[true, false, false, false, false, false, false, false, false] rfl rfl (by kernel_rfl) (fun _ _ _ h => h) (Or.inl ⟨by rfl, ?_⟩) ?_ ?_
  rotate_left
  · intro w'
    go_simp
    with_reducible rfl
  rotate_left
  · simp only [Act.put, List.setIfInBounds_toArray, List.set_cons_zero, List.set_cons_succ, i64_w, i32_w]
    rfl
  refine pure_ (i := 2) (N := some 41) (v := ?_) (a' := ?_) #[true, false, true, false, false, false, false, false, false] rfl rfl (by kernel_rfl) (fun _ _ _ h => h) (Or.inl ⟨by rfl, ?_⟩) ?_ ?_
  rotate_left
  · intro w'
    go_simp
    with_reducible rfl
  rotate_left
  · simp only [Act.put, List.setIfInBounds_toArray, List.set_cons_zero, List.set_cons_succ, i64_w, i32_w]
    rfl
  refine take_ (i := 1) (N := some 40) (v := ?_) (a' := ?_) #[true, true, true, false, false, false, false, false, false] rfl rfl (by kernel_rfl) (fun _ _ _ h => h) (Or.inl ⟨by rfl, ?_⟩) hHeld ?_ ?_
  rotate_left
  · rintro w' ⟨s0, s1, s2⟩
    go_simp
    with_reducible rfl
  rotate_left
  · simp only [Act.put, List.setIfInBounds_toArray, List.set_cons_zero, List.set_cons_succ, i64_w, i32_w]
    rfl
  refine take_ (i := 3) (N := some 42) (v := ?_) (a' := ?_) #[true, true, true, true, false, false, false, false, false] rfl rfl (by kernel_rfl) (fun _ _ _ h => h) (Or.inl ⟨by rfl, ?_⟩) hHeld ?_ ?_
  rotate_left
  · rintro w' ⟨s0, s1, s2⟩
    go_simp
    with_reducible rfl
  rotate_left
  · simp only [Act.put, List.setIfInBounds_toArray, List.set_cons_zero, List.set_cons_succ, i64_w, i32_w]
    rfl
  refine pure_ (i := 4) (N := some 43) (v := ?_) (a' := ?_) #[true, true, true, true, true, false, false, false, false] rfl rfl (by kernel_rfl) (fun _ _ _ h => h) (Or.inl ⟨by rfl, ?_⟩) ?_ ?_
  rotate_left
  · intro w'
    go_simp
    with_reducible rfl
  rotate_left
  · simp only [Act.put, List.setIfInBounds_toArray, List.set_cons_zero, List.set_cons_succ, i64_w, i32_w]
    rfl
  refine pure_ (i := 5) (N := some 44) (v := ?_) (a' := ?_) #[true, true, true, true, true, true, false, false, false] rfl rfl (by kernel_rfl) (fun _ _ _ h => h) (Or.inl ⟨by rfl, ?_⟩) ?_ ?_
  rotate_left
  · intro w'
    go_simp
    with_reducible rfl
  rotate_left
  · simp only [Act.put, List.setIfInBounds_toArray, List.set_cons_zero, List.set_cons_succ, i64_w, i32_w]
    rfl
  refine take_ (i := 6) (N := some 45) (v := ?_) (a' := ?_) #[true, true, true, true, true, true, true, false, false] rfl rfl (by kernel_rfl) (fun _ _ _ h => h) (Or.inl ⟨by rfl, ?_⟩) hHeld ?_ ?_
  rotate_left
  · rintro w' ⟨s0, s1, s2⟩
    go_simp
    with_reducible rfl
  rotate_left
  · simp only [Act.put, List.setIfInBounds_toArray, List.set_cons_zero, List.set_cons_succ, i64_w, i32_w]
    rfl
  refine one_ (i := 7) (N := some 46) #[true, true, true, true, true, true, true, true, false] rfl rfl (by kernel_rfl) (by decide) (fun K hK => ?_)
  refine goes_ Tryz.func148 (by kernel_rfl) rfl #[.int .i64 d, .int .i64 1, .int .i64 (dim y ((M : Int) + 1))] (by rfl) rfl rfl (by simp only [List.map_toArray, List.map_cons, List.map_nil]; rfl) ?_
  with_reducible refine (within_q d 1 (dim y ((M : Int) + 1)) _).mono ?_
  rintro e w7 ⟨rfl, hd7⟩
  refine ⟨_, rfl, ?_⟩
  have HB7 : Hid (Below W1.heap.size W1 w7) := Lib.hid (below_step (below_drew (Below.refl _ _)) hd7.below)
  refine hK.out _ _ ⟨c_of (blk_bel HB7.out HN.out) 2 rfl, c_of (blk_bel HB7.out HN.out) 1 rfl, c_of (blk_bel HB7.out HL1.out) M HC.out⟩ (fun hHeld => ?_)
  clear hK K
  refine norm_ (a' := ?_) ?_ ?_
  rotate_left
  · show Act.put _ (some 46) _ = _
    simp only [Act.put, List.setIfInBounds_toArray, List.set_cons_zero, List.set_cons_succ, i64_w, i32_w]
    rfl
  refine pure_ (i := 8) (N := some 47) (v := ?_) (a' := ?_) #[true, true, true, true, true, true, true, true, true] rfl rfl (by kernel_rfl) (fun _ _ _ h => h) (Or.inl ⟨by rfl, ?_⟩) ?_ ?_
  rotate_left
  · intro w'
    go_simp
    with_reducible rfl
  rotate_left
  · simp only [Act.put, List.setIfInBounds_toArray, List.set_cons_zero, List.set_cons_succ, i64_w, i32_w]
    rfl
  refine done_ (by kernel_rfl) ?_
  clear hHeld hw
  rw [H5.out]
  have HL7 := Lib.hid (blk_bel HB7.out HL1.out)
  have HN7 := Lib.hid (blk_bel HB7.out HN.out)
  have HBW := Lib.hid (below_step HB.out HB7.out)
  clear HB HB2 HB7 HN HL1
  have c0 := c_of HN7.out 0 (v := .int .i64 y) rfl
  have c1 := c_of HN7.out 1 (v := .int .i64 ((M : Int) + 1)) rfl
  have c2 := c_of HN7.out 2 (v := .int .i64 d) rfl
  have c3 := c_of HN7.out 3 (v := .int .i64 h) rfl
  have c4 := c_of HN7.out 4 (v := .int .i64 mi) rfl
  have c5 := c_of HN7.out 5 (v := .int .i64 s) rfl
  have Q5 := Lib.hid (wB_tells H5.out)
  have hdl := dim_lo y ((M : Int) + 1)
  have y0 : 0 ≤ y := Q0.out.1
  have y1 : y ≤ 9999 := Q0.out.2
  have d0 : 1 ≤ d := Q5.out.1
  have d1 : d ≤ 31 := by have := Q5.out; omega
  have j0 : 0 ≤ h := Q2.out.1
  have j1 : h ≤ 23 := Q2.out.2
  have k0 : 0 ≤ mi := Q3.out.1
  have k1 : mi ≤ 59 := Q3.out.2
  have l0 : 0 ≤ s := Q4.out.1
  have l1 : s ≤ 59 := Q4.out.2
  have i2 : (M : Int) ≤ 12 := by omega
  clear hdl
  go_wp2
  go_loop [5, 75] (fun v5 v75 => ∃ i : Nat, i ≤ M ∧ v75 = .int .i64 (i : Int) ∧ v5 = .int .i64 (bef y + d - 1 + cum y ((i : Int) + 1))) (fun _ v75 => M - (intOf v75).toNat)
  case atStart =>
    refine ⟨0, Nat.zero_le _, rfl, ?_⟩
    rw [show ((0 : Nat) : Int) + 1 = 1 from rfl, cum_1]
    unfold bef
    congr 1
    omega
  case round =>
    obtain ⟨i, hi, rfl, rfl⟩ := hrel
    have hbl := bef_le y y0
    have hbg := bef_ge y y0
    by_cases hlt : i < M
    · have hc := cum_bd y ((i : Int) + 1) (by omega) (by omega)
      have hlp := lp_01 y
      have hdi := dim_lo y ((i : Int) + 1)
      have HS := Lib.hid (cum_succ y ((i : Int) + 1) (by omega) (by omega))
      have ci := c_of HL7.out i (len_at y i (by omega))
      have t0 : decide ((i : Int) < (M : Int)) = true := decide_eq_true (by omega)
      have t1 : (0 : Int) ≤ (i : Int) := by omega
      have t2 : (i : Int) < (M : Int) := by omega
      go_wp2
      go_round
      case rel =>
        refine ⟨i + 1, by omega, by go_num, ?_⟩
        have e := HS.out
        rw [show (((i + 1 : Nat) : Int) + 1) = (i : Int) + 1 + 1 by omega, e]
        congr 1
        omega
      case measure => simp [intOf]; omega
    · obtain rfl : i = M := by omega
      have hc := cum_bd y ((i : Int) + 1) (by omega) (by omega)
      have hlp := lp_01 y
      have t0 : decide ((i : Int) < (i : Int)) = false := decide_eq_false (by omega)
      go_wp2
      go_ret2
      refine ⟨?_, HBW.out⟩
      show Ending.returned (.tuple #[.int .i64 (-62167219200 + (bef y + d - 1 + cum y ((i : Int) + 1)) * 86400 + (h * 60 + mi) * 60 + s), .int .i64 0]) = _
      have e : num y ((i : Int) + 1) d h mi s = -62167219200 + (bef y + d - 1 + cum y ((i : Int) + 1)) * 86400 + (h * 60 + mi) * 60 + s := by unfold num dno; omega
      rw [e]
theorem number_no (y m d h mi s : Int) (w : World) (hn : ¬ DateOk y m d h mi s) : Calls Tryz.prog 113 #[date6 y m d h mi s] w fun e w' => e = .returned (.tuple #[.int .i64 0, .int .i64 1]) ∧ Below w.heap.size w w' := by
  by_cases h0 : wB y 0 9999 = true
  · by_cases h1 : wB m 1 12 = true
    · by_cases h2 : wB h 0 23 = true
      · by_cases h3 : wB mi 0 59 = true
        · by_cases h4 : wB s 0 59 = true
          · obtain ⟨M, rfl⟩ : ∃ M : Nat, m = (M : Int) + 1 := ⟨(m - 1).toNat, by have := wB_tells h1; omega⟩
            refine number_nod y M d h mi s w h0 h1 h2 h3 h4 ?_
            have t0 := wB_tells h0; have t1 := wB_tells h1; have t2 := wB_tells h2; have t3 := wB_tells h3; have t4 := wB_tells h4
            refine wB_no (fun h5 => hn ⟨⟨t0.1, t0.2, t1.1, t1.2, h5.1, h5.2⟩, t2.1, t2.2, t3.1, t3.2, t4.1, t4.2⟩)
          · exact number_no4 y m d h mi s w h0 h1 h2 h3 (by simpa using h4)
        · exact number_no3 y m d h mi s w h0 h1 h2 (by simpa using h3)
      · exact number_no2 y m d h mi s w h0 h1 (by simpa using h2)
    · exact number_no1 y m d h mi s w h0 (by simpa using h1)
  · exact number_no0 y m d h mi s w (by simpa using h0)
theorem number_ok (y m d h mi s : Int) (w : World) (o : DateOk y m d h mi s) : Calls Tryz.prog 113 #[date6 y m d h mi s] w fun e w' => e = .returned (.tuple #[.int .i64 (num y m d h mi s), .int .i64 0]) ∧ Below w.heap.size w w' := by
  obtain ⟨⟨y0, y1, m0, m1, d0, d1⟩, h0, h1, mi0, mi1, s0, s1⟩ := o
  obtain ⟨M, rfl⟩ : ∃ M : Nat, m = (M : Int) + 1 := ⟨(m - 1).toNat, by omega⟩
  exact number_yes y M d h mi s w (wB_yes y0 y1) (wB_yes m0 m1) (wB_yes h0 h1) (wB_yes mi0 mi1) (wB_yes s0 s1) (wB_yes d0 d1)
end Go.Proofs.YtbnhlekehndhkaaGreatDoor.Da

