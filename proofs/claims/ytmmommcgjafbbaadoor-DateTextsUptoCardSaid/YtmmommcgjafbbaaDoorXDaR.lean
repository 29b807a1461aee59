import Derived.Test.YtmmommcgjafbbaaDoorXDaM

/- The document's Of: its contract. -/
namespace Go.Proofs.YtmmommcgjafbbaaDoor.Da
open Go.RowKit Go.Proofs.YtmmommcgjafbbaaDoorW.PrintWords Go.Proofs.YtmmommcgjafbbaaDoorW.PrintLast Go.Proofs.YtmmommcgjafbbaaDoorW.PrintMore Go.Proofs.YtmmommcgjafbbaaDoor.G
set_option linter.unusedVariables false
set_option linter.unusedSimpArgs false
theorem before_w (y : Int) (w : World) (h0 : 0 ≤ y) (h1 : y ≤ 9999) : Calls Tryd.prog 25 #[.int .i64 (wrap64 (y + 1))] w fun e w' => e = .returned (.int .i64 (bef (y + 1))) ∧ Drawn0 w w' := by
  rw [show wrap64 (y + 1) = y + 1 by unfold wrap64; omega]
  exact before_q (y + 1) w (by omega) (by omega)
set_option maxRecDepth 100000 in
set_option maxHeartbeats 2000000 in
theorem rof_no (n : Int) (w : World) (hb : ¬ (-62167219200 ≤ n ∧ n ≤ 253402300799)) : Calls Tryd.prog 13 #[.int .i64 n] w fun e w' => e = .returned (.tuple #[date6 0 0 0 0 0 0, .int .i64 1]) ∧ Below w.heap.size w w' := by
  have h1 : n < -62167219200 ∨ 253402300799 < n := by omega
  clear hb
  rcases h1 with h1 | h1
  · have t0 : decide (n < -62167219200) = true := decide_eq_true h1
    clear h1
    have HR := Lib.hid (heap_alloc_new w (.cells #[.int .i64 0, .int .i64 0, .int .i64 0, .int .i64 0, .int .i64 0, .int .i64 0] 23))
    go_enter Tryd.func13, Tryd.ntmps13
    go_wp2
    exact bodyPost_ret (v := .tuple #[date6 0 0 0 0 0 0, .int .i64 1]) (by simp [results, Tryd.results13, go_sem, c_of HR.out 0 (v := .int .i64 0) rfl, c_of HR.out 1 (v := .int .i64 0) rfl, c_of HR.out 2 (v := .int .i64 0) rfl, c_of HR.out 3 (v := .int .i64 0) rfl, c_of HR.out 4 (v := .int .i64 0) rfl, c_of HR.out 5 (v := .int .i64 0) rfl]) rfl ⟨rfl, below_alloc (Below.refl _ _) _⟩
  · have t0 : decide (n < -62167219200) = false := decide_eq_false (by omega)
    have t1 : decide (253402300799 < n) = true := decide_eq_true h1
    clear h1
    have HR := Lib.hid (heap_alloc_new w (.cells #[.int .i64 0, .int .i64 0, .int .i64 0, .int .i64 0, .int .i64 0, .int .i64 0] 23))
    go_enter Tryd.func13, Tryd.ntmps13
    go_wp2
    exact bodyPost_ret (v := .tuple #[date6 0 0 0 0 0 0, .int .i64 1]) (by simp [results, Tryd.results13, go_sem, c_of HR.out 0 (v := .int .i64 0) rfl, c_of HR.out 1 (v := .int .i64 0) rfl, c_of HR.out 2 (v := .int .i64 0) rfl, c_of HR.out 3 (v := .int .i64 0) rfl, c_of HR.out 4 (v := .int .i64 0) rfl, c_of HR.out 5 (v := .int .i64 0) rfl]) rfl ⟨rfl, below_alloc (Below.refl _ _) _⟩

set_option maxRecDepth 100000 in
set_option maxHeartbeats 8000000 in
theorem rof_yes (n : Int) (w : World) (n0 : -62167219200 ≤ n) (n1 : n ≤ 253402300799) : Calls Tryd.prog 13 #[.int .i64 n] w fun e w' => (∃ y m d h mi s, DateOk y m d h mi s ∧ num y m d h mi s = n ∧ e = .returned (.tuple #[date6 y m d h mi s, .int .i64 0])) ∧ Below w.heap.size w w' := by
  have t0 : decide (n < -62167219200) = false := decide_eq_false (by omega)
  have t1 : decide (253402300799 < n) = false := decide_eq_false (by omega)
  obtain ⟨q, hq⟩ : ∃ q, q = n + 62167219200 := ⟨_, rfl⟩
  have q0 : 0 ≤ q := by omega
  have q1 : q ≤ 315569519999 := by omega
  have HQ := Lib.hid hq
  have hr0 := heap_alloc_new w (.cells #[.int .i64 0, .int .i64 0, .int .i64 0, .int .i64 0, .int .i64 0, .int .i64 0] 23)
  have HR0 := Lib.hid hr0
  have hqq : n + 62167219200 = q := hq.symm
  have HB0 : Hid (Below w.heap.size w (w.alloc (.cells #[.int .i64 0, .int .i64 0, .int .i64 0, .int .i64 0, .int .i64 0, .int .i64 0] 23))) := Lib.hid (below_alloc (Below.refl _ _) _)
  clear hr0 hq
  go_enter Tryd.func13, Tryd.ntmps13
  go_upto_region 5 with fail
  obtain ⟨N, hN⟩ : ∃ N, N = q / 86400 := ⟨_, rfl⟩
  obtain ⟨H, hH⟩ : ∃ N, N = q % 86400 / 3600 := ⟨_, rfl⟩
  obtain ⟨MI, hMI⟩ : ∃ N, N = q % 3600 / 60 := ⟨_, rfl⟩
  obtain ⟨SE, hSE⟩ : ∃ N, N = q % 60 := ⟨_, rfl⟩
  have N0 : 0 ≤ N := by omega
  have N1 : N ≤ 3652424 := by omega
  have HNX := Lib.hid hN
  have HHX := Lib.hid hH
  have HMX := Lib.hid hMI
  have HSX := Lib.hid hSE
  obtain ⟨W1, hW1⟩ : ∃ W, W = ((w.alloc (.cells #[.int .i64 0, .int .i64 0, .int .i64 0, .int .i64 0, .int .i64 0, .int .i64 0] 23)).alloc (.cells #[.int .i64 0, .int .i64 1, .int .i64 N, .int .i64 H, .int .i64 MI, .int .i64 SE] 23)) := ⟨_, rfl⟩
  rw [← hN, ← hH, ← hMI, ← hSE, ← hW1]
  have HD : Hid (W1.heap[w.heap.size + 1]? = some (.cells #[.int .i64 0, .int .i64 1, .int .i64 N, .int .i64 H, .int .i64 MI, .int .i64 SE] 23 (0, 0))) := Lib.hid (by
    have h1 := heap_alloc_new (w.alloc (.cells #[.int .i64 0, .int .i64 0, .int .i64 0, .int .i64 0, .int .i64 0, .int .i64 0] 23)) (.cells #[.int .i64 0, .int .i64 1, .int .i64 N, .int .i64 H, .int .i64 MI, .int .i64 SE] 23)
    rw [World.size_alloc] at h1
    rw [hW1]; exact h1)
  have HR : Hid (W1.heap[w.heap.size]? = some (.cells #[.int .i64 0, .int .i64 0, .int .i64 0, .int .i64 0, .int .i64 0, .int .i64 0] 23 (0, 0))) := Lib.hid (by rw [hW1]; exact blk_bel (below_alloc (Below.refl _ _) _) (heap_alloc_new _ _))
  have HB : Hid (Below w.heap.size w W1) := Lib.hid (by rw [hW1]; exact below_alloc (below_alloc (Below.refl _ _) _) _)
  clear hN hH hMI hSE hW1 hqq t0 t1 HR0 HB0
  have l2 := c_of HD.out 2 (v := .int .i64 N) rfl
  have l0 := c_of HD.out 0 (v := .int .i64 0) rfl
  have f0 := fr_of HD.out 0
  go_wp2
  clear l2 l0 f0
  have HD2 : Hid ((W1.setCell ⟨w.heap.size + 1, 0, none⟩ (.int .i64 (N / 366))).heap[w.heap.size + 1]? = some (.cells #[.int .i64 (N / 366), .int .i64 1, .int .i64 N, .int .i64 H, .int .i64 MI, .int .i64 SE] 23 (0, 0))) := Lib.hid (set_same HD.out rfl)
  have HR2 : Hid ((W1.setCell ⟨w.heap.size + 1, 0, none⟩ (.int .i64 (N / 366))).heap[w.heap.size]? = some (.cells #[.int .i64 0, .int .i64 0, .int .i64 0, .int .i64 0, .int .i64 0, .int .i64 0] 23 (0, 0))) := Lib.hid (set_other HR.out (by omega))
  have HB2 : Hid (Below w.heap.size w (W1.setCell ⟨w.heap.size + 1, 0, none⟩ (.int .i64 (N / 366)))) := Lib.hid (Below.setCell HB.out (p := ⟨w.heap.size + 1, 0, none⟩) (by show w.heap.size ≤ w.heap.size + 1; omega) _)
  clear HD HR HB
  go_loopg [] 10001 (fun k W => ∃ y : Int, 0 ≤ y ∧ y ≤ 9999 ∧ bef y ≤ N ∧ 10000 ≤ k + y.toNat ∧ Hid (W.heap[w.heap.size + 1]? = some (.cells #[.int .i64 y, .int .i64 1, .int .i64 N, .int .i64 H, .int .i64 MI, .int .i64 SE] 23 (0, 0))) ∧ Hid (W.heap[w.heap.size]? = some (.cells #[.int .i64 0, .int .i64 0, .int .i64 0, .int .i64 0, .int .i64 0, .int .i64 0] 23 (0, 0))) ∧ Hid (Below w.heap.size w W))
  case atStart => exact ⟨N / 366, by omega, by omega, by have := bef_le (N / 366) (by omega); omega, by omega, HD2, HR2, HB2⟩
  case round =>
    obtain ⟨y, y0, y1, hbe, hk, HD, HR, HB⟩ := hrel
    rename World => Wo
    clear HD2 HR2 HB2
    by_cases hy : y < 9999
    · have t0 : decide (y < 9999) = true := decide_eq_true hy
      go_upto_region 6 with fail
      refine start_ (n := 12) (S := fun w' => w'.cell? ⟨w.heap.size + 1, 0, none⟩ = some (.int .i64 y) ∧ w'.cell? ⟨w.heap.size + 1, 2, none⟩ = some (.int .i64 N)) (ds := []) #[false, false, false, false, false, false, false, false, false, false, false, false] (by kernel_rfl) rfl rfl ⟨c_of HD.out 0 rfl, c_of HD.out 2 rfl⟩ (fun hHeld => ?_)
      refine pure_ (i := 0) (N := some 29) (v := ?_) (a' := ?_) #[true, false, false, false, false, false, false, false, false, false, false, false] rfl rfl (by kernel_rfl) (fun _ _ _ h => h) (Or.inl ⟨by rfl, ?_⟩) ?_ ?_
      rotate_left
      · intro w'
        go_simp
        with_reducible rfl
      rotate_left
      · simp only [Act.put, List.setIfInBounds_toArray, List.set_cons_zero, List.set_cons_succ, i64_w, i32_w]
        rfl
      refine take_ (i := 1) (N := some 30) (v := ?_) (a' := ?_) #[true, true, false, false, false, false, false, false, false, false, false, false] rfl rfl (by kernel_rfl) (fun _ _ _ h => h) (Or.inl ⟨by rfl, ?_⟩) hHeld ?_ ?_
      rotate_left
      · rintro w' ⟨s0, s1⟩
        go_simp
        with_reducible rfl
      rotate_left
      · simp only [Act.put, List.setIfInBounds_toArray, List.set_cons_zero, List.set_cons_succ, i64_w, i32_w]
        rfl
      refine pure_ (i := 2) (N := some 31) (v := ?_) (a' := ?_) #[true, true, true, false, false, false, false, false, false, false, false, false] rfl rfl (by kernel_rfl) (fun _ _ _ h => h) (Or.inl ⟨by rfl, ?_⟩) ?_ ?_
      rotate_left
      · intro w'
        go_simp
        with_reducible rfl
      rotate_left
      · simp only [Act.put, List.setIfInBounds_toArray, List.set_cons_zero, List.set_cons_succ, i64_w, i32_w]
        rfl
      refine pure_ (i := 3) (N := some 32) (v := ?_) (a' := ?_) #[true, true, true, true, false, false, false, false, false, false, false, false] rfl rfl (by kernel_rfl) (fun _ _ _ h => h) (Or.inl ⟨by rfl, ?_⟩) ?_ ?_
      rotate_left
      · intro w'
        go_simp
        with_reducible rfl
      rotate_left
      · simp only [Act.put, List.setIfInBounds_toArray, List.set_cons_zero, List.set_cons_succ, i64_w, i32_w]
        rfl
      refine pure_ (i := 4) (N := some 33) (v := ?_) (a' := ?_) #[true, true, true, true, true, false, false, false, false, false, false, false] rfl rfl (by kernel_rfl) (fun _ _ _ h => h) (Or.inl ⟨by rfl, ?_⟩) ?_ ?_
      rotate_left
      · intro w'
        go_simp
        with_reducible rfl
      rotate_left
      · simp only [Act.put, List.setIfInBounds_toArray, List.set_cons_zero, List.set_cons_succ, i64_w, i32_w]
        rfl
      refine pure_ (i := 8) (N := some 37) (v := ?_) (a' := ?_) #[true, true, true, true, true, false, false, false, true, false, false, false] rfl rfl (by kernel_rfl) (fun _ _ _ h => h) (Or.inl ⟨by rfl, ?_⟩) ?_ ?_
      rotate_left
      · intro w'
        go_simp
        with_reducible rfl
      rotate_left
      · simp only [Act.put, List.setIfInBounds_toArray, List.set_cons_zero, List.set_cons_succ, i64_w, i32_w]
        rfl
      refine take_ (i := 5) (N := some 34) (v := ?_) (a' := ?_) #[true, true, true, true, true, true, false, false, true, false, false, false] rfl rfl (by kernel_rfl) (fun _ _ _ h => h) (Or.inl ⟨by rfl, ?_⟩) hHeld ?_ ?_
      rotate_left
      · rintro w' ⟨s0, s1⟩
        go_simp
        with_reducible rfl
      rotate_left
      · simp only [Act.put, List.setIfInBounds_toArray, List.set_cons_zero, List.set_cons_succ, i64_w, i32_w]
        rfl
      refine pure_ (i := 6) (N := some 35) (v := ?_) (a' := ?_) #[true, true, true, true, true, true, true, false, true, false, false, false] rfl rfl (by kernel_rfl) (fun _ _ _ h => h) (Or.inl ⟨by rfl, ?_⟩) ?_ ?_
      rotate_left
      · intro w'
        go_simp
        with_reducible rfl
      rotate_left
      · simp only [Act.put, List.setIfInBounds_toArray, List.set_cons_zero, List.set_cons_succ, i64_w, i32_w]
        rfl
      refine take_ (i := 9) (N := some 38) (v := ?_) (a' := ?_) #[true, true, true, true, true, true, true, false, true, true, false, false] rfl rfl (by kernel_rfl) (fun _ _ _ h => h) (Or.inl ⟨by rfl, ?_⟩) hHeld ?_ ?_
      rotate_left
      · rintro w' ⟨s0, s1⟩
        go_simp
        with_reducible rfl
      rotate_left
      · simp only [Act.put, List.setIfInBounds_toArray, List.set_cons_zero, List.set_cons_succ, i64_w, i32_w]
        rfl
      refine one_ (i := 7) (N := some 36) #[true, true, true, true, true, true, true, true, true, true, false, false] rfl rfl (by kernel_rfl) (by decide) (fun K hK => ?_)
      refine goes_ Tryd.func25 (by kernel_rfl) rfl #[.int .i64 (wrap64 (y + 1))] (by rfl) rfl rfl (by simp only [List.map_toArray, List.map_cons, List.map_nil]; rfl) ?_
      with_reducible refine (before_w y _ y0 y1).mono ?_
      rintro e w3 ⟨rfl, hd3⟩
      refine ⟨_, rfl, ?_⟩
      have HB3 : Hid (Below Wo.heap.size Wo w3) := Lib.hid (below_step (below_drew (Below.refl _ _)) hd3.below)
      refine hK.out _ _ ⟨c_of (blk_bel HB3.out HD.out) 0 rfl, c_of (blk_bel HB3.out HD.out) 2 rfl⟩ (fun hHeld => ?_)
      clear hK K
      refine norm_ (a' := ?_) ?_ ?_
      rotate_left
      · show Act.put _ (some 36) _ = _
        simp only [Act.put, List.setIfInBounds_toArray, List.set_cons_zero, List.set_cons_succ, i64_w, i32_w]
        rfl
      refine pure_ (i := 10) (N := some 39) (v := ?_) (a' := ?_) #[true, true, true, true, true, true, true, true, true, true, true, false] rfl rfl (by kernel_rfl) (fun _ _ _ h => h) (Or.inl ⟨by rfl, ?_⟩) ?_ ?_
      rotate_left
      · intro w'
        go_simp
        with_reducible rfl
      rotate_left
      · simp only [Act.put, List.setIfInBounds_toArray, List.set_cons_zero, List.set_cons_succ, i64_w, i32_w]
        rfl
      refine pure_ (i := 11) (N := some 40) (v := ?_) (a' := ?_) #[true, true, true, true, true, true, true, true, true, true, true, true] rfl rfl (by kernel_rfl) (fun _ _ _ h => h) (Or.inl ⟨by rfl, ?_⟩) ?_ ?_
      rotate_left
      · intro w'
        go_simp
        with_reducible rfl
      rotate_left
      · simp only [Act.put, List.setIfInBounds_toArray, List.set_cons_zero, List.set_cons_succ, i64_w, i32_w]
        rfl
      refine done_ (by kernel_rfl) ?_
      clear hHeld
      by_cases hge : bef (y + 1) ≤ N
      · have t1 : decide (bef (y + 1) ≤ N) = true := decide_eq_true hge
        obtain ⟨ko, rfl⟩ : ∃ ko, gk = ko + 1 := ⟨gk - 1, by omega⟩
        have hk2 : 10000 ≤ ko + (y + 1).toNat := by omega
        replace HD := Lib.hid (blk_bel HB3.out HD.out)
        replace HR := Lib.hid (blk_bel HB3.out HR.out)
        replace HB := Lib.hid (below_step HB.out HB3.out)
        have l0 := c_of HD.out 0 (v := .int .i64 y) rfl
        have f0 := fr_of HD.out 0
        go_wp2
        go_roundg ko
        case measure => omega
        case rel => exact ⟨y + 1, by omega, by omega, hge, hk2, Lib.hid (set_same HD.out rfl), Lib.hid (set_other HR.out (by omega)), Lib.hid (Below.setCell HB.out (p := ⟨w.heap.size + 1, 0, none⟩) (by show w.heap.size ≤ w.heap.size + 1; omega) _)⟩
      · have t1 : decide (bef (y + 1) ≤ N) = false := decide_eq_false hge
        have hlt : N < bef (y + 1) := by omega
        replace HD := Lib.hid (blk_bel HB3.out HD.out)
        replace HR := Lib.hid (blk_bel HB3.out HR.out)
        replace HB := Lib.hid (below_step HB.out HB3.out)
        clear hge HB3
        obtain ⟨Wa, hWa⟩ : ∃ W, W = w3 := ⟨_, rfl⟩
        rw [← hWa] at HD HR HB ⊢
        clear hWa
        have LX := Lib.hid (bef_succ y y0)
        have hlp := lp_01 y
        have hby := bef_ge y y0
        have L1 : Hid (N - bef y < 365 + lp y) := Lib.hid (by have := LX.out; omega)
        go_upto_region 8 with fail
        refine start_ (n := 8) (S := fun w' => w'.cell? ⟨w.heap.size + 1, 2, none⟩ = some (.int .i64 N) ∧ w'.cell? ⟨w.heap.size + 1, 0, none⟩ = some (.int .i64 y)) (ds := [7]) #[false, false, false, false, false, false, false, false] (by kernel_rfl) rfl rfl ⟨c_of HD.out 2 rfl, c_of HD.out 0 rfl⟩ (fun hHeld => ?_)
        refine pure_ (i := 0) (N := some 45) (v := ?_) (a' := ?_) #[true, false, false, false, false, false, false, false] rfl rfl (by kernel_rfl) (fun _ _ _ h => h) (Or.inl ⟨by rfl, ?_⟩) ?_ ?_
        rotate_left
        · intro w'
          go_simp
          with_reducible rfl
        rotate_left
        · simp only [Act.put, List.setIfInBounds_toArray, List.set_cons_zero, List.set_cons_succ, i64_w, i32_w]
          rfl
        refine pure_ (i := 2) (N := some 47) (v := ?_) (a' := ?_) #[true, false, true, false, false, false, false, false] rfl rfl (by kernel_rfl) (fun _ _ _ h => h) (Or.inl ⟨by rfl, ?_⟩) ?_ ?_
        rotate_left
        · intro w'
          go_simp
          with_reducible rfl
        rotate_left
        · simp only [Act.put, List.setIfInBounds_toArray, List.set_cons_zero, List.set_cons_succ, i64_w, i32_w]
          rfl
        refine take_ (i := 1) (N := some 46) (v := ?_) (a' := ?_) #[true, true, true, false, false, false, false, false] rfl rfl (by kernel_rfl) (fun _ _ _ h => h) (Or.inl ⟨by rfl, ?_⟩) hHeld ?_ ?_
        rotate_left
        · rintro w' ⟨s0, s1⟩
          go_simp
          with_reducible rfl
        rotate_left
        · simp only [Act.put, List.setIfInBounds_toArray, List.set_cons_zero, List.set_cons_succ, i64_w, i32_w]
          rfl
        refine take_ (i := 3) (N := some 48) (v := ?_) (a' := ?_) #[true, true, true, true, false, false, false, false] rfl rfl (by kernel_rfl) (fun _ _ _ h => h) (Or.inl ⟨by rfl, ?_⟩) hHeld ?_ ?_
        rotate_left
        · rintro w' ⟨s0, s1⟩
          go_simp
          with_reducible rfl
        rotate_left
        · simp only [Act.put, List.setIfInBounds_toArray, List.set_cons_zero, List.set_cons_succ, i64_w, i32_w]
          rfl
        refine one_ (i := 4) (N := some 49) #[true, true, true, true, true, false, false, false] rfl rfl (by kernel_rfl) (by decide) (fun K hK => ?_)
        refine goes_ Tryd.func25 (by kernel_rfl) rfl #[.int .i64 y] (by rfl) rfl rfl (by simp only [List.map_toArray, List.map_cons, List.map_nil]; rfl) ?_
        with_reducible refine (before_q y _ y0 (by omega)).mono ?_
        rintro e w8 ⟨rfl, hd8⟩
        refine ⟨_, rfl, ?_⟩
        have HB8 : Hid (Below Wa.heap.size Wa w8) := Lib.hid (below_step (below_drew (Below.refl _ _)) hd8.below)
        have g2 := fr_of (blk_bel HB8.out HD.out) 2
        refine hK.out _ _ ⟨c_of (blk_bel HB8.out HD.out) 2 rfl, c_of (blk_bel HB8.out HD.out) 0 rfl⟩ (fun hHeld => ?_)
        clear hK K
        refine norm_ (a' := ?_) ?_ ?_
        rotate_left
        · show Act.put _ (some 49) _ = _
          simp only [Act.put, List.setIfInBounds_toArray, List.set_cons_zero, List.set_cons_succ, i64_w, i32_w]
          rfl
        refine pure_ (i := 5) (N := some 50) (v := ?_) (a' := ?_) #[true, true, true, true, true, true, false, false] rfl rfl (by kernel_rfl) (fun _ _ _ h => h) (Or.inl ⟨by rfl, ?_⟩) ?_ ?_
        rotate_left
        · intro w'
          go_simp
          with_reducible rfl
        rotate_left
        · simp only [Act.put, List.setIfInBounds_toArray, List.set_cons_zero, List.set_cons_succ, i64_w, i32_w]
          rfl
        refine pure_ (i := 6) (N := some 51) (v := ?_) (a' := ?_) #[true, true, true, true, true, true, true, false] rfl rfl (by kernel_rfl) (fun _ _ _ h => h) (Or.inl ⟨by rfl, ?_⟩) ?_ ?_
        rotate_left
        · intro w'
          go_simp
          with_reducible rfl
        rotate_left
        · simp only [Act.put, List.setIfInBounds_toArray, List.set_cons_zero, List.set_cons_succ, i64_w, i32_w]
          rfl
        refine last_ (i := 7) (N := none) #[true, true, true, true, true, true, true, true] rfl rfl (by kernel_rfl) (by decide) (fun K hK => ?_)
        refine skip_ (w1 := ?_) (by rfl) rfl ?_ ?_
        rotate_left
        · go_simp
          rfl
        refine hK.out _ _ ?_
        clear hK K
        refine done_ (by kernel_rfl) ?_
        clear hHeld
        rw [show wrap64 (N - bef y) = N - bef y by unfold wrap64; omega]
        obtain ⟨Wb, hWb⟩ : ∃ W, W = w8.setCell ⟨w.heap.size + 1, 2, none⟩ (.int .i64 (N - bef y)) := ⟨_, rfl⟩
        rw [← hWb]
        replace HD : Hid (Wb.heap[w.heap.size + 1]? = some (.cells #[.int .i64 y, .int .i64 1, .int .i64 (N - bef y), .int .i64 H, .int .i64 MI, .int .i64 SE] 23 (0, 0))) := Lib.hid (by rw [hWb]; exact set_same (blk_bel HB8.out HD.out) rfl)
        replace HR : Hid (Wb.heap[w.heap.size]? = some (.cells #[.int .i64 0, .int .i64 0, .int .i64 0, .int .i64 0, .int .i64 0, .int .i64 0] 23 (0, 0))) := Lib.hid (by rw [hWb]; exact set_other (blk_bel HB8.out HR.out) (by omega))
        replace HB : Hid (Below w.heap.size w Wb) := Lib.hid (by rw [hWb]; exact Below.setCell (below_step HB.out HB8.out) (p := ⟨w.heap.size + 1, 2, none⟩) (by show w.heap.size ≤ w.heap.size + 1; omega) _)
        clear hWb HB8 g2
        go_wp2
        go_loopg [] 13 (fun k W => ∃ m : Int, 1 ≤ m ∧ m ≤ 12 ∧ 13 ≤ k + m.toNat ∧ Hid (cum y m ≤ N - bef y) ∧ Hid (W.heap[w.heap.size + 1]? = some (.cells #[.int .i64 y, .int .i64 m, .int .i64 (N - bef y - cum y m), .int .i64 H, .int .i64 MI, .int .i64 SE] 23 (0, 0))) ∧ Hid (W.heap[w.heap.size]? = some (.cells #[.int .i64 0, .int .i64 0, .int .i64 0, .int .i64 0, .int .i64 0, .int .i64 0] 23 (0, 0))) ∧ Hid (Below w.heap.size w W))
        case atStart =>
          refine ⟨1, by omega, by omega, by omega, Lib.hid ?_, Lib.hid ?_, HR, HB⟩
          · rw [cum_1]; omega
          · have := HD.out; rw [cum_1, Int.sub_zero]; exact this
        case round =>
          clear HD HR HB
          obtain ⟨m, m0, m1, hkm, HC, HD, HR, HB⟩ := hrel
          rename World => Wi
          have hcb := cum_bd y m (by omega) (by omega)
          have hdl := dim_lo y m
          have HCS := Lib.hid (cum_succ y m (by omega) (by omega))
          go_upto_region 9 with fail
          refine start_ (n := 8) (S := fun w' => w'.cell? ⟨w.heap.size + 1, 2, none⟩ = some (.int .i64 (N - bef y - cum y m)) ∧ w'.cell? ⟨w.heap.size + 1, 0, none⟩ = some (.int .i64 y) ∧ w'.cell? ⟨w.heap.size + 1, 1, none⟩ = some (.int .i64 m)) (ds := []) #[false, false, false, false, false, false, false, false] (by kernel_rfl) rfl rfl ⟨c_of HD.out 2 rfl, c_of HD.out 0 rfl, c_of HD.out 1 rfl⟩ (fun hHeld => ?_)
          refine pure_ (i := 0) (N := some 52) (v := ?_) (a' := ?_) #[true, false, false, false, false, false, false, false] rfl rfl (by kernel_rfl) (fun _ _ _ h => h) (Or.inl ⟨by rfl, ?_⟩) ?_ ?_
          rotate_left
          · intro w'
            go_simp
            with_reducible rfl
          rotate_left
          · simp only [Act.put, List.setIfInBounds_toArray, List.set_cons_zero, List.set_cons_succ, i64_w, i32_w]
            rfl
          refine pure_ (i := 2) (N := some 54) (v := ?_) (a' := ?_) #[true, false, true, false, false, false, false, false] rfl rfl (by kernel_rfl) (fun _ _ _ h => h) (Or.inl ⟨by rfl, ?_⟩) ?_ ?_
          rotate_left
          · intro w'
            go_simp
            with_reducible rfl
          rotate_left
          · simp only [Act.put, List.setIfInBounds_toArray, List.set_cons_zero, List.set_cons_succ, i64_w, i32_w]
            rfl
          refine pure_ (i := 4) (N := some 56) (v := ?_) (a' := ?_) #[true, false, true, false, true, false, false, false] rfl rfl (by kernel_rfl) (fun _ _ _ h => h) (Or.inl ⟨by rfl, ?_⟩) ?_ ?_
          rotate_left
          · intro w'
            go_simp
            with_reducible rfl
          rotate_left
          · simp only [Act.put, List.setIfInBounds_toArray, List.set_cons_zero, List.set_cons_succ, i64_w, i32_w]
            rfl
          refine take_ (i := 1) (N := some 53) (v := ?_) (a' := ?_) #[true, true, true, false, true, false, false, false] rfl rfl (by kernel_rfl) (fun _ _ _ h => h) (Or.inl ⟨by rfl, ?_⟩) hHeld ?_ ?_
          rotate_left
          · rintro w' ⟨s0, s1, s2⟩
            go_simp
            with_reducible rfl
          rotate_left
          · simp only [Act.put, List.setIfInBounds_toArray, List.set_cons_zero, List.set_cons_succ, i64_w, i32_w]
            rfl
          refine take_ (i := 3) (N := some 55) (v := ?_) (a' := ?_) #[true, true, true, true, true, false, false, false] rfl rfl (by kernel_rfl) (fun _ _ _ h => h) (Or.inl ⟨by rfl, ?_⟩) hHeld ?_ ?_
          rotate_left
          · rintro w' ⟨s0, s1, s2⟩
            go_simp
            with_reducible rfl
          rotate_left
          · simp only [Act.put, List.setIfInBounds_toArray, List.set_cons_zero, List.set_cons_succ, i64_w, i32_w]
            rfl
          refine take_ (i := 5) (N := some 57) (v := ?_) (a' := ?_) #[true, true, true, true, true, true, false, false] rfl rfl (by kernel_rfl) (fun _ _ _ h => h) (Or.inl ⟨by rfl, ?_⟩) hHeld ?_ ?_
          rotate_left
          · rintro w' ⟨s0, s1, s2⟩
            go_simp
            with_reducible rfl
          rotate_left
          · simp only [Act.put, List.setIfInBounds_toArray, List.set_cons_zero, List.set_cons_succ, i64_w, i32_w]
            rfl
          refine one_ (i := 6) (N := some 58) #[true, true, true, true, true, true, true, false] rfl rfl (by kernel_rfl) (by decide) (fun K hK => ?_)
          refine goes_ Tryd.func26 (by kernel_rfl) rfl #[.int .i64 y, .int .i64 m] (by rfl) rfl rfl (by simp only [List.map_toArray, List.map_cons, List.map_nil]; rfl) ?_
          with_reducible refine (days_q y m _).mono ?_
          rintro e w9 ⟨rfl, hd9⟩
          refine ⟨_, rfl, ?_⟩
          have HB9 : Hid (Below Wi.heap.size Wi w9) := Lib.hid (below_step (below_drew (Below.refl _ _)) hd9.below)
          refine hK.out _ _ ⟨c_of (blk_bel HB9.out HD.out) 2 rfl, c_of (blk_bel HB9.out HD.out) 0 rfl, c_of (blk_bel HB9.out HD.out) 1 rfl⟩ (fun hHeld => ?_)
          clear hK K
          refine norm_ (a' := ?_) ?_ ?_
          rotate_left
          · show Act.put _ (some 58) _ = _
            simp only [Act.put, List.setIfInBounds_toArray, List.set_cons_zero, List.set_cons_succ, i64_w, i32_w]
            rfl
          refine pure_ (i := 7) (N := some 59) (v := ?_) (a' := ?_) #[true, true, true, true, true, true, true, true] rfl rfl (by kernel_rfl) (fun _ _ _ h => h) (Or.inl ⟨by rfl, ?_⟩) ?_ ?_
          rotate_left
          · intro w'
            go_simp
            with_reducible rfl
          rotate_left
          · simp only [Act.put, List.setIfInBounds_toArray, List.set_cons_zero, List.set_cons_succ, i64_w, i32_w]
            rfl
          refine done_ (by kernel_rfl) ?_
          clear hHeld
          replace HD := Lib.hid (blk_bel HB9.out HD.out)
          replace HR := Lib.hid (blk_bel HB9.out HR.out)
          replace HB := Lib.hid (below_step HB.out HB9.out)
          obtain ⟨Wc, hWc⟩ : ∃ W, W = w9 := ⟨_, rfl⟩
          rw [← hWc] at HD HR HB ⊢
          clear HB9 hWc
          by_cases hge : dim y m ≤ N - bef y - cum y m
          · have t1 : decide (dim y m ≤ N - bef y - cum y m) = true := decide_eq_true hge
            obtain ⟨ko2, rfl⟩ : ∃ ko, gk = ko + 1 := ⟨gk - 1, by omega⟩
            have m2 : m + 1 ≤ 12 := by
              have e1 := L1.out
              have e2 := HCS.out
              apply Classical.byContradiction
              intro hc
              obtain rfl : m = 12 := by omega
              rw [show (12 : Int) + 1 = 13 from rfl, cum_13] at e2
              omega
            have hk3 : 13 ≤ ko2 + (m + 1).toNat := by omega
            have HC2 : Hid (cum y (m + 1) ≤ N - bef y) := Lib.hid (by rw [HCS.out]; omega)
            have HV2 : Hid (N - bef y - cum y m - dim y m = N - bef y - cum y (m + 1)) := Lib.hid (by rw [HCS.out]; omega)
            have N2 : N - bef y - cum y m ≤ 400 := by have := L1.out; omega
            go_upto_region 10 with fail
            refine start_ (n := 10) (S := fun w' => w'.cell? ⟨w.heap.size + 1, 2, none⟩ = some (.int .i64 (N - bef y - cum y m)) ∧ w'.cell? ⟨w.heap.size + 1, 0, none⟩ = some (.int .i64 y) ∧ w'.cell? ⟨w.heap.size + 1, 1, none⟩ = some (.int .i64 m)) (ds := [9]) #[false, false, false, false, false, false, false, false, false, false] (by kernel_rfl) rfl rfl ⟨c_of HD.out 2 rfl, c_of HD.out 0 rfl, c_of HD.out 1 rfl⟩ (fun hHeld => ?_)
            refine pure_ (i := 0) (N := some 60) (v := ?_) (a' := ?_) #[true, false, false, false, false, false, false, false, false, false] rfl rfl (by kernel_rfl) (fun _ _ _ h => h) (Or.inl ⟨by rfl, ?_⟩) ?_ ?_
            rotate_left
            · intro w'
              go_simp
              with_reducible rfl
            rotate_left
            · simp only [Act.put, List.setIfInBounds_toArray, List.set_cons_zero, List.set_cons_succ, i64_w, i32_w]
              rfl
            refine pure_ (i := 2) (N := some 62) (v := ?_) (a' := ?_) #[true, false, true, false, false, false, false, false, false, false] rfl rfl (by kernel_rfl) (fun _ _ _ h => h) (Or.inl ⟨by rfl, ?_⟩) ?_ ?_
            rotate_left
            · intro w'
              go_simp
              with_reducible rfl
            rotate_left
            · simp only [Act.put, List.setIfInBounds_toArray, List.set_cons_zero, List.set_cons_succ, i64_w, i32_w]
              rfl
            refine pure_ (i := 4) (N := some 64) (v := ?_) (a' := ?_) #[true, false, true, false, true, false, false, false, false, false] rfl rfl (by kernel_rfl) (fun _ _ _ h => h) (Or.inl ⟨by rfl, ?_⟩) ?_ ?_
            rotate_left
            · intro w'
              go_simp
              with_reducible rfl
            rotate_left
            · simp only [Act.put, List.setIfInBounds_toArray, List.set_cons_zero, List.set_cons_succ, i64_w, i32_w]
              rfl
            refine take_ (i := 1) (N := some 61) (v := ?_) (a' := ?_) #[true, true, true, false, true, false, false, false, false, false] rfl rfl (by kernel_rfl) (fun _ _ _ h => h) (Or.inl ⟨by rfl, ?_⟩) hHeld ?_ ?_
            rotate_left
            · rintro w' ⟨s0, s1, s2⟩
              go_simp
              with_reducible rfl
            rotate_left
            · simp only [Act.put, List.setIfInBounds_toArray, List.set_cons_zero, List.set_cons_succ, i64_w, i32_w]
              rfl
            refine take_ (i := 3) (N := some 63) (v := ?_) (a' := ?_) #[true, true, true, true, true, false, false, false, false, false] rfl rfl (by kernel_rfl) (fun _ _ _ h => h) (Or.inl ⟨by rfl, ?_⟩) hHeld ?_ ?_
            rotate_left
            · rintro w' ⟨s0, s1, s2⟩
              go_simp
              with_reducible rfl
            rotate_left
            · simp only [Act.put, List.setIfInBounds_toArray, List.set_cons_zero, List.set_cons_succ, i64_w, i32_w]
              rfl
            refine take_ (i := 5) (N := some 65) (v := ?_) (a' := ?_) #[true, true, true, true, true, true, false, false, false, false] rfl rfl (by kernel_rfl) (fun _ _ _ h => h) (Or.inl ⟨by rfl, ?_⟩) hHeld ?_ ?_
            rotate_left
            · rintro w' ⟨s0, s1, s2⟩
              go_simp
              with_reducible rfl
            rotate_left
            · simp only [Act.put, List.setIfInBounds_toArray, List.set_cons_zero, List.set_cons_succ, i64_w, i32_w]
              rfl
            refine one_ (i := 6) (N := some 66) #[true, true, true, true, true, true, true, false, false, false] rfl rfl (by kernel_rfl) (by decide) (fun K hK => ?_)
            refine goes_ Tryd.func26 (by kernel_rfl) rfl #[.int .i64 y, .int .i64 m] (by rfl) rfl rfl (by simp only [List.map_toArray, List.map_cons, List.map_nil]; rfl) ?_
            with_reducible refine (days_q y m _).mono ?_
            rintro e w10 ⟨rfl, hd10⟩
            refine ⟨_, rfl, ?_⟩
            have HB10 : Hid (Below Wc.heap.size Wc w10) := Lib.hid (below_step (below_drew (Below.refl _ _)) hd10.below)
            have g2 := fr_of (blk_bel HB10.out HD.out) 2
            refine hK.out _ _ ⟨c_of (blk_bel HB10.out HD.out) 2 rfl, c_of (blk_bel HB10.out HD.out) 0 rfl, c_of (blk_bel HB10.out HD.out) 1 rfl⟩ (fun hHeld => ?_)
            clear hK K
            refine norm_ (a' := ?_) ?_ ?_
            rotate_left
            · show Act.put _ (some 66) _ = _
              simp only [Act.put, List.setIfInBounds_toArray, List.set_cons_zero, List.set_cons_succ, i64_w, i32_w]
              rfl
            refine pure_ (i := 7) (N := some 67) (v := ?_) (a' := ?_) #[true, true, true, true, true, true, true, true, false, false] rfl rfl (by kernel_rfl) (fun _ _ _ h => h) (Or.inl ⟨by rfl, ?_⟩) ?_ ?_
            rotate_left
            · intro w'
              go_simp
              with_reducible rfl
            rotate_left
            · simp only [Act.put, List.setIfInBounds_toArray, List.set_cons_zero, List.set_cons_succ, i64_w, i32_w]
              rfl
            refine pure_ (i := 8) (N := some 68) (v := ?_) (a' := ?_) #[true, true, true, true, true, true, true, true, true, false] rfl rfl (by kernel_rfl) (fun _ _ _ h => h) (Or.inl ⟨by rfl, ?_⟩) ?_ ?_
            rotate_left
            · intro w'
              go_simp
              with_reducible rfl
            rotate_left
            · simp only [Act.put, List.setIfInBounds_toArray, List.set_cons_zero, List.set_cons_succ, i64_w, i32_w]
              rfl
            refine last_ (i := 9) (N := none) #[true, true, true, true, true, true, true, true, true, true] rfl rfl (by kernel_rfl) (by decide) (fun K hK => ?_)
            refine skip_ (w1 := ?_) (by rfl) rfl ?_ ?_
            rotate_left
            · go_simp
              rfl
            refine hK.out _ _ ?_
            clear hK K
            refine done_ (by kernel_rfl) ?_
            clear hHeld
            rw [show wrap64 (N - bef y - cum y m - dim y m) = N - bef y - cum y (m + 1) by rw [← HV2.out]; unfold wrap64; omega]
            obtain ⟨Wd, hWd⟩ : ∃ W, W = w10.setCell ⟨w.heap.size + 1, 2, none⟩ (.int .i64 (N - bef y - cum y (m + 1))) := ⟨_, rfl⟩
            rw [← hWd]
            replace HD : Hid (Wd.heap[w.heap.size + 1]? = some (.cells #[.int .i64 y, .int .i64 m, .int .i64 (N - bef y - cum y (m + 1)), .int .i64 H, .int .i64 MI, .int .i64 SE] 23 (0, 0))) := Lib.hid (by rw [hWd]; exact set_same (blk_bel HB10.out HD.out) rfl)
            replace HR : Hid (Wd.heap[w.heap.size]? = some (.cells #[.int .i64 0, .int .i64 0, .int .i64 0, .int .i64 0, .int .i64 0, .int .i64 0] 23 (0, 0))) := Lib.hid (by rw [hWd]; exact set_other (blk_bel HB10.out HR.out) (by omega))
            replace HB : Hid (Below w.heap.size w Wd) := Lib.hid (by rw [hWd]; exact Below.setCell (below_step HB.out HB10.out) (p := ⟨w.heap.size + 1, 2, none⟩) (by show w.heap.size ≤ w.heap.size + 1; omega) _)
            clear hWd HB10 g2
            have l1 := c_of HD.out 1 (v := .int .i64 m) rfl
            have f1 := fr_of HD.out 1
            go_wp2
            go_roundg ko2
            case measure => omega
            case rel => exact ⟨m + 1, by omega, m2, hk3, HC2, Lib.hid (set_same HD.out rfl), Lib.hid (set_other HR.out (by omega)), Lib.hid (Below.setCell HB.out (p := ⟨w.heap.size + 1, 1, none⟩) (by show w.heap.size ≤ w.heap.size + 1; omega) _)⟩
          · have t1 : decide (dim y m ≤ N - bef y - cum y m) = false := decide_eq_false hge
            have N2 : N - bef y - cum y m ≤ 400 := by omega
            have N3 : 0 ≤ N - bef y - cum y m := by have := HC.out; omega
            have hne : w.heap.size + 1 ≠ w.heap.size := by omega
            have hne2 : w.heap.size ≠ w.heap.size + 1 := by omega
            have l0 := c_of HD.out 0 (v := .int .i64 y) rfl
            have f0 := fr_of HD.out 0
            have l1 := c_of HD.out 1 (v := .int .i64 m) rfl
            have f1 := fr_of HD.out 1
            have l2 := c_of HD.out 2 (v := .int .i64 (N - bef y - cum y m)) rfl
            have f2 := fr_of HD.out 2
            have l3 := c_of HD.out 3 (v := .int .i64 H) rfl
            have f3 := fr_of HD.out 3
            have l4 := c_of HD.out 4 (v := .int .i64 MI) rfl
            have f4 := fr_of HD.out 4
            have l5 := c_of HD.out 5 (v := .int .i64 SE) rfl
            have f5 := fr_of HD.out 5
            have z0 := c_of HR.out 0 (v := .int .i64 0) rfl
            have q0_ := fr_of HR.out 0
            have z1 := c_of HR.out 1 (v := .int .i64 0) rfl
            have q1_ := fr_of HR.out 1
            have z2 := c_of HR.out 2 (v := .int .i64 0) rfl
            have q2_ := fr_of HR.out 2
            have z3 := c_of HR.out 3 (v := .int .i64 0) rfl
            have q3_ := fr_of HR.out 3
            have z4 := c_of HR.out 4 (v := .int .i64 0) rfl
            have q4_ := fr_of HR.out 4
            have z5 := c_of HR.out 5 (v := .int .i64 0) rfl
            have q5_ := fr_of HR.out 5
            go_wp2
            have hp := put6 (set_other (g := w.heap.size + 1) (i := 2) (v := .int .i64 (N - bef y - cum y m + 1)) HR.out hne2) (.int .i64 y) (.int .i64 m) (.int .i64 (N - bef y - cum y m + 1)) (.int .i64 H) (.int .i64 MI) (.int .i64 SE)
            obtain ⟨W4, hW⟩ : ∃ W, W = (((((((Wc.setCell ⟨w.heap.size + 1, 2, none⟩ (.int .i64 (N - bef y - cum y m + 1))).setCell ⟨w.heap.size, 0, none⟩ (.int .i64 y)).setCell ⟨w.heap.size, 1, none⟩ (.int .i64 m)).setCell ⟨w.heap.size, 2, none⟩ (.int .i64 (N - bef y - cum y m + 1))).setCell ⟨w.heap.size, 3, none⟩ (.int .i64 H)).setCell ⟨w.heap.size, 4, none⟩ (.int .i64 MI)).setCell ⟨w.heap.size, 5, none⟩ (.int .i64 SE)) := ⟨_, rfl⟩
            rw [← hW] at hp ⊢
            have hb : Below w.heap.size w W4 := by
              rw [hW]
              repeat (refine Below.setCell ?_ (by show w.heap.size ≤ _; first | exact Nat.le_refl _ | (simp only; omega) | omega) _)
              exact HB.out
            refine bodyPost_ret (v := .tuple #[date6 y m (N - bef y - cum y m + 1) H MI SE, .int .i64 0]) (by simp [results, Tryd.results13, go_sem, c_of hp 0 (v := .int .i64 y) rfl, c_of hp 1 (v := .int .i64 m) rfl, c_of hp 2 (v := .int .i64 (N - bef y - cum y m + 1)) rfl, c_of hp 3 (v := .int .i64 H) rfl, c_of hp 4 (v := .int .i64 MI) rfl, c_of hp 5 (v := .int .i64 SE) rfl]) rfl ⟨⟨y, m, N - bef y - cum y m + 1, H, MI, SE, ?_, ?_, rfl⟩, hb⟩
            · have e1 := HHX.out; have e2 := HMX.out; have e3 := HSX.out
              exact ⟨⟨y0, y1, m0, m1, by omega, by omega⟩, by omega, by omega, by omega, by omega, by omega, by omega⟩
            · have e1 := HHX.out; have e2 := HMX.out; have e3 := HSX.out; have e4 := HNX.out; have e5 := HQ.out
              unfold num dno
              omega
    · have t0 : decide (y < 9999) = false := decide_eq_false hy
      have hlt : N < bef (y + 1) := by
        have := bef_top
        rw [show y + 1 = 10000 by omega]; omega
      clear hy
      go_upto_region 6 with fail
      refine start_ (n := 12) (S := fun w' => w'.cell? ⟨w.heap.size + 1, 0, none⟩ = some (.int .i64 y)) (ds := []) #[false, false, false, false, false, false, false, false, false, false, false, false] (by kernel_rfl) rfl rfl (c_of HD.out 0 rfl) (fun hHeld => ?_)
      refine pure_ (i := 0) (N := some 29) (v := ?_) (a' := ?_) #[true, false, false, false, false, false, false, false, false, false, false, false] rfl rfl (by kernel_rfl) (fun _ _ _ h => h) (Or.inl ⟨by rfl, ?_⟩) ?_ ?_
      rotate_left
      · intro w'
        go_simp
        with_reducible rfl
      rotate_left
      · simp only [Act.put, List.setIfInBounds_toArray, List.set_cons_zero, List.set_cons_succ, i64_w, i32_w]
        rfl
      refine take_ (i := 1) (N := some 30) (v := ?_) (a' := ?_) #[true, true, false, false, false, false, false, false, false, false, false, false] rfl rfl (by kernel_rfl) (fun _ _ _ h => h) (Or.inl ⟨by rfl, ?_⟩) hHeld ?_ ?_
      rotate_left
      · intro w' s0
        go_simp
        with_reducible rfl
      rotate_left
      · simp only [Act.put, List.setIfInBounds_toArray, List.set_cons_zero, List.set_cons_succ, i64_w, i32_w]
        rfl
      refine pure_ (i := 2) (N := some 31) (v := ?_) (a' := ?_) #[true, true, true, false, false, false, false, false, false, false, false, false] rfl rfl (by kernel_rfl) (fun _ _ _ h => h) (Or.inl ⟨by rfl, ?_⟩) ?_ ?_
      rotate_left
      · intro w'
        go_simp
        with_reducible rfl
      rotate_left
      · simp only [Act.put, List.setIfInBounds_toArray, List.set_cons_zero, List.set_cons_succ, i64_w, i32_w]
        rfl
      refine pure_ (i := 3) (N := some 32) (v := ?_) (a' := ?_) #[true, true, true, true, false, false, false, false, false, false, false, false] rfl rfl (by kernel_rfl) (fun _ _ _ h => h) (Or.inl ⟨by rfl, ?_⟩) ?_ ?_
      rotate_left
      · intro w'
        go_simp
        with_reducible rfl
      rotate_left
      · simp only [Act.put, List.setIfInBounds_toArray, List.set_cons_zero, List.set_cons_succ, i64_w, i32_w]
        rfl
      refine pure_ (i := 4) (N := some 33) (v := undef) (a' := ?_) #[true, true, true, true, true, false, false, false, false, false, false, false] rfl rfl (by kernel_rfl) (fun _ _ _ h => h) (Or.inr ⟨by rfl, rfl⟩) ?_ ?_
      rotate_left
      · simp only [Act.put, List.setIfInBounds_toArray, List.set_cons_zero, List.set_cons_succ, i64_w, i32_w]
        rfl
      refine pure_ (i := 5) (N := some 34) (v := undef) (a' := ?_) #[true, true, true, true, true, true, false, false, false, false, false, false] rfl rfl (by kernel_rfl) (fun _ _ _ h => h) (Or.inr ⟨by rfl, rfl⟩) ?_ ?_
      rotate_left
      · simp only [Act.put, List.setIfInBounds_toArray, List.set_cons_zero, List.set_cons_succ, i64_w, i32_w]
        rfl
      refine pure_ (i := 6) (N := some 35) (v := undef) (a' := ?_) #[true, true, true, true, true, true, true, false, false, false, false, false] rfl rfl (by kernel_rfl) (fun _ _ _ h => h) (Or.inr ⟨by rfl, rfl⟩) ?_ ?_
      rotate_left
      · simp only [Act.put, List.setIfInBounds_toArray, List.set_cons_zero, List.set_cons_succ, i64_w, i32_w]
        rfl
      refine pure_ (i := 7) (N := some 36) (v := undef) (a' := ?_) #[true, true, true, true, true, true, true, true, false, false, false, false] rfl rfl (by kernel_rfl) (fun _ _ _ h => h) (Or.inr ⟨by rfl, rfl⟩) ?_ ?_
      rotate_left
      · simp only [Act.put, List.setIfInBounds_toArray, List.set_cons_zero, List.set_cons_succ, i64_w, i32_w]
        rfl
      refine pure_ (i := 8) (N := some 37) (v := undef) (a' := ?_) #[true, true, true, true, true, true, true, true, true, false, false, false] rfl rfl (by kernel_rfl) (fun _ _ _ h => h) (Or.inr ⟨by rfl, rfl⟩) ?_ ?_
      rotate_left
      · simp only [Act.put, List.setIfInBounds_toArray, List.set_cons_zero, List.set_cons_succ, i64_w, i32_w]
        rfl
      refine pure_ (i := 9) (N := some 38) (v := undef) (a' := ?_) #[true, true, true, true, true, true, true, true, true, true, false, false] rfl rfl (by kernel_rfl) (fun _ _ _ h => h) (Or.inr ⟨by rfl, rfl⟩) ?_ ?_
      rotate_left
      · simp only [Act.put, List.setIfInBounds_toArray, List.set_cons_zero, List.set_cons_succ, i64_w, i32_w]
        rfl
      refine pure_ (i := 10) (N := some 39) (v := undef) (a' := ?_) #[true, true, true, true, true, true, true, true, true, true, true, false] rfl rfl (by kernel_rfl) (fun _ _ _ h => h) (Or.inr ⟨by rfl, rfl⟩) ?_ ?_
      rotate_left
      · simp only [Act.put, List.setIfInBounds_toArray, List.set_cons_zero, List.set_cons_succ, i64_w, i32_w]
        rfl
      refine pure_ (i := 11) (N := some 40) (v := ?_) (a' := ?_) #[true, true, true, true, true, true, true, true, true, true, true, true] rfl rfl (by kernel_rfl) (fun _ _ _ h => h) (Or.inl ⟨by rfl, ?_⟩) ?_ ?_
      rotate_left
      · intro w'
        go_simp
        with_reducible rfl
      rotate_left
      · simp only [Act.put, List.setIfInBounds_toArray, List.set_cons_zero, List.set_cons_succ, i64_w, i32_w]
        rfl
      refine done_ (by kernel_rfl) ?_
      clear hHeld
      obtain ⟨Wa, hWa⟩ : ∃ W, W = Wo.drew := ⟨_, rfl⟩
      first | rw [← hWa] | skip
      replace HB : Hid (Below w.heap.size w Wa) := Lib.hid (by rw [hWa]; exact below_drew HB.out)
      replace HD : Hid (Wa.heap[w.heap.size + 1]? = some (.cells #[.int .i64 y, .int .i64 1, .int .i64 N, .int .i64 H, .int .i64 MI, .int .i64 SE] 23 (0, 0))) := Lib.hid (by rw [hWa]; exact HD.out)
      replace HR : Hid (Wa.heap[w.heap.size]? = some (.cells #[.int .i64 0, .int .i64 0, .int .i64 0, .int .i64 0, .int .i64 0, .int .i64 0] 23 (0, 0))) := Lib.hid (by rw [hWa]; exact HR.out)
      clear hWa
      have LX := Lib.hid (bef_succ y y0)
      have hlp := lp_01 y
      have hby := bef_ge y y0
      have L1 : Hid (N - bef y < 365 + lp y) := Lib.hid (by have := LX.out; omega)
      go_upto_region 8 with fail
      refine start_ (n := 8) (S := fun w' => w'.cell? ⟨w.heap.size + 1, 2, none⟩ = some (.int .i64 N) ∧ w'.cell? ⟨w.heap.size + 1, 0, none⟩ = some (.int .i64 y)) (ds := [7]) #[false, false, false, false, false, false, false, false] (by kernel_rfl) rfl rfl ⟨c_of HD.out 2 rfl, c_of HD.out 0 rfl⟩ (fun hHeld => ?_)
      refine pure_ (i := 0) (N := some 45) (v := ?_) (a' := ?_) #[true, false, false, false, false, false, false, false] rfl rfl (by kernel_rfl) (fun _ _ _ h => h) (Or.inl ⟨by rfl, ?_⟩) ?_ ?_
      rotate_left
      · intro w'
        go_simp
        with_reducible rfl
      rotate_left
      · simp only [Act.put, List.setIfInBounds_toArray, List.set_cons_zero, List.set_cons_succ, i64_w, i32_w]
        rfl
      refine pure_ (i := 2) (N := some 47) (v := ?_) (a' := ?_) #[true, false, true, false, false, false, false, false] rfl rfl (by kernel_rfl) (fun _ _ _ h => h) (Or.inl ⟨by rfl, ?_⟩) ?_ ?_
      rotate_left
      · intro w'
        go_simp
        with_reducible rfl
      rotate_left
      · simp only [Act.put, List.setIfInBounds_toArray, List.set_cons_zero, List.set_cons_succ, i64_w, i32_w]
        rfl
      refine take_ (i := 1) (N := some 46) (v := ?_) (a' := ?_) #[true, true, true, false, false, false, false, false] rfl rfl (by kernel_rfl) (fun _ _ _ h => h) (Or.inl ⟨by rfl, ?_⟩) hHeld ?_ ?_
      rotate_left
      · rintro w' ⟨s0, s1⟩
        go_simp
        with_reducible rfl
      rotate_left
      · simp only [Act.put, List.setIfInBounds_toArray, List.set_cons_zero, List.set_cons_succ, i64_w, i32_w]
        rfl
      refine take_ (i := 3) (N := some 48) (v := ?_) (a' := ?_) #[true, true, true, true, false, false, false, false] rfl rfl (by kernel_rfl) (fun _ _ _ h => h) (Or.inl ⟨by rfl, ?_⟩) hHeld ?_ ?_
      rotate_left
      · rintro w' ⟨s0, s1⟩
        go_simp
        with_reducible rfl
      rotate_left
      · simp only [Act.put, List.setIfInBounds_toArray, List.set_cons_zero, List.set_cons_succ, i64_w, i32_w]
        rfl
      refine one_ (i := 4) (N := some 49) #[true, true, true, true, true, false, false, false] rfl rfl (by kernel_rfl) (by decide) (fun K hK => ?_)
      refine goes_ Tryd.func25 (by kernel_rfl) rfl #[.int .i64 y] (by rfl) rfl rfl (by simp only [List.map_toArray, List.map_cons, List.map_nil]; rfl) ?_
      with_reducible refine (before_q y _ y0 (by omega)).mono ?_
      rintro e w8 ⟨rfl, hd8⟩
      refine ⟨_, rfl, ?_⟩
      have HB8 : Hid (Below Wa.heap.size Wa w8) := Lib.hid (below_step (below_drew (Below.refl _ _)) hd8.below)
      have g2 := fr_of (blk_bel HB8.out HD.out) 2
      refine hK.out _ _ ⟨c_of (blk_bel HB8.out HD.out) 2 rfl, c_of (blk_bel HB8.out HD.out) 0 rfl⟩ (fun hHeld => ?_)
      clear hK K
      refine norm_ (a' := ?_) ?_ ?_
      rotate_left
      · show Act.put _ (some 49) _ = _
        simp only [Act.put, List.setIfInBounds_toArray, List.set_cons_zero, List.set_cons_succ, i64_w, i32_w]
        rfl
      refine pure_ (i := 5) (N := some 50) (v := ?_) (a' := ?_) #[true, true, true, true, true, true, false, false] rfl rfl (by kernel_rfl) (fun _ _ _ h => h) (Or.inl ⟨by rfl, ?_⟩) ?_ ?_
      rotate_left
      · intro w'
        go_simp
        with_reducible rfl
      rotate_left
      · simp only [Act.put, List.setIfInBounds_toArray, List.set_cons_zero, List.set_cons_succ, i64_w, i32_w]
        rfl
      refine pure_ (i := 6) (N := some 51) (v := ?_) (a' := ?_) #[true, true, true, true, true, true, true, false] rfl rfl (by kernel_rfl) (fun _ _ _ h => h) (Or.inl ⟨by rfl, ?_⟩) ?_ ?_
      rotate_left
      · intro w'
        go_simp
        with_reducible rfl
      rotate_left
      · simp only [Act.put, List.setIfInBounds_toArray, List.set_cons_zero, List.set_cons_succ, i64_w, i32_w]
        rfl
      refine last_ (i := 7) (N := none) #[true, true, true, true, true, true, true, true] rfl rfl (by kernel_rfl) (by decide) (fun K hK => ?_)
      refine skip_ (w1 := ?_) (by rfl) rfl ?_ ?_
      rotate_left
      · go_simp
        rfl
      refine hK.out _ _ ?_
      clear hK K
      refine done_ (by kernel_rfl) ?_
      clear hHeld
      rw [show wrap64 (N - bef y) = N - bef y by unfold wrap64; omega]
      obtain ⟨Wb, hWb⟩ : ∃ W, W = w8.setCell ⟨w.heap.size + 1, 2, none⟩ (.int .i64 (N - bef y)) := ⟨_, rfl⟩
      rw [← hWb]
      replace HD : Hid (Wb.heap[w.heap.size + 1]? = some (.cells #[.int .i64 y, .int .i64 1, .int .i64 (N - bef y), .int .i64 H, .int .i64 MI, .int .i64 SE] 23 (0, 0))) := Lib.hid (by rw [hWb]; exact set_same (blk_bel HB8.out HD.out) rfl)
      replace HR : Hid (Wb.heap[w.heap.size]? = some (.cells #[.int .i64 0, .int .i64 0, .int .i64 0, .int .i64 0, .int .i64 0, .int .i64 0] 23 (0, 0))) := Lib.hid (by rw [hWb]; exact set_other (blk_bel HB8.out HR.out) (by omega))
      replace HB : Hid (Below w.heap.size w Wb) := Lib.hid (by rw [hWb]; exact Below.setCell (below_step HB.out HB8.out) (p := ⟨w.heap.size + 1, 2, none⟩) (by show w.heap.size ≤ w.heap.size + 1; omega) _)
      clear hWb HB8 g2
      go_wp2
      go_loopg [] 13 (fun k W => ∃ m : Int, 1 ≤ m ∧ m ≤ 12 ∧ 13 ≤ k + m.toNat ∧ Hid (cum y m ≤ N - bef y) ∧ Hid (W.heap[w.heap.size + 1]? = some (.cells #[.int .i64 y, .int .i64 m, .int .i64 (N - bef y - cum y m), .int .i64 H, .int .i64 MI, .int .i64 SE] 23 (0, 0))) ∧ Hid (W.heap[w.heap.size]? = some (.cells #[.int .i64 0, .int .i64 0, .int .i64 0, .int .i64 0, .int .i64 0, .int .i64 0] 23 (0, 0))) ∧ Hid (Below w.heap.size w W))
      case atStart =>
        refine ⟨1, by omega, by omega, by omega, Lib.hid ?_, Lib.hid ?_, HR, HB⟩
        · rw [cum_1]; omega
        · have := HD.out; rw [cum_1, Int.sub_zero]; exact this
      case round =>
        clear HD HR HB
        obtain ⟨m, m0, m1, hkm, HC, HD, HR, HB⟩ := hrel
        rename World => Wi
        have hcb := cum_bd y m (by omega) (by omega)
        have hdl := dim_lo y m
        have HCS := Lib.hid (cum_succ y m (by omega) (by omega))
        go_upto_region 9 with fail
        refine start_ (n := 8) (S := fun w' => w'.cell? ⟨w.heap.size + 1, 2, none⟩ = some (.int .i64 (N - bef y - cum y m)) ∧ w'.cell? ⟨w.heap.size + 1, 0, none⟩ = some (.int .i64 y) ∧ w'.cell? ⟨w.heap.size + 1, 1, none⟩ = some (.int .i64 m)) (ds := []) #[false, false, false, false, false, false, false, false] (by kernel_rfl) rfl rfl ⟨c_of HD.out 2 rfl, c_of HD.out 0 rfl, c_of HD.out 1 rfl⟩ (fun hHeld => ?_)
        refine pure_ (i := 0) (N := some 52) (v := ?_) (a' := ?_) #[true, false, false, false, false, false, false, false] rfl rfl (by kernel_rfl) (fun _ _ _ h => h) (Or.inl ⟨by rfl, ?_⟩) ?_ ?_
        rotate_left
        · intro w'
          go_simp
          with_reducible rfl
        rotate_left
        · simp only [Act.put, List.setIfInBounds_toArray, List.set_cons_zero, List.set_cons_succ, i64_w, i32_w]
          rfl
        refine pure_ (i := 2) (N := some 54) (v := ?_) (a' := ?_) #[true, false, true, false, false, false, false, false] rfl rfl (by kernel_rfl) (fun _ _ _ h => h) (Or.inl ⟨by rfl, ?_⟩) ?_ ?_
        rotate_left
        · intro w'
          go_simp
          with_reducible rfl
        rotate_left
        · simp only [Act.put, List.setIfInBounds_toArray, List.set_cons_zero, List.set_cons_succ, i64_w, i32_w]
          rfl
        refine pure_ (i := 4) (N := some 56) (v := ?_) (a' := ?_) #[true, false, true, false, true, false, false, false] rfl rfl (by kernel_rfl) (fun _ _ _ h => h) (Or.inl ⟨by rfl, ?_⟩) ?_ ?_
        rotate_left
        · intro w'
          go_simp
          with_reducible rfl
        rotate_left
        · simp only [Act.put, List.setIfInBounds_toArray, List.set_cons_zero, List.set_cons_succ, i64_w, i32_w]
          rfl
        refine take_ (i := 1) (N := some 53) (v := ?_) (a' := ?_) #[true, true, true, false, true, false, false, false] rfl rfl (by kernel_rfl) (fun _ _ _ h => h) (Or.inl ⟨by rfl, ?_⟩) hHeld ?_ ?_
        rotate_left
        · rintro w' ⟨s0, s1, s2⟩
          go_simp
          with_reducible rfl
        rotate_left
        · simp only [Act.put, List.setIfInBounds_toArray, List.set_cons_zero, List.set_cons_succ, i64_w, i32_w]
          rfl
        refine take_ (i := 3) (N := some 55) (v := ?_) (a' := ?_) #[true, true, true, true, true, false, false, false] rfl rfl (by kernel_rfl) (fun _ _ _ h => h) (Or.inl ⟨by rfl, ?_⟩) hHeld ?_ ?_
        rotate_left
        · rintro w' ⟨s0, s1, s2⟩
          go_simp
          with_reducible rfl
        rotate_left
        · simp only [Act.put, List.setIfInBounds_toArray, List.set_cons_zero, List.set_cons_succ, i64_w, i32_w]
          rfl
        refine take_ (i := 5) (N := some 57) (v := ?_) (a' := ?_) #[true, true, true, true, true, true, false, false] rfl rfl (by kernel_rfl) (fun _ _ _ h => h) (Or.inl ⟨by rfl, ?_⟩) hHeld ?_ ?_
        rotate_left
        · rintro w' ⟨s0, s1, s2⟩
          go_simp
          with_reducible rfl
        rotate_left
        · simp only [Act.put, List.setIfInBounds_toArray, List.set_cons_zero, List.set_cons_succ, i64_w, i32_w]
          rfl
        refine one_ (i := 6) (N := some 58) #[true, true, true, true, true, true, true, false] rfl rfl (by kernel_rfl) (by decide) (fun K hK => ?_)
        refine goes_ Tryd.func26 (by kernel_rfl) rfl #[.int .i64 y, .int .i64 m] (by rfl) rfl rfl (by simp only [List.map_toArray, List.map_cons, List.map_nil]; rfl) ?_
        with_reducible refine (days_q y m _).mono ?_
        rintro e w9 ⟨rfl, hd9⟩
        refine ⟨_, rfl, ?_⟩
        have HB9 : Hid (Below Wi.heap.size Wi w9) := Lib.hid (below_step (below_drew (Below.refl _ _)) hd9.below)
        refine hK.out _ _ ⟨c_of (blk_bel HB9.out HD.out) 2 rfl, c_of (blk_bel HB9.out HD.out) 0 rfl, c_of (blk_bel HB9.out HD.out) 1 rfl⟩ (fun hHeld => ?_)
        clear hK K
        refine norm_ (a' := ?_) ?_ ?_
        rotate_left
        · show Act.put _ (some 58) _ = _
          simp only [Act.put, List.setIfInBounds_toArray, List.set_cons_zero, List.set_cons_succ, i64_w, i32_w]
          rfl
        refine pure_ (i := 7) (N := some 59) (v := ?_) (a' := ?_) #[true, true, true, true, true, true, true, true] rfl rfl (by kernel_rfl) (fun _ _ _ h => h) (Or.inl ⟨by rfl, ?_⟩) ?_ ?_
        rotate_left
        · intro w'
          go_simp
          with_reducible rfl
        rotate_left
        · simp only [Act.put, List.setIfInBounds_toArray, List.set_cons_zero, List.set_cons_succ, i64_w, i32_w]
          rfl
        refine done_ (by kernel_rfl) ?_
        clear hHeld
        replace HD := Lib.hid (blk_bel HB9.out HD.out)
        replace HR := Lib.hid (blk_bel HB9.out HR.out)
        replace HB := Lib.hid (below_step HB.out HB9.out)
        obtain ⟨Wc, hWc⟩ : ∃ W, W = w9 := ⟨_, rfl⟩
        rw [← hWc] at HD HR HB ⊢
        clear HB9 hWc
        by_cases hge : dim y m ≤ N - bef y - cum y m
        · have t1 : decide (dim y m ≤ N - bef y - cum y m) = true := decide_eq_true hge
          obtain ⟨ko2, rfl⟩ : ∃ ko, gk = ko + 1 := ⟨gk - 1, by omega⟩
          have m2 : m + 1 ≤ 12 := by
            have e1 := L1.out
            have e2 := HCS.out
            apply Classical.byContradiction
            intro hc
            obtain rfl : m = 12 := by omega
            rw [show (12 : Int) + 1 = 13 from rfl, cum_13] at e2
            omega
          have hk3 : 13 ≤ ko2 + (m + 1).toNat := by omega
          have HC2 : Hid (cum y (m + 1) ≤ N - bef y) := Lib.hid (by rw [HCS.out]; omega)
          have HV2 : Hid (N - bef y - cum y m - dim y m = N - bef y - cum y (m + 1)) := Lib.hid (by rw [HCS.out]; omega)
          have N2 : N - bef y - cum y m ≤ 400 := by have := L1.out; omega
          go_upto_region 10 with fail
          refine start_ (n := 10) (S := fun w' => w'.cell? ⟨w.heap.size + 1, 2, none⟩ = some (.int .i64 (N - bef y - cum y m)) ∧ w'.cell? ⟨w.heap.size + 1, 0, none⟩ = some (.int .i64 y) ∧ w'.cell? ⟨w.heap.size + 1, 1, none⟩ = some (.int .i64 m)) (ds := [9]) #[false, false, false, false, false, false, false, false, false, false] (by kernel_rfl) rfl rfl ⟨c_of HD.out 2 rfl, c_of HD.out 0 rfl, c_of HD.out 1 rfl⟩ (fun hHeld => ?_)
          refine pure_ (i := 0) (N := some 60) (v := ?_) (a' := ?_) #[true, false, false, false, false, false, false, false, false, false] rfl rfl (by kernel_rfl) (fun _ _ _ h => h) (Or.inl ⟨by rfl, ?_⟩) ?_ ?_
          rotate_left
          · intro w'
            go_simp
            with_reducible rfl
          rotate_left
          · simp only [Act.put, List.setIfInBounds_toArray, List.set_cons_zero, List.set_cons_succ, i64_w, i32_w]
            rfl
          refine pure_ (i := 2) (N := some 62) (v := ?_) (a' := ?_) #[true, false, true, false, false, false, false, false, false, false] rfl rfl (by kernel_rfl) (fun _ _ _ h => h) (Or.inl ⟨by rfl, ?_⟩) ?_ ?_
          rotate_left
          · intro w'
            go_simp
            with_reducible rfl
          rotate_left
          · simp only [Act.put, List.setIfInBounds_toArray, List.set_cons_zero, List.set_cons_succ, i64_w, i32_w]
            rfl
          refine pure_ (i := 4) (N := some 64) (v := ?_) (a' := ?_) #[true, false, true, false, true, false, false, false, false, false] rfl rfl (by kernel_rfl) (fun _ _ _ h => h) (Or.inl ⟨by rfl, ?_⟩) ?_ ?_
          rotate_left
          · intro w'
            go_simp
            with_reducible rfl
          rotate_left
          · simp only [Act.put, List.setIfInBounds_toArray, List.set_cons_zero, List.set_cons_succ, i64_w, i32_w]
            rfl
          refine take_ (i := 1) (N := some 61) (v := ?_) (a' := ?_) #[true, true, true, false, true, false, false, false, false, false] rfl rfl (by kernel_rfl) (fun _ _ _ h => h) (Or.inl ⟨by rfl, ?_⟩) hHeld ?_ ?_
          rotate_left
          · rintro w' ⟨s0, s1, s2⟩
            go_simp
            with_reducible rfl
          rotate_left
          · simp only [Act.put, List.setIfInBounds_toArray, List.set_cons_zero, List.set_cons_succ, i64_w, i32_w]
            rfl
          refine take_ (i := 3) (N := some 63) (v := ?_) (a' := ?_) #[true, true, true, true, true, false, false, false, false, false] rfl rfl (by kernel_rfl) (fun _ _ _ h => h) (Or.inl ⟨by rfl, ?_⟩) hHeld ?_ ?_
          rotate_left
          · rintro w' ⟨s0, s1, s2⟩
            go_simp
            with_reducible rfl
          rotate_left
          · simp only [Act.put, List.setIfInBounds_toArray, List.set_cons_zero, List.set_cons_succ, i64_w, i32_w]
            rfl
          refine take_ (i := 5) (N := some 65) (v := ?_) (a' := ?_) #[true, true, true, true, true, true, false, false, false, false] rfl rfl (by kernel_rfl) (fun _ _ _ h => h) (Or.inl ⟨by rfl, ?_⟩) hHeld ?_ ?_
          rotate_left
          · rintro w' ⟨s0, s1, s2⟩
            go_simp
            with_reducible rfl
          rotate_left
          · simp only [Act.put, List.setIfInBounds_toArray, List.set_cons_zero, List.set_cons_succ, i64_w, i32_w]
            rfl
          refine one_ (i := 6) (N := some 66) #[true, true, true, true, true, true, true, false, false, false] rfl rfl (by kernel_rfl) (by decide) (fun K hK => ?_)
          refine goes_ Tryd.func26 (by kernel_rfl) rfl #[.int .i64 y, .int .i64 m] (by rfl) rfl rfl (by simp only [List.map_toArray, List.map_cons, List.map_nil]; rfl) ?_
          with_reducible refine (days_q y m _).mono ?_
          rintro e w10 ⟨rfl, hd10⟩
          refine ⟨_, rfl, ?_⟩
          have HB10 : Hid (Below Wc.heap.size Wc w10) := Lib.hid (below_step (below_drew (Below.refl _ _)) hd10.below)
          have g2 := fr_of (blk_bel HB10.out HD.out) 2
          refine hK.out _ _ ⟨c_of (blk_bel HB10.out HD.out) 2 rfl, c_of (blk_bel HB10.out HD.out) 0 rfl, c_of (blk_bel HB10.out HD.out) 1 rfl⟩ (fun hHeld => ?_)
          clear hK K
          refine norm_ (a' := ?_) ?_ ?_
          rotate_left
          · show Act.put _ (some 66) _ = _
            simp only [Act.put, List.setIfInBounds_toArray, List.set_cons_zero, List.set_cons_succ, i64_w, i32_w]
            rfl
          refine pure_ (i := 7) (N := some 67) (v := ?_) (a' := ?_) #[true, true, true, true, true, true, true, true, false, false] rfl rfl (by kernel_rfl) (fun _ _ _ h => h) (Or.inl ⟨by rfl, ?_⟩) ?_ ?_
          rotate_left
          · intro w'
            go_simp
            with_reducible rfl
          rotate_left
          · simp only [Act.put, List.setIfInBounds_toArray, List.set_cons_zero, List.set_cons_succ, i64_w, i32_w]
            rfl
          refine pure_ (i := 8) (N := some 68) (v := ?_) (a' := ?_) #[true, true, true, true, true, true, true, true, true, false] rfl rfl (by kernel_rfl) (fun _ _ _ h => h) (Or.inl ⟨by rfl, ?_⟩) ?_ ?_
          rotate_left
          · intro w'
            go_simp
            with_reducible rfl
          rotate_left
          · simp only [Act.put, List.setIfInBounds_toArray, List.set_cons_zero, List.set_cons_succ, i64_w, i32_w]
            rfl
          refine last_ (i := 9) (N := none) #[true, true, true, true, true, true, true, true, true, true] rfl rfl (by kernel_rfl) (by decide) (fun K hK => ?_)
          refine skip_ (w1 := ?_) (by rfl) rfl ?_ ?_
          rotate_left
          · go_simp
            rfl
          refine hK.out _ _ ?_
          clear hK K
          refine done_ (by kernel_rfl) ?_
          clear hHeld
          rw [show wrap64 (N - bef y - cum y m - dim y m) = N - bef y - cum y (m + 1) by rw [← HV2.out]; unfold wrap64; omega]
          obtain ⟨Wd, hWd⟩ : ∃ W, W = w10.setCell ⟨w.heap.size + 1, 2, none⟩ (.int .i64 (N - bef y - cum y (m + 1))) := ⟨_, rfl⟩
          rw [← hWd]
          replace HD : Hid (Wd.heap[w.heap.size + 1]? = some (.cells #[.int .i64 y, .int .i64 m, .int .i64 (N - bef y - cum y (m + 1)), .int .i64 H, .int .i64 MI, .int .i64 SE] 23 (0, 0))) := Lib.hid (by rw [hWd]; exact set_same (blk_bel HB10.out HD.out) rfl)
          replace HR : Hid (Wd.heap[w.heap.size]? = some (.cells #[.int .i64 0, .int .i64 0, .int .i64 0, .int .i64 0, .int .i64 0, .int .i64 0] 23 (0, 0))) := Lib.hid (by rw [hWd]; exact set_other (blk_bel HB10.out HR.out) (by omega))
          replace HB : Hid (Below w.heap.size w Wd) := Lib.hid (by rw [hWd]; exact Below.setCell (below_step HB.out HB10.out) (p := ⟨w.heap.size + 1, 2, none⟩) (by show w.heap.size ≤ w.heap.size + 1; omega) _)
          clear hWd HB10 g2
          have l1 := c_of HD.out 1 (v := .int .i64 m) rfl
          have f1 := fr_of HD.out 1
          go_wp2
          go_roundg ko2
          case measure => omega
          case rel => exact ⟨m + 1, by omega, m2, hk3, HC2, Lib.hid (set_same HD.out rfl), Lib.hid (set_other HR.out (by omega)), Lib.hid (Below.setCell HB.out (p := ⟨w.heap.size + 1, 1, none⟩) (by show w.heap.size ≤ w.heap.size + 1; omega) _)⟩
        · have t1 : decide (dim y m ≤ N - bef y - cum y m) = false := decide_eq_false hge
          have N2 : N - bef y - cum y m ≤ 400 := by omega
          have N3 : 0 ≤ N - bef y - cum y m := by have := HC.out; omega
          have hne : w.heap.size + 1 ≠ w.heap.size := by omega
          have hne2 : w.heap.size ≠ w.heap.size + 1 := by omega
          have l0 := c_of HD.out 0 (v := .int .i64 y) rfl
          have f0 := fr_of HD.out 0
          have l1 := c_of HD.out 1 (v := .int .i64 m) rfl
          have f1 := fr_of HD.out 1
          have l2 := c_of HD.out 2 (v := .int .i64 (N - bef y - cum y m)) rfl
          have f2 := fr_of HD.out 2
          have l3 := c_of HD.out 3 (v := .int .i64 H) rfl
          have f3 := fr_of HD.out 3
          have l4 := c_of HD.out 4 (v := .int .i64 MI) rfl
          have f4 := fr_of HD.out 4
          have l5 := c_of HD.out 5 (v := .int .i64 SE) rfl
          have f5 := fr_of HD.out 5
          have z0 := c_of HR.out 0 (v := .int .i64 0) rfl
          have q0_ := fr_of HR.out 0
          have z1 := c_of HR.out 1 (v := .int .i64 0) rfl
          have q1_ := fr_of HR.out 1
          have z2 := c_of HR.out 2 (v := .int .i64 0) rfl
          have q2_ := fr_of HR.out 2
          have z3 := c_of HR.out 3 (v := .int .i64 0) rfl
          have q3_ := fr_of HR.out 3
          have z4 := c_of HR.out 4 (v := .int .i64 0) rfl
          have q4_ := fr_of HR.out 4
          have z5 := c_of HR.out 5 (v := .int .i64 0) rfl
          have q5_ := fr_of HR.out 5
          go_wp2
          have hp := put6 (set_other (g := w.heap.size + 1) (i := 2) (v := .int .i64 (N - bef y - cum y m + 1)) HR.out hne2) (.int .i64 y) (.int .i64 m) (.int .i64 (N - bef y - cum y m + 1)) (.int .i64 H) (.int .i64 MI) (.int .i64 SE)
          obtain ⟨W4, hW⟩ : ∃ W, W = (((((((Wc.setCell ⟨w.heap.size + 1, 2, none⟩ (.int .i64 (N - bef y - cum y m + 1))).setCell ⟨w.heap.size, 0, none⟩ (.int .i64 y)).setCell ⟨w.heap.size, 1, none⟩ (.int .i64 m)).setCell ⟨w.heap.size, 2, none⟩ (.int .i64 (N - bef y - cum y m + 1))).setCell ⟨w.heap.size, 3, none⟩ (.int .i64 H)).setCell ⟨w.heap.size, 4, none⟩ (.int .i64 MI)).setCell ⟨w.heap.size, 5, none⟩ (.int .i64 SE)) := ⟨_, rfl⟩
          rw [← hW] at hp ⊢
          have hb : Below w.heap.size w W4 := by
            rw [hW]
            repeat (refine Below.setCell ?_ (by show w.heap.size ≤ _; first | exact Nat.le_refl _ | (simp only; omega) | omega) _)
            exact HB.out
          refine bodyPost_ret (v := .tuple #[date6 y m (N - bef y - cum y m + 1) H MI SE, .int .i64 0]) (by simp [results, Tryd.results13, go_sem, c_of hp 0 (v := .int .i64 y) rfl, c_of hp 1 (v := .int .i64 m) rfl, c_of hp 2 (v := .int .i64 (N - bef y - cum y m + 1)) rfl, c_of hp 3 (v := .int .i64 H) rfl, c_of hp 4 (v := .int .i64 MI) rfl, c_of hp 5 (v := .int .i64 SE) rfl]) rfl ⟨⟨y, m, N - bef y - cum y m + 1, H, MI, SE, ?_, ?_, rfl⟩, hb⟩
          · have e1 := HHX.out; have e2 := HMX.out; have e3 := HSX.out
            exact ⟨⟨y0, y1, m0, m1, by omega, by omega⟩, by omega, by omega, by omega, by omega, by omega, by omega⟩
          · have e1 := HHX.out; have e2 := HMX.out; have e3 := HSX.out; have e4 := HNX.out; have e5 := HQ.out
            unfold num dno
            omega
end Go.Proofs.YtmmommcgjafbbaaDoor.Da

