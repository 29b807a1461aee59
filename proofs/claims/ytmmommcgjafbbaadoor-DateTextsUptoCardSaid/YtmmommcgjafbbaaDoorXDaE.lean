import Derived.Test.YtmmommcgjafbbaaDoorXDaH

/- The document's Format: its contract. -/
namespace Go.Proofs.YtmmommcgjafbbaaDoor.Da
open Go.RowKit Go.Proofs.YtmmommcgjafbbaaDoorW.PrintWords Go.Proofs.YtmmommcgjafbbaaDoorW.PrintLast Go.Proofs.YtmmommcgjafbbaaDoorW.PrintMore Go.Proofs.YtmmommcgjafbbaaDoor.G
set_option linter.unusedVariables false
set_option linter.unusedSimpArgs false
theorem rdigits_2 (n : Nat) (h : n < 100) (w : World) : Calls Tryd.prog 32 #[.int .i64 (n : Int), .int .i64 2] w fun e w' => e = .returned (.string ⟨(two n).toArray⟩) ∧ Below w.heap.size w w' := by
  obtain ⟨r, hr, e⟩ := Option.map_eq_some_iff.1 (digits_two n h)
  have e2 : r = ⟨(two n).toArray⟩ := by rw [← e]
  exact turnbuckleref16_digits.calls 4 _ _ _ w (e2 ▸ hr)
theorem rdigits_4 (n : Nat) (h : n < 10000) (w : World) : Calls Tryd.prog 32 #[.int .i64 (n : Int), .int .i64 4] w fun e w' => e = .returned (.string ⟨(four n).toArray⟩) ∧ Below w.heap.size w w' := by
  obtain ⟨r, hr, e⟩ := Option.map_eq_some_iff.1 (digits_fours (n / 100) (by omega) (n % 100) (by omega))
  rw [show 100 * (n / 100) + n % 100 = n by omega] at hr
  have e2 : r = ⟨(four n).toArray⟩ := by
    have : four n = two (n / 100) ++ two (n % 100) := by simp only [four, two, List.cons_append, List.nil_append, show n / 100 / 10 = n / 1000 by omega, show n % 100 / 10 = n / 10 % 10 by omega, show n % 100 % 10 = n % 10 by omega]
    rw [this, ← e]
  exact turnbuckleref16_digits.calls 6 _ _ _ w (e2 ▸ hr)
set_option maxRecDepth 100000 in
set_option maxHeartbeats 2000000 in
theorem rformat_no (n : Int) (w : World) (hb : ¬ (-62167219200 ≤ n ∧ n ≤ 253402300799)) : Calls Tryd.prog 19 #[.int .i64 n] w fun e w' => e = .returned (.tuple #[.string ⟨#[]⟩, .int .i64 1]) ∧ Below w.heap.size w w' := by
  have HO := Lib.hid (rof_no n w hb)
  clear hb
  go_enter Tryd.func19, Tryd.ntmps19
  go_wp2_with (go_at_call 13; refine HO.out.mono ?_; rintro e w1 ⟨rfl, hb1⟩; have HB1 := Lib.hid hb1; clear hb1)
  go_ret2
  exact ⟨rfl, below_alloc HB1.out _⟩
theorem wr_id {x : Int} (h : -9223372036854775808 ≤ x) (h' : x ≤ 9223372036854775807) : wrap64 x = x := by unfold wrap64; omega
theorem wd_ext : ∀ i : Nat, i < 7 → (⟨#[77, 111, 110, 84, 117, 101, 87, 101, 100, 84, 104, 117, 70, 114, 105, 83, 97, 116, 83, 117, 110]⟩ : ByteArray).extract (3 * i) (3 * i + 3) = ⟨(wdays.getD i []).toArray⟩ := by decide +kernel
theorem mon_ext : ∀ i : Nat, i < 12 → (⟨#[74, 97, 110, 70, 101, 98, 77, 97, 114, 65, 112, 114, 77, 97, 121, 74, 117, 110, 74, 117, 108, 65, 117, 103, 83, 101, 112, 79, 99, 116, 78, 111, 118, 68, 101, 99]⟩ : ByteArray).extract (3 * i) (3 * i + 3) = ⟨(mons.getD i []).toArray⟩ := by decide +kernel
theorem rweekday_nat (n : Int) (wd : Nat) (h : wday n = (wd : Int)) (w : World) : Calls Tryd.prog 16 #[.int .i64 n] w fun e w' => e = .returned (.int .i64 (wd : Int)) ∧ Drawn0 w w' := by rw [← h]; exact rweekday_q n w
theorem dig_2 (n : Nat) (h : n < 100) : ∃ T : ByteArray, (∀ w, Calls Tryd.prog 32 #[.int .i64 (n : Int), .int .i64 2] w fun e w' => e = .returned (.string T) ∧ Below w.heap.size w w') ∧ T.size = 2 ∧ T = ⟨(two n).toArray⟩ := ⟨_, rdigits_2 n h, rfl, rfl⟩
theorem dig_4 (n : Nat) (h : n < 10000) : ∃ T : ByteArray, (∀ w, Calls Tryd.prog 32 #[.int .i64 (n : Int), .int .i64 4] w fun e w' => e = .returned (.string T) ∧ Below w.heap.size w w') ∧ T.size = 4 ∧ T = ⟨(four n).toArray⟩ := ⟨_, rdigits_4 n h, rfl, rfl⟩
set_option maxRecDepth 100000 in
set_option maxHeartbeats 8000000 in
theorem rformat_nat (n : Int) (y M d h mi s wd : Nat) (w : World) (o : DateOk (y : Int) ((M : Int) + 1) (d : Int) (h : Int) (mi : Int) (s : Int)) (e : num (y : Int) ((M : Int) + 1) (d : Int) (h : Int) (mi : Int) (s : Int) = n) (hwd : wday n = (wd : Int)) (hwd7 : wd < 7) :
    Calls Tryd.prog 19 #[.int .i64 n] w fun e w' => e = .returned (.tuple #[.string ⟨(fmtL y M d h mi s wd).toArray⟩, .int .i64 0]) ∧ Below w.heap.size w w' := by
  have hO := rof_yes n w (by have := num_bd o; rw [e] at this; exact this.1) (by have := num_bd o; rw [e] at this; exact this.2)
  have HOF : Hid (Calls Tryd.prog 13 #[.int .i64 n] w fun e w' => e = .returned (.tuple #[.agg #[.int .i64 (y : Int), .int .i64 ((M : Int) + 1), .int .i64 (d : Int), .int .i64 (h : Int), .int .i64 (mi : Int), .int .i64 (s : Int)], .int .i64 0]) ∧ Below w.heap.size w w') := Lib.hid (hO.mono (by
    rintro e' w' ⟨⟨y', m', d', h', mi', s', o', en, rfl⟩, hb⟩
    obtain ⟨rfl, rfl, rfl, rfl, rfl, rfl⟩ := num_inj o' o (en.trans e.symm)
    exact ⟨rfl, hb⟩))
  obtain ⟨⟨y0, y1, m0, m1, d0_, d1⟩, h0, h1, mi0, mi1, s0, s1⟩ := o
  have hd31 : (d : Int) ≤ 31 := by have := dim_lo (y : Int) ((M : Int) + 1); omega
  have h2 : h < 100 := by omega
  have mi2 : mi < 100 := by omega
  have s2 : s < 100 := by omega
  have d2 : d < 100 := by omega
  have y4 : y < 10000 := by omega
  have M12 : M < 12 := by omega
  obtain ⟨a7, ha7⟩ : ∃ a, a = 3 * wd := ⟨_, rfl⟩
  obtain ⟨b12, hb12⟩ : ∃ a, a = 3 * M := ⟨_, rfl⟩
  obtain ⟨AW, hAW⟩ : ∃ A, A = (⟨(wdays.getD wd []).toArray⟩ : ByteArray) := ⟨_, rfl⟩
  obtain ⟨AM, hAM⟩ : ∃ A, A = (⟨(mons.getD M []).toArray⟩ : ByteArray) := ⟨_, rfl⟩
  have hxA := wd_ext wd hwd7
  have hxM := mon_ext M M12
  rw [← ha7, ← hAW] at hxA
  rw [← hb12, ← hAM] at hxM
  have hsA : AW.size = 3 := by rw [← hxA]; simp only [ByteArray.size_extract]; show min (a7 + 3) 21 - a7 = 3; omega
  have hsM : AM.size = 3 := by rw [← hxM]; simp only [ByteArray.size_extract]; show min (b12 + 3) 36 - b12 = 3; omega
  have HAW := Lib.hid hAW
  have HAM := Lib.hid hAM
  have HWD := Lib.hid hwd
  clear hO e hwd d1 hAW hAM
  have t5 : ((a7 : Int) + 3).toNat = a7 + 3 := by omega
  have t6 : ((b12 : Int) + 3).toNat = b12 + 3 := by omega
  have u0 : (0 ≤ (a7 : Int)) = True := eq_true (by omega)
  have u1 : ((a7 : Int) ≤ (a7 : Int) + 3) = True := eq_true (by omega)
  have u2 : ((a7 : Int) + 3 ≤ 21) = True := eq_true (by omega)
  have u3 : (0 ≤ (b12 : Int)) = True := eq_true (by omega)
  have u4 : ((b12 : Int) ≤ (b12 : Int) + 3) = True := eq_true (by omega)
  have u5 : ((b12 : Int) + 3 ≤ 36) = True := eq_true (by omega)
  have Ht0 : Hid (wrap64 (3 * (wd : Int)) = (a7 : Int)) := Lib.hid ((wr_id (by omega) (by omega)).trans (by omega))
  have Ht1 : Hid (wrap64 (M : Int) = (M : Int)) := Lib.hid (wr_id (by omega) (by omega))
  have Ht2 : Hid (wrap64 (3 * (M : Int)) = (b12 : Int)) := Lib.hid ((wr_id (by omega) (by omega)).trans (by omega))
  have Ht3 : Hid (wrap64 ((a7 : Int) + 3) = (a7 : Int) + 3) := Lib.hid (wr_id (by omega) (by omega))
  have Ht4 : Hid (wrap64 ((b12 : Int) + 3) = (b12 : Int) + 3) := Lib.hid (wr_id (by omega) (by omega))
  obtain ⟨TD, RD, zD, eD⟩ := dig_2 d d2
  obtain ⟨TY, RY, zY, eY⟩ := dig_4 y y4
  obtain ⟨TH, RH, zH, eH⟩ := dig_2 h h2
  obtain ⟨TI, RI, zI, eI⟩ := dig_2 mi mi2
  obtain ⟨TS, RS, zS, eS⟩ := dig_2 s s2
  have Rd := Lib.hid RD; have Ry := Lib.hid RY; have Rh := Lib.hid RH; have Rmi := Lib.hid RI; have Rs := Lib.hid RS
  have Ed := Lib.hid eD; have Ey := Lib.hid eY; have Eh := Lib.hid eH; have Ei := Lib.hid eI; have Es := Lib.hid eS
  clear RD RY RH RI RS eD eY eH eI eS
  have t0 := Ht0.out; have t1 := Ht1.out; have t2 := Ht2.out; have t3 := Ht3.out; have t4 := Ht4.out
  clear Ht0 Ht1 Ht2 Ht3 Ht4
  clear ha7 hb12 hwd7 y0 y1 m0 m1 d0_ h0 h1 mi0 mi1 s0 s1 hd31 M12
  go_enter Tryd.func19, Tryd.ntmps19
  go_upto_region 4 with (go_at_call 13; refine HOF.out.mono ?_; rintro e w1 ⟨rfl, hb1⟩; have HB1 := Lib.hid hb1; clear hb1)
  obtain ⟨Wq, hWq⟩ : ∃ W, W = w1.alloc (.cells #[.int .i64 (y : Int), .int .i64 ((M : Int) + 1), .int .i64 (d : Int), .int .i64 (h : Int), .int .i64 (mi : Int), .int .i64 (s : Int)] 23) := ⟨_, rfl⟩
  rw [← hWq]
  have HDq : Hid (Wq.heap[w1.heap.size]? = some (.cells #[.int .i64 (y : Int), .int .i64 ((M : Int) + 1), .int .i64 (d : Int), .int .i64 (h : Int), .int .i64 (mi : Int), .int .i64 (s : Int)] 23 (0, 0))) := Lib.hid (by rw [hWq]; exact heap_alloc_new _ _)
  have HBq : Hid (Below w.heap.size w Wq) := Lib.hid (by rw [hWq]; exact below_alloc HB1.out _)
  clear hWq HOF HB1
  go_upto_region 6 with (go_at_call 16; refine (rweekday_nat n wd HWD.out _).mono ?_; rintro e w2 ⟨rfl, hd2⟩; have HB2 := Lib.hid hd2.below; have HD := Lib.hid (blk_bel HB2.out HDq.out); have hc2 := c_of HD.out 1 rfl; clear hd2)
  obtain ⟨Wr, hWr⟩ : ∃ W, W = w2 := ⟨_, rfl⟩
  rw [← hWr] at HD HB2 ⊢
  clear hc2 hWr
  refine start_ (n := 38) (S := fun w' => w'.cell? ⟨w1.heap.size, 2, none⟩ = some (.int .i64 (d : Int)) ∧ w'.cell? ⟨w1.heap.size, 0, none⟩ = some (.int .i64 (y : Int)) ∧ w'.cell? ⟨w1.heap.size, 3, none⟩ = some (.int .i64 (h : Int)) ∧ w'.cell? ⟨w1.heap.size, 4, none⟩ = some (.int .i64 (mi : Int)) ∧ w'.cell? ⟨w1.heap.size, 5, none⟩ = some (.int .i64 (s : Int))) (ds := []) #[false, false, false, false, false, false, false, false, false, false, false, false, false, false, false, false, false, false, false, false, false, false, false, false, false, false, false, false, false, false, false, false, false, false, false, false, false, false] (by kernel_rfl) rfl rfl ⟨c_of HD.out 2 rfl, c_of HD.out 0 rfl, c_of HD.out 3 rfl, c_of HD.out 4 rfl, c_of HD.out 5 rfl⟩ (fun hHeld => ?_)
  refine pure_ (i := 0) (N := some 23) (v := ?_) (a' := ?_) #[true, false, false, false, false, false, false, false, false, false, false, false, false, false, false, false, false, false, false, false, false, false, false, false, false, false, false, false, false, false, false, false, false, false, false, false, false, false] rfl rfl (by kernel_rfl) (fun _ _ _ h => h) (Or.inl ⟨by rfl, ?_⟩) ?_ ?_
  rotate_left
  · intro w'
    go_simp
    with_reducible rfl
  rotate_left
  · simp only [Act.put, List.setIfInBounds_toArray, List.set_cons_zero, List.set_cons_succ, i64_w, i32_w]
    rfl
  refine pure_ (i := 1) (N := some 24) (v := ?_) (a' := ?_) #[true, true, false, false, false, false, false, false, false, false, false, false, false, false, false, false, false, false, false, false, false, false, false, false, false, false, false, false, false, false, false, false, false, false, false, false, false, false] rfl rfl (by kernel_rfl) (fun _ _ _ h => h) (Or.inl ⟨by rfl, ?_⟩) ?_ ?_
  rotate_left
  · intro w'
    go_simp
    with_reducible rfl
  rotate_left
  · simp only [Act.put, List.setIfInBounds_toArray, List.set_cons_zero, List.set_cons_succ, i64_w, i32_w]
    rfl
  refine pure_ (i := 2) (N := some 25) (v := ?_) (a' := ?_) #[true, true, true, false, false, false, false, false, false, false, false, false, false, false, false, false, false, false, false, false, false, false, false, false, false, false, false, false, false, false, false, false, false, false, false, false, false, false] rfl rfl (by kernel_rfl) (fun _ _ _ h => h) (Or.inl ⟨by rfl, ?_⟩) ?_ ?_
  rotate_left
  · intro w'
    go_simp
    with_reducible rfl
  rotate_left
  · simp only [Act.put, List.setIfInBounds_toArray, List.set_cons_zero, List.set_cons_succ, i64_w, i32_w]
    rfl
  refine pure_ (i := 3) (N := some 26) (v := ?_) (a' := ?_) #[true, true, true, true, false, false, false, false, false, false, false, false, false, false, false, false, false, false, false, false, false, false, false, false, false, false, false, false, false, false, false, false, false, false, false, false, false, false] rfl rfl (by kernel_rfl) (fun _ _ _ h => h) (Or.inl ⟨by rfl, ?_⟩) ?_ ?_
  rotate_left
  · intro w'
    go_simp
    with_reducible rfl
  rotate_left
  · simp only [Act.put, List.setIfInBounds_toArray, List.set_cons_zero, List.set_cons_succ, i64_w, i32_w]
    rfl
  refine pure_ (i := 4) (N := some 27) (v := ?_) (a' := ?_) #[true, true, true, true, true, false, false, false, false, false, false, false, false, false, false, false, false, false, false, false, false, false, false, false, false, false, false, false, false, false, false, false, false, false, false, false, false, false] rfl rfl (by kernel_rfl) (fun _ _ _ h => h) (Or.inl ⟨by rfl, ?_⟩) ?_ ?_
  rotate_left
  · intro w'
    go_simp
    with_reducible rfl
  rotate_left
  · simp only [Act.put, List.setIfInBounds_toArray, List.set_cons_zero, List.set_cons_succ, i64_w, i32_w]
    rfl
  refine pure_ (i := 5) (N := some 28) (v := ?_) (a' := ?_) #[true, true, true, true, true, true, false, false, false, false, false, false, false, false, false, false, false, false, false, false, false, false, false, false, false, false, false, false, false, false, false, false, false, false, false, false, false, false] rfl rfl (by kernel_rfl) (fun _ _ _ h => h) (Or.inl ⟨by rfl, ?_⟩) ?_ ?_
  rotate_left
  · intro w'
    go_simp
    with_reducible rfl
  rotate_left
  · simp only [Act.put, List.setIfInBounds_toArray, List.set_cons_zero, List.set_cons_succ, i64_w, i32_w]
    rfl
  refine pure_ (i := 10) (N := some 33) (v := ?_) (a' := ?_) #[true, true, true, true, true, true, false, false, false, false, true, false, false, false, false, false, false, false, false, false, false, false, false, false, false, false, false, false, false, false, false, false, false, false, false, false, false, false] rfl rfl (by kernel_rfl) (fun _ _ _ h => h) (Or.inl ⟨by rfl, ?_⟩) ?_ ?_
  rotate_left
  · intro w'
    go_simp
    with_reducible rfl
  rotate_left
  · simp only [Act.put, List.setIfInBounds_toArray, List.set_cons_zero, List.set_cons_succ, i64_w, i32_w]
    rfl
  refine pure_ (i := 11) (N := some 34) (v := ?_) (a' := ?_) #[true, true, true, true, true, true, false, false, false, false, true, true, false, false, false, false, false, false, false, false, false, false, false, false, false, false, false, false, false, false, false, false, false, false, false, false, false, false] rfl rfl (by kernel_rfl) (fun _ _ _ h => h) (Or.inl ⟨by rfl, ?_⟩) ?_ ?_
  rotate_left
  · intro w'
    go_simp
    with_reducible rfl
  rotate_left
  · simp only [Act.put, List.setIfInBounds_toArray, List.set_cons_zero, List.set_cons_succ, i64_w, i32_w]
    rfl
  refine pure_ (i := 12) (N := some 35) (v := ?_) (a' := ?_) #[true, true, true, true, true, true, false, false, false, false, true, true, true, false, false, false, false, false, false, false, false, false, false, false, false, false, false, false, false, false, false, false, false, false, false, false, false, false] rfl rfl (by kernel_rfl) (fun _ _ _ h => h) (Or.inl ⟨by rfl, ?_⟩) ?_ ?_
  rotate_left
  · intro w'
    go_simp
    with_reducible rfl
  rotate_left
  · simp only [Act.put, List.setIfInBounds_toArray, List.set_cons_zero, List.set_cons_succ, i64_w, i32_w]
    rfl
  refine pure_ (i := 13) (N := some 36) (v := ?_) (a' := ?_) #[true, true, true, true, true, true, false, false, false, false, true, true, true, true, false, false, false, false, false, false, false, false, false, false, false, false, false, false, false, false, false, false, false, false, false, false, false, false] rfl rfl (by kernel_rfl) (fun _ _ _ h => h) (Or.inl ⟨by rfl, ?_⟩) ?_ ?_
  rotate_left
  · intro w'
    go_simp
    with_reducible rfl
  rotate_left
  · simp only [Act.put, List.setIfInBounds_toArray, List.set_cons_zero, List.set_cons_succ, i64_w, i32_w]
    rfl
  refine pure_ (i := 16) (N := some 39) (v := ?_) (a' := ?_) #[true, true, true, true, true, true, false, false, false, false, true, true, true, true, false, false, true, false, false, false, false, false, false, false, false, false, false, false, false, false, false, false, false, false, false, false, false, false] rfl rfl (by kernel_rfl) (fun _ _ _ h => h) (Or.inl ⟨by rfl, ?_⟩) ?_ ?_
  rotate_left
  · intro w'
    go_simp
    with_reducible rfl
  rotate_left
  · simp only [Act.put, List.setIfInBounds_toArray, List.set_cons_zero, List.set_cons_succ, i64_w, i32_w]
    rfl
  refine pure_ (i := 21) (N := some 44) (v := ?_) (a' := ?_) #[true, true, true, true, true, true, false, false, false, false, true, true, true, true, false, false, true, false, false, false, false, true, false, false, false, false, false, false, false, false, false, false, false, false, false, false, false, false] rfl rfl (by kernel_rfl) (fun _ _ _ h => h) (Or.inl ⟨by rfl, ?_⟩) ?_ ?_
  rotate_left
  · intro w'
    go_simp
    with_reducible rfl
  rotate_left
  · simp only [Act.put, List.setIfInBounds_toArray, List.set_cons_zero, List.set_cons_succ, i64_w, i32_w]
    rfl
  refine pure_ (i := 26) (N := some 49) (v := ?_) (a' := ?_) #[true, true, true, true, true, true, false, false, false, false, true, true, true, true, false, false, true, false, false, false, false, true, false, false, false, false, true, false, false, false, false, false, false, false, false, false, false, false] rfl rfl (by kernel_rfl) (fun _ _ _ h => h) (Or.inl ⟨by rfl, ?_⟩) ?_ ?_
  rotate_left
  · intro w'
    go_simp
    with_reducible rfl
  rotate_left
  · simp only [Act.put, List.setIfInBounds_toArray, List.set_cons_zero, List.set_cons_succ, i64_w, i32_w]
    rfl
  refine pure_ (i := 31) (N := some 54) (v := ?_) (a' := ?_) #[true, true, true, true, true, true, false, false, false, false, true, true, true, true, false, false, true, false, false, false, false, true, false, false, false, false, true, false, false, false, false, true, false, false, false, false, false, false] rfl rfl (by kernel_rfl) (fun _ _ _ h => h) (Or.inl ⟨by rfl, ?_⟩) ?_ ?_
  rotate_left
  · intro w'
    go_simp
    with_reducible rfl
  rotate_left
  · simp only [Act.put, List.setIfInBounds_toArray, List.set_cons_zero, List.set_cons_succ, i64_w, i32_w]
    rfl
  refine take_ (i := 6) (N := some 29) (v := ?_) (a' := ?_) #[true, true, true, true, true, true, true, false, false, false, true, true, true, true, false, false, true, false, false, false, false, true, false, false, false, false, true, false, false, false, false, true, false, false, false, false, false, false] rfl rfl (by kernel_rfl) (fun _ _ _ h => h) (Or.inl ⟨by rfl, ?_⟩) hHeld ?_ ?_
  rotate_left
  · rintro w' ⟨s0, s1, s2, s3, s4⟩
    go_simp
    with_reducible rfl
  rotate_left
  · simp only [Act.put, List.setIfInBounds_toArray, List.set_cons_zero, List.set_cons_succ, i64_w, i32_w]
    rfl
  refine take_ (i := 17) (N := some 40) (v := ?_) (a' := ?_) #[true, true, true, true, true, true, true, false, false, false, true, true, true, true, false, false, true, true, false, false, false, true, false, false, false, false, true, false, false, false, false, true, false, false, false, false, false, false] rfl rfl (by kernel_rfl) (fun _ _ _ h => h) (Or.inl ⟨by rfl, ?_⟩) hHeld ?_ ?_
  rotate_left
  · rintro w' ⟨s0, s1, s2, s3, s4⟩
    go_simp
    with_reducible rfl
  rotate_left
  · simp only [Act.put, List.setIfInBounds_toArray, List.set_cons_zero, List.set_cons_succ, i64_w, i32_w]
    rfl
  refine take_ (i := 22) (N := some 45) (v := ?_) (a' := ?_) #[true, true, true, true, true, true, true, false, false, false, true, true, true, true, false, false, true, true, false, false, false, true, true, false, false, false, true, false, false, false, false, true, false, false, false, false, false, false] rfl rfl (by kernel_rfl) (fun _ _ _ h => h) (Or.inl ⟨by rfl, ?_⟩) hHeld ?_ ?_
  rotate_left
  · rintro w' ⟨s0, s1, s2, s3, s4⟩
    go_simp
    with_reducible rfl
  rotate_left
  · simp only [Act.put, List.setIfInBounds_toArray, List.set_cons_zero, List.set_cons_succ, i64_w, i32_w]
    rfl
  refine take_ (i := 27) (N := some 50) (v := ?_) (a' := ?_) #[true, true, true, true, true, true, true, false, false, false, true, true, true, true, false, false, true, true, false, false, false, true, true, false, false, false, true, true, false, false, false, true, false, false, false, false, false, false] rfl rfl (by kernel_rfl) (fun _ _ _ h => h) (Or.inl ⟨by rfl, ?_⟩) hHeld ?_ ?_
  rotate_left
  · rintro w' ⟨s0, s1, s2, s3, s4⟩
    go_simp
    with_reducible rfl
  rotate_left
  · simp only [Act.put, List.setIfInBounds_toArray, List.set_cons_zero, List.set_cons_succ, i64_w, i32_w]
    rfl
  refine take_ (i := 32) (N := some 55) (v := ?_) (a' := ?_) #[true, true, true, true, true, true, true, false, false, false, true, true, true, true, false, false, true, true, false, false, false, true, true, false, false, false, true, true, false, false, false, true, true, false, false, false, false, false] rfl rfl (by kernel_rfl) (fun _ _ _ h => h) (Or.inl ⟨by rfl, ?_⟩) hHeld ?_ ?_
  rotate_left
  · rintro w' ⟨s0, s1, s2, s3, s4⟩
    go_simp
    with_reducible rfl
  rotate_left
  · simp only [Act.put, List.setIfInBounds_toArray, List.set_cons_zero, List.set_cons_succ, i64_w, i32_w]
    rfl
  refine one_ (i := 7) (N := some 30) #[true, true, true, true, true, true, true, true, false, false, true, true, true, true, false, false, true, true, false, false, false, true, true, false, false, false, true, true, false, false, false, true, true, false, false, false, false, false] rfl rfl (by kernel_rfl) (by decide) (fun K hK => ?_)
  refine goes_ Tryd.func32 (by kernel_rfl) rfl #[.int .i64 (d : Int), .int .i64 2] (by rfl) rfl rfl (by simp only [List.map_toArray, List.map_cons, List.map_nil]; rfl) ?_
  with_reducible refine (Rd.out _).mono ?_
  rintro e w7 ⟨rfl, hb7⟩
  refine ⟨_, rfl, ?_⟩
  have HB7 : Hid (Below Wr.heap.size Wr w7) := Lib.hid (below_step (below_drew (Below.refl _ _)) hb7)
  refine hK.out _ _ ⟨c_of (blk_bel HB7.out HD.out) 2 rfl, c_of (blk_bel HB7.out HD.out) 0 rfl, c_of (blk_bel HB7.out HD.out) 3 rfl, c_of (blk_bel HB7.out HD.out) 4 rfl, c_of (blk_bel HB7.out HD.out) 5 rfl⟩ (fun hHeld => ?_)
  clear hK K
  refine norm_ (a' := ?_) ?_ ?_
  rotate_left
  · show Act.put _ (some 30) _ = _
    simp only [Act.put, List.setIfInBounds_toArray, List.set_cons_zero, List.set_cons_succ, i64_w, i32_w]
    rfl
  refine pure_ (i := 8) (N := some 31) (v := ?_) (a' := ?_) #[true, true, true, true, true, true, true, true, true, false, true, true, true, true, false, false, true, true, false, false, false, true, true, false, false, false, true, true, false, false, false, true, true, false, false, false, false, false] rfl rfl (by kernel_rfl) (fun _ _ _ h => h) (Or.inl ⟨by rfl, ?_⟩) ?_ ?_
  rotate_left
  · intro w'
    go_simp
    with_reducible rfl
  rotate_left
  · simp only [Act.put, List.setIfInBounds_toArray, List.set_cons_zero, List.set_cons_succ, i64_w, i32_w]
    rfl
  refine pure_ (i := 9) (N := some 32) (v := ?_) (a' := ?_) #[true, true, true, true, true, true, true, true, true, true, true, true, true, true, false, false, true, true, false, false, false, true, true, false, false, false, true, true, false, false, false, true, true, false, false, false, false, false] rfl rfl (by kernel_rfl) (fun _ _ _ h => h) (Or.inl ⟨by rfl, ?_⟩) ?_ ?_
  rotate_left
  · intro w'
    go_simp
    with_reducible rfl
  rotate_left
  · simp only [Act.put, List.setIfInBounds_toArray, List.set_cons_zero, List.set_cons_succ, i64_w, i32_w]
    rfl
  refine pure_ (i := 14) (N := some 37) (v := ?_) (a' := ?_) #[true, true, true, true, true, true, true, true, true, true, true, true, true, true, true, false, true, true, false, false, false, true, true, false, false, false, true, true, false, false, false, true, true, false, false, false, false, false] rfl rfl (by kernel_rfl) (fun _ _ _ h => h) (Or.inl ⟨by rfl, ?_⟩) ?_ ?_
  rotate_left
  · intro w'
    go_simp
    with_reducible rfl
  rotate_left
  · simp only [Act.put, List.setIfInBounds_toArray, List.set_cons_zero, List.set_cons_succ, i64_w, i32_w]
    rfl
  refine pure_ (i := 15) (N := some 38) (v := ?_) (a' := ?_) #[true, true, true, true, true, true, true, true, true, true, true, true, true, true, true, true, true, true, false, false, false, true, true, false, false, false, true, true, false, false, false, true, true, false, false, false, false, false] rfl rfl (by kernel_rfl) (fun _ _ _ h => h) (Or.inl ⟨by rfl, ?_⟩) ?_ ?_
  rotate_left
  · intro w'
    go_simp
    with_reducible rfl
  rotate_left
  · simp only [Act.put, List.setIfInBounds_toArray, List.set_cons_zero, List.set_cons_succ, i64_w, i32_w]
    rfl
  refine one_ (i := 18) (N := some 41) #[true, true, true, true, true, true, true, true, true, true, true, true, true, true, true, true, true, true, true, false, false, true, true, false, false, false, true, true, false, false, false, true, true, false, false, false, false, false] rfl rfl (by kernel_rfl) (by decide) (fun K hK => ?_)
  refine goes_ Tryd.func32 (by kernel_rfl) rfl #[.int .i64 (y : Int), .int .i64 4] (by rfl) rfl rfl (by simp only [List.map_toArray, List.map_cons, List.map_nil]; rfl) ?_
  with_reducible refine (Ry.out _).mono ?_
  rintro e w18 ⟨rfl, hb18⟩
  refine ⟨_, rfl, ?_⟩
  have HB18 : Hid (Below Wr.heap.size Wr w18) := Lib.hid (below_step HB7.out hb18)
  refine hK.out _ _ ⟨c_of (blk_bel HB18.out HD.out) 2 rfl, c_of (blk_bel HB18.out HD.out) 0 rfl, c_of (blk_bel HB18.out HD.out) 3 rfl, c_of (blk_bel HB18.out HD.out) 4 rfl, c_of (blk_bel HB18.out HD.out) 5 rfl⟩ (fun hHeld => ?_)
  clear hK K
  refine norm_ (a' := ?_) ?_ ?_
  rotate_left
  · show Act.put _ (some 41) _ = _
    simp only [Act.put, List.setIfInBounds_toArray, List.set_cons_zero, List.set_cons_succ, i64_w, i32_w]
    rfl
  refine pure_ (i := 19) (N := some 42) (v := ?_) (a' := ?_) #[true, true, true, true, true, true, true, true, true, true, true, true, true, true, true, true, true, true, true, true, false, true, true, false, false, false, true, true, false, false, false, true, true, false, false, false, false, false] rfl rfl (by kernel_rfl) (fun _ _ _ h => h) (Or.inl ⟨by rfl, ?_⟩) ?_ ?_
  rotate_left
  · intro w'
    go_simp
    with_reducible rfl
  rotate_left
  · simp only [Act.put, List.setIfInBounds_toArray, List.set_cons_zero, List.set_cons_succ, i64_w, i32_w]
    rfl
  refine pure_ (i := 20) (N := some 43) (v := ?_) (a' := ?_) #[true, true, true, true, true, true, true, true, true, true, true, true, true, true, true, true, true, true, true, true, true, true, true, false, false, false, true, true, false, false, false, true, true, false, false, false, false, false] rfl rfl (by kernel_rfl) (fun _ _ _ h => h) (Or.inl ⟨by rfl, ?_⟩) ?_ ?_
  rotate_left
  · intro w'
    go_simp
    with_reducible rfl
  rotate_left
  · simp only [Act.put, List.setIfInBounds_toArray, List.set_cons_zero, List.set_cons_succ, i64_w, i32_w]
    rfl
  refine one_ (i := 23) (N := some 46) #[true, true, true, true, true, true, true, true, true, true, true, true, true, true, true, true, true, true, true, true, true, true, true, true, false, false, true, true, false, false, false, true, true, false, false, false, false, false] rfl rfl (by kernel_rfl) (by decide) (fun K hK => ?_)
  refine goes_ Tryd.func32 (by kernel_rfl) rfl #[.int .i64 (h : Int), .int .i64 2] (by rfl) rfl rfl (by simp only [List.map_toArray, List.map_cons, List.map_nil]; rfl) ?_
  with_reducible refine (Rh.out _).mono ?_
  rintro e w23 ⟨rfl, hb23⟩
  refine ⟨_, rfl, ?_⟩
  have HB23 : Hid (Below Wr.heap.size Wr w23) := Lib.hid (below_step HB18.out hb23)
  refine hK.out _ _ ⟨c_of (blk_bel HB23.out HD.out) 2 rfl, c_of (blk_bel HB23.out HD.out) 0 rfl, c_of (blk_bel HB23.out HD.out) 3 rfl, c_of (blk_bel HB23.out HD.out) 4 rfl, c_of (blk_bel HB23.out HD.out) 5 rfl⟩ (fun hHeld => ?_)
  clear hK K
  refine norm_ (a' := ?_) ?_ ?_
  rotate_left
  · show Act.put _ (some 46) _ = _
    simp only [Act.put, List.setIfInBounds_toArray, List.set_cons_zero, List.set_cons_succ, i64_w, i32_w]
    rfl
  refine pure_ (i := 24) (N := some 47) (v := ?_) (a' := ?_) #[true, true, true, true, true, true, true, true, true, true, true, true, true, true, true, true, true, true, true, true, true, true, true, true, true, false, true, true, false, false, false, true, true, false, false, false, false, false] rfl rfl (by kernel_rfl) (fun _ _ _ h => h) (Or.inl ⟨by rfl, ?_⟩) ?_ ?_
  rotate_left
  · intro w'
    go_simp
    with_reducible rfl
  rotate_left
  · simp only [Act.put, List.setIfInBounds_toArray, List.set_cons_zero, List.set_cons_succ, i64_w, i32_w]
    rfl
  refine pure_ (i := 25) (N := some 48) (v := ?_) (a' := ?_) #[true, true, true, true, true, true, true, true, true, true, true, true, true, true, true, true, true, true, true, true, true, true, true, true, true, true, true, true, false, false, false, true, true, false, false, false, false, false] rfl rfl (by kernel_rfl) (fun _ _ _ h => h) (Or.inl ⟨by rfl, ?_⟩) ?_ ?_
  rotate_left
  · intro w'
    go_simp
    with_reducible rfl
  rotate_left
  · simp only [Act.put, List.setIfInBounds_toArray, List.set_cons_zero, List.set_cons_succ, i64_w, i32_w]
    rfl
  refine one_ (i := 28) (N := some 51) #[true, true, true, true, true, true, true, true, true, true, true, true, true, true, true, true, true, true, true, true, true, true, true, true, true, true, true, true, true, false, false, true, true, false, false, false, false, false] rfl rfl (by kernel_rfl) (by decide) (fun K hK => ?_)
  refine goes_ Tryd.func32 (by kernel_rfl) rfl #[.int .i64 (mi : Int), .int .i64 2] (by rfl) rfl rfl (by simp only [List.map_toArray, List.map_cons, List.map_nil]; rfl) ?_
  with_reducible refine (Rmi.out _).mono ?_
  rintro e w28 ⟨rfl, hb28⟩
  refine ⟨_, rfl, ?_⟩
  have HB28 : Hid (Below Wr.heap.size Wr w28) := Lib.hid (below_step HB23.out hb28)
  refine hK.out _ _ ⟨c_of (blk_bel HB28.out HD.out) 2 rfl, c_of (blk_bel HB28.out HD.out) 0 rfl, c_of (blk_bel HB28.out HD.out) 3 rfl, c_of (blk_bel HB28.out HD.out) 4 rfl, c_of (blk_bel HB28.out HD.out) 5 rfl⟩ (fun hHeld => ?_)
  clear hK K
  refine norm_ (a' := ?_) ?_ ?_
  rotate_left
  · show Act.put _ (some 51) _ = _
    simp only [Act.put, List.setIfInBounds_toArray, List.set_cons_zero, List.set_cons_succ, i64_w, i32_w]
    rfl
  refine pure_ (i := 29) (N := some 52) (v := ?_) (a' := ?_) #[true, true, true, true, true, true, true, true, true, true, true, true, true, true, true, true, true, true, true, true, true, true, true, true, true, true, true, true, true, true, false, true, true, false, false, false, false, false] rfl rfl (by kernel_rfl) (fun _ _ _ h => h) (Or.inl ⟨by rfl, ?_⟩) ?_ ?_
  rotate_left
  · intro w'
    go_simp
    with_reducible rfl
  rotate_left
  · simp only [Act.put, List.setIfInBounds_toArray, List.set_cons_zero, List.set_cons_succ, i64_w, i32_w]
    rfl
  refine pure_ (i := 30) (N := some 53) (v := ?_) (a' := ?_) #[true, true, true, true, true, true, true, true, true, true, true, true, true, true, true, true, true, true, true, true, true, true, true, true, true, true, true, true, true, true, true, true, true, false, false, false, false, false] rfl rfl (by kernel_rfl) (fun _ _ _ h => h) (Or.inl ⟨by rfl, ?_⟩) ?_ ?_
  rotate_left
  · intro w'
    go_simp
    with_reducible rfl
  rotate_left
  · simp only [Act.put, List.setIfInBounds_toArray, List.set_cons_zero, List.set_cons_succ, i64_w, i32_w]
    rfl
  refine one_ (i := 33) (N := some 56) #[true, true, true, true, true, true, true, true, true, true, true, true, true, true, true, true, true, true, true, true, true, true, true, true, true, true, true, true, true, true, true, true, true, true, false, false, false, false] rfl rfl (by kernel_rfl) (by decide) (fun K hK => ?_)
  refine goes_ Tryd.func32 (by kernel_rfl) rfl #[.int .i64 (s : Int), .int .i64 2] (by rfl) rfl rfl (by simp only [List.map_toArray, List.map_cons, List.map_nil]; rfl) ?_
  with_reducible refine (Rs.out _).mono ?_
  rintro e w33 ⟨rfl, hb33⟩
  refine ⟨_, rfl, ?_⟩
  have HB33 : Hid (Below Wr.heap.size Wr w33) := Lib.hid (below_step HB28.out hb33)
  refine hK.out _ _ ⟨c_of (blk_bel HB33.out HD.out) 2 rfl, c_of (blk_bel HB33.out HD.out) 0 rfl, c_of (blk_bel HB33.out HD.out) 3 rfl, c_of (blk_bel HB33.out HD.out) 4 rfl, c_of (blk_bel HB33.out HD.out) 5 rfl⟩ (fun hHeld => ?_)
  clear hK K
  refine norm_ (a' := ?_) ?_ ?_
  rotate_left
  · show Act.put _ (some 56) _ = _
    simp only [Act.put, List.setIfInBounds_toArray, List.set_cons_zero, List.set_cons_succ, i64_w, i32_w]
    rfl
  refine pure_ (i := 34) (N := some 57) (v := ?_) (a' := ?_) #[true, true, true, true, true, true, true, true, true, true, true, true, true, true, true, true, true, true, true, true, true, true, true, true, true, true, true, true, true, true, true, true, true, true, true, false, false, false] rfl rfl (by kernel_rfl) (fun _ _ _ h => h) (Or.inl ⟨by rfl, ?_⟩) ?_ ?_
  rotate_left
  · intro w'
    go_simp
    with_reducible rfl
  rotate_left
  · simp only [Act.put, List.setIfInBounds_toArray, List.set_cons_zero, List.set_cons_succ, i64_w, i32_w]
    rfl
  refine pure_ (i := 35) (N := some 58) (v := ?_) (a' := ?_) #[true, true, true, true, true, true, true, true, true, true, true, true, true, true, true, true, true, true, true, true, true, true, true, true, true, true, true, true, true, true, true, true, true, true, true, true, false, false] rfl rfl (by kernel_rfl) (fun _ _ _ h => h) (Or.inl ⟨by rfl, ?_⟩) ?_ ?_
  rotate_left
  · intro w'
    go_simp
    with_reducible rfl
  rotate_left
  · simp only [Act.put, List.setIfInBounds_toArray, List.set_cons_zero, List.set_cons_succ, i64_w, i32_w]
    rfl
  refine pure_ (i := 36) (N := some 2) (v := ?_) (a' := ?_) #[true, true, true, true, true, true, true, true, true, true, true, true, true, true, true, true, true, true, true, true, true, true, true, true, true, true, true, true, true, true, true, true, true, true, true, true, true, false] rfl rfl (by kernel_rfl) (fun _ _ _ h => h) (Or.inl ⟨by rfl, ?_⟩) ?_ ?_
  rotate_left
  · intro w'
    go_simp
    with_reducible rfl
  rotate_left
  · simp only [Act.put, List.setIfInBounds_toArray, List.set_cons_zero, List.set_cons_succ, i64_w, i32_w]
    rfl
  refine pure_ (i := 37) (N := some 3) (v := ?_) (a' := ?_) #[true, true, true, true, true, true, true, true, true, true, true, true, true, true, true, true, true, true, true, true, true, true, true, true, true, true, true, true, true, true, true, true, true, true, true, true, true, true] rfl rfl (by kernel_rfl) (fun _ _ _ h => h) (Or.inl ⟨by rfl, ?_⟩) ?_ ?_
  rotate_left
  · intro w'
    go_simp
    with_reducible rfl
  rotate_left
  · simp only [Act.put, List.setIfInBounds_toArray, List.set_cons_zero, List.set_cons_succ, i64_w, i32_w]
    rfl
  refine done_ (by kernel_rfl) ?_
  go_wp2
  go_ret2
  refine ⟨?_, below_step (below_step HBq.out HB2.out) HB33.out⟩
  have ef : (⟨(fmtL y M d h mi s wd).toArray⟩ : ByteArray) = (((((((((((((AW ++ (⟨#[44, 32]⟩ : ByteArray)) ++ TD) ++ (⟨#[32]⟩ : ByteArray)) ++ AM) ++ (⟨#[32]⟩ : ByteArray)) ++ TY) ++ (⟨#[32]⟩ : ByteArray)) ++ TH) ++ (⟨#[58]⟩ : ByteArray)) ++ TI) ++ (⟨#[58]⟩ : ByteArray)) ++ TS) ++ (⟨#[32, 71, 77, 84]⟩ : ByteArray)) := by
    rw [HAW.out, HAM.out, Ed.out, Ey.out, Eh.out, Ei.out, Es.out]
    apply ByteArray.ext
    simp [fmtL, clockL, Lib.join, List.intercalate, two, four, ByteArray.data_append]
  rw [ef]
  rfl
end Go.Proofs.YtmmommcgjafbbaaDoor.Da

