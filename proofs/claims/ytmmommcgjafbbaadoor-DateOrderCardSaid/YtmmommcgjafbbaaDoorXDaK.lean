import Derived.Test.YtmmommcgjafbbaaDoorXDaX

/- DateOrder: its walk. -/
namespace Go.Proofs.YtmmommcgjafbbaaDoor.Da
open Go.RowKit Go.Proofs.YtmmommcgjafbbaaDoorW.PrintWords Go.Proofs.YtmmommcgjafbbaaDoorW.PrintLast Go.Proofs.YtmmommcgjafbbaaDoorW.PrintMore Go.Proofs.YtmmommcgjafbbaaDoor.G
set_option linter.unusedVariables false
set_option linter.unusedSimpArgs false
theorem num_lt_day {y m d h mi s y' m' d' h' mi' s' : Int} (o : DateOk y m d h mi s) (o' : DateOk y' m' d' h' mi' s') (he : Erl y m d y' m' d') : num y m d h mi s < num y' m' d' h' mi' s' := by
  have h1 := dno_lt o.day o'.day he
  have := o.h0; have := o.h1; have := o.mi0; have := o.mi1; have := o.s0; have := o.s1
  have := o'.h0; have := o'.h1; have := o'.mi0; have := o'.mi1; have := o'.s0; have := o'.s1
  unfold num
  omega
theorem num_lt_time {y m d h mi s h' mi' s' : Int} (ht : (h * 60 + mi) * 60 + s < (h' * 60 + mi') * 60 + s') : num y m d h mi s < num y m d h' mi' s' := by
  unfold num
  omega
abbrev six (y m d h mi s : Int) : List Int := [y, m, d, h, mi, s]
/-- the first number that differs tells -/
theorem num_first {y m d h mi s y' m' d' h' mi' s' : Int} (o : DateOk y m d h mi s) (o' : DateOk y' m' d' h' mi' s') (i : Nat) (u v : Int) (hu : (six y m d h mi s)[i]? = some u) (hv : (six y' m' d' h' mi' s')[i]? = some v)
    (hs : (six y m d h mi s).take i = (six y' m' d' h' mi' s').take i) (hl : u < v) : num y m d h mi s < num y' m' d' h' mi' s' := by
  have := o.h0; have := o.h1; have := o.mi0; have := o.mi1; have := o.s0; have := o.s1
  have := o'.h0; have := o'.h1; have := o'.mi0; have := o'.mi1; have := o'.s0; have := o'.s1
  rcases i with _ | _ | _ | _ | _ | _ | i <;> simp [six] at hu hv hs
  · exact num_lt_day o o' (.inl (by omega))
  · exact num_lt_day o o' (.inr ⟨hs, .inl (by omega)⟩)
  · exact num_lt_day o o' (.inr ⟨hs.1, .inr ⟨hs.2, by omega⟩⟩)
  · obtain ⟨rfl, rfl, rfl⟩ := hs; exact num_lt_time (by omega)
  · obtain ⟨rfl, rfl, rfl, rfl⟩ := hs; exact num_lt_time (by omega)
  · obtain ⟨rfl, rfl, rfl, rfl, rfl⟩ := hs; exact num_lt_time (by omega)
set_option maxRecDepth 100000 in
set_option maxHeartbeats 2000000 in
theorem order_ok (A B ay am ad ah ai as_ by_ bm bd bh bi bs : Int) (w : World) (hG : Glob w) (hF : ∀ (i : Nat) (u v : Int), (six ay am ad ah ai as_)[i]? = some u → (six by_ bm bd bh bi bs)[i]? = some v → (six ay am ad ah ai as_).take i = (six by_ bm bd bh bi bs).take i → u ≠ v → (u < v ↔ A < B) ∧ A ≠ B) (hE : six ay am ad ah ai as_ = six by_ bm bd bh bi bs → A = B)
    (hA : ∀ w : World, Calls Tryd.prog 9 #[date6 ay am ad ah ai as_] w fun e w' => e = .returned (.tuple #[.int .i64 A, .int .i64 0]) ∧ Below w.heap.size w w')
    (hC : ∀ w : World, Calls Tryd.prog 9 #[date6 by_ bm bd bh bi bs] w fun e w' => e = .returned (.tuple #[.int .i64 B, .int .i64 0]) ∧ Below w.heap.size w w') : Calls Tryd.prog 8 #[.agg #[.int .i64 ay, .int .i64 am, .int .i64 ad, .int .i64 ah, .int .i64 ai, .int .i64 as_], .agg #[.int .i64 by_, .int .i64 bm, .int .i64 bd, .int .i64 bh, .int .i64 bi, .int .i64 bs]] w fun e w' => e = .returned (.bool true) ∧ Below w.heap.size w w' := by
  have HF := Lib.hid hF
  have HE := Lib.hid hE
  clear hF hE
  have HA := Lib.hid hA
  have HC := Lib.hid hC
  have HG := Lib.hid hG
  have HX : Hid (((w.alloc (.cells #[.int .i64 ay, .int .i64 am, .int .i64 ad, .int .i64 ah, .int .i64 ai, .int .i64 as_] 23)).alloc (.cells #[.int .i64 by_, .int .i64 bm, .int .i64 bd, .int .i64 bh, .int .i64 bi, .int .i64 bs] 23)).heap[w.heap.size]? = some (.cells #[.int .i64 ay, .int .i64 am, .int .i64 ad, .int .i64 ah, .int .i64 ai, .int .i64 as_] 23 (0, 0))) := Lib.hid (blk_bel (below_alloc (Below.refl _ _) _) (heap_alloc_new _ _))
  have HY : Hid (((w.alloc (.cells #[.int .i64 ay, .int .i64 am, .int .i64 ad, .int .i64 ah, .int .i64 ai, .int .i64 as_] 23)).alloc (.cells #[.int .i64 by_, .int .i64 bm, .int .i64 bd, .int .i64 bh, .int .i64 bi, .int .i64 bs] 23)).heap[w.heap.size + 1]? = some (.cells #[.int .i64 by_, .int .i64 bm, .int .i64 bd, .int .i64 bh, .int .i64 bi, .int .i64 bs] 23 (0, 0))) := Lib.hid (by have h1 := heap_alloc_new (w.alloc (.cells #[.int .i64 ay, .int .i64 am, .int .i64 ad, .int .i64 ah, .int .i64 ai, .int .i64 as_] 23)) (.cells #[.int .i64 by_, .int .i64 bm, .int .i64 bd, .int .i64 bh, .int .i64 bi, .int .i64 bs] 23); rwa [World.size_alloc] at h1)
  have HB : Hid (Below w.heap.size w ((w.alloc (.cells #[.int .i64 ay, .int .i64 am, .int .i64 ad, .int .i64 ah, .int .i64 ai, .int .i64 as_] 23)).alloc (.cells #[.int .i64 by_, .int .i64 bm, .int .i64 bd, .int .i64 bh, .int .i64 bi, .int .i64 bs] 23))) := Lib.hid (below_alloc (below_alloc (Below.refl _ _) _) _)
  clear hA hC hG
  go_enter Tryd.func8, Tryd.ntmps8
  go_upto_region 2 with (first | (go_at_call 10; refine (theirs_q _ _ _ _ _ _ _).mono ?_; rintro e_ w_ ⟨rfl, hb_⟩; replace HB := Lib.hid (below_step HB.out hb_); replace HX := Lib.hid (blk_bel hb_ HX.out); replace HY := Lib.hid (blk_bel hb_ HY.out); clear hb_) | (go_at_call 9; refine (HA.out _).mono ?_; rintro e_ w_ ⟨rfl, hb_⟩; replace HB := Lib.hid (below_step HB.out hb_); replace HX := Lib.hid (blk_bel hb_ HX.out); replace HY := Lib.hid (blk_bel hb_ HY.out); clear hb_))
  have x0 := c_of HY.out 0 (v := .int .i64 by_) rfl
  have x1 := c_of HY.out 1 (v := .int .i64 bm) rfl
  have x2 := c_of HY.out 2 (v := .int .i64 bd) rfl
  have x3 := c_of HY.out 3 (v := .int .i64 bh) rfl
  have x4 := c_of HY.out 4 (v := .int .i64 bi) rfl
  have x5 := c_of HY.out 5 (v := .int .i64 bs) rfl
  go_upto_region 5 with (first | (go_at_call 10; refine (theirs_q _ _ _ _ _ _ _).mono ?_; rintro e_ w_ ⟨rfl, hb_⟩; replace HB := Lib.hid (below_step HB.out hb_); replace HX := Lib.hid (blk_bel hb_ HX.out); replace HY := Lib.hid (blk_bel hb_ HY.out); clear hb_) | (go_at_call 9; refine (HC.out _).mono ?_; rintro e_ w_ ⟨rfl, hb_⟩; replace HB := Lib.hid (below_step HB.out hb_); replace HX := Lib.hid (blk_bel hb_ HX.out); replace HY := Lib.hid (blk_bel hb_ HY.out); clear hb_))
  clear x0 x1 x2 x3 x4 x5 HA HC
  have x0 := c_of HX.out 0 (v := .int .i64 ay) rfl
  have x1 := c_of HX.out 1 (v := .int .i64 am) rfl
  have x2 := c_of HX.out 2 (v := .int .i64 ad) rfl
  have x3 := c_of HX.out 3 (v := .int .i64 ah) rfl
  have x4 := c_of HX.out 4 (v := .int .i64 ai) rfl
  have x5 := c_of HX.out 5 (v := .int .i64 as_) rfl
  go_upto_region 6 with fail
  obtain ⟨W1, hW1⟩ : ∃ W, W = w_.alloc (.cells #[.int .i64 ay, .int .i64 am, .int .i64 ad, .int .i64 ah, .int .i64 ai, .int .i64 as_] 3) := ⟨_, rfl⟩
  obtain ⟨g1, hg1⟩ : ∃ g, g = w_.heap.size := ⟨_, rfl⟩
  rw [← hW1, ← hg1]
  replace HX : Hid (W1.heap[g1]? = some (.cells #[.int .i64 ay, .int .i64 am, .int .i64 ad, .int .i64 ah, .int .i64 ai, .int .i64 as_] 3 (0, 0))) := Lib.hid (by rw [hW1, hg1]; exact heap_alloc_new _ _)
  replace HY : Hid (W1.heap[w.heap.size + 1]? = some (.cells #[.int .i64 by_, .int .i64 bm, .int .i64 bd, .int .i64 bh, .int .i64 bi, .int .i64 bs] 23 (0, 0))) := Lib.hid (by rw [hW1]; exact blk_bel (below_alloc (Below.refl _ _) _) HY.out)
  replace HB : Hid (Below w.heap.size w W1) := Lib.hid (by rw [hW1]; exact below_alloc HB.out _)
  clear hW1 hg1 x0 x1 x2 x3 x4 x5
  have y0 := c_of HY.out 0 (v := .int .i64 by_) rfl
  have y1 := c_of HY.out 1 (v := .int .i64 bm) rfl
  have y2 := c_of HY.out 2 (v := .int .i64 bd) rfl
  have y3 := c_of HY.out 3 (v := .int .i64 bh) rfl
  have y4 := c_of HY.out 4 (v := .int .i64 bi) rfl
  have y5 := c_of HY.out 5 (v := .int .i64 bs) rfl
  go_upto_region 7 with fail
  obtain ⟨W2, hW2⟩ : ∃ W, W = W1.alloc (.cells #[.int .i64 by_, .int .i64 bm, .int .i64 bd, .int .i64 bh, .int .i64 bi, .int .i64 bs] 3) := ⟨_, rfl⟩
  obtain ⟨g2, hg2⟩ : ∃ g, g = W1.heap.size := ⟨_, rfl⟩
  rw [← hW2, ← hg2]
  replace HY : Hid (W2.heap[g2]? = some (.cells #[.int .i64 by_, .int .i64 bm, .int .i64 bd, .int .i64 bh, .int .i64 bi, .int .i64 bs] 3 (0, 0))) := Lib.hid (by rw [hW2, hg2]; exact heap_alloc_new _ _)
  replace HX : Hid (W2.heap[g1]? = some (.cells #[.int .i64 ay, .int .i64 am, .int .i64 ad, .int .i64 ah, .int .i64 ai, .int .i64 as_] 3 (0, 0))) := Lib.hid (by rw [hW2]; exact blk_bel (below_alloc (Below.refl _ _) _) HX.out)
  replace HB : Hid (Below w.heap.size w W2) := Lib.hid (by rw [hW2]; exact below_alloc HB.out _)
  clear hW2 hg2 y0 y1 y2 y3 y4 y5
  obtain ⟨X, hX⟩ : ∃ X, X = six ay am ad ah ai as_ := ⟨_, rfl⟩
  obtain ⟨Y, hY⟩ : ∃ X, X = six by_ bm bd bh bi bs := ⟨_, rfl⟩
  have HX2 : Hid (W2.heap[g1]? = some (.cells (X.map (Value.int .i64)).toArray 3 (0, 0))) := Lib.hid (by rw [hX]; exact HX.out)
  have HY2 : Hid (W2.heap[g2]? = some (.cells (Y.map (Value.int .i64)).toArray 3 (0, 0))) := Lib.hid (by rw [hY]; exact HY.out)
  rw [← hX, ← hY] at HF HE
  have hXl : Hid (X.length = 6) := Lib.hid (by rw [hX]; rfl)
  have hYl : Hid (Y.length = 6) := Lib.hid (by rw [hY]; rfl)
  clear HX HY hX hY
  go_wp2
  go_loopg [59] 7 (fun k v59 W => ∃ i : Nat, v59 = .int .i64 (i : Int) ∧ i ≤ 6 ∧ 7 ≤ k + i ∧ Hid (X.take i = Y.take i) ∧ Hid (W.heap[g1]? = some (.cells (X.map (Value.int .i64)).toArray 3 (0, 0))) ∧ Hid (W.heap[g2]? = some (.cells (Y.map (Value.int .i64)).toArray 3 (0, 0))) ∧ Hid (Below w.heap.size w W))
  case atStart => exact ⟨0, rfl, by omega, by omega, Lib.hid rfl, HX2, HY2, HB⟩
  case round =>
    clear HX2 HY2 HB
    obtain ⟨i, rfl, hi, hk, HT, HX, HY, HB⟩ := hrel
    rename World => Wo
    by_cases hlt : i < 6
    · obtain ⟨ko, rfl⟩ : ∃ ko, gk = ko + 1 := ⟨gk - 1, by omega⟩
      have hk2 : 7 ≤ ko + (i + 1) := by omega
      have hi1 : i + 1 ≤ 6 := hlt
      have t0 : decide ((i : Int) < 6) = true := decide_eq_true (by omega)
      have t1 : 0 ≤ (i : Int) := by omega
      have t2 : (i : Int) < 6 := by omega
      have HWX := Lib.hid (show wrap64 ((i : Int) + 1) = (i : Int) + 1 by unfold wrap64; omega)
      obtain ⟨u, hu⟩ : ∃ u, X[i]? = some u := ⟨_, List.getElem?_eq_getElem (by rw [hXl.out]; exact hlt)⟩
      obtain ⟨v, hv⟩ : ∃ v, Y[i]? = some v := ⟨_, List.getElem?_eq_getElem (by rw [hYl.out]; exact hlt)⟩
      have HU := Lib.hid hu
      have HV := Lib.hid hv
      have HCU : Hid ((X.map (Value.int .i64)).toArray[i]? = some (.int .i64 u)) := Lib.hid (by simp [hu])
      have HCV : Hid ((Y.map (Value.int .i64)).toArray[i]? = some (.int .i64 v)) := Lib.hid (by simp [hv])
      clear hu hv hlt
      go_upto_region 10 with fail
      refine start_ (n := 9) (S := fun w' => w'.cell? ⟨g1, i, none⟩ = some (.int .i64 u) ∧ w'.cell? ⟨g2, i, none⟩ = some (.int .i64 v)) (ds := []) #[false, false, false, false, false, false, false, false, false] (by kernel_rfl) rfl rfl ⟨c_of (blk_bel (below_drew (Below.refl _ Wo)) HX.out) i HCU.out, c_of (blk_bel (below_drew (Below.refl _ Wo)) HY.out) i HCV.out⟩ (fun hHeld => ?_)
      refine pure_ (i := 0) (N := some 62) (v := ?_) (a' := ?_) #[true, false, false, false, false, false, false, false, false] rfl rfl (by kernel_rfl) (fun _ _ _ h => h) (Or.inl ⟨by rfl, ?_⟩) ?_ ?_
      rotate_left
      · intro w'
        go_simp
        with_reducible rfl
      rotate_left
      · simp only [Act.put, List.setIfInBounds_toArray, List.set_cons_zero, List.set_cons_succ, i64_w, i32_w]
        rfl
      refine pure_ (i := 1) (N := some 63) (v := ?_) (a' := ?_) #[true, true, false, false, false, false, false, false, false] rfl rfl (by kernel_rfl) (fun _ _ _ h => h) (Or.inl ⟨by rfl, ?_⟩) ?_ ?_
      rotate_left
      · intro w'
        go_simp
        with_reducible rfl
      rotate_left
      · simp only [Act.put, List.setIfInBounds_toArray, List.set_cons_zero, List.set_cons_succ, i64_w, i32_w]
        rfl
      refine pure_ (i := 2) (N := some 64) (v := ?_) (a' := ?_) #[true, true, true, false, false, false, false, false, false] rfl rfl (by kernel_rfl) (fun _ _ _ h => h) (Or.inl ⟨by rfl, ?_⟩) ?_ ?_
      rotate_left
      · intro w'
        go_simp
        with_reducible rfl
      rotate_left
      · simp only [Act.put, List.setIfInBounds_toArray, List.set_cons_zero, List.set_cons_succ, i64_w, i32_w]
        rfl
      refine pure_ (i := 4) (N := some 66) (v := ?_) (a' := ?_) #[true, true, true, false, true, false, false, false, false] rfl rfl (by kernel_rfl) (fun _ _ _ h => h) (Or.inl ⟨by rfl, ?_⟩) ?_ ?_
      rotate_left
      · intro w'
        go_simp
        with_reducible rfl
      rotate_left
      · simp only [Act.put, List.setIfInBounds_toArray, List.set_cons_zero, List.set_cons_succ, i64_w, i32_w]
        rfl
      refine pure_ (i := 5) (N := some 67) (v := ?_) (a' := ?_) #[true, true, true, false, true, true, false, false, false] rfl rfl (by kernel_rfl) (fun _ _ _ h => h) (Or.inl ⟨by rfl, ?_⟩) ?_ ?_
      rotate_left
      · intro w'
        go_simp
        with_reducible rfl
      rotate_left
      · simp only [Act.put, List.setIfInBounds_toArray, List.set_cons_zero, List.set_cons_succ, i64_w, i32_w]
        rfl
      refine pure_ (i := 6) (N := some 68) (v := ?_) (a' := ?_) #[true, true, true, false, true, true, true, false, false] rfl rfl (by kernel_rfl) (fun _ _ _ h => h) (Or.inl ⟨by rfl, ?_⟩) ?_ ?_
      rotate_left
      · intro w'
        go_simp
        with_reducible rfl
      rotate_left
      · simp only [Act.put, List.setIfInBounds_toArray, List.set_cons_zero, List.set_cons_succ, i64_w, i32_w]
        rfl
      refine take_ (i := 3) (N := some 65) (v := ?_) (a' := ?_) #[true, true, true, true, true, true, true, false, false] rfl rfl (by kernel_rfl) (fun _ _ _ h => h) (Or.inl ⟨by rfl, ?_⟩) hHeld ?_ ?_
      rotate_left
      · rintro w' ⟨s0, s1⟩
        go_simp
        with_reducible rfl
      rotate_left
      · simp only [Act.put, List.setIfInBounds_toArray, List.set_cons_zero, List.set_cons_succ, i64_w, i32_w]
        rfl
      refine take_ (i := 7) (N := some 69) (v := ?_) (a' := ?_) #[true, true, true, true, true, true, true, true, false] rfl rfl (by kernel_rfl) (fun _ _ _ h => h) (Or.inl ⟨by rfl, ?_⟩) hHeld ?_ ?_
      rotate_left
      · rintro w' ⟨s0, s1⟩
        go_simp
        with_reducible rfl
      rotate_left
      · simp only [Act.put, List.setIfInBounds_toArray, List.set_cons_zero, List.set_cons_succ, i64_w, i32_w]
        rfl
      refine pure_ (i := 8) (N := some 70) (v := ?_) (a' := ?_) #[true, true, true, true, true, true, true, true, true] rfl rfl (by kernel_rfl) (fun _ _ _ h => h) (Or.inl ⟨by rfl, ?_⟩) ?_ ?_
      rotate_left
      · intro w'
        go_simp
        with_reducible rfl
      rotate_left
      · simp only [Act.put, List.setIfInBounds_toArray, List.set_cons_zero, List.set_cons_succ, i64_w, i32_w]
        rfl
      refine done_ (by kernel_rfl) ?_
      clear hHeld
      by_cases huv : u = v
      · subst huv
        go_wp2
        go_roundg ko
        case measure => omega
        case rel => exact ⟨i + 1, by first | exact congrArg (Value.int .i64) HWX.out | go_num, hi1, hk2, Lib.hid (by rw [List.take_add_one, List.take_add_one, HT.out, HU.out, HV.out]), Lib.hid (blk_bel (below_drew (Below.refl _ _)) HX.out), Lib.hid (blk_bel (below_drew (Below.refl _ _)) HY.out), Lib.hid (below_step HB.out (below_drew (Below.refl _ _)))⟩
      · have hf := HF.out i u v HU.out HV.out HT.out huv
        have n1 : (u != v) = true := bne_iff_ne.2 huv
        have n2 : (A != B) = true := bne_iff_ne.2 hf.2
        have n3 : (decide (u < v) == decide (A < B)) = true := by rw [beq_iff_eq, decide_eq_decide]; exact hf.1
        clear hf huv
        go_upto_region 11 with fail
        obtain ⟨Wp, hWp⟩ : ∃ W, W = Wo.drew := ⟨_, rfl⟩
        rw [← hWp]
        replace HX : Hid (Wp.heap[g1]? = some (.cells (X.map (Value.int .i64)).toArray 3 (0, 0))) := Lib.hid (by rw [hWp]; exact blk_bel (below_drew (Below.refl _ _)) HX.out)
        replace HY : Hid (Wp.heap[g2]? = some (.cells (Y.map (Value.int .i64)).toArray 3 (0, 0))) := Lib.hid (by rw [hWp]; exact blk_bel (below_drew (Below.refl _ _)) HY.out)
        replace HB : Hid (Below w.heap.size w Wp) := Lib.hid (by rw [hWp]; exact below_step HB.out (below_drew (Below.refl _ _)))
        have HGp := Lib.hid (HG.out.below HB.out)
        clear hWp
        refine start_ (n := 22) (S := fun w' => w'.cell? ⟨g1, i, none⟩ = some (.int .i64 u) ∧ w'.cell? ⟨g2, i, none⟩ = some (.int .i64 v)) (ds := []) #[false, false, false, false, false, false, false, false, false, false, false, false, false, false, false, false, false, false, false, false, false, false] (by kernel_rfl) rfl rfl ⟨c_of (blk_bel (below_drew (Below.refl _ Wp)) HX.out) i HCU.out, c_of (blk_bel (below_drew (Below.refl _ Wp)) HY.out) i HCV.out⟩ (fun hHeld => ?_)
        refine pure_ (i := 0) (N := some 71) (v := ?_) (a' := ?_) #[true, false, false, false, false, false, false, false, false, false, false, false, false, false, false, false, false, false, false, false, false, false] rfl rfl (by kernel_rfl) (fun _ _ _ h => h) (Or.inl ⟨by rfl, ?_⟩) ?_ ?_
        rotate_left
        · intro w'
          go_simp
          with_reducible rfl
        rotate_left
        · simp only [Act.put, List.setIfInBounds_toArray, List.set_cons_zero, List.set_cons_succ, i64_w, i32_w]
          rfl
        refine pure_ (i := 1) (N := some 72) (v := ?_) (a' := ?_) #[true, true, false, false, false, false, false, false, false, false, false, false, false, false, false, false, false, false, false, false, false, false] rfl rfl (by kernel_rfl) (fun _ _ _ h => h) (Or.inl ⟨by rfl, ?_⟩) ?_ ?_
        rotate_left
        · intro w'
          go_simp
          with_reducible rfl
        rotate_left
        · simp only [Act.put, List.setIfInBounds_toArray, List.set_cons_zero, List.set_cons_succ, i64_w, i32_w]
          rfl
        refine pure_ (i := 2) (N := some 73) (v := ?_) (a' := ?_) #[true, true, true, false, false, false, false, false, false, false, false, false, false, false, false, false, false, false, false, false, false, false] rfl rfl (by kernel_rfl) (fun _ _ _ h => h) (Or.inl ⟨by rfl, ?_⟩) ?_ ?_
        rotate_left
        · intro w'
          go_simp
          with_reducible rfl
        rotate_left
        · simp only [Act.put, List.setIfInBounds_toArray, List.set_cons_zero, List.set_cons_succ, i64_w, i32_w]
          rfl
        refine pure_ (i := 4) (N := some 75) (v := ?_) (a' := ?_) #[true, true, true, false, true, false, false, false, false, false, false, false, false, false, false, false, false, false, false, false, false, false] rfl rfl (by kernel_rfl) (fun _ _ _ h => h) (Or.inl ⟨by rfl, ?_⟩) ?_ ?_
        rotate_left
        · intro w'
          go_simp
          with_reducible rfl
        rotate_left
        · simp only [Act.put, List.setIfInBounds_toArray, List.set_cons_zero, List.set_cons_succ, i64_w, i32_w]
          rfl
        refine pure_ (i := 5) (N := some 76) (v := ?_) (a' := ?_) #[true, true, true, false, true, true, false, false, false, false, false, false, false, false, false, false, false, false, false, false, false, false] rfl rfl (by kernel_rfl) (fun _ _ _ h => h) (Or.inl ⟨by rfl, ?_⟩) ?_ ?_
        rotate_left
        · intro w'
          go_simp
          with_reducible rfl
        rotate_left
        · simp only [Act.put, List.setIfInBounds_toArray, List.set_cons_zero, List.set_cons_succ, i64_w, i32_w]
          rfl
        refine pure_ (i := 6) (N := some 77) (v := ?_) (a' := ?_) #[true, true, true, false, true, true, true, false, false, false, false, false, false, false, false, false, false, false, false, false, false, false] rfl rfl (by kernel_rfl) (fun _ _ _ h => h) (Or.inl ⟨by rfl, ?_⟩) ?_ ?_
        rotate_left
        · intro w'
          go_simp
          with_reducible rfl
        rotate_left
        · simp only [Act.put, List.setIfInBounds_toArray, List.set_cons_zero, List.set_cons_succ, i64_w, i32_w]
          rfl
        refine pure_ (i := 9) (N := some 80) (v := ?_) (a' := ?_) #[true, true, true, false, true, true, true, false, false, true, false, false, false, false, false, false, false, false, false, false, false, false] rfl rfl (by kernel_rfl) (fun _ _ _ h => h) (Or.inl ⟨by rfl, ?_⟩) ?_ ?_
        rotate_left
        · intro w'
          go_simp
          with_reducible rfl
        rotate_left
        · simp only [Act.put, List.setIfInBounds_toArray, List.set_cons_zero, List.set_cons_succ, i64_w, i32_w]
          rfl
        refine pure_ (i := 10) (N := some 81) (v := ?_) (a' := ?_) #[true, true, true, false, true, true, true, false, false, true, true, false, false, false, false, false, false, false, false, false, false, false] rfl rfl (by kernel_rfl) (fun _ _ _ h => h) (Or.inl ⟨by rfl, ?_⟩) ?_ ?_
        rotate_left
        · intro w'
          go_simp
          with_reducible rfl
        rotate_left
        · simp only [Act.put, List.setIfInBounds_toArray, List.set_cons_zero, List.set_cons_succ, i64_w, i32_w]
          rfl
        refine pure_ (i := 11) (N := some 82) (v := ?_) (a' := ?_) #[true, true, true, false, true, true, true, false, false, true, true, true, false, false, false, false, false, false, false, false, false, false] rfl rfl (by kernel_rfl) (fun _ _ _ h => h) (Or.inl ⟨by rfl, ?_⟩) ?_ ?_
        rotate_left
        · intro w'
          go_simp
          with_reducible rfl
        rotate_left
        · simp only [Act.put, List.setIfInBounds_toArray, List.set_cons_zero, List.set_cons_succ, i64_w, i32_w]
          rfl
        refine take_ (i := 3) (N := some 74) (v := ?_) (a' := ?_) #[true, true, true, true, true, true, true, false, false, true, true, true, false, false, false, false, false, false, false, false, false, false] rfl rfl (by kernel_rfl) (fun _ _ _ h => h) (Or.inl ⟨by rfl, ?_⟩) hHeld ?_ ?_
        rotate_left
        · rintro w' ⟨s0, s1⟩
          go_simp
          with_reducible rfl
        rotate_left
        · simp only [Act.put, List.setIfInBounds_toArray, List.set_cons_zero, List.set_cons_succ, i64_w, i32_w]
          rfl
        refine take_ (i := 7) (N := some 78) (v := ?_) (a' := ?_) #[true, true, true, true, true, true, true, true, false, true, true, true, false, false, false, false, false, false, false, false, false, false] rfl rfl (by kernel_rfl) (fun _ _ _ h => h) (Or.inl ⟨by rfl, ?_⟩) hHeld ?_ ?_
        rotate_left
        · rintro w' ⟨s0, s1⟩
          go_simp
          with_reducible rfl
        rotate_left
        · simp only [Act.put, List.setIfInBounds_toArray, List.set_cons_zero, List.set_cons_succ, i64_w, i32_w]
          rfl
        refine pure_ (i := 8) (N := some 79) (v := ?_) (a' := ?_) #[true, true, true, true, true, true, true, true, true, true, true, true, false, false, false, false, false, false, false, false, false, false] rfl rfl (by kernel_rfl) (fun _ _ _ h => h) (Or.inl ⟨by rfl, ?_⟩) ?_ ?_
        rotate_left
        · intro w'
          go_simp
          with_reducible rfl
        rotate_left
        · simp only [Act.put, List.setIfInBounds_toArray, List.set_cons_zero, List.set_cons_succ, i64_w, i32_w]
          rfl
        refine pure_ (i := 12) (N := some 83) (v := ?_) (a' := ?_) #[true, true, true, true, true, true, true, true, true, true, true, true, true, false, false, false, false, false, false, false, false, false] rfl rfl (by kernel_rfl) (fun _ _ _ h => h) (Or.inl ⟨by rfl, ?_⟩) ?_ ?_
        rotate_left
        · intro w'
          go_simp
          with_reducible rfl
        rotate_left
        · simp only [Act.put, List.setIfInBounds_toArray, List.set_cons_zero, List.set_cons_succ, i64_w, i32_w]
          rfl
        refine pure_ (i := 13) (N := some 84) (v := ?_) (a' := ?_) #[true, true, true, true, true, true, true, true, true, true, true, true, true, true, false, false, false, false, false, false, false, false] rfl rfl (by kernel_rfl) (fun _ _ _ h => h) (Or.inl ⟨by rfl, ?_⟩) ?_ ?_
        rotate_left
        · intro w'
          go_simp
          with_reducible rfl
        rotate_left
        · simp only [Act.put, List.setIfInBounds_toArray, List.set_cons_zero, List.set_cons_succ, i64_w, i32_w]
          rfl
        refine pure_ (i := 14) (N := some 85) (v := ?_) (a' := ?_) #[true, true, true, true, true, true, true, true, true, true, true, true, true, true, true, false, false, false, false, false, false, false] rfl rfl (by kernel_rfl) (fun _ _ _ h => h) (Or.inl ⟨by rfl, ?_⟩) ?_ ?_
        rotate_left
        · intro w'
          go_simp
          with_reducible rfl
        rotate_left
        · simp only [Act.put, List.setIfInBounds_toArray, List.set_cons_zero, List.set_cons_succ, i64_w, i32_w]
          rfl
        refine pure_ (i := 15) (N := some 86) (v := ?_) (a' := ?_) #[true, true, true, true, true, true, true, true, true, true, true, true, true, true, true, true, false, false, false, false, false, false] rfl rfl (by kernel_rfl) (fun _ _ _ h => h) (Or.inl ⟨by rfl, ?_⟩) ?_ ?_
        rotate_left
        · intro w'
          go_simp
          with_reducible rfl
        rotate_left
        · simp only [Act.put, List.setIfInBounds_toArray, List.set_cons_zero, List.set_cons_succ, i64_w, i32_w]
          rfl
        refine pure_ (i := 16) (N := some 87) (v := ?_) (a' := ?_) #[true, true, true, true, true, true, true, true, true, true, true, true, true, true, true, true, true, false, false, false, false, false] rfl rfl (by kernel_rfl) (fun _ _ _ h => h) (Or.inl ⟨by rfl, ?_⟩) ?_ ?_
        rotate_left
        · intro w'
          go_simp
          with_reducible rfl
        rotate_left
        · simp only [Act.put, List.setIfInBounds_toArray, List.set_cons_zero, List.set_cons_succ, i64_w, i32_w]
          rfl
        refine pure_ (i := 17) (N := some 88) (v := ?_) (a' := ?_) #[true, true, true, true, true, true, true, true, true, true, true, true, true, true, true, true, true, true, false, false, false, false] rfl rfl (by kernel_rfl) (fun _ _ _ h => h) (Or.inl ⟨by rfl, ?_⟩) ?_ ?_
        rotate_left
        · intro w'
          go_simp
          with_reducible rfl
        rotate_left
        · simp only [Act.put, List.setIfInBounds_toArray, List.set_cons_zero, List.set_cons_succ, i64_w, i32_w]
          rfl
        refine pure_ (i := 18) (N := some 89) (v := ?_) (a' := ?_) #[true, true, true, true, true, true, true, true, true, true, true, true, true, true, true, true, true, true, true, false, false, false] rfl rfl (by kernel_rfl) (fun _ _ _ h => h) (Or.inl ⟨by rfl, ?_⟩) ?_ ?_
        rotate_left
        · intro w'
          go_simp
          with_reducible rfl
        rotate_left
        · simp only [Act.put, List.setIfInBounds_toArray, List.set_cons_zero, List.set_cons_succ, i64_w, i32_w]
          rfl
        refine one_ (i := 19) (N := some 90) #[true, true, true, true, true, true, true, true, true, true, true, true, true, true, true, true, true, true, true, true, false, false] rfl rfl (by kernel_rfl) (by decide) (fun K hK => ?_)
        refine goes_ Tryd.func17 (by kernel_rfl) rfl #[] (by rfl) rfl rfl (by simp only [List.map_toArray, List.map_cons, List.map_nil]) ?_
        with_reducible refine (alive_q _ (HGp.out.below (below_drew (Below.refl _ Wp)))).mono ?_
        rintro e v4 ⟨rfl, hd4⟩
        refine ⟨_, rfl, ?_⟩
        have HF4 := Lib.hid (below_step (below_drew (Below.refl _ Wp)) hd4)
        clear hd4
        refine hK.out _ _ ⟨c_of (blk_bel HF4.out HX.out) i HCU.out, c_of (blk_bel HF4.out HY.out) i HCV.out⟩ (fun hHeld => ?_)
        clear hK K
        refine norm_ (a' := ?_) ?_ ?_
        rotate_left
        · show Act.put _ (some 90) _ = _
          simp only [Act.put, List.setIfInBounds_toArray, List.set_cons_zero, List.set_cons_succ, i64_w, i32_w]
          rfl
        refine pure_ (i := 20) (N := some 91) (v := ?_) (a' := ?_) #[true, true, true, true, true, true, true, true, true, true, true, true, true, true, true, true, true, true, true, true, true, false] rfl rfl (by kernel_rfl) (fun _ _ _ h => h) (Or.inl ⟨by rfl, ?_⟩) ?_ ?_
        rotate_left
        · intro w'
          go_simp
          with_reducible rfl
        rotate_left
        · simp only [Act.put, List.setIfInBounds_toArray, List.set_cons_zero, List.set_cons_succ, i64_w, i32_w]
          rfl
        refine pure_ (i := 21) (N := some 4) (v := ?_) (a' := ?_) #[true, true, true, true, true, true, true, true, true, true, true, true, true, true, true, true, true, true, true, true, true, true] rfl rfl (by kernel_rfl) (fun _ _ _ h => h) (Or.inl ⟨by rfl, ?_⟩) ?_ ?_
        rotate_left
        · intro w'
          go_simp
          with_reducible rfl
        rotate_left
        · simp only [Act.put, List.setIfInBounds_toArray, List.set_cons_zero, List.set_cons_succ, i64_w, i32_w]
          rfl
        refine done_ (by kernel_rfl) ?_
        clear hHeld
        go_wp2
        go_ret
        exact ⟨rfl, below_step HB.out HF4.out⟩
    · obtain rfl : i = 6 := by omega
      have hAB : A = B := HE.out (by have := HT.out; rwa [List.take_of_length_le (by rw [hXl.out]; exact Nat.le_refl _), List.take_of_length_le (by rw [hYl.out]; exact Nat.le_refl _)] at this)
      subst hAB
      clear hk hi
      go_wp2_with (go_at_call 17; refine (alive_q _ (HG.out.below HB.out)).mono ?_; rintro e_ w_ ⟨rfl, hb_⟩; replace HB := Lib.hid (below_step HB.out hb_); clear hb_)
      go_ret
      exact ⟨rfl, HB.out⟩

set_option maxRecDepth 100000 in
set_option maxHeartbeats 1000000 in
theorem order_bad1 (A B F ay am ad ah ai as_ by_ bm bd bh bi bs : Int) (w : World) (hG : Glob w) (hA : ∀ w : World, Calls Tryd.prog 9 #[date6 ay am ad ah ai as_] w fun e w' => e = .returned (.tuple #[.int .i64 A, .int .i64 1]) ∧ Below w.heap.size w w') (hC : ∀ w : World, Calls Tryd.prog 9 #[date6 by_ bm bd bh bi bs] w fun e w' => e = .returned (.tuple #[.int .i64 B, .int .i64 F]) ∧ Below w.heap.size w w') : Calls Tryd.prog 8 #[.agg #[.int .i64 ay, .int .i64 am, .int .i64 ad, .int .i64 ah, .int .i64 ai, .int .i64 as_], .agg #[.int .i64 by_, .int .i64 bm, .int .i64 bd, .int .i64 bh, .int .i64 bi, .int .i64 bs]] w fun e w' => e = .returned (.bool true) ∧ Below w.heap.size w w' := by
  have HA := Lib.hid hA
  have HC := Lib.hid hC
  have HG := Lib.hid hG
  have HX : Hid (((w.alloc (.cells #[.int .i64 ay, .int .i64 am, .int .i64 ad, .int .i64 ah, .int .i64 ai, .int .i64 as_] 23)).alloc (.cells #[.int .i64 by_, .int .i64 bm, .int .i64 bd, .int .i64 bh, .int .i64 bi, .int .i64 bs] 23)).heap[w.heap.size]? = some (.cells #[.int .i64 ay, .int .i64 am, .int .i64 ad, .int .i64 ah, .int .i64 ai, .int .i64 as_] 23 (0, 0))) := Lib.hid (blk_bel (below_alloc (Below.refl _ _) _) (heap_alloc_new _ _))
  have HY : Hid (((w.alloc (.cells #[.int .i64 ay, .int .i64 am, .int .i64 ad, .int .i64 ah, .int .i64 ai, .int .i64 as_] 23)).alloc (.cells #[.int .i64 by_, .int .i64 bm, .int .i64 bd, .int .i64 bh, .int .i64 bi, .int .i64 bs] 23)).heap[w.heap.size + 1]? = some (.cells #[.int .i64 by_, .int .i64 bm, .int .i64 bd, .int .i64 bh, .int .i64 bi, .int .i64 bs] 23 (0, 0))) := Lib.hid (by have h1 := heap_alloc_new (w.alloc (.cells #[.int .i64 ay, .int .i64 am, .int .i64 ad, .int .i64 ah, .int .i64 ai, .int .i64 as_] 23)) (.cells #[.int .i64 by_, .int .i64 bm, .int .i64 bd, .int .i64 bh, .int .i64 bi, .int .i64 bs] 23); rwa [World.size_alloc] at h1)
  have HB : Hid (Below w.heap.size w ((w.alloc (.cells #[.int .i64 ay, .int .i64 am, .int .i64 ad, .int .i64 ah, .int .i64 ai, .int .i64 as_] 23)).alloc (.cells #[.int .i64 by_, .int .i64 bm, .int .i64 bd, .int .i64 bh, .int .i64 bi, .int .i64 bs] 23))) := Lib.hid (below_alloc (below_alloc (Below.refl _ _) _) _)
  clear hA hC hG
  go_enter Tryd.func8, Tryd.ntmps8
  go_upto_region 2 with (first | (go_at_call 10; refine (theirs_q _ _ _ _ _ _ _).mono ?_; rintro e_ w_ ⟨rfl, hb_⟩; replace HB := Lib.hid (below_step HB.out hb_); replace HX := Lib.hid (blk_bel hb_ HX.out); replace HY := Lib.hid (blk_bel hb_ HY.out); clear hb_) | (go_at_call 9; refine (HA.out _).mono ?_; rintro e_ w_ ⟨rfl, hb_⟩; replace HB := Lib.hid (below_step HB.out hb_); replace HX := Lib.hid (blk_bel hb_ HX.out); replace HY := Lib.hid (blk_bel hb_ HY.out); clear hb_))
  have x0 := c_of HY.out 0 (v := .int .i64 by_) rfl
  have x1 := c_of HY.out 1 (v := .int .i64 bm) rfl
  have x2 := c_of HY.out 2 (v := .int .i64 bd) rfl
  have x3 := c_of HY.out 3 (v := .int .i64 bh) rfl
  have x4 := c_of HY.out 4 (v := .int .i64 bi) rfl
  have x5 := c_of HY.out 5 (v := .int .i64 bs) rfl
  go_wp2_with (first | (go_at_call 10; refine (theirs_q _ _ _ _ _ _ _).mono ?_; rintro e_ w_ ⟨rfl, hb_⟩; replace HB := Lib.hid (below_step HB.out hb_); replace HX := Lib.hid (blk_bel hb_ HX.out); replace HY := Lib.hid (blk_bel hb_ HY.out); clear hb_) | (go_at_call 9; refine (HC.out _).mono ?_; rintro e_ w_ ⟨rfl, hb_⟩; replace HB := Lib.hid (below_step HB.out hb_); replace HX := Lib.hid (blk_bel hb_ HX.out); replace HY := Lib.hid (blk_bel hb_ HY.out); clear hb_) | (go_at_call 17; refine (alive_q _ (HG.out.below HB.out)).mono ?_; rintro e_ w_ ⟨rfl, hb_⟩; replace HB := Lib.hid (below_step HB.out hb_); clear hb_))
  go_ret
  exact ⟨rfl, HB.out⟩
set_option maxRecDepth 100000 in
set_option maxHeartbeats 1000000 in
theorem order_bad2 (A B F ay am ad ah ai as_ by_ bm bd bh bi bs : Int) (w : World) (hG : Glob w) (hA : ∀ w : World, Calls Tryd.prog 9 #[date6 ay am ad ah ai as_] w fun e w' => e = .returned (.tuple #[.int .i64 A, .int .i64 0]) ∧ Below w.heap.size w w') (hC : ∀ w : World, Calls Tryd.prog 9 #[date6 by_ bm bd bh bi bs] w fun e w' => e = .returned (.tuple #[.int .i64 B, .int .i64 1]) ∧ Below w.heap.size w w') : Calls Tryd.prog 8 #[.agg #[.int .i64 ay, .int .i64 am, .int .i64 ad, .int .i64 ah, .int .i64 ai, .int .i64 as_], .agg #[.int .i64 by_, .int .i64 bm, .int .i64 bd, .int .i64 bh, .int .i64 bi, .int .i64 bs]] w fun e w' => e = .returned (.bool true) ∧ Below w.heap.size w w' := by
  have HA := Lib.hid hA
  have HC := Lib.hid hC
  have HG := Lib.hid hG
  have HX : Hid (((w.alloc (.cells #[.int .i64 ay, .int .i64 am, .int .i64 ad, .int .i64 ah, .int .i64 ai, .int .i64 as_] 23)).alloc (.cells #[.int .i64 by_, .int .i64 bm, .int .i64 bd, .int .i64 bh, .int .i64 bi, .int .i64 bs] 23)).heap[w.heap.size]? = some (.cells #[.int .i64 ay, .int .i64 am, .int .i64 ad, .int .i64 ah, .int .i64 ai, .int .i64 as_] 23 (0, 0))) := Lib.hid (blk_bel (below_alloc (Below.refl _ _) _) (heap_alloc_new _ _))
  have HY : Hid (((w.alloc (.cells #[.int .i64 ay, .int .i64 am, .int .i64 ad, .int .i64 ah, .int .i64 ai, .int .i64 as_] 23)).alloc (.cells #[.int .i64 by_, .int .i64 bm, .int .i64 bd, .int .i64 bh, .int .i64 bi, .int .i64 bs] 23)).heap[w.heap.size + 1]? = some (.cells #[.int .i64 by_, .int .i64 bm, .int .i64 bd, .int .i64 bh, .int .i64 bi, .int .i64 bs] 23 (0, 0))) := Lib.hid (by have h1 := heap_alloc_new (w.alloc (.cells #[.int .i64 ay, .int .i64 am, .int .i64 ad, .int .i64 ah, .int .i64 ai, .int .i64 as_] 23)) (.cells #[.int .i64 by_, .int .i64 bm, .int .i64 bd, .int .i64 bh, .int .i64 bi, .int .i64 bs] 23); rwa [World.size_alloc] at h1)
  have HB : Hid (Below w.heap.size w ((w.alloc (.cells #[.int .i64 ay, .int .i64 am, .int .i64 ad, .int .i64 ah, .int .i64 ai, .int .i64 as_] 23)).alloc (.cells #[.int .i64 by_, .int .i64 bm, .int .i64 bd, .int .i64 bh, .int .i64 bi, .int .i64 bs] 23))) := Lib.hid (below_alloc (below_alloc (Below.refl _ _) _) _)
  clear hA hC hG
  go_enter Tryd.func8, Tryd.ntmps8
  go_upto_region 2 with (first | (go_at_call 10; refine (theirs_q _ _ _ _ _ _ _).mono ?_; rintro e_ w_ ⟨rfl, hb_⟩; replace HB := Lib.hid (below_step HB.out hb_); replace HX := Lib.hid (blk_bel hb_ HX.out); replace HY := Lib.hid (blk_bel hb_ HY.out); clear hb_) | (go_at_call 9; refine (HA.out _).mono ?_; rintro e_ w_ ⟨rfl, hb_⟩; replace HB := Lib.hid (below_step HB.out hb_); replace HX := Lib.hid (blk_bel hb_ HX.out); replace HY := Lib.hid (blk_bel hb_ HY.out); clear hb_))
  have x0 := c_of HY.out 0 (v := .int .i64 by_) rfl
  have x1 := c_of HY.out 1 (v := .int .i64 bm) rfl
  have x2 := c_of HY.out 2 (v := .int .i64 bd) rfl
  have x3 := c_of HY.out 3 (v := .int .i64 bh) rfl
  have x4 := c_of HY.out 4 (v := .int .i64 bi) rfl
  have x5 := c_of HY.out 5 (v := .int .i64 bs) rfl
  go_wp2_with (first | (go_at_call 10; refine (theirs_q _ _ _ _ _ _ _).mono ?_; rintro e_ w_ ⟨rfl, hb_⟩; replace HB := Lib.hid (below_step HB.out hb_); replace HX := Lib.hid (blk_bel hb_ HX.out); replace HY := Lib.hid (blk_bel hb_ HY.out); clear hb_) | (go_at_call 9; refine (HC.out _).mono ?_; rintro e_ w_ ⟨rfl, hb_⟩; replace HB := Lib.hid (below_step HB.out hb_); replace HX := Lib.hid (blk_bel hb_ HX.out); replace HY := Lib.hid (blk_bel hb_ HY.out); clear hb_) | (go_at_call 17; refine (alive_q _ (HG.out.below HB.out)).mono ?_; rintro e_ w_ ⟨rfl, hb_⟩; replace HB := Lib.hid (below_step HB.out hb_); clear hb_))
  go_ret
  exact ⟨rfl, HB.out⟩
theorem order_calls (ay am ad ah ai as_ by_ bm bd bh bi bs : Int) (w : World) (hG : Glob w) : Calls Tryd.prog 8 #[.agg #[.int .i64 ay, .int .i64 am, .int .i64 ad, .int .i64 ah, .int .i64 ai, .int .i64 as_], .agg #[.int .i64 by_, .int .i64 bm, .int .i64 bd, .int .i64 bh, .int .i64 bi, .int .i64 bs]] w fun e w' => e = .returned (.bool true) ∧ Below w.heap.size w w' := by
  by_cases o : DateOk ay am ad ah ai as_
  · by_cases o' : DateOk by_ bm bd bh bi bs
    · refine order_ok _ _ _ _ _ _ _ _ _ _ _ _ _ _ w hG (fun i u v hu hv hs hn => ?_) (fun he => ?_) (fun w => number_ok _ _ _ _ _ _ w o) (fun w => number_ok _ _ _ _ _ _ w o')
      · rcases Int.lt_or_gt_of_ne hn with hl | hl
        · have := num_first o o' i u v hu hv hs hl
          omega
        · have := num_first o' o i v u hv hu hs.symm hl
          omega
      · simp only [six, List.cons.injEq, and_true] at he
        obtain ⟨rfl, rfl, rfl, rfl, rfl, rfl⟩ := he
        rfl
    · exact order_bad2 _ _ 0 _ _ _ _ _ _ _ _ _ _ _ _ w hG (fun w => number_ok _ _ _ _ _ _ w o) (fun w => number_no _ _ _ _ _ _ w o')
  · by_cases o' : DateOk by_ bm bd bh bi bs
    · exact order_bad1 _ _ _ _ _ _ _ _ _ _ _ _ _ _ _ w hG (fun w => number_no _ _ _ _ _ _ w o) (fun w => number_ok _ _ _ _ _ _ w o')
    · exact order_bad1 _ _ _ _ _ _ _ _ _ _ _ _ _ _ _ w hG (fun w => number_no _ _ _ _ _ _ w o) (fun w => number_no _ _ _ _ _ _ w o')
end Go.Proofs.YtmmommcgjafbbaaDoor.Da

