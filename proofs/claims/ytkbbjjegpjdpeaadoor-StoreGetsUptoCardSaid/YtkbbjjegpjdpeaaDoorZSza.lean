import Derived.Test.YtkbbjjegpjdpeaaDoorZSz

/- (not yet a claim) StoreGets' walk -/
namespace Go.Proofs.YtkbbjjegpjdpeaaDoor.S
open Go.RowKit Go.Proofs.YtkbbjjegpjdpeaaDoorW.PrintWords Go.Proofs.YtkbbjjegpjdpeaaDoorW.PrintLast Go.Proofs.YtkbbjjegpjdpeaaDoorW.PrintMore Go.Proofs.YtkbbjjegpjdpeaaDoor.G Go.Proofs.YtkbbjjegpjdpeaaDoor.V
set_option linter.unusedVariables false
set_option linter.unusedSimpArgs false
set_option maxRecDepth 100000 in
set_option maxHeartbeats 16000000 in
theorem gets_calls (w : World) (cap : Int) (A : Option Addr) (c : Nat) (l : List S37) (hC : Kd.C k37 w A l.length l) (hs : Small l) (hl : l.length < 1048576) :
    Calls Tryd.prog 4 #[.int .i64 cap, .slice A l.length c] w fun e w' => e = .returned (.bool true) ∧ Below w.heap.size w w' := by
  have HC := Lib.hid hC
  have HSM := Lib.hid hs
  have HAL := Lib.hid alive_calls
  clear hC hs
  by_cases hbad : cap < 0 ∨ 65536 < cap
  · have HN := Lib.hid (new_no w cap hbad)
    clear hbad
    go_enter Tryd.func4, Tryd.ntmps4
    go_wp2_with (first | (go_at_call 8; refine HN.out.mono ?_; rintro e w' ⟨rfl, h_⟩; obtain rfl := h_.symm) | (go_at_call 9; refine (HAL.out _).mono ?_; rintro e w3 ⟨rfl, hb3⟩; have HB3 := Lib.hid hb3; clear hb3))
    go_ret
    exact ⟨rfl, HB3.out⟩
  · have HN := Lib.hid (new_yes w cap (by omega) (by omega))
    have HCAP : Hid (0 ≤ cap ∧ cap ≤ 65536) := Lib.hid (by omega)
    clear hbad
    go_enter Tryd.func4, Tryd.ntmps4
    go_upto_region 4 with (first | (go_at_call 8; refine HN.out.mono ?_; rintro e w' ⟨rfl, h_⟩; obtain rfl := h_.symm) | (go_at_call 9; refine (HAL.out _).mono ?_; rintro e w3 ⟨rfl, hb3⟩; have HB3 := Lib.hid hb3; clear hb3))
    have hInv0 : Hid (Inv w3 w.heap.size w.heap.size cap []) := Lib.hid ((inv_new w cap HCAP.out.1 HCAP.out.2).grow HB3.out)
    have hBw : Hid (Below w.heap.size w w3) := Lib.hid (below_step (below_alloc (Below.refl _ _) _) HB3.out)
    have hP0 : Hid (PutAt w3 w.heap.size [] none 0 []) := Lib.hid ⟨L5.none_ _ _ _ (fun k hk => hk), fun ad e => by cases e⟩
    clear HB3 HN
    go_wp2
    go_loopg [7, 34] l.length (fun k v7 v34 W => ∃ (i : Nat) (xs : List Nd) (A1 : Option Addr) (c1 : Nat) (put : List (S41 × Rf)), v34 = .int .i64 (i : Int) ∧ v7 = .slice A1 put.length c1 ∧ i ≤ l.length ∧ l.length ≤ k + i ∧ put.length ≤ i ∧ Hid (Inv W w.heap.size w.heap.size cap xs) ∧ Hid (Below w.heap.size w W) ∧ Hid (PutAt W w.heap.size xs A1 c1 put) ∧ Hid (From xs put) ∧ Hid (∀ p ∈ put, Sm p.1))
    case atStart => exact ⟨0, [], none, 0, [], rfl, rfl, by omega, by omega, Nat.le_refl _, hInv0, hBw, hP0, Lib.hid (fun d hd => by cases hd), Lib.hid (fun d hd => by cases hd)⟩
    case round =>
      obtain ⟨i, xs, A1, c1, put, rfl, rfl, hi, hk, hpl, HI, HW, HP, HF, HPM⟩ := hrel
      rename World => Wo
      by_cases hlt : i < l.length
      · obtain ⟨ko, rfl⟩ : ∃ ko, gk = ko + 1 := ⟨gk - 1, by omega⟩
        have hk2 : l.length ≤ ko + (i + 1) := by omega
        have hi1 : i + 1 ≤ l.length := hlt
        have hpl1 : put.length ≤ i + 1 := by omega
        have hpl2 : put.length + 1 ≤ i + 1 := by omega
        have hpl3 : put.length + 1 ≤ 4000000 := by omega
        have cc1 : decide ((i : Int) < (l.length : Int)) = true := decide_eq_true (by omega)
        have p1 : 0 ≤ (i : Int) := by omega
        have p2 : (i : Int) < (l.length : Int) := by omega
        obtain ⟨ad, r, rfl, h0, h1, h2, h3, h4, h5, h6, h7, h8, h9, h10, h11, hE⟩ := act_at HC.out i hlt
        have hsm := HSM.out _ (rd37_mem hlt)
        obtain ⟨k, hk'⟩ : ∃ k, k = (rd_T37 l (i : Int)).f0 := ⟨_, rfl⟩
        obtain ⟨x, hx'⟩ : ∃ x, x = to41 (rd_T37 l (i : Int)).f1 := ⟨_, rfl⟩
        rw [← hk'] at h0 hsm
        rw [← hx'] at h1 h2 h3 h4 h5 h6 h7 h8 h9 h10 h11 hE hsm
        have HWI := Lib.hid (show wrap64 ((i : Int) + 1) = (i : Int) + 1 by unfold wrap64; omega)
        clear hk' hx' hlt
        have hws := HW.out.size
        have HML : Hid (∀ k, Mine w.heap.size xs k → k < Wo.heap.size) := Lib.hid (fun k hk => mine_lt HI.out.st hk)
        have hEW := (hE.lt.below HW.out).mono (P' := fun k => k < w.heap.size) (fun k hk => hk.2)
        have HX := Lib.hid hEW
        have HSX := Lib.hid hsm
        have HD := Lib.hid (fun W' (hb : Below Wo.heap.size Wo W') => does2_calls W' w.heap.size w.heap.size cap k xs x r (HI.out.grow hb) (by have := hb.size; omega) ((HX.out.below hb).mono (fun k hk hm => by have := HI.out.ge k hm; omega)) hsm.1 hsm.2.1 hsm.2.2)
        replace h0 := pw_cell_below HW.out h0
        replace h1 := pw_cell_below HW.out h1
        replace h2 := pw_cell_below HW.out h2
        replace h3 := pw_cell_below HW.out h3
        replace h4 := pw_cell_below HW.out h4
        replace h5 := pw_cell_below HW.out h5
        replace h6 := pw_cell_below HW.out h6
        replace h7 := pw_cell_below HW.out h7
        replace h8 := pw_cell_below HW.out h8
        replace h9 := pw_cell_below HW.out h9
        replace h10 := pw_cell_below HW.out h10
        replace h11 := pw_cell_below HW.out h11
        clear hE hEW hsm
        go_upto_region 8 with fail
        obtain ⟨W4, hW4⟩ : ∃ W, W = Wo.alloc (.cells #[.int .u8 k, .string x.f0.f0, .string x.f0.f1, .string x.f0.f2, .string x.f0.f3, .slice r.A4 x.f0.f4.length r.c4, .slice r.A5 x.f0.f5.length r.c5, .int .i64 x.f1.f0, .slice r.A7 x.f1.f1.length r.c7, .slice r.A8 x.f1.f2.length r.c8, .int .i64 x.f2, .int .i64 x.f3] 37) := ⟨_, rfl⟩
        rw [← hW4]
        have HA4 : Hid (W4.heap[Wo.heap.size]? = some (.cells #[.int .u8 k, .string x.f0.f0, .string x.f0.f1, .string x.f0.f2, .string x.f0.f3, .slice r.A4 x.f0.f4.length r.c4, .slice r.A5 x.f0.f5.length r.c5, .int .i64 x.f1.f0, .slice r.A7 x.f1.f1.length r.c7, .slice r.A8 x.f1.f2.length r.c8, .int .i64 x.f2, .int .i64 x.f3] 37 (0, 0))) := Lib.hid (by rw [hW4]; exact heap_alloc_new _ _)
        have HB4 : Hid (Below Wo.heap.size Wo W4) := Lib.hid (by rw [hW4]; exact below_alloc (Below.refl _ _) _)
        have hs4 : W4.heap.size = Wo.heap.size + 1 := by rw [hW4]; simp
        have HS4 := Lib.hid hs4
        clear hW4 h0 h1 h2 h3 h4 h5 h6 h7 h8 h9 h10 h11
        have hk0 : 0 ≤ k := HSX.out.2.1
        have hk255 : k ≤ 255 := HSX.out.2.2
        have hr4 : IntKind.u8.wrap (Int.tmod k 4) = k % 4 := by rw [Int.tmod_eq_emod_of_nonneg hk0, IntKind.wrap_u8]; omega
        have HBW4 : Hid (Below w.heap.size w W4) := Lib.hid (HW.out.trans (HB4.out.mono hws))
        have HX4 : Hid (Ex W4 (fun k => k < w.heap.size) x r) := Lib.hid (HX.out.below HB4.out)
        have ak := c_of HA4.out 0 (v := .int .u8 k) rfl
        have a0 := c_of HA4.out 1 (v := .string x.f0.f0) rfl
        have a1 := c_of HA4.out 2 (v := .string x.f0.f1) rfl
        have a2 := c_of HA4.out 3 (v := .string x.f0.f2) rfl
        have a3 := c_of HA4.out 4 (v := .string x.f0.f3) rfl
        have a4 := c_of HA4.out 5 (v := .slice r.A4 x.f0.f4.length r.c4) rfl
        have a5 := c_of HA4.out 6 (v := .slice r.A5 x.f0.f5.length r.c5) rfl
        have a6 := c_of HA4.out 7 (v := .int .i64 x.f1.f0) rfl
        have a7 := c_of HA4.out 8 (v := .slice r.A7 x.f1.f1.length r.c7) rfl
        have a8 := c_of HA4.out 9 (v := .slice r.A8 x.f1.f2.length r.c8) rfl
        have a9 := c_of HA4.out 10 (v := .int .i64 x.f2) rfl
        have a10 := c_of HA4.out 11 (v := .int .i64 x.f3) rfl
        by_cases hk1 : k % 4 = 1
        · have t1 : (k % 4 == 1) = true := beq_iff_eq.2 hk1
          have HG := Lib.hid (inv_get (A5 := r.A5) (c5 := r.c5) (HI.out.grow HB4.out) HX4.out.g4 HX4.out.l4 (sm_len4 HSX.out.1))
          clear hk1
          go_wp2_with fail
          go_at_call 15
          refine HG.out.mono ?_
          rintro e w5 ⟨ho5, l', hi5, hg5, he5⟩
          have HO5 := Lib.hid ho5
          have HI5 := Lib.hid hi5
          have HSUB := Lib.hid (get_sub hg5)
          have HML4 : Hid (∀ k, Mine w.heap.size xs k → k < W4.heap.size) := Lib.hid (fun k hk => by have := HML.out k hk; omega)
          have HA5 : Hid (w5.heap[Wo.heap.size]? = some (.cells #[.int .u8 k, .string x.f0.f0, .string x.f0.f1, .string x.f0.f2, .string x.f0.f3, .slice r.A4 x.f0.f4.length r.c4, .slice r.A5 x.f0.f5.length r.c5, .int .i64 x.f1.f0, .slice r.A7 x.f1.f1.length r.c7, .slice r.A8 x.f1.f2.length r.c8, .int .i64 x.f2, .int .i64 x.f3] 37 (0, 0))) := Lib.hid ((HO5.out.block _ (blk_lt' HA4.out) (fun hm => by have := HML.out _ hm; omega)).trans HA4.out)
          have HP5 : Hid (PutAt w5 w.heap.size l' A1 c1 put) := Lib.hid ((HP.out.grow HB4.out).turn (HI.out.grow HB4.out) HO5.out (fun d hd => .inl (HSUB.out d hd)))
          have HB5 : Hid (Below w.heap.size w w5) := Lib.hid (HBW4.out.trans (below_only (by omega) HO5.out HI.out.ge))
          have HF5 : Hid (From l' put) := Lib.hid (HF.out.sub HSUB.out)
          clear ho5 hi5 hg5 ak a0 a1 a2 a3 a4 a5 a6 a7 a8 a9 a10 HG
          rcases he5 with ⟨hb5, rfl⟩ | ⟨d, r', hb5, rfl, hE5⟩
          · clear hb5
            go_wp2
            go_roundg ko
            case measure => omega
            case rel => exact ⟨i + 1, l', A1, c1, put, by first | exact congrArg (Value.int .i64) HWI.out | go_num, rfl, hi1, hk2, hpl1, Lib.hid (HI5.out.grow (below_alloc (Below.refl _ _) _)), Lib.hid (below_step HB5.out (below_alloc (Below.refl _ _) _)), Lib.hid (HP5.out.grow (below_alloc (Below.refl _ _) _)), HF5, HPM⟩
          · have HMB := Lib.hid (best_match hb5)
            have HDM : Hid (d ∈ xs) := Lib.hid (best_mem _ _ _ hb5)
            have HDS : Hid (Sm d.x) := Lib.hid (HI.out.sm d HDM.out).1
            have HANY := Lib.hid (any_of HF.out d HDM.out)
            have HE5 := Lib.hid hE5
            clear hb5 hE5
            go_upto_region 11 with fail
            obtain ⟨W6, hW6⟩ : ∃ W, W = w5.alloc (.cells #[.string d.x.f0.f0, .string d.x.f0.f1, .string d.x.f0.f2, .string d.x.f0.f3, .slice r'.A4 d.x.f0.f4.length r'.c4, .slice r'.A5 d.x.f0.f5.length r'.c5, .int .i64 d.x.f1.f0, .slice r'.A7 d.x.f1.f1.length r'.c7, .slice r'.A8 d.x.f1.f2.length r'.c8, .int .i64 d.x.f2, .int .i64 d.x.f3] 41) := ⟨_, rfl⟩
            rw [← hW6]
            have HB6 : Hid (Below w5.heap.size w5 W6) := Lib.hid (by rw [hW6]; exact below_alloc (Below.refl _ _) _)
            have HD6 : Hid (W6.heap[w5.heap.size]? = some (.cells (Vx d.x r') 41 (0, 0))) := Lib.hid (by rw [hW6]; exact heap_alloc_new _ _)
            clear hW6
            have HA6 := Lib.hid (blk_bel HB6.out HA5.out)
            have HE6 := Lib.hid (HE5.out.below HB6.out)
            have HP6 := Lib.hid (HP5.out.grow HB6.out)
            have HI6 := Lib.hid (HI5.out.grow HB6.out)
            have HBW6 := Lib.hid (below_step HB5.out HB6.out)
            have HX6 : Hid (Ex W6 (fun k => k < w.heap.size) x r) := Lib.hid (HX.out.keep (fun k hk => (HBW6.out.block k hk).trans (HW.out.block k hk).symm))
            have hs5 := HO5.out.size
            have hs6 := HB6.out.size
            have hp10 : put.length < 9223372036854775807 := by omega
            go_wp2
            go_loopg [12, 54] put.length (fun kk v12 v54 W => ∃ (j : Nat), v54 = .int .i64 (j : Int) ∧ v12 = .bool (anyB d.x (put.take j)) ∧ j ≤ put.length ∧ put.length ≤ kk + j ∧ Hid (Below W6.heap.size W6 W))
            case atStart => exact ⟨0, rfl, rfl, by omega, by omega, Lib.hid (Below.refl _ _)⟩
            case round =>
              obtain ⟨j, rfl, rfl, hj, hjk, HWJ⟩ := hrel
              rename World => Wj
              have HDJ := Lib.hid (blk_bel HWJ.out HD6.out)
              have HEJ := Lib.hid (HE6.out.below HWJ.out)
              by_cases hlt : j < put.length
              · obtain ⟨k2, rfl⟩ : ∃ k2, gk = k2 + 1 := ⟨gk - 1, by omega⟩
                have hk3 : put.length ≤ k2 + (j + 1) := by omega
                have hj1 : j + 1 ≤ put.length := hlt
                have cj1 : decide ((j : Int) < (put.length : Int)) = true := decide_eq_true (by omega)
                have q1 : 0 ≤ (j : Int) := by omega
                have q2 : (j : Int) < (put.length : Int) := by omega
                obtain ⟨ad2, y, s, rfl, hps, g0, g1, g2, g3, g4, g5, g6, g7, g8, g9, g10, hE⟩ := l5_at (HP6.out.row.grow HWJ.out) j hlt
                have HPS := Lib.hid hps
                have HE2 := Lib.hid hE
                have HSY : Hid (Sm y) := Lib.hid (HPM.out (y, s) (List.mem_of_getElem? hps))
                have hsj := HWJ.out.size
                have HWX := Lib.hid (show wrap64 ((j : Int) + 1) = (j : Int) + 1 by unfold wrap64; omega)
                have HSN := Lib.hid (any_snoc (x := d.x) hps)
                clear hE hps hlt
                go_upto_region 15 with fail
                obtain ⟨W14, hW14⟩ : ∃ W, W = Wj.alloc (.cells #[.string y.f0.f0, .string y.f0.f1, .string y.f0.f2, .string y.f0.f3, .slice s.A4 y.f0.f4.length s.c4, .slice s.A5 y.f0.f5.length s.c5, .int .i64 y.f1.f0, .slice s.A7 y.f1.f1.length s.c7, .slice s.A8 y.f1.f2.length s.c8, .int .i64 y.f2, .int .i64 y.f3] 35) := ⟨_, rfl⟩
                rw [← hW14]
                have HB14 : Hid (Below Wj.heap.size Wj W14) := Lib.hid (by rw [hW14]; exact below_alloc (Below.refl _ _) _)
                have HY14 : Hid (W14.heap[Wj.heap.size]? = some (.cells (Vx y s) 35 (0, 0))) := Lib.hid (by rw [hW14]; exact heap_alloc_new _ _)
                have HD14 := Lib.hid (blk_bel HB14.out HDJ.out)
                clear hW14 g0 g1 g2 g3 g4 g5 g6 g7 g8 g9 g10
                obtain ⟨b, hb⟩ : ∃ b, b = anyB d.x (put.take j) := ⟨_, rfl⟩
                have HBB := Lib.hid hb
                rw [← hb]
                clear hb
                cases b with
                | true =>
                  refine start_ (n := 8) (S := fun w' => True) (ds := []) #[false, false, false, false, false, false, false, false] (by kernel_rfl) rfl rfl trivial (fun hHeld => ?_)
                  refine pure_ (i := 0) (N := some 58) (v := ?_) (a' := ?_) #[true, false, false, false, false, false, false, false] rfl rfl (by kernel_rfl) (fun _ _ _ h => h) (Or.inl ⟨by rfl, ?_⟩) ?_ ?_
                  rotate_left
                  · intro w'
                    go_simp
                    with_reducible rfl
                  rotate_left
                  · simp only [Act.put, List.setIfInBounds_toArray, List.set_cons_zero, List.set_cons_succ, i64_w, i32_w]
                    rfl
                  refine pure_ (i := 1) (N := some 59) (v := ?_) (a' := ?_) #[true, true, false, false, false, false, false, false] rfl rfl (by kernel_rfl) (fun _ _ _ h => h) (Or.inl ⟨by rfl, ?_⟩) ?_ ?_
                  rotate_left
                  · intro w'
                    go_simp
                    with_reducible rfl
                  rotate_left
                  · simp only [Act.put, List.setIfInBounds_toArray, List.set_cons_zero, List.set_cons_succ, i64_w, i32_w]
                    rfl
                  refine pure_ (i := 2) (N := some 60) (v := undef) (a' := ?_) #[true, true, true, false, false, false, false, false] rfl rfl (by kernel_rfl) (fun _ _ _ h => h) (Or.inr ⟨by rfl, rfl⟩) ?_ ?_
                  rotate_left
                  · simp only [Act.put, List.setIfInBounds_toArray, List.set_cons_zero, List.set_cons_succ, i64_w, i32_w]
                    rfl
                  refine pure_ (i := 3) (N := some 61) (v := undef) (a' := ?_) #[true, true, true, true, false, false, false, false] rfl rfl (by kernel_rfl) (fun _ _ _ h => h) (Or.inr ⟨by rfl, rfl⟩) ?_ ?_
                  rotate_left
                  · simp only [Act.put, List.setIfInBounds_toArray, List.set_cons_zero, List.set_cons_succ, i64_w, i32_w]
                    rfl
                  refine pure_ (i := 4) (N := some 62) (v := undef) (a' := ?_) #[true, true, true, true, true, false, false, false] rfl rfl (by kernel_rfl) (fun _ _ _ h => h) (Or.inr ⟨by rfl, rfl⟩) ?_ ?_
                  rotate_left
                  · simp only [Act.put, List.setIfInBounds_toArray, List.set_cons_zero, List.set_cons_succ, i64_w, i32_w]
                    rfl
                  refine pure_ (i := 5) (N := some 63) (v := undef) (a' := ?_) #[true, true, true, true, true, true, false, false] rfl rfl (by kernel_rfl) (fun _ _ _ h => h) (Or.inr ⟨by rfl, rfl⟩) ?_ ?_
                  rotate_left
                  · simp only [Act.put, List.setIfInBounds_toArray, List.set_cons_zero, List.set_cons_succ, i64_w, i32_w]
                    rfl
                  refine pure_ (i := 6) (N := some 64) (v := ?_) (a' := ?_) #[true, true, true, true, true, true, true, false] rfl rfl (by kernel_rfl) (fun _ _ _ h => h) (Or.inl ⟨by rfl, ?_⟩) ?_ ?_
                  rotate_left
                  · intro w'
                    go_simp
                    with_reducible rfl
                  rotate_left
                  · simp only [Act.put, List.setIfInBounds_toArray, List.set_cons_zero, List.set_cons_succ, i64_w, i32_w]
                    rfl
                  refine pure_ (i := 7) (N := some 12) (v := ?_) (a' := ?_) #[true, true, true, true, true, true, true, true] rfl rfl (by kernel_rfl) (fun _ _ _ h => h) (Or.inl ⟨by rfl, ?_⟩) ?_ ?_
                  rotate_left
                  · intro w'
                    go_simp
                    with_reducible rfl
                  rotate_left
                  · simp only [Act.put, List.setIfInBounds_toArray, List.set_cons_zero, List.set_cons_succ, i64_w, i32_w]
                    rfl
                  refine done_ (by kernel_rfl) ?_
                  clear hHeld
                  go_wp2
                  go_roundg k2
                  case measure => omega
                  case rel => exact ⟨j + 1, by first | exact congrArg (Value.int .i64) HWX.out | go_num, by rw [HSN.out, ← HBB.out]; rfl, hj1, hk3, Lib.hid (below_step HWJ.out (below_step HB14.out (below_drew (Below.refl _ _))))⟩
                | false =>
                  obtain ⟨m, hm⟩ : ∃ m, m = oneB (to35 d.x) (to35 y) := ⟨_, rfl⟩
                  have HMM := Lib.hid hm
                  have HONE := Lib.hid (fun W' (hw : Below W14.heap.size W14 W') => one_calls W' _ _ d.x y r' s (HEJ.out.below (below_step HB14.out hw)) (HE2.out.below (below_step HB14.out hw)) HDS.out)
                  rw [← hm] at HONE
                  clear hm
                  refine start_ (n := 8) (S := fun w' => w'.cell? ⟨w5.heap.size, 0, none⟩ = some (.string d.x.f0.f0) ∧ w'.cell? ⟨w5.heap.size, 1, none⟩ = some (.string d.x.f0.f1) ∧ w'.cell? ⟨w5.heap.size, 2, none⟩ = some (.string d.x.f0.f2) ∧ w'.cell? ⟨w5.heap.size, 3, none⟩ = some (.string d.x.f0.f3) ∧ w'.cell? ⟨w5.heap.size, 4, none⟩ = some (.slice r'.A4 d.x.f0.f4.length r'.c4) ∧ w'.cell? ⟨w5.heap.size, 5, none⟩ = some (.slice r'.A5 d.x.f0.f5.length r'.c5) ∧ w'.cell? ⟨w5.heap.size, 6, none⟩ = some (.int .i64 d.x.f1.f0) ∧ w'.cell? ⟨w5.heap.size, 7, none⟩ = some (.slice r'.A7 d.x.f1.f1.length r'.c7) ∧ w'.cell? ⟨w5.heap.size, 8, none⟩ = some (.slice r'.A8 d.x.f1.f2.length r'.c8) ∧ w'.cell? ⟨w5.heap.size, 9, none⟩ = some (.int .i64 d.x.f2) ∧ w'.cell? ⟨w5.heap.size, 10, none⟩ = some (.int .i64 d.x.f3) ∧ w'.cell? ⟨Wj.heap.size, 0, none⟩ = some (.string y.f0.f0) ∧ w'.cell? ⟨Wj.heap.size, 1, none⟩ = some (.string y.f0.f1) ∧ w'.cell? ⟨Wj.heap.size, 2, none⟩ = some (.string y.f0.f2) ∧ w'.cell? ⟨Wj.heap.size, 3, none⟩ = some (.string y.f0.f3) ∧ w'.cell? ⟨Wj.heap.size, 4, none⟩ = some (.slice s.A4 y.f0.f4.length s.c4) ∧ w'.cell? ⟨Wj.heap.size, 5, none⟩ = some (.slice s.A5 y.f0.f5.length s.c5) ∧ w'.cell? ⟨Wj.heap.size, 6, none⟩ = some (.int .i64 y.f1.f0) ∧ w'.cell? ⟨Wj.heap.size, 7, none⟩ = some (.slice s.A7 y.f1.f1.length s.c7) ∧ w'.cell? ⟨Wj.heap.size, 8, none⟩ = some (.slice s.A8 y.f1.f2.length s.c8) ∧ w'.cell? ⟨Wj.heap.size, 9, none⟩ = some (.int .i64 y.f2) ∧ w'.cell? ⟨Wj.heap.size, 10, none⟩ = some (.int .i64 y.f3)) (ds := []) #[false, false, false, false, false, false, false, false] (by kernel_rfl) rfl rfl ⟨c_of HD14.out 0 (v := .string d.x.f0.f0) rfl, c_of HD14.out 1 (v := .string d.x.f0.f1) rfl, c_of HD14.out 2 (v := .string d.x.f0.f2) rfl, c_of HD14.out 3 (v := .string d.x.f0.f3) rfl, c_of HD14.out 4 (v := .slice r'.A4 d.x.f0.f4.length r'.c4) rfl, c_of HD14.out 5 (v := .slice r'.A5 d.x.f0.f5.length r'.c5) rfl, c_of HD14.out 6 (v := .int .i64 d.x.f1.f0) rfl, c_of HD14.out 7 (v := .slice r'.A7 d.x.f1.f1.length r'.c7) rfl, c_of HD14.out 8 (v := .slice r'.A8 d.x.f1.f2.length r'.c8) rfl, c_of HD14.out 9 (v := .int .i64 d.x.f2) rfl, c_of HD14.out 10 (v := .int .i64 d.x.f3) rfl, c_of HY14.out 0 (v := .string y.f0.f0) rfl, c_of HY14.out 1 (v := .string y.f0.f1) rfl, c_of HY14.out 2 (v := .string y.f0.f2) rfl, c_of HY14.out 3 (v := .string y.f0.f3) rfl, c_of HY14.out 4 (v := .slice s.A4 y.f0.f4.length s.c4) rfl, c_of HY14.out 5 (v := .slice s.A5 y.f0.f5.length s.c5) rfl, c_of HY14.out 6 (v := .int .i64 y.f1.f0) rfl, c_of HY14.out 7 (v := .slice s.A7 y.f1.f1.length s.c7) rfl, c_of HY14.out 8 (v := .slice s.A8 y.f1.f2.length s.c8) rfl, c_of HY14.out 9 (v := .int .i64 y.f2) rfl, c_of HY14.out 10 (v := .int .i64 y.f3) rfl⟩ (fun hHeld => ?_)
                  refine pure_ (i := 0) (N := some 58) (v := ?_) (a' := ?_) #[true, false, false, false, false, false, false, false] rfl rfl (by kernel_rfl) (fun _ _ _ h => h) (Or.inl ⟨by rfl, ?_⟩) ?_ ?_
                  rotate_left
                  · intro w'
                    go_simp
                    with_reducible rfl
                  rotate_left
                  · simp only [Act.put, List.setIfInBounds_toArray, List.set_cons_zero, List.set_cons_succ, i64_w, i32_w]
                    rfl
                  refine pure_ (i := 1) (N := some 59) (v := ?_) (a' := ?_) #[true, true, false, false, false, false, false, false] rfl rfl (by kernel_rfl) (fun _ _ _ h => h) (Or.inl ⟨by rfl, ?_⟩) ?_ ?_
                  rotate_left
                  · intro w'
                    go_simp
                    with_reducible rfl
                  rotate_left
                  · simp only [Act.put, List.setIfInBounds_toArray, List.set_cons_zero, List.set_cons_succ, i64_w, i32_w]
                    rfl
                  refine take_ (i := 2) (N := some 60) (v := ?_) (a' := ?_) #[true, true, true, false, false, false, false, false] rfl rfl (by kernel_rfl) (fun _ _ _ h => h) (Or.inl ⟨by rfl, ?_⟩) hHeld ?_ ?_
                  rotate_left
                  · rintro w' ⟨s0, s1, s2, s3, s4, s5, s6, s7, s8, s9, s10, s11, s12, s13, s14, s15, s16, s17, s18, s19, s20, s21⟩
                    go_simp
                    with_reducible rfl
                  rotate_left
                  · simp only [Act.put, List.setIfInBounds_toArray, List.set_cons_zero, List.set_cons_succ, i64_w, i32_w]
                    rfl
                  refine take_ (i := 4) (N := some 62) (v := ?_) (a' := ?_) #[true, true, true, false, true, false, false, false] rfl rfl (by kernel_rfl) (fun _ _ _ h => h) (Or.inl ⟨by rfl, ?_⟩) hHeld ?_ ?_
                  rotate_left
                  · rintro w' ⟨s0, s1, s2, s3, s4, s5, s6, s7, s8, s9, s10, s11, s12, s13, s14, s15, s16, s17, s18, s19, s20, s21⟩
                    go_simp
                    with_reducible rfl
                  rotate_left
                  · simp only [Act.put, List.setIfInBounds_toArray, List.set_cons_zero, List.set_cons_succ, i64_w, i32_w]
                    rfl
                  refine one_ (i := 3) (N := some 61) #[true, true, true, true, true, false, false, false] rfl rfl (by kernel_rfl) (by decide) (fun K hK => ?_)
                  refine goes_ Tryd.func13 (by kernel_rfl) rfl #[.agg #[.string d.x.f0.f0, .string d.x.f0.f1, .string d.x.f0.f2, .string d.x.f0.f3, .slice r'.A4 d.x.f0.f4.length r'.c4, .slice r'.A5 d.x.f0.f5.length r'.c5, .int .i64 d.x.f1.f0, .slice r'.A7 d.x.f1.f1.length r'.c7, .slice r'.A8 d.x.f1.f2.length r'.c8, .int .i64 d.x.f2, .int .i64 d.x.f3]] (by rfl) rfl rfl (by simp only [List.map_toArray, List.map_cons, List.map_nil]; rfl) ?_
                  with_reducible refine (ours_calls _ d.x r').mono ?_
                  rintro e w21 ⟨rfl, hb21⟩
                  refine ⟨_, rfl, ?_⟩
                  have HB21 : Hid (Below W14.heap.size W14 w21) := Lib.hid (below_step (below_drew (Below.refl _ _)) hb21)
                  refine hK.out _ _ ⟨c_of (blk_bel HB21.out HD14.out) 0 (v := .string d.x.f0.f0) rfl, c_of (blk_bel HB21.out HD14.out) 1 (v := .string d.x.f0.f1) rfl, c_of (blk_bel HB21.out HD14.out) 2 (v := .string d.x.f0.f2) rfl, c_of (blk_bel HB21.out HD14.out) 3 (v := .string d.x.f0.f3) rfl, c_of (blk_bel HB21.out HD14.out) 4 (v := .slice r'.A4 d.x.f0.f4.length r'.c4) rfl, c_of (blk_bel HB21.out HD14.out) 5 (v := .slice r'.A5 d.x.f0.f5.length r'.c5) rfl, c_of (blk_bel HB21.out HD14.out) 6 (v := .int .i64 d.x.f1.f0) rfl, c_of (blk_bel HB21.out HD14.out) 7 (v := .slice r'.A7 d.x.f1.f1.length r'.c7) rfl, c_of (blk_bel HB21.out HD14.out) 8 (v := .slice r'.A8 d.x.f1.f2.length r'.c8) rfl, c_of (blk_bel HB21.out HD14.out) 9 (v := .int .i64 d.x.f2) rfl, c_of (blk_bel HB21.out HD14.out) 10 (v := .int .i64 d.x.f3) rfl, c_of (blk_bel HB21.out HY14.out) 0 (v := .string y.f0.f0) rfl, c_of (blk_bel HB21.out HY14.out) 1 (v := .string y.f0.f1) rfl, c_of (blk_bel HB21.out HY14.out) 2 (v := .string y.f0.f2) rfl, c_of (blk_bel HB21.out HY14.out) 3 (v := .string y.f0.f3) rfl, c_of (blk_bel HB21.out HY14.out) 4 (v := .slice s.A4 y.f0.f4.length s.c4) rfl, c_of (blk_bel HB21.out HY14.out) 5 (v := .slice s.A5 y.f0.f5.length s.c5) rfl, c_of (blk_bel HB21.out HY14.out) 6 (v := .int .i64 y.f1.f0) rfl, c_of (blk_bel HB21.out HY14.out) 7 (v := .slice s.A7 y.f1.f1.length s.c7) rfl, c_of (blk_bel HB21.out HY14.out) 8 (v := .slice s.A8 y.f1.f2.length s.c8) rfl, c_of (blk_bel HB21.out HY14.out) 9 (v := .int .i64 y.f2) rfl, c_of (blk_bel HB21.out HY14.out) 10 (v := .int .i64 y.f3) rfl⟩ (fun hHeld => ?_)
                  clear hK K
                  refine norm_ (a' := ?_) ?_ ?_
                  rotate_left
                  · show Act.put _ (some 61) _ = _
                    simp only [Act.put, List.setIfInBounds_toArray, List.set_cons_zero, List.set_cons_succ, i64_w, i32_w]
                    rfl
                  refine one_ (i := 5) (N := some 63) #[true, true, true, true, true, true, false, false] rfl rfl (by kernel_rfl) (by decide) (fun K hK => ?_)
                  refine goes_ Tryd.func16 (by kernel_rfl) rfl #[.agg #[.string d.x.f0.f0, .string d.x.f0.f1, .string d.x.f0.f2, .string d.x.f0.f3, .slice r'.A4 d.x.f0.f4.length r'.c4, .slice r'.A5 d.x.f0.f5.length r'.c5, .int .i64 d.x.f1.f0, .slice r'.A7 d.x.f1.f1.length r'.c7, .slice r'.A8 d.x.f1.f2.length r'.c8, .int .i64 d.x.f2, .int .i64 d.x.f3], .agg #[.string y.f0.f0, .string y.f0.f1, .string y.f0.f2, .string y.f0.f3, .slice s.A4 y.f0.f4.length s.c4, .slice s.A5 y.f0.f5.length s.c5, .int .i64 y.f1.f0, .slice s.A7 y.f1.f1.length s.c7, .slice s.A8 y.f1.f2.length s.c8, .int .i64 y.f2, .int .i64 y.f3]] (by rfl) rfl rfl (by simp only [List.map_toArray, List.map_cons, List.map_nil]; rfl) ?_
                  with_reducible refine (HONE.out _ HB21.out).mono ?_
                  rintro e w22 ⟨rfl, hb22⟩
                  refine ⟨_, rfl, ?_⟩
                  have HB22 : Hid (Below W14.heap.size W14 w22) := Lib.hid (below_step HB21.out hb22)
                  refine hK.out _ _ ⟨c_of (blk_bel HB22.out HD14.out) 0 (v := .string d.x.f0.f0) rfl, c_of (blk_bel HB22.out HD14.out) 1 (v := .string d.x.f0.f1) rfl, c_of (blk_bel HB22.out HD14.out) 2 (v := .string d.x.f0.f2) rfl, c_of (blk_bel HB22.out HD14.out) 3 (v := .string d.x.f0.f3) rfl, c_of (blk_bel HB22.out HD14.out) 4 (v := .slice r'.A4 d.x.f0.f4.length r'.c4) rfl, c_of (blk_bel HB22.out HD14.out) 5 (v := .slice r'.A5 d.x.f0.f5.length r'.c5) rfl, c_of (blk_bel HB22.out HD14.out) 6 (v := .int .i64 d.x.f1.f0) rfl, c_of (blk_bel HB22.out HD14.out) 7 (v := .slice r'.A7 d.x.f1.f1.length r'.c7) rfl, c_of (blk_bel HB22.out HD14.out) 8 (v := .slice r'.A8 d.x.f1.f2.length r'.c8) rfl, c_of (blk_bel HB22.out HD14.out) 9 (v := .int .i64 d.x.f2) rfl, c_of (blk_bel HB22.out HD14.out) 10 (v := .int .i64 d.x.f3) rfl, c_of (blk_bel HB22.out HY14.out) 0 (v := .string y.f0.f0) rfl, c_of (blk_bel HB22.out HY14.out) 1 (v := .string y.f0.f1) rfl, c_of (blk_bel HB22.out HY14.out) 2 (v := .string y.f0.f2) rfl, c_of (blk_bel HB22.out HY14.out) 3 (v := .string y.f0.f3) rfl, c_of (blk_bel HB22.out HY14.out) 4 (v := .slice s.A4 y.f0.f4.length s.c4) rfl, c_of (blk_bel HB22.out HY14.out) 5 (v := .slice s.A5 y.f0.f5.length s.c5) rfl, c_of (blk_bel HB22.out HY14.out) 6 (v := .int .i64 y.f1.f0) rfl, c_of (blk_bel HB22.out HY14.out) 7 (v := .slice s.A7 y.f1.f1.length s.c7) rfl, c_of (blk_bel HB22.out HY14.out) 8 (v := .slice s.A8 y.f1.f2.length s.c8) rfl, c_of (blk_bel HB22.out HY14.out) 9 (v := .int .i64 y.f2) rfl, c_of (blk_bel HB22.out HY14.out) 10 (v := .int .i64 y.f3) rfl⟩ (fun hHeld => ?_)
                  clear hK K
                  refine norm_ (a' := ?_) ?_ ?_
                  rotate_left
                  · show Act.put _ (some 63) _ = _
                    simp only [Act.put, List.setIfInBounds_toArray, List.set_cons_zero, List.set_cons_succ, i64_w, i32_w]
                    rfl
                  refine pure_ (i := 6) (N := some 64) (v := ?_) (a' := ?_) #[true, true, true, true, true, true, true, false] rfl rfl (by kernel_rfl) (fun _ _ _ h => h) (Or.inl ⟨by rfl, ?_⟩) ?_ ?_
                  rotate_left
                  · intro w'
                    go_simp
                    with_reducible rfl
                  rotate_left
                  · simp only [Act.put, List.setIfInBounds_toArray, List.set_cons_zero, List.set_cons_succ, i64_w, i32_w]
                    rfl
                  refine pure_ (i := 7) (N := some 12) (v := ?_) (a' := ?_) #[true, true, true, true, true, true, true, true] rfl rfl (by kernel_rfl) (fun _ _ _ h => h) (Or.inl ⟨by rfl, ?_⟩) ?_ ?_
                  rotate_left
                  · intro w'
                    go_simp
                    with_reducible rfl
                  rotate_left
                  · simp only [Act.put, List.setIfInBounds_toArray, List.set_cons_zero, List.set_cons_succ, i64_w, i32_w]
                    rfl
                  refine done_ (by kernel_rfl) ?_
                  clear hHeld
                  go_wp2
                  go_roundg k2
                  case measure => omega
                  case rel => exact ⟨j + 1, by first | exact congrArg (Value.int .i64) HWX.out | go_num, by rw [HSN.out, ← HBB.out, ← HMM.out]; rfl, hj1, hk3, Lib.hid (below_step HWJ.out (below_step HB14.out HB22.out))⟩
              · have c0 : decide ((j : Int) < (put.length : Int)) = false := decide_eq_false (by omega)
                obtain rfl : j = put.length := by omega
                rw [List.take_length, HANY.out]
                have HAJ := Lib.hid (blk_bel HWJ.out HA6.out)
                have HMC := Lib.hid (fun W' (hw : Below Wj.heap.size Wj W') => rmatches_calls W' _ d.x r' x.f0 r.A4 r.c4 r.A5 r.c5 (HEJ.out.below hw) (HX6.out.below (below_step HWJ.out hw)).g4 HX6.out.l4 (HX6.out.below (below_step HWJ.out hw)).g5 HX6.out.l5 HDS.out (sm_len4 HSX.out.1))
                rw [HMB.out] at HMC
                have hsj := HWJ.out.size
                go_upto_region 17 with fail
                refine start_ (n := 11) (S := fun w' => w'.cell? ⟨w5.heap.size, 0, none⟩ = some (.string d.x.f0.f0) ∧ w'.cell? ⟨w5.heap.size, 1, none⟩ = some (.string d.x.f0.f1) ∧ w'.cell? ⟨w5.heap.size, 2, none⟩ = some (.string d.x.f0.f2) ∧ w'.cell? ⟨w5.heap.size, 3, none⟩ = some (.string d.x.f0.f3) ∧ w'.cell? ⟨w5.heap.size, 4, none⟩ = some (.slice r'.A4 d.x.f0.f4.length r'.c4) ∧ w'.cell? ⟨w5.heap.size, 5, none⟩ = some (.slice r'.A5 d.x.f0.f5.length r'.c5) ∧ w'.cell? ⟨w5.heap.size, 6, none⟩ = some (.int .i64 d.x.f1.f0) ∧ w'.cell? ⟨w5.heap.size, 7, none⟩ = some (.slice r'.A7 d.x.f1.f1.length r'.c7) ∧ w'.cell? ⟨w5.heap.size, 8, none⟩ = some (.slice r'.A8 d.x.f1.f2.length r'.c8) ∧ w'.cell? ⟨w5.heap.size, 9, none⟩ = some (.int .i64 d.x.f2) ∧ w'.cell? ⟨w5.heap.size, 10, none⟩ = some (.int .i64 d.x.f3) ∧ w'.cell? ⟨Wo.heap.size, 1, none⟩ = some (.string x.f0.f0) ∧ w'.cell? ⟨Wo.heap.size, 2, none⟩ = some (.string x.f0.f1) ∧ w'.cell? ⟨Wo.heap.size, 3, none⟩ = some (.string x.f0.f2) ∧ w'.cell? ⟨Wo.heap.size, 4, none⟩ = some (.string x.f0.f3) ∧ w'.cell? ⟨Wo.heap.size, 5, none⟩ = some (.slice r.A4 x.f0.f4.length r.c4) ∧ w'.cell? ⟨Wo.heap.size, 6, none⟩ = some (.slice r.A5 x.f0.f5.length r.c5)) (ds := []) #[false, false, false, false, false, false, false, false, false, false, false] (by kernel_rfl) rfl rfl ⟨c_of HDJ.out 0 (v := .string d.x.f0.f0) rfl, c_of HDJ.out 1 (v := .string d.x.f0.f1) rfl, c_of HDJ.out 2 (v := .string d.x.f0.f2) rfl, c_of HDJ.out 3 (v := .string d.x.f0.f3) rfl, c_of HDJ.out 4 (v := .slice r'.A4 d.x.f0.f4.length r'.c4) rfl, c_of HDJ.out 5 (v := .slice r'.A5 d.x.f0.f5.length r'.c5) rfl, c_of HDJ.out 6 (v := .int .i64 d.x.f1.f0) rfl, c_of HDJ.out 7 (v := .slice r'.A7 d.x.f1.f1.length r'.c7) rfl, c_of HDJ.out 8 (v := .slice r'.A8 d.x.f1.f2.length r'.c8) rfl, c_of HDJ.out 9 (v := .int .i64 d.x.f2) rfl, c_of HDJ.out 10 (v := .int .i64 d.x.f3) rfl, c_of HAJ.out 1 (v := .string x.f0.f0) rfl, c_of HAJ.out 2 (v := .string x.f0.f1) rfl, c_of HAJ.out 3 (v := .string x.f0.f2) rfl, c_of HAJ.out 4 (v := .string x.f0.f3) rfl, c_of HAJ.out 5 (v := .slice r.A4 x.f0.f4.length r.c4) rfl, c_of HAJ.out 6 (v := .slice r.A5 x.f0.f5.length r.c5) rfl⟩ (fun hHeld => ?_)
                refine pure_ (i := 0) (N := some 66) (v := ?_) (a' := ?_) #[true, false, false, false, false, false, false, false, false, false, false] rfl rfl (by kernel_rfl) (fun _ _ _ h => h) (Or.inl ⟨by rfl, ?_⟩) ?_ ?_
                rotate_left
                · intro w'
                  go_simp
                  with_reducible rfl
                rotate_left
                · simp only [Act.put, List.setIfInBounds_toArray, List.set_cons_zero, List.set_cons_succ, i64_w, i32_w]
                  rfl
                refine pure_ (i := 1) (N := some 67) (v := ?_) (a' := ?_) #[true, true, false, false, false, false, false, false, false, false, false] rfl rfl (by kernel_rfl) (fun _ _ _ h => h) (Or.inl ⟨by rfl, ?_⟩) ?_ ?_
                rotate_left
                · intro w'
                  go_simp
                  with_reducible rfl
                rotate_left
                · simp only [Act.put, List.setIfInBounds_toArray, List.set_cons_zero, List.set_cons_succ, i64_w, i32_w]
                  rfl
                refine pure_ (i := 2) (N := some 68) (v := ?_) (a' := ?_) #[true, true, true, false, false, false, false, false, false, false, false] rfl rfl (by kernel_rfl) (fun _ _ _ h => h) (Or.inl ⟨by rfl, ?_⟩) ?_ ?_
                rotate_left
                · intro w'
                  go_simp
                  with_reducible rfl
                rotate_left
                · simp only [Act.put, List.setIfInBounds_toArray, List.set_cons_zero, List.set_cons_succ, i64_w, i32_w]
                  rfl
                refine pure_ (i := 5) (N := some 71) (v := ?_) (a' := ?_) #[true, true, true, false, false, true, false, false, false, false, false] rfl rfl (by kernel_rfl) (fun _ _ _ h => h) (Or.inl ⟨by rfl, ?_⟩) ?_ ?_
                rotate_left
                · intro w'
                  go_simp
                  with_reducible rfl
                rotate_left
                · simp only [Act.put, List.setIfInBounds_toArray, List.set_cons_zero, List.set_cons_succ, i64_w, i32_w]
                  rfl
                refine pure_ (i := 6) (N := some 72) (v := ?_) (a' := ?_) #[true, true, true, false, false, true, true, false, false, false, false] rfl rfl (by kernel_rfl) (fun _ _ _ h => h) (Or.inl ⟨by rfl, ?_⟩) ?_ ?_
                rotate_left
                · intro w'
                  go_simp
                  with_reducible rfl
                rotate_left
                · simp only [Act.put, List.setIfInBounds_toArray, List.set_cons_zero, List.set_cons_succ, i64_w, i32_w]
                  rfl
                refine take_ (i := 3) (N := some 69) (v := ?_) (a' := ?_) #[true, true, true, true, false, true, true, false, false, false, false] rfl rfl (by kernel_rfl) (fun _ _ _ h => h) (Or.inl ⟨by rfl, ?_⟩) hHeld ?_ ?_
                rotate_left
                · rintro w' ⟨s0, s1, s2, s3, s4, s5, s6, s7, s8, s9, s10, s11, s12, s13, s14, s15, s16⟩
                  go_simp
                  with_reducible rfl
                rotate_left
                · simp only [Act.put, List.setIfInBounds_toArray, List.set_cons_zero, List.set_cons_succ, i64_w, i32_w]
                  rfl
                refine take_ (i := 7) (N := some 73) (v := ?_) (a' := ?_) #[true, true, true, true, false, true, true, true, false, false, false] rfl rfl (by kernel_rfl) (fun _ _ _ h => h) (Or.inl ⟨by rfl, ?_⟩) hHeld ?_ ?_
                rotate_left
                · rintro w' ⟨s0, s1, s2, s3, s4, s5, s6, s7, s8, s9, s10, s11, s12, s13, s14, s15, s16⟩
                  go_simp
                  with_reducible rfl
                rotate_left
                · simp only [Act.put, List.setIfInBounds_toArray, List.set_cons_zero, List.set_cons_succ, i64_w, i32_w]
                  rfl
                refine one_ (i := 4) (N := some 70) #[true, true, true, true, true, true, true, true, false, false, false] rfl rfl (by kernel_rfl) (by decide) (fun K hK => ?_)
                refine goes_ Tryd.func13 (by kernel_rfl) rfl #[.agg #[.string d.x.f0.f0, .string d.x.f0.f1, .string d.x.f0.f2, .string d.x.f0.f3, .slice r'.A4 d.x.f0.f4.length r'.c4, .slice r'.A5 d.x.f0.f5.length r'.c5, .int .i64 d.x.f1.f0, .slice r'.A7 d.x.f1.f1.length r'.c7, .slice r'.A8 d.x.f1.f2.length r'.c8, .int .i64 d.x.f2, .int .i64 d.x.f3]] (by rfl) rfl rfl (by simp only [List.map_toArray, List.map_cons, List.map_nil]; rfl) ?_
                with_reducible refine (ours_calls _ d.x r').mono ?_
                rintro e w23 ⟨rfl, hb23⟩
                refine ⟨_, rfl, ?_⟩
                have HB23 : Hid (Below Wj.heap.size Wj w23) := Lib.hid (below_step (below_drew (Below.refl _ _)) hb23)
                refine hK.out _ _ ⟨c_of (blk_bel HB23.out HDJ.out) 0 (v := .string d.x.f0.f0) rfl, c_of (blk_bel HB23.out HDJ.out) 1 (v := .string d.x.f0.f1) rfl, c_of (blk_bel HB23.out HDJ.out) 2 (v := .string d.x.f0.f2) rfl, c_of (blk_bel HB23.out HDJ.out) 3 (v := .string d.x.f0.f3) rfl, c_of (blk_bel HB23.out HDJ.out) 4 (v := .slice r'.A4 d.x.f0.f4.length r'.c4) rfl, c_of (blk_bel HB23.out HDJ.out) 5 (v := .slice r'.A5 d.x.f0.f5.length r'.c5) rfl, c_of (blk_bel HB23.out HDJ.out) 6 (v := .int .i64 d.x.f1.f0) rfl, c_of (blk_bel HB23.out HDJ.out) 7 (v := .slice r'.A7 d.x.f1.f1.length r'.c7) rfl, c_of (blk_bel HB23.out HDJ.out) 8 (v := .slice r'.A8 d.x.f1.f2.length r'.c8) rfl, c_of (blk_bel HB23.out HDJ.out) 9 (v := .int .i64 d.x.f2) rfl, c_of (blk_bel HB23.out HDJ.out) 10 (v := .int .i64 d.x.f3) rfl, c_of (blk_bel HB23.out HAJ.out) 1 (v := .string x.f0.f0) rfl, c_of (blk_bel HB23.out HAJ.out) 2 (v := .string x.f0.f1) rfl, c_of (blk_bel HB23.out HAJ.out) 3 (v := .string x.f0.f2) rfl, c_of (blk_bel HB23.out HAJ.out) 4 (v := .string x.f0.f3) rfl, c_of (blk_bel HB23.out HAJ.out) 5 (v := .slice r.A4 x.f0.f4.length r.c4) rfl, c_of (blk_bel HB23.out HAJ.out) 6 (v := .slice r.A5 x.f0.f5.length r.c5) rfl⟩ (fun hHeld => ?_)
                clear hK K
                refine norm_ (a' := ?_) ?_ ?_
                rotate_left
                · show Act.put _ (some 70) _ = _
                  simp only [Act.put, List.setIfInBounds_toArray, List.set_cons_zero, List.set_cons_succ, i64_w, i32_w]
                  rfl
                refine one_ (i := 8) (N := some 74) #[true, true, true, true, true, true, true, true, true, false, false] rfl rfl (by kernel_rfl) (by decide) (fun K hK => ?_)
                refine goes_ Tryd.func17 (by kernel_rfl) rfl #[.agg #[.string d.x.f0.f0, .string d.x.f0.f1, .string d.x.f0.f2, .string d.x.f0.f3, .slice r'.A4 d.x.f0.f4.length r'.c4, .slice r'.A5 d.x.f0.f5.length r'.c5, .int .i64 d.x.f1.f0, .slice r'.A7 d.x.f1.f1.length r'.c7, .slice r'.A8 d.x.f1.f2.length r'.c8, .int .i64 d.x.f2, .int .i64 d.x.f3], .agg #[.string x.f0.f0, .string x.f0.f1, .string x.f0.f2, .string x.f0.f3, .slice r.A4 x.f0.f4.length r.c4, .slice r.A5 x.f0.f5.length r.c5]] (by rfl) rfl rfl (by simp only [List.map_toArray, List.map_cons, List.map_nil]; rfl) ?_
                with_reducible refine (HMC.out _ HB23.out).mono ?_
                rintro e w24 ⟨rfl, hb24⟩
                refine ⟨_, rfl, ?_⟩
                have HB24 : Hid (Below Wj.heap.size Wj w24) := Lib.hid (below_step HB23.out hb24)
                refine hK.out _ _ ⟨c_of (blk_bel HB24.out HDJ.out) 0 (v := .string d.x.f0.f0) rfl, c_of (blk_bel HB24.out HDJ.out) 1 (v := .string d.x.f0.f1) rfl, c_of (blk_bel HB24.out HDJ.out) 2 (v := .string d.x.f0.f2) rfl, c_of (blk_bel HB24.out HDJ.out) 3 (v := .string d.x.f0.f3) rfl, c_of (blk_bel HB24.out HDJ.out) 4 (v := .slice r'.A4 d.x.f0.f4.length r'.c4) rfl, c_of (blk_bel HB24.out HDJ.out) 5 (v := .slice r'.A5 d.x.f0.f5.length r'.c5) rfl, c_of (blk_bel HB24.out HDJ.out) 6 (v := .int .i64 d.x.f1.f0) rfl, c_of (blk_bel HB24.out HDJ.out) 7 (v := .slice r'.A7 d.x.f1.f1.length r'.c7) rfl, c_of (blk_bel HB24.out HDJ.out) 8 (v := .slice r'.A8 d.x.f1.f2.length r'.c8) rfl, c_of (blk_bel HB24.out HDJ.out) 9 (v := .int .i64 d.x.f2) rfl, c_of (blk_bel HB24.out HDJ.out) 10 (v := .int .i64 d.x.f3) rfl, c_of (blk_bel HB24.out HAJ.out) 1 (v := .string x.f0.f0) rfl, c_of (blk_bel HB24.out HAJ.out) 2 (v := .string x.f0.f1) rfl, c_of (blk_bel HB24.out HAJ.out) 3 (v := .string x.f0.f2) rfl, c_of (blk_bel HB24.out HAJ.out) 4 (v := .string x.f0.f3) rfl, c_of (blk_bel HB24.out HAJ.out) 5 (v := .slice r.A4 x.f0.f4.length r.c4) rfl, c_of (blk_bel HB24.out HAJ.out) 6 (v := .slice r.A5 x.f0.f5.length r.c5) rfl⟩ (fun hHeld => ?_)
                clear hK K
                refine norm_ (a' := ?_) ?_ ?_
                rotate_left
                · show Act.put _ (some 74) _ = _
                  simp only [Act.put, List.setIfInBounds_toArray, List.set_cons_zero, List.set_cons_succ, i64_w, i32_w]
                  rfl
                refine pure_ (i := 9) (N := some 75) (v := ?_) (a' := ?_) #[true, true, true, true, true, true, true, true, true, true, false] rfl rfl (by kernel_rfl) (fun _ _ _ h => h) (Or.inl ⟨by rfl, ?_⟩) ?_ ?_
                rotate_left
                · intro w'
                  go_simp
                  with_reducible rfl
                rotate_left
                · simp only [Act.put, List.setIfInBounds_toArray, List.set_cons_zero, List.set_cons_succ, i64_w, i32_w]
                  rfl
                refine pure_ (i := 10) (N := some 76) (v := ?_) (a' := ?_) #[true, true, true, true, true, true, true, true, true, true, true] rfl rfl (by kernel_rfl) (fun _ _ _ h => h) (Or.inl ⟨by rfl, ?_⟩) ?_ ?_
                rotate_left
                · intro w'
                  go_simp
                  with_reducible rfl
                rotate_left
                · simp only [Act.put, List.setIfInBounds_toArray, List.set_cons_zero, List.set_cons_succ, i64_w, i32_w]
                  rfl
                refine done_ (by kernel_rfl) ?_
                clear hHeld
                go_wp2
                go_roundg ko
                case measure => omega
                case rel => exact ⟨i + 1, l', A1, c1, put, by first | exact congrArg (Value.int .i64) HWI.out | go_num, rfl, hi1, hk2, hpl1, Lib.hid (HI6.out.grow (below_step HWJ.out HB24.out)), Lib.hid (below_step HBW6.out (below_step HWJ.out HB24.out)), Lib.hid (HP6.out.grow (below_step HWJ.out HB24.out)), HF5, HPM⟩
        · have t1 : (k % 4 == 1) = false := beq_eq_false_iff_ne.2 hk1
          have HK1 := Lib.hid hk1
          clear hk1
          by_cases hk4 : k % 4 = 0
          · have t0 : (k % 4 == 0) = true := beq_iff_eq.2 hk4
            have HK4 := Lib.hid hk4
            clear hk4
            obtain ⟨b, hb⟩ : ∃ b, b = rightB x := ⟨_, rfl⟩
            have HBB := Lib.hid hb
            clear hb
            go_upto_region 20 with (go_at_call 10; refine (HD.out _ HB4.out).mono ?_; rintro e w9 ⟨⟨v9, rfl⟩, ho9, l', hi9, hst, hn9⟩; have HI9 := Lib.hid hi9; have HO9 := Lib.hid ho9; have HST := Lib.hid hst; have HN9 := Lib.hid hn9; clear ho9 hi9 hst hn9)
            clear ak a0 a1 a2 a3 a4 a5 a6 a7 a8 a9 a10
            have hs9 := HO9.out.size
            have HA9 : Hid (w9.heap[Wo.heap.size]? = some (.cells #[.int .u8 k, .string x.f0.f0, .string x.f0.f1, .string x.f0.f2, .string x.f0.f3, .slice r.A4 x.f0.f4.length r.c4, .slice r.A5 x.f0.f5.length r.c5, .int .i64 x.f1.f0, .slice r.A7 x.f1.f1.length r.c7, .slice r.A8 x.f1.f2.length r.c8, .int .i64 x.f2, .int .i64 x.f3] 37 (0, 0))) := Lib.hid ((HO9.out.block _ (blk_lt' HA4.out) (fun hm => by have := HML.out _ hm; omega)).trans HA4.out)
            have HB9 : Hid (Below w.heap.size w w9) := Lib.hid (HBW4.out.trans (below_only (by omega) HO9.out HI.out.ge))
            have HP9 : Hid (PutAt w9 w.heap.size l' A1 c1 put) := Lib.hid ((HP.out.grow HB4.out).turn (HI.out.grow HB4.out) HO9.out HN9.out)
            have HX9 : Hid (Ex w9 (fun k => k < w.heap.size) x r) := Lib.hid (HX.out.keep (fun k hk => (HB9.out.block k hk).trans (HW.out.block k hk).symm))
            have HPUT : Hid (Put cap x xs l') := Lib.hid (HST.out.1 HK4.out)
            have HRC := Lib.hid (rright_calls w9 _ x r HX9.out)
            rw [← HBB.out] at HRC
            have bk := c_of HA9.out 0 (v := .int .u8 k) rfl
            have b0 := c_of HA9.out 1 (v := .string x.f0.f0) rfl
            have b1 := c_of HA9.out 2 (v := .string x.f0.f1) rfl
            have b2 := c_of HA9.out 3 (v := .string x.f0.f2) rfl
            have b3 := c_of HA9.out 4 (v := .string x.f0.f3) rfl
            have b4 := c_of HA9.out 5 (v := .slice r.A4 x.f0.f4.length r.c4) rfl
            have b5 := c_of HA9.out 6 (v := .slice r.A5 x.f0.f5.length r.c5) rfl
            have b6 := c_of HA9.out 7 (v := .int .i64 x.f1.f0) rfl
            have b7 := c_of HA9.out 8 (v := .slice r.A7 x.f1.f1.length r.c7) rfl
            have b8 := c_of HA9.out 9 (v := .slice r.A8 x.f1.f2.length r.c8) rfl
            have b9 := c_of HA9.out 10 (v := .int .i64 x.f2) rfl
            have b10 := c_of HA9.out 11 (v := .int .i64 x.f3) rfl
            cases b with
            | false =>
              go_wp2_with (go_at_call 18; refine HRC.out.mono ?_; rintro e w12 ⟨rfl, hb12⟩; have HB12 := Lib.hid hb12; clear hb12)
              have HL : Hid (l' = xs) := Lib.hid (by
                rcases HPUT.out with ⟨_, h⟩ | ⟨h, _⟩ | ⟨h, _⟩
                · exact h
                · rw [← HBB.out] at h; cases h
                · rw [← HBB.out] at h; cases h)
              go_roundg ko
              case measure => omega
              case rel => exact ⟨i + 1, l', A1, c1, put, by first | exact congrArg (Value.int .i64) HWI.out | go_num, rfl, hi1, hk2, hpl1, Lib.hid (HI9.out.grow HB12.out), Lib.hid (below_step HB9.out HB12.out), Lib.hid (HP9.out.grow HB12.out), Lib.hid (by rw [HL.out]; exact HF.out), HPM⟩
            | true =>
              go_upto_region 22 with (first
                | (go_at_call 18; refine HRC.out.mono ?_; rintro e w12 ⟨rfl, hb12⟩; have HB12 := Lib.hid hb12; clear hb12; have HA12 := Lib.hid (blk_bel HB12.out HA9.out); have bk := c_of HA12.out 0 (v := .int .u8 k) rfl; have b0 := c_of HA12.out 1 (v := .string x.f0.f0) rfl; have b1 := c_of HA12.out 2 (v := .string x.f0.f1) rfl; have b2 := c_of HA12.out 3 (v := .string x.f0.f2) rfl; have b3 := c_of HA12.out 4 (v := .string x.f0.f3) rfl; have b4 := c_of HA12.out 5 (v := .slice r.A4 x.f0.f4.length r.c4) rfl; have b5 := c_of HA12.out 6 (v := .slice r.A5 x.f0.f5.length r.c5) rfl; have b6 := c_of HA12.out 7 (v := .int .i64 x.f1.f0) rfl; have b7 := c_of HA12.out 8 (v := .slice r.A7 x.f1.f1.length r.c7) rfl; have b8 := c_of HA12.out 9 (v := .slice r.A8 x.f1.f2.length r.c8) rfl; have b9 := c_of HA12.out 10 (v := .int .i64 x.f2) rfl; have b10 := c_of HA12.out 11 (v := .int .i64 x.f3) rfl; obtain ⟨A9, c9, w99, hrun, hown, hgr, hwh⟩ := app46_eq2 w12 w.heap.size A1 c1 put x r (HP9.out.grow HB12.out).row.row (by have := HB12.out.size; omega) hpl3; have HR99 := Lib.hid hrun; have HO99 := Lib.hid hown; have HG99 := Lib.hid hgr; have HW99 := Lib.hid hwh; clear hrun hown hgr hwh)
                | (at_builtin; refine app46_at rfl _ _ rfl rfl rfl rfl HR99.out ?_))
              clear b0 b1 b2 b3 b4 b5 b6 b7 b8 b9 b10 bk
              have hPS := put_snoc HP9.out HI9.out (by omega) HB12.out HX9.out HO99.out HG99.out HW99.out
              have HP13 := Lib.hid hPS.1
              have HI13 := Lib.hid hPS.2
              have HB13 : Hid (Below w.heap.size w w99) := Lib.hid (below_snoc (HB9.out.trans (HB12.out.mono (by omega))) (by omega) (fun ad e => (l5_lt HP9.out.row ad e).1) HG99.out)
              have HF13 : Hid (From l' (put ++ [(x, r)])) := Lib.hid (from_put HF.out HPUT.out)
              have HPM13 : Hid (∀ p ∈ put ++ [(x, r)], Sm p.1) := Lib.hid (fun p hp => by
                rcases List.mem_append.1 hp with hp | hp
                · exact HPM.out p hp
                · obtain rfl : p = (x, r) := by simpa using hp
                  exact HSX.out.1)
              have HA99 : Hid (w99.heap[Wo.heap.size]? = some (.cells #[.int .u8 k, .string x.f0.f0, .string x.f0.f1, .string x.f0.f2, .string x.f0.f3, .slice r.A4 x.f0.f4.length r.c4, .slice r.A5 x.f0.f5.length r.c5, .int .i64 x.f1.f0, .slice r.A7 x.f1.f1.length r.c7, .slice r.A8 x.f1.f2.length r.c8, .int .i64 x.f2, .int .i64 x.f3] 37 (0, 0))) := Lib.hid (by
                have h1 := blk_bel HB12.out HA9.out
                have h2 := blk_lt' h1
                rw [HG99.out.block _ (by simp; omega) ?_, heap_alloc_old _ _ _ (by omega)]
                · exact h1
                · rcases A1 with _ | ad1
                  · simp [Value.ownBlock]
                  · intro e
                    simp only [own_block, Option.some.injEq] at e
                    have := (l5_lt HP.out.row ad1 rfl).2
                    omega)
              have HX99 : Hid (Ex w99 (fun k => k < w.heap.size) x r) := Lib.hid (HX.out.keep (fun k hk => (HB13.out.block k hk).trans (HW.out.block k hk).symm))
              have hlen9 := HI13.out.len
              have HQK : Hid (l'.length ≤ 1024) := Lib.hid hlen9
              have HL2 := Lib.hid (list_made w99 w.heap.size cap (zs l') l' _ HI13.out.st (fun d hd => ⟨HI13.out.ex d hd, sm_fits (HI13.out.sm d hd).1⟩) (by omega))
              have hs13 := HB13.out.size
              clear hlen9 hPS
              go_upto_region 23 with (go_at_call 11; refine HL2.out.mono ?_; rintro e w20 ⟨A20, c20, qs, rfl, hmap, hls, hb20⟩; have HLS2 := Lib.hid hls; have HB20 := Lib.hid hb20; have HMAP2 := Lib.hid hmap; clear hmap hls hb20)
              have HA20 := Lib.hid (blk_bel HB20.out HA99.out)
              have HX20 := Lib.hid (HX99.out.below HB20.out)
              have HSZ := Lib.hid (fun W' (hw : Below w20.heap.size w20 W') => rsize_calls W' _ x r (HX20.out.below hw) HSX.out.1)
              by_cases hroom : sizeI x ≤ cap
              · have tr : decide (sizeI x ≤ cap) = true := decide_eq_true hroom
                obtain ⟨y, s, ad3, HQS, HYX, hq1, rfl, hqs3⟩ : ∃ y s ad3, Hid (qs[0]? = some (y, s)) ∧ Hid (y = x) ∧ 0 < qs.length ∧ A20 = some ad3 ∧ True := by
                  obtain ⟨d0, t, hl, hd⟩ := put_head HPUT.out HBB.out.symm hroom
                  have h1 := congrArg List.length HMAP2.out
                  rw [hl] at h1
                  simp only [List.length_map, List.length_cons] at h1
                  obtain ⟨ad3, y, s, e, hqs, _⟩ := ls_at HLS2.out 0 (by omega)
                  refine ⟨y, s, ad3, Lib.hid hqs, Lib.hid ?_, by omega, e, trivial⟩
                  have h2 := congrArg (fun l => l[0]?) HMAP2.out
                  simp only [List.getElem?_map, hqs, hl, List.getElem?_cons_zero, Option.map_some, Option.some.injEq] at h2
                  exact h2.trans hd
                obtain ⟨ad3', y', s', e3, hqs, g0, g1, g2, g3, g4, g5, g6, g7, g8, g9, g10, hE⟩ := ls_at HLS2.out 0 hq1
                obtain rfl : ad3 = ad3' := by simpa using e3
                have e4 := HQS.out.symm.trans hqs
                simp only [Option.some.injEq, Prod.mk.injEq] at e4
                obtain ⟨rfl, rfl⟩ := e4
                have hz : ad3.add (0 * 11) = ad3 := by simp [Addr.add]
                rw [hz] at g0 g1 g2 g3 g4 g5 g6 g7 g8 g9 g10
                have e0 : ((qs.length : Int) == 0) = false := beq_eq_false_iff_ne.2 (by omega)
                have r1 : (0 : Int) < (qs.length : Int) := by omega
                have HE := Lib.hid hE
                have HSY : Hid (Sm y) := Lib.hid (by rw [HYX.out]; exact HSX.out.1)
                have HONE := Lib.hid (fun W' (hw : Below w20.heap.size w20 W') => one_calls W' _ _ y x s r (HE.out.below hw) (HX20.out.below hw) HSY.out)
                have hone : oneB (to35 y) (to35 x) = true := by rw [HYX.out]; exact oneB_refl _
                rw [hone] at HONE
                clear hone e3 hqs hE hz hroom
                refine start_ (n := 20) (S := fun w' => w'.cell? ⟨Wo.heap.size, 1, none⟩ = some (.string x.f0.f0) ∧ w'.cell? ⟨Wo.heap.size, 2, none⟩ = some (.string x.f0.f1) ∧ w'.cell? ⟨Wo.heap.size, 3, none⟩ = some (.string x.f0.f2) ∧ w'.cell? ⟨Wo.heap.size, 4, none⟩ = some (.string x.f0.f3) ∧ w'.cell? ⟨Wo.heap.size, 5, none⟩ = some (.slice r.A4 x.f0.f4.length r.c4) ∧ w'.cell? ⟨Wo.heap.size, 6, none⟩ = some (.slice r.A5 x.f0.f5.length r.c5) ∧ w'.cell? ⟨Wo.heap.size, 7, none⟩ = some (.int .i64 x.f1.f0) ∧ w'.cell? ⟨Wo.heap.size, 8, none⟩ = some (.slice r.A7 x.f1.f1.length r.c7) ∧ w'.cell? ⟨Wo.heap.size, 9, none⟩ = some (.slice r.A8 x.f1.f2.length r.c8) ∧ w'.cell? ⟨Wo.heap.size, 10, none⟩ = some (.int .i64 x.f2) ∧ w'.cell? ⟨Wo.heap.size, 11, none⟩ = some (.int .i64 x.f3) ∧ w'.cell? ad3 = some (.string y.f0.f0) ∧ w'.cell? ⟨ad3.block, ad3.off + 1, none⟩ = some (.string y.f0.f1) ∧ w'.cell? ⟨ad3.block, ad3.off + 2, none⟩ = some (.string y.f0.f2) ∧ w'.cell? ⟨ad3.block, ad3.off + 3, none⟩ = some (.string y.f0.f3) ∧ w'.cell? ⟨ad3.block, ad3.off + 4, none⟩ = some (.slice s.A4 y.f0.f4.length s.c4) ∧ w'.cell? ⟨ad3.block, ad3.off + 5, none⟩ = some (.slice s.A5 y.f0.f5.length s.c5) ∧ w'.cell? ⟨ad3.block, ad3.off + 6, none⟩ = some (.int .i64 y.f1.f0) ∧ w'.cell? ⟨ad3.block, ad3.off + 7, none⟩ = some (.slice s.A7 y.f1.f1.length s.c7) ∧ w'.cell? ⟨ad3.block, ad3.off + 8, none⟩ = some (.slice s.A8 y.f1.f2.length s.c8) ∧ w'.cell? ⟨ad3.block, ad3.off + 9, none⟩ = some (.int .i64 y.f2) ∧ w'.cell? ⟨ad3.block, ad3.off + 10, none⟩ = some (.int .i64 y.f3)) (ds := []) #[false, false, false, false, false, false, false, false, false, false, false, false, false, false, false, false, false, false, false, false] (by kernel_rfl) rfl rfl ⟨c_of HA20.out 1 (v := .string x.f0.f0) rfl, c_of HA20.out 2 (v := .string x.f0.f1) rfl, c_of HA20.out 3 (v := .string x.f0.f2) rfl, c_of HA20.out 4 (v := .string x.f0.f3) rfl, c_of HA20.out 5 (v := .slice r.A4 x.f0.f4.length r.c4) rfl, c_of HA20.out 6 (v := .slice r.A5 x.f0.f5.length r.c5) rfl, c_of HA20.out 7 (v := .int .i64 x.f1.f0) rfl, c_of HA20.out 8 (v := .slice r.A7 x.f1.f1.length r.c7) rfl, c_of HA20.out 9 (v := .slice r.A8 x.f1.f2.length r.c8) rfl, c_of HA20.out 10 (v := .int .i64 x.f2) rfl, c_of HA20.out 11 (v := .int .i64 x.f3) rfl, g0, g1, g2, g3, g4, g5, g6, g7, g8, g9, g10⟩ (fun hHeld => ?_)
                refine pure_ (i := 0) (N := some 96) (v := ?_) (a' := ?_) #[true, false, false, false, false, false, false, false, false, false, false, false, false, false, false, false, false, false, false, false] rfl rfl (by kernel_rfl) (fun _ _ _ h => h) (Or.inl ⟨by rfl, ?_⟩) ?_ ?_
                rotate_left
                · intro w'
                  go_simp
                  with_reducible rfl
                rotate_left
                · simp only [Act.put, List.setIfInBounds_toArray, List.set_cons_zero, List.set_cons_succ, i64_w, i32_w]
                  rfl
                refine pure_ (i := 3) (N := some 99) (v := ?_) (a' := ?_) #[true, false, false, true, false, false, false, false, false, false, false, false, false, false, false, false, false, false, false, false] rfl rfl (by kernel_rfl) (fun _ _ _ h => h) (Or.inl ⟨by rfl, ?_⟩) ?_ ?_
                rotate_left
                · intro w'
                  go_simp
                  with_reducible rfl
                rotate_left
                · simp only [Act.put, List.setIfInBounds_toArray, List.set_cons_zero, List.set_cons_succ, i64_w, i32_w]
                  rfl
                refine take_ (i := 1) (N := some 97) (v := ?_) (a' := ?_) #[true, true, false, true, false, false, false, false, false, false, false, false, false, false, false, false, false, false, false, false] rfl rfl (by kernel_rfl) (fun _ _ _ h => h) (Or.inl ⟨by rfl, ?_⟩) hHeld ?_ ?_
                rotate_left
                · rintro w' ⟨s0, s1, s2, s3, s4, s5, s6, s7, s8, s9, s10, s11, s12, s13, s14, s15, s16, s17, s18, s19, s20, s21⟩
                  go_simp
                  with_reducible rfl
                rotate_left
                · simp only [Act.put, List.setIfInBounds_toArray, List.set_cons_zero, List.set_cons_succ, i64_w, i32_w]
                  rfl
                refine one_ (i := 2) (N := some 98) #[true, true, true, true, false, false, false, false, false, false, false, false, false, false, false, false, false, false, false, false] rfl rfl (by kernel_rfl) (by decide) (fun K hK => ?_)
                refine goes_ Tryd.func12 (by kernel_rfl) rfl #[.agg #[.string x.f0.f0, .string x.f0.f1, .string x.f0.f2, .string x.f0.f3, .slice r.A4 x.f0.f4.length r.c4, .slice r.A5 x.f0.f5.length r.c5, .int .i64 x.f1.f0, .slice r.A7 x.f1.f1.length r.c7, .slice r.A8 x.f1.f2.length r.c8, .int .i64 x.f2, .int .i64 x.f3]] (by rfl) rfl rfl (by simp only [List.map_toArray, List.map_cons, List.map_nil]; rfl) ?_
                with_reducible refine (HSZ.out _ (below_drew (Below.refl _ _))).mono ?_
                rintro e w31 ⟨rfl, hb31⟩
                refine ⟨_, rfl, ?_⟩
                have HB31 : Hid (Below w20.heap.size w20 w31) := Lib.hid (below_step (below_drew (Below.refl _ _)) hb31)
                refine hK.out _ _ ⟨c_of (blk_bel HB31.out HA20.out) 1 (v := .string x.f0.f0) rfl, c_of (blk_bel HB31.out HA20.out) 2 (v := .string x.f0.f1) rfl, c_of (blk_bel HB31.out HA20.out) 3 (v := .string x.f0.f2) rfl, c_of (blk_bel HB31.out HA20.out) 4 (v := .string x.f0.f3) rfl, c_of (blk_bel HB31.out HA20.out) 5 (v := .slice r.A4 x.f0.f4.length r.c4) rfl, c_of (blk_bel HB31.out HA20.out) 6 (v := .slice r.A5 x.f0.f5.length r.c5) rfl, c_of (blk_bel HB31.out HA20.out) 7 (v := .int .i64 x.f1.f0) rfl, c_of (blk_bel HB31.out HA20.out) 8 (v := .slice r.A7 x.f1.f1.length r.c7) rfl, c_of (blk_bel HB31.out HA20.out) 9 (v := .slice r.A8 x.f1.f2.length r.c8) rfl, c_of (blk_bel HB31.out HA20.out) 10 (v := .int .i64 x.f2) rfl, c_of (blk_bel HB31.out HA20.out) 11 (v := .int .i64 x.f3) rfl, pw_cell_below HB31.out g0, pw_cell_below HB31.out g1, pw_cell_below HB31.out g2, pw_cell_below HB31.out g3, pw_cell_below HB31.out g4, pw_cell_below HB31.out g5, pw_cell_below HB31.out g6, pw_cell_below HB31.out g7, pw_cell_below HB31.out g8, pw_cell_below HB31.out g9, pw_cell_below HB31.out g10⟩ (fun hHeld => ?_)
                clear hK K
                refine norm_ (a' := ?_) ?_ ?_
                rotate_left
                · show Act.put _ (some 98) _ = _
                  simp only [Act.put, List.setIfInBounds_toArray, List.set_cons_zero, List.set_cons_succ, i64_w, i32_w]
                  rfl
                refine pure_ (i := 4) (N := some 100) (v := ?_) (a' := ?_) #[true, true, true, true, true, false, false, false, false, false, false, false, false, false, false, false, false, false, false, false] rfl rfl (by kernel_rfl) (fun _ _ _ h => h) (Or.inl ⟨by rfl, ?_⟩) ?_ ?_
                rotate_left
                · intro w'
                  go_simp
                  with_reducible rfl
                rotate_left
                · simp only [Act.put, List.setIfInBounds_toArray, List.set_cons_zero, List.set_cons_succ, i64_w, i32_w]
                  rfl
                refine pure_ (i := 5) (N := some 101) (v := ?_) (a' := ?_) #[true, true, true, true, true, true, false, false, false, false, false, false, false, false, false, false, false, false, false, false] rfl rfl (by kernel_rfl) (fun _ _ _ h => h) (Or.inl ⟨by rfl, ?_⟩) ?_ ?_
                rotate_left
                · intro w'
                  go_simp
                  with_reducible rfl
                rotate_left
                · simp only [Act.put, List.setIfInBounds_toArray, List.set_cons_zero, List.set_cons_succ, i64_w, i32_w]
                  rfl
                refine pure_ (i := 6) (N := some 102) (v := ?_) (a' := ?_) #[true, true, true, true, true, true, true, false, false, false, false, false, false, false, false, false, false, false, false, false] rfl rfl (by kernel_rfl) (fun _ _ _ h => h) (Or.inl ⟨by rfl, ?_⟩) ?_ ?_
                rotate_left
                · intro w'
                  go_simp
                  with_reducible rfl
                rotate_left
                · simp only [Act.put, List.setIfInBounds_toArray, List.set_cons_zero, List.set_cons_succ, i64_w, i32_w]
                  rfl
                refine pure_ (i := 7) (N := some 103) (v := ?_) (a' := ?_) #[true, true, true, true, true, true, true, true, false, false, false, false, false, false, false, false, false, false, false, false] rfl rfl (by kernel_rfl) (fun _ _ _ h => h) (Or.inl ⟨by rfl, ?_⟩) ?_ ?_
                rotate_left
                · intro w'
                  go_simp
                  with_reducible rfl
                rotate_left
                · simp only [Act.put, List.setIfInBounds_toArray, List.set_cons_zero, List.set_cons_succ, i64_w, i32_w]
                  rfl
                refine pure_ (i := 8) (N := some 104) (v := ?_) (a' := ?_) #[true, true, true, true, true, true, true, true, true, false, false, false, false, false, false, false, false, false, false, false] rfl rfl (by kernel_rfl) (fun _ _ _ h => h) (Or.inl ⟨by rfl, ?_⟩) ?_ ?_
                rotate_left
                · intro w'
                  go_simp
                  with_reducible rfl
                rotate_left
                · simp only [Act.put, List.setIfInBounds_toArray, List.set_cons_zero, List.set_cons_succ, i64_w, i32_w]
                  rfl
                refine pure_ (i := 9) (N := some 105) (v := ?_) (a' := ?_) #[true, true, true, true, true, true, true, true, true, true, false, false, false, false, false, false, false, false, false, false] rfl rfl (by kernel_rfl) (fun _ _ _ h => h) (Or.inl ⟨by rfl, ?_⟩) ?_ ?_
                rotate_left
                · intro w'
                  go_simp
                  with_reducible rfl
                rotate_left
                · simp only [Act.put, List.setIfInBounds_toArray, List.set_cons_zero, List.set_cons_succ, i64_w, i32_w]
                  rfl
                refine pure_ (i := 10) (N := some 106) (v := ?_) (a' := ?_) #[true, true, true, true, true, true, true, true, true, true, true, false, false, false, false, false, false, false, false, false] rfl rfl (by kernel_rfl) (fun _ _ _ h => h) (Or.inl ⟨by rfl, ?_⟩) ?_ ?_
                rotate_left
                · intro w'
                  go_simp
                  with_reducible rfl
                rotate_left
                · simp only [Act.put, List.setIfInBounds_toArray, List.set_cons_zero, List.set_cons_succ, i64_w, i32_w]
                  rfl
                refine pure_ (i := 11) (N := some 107) (v := ?_) (a' := ?_) #[true, true, true, true, true, true, true, true, true, true, true, true, false, false, false, false, false, false, false, false] rfl rfl (by kernel_rfl) (fun _ _ _ h => h) (Or.inl ⟨by rfl, ?_⟩) ?_ ?_
                rotate_left
                · intro w'
                  go_simp
                  with_reducible rfl
                rotate_left
                · simp only [Act.put, List.setIfInBounds_toArray, List.set_cons_zero, List.set_cons_succ, i64_w, i32_w]
                  rfl
                refine pure_ (i := 14) (N := some 110) (v := ?_) (a' := ?_) #[true, true, true, true, true, true, true, true, true, true, true, true, false, false, true, false, false, false, false, false] rfl rfl (by kernel_rfl) (fun _ _ _ h => h) (Or.inl ⟨by rfl, ?_⟩) ?_ ?_
                rotate_left
                · intro w'
                  go_simp
                  with_reducible rfl
                rotate_left
                · simp only [Act.put, List.setIfInBounds_toArray, List.set_cons_zero, List.set_cons_succ, i64_w, i32_w]
                  rfl
                refine take_ (i := 12) (N := some 108) (v := ?_) (a' := ?_) #[true, true, true, true, true, true, true, true, true, true, true, true, true, false, true, false, false, false, false, false] rfl rfl (by kernel_rfl) (fun _ _ _ h => h) (Or.inl ⟨by rfl, ?_⟩) hHeld ?_ ?_
                rotate_left
                · rintro w' ⟨s0, s1, s2, s3, s4, s5, s6, s7, s8, s9, s10, s11, s12, s13, s14, s15, s16, s17, s18, s19, s20, s21⟩
                  go_simp
                  with_reducible rfl
                rotate_left
                · simp only [Act.put, List.setIfInBounds_toArray, List.set_cons_zero, List.set_cons_succ, i64_w, i32_w]
                  rfl
                refine take_ (i := 15) (N := some 111) (v := ?_) (a' := ?_) #[true, true, true, true, true, true, true, true, true, true, true, true, true, false, true, true, false, false, false, false] rfl rfl (by kernel_rfl) (fun _ _ _ h => h) (Or.inl ⟨by rfl, ?_⟩) hHeld ?_ ?_
                rotate_left
                · rintro w' ⟨s0, s1, s2, s3, s4, s5, s6, s7, s8, s9, s10, s11, s12, s13, s14, s15, s16, s17, s18, s19, s20, s21⟩
                  go_simp
                  with_reducible rfl
                rotate_left
                · simp only [Act.put, List.setIfInBounds_toArray, List.set_cons_zero, List.set_cons_succ, i64_w, i32_w]
                  rfl
                refine one_ (i := 13) (N := some 109) #[true, true, true, true, true, true, true, true, true, true, true, true, true, true, true, true, false, false, false, false] rfl rfl (by kernel_rfl) (by decide) (fun K hK => ?_)
                refine goes_ Tryd.func13 (by kernel_rfl) rfl #[.agg #[.string y.f0.f0, .string y.f0.f1, .string y.f0.f2, .string y.f0.f3, .slice s.A4 y.f0.f4.length s.c4, .slice s.A5 y.f0.f5.length s.c5, .int .i64 y.f1.f0, .slice s.A7 y.f1.f1.length s.c7, .slice s.A8 y.f1.f2.length s.c8, .int .i64 y.f2, .int .i64 y.f3]] (by rfl) rfl rfl (by simp only [List.map_toArray, List.map_cons, List.map_nil]; rfl) ?_
                with_reducible refine (ours_calls _ y s).mono ?_
                rintro e w33 ⟨rfl, hb33⟩
                refine ⟨_, rfl, ?_⟩
                have HB33 : Hid (Below w20.heap.size w20 w33) := Lib.hid (below_step HB31.out hb33)
                refine hK.out _ _ ⟨c_of (blk_bel HB33.out HA20.out) 1 (v := .string x.f0.f0) rfl, c_of (blk_bel HB33.out HA20.out) 2 (v := .string x.f0.f1) rfl, c_of (blk_bel HB33.out HA20.out) 3 (v := .string x.f0.f2) rfl, c_of (blk_bel HB33.out HA20.out) 4 (v := .string x.f0.f3) rfl, c_of (blk_bel HB33.out HA20.out) 5 (v := .slice r.A4 x.f0.f4.length r.c4) rfl, c_of (blk_bel HB33.out HA20.out) 6 (v := .slice r.A5 x.f0.f5.length r.c5) rfl, c_of (blk_bel HB33.out HA20.out) 7 (v := .int .i64 x.f1.f0) rfl, c_of (blk_bel HB33.out HA20.out) 8 (v := .slice r.A7 x.f1.f1.length r.c7) rfl, c_of (blk_bel HB33.out HA20.out) 9 (v := .slice r.A8 x.f1.f2.length r.c8) rfl, c_of (blk_bel HB33.out HA20.out) 10 (v := .int .i64 x.f2) rfl, c_of (blk_bel HB33.out HA20.out) 11 (v := .int .i64 x.f3) rfl, pw_cell_below HB33.out g0, pw_cell_below HB33.out g1, pw_cell_below HB33.out g2, pw_cell_below HB33.out g3, pw_cell_below HB33.out g4, pw_cell_below HB33.out g5, pw_cell_below HB33.out g6, pw_cell_below HB33.out g7, pw_cell_below HB33.out g8, pw_cell_below HB33.out g9, pw_cell_below HB33.out g10⟩ (fun hHeld => ?_)
                clear hK K
                refine norm_ (a' := ?_) ?_ ?_
                rotate_left
                · show Act.put _ (some 109) _ = _
                  simp only [Act.put, List.setIfInBounds_toArray, List.set_cons_zero, List.set_cons_succ, i64_w, i32_w]
                  rfl
                refine one_ (i := 16) (N := some 112) #[true, true, true, true, true, true, true, true, true, true, true, true, true, true, true, true, true, false, false, false] rfl rfl (by kernel_rfl) (by decide) (fun K hK => ?_)
                refine goes_ Tryd.func16 (by kernel_rfl) rfl #[.agg #[.string y.f0.f0, .string y.f0.f1, .string y.f0.f2, .string y.f0.f3, .slice s.A4 y.f0.f4.length s.c4, .slice s.A5 y.f0.f5.length s.c5, .int .i64 y.f1.f0, .slice s.A7 y.f1.f1.length s.c7, .slice s.A8 y.f1.f2.length s.c8, .int .i64 y.f2, .int .i64 y.f3], .agg #[.string x.f0.f0, .string x.f0.f1, .string x.f0.f2, .string x.f0.f3, .slice r.A4 x.f0.f4.length r.c4, .slice r.A5 x.f0.f5.length r.c5, .int .i64 x.f1.f0, .slice r.A7 x.f1.f1.length r.c7, .slice r.A8 x.f1.f2.length r.c8, .int .i64 x.f2, .int .i64 x.f3]] (by rfl) rfl rfl (by simp only [List.map_toArray, List.map_cons, List.map_nil]; rfl) ?_
                with_reducible refine (HONE.out _ HB33.out).mono ?_
                rintro e w34 ⟨rfl, hb34⟩
                refine ⟨_, rfl, ?_⟩
                have HB34 : Hid (Below w20.heap.size w20 w34) := Lib.hid (below_step HB33.out hb34)
                refine hK.out _ _ ⟨c_of (blk_bel HB34.out HA20.out) 1 (v := .string x.f0.f0) rfl, c_of (blk_bel HB34.out HA20.out) 2 (v := .string x.f0.f1) rfl, c_of (blk_bel HB34.out HA20.out) 3 (v := .string x.f0.f2) rfl, c_of (blk_bel HB34.out HA20.out) 4 (v := .string x.f0.f3) rfl, c_of (blk_bel HB34.out HA20.out) 5 (v := .slice r.A4 x.f0.f4.length r.c4) rfl, c_of (blk_bel HB34.out HA20.out) 6 (v := .slice r.A5 x.f0.f5.length r.c5) rfl, c_of (blk_bel HB34.out HA20.out) 7 (v := .int .i64 x.f1.f0) rfl, c_of (blk_bel HB34.out HA20.out) 8 (v := .slice r.A7 x.f1.f1.length r.c7) rfl, c_of (blk_bel HB34.out HA20.out) 9 (v := .slice r.A8 x.f1.f2.length r.c8) rfl, c_of (blk_bel HB34.out HA20.out) 10 (v := .int .i64 x.f2) rfl, c_of (blk_bel HB34.out HA20.out) 11 (v := .int .i64 x.f3) rfl, pw_cell_below HB34.out g0, pw_cell_below HB34.out g1, pw_cell_below HB34.out g2, pw_cell_below HB34.out g3, pw_cell_below HB34.out g4, pw_cell_below HB34.out g5, pw_cell_below HB34.out g6, pw_cell_below HB34.out g7, pw_cell_below HB34.out g8, pw_cell_below HB34.out g9, pw_cell_below HB34.out g10⟩ (fun hHeld => ?_)
                clear hK K
                refine norm_ (a' := ?_) ?_ ?_
                rotate_left
                · show Act.put _ (some 112) _ = _
                  simp only [Act.put, List.setIfInBounds_toArray, List.set_cons_zero, List.set_cons_succ, i64_w, i32_w]
                  rfl
                refine pure_ (i := 17) (N := some 113) (v := ?_) (a' := ?_) #[true, true, true, true, true, true, true, true, true, true, true, true, true, true, true, true, true, true, false, false] rfl rfl (by kernel_rfl) (fun _ _ _ h => h) (Or.inl ⟨by rfl, ?_⟩) ?_ ?_
                rotate_left
                · intro w'
                  go_simp
                  with_reducible rfl
                rotate_left
                · simp only [Act.put, List.setIfInBounds_toArray, List.set_cons_zero, List.set_cons_succ, i64_w, i32_w]
                  rfl
                refine pure_ (i := 18) (N := some 114) (v := ?_) (a' := ?_) #[true, true, true, true, true, true, true, true, true, true, true, true, true, true, true, true, true, true, true, false] rfl rfl (by kernel_rfl) (fun _ _ _ h => h) (Or.inl ⟨by rfl, ?_⟩) ?_ ?_
                rotate_left
                · intro w'
                  go_simp
                  with_reducible rfl
                rotate_left
                · simp only [Act.put, List.setIfInBounds_toArray, List.set_cons_zero, List.set_cons_succ, i64_w, i32_w]
                  rfl
                refine pure_ (i := 19) (N := some 115) (v := ?_) (a' := ?_) #[true, true, true, true, true, true, true, true, true, true, true, true, true, true, true, true, true, true, true, true] rfl rfl (by kernel_rfl) (fun _ _ _ h => h) (Or.inl ⟨by rfl, ?_⟩) ?_ ?_
                rotate_left
                · intro w'
                  go_simp
                  with_reducible rfl
                rotate_left
                · simp only [Act.put, List.setIfInBounds_toArray, List.set_cons_zero, List.set_cons_succ, i64_w, i32_w]
                  rfl
                refine done_ (by kernel_rfl) ?_
                clear hHeld
                go_wp2
                go_roundg ko
                case measure => omega
                case rel => exact ⟨i + 1, l', A9, c9, put ++ [(x, r)], by first | exact congrArg (Value.int .i64) HWI.out | go_num, by simp, hi1, hk2, by simpa using hpl2, Lib.hid (HI13.out.grow (below_step HB20.out HB34.out)), Lib.hid (below_step HB13.out (below_step HB20.out HB34.out)), Lib.hid (HP13.out.grow (below_step HB20.out HB34.out)), HF13, HPM13⟩
              · have tr : decide (sizeI x ≤ cap) = false := decide_eq_false hroom
                clear hroom
                refine start_ (n := 20) (S := fun w' => w'.cell? ⟨Wo.heap.size, 1, none⟩ = some (.string x.f0.f0) ∧ w'.cell? ⟨Wo.heap.size, 2, none⟩ = some (.string x.f0.f1) ∧ w'.cell? ⟨Wo.heap.size, 3, none⟩ = some (.string x.f0.f2) ∧ w'.cell? ⟨Wo.heap.size, 4, none⟩ = some (.string x.f0.f3) ∧ w'.cell? ⟨Wo.heap.size, 5, none⟩ = some (.slice r.A4 x.f0.f4.length r.c4) ∧ w'.cell? ⟨Wo.heap.size, 6, none⟩ = some (.slice r.A5 x.f0.f5.length r.c5) ∧ w'.cell? ⟨Wo.heap.size, 7, none⟩ = some (.int .i64 x.f1.f0) ∧ w'.cell? ⟨Wo.heap.size, 8, none⟩ = some (.slice r.A7 x.f1.f1.length r.c7) ∧ w'.cell? ⟨Wo.heap.size, 9, none⟩ = some (.slice r.A8 x.f1.f2.length r.c8) ∧ w'.cell? ⟨Wo.heap.size, 10, none⟩ = some (.int .i64 x.f2) ∧ w'.cell? ⟨Wo.heap.size, 11, none⟩ = some (.int .i64 x.f3)) (ds := []) #[false, false, false, false, false, false, false, false, false, false, false, false, false, false, false, false, false, false, false, false] (by kernel_rfl) rfl rfl ⟨c_of HA20.out 1 (v := .string x.f0.f0) rfl, c_of HA20.out 2 (v := .string x.f0.f1) rfl, c_of HA20.out 3 (v := .string x.f0.f2) rfl, c_of HA20.out 4 (v := .string x.f0.f3) rfl, c_of HA20.out 5 (v := .slice r.A4 x.f0.f4.length r.c4) rfl, c_of HA20.out 6 (v := .slice r.A5 x.f0.f5.length r.c5) rfl, c_of HA20.out 7 (v := .int .i64 x.f1.f0) rfl, c_of HA20.out 8 (v := .slice r.A7 x.f1.f1.length r.c7) rfl, c_of HA20.out 9 (v := .slice r.A8 x.f1.f2.length r.c8) rfl, c_of HA20.out 10 (v := .int .i64 x.f2) rfl, c_of HA20.out 11 (v := .int .i64 x.f3) rfl⟩ (fun hHeld => ?_)
                refine pure_ (i := 0) (N := some 96) (v := ?_) (a' := ?_) #[true, false, false, false, false, false, false, false, false, false, false, false, false, false, false, false, false, false, false, false] rfl rfl (by kernel_rfl) (fun _ _ _ h => h) (Or.inl ⟨by rfl, ?_⟩) ?_ ?_
                rotate_left
                · intro w'
                  go_simp
                  with_reducible rfl
                rotate_left
                · simp only [Act.put, List.setIfInBounds_toArray, List.set_cons_zero, List.set_cons_succ, i64_w, i32_w]
                  rfl
                refine pure_ (i := 3) (N := some 99) (v := ?_) (a' := ?_) #[true, false, false, true, false, false, false, false, false, false, false, false, false, false, false, false, false, false, false, false] rfl rfl (by kernel_rfl) (fun _ _ _ h => h) (Or.inl ⟨by rfl, ?_⟩) ?_ ?_
                rotate_left
                · intro w'
                  go_simp
                  with_reducible rfl
                rotate_left
                · simp only [Act.put, List.setIfInBounds_toArray, List.set_cons_zero, List.set_cons_succ, i64_w, i32_w]
                  rfl
                refine take_ (i := 1) (N := some 97) (v := ?_) (a' := ?_) #[true, true, false, true, false, false, false, false, false, false, false, false, false, false, false, false, false, false, false, false] rfl rfl (by kernel_rfl) (fun _ _ _ h => h) (Or.inl ⟨by rfl, ?_⟩) hHeld ?_ ?_
                rotate_left
                · rintro w' ⟨s0, s1, s2, s3, s4, s5, s6, s7, s8, s9, s10⟩
                  go_simp
                  with_reducible rfl
                rotate_left
                · simp only [Act.put, List.setIfInBounds_toArray, List.set_cons_zero, List.set_cons_succ, i64_w, i32_w]
                  rfl
                refine one_ (i := 2) (N := some 98) #[true, true, true, true, false, false, false, false, false, false, false, false, false, false, false, false, false, false, false, false] rfl rfl (by kernel_rfl) (by decide) (fun K hK => ?_)
                refine goes_ Tryd.func12 (by kernel_rfl) rfl #[.agg #[.string x.f0.f0, .string x.f0.f1, .string x.f0.f2, .string x.f0.f3, .slice r.A4 x.f0.f4.length r.c4, .slice r.A5 x.f0.f5.length r.c5, .int .i64 x.f1.f0, .slice r.A7 x.f1.f1.length r.c7, .slice r.A8 x.f1.f2.length r.c8, .int .i64 x.f2, .int .i64 x.f3]] (by rfl) rfl rfl (by simp only [List.map_toArray, List.map_cons, List.map_nil]; rfl) ?_
                with_reducible refine (HSZ.out _ (below_drew (Below.refl _ _))).mono ?_
                rintro e w31 ⟨rfl, hb31⟩
                refine ⟨_, rfl, ?_⟩
                have HB31 : Hid (Below w20.heap.size w20 w31) := Lib.hid (below_step (below_drew (Below.refl _ _)) hb31)
                refine hK.out _ _ ⟨c_of (blk_bel HB31.out HA20.out) 1 (v := .string x.f0.f0) rfl, c_of (blk_bel HB31.out HA20.out) 2 (v := .string x.f0.f1) rfl, c_of (blk_bel HB31.out HA20.out) 3 (v := .string x.f0.f2) rfl, c_of (blk_bel HB31.out HA20.out) 4 (v := .string x.f0.f3) rfl, c_of (blk_bel HB31.out HA20.out) 5 (v := .slice r.A4 x.f0.f4.length r.c4) rfl, c_of (blk_bel HB31.out HA20.out) 6 (v := .slice r.A5 x.f0.f5.length r.c5) rfl, c_of (blk_bel HB31.out HA20.out) 7 (v := .int .i64 x.f1.f0) rfl, c_of (blk_bel HB31.out HA20.out) 8 (v := .slice r.A7 x.f1.f1.length r.c7) rfl, c_of (blk_bel HB31.out HA20.out) 9 (v := .slice r.A8 x.f1.f2.length r.c8) rfl, c_of (blk_bel HB31.out HA20.out) 10 (v := .int .i64 x.f2) rfl, c_of (blk_bel HB31.out HA20.out) 11 (v := .int .i64 x.f3) rfl⟩ (fun hHeld => ?_)
                clear hK K
                refine norm_ (a' := ?_) ?_ ?_
                rotate_left
                · show Act.put _ (some 98) _ = _
                  simp only [Act.put, List.setIfInBounds_toArray, List.set_cons_zero, List.set_cons_succ, i64_w, i32_w]
                  rfl
                refine pure_ (i := 4) (N := some 100) (v := ?_) (a' := ?_) #[true, true, true, true, true, false, false, false, false, false, false, false, false, false, false, false, false, false, false, false] rfl rfl (by kernel_rfl) (fun _ _ _ h => h) (Or.inl ⟨by rfl, ?_⟩) ?_ ?_
                rotate_left
                · intro w'
                  go_simp
                  with_reducible rfl
                rotate_left
                · simp only [Act.put, List.setIfInBounds_toArray, List.set_cons_zero, List.set_cons_succ, i64_w, i32_w]
                  rfl
                refine pure_ (i := 5) (N := some 101) (v := ?_) (a' := ?_) #[true, true, true, true, true, true, false, false, false, false, false, false, false, false, false, false, false, false, false, false] rfl rfl (by kernel_rfl) (fun _ _ _ h => h) (Or.inl ⟨by rfl, ?_⟩) ?_ ?_
                rotate_left
                · intro w'
                  go_simp
                  with_reducible rfl
                rotate_left
                · simp only [Act.put, List.setIfInBounds_toArray, List.set_cons_zero, List.set_cons_succ, i64_w, i32_w]
                  rfl
                refine pure_ (i := 6) (N := some 102) (v := undef) (a' := ?_) #[true, true, true, true, true, true, true, false, false, false, false, false, false, false, false, false, false, false, false, false] rfl rfl (by kernel_rfl) (fun _ _ _ h => h) (Or.inr ⟨by rfl, rfl⟩) ?_ ?_
                rotate_left
                · simp only [Act.put, List.setIfInBounds_toArray, List.set_cons_zero, List.set_cons_succ, i64_w, i32_w]
                  rfl
                refine pure_ (i := 7) (N := some 103) (v := undef) (a' := ?_) #[true, true, true, true, true, true, true, true, false, false, false, false, false, false, false, false, false, false, false, false] rfl rfl (by kernel_rfl) (fun _ _ _ h => h) (Or.inr ⟨by rfl, rfl⟩) ?_ ?_
                rotate_left
                · simp only [Act.put, List.setIfInBounds_toArray, List.set_cons_zero, List.set_cons_succ, i64_w, i32_w]
                  rfl
                refine pure_ (i := 8) (N := some 104) (v := undef) (a' := ?_) #[true, true, true, true, true, true, true, true, true, false, false, false, false, false, false, false, false, false, false, false] rfl rfl (by kernel_rfl) (fun _ _ _ h => h) (Or.inr ⟨by rfl, rfl⟩) ?_ ?_
                rotate_left
                · simp only [Act.put, List.setIfInBounds_toArray, List.set_cons_zero, List.set_cons_succ, i64_w, i32_w]
                  rfl
                refine pure_ (i := 9) (N := some 105) (v := undef) (a' := ?_) #[true, true, true, true, true, true, true, true, true, true, false, false, false, false, false, false, false, false, false, false] rfl rfl (by kernel_rfl) (fun _ _ _ h => h) (Or.inr ⟨by rfl, rfl⟩) ?_ ?_
                rotate_left
                · simp only [Act.put, List.setIfInBounds_toArray, List.set_cons_zero, List.set_cons_succ, i64_w, i32_w]
                  rfl
                refine pure_ (i := 10) (N := some 106) (v := undef) (a' := ?_) #[true, true, true, true, true, true, true, true, true, true, true, false, false, false, false, false, false, false, false, false] rfl rfl (by kernel_rfl) (fun _ _ _ h => h) (Or.inr ⟨by rfl, rfl⟩) ?_ ?_
                rotate_left
                · simp only [Act.put, List.setIfInBounds_toArray, List.set_cons_zero, List.set_cons_succ, i64_w, i32_w]
                  rfl
                refine pure_ (i := 11) (N := some 107) (v := undef) (a' := ?_) #[true, true, true, true, true, true, true, true, true, true, true, true, false, false, false, false, false, false, false, false] rfl rfl (by kernel_rfl) (fun _ _ _ h => h) (Or.inr ⟨by rfl, rfl⟩) ?_ ?_
                rotate_left
                · simp only [Act.put, List.setIfInBounds_toArray, List.set_cons_zero, List.set_cons_succ, i64_w, i32_w]
                  rfl
                refine pure_ (i := 12) (N := some 108) (v := undef) (a' := ?_) #[true, true, true, true, true, true, true, true, true, true, true, true, true, false, false, false, false, false, false, false] rfl rfl (by kernel_rfl) (fun _ _ _ h => h) (Or.inr ⟨by rfl, rfl⟩) ?_ ?_
                rotate_left
                · simp only [Act.put, List.setIfInBounds_toArray, List.set_cons_zero, List.set_cons_succ, i64_w, i32_w]
                  rfl
                refine pure_ (i := 13) (N := some 109) (v := undef) (a' := ?_) #[true, true, true, true, true, true, true, true, true, true, true, true, true, true, false, false, false, false, false, false] rfl rfl (by kernel_rfl) (fun _ _ _ h => h) (Or.inr ⟨by rfl, rfl⟩) ?_ ?_
                rotate_left
                · simp only [Act.put, List.setIfInBounds_toArray, List.set_cons_zero, List.set_cons_succ, i64_w, i32_w]
                  rfl
                refine pure_ (i := 14) (N := some 110) (v := undef) (a' := ?_) #[true, true, true, true, true, true, true, true, true, true, true, true, true, true, true, false, false, false, false, false] rfl rfl (by kernel_rfl) (fun _ _ _ h => h) (Or.inr ⟨by rfl, rfl⟩) ?_ ?_
                rotate_left
                · simp only [Act.put, List.setIfInBounds_toArray, List.set_cons_zero, List.set_cons_succ, i64_w, i32_w]
                  rfl
                refine pure_ (i := 15) (N := some 111) (v := undef) (a' := ?_) #[true, true, true, true, true, true, true, true, true, true, true, true, true, true, true, true, false, false, false, false] rfl rfl (by kernel_rfl) (fun _ _ _ h => h) (Or.inr ⟨by rfl, rfl⟩) ?_ ?_
                rotate_left
                · simp only [Act.put, List.setIfInBounds_toArray, List.set_cons_zero, List.set_cons_succ, i64_w, i32_w]
                  rfl
                refine pure_ (i := 16) (N := some 112) (v := undef) (a' := ?_) #[true, true, true, true, true, true, true, true, true, true, true, true, true, true, true, true, true, false, false, false] rfl rfl (by kernel_rfl) (fun _ _ _ h => h) (Or.inr ⟨by rfl, rfl⟩) ?_ ?_
                rotate_left
                · simp only [Act.put, List.setIfInBounds_toArray, List.set_cons_zero, List.set_cons_succ, i64_w, i32_w]
                  rfl
                refine pure_ (i := 17) (N := some 113) (v := undef) (a' := ?_) #[true, true, true, true, true, true, true, true, true, true, true, true, true, true, true, true, true, true, false, false] rfl rfl (by kernel_rfl) (fun _ _ _ h => h) (Or.inr ⟨by rfl, rfl⟩) ?_ ?_
                rotate_left
                · simp only [Act.put, List.setIfInBounds_toArray, List.set_cons_zero, List.set_cons_succ, i64_w, i32_w]
                  rfl
                refine pure_ (i := 18) (N := some 114) (v := undef) (a' := ?_) #[true, true, true, true, true, true, true, true, true, true, true, true, true, true, true, true, true, true, true, false] rfl rfl (by kernel_rfl) (fun _ _ _ h => h) (Or.inr ⟨by rfl, rfl⟩) ?_ ?_
                rotate_left
                · simp only [Act.put, List.setIfInBounds_toArray, List.set_cons_zero, List.set_cons_succ, i64_w, i32_w]
                  rfl
                refine pure_ (i := 19) (N := some 115) (v := ?_) (a' := ?_) #[true, true, true, true, true, true, true, true, true, true, true, true, true, true, true, true, true, true, true, true] rfl rfl (by kernel_rfl) (fun _ _ _ h => h) (Or.inl ⟨by rfl, ?_⟩) ?_ ?_
                rotate_left
                · intro w'
                  go_simp
                  with_reducible rfl
                rotate_left
                · simp only [Act.put, List.setIfInBounds_toArray, List.set_cons_zero, List.set_cons_succ, i64_w, i32_w]
                  rfl
                refine done_ (by kernel_rfl) ?_
                clear hHeld
                go_wp2
                go_roundg ko
                case measure => omega
                case rel => exact ⟨i + 1, l', A9, c9, put ++ [(x, r)], by first | exact congrArg (Value.int .i64) HWI.out | go_num, by simp, hi1, hk2, by simpa using hpl2, Lib.hid (HI13.out.grow (below_step HB20.out HB31.out)), Lib.hid (below_step HB13.out (below_step HB20.out HB31.out)), Lib.hid (HP13.out.grow (below_step HB20.out HB31.out)), HF13, HPM13⟩
          · have t0 : (k % 4 == 0) = false := beq_eq_false_iff_ne.2 hk4
            have HK4 := Lib.hid hk4
            clear hk4
            go_upto_region 20 with (go_at_call 10; refine (HD.out _ HB4.out).mono ?_; rintro e w9 ⟨⟨v9, rfl⟩, ho9, l', hi9, hst, hn9⟩; have HI9 := Lib.hid hi9; have HO9 := Lib.hid ho9; have HST := Lib.hid hst; have HN9 := Lib.hid hn9; clear ho9 hi9 hst hn9)
            clear ak a0 a1 a2 a3 a4 a5 a6 a7 a8 a9 a10
            have hs9 := HO9.out.size
            have HA9 : Hid (w9.heap[Wo.heap.size]? = some (.cells #[.int .u8 k, .string x.f0.f0, .string x.f0.f1, .string x.f0.f2, .string x.f0.f3, .slice r.A4 x.f0.f4.length r.c4, .slice r.A5 x.f0.f5.length r.c5, .int .i64 x.f1.f0, .slice r.A7 x.f1.f1.length r.c7, .slice r.A8 x.f1.f2.length r.c8, .int .i64 x.f2, .int .i64 x.f3] 37 (0, 0))) := Lib.hid ((HO9.out.block _ (blk_lt' HA4.out) (fun hm => by have := HML.out _ hm; omega)).trans HA4.out)
            have HB9 : Hid (Below w.heap.size w w9) := Lib.hid (HBW4.out.trans (below_only (by omega) HO9.out HI.out.ge))
            have HP9 : Hid (PutAt w9 w.heap.size l' A1 c1 put) := Lib.hid ((HP.out.grow HB4.out).turn (HI.out.grow HB4.out) HO9.out HN9.out)
            have HF9 : Hid (From l' put) := Lib.hid (HF.out.sub (step_sub HST.out (by have := HK1.out; have := HK4.out; omega)))
            have bk := c_of HA9.out 0 (v := .int .u8 k) rfl
            go_wp2
            go_roundg ko
            case measure => omega
            case rel => exact ⟨i + 1, l', A1, c1, put, by first | exact congrArg (Value.int .i64) HWI.out | go_num, rfl, hi1, hk2, hpl1, HI9, HB9, HP9, HF9, HPM⟩
      · have c0 : decide ((i : Int) < (l.length : Int)) = false := decide_eq_false (by omega)
        go_wp2
        go_ret
        exact ⟨rfl, HW.out⟩
end Go.Proofs.YtkbbjjegpjdpeaaDoor.S

