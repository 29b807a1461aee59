import Derived.Test.YtbnhlekehndhkaaGreatDoorYFrMD
import Derived.Test.YtbnhlekehndhkaaGreatDoorYGxf21


/- FreshKept: its walk. -/
namespace Go.Proofs.YtbnhlekehndhkaaGreatDoor.Fr
open Go.RowKit Go.Proofs.YtbnhlekehndhkaaGreatDoorW.PrintWords Go.Proofs.YtbnhlekehndhkaaGreatDoorW.PrintLast Go.Proofs.YtbnhlekehndhkaaGreatDoorW.PrintMore Go.Proofs.YtbnhlekehndhkaaGreatDoor.G Go.Proofs.YtbnhlekehndhkaaGreatDoor.V Go.Proofs.YtbnhlekehndhkaaGreatDoor.S
set_option linter.unusedVariables false
set_option linter.unusedSimpArgs false
set_option maxRecDepth 100000 in
set_option maxHeartbeats 16000000 in
theorem kept_calls (w : World) (P : Nat → Prop) (x : S34) (r : Rf) (h : Ex w P x r)
    (hG : Da.Glob w) (hs : wt x.f1.f1 < 268435456) (hq : wt x.f0.f4 < 268435456) :
    Calls Tryz.prog 5 #[.agg (Vx x r)] w fun e w' => e = .returned (.bool true) ∧ Below w.heap.size w w' := by
  obtain ⟨W1, hW1⟩ : ∃ W, W = w.alloc (.cells (Vx x r) 29) := ⟨_, rfl⟩
  have HB3 : Hid (Below w.heap.size w W1) := Lib.hid (by rw [hW1]; exact below_alloc (Below.refl _ _) _)
  have HX3 : Hid (W1.heap[w.heap.size]? = some (Br x r)) := Lib.hid (by rw [hW1]; exact heap_alloc_new w _)
  have HEQ := Lib.hid hW1
  have HTH := Lib.hid (fun W (hb : Below w.heap.size w W) => theirs_q W x r)
  have HAL := Lib.hid (fun W (hb : Below w.heap.size w W) => alive_q W (hG.below hb))
  have HKE := Lib.hid (fun W (hb : Below w.heap.size w W) => keep_q W P x r (h.below hb) (hG.below hb) hs hq)
  have HC0 := Lib.hid (fun W (hb : Below w.heap.size w W) => rdirs_of r.A7 r.c7 x.f1.f1 W (Kd.C_below h.g7 hb) h.l7 hs)
  have HR0 := Lib.hid (fun W (hb : Below w.heap.size w W) => rdirs_of r.A4 r.c4 x.f0.f4 W (Kd.C_below h.g4 hb) h.l4 hq)
  have HV := Lib.hid (fun W (hb : Below w.heap.size w W) => turnbuckleref17_Vary.calls (5 * wt x.f1.f1 + 20) r.A7 r.c7 x.f1.f1 (vary x.f1.f1).1 (vary x.f1.f1).2 W (Kd.C_below h.g7 hb) h.l7 (rvary_f x.f1.f1 _ hs (Nat.le_refl _)))
  have HAA := Lib.hid (fun W (hb : Below w.heap.size w W) => turnbuckleref17_All.calls (x.f0.f4.length + 1) r.A4 r.c4 x.f0.f4 AUTH (allL x.f0.f4 AUTH) W (Kd.C_below h.g4 hb) h.l4 (rall_f x.f0.f4 AUTH _ (by have := wt_len x.f0.f4; omega) (Nat.le_refl _)))
  have hlaw := kept_law x
  obtain ⟨C, hC_⟩ : ∃ C, C = dirsOf x.f1.f1 := ⟨_, rfl⟩
  obtain ⟨R, hR_⟩ : ∃ R, R = dirsOf x.f0.f4 := ⟨_, rfl⟩
  obtain ⟨kp, hkp⟩ : ∃ b, b = keepN x := ⟨_, rfl⟩
  obtain ⟨star, hstar⟩ : ∃ b, b = (vary x.f1.f1).2 := ⟨_, rfl⟩
  obtain ⟨names, hnames⟩ : ∃ b, b = (vary x.f1.f1).1 := ⟨_, rfl⟩
  obtain ⟨au, hau⟩ : ∃ b, b = allL x.f0.f4 AUTH := ⟨_, rfl⟩
  rw [← hC_] at HC0 hlaw
  rw [← hR_] at HR0 hlaw
  rw [← hkp] at HKE hlaw
  rw [← hstar] at HV hlaw
  rw [← hnames] at HV
  rw [← hau] at HAA hlaw
  have HLAW := Lib.hid hlaw
  unfold Fb.Ct.cells at HC0 HR0
  clear h hG hC_ hR_ hkp hW1 hstar hnames hau hlaw
  obtain ⟨l0, l1, l2, l3, l4, l5, l6, l7, l8, l9, l10⟩ := bxr_cells HX3.out
  have HC := Lib.hid (fun W (hb : Below W1.heap.size W1 W) => HC0.out W (below_step HB3.out hb))
  have HR := Lib.hid (fun W (hb : Below W1.heap.size W1 W) => HR0.out W (below_step HB3.out hb))
  have hV := AtD.start W1
  go_enter Tryz.func5, Tryz.ntmps5
  go_upto_region 1 with fail
  rw [← HEQ.out]
  refine start_ (n := 12) (S := fun w' => w'.cell? ⟨w.heap.size, 7, none⟩ = some (.slice r.A7 x.f1.f1.length r.c7) ∧ w'.cell? ⟨w.heap.size, 4, none⟩ = some (.slice r.A4 x.f0.f4.length r.c4)) (ds := [10, 11]) #[false, false, false, false, false, false, false, false, false, false, false, false] (by kernel_rfl) rfl rfl ⟨c_of (blk_bel hV.bel HX3.out) 7 (v := .slice r.A7 x.f1.f1.length r.c7) rfl, c_of (blk_bel hV.bel HX3.out) 4 (v := .slice r.A4 x.f0.f4.length r.c4) rfl⟩ (fun hHeld => ?_)
  refine pure_ (i := 0) (N := some 9) (v := ?_) (a' := ?_) #[true, false, false, false, false, false, false, false, false, false, false, false] rfl rfl (by kernel_rfl) (fun _ _ _ h => h) (Or.inl ⟨by rfl, ?_⟩) ?_ ?_
  rotate_left
  · intro w'
    go_simp
    with_reducible rfl
  rotate_left
  · simp only [Act.put, List.setIfInBounds_toArray, List.set_cons_zero, List.set_cons_succ, i64_w, i32_w]
    rfl
  refine pure_ (i := 1) (N := some 10) (v := ?_) (a' := ?_) #[true, true, false, false, false, false, false, false, false, false, false, false] rfl rfl (by kernel_rfl) (fun _ _ _ h => h) (Or.inl ⟨by rfl, ?_⟩) ?_ ?_
  rotate_left
  · intro w'
    go_simp
    with_reducible rfl
  rotate_left
  · simp only [Act.put, List.setIfInBounds_toArray, List.set_cons_zero, List.set_cons_succ, i64_w, i32_w]
    rfl
  refine pure_ (i := 4) (N := some 13) (v := ?_) (a' := ?_) #[true, true, false, false, true, false, false, false, false, false, false, false] rfl rfl (by kernel_rfl) (fun _ _ _ h => h) (Or.inl ⟨by rfl, ?_⟩) ?_ ?_
  rotate_left
  · intro w'
    go_simp
    with_reducible rfl
  rotate_left
  · simp only [Act.put, List.setIfInBounds_toArray, List.set_cons_zero, List.set_cons_succ, i64_w, i32_w]
    rfl
  refine pure_ (i := 5) (N := some 14) (v := ?_) (a' := ?_) #[true, true, false, false, true, true, false, false, false, false, false, false] rfl rfl (by kernel_rfl) (fun _ _ _ h => h) (Or.inl ⟨by rfl, ?_⟩) ?_ ?_
  rotate_left
  · intro w'
    go_simp
    with_reducible rfl
  rotate_left
  · simp only [Act.put, List.setIfInBounds_toArray, List.set_cons_zero, List.set_cons_succ, i64_w, i32_w]
    rfl
  refine take_ (i := 2) (N := some 11) (v := ?_) (a' := ?_) #[true, true, true, false, true, true, false, false, false, false, false, false] rfl rfl (by kernel_rfl) (fun _ _ _ h => h) (Or.inl ⟨by rfl, ?_⟩) hHeld ?_ ?_
  rotate_left
  · rintro w' ⟨s0, s1⟩
    go_simp
    with_reducible rfl
  rotate_left
  · simp only [Act.put, List.setIfInBounds_toArray, List.set_cons_zero, List.set_cons_succ, i64_w, i32_w]
    rfl
  refine take_ (i := 6) (N := some 15) (v := ?_) (a' := ?_) #[true, true, true, false, true, true, true, false, false, false, false, false] rfl rfl (by kernel_rfl) (fun _ _ _ h => h) (Or.inl ⟨by rfl, ?_⟩) hHeld ?_ ?_
  rotate_left
  · rintro w' ⟨s0, s1⟩
    go_simp
    with_reducible rfl
  rotate_left
  · simp only [Act.put, List.setIfInBounds_toArray, List.set_cons_zero, List.set_cons_succ, i64_w, i32_w]
    rfl
  refine join_ (σ := Nat × Nat) 2 #[true, true, true, true, true, true, true, true, true, true, false, false] (fun s_ => [(12, .agg #[.bool (C.fl 0), .bool (C.fl 1), .bool (C.fl 2), .bool (C.fl 3), .bool (C.fl 4), .bool (C.fl 5), .int .i64 (C.nm 6), .int .i64 (C.nm 7), .int .i64 (C.nm 8), .int .i64 (C.nm 9), .int .i64 (C.nm 10), .int .i64 (C.nm 11)]), (16, .agg #[.bool (R.fl 0), .bool (R.fl 1), .bool (R.fl 2), .bool (R.fl 3), .bool (R.fl 4), .bool (R.fl 5), .int .i64 (R.nm 6), .int .i64 (R.nm 7), .int .i64 (R.nm 8), .int .i64 (R.nm 9), .int .i64 (R.nm 10), .int .i64 (R.nm 11)]), (3, .pointer (some ⟨s_.1, 0, none⟩)), (4, .pointer (some ⟨s_.2, 0, none⟩))]) (fun s_ w' => AtD W1 true true s_.1 s_.2 w') ?_ ?_
  rotate_left
  · intro hJ3_7_8_9
    refine join_ (σ := Nat × Nat) 3 #[true, true, true, true, true, true, true, true, true, false, false, false] (fun s_ => [(12, .agg #[.bool (C.fl 0), .bool (C.fl 1), .bool (C.fl 2), .bool (C.fl 3), .bool (C.fl 4), .bool (C.fl 5), .int .i64 (C.nm 6), .int .i64 (C.nm 7), .int .i64 (C.nm 8), .int .i64 (C.nm 9), .int .i64 (C.nm 10), .int .i64 (C.nm 11)]), (16, .agg #[.bool (R.fl 0), .bool (R.fl 1), .bool (R.fl 2), .bool (R.fl 3), .bool (R.fl 4), .bool (R.fl 5), .int .i64 (R.nm 6), .int .i64 (R.nm 7), .int .i64 (R.nm 8), .int .i64 (R.nm 9), .int .i64 (R.nm 10), .int .i64 (R.nm 11)]), (3, .pointer (some ⟨s_.1, 0, none⟩))]) (fun s_ w' => AtD W1 true false s_.1 s_.2 w') ?_ ?_
    rotate_left
    · intro hJ3_7_8
      refine join_ (σ := Nat × Nat) 3 #[true, true, true, true, true, true, true, true, false, true, false, false] (fun s_ => [(12, .agg #[.bool (C.fl 0), .bool (C.fl 1), .bool (C.fl 2), .bool (C.fl 3), .bool (C.fl 4), .bool (C.fl 5), .int .i64 (C.nm 6), .int .i64 (C.nm 7), .int .i64 (C.nm 8), .int .i64 (C.nm 9), .int .i64 (C.nm 10), .int .i64 (C.nm 11)]), (16, .agg #[.bool (R.fl 0), .bool (R.fl 1), .bool (R.fl 2), .bool (R.fl 3), .bool (R.fl 4), .bool (R.fl 5), .int .i64 (R.nm 6), .int .i64 (R.nm 7), .int .i64 (R.nm 8), .int .i64 (R.nm 9), .int .i64 (R.nm 10), .int .i64 (R.nm 11)]), (4, .pointer (some ⟨s_.2, 0, none⟩))]) (fun s_ w' => AtD W1 false true s_.1 s_.2 w') ?_ ?_
      rotate_left
      · intro hJ3_7_9
        refine join_ (σ := Nat × Nat) 3 #[true, true, true, true, true, true, true, false, true, true, false, false] (fun s_ => [(12, .agg #[.bool (C.fl 0), .bool (C.fl 1), .bool (C.fl 2), .bool (C.fl 3), .bool (C.fl 4), .bool (C.fl 5), .int .i64 (C.nm 6), .int .i64 (C.nm 7), .int .i64 (C.nm 8), .int .i64 (C.nm 9), .int .i64 (C.nm 10), .int .i64 (C.nm 11)]), (3, .pointer (some ⟨s_.1, 0, none⟩)), (4, .pointer (some ⟨s_.2, 0, none⟩))]) (fun s_ w' => AtD W1 true true s_.1 s_.2 w') ?_ ?_
        rotate_left
        · intro hJ3_8_9
          refine join_ (σ := Nat × Nat) 4 #[true, true, true, true, true, true, true, true, false, false, false, false] (fun s_ => [(12, .agg #[.bool (C.fl 0), .bool (C.fl 1), .bool (C.fl 2), .bool (C.fl 3), .bool (C.fl 4), .bool (C.fl 5), .int .i64 (C.nm 6), .int .i64 (C.nm 7), .int .i64 (C.nm 8), .int .i64 (C.nm 9), .int .i64 (C.nm 10), .int .i64 (C.nm 11)]), (16, .agg #[.bool (R.fl 0), .bool (R.fl 1), .bool (R.fl 2), .bool (R.fl 3), .bool (R.fl 4), .bool (R.fl 5), .int .i64 (R.nm 6), .int .i64 (R.nm 7), .int .i64 (R.nm 8), .int .i64 (R.nm 9), .int .i64 (R.nm 10), .int .i64 (R.nm 11)])]) (fun s_ w' => AtD W1 false false s_.1 s_.2 w') ?_ ?_
          rotate_left
          · intro hJ3_7
            refine join_ (σ := Nat × Nat) 4 #[true, true, true, true, true, true, true, false, true, false, false, false] (fun s_ => [(12, .agg #[.bool (C.fl 0), .bool (C.fl 1), .bool (C.fl 2), .bool (C.fl 3), .bool (C.fl 4), .bool (C.fl 5), .int .i64 (C.nm 6), .int .i64 (C.nm 7), .int .i64 (C.nm 8), .int .i64 (C.nm 9), .int .i64 (C.nm 10), .int .i64 (C.nm 11)]), (3, .pointer (some ⟨s_.1, 0, none⟩))]) (fun s_ w' => AtD W1 true false s_.1 s_.2 w') ?_ ?_
            rotate_left
            · intro hJ3_8
              refine join_ (σ := Nat × Nat) 4 #[true, true, true, true, true, true, true, false, false, true, false, false] (fun s_ => [(12, .agg #[.bool (C.fl 0), .bool (C.fl 1), .bool (C.fl 2), .bool (C.fl 3), .bool (C.fl 4), .bool (C.fl 5), .int .i64 (C.nm 6), .int .i64 (C.nm 7), .int .i64 (C.nm 8), .int .i64 (C.nm 9), .int .i64 (C.nm 10), .int .i64 (C.nm 11)]), (4, .pointer (some ⟨s_.2, 0, none⟩))]) (fun s_ w' => AtD W1 false true s_.1 s_.2 w') ?_ ?_
              rotate_left
              · intro hJ3_9
                refine join_ (σ := Nat × Nat) 4 #[true, true, true, false, true, true, true, false, true, true, false, false] (fun s_ => [(3, .pointer (some ⟨s_.1, 0, none⟩)), (4, .pointer (some ⟨s_.2, 0, none⟩))]) (fun s_ w' => AtD W1 true true s_.1 s_.2 w') ?_ ?_
                rotate_left
                · intro hJ8_9
                  refine join_ (σ := Nat × Nat) 5 #[true, true, true, true, true, true, true, false, false, false, false, false] (fun s_ => [(12, .agg #[.bool (C.fl 0), .bool (C.fl 1), .bool (C.fl 2), .bool (C.fl 3), .bool (C.fl 4), .bool (C.fl 5), .int .i64 (C.nm 6), .int .i64 (C.nm 7), .int .i64 (C.nm 8), .int .i64 (C.nm 9), .int .i64 (C.nm 10), .int .i64 (C.nm 11)])]) (fun s_ w' => AtD W1 false false s_.1 s_.2 w') ?_ ?_
                  rotate_left
                  · intro hJ3
                    refine join_ (σ := Nat × Nat) 5 #[true, true, true, false, true, true, true, false, true, false, false, false] (fun s_ => [(3, .pointer (some ⟨s_.1, 0, none⟩))]) (fun s_ w' => AtD W1 true false s_.1 s_.2 w') ?_ ?_
                    rotate_left
                    · intro hJ8
                      refine join_ (σ := Nat × Nat) 5 #[true, true, true, false, true, true, true, false, false, true, false, false] (fun s_ => [(4, .pointer (some ⟨s_.2, 0, none⟩))]) (fun s_ w' => AtD W1 false true s_.1 s_.2 w') ?_ ?_
                      rotate_left
                      · intro hJ9
                        refine three_ (i := 3) (j := 8) (k := 9) (Ni := some 12) (Nj := some 3) (Nk := some 4) #[true, true, true, true, true, true, true, false, false, false, false, false] #[true, true, true, false, true, true, true, false, true, false, false, false] #[true, true, true, false, true, true, true, false, false, true, false, false] rfl rfl rfl rfl rfl rfl (by kernel_rfl) (by decide) (by decide) (by decide) (fun K hK => ?_) (fun K hK => ?_) (fun K hK => ?_)
                        · skip
                          refine goes_ Tryz.func20 (by kernel_rfl) rfl #[.slice r.A7 x.f1.f1.length r.c7] (by rfl) rfl rfl (by simp only [List.map_toArray, List.map_cons, List.map_nil]; rfl) ?_
                          with_reducible refine (HC.out _ hV.bel).mono ?_
                          rintro e w3_ ⟨rfl, hb3_⟩
                          refine ⟨_, rfl, ?_⟩
                          refine hK.out _ _ ⟨c_of (blk_bel (hV.step hb3_).bel HX3.out) 7 (v := .slice r.A7 x.f1.f1.length r.c7) rfl, c_of (blk_bel (hV.step hb3_).bel HX3.out) 4 (v := .slice r.A4 x.f0.f4.length r.c4) rfl⟩ (fun hHeld => ?_)
                          clear hK K
                          refine norm_ (a' := ?_) ?_ ?_
                          rotate_left
                          · show Act.put _ (some 12) _ = _
                            simp only [Act.put, List.setIfInBounds_toArray, List.set_cons_zero, List.set_cons_succ, i64_w, i32_w]
                            rfl
                          exact norm_ (by first | (simp only [putAll, Act.put, List.setIfInBounds_toArray, List.set_cons_zero, List.set_cons_succ]; done) | (simp only [putAll, Act.put, List.setIfInBounds_toArray, List.set_cons_zero, List.set_cons_succ]; rfl)) (hJ3 ⟨0, 0⟩ _ (hV.step hb3_))
                        · skip
                          refine value_ (w1 := ?_) (v := ?_) (by rfl) rfl ?_ ?_
                          rotate_left 2
                          · go_simp
                            constructor
                            · rfl
                            · rfl
                          refine hK.out _ _ ⟨c_of (blk_bel hV.new7.bel HX3.out) 7 (v := .slice r.A7 x.f1.f1.length r.c7) rfl, c_of (blk_bel hV.new7.bel HX3.out) 4 (v := .slice r.A4 x.f0.f4.length r.c4) rfl⟩ (fun hHeld => ?_)
                          clear hK K
                          refine norm_ (a' := ?_) ?_ ?_
                          rotate_left
                          · show Act.put _ (some 3) _ = _
                            simp only [Act.put, List.setIfInBounds_toArray, List.set_cons_zero, List.set_cons_succ, i64_w, i32_w]
                            rfl
                          exact norm_ (by first | (simp only [putAll, Act.put, List.setIfInBounds_toArray, List.set_cons_zero, List.set_cons_succ]; done) | (simp only [putAll, Act.put, List.setIfInBounds_toArray, List.set_cons_zero, List.set_cons_succ]; rfl)) (hJ8 ⟨W1.drew.heap.size, 0⟩ _ hV.new7)
                        · skip
                          refine value_ (w1 := ?_) (v := ?_) (by rfl) rfl ?_ ?_
                          rotate_left 2
                          · go_simp
                            constructor
                            · rfl
                            · rfl
                          refine hK.out _ _ ⟨c_of (blk_bel hV.new8.bel HX3.out) 7 (v := .slice r.A7 x.f1.f1.length r.c7) rfl, c_of (blk_bel hV.new8.bel HX3.out) 4 (v := .slice r.A4 x.f0.f4.length r.c4) rfl⟩ (fun hHeld => ?_)
                          clear hK K
                          refine norm_ (a' := ?_) ?_ ?_
                          rotate_left
                          · show Act.put _ (some 4) _ = _
                            simp only [Act.put, List.setIfInBounds_toArray, List.set_cons_zero, List.set_cons_succ, i64_w, i32_w]
                            rfl
                          exact norm_ (by first | (simp only [putAll, Act.put, List.setIfInBounds_toArray, List.set_cons_zero, List.set_cons_succ]; done) | (simp only [putAll, Act.put, List.setIfInBounds_toArray, List.set_cons_zero, List.set_cons_succ]; rfl)) (hJ9 ⟨0, W1.drew.heap.size⟩ _ hV.new8)
                      · skip
                        rintro ⟨a_, b_⟩ wq hV
                        have hHeld : wq.cell? ⟨w.heap.size, 7, none⟩ = some (.slice r.A7 x.f1.f1.length r.c7) ∧ wq.cell? ⟨w.heap.size, 4, none⟩ = some (.slice r.A4 x.f0.f4.length r.c4) := ⟨c_of (blk_bel hV.bel HX3.out) 7 (v := .slice r.A7 x.f1.f1.length r.c7) rfl, c_of (blk_bel hV.bel HX3.out) 4 (v := .slice r.A4 x.f0.f4.length r.c4) rfl⟩
                        refine norm_ (a' := ?_) ?_ ?_
                        rotate_left
                        · simp only [putAll, Act.put, List.setIfInBounds_toArray, List.set_cons_zero, List.set_cons_succ]
                          rfl
                        refine two_ (i := 3) (j := 8) (Ni := some 12) (Nj := some 3) #[true, true, true, true, true, true, true, false, false, true, false, false] #[true, true, true, false, true, true, true, false, true, true, false, false] rfl rfl rfl rfl (by kernel_rfl) (by decide) (by decide) (fun K hK => ?_) (fun K hK => ?_)
                        · skip
                          refine goes_ Tryz.func20 (by kernel_rfl) rfl #[.slice r.A7 x.f1.f1.length r.c7] (by rfl) rfl rfl (by simp only [List.map_toArray, List.map_cons, List.map_nil]; rfl) ?_
                          with_reducible refine (HC.out _ hV.bel).mono ?_
                          rintro e w3_ ⟨rfl, hb3_⟩
                          refine ⟨_, rfl, ?_⟩
                          refine hK.out _ _ ⟨c_of (blk_bel (hV.step hb3_).bel HX3.out) 7 (v := .slice r.A7 x.f1.f1.length r.c7) rfl, c_of (blk_bel (hV.step hb3_).bel HX3.out) 4 (v := .slice r.A4 x.f0.f4.length r.c4) rfl⟩ (fun hHeld => ?_)
                          clear hK K
                          refine norm_ (a' := ?_) ?_ ?_
                          rotate_left
                          · show Act.put _ (some 12) _ = _
                            simp only [Act.put, List.setIfInBounds_toArray, List.set_cons_zero, List.set_cons_succ, i64_w, i32_w]
                            rfl
                          exact norm_ (by first | (simp only [putAll, Act.put, List.setIfInBounds_toArray, List.set_cons_zero, List.set_cons_succ]; done) | (simp only [putAll, Act.put, List.setIfInBounds_toArray, List.set_cons_zero, List.set_cons_succ]; rfl)) (hJ3_9 ⟨a_, b_⟩ _ (hV.step hb3_))
                        · skip
                          refine value_ (w1 := ?_) (v := ?_) (by rfl) rfl ?_ ?_
                          rotate_left 2
                          · go_simp
                            constructor
                            · rfl
                            · rfl
                          refine hK.out _ _ ⟨c_of (blk_bel hV.new7.bel HX3.out) 7 (v := .slice r.A7 x.f1.f1.length r.c7) rfl, c_of (blk_bel hV.new7.bel HX3.out) 4 (v := .slice r.A4 x.f0.f4.length r.c4) rfl⟩ (fun hHeld => ?_)
                          clear hK K
                          refine norm_ (a' := ?_) ?_ ?_
                          rotate_left
                          · show Act.put _ (some 3) _ = _
                            simp only [Act.put, List.setIfInBounds_toArray, List.set_cons_zero, List.set_cons_succ, i64_w, i32_w]
                            rfl
                          exact norm_ (by first | (simp only [putAll, Act.put, List.setIfInBounds_toArray, List.set_cons_zero, List.set_cons_succ]; done) | (simp only [putAll, Act.put, List.setIfInBounds_toArray, List.set_cons_zero, List.set_cons_succ]; rfl)) (hJ8_9 ⟨wq.heap.size, b_⟩ _ hV.new7)
                    · skip
                      rintro ⟨a_, b_⟩ wq hV
                      have hHeld : wq.cell? ⟨w.heap.size, 7, none⟩ = some (.slice r.A7 x.f1.f1.length r.c7) ∧ wq.cell? ⟨w.heap.size, 4, none⟩ = some (.slice r.A4 x.f0.f4.length r.c4) := ⟨c_of (blk_bel hV.bel HX3.out) 7 (v := .slice r.A7 x.f1.f1.length r.c7) rfl, c_of (blk_bel hV.bel HX3.out) 4 (v := .slice r.A4 x.f0.f4.length r.c4) rfl⟩
                      refine norm_ (a' := ?_) ?_ ?_
                      rotate_left
                      · simp only [putAll, Act.put, List.setIfInBounds_toArray, List.set_cons_zero, List.set_cons_succ]
                        rfl
                      refine two_ (i := 3) (j := 9) (Ni := some 12) (Nj := some 4) #[true, true, true, true, true, true, true, false, true, false, false, false] #[true, true, true, false, true, true, true, false, true, true, false, false] rfl rfl rfl rfl (by kernel_rfl) (by decide) (by decide) (fun K hK => ?_) (fun K hK => ?_)
                      · skip
                        refine goes_ Tryz.func20 (by kernel_rfl) rfl #[.slice r.A7 x.f1.f1.length r.c7] (by rfl) rfl rfl (by simp only [List.map_toArray, List.map_cons, List.map_nil]; rfl) ?_
                        with_reducible refine (HC.out _ hV.bel).mono ?_
                        rintro e w3_ ⟨rfl, hb3_⟩
                        refine ⟨_, rfl, ?_⟩
                        refine hK.out _ _ ⟨c_of (blk_bel (hV.step hb3_).bel HX3.out) 7 (v := .slice r.A7 x.f1.f1.length r.c7) rfl, c_of (blk_bel (hV.step hb3_).bel HX3.out) 4 (v := .slice r.A4 x.f0.f4.length r.c4) rfl⟩ (fun hHeld => ?_)
                        clear hK K
                        refine norm_ (a' := ?_) ?_ ?_
                        rotate_left
                        · show Act.put _ (some 12) _ = _
                          simp only [Act.put, List.setIfInBounds_toArray, List.set_cons_zero, List.set_cons_succ, i64_w, i32_w]
                          rfl
                        exact norm_ (by first | (simp only [putAll, Act.put, List.setIfInBounds_toArray, List.set_cons_zero, List.set_cons_succ]; done) | (simp only [putAll, Act.put, List.setIfInBounds_toArray, List.set_cons_zero, List.set_cons_succ]; rfl)) (hJ3_8 ⟨a_, b_⟩ _ (hV.step hb3_))
                      · skip
                        refine value_ (w1 := ?_) (v := ?_) (by rfl) rfl ?_ ?_
                        rotate_left 2
                        · go_simp
                          constructor
                          · rfl
                          · rfl
                        refine hK.out _ _ ⟨c_of (blk_bel hV.new8.bel HX3.out) 7 (v := .slice r.A7 x.f1.f1.length r.c7) rfl, c_of (blk_bel hV.new8.bel HX3.out) 4 (v := .slice r.A4 x.f0.f4.length r.c4) rfl⟩ (fun hHeld => ?_)
                        clear hK K
                        refine norm_ (a' := ?_) ?_ ?_
                        rotate_left
                        · show Act.put _ (some 4) _ = _
                          simp only [Act.put, List.setIfInBounds_toArray, List.set_cons_zero, List.set_cons_succ, i64_w, i32_w]
                          rfl
                        exact norm_ (by first | (simp only [putAll, Act.put, List.setIfInBounds_toArray, List.set_cons_zero, List.set_cons_succ]; done) | (simp only [putAll, Act.put, List.setIfInBounds_toArray, List.set_cons_zero, List.set_cons_succ]; rfl)) (hJ8_9 ⟨a_, wq.heap.size⟩ _ hV.new8)
                  · skip
                    rintro ⟨a_, b_⟩ wq hV
                    have hHeld : wq.cell? ⟨w.heap.size, 7, none⟩ = some (.slice r.A7 x.f1.f1.length r.c7) ∧ wq.cell? ⟨w.heap.size, 4, none⟩ = some (.slice r.A4 x.f0.f4.length r.c4) := ⟨c_of (blk_bel hV.bel HX3.out) 7 (v := .slice r.A7 x.f1.f1.length r.c7) rfl, c_of (blk_bel hV.bel HX3.out) 4 (v := .slice r.A4 x.f0.f4.length r.c4) rfl⟩
                    refine norm_ (a' := ?_) ?_ ?_
                    rotate_left
                    · simp only [putAll, Act.put, List.setIfInBounds_toArray, List.set_cons_zero, List.set_cons_succ]
                      rfl
                    refine three_ (i := 7) (j := 8) (k := 9) (Ni := some 16) (Nj := some 3) (Nk := some 4) #[true, true, true, true, true, true, true, true, false, false, false, false] #[true, true, true, true, true, true, true, false, true, false, false, false] #[true, true, true, true, true, true, true, false, false, true, false, false] rfl rfl rfl rfl rfl rfl (by kernel_rfl) (by decide) (by decide) (by decide) (fun K hK => ?_) (fun K hK => ?_) (fun K hK => ?_)
                    · skip
                      refine goes_ Tryz.func20 (by kernel_rfl) rfl #[.slice r.A4 x.f0.f4.length r.c4] (by rfl) rfl rfl (by simp only [List.map_toArray, List.map_cons, List.map_nil]; rfl) ?_
                      with_reducible refine (HR.out _ hV.bel).mono ?_
                      rintro e w3_ ⟨rfl, hb3_⟩
                      refine ⟨_, rfl, ?_⟩
                      refine hK.out _ _ ⟨c_of (blk_bel (hV.step hb3_).bel HX3.out) 7 (v := .slice r.A7 x.f1.f1.length r.c7) rfl, c_of (blk_bel (hV.step hb3_).bel HX3.out) 4 (v := .slice r.A4 x.f0.f4.length r.c4) rfl⟩ (fun hHeld => ?_)
                      clear hK K
                      refine norm_ (a' := ?_) ?_ ?_
                      rotate_left
                      · show Act.put _ (some 16) _ = _
                        simp only [Act.put, List.setIfInBounds_toArray, List.set_cons_zero, List.set_cons_succ, i64_w, i32_w]
                        rfl
                      exact norm_ (by first | (simp only [putAll, Act.put, List.setIfInBounds_toArray, List.set_cons_zero, List.set_cons_succ]; done) | (simp only [putAll, Act.put, List.setIfInBounds_toArray, List.set_cons_zero, List.set_cons_succ]; rfl)) (hJ3_7 ⟨a_, b_⟩ _ (hV.step hb3_))
                    · skip
                      refine value_ (w1 := ?_) (v := ?_) (by rfl) rfl ?_ ?_
                      rotate_left 2
                      · go_simp
                        constructor
                        · rfl
                        · rfl
                      refine hK.out _ _ ⟨c_of (blk_bel hV.new7.bel HX3.out) 7 (v := .slice r.A7 x.f1.f1.length r.c7) rfl, c_of (blk_bel hV.new7.bel HX3.out) 4 (v := .slice r.A4 x.f0.f4.length r.c4) rfl⟩ (fun hHeld => ?_)
                      clear hK K
                      refine norm_ (a' := ?_) ?_ ?_
                      rotate_left
                      · show Act.put _ (some 3) _ = _
                        simp only [Act.put, List.setIfInBounds_toArray, List.set_cons_zero, List.set_cons_succ, i64_w, i32_w]
                        rfl
                      exact norm_ (by first | (simp only [putAll, Act.put, List.setIfInBounds_toArray, List.set_cons_zero, List.set_cons_succ]; done) | (simp only [putAll, Act.put, List.setIfInBounds_toArray, List.set_cons_zero, List.set_cons_succ]; rfl)) (hJ3_8 ⟨wq.heap.size, b_⟩ _ hV.new7)
                    · skip
                      refine value_ (w1 := ?_) (v := ?_) (by rfl) rfl ?_ ?_
                      rotate_left 2
                      · go_simp
                        constructor
                        · rfl
                        · rfl
                      refine hK.out _ _ ⟨c_of (blk_bel hV.new8.bel HX3.out) 7 (v := .slice r.A7 x.f1.f1.length r.c7) rfl, c_of (blk_bel hV.new8.bel HX3.out) 4 (v := .slice r.A4 x.f0.f4.length r.c4) rfl⟩ (fun hHeld => ?_)
                      clear hK K
                      refine norm_ (a' := ?_) ?_ ?_
                      rotate_left
                      · show Act.put _ (some 4) _ = _
                        simp only [Act.put, List.setIfInBounds_toArray, List.set_cons_zero, List.set_cons_succ, i64_w, i32_w]
                        rfl
                      exact norm_ (by first | (simp only [putAll, Act.put, List.setIfInBounds_toArray, List.set_cons_zero, List.set_cons_succ]; done) | (simp only [putAll, Act.put, List.setIfInBounds_toArray, List.set_cons_zero, List.set_cons_succ]; rfl)) (hJ3_9 ⟨a_, wq.heap.size⟩ _ hV.new8)
                · skip
                  rintro ⟨a_, b_⟩ wq hV
                  have hHeld : wq.cell? ⟨w.heap.size, 7, none⟩ = some (.slice r.A7 x.f1.f1.length r.c7) ∧ wq.cell? ⟨w.heap.size, 4, none⟩ = some (.slice r.A4 x.f0.f4.length r.c4) := ⟨c_of (blk_bel hV.bel HX3.out) 7 (v := .slice r.A7 x.f1.f1.length r.c7) rfl, c_of (blk_bel hV.bel HX3.out) 4 (v := .slice r.A4 x.f0.f4.length r.c4) rfl⟩
                  refine norm_ (a' := ?_) ?_ ?_
                  rotate_left
                  · simp only [putAll, Act.put, List.setIfInBounds_toArray, List.set_cons_zero, List.set_cons_succ]
                    rfl
                  refine one_ (i := 3) (N := some 12) #[true, true, true, true, true, true, true, false, true, true, false, false] rfl rfl (by kernel_rfl) (by decide) (fun K hK => ?_)
                  refine goes_ Tryz.func20 (by kernel_rfl) rfl #[.slice r.A7 x.f1.f1.length r.c7] (by rfl) rfl rfl (by simp only [List.map_toArray, List.map_cons, List.map_nil]; rfl) ?_
                  with_reducible refine (HC.out _ hV.bel).mono ?_
                  rintro e w3_ ⟨rfl, hb3_⟩
                  refine ⟨_, rfl, ?_⟩
                  refine hK.out _ _ ⟨c_of (blk_bel (hV.step hb3_).bel HX3.out) 7 (v := .slice r.A7 x.f1.f1.length r.c7) rfl, c_of (blk_bel (hV.step hb3_).bel HX3.out) 4 (v := .slice r.A4 x.f0.f4.length r.c4) rfl⟩ (fun hHeld => ?_)
                  clear hK K
                  refine norm_ (a' := ?_) ?_ ?_
                  rotate_left
                  · show Act.put _ (some 12) _ = _
                    simp only [Act.put, List.setIfInBounds_toArray, List.set_cons_zero, List.set_cons_succ, i64_w, i32_w]
                    rfl
                  exact norm_ (by first | (simp only [putAll, Act.put, List.setIfInBounds_toArray, List.set_cons_zero, List.set_cons_succ]; done) | (simp only [putAll, Act.put, List.setIfInBounds_toArray, List.set_cons_zero, List.set_cons_succ]; rfl)) (hJ3_8_9 ⟨a_, b_⟩ _ (hV.step hb3_))
              · skip
                rintro ⟨a_, b_⟩ wq hV
                have hHeld : wq.cell? ⟨w.heap.size, 7, none⟩ = some (.slice r.A7 x.f1.f1.length r.c7) ∧ wq.cell? ⟨w.heap.size, 4, none⟩ = some (.slice r.A4 x.f0.f4.length r.c4) := ⟨c_of (blk_bel hV.bel HX3.out) 7 (v := .slice r.A7 x.f1.f1.length r.c7) rfl, c_of (blk_bel hV.bel HX3.out) 4 (v := .slice r.A4 x.f0.f4.length r.c4) rfl⟩
                refine norm_ (a' := ?_) ?_ ?_
                rotate_left
                · simp only [putAll, Act.put, List.setIfInBounds_toArray, List.set_cons_zero, List.set_cons_succ]
                  rfl
                refine two_ (i := 7) (j := 8) (Ni := some 16) (Nj := some 3) #[true, true, true, true, true, true, true, true, false, true, false, false] #[true, true, true, true, true, true, true, false, true, true, false, false] rfl rfl rfl rfl (by kernel_rfl) (by decide) (by decide) (fun K hK => ?_) (fun K hK => ?_)
                · skip
                  refine goes_ Tryz.func20 (by kernel_rfl) rfl #[.slice r.A4 x.f0.f4.length r.c4] (by rfl) rfl rfl (by simp only [List.map_toArray, List.map_cons, List.map_nil]; rfl) ?_
                  with_reducible refine (HR.out _ hV.bel).mono ?_
                  rintro e w3_ ⟨rfl, hb3_⟩
                  refine ⟨_, rfl, ?_⟩
                  refine hK.out _ _ ⟨c_of (blk_bel (hV.step hb3_).bel HX3.out) 7 (v := .slice r.A7 x.f1.f1.length r.c7) rfl, c_of (blk_bel (hV.step hb3_).bel HX3.out) 4 (v := .slice r.A4 x.f0.f4.length r.c4) rfl⟩ (fun hHeld => ?_)
                  clear hK K
                  refine norm_ (a' := ?_) ?_ ?_
                  rotate_left
                  · show Act.put _ (some 16) _ = _
                    simp only [Act.put, List.setIfInBounds_toArray, List.set_cons_zero, List.set_cons_succ, i64_w, i32_w]
                    rfl
                  exact norm_ (by first | (simp only [putAll, Act.put, List.setIfInBounds_toArray, List.set_cons_zero, List.set_cons_succ]; done) | (simp only [putAll, Act.put, List.setIfInBounds_toArray, List.set_cons_zero, List.set_cons_succ]; rfl)) (hJ3_7_9 ⟨a_, b_⟩ _ (hV.step hb3_))
                · skip
                  refine value_ (w1 := ?_) (v := ?_) (by rfl) rfl ?_ ?_
                  rotate_left 2
                  · go_simp
                    constructor
                    · rfl
                    · rfl
                  refine hK.out _ _ ⟨c_of (blk_bel hV.new7.bel HX3.out) 7 (v := .slice r.A7 x.f1.f1.length r.c7) rfl, c_of (blk_bel hV.new7.bel HX3.out) 4 (v := .slice r.A4 x.f0.f4.length r.c4) rfl⟩ (fun hHeld => ?_)
                  clear hK K
                  refine norm_ (a' := ?_) ?_ ?_
                  rotate_left
                  · show Act.put _ (some 3) _ = _
                    simp only [Act.put, List.setIfInBounds_toArray, List.set_cons_zero, List.set_cons_succ, i64_w, i32_w]
                    rfl
                  exact norm_ (by first | (simp only [putAll, Act.put, List.setIfInBounds_toArray, List.set_cons_zero, List.set_cons_succ]; done) | (simp only [putAll, Act.put, List.setIfInBounds_toArray, List.set_cons_zero, List.set_cons_succ]; rfl)) (hJ3_8_9 ⟨wq.heap.size, b_⟩ _ hV.new7)
            · skip
              rintro ⟨a_, b_⟩ wq hV
              have hHeld : wq.cell? ⟨w.heap.size, 7, none⟩ = some (.slice r.A7 x.f1.f1.length r.c7) ∧ wq.cell? ⟨w.heap.size, 4, none⟩ = some (.slice r.A4 x.f0.f4.length r.c4) := ⟨c_of (blk_bel hV.bel HX3.out) 7 (v := .slice r.A7 x.f1.f1.length r.c7) rfl, c_of (blk_bel hV.bel HX3.out) 4 (v := .slice r.A4 x.f0.f4.length r.c4) rfl⟩
              refine norm_ (a' := ?_) ?_ ?_
              rotate_left
              · simp only [putAll, Act.put, List.setIfInBounds_toArray, List.set_cons_zero, List.set_cons_succ]
                rfl
              refine two_ (i := 7) (j := 9) (Ni := some 16) (Nj := some 4) #[true, true, true, true, true, true, true, true, true, false, false, false] #[true, true, true, true, true, true, true, false, true, true, false, false] rfl rfl rfl rfl (by kernel_rfl) (by decide) (by decide) (fun K hK => ?_) (fun K hK => ?_)
              · skip
                refine goes_ Tryz.func20 (by kernel_rfl) rfl #[.slice r.A4 x.f0.f4.length r.c4] (by rfl) rfl rfl (by simp only [List.map_toArray, List.map_cons, List.map_nil]; rfl) ?_
                with_reducible refine (HR.out _ hV.bel).mono ?_
                rintro e w3_ ⟨rfl, hb3_⟩
                refine ⟨_, rfl, ?_⟩
                refine hK.out _ _ ⟨c_of (blk_bel (hV.step hb3_).bel HX3.out) 7 (v := .slice r.A7 x.f1.f1.length r.c7) rfl, c_of (blk_bel (hV.step hb3_).bel HX3.out) 4 (v := .slice r.A4 x.f0.f4.length r.c4) rfl⟩ (fun hHeld => ?_)
                clear hK K
                refine norm_ (a' := ?_) ?_ ?_
                rotate_left
                · show Act.put _ (some 16) _ = _
                  simp only [Act.put, List.setIfInBounds_toArray, List.set_cons_zero, List.set_cons_succ, i64_w, i32_w]
                  rfl
                exact norm_ (by first | (simp only [putAll, Act.put, List.setIfInBounds_toArray, List.set_cons_zero, List.set_cons_succ]; done) | (simp only [putAll, Act.put, List.setIfInBounds_toArray, List.set_cons_zero, List.set_cons_succ]; rfl)) (hJ3_7_8 ⟨a_, b_⟩ _ (hV.step hb3_))
              · skip
                refine value_ (w1 := ?_) (v := ?_) (by rfl) rfl ?_ ?_
                rotate_left 2
                · go_simp
                  constructor
                  · rfl
                  · rfl
                refine hK.out _ _ ⟨c_of (blk_bel hV.new8.bel HX3.out) 7 (v := .slice r.A7 x.f1.f1.length r.c7) rfl, c_of (blk_bel hV.new8.bel HX3.out) 4 (v := .slice r.A4 x.f0.f4.length r.c4) rfl⟩ (fun hHeld => ?_)
                clear hK K
                refine norm_ (a' := ?_) ?_ ?_
                rotate_left
                · show Act.put _ (some 4) _ = _
                  simp only [Act.put, List.setIfInBounds_toArray, List.set_cons_zero, List.set_cons_succ, i64_w, i32_w]
                  rfl
                exact norm_ (by first | (simp only [putAll, Act.put, List.setIfInBounds_toArray, List.set_cons_zero, List.set_cons_succ]; done) | (simp only [putAll, Act.put, List.setIfInBounds_toArray, List.set_cons_zero, List.set_cons_succ]; rfl)) (hJ3_8_9 ⟨a_, wq.heap.size⟩ _ hV.new8)
          · skip
            rintro ⟨a_, b_⟩ wq hV
            have hHeld : wq.cell? ⟨w.heap.size, 7, none⟩ = some (.slice r.A7 x.f1.f1.length r.c7) ∧ wq.cell? ⟨w.heap.size, 4, none⟩ = some (.slice r.A4 x.f0.f4.length r.c4) := ⟨c_of (blk_bel hV.bel HX3.out) 7 (v := .slice r.A7 x.f1.f1.length r.c7) rfl, c_of (blk_bel hV.bel HX3.out) 4 (v := .slice r.A4 x.f0.f4.length r.c4) rfl⟩
            refine norm_ (a' := ?_) ?_ ?_
            rotate_left
            · simp only [putAll, Act.put, List.setIfInBounds_toArray, List.set_cons_zero, List.set_cons_succ]
              rfl
            refine two_ (i := 8) (j := 9) (Ni := some 3) (Nj := some 4) #[true, true, true, true, true, true, true, true, true, false, false, false] #[true, true, true, true, true, true, true, true, false, true, false, false] rfl rfl rfl rfl (by kernel_rfl) (by decide) (by decide) (fun K hK => ?_) (fun K hK => ?_)
            · skip
              refine value_ (w1 := ?_) (v := ?_) (by rfl) rfl ?_ ?_
              rotate_left 2
              · go_simp
                constructor
                · rfl
                · rfl
              refine hK.out _ _ ⟨c_of (blk_bel hV.new7.bel HX3.out) 7 (v := .slice r.A7 x.f1.f1.length r.c7) rfl, c_of (blk_bel hV.new7.bel HX3.out) 4 (v := .slice r.A4 x.f0.f4.length r.c4) rfl⟩ (fun hHeld => ?_)
              clear hK K
              refine norm_ (a' := ?_) ?_ ?_
              rotate_left
              · show Act.put _ (some 3) _ = _
                simp only [Act.put, List.setIfInBounds_toArray, List.set_cons_zero, List.set_cons_succ, i64_w, i32_w]
                rfl
              exact norm_ (by first | (simp only [putAll, Act.put, List.setIfInBounds_toArray, List.set_cons_zero, List.set_cons_succ]; done) | (simp only [putAll, Act.put, List.setIfInBounds_toArray, List.set_cons_zero, List.set_cons_succ]; rfl)) (hJ3_7_8 ⟨wq.heap.size, b_⟩ _ hV.new7)
            · skip
              refine value_ (w1 := ?_) (v := ?_) (by rfl) rfl ?_ ?_
              rotate_left 2
              · go_simp
                constructor
                · rfl
                · rfl
              refine hK.out _ _ ⟨c_of (blk_bel hV.new8.bel HX3.out) 7 (v := .slice r.A7 x.f1.f1.length r.c7) rfl, c_of (blk_bel hV.new8.bel HX3.out) 4 (v := .slice r.A4 x.f0.f4.length r.c4) rfl⟩ (fun hHeld => ?_)
              clear hK K
              refine norm_ (a' := ?_) ?_ ?_
              rotate_left
              · show Act.put _ (some 4) _ = _
                simp only [Act.put, List.setIfInBounds_toArray, List.set_cons_zero, List.set_cons_succ, i64_w, i32_w]
                rfl
              exact norm_ (by first | (simp only [putAll, Act.put, List.setIfInBounds_toArray, List.set_cons_zero, List.set_cons_succ]; done) | (simp only [putAll, Act.put, List.setIfInBounds_toArray, List.set_cons_zero, List.set_cons_succ]; rfl)) (hJ3_7_9 ⟨a_, wq.heap.size⟩ _ hV.new8)
        · skip
          rintro ⟨a_, b_⟩ wq hV
          have hHeld : wq.cell? ⟨w.heap.size, 7, none⟩ = some (.slice r.A7 x.f1.f1.length r.c7) ∧ wq.cell? ⟨w.heap.size, 4, none⟩ = some (.slice r.A4 x.f0.f4.length r.c4) := ⟨c_of (blk_bel hV.bel HX3.out) 7 (v := .slice r.A7 x.f1.f1.length r.c7) rfl, c_of (blk_bel hV.bel HX3.out) 4 (v := .slice r.A4 x.f0.f4.length r.c4) rfl⟩
          refine norm_ (a' := ?_) ?_ ?_
          rotate_left
          · simp only [putAll, Act.put, List.setIfInBounds_toArray, List.set_cons_zero, List.set_cons_succ]
            rfl
          refine one_ (i := 7) (N := some 16) #[true, true, true, true, true, true, true, true, true, true, false, false] rfl rfl (by kernel_rfl) (by decide) (fun K hK => ?_)
          refine goes_ Tryz.func20 (by kernel_rfl) rfl #[.slice r.A4 x.f0.f4.length r.c4] (by rfl) rfl rfl (by simp only [List.map_toArray, List.map_cons, List.map_nil]; rfl) ?_
          with_reducible refine (HR.out _ hV.bel).mono ?_
          rintro e w3_ ⟨rfl, hb3_⟩
          refine ⟨_, rfl, ?_⟩
          refine hK.out _ _ ⟨c_of (blk_bel (hV.step hb3_).bel HX3.out) 7 (v := .slice r.A7 x.f1.f1.length r.c7) rfl, c_of (blk_bel (hV.step hb3_).bel HX3.out) 4 (v := .slice r.A4 x.f0.f4.length r.c4) rfl⟩ (fun hHeld => ?_)
          clear hK K
          refine norm_ (a' := ?_) ?_ ?_
          rotate_left
          · show Act.put _ (some 16) _ = _
            simp only [Act.put, List.setIfInBounds_toArray, List.set_cons_zero, List.set_cons_succ, i64_w, i32_w]
            rfl
          exact norm_ (by first | (simp only [putAll, Act.put, List.setIfInBounds_toArray, List.set_cons_zero, List.set_cons_succ]; done) | (simp only [putAll, Act.put, List.setIfInBounds_toArray, List.set_cons_zero, List.set_cons_succ]; rfl)) (hJ3_7_8_9 ⟨a_, b_⟩ _ (hV.step hb3_))
      · skip
        rintro ⟨a_, b_⟩ wq hV
        have hHeld : wq.cell? ⟨w.heap.size, 7, none⟩ = some (.slice r.A7 x.f1.f1.length r.c7) ∧ wq.cell? ⟨w.heap.size, 4, none⟩ = some (.slice r.A4 x.f0.f4.length r.c4) := ⟨c_of (blk_bel hV.bel HX3.out) 7 (v := .slice r.A7 x.f1.f1.length r.c7) rfl, c_of (blk_bel hV.bel HX3.out) 4 (v := .slice r.A4 x.f0.f4.length r.c4) rfl⟩
        refine norm_ (a' := ?_) ?_ ?_
        rotate_left
        · simp only [putAll, Act.put, List.setIfInBounds_toArray, List.set_cons_zero, List.set_cons_succ]
          rfl
        refine one_ (i := 8) (N := some 3) #[true, true, true, true, true, true, true, true, true, true, false, false] rfl rfl (by kernel_rfl) (by decide) (fun K hK => ?_)
        refine value_ (w1 := ?_) (v := ?_) (by rfl) rfl ?_ ?_
        rotate_left 2
        · go_simp
          constructor
          · rfl
          · rfl
        refine hK.out _ _ ⟨c_of (blk_bel hV.new7.bel HX3.out) 7 (v := .slice r.A7 x.f1.f1.length r.c7) rfl, c_of (blk_bel hV.new7.bel HX3.out) 4 (v := .slice r.A4 x.f0.f4.length r.c4) rfl⟩ (fun hHeld => ?_)
        clear hK K
        refine norm_ (a' := ?_) ?_ ?_
        rotate_left
        · show Act.put _ (some 3) _ = _
          simp only [Act.put, List.setIfInBounds_toArray, List.set_cons_zero, List.set_cons_succ, i64_w, i32_w]
          rfl
        exact norm_ (by first | (simp only [putAll, Act.put, List.setIfInBounds_toArray, List.set_cons_zero, List.set_cons_succ]; done) | (simp only [putAll, Act.put, List.setIfInBounds_toArray, List.set_cons_zero, List.set_cons_succ]; rfl)) (hJ3_7_8_9 ⟨wq.heap.size, b_⟩ _ hV.new7)
    · skip
      rintro ⟨a_, b_⟩ wq hV
      have hHeld : wq.cell? ⟨w.heap.size, 7, none⟩ = some (.slice r.A7 x.f1.f1.length r.c7) ∧ wq.cell? ⟨w.heap.size, 4, none⟩ = some (.slice r.A4 x.f0.f4.length r.c4) := ⟨c_of (blk_bel hV.bel HX3.out) 7 (v := .slice r.A7 x.f1.f1.length r.c7) rfl, c_of (blk_bel hV.bel HX3.out) 4 (v := .slice r.A4 x.f0.f4.length r.c4) rfl⟩
      refine norm_ (a' := ?_) ?_ ?_
      rotate_left
      · simp only [putAll, Act.put, List.setIfInBounds_toArray, List.set_cons_zero, List.set_cons_succ]
        rfl
      refine one_ (i := 9) (N := some 4) #[true, true, true, true, true, true, true, true, true, true, false, false] rfl rfl (by kernel_rfl) (by decide) (fun K hK => ?_)
      refine value_ (w1 := ?_) (v := ?_) (by rfl) rfl ?_ ?_
      rotate_left 2
      · go_simp
        constructor
        · rfl
        · rfl
      refine hK.out _ _ ⟨c_of (blk_bel hV.new8.bel HX3.out) 7 (v := .slice r.A7 x.f1.f1.length r.c7) rfl, c_of (blk_bel hV.new8.bel HX3.out) 4 (v := .slice r.A4 x.f0.f4.length r.c4) rfl⟩ (fun hHeld => ?_)
      clear hK K
      refine norm_ (a' := ?_) ?_ ?_
      rotate_left
      · show Act.put _ (some 4) _ = _
        simp only [Act.put, List.setIfInBounds_toArray, List.set_cons_zero, List.set_cons_succ, i64_w, i32_w]
        rfl
      exact norm_ (by first | (simp only [putAll, Act.put, List.setIfInBounds_toArray, List.set_cons_zero, List.set_cons_succ]; done) | (simp only [putAll, Act.put, List.setIfInBounds_toArray, List.set_cons_zero, List.set_cons_succ]; rfl)) (hJ3_7_8_9 ⟨a_, wq.heap.size⟩ _ hV.new8)
  rintro ⟨a_, b_⟩ wq hV
  have hHeld : wq.cell? ⟨w.heap.size, 7, none⟩ = some (.slice r.A7 x.f1.f1.length r.c7) ∧ wq.cell? ⟨w.heap.size, 4, none⟩ = some (.slice r.A4 x.f0.f4.length r.c4) := ⟨c_of (blk_bel hV.bel HX3.out) 7 (v := .slice r.A7 x.f1.f1.length r.c7) rfl, c_of (blk_bel hV.bel HX3.out) 4 (v := .slice r.A4 x.f0.f4.length r.c4) rfl⟩
  have hZa := hV.h7 rfl
  have hZb := hV.h8 rfl
  have za0 := c_of hZa 0 (v := .bool false) rfl
  have za1 := c_of hZa 1 (v := .bool false) rfl
  have za2 := c_of hZa 2 (v := .bool false) rfl
  have za3 := c_of hZa 3 (v := .bool false) rfl
  have za4 := c_of hZa 4 (v := .bool false) rfl
  have za5 := c_of hZa 5 (v := .bool false) rfl
  have za6 := c_of hZa 6 (v := .int .i64 0) rfl
  have za7 := c_of hZa 7 (v := .int .i64 0) rfl
  have za8 := c_of hZa 8 (v := .int .i64 0) rfl
  have za9 := c_of hZa 9 (v := .int .i64 0) rfl
  have za10 := c_of hZa 10 (v := .int .i64 0) rfl
  have za11 := c_of hZa 11 (v := .int .i64 0) rfl
  have ya0 := fr_of hZa 0
  have ya1 := fr_of hZa 1
  have ya2 := fr_of hZa 2
  have ya3 := fr_of hZa 3
  have ya4 := fr_of hZa 4
  have ya5 := fr_of hZa 5
  have ya6 := fr_of hZa 6
  have ya7 := fr_of hZa 7
  have ya8 := fr_of hZa 8
  have ya9 := fr_of hZa 9
  have ya10 := fr_of hZa 10
  have ya11 := fr_of hZa 11
  refine norm_ (a' := ?_) ?_ ?_
  rotate_left
  · simp only [putAll, Act.put, List.setIfInBounds_toArray, List.set_cons_zero, List.set_cons_succ]
    rfl
  refine last_ (i := 10) (N := none) #[true, true, true, true, true, true, true, true, true, true, true, false] rfl rfl (by kernel_rfl) (by decide) (fun K hK => ?_)
  refine skip_ (w1 := ?_) (by rfl) rfl ?_ ?_
  rotate_left
  · go_simp
    rfl
  obtain ⟨Wa, hWa⟩ : ∃ W, W = ((((((((((((wq.setCell ⟨a_, 0, none⟩ (.bool (C.fl 0))).setCell ⟨a_, 1, none⟩ (.bool (C.fl 1))).setCell ⟨a_, 2, none⟩ (.bool (C.fl 2))).setCell ⟨a_, 3, none⟩ (.bool (C.fl 3))).setCell ⟨a_, 4, none⟩ (.bool (C.fl 4))).setCell ⟨a_, 5, none⟩ (.bool (C.fl 5))).setCell ⟨a_, 6, none⟩ (.int .i64 (C.nm 6))).setCell ⟨a_, 7, none⟩ (.int .i64 (C.nm 7))).setCell ⟨a_, 8, none⟩ (.int .i64 (C.nm 8))).setCell ⟨a_, 9, none⟩ (.int .i64 (C.nm 9))).setCell ⟨a_, 10, none⟩ (.int .i64 (C.nm 10))).setCell ⟨a_, 11, none⟩ (.int .i64 (C.nm 11))) := ⟨_, rfl⟩
  rw [← hWa]
  have HCa : Hid (Wa.heap[a_]? = some (.cells #[.bool (C.fl 0), .bool (C.fl 1), .bool (C.fl 2), .bool (C.fl 3), .bool (C.fl 4), .bool (C.fl 5), .int .i64 (C.nm 6), .int .i64 (C.nm 7), .int .i64 (C.nm 8), .int .i64 (C.nm 9), .int .i64 (C.nm 10), .int .i64 (C.nm 11)] 41 (0, 0))) := Lib.hid (by rw [hWa]; exact Fb.put12 hZa (.bool (C.fl 0)) (.bool (C.fl 1)) (.bool (C.fl 2)) (.bool (C.fl 3)) (.bool (C.fl 4)) (.bool (C.fl 5)) (.int .i64 (C.nm 6)) (.int .i64 (C.nm 7)) (.int .i64 (C.nm 8)) (.int .i64 (C.nm 9)) (.int .i64 (C.nm 10)) (.int .i64 (C.nm 11)))
  have hZb2 : Wa.heap[b_]? = some (.cells Fb.ZZ42 41 (0, 0)) := by rw [hWa]; exact (set_other (set_other (set_other (set_other (set_other (set_other (set_other (set_other (set_other (set_other (set_other (set_other hZb (Ne.symm (hV.ne rfl rfl))) (Ne.symm (hV.ne rfl rfl))) (Ne.symm (hV.ne rfl rfl))) (Ne.symm (hV.ne rfl rfl))) (Ne.symm (hV.ne rfl rfl))) (Ne.symm (hV.ne rfl rfl))) (Ne.symm (hV.ne rfl rfl))) (Ne.symm (hV.ne rfl rfl))) (Ne.symm (hV.ne rfl rfl))) (Ne.symm (hV.ne rfl rfl))) (Ne.symm (hV.ne rfl rfl))) (Ne.symm (hV.ne rfl rfl)))
  have HBa : Hid (Below W1.heap.size W1 Wa) := Lib.hid (by rw [hWa]; exact (Below.setCell (Below.setCell (Below.setCell (Below.setCell (Below.setCell (Below.setCell (Below.setCell (Below.setCell (Below.setCell (Below.setCell (Below.setCell (Below.setCell hV.bel hV.ge7 _) hV.ge7 _) hV.ge7 _) hV.ge7 _) hV.ge7 _) hV.ge7 _) hV.ge7 _) hV.ge7 _) hV.ge7 _) hV.ge7 _) hV.ge7 _) hV.ge7 _))
  have zb0 := c_of hZb2 0 (v := .bool false) rfl
  have zb1 := c_of hZb2 1 (v := .bool false) rfl
  have zb2 := c_of hZb2 2 (v := .bool false) rfl
  have zb3 := c_of hZb2 3 (v := .bool false) rfl
  have zb4 := c_of hZb2 4 (v := .bool false) rfl
  have zb5 := c_of hZb2 5 (v := .bool false) rfl
  have zb6 := c_of hZb2 6 (v := .int .i64 0) rfl
  have zb7 := c_of hZb2 7 (v := .int .i64 0) rfl
  have zb8 := c_of hZb2 8 (v := .int .i64 0) rfl
  have zb9 := c_of hZb2 9 (v := .int .i64 0) rfl
  have zb10 := c_of hZb2 10 (v := .int .i64 0) rfl
  have zb11 := c_of hZb2 11 (v := .int .i64 0) rfl
  have yb0 := fr_of hZb2 0
  have yb1 := fr_of hZb2 1
  have yb2 := fr_of hZb2 2
  have yb3 := fr_of hZb2 3
  have yb4 := fr_of hZb2 4
  have yb5 := fr_of hZb2 5
  have yb6 := fr_of hZb2 6
  have yb7 := fr_of hZb2 7
  have yb8 := fr_of hZb2 8
  have yb9 := fr_of hZb2 9
  have yb10 := fr_of hZb2 10
  have yb11 := fr_of hZb2 11
  clear hWa
  refine hK.out _ _ ?_
  clear hK K
  refine last_ (i := 11) (N := none) #[true, true, true, true, true, true, true, true, true, true, true, true] rfl rfl (by kernel_rfl) (by decide) (fun K hK => ?_)
  refine skip_ (w1 := ?_) (by rfl) rfl ?_ ?_
  rotate_left
  · go_simp
    rfl
  obtain ⟨Wb, hWb⟩ : ∃ W, W = ((((((((((((Wa.setCell ⟨b_, 0, none⟩ (.bool (R.fl 0))).setCell ⟨b_, 1, none⟩ (.bool (R.fl 1))).setCell ⟨b_, 2, none⟩ (.bool (R.fl 2))).setCell ⟨b_, 3, none⟩ (.bool (R.fl 3))).setCell ⟨b_, 4, none⟩ (.bool (R.fl 4))).setCell ⟨b_, 5, none⟩ (.bool (R.fl 5))).setCell ⟨b_, 6, none⟩ (.int .i64 (R.nm 6))).setCell ⟨b_, 7, none⟩ (.int .i64 (R.nm 7))).setCell ⟨b_, 8, none⟩ (.int .i64 (R.nm 8))).setCell ⟨b_, 9, none⟩ (.int .i64 (R.nm 9))).setCell ⟨b_, 10, none⟩ (.int .i64 (R.nm 10))).setCell ⟨b_, 11, none⟩ (.int .i64 (R.nm 11))) := ⟨_, rfl⟩
  rw [← hWb]
  have HRb : Hid (Wb.heap[b_]? = some (.cells #[.bool (R.fl 0), .bool (R.fl 1), .bool (R.fl 2), .bool (R.fl 3), .bool (R.fl 4), .bool (R.fl 5), .int .i64 (R.nm 6), .int .i64 (R.nm 7), .int .i64 (R.nm 8), .int .i64 (R.nm 9), .int .i64 (R.nm 10), .int .i64 (R.nm 11)] 41 (0, 0))) := Lib.hid (by rw [hWb]; exact Fb.put12 hZb2 (.bool (R.fl 0)) (.bool (R.fl 1)) (.bool (R.fl 2)) (.bool (R.fl 3)) (.bool (R.fl 4)) (.bool (R.fl 5)) (.int .i64 (R.nm 6)) (.int .i64 (R.nm 7)) (.int .i64 (R.nm 8)) (.int .i64 (R.nm 9)) (.int .i64 (R.nm 10)) (.int .i64 (R.nm 11)))
  have HCb : Hid (Wb.heap[a_]? = some (.cells #[.bool (C.fl 0), .bool (C.fl 1), .bool (C.fl 2), .bool (C.fl 3), .bool (C.fl 4), .bool (C.fl 5), .int .i64 (C.nm 6), .int .i64 (C.nm 7), .int .i64 (C.nm 8), .int .i64 (C.nm 9), .int .i64 (C.nm 10), .int .i64 (C.nm 11)] 41 (0, 0))) := Lib.hid (by rw [hWb]; exact (set_other (set_other (set_other (set_other (set_other (set_other (set_other (set_other (set_other (set_other (set_other (set_other HCa.out (hV.ne rfl rfl)) (hV.ne rfl rfl)) (hV.ne rfl rfl)) (hV.ne rfl rfl)) (hV.ne rfl rfl)) (hV.ne rfl rfl)) (hV.ne rfl rfl)) (hV.ne rfl rfl)) (hV.ne rfl rfl)) (hV.ne rfl rfl)) (hV.ne rfl rfl)) (hV.ne rfl rfl)))
  have HBb : Hid (Below W1.heap.size W1 Wb) := Lib.hid (by rw [hWb]; exact (Below.setCell (Below.setCell (Below.setCell (Below.setCell (Below.setCell (Below.setCell (Below.setCell (Below.setCell (Below.setCell (Below.setCell (Below.setCell (Below.setCell HBa.out hV.ge8 _) hV.ge8 _) hV.ge8 _) hV.ge8 _) hV.ge8 _) hV.ge8 _) hV.ge8 _) hV.ge8 _) hV.ge8 _) hV.ge8 _) hV.ge8 _) hV.ge8 _))
  clear hWb hZb2 zb0 zb1 zb2 zb3 zb4 zb5 zb6 zb7 zb8 zb9 zb10 zb11 yb0 yb1 yb2 yb3 yb4 yb5 yb6 yb7 yb8 yb9 yb10 yb11
  refine hK.out _ _ ?_
  clear hK K
  refine done_ (by kernel_rfl) ?_
  clear hZa hZb za0 za1 za2 za3 za4 za5 za6 za7 za8 za9 za10 za11 ya0 ya1 ya2 ya3 ya4 ya5 ya6 ya7 ya8 ya9 ya10 ya11
  have HB5 := Lib.hid (below_step HB3.out HBb.out)
  have HX5 := Lib.hid (blk_bel HBb.out HX3.out)
  obtain ⟨l0, l1, l2, l3, l4, l5, l6, l7, l8, l9, l10⟩ := bxr_cells HX5.out
  have HC5 := HCb
  have HR5 := HRb
  clear hV
  go_upto_region 4 with (first | (go_at_call 22; refine (HKE.out _ HB7.out).mono ?_; rintro e w8 ⟨rfl, hb8⟩; have HB8 := Lib.hid (below_step HB7.out hb8); have HX8 := Lib.hid (blk_bel hb8 HX7.out); have HC8 := Lib.hid (blk_bel hb8 HC7.out); have HR8 := Lib.hid (blk_bel hb8 HR7.out); obtain ⟨l0, l1, l2, l3, l4, l5, l6, l7, l8, l9, l10⟩ := bxr_cells HX8.out; have c0_ := c_of HC8.out 0 (v := .bool (C.fl 0)) rfl; have c2_ := c_of HC8.out 2 (v := .bool (C.fl 2)) rfl; have c3_ := c_of HC8.out 3 (v := .bool (C.fl 3)) rfl; have c4_ := c_of HC8.out 4 (v := .bool (C.fl 4)) rfl; have c7_ := c_of HC8.out 7 (v := .int .i64 (C.nm 7)) rfl; have r0_ := c_of HR8.out 0 (v := .bool (R.fl 0)) rfl; clear hb8) | (go_at_call 17; refine (HTH.out _ HB6.out).mono ?_; rintro e w7 ⟨rfl, hb7⟩; have HB7 := Lib.hid (below_step HB6.out hb7); have HX7 := Lib.hid (blk_bel hb7 HX6.out); have HC7 := Lib.hid (blk_bel hb7 HC6.out); have HR7 := Lib.hid (blk_bel hb7 HR6.out); obtain ⟨l0, l1, l2, l3, l4, l5, l6, l7, l8, l9, l10⟩ := bxr_cells HX7.out; have c0_ := c_of HC7.out 0 (v := .bool (C.fl 0)) rfl; have c2_ := c_of HC7.out 2 (v := .bool (C.fl 2)) rfl; have c3_ := c_of HC7.out 3 (v := .bool (C.fl 3)) rfl; have c4_ := c_of HC7.out 4 (v := .bool (C.fl 4)) rfl; have c7_ := c_of HC7.out 7 (v := .int .i64 (C.nm 7)) rfl; have r0_ := c_of HR7.out 0 (v := .bool (R.fl 0)) rfl; clear hb7) | (go_at_call 21; refine (HV.out _ HB5.out).mono ?_; rintro e w6 ⟨v6, rfl, hR6_, hb6⟩; have HB6 := Lib.hid (below_step HB5.out hb6); have HX6 := Lib.hid (blk_bel hb6 HX5.out); have HC6 := Lib.hid (blk_bel hb6 HC5.out); have HR6 := Lib.hid (blk_bel hb6 HR5.out); obtain ⟨l0, l1, l2, l3, l4, l5, l6, l7, l8, l9, l10⟩ := bxr_cells HX6.out; have c0_ := c_of HC6.out 0 (v := .bool (C.fl 0)) rfl; have c2_ := c_of HC6.out 2 (v := .bool (C.fl 2)) rfl; have c3_ := c_of HC6.out 3 (v := .bool (C.fl 3)) rfl; have c4_ := c_of HC6.out 4 (v := .bool (C.fl 4)) rfl; have c7_ := c_of HC6.out 7 (v := .int .i64 (C.nm 7)) rfl; have r0_ := c_of HR6.out 0 (v := .bool (R.fl 0)) rfl; clear hb6 hR6_))
  obtain ⟨W8, hW8⟩ : ∃ W, W = w8 := ⟨_, rfl⟩
  rw [← hW8] at HB8 HX8 HC8 HR8 ⊢
  obtain ⟨l0, l1, l2, l3, l4, l5, l6, l7, l8, l9, l10⟩ := bxr_cells HX8.out
  have c0_ := c_of HC8.out 0 (v := .bool (C.fl 0)) rfl
  have c2_ := c_of HC8.out 2 (v := .bool (C.fl 2)) rfl
  have c3_ := c_of HC8.out 3 (v := .bool (C.fl 3)) rfl
  have c4_ := c_of HC8.out 4 (v := .bool (C.fl 4)) rfl
  have c7_ := c_of HC8.out 7 (v := .int .i64 (C.nm 7)) rfl
  have r0_ := c_of HR8.out 0 (v := .bool (R.fl 0)) rfl
  clear hW8
  go_cut [66] (fun v wx => v = .bool false ∧ wx = W8)
  case first =>
    cases kp with
    | true =>
      obtain ⟨g0, g1, g2, g3, g4, g5, g6, g7, -⟩ := HLAW.out rfl
      have t0 : (x.f0.f0.toList != [71, 69, 84]) = false := by rw [g4]; rfl
      have t0b : (x.f0.f0.toList == [71, 69, 84]) = true := by rw [g4]; rfl
      have t1 : (x.f1.f0 == 206) = false := beq_eq_false_iff_ne.2 g5
      have t2 : (x.f1.f0 == 304) = false := beq_eq_false_iff_ne.2 g6
      have t3 : decide (x.f1.f0 < 200) = false := decide_eq_false (by omega)
      subst g3
      clear g5 g6 g7
      go_wp2
      go_meet
      case rel => exact ⟨rfl, rfl⟩
    | false =>
      cases ea : C.fl 0 with
      | true =>
        go_wp2
        go_meet
        case rel => exact ⟨rfl, rfl⟩
      | false =>
        cases eb : R.fl 0 with
        | true =>
          go_wp2
          go_meet
          case rel => exact ⟨rfl, rfl⟩
        | false =>
          cases ec : C.fl 4 with
          | true =>
            go_wp2
            go_meet
            case rel => exact ⟨rfl, rfl⟩
          | false =>
            cases star with
            | true =>
              go_wp2
              go_meet
              case rel => exact ⟨rfl, rfl⟩
            | false =>
              by_cases e0 : x.f0.f0.toList = [71, 69, 84]
              · skip
                have t0 : (x.f0.f0.toList != [71, 69, 84]) = false := by rw [e0]; rfl
                have t0b : (x.f0.f0.toList == [71, 69, 84]) = true := by rw [e0]; rfl
                by_cases e1 : x.f1.f0 = 206
                · have t1 : (x.f1.f0 == 206) = true := by rw [e1]; rfl
                  clear e1
                  go_wp2
                  go_meet
                  case rel => exact ⟨rfl, rfl⟩
                have t1 : (x.f1.f0 == 206) = false := beq_eq_false_iff_ne.2 e1
                clear e1
                by_cases e2 : x.f1.f0 = 304
                · have t2 : (x.f1.f0 == 304) = true := by rw [e2]; rfl
                  clear e2
                  go_wp2
                  go_meet
                  case rel => exact ⟨rfl, rfl⟩
                have t2 : (x.f1.f0 == 304) = false := beq_eq_false_iff_ne.2 e2
                clear e2
                by_cases e3 : x.f1.f0 < 200
                · have t3 : decide (x.f1.f0 < 200) = true := decide_eq_true e3
                  clear e3
                  go_wp2
                  go_meet
                  case rel => exact ⟨rfl, rfl⟩
                have t3 : decide (x.f1.f0 < 200) = false := decide_eq_false e3
                clear e3
                go_wp2
                go_meet
                case rel => exact ⟨rfl, rfl⟩
              · have t0 : (x.f0.f0.toList != [71, 69, 84]) = true := by simpa using e0
                have t0b : (x.f0.f0.toList == [71, 69, 84]) = false := by simpa using e0
                go_wp2
                go_meet
                case rel => exact ⟨rfl, rfl⟩
  case rest =>
    obtain ⟨rfl, hwx⟩ := hcut
    replace hwx := hwx.symm
    subst hwx
    go_upto_region 7 with (go_at_call 23; refine (HAA.out _ HB8.out).mono ?_; rintro e w9 ⟨v9, rfl, hR9, hb9⟩; obtain ⟨A9, c9, rfl, hl9, hC9⟩ := Kd.R_reads hR9; have HB9 := Lib.hid (below_step HB8.out hb9); have HX9 := Lib.hid (blk_bel hb9 HX8.out); have HC9 := Lib.hid (blk_bel hb9 HC8.out); have c2_ := c_of HC9.out 2 (v := .bool (C.fl 2)) rfl; have c3_ := c_of HC9.out 3 (v := .bool (C.fl 3)) rfl; have c7_ := c_of HC9.out 7 (v := .int .i64 (C.nm 7)) rfl; clear hb9 hR9 hC9)
    by_cases s1 : 0 < au.length
    · have u1 : decide ((au.length : Int) > 0) = true := decide_eq_true (by omega)
      have S1 := Lib.hid s1
      cases kp with
      | false =>
        go_wp2_with (go_at_call 15; refine (HAL.out _ HB9.out).mono ?_; rintro e w10 ⟨rfl, hb10⟩; have HB10 := Lib.hid (below_step HB9.out hb10); clear hb10)
        go_ret
        exact ⟨rfl, HB10.out⟩
      | true =>
        have hl := (HLAW.out rfl).2.2.2.2.2.2.2.2 S1.out
        have HL := Lib.hid hl
        clear hl
        cases e3 : C.fl 3 with
        | true =>
          go_wp2_with (go_at_call 15; refine (HAL.out _ HB9.out).mono ?_; rintro e w10 ⟨rfl, hb10⟩; have HB10 := Lib.hid (below_step HB9.out hb10); clear hb10)
          go_ret
          exact ⟨rfl, HB10.out⟩
        | false =>
          cases e2 : C.fl 2 with
          | true =>
            go_wp2_with (go_at_call 15; refine (HAL.out _ HB9.out).mono ?_; rintro e w10 ⟨rfl, hb10⟩; have HB10 := Lib.hid (below_step HB9.out hb10); clear hb10)
            go_ret
            exact ⟨rfl, HB10.out⟩
          | false =>
            have e7 : 0 ≤ C.nm 7 := by
              rcases HL.out with h | h | h
              · rw [e3] at h; cases h
              · rw [e2] at h; cases h
              · exact h
            have u7 : decide (C.nm 7 ≥ 0) = true := decide_eq_true e7
            clear e7
            go_wp2_with (go_at_call 15; refine (HAL.out _ HB9.out).mono ?_; rintro e w10 ⟨rfl, hb10⟩; have HB10 := Lib.hid (below_step HB9.out hb10); clear hb10)
            go_ret
            exact ⟨rfl, HB10.out⟩
    · have u1 : decide ((au.length : Int) > 0) = false := decide_eq_false (by omega)
      go_wp2_with (go_at_call 15; refine (HAL.out _ HB9.out).mono ?_; rintro e w10 ⟨rfl, hb10⟩; have HB10 := Lib.hid (below_step HB9.out hb10); clear hb10)
      go_ret
      exact ⟨rfl, HB10.out⟩
end Go.Proofs.YtbnhlekehndhkaaGreatDoor.Fr

