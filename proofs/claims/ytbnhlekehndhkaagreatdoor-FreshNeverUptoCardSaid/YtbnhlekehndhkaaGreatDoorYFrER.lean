import Derived.Test.YtbnhlekehndhkaaGreatDoorYFrV
import Derived.Test.YtbnhlekehndhkaaGreatDoorYFrN

/- OnError: its walk. -/
namespace Go.Proofs.YtbnhlekehndhkaaGreatDoor.Fr
open Go.RowKit Go.Proofs.YtbnhlekehndhkaaGreatDoorW.PrintWords Go.Proofs.YtbnhlekehndhkaaGreatDoorW.PrintLast Go.Proofs.YtbnhlekehndhkaaGreatDoorW.PrintMore Go.Proofs.YtbnhlekehndhkaaGreatDoor.G Go.Proofs.YtbnhlekehndhkaaGreatDoor.V Go.Proofs.YtbnhlekehndhkaaGreatDoor.S
set_option linter.unusedVariables false
set_option linter.unusedSimpArgs false
set_option maxRecDepth 100000 in
set_option maxHeartbeats 16000000 in
theorem err_q (w : World) (P : Nat → Prop) (x : S34) (r : Rf) (h : Ex w P x r) (q : S25) (A4 : Option Addr) (c4 : Nat) (A5 : Option Addr) (c5 : Nat) (hC : Kd.C k59 w A4 q.f4.length q.f4) (hc : q.f4.length ≤ c4) (now : Int)
    (hG : Da.Glob w) (hs : wt x.f1.f1 < 268435456) (hq : wt q.f4 < 268435456) :
    Calls Tryz.prog 24 #[.agg (Vx x r), .agg (Vq q A4 c4 A5 c5), .int .i64 now] w fun e w' => e = .returned (.bool (errN x q now)) ∧ Below w.heap.size w w' := by
  obtain ⟨W0, hW0⟩ : ∃ W, W = (w.alloc (.cells (Vx x r) 34)).alloc (.cells (Vq q A4 c4 A5 c5) 25) := ⟨_, rfl⟩
  have HB3 : Hid (Below w.heap.size w W0) := Lib.hid (by rw [hW0]; exact below_alloc (below_alloc (Below.refl _ _) _) _)
  have HX3 : Hid (W0.heap[w.heap.size]? = some (Bx x r)) := Lib.hid (by rw [hW0, heap_alloc_old _ _ (by simp)]; exact heap_alloc_new w _)
  have HQ3 : Hid (W0.heap[w.heap.size + 1]? = some (.cells (Vq q A4 c4 A5 c5) 25 (0, 0))) := Lib.hid (by
    have := heap_alloc_new (w.alloc (.cells (Vx x r) 34)) (.cells (Vq q A4 c4 A5 c5) 25)
    rw [World.size_alloc] at this
    rw [hW0]; exact this)
  have HEQ := Lib.hid hW0
  have HRI := Lib.hid (fun W (hb : Below w.heap.size w W) => right_calls W P x r (h.below hb))
  have HIT := Lib.hid (fun W (hb : Below w.heap.size w W) => isTime_q now W)
  have HC0 := Lib.hid (fun W (hb : Below w.heap.size w W) => dirs_q r.A7 r.c7 x.f1.f1 W (Kd.C_below h.g7 hb) h.l7 hs (hG.below hb))
  have HR0 := Lib.hid (fun W (hb : Below w.heap.size w W) => dirs_q A4 c4 q.f4 W (Kd.C_below hC hb) hc hq (hG.below hb))
  have HLI := Lib.hid (fun W (hb : Below w.heap.size w W) => life_q W P x r (h.below hb) (hG.below hb) hs)
  have HAG := Lib.hid (fun W (hb : Below w.heap.size w W) => age_q W P x r (h.below hb) now (hG.below hb) hs)
  obtain ⟨r0, hr0⟩ : ∃ r0, r0 = errN x q now := ⟨_, rfl⟩
  rw [← hr0]
  unfold errN at hr0
  obtain ⟨l0, l1, l2, l3, l4, l5, l6, l7, l8, l9, l10⟩ := bx_cells HX3.out
  obtain ⟨C, hC_⟩ : ∃ C, C = dirsOf x.f1.f1 := ⟨_, rfl⟩
  obtain ⟨R, hR_⟩ : ∃ R, R = dirsOf q.f4 := ⟨_, rfl⟩
  obtain ⟨ag, hag⟩ : ∃ a, a = ageN x now := ⟨_, rfl⟩
  obtain ⟨li, hli⟩ : ∃ a, a = (lifeN x).1 := ⟨_, rfl⟩
  obtain ⟨br, hbr⟩ : ∃ b, b = rightB x := ⟨_, rfl⟩
  obtain ⟨bt, hbt⟩ : ∃ b, b = isT now := ⟨_, rfl⟩
  have b1 := age_bd x now
  have b2 := life_bd x
  rw [← hC_] at HC0 hr0
  rw [← hR_] at HR0 hr0
  rw [← hag] at HAG hr0 b1
  rw [← hli] at HLI hr0 b2
  rw [← hbr] at HRI hr0
  rw [← hbt] at HIT hr0
  have HST : Hid (wrap64 (ag - li) = ag - li) := Lib.hid (by unfold wrap64; omega)
  have HRR := Lib.hid hr0
  unfold Fb.Ct.cells at HC0 HR0
  clear hr0 h hG hC_ hR_ hag hli b1 b2 hbr hbt hW0
  go_enter Tryz.func24, Tryz.ntmps24
  go_upto_region 1 with fail
  rw [← HEQ.out]
  obtain ⟨W1, hW1⟩ : ∃ W, W = W0 := ⟨_, rfl⟩
  rw [← hW1] at HB3 HX3 HQ3 ⊢
  clear hW1
  have HC := Lib.hid (fun W (hb : Below W1.heap.size W1 W) => HC0.out W (below_step HB3.out hb))
  have HR := Lib.hid (fun W (hb : Below W1.heap.size W1 W) => HR0.out W (below_step HB3.out hb))
  have hV := AtV.start W1
  refine start_ (n := 11) (S := fun w' => w'.cell? ⟨w.heap.size, 7, none⟩ = some (.slice r.A7 x.f1.f1.length r.c7) ∧ w'.cell? ⟨w.heap.size + 1, 4, none⟩ = some (.slice A4 q.f4.length c4)) (ds := [9, 10]) #[false, false, false, false, false, false, false, false, false, false, false] (by kernel_rfl) rfl rfl ⟨c_of (blk_bel hV.bel HX3.out) 7 (v := .slice r.A7 x.f1.f1.length r.c7) rfl, c_of (blk_bel hV.bel HQ3.out) 4 (v := .slice A4 q.f4.length c4) rfl⟩ (fun hHeld => ?_)
  refine pure_ (i := 0) (N := some 12) (v := ?_) (a' := ?_) #[true, false, false, false, false, false, false, false, false, false, false] rfl rfl (by kernel_rfl) (fun _ _ _ h => h) (Or.inl ⟨by rfl, ?_⟩) ?_ ?_
  rotate_left
  · intro w'
    go_simp
    with_reducible rfl
  rotate_left
  · simp only [Act.put, List.setIfInBounds_toArray, List.set_cons_zero, List.set_cons_succ, i64_w, i32_w]
    rfl
  refine pure_ (i := 1) (N := some 13) (v := ?_) (a' := ?_) #[true, true, false, false, false, false, false, false, false, false, false] rfl rfl (by kernel_rfl) (fun _ _ _ h => h) (Or.inl ⟨by rfl, ?_⟩) ?_ ?_
  rotate_left
  · intro w'
    go_simp
    with_reducible rfl
  rotate_left
  · simp only [Act.put, List.setIfInBounds_toArray, List.set_cons_zero, List.set_cons_succ, i64_w, i32_w]
    rfl
  refine pure_ (i := 4) (N := some 16) (v := ?_) (a' := ?_) #[true, true, false, false, true, false, false, false, false, false, false] rfl rfl (by kernel_rfl) (fun _ _ _ h => h) (Or.inl ⟨by rfl, ?_⟩) ?_ ?_
  rotate_left
  · intro w'
    go_simp
    with_reducible rfl
  rotate_left
  · simp only [Act.put, List.setIfInBounds_toArray, List.set_cons_zero, List.set_cons_succ, i64_w, i32_w]
    rfl
  refine take_ (i := 2) (N := some 14) (v := ?_) (a' := ?_) #[true, true, true, false, true, false, false, false, false, false, false] rfl rfl (by kernel_rfl) (fun _ _ _ h => h) (Or.inl ⟨by rfl, ?_⟩) hHeld ?_ ?_
  rotate_left
  · rintro w' ⟨s0, s1⟩
    go_simp
    with_reducible rfl
  rotate_left
  · simp only [Act.put, List.setIfInBounds_toArray, List.set_cons_zero, List.set_cons_succ, i64_w, i32_w]
    rfl
  refine take_ (i := 5) (N := some 17) (v := ?_) (a' := ?_) #[true, true, true, false, true, true, false, false, false, false, false] rfl rfl (by kernel_rfl) (fun _ _ _ h => h) (Or.inl ⟨by rfl, ?_⟩) hHeld ?_ ?_
  rotate_left
  · rintro w' ⟨s0, s1⟩
    go_simp
    with_reducible rfl
  rotate_left
  · simp only [Act.put, List.setIfInBounds_toArray, List.set_cons_zero, List.set_cons_succ, i64_w, i32_w]
    rfl
  refine join_ (σ := Nat × Nat) 2 #[true, true, true, true, true, true, true, true, true, false, false] (fun s_ => [(15, .agg #[.bool (C.fl 0), .bool (C.fl 1), .bool (C.fl 2), .bool (C.fl 3), .bool (C.fl 4), .bool (C.fl 5), .int .i64 (C.nm 6), .int .i64 (C.nm 7), .int .i64 (C.nm 8), .int .i64 (C.nm 9), .int .i64 (C.nm 10), .int .i64 (C.nm 11)]), (18, .agg #[.bool (R.fl 0), .bool (R.fl 1), .bool (R.fl 2), .bool (R.fl 3), .bool (R.fl 4), .bool (R.fl 5), .int .i64 (R.nm 6), .int .i64 (R.nm 7), .int .i64 (R.nm 8), .int .i64 (R.nm 9), .int .i64 (R.nm 10), .int .i64 (R.nm 11)]), (7, .pointer (some ⟨s_.1, 0, none⟩)), (8, .pointer (some ⟨s_.2, 0, none⟩))]) (fun s_ w' => AtV W1 true true s_.1 s_.2 w') ?_ ?_
  rotate_left
  · intro hJ3_6_7_8
    refine join_ (σ := Nat × Nat) 3 #[true, true, true, true, true, true, true, true, false, false, false] (fun s_ => [(15, .agg #[.bool (C.fl 0), .bool (C.fl 1), .bool (C.fl 2), .bool (C.fl 3), .bool (C.fl 4), .bool (C.fl 5), .int .i64 (C.nm 6), .int .i64 (C.nm 7), .int .i64 (C.nm 8), .int .i64 (C.nm 9), .int .i64 (C.nm 10), .int .i64 (C.nm 11)]), (18, .agg #[.bool (R.fl 0), .bool (R.fl 1), .bool (R.fl 2), .bool (R.fl 3), .bool (R.fl 4), .bool (R.fl 5), .int .i64 (R.nm 6), .int .i64 (R.nm 7), .int .i64 (R.nm 8), .int .i64 (R.nm 9), .int .i64 (R.nm 10), .int .i64 (R.nm 11)]), (7, .pointer (some ⟨s_.1, 0, none⟩))]) (fun s_ w' => AtV W1 true false s_.1 s_.2 w') ?_ ?_
    rotate_left
    · intro hJ3_6_7
      refine join_ (σ := Nat × Nat) 3 #[true, true, true, true, true, true, true, false, true, false, false] (fun s_ => [(15, .agg #[.bool (C.fl 0), .bool (C.fl 1), .bool (C.fl 2), .bool (C.fl 3), .bool (C.fl 4), .bool (C.fl 5), .int .i64 (C.nm 6), .int .i64 (C.nm 7), .int .i64 (C.nm 8), .int .i64 (C.nm 9), .int .i64 (C.nm 10), .int .i64 (C.nm 11)]), (18, .agg #[.bool (R.fl 0), .bool (R.fl 1), .bool (R.fl 2), .bool (R.fl 3), .bool (R.fl 4), .bool (R.fl 5), .int .i64 (R.nm 6), .int .i64 (R.nm 7), .int .i64 (R.nm 8), .int .i64 (R.nm 9), .int .i64 (R.nm 10), .int .i64 (R.nm 11)]), (8, .pointer (some ⟨s_.2, 0, none⟩))]) (fun s_ w' => AtV W1 false true s_.1 s_.2 w') ?_ ?_
      rotate_left
      · intro hJ3_6_8
        refine join_ (σ := Nat × Nat) 3 #[true, true, true, true, true, true, false, true, true, false, false] (fun s_ => [(15, .agg #[.bool (C.fl 0), .bool (C.fl 1), .bool (C.fl 2), .bool (C.fl 3), .bool (C.fl 4), .bool (C.fl 5), .int .i64 (C.nm 6), .int .i64 (C.nm 7), .int .i64 (C.nm 8), .int .i64 (C.nm 9), .int .i64 (C.nm 10), .int .i64 (C.nm 11)]), (7, .pointer (some ⟨s_.1, 0, none⟩)), (8, .pointer (some ⟨s_.2, 0, none⟩))]) (fun s_ w' => AtV W1 true true s_.1 s_.2 w') ?_ ?_
        rotate_left
        · intro hJ3_7_8
          refine join_ (σ := Nat × Nat) 4 #[true, true, true, true, true, true, true, false, false, false, false] (fun s_ => [(15, .agg #[.bool (C.fl 0), .bool (C.fl 1), .bool (C.fl 2), .bool (C.fl 3), .bool (C.fl 4), .bool (C.fl 5), .int .i64 (C.nm 6), .int .i64 (C.nm 7), .int .i64 (C.nm 8), .int .i64 (C.nm 9), .int .i64 (C.nm 10), .int .i64 (C.nm 11)]), (18, .agg #[.bool (R.fl 0), .bool (R.fl 1), .bool (R.fl 2), .bool (R.fl 3), .bool (R.fl 4), .bool (R.fl 5), .int .i64 (R.nm 6), .int .i64 (R.nm 7), .int .i64 (R.nm 8), .int .i64 (R.nm 9), .int .i64 (R.nm 10), .int .i64 (R.nm 11)])]) (fun s_ w' => AtV W1 false false s_.1 s_.2 w') ?_ ?_
          rotate_left
          · intro hJ3_6
            refine join_ (σ := Nat × Nat) 4 #[true, true, true, true, true, true, false, true, false, false, false] (fun s_ => [(15, .agg #[.bool (C.fl 0), .bool (C.fl 1), .bool (C.fl 2), .bool (C.fl 3), .bool (C.fl 4), .bool (C.fl 5), .int .i64 (C.nm 6), .int .i64 (C.nm 7), .int .i64 (C.nm 8), .int .i64 (C.nm 9), .int .i64 (C.nm 10), .int .i64 (C.nm 11)]), (7, .pointer (some ⟨s_.1, 0, none⟩))]) (fun s_ w' => AtV W1 true false s_.1 s_.2 w') ?_ ?_
            rotate_left
            · intro hJ3_7
              refine join_ (σ := Nat × Nat) 4 #[true, true, true, true, true, true, false, false, true, false, false] (fun s_ => [(15, .agg #[.bool (C.fl 0), .bool (C.fl 1), .bool (C.fl 2), .bool (C.fl 3), .bool (C.fl 4), .bool (C.fl 5), .int .i64 (C.nm 6), .int .i64 (C.nm 7), .int .i64 (C.nm 8), .int .i64 (C.nm 9), .int .i64 (C.nm 10), .int .i64 (C.nm 11)]), (8, .pointer (some ⟨s_.2, 0, none⟩))]) (fun s_ w' => AtV W1 false true s_.1 s_.2 w') ?_ ?_
              rotate_left
              · intro hJ3_8
                refine join_ (σ := Nat × Nat) 4 #[true, true, true, false, true, true, false, true, true, false, false] (fun s_ => [(7, .pointer (some ⟨s_.1, 0, none⟩)), (8, .pointer (some ⟨s_.2, 0, none⟩))]) (fun s_ w' => AtV W1 true true s_.1 s_.2 w') ?_ ?_
                rotate_left
                · intro hJ7_8
                  refine join_ (σ := Nat × Nat) 5 #[true, true, true, true, true, true, false, false, false, false, false] (fun s_ => [(15, .agg #[.bool (C.fl 0), .bool (C.fl 1), .bool (C.fl 2), .bool (C.fl 3), .bool (C.fl 4), .bool (C.fl 5), .int .i64 (C.nm 6), .int .i64 (C.nm 7), .int .i64 (C.nm 8), .int .i64 (C.nm 9), .int .i64 (C.nm 10), .int .i64 (C.nm 11)])]) (fun s_ w' => AtV W1 false false s_.1 s_.2 w') ?_ ?_
                  rotate_left
                  · intro hJ3
                    refine join_ (σ := Nat × Nat) 5 #[true, true, true, false, true, true, false, true, false, false, false] (fun s_ => [(7, .pointer (some ⟨s_.1, 0, none⟩))]) (fun s_ w' => AtV W1 true false s_.1 s_.2 w') ?_ ?_
                    rotate_left
                    · intro hJ7
                      refine join_ (σ := Nat × Nat) 5 #[true, true, true, false, true, true, false, false, true, false, false] (fun s_ => [(8, .pointer (some ⟨s_.2, 0, none⟩))]) (fun s_ w' => AtV W1 false true s_.1 s_.2 w') ?_ ?_
                      rotate_left
                      · intro hJ8
                        refine three_ (i := 3) (j := 7) (k := 8) (Ni := some 15) (Nj := some 7) (Nk := some 8) #[true, true, true, true, true, true, false, false, false, false, false] #[true, true, true, false, true, true, false, true, false, false, false] #[true, true, true, false, true, true, false, false, true, false, false] rfl rfl rfl rfl rfl rfl (by kernel_rfl) (by decide) (by decide) (by decide) (fun K hK => ?_) (fun K hK => ?_) (fun K hK => ?_)
                        · skip
                          refine goes_ Tryz.func44 (by kernel_rfl) rfl #[.slice r.A7 x.f1.f1.length r.c7] (by rfl) rfl rfl (by simp only [List.map_toArray, List.map_cons, List.map_nil]; rfl) ?_
                          with_reducible refine (HC.out _ hV.bel).mono ?_
                          rintro e w3_ ⟨rfl, hb3_⟩
                          refine ⟨_, rfl, ?_⟩
                          refine hK.out _ _ ⟨c_of (blk_bel (hV.step hb3_).bel HX3.out) 7 (v := .slice r.A7 x.f1.f1.length r.c7) rfl, c_of (blk_bel (hV.step hb3_).bel HQ3.out) 4 (v := .slice A4 q.f4.length c4) rfl⟩ (fun hHeld => ?_)
                          clear hK K
                          refine norm_ (a' := ?_) ?_ ?_
                          rotate_left
                          · show Act.put _ (some 15) _ = _
                            simp only [Act.put, List.setIfInBounds_toArray, List.set_cons_zero, List.set_cons_succ, i64_w, i32_w]
                            rfl
                          exact norm_ (by first | (simp only [putAll, Act.put, List.setIfInBounds_toArray, List.set_cons_zero, List.set_cons_succ]; done) | (simp only [putAll, Act.put, List.setIfInBounds_toArray, List.set_cons_zero, List.set_cons_succ]; rfl)) (hJ3 ⟨0, 0⟩ _ (hV.step hb3_))
                        · skip
                          refine value_ (w1 := ?_) (v := ?_) (by rfl) rfl ?_ ?_
                          rotate_left 2
                          · go_simp
                            constructor
                            · rfl
                            · rfl
                          refine hK.out _ _ ⟨c_of (blk_bel hV.new7.bel HX3.out) 7 (v := .slice r.A7 x.f1.f1.length r.c7) rfl, c_of (blk_bel hV.new7.bel HQ3.out) 4 (v := .slice A4 q.f4.length c4) rfl⟩ (fun hHeld => ?_)
                          clear hK K
                          refine norm_ (a' := ?_) ?_ ?_
                          rotate_left
                          · show Act.put _ (some 7) _ = _
                            simp only [Act.put, List.setIfInBounds_toArray, List.set_cons_zero, List.set_cons_succ, i64_w, i32_w]
                            rfl
                          exact norm_ (by first | (simp only [putAll, Act.put, List.setIfInBounds_toArray, List.set_cons_zero, List.set_cons_succ]; done) | (simp only [putAll, Act.put, List.setIfInBounds_toArray, List.set_cons_zero, List.set_cons_succ]; rfl)) (hJ7 ⟨W1.drew.heap.size, 0⟩ _ hV.new7)
                        · skip
                          refine value_ (w1 := ?_) (v := ?_) (by rfl) rfl ?_ ?_
                          rotate_left 2
                          · go_simp
                            constructor
                            · rfl
                            · rfl
                          refine hK.out _ _ ⟨c_of (blk_bel hV.new8.bel HX3.out) 7 (v := .slice r.A7 x.f1.f1.length r.c7) rfl, c_of (blk_bel hV.new8.bel HQ3.out) 4 (v := .slice A4 q.f4.length c4) rfl⟩ (fun hHeld => ?_)
                          clear hK K
                          refine norm_ (a' := ?_) ?_ ?_
                          rotate_left
                          · show Act.put _ (some 8) _ = _
                            simp only [Act.put, List.setIfInBounds_toArray, List.set_cons_zero, List.set_cons_succ, i64_w, i32_w]
                            rfl
                          exact norm_ (by first | (simp only [putAll, Act.put, List.setIfInBounds_toArray, List.set_cons_zero, List.set_cons_succ]; done) | (simp only [putAll, Act.put, List.setIfInBounds_toArray, List.set_cons_zero, List.set_cons_succ]; rfl)) (hJ8 ⟨0, W1.drew.heap.size⟩ _ hV.new8)
                      · skip
                        rintro ⟨a_, b_⟩ wq hV
                        have hHeld : wq.cell? ⟨w.heap.size, 7, none⟩ = some (.slice r.A7 x.f1.f1.length r.c7) ∧ wq.cell? ⟨w.heap.size + 1, 4, none⟩ = some (.slice A4 q.f4.length c4) := ⟨c_of (blk_bel hV.bel HX3.out) 7 (v := .slice r.A7 x.f1.f1.length r.c7) rfl, c_of (blk_bel hV.bel HQ3.out) 4 (v := .slice A4 q.f4.length c4) rfl⟩
                        refine norm_ (a' := ?_) ?_ ?_
                        rotate_left
                        · simp only [putAll, Act.put, List.setIfInBounds_toArray, List.set_cons_zero, List.set_cons_succ]
                          rfl
                        refine two_ (i := 3) (j := 7) (Ni := some 15) (Nj := some 7) #[true, true, true, true, true, true, false, false, true, false, false] #[true, true, true, false, true, true, false, true, true, false, false] rfl rfl rfl rfl (by kernel_rfl) (by decide) (by decide) (fun K hK => ?_) (fun K hK => ?_)
                        · skip
                          refine goes_ Tryz.func44 (by kernel_rfl) rfl #[.slice r.A7 x.f1.f1.length r.c7] (by rfl) rfl rfl (by simp only [List.map_toArray, List.map_cons, List.map_nil]; rfl) ?_
                          with_reducible refine (HC.out _ hV.bel).mono ?_
                          rintro e w3_ ⟨rfl, hb3_⟩
                          refine ⟨_, rfl, ?_⟩
                          refine hK.out _ _ ⟨c_of (blk_bel (hV.step hb3_).bel HX3.out) 7 (v := .slice r.A7 x.f1.f1.length r.c7) rfl, c_of (blk_bel (hV.step hb3_).bel HQ3.out) 4 (v := .slice A4 q.f4.length c4) rfl⟩ (fun hHeld => ?_)
                          clear hK K
                          refine norm_ (a' := ?_) ?_ ?_
                          rotate_left
                          · show Act.put _ (some 15) _ = _
                            simp only [Act.put, List.setIfInBounds_toArray, List.set_cons_zero, List.set_cons_succ, i64_w, i32_w]
                            rfl
                          exact norm_ (by first | (simp only [putAll, Act.put, List.setIfInBounds_toArray, List.set_cons_zero, List.set_cons_succ]; done) | (simp only [putAll, Act.put, List.setIfInBounds_toArray, List.set_cons_zero, List.set_cons_succ]; rfl)) (hJ3_8 ⟨a_, b_⟩ _ (hV.step hb3_))
                        · skip
                          refine value_ (w1 := ?_) (v := ?_) (by rfl) rfl ?_ ?_
                          rotate_left 2
                          · go_simp
                            constructor
                            · rfl
                            · rfl
                          refine hK.out _ _ ⟨c_of (blk_bel hV.new7.bel HX3.out) 7 (v := .slice r.A7 x.f1.f1.length r.c7) rfl, c_of (blk_bel hV.new7.bel HQ3.out) 4 (v := .slice A4 q.f4.length c4) rfl⟩ (fun hHeld => ?_)
                          clear hK K
                          refine norm_ (a' := ?_) ?_ ?_
                          rotate_left
                          · show Act.put _ (some 7) _ = _
                            simp only [Act.put, List.setIfInBounds_toArray, List.set_cons_zero, List.set_cons_succ, i64_w, i32_w]
                            rfl
                          exact norm_ (by first | (simp only [putAll, Act.put, List.setIfInBounds_toArray, List.set_cons_zero, List.set_cons_succ]; done) | (simp only [putAll, Act.put, List.setIfInBounds_toArray, List.set_cons_zero, List.set_cons_succ]; rfl)) (hJ7_8 ⟨wq.heap.size, b_⟩ _ hV.new7)
                    · skip
                      rintro ⟨a_, b_⟩ wq hV
                      have hHeld : wq.cell? ⟨w.heap.size, 7, none⟩ = some (.slice r.A7 x.f1.f1.length r.c7) ∧ wq.cell? ⟨w.heap.size + 1, 4, none⟩ = some (.slice A4 q.f4.length c4) := ⟨c_of (blk_bel hV.bel HX3.out) 7 (v := .slice r.A7 x.f1.f1.length r.c7) rfl, c_of (blk_bel hV.bel HQ3.out) 4 (v := .slice A4 q.f4.length c4) rfl⟩
                      refine norm_ (a' := ?_) ?_ ?_
                      rotate_left
                      · simp only [putAll, Act.put, List.setIfInBounds_toArray, List.set_cons_zero, List.set_cons_succ]
                        rfl
                      refine two_ (i := 3) (j := 8) (Ni := some 15) (Nj := some 8) #[true, true, true, true, true, true, false, true, false, false, false] #[true, true, true, false, true, true, false, true, true, false, false] rfl rfl rfl rfl (by kernel_rfl) (by decide) (by decide) (fun K hK => ?_) (fun K hK => ?_)
                      · skip
                        refine goes_ Tryz.func44 (by kernel_rfl) rfl #[.slice r.A7 x.f1.f1.length r.c7] (by rfl) rfl rfl (by simp only [List.map_toArray, List.map_cons, List.map_nil]; rfl) ?_
                        with_reducible refine (HC.out _ hV.bel).mono ?_
                        rintro e w3_ ⟨rfl, hb3_⟩
                        refine ⟨_, rfl, ?_⟩
                        refine hK.out _ _ ⟨c_of (blk_bel (hV.step hb3_).bel HX3.out) 7 (v := .slice r.A7 x.f1.f1.length r.c7) rfl, c_of (blk_bel (hV.step hb3_).bel HQ3.out) 4 (v := .slice A4 q.f4.length c4) rfl⟩ (fun hHeld => ?_)
                        clear hK K
                        refine norm_ (a' := ?_) ?_ ?_
                        rotate_left
                        · show Act.put _ (some 15) _ = _
                          simp only [Act.put, List.setIfInBounds_toArray, List.set_cons_zero, List.set_cons_succ, i64_w, i32_w]
                          rfl
                        exact norm_ (by first | (simp only [putAll, Act.put, List.setIfInBounds_toArray, List.set_cons_zero, List.set_cons_succ]; done) | (simp only [putAll, Act.put, List.setIfInBounds_toArray, List.set_cons_zero, List.set_cons_succ]; rfl)) (hJ3_7 ⟨a_, b_⟩ _ (hV.step hb3_))
                      · skip
                        refine value_ (w1 := ?_) (v := ?_) (by rfl) rfl ?_ ?_
                        rotate_left 2
                        · go_simp
                          constructor
                          · rfl
                          · rfl
                        refine hK.out _ _ ⟨c_of (blk_bel hV.new8.bel HX3.out) 7 (v := .slice r.A7 x.f1.f1.length r.c7) rfl, c_of (blk_bel hV.new8.bel HQ3.out) 4 (v := .slice A4 q.f4.length c4) rfl⟩ (fun hHeld => ?_)
                        clear hK K
                        refine norm_ (a' := ?_) ?_ ?_
                        rotate_left
                        · show Act.put _ (some 8) _ = _
                          simp only [Act.put, List.setIfInBounds_toArray, List.set_cons_zero, List.set_cons_succ, i64_w, i32_w]
                          rfl
                        exact norm_ (by first | (simp only [putAll, Act.put, List.setIfInBounds_toArray, List.set_cons_zero, List.set_cons_succ]; done) | (simp only [putAll, Act.put, List.setIfInBounds_toArray, List.set_cons_zero, List.set_cons_succ]; rfl)) (hJ7_8 ⟨a_, wq.heap.size⟩ _ hV.new8)
                  · skip
                    rintro ⟨a_, b_⟩ wq hV
                    have hHeld : wq.cell? ⟨w.heap.size, 7, none⟩ = some (.slice r.A7 x.f1.f1.length r.c7) ∧ wq.cell? ⟨w.heap.size + 1, 4, none⟩ = some (.slice A4 q.f4.length c4) := ⟨c_of (blk_bel hV.bel HX3.out) 7 (v := .slice r.A7 x.f1.f1.length r.c7) rfl, c_of (blk_bel hV.bel HQ3.out) 4 (v := .slice A4 q.f4.length c4) rfl⟩
                    refine norm_ (a' := ?_) ?_ ?_
                    rotate_left
                    · simp only [putAll, Act.put, List.setIfInBounds_toArray, List.set_cons_zero, List.set_cons_succ]
                      rfl
                    refine three_ (i := 6) (j := 7) (k := 8) (Ni := some 18) (Nj := some 7) (Nk := some 8) #[true, true, true, true, true, true, true, false, false, false, false] #[true, true, true, true, true, true, false, true, false, false, false] #[true, true, true, true, true, true, false, false, true, false, false] rfl rfl rfl rfl rfl rfl (by kernel_rfl) (by decide) (by decide) (by decide) (fun K hK => ?_) (fun K hK => ?_) (fun K hK => ?_)
                    · skip
                      refine goes_ Tryz.func44 (by kernel_rfl) rfl #[.slice A4 q.f4.length c4] (by rfl) rfl rfl (by simp only [List.map_toArray, List.map_cons, List.map_nil]; rfl) ?_
                      with_reducible refine (HR.out _ hV.bel).mono ?_
                      rintro e w3_ ⟨rfl, hb3_⟩
                      refine ⟨_, rfl, ?_⟩
                      refine hK.out _ _ ⟨c_of (blk_bel (hV.step hb3_).bel HX3.out) 7 (v := .slice r.A7 x.f1.f1.length r.c7) rfl, c_of (blk_bel (hV.step hb3_).bel HQ3.out) 4 (v := .slice A4 q.f4.length c4) rfl⟩ (fun hHeld => ?_)
                      clear hK K
                      refine norm_ (a' := ?_) ?_ ?_
                      rotate_left
                      · show Act.put _ (some 18) _ = _
                        simp only [Act.put, List.setIfInBounds_toArray, List.set_cons_zero, List.set_cons_succ, i64_w, i32_w]
                        rfl
                      exact norm_ (by first | (simp only [putAll, Act.put, List.setIfInBounds_toArray, List.set_cons_zero, List.set_cons_succ]; done) | (simp only [putAll, Act.put, List.setIfInBounds_toArray, List.set_cons_zero, List.set_cons_succ]; rfl)) (hJ3_6 ⟨a_, b_⟩ _ (hV.step hb3_))
                    · skip
                      refine value_ (w1 := ?_) (v := ?_) (by rfl) rfl ?_ ?_
                      rotate_left 2
                      · go_simp
                        constructor
                        · rfl
                        · rfl
                      refine hK.out _ _ ⟨c_of (blk_bel hV.new7.bel HX3.out) 7 (v := .slice r.A7 x.f1.f1.length r.c7) rfl, c_of (blk_bel hV.new7.bel HQ3.out) 4 (v := .slice A4 q.f4.length c4) rfl⟩ (fun hHeld => ?_)
                      clear hK K
                      refine norm_ (a' := ?_) ?_ ?_
                      rotate_left
                      · show Act.put _ (some 7) _ = _
                        simp only [Act.put, List.setIfInBounds_toArray, List.set_cons_zero, List.set_cons_succ, i64_w, i32_w]
                        rfl
                      exact norm_ (by first | (simp only [putAll, Act.put, List.setIfInBounds_toArray, List.set_cons_zero, List.set_cons_succ]; done) | (simp only [putAll, Act.put, List.setIfInBounds_toArray, List.set_cons_zero, List.set_cons_succ]; rfl)) (hJ3_7 ⟨wq.heap.size, b_⟩ _ hV.new7)
                    · skip
                      refine value_ (w1 := ?_) (v := ?_) (by rfl) rfl ?_ ?_
                      rotate_left 2
                      · go_simp
                        constructor
                        · rfl
                        · rfl
                      refine hK.out _ _ ⟨c_of (blk_bel hV.new8.bel HX3.out) 7 (v := .slice r.A7 x.f1.f1.length r.c7) rfl, c_of (blk_bel hV.new8.bel HQ3.out) 4 (v := .slice A4 q.f4.length c4) rfl⟩ (fun hHeld => ?_)
                      clear hK K
                      refine norm_ (a' := ?_) ?_ ?_
                      rotate_left
                      · show Act.put _ (some 8) _ = _
                        simp only [Act.put, List.setIfInBounds_toArray, List.set_cons_zero, List.set_cons_succ, i64_w, i32_w]
                        rfl
                      exact norm_ (by first | (simp only [putAll, Act.put, List.setIfInBounds_toArray, List.set_cons_zero, List.set_cons_succ]; done) | (simp only [putAll, Act.put, List.setIfInBounds_toArray, List.set_cons_zero, List.set_cons_succ]; rfl)) (hJ3_8 ⟨a_, wq.heap.size⟩ _ hV.new8)
                · skip
                  rintro ⟨a_, b_⟩ wq hV
                  have hHeld : wq.cell? ⟨w.heap.size, 7, none⟩ = some (.slice r.A7 x.f1.f1.length r.c7) ∧ wq.cell? ⟨w.heap.size + 1, 4, none⟩ = some (.slice A4 q.f4.length c4) := ⟨c_of (blk_bel hV.bel HX3.out) 7 (v := .slice r.A7 x.f1.f1.length r.c7) rfl, c_of (blk_bel hV.bel HQ3.out) 4 (v := .slice A4 q.f4.length c4) rfl⟩
                  refine norm_ (a' := ?_) ?_ ?_
                  rotate_left
                  · simp only [putAll, Act.put, List.setIfInBounds_toArray, List.set_cons_zero, List.set_cons_succ]
                    rfl
                  refine one_ (i := 3) (N := some 15) #[true, true, true, true, true, true, false, true, true, false, false] rfl rfl (by kernel_rfl) (by decide) (fun K hK => ?_)
                  refine goes_ Tryz.func44 (by kernel_rfl) rfl #[.slice r.A7 x.f1.f1.length r.c7] (by rfl) rfl rfl (by simp only [List.map_toArray, List.map_cons, List.map_nil]; rfl) ?_
                  with_reducible refine (HC.out _ hV.bel).mono ?_
                  rintro e w3_ ⟨rfl, hb3_⟩
                  refine ⟨_, rfl, ?_⟩
                  refine hK.out _ _ ⟨c_of (blk_bel (hV.step hb3_).bel HX3.out) 7 (v := .slice r.A7 x.f1.f1.length r.c7) rfl, c_of (blk_bel (hV.step hb3_).bel HQ3.out) 4 (v := .slice A4 q.f4.length c4) rfl⟩ (fun hHeld => ?_)
                  clear hK K
                  refine norm_ (a' := ?_) ?_ ?_
                  rotate_left
                  · show Act.put _ (some 15) _ = _
                    simp only [Act.put, List.setIfInBounds_toArray, List.set_cons_zero, List.set_cons_succ, i64_w, i32_w]
                    rfl
                  exact norm_ (by first | (simp only [putAll, Act.put, List.setIfInBounds_toArray, List.set_cons_zero, List.set_cons_succ]; done) | (simp only [putAll, Act.put, List.setIfInBounds_toArray, List.set_cons_zero, List.set_cons_succ]; rfl)) (hJ3_7_8 ⟨a_, b_⟩ _ (hV.step hb3_))
              · skip
                rintro ⟨a_, b_⟩ wq hV
                have hHeld : wq.cell? ⟨w.heap.size, 7, none⟩ = some (.slice r.A7 x.f1.f1.length r.c7) ∧ wq.cell? ⟨w.heap.size + 1, 4, none⟩ = some (.slice A4 q.f4.length c4) := ⟨c_of (blk_bel hV.bel HX3.out) 7 (v := .slice r.A7 x.f1.f1.length r.c7) rfl, c_of (blk_bel hV.bel HQ3.out) 4 (v := .slice A4 q.f4.length c4) rfl⟩
                refine norm_ (a' := ?_) ?_ ?_
                rotate_left
                · simp only [putAll, Act.put, List.setIfInBounds_toArray, List.set_cons_zero, List.set_cons_succ]
                  rfl
                refine two_ (i := 6) (j := 7) (Ni := some 18) (Nj := some 7) #[true, true, true, true, true, true, true, false, true, false, false] #[true, true, true, true, true, true, false, true, true, false, false] rfl rfl rfl rfl (by kernel_rfl) (by decide) (by decide) (fun K hK => ?_) (fun K hK => ?_)
                · skip
                  refine goes_ Tryz.func44 (by kernel_rfl) rfl #[.slice A4 q.f4.length c4] (by rfl) rfl rfl (by simp only [List.map_toArray, List.map_cons, List.map_nil]; rfl) ?_
                  with_reducible refine (HR.out _ hV.bel).mono ?_
                  rintro e w3_ ⟨rfl, hb3_⟩
                  refine ⟨_, rfl, ?_⟩
                  refine hK.out _ _ ⟨c_of (blk_bel (hV.step hb3_).bel HX3.out) 7 (v := .slice r.A7 x.f1.f1.length r.c7) rfl, c_of (blk_bel (hV.step hb3_).bel HQ3.out) 4 (v := .slice A4 q.f4.length c4) rfl⟩ (fun hHeld => ?_)
                  clear hK K
                  refine norm_ (a' := ?_) ?_ ?_
                  rotate_left
                  · show Act.put _ (some 18) _ = _
                    simp only [Act.put, List.setIfInBounds_toArray, List.set_cons_zero, List.set_cons_succ, i64_w, i32_w]
                    rfl
                  exact norm_ (by first | (simp only [putAll, Act.put, List.setIfInBounds_toArray, List.set_cons_zero, List.set_cons_succ]; done) | (simp only [putAll, Act.put, List.setIfInBounds_toArray, List.set_cons_zero, List.set_cons_succ]; rfl)) (hJ3_6_8 ⟨a_, b_⟩ _ (hV.step hb3_))
                · skip
                  refine value_ (w1 := ?_) (v := ?_) (by rfl) rfl ?_ ?_
                  rotate_left 2
                  · go_simp
                    constructor
                    · rfl
                    · rfl
                  refine hK.out _ _ ⟨c_of (blk_bel hV.new7.bel HX3.out) 7 (v := .slice r.A7 x.f1.f1.length r.c7) rfl, c_of (blk_bel hV.new7.bel HQ3.out) 4 (v := .slice A4 q.f4.length c4) rfl⟩ (fun hHeld => ?_)
                  clear hK K
                  refine norm_ (a' := ?_) ?_ ?_
                  rotate_left
                  · show Act.put _ (some 7) _ = _
                    simp only [Act.put, List.setIfInBounds_toArray, List.set_cons_zero, List.set_cons_succ, i64_w, i32_w]
                    rfl
                  exact norm_ (by first | (simp only [putAll, Act.put, List.setIfInBounds_toArray, List.set_cons_zero, List.set_cons_succ]; done) | (simp only [putAll, Act.put, List.setIfInBounds_toArray, List.set_cons_zero, List.set_cons_succ]; rfl)) (hJ3_7_8 ⟨wq.heap.size, b_⟩ _ hV.new7)
            · skip
              rintro ⟨a_, b_⟩ wq hV
              have hHeld : wq.cell? ⟨w.heap.size, 7, none⟩ = some (.slice r.A7 x.f1.f1.length r.c7) ∧ wq.cell? ⟨w.heap.size + 1, 4, none⟩ = some (.slice A4 q.f4.length c4) := ⟨c_of (blk_bel hV.bel HX3.out) 7 (v := .slice r.A7 x.f1.f1.length r.c7) rfl, c_of (blk_bel hV.bel HQ3.out) 4 (v := .slice A4 q.f4.length c4) rfl⟩
              refine norm_ (a' := ?_) ?_ ?_
              rotate_left
              · simp only [putAll, Act.put, List.setIfInBounds_toArray, List.set_cons_zero, List.set_cons_succ]
                rfl
              refine two_ (i := 6) (j := 8) (Ni := some 18) (Nj := some 8) #[true, true, true, true, true, true, true, true, false, false, false] #[true, true, true, true, true, true, false, true, true, false, false] rfl rfl rfl rfl (by kernel_rfl) (by decide) (by decide) (fun K hK => ?_) (fun K hK => ?_)
              · skip
                refine goes_ Tryz.func44 (by kernel_rfl) rfl #[.slice A4 q.f4.length c4] (by rfl) rfl rfl (by simp only [List.map_toArray, List.map_cons, List.map_nil]; rfl) ?_
                with_reducible refine (HR.out _ hV.bel).mono ?_
                rintro e w3_ ⟨rfl, hb3_⟩
                refine ⟨_, rfl, ?_⟩
                refine hK.out _ _ ⟨c_of (blk_bel (hV.step hb3_).bel HX3.out) 7 (v := .slice r.A7 x.f1.f1.length r.c7) rfl, c_of (blk_bel (hV.step hb3_).bel HQ3.out) 4 (v := .slice A4 q.f4.length c4) rfl⟩ (fun hHeld => ?_)
                clear hK K
                refine norm_ (a' := ?_) ?_ ?_
                rotate_left
                · show Act.put _ (some 18) _ = _
                  simp only [Act.put, List.setIfInBounds_toArray, List.set_cons_zero, List.set_cons_succ, i64_w, i32_w]
                  rfl
                exact norm_ (by first | (simp only [putAll, Act.put, List.setIfInBounds_toArray, List.set_cons_zero, List.set_cons_succ]; done) | (simp only [putAll, Act.put, List.setIfInBounds_toArray, List.set_cons_zero, List.set_cons_succ]; rfl)) (hJ3_6_7 ⟨a_, b_⟩ _ (hV.step hb3_))
              · skip
                refine value_ (w1 := ?_) (v := ?_) (by rfl) rfl ?_ ?_
                rotate_left 2
                · go_simp
                  constructor
                  · rfl
                  · rfl
                refine hK.out _ _ ⟨c_of (blk_bel hV.new8.bel HX3.out) 7 (v := .slice r.A7 x.f1.f1.length r.c7) rfl, c_of (blk_bel hV.new8.bel HQ3.out) 4 (v := .slice A4 q.f4.length c4) rfl⟩ (fun hHeld => ?_)
                clear hK K
                refine norm_ (a' := ?_) ?_ ?_
                rotate_left
                · show Act.put _ (some 8) _ = _
                  simp only [Act.put, List.setIfInBounds_toArray, List.set_cons_zero, List.set_cons_succ, i64_w, i32_w]
                  rfl
                exact norm_ (by first | (simp only [putAll, Act.put, List.setIfInBounds_toArray, List.set_cons_zero, List.set_cons_succ]; done) | (simp only [putAll, Act.put, List.setIfInBounds_toArray, List.set_cons_zero, List.set_cons_succ]; rfl)) (hJ3_7_8 ⟨a_, wq.heap.size⟩ _ hV.new8)
          · skip
            rintro ⟨a_, b_⟩ wq hV
            have hHeld : wq.cell? ⟨w.heap.size, 7, none⟩ = some (.slice r.A7 x.f1.f1.length r.c7) ∧ wq.cell? ⟨w.heap.size + 1, 4, none⟩ = some (.slice A4 q.f4.length c4) := ⟨c_of (blk_bel hV.bel HX3.out) 7 (v := .slice r.A7 x.f1.f1.length r.c7) rfl, c_of (blk_bel hV.bel HQ3.out) 4 (v := .slice A4 q.f4.length c4) rfl⟩
            refine norm_ (a' := ?_) ?_ ?_
            rotate_left
            · simp only [putAll, Act.put, List.setIfInBounds_toArray, List.set_cons_zero, List.set_cons_succ]
              rfl
            refine two_ (i := 7) (j := 8) (Ni := some 7) (Nj := some 8) #[true, true, true, true, true, true, true, true, false, false, false] #[true, true, true, true, true, true, true, false, true, false, false] rfl rfl rfl rfl (by kernel_rfl) (by decide) (by decide) (fun K hK => ?_) (fun K hK => ?_)
            · skip
              refine value_ (w1 := ?_) (v := ?_) (by rfl) rfl ?_ ?_
              rotate_left 2
              · go_simp
                constructor
                · rfl
                · rfl
              refine hK.out _ _ ⟨c_of (blk_bel hV.new7.bel HX3.out) 7 (v := .slice r.A7 x.f1.f1.length r.c7) rfl, c_of (blk_bel hV.new7.bel HQ3.out) 4 (v := .slice A4 q.f4.length c4) rfl⟩ (fun hHeld => ?_)
              clear hK K
              refine norm_ (a' := ?_) ?_ ?_
              rotate_left
              · show Act.put _ (some 7) _ = _
                simp only [Act.put, List.setIfInBounds_toArray, List.set_cons_zero, List.set_cons_succ, i64_w, i32_w]
                rfl
              exact norm_ (by first | (simp only [putAll, Act.put, List.setIfInBounds_toArray, List.set_cons_zero, List.set_cons_succ]; done) | (simp only [putAll, Act.put, List.setIfInBounds_toArray, List.set_cons_zero, List.set_cons_succ]; rfl)) (hJ3_6_7 ⟨wq.heap.size, b_⟩ _ hV.new7)
            · skip
              refine value_ (w1 := ?_) (v := ?_) (by rfl) rfl ?_ ?_
              rotate_left 2
              · go_simp
                constructor
                · rfl
                · rfl
              refine hK.out _ _ ⟨c_of (blk_bel hV.new8.bel HX3.out) 7 (v := .slice r.A7 x.f1.f1.length r.c7) rfl, c_of (blk_bel hV.new8.bel HQ3.out) 4 (v := .slice A4 q.f4.length c4) rfl⟩ (fun hHeld => ?_)
              clear hK K
              refine norm_ (a' := ?_) ?_ ?_
              rotate_left
              · show Act.put _ (some 8) _ = _
                simp only [Act.put, List.setIfInBounds_toArray, List.set_cons_zero, List.set_cons_succ, i64_w, i32_w]
                rfl
              exact norm_ (by first | (simp only [putAll, Act.put, List.setIfInBounds_toArray, List.set_cons_zero, List.set_cons_succ]; done) | (simp only [putAll, Act.put, List.setIfInBounds_toArray, List.set_cons_zero, List.set_cons_succ]; rfl)) (hJ3_6_8 ⟨a_, wq.heap.size⟩ _ hV.new8)
        · skip
          rintro ⟨a_, b_⟩ wq hV
          have hHeld : wq.cell? ⟨w.heap.size, 7, none⟩ = some (.slice r.A7 x.f1.f1.length r.c7) ∧ wq.cell? ⟨w.heap.size + 1, 4, none⟩ = some (.slice A4 q.f4.length c4) := ⟨c_of (blk_bel hV.bel HX3.out) 7 (v := .slice r.A7 x.f1.f1.length r.c7) rfl, c_of (blk_bel hV.bel HQ3.out) 4 (v := .slice A4 q.f4.length c4) rfl⟩
          refine norm_ (a' := ?_) ?_ ?_
          rotate_left
          · simp only [putAll, Act.put, List.setIfInBounds_toArray, List.set_cons_zero, List.set_cons_succ]
            rfl
          refine one_ (i := 6) (N := some 18) #[true, true, true, true, true, true, true, true, true, false, false] rfl rfl (by kernel_rfl) (by decide) (fun K hK => ?_)
          refine goes_ Tryz.func44 (by kernel_rfl) rfl #[.slice A4 q.f4.length c4] (by rfl) rfl rfl (by simp only [List.map_toArray, List.map_cons, List.map_nil]; rfl) ?_
          with_reducible refine (HR.out _ hV.bel).mono ?_
          rintro e w3_ ⟨rfl, hb3_⟩
          refine ⟨_, rfl, ?_⟩
          refine hK.out _ _ ⟨c_of (blk_bel (hV.step hb3_).bel HX3.out) 7 (v := .slice r.A7 x.f1.f1.length r.c7) rfl, c_of (blk_bel (hV.step hb3_).bel HQ3.out) 4 (v := .slice A4 q.f4.length c4) rfl⟩ (fun hHeld => ?_)
          clear hK K
          refine norm_ (a' := ?_) ?_ ?_
          rotate_left
          · show Act.put _ (some 18) _ = _
            simp only [Act.put, List.setIfInBounds_toArray, List.set_cons_zero, List.set_cons_succ, i64_w, i32_w]
            rfl
          exact norm_ (by first | (simp only [putAll, Act.put, List.setIfInBounds_toArray, List.set_cons_zero, List.set_cons_succ]; done) | (simp only [putAll, Act.put, List.setIfInBounds_toArray, List.set_cons_zero, List.set_cons_succ]; rfl)) (hJ3_6_7_8 ⟨a_, b_⟩ _ (hV.step hb3_))
      · skip
        rintro ⟨a_, b_⟩ wq hV
        have hHeld : wq.cell? ⟨w.heap.size, 7, none⟩ = some (.slice r.A7 x.f1.f1.length r.c7) ∧ wq.cell? ⟨w.heap.size + 1, 4, none⟩ = some (.slice A4 q.f4.length c4) := ⟨c_of (blk_bel hV.bel HX3.out) 7 (v := .slice r.A7 x.f1.f1.length r.c7) rfl, c_of (blk_bel hV.bel HQ3.out) 4 (v := .slice A4 q.f4.length c4) rfl⟩
        refine norm_ (a' := ?_) ?_ ?_
        rotate_left
        · simp only [putAll, Act.put, List.setIfInBounds_toArray, List.set_cons_zero, List.set_cons_succ]
          rfl
        refine one_ (i := 7) (N := some 7) #[true, true, true, true, true, true, true, true, true, false, false] rfl rfl (by kernel_rfl) (by decide) (fun K hK => ?_)
        refine value_ (w1 := ?_) (v := ?_) (by rfl) rfl ?_ ?_
        rotate_left 2
        · go_simp
          constructor
          · rfl
          · rfl
        refine hK.out _ _ ⟨c_of (blk_bel hV.new7.bel HX3.out) 7 (v := .slice r.A7 x.f1.f1.length r.c7) rfl, c_of (blk_bel hV.new7.bel HQ3.out) 4 (v := .slice A4 q.f4.length c4) rfl⟩ (fun hHeld => ?_)
        clear hK K
        refine norm_ (a' := ?_) ?_ ?_
        rotate_left
        · show Act.put _ (some 7) _ = _
          simp only [Act.put, List.setIfInBounds_toArray, List.set_cons_zero, List.set_cons_succ, i64_w, i32_w]
          rfl
        exact norm_ (by first | (simp only [putAll, Act.put, List.setIfInBounds_toArray, List.set_cons_zero, List.set_cons_succ]; done) | (simp only [putAll, Act.put, List.setIfInBounds_toArray, List.set_cons_zero, List.set_cons_succ]; rfl)) (hJ3_6_7_8 ⟨wq.heap.size, b_⟩ _ hV.new7)
    · skip
      rintro ⟨a_, b_⟩ wq hV
      have hHeld : wq.cell? ⟨w.heap.size, 7, none⟩ = some (.slice r.A7 x.f1.f1.length r.c7) ∧ wq.cell? ⟨w.heap.size + 1, 4, none⟩ = some (.slice A4 q.f4.length c4) := ⟨c_of (blk_bel hV.bel HX3.out) 7 (v := .slice r.A7 x.f1.f1.length r.c7) rfl, c_of (blk_bel hV.bel HQ3.out) 4 (v := .slice A4 q.f4.length c4) rfl⟩
      refine norm_ (a' := ?_) ?_ ?_
      rotate_left
      · simp only [putAll, Act.put, List.setIfInBounds_toArray, List.set_cons_zero, List.set_cons_succ]
        rfl
      refine one_ (i := 8) (N := some 8) #[true, true, true, true, true, true, true, true, true, false, false] rfl rfl (by kernel_rfl) (by decide) (fun K hK => ?_)
      refine value_ (w1 := ?_) (v := ?_) (by rfl) rfl ?_ ?_
      rotate_left 2
      · go_simp
        constructor
        · rfl
        · rfl
      refine hK.out _ _ ⟨c_of (blk_bel hV.new8.bel HX3.out) 7 (v := .slice r.A7 x.f1.f1.length r.c7) rfl, c_of (blk_bel hV.new8.bel HQ3.out) 4 (v := .slice A4 q.f4.length c4) rfl⟩ (fun hHeld => ?_)
      clear hK K
      refine norm_ (a' := ?_) ?_ ?_
      rotate_left
      · show Act.put _ (some 8) _ = _
        simp only [Act.put, List.setIfInBounds_toArray, List.set_cons_zero, List.set_cons_succ, i64_w, i32_w]
        rfl
      exact norm_ (by first | (simp only [putAll, Act.put, List.setIfInBounds_toArray, List.set_cons_zero, List.set_cons_succ]; done) | (simp only [putAll, Act.put, List.setIfInBounds_toArray, List.set_cons_zero, List.set_cons_succ]; rfl)) (hJ3_6_7_8 ⟨a_, wq.heap.size⟩ _ hV.new8)
  rintro ⟨a_, b_⟩ wq hV
  have hHeld : wq.cell? ⟨w.heap.size, 7, none⟩ = some (.slice r.A7 x.f1.f1.length r.c7) ∧ wq.cell? ⟨w.heap.size + 1, 4, none⟩ = some (.slice A4 q.f4.length c4) := ⟨c_of (blk_bel hV.bel HX3.out) 7 (v := .slice r.A7 x.f1.f1.length r.c7) rfl, c_of (blk_bel hV.bel HQ3.out) 4 (v := .slice A4 q.f4.length c4) rfl⟩
  have hZa := hV.h7 rfl
  have hZb := hV.h8 rfl
  have za0 := c_of hZa 0 (v := .bool false) rfl
  have za1 := c_of hZa 1 (v := .bool false) rfl
  have za2 := c_of hZa 2 (v := .bool false) rfl
  have za3 := c_of hZa 3 (v := .bool false) rfl
  have za4 := c_of hZa 4 (v := .bool false) rfl
  have za5 := c_of hZa 5 (v := .bool false) rfl
  have za6 := c_of hZa 6 (v := .int .i64 0) rfl
  have za7 := c_of hZa 7 (v := .int .i64 0) rfl
  have za8 := c_of hZa 8 (v := .int .i64 0) rfl
  have za9 := c_of hZa 9 (v := .int .i64 0) rfl
  have za10 := c_of hZa 10 (v := .int .i64 0) rfl
  have za11 := c_of hZa 11 (v := .int .i64 0) rfl
  have ya0 := fr_of hZa 0
  have ya1 := fr_of hZa 1
  have ya2 := fr_of hZa 2
  have ya3 := fr_of hZa 3
  have ya4 := fr_of hZa 4
  have ya5 := fr_of hZa 5
  have ya6 := fr_of hZa 6
  have ya7 := fr_of hZa 7
  have ya8 := fr_of hZa 8
  have ya9 := fr_of hZa 9
  have ya10 := fr_of hZa 10
  have ya11 := fr_of hZa 11
  refine norm_ (a' := ?_) ?_ ?_
  rotate_left
  · simp only [putAll, Act.put, List.setIfInBounds_toArray, List.set_cons_zero, List.set_cons_succ]
    rfl
  refine last_ (i := 9) (N := none) #[true, true, true, true, true, true, true, true, true, true, false] rfl rfl (by kernel_rfl) (by decide) (fun K hK => ?_)
  refine skip_ (w1 := ?_) (by rfl) rfl ?_ ?_
  rotate_left
  · go_simp
    rfl
  obtain ⟨Wa, hWa⟩ : ∃ W, W = ((((((((((((wq.setCell ⟨a_, 0, none⟩ (.bool (C.fl 0))).setCell ⟨a_, 1, none⟩ (.bool (C.fl 1))).setCell ⟨a_, 2, none⟩ (.bool (C.fl 2))).setCell ⟨a_, 3, none⟩ (.bool (C.fl 3))).setCell ⟨a_, 4, none⟩ (.bool (C.fl 4))).setCell ⟨a_, 5, none⟩ (.bool (C.fl 5))).setCell ⟨a_, 6, none⟩ (.int .i64 (C.nm 6))).setCell ⟨a_, 7, none⟩ (.int .i64 (C.nm 7))).setCell ⟨a_, 8, none⟩ (.int .i64 (C.nm 8))).setCell ⟨a_, 9, none⟩ (.int .i64 (C.nm 9))).setCell ⟨a_, 10, none⟩ (.int .i64 (C.nm 10))).setCell ⟨a_, 11, none⟩ (.int .i64 (C.nm 11))) := ⟨_, rfl⟩
  rw [← hWa]
  have HCa : Hid (Wa.heap[a_]? = some (.cells #[.bool (C.fl 0), .bool (C.fl 1), .bool (C.fl 2), .bool (C.fl 3), .bool (C.fl 4), .bool (C.fl 5), .int .i64 (C.nm 6), .int .i64 (C.nm 7), .int .i64 (C.nm 8), .int .i64 (C.nm 9), .int .i64 (C.nm 10), .int .i64 (C.nm 11)] 69 (0, 0))) := Lib.hid (by rw [hWa]; exact Fb.put12 hZa (.bool (C.fl 0)) (.bool (C.fl 1)) (.bool (C.fl 2)) (.bool (C.fl 3)) (.bool (C.fl 4)) (.bool (C.fl 5)) (.int .i64 (C.nm 6)) (.int .i64 (C.nm 7)) (.int .i64 (C.nm 8)) (.int .i64 (C.nm 9)) (.int .i64 (C.nm 10)) (.int .i64 (C.nm 11)))
  have hZb2 : Wa.heap[b_]? = some (.cells Fb.ZZ42 69 (0, 0)) := by rw [hWa]; exact (set_other (set_other (set_other (set_other (set_other (set_other (set_other (set_other (set_other (set_other (set_other (set_other hZb (Ne.symm (hV.ne rfl rfl))) (Ne.symm (hV.ne rfl rfl))) (Ne.symm (hV.ne rfl rfl))) (Ne.symm (hV.ne rfl rfl))) (Ne.symm (hV.ne rfl rfl))) (Ne.symm (hV.ne rfl rfl))) (Ne.symm (hV.ne rfl rfl))) (Ne.symm (hV.ne rfl rfl))) (Ne.symm (hV.ne rfl rfl))) (Ne.symm (hV.ne rfl rfl))) (Ne.symm (hV.ne rfl rfl))) (Ne.symm (hV.ne rfl rfl)))
  have HBa : Hid (Below W1.heap.size W1 Wa) := Lib.hid (by rw [hWa]; exact (Below.setCell (Below.setCell (Below.setCell (Below.setCell (Below.setCell (Below.setCell (Below.setCell (Below.setCell (Below.setCell (Below.setCell (Below.setCell (Below.setCell hV.bel hV.ge7 _) hV.ge7 _) hV.ge7 _) hV.ge7 _) hV.ge7 _) hV.ge7 _) hV.ge7 _) hV.ge7 _) hV.ge7 _) hV.ge7 _) hV.ge7 _) hV.ge7 _))
  have zb0 := c_of hZb2 0 (v := .bool false) rfl
  have zb1 := c_of hZb2 1 (v := .bool false) rfl
  have zb2 := c_of hZb2 2 (v := .bool false) rfl
  have zb3 := c_of hZb2 3 (v := .bool false) rfl
  have zb4 := c_of hZb2 4 (v := .bool false) rfl
  have zb5 := c_of hZb2 5 (v := .bool false) rfl
  have zb6 := c_of hZb2 6 (v := .int .i64 0) rfl
  have zb7 := c_of hZb2 7 (v := .int .i64 0) rfl
  have zb8 := c_of hZb2 8 (v := .int .i64 0) rfl
  have zb9 := c_of hZb2 9 (v := .int .i64 0) rfl
  have zb10 := c_of hZb2 10 (v := .int .i64 0) rfl
  have zb11 := c_of hZb2 11 (v := .int .i64 0) rfl
  have yb0 := fr_of hZb2 0
  have yb1 := fr_of hZb2 1
  have yb2 := fr_of hZb2 2
  have yb3 := fr_of hZb2 3
  have yb4 := fr_of hZb2 4
  have yb5 := fr_of hZb2 5
  have yb6 := fr_of hZb2 6
  have yb7 := fr_of hZb2 7
  have yb8 := fr_of hZb2 8
  have yb9 := fr_of hZb2 9
  have yb10 := fr_of hZb2 10
  have yb11 := fr_of hZb2 11
  clear hWa
  refine hK.out _ _ ?_
  clear hK K
  refine last_ (i := 10) (N := none) #[true, true, true, true, true, true, true, true, true, true, true] rfl rfl (by kernel_rfl) (by decide) (fun K hK => ?_)
  refine skip_ (w1 := ?_) (by rfl) rfl ?_ ?_
  rotate_left
  · go_simp
    rfl
  obtain ⟨Wb, hWb⟩ : ∃ W, W = ((((((((((((Wa.setCell ⟨b_, 0, none⟩ (.bool (R.fl 0))).setCell ⟨b_, 1, none⟩ (.bool (R.fl 1))).setCell ⟨b_, 2, none⟩ (.bool (R.fl 2))).setCell ⟨b_, 3, none⟩ (.bool (R.fl 3))).setCell ⟨b_, 4, none⟩ (.bool (R.fl 4))).setCell ⟨b_, 5, none⟩ (.bool (R.fl 5))).setCell ⟨b_, 6, none⟩ (.int .i64 (R.nm 6))).setCell ⟨b_, 7, none⟩ (.int .i64 (R.nm 7))).setCell ⟨b_, 8, none⟩ (.int .i64 (R.nm 8))).setCell ⟨b_, 9, none⟩ (.int .i64 (R.nm 9))).setCell ⟨b_, 10, none⟩ (.int .i64 (R.nm 10))).setCell ⟨b_, 11, none⟩ (.int .i64 (R.nm 11))) := ⟨_, rfl⟩
  rw [← hWb]
  have HRb : Hid (Wb.heap[b_]? = some (.cells #[.bool (R.fl 0), .bool (R.fl 1), .bool (R.fl 2), .bool (R.fl 3), .bool (R.fl 4), .bool (R.fl 5), .int .i64 (R.nm 6), .int .i64 (R.nm 7), .int .i64 (R.nm 8), .int .i64 (R.nm 9), .int .i64 (R.nm 10), .int .i64 (R.nm 11)] 69 (0, 0))) := Lib.hid (by rw [hWb]; exact Fb.put12 hZb2 (.bool (R.fl 0)) (.bool (R.fl 1)) (.bool (R.fl 2)) (.bool (R.fl 3)) (.bool (R.fl 4)) (.bool (R.fl 5)) (.int .i64 (R.nm 6)) (.int .i64 (R.nm 7)) (.int .i64 (R.nm 8)) (.int .i64 (R.nm 9)) (.int .i64 (R.nm 10)) (.int .i64 (R.nm 11)))
  have HCb : Hid (Wb.heap[a_]? = some (.cells #[.bool (C.fl 0), .bool (C.fl 1), .bool (C.fl 2), .bool (C.fl 3), .bool (C.fl 4), .bool (C.fl 5), .int .i64 (C.nm 6), .int .i64 (C.nm 7), .int .i64 (C.nm 8), .int .i64 (C.nm 9), .int .i64 (C.nm 10), .int .i64 (C.nm 11)] 69 (0, 0))) := Lib.hid (by rw [hWb]; exact (set_other (set_other (set_other (set_other (set_other (set_other (set_other (set_other (set_other (set_other (set_other (set_other HCa.out (hV.ne rfl rfl)) (hV.ne rfl rfl)) (hV.ne rfl rfl)) (hV.ne rfl rfl)) (hV.ne rfl rfl)) (hV.ne rfl rfl)) (hV.ne rfl rfl)) (hV.ne rfl rfl)) (hV.ne rfl rfl)) (hV.ne rfl rfl)) (hV.ne rfl rfl)) (hV.ne rfl rfl)))
  have HBb : Hid (Below W1.heap.size W1 Wb) := Lib.hid (by rw [hWb]; exact (Below.setCell (Below.setCell (Below.setCell (Below.setCell (Below.setCell (Below.setCell (Below.setCell (Below.setCell (Below.setCell (Below.setCell (Below.setCell (Below.setCell HBa.out hV.ge8 _) hV.ge8 _) hV.ge8 _) hV.ge8 _) hV.ge8 _) hV.ge8 _) hV.ge8 _) hV.ge8 _) hV.ge8 _) hV.ge8 _) hV.ge8 _) hV.ge8 _))
  clear hWb hZb2 zb0 zb1 zb2 zb3 zb4 zb5 zb6 zb7 zb8 zb9 zb10 zb11 yb0 yb1 yb2 yb3 yb4 yb5 yb6 yb7 yb8 yb9 yb10 yb11
  refine hK.out _ _ ?_
  clear hK K
  refine done_ (by kernel_rfl) ?_
  clear hZa hZb za0 za1 za2 za3 za4 za5 za6 za7 za8 za9 za10 za11 ya0 ya1 ya2 ya3 ya4 ya5 ya6 ya7 ya8 ya9 ya10 ya11
  have HB5 := Lib.hid (below_step HB3.out HBb.out)
  have HX5 := Lib.hid (blk_bel HBb.out HX3.out)
  obtain ⟨l0, l1, l2, l3, l4, l5, l6, l7, l8, l9, l10⟩ := bx_cells HX5.out
  have HC5 := HCb
  have HR5 := HRb
  have c1_ := c_of HC5.out 1 (v := .bool (C.fl 1)) rfl
  have c2_ := c_of HC5.out 2 (v := .bool (C.fl 2)) rfl
  have c7_ := c_of HC5.out 7 (v := .int .i64 (C.nm 7)) rfl
  have c11_ := c_of HC5.out 11 (v := .int .i64 (C.nm 11)) rfl
  have r0_ := c_of HR5.out 0 (v := .bool (R.fl 0)) rfl
  have r1_ := c_of HR5.out 1 (v := .bool (R.fl 1)) rfl
  have r11_ := c_of HR5.out 11 (v := .int .i64 (R.nm 11)) rfl
  clear hV
  cases br with
  | false =>
    have HT : Hid (r0 = false) := Lib.hid (by rw [HRR.out]; simp [])
    go_wp2_with (first | (go_at_call 39; refine (HRI.out _ HB5.out).mono ?_; rintro e w6 ⟨rfl, hb6⟩; have HB6 := Lib.hid (below_step HB5.out hb6); have HX6 := Lib.hid (blk_bel hb6 HX5.out); have HC6 := Lib.hid (blk_bel hb6 HC5.out); have HR6 := Lib.hid (blk_bel hb6 HR5.out); obtain ⟨l0, l1, l2, l3, l4, l5, l6, l7, l8, l9, l10⟩ := bx_cells HX6.out; have c1_ := c_of HC6.out 1 (v := .bool (C.fl 1)) rfl; have c2_ := c_of HC6.out 2 (v := .bool (C.fl 2)) rfl; have c7_ := c_of HC6.out 7 (v := .int .i64 (C.nm 7)) rfl; have c11_ := c_of HC6.out 11 (v := .int .i64 (C.nm 11)) rfl; have r0_ := c_of HR6.out 0 (v := .bool (R.fl 0)) rfl; have r1_ := c_of HR6.out 1 (v := .bool (R.fl 1)) rfl; have r11_ := c_of HR6.out 11 (v := .int .i64 (R.nm 11)) rfl; clear hb6))
    go_ret
    exact ⟨by rw [HT.out]; rfl, HB6.out⟩
  | true =>
    cases bt with
    | false =>
      have HT : Hid (r0 = false) := Lib.hid (by rw [HRR.out]; simp [])
      go_wp2_with (first | (go_at_call 40; refine (HIT.out _ HB6.out).mono ?_; rintro e w7 ⟨rfl, hb7⟩; have HB7 := Lib.hid (below_step HB6.out hb7); have HX7 := Lib.hid (blk_bel hb7 HX6.out); have HC7 := Lib.hid (blk_bel hb7 HC6.out); have HR7 := Lib.hid (blk_bel hb7 HR6.out); obtain ⟨l0, l1, l2, l3, l4, l5, l6, l7, l8, l9, l10⟩ := bx_cells HX7.out; have c1_ := c_of HC7.out 1 (v := .bool (C.fl 1)) rfl; have c2_ := c_of HC7.out 2 (v := .bool (C.fl 2)) rfl; have c7_ := c_of HC7.out 7 (v := .int .i64 (C.nm 7)) rfl; have c11_ := c_of HC7.out 11 (v := .int .i64 (C.nm 11)) rfl; have r0_ := c_of HR7.out 0 (v := .bool (R.fl 0)) rfl; have r1_ := c_of HR7.out 1 (v := .bool (R.fl 1)) rfl; have r11_ := c_of HR7.out 11 (v := .int .i64 (R.nm 11)) rfl; clear hb7) | (go_at_call 39; refine (HRI.out _ HB5.out).mono ?_; rintro e w6 ⟨rfl, hb6⟩; have HB6 := Lib.hid (below_step HB5.out hb6); have HX6 := Lib.hid (blk_bel hb6 HX5.out); have HC6 := Lib.hid (blk_bel hb6 HC5.out); have HR6 := Lib.hid (blk_bel hb6 HR5.out); obtain ⟨l0, l1, l2, l3, l4, l5, l6, l7, l8, l9, l10⟩ := bx_cells HX6.out; have c1_ := c_of HC6.out 1 (v := .bool (C.fl 1)) rfl; have c2_ := c_of HC6.out 2 (v := .bool (C.fl 2)) rfl; have c7_ := c_of HC6.out 7 (v := .int .i64 (C.nm 7)) rfl; have c11_ := c_of HC6.out 11 (v := .int .i64 (C.nm 11)) rfl; have r0_ := c_of HR6.out 0 (v := .bool (R.fl 0)) rfl; have r1_ := c_of HR6.out 1 (v := .bool (R.fl 1)) rfl; have r11_ := c_of HR6.out 11 (v := .int .i64 (R.nm 11)) rfl; clear hb6))
      go_ret
      exact ⟨by rw [HT.out]; rfl, HB7.out⟩
    | true =>
      cases ea : C.fl 1 with
      | true =>
        have HT : Hid (r0 = false) := Lib.hid (by rw [HRR.out]; simp [ea])
        go_wp2_with (first | (go_at_call 40; refine (HIT.out _ HB6.out).mono ?_; rintro e w7 ⟨rfl, hb7⟩; have HB7 := Lib.hid (below_step HB6.out hb7); have HX7 := Lib.hid (blk_bel hb7 HX6.out); have HC7 := Lib.hid (blk_bel hb7 HC6.out); have HR7 := Lib.hid (blk_bel hb7 HR6.out); obtain ⟨l0, l1, l2, l3, l4, l5, l6, l7, l8, l9, l10⟩ := bx_cells HX7.out; have c1_ := c_of HC7.out 1 (v := .bool (C.fl 1)) rfl; have c2_ := c_of HC7.out 2 (v := .bool (C.fl 2)) rfl; have c7_ := c_of HC7.out 7 (v := .int .i64 (C.nm 7)) rfl; have c11_ := c_of HC7.out 11 (v := .int .i64 (C.nm 11)) rfl; have r0_ := c_of HR7.out 0 (v := .bool (R.fl 0)) rfl; have r1_ := c_of HR7.out 1 (v := .bool (R.fl 1)) rfl; have r11_ := c_of HR7.out 11 (v := .int .i64 (R.nm 11)) rfl; clear hb7) | (go_at_call 39; refine (HRI.out _ HB5.out).mono ?_; rintro e w6 ⟨rfl, hb6⟩; have HB6 := Lib.hid (below_step HB5.out hb6); have HX6 := Lib.hid (blk_bel hb6 HX5.out); have HC6 := Lib.hid (blk_bel hb6 HC5.out); have HR6 := Lib.hid (blk_bel hb6 HR5.out); obtain ⟨l0, l1, l2, l3, l4, l5, l6, l7, l8, l9, l10⟩ := bx_cells HX6.out; have c1_ := c_of HC6.out 1 (v := .bool (C.fl 1)) rfl; have c2_ := c_of HC6.out 2 (v := .bool (C.fl 2)) rfl; have c7_ := c_of HC6.out 7 (v := .int .i64 (C.nm 7)) rfl; have c11_ := c_of HC6.out 11 (v := .int .i64 (C.nm 11)) rfl; have r0_ := c_of HR6.out 0 (v := .bool (R.fl 0)) rfl; have r1_ := c_of HR6.out 1 (v := .bool (R.fl 1)) rfl; have r11_ := c_of HR6.out 11 (v := .int .i64 (R.nm 11)) rfl; clear hb6))
        go_ret
        exact ⟨by rw [HT.out]; rfl, HB7.out⟩
      | false =>
        cases eb : C.fl 2 with
        | true =>
          have HT : Hid (r0 = false) := Lib.hid (by rw [HRR.out]; simp [ea, eb])
          go_wp2_with (first | (go_at_call 40; refine (HIT.out _ HB6.out).mono ?_; rintro e w7 ⟨rfl, hb7⟩; have HB7 := Lib.hid (below_step HB6.out hb7); have HX7 := Lib.hid (blk_bel hb7 HX6.out); have HC7 := Lib.hid (blk_bel hb7 HC6.out); have HR7 := Lib.hid (blk_bel hb7 HR6.out); obtain ⟨l0, l1, l2, l3, l4, l5, l6, l7, l8, l9, l10⟩ := bx_cells HX7.out; have c1_ := c_of HC7.out 1 (v := .bool (C.fl 1)) rfl; have c2_ := c_of HC7.out 2 (v := .bool (C.fl 2)) rfl; have c7_ := c_of HC7.out 7 (v := .int .i64 (C.nm 7)) rfl; have c11_ := c_of HC7.out 11 (v := .int .i64 (C.nm 11)) rfl; have r0_ := c_of HR7.out 0 (v := .bool (R.fl 0)) rfl; have r1_ := c_of HR7.out 1 (v := .bool (R.fl 1)) rfl; have r11_ := c_of HR7.out 11 (v := .int .i64 (R.nm 11)) rfl; clear hb7) | (go_at_call 39; refine (HRI.out _ HB5.out).mono ?_; rintro e w6 ⟨rfl, hb6⟩; have HB6 := Lib.hid (below_step HB5.out hb6); have HX6 := Lib.hid (blk_bel hb6 HX5.out); have HC6 := Lib.hid (blk_bel hb6 HC5.out); have HR6 := Lib.hid (blk_bel hb6 HR5.out); obtain ⟨l0, l1, l2, l3, l4, l5, l6, l7, l8, l9, l10⟩ := bx_cells HX6.out; have c1_ := c_of HC6.out 1 (v := .bool (C.fl 1)) rfl; have c2_ := c_of HC6.out 2 (v := .bool (C.fl 2)) rfl; have c7_ := c_of HC6.out 7 (v := .int .i64 (C.nm 7)) rfl; have c11_ := c_of HC6.out 11 (v := .int .i64 (C.nm 11)) rfl; have r0_ := c_of HR6.out 0 (v := .bool (R.fl 0)) rfl; have r1_ := c_of HR6.out 1 (v := .bool (R.fl 1)) rfl; have r11_ := c_of HR6.out 11 (v := .int .i64 (R.nm 11)) rfl; clear hb6))
          go_ret
          exact ⟨by rw [HT.out]; rfl, HB7.out⟩
        | false =>
          by_cases ec : 0 ≤ C.nm 7
          · have tc : decide (C.nm 7 ≥ 0) = true := decide_eq_true ec
            have HT : Hid (r0 = false) := Lib.hid (by rw [HRR.out]; simp [ea, eb, ec])
            go_wp2_with (first | (go_at_call 40; refine (HIT.out _ HB6.out).mono ?_; rintro e w7 ⟨rfl, hb7⟩; have HB7 := Lib.hid (below_step HB6.out hb7); have HX7 := Lib.hid (blk_bel hb7 HX6.out); have HC7 := Lib.hid (blk_bel hb7 HC6.out); have HR7 := Lib.hid (blk_bel hb7 HR6.out); obtain ⟨l0, l1, l2, l3, l4, l5, l6, l7, l8, l9, l10⟩ := bx_cells HX7.out; have c1_ := c_of HC7.out 1 (v := .bool (C.fl 1)) rfl; have c2_ := c_of HC7.out 2 (v := .bool (C.fl 2)) rfl; have c7_ := c_of HC7.out 7 (v := .int .i64 (C.nm 7)) rfl; have c11_ := c_of HC7.out 11 (v := .int .i64 (C.nm 11)) rfl; have r0_ := c_of HR7.out 0 (v := .bool (R.fl 0)) rfl; have r1_ := c_of HR7.out 1 (v := .bool (R.fl 1)) rfl; have r11_ := c_of HR7.out 11 (v := .int .i64 (R.nm 11)) rfl; clear hb7) | (go_at_call 39; refine (HRI.out _ HB5.out).mono ?_; rintro e w6 ⟨rfl, hb6⟩; have HB6 := Lib.hid (below_step HB5.out hb6); have HX6 := Lib.hid (blk_bel hb6 HX5.out); have HC6 := Lib.hid (blk_bel hb6 HC5.out); have HR6 := Lib.hid (blk_bel hb6 HR5.out); obtain ⟨l0, l1, l2, l3, l4, l5, l6, l7, l8, l9, l10⟩ := bx_cells HX6.out; have c1_ := c_of HC6.out 1 (v := .bool (C.fl 1)) rfl; have c2_ := c_of HC6.out 2 (v := .bool (C.fl 2)) rfl; have c7_ := c_of HC6.out 7 (v := .int .i64 (C.nm 7)) rfl; have c11_ := c_of HC6.out 11 (v := .int .i64 (C.nm 11)) rfl; have r0_ := c_of HR6.out 0 (v := .bool (R.fl 0)) rfl; have r1_ := c_of HR6.out 1 (v := .bool (R.fl 1)) rfl; have r11_ := c_of HR6.out 11 (v := .int .i64 (R.nm 11)) rfl; clear hb6))
            go_ret
            exact ⟨by rw [HT.out]; rfl, HB7.out⟩
          · have tc : decide (C.nm 7 ≥ 0) = false := decide_eq_false ec
            cases ed : R.fl 0 with
            | true =>
              have HT : Hid (r0 = false) := Lib.hid (by rw [HRR.out]; simp [ea, eb, ec, ed])
              go_wp2_with (first | (go_at_call 40; refine (HIT.out _ HB6.out).mono ?_; rintro e w7 ⟨rfl, hb7⟩; have HB7 := Lib.hid (below_step HB6.out hb7); have HX7 := Lib.hid (blk_bel hb7 HX6.out); have HC7 := Lib.hid (blk_bel hb7 HC6.out); have HR7 := Lib.hid (blk_bel hb7 HR6.out); obtain ⟨l0, l1, l2, l3, l4, l5, l6, l7, l8, l9, l10⟩ := bx_cells HX7.out; have c1_ := c_of HC7.out 1 (v := .bool (C.fl 1)) rfl; have c2_ := c_of HC7.out 2 (v := .bool (C.fl 2)) rfl; have c7_ := c_of HC7.out 7 (v := .int .i64 (C.nm 7)) rfl; have c11_ := c_of HC7.out 11 (v := .int .i64 (C.nm 11)) rfl; have r0_ := c_of HR7.out 0 (v := .bool (R.fl 0)) rfl; have r1_ := c_of HR7.out 1 (v := .bool (R.fl 1)) rfl; have r11_ := c_of HR7.out 11 (v := .int .i64 (R.nm 11)) rfl; clear hb7) | (go_at_call 39; refine (HRI.out _ HB5.out).mono ?_; rintro e w6 ⟨rfl, hb6⟩; have HB6 := Lib.hid (below_step HB5.out hb6); have HX6 := Lib.hid (blk_bel hb6 HX5.out); have HC6 := Lib.hid (blk_bel hb6 HC5.out); have HR6 := Lib.hid (blk_bel hb6 HR5.out); obtain ⟨l0, l1, l2, l3, l4, l5, l6, l7, l8, l9, l10⟩ := bx_cells HX6.out; have c1_ := c_of HC6.out 1 (v := .bool (C.fl 1)) rfl; have c2_ := c_of HC6.out 2 (v := .bool (C.fl 2)) rfl; have c7_ := c_of HC6.out 7 (v := .int .i64 (C.nm 7)) rfl; have c11_ := c_of HC6.out 11 (v := .int .i64 (C.nm 11)) rfl; have r0_ := c_of HR6.out 0 (v := .bool (R.fl 0)) rfl; have r1_ := c_of HR6.out 1 (v := .bool (R.fl 1)) rfl; have r11_ := c_of HR6.out 11 (v := .int .i64 (R.nm 11)) rfl; clear hb6))
              go_ret
              exact ⟨by rw [HT.out]; rfl, HB7.out⟩
            | false =>
              cases ef : R.fl 1 with
              | true =>
                have HT : Hid (r0 = false) := Lib.hid (by rw [HRR.out]; simp [ea, eb, ec, ed, ef])
                go_wp2_with (first | (go_at_call 40; refine (HIT.out _ HB6.out).mono ?_; rintro e w7 ⟨rfl, hb7⟩; have HB7 := Lib.hid (below_step HB6.out hb7); have HX7 := Lib.hid (blk_bel hb7 HX6.out); have HC7 := Lib.hid (blk_bel hb7 HC6.out); have HR7 := Lib.hid (blk_bel hb7 HR6.out); obtain ⟨l0, l1, l2, l3, l4, l5, l6, l7, l8, l9, l10⟩ := bx_cells HX7.out; have c1_ := c_of HC7.out 1 (v := .bool (C.fl 1)) rfl; have c2_ := c_of HC7.out 2 (v := .bool (C.fl 2)) rfl; have c7_ := c_of HC7.out 7 (v := .int .i64 (C.nm 7)) rfl; have c11_ := c_of HC7.out 11 (v := .int .i64 (C.nm 11)) rfl; have r0_ := c_of HR7.out 0 (v := .bool (R.fl 0)) rfl; have r1_ := c_of HR7.out 1 (v := .bool (R.fl 1)) rfl; have r11_ := c_of HR7.out 11 (v := .int .i64 (R.nm 11)) rfl; clear hb7) | (go_at_call 39; refine (HRI.out _ HB5.out).mono ?_; rintro e w6 ⟨rfl, hb6⟩; have HB6 := Lib.hid (below_step HB5.out hb6); have HX6 := Lib.hid (blk_bel hb6 HX5.out); have HC6 := Lib.hid (blk_bel hb6 HC5.out); have HR6 := Lib.hid (blk_bel hb6 HR5.out); obtain ⟨l0, l1, l2, l3, l4, l5, l6, l7, l8, l9, l10⟩ := bx_cells HX6.out; have c1_ := c_of HC6.out 1 (v := .bool (C.fl 1)) rfl; have c2_ := c_of HC6.out 2 (v := .bool (C.fl 2)) rfl; have c7_ := c_of HC6.out 7 (v := .int .i64 (C.nm 7)) rfl; have c11_ := c_of HC6.out 11 (v := .int .i64 (C.nm 11)) rfl; have r0_ := c_of HR6.out 0 (v := .bool (R.fl 0)) rfl; have r1_ := c_of HR6.out 1 (v := .bool (R.fl 1)) rfl; have r11_ := c_of HR6.out 11 (v := .int .i64 (R.nm 11)) rfl; clear hb6))
                go_ret
                exact ⟨by rw [HT.out]; rfl, HB7.out⟩
              | false =>
                by_cases eg : 0 ≤ max (C.nm 11) (R.nm 11)
                · have tg : decide (max (C.nm 11) (R.nm 11) ≥ 0) = true := decide_eq_true eg
                  have HT : Hid (r0 = decide (wrap64 (ag - li) ≤ max (C.nm 11) (R.nm 11))) := Lib.hid (by rw [HRR.out, HST.out, decide_eq_true eg]; simp [ea, eb, ec, ed, ef])
                  clear eg ec
                  go_wp2_with (first | (go_at_call 16; refine (HAG.out _ HB8.out).mono ?_; rintro e w9 ⟨rfl, hb9⟩; have HB9 := Lib.hid (below_step HB8.out hb9); have HX9 := Lib.hid (blk_bel hb9 HX8.out); have HC9 := Lib.hid (blk_bel hb9 HC8.out); have HR9 := Lib.hid (blk_bel hb9 HR8.out); obtain ⟨l0, l1, l2, l3, l4, l5, l6, l7, l8, l9, l10⟩ := bx_cells HX9.out; have c1_ := c_of HC9.out 1 (v := .bool (C.fl 1)) rfl; have c2_ := c_of HC9.out 2 (v := .bool (C.fl 2)) rfl; have c7_ := c_of HC9.out 7 (v := .int .i64 (C.nm 7)) rfl; have c11_ := c_of HC9.out 11 (v := .int .i64 (C.nm 11)) rfl; have r0_ := c_of HR9.out 0 (v := .bool (R.fl 0)) rfl; have r1_ := c_of HR9.out 1 (v := .bool (R.fl 1)) rfl; have r11_ := c_of HR9.out 11 (v := .int .i64 (R.nm 11)) rfl; clear hb9) | (go_at_call 19; refine (HLI.out _ HB7.out).mono ?_; rintro e w8 ⟨rfl, hb8⟩; have HB8 := Lib.hid (below_step HB7.out hb8); have HX8 := Lib.hid (blk_bel hb8 HX7.out); have HC8 := Lib.hid (blk_bel hb8 HC7.out); have HR8 := Lib.hid (blk_bel hb8 HR7.out); obtain ⟨l0, l1, l2, l3, l4, l5, l6, l7, l8, l9, l10⟩ := bx_cells HX8.out; have c1_ := c_of HC8.out 1 (v := .bool (C.fl 1)) rfl; have c2_ := c_of HC8.out 2 (v := .bool (C.fl 2)) rfl; have c7_ := c_of HC8.out 7 (v := .int .i64 (C.nm 7)) rfl; have c11_ := c_of HC8.out 11 (v := .int .i64 (C.nm 11)) rfl; have r0_ := c_of HR8.out 0 (v := .bool (R.fl 0)) rfl; have r1_ := c_of HR8.out 1 (v := .bool (R.fl 1)) rfl; have r11_ := c_of HR8.out 11 (v := .int .i64 (R.nm 11)) rfl; clear hb8) | (go_at_call 40; refine (HIT.out _ HB6.out).mono ?_; rintro e w7 ⟨rfl, hb7⟩; have HB7 := Lib.hid (below_step HB6.out hb7); have HX7 := Lib.hid (blk_bel hb7 HX6.out); have HC7 := Lib.hid (blk_bel hb7 HC6.out); have HR7 := Lib.hid (blk_bel hb7 HR6.out); obtain ⟨l0, l1, l2, l3, l4, l5, l6, l7, l8, l9, l10⟩ := bx_cells HX7.out; have c1_ := c_of HC7.out 1 (v := .bool (C.fl 1)) rfl; have c2_ := c_of HC7.out 2 (v := .bool (C.fl 2)) rfl; have c7_ := c_of HC7.out 7 (v := .int .i64 (C.nm 7)) rfl; have c11_ := c_of HC7.out 11 (v := .int .i64 (C.nm 11)) rfl; have r0_ := c_of HR7.out 0 (v := .bool (R.fl 0)) rfl; have r1_ := c_of HR7.out 1 (v := .bool (R.fl 1)) rfl; have r11_ := c_of HR7.out 11 (v := .int .i64 (R.nm 11)) rfl; clear hb7) | (go_at_call 39; refine (HRI.out _ HB5.out).mono ?_; rintro e w6 ⟨rfl, hb6⟩; have HB6 := Lib.hid (below_step HB5.out hb6); have HX6 := Lib.hid (blk_bel hb6 HX5.out); have HC6 := Lib.hid (blk_bel hb6 HC5.out); have HR6 := Lib.hid (blk_bel hb6 HR5.out); obtain ⟨l0, l1, l2, l3, l4, l5, l6, l7, l8, l9, l10⟩ := bx_cells HX6.out; have c1_ := c_of HC6.out 1 (v := .bool (C.fl 1)) rfl; have c2_ := c_of HC6.out 2 (v := .bool (C.fl 2)) rfl; have c7_ := c_of HC6.out 7 (v := .int .i64 (C.nm 7)) rfl; have c11_ := c_of HC6.out 11 (v := .int .i64 (C.nm 11)) rfl; have r0_ := c_of HR6.out 0 (v := .bool (R.fl 0)) rfl; have r1_ := c_of HR6.out 1 (v := .bool (R.fl 1)) rfl; have r11_ := c_of HR6.out 11 (v := .int .i64 (R.nm 11)) rfl; clear hb6))
                  go_ret
                  exact ⟨by rw [HT.out]; rfl, HB9.out⟩
                · have tg : decide (max (C.nm 11) (R.nm 11) ≥ 0) = false := decide_eq_false eg
                  have HT : Hid (r0 = false) := Lib.hid (by rw [HRR.out, decide_eq_false eg]; simp)
                  clear eg ec
                  go_wp2_with (first | (go_at_call 19; refine (HLI.out _ HB7.out).mono ?_; rintro e w8 ⟨rfl, hb8⟩; have HB8 := Lib.hid (below_step HB7.out hb8); have HX8 := Lib.hid (blk_bel hb8 HX7.out); have HC8 := Lib.hid (blk_bel hb8 HC7.out); have HR8 := Lib.hid (blk_bel hb8 HR7.out); obtain ⟨l0, l1, l2, l3, l4, l5, l6, l7, l8, l9, l10⟩ := bx_cells HX8.out; have c1_ := c_of HC8.out 1 (v := .bool (C.fl 1)) rfl; have c2_ := c_of HC8.out 2 (v := .bool (C.fl 2)) rfl; have c7_ := c_of HC8.out 7 (v := .int .i64 (C.nm 7)) rfl; have c11_ := c_of HC8.out 11 (v := .int .i64 (C.nm 11)) rfl; have r0_ := c_of HR8.out 0 (v := .bool (R.fl 0)) rfl; have r1_ := c_of HR8.out 1 (v := .bool (R.fl 1)) rfl; have r11_ := c_of HR8.out 11 (v := .int .i64 (R.nm 11)) rfl; clear hb8) | (go_at_call 40; refine (HIT.out _ HB6.out).mono ?_; rintro e w7 ⟨rfl, hb7⟩; have HB7 := Lib.hid (below_step HB6.out hb7); have HX7 := Lib.hid (blk_bel hb7 HX6.out); have HC7 := Lib.hid (blk_bel hb7 HC6.out); have HR7 := Lib.hid (blk_bel hb7 HR6.out); obtain ⟨l0, l1, l2, l3, l4, l5, l6, l7, l8, l9, l10⟩ := bx_cells HX7.out; have c1_ := c_of HC7.out 1 (v := .bool (C.fl 1)) rfl; have c2_ := c_of HC7.out 2 (v := .bool (C.fl 2)) rfl; have c7_ := c_of HC7.out 7 (v := .int .i64 (C.nm 7)) rfl; have c11_ := c_of HC7.out 11 (v := .int .i64 (C.nm 11)) rfl; have r0_ := c_of HR7.out 0 (v := .bool (R.fl 0)) rfl; have r1_ := c_of HR7.out 1 (v := .bool (R.fl 1)) rfl; have r11_ := c_of HR7.out 11 (v := .int .i64 (R.nm 11)) rfl; clear hb7) | (go_at_call 39; refine (HRI.out _ HB5.out).mono ?_; rintro e w6 ⟨rfl, hb6⟩; have HB6 := Lib.hid (below_step HB5.out hb6); have HX6 := Lib.hid (blk_bel hb6 HX5.out); have HC6 := Lib.hid (blk_bel hb6 HC5.out); have HR6 := Lib.hid (blk_bel hb6 HR5.out); obtain ⟨l0, l1, l2, l3, l4, l5, l6, l7, l8, l9, l10⟩ := bx_cells HX6.out; have c1_ := c_of HC6.out 1 (v := .bool (C.fl 1)) rfl; have c2_ := c_of HC6.out 2 (v := .bool (C.fl 2)) rfl; have c7_ := c_of HC6.out 7 (v := .int .i64 (C.nm 7)) rfl; have c11_ := c_of HC6.out 11 (v := .int .i64 (C.nm 11)) rfl; have r0_ := c_of HR6.out 0 (v := .bool (R.fl 0)) rfl; have r1_ := c_of HR6.out 1 (v := .bool (R.fl 1)) rfl; have r11_ := c_of HR6.out 11 (v := .int .i64 (R.nm 11)) rfl; clear hb6))
                  go_ret
                  exact ⟨by rw [HT.out]; rfl, HB8.out⟩
end Go.Proofs.YtbnhlekehndhkaaGreatDoor.Fr



/- FreshNever: its walk. -/
namespace Go.Proofs.YtbnhlekehndhkaaGreatDoor.Fr
open Go.RowKit Go.Proofs.YtbnhlekehndhkaaGreatDoorW.PrintWords Go.Proofs.YtbnhlekehndhkaaGreatDoorW.PrintLast Go.Proofs.YtbnhlekehndhkaaGreatDoorW.PrintMore Go.Proofs.YtbnhlekehndhkaaGreatDoor.G Go.Proofs.YtbnhlekehndhkaaGreatDoor.V Go.Proofs.YtbnhlekehndhkaaGreatDoor.S
set_option linter.unusedVariables false
set_option linter.unusedSimpArgs false
set_option maxRecDepth 100000 in
set_option maxHeartbeats 32000000 in
theorem never_calls (w : World) (P : Nat → Prop) (x : S34) (r : Rf) (h : Ex w P x r) (q : S25) (A4 : Option Addr) (c4 : Nat) (A5 : Option Addr) (c5 : Nat) (hC : Kd.C k59 w A4 q.f4.length q.f4) (hc : q.f4.length ≤ c4) (now : Int)
    (hG : Da.Glob w) (hs : wt x.f1.f1 < 268435456) (hq : wt q.f4 < 268435456) :
    Calls Tryz.prog 6 #[.agg (Vx x r), .agg (Vq q A4 c4 A5 c5), .int .i64 now] w fun e w' => e = .returned (.bool true) ∧ Below w.heap.size w w' := by
  obtain ⟨W1, hW1⟩ : ∃ W, W = (w.alloc (.cells (Vx x r) 29)).alloc (.cells (Vq q A4 c4 A5 c5) 25) := ⟨_, rfl⟩
  have HB3 : Hid (Below w.heap.size w W1) := Lib.hid (by rw [hW1]; exact below_alloc (below_alloc (Below.refl _ _) _) _)
  have HX3 : Hid (W1.heap[w.heap.size]? = some (Br x r)) := Lib.hid (by rw [hW1, heap_alloc_old _ _ (by simp)]; exact heap_alloc_new w _)
  have HQ3 : Hid (W1.heap[w.heap.size + 1]? = some (.cells (Vq q A4 c4 A5 c5) 25 (0, 0))) := Lib.hid (by
    have := heap_alloc_new (w.alloc (.cells (Vx x r) 29)) (.cells (Vq q A4 c4 A5 c5) 25)
    rw [World.size_alloc] at this
    rw [hW1]; exact this)
  have HEQ := Lib.hid hW1
  have HTH := Lib.hid (theirs_h w x r)
  have HAL := Lib.hid (fun W (hb : Below w.heap.size w W) => alive_q W (hG.below hb))
  have HVE := Lib.hid (fun W (hb : Below w.heap.size w W) => verd_q W P x r (h.below hb) q A4 c4 A5 c5 (Kd.C_below hC hb) hc now (hG.below hb) hs hq)
  have HER := Lib.hid (fun W (hb : Below w.heap.size w W) => err_q W P x r (h.below hb) q A4 c4 A5 c5 (Kd.C_below hC hb) hc now (hG.below hb) hs hq)
  have HAG := Lib.hid (fun W (hb : Below w.heap.size w W) => age_q W P x r (h.below hb) now (hG.below hb) hs)
  have HLI := Lib.hid (fun W (hb : Below w.heap.size w W) => life_q W P x r (h.below hb) (hG.below hb) hs)
  have HC0 := Lib.hid (fun W (hb : Below w.heap.size w W) => rdirs_of r.A7 r.c7 x.f1.f1 W (Kd.C_below h.g7 hb) h.l7 hs)
  have HR0 := Lib.hid (fun W (hb : Below w.heap.size w W) => rdirs_of A4 c4 q.f4 W (Kd.C_below hC hb) hc hq)
  have hlaw := never_law x q now
  obtain ⟨v, hv⟩ : ∃ v, v = verdN x q now := ⟨_, rfl⟩
  obtain ⟨er, her⟩ : ∃ v, v = errN x q now := ⟨_, rfl⟩
  obtain ⟨ag, hag⟩ : ∃ v, v = ageN x now := ⟨_, rfl⟩
  obtain ⟨li, hli⟩ : ∃ v, v = (lifeN x).1 := ⟨_, rfl⟩
  obtain ⟨C, hC_⟩ : ∃ C, C = dirsOf x.f1.f1 := ⟨_, rfl⟩
  obtain ⟨R, hR_⟩ : ∃ R, R = dirsOf q.f4 := ⟨_, rfl⟩
  rw [← hv] at HVE hlaw
  rw [← her] at HER hlaw
  rw [← hag] at HAG hlaw
  rw [← hli] at HLI hlaw
  rw [← hC_] at HC0 hlaw
  rw [← hR_] at HR0 hlaw
  have HLAW := Lib.hid hlaw
  unfold Fb.Ct.cells at HC0 HR0
  clear h hG hC hC_ hR_ hW1 hlaw hv her hag hli
  have HC := Lib.hid (fun W (hb : Below W1.heap.size W1 W) => HC0.out W (below_step HB3.out hb))
  have HR := Lib.hid (fun W (hb : Below W1.heap.size W1 W) => HR0.out W (below_step HB3.out hb))
  have hV := AtD.start W1
  go_enter Tryz.func6, Tryz.ntmps6
  go_upto_region 1 with fail
  rw [← HEQ.out]
  refine start_ (n := 11) (S := fun w' => w'.cell? ⟨w.heap.size, 7, none⟩ = some (.slice r.A7 x.f1.f1.length r.c7) ∧ w'.cell? ⟨w.heap.size + 1, 4, none⟩ = some (.slice A4 q.f4.length c4)) (ds := [9, 10]) #[false, false, false, false, false, false, false, false, false, false, false] (by kernel_rfl) rfl rfl ⟨c_of (blk_bel hV.bel HX3.out) 7 (v := .slice r.A7 x.f1.f1.length r.c7) rfl, c_of (blk_bel hV.bel HQ3.out) 4 (v := .slice A4 q.f4.length c4) rfl⟩ (fun hHeld => ?_)
  refine pure_ (i := 0) (N := some 13) (v := ?_) (a' := ?_) #[true, false, false, false, false, false, false, false, false, false, false] rfl rfl (by kernel_rfl) (fun _ _ _ h => h) (Or.inl ⟨by rfl, ?_⟩) ?_ ?_
  rotate_left
  · intro w'
    go_simp
    with_reducible rfl
  rotate_left
  · simp only [Act.put, List.setIfInBounds_toArray, List.set_cons_zero, List.set_cons_succ, i64_w, i32_w]
    rfl
  refine pure_ (i := 1) (N := some 14) (v := ?_) (a' := ?_) #[true, true, false, false, false, false, false, false, false, false, false] rfl rfl (by kernel_rfl) (fun _ _ _ h => h) (Or.inl ⟨by rfl, ?_⟩) ?_ ?_
  rotate_left
  · intro w'
    go_simp
    with_reducible rfl
  rotate_left
  · simp only [Act.put, List.setIfInBounds_toArray, List.set_cons_zero, List.set_cons_succ, i64_w, i32_w]
    rfl
  refine pure_ (i := 4) (N := some 17) (v := ?_) (a' := ?_) #[true, true, false, false, true, false, false, false, false, false, false] rfl rfl (by kernel_rfl) (fun _ _ _ h => h) (Or.inl ⟨by rfl, ?_⟩) ?_ ?_
  rotate_left
  · intro w'
    go_simp
    with_reducible rfl
  rotate_left
  · simp only [Act.put, List.setIfInBounds_toArray, List.set_cons_zero, List.set_cons_succ, i64_w, i32_w]
    rfl
  refine take_ (i := 2) (N := some 15) (v := ?_) (a' := ?_) #[true, true, true, false, true, false, false, false, false, false, false] rfl rfl (by kernel_rfl) (fun _ _ _ h => h) (Or.inl ⟨by rfl, ?_⟩) hHeld ?_ ?_
  rotate_left
  · rintro w' ⟨s0, s1⟩
    go_simp
    with_reducible rfl
  rotate_left
  · simp only [Act.put, List.setIfInBounds_toArray, List.set_cons_zero, List.set_cons_succ, i64_w, i32_w]
    rfl
  refine take_ (i := 5) (N := some 18) (v := ?_) (a' := ?_) #[true, true, true, false, true, true, false, false, false, false, false] rfl rfl (by kernel_rfl) (fun _ _ _ h => h) (Or.inl ⟨by rfl, ?_⟩) hHeld ?_ ?_
  rotate_left
  · rintro w' ⟨s0, s1⟩
    go_simp
    with_reducible rfl
  rotate_left
  · simp only [Act.put, List.setIfInBounds_toArray, List.set_cons_zero, List.set_cons_succ, i64_w, i32_w]
    rfl
  refine join_ (σ := Nat × Nat) 2 #[true, true, true, true, true, true, true, true, true, false, false] (fun s_ => [(16, .agg #[.bool (C.fl 0), .bool (C.fl 1), .bool (C.fl 2), .bool (C.fl 3), .bool (C.fl 4), .bool (C.fl 5), .int .i64 (C.nm 6), .int .i64 (C.nm 7), .int .i64 (C.nm 8), .int .i64 (C.nm 9), .int .i64 (C.nm 10), .int .i64 (C.nm 11)]), (19, .agg #[.bool (R.fl 0), .bool (R.fl 1), .bool (R.fl 2), .bool (R.fl 3), .bool (R.fl 4), .bool (R.fl 5), .int .i64 (R.nm 6), .int .i64 (R.nm 7), .int .i64 (R.nm 8), .int .i64 (R.nm 9), .int .i64 (R.nm 10), .int .i64 (R.nm 11)]), (7, .pointer (some ⟨s_.1, 0, none⟩)), (8, .pointer (some ⟨s_.2, 0, none⟩))]) (fun s_ w' => AtD W1 true true s_.1 s_.2 w') ?_ ?_
  rotate_left
  · intro hJ3_6_7_8
    refine join_ (σ := Nat × Nat) 3 #[true, true, true, true, true, true, true, true, false, false, false] (fun s_ => [(16, .agg #[.bool (C.fl 0), .bool (C.fl 1), .bool (C.fl 2), .bool (C.fl 3), .bool (C.fl 4), .bool (C.fl 5), .int .i64 (C.nm 6), .int .i64 (C.nm 7), .int .i64 (C.nm 8), .int .i64 (C.nm 9), .int .i64 (C.nm 10), .int .i64 (C.nm 11)]), (19, .agg #[.bool (R.fl 0), .bool (R.fl 1), .bool (R.fl 2), .bool (R.fl 3), .bool (R.fl 4), .bool (R.fl 5), .int .i64 (R.nm 6), .int .i64 (R.nm 7), .int .i64 (R.nm 8), .int .i64 (R.nm 9), .int .i64 (R.nm 10), .int .i64 (R.nm 11)]), (7, .pointer (some ⟨s_.1, 0, none⟩))]) (fun s_ w' => AtD W1 true false s_.1 s_.2 w') ?_ ?_
    rotate_left
    · intro hJ3_6_7
      refine join_ (σ := Nat × Nat) 3 #[true, true, true, true, true, true, true, false, true, false, false] (fun s_ => [(16, .agg #[.bool (C.fl 0), .bool (C.fl 1), .bool (C.fl 2), .bool (C.fl 3), .bool (C.fl 4), .bool (C.fl 5), .int .i64 (C.nm 6), .int .i64 (C.nm 7), .int .i64 (C.nm 8), .int .i64 (C.nm 9), .int .i64 (C.nm 10), .int .i64 (C.nm 11)]), (19, .agg #[.bool (R.fl 0), .bool (R.fl 1), .bool (R.fl 2), .bool (R.fl 3), .bool (R.fl 4), .bool (R.fl 5), .int .i64 (R.nm 6), .int .i64 (R.nm 7), .int .i64 (R.nm 8), .int .i64 (R.nm 9), .int .i64 (R.nm 10), .int .i64 (R.nm 11)]), (8, .pointer (some ⟨s_.2, 0, none⟩))]) (fun s_ w' => AtD W1 false true s_.1 s_.2 w') ?_ ?_
      rotate_left
      · intro hJ3_6_8
        refine join_ (σ := Nat × Nat) 3 #[true, true, true, true, true, true, false, true, true, false, false] (fun s_ => [(16, .agg #[.bool (C.fl 0), .bool (C.fl 1), .bool (C.fl 2), .bool (C.fl 3), .bool (C.fl 4), .bool (C.fl 5), .int .i64 (C.nm 6), .int .i64 (C.nm 7), .int .i64 (C.nm 8), .int .i64 (C.nm 9), .int .i64 (C.nm 10), .int .i64 (C.nm 11)]), (7, .pointer (some ⟨s_.1, 0, none⟩)), (8, .pointer (some ⟨s_.2, 0, none⟩))]) (fun s_ w' => AtD W1 true true s_.1 s_.2 w') ?_ ?_
        rotate_left
        · intro hJ3_7_8
          refine join_ (σ := Nat × Nat) 4 #[true, true, true, true, true, true, true, false, false, false, false] (fun s_ => [(16, .agg #[.bool (C.fl 0), .bool (C.fl 1), .bool (C.fl 2), .bool (C.fl 3), .bool (C.fl 4), .bool (C.fl 5), .int .i64 (C.nm 6), .int .i64 (C.nm 7), .int .i64 (C.nm 8), .int .i64 (C.nm 9), .int .i64 (C.nm 10), .int .i64 (C.nm 11)]), (19, .agg #[.bool (R.fl 0), .bool (R.fl 1), .bool (R.fl 2), .bool (R.fl 3), .bool (R.fl 4), .bool (R.fl 5), .int .i64 (R.nm 6), .int .i64 (R.nm 7), .int .i64 (R.nm 8), .int .i64 (R.nm 9), .int .i64 (R.nm 10), .int .i64 (R.nm 11)])]) (fun s_ w' => AtD W1 false false s_.1 s_.2 w') ?_ ?_
          rotate_left
          · intro hJ3_6
            refine join_ (σ := Nat × Nat) 4 #[true, true, true, true, true, true, false, true, false, false, false] (fun s_ => [(16, .agg #[.bool (C.fl 0), .bool (C.fl 1), .bool (C.fl 2), .bool (C.fl 3), .bool (C.fl 4), .bool (C.fl 5), .int .i64 (C.nm 6), .int .i64 (C.nm 7), .int .i64 (C.nm 8), .int .i64 (C.nm 9), .int .i64 (C.nm 10), .int .i64 (C.nm 11)]), (7, .pointer (some ⟨s_.1, 0, none⟩))]) (fun s_ w' => AtD W1 true false s_.1 s_.2 w') ?_ ?_
            rotate_left
            · intro hJ3_7
              refine join_ (σ := Nat × Nat) 4 #[true, true, true, true, true, true, false, false, true, false, false] (fun s_ => [(16, .agg #[.bool (C.fl 0), .bool (C.fl 1), .bool (C.fl 2), .bool (C.fl 3), .bool (C.fl 4), .bool (C.fl 5), .int .i64 (C.nm 6), .int .i64 (C.nm 7), .int .i64 (C.nm 8), .int .i64 (C.nm 9), .int .i64 (C.nm 10), .int .i64 (C.nm 11)]), (8, .pointer (some ⟨s_.2, 0, none⟩))]) (fun s_ w' => AtD W1 false true s_.1 s_.2 w') ?_ ?_
              rotate_left
              · intro hJ3_8
                refine join_ (σ := Nat × Nat) 4 #[true, true, true, false, true, true, false, true, true, false, false] (fun s_ => [(7, .pointer (some ⟨s_.1, 0, none⟩)), (8, .pointer (some ⟨s_.2, 0, none⟩))]) (fun s_ w' => AtD W1 true true s_.1 s_.2 w') ?_ ?_
                rotate_left
                · intro hJ7_8
                  refine join_ (σ := Nat × Nat) 5 #[true, true, true, true, true, true, false, false, false, false, false] (fun s_ => [(16, .agg #[.bool (C.fl 0), .bool (C.fl 1), .bool (C.fl 2), .bool (C.fl 3), .bool (C.fl 4), .bool (C.fl 5), .int .i64 (C.nm 6), .int .i64 (C.nm 7), .int .i64 (C.nm 8), .int .i64 (C.nm 9), .int .i64 (C.nm 10), .int .i64 (C.nm 11)])]) (fun s_ w' => AtD W1 false false s_.1 s_.2 w') ?_ ?_
                  rotate_left
                  · intro hJ3
                    refine join_ (σ := Nat × Nat) 5 #[true, true, true, false, true, true, false, true, false, false, false] (fun s_ => [(7, .pointer (some ⟨s_.1, 0, none⟩))]) (fun s_ w' => AtD W1 true false s_.1 s_.2 w') ?_ ?_
                    rotate_left
                    · intro hJ7
                      refine join_ (σ := Nat × Nat) 5 #[true, true, true, false, true, true, false, false, true, false, false] (fun s_ => [(8, .pointer (some ⟨s_.2, 0, none⟩))]) (fun s_ w' => AtD W1 false true s_.1 s_.2 w') ?_ ?_
                      rotate_left
                      · intro hJ8
                        refine three_ (i := 3) (j := 7) (k := 8) (Ni := some 16) (Nj := some 7) (Nk := some 8) #[true, true, true, true, true, true, false, false, false, false, false] #[true, true, true, false, true, true, false, true, false, false, false] #[true, true, true, false, true, true, false, false, true, false, false] rfl rfl rfl rfl rfl rfl (by kernel_rfl) (by decide) (by decide) (by decide) (fun K hK => ?_) (fun K hK => ?_) (fun K hK => ?_)
                        · skip
                          refine goes_ Tryz.func20 (by kernel_rfl) rfl #[.slice r.A7 x.f1.f1.length r.c7] (by rfl) rfl rfl (by simp only [List.map_toArray, List.map_cons, List.map_nil]; rfl) ?_
                          with_reducible refine (HC.out _ hV.bel).mono ?_
                          rintro e w3_ ⟨rfl, hb3_⟩
                          refine ⟨_, rfl, ?_⟩
                          refine hK.out _ _ ⟨c_of (blk_bel (hV.step hb3_).bel HX3.out) 7 (v := .slice r.A7 x.f1.f1.length r.c7) rfl, c_of (blk_bel (hV.step hb3_).bel HQ3.out) 4 (v := .slice A4 q.f4.length c4) rfl⟩ (fun hHeld => ?_)
                          clear hK K
                          refine norm_ (a' := ?_) ?_ ?_
                          rotate_left
                          · show Act.put _ (some 16) _ = _
                            simp only [Act.put, List.setIfInBounds_toArray, List.set_cons_zero, List.set_cons_succ, i64_w, i32_w]
                            rfl
                          exact norm_ (by first | (simp only [putAll, Act.put, List.setIfInBounds_toArray, List.set_cons_zero, List.set_cons_succ]; done) | (simp only [putAll, Act.put, List.setIfInBounds_toArray, List.set_cons_zero, List.set_cons_succ]; rfl)) (hJ3 ⟨0, 0⟩ _ (hV.step hb3_))
                        · skip
                          refine value_ (w1 := ?_) (v := ?_) (by rfl) rfl ?_ ?_
                          rotate_left 2
                          · go_simp
                            constructor
                            · rfl
                            · rfl
                          refine hK.out _ _ ⟨c_of (blk_bel hV.new7.bel HX3.out) 7 (v := .slice r.A7 x.f1.f1.length r.c7) rfl, c_of (blk_bel hV.new7.bel HQ3.out) 4 (v := .slice A4 q.f4.length c4) rfl⟩ (fun hHeld => ?_)
                          clear hK K
                          refine norm_ (a' := ?_) ?_ ?_
                          rotate_left
                          · show Act.put _ (some 7) _ = _
                            simp only [Act.put, List.setIfInBounds_toArray, List.set_cons_zero, List.set_cons_succ, i64_w, i32_w]
                            rfl
                          exact norm_ (by first | (simp only [putAll, Act.put, List.setIfInBounds_toArray, List.set_cons_zero, List.set_cons_succ]; done) | (simp only [putAll, Act.put, List.setIfInBounds_toArray, List.set_cons_zero, List.set_cons_succ]; rfl)) (hJ7 ⟨W1.drew.heap.size, 0⟩ _ hV.new7)
                        · skip
                          refine value_ (w1 := ?_) (v := ?_) (by rfl) rfl ?_ ?_
                          rotate_left 2
                          · go_simp
                            constructor
                            · rfl
                            · rfl
                          refine hK.out _ _ ⟨c_of (blk_bel hV.new8.bel HX3.out) 7 (v := .slice r.A7 x.f1.f1.length r.c7) rfl, c_of (blk_bel hV.new8.bel HQ3.out) 4 (v := .slice A4 q.f4.length c4) rfl⟩ (fun hHeld => ?_)
                          clear hK K
                          refine norm_ (a' := ?_) ?_ ?_
                          rotate_left
                          · show Act.put _ (some 8) _ = _
                            simp only [Act.put, List.setIfInBounds_toArray, List.set_cons_zero, List.set_cons_succ, i64_w, i32_w]
                            rfl
                          exact norm_ (by first | (simp only [putAll, Act.put, List.setIfInBounds_toArray, List.set_cons_zero, List.set_cons_succ]; done) | (simp only [putAll, Act.put, List.setIfInBounds_toArray, List.set_cons_zero, List.set_cons_succ]; rfl)) (hJ8 ⟨0, W1.drew.heap.size⟩ _ hV.new8)
                      · skip
                        rintro ⟨a_, b_⟩ wq hV
                        have hHeld : wq.cell? ⟨w.heap.size, 7, none⟩ = some (.slice r.A7 x.f1.f1.length r.c7) ∧ wq.cell? ⟨w.heap.size + 1, 4, none⟩ = some (.slice A4 q.f4.length c4) := ⟨c_of (blk_bel hV.bel HX3.out) 7 (v := .slice r.A7 x.f1.f1.length r.c7) rfl, c_of (blk_bel hV.bel HQ3.out) 4 (v := .slice A4 q.f4.length c4) rfl⟩
                        refine norm_ (a' := ?_) ?_ ?_
                        rotate_left
                        · simp only [putAll, Act.put, List.setIfInBounds_toArray, List.set_cons_zero, List.set_cons_succ]
                          rfl
                        refine two_ (i := 3) (j := 7) (Ni := some 16) (Nj := some 7) #[true, true, true, true, true, true, false, false, true, false, false] #[true, true, true, false, true, true, false, true, true, false, false] rfl rfl rfl rfl (by kernel_rfl) (by decide) (by decide) (fun K hK => ?_) (fun K hK => ?_)
                        · skip
                          refine goes_ Tryz.func20 (by kernel_rfl) rfl #[.slice r.A7 x.f1.f1.length r.c7] (by rfl) rfl rfl (by simp only [List.map_toArray, List.map_cons, List.map_nil]; rfl) ?_
                          with_reducible refine (HC.out _ hV.bel).mono ?_
                          rintro e w3_ ⟨rfl, hb3_⟩
                          refine ⟨_, rfl, ?_⟩
                          refine hK.out _ _ ⟨c_of (blk_bel (hV.step hb3_).bel HX3.out) 7 (v := .slice r.A7 x.f1.f1.length r.c7) rfl, c_of (blk_bel (hV.step hb3_).bel HQ3.out) 4 (v := .slice A4 q.f4.length c4) rfl⟩ (fun hHeld => ?_)
                          clear hK K
                          refine norm_ (a' := ?_) ?_ ?_
                          rotate_left
                          · show Act.put _ (some 16) _ = _
                            simp only [Act.put, List.setIfInBounds_toArray, List.set_cons_zero, List.set_cons_succ, i64_w, i32_w]
                            rfl
                          exact norm_ (by first | (simp only [putAll, Act.put, List.setIfInBounds_toArray, List.set_cons_zero, List.set_cons_succ]; done) | (simp only [putAll, Act.put, List.setIfInBounds_toArray, List.set_cons_zero, List.set_cons_succ]; rfl)) (hJ3_8 ⟨a_, b_⟩ _ (hV.step hb3_))
                        · skip
                          refine value_ (w1 := ?_) (v := ?_) (by rfl) rfl ?_ ?_
                          rotate_left 2
                          · go_simp
                            constructor
                            · rfl
                            · rfl
                          refine hK.out _ _ ⟨c_of (blk_bel hV.new7.bel HX3.out) 7 (v := .slice r.A7 x.f1.f1.length r.c7) rfl, c_of (blk_bel hV.new7.bel HQ3.out) 4 (v := .slice A4 q.f4.length c4) rfl⟩ (fun hHeld => ?_)
                          clear hK K
                          refine norm_ (a' := ?_) ?_ ?_
                          rotate_left
                          · show Act.put _ (some 7) _ = _
                            simp only [Act.put, List.setIfInBounds_toArray, List.set_cons_zero, List.set_cons_succ, i64_w, i32_w]
                            rfl
                          exact norm_ (by first | (simp only [putAll, Act.put, List.setIfInBounds_toArray, List.set_cons_zero, List.set_cons_succ]; done) | (simp only [putAll, Act.put, List.setIfInBounds_toArray, List.set_cons_zero, List.set_cons_succ]; rfl)) (hJ7_8 ⟨wq.heap.size, b_⟩ _ hV.new7)
                    · skip
                      rintro ⟨a_, b_⟩ wq hV
                      have hHeld : wq.cell? ⟨w.heap.size, 7, none⟩ = some (.slice r.A7 x.f1.f1.length r.c7) ∧ wq.cell? ⟨w.heap.size + 1, 4, none⟩ = some (.slice A4 q.f4.length c4) := ⟨c_of (blk_bel hV.bel HX3.out) 7 (v := .slice r.A7 x.f1.f1.length r.c7) rfl, c_of (blk_bel hV.bel HQ3.out) 4 (v := .slice A4 q.f4.length c4) rfl⟩
                      refine norm_ (a' := ?_) ?_ ?_
                      rotate_left
                      · simp only [putAll, Act.put, List.setIfInBounds_toArray, List.set_cons_zero, List.set_cons_succ]
                        rfl
                      refine two_ (i := 3) (j := 8) (Ni := some 16) (Nj := some 8) #[true, true, true, true, true, true, false, true, false, false, false] #[true, true, true, false, true, true, false, true, true, false, false] rfl rfl rfl rfl (by kernel_rfl) (by decide) (by decide) (fun K hK => ?_) (fun K hK => ?_)
                      · skip
                        refine goes_ Tryz.func20 (by kernel_rfl) rfl #[.slice r.A7 x.f1.f1.length r.c7] (by rfl) rfl rfl (by simp only [List.map_toArray, List.map_cons, List.map_nil]; rfl) ?_
                        with_reducible refine (HC.out _ hV.bel).mono ?_
                        rintro e w3_ ⟨rfl, hb3_⟩
                        refine ⟨_, rfl, ?_⟩
                        refine hK.out _ _ ⟨c_of (blk_bel (hV.step hb3_).bel HX3.out) 7 (v := .slice r.A7 x.f1.f1.length r.c7) rfl, c_of (blk_bel (hV.step hb3_).bel HQ3.out) 4 (v := .slice A4 q.f4.length c4) rfl⟩ (fun hHeld => ?_)
                        clear hK K
                        refine norm_ (a' := ?_) ?_ ?_
                        rotate_left
                        · show Act.put _ (some 16) _ = _
                          simp only [Act.put, List.setIfInBounds_toArray, List.set_cons_zero, List.set_cons_succ, i64_w, i32_w]
                          rfl
                        exact norm_ (by first | (simp only [putAll, Act.put, List.setIfInBounds_toArray, List.set_cons_zero, List.set_cons_succ]; done) | (simp only [putAll, Act.put, List.setIfInBounds_toArray, List.set_cons_zero, List.set_cons_succ]; rfl)) (hJ3_7 ⟨a_, b_⟩ _ (hV.step hb3_))
                      · skip
                        refine value_ (w1 := ?_) (v := ?_) (by rfl) rfl ?_ ?_
                        rotate_left 2
                        · go_simp
                          constructor
                          · rfl
                          · rfl
                        refine hK.out _ _ ⟨c_of (blk_bel hV.new8.bel HX3.out) 7 (v := .slice r.A7 x.f1.f1.length r.c7) rfl, c_of (blk_bel hV.new8.bel HQ3.out) 4 (v := .slice A4 q.f4.length c4) rfl⟩ (fun hHeld => ?_)
                        clear hK K
                        refine norm_ (a' := ?_) ?_ ?_
                        rotate_left
                        · show Act.put _ (some 8) _ = _
                          simp only [Act.put, List.setIfInBounds_toArray, List.set_cons_zero, List.set_cons_succ, i64_w, i32_w]
                          rfl
                        exact norm_ (by first | (simp only [putAll, Act.put, List.setIfInBounds_toArray, List.set_cons_zero, List.set_cons_succ]; done) | (simp only [putAll, Act.put, List.setIfInBounds_toArray, List.set_cons_zero, List.set_cons_succ]; rfl)) (hJ7_8 ⟨a_, wq.heap.size⟩ _ hV.new8)
                  · skip
                    rintro ⟨a_, b_⟩ wq hV
                    have hHeld : wq.cell? ⟨w.heap.size, 7, none⟩ = some (.slice r.A7 x.f1.f1.length r.c7) ∧ wq.cell? ⟨w.heap.size + 1, 4, none⟩ = some (.slice A4 q.f4.length c4) := ⟨c_of (blk_bel hV.bel HX3.out) 7 (v := .slice r.A7 x.f1.f1.length r.c7) rfl, c_of (blk_bel hV.bel HQ3.out) 4 (v := .slice A4 q.f4.length c4) rfl⟩
                    refine norm_ (a' := ?_) ?_ ?_
                    rotate_left
                    · simp only [putAll, Act.put, List.setIfInBounds_toArray, List.set_cons_zero, List.set_cons_succ]
                      rfl
                    refine three_ (i := 6) (j := 7) (k := 8) (Ni := some 19) (Nj := some 7) (Nk := some 8) #[true, true, true, true, true, true, true, false, false, false, false] #[true, true, true, true, true, true, false, true, false, false, false] #[true, true, true, true, true, true, false, false, true, false, false] rfl rfl rfl rfl rfl rfl (by kernel_rfl) (by decide) (by decide) (by decide) (fun K hK => ?_) (fun K hK => ?_) (fun K hK => ?_)
                    · skip
                      refine goes_ Tryz.func20 (by kernel_rfl) rfl #[.slice A4 q.f4.length c4] (by rfl) rfl rfl (by simp only [List.map_toArray, List.map_cons, List.map_nil]; rfl) ?_
                      with_reducible refine (HR.out _ hV.bel).mono ?_
                      rintro e w3_ ⟨rfl, hb3_⟩
                      refine ⟨_, rfl, ?_⟩
                      refine hK.out _ _ ⟨c_of (blk_bel (hV.step hb3_).bel HX3.out) 7 (v := .slice r.A7 x.f1.f1.length r.c7) rfl, c_of (blk_bel (hV.step hb3_).bel HQ3.out) 4 (v := .slice A4 q.f4.length c4) rfl⟩ (fun hHeld => ?_)
                      clear hK K
                      refine norm_ (a' := ?_) ?_ ?_
                      rotate_left
                      · show Act.put _ (some 19) _ = _
                        simp only [Act.put, List.setIfInBounds_toArray, List.set_cons_zero, List.set_cons_succ, i64_w, i32_w]
                        rfl
                      exact norm_ (by first | (simp only [putAll, Act.put, List.setIfInBounds_toArray, List.set_cons_zero, List.set_cons_succ]; done) | (simp only [putAll, Act.put, List.setIfInBounds_toArray, List.set_cons_zero, List.set_cons_succ]; rfl)) (hJ3_6 ⟨a_, b_⟩ _ (hV.step hb3_))
                    · skip
                      refine value_ (w1 := ?_) (v := ?_) (by rfl) rfl ?_ ?_
                      rotate_left 2
                      · go_simp
                        constructor
                        · rfl
                        · rfl
                      refine hK.out _ _ ⟨c_of (blk_bel hV.new7.bel HX3.out) 7 (v := .slice r.A7 x.f1.f1.length r.c7) rfl, c_of (blk_bel hV.new7.bel HQ3.out) 4 (v := .slice A4 q.f4.length c4) rfl⟩ (fun hHeld => ?_)
                      clear hK K
                      refine norm_ (a' := ?_) ?_ ?_
                      rotate_left
                      · show Act.put _ (some 7) _ = _
                        simp only [Act.put, List.setIfInBounds_toArray, List.set_cons_zero, List.set_cons_succ, i64_w, i32_w]
                        rfl
                      exact norm_ (by first | (simp only [putAll, Act.put, List.setIfInBounds_toArray, List.set_cons_zero, List.set_cons_succ]; done) | (simp only [putAll, Act.put, List.setIfInBounds_toArray, List.set_cons_zero, List.set_cons_succ]; rfl)) (hJ3_7 ⟨wq.heap.size, b_⟩ _ hV.new7)
                    · skip
                      refine value_ (w1 := ?_) (v := ?_) (by rfl) rfl ?_ ?_
                      rotate_left 2
                      · go_simp
                        constructor
                        · rfl
                        · rfl
                      refine hK.out _ _ ⟨c_of (blk_bel hV.new8.bel HX3.out) 7 (v := .slice r.A7 x.f1.f1.length r.c7) rfl, c_of (blk_bel hV.new8.bel HQ3.out) 4 (v := .slice A4 q.f4.length c4) rfl⟩ (fun hHeld => ?_)
                      clear hK K
                      refine norm_ (a' := ?_) ?_ ?_
                      rotate_left
                      · show Act.put _ (some 8) _ = _
                        simp only [Act.put, List.setIfInBounds_toArray, List.set_cons_zero, List.set_cons_succ, i64_w, i32_w]
                        rfl
                      exact norm_ (by first | (simp only [putAll, Act.put, List.setIfInBounds_toArray, List.set_cons_zero, List.set_cons_succ]; done) | (simp only [putAll, Act.put, List.setIfInBounds_toArray, List.set_cons_zero, List.set_cons_succ]; rfl)) (hJ3_8 ⟨a_, wq.heap.size⟩ _ hV.new8)
                · skip
                  rintro ⟨a_, b_⟩ wq hV
                  have hHeld : wq.cell? ⟨w.heap.size, 7, none⟩ = some (.slice r.A7 x.f1.f1.length r.c7) ∧ wq.cell? ⟨w.heap.size + 1, 4, none⟩ = some (.slice A4 q.f4.length c4) := ⟨c_of (blk_bel hV.bel HX3.out) 7 (v := .slice r.A7 x.f1.f1.length r.c7) rfl, c_of (blk_bel hV.bel HQ3.out) 4 (v := .slice A4 q.f4.length c4) rfl⟩
                  refine norm_ (a' := ?_) ?_ ?_
                  rotate_left
                  · simp only [putAll, Act.put, List.setIfInBounds_toArray, List.set_cons_zero, List.set_cons_succ]
                    rfl
                  refine one_ (i := 3) (N := some 16) #[true, true, true, true, true, true, false, true, true, false, false] rfl rfl (by kernel_rfl) (by decide) (fun K hK => ?_)
                  refine goes_ Tryz.func20 (by kernel_rfl) rfl #[.slice r.A7 x.f1.f1.length r.c7] (by rfl) rfl rfl (by simp only [List.map_toArray, List.map_cons, List.map_nil]; rfl) ?_
                  with_reducible refine (HC.out _ hV.bel).mono ?_
                  rintro e w3_ ⟨rfl, hb3_⟩
                  refine ⟨_, rfl, ?_⟩
                  refine hK.out _ _ ⟨c_of (blk_bel (hV.step hb3_).bel HX3.out) 7 (v := .slice r.A7 x.f1.f1.length r.c7) rfl, c_of (blk_bel (hV.step hb3_).bel HQ3.out) 4 (v := .slice A4 q.f4.length c4) rfl⟩ (fun hHeld => ?_)
                  clear hK K
                  refine norm_ (a' := ?_) ?_ ?_
                  rotate_left
                  · show Act.put _ (some 16) _ = _
                    simp only [Act.put, List.setIfInBounds_toArray, List.set_cons_zero, List.set_cons_succ, i64_w, i32_w]
                    rfl
                  exact norm_ (by first | (simp only [putAll, Act.put, List.setIfInBounds_toArray, List.set_cons_zero, List.set_cons_succ]; done) | (simp only [putAll, Act.put, List.setIfInBounds_toArray, List.set_cons_zero, List.set_cons_succ]; rfl)) (hJ3_7_8 ⟨a_, b_⟩ _ (hV.step hb3_))
              · skip
                rintro ⟨a_, b_⟩ wq hV
                have hHeld : wq.cell? ⟨w.heap.size, 7, none⟩ = some (.slice r.A7 x.f1.f1.length r.c7) ∧ wq.cell? ⟨w.heap.size + 1, 4, none⟩ = some (.slice A4 q.f4.length c4) := ⟨c_of (blk_bel hV.bel HX3.out) 7 (v := .slice r.A7 x.f1.f1.length r.c7) rfl, c_of (blk_bel hV.bel HQ3.out) 4 (v := .slice A4 q.f4.length c4) rfl⟩
                refine norm_ (a' := ?_) ?_ ?_
                rotate_left
                · simp only [putAll, Act.put, List.setIfInBounds_toArray, List.set_cons_zero, List.set_cons_succ]
                  rfl
                refine two_ (i := 6) (j := 7) (Ni := some 19) (Nj := some 7) #[true, true, true, true, true, true, true, false, true, false, false] #[true, true, true, true, true, true, false, true, true, false, false] rfl rfl rfl rfl (by kernel_rfl) (by decide) (by decide) (fun K hK => ?_) (fun K hK => ?_)
                · skip
                  refine goes_ Tryz.func20 (by kernel_rfl) rfl #[.slice A4 q.f4.length c4] (by rfl) rfl rfl (by simp only [List.map_toArray, List.map_cons, List.map_nil]; rfl) ?_
                  with_reducible refine (HR.out _ hV.bel).mono ?_
                  rintro e w3_ ⟨rfl, hb3_⟩
                  refine ⟨_, rfl, ?_⟩
                  refine hK.out _ _ ⟨c_of (blk_bel (hV.step hb3_).bel HX3.out) 7 (v := .slice r.A7 x.f1.f1.length r.c7) rfl, c_of (blk_bel (hV.step hb3_).bel HQ3.out) 4 (v := .slice A4 q.f4.length c4) rfl⟩ (fun hHeld => ?_)
                  clear hK K
                  refine norm_ (a' := ?_) ?_ ?_
                  rotate_left
                  · show Act.put _ (some 19) _ = _
                    simp only [Act.put, List.setIfInBounds_toArray, List.set_cons_zero, List.set_cons_succ, i64_w, i32_w]
                    rfl
                  exact norm_ (by first | (simp only [putAll, Act.put, List.setIfInBounds_toArray, List.set_cons_zero, List.set_cons_succ]; done) | (simp only [putAll, Act.put, List.setIfInBounds_toArray, List.set_cons_zero, List.set_cons_succ]; rfl)) (hJ3_6_8 ⟨a_, b_⟩ _ (hV.step hb3_))
                · skip
                  refine value_ (w1 := ?_) (v := ?_) (by rfl) rfl ?_ ?_
                  rotate_left 2
                  · go_simp
                    constructor
                    · rfl
                    · rfl
                  refine hK.out _ _ ⟨c_of (blk_bel hV.new7.bel HX3.out) 7 (v := .slice r.A7 x.f1.f1.length r.c7) rfl, c_of (blk_bel hV.new7.bel HQ3.out) 4 (v := .slice A4 q.f4.length c4) rfl⟩ (fun hHeld => ?_)
                  clear hK K
                  refine norm_ (a' := ?_) ?_ ?_
                  rotate_left
                  · show Act.put _ (some 7) _ = _
                    simp only [Act.put, List.setIfInBounds_toArray, List.set_cons_zero, List.set_cons_succ, i64_w, i32_w]
                    rfl
                  exact norm_ (by first | (simp only [putAll, Act.put, List.setIfInBounds_toArray, List.set_cons_zero, List.set_cons_succ]; done) | (simp only [putAll, Act.put, List.setIfInBounds_toArray, List.set_cons_zero, List.set_cons_succ]; rfl)) (hJ3_7_8 ⟨wq.heap.size, b_⟩ _ hV.new7)
            · skip
              rintro ⟨a_, b_⟩ wq hV
              have hHeld : wq.cell? ⟨w.heap.size, 7, none⟩ = some (.slice r.A7 x.f1.f1.length r.c7) ∧ wq.cell? ⟨w.heap.size + 1, 4, none⟩ = some (.slice A4 q.f4.length c4) := ⟨c_of (blk_bel hV.bel HX3.out) 7 (v := .slice r.A7 x.f1.f1.length r.c7) rfl, c_of (blk_bel hV.bel HQ3.out) 4 (v := .slice A4 q.f4.length c4) rfl⟩
              refine norm_ (a' := ?_) ?_ ?_
              rotate_left
              · simp only [putAll, Act.put, List.setIfInBounds_toArray, List.set_cons_zero, List.set_cons_succ]
                rfl
              refine two_ (i := 6) (j := 8) (Ni := some 19) (Nj := some 8) #[true, true, true, true, true, true, true, true, false, false, false] #[true, true, true, true, true, true, false, true, true, false, false] rfl rfl rfl rfl (by kernel_rfl) (by decide) (by decide) (fun K hK => ?_) (fun K hK => ?_)
              · skip
                refine goes_ Tryz.func20 (by kernel_rfl) rfl #[.slice A4 q.f4.length c4] (by rfl) rfl rfl (by simp only [List.map_toArray, List.map_cons, List.map_nil]; rfl) ?_
                with_reducible refine (HR.out _ hV.bel).mono ?_
                rintro e w3_ ⟨rfl, hb3_⟩
                refine ⟨_, rfl, ?_⟩
                refine hK.out _ _ ⟨c_of (blk_bel (hV.step hb3_).bel HX3.out) 7 (v := .slice r.A7 x.f1.f1.length r.c7) rfl, c_of (blk_bel (hV.step hb3_).bel HQ3.out) 4 (v := .slice A4 q.f4.length c4) rfl⟩ (fun hHeld => ?_)
                clear hK K
                refine norm_ (a' := ?_) ?_ ?_
                rotate_left
                · show Act.put _ (some 19) _ = _
                  simp only [Act.put, List.setIfInBounds_toArray, List.set_cons_zero, List.set_cons_succ, i64_w, i32_w]
                  rfl
                exact norm_ (by first | (simp only [putAll, Act.put, List.setIfInBounds_toArray, List.set_cons_zero, List.set_cons_succ]; done) | (simp only [putAll, Act.put, List.setIfInBounds_toArray, List.set_cons_zero, List.set_cons_succ]; rfl)) (hJ3_6_7 ⟨a_, b_⟩ _ (hV.step hb3_))
              · skip
                refine value_ (w1 := ?_) (v := ?_) (by rfl) rfl ?_ ?_
                rotate_left 2
                · go_simp
                  constructor
                  · rfl
                  · rfl
                refine hK.out _ _ ⟨c_of (blk_bel hV.new8.bel HX3.out) 7 (v := .slice r.A7 x.f1.f1.length r.c7) rfl, c_of (blk_bel hV.new8.bel HQ3.out) 4 (v := .slice A4 q.f4.length c4) rfl⟩ (fun hHeld => ?_)
                clear hK K
                refine norm_ (a' := ?_) ?_ ?_
                rotate_left
                · show Act.put _ (some 8) _ = _
                  simp only [Act.put, List.setIfInBounds_toArray, List.set_cons_zero, List.set_cons_succ, i64_w, i32_w]
                  rfl
                exact norm_ (by first | (simp only [putAll, Act.put, List.setIfInBounds_toArray, List.set_cons_zero, List.set_cons_succ]; done) | (simp only [putAll, Act.put, List.setIfInBounds_toArray, List.set_cons_zero, List.set_cons_succ]; rfl)) (hJ3_7_8 ⟨a_, wq.heap.size⟩ _ hV.new8)
          · skip
            rintro ⟨a_, b_⟩ wq hV
            have hHeld : wq.cell? ⟨w.heap.size, 7, none⟩ = some (.slice r.A7 x.f1.f1.length r.c7) ∧ wq.cell? ⟨w.heap.size + 1, 4, none⟩ = some (.slice A4 q.f4.length c4) := ⟨c_of (blk_bel hV.bel HX3.out) 7 (v := .slice r.A7 x.f1.f1.length r.c7) rfl, c_of (blk_bel hV.bel HQ3.out) 4 (v := .slice A4 q.f4.length c4) rfl⟩
            refine norm_ (a' := ?_) ?_ ?_
            rotate_left
            · simp only [putAll, Act.put, List.setIfInBounds_toArray, List.set_cons_zero, List.set_cons_succ]
              rfl
            refine two_ (i := 7) (j := 8) (Ni := some 7) (Nj := some 8) #[true, true, true, true, true, true, true, true, false, false, false] #[true, true, true, true, true, true, true, false, true, false, false] rfl rfl rfl rfl (by kernel_rfl) (by decide) (by decide) (fun K hK => ?_) (fun K hK => ?_)
            · skip
              refine value_ (w1 := ?_) (v := ?_) (by rfl) rfl ?_ ?_
              rotate_left 2
              · go_simp
                constructor
                · rfl
                · rfl
              refine hK.out _ _ ⟨c_of (blk_bel hV.new7.bel HX3.out) 7 (v := .slice r.A7 x.f1.f1.length r.c7) rfl, c_of (blk_bel hV.new7.bel HQ3.out) 4 (v := .slice A4 q.f4.length c4) rfl⟩ (fun hHeld => ?_)
              clear hK K
              refine norm_ (a' := ?_) ?_ ?_
              rotate_left
              · show Act.put _ (some 7) _ = _
                simp only [Act.put, List.setIfInBounds_toArray, List.set_cons_zero, List.set_cons_succ, i64_w, i32_w]
                rfl
              exact norm_ (by first | (simp only [putAll, Act.put, List.setIfInBounds_toArray, List.set_cons_zero, List.set_cons_succ]; done) | (simp only [putAll, Act.put, List.setIfInBounds_toArray, List.set_cons_zero, List.set_cons_succ]; rfl)) (hJ3_6_7 ⟨wq.heap.size, b_⟩ _ hV.new7)
            · skip
              refine value_ (w1 := ?_) (v := ?_) (by rfl) rfl ?_ ?_
              rotate_left 2
              · go_simp
                constructor
                · rfl
                · rfl
              refine hK.out _ _ ⟨c_of (blk_bel hV.new8.bel HX3.out) 7 (v := .slice r.A7 x.f1.f1.length r.c7) rfl, c_of (blk_bel hV.new8.bel HQ3.out) 4 (v := .slice A4 q.f4.length c4) rfl⟩ (fun hHeld => ?_)
              clear hK K
              refine norm_ (a' := ?_) ?_ ?_
              rotate_left
              · show Act.put _ (some 8) _ = _
                simp only [Act.put, List.setIfInBounds_toArray, List.set_cons_zero, List.set_cons_succ, i64_w, i32_w]
                rfl
              exact norm_ (by first | (simp only [putAll, Act.put, List.setIfInBounds_toArray, List.set_cons_zero, List.set_cons_succ]; done) | (simp only [putAll, Act.put, List.setIfInBounds_toArray, List.set_cons_zero, List.set_cons_succ]; rfl)) (hJ3_6_8 ⟨a_, wq.heap.size⟩ _ hV.new8)
        · skip
          rintro ⟨a_, b_⟩ wq hV
          have hHeld : wq.cell? ⟨w.heap.size, 7, none⟩ = some (.slice r.A7 x.f1.f1.length r.c7) ∧ wq.cell? ⟨w.heap.size + 1, 4, none⟩ = some (.slice A4 q.f4.length c4) := ⟨c_of (blk_bel hV.bel HX3.out) 7 (v := .slice r.A7 x.f1.f1.length r.c7) rfl, c_of (blk_bel hV.bel HQ3.out) 4 (v := .slice A4 q.f4.length c4) rfl⟩
          refine norm_ (a' := ?_) ?_ ?_
          rotate_left
          · simp only [putAll, Act.put, List.setIfInBounds_toArray, List.set_cons_zero, List.set_cons_succ]
            rfl
          refine one_ (i := 6) (N := some 19) #[true, true, true, true, true, true, true, true, true, false, false] rfl rfl (by kernel_rfl) (by decide) (fun K hK => ?_)
          refine goes_ Tryz.func20 (by kernel_rfl) rfl #[.slice A4 q.f4.length c4] (by rfl) rfl rfl (by simp only [List.map_toArray, List.map_cons, List.map_nil]; rfl) ?_
          with_reducible refine (HR.out _ hV.bel).mono ?_
          rintro e w3_ ⟨rfl, hb3_⟩
          refine ⟨_, rfl, ?_⟩
          refine hK.out _ _ ⟨c_of (blk_bel (hV.step hb3_).bel HX3.out) 7 (v := .slice r.A7 x.f1.f1.length r.c7) rfl, c_of (blk_bel (hV.step hb3_).bel HQ3.out) 4 (v := .slice A4 q.f4.length c4) rfl⟩ (fun hHeld => ?_)
          clear hK K
          refine norm_ (a' := ?_) ?_ ?_
          rotate_left
          · show Act.put _ (some 19) _ = _
            simp only [Act.put, List.setIfInBounds_toArray, List.set_cons_zero, List.set_cons_succ, i64_w, i32_w]
            rfl
          exact norm_ (by first | (simp only [putAll, Act.put, List.setIfInBounds_toArray, List.set_cons_zero, List.set_cons_succ]; done) | (simp only [putAll, Act.put, List.setIfInBounds_toArray, List.set_cons_zero, List.set_cons_succ]; rfl)) (hJ3_6_7_8 ⟨a_, b_⟩ _ (hV.step hb3_))
      · skip
        rintro ⟨a_, b_⟩ wq hV
        have hHeld : wq.cell? ⟨w.heap.size, 7, none⟩ = some (.slice r.A7 x.f1.f1.length r.c7) ∧ wq.cell? ⟨w.heap.size + 1, 4, none⟩ = some (.slice A4 q.f4.length c4) := ⟨c_of (blk_bel hV.bel HX3.out) 7 (v := .slice r.A7 x.f1.f1.length r.c7) rfl, c_of (blk_bel hV.bel HQ3.out) 4 (v := .slice A4 q.f4.length c4) rfl⟩
        refine norm_ (a' := ?_) ?_ ?_
        rotate_left
        · simp only [putAll, Act.put, List.setIfInBounds_toArray, List.set_cons_zero, List.set_cons_succ]
          rfl
        refine one_ (i := 7) (N := some 7) #[true, true, true, true, true, true, true, true, true, false, false] rfl rfl (by kernel_rfl) (by decide) (fun K hK => ?_)
        refine value_ (w1 := ?_) (v := ?_) (by rfl) rfl ?_ ?_
        rotate_left 2
        · go_simp
          constructor
          · rfl
          · rfl
        refine hK.out _ _ ⟨c_of (blk_bel hV.new7.bel HX3.out) 7 (v := .slice r.A7 x.f1.f1.length r.c7) rfl, c_of (blk_bel hV.new7.bel HQ3.out) 4 (v := .slice A4 q.f4.length c4) rfl⟩ (fun hHeld => ?_)
        clear hK K
        refine norm_ (a' := ?_) ?_ ?_
        rotate_left
        · show Act.put _ (some 7) _ = _
          simp only [Act.put, List.setIfInBounds_toArray, List.set_cons_zero, List.set_cons_succ, i64_w, i32_w]
          rfl
        exact norm_ (by first | (simp only [putAll, Act.put, List.setIfInBounds_toArray, List.set_cons_zero, List.set_cons_succ]; done) | (simp only [putAll, Act.put, List.setIfInBounds_toArray, List.set_cons_zero, List.set_cons_succ]; rfl)) (hJ3_6_7_8 ⟨wq.heap.size, b_⟩ _ hV.new7)
    · skip
      rintro ⟨a_, b_⟩ wq hV
      have hHeld : wq.cell? ⟨w.heap.size, 7, none⟩ = some (.slice r.A7 x.f1.f1.length r.c7) ∧ wq.cell? ⟨w.heap.size + 1, 4, none⟩ = some (.slice A4 q.f4.length c4) := ⟨c_of (blk_bel hV.bel HX3.out) 7 (v := .slice r.A7 x.f1.f1.length r.c7) rfl, c_of (blk_bel hV.bel HQ3.out) 4 (v := .slice A4 q.f4.length c4) rfl⟩
      refine norm_ (a' := ?_) ?_ ?_
      rotate_left
      · simp only [putAll, Act.put, List.setIfInBounds_toArray, List.set_cons_zero, List.set_cons_succ]
        rfl
      refine one_ (i := 8) (N := some 8) #[true, true, true, true, true, true, true, true, true, false, false] rfl rfl (by kernel_rfl) (by decide) (fun K hK => ?_)
      refine value_ (w1 := ?_) (v := ?_) (by rfl) rfl ?_ ?_
      rotate_left 2
      · go_simp
        constructor
        · rfl
        · rfl
      refine hK.out _ _ ⟨c_of (blk_bel hV.new8.bel HX3.out) 7 (v := .slice r.A7 x.f1.f1.length r.c7) rfl, c_of (blk_bel hV.new8.bel HQ3.out) 4 (v := .slice A4 q.f4.length c4) rfl⟩ (fun hHeld => ?_)
      clear hK K
      refine norm_ (a' := ?_) ?_ ?_
      rotate_left
      · show Act.put _ (some 8) _ = _
        simp only [Act.put, List.setIfInBounds_toArray, List.set_cons_zero, List.set_cons_succ, i64_w, i32_w]
        rfl
      exact norm_ (by first | (simp only [putAll, Act.put, List.setIfInBounds_toArray, List.set_cons_zero, List.set_cons_succ]; done) | (simp only [putAll, Act.put, List.setIfInBounds_toArray, List.set_cons_zero, List.set_cons_succ]; rfl)) (hJ3_6_7_8 ⟨a_, wq.heap.size⟩ _ hV.new8)
  rintro ⟨a_, b_⟩ wq hV
  have hHeld : wq.cell? ⟨w.heap.size, 7, none⟩ = some (.slice r.A7 x.f1.f1.length r.c7) ∧ wq.cell? ⟨w.heap.size + 1, 4, none⟩ = some (.slice A4 q.f4.length c4) := ⟨c_of (blk_bel hV.bel HX3.out) 7 (v := .slice r.A7 x.f1.f1.length r.c7) rfl, c_of (blk_bel hV.bel HQ3.out) 4 (v := .slice A4 q.f4.length c4) rfl⟩
  have hZa := hV.h7 rfl
  have hZb := hV.h8 rfl
  have za0 := c_of hZa 0 (v := .bool false) rfl
  have za1 := c_of hZa 1 (v := .bool false) rfl
  have za2 := c_of hZa 2 (v := .bool false) rfl
  have za3 := c_of hZa 3 (v := .bool false) rfl
  have za4 := c_of hZa 4 (v := .bool false) rfl
  have za5 := c_of hZa 5 (v := .bool false) rfl
  have za6 := c_of hZa 6 (v := .int .i64 0) rfl
  have za7 := c_of hZa 7 (v := .int .i64 0) rfl
  have za8 := c_of hZa 8 (v := .int .i64 0) rfl
  have za9 := c_of hZa 9 (v := .int .i64 0) rfl
  have za10 := c_of hZa 10 (v := .int .i64 0) rfl
  have za11 := c_of hZa 11 (v := .int .i64 0) rfl
  have ya0 := fr_of hZa 0
  have ya1 := fr_of hZa 1
  have ya2 := fr_of hZa 2
  have ya3 := fr_of hZa 3
  have ya4 := fr_of hZa 4
  have ya5 := fr_of hZa 5
  have ya6 := fr_of hZa 6
  have ya7 := fr_of hZa 7
  have ya8 := fr_of hZa 8
  have ya9 := fr_of hZa 9
  have ya10 := fr_of hZa 10
  have ya11 := fr_of hZa 11
  refine norm_ (a' := ?_) ?_ ?_
  rotate_left
  · simp only [putAll, Act.put, List.setIfInBounds_toArray, List.set_cons_zero, List.set_cons_succ]
    rfl
  refine last_ (i := 9) (N := none) #[true, true, true, true, true, true, true, true, true, true, false] rfl rfl (by kernel_rfl) (by decide) (fun K hK => ?_)
  refine skip_ (w1 := ?_) (by rfl) rfl ?_ ?_
  rotate_left
  · go_simp
    rfl
  obtain ⟨Wa, hWa⟩ : ∃ W, W = ((((((((((((wq.setCell ⟨a_, 0, none⟩ (.bool (C.fl 0))).setCell ⟨a_, 1, none⟩ (.bool (C.fl 1))).setCell ⟨a_, 2, none⟩ (.bool (C.fl 2))).setCell ⟨a_, 3, none⟩ (.bool (C.fl 3))).setCell ⟨a_, 4, none⟩ (.bool (C.fl 4))).setCell ⟨a_, 5, none⟩ (.bool (C.fl 5))).setCell ⟨a_, 6, none⟩ (.int .i64 (C.nm 6))).setCell ⟨a_, 7, none⟩ (.int .i64 (C.nm 7))).setCell ⟨a_, 8, none⟩ (.int .i64 (C.nm 8))).setCell ⟨a_, 9, none⟩ (.int .i64 (C.nm 9))).setCell ⟨a_, 10, none⟩ (.int .i64 (C.nm 10))).setCell ⟨a_, 11, none⟩ (.int .i64 (C.nm 11))) := ⟨_, rfl⟩
  rw [← hWa]
  have HCa : Hid (Wa.heap[a_]? = some (.cells #[.bool (C.fl 0), .bool (C.fl 1), .bool (C.fl 2), .bool (C.fl 3), .bool (C.fl 4), .bool (C.fl 5), .int .i64 (C.nm 6), .int .i64 (C.nm 7), .int .i64 (C.nm 8), .int .i64 (C.nm 9), .int .i64 (C.nm 10), .int .i64 (C.nm 11)] 41 (0, 0))) := Lib.hid (by rw [hWa]; exact Fb.put12 hZa (.bool (C.fl 0)) (.bool (C.fl 1)) (.bool (C.fl 2)) (.bool (C.fl 3)) (.bool (C.fl 4)) (.bool (C.fl 5)) (.int .i64 (C.nm 6)) (.int .i64 (C.nm 7)) (.int .i64 (C.nm 8)) (.int .i64 (C.nm 9)) (.int .i64 (C.nm 10)) (.int .i64 (C.nm 11)))
  have hZb2 : Wa.heap[b_]? = some (.cells Fb.ZZ42 41 (0, 0)) := by rw [hWa]; exact (set_other (set_other (set_other (set_other (set_other (set_other (set_other (set_other (set_other (set_other (set_other (set_other hZb (Ne.symm (hV.ne rfl rfl))) (Ne.symm (hV.ne rfl rfl))) (Ne.symm (hV.ne rfl rfl))) (Ne.symm (hV.ne rfl rfl))) (Ne.symm (hV.ne rfl rfl))) (Ne.symm (hV.ne rfl rfl))) (Ne.symm (hV.ne rfl rfl))) (Ne.symm (hV.ne rfl rfl))) (Ne.symm (hV.ne rfl rfl))) (Ne.symm (hV.ne rfl rfl))) (Ne.symm (hV.ne rfl rfl))) (Ne.symm (hV.ne rfl rfl)))
  have HBa : Hid (Below W1.heap.size W1 Wa) := Lib.hid (by rw [hWa]; exact (Below.setCell (Below.setCell (Below.setCell (Below.setCell (Below.setCell (Below.setCell (Below.setCell (Below.setCell (Below.setCell (Below.setCell (Below.setCell (Below.setCell hV.bel hV.ge7 _) hV.ge7 _) hV.ge7 _) hV.ge7 _) hV.ge7 _) hV.ge7 _) hV.ge7 _) hV.ge7 _) hV.ge7 _) hV.ge7 _) hV.ge7 _) hV.ge7 _))
  have zb0 := c_of hZb2 0 (v := .bool false) rfl
  have zb1 := c_of hZb2 1 (v := .bool false) rfl
  have zb2 := c_of hZb2 2 (v := .bool false) rfl
  have zb3 := c_of hZb2 3 (v := .bool false) rfl
  have zb4 := c_of hZb2 4 (v := .bool false) rfl
  have zb5 := c_of hZb2 5 (v := .bool false) rfl
  have zb6 := c_of hZb2 6 (v := .int .i64 0) rfl
  have zb7 := c_of hZb2 7 (v := .int .i64 0) rfl
  have zb8 := c_of hZb2 8 (v := .int .i64 0) rfl
  have zb9 := c_of hZb2 9 (v := .int .i64 0) rfl
  have zb10 := c_of hZb2 10 (v := .int .i64 0) rfl
  have zb11 := c_of hZb2 11 (v := .int .i64 0) rfl
  have yb0 := fr_of hZb2 0
  have yb1 := fr_of hZb2 1
  have yb2 := fr_of hZb2 2
  have yb3 := fr_of hZb2 3
  have yb4 := fr_of hZb2 4
  have yb5 := fr_of hZb2 5
  have yb6 := fr_of hZb2 6
  have yb7 := fr_of hZb2 7
  have yb8 := fr_of hZb2 8
  have yb9 := fr_of hZb2 9
  have yb10 := fr_of hZb2 10
  have yb11 := fr_of hZb2 11
  clear hWa
  refine hK.out _ _ ?_
  clear hK K
  refine last_ (i := 10) (N := none) #[true, true, true, true, true, true, true, true, true, true, true] rfl rfl (by kernel_rfl) (by decide) (fun K hK => ?_)
  refine skip_ (w1 := ?_) (by rfl) rfl ?_ ?_
  rotate_left
  · go_simp
    rfl
  obtain ⟨Wb, hWb⟩ : ∃ W, W = ((((((((((((Wa.setCell ⟨b_, 0, none⟩ (.bool (R.fl 0))).setCell ⟨b_, 1, none⟩ (.bool (R.fl 1))).setCell ⟨b_, 2, none⟩ (.bool (R.fl 2))).setCell ⟨b_, 3, none⟩ (.bool (R.fl 3))).setCell ⟨b_, 4, none⟩ (.bool (R.fl 4))).setCell ⟨b_, 5, none⟩ (.bool (R.fl 5))).setCell ⟨b_, 6, none⟩ (.int .i64 (R.nm 6))).setCell ⟨b_, 7, none⟩ (.int .i64 (R.nm 7))).setCell ⟨b_, 8, none⟩ (.int .i64 (R.nm 8))).setCell ⟨b_, 9, none⟩ (.int .i64 (R.nm 9))).setCell ⟨b_, 10, none⟩ (.int .i64 (R.nm 10))).setCell ⟨b_, 11, none⟩ (.int .i64 (R.nm 11))) := ⟨_, rfl⟩
  rw [← hWb]
  have HRb : Hid (Wb.heap[b_]? = some (.cells #[.bool (R.fl 0), .bool (R.fl 1), .bool (R.fl 2), .bool (R.fl 3), .bool (R.fl 4), .bool (R.fl 5), .int .i64 (R.nm 6), .int .i64 (R.nm 7), .int .i64 (R.nm 8), .int .i64 (R.nm 9), .int .i64 (R.nm 10), .int .i64 (R.nm 11)] 41 (0, 0))) := Lib.hid (by rw [hWb]; exact Fb.put12 hZb2 (.bool (R.fl 0)) (.bool (R.fl 1)) (.bool (R.fl 2)) (.bool (R.fl 3)) (.bool (R.fl 4)) (.bool (R.fl 5)) (.int .i64 (R.nm 6)) (.int .i64 (R.nm 7)) (.int .i64 (R.nm 8)) (.int .i64 (R.nm 9)) (.int .i64 (R.nm 10)) (.int .i64 (R.nm 11)))
  have HCb : Hid (Wb.heap[a_]? = some (.cells #[.bool (C.fl 0), .bool (C.fl 1), .bool (C.fl 2), .bool (C.fl 3), .bool (C.fl 4), .bool (C.fl 5), .int .i64 (C.nm 6), .int .i64 (C.nm 7), .int .i64 (C.nm 8), .int .i64 (C.nm 9), .int .i64 (C.nm 10), .int .i64 (C.nm 11)] 41 (0, 0))) := Lib.hid (by rw [hWb]; exact (set_other (set_other (set_other (set_other (set_other (set_other (set_other (set_other (set_other (set_other (set_other (set_other HCa.out (hV.ne rfl rfl)) (hV.ne rfl rfl)) (hV.ne rfl rfl)) (hV.ne rfl rfl)) (hV.ne rfl rfl)) (hV.ne rfl rfl)) (hV.ne rfl rfl)) (hV.ne rfl rfl)) (hV.ne rfl rfl)) (hV.ne rfl rfl)) (hV.ne rfl rfl)) (hV.ne rfl rfl)))
  have HBb : Hid (Below W1.heap.size W1 Wb) := Lib.hid (by rw [hWb]; exact (Below.setCell (Below.setCell (Below.setCell (Below.setCell (Below.setCell (Below.setCell (Below.setCell (Below.setCell (Below.setCell (Below.setCell (Below.setCell (Below.setCell HBa.out hV.ge8 _) hV.ge8 _) hV.ge8 _) hV.ge8 _) hV.ge8 _) hV.ge8 _) hV.ge8 _) hV.ge8 _) hV.ge8 _) hV.ge8 _) hV.ge8 _) hV.ge8 _))
  clear hWb hZb2 zb0 zb1 zb2 zb3 zb4 zb5 zb6 zb7 zb8 zb9 zb10 zb11 yb0 yb1 yb2 yb3 yb4 yb5 yb6 yb7 yb8 yb9 yb10 yb11
  refine hK.out _ _ ?_
  clear hK K
  refine done_ (by kernel_rfl) ?_
  clear hZa hZb za0 za1 za2 za3 za4 za5 za6 za7 za8 za9 za10 za11 ya0 ya1 ya2 ya3 ya4 ya5 ya6 ya7 ya8 ya9 ya10 ya11
  have HB2 := Lib.hid (below_step HB3.out HBb.out)
  have HX2 := Lib.hid (blk_bel HBb.out HX3.out)
  have HQ2 := Lib.hid (blk_bel HBb.out HQ3.out)
  clear hV
  obtain ⟨W2, hW2⟩ : ∃ W, W = Wb := ⟨_, rfl⟩
  rw [← hW2] at HB2 HX2 HQ2 HCb HRb ⊢
  clear hW2
  go_upto_region 2 with fail
  refine start_ (n := 6) (S := fun w' => w'.cell? ⟨w.heap.size, 0, none⟩ = some (.string x.f0.f0) ∧ w'.cell? ⟨w.heap.size, 1, none⟩ = some (.string x.f0.f1) ∧ w'.cell? ⟨w.heap.size, 2, none⟩ = some (.string x.f0.f2) ∧ w'.cell? ⟨w.heap.size, 3, none⟩ = some (.string x.f0.f3) ∧ w'.cell? ⟨w.heap.size, 4, none⟩ = some (.slice r.A4 x.f0.f4.length r.c4) ∧ w'.cell? ⟨w.heap.size, 5, none⟩ = some (.slice r.A5 x.f0.f5.length r.c5) ∧ w'.cell? ⟨w.heap.size, 6, none⟩ = some (.int .i64 x.f1.f0) ∧ w'.cell? ⟨w.heap.size, 7, none⟩ = some (.slice r.A7 x.f1.f1.length r.c7) ∧ w'.cell? ⟨w.heap.size, 8, none⟩ = some (.slice r.A8 x.f1.f2.length r.c8) ∧ w'.cell? ⟨w.heap.size, 9, none⟩ = some (.int .i64 x.f2) ∧ w'.cell? ⟨w.heap.size, 10, none⟩ = some (.int .i64 x.f3) ∧ w'.cell? ⟨w.heap.size + 1, 0, none⟩ = some (.string q.f0) ∧ w'.cell? ⟨w.heap.size + 1, 1, none⟩ = some (.string q.f1) ∧ w'.cell? ⟨w.heap.size + 1, 2, none⟩ = some (.string q.f2) ∧ w'.cell? ⟨w.heap.size + 1, 3, none⟩ = some (.string q.f3) ∧ w'.cell? ⟨w.heap.size + 1, 4, none⟩ = some (.slice A4 q.f4.length c4) ∧ w'.cell? ⟨w.heap.size + 1, 5, none⟩ = some (.slice A5 q.f5.length c5)) (ds := []) #[false, false, false, false, false, false] (by kernel_rfl) rfl rfl ⟨c_of (blk_bel (below_drew (Below.refl _ _)) HX2.out) 0 (v := .string x.f0.f0) rfl, c_of (blk_bel (below_drew (Below.refl _ _)) HX2.out) 1 (v := .string x.f0.f1) rfl, c_of (blk_bel (below_drew (Below.refl _ _)) HX2.out) 2 (v := .string x.f0.f2) rfl, c_of (blk_bel (below_drew (Below.refl _ _)) HX2.out) 3 (v := .string x.f0.f3) rfl, c_of (blk_bel (below_drew (Below.refl _ _)) HX2.out) 4 (v := .slice r.A4 x.f0.f4.length r.c4) rfl, c_of (blk_bel (below_drew (Below.refl _ _)) HX2.out) 5 (v := .slice r.A5 x.f0.f5.length r.c5) rfl, c_of (blk_bel (below_drew (Below.refl _ _)) HX2.out) 6 (v := .int .i64 x.f1.f0) rfl, c_of (blk_bel (below_drew (Below.refl _ _)) HX2.out) 7 (v := .slice r.A7 x.f1.f1.length r.c7) rfl, c_of (blk_bel (below_drew (Below.refl _ _)) HX2.out) 8 (v := .slice r.A8 x.f1.f2.length r.c8) rfl, c_of (blk_bel (below_drew (Below.refl _ _)) HX2.out) 9 (v := .int .i64 x.f2) rfl, c_of (blk_bel (below_drew (Below.refl _ _)) HX2.out) 10 (v := .int .i64 x.f3) rfl, c_of (blk_bel (below_drew (Below.refl _ _)) HQ2.out) 0 (v := .string q.f0) rfl, c_of (blk_bel (below_drew (Below.refl _ _)) HQ2.out) 1 (v := .string q.f1) rfl, c_of (blk_bel (below_drew (Below.refl _ _)) HQ2.out) 2 (v := .string q.f2) rfl, c_of (blk_bel (below_drew (Below.refl _ _)) HQ2.out) 3 (v := .string q.f3) rfl, c_of (blk_bel (below_drew (Below.refl _ _)) HQ2.out) 4 (v := .slice A4 q.f4.length c4) rfl, c_of (blk_bel (below_drew (Below.refl _ _)) HQ2.out) 5 (v := .slice A5 q.f5.length c5) rfl⟩ (fun hHeld => ?_)
  refine pure_ (i := 3) (N := some 23) (v := ?_) (a' := ?_) #[false, false, false, true, false, false] rfl rfl (by kernel_rfl) (fun _ _ _ h => h) (Or.inl ⟨by rfl, ?_⟩) ?_ ?_
  rotate_left
  · intro w'
    go_simp
    with_reducible rfl
  rotate_left
  · simp only [Act.put, List.setIfInBounds_toArray, List.set_cons_zero, List.set_cons_succ, i64_w, i32_w]
    rfl
  refine take_ (i := 0) (N := some 20) (v := ?_) (a' := ?_) #[true, false, false, true, false, false] rfl rfl (by kernel_rfl) (fun _ _ _ h => h) (Or.inl ⟨by rfl, ?_⟩) hHeld ?_ ?_
  rotate_left
  · rintro w' ⟨s0, s1, s2, s3, s4, s5, s6, s7, s8, s9, s10, s11, s12, s13, s14, s15, s16⟩
    go_simp
    with_reducible rfl
  rotate_left
  · simp only [Act.put, List.setIfInBounds_toArray, List.set_cons_zero, List.set_cons_succ, i64_w, i32_w]
    rfl
  refine take_ (i := 2) (N := some 22) (v := ?_) (a' := ?_) #[true, false, true, true, false, false] rfl rfl (by kernel_rfl) (fun _ _ _ h => h) (Or.inl ⟨by rfl, ?_⟩) hHeld ?_ ?_
  rotate_left
  · rintro w' ⟨s0, s1, s2, s3, s4, s5, s6, s7, s8, s9, s10, s11, s12, s13, s14, s15, s16⟩
    go_simp
    with_reducible rfl
  rotate_left
  · simp only [Act.put, List.setIfInBounds_toArray, List.set_cons_zero, List.set_cons_succ, i64_w, i32_w]
    rfl
  refine one_ (i := 1) (N := some 21) #[true, true, true, true, false, false] rfl rfl (by kernel_rfl) (by decide) (fun K hK => ?_)
  refine goes_ Tryz.func17 (by kernel_rfl) rfl #[.agg #[.string x.f0.f0, .string x.f0.f1, .string x.f0.f2, .string x.f0.f3, .slice r.A4 x.f0.f4.length r.c4, .slice r.A5 x.f0.f5.length r.c5, .int .i64 x.f1.f0, .slice r.A7 x.f1.f1.length r.c7, .slice r.A8 x.f1.f2.length r.c8, .int .i64 x.f2, .int .i64 x.f3]] (by rfl) rfl rfl (by simp only [List.map_toArray, List.map_cons, List.map_nil]; rfl) ?_
  with_reducible refine (theirs_q _ x r).mono ?_
  rintro e w4 ⟨rfl, hb4⟩
  refine ⟨_, rfl, ?_⟩
  have HB4 : Hid (Below W2.heap.size W2 w4) := Lib.hid (below_step (below_drew (Below.refl _ _)) hb4)
  refine hK.out _ _ ⟨c_of (blk_bel HB4.out HX2.out) 0 (v := .string x.f0.f0) rfl, c_of (blk_bel HB4.out HX2.out) 1 (v := .string x.f0.f1) rfl, c_of (blk_bel HB4.out HX2.out) 2 (v := .string x.f0.f2) rfl, c_of (blk_bel HB4.out HX2.out) 3 (v := .string x.f0.f3) rfl, c_of (blk_bel HB4.out HX2.out) 4 (v := .slice r.A4 x.f0.f4.length r.c4) rfl, c_of (blk_bel HB4.out HX2.out) 5 (v := .slice r.A5 x.f0.f5.length r.c5) rfl, c_of (blk_bel HB4.out HX2.out) 6 (v := .int .i64 x.f1.f0) rfl, c_of (blk_bel HB4.out HX2.out) 7 (v := .slice r.A7 x.f1.f1.length r.c7) rfl, c_of (blk_bel HB4.out HX2.out) 8 (v := .slice r.A8 x.f1.f2.length r.c8) rfl, c_of (blk_bel HB4.out HX2.out) 9 (v := .int .i64 x.f2) rfl, c_of (blk_bel HB4.out HX2.out) 10 (v := .int .i64 x.f3) rfl, c_of (blk_bel HB4.out HQ2.out) 0 (v := .string q.f0) rfl, c_of (blk_bel HB4.out HQ2.out) 1 (v := .string q.f1) rfl, c_of (blk_bel HB4.out HQ2.out) 2 (v := .string q.f2) rfl, c_of (blk_bel HB4.out HQ2.out) 3 (v := .string q.f3) rfl, c_of (blk_bel HB4.out HQ2.out) 4 (v := .slice A4 q.f4.length c4) rfl, c_of (blk_bel HB4.out HQ2.out) 5 (v := .slice A5 q.f5.length c5) rfl⟩ (fun hHeld => ?_)
  clear hK K
  refine norm_ (a' := ?_) ?_ ?_
  rotate_left
  · show Act.put _ (some 21) _ = _
    simp only [Act.put, List.setIfInBounds_toArray, List.set_cons_zero, List.set_cons_succ, i64_w, i32_w]
    rfl
  refine one_ (i := 4) (N := some 24) #[true, true, true, true, true, false] rfl rfl (by kernel_rfl) (by decide) (fun K hK => ?_)
  refine goes_ Tryz.func18 (by kernel_rfl) rfl #[.agg #[.string x.f0.f0, .string x.f0.f1, .string x.f0.f2, .string x.f0.f3, .slice r.A4 x.f0.f4.length r.c4, .slice r.A5 x.f0.f5.length r.c5, .int .i64 x.f1.f0, .slice r.A7 x.f1.f1.length r.c7, .slice r.A8 x.f1.f2.length r.c8, .int .i64 x.f2, .int .i64 x.f3], .agg #[.string q.f0, .string q.f1, .string q.f2, .string q.f3, .slice A4 q.f4.length c4, .slice A5 q.f5.length c5], .int .i64 now] (by rfl) rfl rfl (by simp only [List.map_toArray, List.map_cons, List.map_nil]; rfl) ?_
  with_reducible refine (HVE.out _ (below_step HB2.out HB4.out)).mono ?_
  rintro e w5 ⟨rfl, hb5⟩
  refine ⟨_, rfl, ?_⟩
  have HB5 : Hid (Below W2.heap.size W2 w5) := Lib.hid (below_step HB4.out hb5)
  refine hK.out _ _ ⟨c_of (blk_bel HB5.out HX2.out) 0 (v := .string x.f0.f0) rfl, c_of (blk_bel HB5.out HX2.out) 1 (v := .string x.f0.f1) rfl, c_of (blk_bel HB5.out HX2.out) 2 (v := .string x.f0.f2) rfl, c_of (blk_bel HB5.out HX2.out) 3 (v := .string x.f0.f3) rfl, c_of (blk_bel HB5.out HX2.out) 4 (v := .slice r.A4 x.f0.f4.length r.c4) rfl, c_of (blk_bel HB5.out HX2.out) 5 (v := .slice r.A5 x.f0.f5.length r.c5) rfl, c_of (blk_bel HB5.out HX2.out) 6 (v := .int .i64 x.f1.f0) rfl, c_of (blk_bel HB5.out HX2.out) 7 (v := .slice r.A7 x.f1.f1.length r.c7) rfl, c_of (blk_bel HB5.out HX2.out) 8 (v := .slice r.A8 x.f1.f2.length r.c8) rfl, c_of (blk_bel HB5.out HX2.out) 9 (v := .int .i64 x.f2) rfl, c_of (blk_bel HB5.out HX2.out) 10 (v := .int .i64 x.f3) rfl, c_of (blk_bel HB5.out HQ2.out) 0 (v := .string q.f0) rfl, c_of (blk_bel HB5.out HQ2.out) 1 (v := .string q.f1) rfl, c_of (blk_bel HB5.out HQ2.out) 2 (v := .string q.f2) rfl, c_of (blk_bel HB5.out HQ2.out) 3 (v := .string q.f3) rfl, c_of (blk_bel HB5.out HQ2.out) 4 (v := .slice A4 q.f4.length c4) rfl, c_of (blk_bel HB5.out HQ2.out) 5 (v := .slice A5 q.f5.length c5) rfl⟩ (fun hHeld => ?_)
  clear hK K
  refine norm_ (a' := ?_) ?_ ?_
  rotate_left
  · show Act.put _ (some 24) _ = _
    simp only [Act.put, List.setIfInBounds_toArray, List.set_cons_zero, List.set_cons_succ, i64_w, i32_w]
    rfl
  refine pure_ (i := 5) (N := some 9) (v := ?_) (a' := ?_) #[true, true, true, true, true, true] rfl rfl (by kernel_rfl) (fun _ _ _ h => h) (Or.inl ⟨by rfl, ?_⟩) ?_ ?_
  rotate_left
  · intro w'
    go_simp
    with_reducible rfl
  rotate_left
  · simp only [Act.put, List.setIfInBounds_toArray, List.set_cons_zero, List.set_cons_succ, i64_w, i32_w]
    rfl
  refine done_ (by kernel_rfl) ?_
  have HBa := Lib.hid (below_step HB2.out HB5.out)
  have HXa := Lib.hid (blk_bel HB5.out HX2.out)
  have HQa := Lib.hid (blk_bel HB5.out HQ2.out)
  have HCa := Lib.hid (blk_bel HB5.out HCb.out)
  have HRa := Lib.hid (blk_bel HB5.out HRb.out)
  obtain ⟨l0, l1, l2, l3, l4, l5, l6, l7, l8, l9, l10⟩ := bxr_cells HXa.out
  obtain ⟨sl, hsl⟩ : ∃ b, b = decide (li ≤ ag) := ⟨_, rfl⟩
  have HSL := Lib.hid hsl
  clear hsl
  go_upto_region 5 with (first | (go_at_call 16; refine (HAG.out _ HBd.out).mono ?_; rintro e we ⟨rfl, hbe⟩; have HBe := Lib.hid (below_step HBd.out hbe); have HXe := Lib.hid (blk_bel hbe HXd.out); have HQe := Lib.hid (blk_bel hbe HQd.out); have HCe := Lib.hid (blk_bel hbe HCd.out); have HRe := Lib.hid (blk_bel hbe HRd.out); obtain ⟨l0, l1, l2, l3, l4, l5, l6, l7, l8, l9, l10⟩ := bxr_cells HXe.out; clear hbe) | (go_at_call 17; refine (HTH.out _ HBc.out).mono ?_; rintro e wd ⟨rfl, hbd⟩; have HBd := Lib.hid (below_step HBc.out hbd); have HXd := Lib.hid (blk_bel hbd HXc.out); have HQd := Lib.hid (blk_bel hbd HQc.out); have HCd := Lib.hid (blk_bel hbd HCc.out); have HRd := Lib.hid (blk_bel hbd HRc.out); obtain ⟨l0, l1, l2, l3, l4, l5, l6, l7, l8, l9, l10⟩ := bxr_cells HXd.out; clear hbd) | (go_at_call 19; refine (HLI.out _ HBb.out).mono ?_; rintro e wc ⟨rfl, hbc⟩; have HBc := Lib.hid (below_step HBb.out hbc); have HXc := Lib.hid (blk_bel hbc HXb.out); have HQc := Lib.hid (blk_bel hbc HQb.out); have HCc := Lib.hid (blk_bel hbc HCb.out); have HRc := Lib.hid (blk_bel hbc HRb.out); obtain ⟨l0, l1, l2, l3, l4, l5, l6, l7, l8, l9, l10⟩ := bxr_cells HXc.out; clear hbc) | (go_at_call 17; refine (HTH.out _ HBa.out).mono ?_; rintro e wb ⟨rfl, hbb⟩; have HBb := Lib.hid (below_step HBa.out hbb); have HXb := Lib.hid (blk_bel hbb HXa.out); have HQb := Lib.hid (blk_bel hbb HQa.out); have HCb := Lib.hid (blk_bel hbb HCa.out); have HRb := Lib.hid (blk_bel hbb HRa.out); obtain ⟨l0, l1, l2, l3, l4, l5, l6, l7, l8, l9, l10⟩ := bxr_cells HXb.out; clear hbb))
  obtain ⟨W4, hW4⟩ : ∃ W, W = we := ⟨_, rfl⟩
  rw [← hW4] at HBe HXe HQe HCe HRe ⊢
  clear hW4
  have HB4 := HBe; have HX4 := HXe; have HQ4 := HQe; have HC4 := HCe; have HR4 := HRe
  rw [← HSL.out]
  go_cut [57] (fun v57 wx => v57 = .bool false ∧ Hid (Below W4.heap.size W4 wx))
  case first =>
    cases e1 : C.fl 1 with
    | true =>
      have hl5 := HLAW.out.1 (.inl e1)
      have w0 : (v != 0) = false := by rw [hl5.1]; rfl
      have HVZ := Lib.hid hl5.1
      have w1 := hl5.2
      subst w1
      clear hl5
      refine start_ (n := 21) (S := fun w' => w'.cell? ⟨w.heap.size, 0, none⟩ = some (.string x.f0.f0) ∧ w'.cell? ⟨w.heap.size, 1, none⟩ = some (.string x.f0.f1) ∧ w'.cell? ⟨w.heap.size, 2, none⟩ = some (.string x.f0.f2) ∧ w'.cell? ⟨w.heap.size, 3, none⟩ = some (.string x.f0.f3) ∧ w'.cell? ⟨w.heap.size, 4, none⟩ = some (.slice r.A4 x.f0.f4.length r.c4) ∧ w'.cell? ⟨w.heap.size, 5, none⟩ = some (.slice r.A5 x.f0.f5.length r.c5) ∧ w'.cell? ⟨w.heap.size, 6, none⟩ = some (.int .i64 x.f1.f0) ∧ w'.cell? ⟨w.heap.size, 7, none⟩ = some (.slice r.A7 x.f1.f1.length r.c7) ∧ w'.cell? ⟨w.heap.size, 8, none⟩ = some (.slice r.A8 x.f1.f2.length r.c8) ∧ w'.cell? ⟨w.heap.size, 9, none⟩ = some (.int .i64 x.f2) ∧ w'.cell? ⟨w.heap.size, 10, none⟩ = some (.int .i64 x.f3) ∧ w'.cell? ⟨w.heap.size + 1, 0, none⟩ = some (.string q.f0) ∧ w'.cell? ⟨w.heap.size + 1, 1, none⟩ = some (.string q.f1) ∧ w'.cell? ⟨w.heap.size + 1, 2, none⟩ = some (.string q.f2) ∧ w'.cell? ⟨w.heap.size + 1, 3, none⟩ = some (.string q.f3) ∧ w'.cell? ⟨w.heap.size + 1, 4, none⟩ = some (.slice A4 q.f4.length c4) ∧ w'.cell? ⟨w.heap.size + 1, 5, none⟩ = some (.slice A5 q.f5.length c5) ∧ w'.cell? ⟨a_, 1, none⟩ = some (.bool (C.fl 1)) ∧ w'.cell? ⟨b_, 0, none⟩ = some (.bool (R.fl 0)) ∧ w'.cell? ⟨b_, 1, none⟩ = some (.bool (R.fl 1))) (ds := []) #[false, false, false, false, false, false, false, false, false, false, false, false, false, false, false, false, false, false, false, false, false] (by kernel_rfl) rfl rfl ⟨c_of (blk_bel (below_drew (Below.refl _ _)) HX4.out) 0 (v := .string x.f0.f0) rfl, c_of (blk_bel (below_drew (Below.refl _ _)) HX4.out) 1 (v := .string x.f0.f1) rfl, c_of (blk_bel (below_drew (Below.refl _ _)) HX4.out) 2 (v := .string x.f0.f2) rfl, c_of (blk_bel (below_drew (Below.refl _ _)) HX4.out) 3 (v := .string x.f0.f3) rfl, c_of (blk_bel (below_drew (Below.refl _ _)) HX4.out) 4 (v := .slice r.A4 x.f0.f4.length r.c4) rfl, c_of (blk_bel (below_drew (Below.refl _ _)) HX4.out) 5 (v := .slice r.A5 x.f0.f5.length r.c5) rfl, c_of (blk_bel (below_drew (Below.refl _ _)) HX4.out) 6 (v := .int .i64 x.f1.f0) rfl, c_of (blk_bel (below_drew (Below.refl _ _)) HX4.out) 7 (v := .slice r.A7 x.f1.f1.length r.c7) rfl, c_of (blk_bel (below_drew (Below.refl _ _)) HX4.out) 8 (v := .slice r.A8 x.f1.f2.length r.c8) rfl, c_of (blk_bel (below_drew (Below.refl _ _)) HX4.out) 9 (v := .int .i64 x.f2) rfl, c_of (blk_bel (below_drew (Below.refl _ _)) HX4.out) 10 (v := .int .i64 x.f3) rfl, c_of (blk_bel (below_drew (Below.refl _ _)) HQ4.out) 0 (v := .string q.f0) rfl, c_of (blk_bel (below_drew (Below.refl _ _)) HQ4.out) 1 (v := .string q.f1) rfl, c_of (blk_bel (below_drew (Below.refl _ _)) HQ4.out) 2 (v := .string q.f2) rfl, c_of (blk_bel (below_drew (Below.refl _ _)) HQ4.out) 3 (v := .string q.f3) rfl, c_of (blk_bel (below_drew (Below.refl _ _)) HQ4.out) 4 (v := .slice A4 q.f4.length c4) rfl, c_of (blk_bel (below_drew (Below.refl _ _)) HQ4.out) 5 (v := .slice A5 q.f5.length c5) rfl, c_of (blk_bel (below_drew (Below.refl _ _)) HC4.out) 1 (v := .bool (C.fl 1)) rfl, c_of (blk_bel (below_drew (Below.refl _ _)) HR4.out) 0 (v := .bool (R.fl 0)) rfl, c_of (blk_bel (below_drew (Below.refl _ _)) HR4.out) 1 (v := .bool (R.fl 1)) rfl⟩ (fun hHeld => ?_)
      refine pure_ (i := 0) (N := some 37) (v := ?_) (a' := ?_) #[true, false, false, false, false, false, false, false, false, false, false, false, false, false, false, false, false, false, false, false, false] rfl rfl (by kernel_rfl) (fun _ _ _ h => h) (Or.inl ⟨by rfl, ?_⟩) ?_ ?_
      rotate_left
      · intro w'
        go_simp
        with_reducible rfl
      rotate_left
      · simp only [Act.put, List.setIfInBounds_toArray, List.set_cons_zero, List.set_cons_succ, i64_w, i32_w]
        rfl
      refine take_ (i := 1) (N := some 38) (v := ?_) (a' := ?_) #[true, true, false, false, false, false, false, false, false, false, false, false, false, false, false, false, false, false, false, false, false] rfl rfl (by kernel_rfl) (fun _ _ _ h => h) (Or.inl ⟨by rfl, ?_⟩) hHeld ?_ ?_
      rotate_left
      · rintro w' ⟨s0, s1, s2, s3, s4, s5, s6, s7, s8, s9, s10, s11, s12, s13, s14, s15, s16, s17, s18, s19⟩
        go_simp
        with_reducible rfl
      rotate_left
      · simp only [Act.put, List.setIfInBounds_toArray, List.set_cons_zero, List.set_cons_succ, i64_w, i32_w]
        rfl
      refine pure_ (i := 2) (N := some 39) (v := ?_) (a' := ?_) #[true, true, true, false, false, false, false, false, false, false, false, false, false, false, false, false, false, false, false, false, false] rfl rfl (by kernel_rfl) (fun _ _ _ h => h) (Or.inl ⟨by rfl, ?_⟩) ?_ ?_
      rotate_left
      · intro w'
        go_simp
        with_reducible rfl
      rotate_left
      · simp only [Act.put, List.setIfInBounds_toArray, List.set_cons_zero, List.set_cons_succ, i64_w, i32_w]
        rfl
      refine pure_ (i := 3) (N := some 40) (v := undef) (a' := ?_) #[true, true, true, true, false, false, false, false, false, false, false, false, false, false, false, false, false, false, false, false, false] rfl rfl (by kernel_rfl) (fun _ _ _ h => h) (Or.inr ⟨by rfl, rfl⟩) ?_ ?_
      rotate_left
      · simp only [Act.put, List.setIfInBounds_toArray, List.set_cons_zero, List.set_cons_succ, i64_w, i32_w]
        rfl
      refine pure_ (i := 4) (N := some 41) (v := undef) (a' := ?_) #[true, true, true, true, true, false, false, false, false, false, false, false, false, false, false, false, false, false, false, false, false] rfl rfl (by kernel_rfl) (fun _ _ _ h => h) (Or.inr ⟨by rfl, rfl⟩) ?_ ?_
      rotate_left
      · simp only [Act.put, List.setIfInBounds_toArray, List.set_cons_zero, List.set_cons_succ, i64_w, i32_w]
        rfl
      refine pure_ (i := 5) (N := some 42) (v := ?_) (a' := ?_) #[true, true, true, true, true, true, false, false, false, false, false, false, false, false, false, false, false, false, false, false, false] rfl rfl (by kernel_rfl) (fun _ _ _ h => h) (Or.inl ⟨by rfl, ?_⟩) ?_ ?_
      rotate_left
      · intro w'
        go_simp
        with_reducible rfl
      rotate_left
      · simp only [Act.put, List.setIfInBounds_toArray, List.set_cons_zero, List.set_cons_succ, i64_w, i32_w]
        rfl
      refine pure_ (i := 6) (N := some 43) (v := ?_) (a' := ?_) #[true, true, true, true, true, true, true, false, false, false, false, false, false, false, false, false, false, false, false, false, false] rfl rfl (by kernel_rfl) (fun _ _ _ h => h) (Or.inl ⟨by rfl, ?_⟩) ?_ ?_
      rotate_left
      · intro w'
        go_simp
        with_reducible rfl
      rotate_left
      · simp only [Act.put, List.setIfInBounds_toArray, List.set_cons_zero, List.set_cons_succ, i64_w, i32_w]
        rfl
      refine pure_ (i := 7) (N := some 44) (v := undef) (a' := ?_) #[true, true, true, true, true, true, true, true, false, false, false, false, false, false, false, false, false, false, false, false, false] rfl rfl (by kernel_rfl) (fun _ _ _ h => h) (Or.inr ⟨by rfl, rfl⟩) ?_ ?_
      rotate_left
      · simp only [Act.put, List.setIfInBounds_toArray, List.set_cons_zero, List.set_cons_succ, i64_w, i32_w]
        rfl
      refine pure_ (i := 8) (N := some 45) (v := undef) (a' := ?_) #[true, true, true, true, true, true, true, true, true, false, false, false, false, false, false, false, false, false, false, false, false] rfl rfl (by kernel_rfl) (fun _ _ _ h => h) (Or.inr ⟨by rfl, rfl⟩) ?_ ?_
      rotate_left
      · simp only [Act.put, List.setIfInBounds_toArray, List.set_cons_zero, List.set_cons_succ, i64_w, i32_w]
        rfl
      refine pure_ (i := 9) (N := some 46) (v := ?_) (a' := ?_) #[true, true, true, true, true, true, true, true, true, true, false, false, false, false, false, false, false, false, false, false, false] rfl rfl (by kernel_rfl) (fun _ _ _ h => h) (Or.inl ⟨by rfl, ?_⟩) ?_ ?_
      rotate_left
      · intro w'
        go_simp
        with_reducible rfl
      rotate_left
      · simp only [Act.put, List.setIfInBounds_toArray, List.set_cons_zero, List.set_cons_succ, i64_w, i32_w]
        rfl
      refine pure_ (i := 10) (N := some 47) (v := ?_) (a' := ?_) #[true, true, true, true, true, true, true, true, true, true, true, false, false, false, false, false, false, false, false, false, false] rfl rfl (by kernel_rfl) (fun _ _ _ h => h) (Or.inl ⟨by rfl, ?_⟩) ?_ ?_
      rotate_left
      · intro w'
        go_simp
        with_reducible rfl
      rotate_left
      · simp only [Act.put, List.setIfInBounds_toArray, List.set_cons_zero, List.set_cons_succ, i64_w, i32_w]
        rfl
      refine pure_ (i := 11) (N := some 48) (v := ?_) (a' := ?_) #[true, true, true, true, true, true, true, true, true, true, true, true, false, false, false, false, false, false, false, false, false] rfl rfl (by kernel_rfl) (fun _ _ _ h => h) (Or.inl ⟨by rfl, ?_⟩) ?_ ?_
      rotate_left
      · intro w'
        go_simp
        with_reducible rfl
      rotate_left
      · simp only [Act.put, List.setIfInBounds_toArray, List.set_cons_zero, List.set_cons_succ, i64_w, i32_w]
        rfl
      refine pure_ (i := 12) (N := some 49) (v := ?_) (a' := ?_) #[true, true, true, true, true, true, true, true, true, true, true, true, true, false, false, false, false, false, false, false, false] rfl rfl (by kernel_rfl) (fun _ _ _ h => h) (Or.inl ⟨by rfl, ?_⟩) ?_ ?_
      rotate_left
      · intro w'
        go_simp
        with_reducible rfl
      rotate_left
      · simp only [Act.put, List.setIfInBounds_toArray, List.set_cons_zero, List.set_cons_succ, i64_w, i32_w]
        rfl
      refine pure_ (i := 13) (N := some 50) (v := ?_) (a' := ?_) #[true, true, true, true, true, true, true, true, true, true, true, true, true, true, false, false, false, false, false, false, false] rfl rfl (by kernel_rfl) (fun _ _ _ h => h) (Or.inl ⟨by rfl, ?_⟩) ?_ ?_
      rotate_left
      · intro w'
        go_simp
        with_reducible rfl
      rotate_left
      · simp only [Act.put, List.setIfInBounds_toArray, List.set_cons_zero, List.set_cons_succ, i64_w, i32_w]
        rfl
      refine pure_ (i := 17) (N := some 54) (v := ?_) (a' := ?_) #[true, true, true, true, true, true, true, true, true, true, true, true, true, true, false, false, false, true, false, false, false] rfl rfl (by kernel_rfl) (fun _ _ _ h => h) (Or.inl ⟨by rfl, ?_⟩) ?_ ?_
      rotate_left
      · intro w'
        go_simp
        with_reducible rfl
      rotate_left
      · simp only [Act.put, List.setIfInBounds_toArray, List.set_cons_zero, List.set_cons_succ, i64_w, i32_w]
        rfl
      refine take_ (i := 14) (N := some 51) (v := ?_) (a' := ?_) #[true, true, true, true, true, true, true, true, true, true, true, true, true, true, true, false, false, true, false, false, false] rfl rfl (by kernel_rfl) (fun _ _ _ h => h) (Or.inl ⟨by rfl, ?_⟩) hHeld ?_ ?_
      rotate_left
      · rintro w' ⟨s0, s1, s2, s3, s4, s5, s6, s7, s8, s9, s10, s11, s12, s13, s14, s15, s16, s17, s18, s19⟩
        go_simp
        with_reducible rfl
      rotate_left
      · simp only [Act.put, List.setIfInBounds_toArray, List.set_cons_zero, List.set_cons_succ, i64_w, i32_w]
        rfl
      refine take_ (i := 16) (N := some 53) (v := ?_) (a' := ?_) #[true, true, true, true, true, true, true, true, true, true, true, true, true, true, true, false, true, true, false, false, false] rfl rfl (by kernel_rfl) (fun _ _ _ h => h) (Or.inl ⟨by rfl, ?_⟩) hHeld ?_ ?_
      rotate_left
      · rintro w' ⟨s0, s1, s2, s3, s4, s5, s6, s7, s8, s9, s10, s11, s12, s13, s14, s15, s16, s17, s18, s19⟩
        go_simp
        with_reducible rfl
      rotate_left
      · simp only [Act.put, List.setIfInBounds_toArray, List.set_cons_zero, List.set_cons_succ, i64_w, i32_w]
        rfl
      refine one_ (i := 15) (N := some 52) #[true, true, true, true, true, true, true, true, true, true, true, true, true, true, true, true, true, true, false, false, false] rfl rfl (by kernel_rfl) (by decide) (fun K hK => ?_)
      refine goes_ Tryz.func17 (by kernel_rfl) rfl #[.agg #[.string x.f0.f0, .string x.f0.f1, .string x.f0.f2, .string x.f0.f3, .slice r.A4 x.f0.f4.length r.c4, .slice r.A5 x.f0.f5.length r.c5, .int .i64 x.f1.f0, .slice r.A7 x.f1.f1.length r.c7, .slice r.A8 x.f1.f2.length r.c8, .int .i64 x.f2, .int .i64 x.f3]] (by rfl) rfl rfl (by simp only [List.map_toArray, List.map_cons, List.map_nil]; rfl) ?_
      with_reducible refine (theirs_q _ x r).mono ?_
      rintro e wt ⟨rfl, hbt⟩
      refine ⟨_, rfl, ?_⟩
      have HBt : Hid (Below W4.heap.size W4 wt) := Lib.hid (below_step (below_drew (Below.refl _ _)) hbt)
      refine hK.out _ _ ⟨c_of (blk_bel HBt.out HX4.out) 0 (v := .string x.f0.f0) rfl, c_of (blk_bel HBt.out HX4.out) 1 (v := .string x.f0.f1) rfl, c_of (blk_bel HBt.out HX4.out) 2 (v := .string x.f0.f2) rfl, c_of (blk_bel HBt.out HX4.out) 3 (v := .string x.f0.f3) rfl, c_of (blk_bel HBt.out HX4.out) 4 (v := .slice r.A4 x.f0.f4.length r.c4) rfl, c_of (blk_bel HBt.out HX4.out) 5 (v := .slice r.A5 x.f0.f5.length r.c5) rfl, c_of (blk_bel HBt.out HX4.out) 6 (v := .int .i64 x.f1.f0) rfl, c_of (blk_bel HBt.out HX4.out) 7 (v := .slice r.A7 x.f1.f1.length r.c7) rfl, c_of (blk_bel HBt.out HX4.out) 8 (v := .slice r.A8 x.f1.f2.length r.c8) rfl, c_of (blk_bel HBt.out HX4.out) 9 (v := .int .i64 x.f2) rfl, c_of (blk_bel HBt.out HX4.out) 10 (v := .int .i64 x.f3) rfl, c_of (blk_bel HBt.out HQ4.out) 0 (v := .string q.f0) rfl, c_of (blk_bel HBt.out HQ4.out) 1 (v := .string q.f1) rfl, c_of (blk_bel HBt.out HQ4.out) 2 (v := .string q.f2) rfl, c_of (blk_bel HBt.out HQ4.out) 3 (v := .string q.f3) rfl, c_of (blk_bel HBt.out HQ4.out) 4 (v := .slice A4 q.f4.length c4) rfl, c_of (blk_bel HBt.out HQ4.out) 5 (v := .slice A5 q.f5.length c5) rfl, c_of (blk_bel HBt.out HC4.out) 1 (v := .bool (C.fl 1)) rfl, c_of (blk_bel HBt.out HR4.out) 0 (v := .bool (R.fl 0)) rfl, c_of (blk_bel HBt.out HR4.out) 1 (v := .bool (R.fl 1)) rfl⟩ (fun hHeld => ?_)
      clear hK K
      refine norm_ (a' := ?_) ?_ ?_
      rotate_left
      · show Act.put _ (some 52) _ = _
        simp only [Act.put, List.setIfInBounds_toArray, List.set_cons_zero, List.set_cons_succ, i64_w, i32_w]
        rfl
      refine one_ (i := 18) (N := some 55) #[true, true, true, true, true, true, true, true, true, true, true, true, true, true, true, true, true, true, true, false, false] rfl rfl (by kernel_rfl) (by decide) (fun K hK => ?_)
      refine goes_ Tryz.func24 (by kernel_rfl) rfl #[.agg #[.string x.f0.f0, .string x.f0.f1, .string x.f0.f2, .string x.f0.f3, .slice r.A4 x.f0.f4.length r.c4, .slice r.A5 x.f0.f5.length r.c5, .int .i64 x.f1.f0, .slice r.A7 x.f1.f1.length r.c7, .slice r.A8 x.f1.f2.length r.c8, .int .i64 x.f2, .int .i64 x.f3], .agg #[.string q.f0, .string q.f1, .string q.f2, .string q.f3, .slice A4 q.f4.length c4, .slice A5 q.f5.length c5], .int .i64 now] (by rfl) rfl rfl (by simp only [List.map_toArray, List.map_cons, List.map_nil]; rfl) ?_
      with_reducible refine (HER.out _ (below_step HB4.out HBt.out)).mono ?_
      rintro e we ⟨rfl, hbe⟩
      refine ⟨_, rfl, ?_⟩
      have HBe : Hid (Below W4.heap.size W4 we) := Lib.hid (below_step HBt.out hbe)
      refine hK.out _ _ ⟨c_of (blk_bel HBe.out HX4.out) 0 (v := .string x.f0.f0) rfl, c_of (blk_bel HBe.out HX4.out) 1 (v := .string x.f0.f1) rfl, c_of (blk_bel HBe.out HX4.out) 2 (v := .string x.f0.f2) rfl, c_of (blk_bel HBe.out HX4.out) 3 (v := .string x.f0.f3) rfl, c_of (blk_bel HBe.out HX4.out) 4 (v := .slice r.A4 x.f0.f4.length r.c4) rfl, c_of (blk_bel HBe.out HX4.out) 5 (v := .slice r.A5 x.f0.f5.length r.c5) rfl, c_of (blk_bel HBe.out HX4.out) 6 (v := .int .i64 x.f1.f0) rfl, c_of (blk_bel HBe.out HX4.out) 7 (v := .slice r.A7 x.f1.f1.length r.c7) rfl, c_of (blk_bel HBe.out HX4.out) 8 (v := .slice r.A8 x.f1.f2.length r.c8) rfl, c_of (blk_bel HBe.out HX4.out) 9 (v := .int .i64 x.f2) rfl, c_of (blk_bel HBe.out HX4.out) 10 (v := .int .i64 x.f3) rfl, c_of (blk_bel HBe.out HQ4.out) 0 (v := .string q.f0) rfl, c_of (blk_bel HBe.out HQ4.out) 1 (v := .string q.f1) rfl, c_of (blk_bel HBe.out HQ4.out) 2 (v := .string q.f2) rfl, c_of (blk_bel HBe.out HQ4.out) 3 (v := .string q.f3) rfl, c_of (blk_bel HBe.out HQ4.out) 4 (v := .slice A4 q.f4.length c4) rfl, c_of (blk_bel HBe.out HQ4.out) 5 (v := .slice A5 q.f5.length c5) rfl, c_of (blk_bel HBe.out HC4.out) 1 (v := .bool (C.fl 1)) rfl, c_of (blk_bel HBe.out HR4.out) 0 (v := .bool (R.fl 0)) rfl, c_of (blk_bel HBe.out HR4.out) 1 (v := .bool (R.fl 1)) rfl⟩ (fun hHeld => ?_)
      clear hK K
      refine norm_ (a' := ?_) ?_ ?_
      rotate_left
      · show Act.put _ (some 55) _ = _
        simp only [Act.put, List.setIfInBounds_toArray, List.set_cons_zero, List.set_cons_succ, i64_w, i32_w]
        rfl
      refine pure_ (i := 19) (N := some 56) (v := ?_) (a' := ?_) #[true, true, true, true, true, true, true, true, true, true, true, true, true, true, true, true, true, true, true, true, false] rfl rfl (by kernel_rfl) (fun _ _ _ h => h) (Or.inl ⟨by rfl, ?_⟩) ?_ ?_
      rotate_left
      · intro w'
        go_simp
        with_reducible rfl
      rotate_left
      · simp only [Act.put, List.setIfInBounds_toArray, List.set_cons_zero, List.set_cons_succ, i64_w, i32_w]
        rfl
      refine pure_ (i := 20) (N := some 57) (v := ?_) (a' := ?_) #[true, true, true, true, true, true, true, true, true, true, true, true, true, true, true, true, true, true, true, true, true] rfl rfl (by kernel_rfl) (fun _ _ _ h => h) (Or.inl ⟨by rfl, ?_⟩) ?_ ?_
      rotate_left
      · intro w'
        go_simp
        with_reducible rfl
      rotate_left
      · simp only [Act.put, List.setIfInBounds_toArray, List.set_cons_zero, List.set_cons_succ, i64_w, i32_w]
        rfl
      refine done_ (by kernel_rfl) ?_
      have HBz := Lib.hid HBe.out
      go_wp2
      go_meet
      case rel => exact ⟨by first | rfl | (simp [*]; done), HBz⟩
    | false =>
      cases f1 : R.fl 1 with
      | true =>
        have hl5 := HLAW.out.1 (.inr (.inl f1))
        have w0 : (v != 0) = false := by rw [hl5.1]; rfl
        have HVZ := Lib.hid hl5.1
        have w1 := hl5.2
        subst w1
        clear hl5
        refine start_ (n := 21) (S := fun w' => w'.cell? ⟨w.heap.size, 0, none⟩ = some (.string x.f0.f0) ∧ w'.cell? ⟨w.heap.size, 1, none⟩ = some (.string x.f0.f1) ∧ w'.cell? ⟨w.heap.size, 2, none⟩ = some (.string x.f0.f2) ∧ w'.cell? ⟨w.heap.size, 3, none⟩ = some (.string x.f0.f3) ∧ w'.cell? ⟨w.heap.size, 4, none⟩ = some (.slice r.A4 x.f0.f4.length r.c4) ∧ w'.cell? ⟨w.heap.size, 5, none⟩ = some (.slice r.A5 x.f0.f5.length r.c5) ∧ w'.cell? ⟨w.heap.size, 6, none⟩ = some (.int .i64 x.f1.f0) ∧ w'.cell? ⟨w.heap.size, 7, none⟩ = some (.slice r.A7 x.f1.f1.length r.c7) ∧ w'.cell? ⟨w.heap.size, 8, none⟩ = some (.slice r.A8 x.f1.f2.length r.c8) ∧ w'.cell? ⟨w.heap.size, 9, none⟩ = some (.int .i64 x.f2) ∧ w'.cell? ⟨w.heap.size, 10, none⟩ = some (.int .i64 x.f3) ∧ w'.cell? ⟨w.heap.size + 1, 0, none⟩ = some (.string q.f0) ∧ w'.cell? ⟨w.heap.size + 1, 1, none⟩ = some (.string q.f1) ∧ w'.cell? ⟨w.heap.size + 1, 2, none⟩ = some (.string q.f2) ∧ w'.cell? ⟨w.heap.size + 1, 3, none⟩ = some (.string q.f3) ∧ w'.cell? ⟨w.heap.size + 1, 4, none⟩ = some (.slice A4 q.f4.length c4) ∧ w'.cell? ⟨w.heap.size + 1, 5, none⟩ = some (.slice A5 q.f5.length c5) ∧ w'.cell? ⟨a_, 1, none⟩ = some (.bool (C.fl 1)) ∧ w'.cell? ⟨b_, 0, none⟩ = some (.bool (R.fl 0)) ∧ w'.cell? ⟨b_, 1, none⟩ = some (.bool (R.fl 1))) (ds := []) #[false, false, false, false, false, false, false, false, false, false, false, false, false, false, false, false, false, false, false, false, false] (by kernel_rfl) rfl rfl ⟨c_of (blk_bel (below_drew (Below.refl _ _)) HX4.out) 0 (v := .string x.f0.f0) rfl, c_of (blk_bel (below_drew (Below.refl _ _)) HX4.out) 1 (v := .string x.f0.f1) rfl, c_of (blk_bel (below_drew (Below.refl _ _)) HX4.out) 2 (v := .string x.f0.f2) rfl, c_of (blk_bel (below_drew (Below.refl _ _)) HX4.out) 3 (v := .string x.f0.f3) rfl, c_of (blk_bel (below_drew (Below.refl _ _)) HX4.out) 4 (v := .slice r.A4 x.f0.f4.length r.c4) rfl, c_of (blk_bel (below_drew (Below.refl _ _)) HX4.out) 5 (v := .slice r.A5 x.f0.f5.length r.c5) rfl, c_of (blk_bel (below_drew (Below.refl _ _)) HX4.out) 6 (v := .int .i64 x.f1.f0) rfl, c_of (blk_bel (below_drew (Below.refl _ _)) HX4.out) 7 (v := .slice r.A7 x.f1.f1.length r.c7) rfl, c_of (blk_bel (below_drew (Below.refl _ _)) HX4.out) 8 (v := .slice r.A8 x.f1.f2.length r.c8) rfl, c_of (blk_bel (below_drew (Below.refl _ _)) HX4.out) 9 (v := .int .i64 x.f2) rfl, c_of (blk_bel (below_drew (Below.refl _ _)) HX4.out) 10 (v := .int .i64 x.f3) rfl, c_of (blk_bel (below_drew (Below.refl _ _)) HQ4.out) 0 (v := .string q.f0) rfl, c_of (blk_bel (below_drew (Below.refl _ _)) HQ4.out) 1 (v := .string q.f1) rfl, c_of (blk_bel (below_drew (Below.refl _ _)) HQ4.out) 2 (v := .string q.f2) rfl, c_of (blk_bel (below_drew (Below.refl _ _)) HQ4.out) 3 (v := .string q.f3) rfl, c_of (blk_bel (below_drew (Below.refl _ _)) HQ4.out) 4 (v := .slice A4 q.f4.length c4) rfl, c_of (blk_bel (below_drew (Below.refl _ _)) HQ4.out) 5 (v := .slice A5 q.f5.length c5) rfl, c_of (blk_bel (below_drew (Below.refl _ _)) HC4.out) 1 (v := .bool (C.fl 1)) rfl, c_of (blk_bel (below_drew (Below.refl _ _)) HR4.out) 0 (v := .bool (R.fl 0)) rfl, c_of (blk_bel (below_drew (Below.refl _ _)) HR4.out) 1 (v := .bool (R.fl 1)) rfl⟩ (fun hHeld => ?_)
        refine pure_ (i := 0) (N := some 37) (v := ?_) (a' := ?_) #[true, false, false, false, false, false, false, false, false, false, false, false, false, false, false, false, false, false, false, false, false] rfl rfl (by kernel_rfl) (fun _ _ _ h => h) (Or.inl ⟨by rfl, ?_⟩) ?_ ?_
        rotate_left
        · intro w'
          go_simp
          with_reducible rfl
        rotate_left
        · simp only [Act.put, List.setIfInBounds_toArray, List.set_cons_zero, List.set_cons_succ, i64_w, i32_w]
          rfl
        refine take_ (i := 1) (N := some 38) (v := ?_) (a' := ?_) #[true, true, false, false, false, false, false, false, false, false, false, false, false, false, false, false, false, false, false, false, false] rfl rfl (by kernel_rfl) (fun _ _ _ h => h) (Or.inl ⟨by rfl, ?_⟩) hHeld ?_ ?_
        rotate_left
        · rintro w' ⟨s0, s1, s2, s3, s4, s5, s6, s7, s8, s9, s10, s11, s12, s13, s14, s15, s16, s17, s18, s19⟩
          go_simp
          with_reducible rfl
        rotate_left
        · simp only [Act.put, List.setIfInBounds_toArray, List.set_cons_zero, List.set_cons_succ, i64_w, i32_w]
          rfl
        refine pure_ (i := 2) (N := some 39) (v := ?_) (a' := ?_) #[true, true, true, false, false, false, false, false, false, false, false, false, false, false, false, false, false, false, false, false, false] rfl rfl (by kernel_rfl) (fun _ _ _ h => h) (Or.inl ⟨by rfl, ?_⟩) ?_ ?_
        rotate_left
        · intro w'
          go_simp
          with_reducible rfl
        rotate_left
        · simp only [Act.put, List.setIfInBounds_toArray, List.set_cons_zero, List.set_cons_succ, i64_w, i32_w]
          rfl
        refine pure_ (i := 3) (N := some 40) (v := ?_) (a' := ?_) #[true, true, true, true, false, false, false, false, false, false, false, false, false, false, false, false, false, false, false, false, false] rfl rfl (by kernel_rfl) (fun _ _ _ h => h) (Or.inl ⟨by rfl, ?_⟩) ?_ ?_
        rotate_left
        · intro w'
          go_simp
          with_reducible rfl
        rotate_left
        · simp only [Act.put, List.setIfInBounds_toArray, List.set_cons_zero, List.set_cons_succ, i64_w, i32_w]
          rfl
        refine take_ (i := 4) (N := some 41) (v := ?_) (a' := ?_) #[true, true, true, true, true, false, false, false, false, false, false, false, false, false, false, false, false, false, false, false, false] rfl rfl (by kernel_rfl) (fun _ _ _ h => h) (Or.inl ⟨by rfl, ?_⟩) hHeld ?_ ?_
        rotate_left
        · rintro w' ⟨s0, s1, s2, s3, s4, s5, s6, s7, s8, s9, s10, s11, s12, s13, s14, s15, s16, s17, s18, s19⟩
          go_simp
          with_reducible rfl
        rotate_left
        · simp only [Act.put, List.setIfInBounds_toArray, List.set_cons_zero, List.set_cons_succ, i64_w, i32_w]
          rfl
        refine pure_ (i := 5) (N := some 42) (v := ?_) (a' := ?_) #[true, true, true, true, true, true, false, false, false, false, false, false, false, false, false, false, false, false, false, false, false] rfl rfl (by kernel_rfl) (fun _ _ _ h => h) (Or.inl ⟨by rfl, ?_⟩) ?_ ?_
        rotate_left
        · intro w'
          go_simp
          with_reducible rfl
        rotate_left
        · simp only [Act.put, List.setIfInBounds_toArray, List.set_cons_zero, List.set_cons_succ, i64_w, i32_w]
          rfl
        refine pure_ (i := 6) (N := some 43) (v := ?_) (a' := ?_) #[true, true, true, true, true, true, true, false, false, false, false, false, false, false, false, false, false, false, false, false, false] rfl rfl (by kernel_rfl) (fun _ _ _ h => h) (Or.inl ⟨by rfl, ?_⟩) ?_ ?_
        rotate_left
        · intro w'
          go_simp
          with_reducible rfl
        rotate_left
        · simp only [Act.put, List.setIfInBounds_toArray, List.set_cons_zero, List.set_cons_succ, i64_w, i32_w]
          rfl
        refine pure_ (i := 7) (N := some 44) (v := undef) (a' := ?_) #[true, true, true, true, true, true, true, true, false, false, false, false, false, false, false, false, false, false, false, false, false] rfl rfl (by kernel_rfl) (fun _ _ _ h => h) (Or.inr ⟨by rfl, rfl⟩) ?_ ?_
        rotate_left
        · simp only [Act.put, List.setIfInBounds_toArray, List.set_cons_zero, List.set_cons_succ, i64_w, i32_w]
          rfl
        refine pure_ (i := 8) (N := some 45) (v := undef) (a' := ?_) #[true, true, true, true, true, true, true, true, true, false, false, false, false, false, false, false, false, false, false, false, false] rfl rfl (by kernel_rfl) (fun _ _ _ h => h) (Or.inr ⟨by rfl, rfl⟩) ?_ ?_
        rotate_left
        · simp only [Act.put, List.setIfInBounds_toArray, List.set_cons_zero, List.set_cons_succ, i64_w, i32_w]
          rfl
        refine pure_ (i := 9) (N := some 46) (v := ?_) (a' := ?_) #[true, true, true, true, true, true, true, true, true, true, false, false, false, false, false, false, false, false, false, false, false] rfl rfl (by kernel_rfl) (fun _ _ _ h => h) (Or.inl ⟨by rfl, ?_⟩) ?_ ?_
        rotate_left
        · intro w'
          go_simp
          with_reducible rfl
        rotate_left
        · simp only [Act.put, List.setIfInBounds_toArray, List.set_cons_zero, List.set_cons_succ, i64_w, i32_w]
          rfl
        refine pure_ (i := 10) (N := some 47) (v := ?_) (a' := ?_) #[true, true, true, true, true, true, true, true, true, true, true, false, false, false, false, false, false, false, false, false, false] rfl rfl (by kernel_rfl) (fun _ _ _ h => h) (Or.inl ⟨by rfl, ?_⟩) ?_ ?_
        rotate_left
        · intro w'
          go_simp
          with_reducible rfl
        rotate_left
        · simp only [Act.put, List.setIfInBounds_toArray, List.set_cons_zero, List.set_cons_succ, i64_w, i32_w]
          rfl
        refine pure_ (i := 11) (N := some 48) (v := ?_) (a' := ?_) #[true, true, true, true, true, true, true, true, true, true, true, true, false, false, false, false, false, false, false, false, false] rfl rfl (by kernel_rfl) (fun _ _ _ h => h) (Or.inl ⟨by rfl, ?_⟩) ?_ ?_
        rotate_left
        · intro w'
          go_simp
          with_reducible rfl
        rotate_left
        · simp only [Act.put, List.setIfInBounds_toArray, List.set_cons_zero, List.set_cons_succ, i64_w, i32_w]
          rfl
        refine pure_ (i := 12) (N := some 49) (v := ?_) (a' := ?_) #[true, true, true, true, true, true, true, true, true, true, true, true, true, false, false, false, false, false, false, false, false] rfl rfl (by kernel_rfl) (fun _ _ _ h => h) (Or.inl ⟨by rfl, ?_⟩) ?_ ?_
        rotate_left
        · intro w'
          go_simp
          with_reducible rfl
        rotate_left
        · simp only [Act.put, List.setIfInBounds_toArray, List.set_cons_zero, List.set_cons_succ, i64_w, i32_w]
          rfl
        refine pure_ (i := 13) (N := some 50) (v := ?_) (a' := ?_) #[true, true, true, true, true, true, true, true, true, true, true, true, true, true, false, false, false, false, false, false, false] rfl rfl (by kernel_rfl) (fun _ _ _ h => h) (Or.inl ⟨by rfl, ?_⟩) ?_ ?_
        rotate_left
        · intro w'
          go_simp
          with_reducible rfl
        rotate_left
        · simp only [Act.put, List.setIfInBounds_toArray, List.set_cons_zero, List.set_cons_succ, i64_w, i32_w]
          rfl
        refine pure_ (i := 17) (N := some 54) (v := ?_) (a' := ?_) #[true, true, true, true, true, true, true, true, true, true, true, true, true, true, false, false, false, true, false, false, false] rfl rfl (by kernel_rfl) (fun _ _ _ h => h) (Or.inl ⟨by rfl, ?_⟩) ?_ ?_
        rotate_left
        · intro w'
          go_simp
          with_reducible rfl
        rotate_left
        · simp only [Act.put, List.setIfInBounds_toArray, List.set_cons_zero, List.set_cons_succ, i64_w, i32_w]
          rfl
        refine take_ (i := 14) (N := some 51) (v := ?_) (a' := ?_) #[true, true, true, true, true, true, true, true, true, true, true, true, true, true, true, false, false, true, false, false, false] rfl rfl (by kernel_rfl) (fun _ _ _ h => h) (Or.inl ⟨by rfl, ?_⟩) hHeld ?_ ?_
        rotate_left
        · rintro w' ⟨s0, s1, s2, s3, s4, s5, s6, s7, s8, s9, s10, s11, s12, s13, s14, s15, s16, s17, s18, s19⟩
          go_simp
          with_reducible rfl
        rotate_left
        · simp only [Act.put, List.setIfInBounds_toArray, List.set_cons_zero, List.set_cons_succ, i64_w, i32_w]
          rfl
        refine take_ (i := 16) (N := some 53) (v := ?_) (a' := ?_) #[true, true, true, true, true, true, true, true, true, true, true, true, true, true, true, false, true, true, false, false, false] rfl rfl (by kernel_rfl) (fun _ _ _ h => h) (Or.inl ⟨by rfl, ?_⟩) hHeld ?_ ?_
        rotate_left
        · rintro w' ⟨s0, s1, s2, s3, s4, s5, s6, s7, s8, s9, s10, s11, s12, s13, s14, s15, s16, s17, s18, s19⟩
          go_simp
          with_reducible rfl
        rotate_left
        · simp only [Act.put, List.setIfInBounds_toArray, List.set_cons_zero, List.set_cons_succ, i64_w, i32_w]
          rfl
        refine one_ (i := 15) (N := some 52) #[true, true, true, true, true, true, true, true, true, true, true, true, true, true, true, true, true, true, false, false, false] rfl rfl (by kernel_rfl) (by decide) (fun K hK => ?_)
        refine goes_ Tryz.func17 (by kernel_rfl) rfl #[.agg #[.string x.f0.f0, .string x.f0.f1, .string x.f0.f2, .string x.f0.f3, .slice r.A4 x.f0.f4.length r.c4, .slice r.A5 x.f0.f5.length r.c5, .int .i64 x.f1.f0, .slice r.A7 x.f1.f1.length r.c7, .slice r.A8 x.f1.f2.length r.c8, .int .i64 x.f2, .int .i64 x.f3]] (by rfl) rfl rfl (by simp only [List.map_toArray, List.map_cons, List.map_nil]; rfl) ?_
        with_reducible refine (theirs_q _ x r).mono ?_
        rintro e wt ⟨rfl, hbt⟩
        refine ⟨_, rfl, ?_⟩
        have HBt : Hid (Below W4.heap.size W4 wt) := Lib.hid (below_step (below_drew (Below.refl _ _)) hbt)
        refine hK.out _ _ ⟨c_of (blk_bel HBt.out HX4.out) 0 (v := .string x.f0.f0) rfl, c_of (blk_bel HBt.out HX4.out) 1 (v := .string x.f0.f1) rfl, c_of (blk_bel HBt.out HX4.out) 2 (v := .string x.f0.f2) rfl, c_of (blk_bel HBt.out HX4.out) 3 (v := .string x.f0.f3) rfl, c_of (blk_bel HBt.out HX4.out) 4 (v := .slice r.A4 x.f0.f4.length r.c4) rfl, c_of (blk_bel HBt.out HX4.out) 5 (v := .slice r.A5 x.f0.f5.length r.c5) rfl, c_of (blk_bel HBt.out HX4.out) 6 (v := .int .i64 x.f1.f0) rfl, c_of (blk_bel HBt.out HX4.out) 7 (v := .slice r.A7 x.f1.f1.length r.c7) rfl, c_of (blk_bel HBt.out HX4.out) 8 (v := .slice r.A8 x.f1.f2.length r.c8) rfl, c_of (blk_bel HBt.out HX4.out) 9 (v := .int .i64 x.f2) rfl, c_of (blk_bel HBt.out HX4.out) 10 (v := .int .i64 x.f3) rfl, c_of (blk_bel HBt.out HQ4.out) 0 (v := .string q.f0) rfl, c_of (blk_bel HBt.out HQ4.out) 1 (v := .string q.f1) rfl, c_of (blk_bel HBt.out HQ4.out) 2 (v := .string q.f2) rfl, c_of (blk_bel HBt.out HQ4.out) 3 (v := .string q.f3) rfl, c_of (blk_bel HBt.out HQ4.out) 4 (v := .slice A4 q.f4.length c4) rfl, c_of (blk_bel HBt.out HQ4.out) 5 (v := .slice A5 q.f5.length c5) rfl, c_of (blk_bel HBt.out HC4.out) 1 (v := .bool (C.fl 1)) rfl, c_of (blk_bel HBt.out HR4.out) 0 (v := .bool (R.fl 0)) rfl, c_of (blk_bel HBt.out HR4.out) 1 (v := .bool (R.fl 1)) rfl⟩ (fun hHeld => ?_)
        clear hK K
        refine norm_ (a' := ?_) ?_ ?_
        rotate_left
        · show Act.put _ (some 52) _ = _
          simp only [Act.put, List.setIfInBounds_toArray, List.set_cons_zero, List.set_cons_succ, i64_w, i32_w]
          rfl
        refine one_ (i := 18) (N := some 55) #[true, true, true, true, true, true, true, true, true, true, true, true, true, true, true, true, true, true, true, false, false] rfl rfl (by kernel_rfl) (by decide) (fun K hK => ?_)
        refine goes_ Tryz.func24 (by kernel_rfl) rfl #[.agg #[.string x.f0.f0, .string x.f0.f1, .string x.f0.f2, .string x.f0.f3, .slice r.A4 x.f0.f4.length r.c4, .slice r.A5 x.f0.f5.length r.c5, .int .i64 x.f1.f0, .slice r.A7 x.f1.f1.length r.c7, .slice r.A8 x.f1.f2.length r.c8, .int .i64 x.f2, .int .i64 x.f3], .agg #[.string q.f0, .string q.f1, .string q.f2, .string q.f3, .slice A4 q.f4.length c4, .slice A5 q.f5.length c5], .int .i64 now] (by rfl) rfl rfl (by simp only [List.map_toArray, List.map_cons, List.map_nil]; rfl) ?_
        with_reducible refine (HER.out _ (below_step HB4.out HBt.out)).mono ?_
        rintro e we ⟨rfl, hbe⟩
        refine ⟨_, rfl, ?_⟩
        have HBe : Hid (Below W4.heap.size W4 we) := Lib.hid (below_step HBt.out hbe)
        refine hK.out _ _ ⟨c_of (blk_bel HBe.out HX4.out) 0 (v := .string x.f0.f0) rfl, c_of (blk_bel HBe.out HX4.out) 1 (v := .string x.f0.f1) rfl, c_of (blk_bel HBe.out HX4.out) 2 (v := .string x.f0.f2) rfl, c_of (blk_bel HBe.out HX4.out) 3 (v := .string x.f0.f3) rfl, c_of (blk_bel HBe.out HX4.out) 4 (v := .slice r.A4 x.f0.f4.length r.c4) rfl, c_of (blk_bel HBe.out HX4.out) 5 (v := .slice r.A5 x.f0.f5.length r.c5) rfl, c_of (blk_bel HBe.out HX4.out) 6 (v := .int .i64 x.f1.f0) rfl, c_of (blk_bel HBe.out HX4.out) 7 (v := .slice r.A7 x.f1.f1.length r.c7) rfl, c_of (blk_bel HBe.out HX4.out) 8 (v := .slice r.A8 x.f1.f2.length r.c8) rfl, c_of (blk_bel HBe.out HX4.out) 9 (v := .int .i64 x.f2) rfl, c_of (blk_bel HBe.out HX4.out) 10 (v := .int .i64 x.f3) rfl, c_of (blk_bel HBe.out HQ4.out) 0 (v := .string q.f0) rfl, c_of (blk_bel HBe.out HQ4.out) 1 (v := .string q.f1) rfl, c_of (blk_bel HBe.out HQ4.out) 2 (v := .string q.f2) rfl, c_of (blk_bel HBe.out HQ4.out) 3 (v := .string q.f3) rfl, c_of (blk_bel HBe.out HQ4.out) 4 (v := .slice A4 q.f4.length c4) rfl, c_of (blk_bel HBe.out HQ4.out) 5 (v := .slice A5 q.f5.length c5) rfl, c_of (blk_bel HBe.out HC4.out) 1 (v := .bool (C.fl 1)) rfl, c_of (blk_bel HBe.out HR4.out) 0 (v := .bool (R.fl 0)) rfl, c_of (blk_bel HBe.out HR4.out) 1 (v := .bool (R.fl 1)) rfl⟩ (fun hHeld => ?_)
        clear hK K
        refine norm_ (a' := ?_) ?_ ?_
        rotate_left
        · show Act.put _ (some 55) _ = _
          simp only [Act.put, List.setIfInBounds_toArray, List.set_cons_zero, List.set_cons_succ, i64_w, i32_w]
          rfl
        refine pure_ (i := 19) (N := some 56) (v := ?_) (a' := ?_) #[true, true, true, true, true, true, true, true, true, true, true, true, true, true, true, true, true, true, true, true, false] rfl rfl (by kernel_rfl) (fun _ _ _ h => h) (Or.inl ⟨by rfl, ?_⟩) ?_ ?_
        rotate_left
        · intro w'
          go_simp
          with_reducible rfl
        rotate_left
        · simp only [Act.put, List.setIfInBounds_toArray, List.set_cons_zero, List.set_cons_succ, i64_w, i32_w]
          rfl
        refine pure_ (i := 20) (N := some 57) (v := ?_) (a' := ?_) #[true, true, true, true, true, true, true, true, true, true, true, true, true, true, true, true, true, true, true, true, true] rfl rfl (by kernel_rfl) (fun _ _ _ h => h) (Or.inl ⟨by rfl, ?_⟩) ?_ ?_
        rotate_left
        · intro w'
          go_simp
          with_reducible rfl
        rotate_left
        · simp only [Act.put, List.setIfInBounds_toArray, List.set_cons_zero, List.set_cons_succ, i64_w, i32_w]
          rfl
        refine done_ (by kernel_rfl) ?_
        have HBz := Lib.hid HBe.out
        go_wp2
        go_meet
        case rel => exact ⟨by first | rfl | (simp [*]; done), HBz⟩
      | false =>
        cases f0 : R.fl 0 with
        | true =>
          have hl5 := HLAW.out.1 (.inr (.inr f0))
          have w0 : (v != 0) = false := by rw [hl5.1]; rfl
          have HVZ := Lib.hid hl5.1
          have w1 := hl5.2
          subst w1
          clear hl5
          refine start_ (n := 21) (S := fun w' => w'.cell? ⟨w.heap.size, 0, none⟩ = some (.string x.f0.f0) ∧ w'.cell? ⟨w.heap.size, 1, none⟩ = some (.string x.f0.f1) ∧ w'.cell? ⟨w.heap.size, 2, none⟩ = some (.string x.f0.f2) ∧ w'.cell? ⟨w.heap.size, 3, none⟩ = some (.string x.f0.f3) ∧ w'.cell? ⟨w.heap.size, 4, none⟩ = some (.slice r.A4 x.f0.f4.length r.c4) ∧ w'.cell? ⟨w.heap.size, 5, none⟩ = some (.slice r.A5 x.f0.f5.length r.c5) ∧ w'.cell? ⟨w.heap.size, 6, none⟩ = some (.int .i64 x.f1.f0) ∧ w'.cell? ⟨w.heap.size, 7, none⟩ = some (.slice r.A7 x.f1.f1.length r.c7) ∧ w'.cell? ⟨w.heap.size, 8, none⟩ = some (.slice r.A8 x.f1.f2.length r.c8) ∧ w'.cell? ⟨w.heap.size, 9, none⟩ = some (.int .i64 x.f2) ∧ w'.cell? ⟨w.heap.size, 10, none⟩ = some (.int .i64 x.f3) ∧ w'.cell? ⟨w.heap.size + 1, 0, none⟩ = some (.string q.f0) ∧ w'.cell? ⟨w.heap.size + 1, 1, none⟩ = some (.string q.f1) ∧ w'.cell? ⟨w.heap.size + 1, 2, none⟩ = some (.string q.f2) ∧ w'.cell? ⟨w.heap.size + 1, 3, none⟩ = some (.string q.f3) ∧ w'.cell? ⟨w.heap.size + 1, 4, none⟩ = some (.slice A4 q.f4.length c4) ∧ w'.cell? ⟨w.heap.size + 1, 5, none⟩ = some (.slice A5 q.f5.length c5) ∧ w'.cell? ⟨a_, 1, none⟩ = some (.bool (C.fl 1)) ∧ w'.cell? ⟨b_, 0, none⟩ = some (.bool (R.fl 0)) ∧ w'.cell? ⟨b_, 1, none⟩ = some (.bool (R.fl 1))) (ds := []) #[false, false, false, false, false, false, false, false, false, false, false, false, false, false, false, false, false, false, false, false, false] (by kernel_rfl) rfl rfl ⟨c_of (blk_bel (below_drew (Below.refl _ _)) HX4.out) 0 (v := .string x.f0.f0) rfl, c_of (blk_bel (below_drew (Below.refl _ _)) HX4.out) 1 (v := .string x.f0.f1) rfl, c_of (blk_bel (below_drew (Below.refl _ _)) HX4.out) 2 (v := .string x.f0.f2) rfl, c_of (blk_bel (below_drew (Below.refl _ _)) HX4.out) 3 (v := .string x.f0.f3) rfl, c_of (blk_bel (below_drew (Below.refl _ _)) HX4.out) 4 (v := .slice r.A4 x.f0.f4.length r.c4) rfl, c_of (blk_bel (below_drew (Below.refl _ _)) HX4.out) 5 (v := .slice r.A5 x.f0.f5.length r.c5) rfl, c_of (blk_bel (below_drew (Below.refl _ _)) HX4.out) 6 (v := .int .i64 x.f1.f0) rfl, c_of (blk_bel (below_drew (Below.refl _ _)) HX4.out) 7 (v := .slice r.A7 x.f1.f1.length r.c7) rfl, c_of (blk_bel (below_drew (Below.refl _ _)) HX4.out) 8 (v := .slice r.A8 x.f1.f2.length r.c8) rfl, c_of (blk_bel (below_drew (Below.refl _ _)) HX4.out) 9 (v := .int .i64 x.f2) rfl, c_of (blk_bel (below_drew (Below.refl _ _)) HX4.out) 10 (v := .int .i64 x.f3) rfl, c_of (blk_bel (below_drew (Below.refl _ _)) HQ4.out) 0 (v := .string q.f0) rfl, c_of (blk_bel (below_drew (Below.refl _ _)) HQ4.out) 1 (v := .string q.f1) rfl, c_of (blk_bel (below_drew (Below.refl _ _)) HQ4.out) 2 (v := .string q.f2) rfl, c_of (blk_bel (below_drew (Below.refl _ _)) HQ4.out) 3 (v := .string q.f3) rfl, c_of (blk_bel (below_drew (Below.refl _ _)) HQ4.out) 4 (v := .slice A4 q.f4.length c4) rfl, c_of (blk_bel (below_drew (Below.refl _ _)) HQ4.out) 5 (v := .slice A5 q.f5.length c5) rfl, c_of (blk_bel (below_drew (Below.refl _ _)) HC4.out) 1 (v := .bool (C.fl 1)) rfl, c_of (blk_bel (below_drew (Below.refl _ _)) HR4.out) 0 (v := .bool (R.fl 0)) rfl, c_of (blk_bel (below_drew (Below.refl _ _)) HR4.out) 1 (v := .bool (R.fl 1)) rfl⟩ (fun hHeld => ?_)
          refine pure_ (i := 0) (N := some 37) (v := ?_) (a' := ?_) #[true, false, false, false, false, false, false, false, false, false, false, false, false, false, false, false, false, false, false, false, false] rfl rfl (by kernel_rfl) (fun _ _ _ h => h) (Or.inl ⟨by rfl, ?_⟩) ?_ ?_
          rotate_left
          · intro w'
            go_simp
            with_reducible rfl
          rotate_left
          · simp only [Act.put, List.setIfInBounds_toArray, List.set_cons_zero, List.set_cons_succ, i64_w, i32_w]
            rfl
          refine take_ (i := 1) (N := some 38) (v := ?_) (a' := ?_) #[true, true, false, false, false, false, false, false, false, false, false, false, false, false, false, false, false, false, false, false, false] rfl rfl (by kernel_rfl) (fun _ _ _ h => h) (Or.inl ⟨by rfl, ?_⟩) hHeld ?_ ?_
          rotate_left
          · rintro w' ⟨s0, s1, s2, s3, s4, s5, s6, s7, s8, s9, s10, s11, s12, s13, s14, s15, s16, s17, s18, s19⟩
            go_simp
            with_reducible rfl
          rotate_left
          · simp only [Act.put, List.setIfInBounds_toArray, List.set_cons_zero, List.set_cons_succ, i64_w, i32_w]
            rfl
          refine pure_ (i := 2) (N := some 39) (v := ?_) (a' := ?_) #[true, true, true, false, false, false, false, false, false, false, false, false, false, false, false, false, false, false, false, false, false] rfl rfl (by kernel_rfl) (fun _ _ _ h => h) (Or.inl ⟨by rfl, ?_⟩) ?_ ?_
          rotate_left
          · intro w'
            go_simp
            with_reducible rfl
          rotate_left
          · simp only [Act.put, List.setIfInBounds_toArray, List.set_cons_zero, List.set_cons_succ, i64_w, i32_w]
            rfl
          refine pure_ (i := 3) (N := some 40) (v := ?_) (a' := ?_) #[true, true, true, true, false, false, false, false, false, false, false, false, false, false, false, false, false, false, false, false, false] rfl rfl (by kernel_rfl) (fun _ _ _ h => h) (Or.inl ⟨by rfl, ?_⟩) ?_ ?_
          rotate_left
          · intro w'
            go_simp
            with_reducible rfl
          rotate_left
          · simp only [Act.put, List.setIfInBounds_toArray, List.set_cons_zero, List.set_cons_succ, i64_w, i32_w]
            rfl
          refine take_ (i := 4) (N := some 41) (v := ?_) (a' := ?_) #[true, true, true, true, true, false, false, false, false, false, false, false, false, false, false, false, false, false, false, false, false] rfl rfl (by kernel_rfl) (fun _ _ _ h => h) (Or.inl ⟨by rfl, ?_⟩) hHeld ?_ ?_
          rotate_left
          · rintro w' ⟨s0, s1, s2, s3, s4, s5, s6, s7, s8, s9, s10, s11, s12, s13, s14, s15, s16, s17, s18, s19⟩
            go_simp
            with_reducible rfl
          rotate_left
          · simp only [Act.put, List.setIfInBounds_toArray, List.set_cons_zero, List.set_cons_succ, i64_w, i32_w]
            rfl
          refine pure_ (i := 5) (N := some 42) (v := ?_) (a' := ?_) #[true, true, true, true, true, true, false, false, false, false, false, false, false, false, false, false, false, false, false, false, false] rfl rfl (by kernel_rfl) (fun _ _ _ h => h) (Or.inl ⟨by rfl, ?_⟩) ?_ ?_
          rotate_left
          · intro w'
            go_simp
            with_reducible rfl
          rotate_left
          · simp only [Act.put, List.setIfInBounds_toArray, List.set_cons_zero, List.set_cons_succ, i64_w, i32_w]
            rfl
          refine pure_ (i := 6) (N := some 43) (v := ?_) (a' := ?_) #[true, true, true, true, true, true, true, false, false, false, false, false, false, false, false, false, false, false, false, false, false] rfl rfl (by kernel_rfl) (fun _ _ _ h => h) (Or.inl ⟨by rfl, ?_⟩) ?_ ?_
          rotate_left
          · intro w'
            go_simp
            with_reducible rfl
          rotate_left
          · simp only [Act.put, List.setIfInBounds_toArray, List.set_cons_zero, List.set_cons_succ, i64_w, i32_w]
            rfl
          refine pure_ (i := 7) (N := some 44) (v := ?_) (a' := ?_) #[true, true, true, true, true, true, true, true, false, false, false, false, false, false, false, false, false, false, false, false, false] rfl rfl (by kernel_rfl) (fun _ _ _ h => h) (Or.inl ⟨by rfl, ?_⟩) ?_ ?_
          rotate_left
          · intro w'
            go_simp
            with_reducible rfl
          rotate_left
          · simp only [Act.put, List.setIfInBounds_toArray, List.set_cons_zero, List.set_cons_succ, i64_w, i32_w]
            rfl
          refine take_ (i := 8) (N := some 45) (v := ?_) (a' := ?_) #[true, true, true, true, true, true, true, true, true, false, false, false, false, false, false, false, false, false, false, false, false] rfl rfl (by kernel_rfl) (fun _ _ _ h => h) (Or.inl ⟨by rfl, ?_⟩) hHeld ?_ ?_
          rotate_left
          · rintro w' ⟨s0, s1, s2, s3, s4, s5, s6, s7, s8, s9, s10, s11, s12, s13, s14, s15, s16, s17, s18, s19⟩
            go_simp
            with_reducible rfl
          rotate_left
          · simp only [Act.put, List.setIfInBounds_toArray, List.set_cons_zero, List.set_cons_succ, i64_w, i32_w]
            rfl
          refine pure_ (i := 9) (N := some 46) (v := ?_) (a' := ?_) #[true, true, true, true, true, true, true, true, true, true, false, false, false, false, false, false, false, false, false, false, false] rfl rfl (by kernel_rfl) (fun _ _ _ h => h) (Or.inl ⟨by rfl, ?_⟩) ?_ ?_
          rotate_left
          · intro w'
            go_simp
            with_reducible rfl
          rotate_left
          · simp only [Act.put, List.setIfInBounds_toArray, List.set_cons_zero, List.set_cons_succ, i64_w, i32_w]
            rfl
          refine pure_ (i := 10) (N := some 47) (v := ?_) (a' := ?_) #[true, true, true, true, true, true, true, true, true, true, true, false, false, false, false, false, false, false, false, false, false] rfl rfl (by kernel_rfl) (fun _ _ _ h => h) (Or.inl ⟨by rfl, ?_⟩) ?_ ?_
          rotate_left
          · intro w'
            go_simp
            with_reducible rfl
          rotate_left
          · simp only [Act.put, List.setIfInBounds_toArray, List.set_cons_zero, List.set_cons_succ, i64_w, i32_w]
            rfl
          refine pure_ (i := 11) (N := some 48) (v := ?_) (a' := ?_) #[true, true, true, true, true, true, true, true, true, true, true, true, false, false, false, false, false, false, false, false, false] rfl rfl (by kernel_rfl) (fun _ _ _ h => h) (Or.inl ⟨by rfl, ?_⟩) ?_ ?_
          rotate_left
          · intro w'
            go_simp
            with_reducible rfl
          rotate_left
          · simp only [Act.put, List.setIfInBounds_toArray, List.set_cons_zero, List.set_cons_succ, i64_w, i32_w]
            rfl
          refine pure_ (i := 12) (N := some 49) (v := ?_) (a' := ?_) #[true, true, true, true, true, true, true, true, true, true, true, true, true, false, false, false, false, false, false, false, false] rfl rfl (by kernel_rfl) (fun _ _ _ h => h) (Or.inl ⟨by rfl, ?_⟩) ?_ ?_
          rotate_left
          · intro w'
            go_simp
            with_reducible rfl
          rotate_left
          · simp only [Act.put, List.setIfInBounds_toArray, List.set_cons_zero, List.set_cons_succ, i64_w, i32_w]
            rfl
          refine pure_ (i := 13) (N := some 50) (v := ?_) (a' := ?_) #[true, true, true, true, true, true, true, true, true, true, true, true, true, true, false, false, false, false, false, false, false] rfl rfl (by kernel_rfl) (fun _ _ _ h => h) (Or.inl ⟨by rfl, ?_⟩) ?_ ?_
          rotate_left
          · intro w'
            go_simp
            with_reducible rfl
          rotate_left
          · simp only [Act.put, List.setIfInBounds_toArray, List.set_cons_zero, List.set_cons_succ, i64_w, i32_w]
            rfl
          refine pure_ (i := 17) (N := some 54) (v := ?_) (a' := ?_) #[true, true, true, true, true, true, true, true, true, true, true, true, true, true, false, false, false, true, false, false, false] rfl rfl (by kernel_rfl) (fun _ _ _ h => h) (Or.inl ⟨by rfl, ?_⟩) ?_ ?_
          rotate_left
          · intro w'
            go_simp
            with_reducible rfl
          rotate_left
          · simp only [Act.put, List.setIfInBounds_toArray, List.set_cons_zero, List.set_cons_succ, i64_w, i32_w]
            rfl
          refine take_ (i := 14) (N := some 51) (v := ?_) (a' := ?_) #[true, true, true, true, true, true, true, true, true, true, true, true, true, true, true, false, false, true, false, false, false] rfl rfl (by kernel_rfl) (fun _ _ _ h => h) (Or.inl ⟨by rfl, ?_⟩) hHeld ?_ ?_
          rotate_left
          · rintro w' ⟨s0, s1, s2, s3, s4, s5, s6, s7, s8, s9, s10, s11, s12, s13, s14, s15, s16, s17, s18, s19⟩
            go_simp
            with_reducible rfl
          rotate_left
          · simp only [Act.put, List.setIfInBounds_toArray, List.set_cons_zero, List.set_cons_succ, i64_w, i32_w]
            rfl
          refine take_ (i := 16) (N := some 53) (v := ?_) (a' := ?_) #[true, true, true, true, true, true, true, true, true, true, true, true, true, true, true, false, true, true, false, false, false] rfl rfl (by kernel_rfl) (fun _ _ _ h => h) (Or.inl ⟨by rfl, ?_⟩) hHeld ?_ ?_
          rotate_left
          · rintro w' ⟨s0, s1, s2, s3, s4, s5, s6, s7, s8, s9, s10, s11, s12, s13, s14, s15, s16, s17, s18, s19⟩
            go_simp
            with_reducible rfl
          rotate_left
          · simp only [Act.put, List.setIfInBounds_toArray, List.set_cons_zero, List.set_cons_succ, i64_w, i32_w]
            rfl
          refine one_ (i := 15) (N := some 52) #[true, true, true, true, true, true, true, true, true, true, true, true, true, true, true, true, true, true, false, false, false] rfl rfl (by kernel_rfl) (by decide) (fun K hK => ?_)
          refine goes_ Tryz.func17 (by kernel_rfl) rfl #[.agg #[.string x.f0.f0, .string x.f0.f1, .string x.f0.f2, .string x.f0.f3, .slice r.A4 x.f0.f4.length r.c4, .slice r.A5 x.f0.f5.length r.c5, .int .i64 x.f1.f0, .slice r.A7 x.f1.f1.length r.c7, .slice r.A8 x.f1.f2.length r.c8, .int .i64 x.f2, .int .i64 x.f3]] (by rfl) rfl rfl (by simp only [List.map_toArray, List.map_cons, List.map_nil]; rfl) ?_
          with_reducible refine (theirs_q _ x r).mono ?_
          rintro e wt ⟨rfl, hbt⟩
          refine ⟨_, rfl, ?_⟩
          have HBt : Hid (Below W4.heap.size W4 wt) := Lib.hid (below_step (below_drew (Below.refl _ _)) hbt)
          refine hK.out _ _ ⟨c_of (blk_bel HBt.out HX4.out) 0 (v := .string x.f0.f0) rfl, c_of (blk_bel HBt.out HX4.out) 1 (v := .string x.f0.f1) rfl, c_of (blk_bel HBt.out HX4.out) 2 (v := .string x.f0.f2) rfl, c_of (blk_bel HBt.out HX4.out) 3 (v := .string x.f0.f3) rfl, c_of (blk_bel HBt.out HX4.out) 4 (v := .slice r.A4 x.f0.f4.length r.c4) rfl, c_of (blk_bel HBt.out HX4.out) 5 (v := .slice r.A5 x.f0.f5.length r.c5) rfl, c_of (blk_bel HBt.out HX4.out) 6 (v := .int .i64 x.f1.f0) rfl, c_of (blk_bel HBt.out HX4.out) 7 (v := .slice r.A7 x.f1.f1.length r.c7) rfl, c_of (blk_bel HBt.out HX4.out) 8 (v := .slice r.A8 x.f1.f2.length r.c8) rfl, c_of (blk_bel HBt.out HX4.out) 9 (v := .int .i64 x.f2) rfl, c_of (blk_bel HBt.out HX4.out) 10 (v := .int .i64 x.f3) rfl, c_of (blk_bel HBt.out HQ4.out) 0 (v := .string q.f0) rfl, c_of (blk_bel HBt.out HQ4.out) 1 (v := .string q.f1) rfl, c_of (blk_bel HBt.out HQ4.out) 2 (v := .string q.f2) rfl, c_of (blk_bel HBt.out HQ4.out) 3 (v := .string q.f3) rfl, c_of (blk_bel HBt.out HQ4.out) 4 (v := .slice A4 q.f4.length c4) rfl, c_of (blk_bel HBt.out HQ4.out) 5 (v := .slice A5 q.f5.length c5) rfl, c_of (blk_bel HBt.out HC4.out) 1 (v := .bool (C.fl 1)) rfl, c_of (blk_bel HBt.out HR4.out) 0 (v := .bool (R.fl 0)) rfl, c_of (blk_bel HBt.out HR4.out) 1 (v := .bool (R.fl 1)) rfl⟩ (fun hHeld => ?_)
          clear hK K
          refine norm_ (a' := ?_) ?_ ?_
          rotate_left
          · show Act.put _ (some 52) _ = _
            simp only [Act.put, List.setIfInBounds_toArray, List.set_cons_zero, List.set_cons_succ, i64_w, i32_w]
            rfl
          refine one_ (i := 18) (N := some 55) #[true, true, true, true, true, true, true, true, true, true, true, true, true, true, true, true, true, true, true, false, false] rfl rfl (by kernel_rfl) (by decide) (fun K hK => ?_)
          refine goes_ Tryz.func24 (by kernel_rfl) rfl #[.agg #[.string x.f0.f0, .string x.f0.f1, .string x.f0.f2, .string x.f0.f3, .slice r.A4 x.f0.f4.length r.c4, .slice r.A5 x.f0.f5.length r.c5, .int .i64 x.f1.f0, .slice r.A7 x.f1.f1.length r.c7, .slice r.A8 x.f1.f2.length r.c8, .int .i64 x.f2, .int .i64 x.f3], .agg #[.string q.f0, .string q.f1, .string q.f2, .string q.f3, .slice A4 q.f4.length c4, .slice A5 q.f5.length c5], .int .i64 now] (by rfl) rfl rfl (by simp only [List.map_toArray, List.map_cons, List.map_nil]; rfl) ?_
          with_reducible refine (HER.out _ (below_step HB4.out HBt.out)).mono ?_
          rintro e we ⟨rfl, hbe⟩
          refine ⟨_, rfl, ?_⟩
          have HBe : Hid (Below W4.heap.size W4 we) := Lib.hid (below_step HBt.out hbe)
          refine hK.out _ _ ⟨c_of (blk_bel HBe.out HX4.out) 0 (v := .string x.f0.f0) rfl, c_of (blk_bel HBe.out HX4.out) 1 (v := .string x.f0.f1) rfl, c_of (blk_bel HBe.out HX4.out) 2 (v := .string x.f0.f2) rfl, c_of (blk_bel HBe.out HX4.out) 3 (v := .string x.f0.f3) rfl, c_of (blk_bel HBe.out HX4.out) 4 (v := .slice r.A4 x.f0.f4.length r.c4) rfl, c_of (blk_bel HBe.out HX4.out) 5 (v := .slice r.A5 x.f0.f5.length r.c5) rfl, c_of (blk_bel HBe.out HX4.out) 6 (v := .int .i64 x.f1.f0) rfl, c_of (blk_bel HBe.out HX4.out) 7 (v := .slice r.A7 x.f1.f1.length r.c7) rfl, c_of (blk_bel HBe.out HX4.out) 8 (v := .slice r.A8 x.f1.f2.length r.c8) rfl, c_of (blk_bel HBe.out HX4.out) 9 (v := .int .i64 x.f2) rfl, c_of (blk_bel HBe.out HX4.out) 10 (v := .int .i64 x.f3) rfl, c_of (blk_bel HBe.out HQ4.out) 0 (v := .string q.f0) rfl, c_of (blk_bel HBe.out HQ4.out) 1 (v := .string q.f1) rfl, c_of (blk_bel HBe.out HQ4.out) 2 (v := .string q.f2) rfl, c_of (blk_bel HBe.out HQ4.out) 3 (v := .string q.f3) rfl, c_of (blk_bel HBe.out HQ4.out) 4 (v := .slice A4 q.f4.length c4) rfl, c_of (blk_bel HBe.out HQ4.out) 5 (v := .slice A5 q.f5.length c5) rfl, c_of (blk_bel HBe.out HC4.out) 1 (v := .bool (C.fl 1)) rfl, c_of (blk_bel HBe.out HR4.out) 0 (v := .bool (R.fl 0)) rfl, c_of (blk_bel HBe.out HR4.out) 1 (v := .bool (R.fl 1)) rfl⟩ (fun hHeld => ?_)
          clear hK K
          refine norm_ (a' := ?_) ?_ ?_
          rotate_left
          · show Act.put _ (some 55) _ = _
            simp only [Act.put, List.setIfInBounds_toArray, List.set_cons_zero, List.set_cons_succ, i64_w, i32_w]
            rfl
          refine pure_ (i := 19) (N := some 56) (v := ?_) (a' := ?_) #[true, true, true, true, true, true, true, true, true, true, true, true, true, true, true, true, true, true, true, true, false] rfl rfl (by kernel_rfl) (fun _ _ _ h => h) (Or.inl ⟨by rfl, ?_⟩) ?_ ?_
          rotate_left
          · intro w'
            go_simp
            with_reducible rfl
          rotate_left
          · simp only [Act.put, List.setIfInBounds_toArray, List.set_cons_zero, List.set_cons_succ, i64_w, i32_w]
            rfl
          refine pure_ (i := 20) (N := some 57) (v := ?_) (a' := ?_) #[true, true, true, true, true, true, true, true, true, true, true, true, true, true, true, true, true, true, true, true, true] rfl rfl (by kernel_rfl) (fun _ _ _ h => h) (Or.inl ⟨by rfl, ?_⟩) ?_ ?_
          rotate_left
          · intro w'
            go_simp
            with_reducible rfl
          rotate_left
          · simp only [Act.put, List.setIfInBounds_toArray, List.set_cons_zero, List.set_cons_succ, i64_w, i32_w]
            rfl
          refine done_ (by kernel_rfl) ?_
          have HBz := Lib.hid HBe.out
          go_wp2
          go_meet
          case rel => exact ⟨by first | rfl | (simp [*]; done), HBz⟩
        | false =>
          refine start_ (n := 21) (S := fun w' => w'.cell? ⟨a_, 1, none⟩ = some (.bool (C.fl 1)) ∧ w'.cell? ⟨b_, 0, none⟩ = some (.bool (R.fl 0)) ∧ w'.cell? ⟨b_, 1, none⟩ = some (.bool (R.fl 1))) (ds := []) #[false, false, false, false, false, false, false, false, false, false, false, false, false, false, false, false, false, false, false, false, false] (by kernel_rfl) rfl rfl ⟨c_of (blk_bel (below_drew (Below.refl _ _)) HC4.out) 1 (v := .bool (C.fl 1)) rfl, c_of (blk_bel (below_drew (Below.refl _ _)) HR4.out) 0 (v := .bool (R.fl 0)) rfl, c_of (blk_bel (below_drew (Below.refl _ _)) HR4.out) 1 (v := .bool (R.fl 1)) rfl⟩ (fun hHeld => ?_)
          refine pure_ (i := 0) (N := some 37) (v := ?_) (a' := ?_) #[true, false, false, false, false, false, false, false, false, false, false, false, false, false, false, false, false, false, false, false, false] rfl rfl (by kernel_rfl) (fun _ _ _ h => h) (Or.inl ⟨by rfl, ?_⟩) ?_ ?_
          rotate_left
          · intro w'
            go_simp
            with_reducible rfl
          rotate_left
          · simp only [Act.put, List.setIfInBounds_toArray, List.set_cons_zero, List.set_cons_succ, i64_w, i32_w]
            rfl
          refine take_ (i := 1) (N := some 38) (v := ?_) (a' := ?_) #[true, true, false, false, false, false, false, false, false, false, false, false, false, false, false, false, false, false, false, false, false] rfl rfl (by kernel_rfl) (fun _ _ _ h => h) (Or.inl ⟨by rfl, ?_⟩) hHeld ?_ ?_
          rotate_left
          · rintro w' ⟨s0, s1, s2⟩
            go_simp
            with_reducible rfl
          rotate_left
          · simp only [Act.put, List.setIfInBounds_toArray, List.set_cons_zero, List.set_cons_succ, i64_w, i32_w]
            rfl
          refine pure_ (i := 2) (N := some 39) (v := ?_) (a' := ?_) #[true, true, true, false, false, false, false, false, false, false, false, false, false, false, false, false, false, false, false, false, false] rfl rfl (by kernel_rfl) (fun _ _ _ h => h) (Or.inl ⟨by rfl, ?_⟩) ?_ ?_
          rotate_left
          · intro w'
            go_simp
            with_reducible rfl
          rotate_left
          · simp only [Act.put, List.setIfInBounds_toArray, List.set_cons_zero, List.set_cons_succ, i64_w, i32_w]
            rfl
          refine pure_ (i := 3) (N := some 40) (v := ?_) (a' := ?_) #[true, true, true, true, false, false, false, false, false, false, false, false, false, false, false, false, false, false, false, false, false] rfl rfl (by kernel_rfl) (fun _ _ _ h => h) (Or.inl ⟨by rfl, ?_⟩) ?_ ?_
          rotate_left
          · intro w'
            go_simp
            with_reducible rfl
          rotate_left
          · simp only [Act.put, List.setIfInBounds_toArray, List.set_cons_zero, List.set_cons_succ, i64_w, i32_w]
            rfl
          refine take_ (i := 4) (N := some 41) (v := ?_) (a' := ?_) #[true, true, true, true, true, false, false, false, false, false, false, false, false, false, false, false, false, false, false, false, false] rfl rfl (by kernel_rfl) (fun _ _ _ h => h) (Or.inl ⟨by rfl, ?_⟩) hHeld ?_ ?_
          rotate_left
          · rintro w' ⟨s0, s1, s2⟩
            go_simp
            with_reducible rfl
          rotate_left
          · simp only [Act.put, List.setIfInBounds_toArray, List.set_cons_zero, List.set_cons_succ, i64_w, i32_w]
            rfl
          refine pure_ (i := 5) (N := some 42) (v := ?_) (a' := ?_) #[true, true, true, true, true, true, false, false, false, false, false, false, false, false, false, false, false, false, false, false, false] rfl rfl (by kernel_rfl) (fun _ _ _ h => h) (Or.inl ⟨by rfl, ?_⟩) ?_ ?_
          rotate_left
          · intro w'
            go_simp
            with_reducible rfl
          rotate_left
          · simp only [Act.put, List.setIfInBounds_toArray, List.set_cons_zero, List.set_cons_succ, i64_w, i32_w]
            rfl
          refine pure_ (i := 6) (N := some 43) (v := ?_) (a' := ?_) #[true, true, true, true, true, true, true, false, false, false, false, false, false, false, false, false, false, false, false, false, false] rfl rfl (by kernel_rfl) (fun _ _ _ h => h) (Or.inl ⟨by rfl, ?_⟩) ?_ ?_
          rotate_left
          · intro w'
            go_simp
            with_reducible rfl
          rotate_left
          · simp only [Act.put, List.setIfInBounds_toArray, List.set_cons_zero, List.set_cons_succ, i64_w, i32_w]
            rfl
          refine pure_ (i := 7) (N := some 44) (v := ?_) (a' := ?_) #[true, true, true, true, true, true, true, true, false, false, false, false, false, false, false, false, false, false, false, false, false] rfl rfl (by kernel_rfl) (fun _ _ _ h => h) (Or.inl ⟨by rfl, ?_⟩) ?_ ?_
          rotate_left
          · intro w'
            go_simp
            with_reducible rfl
          rotate_left
          · simp only [Act.put, List.setIfInBounds_toArray, List.set_cons_zero, List.set_cons_succ, i64_w, i32_w]
            rfl
          refine take_ (i := 8) (N := some 45) (v := ?_) (a' := ?_) #[true, true, true, true, true, true, true, true, true, false, false, false, false, false, false, false, false, false, false, false, false] rfl rfl (by kernel_rfl) (fun _ _ _ h => h) (Or.inl ⟨by rfl, ?_⟩) hHeld ?_ ?_
          rotate_left
          · rintro w' ⟨s0, s1, s2⟩
            go_simp
            with_reducible rfl
          rotate_left
          · simp only [Act.put, List.setIfInBounds_toArray, List.set_cons_zero, List.set_cons_succ, i64_w, i32_w]
            rfl
          refine pure_ (i := 9) (N := some 46) (v := ?_) (a' := ?_) #[true, true, true, true, true, true, true, true, true, true, false, false, false, false, false, false, false, false, false, false, false] rfl rfl (by kernel_rfl) (fun _ _ _ h => h) (Or.inl ⟨by rfl, ?_⟩) ?_ ?_
          rotate_left
          · intro w'
            go_simp
            with_reducible rfl
          rotate_left
          · simp only [Act.put, List.setIfInBounds_toArray, List.set_cons_zero, List.set_cons_succ, i64_w, i32_w]
            rfl
          refine pure_ (i := 10) (N := some 47) (v := ?_) (a' := ?_) #[true, true, true, true, true, true, true, true, true, true, true, false, false, false, false, false, false, false, false, false, false] rfl rfl (by kernel_rfl) (fun _ _ _ h => h) (Or.inl ⟨by rfl, ?_⟩) ?_ ?_
          rotate_left
          · intro w'
            go_simp
            with_reducible rfl
          rotate_left
          · simp only [Act.put, List.setIfInBounds_toArray, List.set_cons_zero, List.set_cons_succ, i64_w, i32_w]
            rfl
          refine pure_ (i := 11) (N := some 48) (v := undef) (a' := ?_) #[true, true, true, true, true, true, true, true, true, true, true, true, false, false, false, false, false, false, false, false, false] rfl rfl (by kernel_rfl) (fun _ _ _ h => h) (Or.inr ⟨by rfl, rfl⟩) ?_ ?_
          rotate_left
          · simp only [Act.put, List.setIfInBounds_toArray, List.set_cons_zero, List.set_cons_succ, i64_w, i32_w]
            rfl
          refine pure_ (i := 12) (N := some 49) (v := undef) (a' := ?_) #[true, true, true, true, true, true, true, true, true, true, true, true, true, false, false, false, false, false, false, false, false] rfl rfl (by kernel_rfl) (fun _ _ _ h => h) (Or.inr ⟨by rfl, rfl⟩) ?_ ?_
          rotate_left
          · simp only [Act.put, List.setIfInBounds_toArray, List.set_cons_zero, List.set_cons_succ, i64_w, i32_w]
            rfl
          refine pure_ (i := 13) (N := some 50) (v := undef) (a' := ?_) #[true, true, true, true, true, true, true, true, true, true, true, true, true, true, false, false, false, false, false, false, false] rfl rfl (by kernel_rfl) (fun _ _ _ h => h) (Or.inr ⟨by rfl, rfl⟩) ?_ ?_
          rotate_left
          · simp only [Act.put, List.setIfInBounds_toArray, List.set_cons_zero, List.set_cons_succ, i64_w, i32_w]
            rfl
          refine pure_ (i := 14) (N := some 51) (v := undef) (a' := ?_) #[true, true, true, true, true, true, true, true, true, true, true, true, true, true, true, false, false, false, false, false, false] rfl rfl (by kernel_rfl) (fun _ _ _ h => h) (Or.inr ⟨by rfl, rfl⟩) ?_ ?_
          rotate_left
          · simp only [Act.put, List.setIfInBounds_toArray, List.set_cons_zero, List.set_cons_succ, i64_w, i32_w]
            rfl
          refine pure_ (i := 15) (N := some 52) (v := undef) (a' := ?_) #[true, true, true, true, true, true, true, true, true, true, true, true, true, true, true, true, false, false, false, false, false] rfl rfl (by kernel_rfl) (fun _ _ _ h => h) (Or.inr ⟨by rfl, rfl⟩) ?_ ?_
          rotate_left
          · simp only [Act.put, List.setIfInBounds_toArray, List.set_cons_zero, List.set_cons_succ, i64_w, i32_w]
            rfl
          refine pure_ (i := 16) (N := some 53) (v := undef) (a' := ?_) #[true, true, true, true, true, true, true, true, true, true, true, true, true, true, true, true, true, false, false, false, false] rfl rfl (by kernel_rfl) (fun _ _ _ h => h) (Or.inr ⟨by rfl, rfl⟩) ?_ ?_
          rotate_left
          · simp only [Act.put, List.setIfInBounds_toArray, List.set_cons_zero, List.set_cons_succ, i64_w, i32_w]
            rfl
          refine pure_ (i := 17) (N := some 54) (v := undef) (a' := ?_) #[true, true, true, true, true, true, true, true, true, true, true, true, true, true, true, true, true, true, false, false, false] rfl rfl (by kernel_rfl) (fun _ _ _ h => h) (Or.inr ⟨by rfl, rfl⟩) ?_ ?_
          rotate_left
          · simp only [Act.put, List.setIfInBounds_toArray, List.set_cons_zero, List.set_cons_succ, i64_w, i32_w]
            rfl
          refine pure_ (i := 18) (N := some 55) (v := undef) (a' := ?_) #[true, true, true, true, true, true, true, true, true, true, true, true, true, true, true, true, true, true, true, false, false] rfl rfl (by kernel_rfl) (fun _ _ _ h => h) (Or.inr ⟨by rfl, rfl⟩) ?_ ?_
          rotate_left
          · simp only [Act.put, List.setIfInBounds_toArray, List.set_cons_zero, List.set_cons_succ, i64_w, i32_w]
            rfl
          refine pure_ (i := 19) (N := some 56) (v := undef) (a' := ?_) #[true, true, true, true, true, true, true, true, true, true, true, true, true, true, true, true, true, true, true, true, false] rfl rfl (by kernel_rfl) (fun _ _ _ h => h) (Or.inr ⟨by rfl, rfl⟩) ?_ ?_
          rotate_left
          · simp only [Act.put, List.setIfInBounds_toArray, List.set_cons_zero, List.set_cons_succ, i64_w, i32_w]
            rfl
          refine pure_ (i := 20) (N := some 57) (v := ?_) (a' := ?_) #[true, true, true, true, true, true, true, true, true, true, true, true, true, true, true, true, true, true, true, true, true] rfl rfl (by kernel_rfl) (fun _ _ _ h => h) (Or.inl ⟨by rfl, ?_⟩) ?_ ?_
          rotate_left
          · intro w'
            go_simp
            with_reducible rfl
          rotate_left
          · simp only [Act.put, List.setIfInBounds_toArray, List.set_cons_zero, List.set_cons_succ, i64_w, i32_w]
            rfl
          refine done_ (by kernel_rfl) ?_
          have HBz : Hid (Below W4.heap.size W4 W4.drew) := Lib.hid (below_drew (Below.refl _ _))
          go_wp2
          go_meet
          case rel => exact ⟨by first | rfl | (simp [*]; done), HBz⟩
  case rest =>
    obtain ⟨rfl, HB46⟩ := hcut
    rename World => Wq
    obtain ⟨W6, hW6⟩ : ∃ W, W = Wq := ⟨_, rfl⟩
    rw [← hW6] at HB46 ⊢
    clear hW6
    have HB6 := Lib.hid (below_step HB4.out HB46.out)
    have HX6 := Lib.hid (blk_bel HB46.out HX4.out)
    have HQ6 := Lib.hid (blk_bel HB46.out HQ4.out)
    have HC6 := Lib.hid (blk_bel HB46.out HC4.out)
    have HR6 := Lib.hid (blk_bel HB46.out HR4.out)
    go_upto_region 7 with fail
    cases sl with
    | false =>
      refine start_ (n := 28) (S := fun w' => w'.cell? ⟨a_, 2, none⟩ = some (.bool (C.fl 2)) ∧ w'.cell? ⟨a_, 7, none⟩ = some (.int .i64 (C.nm 7))) (ds := []) #[false, false, false, false, false, false, false, false, false, false, false, false, false, false, false, false, false, false, false, false, false, false, false, false, false, false, false, false] (by kernel_rfl) rfl rfl ⟨c_of (blk_bel (below_drew (Below.refl _ _)) HC6.out) 2 (v := .bool (C.fl 2)) rfl, c_of (blk_bel (below_drew (Below.refl _ _)) HC6.out) 7 (v := .int .i64 (C.nm 7)) rfl⟩ (fun hHeld => ?_)
      refine pure_ (i := 0) (N := some 58) (v := ?_) (a' := ?_) #[true, false, false, false, false, false, false, false, false, false, false, false, false, false, false, false, false, false, false, false, false, false, false, false, false, false, false, false] rfl rfl (by kernel_rfl) (fun _ _ _ h => h) (Or.inl ⟨by rfl, ?_⟩) ?_ ?_
      rotate_left
      · intro w'
        go_simp
        with_reducible rfl
      rotate_left
      · simp only [Act.put, List.setIfInBounds_toArray, List.set_cons_zero, List.set_cons_succ, i64_w, i32_w]
        rfl
      refine pure_ (i := 1) (N := some 59) (v := ?_) (a' := ?_) #[true, true, false, false, false, false, false, false, false, false, false, false, false, false, false, false, false, false, false, false, false, false, false, false, false, false, false, false] rfl rfl (by kernel_rfl) (fun _ _ _ h => h) (Or.inl ⟨by rfl, ?_⟩) ?_ ?_
      rotate_left
      · intro w'
        go_simp
        with_reducible rfl
      rotate_left
      · simp only [Act.put, List.setIfInBounds_toArray, List.set_cons_zero, List.set_cons_succ, i64_w, i32_w]
        rfl
      refine pure_ (i := 2) (N := some 60) (v := ?_) (a' := ?_) #[true, true, true, false, false, false, false, false, false, false, false, false, false, false, false, false, false, false, false, false, false, false, false, false, false, false, false, false] rfl rfl (by kernel_rfl) (fun _ _ _ h => h) (Or.inl ⟨by rfl, ?_⟩) ?_ ?_
      rotate_left
      · intro w'
        go_simp
        with_reducible rfl
      rotate_left
      · simp only [Act.put, List.setIfInBounds_toArray, List.set_cons_zero, List.set_cons_succ, i64_w, i32_w]
        rfl
      refine pure_ (i := 3) (N := some 61) (v := undef) (a' := ?_) #[true, true, true, true, false, false, false, false, false, false, false, false, false, false, false, false, false, false, false, false, false, false, false, false, false, false, false, false] rfl rfl (by kernel_rfl) (fun _ _ _ h => h) (Or.inr ⟨by rfl, rfl⟩) ?_ ?_
      rotate_left
      · simp only [Act.put, List.setIfInBounds_toArray, List.set_cons_zero, List.set_cons_succ, i64_w, i32_w]
        rfl
      refine pure_ (i := 4) (N := some 62) (v := undef) (a' := ?_) #[true, true, true, true, true, false, false, false, false, false, false, false, false, false, false, false, false, false, false, false, false, false, false, false, false, false, false, false] rfl rfl (by kernel_rfl) (fun _ _ _ h => h) (Or.inr ⟨by rfl, rfl⟩) ?_ ?_
      rotate_left
      · simp only [Act.put, List.setIfInBounds_toArray, List.set_cons_zero, List.set_cons_succ, i64_w, i32_w]
        rfl
      refine pure_ (i := 5) (N := some 63) (v := undef) (a' := ?_) #[true, true, true, true, true, true, false, false, false, false, false, false, false, false, false, false, false, false, false, false, false, false, false, false, false, false, false, false] rfl rfl (by kernel_rfl) (fun _ _ _ h => h) (Or.inr ⟨by rfl, rfl⟩) ?_ ?_
      rotate_left
      · simp only [Act.put, List.setIfInBounds_toArray, List.set_cons_zero, List.set_cons_succ, i64_w, i32_w]
        rfl
      refine pure_ (i := 6) (N := some 64) (v := undef) (a' := ?_) #[true, true, true, true, true, true, true, false, false, false, false, false, false, false, false, false, false, false, false, false, false, false, false, false, false, false, false, false] rfl rfl (by kernel_rfl) (fun _ _ _ h => h) (Or.inr ⟨by rfl, rfl⟩) ?_ ?_
      rotate_left
      · simp only [Act.put, List.setIfInBounds_toArray, List.set_cons_zero, List.set_cons_succ, i64_w, i32_w]
        rfl
      refine pure_ (i := 7) (N := some 65) (v := undef) (a' := ?_) #[true, true, true, true, true, true, true, true, false, false, false, false, false, false, false, false, false, false, false, false, false, false, false, false, false, false, false, false] rfl rfl (by kernel_rfl) (fun _ _ _ h => h) (Or.inr ⟨by rfl, rfl⟩) ?_ ?_
      rotate_left
      · simp only [Act.put, List.setIfInBounds_toArray, List.set_cons_zero, List.set_cons_succ, i64_w, i32_w]
        rfl
      refine pure_ (i := 8) (N := some 66) (v := undef) (a' := ?_) #[true, true, true, true, true, true, true, true, true, false, false, false, false, false, false, false, false, false, false, false, false, false, false, false, false, false, false, false] rfl rfl (by kernel_rfl) (fun _ _ _ h => h) (Or.inr ⟨by rfl, rfl⟩) ?_ ?_
      rotate_left
      · simp only [Act.put, List.setIfInBounds_toArray, List.set_cons_zero, List.set_cons_succ, i64_w, i32_w]
        rfl
      refine pure_ (i := 9) (N := some 67) (v := undef) (a' := ?_) #[true, true, true, true, true, true, true, true, true, true, false, false, false, false, false, false, false, false, false, false, false, false, false, false, false, false, false, false] rfl rfl (by kernel_rfl) (fun _ _ _ h => h) (Or.inr ⟨by rfl, rfl⟩) ?_ ?_
      rotate_left
      · simp only [Act.put, List.setIfInBounds_toArray, List.set_cons_zero, List.set_cons_succ, i64_w, i32_w]
        rfl
      refine pure_ (i := 10) (N := some 68) (v := undef) (a' := ?_) #[true, true, true, true, true, true, true, true, true, true, true, false, false, false, false, false, false, false, false, false, false, false, false, false, false, false, false, false] rfl rfl (by kernel_rfl) (fun _ _ _ h => h) (Or.inr ⟨by rfl, rfl⟩) ?_ ?_
      rotate_left
      · simp only [Act.put, List.setIfInBounds_toArray, List.set_cons_zero, List.set_cons_succ, i64_w, i32_w]
        rfl
      refine pure_ (i := 11) (N := some 69) (v := ?_) (a' := ?_) #[true, true, true, true, true, true, true, true, true, true, true, true, false, false, false, false, false, false, false, false, false, false, false, false, false, false, false, false] rfl rfl (by kernel_rfl) (fun _ _ _ h => h) (Or.inl ⟨by rfl, ?_⟩) ?_ ?_
      rotate_left
      · intro w'
        go_simp
        with_reducible rfl
      rotate_left
      · simp only [Act.put, List.setIfInBounds_toArray, List.set_cons_zero, List.set_cons_succ, i64_w, i32_w]
        rfl
      refine pure_ (i := 12) (N := some 70) (v := ?_) (a' := ?_) #[true, true, true, true, true, true, true, true, true, true, true, true, true, false, false, false, false, false, false, false, false, false, false, false, false, false, false, false] rfl rfl (by kernel_rfl) (fun _ _ _ h => h) (Or.inl ⟨by rfl, ?_⟩) ?_ ?_
      rotate_left
      · intro w'
        go_simp
        with_reducible rfl
      rotate_left
      · simp only [Act.put, List.setIfInBounds_toArray, List.set_cons_zero, List.set_cons_succ, i64_w, i32_w]
        rfl
      refine pure_ (i := 13) (N := some 71) (v := undef) (a' := ?_) #[true, true, true, true, true, true, true, true, true, true, true, true, true, true, false, false, false, false, false, false, false, false, false, false, false, false, false, false] rfl rfl (by kernel_rfl) (fun _ _ _ h => h) (Or.inr ⟨by rfl, rfl⟩) ?_ ?_
      rotate_left
      · simp only [Act.put, List.setIfInBounds_toArray, List.set_cons_zero, List.set_cons_succ, i64_w, i32_w]
        rfl
      refine pure_ (i := 14) (N := some 72) (v := undef) (a' := ?_) #[true, true, true, true, true, true, true, true, true, true, true, true, true, true, true, false, false, false, false, false, false, false, false, false, false, false, false, false] rfl rfl (by kernel_rfl) (fun _ _ _ h => h) (Or.inr ⟨by rfl, rfl⟩) ?_ ?_
      rotate_left
      · simp only [Act.put, List.setIfInBounds_toArray, List.set_cons_zero, List.set_cons_succ, i64_w, i32_w]
        rfl
      refine pure_ (i := 15) (N := some 73) (v := undef) (a' := ?_) #[true, true, true, true, true, true, true, true, true, true, true, true, true, true, true, true, false, false, false, false, false, false, false, false, false, false, false, false] rfl rfl (by kernel_rfl) (fun _ _ _ h => h) (Or.inr ⟨by rfl, rfl⟩) ?_ ?_
      rotate_left
      · simp only [Act.put, List.setIfInBounds_toArray, List.set_cons_zero, List.set_cons_succ, i64_w, i32_w]
        rfl
      refine pure_ (i := 16) (N := some 74) (v := undef) (a' := ?_) #[true, true, true, true, true, true, true, true, true, true, true, true, true, true, true, true, true, false, false, false, false, false, false, false, false, false, false, false] rfl rfl (by kernel_rfl) (fun _ _ _ h => h) (Or.inr ⟨by rfl, rfl⟩) ?_ ?_
      rotate_left
      · simp only [Act.put, List.setIfInBounds_toArray, List.set_cons_zero, List.set_cons_succ, i64_w, i32_w]
        rfl
      refine pure_ (i := 17) (N := some 75) (v := undef) (a' := ?_) #[true, true, true, true, true, true, true, true, true, true, true, true, true, true, true, true, true, true, false, false, false, false, false, false, false, false, false, false] rfl rfl (by kernel_rfl) (fun _ _ _ h => h) (Or.inr ⟨by rfl, rfl⟩) ?_ ?_
      rotate_left
      · simp only [Act.put, List.setIfInBounds_toArray, List.set_cons_zero, List.set_cons_succ, i64_w, i32_w]
        rfl
      refine pure_ (i := 18) (N := some 76) (v := undef) (a' := ?_) #[true, true, true, true, true, true, true, true, true, true, true, true, true, true, true, true, true, true, true, false, false, false, false, false, false, false, false, false] rfl rfl (by kernel_rfl) (fun _ _ _ h => h) (Or.inr ⟨by rfl, rfl⟩) ?_ ?_
      rotate_left
      · simp only [Act.put, List.setIfInBounds_toArray, List.set_cons_zero, List.set_cons_succ, i64_w, i32_w]
        rfl
      refine pure_ (i := 19) (N := some 77) (v := undef) (a' := ?_) #[true, true, true, true, true, true, true, true, true, true, true, true, true, true, true, true, true, true, true, true, false, false, false, false, false, false, false, false] rfl rfl (by kernel_rfl) (fun _ _ _ h => h) (Or.inr ⟨by rfl, rfl⟩) ?_ ?_
      rotate_left
      · simp only [Act.put, List.setIfInBounds_toArray, List.set_cons_zero, List.set_cons_succ, i64_w, i32_w]
        rfl
      refine pure_ (i := 20) (N := some 78) (v := undef) (a' := ?_) #[true, true, true, true, true, true, true, true, true, true, true, true, true, true, true, true, true, true, true, true, true, false, false, false, false, false, false, false] rfl rfl (by kernel_rfl) (fun _ _ _ h => h) (Or.inr ⟨by rfl, rfl⟩) ?_ ?_
      rotate_left
      · simp only [Act.put, List.setIfInBounds_toArray, List.set_cons_zero, List.set_cons_succ, i64_w, i32_w]
        rfl
      refine pure_ (i := 21) (N := some 79) (v := undef) (a' := ?_) #[true, true, true, true, true, true, true, true, true, true, true, true, true, true, true, true, true, true, true, true, true, true, false, false, false, false, false, false] rfl rfl (by kernel_rfl) (fun _ _ _ h => h) (Or.inr ⟨by rfl, rfl⟩) ?_ ?_
      rotate_left
      · simp only [Act.put, List.setIfInBounds_toArray, List.set_cons_zero, List.set_cons_succ, i64_w, i32_w]
        rfl
      refine pure_ (i := 22) (N := some 80) (v := undef) (a' := ?_) #[true, true, true, true, true, true, true, true, true, true, true, true, true, true, true, true, true, true, true, true, true, true, true, false, false, false, false, false] rfl rfl (by kernel_rfl) (fun _ _ _ h => h) (Or.inr ⟨by rfl, rfl⟩) ?_ ?_
      rotate_left
      · simp only [Act.put, List.setIfInBounds_toArray, List.set_cons_zero, List.set_cons_succ, i64_w, i32_w]
        rfl
      refine pure_ (i := 23) (N := some 81) (v := ?_) (a' := ?_) #[true, true, true, true, true, true, true, true, true, true, true, true, true, true, true, true, true, true, true, true, true, true, true, true, false, false, false, false] rfl rfl (by kernel_rfl) (fun _ _ _ h => h) (Or.inl ⟨by rfl, ?_⟩) ?_ ?_
      rotate_left
      · intro w'
        go_simp
        with_reducible rfl
      rotate_left
      · simp only [Act.put, List.setIfInBounds_toArray, List.set_cons_zero, List.set_cons_succ, i64_w, i32_w]
        rfl
      refine pure_ (i := 24) (N := some 82) (v := ?_) (a' := ?_) #[true, true, true, true, true, true, true, true, true, true, true, true, true, true, true, true, true, true, true, true, true, true, true, true, true, false, false, false] rfl rfl (by kernel_rfl) (fun _ _ _ h => h) (Or.inl ⟨by rfl, ?_⟩) ?_ ?_
      rotate_left
      · intro w'
        go_simp
        with_reducible rfl
      rotate_left
      · simp only [Act.put, List.setIfInBounds_toArray, List.set_cons_zero, List.set_cons_succ, i64_w, i32_w]
        rfl
      refine one_ (i := 25) (N := some 83) #[true, true, true, true, true, true, true, true, true, true, true, true, true, true, true, true, true, true, true, true, true, true, true, true, true, true, false, false] rfl rfl (by kernel_rfl) (by decide) (fun K hK => ?_)
      refine goes_ Tryz.func15 (by kernel_rfl) rfl #[] (by rfl) rfl rfl (by simp only [List.map_toArray, List.map_cons, List.map_nil]) ?_
      with_reducible refine (HAL.out _ (below_step HB6.out (below_drew (Below.refl _ _)))).mono ?_
      rintro e wa ⟨rfl, hba⟩
      refine ⟨_, rfl, ?_⟩
      have HBl : Hid (Below W6.heap.size W6 wa) := Lib.hid (below_step (below_drew (Below.refl _ _)) hba)
      refine hK.out _ _ ⟨c_of (blk_bel HBl.out HC6.out) 2 (v := .bool (C.fl 2)) rfl, c_of (blk_bel HBl.out HC6.out) 7 (v := .int .i64 (C.nm 7)) rfl⟩ (fun hHeld => ?_)
      clear hK K
      refine norm_ (a' := ?_) ?_ ?_
      rotate_left
      · show Act.put _ (some 83) _ = _
        simp only [Act.put, List.setIfInBounds_toArray, List.set_cons_zero, List.set_cons_succ, i64_w, i32_w]
        rfl
      refine pure_ (i := 26) (N := some 84) (v := ?_) (a' := ?_) #[true, true, true, true, true, true, true, true, true, true, true, true, true, true, true, true, true, true, true, true, true, true, true, true, true, true, true, false] rfl rfl (by kernel_rfl) (fun _ _ _ h => h) (Or.inl ⟨by rfl, ?_⟩) ?_ ?_
      rotate_left
      · intro w'
        go_simp
        with_reducible rfl
      rotate_left
      · simp only [Act.put, List.setIfInBounds_toArray, List.set_cons_zero, List.set_cons_succ, i64_w, i32_w]
        rfl
      refine pure_ (i := 27) (N := some 6) (v := ?_) (a' := ?_) #[true, true, true, true, true, true, true, true, true, true, true, true, true, true, true, true, true, true, true, true, true, true, true, true, true, true, true, true] rfl rfl (by kernel_rfl) (fun _ _ _ h => h) (Or.inl ⟨by rfl, ?_⟩) ?_ ?_
      rotate_left
      · intro w'
        go_simp
        with_reducible rfl
      rotate_left
      · simp only [Act.put, List.setIfInBounds_toArray, List.set_cons_zero, List.set_cons_succ, i64_w, i32_w]
        rfl
      refine done_ (by kernel_rfl) ?_
      have HBz := Lib.hid (below_step HB6.out HBl.out)
      go_wp2
      go_ret
      exact ⟨rfl, HBz.out⟩
    | true =>
      have hst := of_decide_eq_true HSL.out.symm
      cases e2 : C.fl 2 with
      | true =>
        have hl := HLAW.out.2 (by omega) (.inl e2)
        have v0 : (v == 0) = true := by rw [hl.1]; rfl
        have v1 := hl.2
        subst v1
        clear hl hst
        refine start_ (n := 28) (S := fun w' => w'.cell? ⟨w.heap.size, 0, none⟩ = some (.string x.f0.f0) ∧ w'.cell? ⟨w.heap.size, 1, none⟩ = some (.string x.f0.f1) ∧ w'.cell? ⟨w.heap.size, 2, none⟩ = some (.string x.f0.f2) ∧ w'.cell? ⟨w.heap.size, 3, none⟩ = some (.string x.f0.f3) ∧ w'.cell? ⟨w.heap.size, 4, none⟩ = some (.slice r.A4 x.f0.f4.length r.c4) ∧ w'.cell? ⟨w.heap.size, 5, none⟩ = some (.slice r.A5 x.f0.f5.length r.c5) ∧ w'.cell? ⟨w.heap.size, 6, none⟩ = some (.int .i64 x.f1.f0) ∧ w'.cell? ⟨w.heap.size, 7, none⟩ = some (.slice r.A7 x.f1.f1.length r.c7) ∧ w'.cell? ⟨w.heap.size, 8, none⟩ = some (.slice r.A8 x.f1.f2.length r.c8) ∧ w'.cell? ⟨w.heap.size, 9, none⟩ = some (.int .i64 x.f2) ∧ w'.cell? ⟨w.heap.size, 10, none⟩ = some (.int .i64 x.f3) ∧ w'.cell? ⟨w.heap.size + 1, 0, none⟩ = some (.string q.f0) ∧ w'.cell? ⟨w.heap.size + 1, 1, none⟩ = some (.string q.f1) ∧ w'.cell? ⟨w.heap.size + 1, 2, none⟩ = some (.string q.f2) ∧ w'.cell? ⟨w.heap.size + 1, 3, none⟩ = some (.string q.f3) ∧ w'.cell? ⟨w.heap.size + 1, 4, none⟩ = some (.slice A4 q.f4.length c4) ∧ w'.cell? ⟨w.heap.size + 1, 5, none⟩ = some (.slice A5 q.f5.length c5) ∧ w'.cell? ⟨a_, 2, none⟩ = some (.bool (C.fl 2)) ∧ w'.cell? ⟨a_, 7, none⟩ = some (.int .i64 (C.nm 7))) (ds := []) #[false, false, false, false, false, false, false, false, false, false, false, false, false, false, false, false, false, false, false, false, false, false, false, false, false, false, false, false] (by kernel_rfl) rfl rfl ⟨c_of (blk_bel (below_drew (Below.refl _ _)) HX6.out) 0 (v := .string x.f0.f0) rfl, c_of (blk_bel (below_drew (Below.refl _ _)) HX6.out) 1 (v := .string x.f0.f1) rfl, c_of (blk_bel (below_drew (Below.refl _ _)) HX6.out) 2 (v := .string x.f0.f2) rfl, c_of (blk_bel (below_drew (Below.refl _ _)) HX6.out) 3 (v := .string x.f0.f3) rfl, c_of (blk_bel (below_drew (Below.refl _ _)) HX6.out) 4 (v := .slice r.A4 x.f0.f4.length r.c4) rfl, c_of (blk_bel (below_drew (Below.refl _ _)) HX6.out) 5 (v := .slice r.A5 x.f0.f5.length r.c5) rfl, c_of (blk_bel (below_drew (Below.refl _ _)) HX6.out) 6 (v := .int .i64 x.f1.f0) rfl, c_of (blk_bel (below_drew (Below.refl _ _)) HX6.out) 7 (v := .slice r.A7 x.f1.f1.length r.c7) rfl, c_of (blk_bel (below_drew (Below.refl _ _)) HX6.out) 8 (v := .slice r.A8 x.f1.f2.length r.c8) rfl, c_of (blk_bel (below_drew (Below.refl _ _)) HX6.out) 9 (v := .int .i64 x.f2) rfl, c_of (blk_bel (below_drew (Below.refl _ _)) HX6.out) 10 (v := .int .i64 x.f3) rfl, c_of (blk_bel (below_drew (Below.refl _ _)) HQ6.out) 0 (v := .string q.f0) rfl, c_of (blk_bel (below_drew (Below.refl _ _)) HQ6.out) 1 (v := .string q.f1) rfl, c_of (blk_bel (below_drew (Below.refl _ _)) HQ6.out) 2 (v := .string q.f2) rfl, c_of (blk_bel (below_drew (Below.refl _ _)) HQ6.out) 3 (v := .string q.f3) rfl, c_of (blk_bel (below_drew (Below.refl _ _)) HQ6.out) 4 (v := .slice A4 q.f4.length c4) rfl, c_of (blk_bel (below_drew (Below.refl _ _)) HQ6.out) 5 (v := .slice A5 q.f5.length c5) rfl, c_of (blk_bel (below_drew (Below.refl _ _)) HC6.out) 2 (v := .bool (C.fl 2)) rfl, c_of (blk_bel (below_drew (Below.refl _ _)) HC6.out) 7 (v := .int .i64 (C.nm 7)) rfl⟩ (fun hHeld => ?_)
        refine pure_ (i := 0) (N := some 58) (v := ?_) (a' := ?_) #[true, false, false, false, false, false, false, false, false, false, false, false, false, false, false, false, false, false, false, false, false, false, false, false, false, false, false, false] rfl rfl (by kernel_rfl) (fun _ _ _ h => h) (Or.inl ⟨by rfl, ?_⟩) ?_ ?_
        rotate_left
        · intro w'
          go_simp
          with_reducible rfl
        rotate_left
        · simp only [Act.put, List.setIfInBounds_toArray, List.set_cons_zero, List.set_cons_succ, i64_w, i32_w]
          rfl
        refine pure_ (i := 1) (N := some 59) (v := ?_) (a' := ?_) #[true, true, false, false, false, false, false, false, false, false, false, false, false, false, false, false, false, false, false, false, false, false, false, false, false, false, false, false] rfl rfl (by kernel_rfl) (fun _ _ _ h => h) (Or.inl ⟨by rfl, ?_⟩) ?_ ?_
        rotate_left
        · intro w'
          go_simp
          with_reducible rfl
        rotate_left
        · simp only [Act.put, List.setIfInBounds_toArray, List.set_cons_zero, List.set_cons_succ, i64_w, i32_w]
          rfl
        refine pure_ (i := 2) (N := some 60) (v := ?_) (a' := ?_) #[true, true, true, false, false, false, false, false, false, false, false, false, false, false, false, false, false, false, false, false, false, false, false, false, false, false, false, false] rfl rfl (by kernel_rfl) (fun _ _ _ h => h) (Or.inl ⟨by rfl, ?_⟩) ?_ ?_
        rotate_left
        · intro w'
          go_simp
          with_reducible rfl
        rotate_left
        · simp only [Act.put, List.setIfInBounds_toArray, List.set_cons_zero, List.set_cons_succ, i64_w, i32_w]
          rfl
        refine pure_ (i := 3) (N := some 61) (v := ?_) (a' := ?_) #[true, true, true, true, false, false, false, false, false, false, false, false, false, false, false, false, false, false, false, false, false, false, false, false, false, false, false, false] rfl rfl (by kernel_rfl) (fun _ _ _ h => h) (Or.inl ⟨by rfl, ?_⟩) ?_ ?_
        rotate_left
        · intro w'
          go_simp
          with_reducible rfl
        rotate_left
        · simp only [Act.put, List.setIfInBounds_toArray, List.set_cons_zero, List.set_cons_succ, i64_w, i32_w]
          rfl
        refine take_ (i := 4) (N := some 62) (v := ?_) (a' := ?_) #[true, true, true, true, true, false, false, false, false, false, false, false, false, false, false, false, false, false, false, false, false, false, false, false, false, false, false, false] rfl rfl (by kernel_rfl) (fun _ _ _ h => h) (Or.inl ⟨by rfl, ?_⟩) hHeld ?_ ?_
        rotate_left
        · rintro w' ⟨s0, s1, s2, s3, s4, s5, s6, s7, s8, s9, s10, s11, s12, s13, s14, s15, s16, s17, s18⟩
          go_simp
          with_reducible rfl
        rotate_left
        · simp only [Act.put, List.setIfInBounds_toArray, List.set_cons_zero, List.set_cons_succ, i64_w, i32_w]
          rfl
        refine pure_ (i := 5) (N := some 63) (v := ?_) (a' := ?_) #[true, true, true, true, true, true, false, false, false, false, false, false, false, false, false, false, false, false, false, false, false, false, false, false, false, false, false, false] rfl rfl (by kernel_rfl) (fun _ _ _ h => h) (Or.inl ⟨by rfl, ?_⟩) ?_ ?_
        rotate_left
        · intro w'
          go_simp
          with_reducible rfl
        rotate_left
        · simp only [Act.put, List.setIfInBounds_toArray, List.set_cons_zero, List.set_cons_succ, i64_w, i32_w]
          rfl
        refine pure_ (i := 6) (N := some 64) (v := ?_) (a' := ?_) #[true, true, true, true, true, true, true, false, false, false, false, false, false, false, false, false, false, false, false, false, false, false, false, false, false, false, false, false] rfl rfl (by kernel_rfl) (fun _ _ _ h => h) (Or.inl ⟨by rfl, ?_⟩) ?_ ?_
        rotate_left
        · intro w'
          go_simp
          with_reducible rfl
        rotate_left
        · simp only [Act.put, List.setIfInBounds_toArray, List.set_cons_zero, List.set_cons_succ, i64_w, i32_w]
          rfl
        refine pure_ (i := 7) (N := some 65) (v := undef) (a' := ?_) #[true, true, true, true, true, true, true, true, false, false, false, false, false, false, false, false, false, false, false, false, false, false, false, false, false, false, false, false] rfl rfl (by kernel_rfl) (fun _ _ _ h => h) (Or.inr ⟨by rfl, rfl⟩) ?_ ?_
        rotate_left
        · simp only [Act.put, List.setIfInBounds_toArray, List.set_cons_zero, List.set_cons_succ, i64_w, i32_w]
          rfl
        refine pure_ (i := 8) (N := some 66) (v := undef) (a' := ?_) #[true, true, true, true, true, true, true, true, true, false, false, false, false, false, false, false, false, false, false, false, false, false, false, false, false, false, false, false] rfl rfl (by kernel_rfl) (fun _ _ _ h => h) (Or.inr ⟨by rfl, rfl⟩) ?_ ?_
        rotate_left
        · simp only [Act.put, List.setIfInBounds_toArray, List.set_cons_zero, List.set_cons_succ, i64_w, i32_w]
          rfl
        refine pure_ (i := 9) (N := some 67) (v := undef) (a' := ?_) #[true, true, true, true, true, true, true, true, true, true, false, false, false, false, false, false, false, false, false, false, false, false, false, false, false, false, false, false] rfl rfl (by kernel_rfl) (fun _ _ _ h => h) (Or.inr ⟨by rfl, rfl⟩) ?_ ?_
        rotate_left
        · simp only [Act.put, List.setIfInBounds_toArray, List.set_cons_zero, List.set_cons_succ, i64_w, i32_w]
          rfl
        refine pure_ (i := 10) (N := some 68) (v := ?_) (a' := ?_) #[true, true, true, true, true, true, true, true, true, true, true, false, false, false, false, false, false, false, false, false, false, false, false, false, false, false, false, false] rfl rfl (by kernel_rfl) (fun _ _ _ h => h) (Or.inl ⟨by rfl, ?_⟩) ?_ ?_
        rotate_left
        · intro w'
          go_simp
          with_reducible rfl
        rotate_left
        · simp only [Act.put, List.setIfInBounds_toArray, List.set_cons_zero, List.set_cons_succ, i64_w, i32_w]
          rfl
        refine pure_ (i := 11) (N := some 69) (v := ?_) (a' := ?_) #[true, true, true, true, true, true, true, true, true, true, true, true, false, false, false, false, false, false, false, false, false, false, false, false, false, false, false, false] rfl rfl (by kernel_rfl) (fun _ _ _ h => h) (Or.inl ⟨by rfl, ?_⟩) ?_ ?_
        rotate_left
        · intro w'
          go_simp
          with_reducible rfl
        rotate_left
        · simp only [Act.put, List.setIfInBounds_toArray, List.set_cons_zero, List.set_cons_succ, i64_w, i32_w]
          rfl
        refine pure_ (i := 12) (N := some 70) (v := ?_) (a' := ?_) #[true, true, true, true, true, true, true, true, true, true, true, true, true, false, false, false, false, false, false, false, false, false, false, false, false, false, false, false] rfl rfl (by kernel_rfl) (fun _ _ _ h => h) (Or.inl ⟨by rfl, ?_⟩) ?_ ?_
        rotate_left
        · intro w'
          go_simp
          with_reducible rfl
        rotate_left
        · simp only [Act.put, List.setIfInBounds_toArray, List.set_cons_zero, List.set_cons_succ, i64_w, i32_w]
          rfl
        refine pure_ (i := 13) (N := some 71) (v := ?_) (a' := ?_) #[true, true, true, true, true, true, true, true, true, true, true, true, true, true, false, false, false, false, false, false, false, false, false, false, false, false, false, false] rfl rfl (by kernel_rfl) (fun _ _ _ h => h) (Or.inl ⟨by rfl, ?_⟩) ?_ ?_
        rotate_left
        · intro w'
          go_simp
          with_reducible rfl
        rotate_left
        · simp only [Act.put, List.setIfInBounds_toArray, List.set_cons_zero, List.set_cons_succ, i64_w, i32_w]
          rfl
        refine pure_ (i := 14) (N := some 72) (v := ?_) (a' := ?_) #[true, true, true, true, true, true, true, true, true, true, true, true, true, true, true, false, false, false, false, false, false, false, false, false, false, false, false, false] rfl rfl (by kernel_rfl) (fun _ _ _ h => h) (Or.inl ⟨by rfl, ?_⟩) ?_ ?_
        rotate_left
        · intro w'
          go_simp
          with_reducible rfl
        rotate_left
        · simp only [Act.put, List.setIfInBounds_toArray, List.set_cons_zero, List.set_cons_succ, i64_w, i32_w]
          rfl
        refine pure_ (i := 15) (N := some 73) (v := ?_) (a' := ?_) #[true, true, true, true, true, true, true, true, true, true, true, true, true, true, true, true, false, false, false, false, false, false, false, false, false, false, false, false] rfl rfl (by kernel_rfl) (fun _ _ _ h => h) (Or.inl ⟨by rfl, ?_⟩) ?_ ?_
        rotate_left
        · intro w'
          go_simp
          with_reducible rfl
        rotate_left
        · simp only [Act.put, List.setIfInBounds_toArray, List.set_cons_zero, List.set_cons_succ, i64_w, i32_w]
          rfl
        refine pure_ (i := 19) (N := some 77) (v := ?_) (a' := ?_) #[true, true, true, true, true, true, true, true, true, true, true, true, true, true, true, true, false, false, false, true, false, false, false, false, false, false, false, false] rfl rfl (by kernel_rfl) (fun _ _ _ h => h) (Or.inl ⟨by rfl, ?_⟩) ?_ ?_
        rotate_left
        · intro w'
          go_simp
          with_reducible rfl
        rotate_left
        · simp only [Act.put, List.setIfInBounds_toArray, List.set_cons_zero, List.set_cons_succ, i64_w, i32_w]
          rfl
        refine take_ (i := 16) (N := some 74) (v := ?_) (a' := ?_) #[true, true, true, true, true, true, true, true, true, true, true, true, true, true, true, true, true, false, false, true, false, false, false, false, false, false, false, false] rfl rfl (by kernel_rfl) (fun _ _ _ h => h) (Or.inl ⟨by rfl, ?_⟩) hHeld ?_ ?_
        rotate_left
        · rintro w' ⟨s0, s1, s2, s3, s4, s5, s6, s7, s8, s9, s10, s11, s12, s13, s14, s15, s16, s17, s18⟩
          go_simp
          with_reducible rfl
        rotate_left
        · simp only [Act.put, List.setIfInBounds_toArray, List.set_cons_zero, List.set_cons_succ, i64_w, i32_w]
          rfl
        refine take_ (i := 18) (N := some 76) (v := ?_) (a' := ?_) #[true, true, true, true, true, true, true, true, true, true, true, true, true, true, true, true, true, false, true, true, false, false, false, false, false, false, false, false] rfl rfl (by kernel_rfl) (fun _ _ _ h => h) (Or.inl ⟨by rfl, ?_⟩) hHeld ?_ ?_
        rotate_left
        · rintro w' ⟨s0, s1, s2, s3, s4, s5, s6, s7, s8, s9, s10, s11, s12, s13, s14, s15, s16, s17, s18⟩
          go_simp
          with_reducible rfl
        rotate_left
        · simp only [Act.put, List.setIfInBounds_toArray, List.set_cons_zero, List.set_cons_succ, i64_w, i32_w]
          rfl
        refine one_ (i := 17) (N := some 75) #[true, true, true, true, true, true, true, true, true, true, true, true, true, true, true, true, true, true, true, true, false, false, false, false, false, false, false, false] rfl rfl (by kernel_rfl) (by decide) (fun K hK => ?_)
        refine goes_ Tryz.func17 (by kernel_rfl) rfl #[.agg #[.string x.f0.f0, .string x.f0.f1, .string x.f0.f2, .string x.f0.f3, .slice r.A4 x.f0.f4.length r.c4, .slice r.A5 x.f0.f5.length r.c5, .int .i64 x.f1.f0, .slice r.A7 x.f1.f1.length r.c7, .slice r.A8 x.f1.f2.length r.c8, .int .i64 x.f2, .int .i64 x.f3]] (by rfl) rfl rfl (by simp only [List.map_toArray, List.map_cons, List.map_nil]; rfl) ?_
        with_reducible refine (theirs_q _ x r).mono ?_
        rintro e wt ⟨rfl, hbt⟩
        refine ⟨_, rfl, ?_⟩
        have HBt : Hid (Below W6.heap.size W6 wt) := Lib.hid (below_step (below_drew (Below.refl _ _)) hbt)
        refine hK.out _ _ ⟨c_of (blk_bel HBt.out HX6.out) 0 (v := .string x.f0.f0) rfl, c_of (blk_bel HBt.out HX6.out) 1 (v := .string x.f0.f1) rfl, c_of (blk_bel HBt.out HX6.out) 2 (v := .string x.f0.f2) rfl, c_of (blk_bel HBt.out HX6.out) 3 (v := .string x.f0.f3) rfl, c_of (blk_bel HBt.out HX6.out) 4 (v := .slice r.A4 x.f0.f4.length r.c4) rfl, c_of (blk_bel HBt.out HX6.out) 5 (v := .slice r.A5 x.f0.f5.length r.c5) rfl, c_of (blk_bel HBt.out HX6.out) 6 (v := .int .i64 x.f1.f0) rfl, c_of (blk_bel HBt.out HX6.out) 7 (v := .slice r.A7 x.f1.f1.length r.c7) rfl, c_of (blk_bel HBt.out HX6.out) 8 (v := .slice r.A8 x.f1.f2.length r.c8) rfl, c_of (blk_bel HBt.out HX6.out) 9 (v := .int .i64 x.f2) rfl, c_of (blk_bel HBt.out HX6.out) 10 (v := .int .i64 x.f3) rfl, c_of (blk_bel HBt.out HQ6.out) 0 (v := .string q.f0) rfl, c_of (blk_bel HBt.out HQ6.out) 1 (v := .string q.f1) rfl, c_of (blk_bel HBt.out HQ6.out) 2 (v := .string q.f2) rfl, c_of (blk_bel HBt.out HQ6.out) 3 (v := .string q.f3) rfl, c_of (blk_bel HBt.out HQ6.out) 4 (v := .slice A4 q.f4.length c4) rfl, c_of (blk_bel HBt.out HQ6.out) 5 (v := .slice A5 q.f5.length c5) rfl, c_of (blk_bel HBt.out HC6.out) 2 (v := .bool (C.fl 2)) rfl, c_of (blk_bel HBt.out HC6.out) 7 (v := .int .i64 (C.nm 7)) rfl⟩ (fun hHeld => ?_)
        clear hK K
        refine norm_ (a' := ?_) ?_ ?_
        rotate_left
        · show Act.put _ (some 75) _ = _
          simp only [Act.put, List.setIfInBounds_toArray, List.set_cons_zero, List.set_cons_succ, i64_w, i32_w]
          rfl
        refine one_ (i := 20) (N := some 78) #[true, true, true, true, true, true, true, true, true, true, true, true, true, true, true, true, true, true, true, true, true, false, false, false, false, false, false, false] rfl rfl (by kernel_rfl) (by decide) (fun K hK => ?_)
        refine goes_ Tryz.func24 (by kernel_rfl) rfl #[.agg #[.string x.f0.f0, .string x.f0.f1, .string x.f0.f2, .string x.f0.f3, .slice r.A4 x.f0.f4.length r.c4, .slice r.A5 x.f0.f5.length r.c5, .int .i64 x.f1.f0, .slice r.A7 x.f1.f1.length r.c7, .slice r.A8 x.f1.f2.length r.c8, .int .i64 x.f2, .int .i64 x.f3], .agg #[.string q.f0, .string q.f1, .string q.f2, .string q.f3, .slice A4 q.f4.length c4, .slice A5 q.f5.length c5], .int .i64 now] (by rfl) rfl rfl (by simp only [List.map_toArray, List.map_cons, List.map_nil]; rfl) ?_
        with_reducible refine (HER.out _ (below_step HB6.out HBt.out)).mono ?_
        rintro e we ⟨rfl, hbe⟩
        refine ⟨_, rfl, ?_⟩
        have HBe : Hid (Below W6.heap.size W6 we) := Lib.hid (below_step HBt.out hbe)
        refine hK.out _ _ ⟨c_of (blk_bel HBe.out HX6.out) 0 (v := .string x.f0.f0) rfl, c_of (blk_bel HBe.out HX6.out) 1 (v := .string x.f0.f1) rfl, c_of (blk_bel HBe.out HX6.out) 2 (v := .string x.f0.f2) rfl, c_of (blk_bel HBe.out HX6.out) 3 (v := .string x.f0.f3) rfl, c_of (blk_bel HBe.out HX6.out) 4 (v := .slice r.A4 x.f0.f4.length r.c4) rfl, c_of (blk_bel HBe.out HX6.out) 5 (v := .slice r.A5 x.f0.f5.length r.c5) rfl, c_of (blk_bel HBe.out HX6.out) 6 (v := .int .i64 x.f1.f0) rfl, c_of (blk_bel HBe.out HX6.out) 7 (v := .slice r.A7 x.f1.f1.length r.c7) rfl, c_of (blk_bel HBe.out HX6.out) 8 (v := .slice r.A8 x.f1.f2.length r.c8) rfl, c_of (blk_bel HBe.out HX6.out) 9 (v := .int .i64 x.f2) rfl, c_of (blk_bel HBe.out HX6.out) 10 (v := .int .i64 x.f3) rfl, c_of (blk_bel HBe.out HQ6.out) 0 (v := .string q.f0) rfl, c_of (blk_bel HBe.out HQ6.out) 1 (v := .string q.f1) rfl, c_of (blk_bel HBe.out HQ6.out) 2 (v := .string q.f2) rfl, c_of (blk_bel HBe.out HQ6.out) 3 (v := .string q.f3) rfl, c_of (blk_bel HBe.out HQ6.out) 4 (v := .slice A4 q.f4.length c4) rfl, c_of (blk_bel HBe.out HQ6.out) 5 (v := .slice A5 q.f5.length c5) rfl, c_of (blk_bel HBe.out HC6.out) 2 (v := .bool (C.fl 2)) rfl, c_of (blk_bel HBe.out HC6.out) 7 (v := .int .i64 (C.nm 7)) rfl⟩ (fun hHeld => ?_)
        clear hK K
        refine norm_ (a' := ?_) ?_ ?_
        rotate_left
        · show Act.put _ (some 78) _ = _
          simp only [Act.put, List.setIfInBounds_toArray, List.set_cons_zero, List.set_cons_succ, i64_w, i32_w]
          rfl
        refine pure_ (i := 21) (N := some 79) (v := ?_) (a' := ?_) #[true, true, true, true, true, true, true, true, true, true, true, true, true, true, true, true, true, true, true, true, true, true, false, false, false, false, false, false] rfl rfl (by kernel_rfl) (fun _ _ _ h => h) (Or.inl ⟨by rfl, ?_⟩) ?_ ?_
        rotate_left
        · intro w'
          go_simp
          with_reducible rfl
        rotate_left
        · simp only [Act.put, List.setIfInBounds_toArray, List.set_cons_zero, List.set_cons_succ, i64_w, i32_w]
          rfl
        refine pure_ (i := 22) (N := some 80) (v := ?_) (a' := ?_) #[true, true, true, true, true, true, true, true, true, true, true, true, true, true, true, true, true, true, true, true, true, true, true, false, false, false, false, false] rfl rfl (by kernel_rfl) (fun _ _ _ h => h) (Or.inl ⟨by rfl, ?_⟩) ?_ ?_
        rotate_left
        · intro w'
          go_simp
          with_reducible rfl
        rotate_left
        · simp only [Act.put, List.setIfInBounds_toArray, List.set_cons_zero, List.set_cons_succ, i64_w, i32_w]
          rfl
        refine pure_ (i := 23) (N := some 81) (v := ?_) (a' := ?_) #[true, true, true, true, true, true, true, true, true, true, true, true, true, true, true, true, true, true, true, true, true, true, true, true, false, false, false, false] rfl rfl (by kernel_rfl) (fun _ _ _ h => h) (Or.inl ⟨by rfl, ?_⟩) ?_ ?_
        rotate_left
        · intro w'
          go_simp
          with_reducible rfl
        rotate_left
        · simp only [Act.put, List.setIfInBounds_toArray, List.set_cons_zero, List.set_cons_succ, i64_w, i32_w]
          rfl
        refine pure_ (i := 24) (N := some 82) (v := ?_) (a' := ?_) #[true, true, true, true, true, true, true, true, true, true, true, true, true, true, true, true, true, true, true, true, true, true, true, true, true, false, false, false] rfl rfl (by kernel_rfl) (fun _ _ _ h => h) (Or.inl ⟨by rfl, ?_⟩) ?_ ?_
        rotate_left
        · intro w'
          go_simp
          with_reducible rfl
        rotate_left
        · simp only [Act.put, List.setIfInBounds_toArray, List.set_cons_zero, List.set_cons_succ, i64_w, i32_w]
          rfl
        refine one_ (i := 25) (N := some 83) #[true, true, true, true, true, true, true, true, true, true, true, true, true, true, true, true, true, true, true, true, true, true, true, true, true, true, false, false] rfl rfl (by kernel_rfl) (by decide) (fun K hK => ?_)
        refine goes_ Tryz.func15 (by kernel_rfl) rfl #[] (by rfl) rfl rfl (by simp only [List.map_toArray, List.map_cons, List.map_nil]) ?_
        with_reducible refine (HAL.out _ (below_step HB6.out HBe.out)).mono ?_
        rintro e wa ⟨rfl, hba⟩
        refine ⟨_, rfl, ?_⟩
        have HBl : Hid (Below W6.heap.size W6 wa) := Lib.hid (below_step HBe.out hba)
        refine hK.out _ _ ⟨c_of (blk_bel HBl.out HX6.out) 0 (v := .string x.f0.f0) rfl, c_of (blk_bel HBl.out HX6.out) 1 (v := .string x.f0.f1) rfl, c_of (blk_bel HBl.out HX6.out) 2 (v := .string x.f0.f2) rfl, c_of (blk_bel HBl.out HX6.out) 3 (v := .string x.f0.f3) rfl, c_of (blk_bel HBl.out HX6.out) 4 (v := .slice r.A4 x.f0.f4.length r.c4) rfl, c_of (blk_bel HBl.out HX6.out) 5 (v := .slice r.A5 x.f0.f5.length r.c5) rfl, c_of (blk_bel HBl.out HX6.out) 6 (v := .int .i64 x.f1.f0) rfl, c_of (blk_bel HBl.out HX6.out) 7 (v := .slice r.A7 x.f1.f1.length r.c7) rfl, c_of (blk_bel HBl.out HX6.out) 8 (v := .slice r.A8 x.f1.f2.length r.c8) rfl, c_of (blk_bel HBl.out HX6.out) 9 (v := .int .i64 x.f2) rfl, c_of (blk_bel HBl.out HX6.out) 10 (v := .int .i64 x.f3) rfl, c_of (blk_bel HBl.out HQ6.out) 0 (v := .string q.f0) rfl, c_of (blk_bel HBl.out HQ6.out) 1 (v := .string q.f1) rfl, c_of (blk_bel HBl.out HQ6.out) 2 (v := .string q.f2) rfl, c_of (blk_bel HBl.out HQ6.out) 3 (v := .string q.f3) rfl, c_of (blk_bel HBl.out HQ6.out) 4 (v := .slice A4 q.f4.length c4) rfl, c_of (blk_bel HBl.out HQ6.out) 5 (v := .slice A5 q.f5.length c5) rfl, c_of (blk_bel HBl.out HC6.out) 2 (v := .bool (C.fl 2)) rfl, c_of (blk_bel HBl.out HC6.out) 7 (v := .int .i64 (C.nm 7)) rfl⟩ (fun hHeld => ?_)
        clear hK K
        refine norm_ (a' := ?_) ?_ ?_
        rotate_left
        · show Act.put _ (some 83) _ = _
          simp only [Act.put, List.setIfInBounds_toArray, List.set_cons_zero, List.set_cons_succ, i64_w, i32_w]
          rfl
        refine pure_ (i := 26) (N := some 84) (v := ?_) (a' := ?_) #[true, true, true, true, true, true, true, true, true, true, true, true, true, true, true, true, true, true, true, true, true, true, true, true, true, true, true, false] rfl rfl (by kernel_rfl) (fun _ _ _ h => h) (Or.inl ⟨by rfl, ?_⟩) ?_ ?_
        rotate_left
        · intro w'
          go_simp
          with_reducible rfl
        rotate_left
        · simp only [Act.put, List.setIfInBounds_toArray, List.set_cons_zero, List.set_cons_succ, i64_w, i32_w]
          rfl
        refine pure_ (i := 27) (N := some 6) (v := ?_) (a' := ?_) #[true, true, true, true, true, true, true, true, true, true, true, true, true, true, true, true, true, true, true, true, true, true, true, true, true, true, true, true] rfl rfl (by kernel_rfl) (fun _ _ _ h => h) (Or.inl ⟨by rfl, ?_⟩) ?_ ?_
        rotate_left
        · intro w'
          go_simp
          with_reducible rfl
        rotate_left
        · simp only [Act.put, List.setIfInBounds_toArray, List.set_cons_zero, List.set_cons_succ, i64_w, i32_w]
          rfl
        refine done_ (by kernel_rfl) ?_
        have HBz := Lib.hid (below_step HB6.out HBl.out)
        go_wp2
        go_ret
        exact ⟨rfl, HBz.out⟩
      | false =>
        by_cases e7 : C.nm 7 < 0
        · have t7 : decide (C.nm 7 < 0) = true := decide_eq_true e7
          clear e7 hst
          refine start_ (n := 28) (S := fun w' => w'.cell? ⟨a_, 2, none⟩ = some (.bool (C.fl 2)) ∧ w'.cell? ⟨a_, 7, none⟩ = some (.int .i64 (C.nm 7))) (ds := []) #[false, false, false, false, false, false, false, false, false, false, false, false, false, false, false, false, false, false, false, false, false, false, false, false, false, false, false, false] (by kernel_rfl) rfl rfl ⟨c_of (blk_bel (below_drew (Below.refl _ _)) HC6.out) 2 (v := .bool (C.fl 2)) rfl, c_of (blk_bel (below_drew (Below.refl _ _)) HC6.out) 7 (v := .int .i64 (C.nm 7)) rfl⟩ (fun hHeld => ?_)
          refine pure_ (i := 0) (N := some 58) (v := ?_) (a' := ?_) #[true, false, false, false, false, false, false, false, false, false, false, false, false, false, false, false, false, false, false, false, false, false, false, false, false, false, false, false] rfl rfl (by kernel_rfl) (fun _ _ _ h => h) (Or.inl ⟨by rfl, ?_⟩) ?_ ?_
          rotate_left
          · intro w'
            go_simp
            with_reducible rfl
          rotate_left
          · simp only [Act.put, List.setIfInBounds_toArray, List.set_cons_zero, List.set_cons_succ, i64_w, i32_w]
            rfl
          refine pure_ (i := 1) (N := some 59) (v := ?_) (a' := ?_) #[true, true, false, false, false, false, false, false, false, false, false, false, false, false, false, false, false, false, false, false, false, false, false, false, false, false, false, false] rfl rfl (by kernel_rfl) (fun _ _ _ h => h) (Or.inl ⟨by rfl, ?_⟩) ?_ ?_
          rotate_left
          · intro w'
            go_simp
            with_reducible rfl
          rotate_left
          · simp only [Act.put, List.setIfInBounds_toArray, List.set_cons_zero, List.set_cons_succ, i64_w, i32_w]
            rfl
          refine pure_ (i := 2) (N := some 60) (v := ?_) (a' := ?_) #[true, true, true, false, false, false, false, false, false, false, false, false, false, false, false, false, false, false, false, false, false, false, false, false, false, false, false, false] rfl rfl (by kernel_rfl) (fun _ _ _ h => h) (Or.inl ⟨by rfl, ?_⟩) ?_ ?_
          rotate_left
          · intro w'
            go_simp
            with_reducible rfl
          rotate_left
          · simp only [Act.put, List.setIfInBounds_toArray, List.set_cons_zero, List.set_cons_succ, i64_w, i32_w]
            rfl
          refine pure_ (i := 3) (N := some 61) (v := ?_) (a' := ?_) #[true, true, true, true, false, false, false, false, false, false, false, false, false, false, false, false, false, false, false, false, false, false, false, false, false, false, false, false] rfl rfl (by kernel_rfl) (fun _ _ _ h => h) (Or.inl ⟨by rfl, ?_⟩) ?_ ?_
          rotate_left
          · intro w'
            go_simp
            with_reducible rfl
          rotate_left
          · simp only [Act.put, List.setIfInBounds_toArray, List.set_cons_zero, List.set_cons_succ, i64_w, i32_w]
            rfl
          refine take_ (i := 4) (N := some 62) (v := ?_) (a' := ?_) #[true, true, true, true, true, false, false, false, false, false, false, false, false, false, false, false, false, false, false, false, false, false, false, false, false, false, false, false] rfl rfl (by kernel_rfl) (fun _ _ _ h => h) (Or.inl ⟨by rfl, ?_⟩) hHeld ?_ ?_
          rotate_left
          · rintro w' ⟨s0, s1⟩
            go_simp
            with_reducible rfl
          rotate_left
          · simp only [Act.put, List.setIfInBounds_toArray, List.set_cons_zero, List.set_cons_succ, i64_w, i32_w]
            rfl
          refine pure_ (i := 5) (N := some 63) (v := ?_) (a' := ?_) #[true, true, true, true, true, true, false, false, false, false, false, false, false, false, false, false, false, false, false, false, false, false, false, false, false, false, false, false] rfl rfl (by kernel_rfl) (fun _ _ _ h => h) (Or.inl ⟨by rfl, ?_⟩) ?_ ?_
          rotate_left
          · intro w'
            go_simp
            with_reducible rfl
          rotate_left
          · simp only [Act.put, List.setIfInBounds_toArray, List.set_cons_zero, List.set_cons_succ, i64_w, i32_w]
            rfl
          refine pure_ (i := 6) (N := some 64) (v := ?_) (a' := ?_) #[true, true, true, true, true, true, true, false, false, false, false, false, false, false, false, false, false, false, false, false, false, false, false, false, false, false, false, false] rfl rfl (by kernel_rfl) (fun _ _ _ h => h) (Or.inl ⟨by rfl, ?_⟩) ?_ ?_
          rotate_left
          · intro w'
            go_simp
            with_reducible rfl
          rotate_left
          · simp only [Act.put, List.setIfInBounds_toArray, List.set_cons_zero, List.set_cons_succ, i64_w, i32_w]
            rfl
          refine pure_ (i := 7) (N := some 65) (v := ?_) (a' := ?_) #[true, true, true, true, true, true, true, true, false, false, false, false, false, false, false, false, false, false, false, false, false, false, false, false, false, false, false, false] rfl rfl (by kernel_rfl) (fun _ _ _ h => h) (Or.inl ⟨by rfl, ?_⟩) ?_ ?_
          rotate_left
          · intro w'
            go_simp
            with_reducible rfl
          rotate_left
          · simp only [Act.put, List.setIfInBounds_toArray, List.set_cons_zero, List.set_cons_succ, i64_w, i32_w]
            rfl
          refine take_ (i := 8) (N := some 66) (v := ?_) (a' := ?_) #[true, true, true, true, true, true, true, true, true, false, false, false, false, false, false, false, false, false, false, false, false, false, false, false, false, false, false, false] rfl rfl (by kernel_rfl) (fun _ _ _ h => h) (Or.inl ⟨by rfl, ?_⟩) hHeld ?_ ?_
          rotate_left
          · rintro w' ⟨s0, s1⟩
            go_simp
            with_reducible rfl
          rotate_left
          · simp only [Act.put, List.setIfInBounds_toArray, List.set_cons_zero, List.set_cons_succ, i64_w, i32_w]
            rfl
          refine pure_ (i := 9) (N := some 67) (v := ?_) (a' := ?_) #[true, true, true, true, true, true, true, true, true, true, false, false, false, false, false, false, false, false, false, false, false, false, false, false, false, false, false, false] rfl rfl (by kernel_rfl) (fun _ _ _ h => h) (Or.inl ⟨by rfl, ?_⟩) ?_ ?_
          rotate_left
          · intro w'
            go_simp
            with_reducible rfl
          rotate_left
          · simp only [Act.put, List.setIfInBounds_toArray, List.set_cons_zero, List.set_cons_succ, i64_w, i32_w]
            rfl
          refine pure_ (i := 10) (N := some 68) (v := ?_) (a' := ?_) #[true, true, true, true, true, true, true, true, true, true, true, false, false, false, false, false, false, false, false, false, false, false, false, false, false, false, false, false] rfl rfl (by kernel_rfl) (fun _ _ _ h => h) (Or.inl ⟨by rfl, ?_⟩) ?_ ?_
          rotate_left
          · intro w'
            go_simp
            with_reducible rfl
          rotate_left
          · simp only [Act.put, List.setIfInBounds_toArray, List.set_cons_zero, List.set_cons_succ, i64_w, i32_w]
            rfl
          refine pure_ (i := 11) (N := some 69) (v := ?_) (a' := ?_) #[true, true, true, true, true, true, true, true, true, true, true, true, false, false, false, false, false, false, false, false, false, false, false, false, false, false, false, false] rfl rfl (by kernel_rfl) (fun _ _ _ h => h) (Or.inl ⟨by rfl, ?_⟩) ?_ ?_
          rotate_left
          · intro w'
            go_simp
            with_reducible rfl
          rotate_left
          · simp only [Act.put, List.setIfInBounds_toArray, List.set_cons_zero, List.set_cons_succ, i64_w, i32_w]
            rfl
          refine pure_ (i := 12) (N := some 70) (v := ?_) (a' := ?_) #[true, true, true, true, true, true, true, true, true, true, true, true, true, false, false, false, false, false, false, false, false, false, false, false, false, false, false, false] rfl rfl (by kernel_rfl) (fun _ _ _ h => h) (Or.inl ⟨by rfl, ?_⟩) ?_ ?_
          rotate_left
          · intro w'
            go_simp
            with_reducible rfl
          rotate_left
          · simp only [Act.put, List.setIfInBounds_toArray, List.set_cons_zero, List.set_cons_succ, i64_w, i32_w]
            rfl
          refine pure_ (i := 13) (N := some 71) (v := undef) (a' := ?_) #[true, true, true, true, true, true, true, true, true, true, true, true, true, true, false, false, false, false, false, false, false, false, false, false, false, false, false, false] rfl rfl (by kernel_rfl) (fun _ _ _ h => h) (Or.inr ⟨by rfl, rfl⟩) ?_ ?_
          rotate_left
          · simp only [Act.put, List.setIfInBounds_toArray, List.set_cons_zero, List.set_cons_succ, i64_w, i32_w]
            rfl
          refine pure_ (i := 14) (N := some 72) (v := undef) (a' := ?_) #[true, true, true, true, true, true, true, true, true, true, true, true, true, true, true, false, false, false, false, false, false, false, false, false, false, false, false, false] rfl rfl (by kernel_rfl) (fun _ _ _ h => h) (Or.inr ⟨by rfl, rfl⟩) ?_ ?_
          rotate_left
          · simp only [Act.put, List.setIfInBounds_toArray, List.set_cons_zero, List.set_cons_succ, i64_w, i32_w]
            rfl
          refine pure_ (i := 15) (N := some 73) (v := undef) (a' := ?_) #[true, true, true, true, true, true, true, true, true, true, true, true, true, true, true, true, false, false, false, false, false, false, false, false, false, false, false, false] rfl rfl (by kernel_rfl) (fun _ _ _ h => h) (Or.inr ⟨by rfl, rfl⟩) ?_ ?_
          rotate_left
          · simp only [Act.put, List.setIfInBounds_toArray, List.set_cons_zero, List.set_cons_succ, i64_w, i32_w]
            rfl
          refine pure_ (i := 16) (N := some 74) (v := undef) (a' := ?_) #[true, true, true, true, true, true, true, true, true, true, true, true, true, true, true, true, true, false, false, false, false, false, false, false, false, false, false, false] rfl rfl (by kernel_rfl) (fun _ _ _ h => h) (Or.inr ⟨by rfl, rfl⟩) ?_ ?_
          rotate_left
          · simp only [Act.put, List.setIfInBounds_toArray, List.set_cons_zero, List.set_cons_succ, i64_w, i32_w]
            rfl
          refine pure_ (i := 17) (N := some 75) (v := undef) (a' := ?_) #[true, true, true, true, true, true, true, true, true, true, true, true, true, true, true, true, true, true, false, false, false, false, false, false, false, false, false, false] rfl rfl (by kernel_rfl) (fun _ _ _ h => h) (Or.inr ⟨by rfl, rfl⟩) ?_ ?_
          rotate_left
          · simp only [Act.put, List.setIfInBounds_toArray, List.set_cons_zero, List.set_cons_succ, i64_w, i32_w]
            rfl
          refine pure_ (i := 18) (N := some 76) (v := undef) (a' := ?_) #[true, true, true, true, true, true, true, true, true, true, true, true, true, true, true, true, true, true, true, false, false, false, false, false, false, false, false, false] rfl rfl (by kernel_rfl) (fun _ _ _ h => h) (Or.inr ⟨by rfl, rfl⟩) ?_ ?_
          rotate_left
          · simp only [Act.put, List.setIfInBounds_toArray, List.set_cons_zero, List.set_cons_succ, i64_w, i32_w]
            rfl
          refine pure_ (i := 19) (N := some 77) (v := undef) (a' := ?_) #[true, true, true, true, true, true, true, true, true, true, true, true, true, true, true, true, true, true, true, true, false, false, false, false, false, false, false, false] rfl rfl (by kernel_rfl) (fun _ _ _ h => h) (Or.inr ⟨by rfl, rfl⟩) ?_ ?_
          rotate_left
          · simp only [Act.put, List.setIfInBounds_toArray, List.set_cons_zero, List.set_cons_succ, i64_w, i32_w]
            rfl
          refine pure_ (i := 20) (N := some 78) (v := undef) (a' := ?_) #[true, true, true, true, true, true, true, true, true, true, true, true, true, true, true, true, true, true, true, true, true, false, false, false, false, false, false, false] rfl rfl (by kernel_rfl) (fun _ _ _ h => h) (Or.inr ⟨by rfl, rfl⟩) ?_ ?_
          rotate_left
          · simp only [Act.put, List.setIfInBounds_toArray, List.set_cons_zero, List.set_cons_succ, i64_w, i32_w]
            rfl
          refine pure_ (i := 21) (N := some 79) (v := undef) (a' := ?_) #[true, true, true, true, true, true, true, true, true, true, true, true, true, true, true, true, true, true, true, true, true, true, false, false, false, false, false, false] rfl rfl (by kernel_rfl) (fun _ _ _ h => h) (Or.inr ⟨by rfl, rfl⟩) ?_ ?_
          rotate_left
          · simp only [Act.put, List.setIfInBounds_toArray, List.set_cons_zero, List.set_cons_succ, i64_w, i32_w]
            rfl
          refine pure_ (i := 22) (N := some 80) (v := undef) (a' := ?_) #[true, true, true, true, true, true, true, true, true, true, true, true, true, true, true, true, true, true, true, true, true, true, true, false, false, false, false, false] rfl rfl (by kernel_rfl) (fun _ _ _ h => h) (Or.inr ⟨by rfl, rfl⟩) ?_ ?_
          rotate_left
          · simp only [Act.put, List.setIfInBounds_toArray, List.set_cons_zero, List.set_cons_succ, i64_w, i32_w]
            rfl
          refine pure_ (i := 23) (N := some 81) (v := ?_) (a' := ?_) #[true, true, true, true, true, true, true, true, true, true, true, true, true, true, true, true, true, true, true, true, true, true, true, true, false, false, false, false] rfl rfl (by kernel_rfl) (fun _ _ _ h => h) (Or.inl ⟨by rfl, ?_⟩) ?_ ?_
          rotate_left
          · intro w'
            go_simp
            with_reducible rfl
          rotate_left
          · simp only [Act.put, List.setIfInBounds_toArray, List.set_cons_zero, List.set_cons_succ, i64_w, i32_w]
            rfl
          refine pure_ (i := 24) (N := some 82) (v := ?_) (a' := ?_) #[true, true, true, true, true, true, true, true, true, true, true, true, true, true, true, true, true, true, true, true, true, true, true, true, true, false, false, false] rfl rfl (by kernel_rfl) (fun _ _ _ h => h) (Or.inl ⟨by rfl, ?_⟩) ?_ ?_
          rotate_left
          · intro w'
            go_simp
            with_reducible rfl
          rotate_left
          · simp only [Act.put, List.setIfInBounds_toArray, List.set_cons_zero, List.set_cons_succ, i64_w, i32_w]
            rfl
          refine one_ (i := 25) (N := some 83) #[true, true, true, true, true, true, true, true, true, true, true, true, true, true, true, true, true, true, true, true, true, true, true, true, true, true, false, false] rfl rfl (by kernel_rfl) (by decide) (fun K hK => ?_)
          refine goes_ Tryz.func15 (by kernel_rfl) rfl #[] (by rfl) rfl rfl (by simp only [List.map_toArray, List.map_cons, List.map_nil]) ?_
          with_reducible refine (HAL.out _ (below_step HB6.out (below_drew (Below.refl _ _)))).mono ?_
          rintro e wa ⟨rfl, hba⟩
          refine ⟨_, rfl, ?_⟩
          have HBl : Hid (Below W6.heap.size W6 wa) := Lib.hid (below_step (below_drew (Below.refl _ _)) hba)
          refine hK.out _ _ ⟨c_of (blk_bel HBl.out HC6.out) 2 (v := .bool (C.fl 2)) rfl, c_of (blk_bel HBl.out HC6.out) 7 (v := .int .i64 (C.nm 7)) rfl⟩ (fun hHeld => ?_)
          clear hK K
          refine norm_ (a' := ?_) ?_ ?_
          rotate_left
          · show Act.put _ (some 83) _ = _
            simp only [Act.put, List.setIfInBounds_toArray, List.set_cons_zero, List.set_cons_succ, i64_w, i32_w]
            rfl
          refine pure_ (i := 26) (N := some 84) (v := ?_) (a' := ?_) #[true, true, true, true, true, true, true, true, true, true, true, true, true, true, true, true, true, true, true, true, true, true, true, true, true, true, true, false] rfl rfl (by kernel_rfl) (fun _ _ _ h => h) (Or.inl ⟨by rfl, ?_⟩) ?_ ?_
          rotate_left
          · intro w'
            go_simp
            with_reducible rfl
          rotate_left
          · simp only [Act.put, List.setIfInBounds_toArray, List.set_cons_zero, List.set_cons_succ, i64_w, i32_w]
            rfl
          refine pure_ (i := 27) (N := some 6) (v := ?_) (a' := ?_) #[true, true, true, true, true, true, true, true, true, true, true, true, true, true, true, true, true, true, true, true, true, true, true, true, true, true, true, true] rfl rfl (by kernel_rfl) (fun _ _ _ h => h) (Or.inl ⟨by rfl, ?_⟩) ?_ ?_
          rotate_left
          · intro w'
            go_simp
            with_reducible rfl
          rotate_left
          · simp only [Act.put, List.setIfInBounds_toArray, List.set_cons_zero, List.set_cons_succ, i64_w, i32_w]
            rfl
          refine done_ (by kernel_rfl) ?_
          have HBz := Lib.hid (below_step HB6.out HBl.out)
          go_wp2
          go_ret
          exact ⟨rfl, HBz.out⟩
        · have t7 : decide (C.nm 7 < 0) = false := decide_eq_false e7
          have hl := HLAW.out.2 (by omega) (.inr (by omega))
          have v0 : (v == 0) = true := by rw [hl.1]; rfl
          have v1 := hl.2
          subst v1
          clear hl hst
          clear e7
          refine start_ (n := 28) (S := fun w' => w'.cell? ⟨w.heap.size, 0, none⟩ = some (.string x.f0.f0) ∧ w'.cell? ⟨w.heap.size, 1, none⟩ = some (.string x.f0.f1) ∧ w'.cell? ⟨w.heap.size, 2, none⟩ = some (.string x.f0.f2) ∧ w'.cell? ⟨w.heap.size, 3, none⟩ = some (.string x.f0.f3) ∧ w'.cell? ⟨w.heap.size, 4, none⟩ = some (.slice r.A4 x.f0.f4.length r.c4) ∧ w'.cell? ⟨w.heap.size, 5, none⟩ = some (.slice r.A5 x.f0.f5.length r.c5) ∧ w'.cell? ⟨w.heap.size, 6, none⟩ = some (.int .i64 x.f1.f0) ∧ w'.cell? ⟨w.heap.size, 7, none⟩ = some (.slice r.A7 x.f1.f1.length r.c7) ∧ w'.cell? ⟨w.heap.size, 8, none⟩ = some (.slice r.A8 x.f1.f2.length r.c8) ∧ w'.cell? ⟨w.heap.size, 9, none⟩ = some (.int .i64 x.f2) ∧ w'.cell? ⟨w.heap.size, 10, none⟩ = some (.int .i64 x.f3) ∧ w'.cell? ⟨w.heap.size + 1, 0, none⟩ = some (.string q.f0) ∧ w'.cell? ⟨w.heap.size + 1, 1, none⟩ = some (.string q.f1) ∧ w'.cell? ⟨w.heap.size + 1, 2, none⟩ = some (.string q.f2) ∧ w'.cell? ⟨w.heap.size + 1, 3, none⟩ = some (.string q.f3) ∧ w'.cell? ⟨w.heap.size + 1, 4, none⟩ = some (.slice A4 q.f4.length c4) ∧ w'.cell? ⟨w.heap.size + 1, 5, none⟩ = some (.slice A5 q.f5.length c5) ∧ w'.cell? ⟨a_, 2, none⟩ = some (.bool (C.fl 2)) ∧ w'.cell? ⟨a_, 7, none⟩ = some (.int .i64 (C.nm 7))) (ds := []) #[false, false, false, false, false, false, false, false, false, false, false, false, false, false, false, false, false, false, false, false, false, false, false, false, false, false, false, false] (by kernel_rfl) rfl rfl ⟨c_of (blk_bel (below_drew (Below.refl _ _)) HX6.out) 0 (v := .string x.f0.f0) rfl, c_of (blk_bel (below_drew (Below.refl _ _)) HX6.out) 1 (v := .string x.f0.f1) rfl, c_of (blk_bel (below_drew (Below.refl _ _)) HX6.out) 2 (v := .string x.f0.f2) rfl, c_of (blk_bel (below_drew (Below.refl _ _)) HX6.out) 3 (v := .string x.f0.f3) rfl, c_of (blk_bel (below_drew (Below.refl _ _)) HX6.out) 4 (v := .slice r.A4 x.f0.f4.length r.c4) rfl, c_of (blk_bel (below_drew (Below.refl _ _)) HX6.out) 5 (v := .slice r.A5 x.f0.f5.length r.c5) rfl, c_of (blk_bel (below_drew (Below.refl _ _)) HX6.out) 6 (v := .int .i64 x.f1.f0) rfl, c_of (blk_bel (below_drew (Below.refl _ _)) HX6.out) 7 (v := .slice r.A7 x.f1.f1.length r.c7) rfl, c_of (blk_bel (below_drew (Below.refl _ _)) HX6.out) 8 (v := .slice r.A8 x.f1.f2.length r.c8) rfl, c_of (blk_bel (below_drew (Below.refl _ _)) HX6.out) 9 (v := .int .i64 x.f2) rfl, c_of (blk_bel (below_drew (Below.refl _ _)) HX6.out) 10 (v := .int .i64 x.f3) rfl, c_of (blk_bel (below_drew (Below.refl _ _)) HQ6.out) 0 (v := .string q.f0) rfl, c_of (blk_bel (below_drew (Below.refl _ _)) HQ6.out) 1 (v := .string q.f1) rfl, c_of (blk_bel (below_drew (Below.refl _ _)) HQ6.out) 2 (v := .string q.f2) rfl, c_of (blk_bel (below_drew (Below.refl _ _)) HQ6.out) 3 (v := .string q.f3) rfl, c_of (blk_bel (below_drew (Below.refl _ _)) HQ6.out) 4 (v := .slice A4 q.f4.length c4) rfl, c_of (blk_bel (below_drew (Below.refl _ _)) HQ6.out) 5 (v := .slice A5 q.f5.length c5) rfl, c_of (blk_bel (below_drew (Below.refl _ _)) HC6.out) 2 (v := .bool (C.fl 2)) rfl, c_of (blk_bel (below_drew (Below.refl _ _)) HC6.out) 7 (v := .int .i64 (C.nm 7)) rfl⟩ (fun hHeld => ?_)
          refine pure_ (i := 0) (N := some 58) (v := ?_) (a' := ?_) #[true, false, false, false, false, false, false, false, false, false, false, false, false, false, false, false, false, false, false, false, false, false, false, false, false, false, false, false] rfl rfl (by kernel_rfl) (fun _ _ _ h => h) (Or.inl ⟨by rfl, ?_⟩) ?_ ?_
          rotate_left
          · intro w'
            go_simp
            with_reducible rfl
          rotate_left
          · simp only [Act.put, List.setIfInBounds_toArray, List.set_cons_zero, List.set_cons_succ, i64_w, i32_w]
            rfl
          refine pure_ (i := 1) (N := some 59) (v := ?_) (a' := ?_) #[true, true, false, false, false, false, false, false, false, false, false, false, false, false, false, false, false, false, false, false, false, false, false, false, false, false, false, false] rfl rfl (by kernel_rfl) (fun _ _ _ h => h) (Or.inl ⟨by rfl, ?_⟩) ?_ ?_
          rotate_left
          · intro w'
            go_simp
            with_reducible rfl
          rotate_left
          · simp only [Act.put, List.setIfInBounds_toArray, List.set_cons_zero, List.set_cons_succ, i64_w, i32_w]
            rfl
          refine pure_ (i := 2) (N := some 60) (v := ?_) (a' := ?_) #[true, true, true, false, false, false, false, false, false, false, false, false, false, false, false, false, false, false, false, false, false, false, false, false, false, false, false, false] rfl rfl (by kernel_rfl) (fun _ _ _ h => h) (Or.inl ⟨by rfl, ?_⟩) ?_ ?_
          rotate_left
          · intro w'
            go_simp
            with_reducible rfl
          rotate_left
          · simp only [Act.put, List.setIfInBounds_toArray, List.set_cons_zero, List.set_cons_succ, i64_w, i32_w]
            rfl
          refine pure_ (i := 3) (N := some 61) (v := ?_) (a' := ?_) #[true, true, true, true, false, false, false, false, false, false, false, false, false, false, false, false, false, false, false, false, false, false, false, false, false, false, false, false] rfl rfl (by kernel_rfl) (fun _ _ _ h => h) (Or.inl ⟨by rfl, ?_⟩) ?_ ?_
          rotate_left
          · intro w'
            go_simp
            with_reducible rfl
          rotate_left
          · simp only [Act.put, List.setIfInBounds_toArray, List.set_cons_zero, List.set_cons_succ, i64_w, i32_w]
            rfl
          refine take_ (i := 4) (N := some 62) (v := ?_) (a' := ?_) #[true, true, true, true, true, false, false, false, false, false, false, false, false, false, false, false, false, false, false, false, false, false, false, false, false, false, false, false] rfl rfl (by kernel_rfl) (fun _ _ _ h => h) (Or.inl ⟨by rfl, ?_⟩) hHeld ?_ ?_
          rotate_left
          · rintro w' ⟨s0, s1, s2, s3, s4, s5, s6, s7, s8, s9, s10, s11, s12, s13, s14, s15, s16, s17, s18⟩
            go_simp
            with_reducible rfl
          rotate_left
          · simp only [Act.put, List.setIfInBounds_toArray, List.set_cons_zero, List.set_cons_succ, i64_w, i32_w]
            rfl
          refine pure_ (i := 5) (N := some 63) (v := ?_) (a' := ?_) #[true, true, true, true, true, true, false, false, false, false, false, false, false, false, false, false, false, false, false, false, false, false, false, false, false, false, false, false] rfl rfl (by kernel_rfl) (fun _ _ _ h => h) (Or.inl ⟨by rfl, ?_⟩) ?_ ?_
          rotate_left
          · intro w'
            go_simp
            with_reducible rfl
          rotate_left
          · simp only [Act.put, List.setIfInBounds_toArray, List.set_cons_zero, List.set_cons_succ, i64_w, i32_w]
            rfl
          refine pure_ (i := 6) (N := some 64) (v := ?_) (a' := ?_) #[true, true, true, true, true, true, true, false, false, false, false, false, false, false, false, false, false, false, false, false, false, false, false, false, false, false, false, false] rfl rfl (by kernel_rfl) (fun _ _ _ h => h) (Or.inl ⟨by rfl, ?_⟩) ?_ ?_
          rotate_left
          · intro w'
            go_simp
            with_reducible rfl
          rotate_left
          · simp only [Act.put, List.setIfInBounds_toArray, List.set_cons_zero, List.set_cons_succ, i64_w, i32_w]
            rfl
          refine pure_ (i := 7) (N := some 65) (v := ?_) (a' := ?_) #[true, true, true, true, true, true, true, true, false, false, false, false, false, false, false, false, false, false, false, false, false, false, false, false, false, false, false, false] rfl rfl (by kernel_rfl) (fun _ _ _ h => h) (Or.inl ⟨by rfl, ?_⟩) ?_ ?_
          rotate_left
          · intro w'
            go_simp
            with_reducible rfl
          rotate_left
          · simp only [Act.put, List.setIfInBounds_toArray, List.set_cons_zero, List.set_cons_succ, i64_w, i32_w]
            rfl
          refine take_ (i := 8) (N := some 66) (v := ?_) (a' := ?_) #[true, true, true, true, true, true, true, true, true, false, false, false, false, false, false, false, false, false, false, false, false, false, false, false, false, false, false, false] rfl rfl (by kernel_rfl) (fun _ _ _ h => h) (Or.inl ⟨by rfl, ?_⟩) hHeld ?_ ?_
          rotate_left
          · rintro w' ⟨s0, s1, s2, s3, s4, s5, s6, s7, s8, s9, s10, s11, s12, s13, s14, s15, s16, s17, s18⟩
            go_simp
            with_reducible rfl
          rotate_left
          · simp only [Act.put, List.setIfInBounds_toArray, List.set_cons_zero, List.set_cons_succ, i64_w, i32_w]
            rfl
          refine pure_ (i := 9) (N := some 67) (v := ?_) (a' := ?_) #[true, true, true, true, true, true, true, true, true, true, false, false, false, false, false, false, false, false, false, false, false, false, false, false, false, false, false, false] rfl rfl (by kernel_rfl) (fun _ _ _ h => h) (Or.inl ⟨by rfl, ?_⟩) ?_ ?_
          rotate_left
          · intro w'
            go_simp
            with_reducible rfl
          rotate_left
          · simp only [Act.put, List.setIfInBounds_toArray, List.set_cons_zero, List.set_cons_succ, i64_w, i32_w]
            rfl
          refine pure_ (i := 10) (N := some 68) (v := ?_) (a' := ?_) #[true, true, true, true, true, true, true, true, true, true, true, false, false, false, false, false, false, false, false, false, false, false, false, false, false, false, false, false] rfl rfl (by kernel_rfl) (fun _ _ _ h => h) (Or.inl ⟨by rfl, ?_⟩) ?_ ?_
          rotate_left
          · intro w'
            go_simp
            with_reducible rfl
          rotate_left
          · simp only [Act.put, List.setIfInBounds_toArray, List.set_cons_zero, List.set_cons_succ, i64_w, i32_w]
            rfl
          refine pure_ (i := 11) (N := some 69) (v := ?_) (a' := ?_) #[true, true, true, true, true, true, true, true, true, true, true, true, false, false, false, false, false, false, false, false, false, false, false, false, false, false, false, false] rfl rfl (by kernel_rfl) (fun _ _ _ h => h) (Or.inl ⟨by rfl, ?_⟩) ?_ ?_
          rotate_left
          · intro w'
            go_simp
            with_reducible rfl
          rotate_left
          · simp only [Act.put, List.setIfInBounds_toArray, List.set_cons_zero, List.set_cons_succ, i64_w, i32_w]
            rfl
          refine pure_ (i := 12) (N := some 70) (v := ?_) (a' := ?_) #[true, true, true, true, true, true, true, true, true, true, true, true, true, false, false, false, false, false, false, false, false, false, false, false, false, false, false, false] rfl rfl (by kernel_rfl) (fun _ _ _ h => h) (Or.inl ⟨by rfl, ?_⟩) ?_ ?_
          rotate_left
          · intro w'
            go_simp
            with_reducible rfl
          rotate_left
          · simp only [Act.put, List.setIfInBounds_toArray, List.set_cons_zero, List.set_cons_succ, i64_w, i32_w]
            rfl
          refine pure_ (i := 13) (N := some 71) (v := ?_) (a' := ?_) #[true, true, true, true, true, true, true, true, true, true, true, true, true, true, false, false, false, false, false, false, false, false, false, false, false, false, false, false] rfl rfl (by kernel_rfl) (fun _ _ _ h => h) (Or.inl ⟨by rfl, ?_⟩) ?_ ?_
          rotate_left
          · intro w'
            go_simp
            with_reducible rfl
          rotate_left
          · simp only [Act.put, List.setIfInBounds_toArray, List.set_cons_zero, List.set_cons_succ, i64_w, i32_w]
            rfl
          refine pure_ (i := 14) (N := some 72) (v := ?_) (a' := ?_) #[true, true, true, true, true, true, true, true, true, true, true, true, true, true, true, false, false, false, false, false, false, false, false, false, false, false, false, false] rfl rfl (by kernel_rfl) (fun _ _ _ h => h) (Or.inl ⟨by rfl, ?_⟩) ?_ ?_
          rotate_left
          · intro w'
            go_simp
            with_reducible rfl
          rotate_left
          · simp only [Act.put, List.setIfInBounds_toArray, List.set_cons_zero, List.set_cons_succ, i64_w, i32_w]
            rfl
          refine pure_ (i := 15) (N := some 73) (v := ?_) (a' := ?_) #[true, true, true, true, true, true, true, true, true, true, true, true, true, true, true, true, false, false, false, false, false, false, false, false, false, false, false, false] rfl rfl (by kernel_rfl) (fun _ _ _ h => h) (Or.inl ⟨by rfl, ?_⟩) ?_ ?_
          rotate_left
          · intro w'
            go_simp
            with_reducible rfl
          rotate_left
          · simp only [Act.put, List.setIfInBounds_toArray, List.set_cons_zero, List.set_cons_succ, i64_w, i32_w]
            rfl
          refine pure_ (i := 19) (N := some 77) (v := ?_) (a' := ?_) #[true, true, true, true, true, true, true, true, true, true, true, true, true, true, true, true, false, false, false, true, false, false, false, false, false, false, false, false] rfl rfl (by kernel_rfl) (fun _ _ _ h => h) (Or.inl ⟨by rfl, ?_⟩) ?_ ?_
          rotate_left
          · intro w'
            go_simp
            with_reducible rfl
          rotate_left
          · simp only [Act.put, List.setIfInBounds_toArray, List.set_cons_zero, List.set_cons_succ, i64_w, i32_w]
            rfl
          refine take_ (i := 16) (N := some 74) (v := ?_) (a' := ?_) #[true, true, true, true, true, true, true, true, true, true, true, true, true, true, true, true, true, false, false, true, false, false, false, false, false, false, false, false] rfl rfl (by kernel_rfl) (fun _ _ _ h => h) (Or.inl ⟨by rfl, ?_⟩) hHeld ?_ ?_
          rotate_left
          · rintro w' ⟨s0, s1, s2, s3, s4, s5, s6, s7, s8, s9, s10, s11, s12, s13, s14, s15, s16, s17, s18⟩
            go_simp
            with_reducible rfl
          rotate_left
          · simp only [Act.put, List.setIfInBounds_toArray, List.set_cons_zero, List.set_cons_succ, i64_w, i32_w]
            rfl
          refine take_ (i := 18) (N := some 76) (v := ?_) (a' := ?_) #[true, true, true, true, true, true, true, true, true, true, true, true, true, true, true, true, true, false, true, true, false, false, false, false, false, false, false, false] rfl rfl (by kernel_rfl) (fun _ _ _ h => h) (Or.inl ⟨by rfl, ?_⟩) hHeld ?_ ?_
          rotate_left
          · rintro w' ⟨s0, s1, s2, s3, s4, s5, s6, s7, s8, s9, s10, s11, s12, s13, s14, s15, s16, s17, s18⟩
            go_simp
            with_reducible rfl
          rotate_left
          · simp only [Act.put, List.setIfInBounds_toArray, List.set_cons_zero, List.set_cons_succ, i64_w, i32_w]
            rfl
          refine one_ (i := 17) (N := some 75) #[true, true, true, true, true, true, true, true, true, true, true, true, true, true, true, true, true, true, true, true, false, false, false, false, false, false, false, false] rfl rfl (by kernel_rfl) (by decide) (fun K hK => ?_)
          refine goes_ Tryz.func17 (by kernel_rfl) rfl #[.agg #[.string x.f0.f0, .string x.f0.f1, .string x.f0.f2, .string x.f0.f3, .slice r.A4 x.f0.f4.length r.c4, .slice r.A5 x.f0.f5.length r.c5, .int .i64 x.f1.f0, .slice r.A7 x.f1.f1.length r.c7, .slice r.A8 x.f1.f2.length r.c8, .int .i64 x.f2, .int .i64 x.f3]] (by rfl) rfl rfl (by simp only [List.map_toArray, List.map_cons, List.map_nil]; rfl) ?_
          with_reducible refine (theirs_q _ x r).mono ?_
          rintro e wt ⟨rfl, hbt⟩
          refine ⟨_, rfl, ?_⟩
          have HBt : Hid (Below W6.heap.size W6 wt) := Lib.hid (below_step (below_drew (Below.refl _ _)) hbt)
          refine hK.out _ _ ⟨c_of (blk_bel HBt.out HX6.out) 0 (v := .string x.f0.f0) rfl, c_of (blk_bel HBt.out HX6.out) 1 (v := .string x.f0.f1) rfl, c_of (blk_bel HBt.out HX6.out) 2 (v := .string x.f0.f2) rfl, c_of (blk_bel HBt.out HX6.out) 3 (v := .string x.f0.f3) rfl, c_of (blk_bel HBt.out HX6.out) 4 (v := .slice r.A4 x.f0.f4.length r.c4) rfl, c_of (blk_bel HBt.out HX6.out) 5 (v := .slice r.A5 x.f0.f5.length r.c5) rfl, c_of (blk_bel HBt.out HX6.out) 6 (v := .int .i64 x.f1.f0) rfl, c_of (blk_bel HBt.out HX6.out) 7 (v := .slice r.A7 x.f1.f1.length r.c7) rfl, c_of (blk_bel HBt.out HX6.out) 8 (v := .slice r.A8 x.f1.f2.length r.c8) rfl, c_of (blk_bel HBt.out HX6.out) 9 (v := .int .i64 x.f2) rfl, c_of (blk_bel HBt.out HX6.out) 10 (v := .int .i64 x.f3) rfl, c_of (blk_bel HBt.out HQ6.out) 0 (v := .string q.f0) rfl, c_of (blk_bel HBt.out HQ6.out) 1 (v := .string q.f1) rfl, c_of (blk_bel HBt.out HQ6.out) 2 (v := .string q.f2) rfl, c_of (blk_bel HBt.out HQ6.out) 3 (v := .string q.f3) rfl, c_of (blk_bel HBt.out HQ6.out) 4 (v := .slice A4 q.f4.length c4) rfl, c_of (blk_bel HBt.out HQ6.out) 5 (v := .slice A5 q.f5.length c5) rfl, c_of (blk_bel HBt.out HC6.out) 2 (v := .bool (C.fl 2)) rfl, c_of (blk_bel HBt.out HC6.out) 7 (v := .int .i64 (C.nm 7)) rfl⟩ (fun hHeld => ?_)
          clear hK K
          refine norm_ (a' := ?_) ?_ ?_
          rotate_left
          · show Act.put _ (some 75) _ = _
            simp only [Act.put, List.setIfInBounds_toArray, List.set_cons_zero, List.set_cons_succ, i64_w, i32_w]
            rfl
          refine one_ (i := 20) (N := some 78) #[true, true, true, true, true, true, true, true, true, true, true, true, true, true, true, true, true, true, true, true, true, false, false, false, false, false, false, false] rfl rfl (by kernel_rfl) (by decide) (fun K hK => ?_)
          refine goes_ Tryz.func24 (by kernel_rfl) rfl #[.agg #[.string x.f0.f0, .string x.f0.f1, .string x.f0.f2, .string x.f0.f3, .slice r.A4 x.f0.f4.length r.c4, .slice r.A5 x.f0.f5.length r.c5, .int .i64 x.f1.f0, .slice r.A7 x.f1.f1.length r.c7, .slice r.A8 x.f1.f2.length r.c8, .int .i64 x.f2, .int .i64 x.f3], .agg #[.string q.f0, .string q.f1, .string q.f2, .string q.f3, .slice A4 q.f4.length c4, .slice A5 q.f5.length c5], .int .i64 now] (by rfl) rfl rfl (by simp only [List.map_toArray, List.map_cons, List.map_nil]; rfl) ?_
          with_reducible refine (HER.out _ (below_step HB6.out HBt.out)).mono ?_
          rintro e we ⟨rfl, hbe⟩
          refine ⟨_, rfl, ?_⟩
          have HBe : Hid (Below W6.heap.size W6 we) := Lib.hid (below_step HBt.out hbe)
          refine hK.out _ _ ⟨c_of (blk_bel HBe.out HX6.out) 0 (v := .string x.f0.f0) rfl, c_of (blk_bel HBe.out HX6.out) 1 (v := .string x.f0.f1) rfl, c_of (blk_bel HBe.out HX6.out) 2 (v := .string x.f0.f2) rfl, c_of (blk_bel HBe.out HX6.out) 3 (v := .string x.f0.f3) rfl, c_of (blk_bel HBe.out HX6.out) 4 (v := .slice r.A4 x.f0.f4.length r.c4) rfl, c_of (blk_bel HBe.out HX6.out) 5 (v := .slice r.A5 x.f0.f5.length r.c5) rfl, c_of (blk_bel HBe.out HX6.out) 6 (v := .int .i64 x.f1.f0) rfl, c_of (blk_bel HBe.out HX6.out) 7 (v := .slice r.A7 x.f1.f1.length r.c7) rfl, c_of (blk_bel HBe.out HX6.out) 8 (v := .slice r.A8 x.f1.f2.length r.c8) rfl, c_of (blk_bel HBe.out HX6.out) 9 (v := .int .i64 x.f2) rfl, c_of (blk_bel HBe.out HX6.out) 10 (v := .int .i64 x.f3) rfl, c_of (blk_bel HBe.out HQ6.out) 0 (v := .string q.f0) rfl, c_of (blk_bel HBe.out HQ6.out) 1 (v := .string q.f1) rfl, c_of (blk_bel HBe.out HQ6.out) 2 (v := .string q.f2) rfl, c_of (blk_bel HBe.out HQ6.out) 3 (v := .string q.f3) rfl, c_of (blk_bel HBe.out HQ6.out) 4 (v := .slice A4 q.f4.length c4) rfl, c_of (blk_bel HBe.out HQ6.out) 5 (v := .slice A5 q.f5.length c5) rfl, c_of (blk_bel HBe.out HC6.out) 2 (v := .bool (C.fl 2)) rfl, c_of (blk_bel HBe.out HC6.out) 7 (v := .int .i64 (C.nm 7)) rfl⟩ (fun hHeld => ?_)
          clear hK K
          refine norm_ (a' := ?_) ?_ ?_
          rotate_left
          · show Act.put _ (some 78) _ = _
            simp only [Act.put, List.setIfInBounds_toArray, List.set_cons_zero, List.set_cons_succ, i64_w, i32_w]
            rfl
          refine pure_ (i := 21) (N := some 79) (v := ?_) (a' := ?_) #[true, true, true, true, true, true, true, true, true, true, true, true, true, true, true, true, true, true, true, true, true, true, false, false, false, false, false, false] rfl rfl (by kernel_rfl) (fun _ _ _ h => h) (Or.inl ⟨by rfl, ?_⟩) ?_ ?_
          rotate_left
          · intro w'
            go_simp
            with_reducible rfl
          rotate_left
          · simp only [Act.put, List.setIfInBounds_toArray, List.set_cons_zero, List.set_cons_succ, i64_w, i32_w]
            rfl
          refine pure_ (i := 22) (N := some 80) (v := ?_) (a' := ?_) #[true, true, true, true, true, true, true, true, true, true, true, true, true, true, true, true, true, true, true, true, true, true, true, false, false, false, false, false] rfl rfl (by kernel_rfl) (fun _ _ _ h => h) (Or.inl ⟨by rfl, ?_⟩) ?_ ?_
          rotate_left
          · intro w'
            go_simp
            with_reducible rfl
          rotate_left
          · simp only [Act.put, List.setIfInBounds_toArray, List.set_cons_zero, List.set_cons_succ, i64_w, i32_w]
            rfl
          refine pure_ (i := 23) (N := some 81) (v := ?_) (a' := ?_) #[true, true, true, true, true, true, true, true, true, true, true, true, true, true, true, true, true, true, true, true, true, true, true, true, false, false, false, false] rfl rfl (by kernel_rfl) (fun _ _ _ h => h) (Or.inl ⟨by rfl, ?_⟩) ?_ ?_
          rotate_left
          · intro w'
            go_simp
            with_reducible rfl
          rotate_left
          · simp only [Act.put, List.setIfInBounds_toArray, List.set_cons_zero, List.set_cons_succ, i64_w, i32_w]
            rfl
          refine pure_ (i := 24) (N := some 82) (v := ?_) (a' := ?_) #[true, true, true, true, true, true, true, true, true, true, true, true, true, true, true, true, true, true, true, true, true, true, true, true, true, false, false, false] rfl rfl (by kernel_rfl) (fun _ _ _ h => h) (Or.inl ⟨by rfl, ?_⟩) ?_ ?_
          rotate_left
          · intro w'
            go_simp
            with_reducible rfl
          rotate_left
          · simp only [Act.put, List.setIfInBounds_toArray, List.set_cons_zero, List.set_cons_succ, i64_w, i32_w]
            rfl
          refine one_ (i := 25) (N := some 83) #[true, true, true, true, true, true, true, true, true, true, true, true, true, true, true, true, true, true, true, true, true, true, true, true, true, true, false, false] rfl rfl (by kernel_rfl) (by decide) (fun K hK => ?_)
          refine goes_ Tryz.func15 (by kernel_rfl) rfl #[] (by rfl) rfl rfl (by simp only [List.map_toArray, List.map_cons, List.map_nil]) ?_
          with_reducible refine (HAL.out _ (below_step HB6.out HBe.out)).mono ?_
          rintro e wa ⟨rfl, hba⟩
          refine ⟨_, rfl, ?_⟩
          have HBl : Hid (Below W6.heap.size W6 wa) := Lib.hid (below_step HBe.out hba)
          refine hK.out _ _ ⟨c_of (blk_bel HBl.out HX6.out) 0 (v := .string x.f0.f0) rfl, c_of (blk_bel HBl.out HX6.out) 1 (v := .string x.f0.f1) rfl, c_of (blk_bel HBl.out HX6.out) 2 (v := .string x.f0.f2) rfl, c_of (blk_bel HBl.out HX6.out) 3 (v := .string x.f0.f3) rfl, c_of (blk_bel HBl.out HX6.out) 4 (v := .slice r.A4 x.f0.f4.length r.c4) rfl, c_of (blk_bel HBl.out HX6.out) 5 (v := .slice r.A5 x.f0.f5.length r.c5) rfl, c_of (blk_bel HBl.out HX6.out) 6 (v := .int .i64 x.f1.f0) rfl, c_of (blk_bel HBl.out HX6.out) 7 (v := .slice r.A7 x.f1.f1.length r.c7) rfl, c_of (blk_bel HBl.out HX6.out) 8 (v := .slice r.A8 x.f1.f2.length r.c8) rfl, c_of (blk_bel HBl.out HX6.out) 9 (v := .int .i64 x.f2) rfl, c_of (blk_bel HBl.out HX6.out) 10 (v := .int .i64 x.f3) rfl, c_of (blk_bel HBl.out HQ6.out) 0 (v := .string q.f0) rfl, c_of (blk_bel HBl.out HQ6.out) 1 (v := .string q.f1) rfl, c_of (blk_bel HBl.out HQ6.out) 2 (v := .string q.f2) rfl, c_of (blk_bel HBl.out HQ6.out) 3 (v := .string q.f3) rfl, c_of (blk_bel HBl.out HQ6.out) 4 (v := .slice A4 q.f4.length c4) rfl, c_of (blk_bel HBl.out HQ6.out) 5 (v := .slice A5 q.f5.length c5) rfl, c_of (blk_bel HBl.out HC6.out) 2 (v := .bool (C.fl 2)) rfl, c_of (blk_bel HBl.out HC6.out) 7 (v := .int .i64 (C.nm 7)) rfl⟩ (fun hHeld => ?_)
          clear hK K
          refine norm_ (a' := ?_) ?_ ?_
          rotate_left
          · show Act.put _ (some 83) _ = _
            simp only [Act.put, List.setIfInBounds_toArray, List.set_cons_zero, List.set_cons_succ, i64_w, i32_w]
            rfl
          refine pure_ (i := 26) (N := some 84) (v := ?_) (a' := ?_) #[true, true, true, true, true, true, true, true, true, true, true, true, true, true, true, true, true, true, true, true, true, true, true, true, true, true, true, false] rfl rfl (by kernel_rfl) (fun _ _ _ h => h) (Or.inl ⟨by rfl, ?_⟩) ?_ ?_
          rotate_left
          · intro w'
            go_simp
            with_reducible rfl
          rotate_left
          · simp only [Act.put, List.setIfInBounds_toArray, List.set_cons_zero, List.set_cons_succ, i64_w, i32_w]
            rfl
          refine pure_ (i := 27) (N := some 6) (v := ?_) (a' := ?_) #[true, true, true, true, true, true, true, true, true, true, true, true, true, true, true, true, true, true, true, true, true, true, true, true, true, true, true, true] rfl rfl (by kernel_rfl) (fun _ _ _ h => h) (Or.inl ⟨by rfl, ?_⟩) ?_ ?_
          rotate_left
          · intro w'
            go_simp
            with_reducible rfl
          rotate_left
          · simp only [Act.put, List.setIfInBounds_toArray, List.set_cons_zero, List.set_cons_succ, i64_w, i32_w]
            rfl
          refine done_ (by kernel_rfl) ?_
          have HBz := Lib.hid (below_step HB6.out HBl.out)
          go_wp2
          go_ret
          exact ⟨rfl, HBz.out⟩
end Go.Proofs.YtbnhlekehndhkaaGreatDoor.Fr

