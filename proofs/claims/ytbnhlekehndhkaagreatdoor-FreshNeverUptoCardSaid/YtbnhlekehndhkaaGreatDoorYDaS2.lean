import Derived.Test.YtbnhlekehndhkaaGreatDoorYDaS

/- date.Parse: its walk. -/
namespace Go.Proofs.YtbnhlekehndhkaaGreatDoor.Da
open Go.RowKit Go.Proofs.YtbnhlekehndhkaaGreatDoorW.PrintWords Go.Proofs.YtbnhlekehndhkaaGreatDoorW.PrintLast Go.Proofs.YtbnhlekehndhkaaGreatDoorW.PrintMore Go.Proofs.YtbnhlekehndhkaaGreatDoor.G
set_option linter.unusedVariables false
set_option linter.unusedSimpArgs false
theorem split_at (g : Nat) (s sep : ByteArray) (m : Int) (w : World) (hg : g = w.heap.size) (hs : s.size < 4294967281) (hm : w.cell? ⟨4, 0, none⟩ = some (.int .i64 m)) (h1 : 1 ≤ sep.size) : Calls Tryz.prog 111 #[.string s, .string sep] w fun e w' => e = .returned (.slice (some ⟨g, 0, none⟩) (Lib.countB s sep + 1) (Lib.countB s sep + 1)) ∧ w' = w.alloc (.cells ((Lib.splitB sep 0 (Lib.countB s sep) s).map Value.string).toArray 9) := by
  subst hg; exact Tryz.strings_Split s sep m w hs hm h1
theorem fork5a {W w9 : World} {a o : Obj} (h : w9 = (W.alloc a).drew.alloc o) : w9.heap[W.heap.size]? = some a := by
  subst h; exact blk_bel (below_alloc (below_drew (Below.refl _ _)) _) (heap_alloc_new W a)
theorem fork5b {W w9 : World} {a o : Obj} (h : w9 = (W.alloc a).drew.alloc o) : w9.heap[W.heap.size + 1]? = some o := by
  subst h
  have := heap_alloc_new (W.alloc a).drew o
  rwa [show (W.alloc a).drew.heap.size = W.heap.size + 1 from World.size_alloc _ _] at this
theorem fork5c {W w9 : World} {a o : Obj} (h : w9 = W.drew.alloc o) : (w9.alloc a).heap[W.heap.size]? = some o := by
  subst h; exact blk_bel (below_alloc (Below.refl _ _) _) (heap_alloc_new W.drew o)
theorem readsQ {w : World} {g t n : Nat} {m : Nat × Nat} {Q : List ByteArray} (h : w.heap[g]? = some (.cells (Q.map Value.string).toArray t m)) (hl : Q.length = n ∧ n ≤ 9223372036854775807) : ReadsRow (Kd.string.K w) Kd.string.sz w (some ⟨g, 0, none⟩) n Q := by
  obtain ⟨rfl, hl⟩ := hl
  exact reads_of h hl
set_option maxRecDepth 100000 in
set_option maxHeartbeats 8000000 in
theorem parse_six (s p0 p1 p2 p3 p4 p5 : ByteArray) (w : World) (hG : Glob w) (h29 : s.size = 29) (hc : Lib.countB s ⟨#[32]⟩ = 5) (hP : Lib.splitB ⟨#[32]⟩ 0 (Lib.countB s ⟨#[32]⟩) s = [p0, p1, p2, p3, p4, p5]) : Calls Tryz.prog 79 #[.string s] w (PPost s w) := by
  obtain ⟨mx, hm⟩ := hG.mx
  have hsz : ∀ p ∈ [p0, p1, p2, p3, p4, p5], p.size ≤ 29 := fun p hp => by rw [← h29]; exact split_small _ _ _ _ (hP ▸ hp)
  have hq29 : p4.size ≤ 29 := hsz p4 (by simp)
  have hp4 : p4.size < 4294967281 := by omega
  have HS : Hid (Calls Tryz.prog 111 #[.string s, .string ⟨#[32]⟩] w fun e w' => e = .returned (.slice (some ⟨w.heap.size, 0, none⟩) 6 6) ∧ w' = w.alloc (.cells #[.string p0, .string p1, .string p2, .string p3, .string p4, .string p5] 9)) := Lib.hid (by
    have h := Tryz.strings_Split s ⟨#[32]⟩ mx w (by omega) hm (by decide)
    rw [hP, hc] at h
    exact h)
  have hQl : (Lib.splitB ⟨#[58]⟩ 0 (Lib.countB p4 ⟨#[58]⟩) p4).length = Lib.countB p4 ⟨#[58]⟩ + 1 := split_len p4 58
  have hq30 : Lib.countB p4 ⟨#[58]⟩ ≤ 30 := by
    have h1 : Lib.countB p4 ⟨#[58]⟩ ≤ p4.data.toList.length + 1 := Lib.count_le _ _
    have e : p4.data.toList.length = p4.size := rfl
    omega
  have HSZ := Lib.hid hsz
  have HPP := Lib.hid hP
  have HQ9 : Hid ((Lib.splitB ⟨#[58]⟩ 0 (Lib.countB p4 ⟨#[58]⟩) p4).length = Lib.countB p4 ⟨#[58]⟩ + 1 ∧ Lib.countB p4 ⟨#[58]⟩ + 1 ≤ 9223372036854775807) := Lib.hid ⟨hQl, by omega⟩
  have HQ10 : Hid (([p3, p1].length + (Lib.countB p4 ⟨#[58]⟩ + 1)) * 16 ≤ 140737488355328) := Lib.hid (by simp only [List.length_cons, List.length_nil]; omega)
  have HG0 := Lib.hid hG
  have HM0 := Lib.hid hm
  have t29 : ((s.size : Int) != 29) = false := by rw [h29]; rfl
  have H29 := Lib.hid h29
  clear hsz hP hG hm hQl hc hq30 h29
  go_enter Tryz.func79, Tryz.ntmps79
  go_upto_region 5 with (go_at_call 111; refine HS.out.mono ?_; rintro e w1 ⟨rfl, hw1⟩; have HW1 := Lib.hid hw1; clear hw1)
  obtain ⟨W1, hW1⟩ : ∃ W, W = w1 := ⟨_, rfl⟩
  rw [← hW1] at HW1 ⊢
  have HP : Hid (W1.heap[w.heap.size]? = some (.cells #[.string p0, .string p1, .string p2, .string p3, .string p4, .string p5] 9 (0, 0))) := Lib.hid (by rw [HW1.out]; exact heap_alloc_new _ _)
  have HB1 : Hid (Below w.heap.size w W1) := Lib.hid (by rw [HW1.out]; exact below_alloc (Below.refl _ _) _)
  have HG1 := Lib.hid (HG0.out.below HB1.out)
  have HMX := Lib.hid (pw_cell_below HB1.out HM0.out)
  clear hW1 HW1 HG0 HM0 HS
  refine start_ (n := 14) (S := fun w' => w'.cell? ⟨w.heap.size, 3, none⟩ = some (.string p3) ∧ w'.cell? ⟨w.heap.size, 1, none⟩ = some (.string p1) ∧ w'.cell? ⟨w.heap.size, 4, none⟩ = some (.string p4)) (ds := []) #[false, false, false, false, false, false, false, false, false, false, false, false, false, false] (by kernel_rfl) rfl rfl ⟨c_of HP.out 3 rfl, c_of HP.out 1 rfl, c_of HP.out 4 rfl⟩ (fun hHeld => ?_)
  refine pure_ (i := 0) (N := some 25) (v := ?_) (a' := ?_) #[true, false, false, false, false, false, false, false, false, false, false, false, false, false] rfl rfl (by kernel_rfl) (fun _ _ _ h => h) (Or.inl ⟨by rfl, ?_⟩) ?_ ?_
  rotate_left
  · intro w'
    go_simp
    with_reducible rfl
  rotate_left
  · simp only [Act.put, List.setIfInBounds_toArray, List.set_cons_zero, List.set_cons_succ, i64_w, i32_w]
    rfl
  refine pure_ (i := 1) (N := some 26) (v := ?_) (a' := ?_) #[true, true, false, false, false, false, false, false, false, false, false, false, false, false] rfl rfl (by kernel_rfl) (fun _ _ _ h => h) (Or.inl ⟨by rfl, ?_⟩) ?_ ?_
  rotate_left
  · intro w'
    go_simp
    with_reducible rfl
  rotate_left
  · simp only [Act.put, List.setIfInBounds_toArray, List.set_cons_zero, List.set_cons_succ, i64_w, i32_w]
    rfl
  refine pure_ (i := 3) (N := some 28) (v := ?_) (a' := ?_) #[true, true, false, true, false, false, false, false, false, false, false, false, false, false] rfl rfl (by kernel_rfl) (fun _ _ _ h => h) (Or.inl ⟨by rfl, ?_⟩) ?_ ?_
  rotate_left
  · intro w'
    go_simp
    with_reducible rfl
  rotate_left
  · simp only [Act.put, List.setIfInBounds_toArray, List.set_cons_zero, List.set_cons_succ, i64_w, i32_w]
    rfl
  refine pure_ (i := 4) (N := some 29) (v := ?_) (a' := ?_) #[true, true, false, true, true, false, false, false, false, false, false, false, false, false] rfl rfl (by kernel_rfl) (fun _ _ _ h => h) (Or.inl ⟨by rfl, ?_⟩) ?_ ?_
  rotate_left
  · intro w'
    go_simp
    with_reducible rfl
  rotate_left
  · simp only [Act.put, List.setIfInBounds_toArray, List.set_cons_zero, List.set_cons_succ, i64_w, i32_w]
    rfl
  refine pure_ (i := 7) (N := some 32) (v := ?_) (a' := ?_) #[true, true, false, true, true, false, false, true, false, false, false, false, false, false] rfl rfl (by kernel_rfl) (fun _ _ _ h => h) (Or.inl ⟨by rfl, ?_⟩) ?_ ?_
  rotate_left
  · intro w'
    go_simp
    with_reducible rfl
  rotate_left
  · simp only [Act.put, List.setIfInBounds_toArray, List.set_cons_zero, List.set_cons_succ, i64_w, i32_w]
    rfl
  refine pure_ (i := 8) (N := some 33) (v := ?_) (a' := ?_) #[true, true, false, true, true, false, false, true, true, false, false, false, false, false] rfl rfl (by kernel_rfl) (fun _ _ _ h => h) (Or.inl ⟨by rfl, ?_⟩) ?_ ?_
  rotate_left
  · intro w'
    go_simp
    with_reducible rfl
  rotate_left
  · simp only [Act.put, List.setIfInBounds_toArray, List.set_cons_zero, List.set_cons_succ, i64_w, i32_w]
    rfl
  refine pure_ (i := 13) (N := some 38) (v := ?_) (a' := ?_) #[true, true, false, true, true, false, false, true, true, false, false, false, false, true] rfl rfl (by kernel_rfl) (fun _ _ _ h => h) (Or.inl ⟨by rfl, ?_⟩) ?_ ?_
  rotate_left
  · intro w'
    go_simp
    with_reducible rfl
  rotate_left
  · simp only [Act.put, List.setIfInBounds_toArray, List.set_cons_zero, List.set_cons_succ, i64_w, i32_w]
    rfl
  refine take_ (i := 2) (N := some 27) (v := ?_) (a' := ?_) #[true, true, true, true, true, false, false, true, true, false, false, false, false, true] rfl rfl (by kernel_rfl) (fun _ _ _ h => h) (Or.inl ⟨by rfl, ?_⟩) hHeld ?_ ?_
  rotate_left
  · rintro w' ⟨s0, s1, s2⟩
    go_simp
    with_reducible rfl
  rotate_left
  · simp only [Act.put, List.setIfInBounds_toArray, List.set_cons_zero, List.set_cons_succ, i64_w, i32_w]
    rfl
  refine take_ (i := 5) (N := some 30) (v := ?_) (a' := ?_) #[true, true, true, true, true, true, false, true, true, false, false, false, false, true] rfl rfl (by kernel_rfl) (fun _ _ _ h => h) (Or.inl ⟨by rfl, ?_⟩) hHeld ?_ ?_
  rotate_left
  · rintro w' ⟨s0, s1, s2⟩
    go_simp
    with_reducible rfl
  rotate_left
  · simp only [Act.put, List.setIfInBounds_toArray, List.set_cons_zero, List.set_cons_succ, i64_w, i32_w]
    rfl
  refine take_ (i := 9) (N := some 34) (v := ?_) (a' := ?_) #[true, true, true, true, true, true, false, true, true, true, false, false, false, true] rfl rfl (by kernel_rfl) (fun _ _ _ h => h) (Or.inl ⟨by rfl, ?_⟩) hHeld ?_ ?_
  rotate_left
  · rintro w' ⟨s0, s1, s2⟩
    go_simp
    with_reducible rfl
  rotate_left
  · simp only [Act.put, List.setIfInBounds_toArray, List.set_cons_zero, List.set_cons_succ, i64_w, i32_w]
    rfl
  refine join_ (σ := Nat × Nat) 2 #[true, true, true, true, true, true, true, true, true, true, true, false, false, true] (fun s => [(31, .slice (some ⟨s.1, 0, none⟩) 2 2), (35, .slice (some ⟨s.2, 0, none⟩) (Lib.countB p4 ⟨#[58]⟩ + 1) (Lib.countB p4 ⟨#[58]⟩ + 1))]) (fun s w' => w'.heap[s.1]? = some (.cells #[.string p3, .string p1] 9 (0, 0)) ∧ w'.heap[s.2]? = some (.cells ((Lib.splitB ⟨#[58]⟩ 0 (Lib.countB p4 ⟨#[58]⟩) p4).map Value.string).toArray 9 (0, 0)) ∧ W1.heap.size ≤ s.1 ∧ W1.heap.size ≤ s.2 ∧ Below W1.heap.size W1 w') ?_ ?_
  rotate_left
  · intro hCont
    refine two_ (i := 6) (j := 10) (Ni := some 31) (Nj := some 35) #[true, true, true, true, true, true, true, true, true, true, false, false, false, true] #[true, true, true, true, true, true, false, true, true, true, true, false, false, true] rfl rfl rfl rfl (by kernel_rfl) (by decide) (by decide) (fun K hK => ?_) (fun K hK => ?_)
    · skip
      refine value_ (w1 := ?_) (v := ?_) (by rfl) rfl ?_ ?_
      rotate_left 2
      · go_simp
        constructor
        · rfl
        · rfl
      refine hK.out _ _ ⟨c_of (blk_bel (below_drew (below_alloc (Below.refl _ W1) _)) HP.out) 3 rfl, c_of (blk_bel (below_drew (below_alloc (Below.refl _ W1) _)) HP.out) 1 rfl, c_of (blk_bel (below_drew (below_alloc (Below.refl _ W1) _)) HP.out) 4 rfl⟩ (fun hHeld => ?_)
      clear hK K
      refine norm_ (a' := ?_) ?_ ?_
      rotate_left
      · show Act.put _ (some 31) _ = _
        simp only [Act.put, List.setIfInBounds_toArray, List.set_cons_zero, List.set_cons_succ, i64_w, i32_w]
        rfl
      refine one_ (i := 10) (N := some 35) #[true, true, true, true, true, true, true, true, true, true, true, false, false, true] rfl rfl (by kernel_rfl) (by decide) (fun K hK => ?_)
      refine goes_ Tryz.func111 (by kernel_rfl) rfl #[.string p4, .string ⟨#[58]⟩] (by rfl) rfl rfl (by simp only [List.map_toArray, List.map_cons, List.map_nil]; rfl) ?_
      with_reducible refine (split_at (W1.heap.size + 1) p4 ⟨#[58]⟩ mx _ (by simp) hp4 (pw_cell_below (below_drew (below_alloc (Below.refl _ W1) _)) HMX.out) (by decide)).mono ?_
      rintro e w9 ⟨rfl, hw9⟩
      refine ⟨_, rfl, ?_⟩
      have hb9 : Below W1.heap.size W1 w9 := by rw [hw9]; exact below_alloc (below_drew (below_alloc (Below.refl _ W1) _)) _
      have HW9 := Lib.hid hw9
      clear hw9
      refine hK.out _ _ ⟨c_of (blk_bel hb9 HP.out) 3 rfl, c_of (blk_bel hb9 HP.out) 1 rfl, c_of (blk_bel hb9 HP.out) 4 rfl⟩ (fun hHeld => ?_)
      clear hK K
      refine norm_ (a' := ?_) ?_ ?_
      rotate_left
      · show Act.put _ (some 35) _ = _
        simp only [Act.put, List.setIfInBounds_toArray, List.set_cons_zero, List.set_cons_succ, i64_w, i32_w]
        rfl
      exact norm_ (by simp only [putAll, Act.put, List.setIfInBounds_toArray, List.set_cons_zero, List.set_cons_succ]) (hCont ⟨W1.heap.size, W1.heap.size + 1⟩ _ ⟨fork5a HW9.out, fork5b HW9.out, Nat.le_refl _, Nat.le_succ _, hb9⟩)
    · skip
      refine goes_ Tryz.func111 (by kernel_rfl) rfl #[.string p4, .string ⟨#[58]⟩] (by rfl) rfl rfl (by simp only [List.map_toArray, List.map_cons, List.map_nil]; rfl) ?_
      with_reducible refine (split_at W1.heap.size p4 ⟨#[58]⟩ mx _ (by simp) hp4 (pw_cell_below (below_drew (Below.refl _ W1)) HMX.out) (by decide)).mono ?_
      rintro e w9 ⟨rfl, hw9⟩
      refine ⟨_, rfl, ?_⟩
      have hb9 : Below W1.heap.size W1 w9 := by rw [hw9]; exact below_alloc (below_drew (Below.refl _ W1)) _
      have HW9 := Lib.hid hw9
      clear hw9
      refine hK.out _ _ ⟨c_of (blk_bel hb9 HP.out) 3 rfl, c_of (blk_bel hb9 HP.out) 1 rfl, c_of (blk_bel hb9 HP.out) 4 rfl⟩ (fun hHeld => ?_)
      clear hK K
      refine norm_ (a' := ?_) ?_ ?_
      rotate_left
      · show Act.put _ (some 35) _ = _
        simp only [Act.put, List.setIfInBounds_toArray, List.set_cons_zero, List.set_cons_succ, i64_w, i32_w]
        rfl
      refine one_ (i := 6) (N := some 31) #[true, true, true, true, true, true, true, true, true, true, true, false, false, true] rfl rfl (by kernel_rfl) (by decide) (fun K hK => ?_)
      refine value_ (w1 := ?_) (v := ?_) (by rfl) rfl ?_ ?_
      rotate_left 2
      · go_simp
        constructor
        · rfl
        · rfl
      refine hK.out _ _ ⟨c_of (blk_bel (below_alloc hb9 _) HP.out) 3 rfl, c_of (blk_bel (below_alloc hb9 _) HP.out) 1 rfl, c_of (blk_bel (below_alloc hb9 _) HP.out) 4 rfl⟩ (fun hHeld => ?_)
      clear hK K
      refine norm_ (a' := ?_) ?_ ?_
      rotate_left
      · show Act.put _ (some 31) _ = _
        simp only [Act.put, List.setIfInBounds_toArray, List.set_cons_zero, List.set_cons_succ, i64_w, i32_w]
        rfl
      exact norm_ (by simp only [putAll, Act.put, List.setIfInBounds_toArray, List.set_cons_zero, List.set_cons_succ]) (hCont ⟨w9.heap.size, W1.heap.size⟩ _ ⟨heap_alloc_new _ _, fork5c HW9.out, hb9.size, Nat.le_refl _, below_alloc hb9 _⟩)
  rintro ⟨g1, g2⟩ w9 ⟨hg1, hg2, hl1, hl2, hB9⟩
  have hHeld : w9.cell? ⟨w.heap.size, 3, none⟩ = some (.string p3) ∧ w9.cell? ⟨w.heap.size, 1, none⟩ = some (.string p1) ∧ w9.cell? ⟨w.heap.size, 4, none⟩ = some (.string p4) := ⟨c_of (blk_bel hB9 HP.out) 3 rfl, c_of (blk_bel hB9 HP.out) 1 rfl, c_of (blk_bel hB9 HP.out) 4 rfl⟩
  refine norm_ (a' := ?_) ?_ ?_
  rotate_left
  · simp only [putAll, Act.put, List.setIfInBounds_toArray, List.set_cons_zero, List.set_cons_succ]
    rfl
  refine one_ (i := 11) (N := some 36) #[true, true, true, true, true, true, true, true, true, true, true, true, false, true] rfl rfl (by kernel_rfl) (by decide) (fun K hK => ?_)
  refine Kd.R_append_rows_step Kd.string (Rr := Kd.string.K w9) (w0 := W1) W1.heap.size (by rfl) (.tmp 31) (.tmp 35) 44 9 (.string ⟨#[]⟩) 16 rfl Tryz.underlying44 info9 rfl (by decide) (by decide) (.slice (some ⟨g1, 0, none⟩) 2 2) [p3, p1] (Lib.splitB ⟨#[58]⟩ 0 (Lib.countB p4 ⟨#[58]⟩) p4) (some ⟨g2, 0, none⟩) (Lib.countB p4 ⟨#[58]⟩ + 1) (Lib.countB p4 ⟨#[58]⟩ + 1) (fun k_ => W1.heap.size ≤ k_) (fun _ => False) rfl rfl (rlit2 hg1 hl1) (readsQ hg2 HQ9.out) (fun x_ cs_ h_ => h_) (fun _ h_ => h_.elim) (fun k_ hk_ => Nat.le_trans hB9.size hk_) hB9 hB9.size HQ10.out ?_
  intro v10 w10 hR10 hB10 hgr10 hat10
  obtain ⟨A10, c10, rfl, hl10, hC10⟩ := Kd.R_reads hR10
  refine hK.out _ _ ⟨c_of (blk_bel hB10 HP.out) 3 rfl, c_of (blk_bel hB10 HP.out) 1 rfl, c_of (blk_bel hB10 HP.out) 4 rfl⟩ (fun hHeld => ?_)
  clear hK K
  refine norm_ (a' := ?_) ?_ ?_
  rotate_left
  · show Act.put _ (some 36) _ = _
    simp only [Act.put, List.setIfInBounds_toArray, List.set_cons_zero, List.set_cons_succ, i64_w, i32_w]
    rfl
  refine pure_ (i := 12) (N := some 37) (v := ?_) (a' := ?_) #[true, true, true, true, true, true, true, true, true, true, true, true, true, true] rfl rfl (by kernel_rfl) (fun _ _ _ h => h) (Or.inl ⟨by rfl, ?_⟩) ?_ ?_
  rotate_left
  · intro w'
    go_simp
    with_reducible rfl
  rotate_left
  · simp only [Act.put, List.setIfInBounds_toArray, List.set_cons_zero, List.set_cons_succ, i64_w, i32_w]
    rfl
  refine done_ (by kernel_rfl) ?_
  clear hHeld
  obtain ⟨Q, hQ⟩ : ∃ Q, Q = Lib.splitB ⟨#[58]⟩ 0 (Lib.countB p4 ⟨#[58]⟩) p4 := ⟨_, rfl⟩
  rw [← hQ] at hC10 hl10 ⊢
  obtain ⟨L, hL⟩ : ∃ L, L = [p3, p1] ++ Q := ⟨_, rfl⟩
  rw [← hL] at hC10 hl10 ⊢
  have hLn : (Q.length : Int) + 1 + 1 = (L.length : Int) := by rw [hL]; simp
  have hL40 : L.length ≤ 40 := by
    have h1 : L.length = Q.length + 2 := by rw [hL]; simp
    have h2 := HQ9.out.1
    rw [← hQ] at h2
    have h3 : Lib.countB p4 ⟨#[58]⟩ ≤ p4.data.toList.length + 1 := Lib.count_le _ _
    have h4 : p4.data.toList.length = p4.size := rfl
    omega
  have HLS : Hid (∀ p ∈ L, p.size ≤ 29) := Lib.hid (fun p hp => by
    rw [hL] at hp
    rcases List.mem_append.1 hp with hp | hp
    · exact HSZ.out p (by simp only [List.mem_cons, List.not_mem_nil, or_false] at hp ⊢; rcases hp with rfl | rfl <;> simp)
    · rw [hQ] at hp
      have := split_small _ _ _ _ hp
      omega)
  have HTX : Hid (∀ n y M d h mi sc wd, IsText s n y M d h mi sc wd → L = [B (four y), B (two d), B (two h), B (two mi), B (two sc)]) := Lib.hid (fun n y M d h mi sc wd t => by rw [hL, hQ]; exact Text.list t HPP.out)
  rw [hLn]
  obtain ⟨Wk, hWk⟩ : ∃ W, W = w10 := ⟨_, rfl⟩
  rw [← hWk] at hC10 hB10 ⊢
  have HCk := Lib.hid hC10
  have HLk := Lib.hid hl10
  have HPk := Lib.hid (blk_bel hB10 HP.out)
  have HBk : Hid (Below w.heap.size w Wk) := Lib.hid (below_step HB1.out hB10)
  have HGk := Lib.hid (HG1.out.below hB10)
  clear hC10 hl10 hgr10 hat10 hR10 hB10 hB9 hg1 hg2 hl1 hl2 hLn hL hQ hWk HP HB1 HG1 HMX HQ9 HQ10
  go_wp2
  go_loopg [5, 38] (L.length + 1) (fun k v5 v38 W => ∃ (i : Nat) (A5 : Option Addr) (c5 : Nat) (nums : List Int), v38 = .int .i64 (i : Int) ∧ v5 = .slice A5 nums.length c5 ∧ i ≤ L.length ∧ L.length + 1 ≤ k + i ∧ Hid (nums.length = i) ∧ Hid (Vals L i nums) ∧ Hid (Kd.R (Kd.int .i64) 3 W Wk.heap.size (fun k_ => Wk.heap.size ≤ k_) (.slice A5 nums.length c5) nums) ∧ Hid (Below Wk.heap.size Wk W))
  case atStart => exact ⟨0, none, 0, [], rfl, rfl, by omega, by omega, Lib.hid rfl, Lib.hid rfl, Lib.hid (Kd.R_nil _ _ _ _ _), Lib.hid (Below.refl _ _)⟩
  case round =>
    obtain ⟨i, A5, c5, nums, rfl, rfl, hi, hk, HNL, HV, HR, HW⟩ := hrel
    rename World => Wo
    by_cases hlt : i < L.length
    · obtain ⟨ko, rfl⟩ : ∃ ko, gk = ko + 1 := ⟨gk - 1, by omega⟩
      have hk2 : L.length + 1 ≤ ko + (i + 1) := by omega
      have hi1 : i + 1 ≤ L.length := hlt
      have t0 : decide ((i : Int) < (L.length : Int)) = true := decide_eq_true (by omega)
      have t1 : 0 ≤ (i : Int) := by omega
      have t2 : (i : Int) < (L.length : Int) := by omega
      have HWX := Lib.hid (show wrap64 ((i : Int) + 1) = (i : Int) + 1 by unfold wrap64; omega)
      obtain ⟨li, hli⟩ : ∃ li, L[i]? = some li := ⟨_, List.getElem?_eq_getElem hlt⟩
      obtain ⟨ad, rfl, hcell⟩ : ∃ ad, A10 = some ad ∧ Wo.cell? (ad.add i) = some (.string li) := by
        obtain ⟨_, _, h⟩ := Kd.C_below HCk.out HW.out
        obtain ⟨ad, e, hc⟩ := h (by omega)
        obtain ⟨cs, h1, h2, h3⟩ := hc i li hli
        obtain rfl : cs = [.string li] := h2
        have := h3 0 _ rfl
        rw [show i * Kd.string.sz + 0 = i by show i * 1 + 0 = i; omega] at this
        exact ⟨ad, e, this⟩
      have hls : li.size ≤ 1000 := by have := HLS.out li (List.mem_of_getElem? hli); omega
      have HLI := Lib.hid hli
      have hGo := HGk.out.below HW.out
      have hnl : nums.length ≤ 40 := by have := HNL.out; omega
      clear hli hlt
      by_cases hv : ∃ v, Lib.atoiAll li.data.toList = .ok v
      · obtain ⟨v, hv⟩ := hv
        have HVV := Lib.hid hv
        have HAT := Lib.hid (atoi_ok li v hv hls Wo)
        clear hv hGo
        have hln : (nums.length + 1) * 8 ≤ 140737488355328 := by omega
        go_wp2_with (first
          | (go_at_call 78; refine HAT.out.mono ?_; rintro e w2 ⟨rfl, hb2⟩; have HB2 := Lib.hid hb2; clear hb2)
          | (at_builtin; refine Kd.R_append (Kd.int .i64) (w0 := Wk) Wk.heap.size rfl (.tmp 49) (.tmp 51) 80 3 (.int .i64 0) 8 rfl Tryz.underlying80 info3 rfl (by decide) (by decide) (.slice A5 nums.length c5) nums v [.int .i64 v] (fun k_ => Wk.heap.size ≤ k_) (fun _ => False) rfl rfl rfl (fun _ h_ => h_.elim) (fun k_ hk_ => by have := HW.out.size; have := HB2.out.size; omega) (Kd.R_below HR.out HB2.out) (HW.out.trans (HB2.out.mono HW.out.size)) (by have := HW.out.size; have := HB2.out.size; omega) hln ?_; intro v3 w3 hR3 hB3 hg3 ha3; obtain ⟨A6, c6, rfl, hl6, -⟩ := Kd.R_reads hR3; have HR3 := Lib.hid hR3; have HB3 := Lib.hid hB3; clear hR3 hB3 hg3 ha3 hl6))
        go_roundg ko
        case measure => omega
        case rel => exact ⟨i + 1, A6, c6, nums ++ [v], by first | exact congrArg (Value.int .i64) HWX.out | go_num, by simp, hi1, hk2, Lib.hid (by simp [HNL.out]), Lib.hid (vals_snoc HV.out HLI.out HVV.out), HR3, HB3⟩
      · have HAT := Lib.hid (atoi_bad li (fun v h => hv ⟨v, h⟩) hls Wo hGo)
        have HNO : Hid (NoText s) := Lib.hid (fun n ⟨y, M, d, h, mi, sc, wd, t⟩ => by
          have e := HTX.out _ _ _ _ _ _ _ _ t
          have e2 := Text.vals t
          rw [← e] at e2
          have e3 := congrArg (fun l => l[i]?) e2
          simp only [List.getElem?_map, HLI.out, Option.map_some] at e3
          rcases i with _ | _ | _ | _ | _ | i
          · exact hv ⟨_, Option.some.inj e3⟩
          · exact hv ⟨_, Option.some.inj e3⟩
          · exact hv ⟨_, Option.some.inj e3⟩
          · exact hv ⟨_, Option.some.inj e3⟩
          · exact hv ⟨_, Option.some.inj e3⟩
          · simp at e3)
        clear hv hGo
        go_wp2_with (go_at_call 78; refine HAT.out.mono ?_; rintro e w2 ⟨⟨v2, N2, rfl⟩, hb2⟩; have HB2 := Lib.hid hb2; clear hb2)
        go_ret2
        exact ⟨below_step HBk.out (HW.out.trans (HB2.out.mono HW.out.size)), .inl ⟨rfl, HNO.out⟩⟩
    · obtain rfl : i = L.length := by omega
      have t0 : decide ((L.length : Int) < (L.length : Int)) = false := decide_eq_false (by omega)
      clear hk hi t0
      by_cases h5 : nums.length = 5
      · have t5 : ((nums.length : Int) != 5) = false := by rw [h5]; rfl
        obtain ⟨a, b, c, d, e, hnums⟩ : ∃ a b c d e, nums = [a, b, c, d, e] := by
          rcases nums with _ | ⟨a, _ | ⟨b, _ | ⟨c, _ | ⟨d, _ | ⟨e, _ | ⟨f, t⟩⟩⟩⟩⟩⟩ <;> simp at h5
          exact ⟨a, b, c, d, e, rfl⟩
        clear h5 t5
        subst hnums
        obtain ⟨_, _, hAe, hl5, hC5⟩ := Kd.R_reads HR.out
        simp only [Value.slice.injEq] at hAe
        obtain ⟨rfl, -, rfl⟩ := hAe
        obtain ⟨ad5, rfl, hc5⟩ := hC5.2.2 (by simp)
        have cel : ∀ (j : Nat) (v : Int), [a, b, c, d, e][j]? = some v → Wo.cell? (ad5.add j) = some (.int .i64 v) := by
          intro j v hj
          obtain ⟨cs, h1, h2, h3⟩ := hc5 j v hj
          obtain rfl : cs = [.int .i64 v] := h2
          have := h3 0 _ rfl
          rwa [show j * (Kd.int .i64).sz + 0 = j by show j * 1 + 0 = j; omega] at this
        have x0 := cel 0 a rfl
        have x1 := cel 1 b rfl
        have x2 := cel 2 c rfl
        have x3 := cel 3 d rfl
        have x4 := cel 4 e rfl
        rw [show ad5.add 0 = ad5 by simp [Addr.add]] at x0
        rw [show ad5.add 1 = ⟨ad5.block, ad5.off + 1, none⟩ by simp [Addr.add]] at x1
        rw [show ad5.add 2 = ⟨ad5.block, ad5.off + 2, none⟩ by simp [Addr.add]] at x2
        rw [show ad5.add 3 = ⟨ad5.block, ad5.off + 3, none⟩ by simp [Addr.add]] at x3
        rw [show ad5.add 4 = ⟨ad5.block, ad5.off + 4, none⟩ by simp [Addr.add]] at x4
        have HX0 := Lib.hid x0
        have HX1 := Lib.hid x1
        have HX2 := Lib.hid x2
        have HX3 := Lib.hid x3
        have HX4 := Lib.hid x4
        have HPo := Lib.hid (blk_bel HW.out HPk.out)
        have HGo := Lib.hid (HGk.out.below HW.out)
        have hcap5 : 5 ≤ c5 := hl5
        clear x0 x1 x2 x3 x4 cel hc5 hC5 hl5
        go_upto_region 15 with fail
        refine start_ (n := 24) (S := fun w' => w'.cell? ad5 = some (.int .i64 a) ∧ w'.cell? ⟨ad5.block, ad5.off + 1, none⟩ = some (.int .i64 b) ∧ w'.cell? ⟨ad5.block, ad5.off + 2, none⟩ = some (.int .i64 c) ∧ w'.cell? ⟨ad5.block, ad5.off + 3, none⟩ = some (.int .i64 d) ∧ w'.cell? ⟨ad5.block, ad5.off + 4, none⟩ = some (.int .i64 e) ∧ w'.cell? ⟨w.heap.size, 2, none⟩ = some (.string p2)) (ds := [23]) #[false, false, false, false, false, false, false, false, false, false, false, false, false, false, false, false, false, false, false, false, false, false, false, false] (by kernel_rfl) rfl rfl ⟨pw_cell_below (below_drew (Below.refl _ Wo)) HX0.out, pw_cell_below (below_drew (Below.refl _ Wo)) HX1.out, pw_cell_below (below_drew (Below.refl _ Wo)) HX2.out, pw_cell_below (below_drew (Below.refl _ Wo)) HX3.out, pw_cell_below (below_drew (Below.refl _ Wo)) HX4.out, c_of (blk_bel (below_drew (Below.refl _ Wo)) HPo.out) 2 rfl⟩ (fun hHeld => ?_)
        refine pure_ (i := 0) (N := some 57) (v := ?_) (a' := ?_) #[true, false, false, false, false, false, false, false, false, false, false, false, false, false, false, false, false, false, false, false, false, false, false, false] rfl rfl (by kernel_rfl) (fun _ _ _ h => h) (Or.inl ⟨by rfl, ?_⟩) ?_ ?_
        rotate_left
        · intro w'
          go_simp
          with_reducible rfl
        rotate_left
        · simp only [Act.put, List.setIfInBounds_toArray, List.set_cons_zero, List.set_cons_succ, i64_w, i32_w]
          rfl
        refine pure_ (i := 1) (N := some 58) (v := ?_) (a' := ?_) #[true, true, false, false, false, false, false, false, false, false, false, false, false, false, false, false, false, false, false, false, false, false, false, false] rfl rfl (by kernel_rfl) (fun _ _ _ h => h) (Or.inl ⟨by rfl, ?_⟩) ?_ ?_
        rotate_left
        · intro w'
          go_simp
          with_reducible rfl
        rotate_left
        · simp only [Act.put, List.setIfInBounds_toArray, List.set_cons_zero, List.set_cons_succ, i64_w, i32_w]
          rfl
        refine pure_ (i := 4) (N := some 61) (v := ?_) (a' := ?_) #[true, true, false, false, true, false, false, false, false, false, false, false, false, false, false, false, false, false, false, false, false, false, false, false] rfl rfl (by kernel_rfl) (fun _ _ _ h => h) (Or.inl ⟨by rfl, ?_⟩) ?_ ?_
        rotate_left
        · intro w'
          go_simp
          with_reducible rfl
        rotate_left
        · simp only [Act.put, List.setIfInBounds_toArray, List.set_cons_zero, List.set_cons_succ, i64_w, i32_w]
          rfl
        refine pure_ (i := 5) (N := some 62) (v := ?_) (a' := ?_) #[true, true, false, false, true, true, false, false, false, false, false, false, false, false, false, false, false, false, false, false, false, false, false, false] rfl rfl (by kernel_rfl) (fun _ _ _ h => h) (Or.inl ⟨by rfl, ?_⟩) ?_ ?_
        rotate_left
        · intro w'
          go_simp
          with_reducible rfl
        rotate_left
        · simp only [Act.put, List.setIfInBounds_toArray, List.set_cons_zero, List.set_cons_succ, i64_w, i32_w]
          rfl
        refine pure_ (i := 9) (N := some 66) (v := ?_) (a' := ?_) #[true, true, false, false, true, true, false, false, false, true, false, false, false, false, false, false, false, false, false, false, false, false, false, false] rfl rfl (by kernel_rfl) (fun _ _ _ h => h) (Or.inl ⟨by rfl, ?_⟩) ?_ ?_
        rotate_left
        · intro w'
          go_simp
          with_reducible rfl
        rotate_left
        · simp only [Act.put, List.setIfInBounds_toArray, List.set_cons_zero, List.set_cons_succ, i64_w, i32_w]
          rfl
        refine pure_ (i := 10) (N := some 67) (v := ?_) (a' := ?_) #[true, true, false, false, true, true, false, false, false, true, true, false, false, false, false, false, false, false, false, false, false, false, false, false] rfl rfl (by kernel_rfl) (fun _ _ _ h => h) (Or.inl ⟨by rfl, ?_⟩) ?_ ?_
        rotate_left
        · intro w'
          go_simp
          with_reducible rfl
        rotate_left
        · simp only [Act.put, List.setIfInBounds_toArray, List.set_cons_zero, List.set_cons_succ, i64_w, i32_w]
          rfl
        refine pure_ (i := 12) (N := some 69) (v := ?_) (a' := ?_) #[true, true, false, false, true, true, false, false, false, true, true, false, true, false, false, false, false, false, false, false, false, false, false, false] rfl rfl (by kernel_rfl) (fun _ _ _ h => h) (Or.inl ⟨by rfl, ?_⟩) ?_ ?_
        rotate_left
        · intro w'
          go_simp
          with_reducible rfl
        rotate_left
        · simp only [Act.put, List.setIfInBounds_toArray, List.set_cons_zero, List.set_cons_succ, i64_w, i32_w]
          rfl
        refine pure_ (i := 13) (N := some 70) (v := ?_) (a' := ?_) #[true, true, false, false, true, true, false, false, false, true, true, false, true, true, false, false, false, false, false, false, false, false, false, false] rfl rfl (by kernel_rfl) (fun _ _ _ h => h) (Or.inl ⟨by rfl, ?_⟩) ?_ ?_
        rotate_left
        · intro w'
          go_simp
          with_reducible rfl
        rotate_left
        · simp only [Act.put, List.setIfInBounds_toArray, List.set_cons_zero, List.set_cons_succ, i64_w, i32_w]
          rfl
        refine pure_ (i := 15) (N := some 72) (v := ?_) (a' := ?_) #[true, true, false, false, true, true, false, false, false, true, true, false, true, true, false, true, false, false, false, false, false, false, false, false] rfl rfl (by kernel_rfl) (fun _ _ _ h => h) (Or.inl ⟨by rfl, ?_⟩) ?_ ?_
        rotate_left
        · intro w'
          go_simp
          with_reducible rfl
        rotate_left
        · simp only [Act.put, List.setIfInBounds_toArray, List.set_cons_zero, List.set_cons_succ, i64_w, i32_w]
          rfl
        refine pure_ (i := 16) (N := some 73) (v := ?_) (a' := ?_) #[true, true, false, false, true, true, false, false, false, true, true, false, true, true, false, true, true, false, false, false, false, false, false, false] rfl rfl (by kernel_rfl) (fun _ _ _ h => h) (Or.inl ⟨by rfl, ?_⟩) ?_ ?_
        rotate_left
        · intro w'
          go_simp
          with_reducible rfl
        rotate_left
        · simp only [Act.put, List.setIfInBounds_toArray, List.set_cons_zero, List.set_cons_succ, i64_w, i32_w]
          rfl
        refine pure_ (i := 18) (N := some 75) (v := ?_) (a' := ?_) #[true, true, false, false, true, true, false, false, false, true, true, false, true, true, false, true, true, false, true, false, false, false, false, false] rfl rfl (by kernel_rfl) (fun _ _ _ h => h) (Or.inl ⟨by rfl, ?_⟩) ?_ ?_
        rotate_left
        · intro w'
          go_simp
          with_reducible rfl
        rotate_left
        · simp only [Act.put, List.setIfInBounds_toArray, List.set_cons_zero, List.set_cons_succ, i64_w, i32_w]
          rfl
        refine pure_ (i := 19) (N := some 76) (v := ?_) (a' := ?_) #[true, true, false, false, true, true, false, false, false, true, true, false, true, true, false, true, true, false, true, true, false, false, false, false] rfl rfl (by kernel_rfl) (fun _ _ _ h => h) (Or.inl ⟨by rfl, ?_⟩) ?_ ?_
        rotate_left
        · intro w'
          go_simp
          with_reducible rfl
        rotate_left
        · simp only [Act.put, List.setIfInBounds_toArray, List.set_cons_zero, List.set_cons_succ, i64_w, i32_w]
          rfl
        refine take_ (i := 2) (N := some 59) (v := ?_) (a' := ?_) #[true, true, true, false, true, true, false, false, false, true, true, false, true, true, false, true, true, false, true, true, false, false, false, false] rfl rfl (by kernel_rfl) (fun _ _ _ h => h) (Or.inl ⟨by rfl, ?_⟩) hHeld ?_ ?_
        rotate_left
        · rintro w' ⟨s0, s1, s2, s3, s4, s5⟩
          go_simp
          with_reducible rfl
        rotate_left
        · simp only [Act.put, List.setIfInBounds_toArray, List.set_cons_zero, List.set_cons_succ, i64_w, i32_w]
          rfl
        refine take_ (i := 6) (N := some 63) (v := ?_) (a' := ?_) #[true, true, true, false, true, true, true, false, false, true, true, false, true, true, false, true, true, false, true, true, false, false, false, false] rfl rfl (by kernel_rfl) (fun _ _ _ h => h) (Or.inl ⟨by rfl, ?_⟩) hHeld ?_ ?_
        rotate_left
        · rintro w' ⟨s0, s1, s2, s3, s4, s5⟩
          go_simp
          with_reducible rfl
        rotate_left
        · simp only [Act.put, List.setIfInBounds_toArray, List.set_cons_zero, List.set_cons_succ, i64_w, i32_w]
          rfl
        refine take_ (i := 11) (N := some 68) (v := ?_) (a' := ?_) #[true, true, true, false, true, true, true, false, false, true, true, true, true, true, false, true, true, false, true, true, false, false, false, false] rfl rfl (by kernel_rfl) (fun _ _ _ h => h) (Or.inl ⟨by rfl, ?_⟩) hHeld ?_ ?_
        rotate_left
        · rintro w' ⟨s0, s1, s2, s3, s4, s5⟩
          go_simp
          with_reducible rfl
        rotate_left
        · simp only [Act.put, List.setIfInBounds_toArray, List.set_cons_zero, List.set_cons_succ, i64_w, i32_w]
          rfl
        refine take_ (i := 14) (N := some 71) (v := ?_) (a' := ?_) #[true, true, true, false, true, true, true, false, false, true, true, true, true, true, true, true, true, false, true, true, false, false, false, false] rfl rfl (by kernel_rfl) (fun _ _ _ h => h) (Or.inl ⟨by rfl, ?_⟩) hHeld ?_ ?_
        rotate_left
        · rintro w' ⟨s0, s1, s2, s3, s4, s5⟩
          go_simp
          with_reducible rfl
        rotate_left
        · simp only [Act.put, List.setIfInBounds_toArray, List.set_cons_zero, List.set_cons_succ, i64_w, i32_w]
          rfl
        refine take_ (i := 17) (N := some 74) (v := ?_) (a' := ?_) #[true, true, true, false, true, true, true, false, false, true, true, true, true, true, true, true, true, true, true, true, false, false, false, false] rfl rfl (by kernel_rfl) (fun _ _ _ h => h) (Or.inl ⟨by rfl, ?_⟩) hHeld ?_ ?_
        rotate_left
        · rintro w' ⟨s0, s1, s2, s3, s4, s5⟩
          go_simp
          with_reducible rfl
        rotate_left
        · simp only [Act.put, List.setIfInBounds_toArray, List.set_cons_zero, List.set_cons_succ, i64_w, i32_w]
          rfl
        refine take_ (i := 20) (N := some 77) (v := ?_) (a' := ?_) #[true, true, true, false, true, true, true, false, false, true, true, true, true, true, true, true, true, true, true, true, true, false, false, false] rfl rfl (by kernel_rfl) (fun _ _ _ h => h) (Or.inl ⟨by rfl, ?_⟩) hHeld ?_ ?_
        rotate_left
        · rintro w' ⟨s0, s1, s2, s3, s4, s5⟩
          go_simp
          with_reducible rfl
        rotate_left
        · simp only [Act.put, List.setIfInBounds_toArray, List.set_cons_zero, List.set_cons_succ, i64_w, i32_w]
          rfl
        refine join_ (σ := Nat × Nat) 1 #[true, true, true, true, true, true, true, true, true, true, true, true, true, true, true, true, true, true, true, true, true, true, true, false] (fun s => [(60, .slice (some ⟨s.1, 0, none⟩) 12 12), (64, .int .i64 (Lib.idxOfS (mons.map B) p2)), (65, .int .i64 (wrap64 (Lib.idxOfS (mons.map B) p2 + 1))), (78, .agg #[.int .i64 a, .int .i64 (wrap64 (Lib.idxOfS (mons.map B) p2 + 1)), .int .i64 b, .int .i64 c, .int .i64 d, .int .i64 e]), (10, .pointer (some ⟨s.2, 0, none⟩))]) (fun s w' => w'.heap[s.2]? = some (.cells #[.int .i64 0, .int .i64 0, .int .i64 0, .int .i64 0, .int .i64 0, .int .i64 0] 136 (0, 0)) ∧ Wo.heap.size ≤ s.2 ∧ Below Wo.heap.size Wo w') ?_ ?_
        rotate_left
        · intro hCont
          refine two_ (i := 3) (j := 22) (Ni := some 60) (Nj := some 10) #[true, true, true, true, true, true, true, false, false, true, true, true, true, true, true, true, true, true, true, true, true, false, false, false] #[true, true, true, false, true, true, true, false, false, true, true, true, true, true, true, true, true, true, true, true, true, false, true, false] rfl rfl rfl rfl (by kernel_rfl) (by decide) (by decide) (fun K hK => ?_) (fun K hK => ?_)
          · skip
            refine goes_ Tryz.func112 (by kernel_rfl) rfl #[] (by rfl) rfl rfl (by simp only [List.map_toArray, List.map_cons, List.map_nil]) ?_
            with_reducible refine (months_at Wo.heap.size _ (HGo.out.below (below_drew (Below.refl _ Wo))) (by simp)).mono ?_
            rintro e wA ⟨rfl, hwA⟩
            refine ⟨_, rfl, ?_⟩
            have hbA : Below Wo.heap.size Wo wA := by rw [hwA]; exact below_alloc (below_drew (Below.refl _ Wo)) _
            have HWA := Lib.hid hwA
            clear hwA
            refine hK.out _ _ ⟨pw_cell_below hbA HX0.out, pw_cell_below hbA HX1.out, pw_cell_below hbA HX2.out, pw_cell_below hbA HX3.out, pw_cell_below hbA HX4.out, c_of (blk_bel hbA HPo.out) 2 rfl⟩ (fun hHeld => ?_)
            clear hK K
            refine norm_ (a' := ?_) ?_ ?_
            rotate_left
            · show Act.put _ (some 60) _ = _
              simp only [Act.put, List.setIfInBounds_toArray, List.set_cons_zero, List.set_cons_succ, i64_w, i32_w]
              rfl
            refine two_ (i := 7) (j := 22) (Ni := some 64) (Nj := some 10) #[true, true, true, true, true, true, true, true, false, true, true, true, true, true, true, true, true, true, true, true, true, false, false, false] #[true, true, true, true, true, true, true, false, false, true, true, true, true, true, true, true, true, true, true, true, true, false, true, false] rfl rfl rfl rfl (by kernel_rfl) (by decide) (by decide) (fun K hK => ?_) (fun K hK => ?_)
            · skip
              refine goes_ Tryz.func99 (by kernel_rfl) rfl #[.slice (some ⟨Wo.heap.size, 0, none⟩) 12 12, .string p2] (by rfl) rfl rfl (by simp only [List.map_toArray, List.map_cons, List.map_nil]; rfl) ?_
              with_reducible refine (index_at Wo.heap.size p2 _ (monsB HWA.out)).mono ?_
              rintro e wB ⟨rfl, h_⟩
              refine ⟨_, rfl, ?_⟩
              obtain rfl := h_.symm
              refine hK.out _ _ ⟨pw_cell_below hbA HX0.out, pw_cell_below hbA HX1.out, pw_cell_below hbA HX2.out, pw_cell_below hbA HX3.out, pw_cell_below hbA HX4.out, c_of (blk_bel hbA HPo.out) 2 rfl⟩ (fun hHeld => ?_)
              clear hK K
              refine norm_ (a' := ?_) ?_ ?_
              rotate_left
              · show Act.put _ (some 64) _ = _
                simp only [Act.put, List.setIfInBounds_toArray, List.set_cons_zero, List.set_cons_succ, i64_w, i32_w]
                rfl
              refine pure_ (i := 8) (N := some 65) (v := ?_) (a' := ?_) #[true, true, true, true, true, true, true, true, true, true, true, true, true, true, true, true, true, true, true, true, true, false, false, false] rfl rfl (by kernel_rfl) (fun _ _ _ h => h) (Or.inl ⟨by rfl, ?_⟩) ?_ ?_
              rotate_left
              · intro w'
                go_simp
                with_reducible rfl
              rotate_left
              · simp only [Act.put, List.setIfInBounds_toArray, List.set_cons_zero, List.set_cons_succ, i64_w, i32_w]
                rfl
              refine pure_ (i := 21) (N := some 78) (v := ?_) (a' := ?_) #[true, true, true, true, true, true, true, true, true, true, true, true, true, true, true, true, true, true, true, true, true, true, false, false] rfl rfl (by kernel_rfl) (fun _ _ _ h => h) (Or.inl ⟨by rfl, ?_⟩) ?_ ?_
              rotate_left
              · intro w'
                go_simp
                with_reducible rfl
              rotate_left
              · simp only [Act.put, List.setIfInBounds_toArray, List.set_cons_zero, List.set_cons_succ, i64_w, i32_w]
                rfl
              refine one_ (i := 22) (N := some 10) #[true, true, true, true, true, true, true, true, true, true, true, true, true, true, true, true, true, true, true, true, true, true, true, false] rfl rfl (by kernel_rfl) (by decide) (fun K hK => ?_)
              refine value_ (w1 := ?_) (v := ?_) (by rfl) rfl ?_ ?_
              rotate_left 2
              · go_simp
                constructor
                · rfl
                · rfl
              refine hK.out _ _ ⟨pw_cell_below (below_alloc hbA _) HX0.out, pw_cell_below (below_alloc hbA _) HX1.out, pw_cell_below (below_alloc hbA _) HX2.out, pw_cell_below (below_alloc hbA _) HX3.out, pw_cell_below (below_alloc hbA _) HX4.out, c_of (blk_bel (below_alloc hbA _) HPo.out) 2 rfl⟩ (fun hHeld => ?_)
              clear hK K
              refine norm_ (a' := ?_) ?_ ?_
              rotate_left
              · show Act.put _ (some 10) _ = _
                simp only [Act.put, List.setIfInBounds_toArray, List.set_cons_zero, List.set_cons_succ, i64_w, i32_w]
                rfl
              exact norm_ (by simp only [putAll, Act.put, List.setIfInBounds_toArray, List.set_cons_zero, List.set_cons_succ]) (hCont ⟨Wo.heap.size, wA.heap.size⟩ _ ⟨heap_alloc_new _ _, hbA.size, below_alloc hbA _⟩)
            · skip
              refine value_ (w1 := ?_) (v := ?_) (by rfl) rfl ?_ ?_
              rotate_left 2
              · go_simp
                constructor
                · rfl
                · rfl
              refine hK.out _ _ ⟨pw_cell_below (below_alloc hbA _) HX0.out, pw_cell_below (below_alloc hbA _) HX1.out, pw_cell_below (below_alloc hbA _) HX2.out, pw_cell_below (below_alloc hbA _) HX3.out, pw_cell_below (below_alloc hbA _) HX4.out, c_of (blk_bel (below_alloc hbA _) HPo.out) 2 rfl⟩ (fun hHeld => ?_)
              clear hK K
              refine norm_ (a' := ?_) ?_ ?_
              rotate_left
              · show Act.put _ (some 10) _ = _
                simp only [Act.put, List.setIfInBounds_toArray, List.set_cons_zero, List.set_cons_succ, i64_w, i32_w]
                rfl
              refine one_ (i := 7) (N := some 64) #[true, true, true, true, true, true, true, true, false, true, true, true, true, true, true, true, true, true, true, true, true, false, true, false] rfl rfl (by kernel_rfl) (by decide) (fun K hK => ?_)
              refine goes_ Tryz.func99 (by kernel_rfl) rfl #[.slice (some ⟨Wo.heap.size, 0, none⟩) 12 12, .string p2] (by rfl) rfl rfl (by simp only [List.map_toArray, List.map_cons, List.map_nil]; rfl) ?_
              with_reducible refine (index_at Wo.heap.size p2 _ (monsC HWA.out)).mono ?_
              rintro e wB ⟨rfl, h_⟩
              refine ⟨_, rfl, ?_⟩
              obtain rfl := h_.symm
              refine hK.out _ _ ⟨pw_cell_below (below_alloc hbA _) HX0.out, pw_cell_below (below_alloc hbA _) HX1.out, pw_cell_below (below_alloc hbA _) HX2.out, pw_cell_below (below_alloc hbA _) HX3.out, pw_cell_below (below_alloc hbA _) HX4.out, c_of (blk_bel (below_alloc hbA _) HPo.out) 2 rfl⟩ (fun hHeld => ?_)
              clear hK K
              refine norm_ (a' := ?_) ?_ ?_
              rotate_left
              · show Act.put _ (some 64) _ = _
                simp only [Act.put, List.setIfInBounds_toArray, List.set_cons_zero, List.set_cons_succ, i64_w, i32_w]
                rfl
              refine pure_ (i := 8) (N := some 65) (v := ?_) (a' := ?_) #[true, true, true, true, true, true, true, true, true, true, true, true, true, true, true, true, true, true, true, true, true, false, true, false] rfl rfl (by kernel_rfl) (fun _ _ _ h => h) (Or.inl ⟨by rfl, ?_⟩) ?_ ?_
              rotate_left
              · intro w'
                go_simp
                with_reducible rfl
              rotate_left
              · simp only [Act.put, List.setIfInBounds_toArray, List.set_cons_zero, List.set_cons_succ, i64_w, i32_w]
                rfl
              refine pure_ (i := 21) (N := some 78) (v := ?_) (a' := ?_) #[true, true, true, true, true, true, true, true, true, true, true, true, true, true, true, true, true, true, true, true, true, true, true, false] rfl rfl (by kernel_rfl) (fun _ _ _ h => h) (Or.inl ⟨by rfl, ?_⟩) ?_ ?_
              rotate_left
              · intro w'
                go_simp
                with_reducible rfl
              rotate_left
              · simp only [Act.put, List.setIfInBounds_toArray, List.set_cons_zero, List.set_cons_succ, i64_w, i32_w]
                rfl
              exact norm_ (by simp only [putAll, Act.put, List.setIfInBounds_toArray, List.set_cons_zero, List.set_cons_succ]) (hCont ⟨Wo.heap.size, wA.heap.size⟩ _ ⟨heap_alloc_new _ _, hbA.size, below_alloc hbA _⟩)
          · skip
            refine value_ (w1 := ?_) (v := ?_) (by rfl) rfl ?_ ?_
            rotate_left 2
            · go_simp
              constructor
              · rfl
              · rfl
            refine hK.out _ _ ⟨pw_cell_below (below_drew (below_alloc (Below.refl _ Wo) _)) HX0.out, pw_cell_below (below_drew (below_alloc (Below.refl _ Wo) _)) HX1.out, pw_cell_below (below_drew (below_alloc (Below.refl _ Wo) _)) HX2.out, pw_cell_below (below_drew (below_alloc (Below.refl _ Wo) _)) HX3.out, pw_cell_below (below_drew (below_alloc (Below.refl _ Wo) _)) HX4.out, c_of (blk_bel (below_drew (below_alloc (Below.refl _ Wo) _)) HPo.out) 2 rfl⟩ (fun hHeld => ?_)
            clear hK K
            refine norm_ (a' := ?_) ?_ ?_
            rotate_left
            · show Act.put _ (some 10) _ = _
              simp only [Act.put, List.setIfInBounds_toArray, List.set_cons_zero, List.set_cons_succ, i64_w, i32_w]
              rfl
            refine one_ (i := 3) (N := some 60) #[true, true, true, true, true, true, true, false, false, true, true, true, true, true, true, true, true, true, true, true, true, false, true, false] rfl rfl (by kernel_rfl) (by decide) (fun K hK => ?_)
            refine goes_ Tryz.func112 (by kernel_rfl) rfl #[] (by rfl) rfl rfl (by simp only [List.map_toArray, List.map_cons, List.map_nil]) ?_
            with_reducible refine (months_at (Wo.heap.size + 1) _ (HGo.out.below (below_drew (below_alloc (Below.refl _ Wo) _))) (by simp)).mono ?_
            rintro e wA ⟨rfl, hwA⟩
            refine ⟨_, rfl, ?_⟩
            have hbA : Below Wo.heap.size Wo wA := by rw [hwA]; exact below_alloc (below_drew (below_alloc (Below.refl _ Wo) _)) _
            have HWA := Lib.hid hwA
            clear hwA
            refine hK.out _ _ ⟨pw_cell_below hbA HX0.out, pw_cell_below hbA HX1.out, pw_cell_below hbA HX2.out, pw_cell_below hbA HX3.out, pw_cell_below hbA HX4.out, c_of (blk_bel hbA HPo.out) 2 rfl⟩ (fun hHeld => ?_)
            clear hK K
            refine norm_ (a' := ?_) ?_ ?_
            rotate_left
            · show Act.put _ (some 60) _ = _
              simp only [Act.put, List.setIfInBounds_toArray, List.set_cons_zero, List.set_cons_succ, i64_w, i32_w]
              rfl
            refine one_ (i := 7) (N := some 64) #[true, true, true, true, true, true, true, true, false, true, true, true, true, true, true, true, true, true, true, true, true, false, true, false] rfl rfl (by kernel_rfl) (by decide) (fun K hK => ?_)
            refine goes_ Tryz.func99 (by kernel_rfl) rfl #[.slice (some ⟨(Wo.heap.size + 1), 0, none⟩) 12 12, .string p2] (by rfl) rfl rfl (by simp only [List.map_toArray, List.map_cons, List.map_nil]; rfl) ?_
            with_reducible refine (index_at (Wo.heap.size + 1) p2 _ (monsA HWA.out)).mono ?_
            rintro e wB ⟨rfl, h_⟩
            refine ⟨_, rfl, ?_⟩
            obtain rfl := h_.symm
            refine hK.out _ _ ⟨pw_cell_below hbA HX0.out, pw_cell_below hbA HX1.out, pw_cell_below hbA HX2.out, pw_cell_below hbA HX3.out, pw_cell_below hbA HX4.out, c_of (blk_bel hbA HPo.out) 2 rfl⟩ (fun hHeld => ?_)
            clear hK K
            refine norm_ (a' := ?_) ?_ ?_
            rotate_left
            · show Act.put _ (some 64) _ = _
              simp only [Act.put, List.setIfInBounds_toArray, List.set_cons_zero, List.set_cons_succ, i64_w, i32_w]
              rfl
            refine pure_ (i := 8) (N := some 65) (v := ?_) (a' := ?_) #[true, true, true, true, true, true, true, true, true, true, true, true, true, true, true, true, true, true, true, true, true, false, true, false] rfl rfl (by kernel_rfl) (fun _ _ _ h => h) (Or.inl ⟨by rfl, ?_⟩) ?_ ?_
            rotate_left
            · intro w'
              go_simp
              with_reducible rfl
            rotate_left
            · simp only [Act.put, List.setIfInBounds_toArray, List.set_cons_zero, List.set_cons_succ, i64_w, i32_w]
              rfl
            refine pure_ (i := 21) (N := some 78) (v := ?_) (a' := ?_) #[true, true, true, true, true, true, true, true, true, true, true, true, true, true, true, true, true, true, true, true, true, true, true, false] rfl rfl (by kernel_rfl) (fun _ _ _ h => h) (Or.inl ⟨by rfl, ?_⟩) ?_ ?_
            rotate_left
            · intro w'
              go_simp
              with_reducible rfl
            rotate_left
            · simp only [Act.put, List.setIfInBounds_toArray, List.set_cons_zero, List.set_cons_succ, i64_w, i32_w]
              rfl
            exact norm_ (by simp only [putAll, Act.put, List.setIfInBounds_toArray, List.set_cons_zero, List.set_cons_succ]) (hCont ⟨Wo.heap.size + 1, Wo.heap.size⟩ _ ⟨fork5a HWA.out, Nat.le_refl _, hbA⟩)
        rintro ⟨g6, g7⟩ wC ⟨hg7, hl7, hBC⟩
        have hHeld : wC.cell? ad5 = some (.int .i64 a) ∧ wC.cell? ⟨ad5.block, ad5.off + 1, none⟩ = some (.int .i64 b) ∧ wC.cell? ⟨ad5.block, ad5.off + 2, none⟩ = some (.int .i64 c) ∧ wC.cell? ⟨ad5.block, ad5.off + 3, none⟩ = some (.int .i64 d) ∧ wC.cell? ⟨ad5.block, ad5.off + 4, none⟩ = some (.int .i64 e) ∧ wC.cell? ⟨w.heap.size, 2, none⟩ = some (.string p2) := ⟨pw_cell_below hBC HX0.out, pw_cell_below hBC HX1.out, pw_cell_below hBC HX2.out, pw_cell_below hBC HX3.out, pw_cell_below hBC HX4.out, c_of (blk_bel hBC HPo.out) 2 rfl⟩
        have z0 := c_of hg7 0 rfl
        have z1 := c_of hg7 1 rfl
        have z2 := c_of hg7 2 rfl
        have z3 := c_of hg7 3 rfl
        have z4 := c_of hg7 4 rfl
        have z5 := c_of hg7 5 rfl
        have y0 := fr_of hg7 0
        have y1 := fr_of hg7 1
        have y2 := fr_of hg7 2
        have y3 := fr_of hg7 3
        have y4 := fr_of hg7 4
        have y5 := fr_of hg7 5
        refine norm_ (a' := ?_) ?_ ?_
        rotate_left
        · simp only [putAll, Act.put, List.setIfInBounds_toArray, List.set_cons_zero, List.set_cons_succ]
          rfl
        refine last_ (i := 23) (N := none) #[true, true, true, true, true, true, true, true, true, true, true, true, true, true, true, true, true, true, true, true, true, true, true, true] rfl rfl (by kernel_rfl) (by decide) (fun K hK => ?_)
        refine skip_ (w1 := ?_) (by rfl) rfl ?_ ?_
        rotate_left
        · go_simp
          rfl
        refine hK.out _ _ ?_
        clear hK K
        refine done_ (by kernel_rfl) ?_
        clear hHeld
        obtain ⟨mm, hmm⟩ : ∃ v, v = wrap64 (Lib.idxOfS (mons.map B) p2 + 1) := ⟨_, rfl⟩
        obtain ⟨We, hWe⟩ : ∃ W, W = ((((((wC.setCell ⟨g7, 0, none⟩ (.int .i64 a)).setCell ⟨g7, 1, none⟩ (.int .i64 (wrap64 (Lib.idxOfS (mons.map B) p2 + 1)))).setCell ⟨g7, 2, none⟩ (.int .i64 b)).setCell ⟨g7, 3, none⟩ (.int .i64 c)).setCell ⟨g7, 4, none⟩ (.int .i64 d)).setCell ⟨g7, 5, none⟩ (.int .i64 e)) := ⟨_, rfl⟩
        rw [← hmm] at hWe ⊢
        rw [← hWe]
        have HD : Hid (We.heap[g7]? = some (.cells #[.int .i64 a, .int .i64 mm, .int .i64 b, .int .i64 c, .int .i64 d, .int .i64 e] 136 (0, 0))) := Lib.hid (by rw [hWe]; exact set_same (set_same (set_same (set_same (set_same (set_same hg7 rfl) rfl) rfl) rfl) rfl) rfl)
        have HBe : Hid (Below Wo.heap.size Wo We) := Lib.hid (by
          rw [hWe]
          exact Below.setCell (Below.setCell (Below.setCell (Below.setCell (Below.setCell (Below.setCell hBC (p := ⟨g7, 0, none⟩) hl7 _) (p := ⟨g7, 1, none⟩) hl7 _) (p := ⟨g7, 2, none⟩) hl7 _) (p := ⟨g7, 3, none⟩) hl7 _) (p := ⟨g7, 4, none⟩) hl7 _) (p := ⟨g7, 5, none⟩) hl7 _)
        have KEY : Hid (∀ n y M d' h mi sc wd, IsText s n y M d' h mi sc wd → a = (y : Int) ∧ mm = (M : Int) + 1 ∧ b = (d' : Int) ∧ c = (h : Int) ∧ d = (mi : Int) ∧ e = (sc : Int)) := Lib.hid (fun n y M d' h mi sc wd t => by
          have e1 := HV.out
          unfold Vals at e1
          rw [List.take_length, HTX.out _ _ _ _ _ _ _ _ t, Text.vals t] at e1
          simp only [List.map_cons, List.map_nil, List.cons.injEq, Lib.NumEnd.ok.injEq, and_true] at e1
          obtain ⟨e1, e2, e3, e4, e5⟩ := e1
          have e6 := (Text.pieces t HPP.out).2.1
          have hM : M < 12 := by have := t.ok.1.2.2.2.1; omega
          refine ⟨e1, ?_, e2, e3, e4, e5⟩
          rw [hmm, e6, idx_mons M hM]
          unfold wrap64
          omega)
        have hGe := (HGo.out.below HBe.out)
        have HGe := Lib.hid hGe
        have HBw := Lib.hid (below_step HBk.out (HW.out.trans (HBe.out.mono HW.out.size)))
        clear hWe hmm hg7 hl7 hBC z0 z1 z2 z3 z4 z5 y0 y1 y2 y3 y4 y5 hGe HX0 HX1 HX2 HX3 HX4 HPo HGo
        have l0 := c_of HD.out 0 (v := .int .i64 a) rfl
        have l1 := c_of HD.out 1 (v := .int .i64 mm) rfl
        have l2 := c_of HD.out 2 (v := .int .i64 b) rfl
        have l3 := c_of HD.out 3 (v := .int .i64 c) rfl
        have l4 := c_of HD.out 4 (v := .int .i64 d) rfl
        have l5 := c_of HD.out 5 (v := .int .i64 e) rfl
        by_cases ho : DateOk a mm b c d e
        · have HNUM := Lib.hid (number_ok a mm b c d e We ho)
          obtain ⟨n, hn⟩ : ∃ n, n = num a mm b c d e := ⟨_, rfl⟩
          rw [← hn] at HNUM
          obtain ⟨wd, hwd, hwd7⟩ := wday_nat (n := n) (by rw [hn]; exact num_bd ho)
          obtain ⟨Y, hY⟩ : ∃ Y : Nat, a = (Y : Int) := ⟨a.toNat, by have := ho.1.1; omega⟩
          obtain ⟨M, hM⟩ : ∃ Y : Nat, mm = (Y : Int) + 1 := ⟨(mm - 1).toNat, by have := ho.1.2.2.1; omega⟩
          obtain ⟨D, hD⟩ : ∃ Y : Nat, b = (Y : Int) := ⟨b.toNat, by have := ho.1.2.2.2.2.1; omega⟩
          obtain ⟨H, hH⟩ : ∃ Y : Nat, c = (Y : Int) := ⟨c.toNat, by have := ho.h0; omega⟩
          obtain ⟨MI, hMI⟩ : ∃ Y : Nat, d = (Y : Int) := ⟨d.toNat, by have := ho.mi0; omega⟩
          obtain ⟨SC, hSC⟩ : ∃ Y : Nat, e = (Y : Int) := ⟨e.toNat, by have := ho.s0; omega⟩
          obtain ⟨F, hF⟩ : ∃ F : ByteArray, F = ⟨(fmtL Y M D H MI SC wd).toArray⟩ := ⟨_, rfl⟩
          have HFM : Hid (∀ w', Below We.heap.size We w' → Calls Tryz.prog 114 #[.int .i64 n] w' fun e w'' => e = .returned (.tuple #[.string F, .int .i64 0]) ∧ Below w'.heap.size w' w'') := Lib.hid (fun w' hb => by
            rw [hF]
            exact format_nat n Y M D H MI SC wd w' (HGe.out.below hb) (by rw [← hY, ← hM, ← hD, ← hH, ← hMI, ← hSC]; exact ho) (by rw [← hY, ← hM, ← hD, ← hH, ← hMI, ← hSC]; exact hn.symm) hwd hwd7)
          have HFN : Hid (F = s → Text s n) := Lib.hid (fun hs => ⟨Y, M, D, H, MI, SC, wd, by rw [← hY, ← hM, ← hD, ← hH, ← hMI, ← hSC]; exact ho, by rw [← hY, ← hM, ← hD, ← hH, ← hMI, ← hSC]; exact hn.symm, hwd, hwd7, hs ▸ hF⟩)
          have HFX : Hid (F ≠ s → NoText s) := Lib.hid (fun hs n' ⟨y, M', d', h, mi, sc, wd', t⟩ => by
            obtain ⟨k1, k2, k3, k4, k5, k6⟩ := KEY.out _ _ _ _ _ _ _ _ t
            have hnn : n' = n := by rw [hn, k1, k2, k3, k4, k5, k6]; exact t.nu.symm
            have e7 := t.day
            rw [hnn, hwd] at e7
            obtain rfl : Y = y := by omega
            obtain rfl : M = M' := by omega
            obtain rfl : D = d' := by omega
            obtain rfl : H = h := by omega
            obtain rfl : MI = mi := by omega
            obtain rfl : SC = sc := by omega
            obtain rfl : wd = wd' := by omega
            exact hs (hF.trans t.text.symm))
          clear ho hn hwd hwd7 hY hM hD hH hMI hSC hF KEY HTX
          by_cases hs : F = s
          · have HT := Lib.hid (HFN.out hs)
            subst hs
            go_wp2_with (first | (go_at_call 113; refine HNUM.out.mono ?_; rintro e_ w4 ⟨rfl, hb4⟩; have HB4 := Lib.hid hb4; clear hb4) | (go_at_call 114; refine (HFM.out _ HB4.out).mono ?_; rintro e_ w5 ⟨rfl, hb5⟩; have HB5 := Lib.hid hb5; clear hb5))
            go_ret2
            exact ⟨below_step HBw.out (below_step HB4.out HB5.out), .inr ⟨n, HT.out, rfl⟩⟩
          · have HNO := Lib.hid (HFX.out hs)
            have tF : (F.toList == s.toList) = false := (Lib.bytes_beq_false_iff F s).2 hs
            clear hs
            go_wp2_with (first | (go_at_call 113; refine HNUM.out.mono ?_; rintro e_ w4 ⟨rfl, hb4⟩; have HB4 := Lib.hid hb4; clear hb4) | (go_at_call 114; refine (HFM.out _ HB4.out).mono ?_; rintro e_ w5 ⟨rfl, hb5⟩; have HB5 := Lib.hid hb5; clear hb5))
            go_ret2
            exact ⟨below_step HBw.out (below_step HB4.out HB5.out), .inl ⟨rfl, HNO.out⟩⟩
        · have HNUM := Lib.hid (number_no a mm b c d e We ho)
          have HNO : Hid (NoText s) := Lib.hid (fun n ⟨y, M, d', h, mi, sc, wd, t⟩ => by
            obtain ⟨k1, k2, k3, k4, k5, k6⟩ := KEY.out _ _ _ _ _ _ _ _ t
            rw [k1, k2, k3, k4, k5, k6] at ho
            exact ho t.ok)
          clear ho KEY HTX
          go_wp2_with (go_at_call 113; refine HNUM.out.mono ?_; rintro e_ w4 ⟨rfl, hb4⟩; have HB4 := Lib.hid hb4; clear hb4)
          go_ret2
          exact ⟨below_step HBw.out HB4.out, .inl ⟨rfl, HNO.out⟩⟩
      · have t5 : ((nums.length : Int) != 5) = true := by rw [bne_iff_ne]; omega
        have HNO : Hid (NoText s) := Lib.hid (fun n ⟨y, M, d, h, mi, sc, wd, t⟩ => by
          have e := HTX.out _ _ _ _ _ _ _ _ t
          have e2 := HNL.out
          rw [e] at e2
          exact h5 e2)
        clear h5
        go_wp2
        go_ret2
        exact ⟨below_step HBk.out HW.out, .inl ⟨rfl, HNO.out⟩⟩
theorem parse_q (s : ByteArray) (w : World) (hG : Glob w) (hs : s.size < 4294967281) : Calls Tryz.prog 79 #[.string s] w (PPost s w) := by
  by_cases hb : Lib.countB s ⟨#[32]⟩ ≠ 5 ∨ s.size ≠ 29
  · exact parse_bad s w hG hs hb
  · have hc : Lib.countB s ⟨#[32]⟩ = 5 := by omega
    have hl := split_len s 32
    rw [hc] at hl
    obtain ⟨p0, p1, p2, p3, p4, p5, hP⟩ : ∃ p0 p1 p2 p3 p4 p5, Lib.splitB ⟨#[32]⟩ 0 5 s = [p0, p1, p2, p3, p4, p5] := by
      generalize Lib.splitB ⟨#[32]⟩ 0 5 s = l at hl
      rcases l with _ | ⟨a, _ | ⟨b, _ | ⟨c, _ | ⟨d, _ | ⟨e, _ | ⟨f, _ | ⟨g, t⟩⟩⟩⟩⟩⟩⟩ <;> simp at hl
      exact ⟨a, b, c, d, e, f, rfl⟩
    exact parse_six s p0 p1 p2 p3 p4 p5 w hG (by omega) hc (by rw [hc]; exact hP)
end Go.Proofs.YtbnhlekehndhkaaGreatDoor.Da

