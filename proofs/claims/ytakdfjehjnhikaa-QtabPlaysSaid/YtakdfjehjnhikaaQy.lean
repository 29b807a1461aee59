import Derived.Test.YtakdfjehjnhikaaQx
namespace Go.Proofs.Ytakdfjehjnhikaa.Q
open Go.RowKit Go.Proofs.YtakdfjehjnhikaaW.PrintWords Go.Proofs.YtakdfjehjnhikaaW.PrintLast Go.Proofs.YtakdfjehjnhikaaW.PrintMore Go.Proofs.Ytakdfjehjnhikaa.G
set_option linter.unusedVariables false
set_option linter.unusedSimpArgs false

/-- the document's Insert -/
theorem rinsert_yes {ok : Nat → Prop} (w : World) (g : Nat) (s : TS) (x : S29) (hnew : ∀ k, w.heap.size ≤ k → ok k) (h : RTabK ok w g s) (hs : s.Ok) (hx : small x) (hr : rm x ≤ s.cap) :
    Calls Try.prog 26 #[.pointer (some ⟨g, 0, none⟩), .agg #[.string x.f0, .string x.f1]] w fun e w' => e = .returned (.tuple #[.int .i64 ((s.insert x).first + (s.insert x).l.length - 1), .int .i64 0]) ∧ RTabK ok w' g (s.insert x) ∧ w.grownBy w' (some g) := by
  have hgl : g < w.heap.size := by obtain ⟨A, c, hh, -⟩ := h; exact blk_lt' hh
  have hT0 := h.below (below_alloc (Below.refl w.heap.size w) (.cells #[.string x.f0, .string x.f1] 29))
  have h2' : decide ((64 : Int) < (x.f0.size : Int)) = false := decide_eq_false (by unfold small at hx; omega)
  have h3' : decide ((512 : Int) < (x.f1.size : Int)) = false := decide_eq_false (by unfold small at hx; omega)
  have h4' : decide (s.cap < rm x) = false := decide_eq_false (by omega)
  have hrm := rm_small x hx
  have hrm0 := rm_lo x
  have HT0 := Lib.hid hT0
  obtain ⟨A, c, hh, -⟩ := hT0
  have H2 := Lib.hid (cells_of hh 1)
  have H2 : Hid ((w.alloc (.cells #[.string x.f0, .string x.f1] 29)).cell? ⟨g, 1, none⟩ = some (.int .i64 s.cap)) := H2
  clear hh h
  have BX := Lib.hid (heap_alloc_new w (.cells #[.string x.f0, .string x.f1] 29))
  have Hs := Lib.hid hs
  have hcap := hs.cap0
  have hcap1 := hs.cap1
  have hmost := hs.most
  clear hs
  go_enter Try.func26, Try.ntmps26
  go_upto_region 3 with fail
  refine start_ (n := 7) (S := fun w' => w'.cell? ⟨g, 1, none⟩ = some (.int .i64 s.cap) ∧ w'.cell? ⟨w.heap.size, 0, none⟩ = some (.string x.f0) ∧ w'.cell? ⟨w.heap.size, 1, none⟩ = some (.string x.f1)) (ds := []) #[false, false, false, false, false, false, false] (by kernel_rfl) rfl rfl ⟨H2.out, box0 BX.out, box1 BX.out⟩ (fun hHeld => ?_)
  refine pure_ (i := 2) (N := some 18) (v := ?_) (a' := ?_) #[false, false, true, false, false, false, false] rfl rfl (by kernel_rfl) (fun _ _ _ h => h) (Or.inl ⟨by rfl, ?_⟩) ?_ ?_
  rotate_left
  · intro w'
    go_simp
    with_reducible rfl
  rotate_left
  · simp only [Act.put, List.setIfInBounds_toArray, List.set_cons_zero, List.set_cons_succ, i64_w, i32_w]
    rfl
  refine pure_ (i := 3) (N := some 19) (v := ?_) (a' := ?_) #[false, false, true, true, false, false, false] rfl rfl (by kernel_rfl) (fun _ _ _ h => h) (Or.inl ⟨by rfl, ?_⟩) ?_ ?_
  rotate_left
  · intro w'
    go_simp
    with_reducible rfl
  rotate_left
  · simp only [Act.put, List.setIfInBounds_toArray, List.set_cons_zero, List.set_cons_succ, i64_w, i32_w]
    rfl
  refine pure_ (i := 4) (N := some 20) (v := ?_) (a' := ?_) #[false, false, true, true, true, false, false] rfl rfl (by kernel_rfl) (fun _ _ _ h => h) (Or.inl ⟨by rfl, ?_⟩) ?_ ?_
  rotate_left
  · intro w'
    go_simp
    with_reducible rfl
  rotate_left
  · simp only [Act.put, List.setIfInBounds_toArray, List.set_cons_zero, List.set_cons_succ, i64_w, i32_w]
    rfl
  refine take_ (i := 0) (N := some 16) (v := ?_) (a' := ?_) #[true, false, true, true, true, false, false] rfl rfl (by kernel_rfl) (fun _ _ _ h => h) (Or.inl ⟨by rfl, ?_⟩) hHeld ?_ ?_
  rotate_left
  · rintro w' ⟨s0, s1, s2⟩
    go_simp
    with_reducible rfl
  rotate_left
  · simp only [Act.put, List.setIfInBounds_toArray, List.set_cons_zero, List.set_cons_succ, i64_w, i32_w]
    rfl
  refine take_ (i := 5) (N := some 21) (v := ?_) (a' := ?_) #[true, false, true, true, true, true, false] rfl rfl (by kernel_rfl) (fun _ _ _ h => h) (Or.inl ⟨by rfl, ?_⟩) hHeld ?_ ?_
  rotate_left
  · rintro w' ⟨s0, s1, s2⟩
    go_simp
    with_reducible rfl
  rotate_left
  · simp only [Act.put, List.setIfInBounds_toArray, List.set_cons_zero, List.set_cons_succ, i64_w, i32_w]
    rfl
  refine one_ (i := 1) (N := some 17) #[true, true, true, true, true, true, false] rfl rfl (by kernel_rfl) (by decide) (fun K hK => ?_)
  refine goes_ Try.func22 (by kernel_rfl) rfl #[.agg #[.string x.f0, .string x.f1]] (by rfl) rfl rfl (by simp only [List.map_toArray, List.map_cons, List.map_nil]; rfl) ?_
  with_reducible refine (rroom_calls x _ (by omega)).mono ?_
  rintro e w3 ⟨rfl, hb1⟩
  refine ⟨_, rfl, ?_⟩
  refine hK.out _ _ ⟨pw_cell_below hb1 H2.out, pw_cell_below hb1 (box0 BX.out), pw_cell_below hb1 (box1 BX.out)⟩ (fun hHeld => ?_)
  clear hK K
  refine norm_ (a' := ?_) ?_ ?_
  rotate_left
  · show Act.put _ (some 17) _ = _
    simp only [Act.put, List.setIfInBounds_toArray, List.set_cons_zero, List.set_cons_succ, i64_w, i32_w]
    rfl
  refine pure_ (i := 6) (N := some 22) (v := ?_) (a' := ?_) #[true, true, true, true, true, true, true] rfl rfl (by kernel_rfl) (fun _ _ _ h => h) (Or.inl ⟨by rfl, ?_⟩) ?_ ?_
  rotate_left
  · intro w'
    go_simp
    with_reducible rfl
  rotate_left
  · simp only [Act.put, List.setIfInBounds_toArray, List.set_cons_zero, List.set_cons_succ, i64_w, i32_w]
    rfl
  refine done_ (by kernel_rfl) ?_
  have HB := Lib.hid (show Below (w.alloc (.cells #[.string x.f0, .string x.f1] 29)).heap.size _ w3 from below_step (below_drew (Below.refl _ _)) hb1)
  clear hb1
  have HT3 := Lib.hid (HT0.out.below HB.out)
  have BX3 := Lib.hid (blk_below HB.out BX.out)
  have H23 : Hid (w3.cell? ⟨g, 1, none⟩ = some (.int .i64 s.cap)) := Lib.hid (pw_cell_below HB.out H2.out)
  have HW : Hid (wrap64 (s.cap - rm x) = s.cap - rm x) := Lib.hid (by unfold wrap64; omega)
  have hu1 : rms s.l ≤ 1000000 := by have := Hs.out.used; have := Hs.out.fits; omega
  have hm0 : 0 ≤ s.cap - rm x := by omega
  have hct : s.first + s.l.length ≤ 4611686018427387904 := by have := Hs.out.count; omega
  go_upto_region 5 with fail
  refine start_ (n := 9) (S := fun w' => w'.cell? ⟨g, 1, none⟩ = some (.int .i64 s.cap) ∧ w'.cell? ⟨w.heap.size, 0, none⟩ = some (.string x.f0) ∧ w'.cell? ⟨w.heap.size, 1, none⟩ = some (.string x.f1)) (ds := [8]) #[false, false, false, false, false, false, false, false, false] (by kernel_rfl) rfl rfl ⟨H23.out, box0 BX3.out, box1 BX3.out⟩ (fun hHeld => ?_)
  refine pure_ (i := 0) (N := some 23) (v := ?_) (a' := ?_) #[true, false, false, false, false, false, false, false, false] rfl rfl (by kernel_rfl) (fun _ _ _ h => h) (Or.inl ⟨by rfl, ?_⟩) ?_ ?_
  rotate_left
  · intro w'
    go_simp
    with_reducible rfl
  rotate_left
  · simp only [Act.put, List.setIfInBounds_toArray, List.set_cons_zero, List.set_cons_succ, i64_w, i32_w]
    rfl
  refine pure_ (i := 1) (N := some 24) (v := ?_) (a' := ?_) #[true, true, false, false, false, false, false, false, false] rfl rfl (by kernel_rfl) (fun _ _ _ h => h) (Or.inl ⟨by rfl, ?_⟩) ?_ ?_
  rotate_left
  · intro w'
    go_simp
    with_reducible rfl
  rotate_left
  · simp only [Act.put, List.setIfInBounds_toArray, List.set_cons_zero, List.set_cons_succ, i64_w, i32_w]
    rfl
  refine pure_ (i := 2) (N := some 25) (v := ?_) (a' := ?_) #[true, true, true, false, false, false, false, false, false] rfl rfl (by kernel_rfl) (fun _ _ _ h => h) (Or.inl ⟨by rfl, ?_⟩) ?_ ?_
  rotate_left
  · intro w'
    go_simp
    with_reducible rfl
  rotate_left
  · simp only [Act.put, List.setIfInBounds_toArray, List.set_cons_zero, List.set_cons_succ, i64_w, i32_w]
    rfl
  refine pure_ (i := 3) (N := some 26) (v := ?_) (a' := ?_) #[true, true, true, true, false, false, false, false, false] rfl rfl (by kernel_rfl) (fun _ _ _ h => h) (Or.inl ⟨by rfl, ?_⟩) ?_ ?_
  rotate_left
  · intro w'
    go_simp
    with_reducible rfl
  rotate_left
  · simp only [Act.put, List.setIfInBounds_toArray, List.set_cons_zero, List.set_cons_succ, i64_w, i32_w]
    rfl
  refine take_ (i := 4) (N := some 27) (v := ?_) (a' := ?_) #[true, true, true, true, true, false, false, false, false] rfl rfl (by kernel_rfl) (fun _ _ _ h => h) (Or.inl ⟨by rfl, ?_⟩) hHeld ?_ ?_
  rotate_left
  · rintro w' ⟨s0, s1, s2⟩
    go_simp
    with_reducible rfl
  rotate_left
  · simp only [Act.put, List.setIfInBounds_toArray, List.set_cons_zero, List.set_cons_succ, i64_w, i32_w]
    rfl
  refine take_ (i := 5) (N := some 28) (v := ?_) (a' := ?_) #[true, true, true, true, true, true, false, false, false] rfl rfl (by kernel_rfl) (fun _ _ _ h => h) (Or.inl ⟨by rfl, ?_⟩) hHeld ?_ ?_
  rotate_left
  · rintro w' ⟨s0, s1, s2⟩
    go_simp
    with_reducible rfl
  rotate_left
  · simp only [Act.put, List.setIfInBounds_toArray, List.set_cons_zero, List.set_cons_succ, i64_w, i32_w]
    rfl
  refine one_ (i := 6) (N := some 29) #[true, true, true, true, true, true, true, false, false] rfl rfl (by kernel_rfl) (by decide) (fun K hK => ?_)
  refine goes_ Try.func22 (by kernel_rfl) rfl #[.agg #[.string x.f0, .string x.f1]] (by rfl) rfl rfl (by simp only [List.map_toArray, List.map_cons, List.map_nil]; rfl) ?_
  with_reducible refine (rroom_calls x _ (by omega)).mono ?_
  rintro e w4 ⟨rfl, hb4⟩
  refine ⟨_, rfl, ?_⟩
  refine hK.out _ _ ⟨pw_cell_below hb4 H23.out, pw_cell_below hb4 (box0 BX3.out), pw_cell_below hb4 (box1 BX3.out)⟩ (fun hHeld => ?_)
  clear hK K
  refine norm_ (a' := ?_) ?_ ?_
  rotate_left
  · show Act.put _ (some 29) _ = _
    simp only [Act.put, List.setIfInBounds_toArray, List.set_cons_zero, List.set_cons_succ, i64_w, i32_w]
    rfl
  refine pure_ (i := 7) (N := some 30) (v := ?_) (a' := ?_) #[true, true, true, true, true, true, true, true, false] rfl rfl (by kernel_rfl) (fun _ _ _ h => h) (Or.inl ⟨by rfl, ?_⟩) ?_ ?_
  rotate_left
  · intro w'
    go_simp
    with_reducible rfl
  rotate_left
  · simp only [Act.put, List.setIfInBounds_toArray, List.set_cons_zero, List.set_cons_succ, i64_w, i32_w]
    rfl
  refine last_ (i := 8) (N := some 31) #[true, true, true, true, true, true, true, true, true] rfl rfl (by kernel_rfl) (by decide) (fun K hK => ?_)
  refine goes_ Try.func44 (by kernel_rfl) rfl #[.pointer (some ⟨g, 0, none⟩), .int .i64 (wrap64 (s.cap - rm x))] (by rfl) rfl rfl (by simp only [List.map_toArray, List.map_cons, List.map_nil]; rfl) ?_
  with_reducible refine (rshrink_calls _ g s (wrap64 (s.cap - rm x)) (HT3.out.below (below_step (below_drew (Below.refl _ _)) hb4)) hu1 (by rw [HW.out]; exact hm0) Hs.out.first hct).mono ?_
  rintro e wc ⟨rfl, hT5, hg5⟩
  refine ⟨_, rfl, ?_⟩
  refine hK.out _ _ ?_
  clear hK K
  refine norm_ (a' := ?_) ?_ ?_
  rotate_left
  · show Act.put _ (some 31) _ = _
    simp only [Act.put, List.setIfInBounds_toArray, List.set_cons_zero, List.set_cons_succ, i64_w, i32_w]
    rfl
  refine done_ (by kernel_rfl) ?_
  have hb34 : Below w3.heap.size w3 w4 := below_step (below_drew (Below.refl _ _)) hb4
  have HBX8 := Lib.hid (blk_grown hg5 (blk_below hb34 BX3.out) (show w.heap.size ≠ g by omega))
  have HG8 : Hid (w.grownBy wc (some g)) := Lib.hid (World.grownBy.trans (World.grownBy.trans (grown_of_below (below_step (below_alloc (Below.refl w.heap.size w) _) HB.out) _) (grown_of_below hb34 _)) hg5)
  rw [HW.out] at hT5
  have HT8 : Hid (RTabK ok wc g (s.cut (s.cap - rm x))) := Lib.hid hT5
  clear hb34 hb4 hT5 hg5
  obtain ⟨A8, c8, hh8, hl8, hC8, hne8⟩ := HT8.out
  have H85 : Hid (wc.cell? ⟨g, 3, none⟩ = some (.slice A8 (s.cut (s.cap - rm x)).l.length c8)) := Lib.hid (cells_of hh8 3)
  have hz8 := blk_frozen hh8
  have HH8 := Lib.hid hh8
  have hgl8 := blk_lt' hh8
  have HL8 := Lib.hid hl8
  have HC8 : Hid (Kd.C k29 wc A8 (s.cut (s.cap - rm x)).l.length (s.cut (s.cap - rm x)).l) := Lib.hid hC8
  have HN8 := Lib.hid hne8
  clear hh8 hl8 hC8 hne8
  obtain ⟨L8, hL8⟩ : ∃ L, L = (s.cut (s.cap - rm x)).l := ⟨_, rfl⟩
  have HLL := Lib.hid hL8
  rw [← hL8] at H85 HC8
  clear hL8
  have hsz8 : w.heap.size + 1 ≤ wc.heap.size := by have := blk_lt' HBX8.out; omega
  have hlen8 : L8.length * 32 ≤ 4096 := by
    obtain ⟨g1, -⟩ := shr_spec (s.cap - rm x) (by omega) s.l s.first
    have g2 := rms_lo (shr (s.cap - rm x) s.first s.l).2
    have g3 : L8 = (shr (s.cap - rm x) s.first s.l).2 := HLL.out
    rw [g3]; omega
  have hlen9 : (L8.length + [x].length) * 32 ≤ 140737488355328 := by simp only [List.length_singleton]; omega
  have hlen7 : (([] : List S29).length + L8.length) * 32 ≤ 140737488355328 := by simp only [List.length_nil]; omega
  go_upto_region 6 with fail
  refine start_ (n := 12) (S := fun w' => w'.cell? ⟨g, 3, none⟩ = some (.slice A8 L8.length c8) ∧ w'.cell? ⟨w.heap.size, 0, none⟩ = some (.string x.f0) ∧ w'.cell? ⟨w.heap.size, 1, none⟩ = some (.string x.f1)) (ds := [11]) #[false, false, false, false, false, false, false, false, false, false, false, false] (by kernel_rfl) rfl rfl ⟨H85.out, box0 HBX8.out, box1 HBX8.out⟩ (fun hHeld => ?_)
  refine pure_ (i := 0) (N := some 32) (v := ?_) (a' := ?_) #[true, false, false, false, false, false, false, false, false, false, false, false] rfl rfl (by kernel_rfl) (fun _ _ _ h => h) (Or.inl ⟨by rfl, ?_⟩) ?_ ?_
  rotate_left
  · intro w'
    go_simp
    with_reducible rfl
  rotate_left
  · simp only [Act.put, List.setIfInBounds_toArray, List.set_cons_zero, List.set_cons_succ, i64_w, i32_w]
    rfl
  refine pure_ (i := 1) (N := some 33) (v := ?_) (a' := ?_) #[true, true, false, false, false, false, false, false, false, false, false, false] rfl rfl (by kernel_rfl) (fun _ _ _ h => h) (Or.inl ⟨by rfl, ?_⟩) ?_ ?_
  rotate_left
  · intro w'
    go_simp
    with_reducible rfl
  rotate_left
  · simp only [Act.put, List.setIfInBounds_toArray, List.set_cons_zero, List.set_cons_succ, i64_w, i32_w]
    rfl
  refine pure_ (i := 2) (N := some 34) (v := ?_) (a' := ?_) #[true, true, true, false, false, false, false, false, false, false, false, false] rfl rfl (by kernel_rfl) (fun _ _ _ h => h) (Or.inl ⟨by rfl, ?_⟩) ?_ ?_
  rotate_left
  · intro w'
    go_simp
    with_reducible rfl
  rotate_left
  · simp only [Act.put, List.setIfInBounds_toArray, List.set_cons_zero, List.set_cons_succ, i64_w, i32_w]
    rfl
  refine pure_ (i := 3) (N := some 35) (v := ?_) (a' := ?_) #[true, true, true, true, false, false, false, false, false, false, false, false] rfl rfl (by kernel_rfl) (fun _ _ _ h => h) (Or.inl ⟨by rfl, ?_⟩) ?_ ?_
  rotate_left
  · intro w'
    go_simp
    with_reducible rfl
  rotate_left
  · simp only [Act.put, List.setIfInBounds_toArray, List.set_cons_zero, List.set_cons_succ, i64_w, i32_w]
    rfl
  refine take_ (i := 4) (N := some 36) (v := ?_) (a' := ?_) #[true, true, true, true, true, false, false, false, false, false, false, false] rfl rfl (by kernel_rfl) (fun _ _ _ h => h) (Or.inl ⟨by rfl, ?_⟩) hHeld ?_ ?_
  rotate_left
  · rintro w' ⟨s0, s1, s2⟩
    go_simp
    with_reducible rfl
  rotate_left
  · simp only [Act.put, List.setIfInBounds_toArray, List.set_cons_zero, List.set_cons_succ, i64_w, i32_w]
    rfl
  refine take_ (i := 6) (N := some 38) (v := ?_) (a' := ?_) #[true, true, true, true, true, false, true, false, false, false, false, false] rfl rfl (by kernel_rfl) (fun _ _ _ h => h) (Or.inl ⟨by rfl, ?_⟩) hHeld ?_ ?_
  rotate_left
  · rintro w' ⟨s0, s1, s2⟩
    go_simp
    with_reducible rfl
  rotate_left
  · simp only [Act.put, List.setIfInBounds_toArray, List.set_cons_zero, List.set_cons_succ, i64_w, i32_w]
    rfl
  refine join_ (σ := Value × Nat) 4 #[true, true, true, true, true, true, true, true, false, false, false, false] (fun s => [(37, s.1), (39, .slice (some ⟨s.2, 0, none⟩) 1 1)]) (fun s w' => Kd.R k29 29 w' (w.heap.size + 1) (fun k_ => k_ ≠ s.2) s.1 L8 ∧ w'.heap[s.2]? = some (.cells #[.string x.f0, .string x.f1] 29 (0, 0)) ∧ w.heap.size < s.2 ∧ Below wc.heap.size wc w') ?_ ?_
  rotate_left
  · intro hCont
    refine two_ (i := 5) (j := 7) (Ni := some 37) (Nj := some 39) #[true, true, true, true, true, true, true, false, false, false, false, false] #[true, true, true, true, true, false, true, true, false, false, false, false] rfl rfl rfl rfl (by kernel_rfl) (by decide) (by decide) (fun K hK => ?_) (fun K hK => ?_)
    · skip
      refine Kd.R_append_rows_step k29 (Rr := k29.K _) _ (by rfl) (.const (.slice none 0 0)) (.tmp 36) 39 29 (.agg #[.string ⟨#[]⟩, .string ⟨#[]⟩]) 32 rfl Try.underlying39 info29 rfl (by decide) (by decide) (.slice none 0 0) [] L8 A8 L8.length c8 (fun _ => True) (fun _ => False) rfl rfl (Kd.R_nil _ _ _ _ _) (Kd.C_below HC8.out (below_drew (Below.refl _ wc))) (fun x_ cs_ h_ => k29_KM _ _ _ x_ cs_ h_) (fun _ h_ => h_.elim) (fun _ _ => trivial) (Below.refl _ _) (Nat.le_refl _) hlen7 ?_
      intro v9 w9 hR9 hb9 hg9 hat9
      rw [List.nil_append] at hR9
      refine hK.out _ _ ⟨pw_cell_below (below_step (below_drew (Below.refl _ wc)) hb9) H85.out, pw_cell_below (below_step (below_drew (Below.refl _ wc)) hb9) (box0 HBX8.out), pw_cell_below (below_step (below_drew (Below.refl _ wc)) hb9) (box1 HBX8.out)⟩ (fun hHeld => ?_)
      clear hK K
      refine norm_ (a' := ?_) ?_ ?_
      rotate_left
      · show Act.put _ (some 37) _ = _
        simp only [Act.put, List.setIfInBounds_toArray, List.set_cons_zero, List.set_cons_succ, i64_w, i32_w]
        rfl
      refine one_ (i := 7) (N := some 39) #[true, true, true, true, true, true, true, true, false, false, false, false] rfl rfl (by kernel_rfl) (by decide) (fun K hK => ?_)
      refine value_ (w1 := ?_) (v := ?_) (by rfl) rfl ?_ ?_
      rotate_left 2
      · go_simp
        constructor
        · rfl
        · rfl
      refine hK.out _ _ ⟨pw_cell_below (below_alloc (below_step (below_drew (Below.refl _ wc)) hb9) _) H85.out, pw_cell_below (below_alloc (below_step (below_drew (Below.refl _ wc)) hb9) _) (box0 HBX8.out), pw_cell_below (below_alloc (below_step (below_drew (Below.refl _ wc)) hb9) _) (box1 HBX8.out)⟩ (fun hHeld => ?_)
      clear hK K
      refine norm_ (a' := ?_) ?_ ?_
      rotate_left
      · show Act.put _ (some 39) _ = _
        simp only [Act.put, List.setIfInBounds_toArray, List.set_cons_zero, List.set_cons_succ, i64_w, i32_w]
        rfl
      exact norm_ (by simp only [putAll, Act.put, List.setIfInBounds_toArray, List.set_cons_zero, List.set_cons_succ]) (hCont ⟨v9, w9.heap.size⟩ _ ⟨forkA hR9 hsz8, heap_alloc_new _ _, Nat.lt_of_lt_of_le hsz8 hb9.size, below_alloc (below_step (below_drew (Below.refl _ wc)) hb9) _⟩)
    · skip
      refine value_ (w1 := ?_) (v := ?_) (by rfl) rfl ?_ ?_
      rotate_left 2
      · go_simp
        constructor
        · rfl
        · rfl
      refine hK.out _ _ ⟨pw_cell_below (below_drew (below_alloc (Below.refl _ wc) _)) H85.out, pw_cell_below (below_drew (below_alloc (Below.refl _ wc) _)) (box0 HBX8.out), pw_cell_below (below_drew (below_alloc (Below.refl _ wc) _)) (box1 HBX8.out)⟩ (fun hHeld => ?_)
      clear hK K
      refine norm_ (a' := ?_) ?_ ?_
      rotate_left
      · show Act.put _ (some 39) _ = _
        simp only [Act.put, List.setIfInBounds_toArray, List.set_cons_zero, List.set_cons_succ, i64_w, i32_w]
        rfl
      refine one_ (i := 5) (N := some 37) #[true, true, true, true, true, true, true, true, false, false, false, false] rfl rfl (by kernel_rfl) (by decide) (fun K hK => ?_)
      refine Kd.R_append_rows_step k29 (Rr := k29.K _) _ (by rfl) (.const (.slice none 0 0)) (.tmp 36) 39 29 (.agg #[.string ⟨#[]⟩, .string ⟨#[]⟩]) 32 rfl Try.underlying39 info29 rfl (by decide) (by decide) (.slice none 0 0) [] L8 A8 L8.length c8 (fun _ => True) (fun _ => False) rfl rfl (Kd.R_nil _ _ _ _ _) (Kd.C_below HC8.out (below_drew (below_alloc (Below.refl _ wc) _))) (fun x_ cs_ h_ => k29_KM _ _ _ x_ cs_ h_) (fun _ h_ => h_.elim) (fun _ _ => trivial) (Below.refl _ _) (Nat.le_refl _) hlen7 ?_
      intro v9 w9 hR9 hb9 hg9 hat9
      rw [List.nil_append] at hR9
      refine hK.out _ _ ⟨pw_cell_below (below_step (below_drew (below_alloc (Below.refl _ wc) _)) hb9) H85.out, pw_cell_below (below_step (below_drew (below_alloc (Below.refl _ wc) _)) hb9) (box0 HBX8.out), pw_cell_below (below_step (below_drew (below_alloc (Below.refl _ wc) _)) hb9) (box1 HBX8.out)⟩ (fun hHeld => ?_)
      clear hK K
      refine norm_ (a' := ?_) ?_ ?_
      rotate_left
      · show Act.put _ (some 37) _ = _
        simp only [Act.put, List.setIfInBounds_toArray, List.set_cons_zero, List.set_cons_succ, i64_w, i32_w]
        rfl
      exact norm_ (by simp only [putAll, Act.put, List.setIfInBounds_toArray, List.set_cons_zero, List.set_cons_succ]) (hCont ⟨v9, wc.heap.size⟩ _ ⟨forkB hR9 (Nat.le_trans hsz8 (by simp)) (by simp), blk_below hb9 (heap_alloc_new wc _), hsz8, below_step (below_drew (below_alloc (Below.refl _ wc) _)) hb9⟩)
  rintro ⟨v9, b9⟩ w9 ⟨hR9, hx9, hlt9, hB9⟩
  have hHeld : w9.cell? ⟨g, 3, none⟩ = some (.slice A8 L8.length c8) ∧ w9.cell? ⟨w.heap.size, 0, none⟩ = some (.string x.f0) ∧ w9.cell? ⟨w.heap.size, 1, none⟩ = some (.string x.f1) := ⟨pw_cell_below hB9 H85.out, pw_cell_below hB9 (box0 HBX8.out), pw_cell_below hB9 (box1 HBX8.out)⟩
  refine norm_ (a' := ?_) ?_ ?_
  rotate_left
  · simp only [putAll, Act.put, List.setIfInBounds_toArray, List.set_cons_zero, List.set_cons_succ]
    rfl
  refine one_ (i := 8) (N := some 40) #[true, true, true, true, true, true, true, true, true, false, false, false] rfl rfl (by kernel_rfl) (by decide) (fun K hK => ?_)
  refine Kd.R_append_rows_step k29 (Rr := k29.K w9) (w0 := wc) (w.heap.size + 1) (by rfl) (.tmp 37) (.tmp 39) 39 29 (.agg #[.string ⟨#[]⟩, .string ⟨#[]⟩]) 32 rfl Try.underlying39 info29 rfl (by decide) (by decide) v9 L8 [x] (some ⟨b9, 0, none⟩) 1 1 (fun k_ => k_ ≠ b9) (fun _ => False) rfl rfl hR9 (one_row hx9) (fun x_ cs_ h_ => k29_KM _ _ _ x_ cs_ h_) (fun _ h_ => h_.elim) (fun k_ hk_ e_ => by have := blk_lt' hx9; omega) (Below.mono hB9 hsz8) (Nat.le_trans hsz8 hB9.size) hlen9 ?_
  intro v10 w10 hR10 hB10 hgr10 hat10
  obtain ⟨inn10, hown10⟩ := Kd.R_own hR10
  obtain ⟨A10, c10, rfl, hl10, hC10⟩ := Kd.R_reads hR10
  have hne10 : ∀ ad, A10 = some ad → w.heap.size + 1 ≤ ad.block := fun ad e_ => own_base hown10 ad.block (by subst e_; rfl)
  have hz10 : w10.frozen? ⟨g, 3, none⟩ = false := (hB10.frozen (p := ⟨g, 3, none⟩) (by show g < _; omega)).trans (hz8 3)
  refine hK.out _ _ ⟨(hB10.cell (p := ⟨g, 3, none⟩) (by show g < _; omega)).trans H85.out, (hB10.cell (p := ⟨w.heap.size, 0, none⟩) (by show w.heap.size < _; omega)).trans (box0 HBX8.out), (hB10.cell (p := ⟨w.heap.size, 1, none⟩) (by show w.heap.size < _; omega)).trans (box1 HBX8.out)⟩ (fun hHeld => ?_)
  clear hK K
  refine norm_ (a' := ?_) ?_ ?_
  rotate_left
  · show Act.put _ (some 40) _ = _
    simp only [Act.put, List.setIfInBounds_toArray, List.set_cons_zero, List.set_cons_succ, i64_w, i32_w]
    rfl
  refine pure_ (i := 9) (N := some 41) (v := ?_) (a' := ?_) #[true, true, true, true, true, true, true, true, true, true, false, false] rfl rfl (by kernel_rfl) (fun _ _ _ h => h) (Or.inl ⟨by rfl, ?_⟩) ?_ ?_
  rotate_left
  · intro w'
    go_simp
    with_reducible rfl
  rotate_left
  · simp only [Act.put, List.setIfInBounds_toArray, List.set_cons_zero, List.set_cons_succ, i64_w, i32_w]
    rfl
  refine pure_ (i := 10) (N := some 42) (v := ?_) (a' := ?_) #[true, true, true, true, true, true, true, true, true, true, true, false] rfl rfl (by kernel_rfl) (fun _ _ _ h => h) (Or.inl ⟨by rfl, ?_⟩) ?_ ?_
  rotate_left
  · intro w'
    go_simp
    with_reducible rfl
  rotate_left
  · simp only [Act.put, List.setIfInBounds_toArray, List.set_cons_zero, List.set_cons_succ, i64_w, i32_w]
    rfl
  refine last_ (i := 11) (N := none) #[true, true, true, true, true, true, true, true, true, true, true, true] rfl rfl (by kernel_rfl) (by decide) (fun K hK => ?_)
  refine skip_ (w1 := ?_) (by rfl) rfl ?_ ?_
  rotate_left
  · go_simp
    rfl
  refine hK.out _ _ ?_
  clear hK K
  refine done_ (by kernel_rfl) ?_
  have hT11 : RTabK ok (w10.setCell ⟨g, 3, none⟩ (.slice A10 (L8.length + 1) c10)) g (s.insert x) := by
    have e : (s.insert x).l = L8 ++ [x] := by rw [HLL.out]; rfl
    refine ⟨A10, c10, ?_, ?_, ?_, fun ad h => ?_⟩
    · rw [e, show (L8 ++ [x]).length = L8.length + 1 by simp]
      exact blk_put ((hB10.block g (by omega)).trans HH8.out) 3 _ rfl
    · rw [e]; exact hl10
    · rw [e]; exact C29_move hC10 (fun ad h _ => heap_set_ne _ _ _ _ (by have := hne10 ad h; show ad.block ≠ g; omega))
    · have h1 := hne10 ad h
      have h2 : ad.block < w10.heap.size := own_lt hown10 ad.block (by subst h; rfl)
      exact ⟨by omega, by rw [size_set]; exact h2, hnew _ (by omega)⟩
  have hG11 : w.grownBy (w10.setCell ⟨g, 3, none⟩ (.slice A10 (L8.length + 1) c10)) (some g) :=
    World.grownBy.trans (grown_then_below HG8.out hB10 (by omega)) (grownBy_set _ _ _ _)
  have HC := Lib.hid (rcount_calls _ g _ hT11 (by
    obtain ⟨g1, g2, g3, -⟩ := shr_spec (s.cap - rm x) (by omega) s.l s.first
    have g4 := Hs.out.first
    have g5 := Hs.out.count
    have g6 : (s.insert x).first = (shr (s.cap - rm x) s.first s.l).1 := rfl
    have g7 : ((s.insert x).l.length : Int) = (shr (s.cap - rm x) s.first s.l).2.length + 1 := by
      have : (s.insert x).l = (shr (s.cap - rm x) s.first s.l).2 ++ [x] := rfl
      rw [this]; simp
    omega))
  have HT11 := Lib.hid hT11
  have HG11 := Lib.hid hG11
  have HE : Hid (wrap64 ((s.insert x).first + ((s.insert x).l.length : Int) - 1) = (s.insert x).first + ((s.insert x).l.length : Int) - 1) := Lib.hid (by
    obtain ⟨g1, g2, g3, -⟩ := shr_spec (s.cap - rm x) (by omega) s.l s.first
    have g4 := Hs.out.first
    have g5 := Hs.out.count
    have g6 : (s.insert x).first = (shr (s.cap - rm x) s.first s.l).1 := rfl
    have g7 : ((s.insert x).l.length : Int) = (shr (s.cap - rm x) s.first s.l).2.length + 1 := by
      have : (s.insert x).l = (shr (s.cap - rm x) s.first s.l).2 ++ [x] := rfl
      rw [this]; simp
    unfold wrap64; omega)
  clear hT11 hG11 hR10 hB10 hgr10 hat10 hC10 hown10 hl10 hne10
  go_wp2_with (first | (go_at_call 32; refine HC.out.mono ?_; rintro e w12 ⟨rfl, ⟨⟨m12, rfl⟩⟩⟩))
  go_ret2
  refine ⟨ret_two HE.out, HT11.out.below (pw_below_drewN (Below.refl _ _) _), World.grownBy.trans HG11.out (grown_of_below (pw_below_drewN (Below.refl _ _) _) _)⟩
end Go.Proofs.Ytakdfjehjnhikaa.Q
