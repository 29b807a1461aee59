import Derived.Test.YtakdfjehjnhikaaQd
namespace Go.Proofs.Ytakdfjehjnhikaa.Q
open Go.RowKit Go.Proofs.YtakdfjehjnhikaaW.PrintWords Go.Proofs.YtakdfjehjnhikaaW.PrintLast Go.Proofs.YtakdfjehjnhikaaW.PrintMore Go.Proofs.Ytakdfjehjnhikaa.G
set_option linter.unusedVariables false
set_option linter.unusedSimpArgs false

theorem rm_small (x : S29) (hx : small x) : rm x ≤ 608 := by unfold rm; unfold small at hx; omega

theorem insert_many (w : World) (g : Nat) (s : TS) (x : S29) (h : TabAt w g s) (hx : small x) (hr : s.cap < rm x) : Calls Try.prog 25 #[.pointer (some ⟨g, 0, none⟩), .agg #[.string x.f0, .string x.f1]] w fun e w' => e = .returned (.tuple #[.int .i64 0, .int .i64 6]) ∧ Below w.heap.size w w' := by
  have Hok := Lib.hid (ok_made (w.alloc (.cells #[.string x.f0, .string x.f1] 29)) g s (h.below (below_alloc (Below.refl _ _) _)))
  have h2' : decide ((64 : Int) < (x.f0.size : Int)) = false := decide_eq_false (by unfold small at hx; omega)
  have h3' : decide ((512 : Int) < (x.f1.size : Int)) = false := decide_eq_false (by unfold small at hx; omega)
  have h4' : decide (s.cap < rm x) = true := decide_eq_true hr
  have hrm := rm_small x hx
  obtain ⟨A, c, hh, -⟩ := h
  have h2 := cells_of (blk_alloc hh (.cells #[.string x.f0, .string x.f1] 29)) 2
  simp only [List.getElem?_toArray, List.getElem?_cons_succ, List.getElem?_cons_zero] at h2
  have hgl := blk_lt' hh
  clear hh
  have b0 : (w.alloc (.cells #[.string x.f0, .string x.f1] 29)).cell? ⟨w.heap.size, 0, none⟩ = some (.string x.f0) := by simp
  have b1 : (w.alloc (.cells #[.string x.f0, .string x.f1] 29)).cell? ⟨w.heap.size, 1, none⟩ = some (.string x.f1) := by simp
  have B0 := Lib.hid b0
  have B1 := Lib.hid b1
  have H2 := Lib.hid h2
  clear b0 b1 h2
  go_enter Try.func25, Try.ntmps25
  go_wp2_with (first | (go_at_call 33; refine (Hok.out).mono ?_; rintro e w' ⟨rfl, rfl⟩))
  refine start_ (n := 8) (S := fun w' => w'.cell? ⟨g, 2, none⟩ = some (.int .i64 s.cap) ∧ w'.cell? ⟨w.heap.size, 0, none⟩ = some (.string x.f0) ∧ w'.cell? ⟨w.heap.size, 1, none⟩ = some (.string x.f1)) (ds := []) #[false, false, false, false, false, false, false, false] (by kernel_rfl) rfl rfl ⟨H2.out, B0.out, B1.out⟩ (fun hHeld => ?_)
  refine pure_ (i := 2) (N := some 24) (v := ?_) (a' := ?_) #[false, false, true, false, false, false, false, false] rfl rfl (by kernel_rfl) (fun _ _ _ h => h) (Or.inl ⟨by rfl, ?_⟩) ?_ ?_
  rotate_left
  · intro w'
    go_simp
    with_reducible rfl
  rotate_left
  · simp only [Act.put, List.setIfInBounds_toArray, List.set_cons_zero, List.set_cons_succ, i64_w, i32_w]
    rfl
  refine pure_ (i := 3) (N := some 25) (v := ?_) (a' := ?_) #[false, false, true, true, false, false, false, false] rfl rfl (by kernel_rfl) (fun _ _ _ h => h) (Or.inl ⟨by rfl, ?_⟩) ?_ ?_
  rotate_left
  · intro w'
    go_simp
    with_reducible rfl
  rotate_left
  · simp only [Act.put, List.setIfInBounds_toArray, List.set_cons_zero, List.set_cons_succ, i64_w, i32_w]
    rfl
  refine pure_ (i := 4) (N := some 26) (v := ?_) (a' := ?_) #[false, false, true, true, true, false, false, false] rfl rfl (by kernel_rfl) (fun _ _ _ h => h) (Or.inl ⟨by rfl, ?_⟩) ?_ ?_
  rotate_left
  · intro w'
    go_simp
    with_reducible rfl
  rotate_left
  · simp only [Act.put, List.setIfInBounds_toArray, List.set_cons_zero, List.set_cons_succ, i64_w, i32_w]
    rfl
  refine take_ (i := 0) (N := some 22) (v := ?_) (a' := ?_) #[true, false, true, true, true, false, false, false] rfl rfl (by kernel_rfl) (fun _ _ _ h => h) (Or.inl ⟨by rfl, ?_⟩) hHeld ?_ ?_
  rotate_left
  · rintro w' ⟨s0, s1, s2⟩
    go_simp
    with_reducible rfl
  rotate_left
  · simp only [Act.put, List.setIfInBounds_toArray, List.set_cons_zero, List.set_cons_succ, i64_w, i32_w]
    rfl
  refine take_ (i := 5) (N := some 27) (v := ?_) (a' := ?_) #[true, false, true, true, true, true, false, false] rfl rfl (by kernel_rfl) (fun _ _ _ h => h) (Or.inl ⟨by rfl, ?_⟩) hHeld ?_ ?_
  rotate_left
  · rintro w' ⟨s0, s1, s2⟩
    go_simp
    with_reducible rfl
  rotate_left
  · simp only [Act.put, List.setIfInBounds_toArray, List.set_cons_zero, List.set_cons_succ, i64_w, i32_w]
    rfl
  refine one_ (i := 1) (N := some 23) #[true, true, true, true, true, true, false, false] rfl rfl (by kernel_rfl) (by decide) (fun K hK => ?_)
  refine goes_ Try.func17 (by kernel_rfl) rfl #[.agg #[.string x.f0, .string x.f1]] (by rfl) rfl rfl (by simp only [List.map_toArray, List.map_cons, List.map_nil]; rfl) ?_
  with_reducible refine (room_calls x _ (by omega)).mono ?_
  rintro e w3 ⟨rfl, hb1⟩
  refine ⟨_, rfl, ?_⟩
  refine hK.out _ _ ⟨pw_cell_below hb1 H2.out, pw_cell_below hb1 B0.out, pw_cell_below hb1 B1.out⟩ (fun hHeld => ?_)
  clear hK K
  refine norm_ (a' := ?_) ?_ ?_
  rotate_left
  · show Act.put _ (some 23) _ = _
    simp only [Act.put, List.setIfInBounds_toArray, List.set_cons_zero, List.set_cons_succ, i64_w, i32_w]
    rfl
  refine pure_ (i := 6) (N := some 28) (v := ?_) (a' := ?_) #[true, true, true, true, true, true, true, false] rfl rfl (by kernel_rfl) (fun _ _ _ h => h) (Or.inl ⟨by rfl, ?_⟩) ?_ ?_
  rotate_left
  · intro w'
    go_simp
    with_reducible rfl
  rotate_left
  · simp only [Act.put, List.setIfInBounds_toArray, List.set_cons_zero, List.set_cons_succ, i64_w, i32_w]
    rfl
  refine pure_ (i := 7) (N := some 21) (v := ?_) (a' := ?_) #[true, true, true, true, true, true, true, true] rfl rfl (by kernel_rfl) (fun _ _ _ h => h) (Or.inl ⟨by rfl, ?_⟩) ?_ ?_
  rotate_left
  · intro w'
    go_simp
    with_reducible rfl
  rotate_left
  · simp only [Act.put, List.setIfInBounds_toArray, List.set_cons_zero, List.set_cons_succ, i64_w, i32_w]
    rfl
  refine done_ (by kernel_rfl) ?_
  have HB := Lib.hid hb1
  clear hb1
  go_wp2
  go_ret2
  exact ⟨rfl, below_step (below_drew (below_alloc (Below.refl _ _) _)) HB.out⟩
end Go.Proofs.Ytakdfjehjnhikaa.Q
