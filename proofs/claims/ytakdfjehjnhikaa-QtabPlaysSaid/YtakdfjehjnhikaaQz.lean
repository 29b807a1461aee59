import Derived.Test.YtakdfjehjnhikaaQy
import Derived.Test.YtakdfjehjnhikaaQg
namespace Go.Proofs.Ytakdfjehjnhikaa.Q
open Go.RowKit Go.Proofs.YtakdfjehjnhikaaW.PrintWords Go.Proofs.YtakdfjehjnhikaaW.PrintLast Go.Proofs.YtakdfjehjnhikaaW.PrintMore Go.Proofs.Ytakdfjehjnhikaa.G
set_option linter.unusedVariables false
set_option linter.unusedSimpArgs false

theorem rinsert_big (w : World) (g : Nat) (x : S29) (hx : ¬ small x) : Calls Try.prog 26 #[.pointer (some ⟨g, 0, none⟩), .agg #[.string x.f0, .string x.f1]] w fun e w' => e = .returned (.tuple #[.int .i64 0, .int .i64 13]) ∧ Below w.heap.size w w' := by
  by_cases h2 : 64 < x.f0.size
  · have h2' : decide ((64 : Int) < (x.f0.size : Int)) = true := decide_eq_true (by omega)
    go_enter Try.func26, Try.ntmps26
    go_wp2
    go_ret2
    exact ⟨rfl, by repeat (first | exact Below.refl _ _ | apply below_alloc)⟩
  · have h2' : decide ((64 : Int) < (x.f0.size : Int)) = false := decide_eq_false (by omega)
    have h3' : decide ((512 : Int) < (x.f1.size : Int)) = true := decide_eq_true (by unfold small at hx; omega)
    go_enter Try.func26, Try.ntmps26
    go_wp2
    go_ret2
    exact ⟨rfl, by repeat (first | exact Below.refl _ _ | apply below_alloc)⟩
theorem rinsert_many {ok : Nat → Prop} (w : World) (g : Nat) (s : TS) (x : S29) (h : RTabK ok w g s) (hx : small x) (hr : s.cap < rm x) : Calls Try.prog 26 #[.pointer (some ⟨g, 0, none⟩), .agg #[.string x.f0, .string x.f1]] w fun e w' => e = .returned (.tuple #[.int .i64 0, .int .i64 6]) ∧ Below w.heap.size w w' := by
  have h2' : decide ((64 : Int) < (x.f0.size : Int)) = false := decide_eq_false (by unfold small at hx; omega)
  have h3' : decide ((512 : Int) < (x.f1.size : Int)) = false := decide_eq_false (by unfold small at hx; omega)
  have h4' : decide (s.cap < rm x) = true := decide_eq_true hr
  have hrm := rm_small x hx
  obtain ⟨A, c, hh, -⟩ := h
  have h2 := cells_of (blk_alloc hh (.cells #[.string x.f0, .string x.f1] 29)) 1
  simp only [List.getElem?_toArray, List.getElem?_cons_succ, List.getElem?_cons_zero] at h2
  have hgl := blk_lt' hh
  clear hh
  have BX := Lib.hid (heap_alloc_new w (.cells #[.string x.f0, .string x.f1] 29))
  have H2 := Lib.hid h2
  clear h2
  go_enter Try.func26, Try.ntmps26
  go_upto_region 3 with fail
  refine start_ (n := 7) (S := fun w' => w'.cell? ⟨g, 1, none⟩ = some (.int .i64 s.cap) ∧ w'.cell? ⟨w.heap.size, 0, none⟩ = some (.string x.f0) ∧ w'.cell? ⟨w.heap.size, 1, none⟩ = some (.string x.f1)) (ds := []) #[false, false, false, false, false, false, false] (by kernel_rfl) rfl rfl ⟨H2.out, box0 BX.out, box1 BX.out⟩ (fun hHeld => ?_)
  refine pure_ (i := 2) (N := some 18) (v := ?_) (a' := ?_) #[false, false, true, false, false, false, false] rfl rfl (by kernel_rfl) (fun _ _ _ h => h) (Or.inl ⟨by rfl, ?_⟩) ?_ ?_
  rotate_left
  · intro w'
    go_simp
    with_reducible rfl
  rotate_left
  · simp only [Act.put, List.setIfInBounds_toArray, List.set_cons_zero, List.set_cons_succ, i64_w, i32_w]
    rfl
  refine pure_ (i := 3) (N := some 19) (v := ?_) (a' := ?_) #[false, false, true, true, false, false, false] rfl rfl (by kernel_rfl) (fun _ _ _ h => h) (Or.inl ⟨by rfl, ?_⟩) ?_ ?_
  rotate_left
  · intro w'
    go_simp
    with_reducible rfl
  rotate_left
  · simp only [Act.put, List.setIfInBounds_toArray, List.set_cons_zero, List.set_cons_succ, i64_w, i32_w]
    rfl
  refine pure_ (i := 4) (N := some 20) (v := ?_) (a' := ?_) #[false, false, true, true, true, false, false] rfl rfl (by kernel_rfl) (fun _ _ _ h => h) (Or.inl ⟨by rfl, ?_⟩) ?_ ?_
  rotate_left
  · intro w'
    go_simp
    with_reducible rfl
  rotate_left
  · simp only [Act.put, List.setIfInBounds_toArray, List.set_cons_zero, List.set_cons_succ, i64_w, i32_w]
    rfl
  refine take_ (i := 0) (N := some 16) (v := ?_) (a' := ?_) #[true, false, true, true, true, false, false] rfl rfl (by kernel_rfl) (fun _ _ _ h => h) (Or.inl ⟨by rfl, ?_⟩) hHeld ?_ ?_
  rotate_left
  · rintro w' ⟨s0, s1, s2⟩
    go_simp
    with_reducible rfl
  rotate_left
  · simp only [Act.put, List.setIfInBounds_toArray, List.set_cons_zero, List.set_cons_succ, i64_w, i32_w]
    rfl
  refine take_ (i := 5) (N := some 21) (v := ?_) (a' := ?_) #[true, false, true, true, true, true, false] rfl rfl (by kernel_rfl) (fun _ _ _ h => h) (Or.inl ⟨by rfl, ?_⟩) hHeld ?_ ?_
  rotate_left
  · rintro w' ⟨s0, s1, s2⟩
    go_simp
    with_reducible rfl
  rotate_left
  · simp only [Act.put, List.setIfInBounds_toArray, List.set_cons_zero, List.set_cons_succ, i64_w, i32_w]
    rfl
  refine one_ (i := 1) (N := some 17) #[true, true, true, true, true, true, false] rfl rfl (by kernel_rfl) (by decide) (fun K hK => ?_)
  refine goes_ Try.func22 (by kernel_rfl) rfl #[.agg #[.string x.f0, .string x.f1]] (by rfl) rfl rfl (by simp only [List.map_toArray, List.map_cons, List.map_nil]; rfl) ?_
  with_reducible refine (rroom_calls x _ (by omega)).mono ?_
  rintro e w3 ⟨rfl, hb1⟩
  refine ⟨_, rfl, ?_⟩
  refine hK.out _ _ ⟨pw_cell_below hb1 H2.out, pw_cell_below hb1 (box0 BX.out), pw_cell_below hb1 (box1 BX.out)⟩ (fun hHeld => ?_)
  clear hK K
  refine norm_ (a' := ?_) ?_ ?_
  rotate_left
  · show Act.put _ (some 17) _ = _
    simp only [Act.put, List.setIfInBounds_toArray, List.set_cons_zero, List.set_cons_succ, i64_w, i32_w]
    rfl
  refine pure_ (i := 6) (N := some 22) (v := ?_) (a' := ?_) #[true, true, true, true, true, true, true] rfl rfl (by kernel_rfl) (fun _ _ _ h => h) (Or.inl ⟨by rfl, ?_⟩) ?_ ?_
  rotate_left
  · intro w'
    go_simp
    with_reducible rfl
  rotate_left
  · simp only [Act.put, List.setIfInBounds_toArray, List.set_cons_zero, List.set_cons_succ, i64_w, i32_w]
    rfl
  refine done_ (by kernel_rfl) ?_
  go_wp2
  go_ret2
  exact ⟨rfl, Below.trans (below_alloc (Below.refl _ _) _) (Below.mono (below_step (below_drew (Below.refl _ _)) hb1) (by simp))⟩
theorem rinsert_any {ok : Nat → Prop} (w : World) (g : Nat) (s : TS) (x : S29) (hnew : ∀ k, w.heap.size ≤ k → ok k) (h : RTabK ok w g s) (hs : s.Ok) :
    Calls Try.prog 26 #[.pointer (some ⟨g, 0, none⟩), .agg #[.string x.f0, .string x.f1]] w fun e w' => e = .returned (.tuple #[.int .i64 (s.ins x).2.1, .int .i64 (s.ins x).2.2]) ∧ RTabK ok w' g (s.ins x).1 ∧ w.grownBy w' (some g) := by
  unfold TS.ins
  by_cases h1 : x.f0.size ≤ 64 ∧ x.f1.size ≤ 512
  · rw [if_pos h1]
    by_cases h2 : s.cap < rm x
    · rw [if_pos h2]
      exact (rinsert_many w g s x h h1 h2).mono fun e w' ⟨he, hb⟩ => ⟨he, h.below hb, grown_of_below hb _⟩
    · rw [if_neg h2]
      exact rinsert_yes w g s x hnew h hs h1 (by omega)
  · rw [if_neg h1]
    exact (rinsert_big w g x h1).mono fun e w' ⟨he, hb⟩ => ⟨he, h.below hb, grown_of_below hb _⟩
end Go.Proofs.Ytakdfjehjnhikaa.Q
