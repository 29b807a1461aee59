import Derived.Test.YtakdfjehjnhikaaQe
namespace Go.Proofs.Ytakdfjehjnhikaa.Q
open Go.RowKit Go.Proofs.YtakdfjehjnhikaaW.PrintWords Go.Proofs.YtakdfjehjnhikaaW.PrintLast Go.Proofs.YtakdfjehjnhikaaW.PrintMore Go.Proofs.Ytakdfjehjnhikaa.G
set_option linter.unusedVariables false
set_option linter.unusedSimpArgs false

theorem blk_grown {W W' : World} {g b : Nat} {o : Obj} (hg : W.grownBy W' (some g)) (hb : W.heap[b]? = some o) (hne : b ≠ g) : W'.heap[b]? = some o :=
  (hg.block b (blk_lt' hb) (fun e => hne (Option.some.inj e))).trans hb
theorem blk_below {W W' : World} {b : Nat} {o : Obj} (hg : Below W.heap.size W W') (hb : W.heap[b]? = some o) : W'.heap[b]? = some o :=
  (hg.block b (blk_lt' hb)).trans hb
theorem box0 {W : World} {b : Nat} {x y : Value} {t : Nat} {m : Nat × Nat} (h : W.heap[b]? = some (.cells #[x, y] t m)) : W.cell? ⟨b, 0, none⟩ = some x := cells_of h 0
theorem box1 {W : World} {b : Nat} {x y : Value} {t : Nat} {m : Nat × Nat} (h : W.heap[b]? = some (.cells #[x, y] t m)) : W.cell? ⟨b, 1, none⟩ = some y := cells_of h 1

theorem clone_calls (w : World) (A : Option Addr) (c : Nat) (l : List S29) (hC : Kd.C k29 w A l.length l) (hlen : l.length * 32 ≤ 140737488355328) : Calls Try.prog 43 #[.slice A l.length c] w fun e w' => ∃ v, e = .returned v ∧ Kd.R k29 29 w' w.heap.size (fun _ => True) v l ∧ Below w.heap.size w w' := by
  cases A with
  | none => exact clone_none w c l hC
  | some ad => exact clone_some w ad c l hC hlen

theorem forkA {w9 : World} {base base' : Nat} {v : Value} {l : List S29} {o : Obj} (h : Kd.R k29 29 w9 base' (fun _ => True) v l) (hb : base ≤ base') : Kd.R k29 29 (w9.alloc o) base (fun k => k ≠ w9.heap.size) v l :=
  Kd.R_below (Kd.R_mono (Kd.R_bound (Kd.R_lower h hb)) (fun k hk => by have := hk.2.2.1; omega)) (below_alloc (Below.refl _ _) _)
theorem forkB {w9 : World} {base base' b : Nat} {v : Value} {l : List S29} (h : Kd.R k29 29 w9 base' (fun _ => True) v l) (hb : base ≤ base') (hbb : b < base') : Kd.R k29 29 w9 base (fun k => k ≠ b) v l :=
  Kd.R_lower (Kd.R_mono (Kd.R_bound h) (fun k hk => by have := hk.2.1; omega)) hb
theorem grown_then_below {w wc w1 : World} {row : Option Nat} {B : Nat} (h : w.grownBy wc row) (hb : Below B wc w1) (hB : w.heap.size ≤ B) : w.grownBy w1 row :=
  ⟨hb.os.trans h.os, hb.tape.trans h.tape, hb.output.trans h.output, Nat.le_trans h.size hb.size, fun i hi hr => (hb.block i (by omega)).trans (h.block i hi hr)⟩

theorem ret_two {a b : Int} {c : Value} (h : a = b) : Ending.returned (.tuple #[.int .i64 a, c]) = .returned (.tuple #[.int .i64 b, c]) := by rw [h]

theorem one_row {w : World} {b : Nat} {x : S29} (h : w.heap[b]? = some (.cells #[.string x.f0, .string x.f1] 29 (0, 0))) : ReadsRow (k29.K w) k29.sz w (some ⟨b, 0, none⟩) 1 [x] := by
  refine ⟨rfl, by omega, fun _ => ⟨_, rfl, fun j p hj => ?_⟩⟩
  have hj0 : j = 0 := by
    rcases j with _ | j
    · rfl
    · simp at hj
  subst hj0
  obtain rfl : x = p := by simpa using hj
  refine ⟨_, rfl, k29_mk w x, fun i u hu => ?_⟩
  rw [add_plain]
  have := cells_of h (0 * k29.sz + i)
  rw [this]
  simpa using hu

/-- Insert, up to the store of what is used -/
theorem insert_yes {ok : Nat → Prop} (w : World) (g : Nat) (s : TS) (x : S29) (hnew : ∀ k, w.heap.size ≤ k → ok k) (h : TabK ok w g s) (hs : s.Ok) (hx : small x) (hr : rm x ≤ s.cap) :
    Calls Try.prog 25 #[.pointer (some ⟨g, 0, none⟩), .agg #[.string x.f0, .string x.f1]] w fun e w' => e = .returned (.tuple #[.int .i64 ((s.insert x).first + (s.insert x).l.length - 1), .int .i64 0]) ∧ TabK ok w' g (s.insert x) ∧ w.grownBy w' (some g) := by
  have hgl : g < w.heap.size := by obtain ⟨A, c, hh, -⟩ := h; exact blk_lt' hh
  have hT0 := h.below (below_alloc (Below.refl w.heap.size w) (.cells #[.string x.f0, .string x.f1] 29))
  have Hok := Lib.hid (ok_made _ g s hT0.at)
  have h2' : decide ((64 : Int) < (x.f0.size : Int)) = false := decide_eq_false (by unfold small at hx; omega)
  have h3' : decide ((512 : Int) < (x.f1.size : Int)) = false := decide_eq_false (by unfold small at hx; omega)
  have h4' : decide (s.cap < rm x) = false := decide_eq_false (by omega)
  have hrm := rm_small x hx
  have hrm0 := rm_lo x
  have HT0 := Lib.hid hT0
  obtain ⟨A, c, hh, -⟩ := hT0
  have H2 := Lib.hid (cells_of hh 2)
  have H2 : Hid ((w.alloc (.cells #[.string x.f0, .string x.f1] 29)).cell? ⟨g, 2, none⟩ = some (.int .i64 s.cap)) := H2
  clear hh h
  have BX := Lib.hid (heap_alloc_new w (.cells #[.string x.f0, .string x.f1] 29))
  have Hs := Lib.hid hs
  have hcap := hs.cap0
  have hcap1 := hs.cap1
  have hmost := hs.most
  clear hs
  go_enter Try.func25, Try.ntmps25
  go_wp2_with (first | (go_at_call 33; refine (Hok.out).mono ?_; rintro e w' ⟨rfl, rfl⟩))
  refine start_ (n := 8) (S := fun w' => w'.cell? ⟨g, 2, none⟩ = some (.int .i64 s.cap) ∧ w'.cell? ⟨w.heap.size, 0, none⟩ = some (.string x.f0) ∧ w'.cell? ⟨w.heap.size, 1, none⟩ = some (.string x.f1)) (ds := []) #[false, false, false, false, false, false, false, false] (by kernel_rfl) rfl rfl ⟨H2.out, box0 BX.out, box1 BX.out⟩ (fun hHeld => ?_)
  refine pure_ (i := 2) (N := some 24) (v := ?_) (a' := ?_) #[false, false, true, false, false, false, false, false] rfl rfl (by kernel_rfl) (fun _ _ _ h => h) (Or.inl ⟨by rfl, ?_⟩) ?_ ?_
  rotate_left
  · intro w'
    go_simp
    with_reducible rfl
  rotate_left
  · simp only [Act.put, List.setIfInBounds_toArray, List.set_cons_zero, List.set_cons_succ, i64_w, i32_w]
    rfl
  refine pure_ (i := 3) (N := some 25) (v := ?_) (a' := ?_) #[false, false, true, true, false, false, false, false] rfl rfl (by kernel_rfl) (fun _ _ _ h => h) (Or.inl ⟨by rfl, ?_⟩) ?_ ?_
  rotate_left
  · intro w'
    go_simp
    with_reducible rfl
  rotate_left
  · simp only [Act.put, List.setIfInBounds_toArray, List.set_cons_zero, List.set_cons_succ, i64_w, i32_w]
    rfl
  refine pure_ (i := 4) (N := some 26) (v := ?_) (a' := ?_) #[false, false, true, true, true, false, false, false] rfl rfl (by kernel_rfl) (fun _ _ _ h => h) (Or.inl ⟨by rfl, ?_⟩) ?_ ?_
  rotate_left
  · intro w'
    go_simp
    with_reducible rfl
  rotate_left
  · simp only [Act.put, List.setIfInBounds_toArray, List.set_cons_zero, List.set_cons_succ, i64_w, i32_w]
    rfl
  refine take_ (i := 0) (N := some 22) (v := ?_) (a' := ?_) #[true, false, true, true, true, false, false, false] rfl rfl (by kernel_rfl) (fun _ _ _ h => h) (Or.inl ⟨by rfl, ?_⟩) hHeld ?_ ?_
  rotate_left
  · rintro w' ⟨s0, s1, s2⟩
    go_simp
    with_reducible rfl
  rotate_left
  · simp only [Act.put, List.setIfInBounds_toArray, List.set_cons_zero, List.set_cons_succ, i64_w, i32_w]
    rfl
  refine take_ (i := 5) (N := some 27) (v := ?_) (a' := ?_) #[true, false, true, true, true, true, false, false] rfl rfl (by kernel_rfl) (fun _ _ _ h => h) (Or.inl ⟨by rfl, ?_⟩) hHeld ?_ ?_
  rotate_left
  · rintro w' ⟨s0, s1, s2⟩
    go_simp
    with_reducible rfl
  rotate_left
  · simp only [Act.put, List.setIfInBounds_toArray, List.set_cons_zero, List.set_cons_succ, i64_w, i32_w]
    rfl
  refine one_ (i := 1) (N := some 23) #[true, true, true, true, true, true, false, false] rfl rfl (by kernel_rfl) (by decide) (fun K hK => ?_)
  refine goes_ Try.func17 (by kernel_rfl) rfl #[.agg #[.string x.f0, .string x.f1]] (by rfl) rfl rfl (by simp only [List.map_toArray, List.map_cons, List.map_nil]; rfl) ?_
  with_reducible refine (room_calls x _ (by omega)).mono ?_
  rintro e w3 ⟨rfl, hb1⟩
  refine ⟨_, rfl, ?_⟩
  refine hK.out _ _ ⟨pw_cell_below hb1 H2.out, pw_cell_below hb1 (box0 BX.out), pw_cell_below hb1 (box1 BX.out)⟩ (fun hHeld => ?_)
  clear hK K
  refine norm_ (a' := ?_) ?_ ?_
  rotate_left
  · show Act.put _ (some 23) _ = _
    simp only [Act.put, List.setIfInBounds_toArray, List.set_cons_zero, List.set_cons_succ, i64_w, i32_w]
    rfl
  refine pure_ (i := 6) (N := some 28) (v := ?_) (a' := ?_) #[true, true, true, true, true, true, true, false] rfl rfl (by kernel_rfl) (fun _ _ _ h => h) (Or.inl ⟨by rfl, ?_⟩) ?_ ?_
  rotate_left
  · intro w'
    go_simp
    with_reducible rfl
  rotate_left
  · simp only [Act.put, List.setIfInBounds_toArray, List.set_cons_zero, List.set_cons_succ, i64_w, i32_w]
    rfl
  refine pure_ (i := 7) (N := some 21) (v := ?_) (a' := ?_) #[true, true, true, true, true, true, true, true] rfl rfl (by kernel_rfl) (fun _ _ _ h => h) (Or.inl ⟨by rfl, ?_⟩) ?_ ?_
  rotate_left
  · intro w'
    go_simp
    with_reducible rfl
  rotate_left
  · simp only [Act.put, List.setIfInBounds_toArray, List.set_cons_zero, List.set_cons_succ, i64_w, i32_w]
    rfl
  refine done_ (by kernel_rfl) ?_
  have HB := Lib.hid (show Below (w.alloc (.cells #[.string x.f0, .string x.f1] 29)).heap.size _ w3 from below_step (below_drew (Below.refl _ _)) hb1)
  clear hb1
  have q0 := box0 (blk_below HB.out BX.out)
  have q1 := box1 (blk_below HB.out BX.out)
  go_upto_region 8 with (first | (go_at_call 17; refine (room_calls x _ (by omega)).mono ?_; rintro e w4 ⟨rfl, hb4⟩; have HB4 := Lib.hid (below_step HB.out hb4); clear hb4) | (go_at_call 42; refine (shrink_calls w4 g s (rm x) (HT0.out.below HB4.out) Hs.out.used (by have := Hs.out.fits; omega) (by omega) (by omega) (by omega) Hs.out.first (by have := Hs.out.count; omega)).mono ?_; rintro e w5 ⟨rfl, hT5, hg5⟩; have HT5 := Lib.hid hT5; have HG5 := Lib.hid hg5; clear hT5 hg5))
  go_cut [] (fun wc => TabK ok wc g { s.cut (s.cap - rm x) with used := (s.cut (s.cap - rm x)).used + rm x } ∧ wc.heap[w.heap.size]? = some (.cells #[.string x.f0, .string x.f1] 29 (0, 0)) ∧ w.grownBy wc (some g))
  case first =>
    have HBX5 := Lib.hid (blk_grown HG5.out (blk_below HB4.out BX.out) (by omega))
    obtain ⟨A5, c5, hh5, -⟩ := HT5.out
    have Hu3 : Hid (w5.cell? ⟨g, 3, none⟩ = some (.int .i64 (s.cut (s.cap - rm x)).used)) := Lib.hid (cells_of hh5 3)
    have hz5 := blk_frozen hh5 3
    have hgl5 := blk_lt' hh5
    clear hh5
    have HW : Hid (wrap64 ((s.cut (s.cap - rm x)).used + rm x) = (s.cut (s.cap - rm x)).used + rm x) := Lib.hid (by
      obtain ⟨g1, -⟩ := shr_spec (s.cap - rm x) (by omega) s.l s.first
      have g0 := rms_nonneg (shr (s.cap - rm x) s.first s.l).2
      have : (s.cut (s.cap - rm x)).used = rms (shr (s.cap - rm x) s.first s.l).2 := rfl
      unfold wrap64; omega)
    refine start_ (n := 10) (S := fun w' => w'.cell? ⟨g, 3, none⟩ = some (.int .i64 (s.cut (s.cap - rm x)).used) ∧ w'.cell? ⟨w.heap.size, 0, none⟩ = some (.string x.f0) ∧ w'.cell? ⟨w.heap.size, 1, none⟩ = some (.string x.f1)) (ds := [9]) #[false, false, false, false, false, false, false, false, false, false] (by kernel_rfl) rfl rfl ⟨Hu3.out, box0 HBX5.out, box1 HBX5.out⟩ (fun hHeld => ?_)
    refine pure_ (i := 0) (N := some 33) (v := ?_) (a' := ?_) #[true, false, false, false, false, false, false, false, false, false] rfl rfl (by kernel_rfl) (fun _ _ _ h => h) (Or.inl ⟨by rfl, ?_⟩) ?_ ?_
    rotate_left
    · intro w'
      go_simp
      with_reducible rfl
    rotate_left
    · simp only [Act.put, List.setIfInBounds_toArray, List.set_cons_zero, List.set_cons_succ, i64_w, i32_w]
      rfl
    refine pure_ (i := 1) (N := some 34) (v := ?_) (a' := ?_) #[true, true, false, false, false, false, false, false, false, false] rfl rfl (by kernel_rfl) (fun _ _ _ h => h) (Or.inl ⟨by rfl, ?_⟩) ?_ ?_
    rotate_left
    · intro w'
      go_simp
      with_reducible rfl
    rotate_left
    · simp only [Act.put, List.setIfInBounds_toArray, List.set_cons_zero, List.set_cons_succ, i64_w, i32_w]
      rfl
    refine pure_ (i := 2) (N := some 35) (v := ?_) (a' := ?_) #[true, true, true, false, false, false, false, false, false, false] rfl rfl (by kernel_rfl) (fun _ _ _ h => h) (Or.inl ⟨by rfl, ?_⟩) ?_ ?_
    rotate_left
    · intro w'
      go_simp
      with_reducible rfl
    rotate_left
    · simp only [Act.put, List.setIfInBounds_toArray, List.set_cons_zero, List.set_cons_succ, i64_w, i32_w]
      rfl
    refine take_ (i := 3) (N := some 36) (v := ?_) (a' := ?_) #[true, true, true, true, false, false, false, false, false, false] rfl rfl (by kernel_rfl) (fun _ _ _ h => h) (Or.inl ⟨by rfl, ?_⟩) hHeld ?_ ?_
    rotate_left
    · rintro w' ⟨s0, s1, s2⟩
      go_simp
      with_reducible rfl
    rotate_left
    · simp only [Act.put, List.setIfInBounds_toArray, List.set_cons_zero, List.set_cons_succ, i64_w, i32_w]
      rfl
    refine take_ (i := 4) (N := some 37) (v := ?_) (a' := ?_) #[true, true, true, true, true, false, false, false, false, false] rfl rfl (by kernel_rfl) (fun _ _ _ h => h) (Or.inl ⟨by rfl, ?_⟩) hHeld ?_ ?_
    rotate_left
    · rintro w' ⟨s0, s1, s2⟩
      go_simp
      with_reducible rfl
    rotate_left
    · simp only [Act.put, List.setIfInBounds_toArray, List.set_cons_zero, List.set_cons_succ, i64_w, i32_w]
      rfl
    refine one_ (i := 5) (N := some 38) #[true, true, true, true, true, true, false, false, false, false] rfl rfl (by kernel_rfl) (by decide) (fun K hK => ?_)
    refine goes_ Try.func17 (by kernel_rfl) rfl #[.agg #[.string x.f0, .string x.f1]] (by rfl) rfl rfl (by simp only [List.map_toArray, List.map_cons, List.map_nil]; rfl) ?_
    with_reducible refine (room_calls x _ (by omega)).mono ?_
    rintro e w6 ⟨rfl, hb6⟩
    refine ⟨_, rfl, ?_⟩
    have hz6 : w6.frozen? ⟨g, 3, none⟩ = false := (hb6.frozen (p := ⟨g, 3, none⟩) hgl5).trans hz5
    refine hK.out _ _ ⟨pw_cell_below hb6 Hu3.out, pw_cell_below hb6 (box0 HBX5.out), pw_cell_below hb6 (box1 HBX5.out)⟩ (fun hHeld => ?_)
    clear hK K
    refine norm_ (a' := ?_) ?_ ?_
    rotate_left
    · show Act.put _ (some 38) _ = _
      simp only [Act.put, List.setIfInBounds_toArray, List.set_cons_zero, List.set_cons_succ, i64_w, i32_w]
      rfl
    refine pure_ (i := 6) (N := some 39) (v := ?_) (a' := ?_) #[true, true, true, true, true, true, true, false, false, false] rfl rfl (by kernel_rfl) (fun _ _ _ h => h) (Or.inl ⟨by rfl, ?_⟩) ?_ ?_
    rotate_left
    · intro w'
      go_simp
      with_reducible rfl
    rotate_left
    · simp only [Act.put, List.setIfInBounds_toArray, List.set_cons_zero, List.set_cons_succ, i64_w, i32_w]
      rfl
    refine pure_ (i := 7) (N := some 40) (v := ?_) (a' := ?_) #[true, true, true, true, true, true, true, true, false, false] rfl rfl (by kernel_rfl) (fun _ _ _ h => h) (Or.inl ⟨by rfl, ?_⟩) ?_ ?_
    rotate_left
    · intro w'
      go_simp
      with_reducible rfl
    rotate_left
    · simp only [Act.put, List.setIfInBounds_toArray, List.set_cons_zero, List.set_cons_succ, i64_w, i32_w]
      rfl
    refine pure_ (i := 8) (N := some 41) (v := ?_) (a' := ?_) #[true, true, true, true, true, true, true, true, true, false] rfl rfl (by kernel_rfl) (fun _ _ _ h => h) (Or.inl ⟨by rfl, ?_⟩) ?_ ?_
    rotate_left
    · intro w'
      go_simp
      with_reducible rfl
    rotate_left
    · simp only [Act.put, List.setIfInBounds_toArray, List.set_cons_zero, List.set_cons_succ, i64_w, i32_w]
      rfl
    refine last_ (i := 9) (N := none) #[true, true, true, true, true, true, true, true, true, true] rfl rfl (by kernel_rfl) (by decide) (fun K hK => ?_)
    refine skip_ (w1 := ?_) (by rfl) rfl ?_ ?_
    rotate_left
    · go_simp
      rfl
    refine hK.out _ _ ?_
    clear hK K
    refine done_ (by kernel_rfl) ?_
    go_wp2
    go_meet
    case rel =>
      have hb56 : Below w5.heap.size w5 w6 := below_step (below_drew (Below.refl _ _)) hb6
      rw [HW.out]
      refine ⟨TabK.set_used (HT5.out.below hb56) _, ?_, ?_⟩
      · rw [heap_set_ne _ _ _ _ (by show w.heap.size ≠ g; omega)]; exact blk_below hb56 HBX5.out
      · exact World.grownBy.trans (World.grownBy.trans (World.grownBy.trans (grown_of_below (below_step (below_alloc (Below.refl _ _) _) HB4.out) _) HG5.out) (grown_of_below hb56 _)) (grownBy_set _ _ _ _)
  case rest =>
    obtain ⟨hT8, hbx8, hg8⟩ := hcut
    have HT8 := Lib.hid hT8
    have HG8 := Lib.hid hg8
    have HX8 := Lib.hid hbx8
    obtain ⟨A8, c8, hh8, hl8, hC8, hne8⟩ := hT8
    have H85 : Hid (wc.cell? ⟨g, 5, none⟩ = some (.slice A8 (s.cut (s.cap - rm x)).l.length c8)) := Lib.hid (cells_of hh8 5)
    have hz8 := blk_frozen hh8
    have HH8 := Lib.hid hh8
    have hgl8 := blk_lt' hh8
    have HL8 := Lib.hid hl8
    have HC8 : Hid (Kd.C k29 wc A8 (s.cut (s.cap - rm x)).l.length (s.cut (s.cap - rm x)).l) := Lib.hid hC8
    have HN8 := Lib.hid hne8
    clear hg8 hbx8 hh8 hl8 hC8 hne8
    obtain ⟨L8, hL8⟩ : ∃ L, L = (s.cut (s.cap - rm x)).l := ⟨_, rfl⟩
    have HLL := Lib.hid hL8
    rw [← hL8] at H85 HC8
    clear hL8
    have hsz8 : w.heap.size + 1 ≤ wc.heap.size := by have := blk_lt' HX8.out; omega
    have hlen8 : L8.length * 32 ≤ 4096 := by
      obtain ⟨g1, -⟩ := shr_spec (s.cap - rm x) (by omega) s.l s.first
      have g2 := rms_lo (shr (s.cap - rm x) s.first s.l).2
      have g3 : L8 = (shr (s.cap - rm x) s.first s.l).2 := HLL.out
      rw [g3]; omega
    have hlen9 : (L8.length + [x].length) * 32 ≤ 140737488355328 := by simp only [List.length_singleton]; omega
    go_upto_region 9 with (fail)
    refine start_ (n := 12) (S := fun w' => w'.cell? ⟨g, 5, none⟩ = some (.slice A8 L8.length c8) ∧ w'.cell? ⟨w.heap.size, 0, none⟩ = some (.string x.f0) ∧ w'.cell? ⟨w.heap.size, 1, none⟩ = some (.string x.f1)) (ds := [11]) #[false, false, false, false, false, false, false, false, false, false, false, false] (by kernel_rfl) rfl rfl ⟨H85.out, box0 HX8.out, box1 HX8.out⟩ (fun hHeld => ?_)
    refine pure_ (i := 0) (N := some 42) (v := ?_) (a' := ?_) #[true, false, false, false, false, false, false, false, false, false, false, false] rfl rfl (by kernel_rfl) (fun _ _ _ h => h) (Or.inl ⟨by rfl, ?_⟩) ?_ ?_
    rotate_left
    · intro w'
      go_simp
      with_reducible rfl
    rotate_left
    · simp only [Act.put, List.setIfInBounds_toArray, List.set_cons_zero, List.set_cons_succ, i64_w, i32_w]
      rfl
    refine pure_ (i := 1) (N := some 43) (v := ?_) (a' := ?_) #[true, true, false, false, false, false, false, false, false, false, false, false] rfl rfl (by kernel_rfl) (fun _ _ _ h => h) (Or.inl ⟨by rfl, ?_⟩) ?_ ?_
    rotate_left
    · intro w'
      go_simp
      with_reducible rfl
    rotate_left
    · simp only [Act.put, List.setIfInBounds_toArray, List.set_cons_zero, List.set_cons_succ, i64_w, i32_w]
      rfl
    refine pure_ (i := 2) (N := some 44) (v := ?_) (a' := ?_) #[true, true, true, false, false, false, false, false, false, false, false, false] rfl rfl (by kernel_rfl) (fun _ _ _ h => h) (Or.inl ⟨by rfl, ?_⟩) ?_ ?_
    rotate_left
    · intro w'
      go_simp
      with_reducible rfl
    rotate_left
    · simp only [Act.put, List.setIfInBounds_toArray, List.set_cons_zero, List.set_cons_succ, i64_w, i32_w]
      rfl
    refine pure_ (i := 3) (N := some 45) (v := ?_) (a' := ?_) #[true, true, true, true, false, false, false, false, false, false, false, false] rfl rfl (by kernel_rfl) (fun _ _ _ h => h) (Or.inl ⟨by rfl, ?_⟩) ?_ ?_
    rotate_left
    · intro w'
      go_simp
      with_reducible rfl
    rotate_left
    · simp only [Act.put, List.setIfInBounds_toArray, List.set_cons_zero, List.set_cons_succ, i64_w, i32_w]
      rfl
    refine take_ (i := 4) (N := some 46) (v := ?_) (a' := ?_) #[true, true, true, true, true, false, false, false, false, false, false, false] rfl rfl (by kernel_rfl) (fun _ _ _ h => h) (Or.inl ⟨by rfl, ?_⟩) hHeld ?_ ?_
    rotate_left
    · rintro w' ⟨s0, s1, s2⟩
      go_simp
      with_reducible rfl
    rotate_left
    · simp only [Act.put, List.setIfInBounds_toArray, List.set_cons_zero, List.set_cons_succ, i64_w, i32_w]
      rfl
    refine take_ (i := 6) (N := some 48) (v := ?_) (a' := ?_) #[true, true, true, true, true, false, true, false, false, false, false, false] rfl rfl (by kernel_rfl) (fun _ _ _ h => h) (Or.inl ⟨by rfl, ?_⟩) hHeld ?_ ?_
    rotate_left
    · rintro w' ⟨s0, s1, s2⟩
      go_simp
      with_reducible rfl
    rotate_left
    · simp only [Act.put, List.setIfInBounds_toArray, List.set_cons_zero, List.set_cons_succ, i64_w, i32_w]
      rfl
    refine join_ (σ := Value × Nat) 4 #[true, true, true, true, true, true, true, true, false, false, false, false] (fun s => [(47, s.1), (49, .slice (some ⟨s.2, 0, none⟩) 1 1)]) (fun s w' => Kd.R k29 29 w' (w.heap.size + 1) (fun k_ => k_ ≠ s.2) s.1 L8 ∧ w'.heap[s.2]? = some (.cells #[.string x.f0, .string x.f1] 29 (0, 0)) ∧ w.heap.size < s.2 ∧ Below wc.heap.size wc w') ?_ ?_
    rotate_left
    · intro hCont
      refine two_ (i := 5) (j := 7) (Ni := some 47) (Nj := some 49) #[true, true, true, true, true, true, true, false, false, false, false, false] #[true, true, true, true, true, false, true, true, false, false, false, false] rfl rfl rfl rfl (by kernel_rfl) (by decide) (by decide) (fun K hK => ?_) (fun K hK => ?_)
      · skip
        refine goes_ Try.func43 (by kernel_rfl) rfl #[.slice A8 L8.length c8] (by rfl) rfl rfl (by simp only [List.map_toArray, List.map_cons, List.map_nil]; rfl) ?_
        with_reducible refine (clone_calls _ A8 c8 L8 (Kd.C_below HC8.out (below_drew (Below.refl _ wc))) (by omega)).mono ?_
        rintro e w9 ⟨v9, rfl, hR9, hb9⟩
        refine ⟨_, rfl, ?_⟩
        refine hK.out _ _ ⟨pw_cell_below (below_step (below_drew (Below.refl _ wc)) hb9) H85.out, pw_cell_below (below_step (below_drew (Below.refl _ wc)) hb9) (box0 HX8.out), pw_cell_below (below_step (below_drew (Below.refl _ wc)) hb9) (box1 HX8.out)⟩ (fun hHeld => ?_)
        clear hK K
        refine norm_ (a' := ?_) ?_ ?_
        rotate_left
        · show Act.put _ (some 47) _ = _
          simp only [Act.put, List.setIfInBounds_toArray, List.set_cons_zero, List.set_cons_succ, i64_w, i32_w]
          rfl
        refine one_ (i := 7) (N := some 49) #[true, true, true, true, true, true, true, true, false, false, false, false] rfl rfl (by kernel_rfl) (by decide) (fun K hK => ?_)
        refine value_ (w1 := ?_) (v := ?_) (by rfl) rfl ?_ ?_
        rotate_left 2
        · go_simp
          constructor
          · rfl
          · rfl
        refine hK.out _ _ ⟨pw_cell_below (below_alloc (below_step (below_drew (Below.refl _ wc)) hb9) _) H85.out, pw_cell_below (below_alloc (below_step (below_drew (Below.refl _ wc)) hb9) _) (box0 HX8.out), pw_cell_below (below_alloc (below_step (below_drew (Below.refl _ wc)) hb9) _) (box1 HX8.out)⟩ (fun hHeld => ?_)
        clear hK K
        refine norm_ (a' := ?_) ?_ ?_
        rotate_left
        · show Act.put _ (some 49) _ = _
          simp only [Act.put, List.setIfInBounds_toArray, List.set_cons_zero, List.set_cons_succ, i64_w, i32_w]
          rfl
        exact norm_ (by simp only [putAll, Act.put, List.setIfInBounds_toArray, List.set_cons_zero, List.set_cons_succ]) (hCont ⟨v9, w9.heap.size⟩ _ ⟨forkA hR9 hsz8, heap_alloc_new _ _, Nat.lt_of_lt_of_le hsz8 hb9.size, below_alloc (below_step (below_drew (Below.refl _ wc)) hb9) _⟩)
      · skip
        refine value_ (w1 := ?_) (v := ?_) (by rfl) rfl ?_ ?_
        rotate_left 2
        · go_simp
          constructor
          · rfl
          · rfl
        refine hK.out _ _ ⟨pw_cell_below (below_drew (below_alloc (Below.refl _ wc) _)) H85.out, pw_cell_below (below_drew (below_alloc (Below.refl _ wc) _)) (box0 HX8.out), pw_cell_below (below_drew (below_alloc (Below.refl _ wc) _)) (box1 HX8.out)⟩ (fun hHeld => ?_)
        clear hK K
        refine norm_ (a' := ?_) ?_ ?_
        rotate_left
        · show Act.put _ (some 49) _ = _
          simp only [Act.put, List.setIfInBounds_toArray, List.set_cons_zero, List.set_cons_succ, i64_w, i32_w]
          rfl
        refine one_ (i := 5) (N := some 47) #[true, true, true, true, true, true, true, true, false, false, false, false] rfl rfl (by kernel_rfl) (by decide) (fun K hK => ?_)
        refine goes_ Try.func43 (by kernel_rfl) rfl #[.slice A8 L8.length c8] (by rfl) rfl rfl (by simp only [List.map_toArray, List.map_cons, List.map_nil]; rfl) ?_
        with_reducible refine (clone_calls _ A8 c8 L8 (Kd.C_below HC8.out (below_drew (below_alloc (Below.refl _ wc) _))) (by omega)).mono ?_
        rintro e w9 ⟨v9, rfl, hR9, hb9⟩
        refine ⟨_, rfl, ?_⟩
        refine hK.out _ _ ⟨pw_cell_below (below_step (below_drew (below_alloc (Below.refl _ wc) _)) hb9) H85.out, pw_cell_below (below_step (below_drew (below_alloc (Below.refl _ wc) _)) hb9) (box0 HX8.out), pw_cell_below (below_step (below_drew (below_alloc (Below.refl _ wc) _)) hb9) (box1 HX8.out)⟩ (fun hHeld => ?_)
        clear hK K
        refine norm_ (a' := ?_) ?_ ?_
        rotate_left
        · show Act.put _ (some 47) _ = _
          simp only [Act.put, List.setIfInBounds_toArray, List.set_cons_zero, List.set_cons_succ, i64_w, i32_w]
          rfl
        exact norm_ (by simp only [putAll, Act.put, List.setIfInBounds_toArray, List.set_cons_zero, List.set_cons_succ]) (hCont ⟨v9, wc.heap.size⟩ _ ⟨forkB hR9 (Nat.le_trans hsz8 (by simp)) (by simp), blk_below hb9 (heap_alloc_new wc _), hsz8, below_step (below_drew (below_alloc (Below.refl _ wc) _)) hb9⟩)
    rintro ⟨v9, b9⟩ w9 ⟨hR9, hx9, hlt9, hB9⟩
    have hHeld : w9.cell? ⟨g, 5, none⟩ = some (.slice A8 L8.length c8) ∧ w9.cell? ⟨w.heap.size, 0, none⟩ = some (.string x.f0) ∧ w9.cell? ⟨w.heap.size, 1, none⟩ = some (.string x.f1) := ⟨pw_cell_below hB9 H85.out, pw_cell_below hB9 (box0 HX8.out), pw_cell_below hB9 (box1 HX8.out)⟩
    refine norm_ (a' := ?_) ?_ ?_
    rotate_left
    · simp only [putAll, Act.put, List.setIfInBounds_toArray, List.set_cons_zero, List.set_cons_succ]
      rfl
    refine one_ (i := 8) (N := some 50) #[true, true, true, true, true, true, true, true, true, false, false, false] rfl rfl (by kernel_rfl) (by decide) (fun K hK => ?_)
    refine Kd.R_append_rows_step k29 (Rr := k29.K w9) (w0 := wc) (w.heap.size + 1) (by rfl) (.tmp 47) (.tmp 49) 39 29 (.agg #[.string ⟨#[]⟩, .string ⟨#[]⟩]) 32 rfl Try.underlying39 info29 rfl (by decide) (by decide) v9 L8 [x] (some ⟨b9, 0, none⟩) 1 1 (fun k_ => k_ ≠ b9) (fun _ => False) rfl rfl hR9 (one_row hx9) (fun x_ cs_ h_ => k29_KM _ _ _ x_ cs_ h_) (fun _ h_ => h_.elim) (fun k_ hk_ e_ => by have := blk_lt' hx9; omega) (Below.mono hB9 hsz8) (Nat.le_trans hsz8 hB9.size) hlen9 ?_
    intro v10 w10 hR10 hB10 hgr10 hat10
    obtain ⟨inn10, hown10⟩ := Kd.R_own hR10
    obtain ⟨A10, c10, rfl, hl10, hC10⟩ := Kd.R_reads hR10
    have hne10 : ∀ ad, A10 = some ad → w.heap.size + 1 ≤ ad.block := fun ad e_ => own_base hown10 ad.block (by subst e_; rfl)
    have hz10 : w10.frozen? ⟨g, 5, none⟩ = false := (hB10.frozen (p := ⟨g, 5, none⟩) (by show g < _; omega)).trans (hz8 5)
    refine hK.out _ _ ⟨(hB10.cell (p := ⟨g, 5, none⟩) (by show g < _; omega)).trans H85.out, (hB10.cell (p := ⟨w.heap.size, 0, none⟩) (by show w.heap.size < _; omega)).trans (box0 HX8.out), (hB10.cell (p := ⟨w.heap.size, 1, none⟩) (by show w.heap.size < _; omega)).trans (box1 HX8.out)⟩ (fun hHeld => ?_)
    clear hK K
    refine norm_ (a' := ?_) ?_ ?_
    rotate_left
    · show Act.put _ (some 50) _ = _
      simp only [Act.put, List.setIfInBounds_toArray, List.set_cons_zero, List.set_cons_succ, i64_w, i32_w]
      rfl
    refine pure_ (i := 9) (N := some 51) (v := ?_) (a' := ?_) #[true, true, true, true, true, true, true, true, true, true, false, false] rfl rfl (by kernel_rfl) (fun _ _ _ h => h) (Or.inl ⟨by rfl, ?_⟩) ?_ ?_
    rotate_left
    · intro w'
      go_simp
      with_reducible rfl
    rotate_left
    · simp only [Act.put, List.setIfInBounds_toArray, List.set_cons_zero, List.set_cons_succ, i64_w, i32_w]
      rfl
    refine pure_ (i := 10) (N := some 52) (v := ?_) (a' := ?_) #[true, true, true, true, true, true, true, true, true, true, true, false] rfl rfl (by kernel_rfl) (fun _ _ _ h => h) (Or.inl ⟨by rfl, ?_⟩) ?_ ?_
    rotate_left
    · intro w'
      go_simp
      with_reducible rfl
    rotate_left
    · simp only [Act.put, List.setIfInBounds_toArray, List.set_cons_zero, List.set_cons_succ, i64_w, i32_w]
      rfl
    refine last_ (i := 11) (N := none) #[true, true, true, true, true, true, true, true, true, true, true, true] rfl rfl (by kernel_rfl) (by decide) (fun K hK => ?_)
    refine skip_ (w1 := ?_) (by rfl) rfl ?_ ?_
    rotate_left
    · go_simp
      rfl
    refine hK.out _ _ ?_
    clear hK K
    refine done_ (by kernel_rfl) ?_
    have hT11 : TabK ok (w10.setCell ⟨g, 5, none⟩ (.slice A10 (L8.length + 1) c10)) g (s.insert x) := by
      have e : (s.insert x).l = L8 ++ [x] := by rw [HLL.out]; rfl
      refine ⟨A10, c10, ?_, ?_, ?_, fun ad h => ?_⟩
      · rw [e, show (L8 ++ [x]).length = L8.length + 1 by simp]
        exact blk_put ((hB10.block g (by omega)).trans HH8.out) 5 _ rfl
      · rw [e]; exact hl10
      · rw [e]; exact C29_move hC10 (fun ad h _ => heap_set_ne _ _ _ _ (by have := hne10 ad h; show ad.block ≠ g; omega))
      · have h1 := hne10 ad h
        have h2 : ad.block < w10.heap.size := own_lt hown10 ad.block (by subst h; rfl)
        exact ⟨by omega, by rw [size_set]; exact h2, hnew _ (by omega)⟩
    have hG11 : w.grownBy (w10.setCell ⟨g, 5, none⟩ (.slice A10 (L8.length + 1) c10)) (some g) :=
      World.grownBy.trans (grown_then_below HG8.out hB10 (by omega)) (grownBy_set _ _ _ _)
    have HC := Lib.hid (count_made _ g _ hT11.at)
    have HT11 := Lib.hid hT11
    have HG11 := Lib.hid hG11
    have HE : Hid (wrap64 (wrap64 ((s.insert x).first + ((s.insert x).l.length : Int)) - 1) = (s.insert x).first + ((s.insert x).l.length : Int) - 1) := Lib.hid (by
      obtain ⟨g1, g2, g3, -⟩ := shr_spec (s.cap - rm x) (by omega) s.l s.first
      have g4 := Hs.out.first
      have g5 := Hs.out.count
      have g6 : (s.insert x).first = (shr (s.cap - rm x) s.first s.l).1 := rfl
      have g7 : ((s.insert x).l.length : Int) = (shr (s.cap - rm x) s.first s.l).2.length + 1 := by
        have : (s.insert x).l = (shr (s.cap - rm x) s.first s.l).2 ++ [x] := rfl
        rw [this]; simp
      unfold wrap64; omega)
    clear hT11 hG11 hR10 hB10 hgr10 hat10 hC10 hown10 hl10 hne10
    go_wp2_with (first | (go_at_call 15; refine HC.out.mono ?_; rintro e w12 ⟨rfl, ⟨⟨m12, rfl⟩⟩⟩))
    go_ret2
    refine ⟨ret_two HE.out, HT11.out.below (pw_below_drewN (Below.refl _ _) _), World.grownBy.trans HG11.out (grown_of_below (pw_below_drewN (Below.refl _ _) _) _)⟩
end Go.Proofs.Ytakdfjehjnhikaa.Q
