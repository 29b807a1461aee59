import Derived.Test.YtmmommcgjafbbaaDoorZDaV

/- DateDays: its walk. -/
namespace Go.Proofs.YtmmommcgjafbbaaDoor.Da
open Go.RowKit Go.Proofs.YtmmommcgjafbbaaDoorW.PrintWords Go.Proofs.YtmmommcgjafbbaaDoorW.PrintLast Go.Proofs.YtmmommcgjafbbaaDoorW.PrintMore Go.Proofs.YtmmommcgjafbbaaDoor.G
set_option linter.unusedVariables false
set_option linter.unusedSimpArgs false
theorem of_exists (n : Int) (w : World) (h0 : -62167219200 ≤ n) (h1 : n ≤ 253402300799) : ∃ y m d h mi s, DateOk y m d h mi s ∧ num y m d h mi s = n ∧ ∀ w' : World, Calls Tryd.prog 12 #[.int .i64 n] w' fun e w'' => e = .returned (.tuple #[date6 y m d h mi s, .int .i64 0]) ∧ Below w'.heap.size w' w'' := by
  obtain ⟨_, _, _, ⟨⟨y, m, d, h, mi, s, o, hn, -⟩, -⟩, -⟩ := of_yes n w (wB_yes h0 h1) []
  refine ⟨y, m, d, h, mi, s, o, hn, fun w' => (of_yes n w' (wB_yes h0 h1)).mono ?_⟩
  rintro e w'' ⟨⟨y', m', d', h', mi', s', o', hn', rfl⟩, hb⟩
  obtain ⟨rfl, rfl, rfl, rfl, rfl, rfl⟩ := num_inj o' o (hn'.trans hn.symm)
  exact ⟨rfl, hb⟩
set_option maxRecDepth 100000 in
set_option maxHeartbeats 400000 in
theorem days_out (n : Int) (w : World) (hG : Glob w) (h : n < -62167219200 ∨ 253402300799 < n) : Calls Tryd.prog 6 #[.int .i64 n] w fun e w' => e = .returned (.bool true) ∧ Below w.heap.size w w' := by
  have HO := Lib.hid (fun w => of_no n w (wB_no (by omega)))
  have HG := Lib.hid hG
  have HB := Lib.hid (Below.refl w.heap.size w)
  clear hG h
  go_enter Tryd.func6, Tryd.ntmps6
  go_wp2_with (first | (go_at_call 12; refine (HO.out _).mono ?_; rintro e_ w_ ⟨rfl, hb_⟩; replace HB := Lib.hid (below_step (by repeat (first | exact HB.out | apply below_alloc | apply pw_below_drewN | apply below_drew)) hb_); clear hb_) | (go_at_call 17; refine (alive_q _ (HG.out.below (by repeat (first | exact HB.out | apply below_alloc | apply pw_below_drewN | apply below_drew)))).mono ?_; rintro e_ w_ ⟨rfl, hb_⟩; replace HB := Lib.hid (below_step (by repeat (first | exact HB.out | apply below_alloc | apply pw_below_drewN | apply below_drew)) hb_); clear hb_))
  go_ret
  exact ⟨rfl, HB.out⟩
set_option maxRecDepth 100000 in
set_option maxHeartbeats 400000 in
theorem days_top (n : Int) (w : World) (hG : Glob w) (h0 : 253402214399 < n) (h1 : n ≤ 253402300799) : Calls Tryd.prog 6 #[.int .i64 n] w fun e w' => e = .returned (.bool true) ∧ Below w.heap.size w w' := by
  obtain ⟨y, m, d, h, mi, s, o, hn, ho⟩ := of_exists n w (by omega) h1
  have HO := Lib.hid ho
  have HG := Lib.hid hG
  have HB := Lib.hid (Below.refl w.heap.size w)
  have t0 : decide (253402214399 < n) = true := decide_eq_true h0
  clear hG hn o ho h0 h1
  go_enter Tryd.func6, Tryd.ntmps6
  go_wp2_with (first | (go_at_call 12; refine (HO.out _).mono ?_; rintro e_ w_ ⟨rfl, hb_⟩; replace HB := Lib.hid (below_step (by repeat (first | exact HB.out | apply below_alloc | apply pw_below_drewN | apply below_drew)) hb_); clear hb_) | (go_at_call 17; refine (alive_q _ (HG.out.below (by repeat (first | exact HB.out | apply below_alloc | apply pw_below_drewN | apply below_drew)))).mono ?_; rintro e_ w_ ⟨rfl, hb_⟩; replace HB := Lib.hid (below_step (by repeat (first | exact HB.out | apply below_alloc | apply pw_below_drewN | apply below_drew)) hb_); clear hb_))
  go_ret
  exact ⟨rfl, HB.out⟩
set_option maxRecDepth 100000 in
set_option maxHeartbeats 400000 in
theorem days_case1 (n y m d h mi s W U : Int) (w : World) (hG : Glob w) (h0 : -62167219200 ≤ n) (h1 : n ≤ 253402214399) (o : 0 ≤ y ∧ y ≤ 9999 ∧ 1 ≤ m ∧ m ≤ 12 ∧ 1 ≤ d ∧ d ≤ 31) (wl : 0 ≤ W ∧ W ≤ 6) (hU : (U != Int.tmod (W + 1) 7) = false)
    (HO : ∀ w : World, Calls Tryd.prog 12 #[.int .i64 n] w fun e w'' => e = .returned (.tuple #[date6 y m d h mi s, .int .i64 0]) ∧ Below w.heap.size w w'')
    (HP : ∀ w : World, Calls Tryd.prog 12 #[.int .i64 (wrap64 (n + 86400))] w fun e w'' => e = .returned (.tuple #[date6 y m (d + 1) h mi s, .int .i64 0]) ∧ Below w.heap.size w w'')
    (HV : ∀ w : World, Calls Tryd.prog 15 #[.int .i64 n] w fun e w'' => e = .returned (.int .i64 W) ∧ Drawn0 w w'')
    (HW : ∀ w : World, Calls Tryd.prog 15 #[.int .i64 (wrap64 (n + 86400))] w fun e w'' => e = .returned (.int .i64 U) ∧ Drawn0 w w'') :
    Calls Tryd.prog 6 #[.int .i64 n] w fun e w' => e = .returned (.bool true) ∧ Below w.heap.size w w' := by
  have HO := Lib.hid HO
  have HP := Lib.hid HP
  have HV := Lib.hid HV
  have HW := Lib.hid HW
  have HG := Lib.hid hG
  have HB := Lib.hid (Below.refl w.heap.size w)
  have t0 : decide (253402214399 < n) = false := decide_eq_false (by omega)
  have wd : wrap64 (d + 1) = d + 1 := by unfold wrap64; omega
  have wm : wrap64 (m + 1) = m + 1 := by unfold wrap64; omega
  have wy : wrap64 (y + 1) = y + 1 := by unfold wrap64; omega
  have wW : wrap64 (W + 1) = W + 1 := by unfold wrap64; omega
  have n1 : (m == m + 1) = false := beq_false_of_ne (by omega)
  have n2 : (y == y + 1) = false := beq_false_of_ne (by omega)
  clear hG h0 h1 o wl
  go_enter Tryd.func6, Tryd.ntmps6
  go_upto_region 4 with (go_at_call 12; refine (HO.out _).mono ?_; rintro e_ w_ ⟨rfl, hb_⟩; replace HB := Lib.hid (below_step HB.out hb_); clear hb_)
  obtain ⟨W1, hW1⟩ : ∃ W, W = w_.alloc (.cells #[.int .i64 (y), .int .i64 (m), .int .i64 (d), .int .i64 (h), .int .i64 (mi), .int .i64 (s)] 27) := ⟨_, rfl⟩
  obtain ⟨g1, hg1⟩ : ∃ g, g = w_.heap.size := ⟨_, rfl⟩
  rw [← hW1, ← hg1]
  have HD : Hid (W1.heap[g1]? = some (.cells #[.int .i64 (y), .int .i64 (m), .int .i64 (d), .int .i64 (h), .int .i64 (mi), .int .i64 (s)] 27 (0, 0))) := Lib.hid (by rw [hW1, hg1]; exact heap_alloc_new _ _)
  replace HB : Hid (Below w.heap.size w W1) := Lib.hid (by rw [hW1]; exact below_alloc HB.out _)
  clear hW1 hg1
  go_upto_region 5 with (go_at_call 12; refine (HP.out _).mono ?_; rintro e_ w2_ ⟨rfl, hb_⟩; replace HB := Lib.hid (below_step HB.out hb_); have HC := Lib.hid hb_; clear hb_)
  obtain ⟨W2, hW2⟩ : ∃ W, W = w2_.alloc (.cells #[.int .i64 (y), .int .i64 (m), .int .i64 (d+1), .int .i64 (h), .int .i64 (mi), .int .i64 (s)] 27) := ⟨_, rfl⟩
  obtain ⟨g2, hg2⟩ : ∃ g, g = w2_.heap.size := ⟨_, rfl⟩
  rw [← hW2, ← hg2]
  have HE : Hid (W2.heap[g2]? = some (.cells #[.int .i64 (y), .int .i64 (m), .int .i64 (d+1), .int .i64 (h), .int .i64 (mi), .int .i64 (s)] 27 (0, 0))) := Lib.hid (by rw [hW2, hg2]; exact heap_alloc_new _ _)
  replace HD : Hid (W2.heap[g1]? = some (.cells #[.int .i64 (y), .int .i64 (m), .int .i64 (d), .int .i64 (h), .int .i64 (mi), .int .i64 (s)] 27 (0, 0))) := Lib.hid (by rw [hW2]; exact blk_bel (below_alloc HC.out _) HD.out)
  replace HB : Hid (Below w.heap.size w W2) := Lib.hid (by rw [hW2]; exact below_alloc HB.out _)
  clear hW2 hg2 HC
  have HF := Lib.hid (Below.refl W2.heap.size W2)
  have p0 := c_of HD.out 0 (v := .int .i64 y) rfl
  have p1 := c_of HD.out 1 (v := .int .i64 m) rfl
  have p2 := c_of HD.out 2 (v := .int .i64 d) rfl
  have p3 := c_of HD.out 3 (v := .int .i64 h) rfl
  have p4 := c_of HD.out 4 (v := .int .i64 mi) rfl
  have p5 := c_of HD.out 5 (v := .int .i64 s) rfl
  have q0 := c_of HE.out 0 (v := .int .i64 y) rfl
  have q1 := c_of HE.out 1 (v := .int .i64 m) rfl
  have q2 := c_of HE.out 2 (v := .int .i64 (d+1)) rfl
  have q3 := c_of HE.out 3 (v := .int .i64 h) rfl
  have q4 := c_of HE.out 4 (v := .int .i64 mi) rfl
  have q5 := c_of HE.out 5 (v := .int .i64 s) rfl
  go_upto_region 7 with (first | (go_at_call 15; with_reducible refine (HW.out _).mono ?_; rintro e_ w_ ⟨rfl, hb_⟩; replace HF := Lib.hid (below_step HF.out hb_.below); clear hb_; have p3 := c_of (blk_bel HF.out HD.out) 3 (v := .int .i64 h) rfl; have p4 := c_of (blk_bel HF.out HD.out) 4 (v := .int .i64 mi) rfl; have p5 := c_of (blk_bel HF.out HD.out) 5 (v := .int .i64 s) rfl; have q3 := c_of (blk_bel HF.out HE.out) 3 (v := .int .i64 h) rfl; have q4 := c_of (blk_bel HF.out HE.out) 4 (v := .int .i64 mi) rfl; have q5 := c_of (blk_bel HF.out HE.out) 5 (v := .int .i64 s) rfl) | (go_at_call 15; with_reducible refine (HV.out _).mono ?_; rintro e_ w_ ⟨rfl, hb_⟩; replace HF := Lib.hid (below_step HF.out hb_.below); clear hb_; have p3 := c_of (blk_bel HF.out HD.out) 3 (v := .int .i64 h) rfl; have p4 := c_of (blk_bel HF.out HD.out) 4 (v := .int .i64 mi) rfl; have p5 := c_of (blk_bel HF.out HD.out) 5 (v := .int .i64 s) rfl; have q3 := c_of (blk_bel HF.out HE.out) 3 (v := .int .i64 h) rfl; have q4 := c_of (blk_bel HF.out HE.out) 4 (v := .int .i64 mi) rfl; have q5 := c_of (blk_bel HF.out HE.out) 5 (v := .int .i64 s) rfl))
  obtain ⟨W3, hW3⟩ : ∃ W, W = w_ := ⟨_, rfl⟩
  rw [← hW3] at HF ⊢
  replace HD := Lib.hid (blk_bel HF.out HD.out)
  replace HE := Lib.hid (blk_bel HF.out HE.out)
  replace HB := Lib.hid (below_step HB.out HF.out)
  clear hW3 HF HO HP HV HW t0 hU p0 p1 p2 p3 p4 p5 q0 q1 q2 q3 q4 q5
  have p0 := c_of HD.out 0 (v := .int .i64 y) rfl
  have p1 := c_of HD.out 1 (v := .int .i64 m) rfl
  have p2 := c_of HD.out 2 (v := .int .i64 d) rfl
  have p3 := c_of HD.out 3 (v := .int .i64 h) rfl
  have p4 := c_of HD.out 4 (v := .int .i64 mi) rfl
  have p5 := c_of HD.out 5 (v := .int .i64 s) rfl
  have q0 := c_of HE.out 0 (v := .int .i64 y) rfl
  have q1 := c_of HE.out 1 (v := .int .i64 m) rfl
  have q2 := c_of HE.out 2 (v := .int .i64 (d+1)) rfl
  have q3 := c_of HE.out 3 (v := .int .i64 h) rfl
  have q4 := c_of HE.out 4 (v := .int .i64 mi) rfl
  have q5 := c_of HE.out 5 (v := .int .i64 s) rfl
  go_wp2_with (go_at_call 17; refine (alive_q _ (HG.out.below (by repeat (first | exact HB.out | apply below_alloc | apply pw_below_drewN | apply below_drew)))).mono ?_; rintro e_ w_ ⟨rfl, hb_⟩; replace HB := Lib.hid (below_step (by repeat (first | exact HB.out | apply below_alloc | apply pw_below_drewN | apply below_drew)) hb_); clear hb_)
  go_ret
  exact ⟨rfl, HB.out⟩
set_option maxRecDepth 100000 in
set_option maxHeartbeats 400000 in
theorem days_case2 (n y m d h mi s W U : Int) (w : World) (hG : Glob w) (h0 : -62167219200 ≤ n) (h1 : n ≤ 253402214399) (o : 0 ≤ y ∧ y ≤ 9999 ∧ 1 ≤ m ∧ m ≤ 12 ∧ 1 ≤ d ∧ d ≤ 31) (wl : 0 ≤ W ∧ W ≤ 6) (hU : (U != Int.tmod (W + 1) 7) = false) (hm : m < 12) (hd : 28 ≤ d)
    (HO : ∀ w : World, Calls Tryd.prog 12 #[.int .i64 n] w fun e w'' => e = .returned (.tuple #[date6 y m d h mi s, .int .i64 0]) ∧ Below w.heap.size w w'')
    (HP : ∀ w : World, Calls Tryd.prog 12 #[.int .i64 (wrap64 (n + 86400))] w fun e w'' => e = .returned (.tuple #[date6 y (m + 1) 1 h mi s, .int .i64 0]) ∧ Below w.heap.size w w'')
    (HV : ∀ w : World, Calls Tryd.prog 15 #[.int .i64 n] w fun e w'' => e = .returned (.int .i64 W) ∧ Drawn0 w w'')
    (HW : ∀ w : World, Calls Tryd.prog 15 #[.int .i64 (wrap64 (n + 86400))] w fun e w'' => e = .returned (.int .i64 U) ∧ Drawn0 w w'') :
    Calls Tryd.prog 6 #[.int .i64 n] w fun e w' => e = .returned (.bool true) ∧ Below w.heap.size w w' := by
  have HO := Lib.hid HO
  have HP := Lib.hid HP
  have HV := Lib.hid HV
  have HW := Lib.hid HW
  have HG := Lib.hid hG
  have HB := Lib.hid (Below.refl w.heap.size w)
  have t0 : decide (253402214399 < n) = false := decide_eq_false (by omega)
  have wd : wrap64 (d + 1) = d + 1 := by unfold wrap64; omega
  have wm : wrap64 (m + 1) = m + 1 := by unfold wrap64; omega
  have wy : wrap64 (y + 1) = y + 1 := by unfold wrap64; omega
  have wW : wrap64 (W + 1) = W + 1 := by unfold wrap64; omega
  have n1 : (m == m + 1) = false := beq_false_of_ne (by omega)
  have n2 : (y == y + 1) = false := beq_false_of_ne (by omega)
  have td : decide (28 ≤ d) = true := decide_eq_true hd
  clear hm hd
  clear hG h0 h1 o wl
  go_enter Tryd.func6, Tryd.ntmps6
  go_upto_region 4 with (go_at_call 12; refine (HO.out _).mono ?_; rintro e_ w_ ⟨rfl, hb_⟩; replace HB := Lib.hid (below_step HB.out hb_); clear hb_)
  obtain ⟨W1, hW1⟩ : ∃ W, W = w_.alloc (.cells #[.int .i64 (y), .int .i64 (m), .int .i64 (d), .int .i64 (h), .int .i64 (mi), .int .i64 (s)] 27) := ⟨_, rfl⟩
  obtain ⟨g1, hg1⟩ : ∃ g, g = w_.heap.size := ⟨_, rfl⟩
  rw [← hW1, ← hg1]
  have HD : Hid (W1.heap[g1]? = some (.cells #[.int .i64 (y), .int .i64 (m), .int .i64 (d), .int .i64 (h), .int .i64 (mi), .int .i64 (s)] 27 (0, 0))) := Lib.hid (by rw [hW1, hg1]; exact heap_alloc_new _ _)
  replace HB : Hid (Below w.heap.size w W1) := Lib.hid (by rw [hW1]; exact below_alloc HB.out _)
  clear hW1 hg1
  go_upto_region 5 with (go_at_call 12; refine (HP.out _).mono ?_; rintro e_ w2_ ⟨rfl, hb_⟩; replace HB := Lib.hid (below_step HB.out hb_); have HC := Lib.hid hb_; clear hb_)
  obtain ⟨W2, hW2⟩ : ∃ W, W = w2_.alloc (.cells #[.int .i64 (y), .int .i64 (m+1), .int .i64 (1), .int .i64 (h), .int .i64 (mi), .int .i64 (s)] 27) := ⟨_, rfl⟩
  obtain ⟨g2, hg2⟩ : ∃ g, g = w2_.heap.size := ⟨_, rfl⟩
  rw [← hW2, ← hg2]
  have HE : Hid (W2.heap[g2]? = some (.cells #[.int .i64 (y), .int .i64 (m+1), .int .i64 (1), .int .i64 (h), .int .i64 (mi), .int .i64 (s)] 27 (0, 0))) := Lib.hid (by rw [hW2, hg2]; exact heap_alloc_new _ _)
  replace HD : Hid (W2.heap[g1]? = some (.cells #[.int .i64 (y), .int .i64 (m), .int .i64 (d), .int .i64 (h), .int .i64 (mi), .int .i64 (s)] 27 (0, 0))) := Lib.hid (by rw [hW2]; exact blk_bel (below_alloc HC.out _) HD.out)
  replace HB : Hid (Below w.heap.size w W2) := Lib.hid (by rw [hW2]; exact below_alloc HB.out _)
  clear hW2 hg2 HC
  have HF := Lib.hid (Below.refl W2.heap.size W2)
  have p0 := c_of HD.out 0 (v := .int .i64 y) rfl
  have p1 := c_of HD.out 1 (v := .int .i64 m) rfl
  have p2 := c_of HD.out 2 (v := .int .i64 d) rfl
  have p3 := c_of HD.out 3 (v := .int .i64 h) rfl
  have p4 := c_of HD.out 4 (v := .int .i64 mi) rfl
  have p5 := c_of HD.out 5 (v := .int .i64 s) rfl
  have q0 := c_of HE.out 0 (v := .int .i64 y) rfl
  have q1 := c_of HE.out 1 (v := .int .i64 (m+1)) rfl
  have q2 := c_of HE.out 2 (v := .int .i64 1) rfl
  have q3 := c_of HE.out 3 (v := .int .i64 h) rfl
  have q4 := c_of HE.out 4 (v := .int .i64 mi) rfl
  have q5 := c_of HE.out 5 (v := .int .i64 s) rfl
  go_upto_region 7 with (first | (go_at_call 15; with_reducible refine (HW.out _).mono ?_; rintro e_ w_ ⟨rfl, hb_⟩; replace HF := Lib.hid (below_step HF.out hb_.below); clear hb_; have p3 := c_of (blk_bel HF.out HD.out) 3 (v := .int .i64 h) rfl; have p4 := c_of (blk_bel HF.out HD.out) 4 (v := .int .i64 mi) rfl; have p5 := c_of (blk_bel HF.out HD.out) 5 (v := .int .i64 s) rfl; have q3 := c_of (blk_bel HF.out HE.out) 3 (v := .int .i64 h) rfl; have q4 := c_of (blk_bel HF.out HE.out) 4 (v := .int .i64 mi) rfl; have q5 := c_of (blk_bel HF.out HE.out) 5 (v := .int .i64 s) rfl) | (go_at_call 15; with_reducible refine (HV.out _).mono ?_; rintro e_ w_ ⟨rfl, hb_⟩; replace HF := Lib.hid (below_step HF.out hb_.below); clear hb_; have p3 := c_of (blk_bel HF.out HD.out) 3 (v := .int .i64 h) rfl; have p4 := c_of (blk_bel HF.out HD.out) 4 (v := .int .i64 mi) rfl; have p5 := c_of (blk_bel HF.out HD.out) 5 (v := .int .i64 s) rfl; have q3 := c_of (blk_bel HF.out HE.out) 3 (v := .int .i64 h) rfl; have q4 := c_of (blk_bel HF.out HE.out) 4 (v := .int .i64 mi) rfl; have q5 := c_of (blk_bel HF.out HE.out) 5 (v := .int .i64 s) rfl))
  obtain ⟨W3, hW3⟩ : ∃ W, W = w_ := ⟨_, rfl⟩
  rw [← hW3] at HF ⊢
  replace HD := Lib.hid (blk_bel HF.out HD.out)
  replace HE := Lib.hid (blk_bel HF.out HE.out)
  replace HB := Lib.hid (below_step HB.out HF.out)
  clear hW3 HF HO HP HV HW t0 hU p0 p1 p2 p3 p4 p5 q0 q1 q2 q3 q4 q5
  have p0 := c_of HD.out 0 (v := .int .i64 y) rfl
  have p1 := c_of HD.out 1 (v := .int .i64 m) rfl
  have p2 := c_of HD.out 2 (v := .int .i64 d) rfl
  have p3 := c_of HD.out 3 (v := .int .i64 h) rfl
  have p4 := c_of HD.out 4 (v := .int .i64 mi) rfl
  have p5 := c_of HD.out 5 (v := .int .i64 s) rfl
  have q0 := c_of HE.out 0 (v := .int .i64 y) rfl
  have q1 := c_of HE.out 1 (v := .int .i64 (m+1)) rfl
  have q2 := c_of HE.out 2 (v := .int .i64 1) rfl
  have q3 := c_of HE.out 3 (v := .int .i64 h) rfl
  have q4 := c_of HE.out 4 (v := .int .i64 mi) rfl
  have q5 := c_of HE.out 5 (v := .int .i64 s) rfl
  go_wp2_with (go_at_call 17; refine (alive_q _ (HG.out.below (by repeat (first | exact HB.out | apply below_alloc | apply pw_below_drewN | apply below_drew)))).mono ?_; rintro e_ w_ ⟨rfl, hb_⟩; replace HB := Lib.hid (below_step (by repeat (first | exact HB.out | apply below_alloc | apply pw_below_drewN | apply below_drew)) hb_); clear hb_)
  go_ret
  exact ⟨rfl, HB.out⟩
set_option maxRecDepth 100000 in
set_option maxHeartbeats 400000 in
theorem days_case3 (n y h mi s W U : Int) (w : World) (hG : Glob w) (h0 : -62167219200 ≤ n) (h1 : n ≤ 253402214399) (o : 0 ≤ y ∧ y ≤ 9999) (wl : 0 ≤ W ∧ W ≤ 6) (hU : (U != Int.tmod (W + 1) 7) = false)
    (HO : ∀ w : World, Calls Tryd.prog 12 #[.int .i64 n] w fun e w'' => e = .returned (.tuple #[date6 y 12 31 h mi s, .int .i64 0]) ∧ Below w.heap.size w w'')
    (HP : ∀ w : World, Calls Tryd.prog 12 #[.int .i64 (wrap64 (n + 86400))] w fun e w'' => e = .returned (.tuple #[date6 (y + 1) 1 1 h mi s, .int .i64 0]) ∧ Below w.heap.size w w'')
    (HV : ∀ w : World, Calls Tryd.prog 15 #[.int .i64 n] w fun e w'' => e = .returned (.int .i64 W) ∧ Drawn0 w w'')
    (HW : ∀ w : World, Calls Tryd.prog 15 #[.int .i64 (wrap64 (n + 86400))] w fun e w'' => e = .returned (.int .i64 U) ∧ Drawn0 w w'') :
    Calls Tryd.prog 6 #[.int .i64 n] w fun e w' => e = .returned (.bool true) ∧ Below w.heap.size w w' := by
  have HO := Lib.hid HO
  have HP := Lib.hid HP
  have HV := Lib.hid HV
  have HW := Lib.hid HW
  have HG := Lib.hid hG
  have HB := Lib.hid (Below.refl w.heap.size w)
  have t0 : decide (253402214399 < n) = false := decide_eq_false (by omega)
  have wy : wrap64 (y + 1) = y + 1 := by unfold wrap64; omega
  have wW : wrap64 (W + 1) = W + 1 := by unfold wrap64; omega
  have n2 : (y == y + 1) = false := beq_false_of_ne (by omega)
  clear hG h0 h1 o wl
  go_enter Tryd.func6, Tryd.ntmps6
  go_upto_region 4 with (go_at_call 12; refine (HO.out _).mono ?_; rintro e_ w_ ⟨rfl, hb_⟩; replace HB := Lib.hid (below_step HB.out hb_); clear hb_)
  obtain ⟨W1, hW1⟩ : ∃ W, W = w_.alloc (.cells #[.int .i64 (y), .int .i64 (12), .int .i64 (31), .int .i64 (h), .int .i64 (mi), .int .i64 (s)] 27) := ⟨_, rfl⟩
  obtain ⟨g1, hg1⟩ : ∃ g, g = w_.heap.size := ⟨_, rfl⟩
  rw [← hW1, ← hg1]
  have HD : Hid (W1.heap[g1]? = some (.cells #[.int .i64 (y), .int .i64 (12), .int .i64 (31), .int .i64 (h), .int .i64 (mi), .int .i64 (s)] 27 (0, 0))) := Lib.hid (by rw [hW1, hg1]; exact heap_alloc_new _ _)
  replace HB : Hid (Below w.heap.size w W1) := Lib.hid (by rw [hW1]; exact below_alloc HB.out _)
  clear hW1 hg1
  go_upto_region 5 with (go_at_call 12; refine (HP.out _).mono ?_; rintro e_ w2_ ⟨rfl, hb_⟩; replace HB := Lib.hid (below_step HB.out hb_); have HC := Lib.hid hb_; clear hb_)
  obtain ⟨W2, hW2⟩ : ∃ W, W = w2_.alloc (.cells #[.int .i64 (y+1), .int .i64 (1), .int .i64 (1), .int .i64 (h), .int .i64 (mi), .int .i64 (s)] 27) := ⟨_, rfl⟩
  obtain ⟨g2, hg2⟩ : ∃ g, g = w2_.heap.size := ⟨_, rfl⟩
  rw [← hW2, ← hg2]
  have HE : Hid (W2.heap[g2]? = some (.cells #[.int .i64 (y+1), .int .i64 (1), .int .i64 (1), .int .i64 (h), .int .i64 (mi), .int .i64 (s)] 27 (0, 0))) := Lib.hid (by rw [hW2, hg2]; exact heap_alloc_new _ _)
  replace HD : Hid (W2.heap[g1]? = some (.cells #[.int .i64 (y), .int .i64 (12), .int .i64 (31), .int .i64 (h), .int .i64 (mi), .int .i64 (s)] 27 (0, 0))) := Lib.hid (by rw [hW2]; exact blk_bel (below_alloc HC.out _) HD.out)
  replace HB : Hid (Below w.heap.size w W2) := Lib.hid (by rw [hW2]; exact below_alloc HB.out _)
  clear hW2 hg2 HC
  have HF := Lib.hid (Below.refl W2.heap.size W2)
  have p0 := c_of HD.out 0 (v := .int .i64 y) rfl
  have p1 := c_of HD.out 1 (v := .int .i64 12) rfl
  have p2 := c_of HD.out 2 (v := .int .i64 31) rfl
  have p3 := c_of HD.out 3 (v := .int .i64 h) rfl
  have p4 := c_of HD.out 4 (v := .int .i64 mi) rfl
  have p5 := c_of HD.out 5 (v := .int .i64 s) rfl
  have q0 := c_of HE.out 0 (v := .int .i64 (y+1)) rfl
  have q1 := c_of HE.out 1 (v := .int .i64 1) rfl
  have q2 := c_of HE.out 2 (v := .int .i64 1) rfl
  have q3 := c_of HE.out 3 (v := .int .i64 h) rfl
  have q4 := c_of HE.out 4 (v := .int .i64 mi) rfl
  have q5 := c_of HE.out 5 (v := .int .i64 s) rfl
  go_upto_region 7 with (first | (go_at_call 15; with_reducible refine (HW.out _).mono ?_; rintro e_ w_ ⟨rfl, hb_⟩; replace HF := Lib.hid (below_step HF.out hb_.below); clear hb_; have p3 := c_of (blk_bel HF.out HD.out) 3 (v := .int .i64 h) rfl; have p4 := c_of (blk_bel HF.out HD.out) 4 (v := .int .i64 mi) rfl; have p5 := c_of (blk_bel HF.out HD.out) 5 (v := .int .i64 s) rfl; have q3 := c_of (blk_bel HF.out HE.out) 3 (v := .int .i64 h) rfl; have q4 := c_of (blk_bel HF.out HE.out) 4 (v := .int .i64 mi) rfl; have q5 := c_of (blk_bel HF.out HE.out) 5 (v := .int .i64 s) rfl) | (go_at_call 15; with_reducible refine (HV.out _).mono ?_; rintro e_ w_ ⟨rfl, hb_⟩; replace HF := Lib.hid (below_step HF.out hb_.below); clear hb_; have p3 := c_of (blk_bel HF.out HD.out) 3 (v := .int .i64 h) rfl; have p4 := c_of (blk_bel HF.out HD.out) 4 (v := .int .i64 mi) rfl; have p5 := c_of (blk_bel HF.out HD.out) 5 (v := .int .i64 s) rfl; have q3 := c_of (blk_bel HF.out HE.out) 3 (v := .int .i64 h) rfl; have q4 := c_of (blk_bel HF.out HE.out) 4 (v := .int .i64 mi) rfl; have q5 := c_of (blk_bel HF.out HE.out) 5 (v := .int .i64 s) rfl))
  obtain ⟨W3, hW3⟩ : ∃ W, W = w_ := ⟨_, rfl⟩
  rw [← hW3] at HF ⊢
  replace HD := Lib.hid (blk_bel HF.out HD.out)
  replace HE := Lib.hid (blk_bel HF.out HE.out)
  replace HB := Lib.hid (below_step HB.out HF.out)
  clear hW3 HF HO HP HV HW t0 hU p0 p1 p2 p3 p4 p5 q0 q1 q2 q3 q4 q5
  have p0 := c_of HD.out 0 (v := .int .i64 y) rfl
  have p1 := c_of HD.out 1 (v := .int .i64 12) rfl
  have p2 := c_of HD.out 2 (v := .int .i64 31) rfl
  have p3 := c_of HD.out 3 (v := .int .i64 h) rfl
  have p4 := c_of HD.out 4 (v := .int .i64 mi) rfl
  have p5 := c_of HD.out 5 (v := .int .i64 s) rfl
  have q0 := c_of HE.out 0 (v := .int .i64 (y+1)) rfl
  have q1 := c_of HE.out 1 (v := .int .i64 1) rfl
  have q2 := c_of HE.out 2 (v := .int .i64 1) rfl
  have q3 := c_of HE.out 3 (v := .int .i64 h) rfl
  have q4 := c_of HE.out 4 (v := .int .i64 mi) rfl
  have q5 := c_of HE.out 5 (v := .int .i64 s) rfl
  go_wp2_with (go_at_call 17; refine (alive_q _ (HG.out.below (by repeat (first | exact HB.out | apply below_alloc | apply pw_below_drewN | apply below_drew)))).mono ?_; rintro e_ w_ ⟨rfl, hb_⟩; replace HB := Lib.hid (below_step (by repeat (first | exact HB.out | apply below_alloc | apply pw_below_drewN | apply below_drew)) hb_); clear hb_)
  go_ret
  exact ⟨rfl, HB.out⟩
theorem days_calls (n : Int) (w : World) (hG : Glob w) : Calls Tryd.prog 6 #[.int .i64 n] w fun e w' => e = .returned (.bool true) ∧ Below w.heap.size w w' := by
  by_cases h : -62167219200 ≤ n ∧ n ≤ 253402214399
  · obtain ⟨h0, h1⟩ := h
    obtain ⟨y, m, d, h, mi, s, o, hn, ho⟩ := of_exists n w h0 (by omega)
    obtain ⟨k1, k2, k3⟩ := next_day o.day (by have := (num_parts o).1; rw [hn] at this; omega)
    have wd : wday (n + 86400) = (wday n + 1) % 7 := by unfold wday; rw [if_pos ⟨by omega, by omega⟩, if_pos ⟨by omega, by omega⟩]; omega
    have wl : 0 ≤ wday n ∧ wday n ≤ 6 := by unfold wday; rw [if_pos ⟨by omega, by omega⟩]; omega
    have hU : (wday (n + 86400) != Int.tmod (wday n + 1) 7) = false := by rw [wd, Int.tmod_eq_emod_of_nonneg (by omega)]; exact bne_self_eq_false _
    have hw : wrap64 (n + 86400) = n + 86400 := by unfold wrap64; omega
    have next : ∀ y' m' d', DayOk y' m' d' → dno y' m' d' = dno y m d + 1 → ∀ w : World, Calls Tryd.prog 12 #[.int .i64 (wrap64 (n + 86400))] w fun e w'' => e = .returned (.tuple #[date6 y' m' d' h mi s, .int .i64 0]) ∧ Below w.heap.size w w'' := by
      intro y' m' d' q1 q2 w
      rw [hw]
      refine (of_yes (n + 86400) w (wB_yes (by omega) (by omega))).mono ?_
      rintro e w'' ⟨⟨a1, a2, a3, a4, a5, a6, o', hn', rfl⟩, hb⟩
      obtain ⟨rfl, rfl, rfl, rfl, rfl, rfl⟩ := num_inj o' ⟨q1, o.h0, o.h1, o.mi0, o.mi1, o.s0, o.s1⟩ (by rw [hn', ← hn]; unfold num; rw [q2]; omega)
      exact ⟨rfl, hb⟩
    have HW : ∀ w : World, Calls Tryd.prog 15 #[.int .i64 (wrap64 (n + 86400))] w fun e w'' => e = .returned (.int .i64 (wday (n + 86400))) ∧ Drawn0 w w'' := fun w => by rw [hw]; exact weekday_q _ w
    obtain ⟨o0, o1, o2, o3, o4, o5⟩ := o.day
    have hdl := dim_lo y m
    by_cases c1 : d < dim y m
    · exact days_case1 n y m d h mi s _ _ w hG h0 h1 ⟨o0, o1, o2, o3, o4, by omega⟩ wl hU ho (next _ _ _ (k1 c1).1 (k1 c1).2) (fun w => weekday_q n w) HW
    · have c2 : d = dim y m := by omega
      by_cases c3 : m < 12
      · exact days_case2 n y m d h mi s _ _ w hG h0 h1 ⟨o0, o1, o2, o3, o4, by omega⟩ wl hU c3 (by omega) ho (next _ _ _ (k2 c2 c3).1 (k2 c2 c3).2) (fun w => weekday_q n w) HW
      · obtain rfl : m = 12 := by omega
        obtain ⟨rfl, q1, q2⟩ := k3 c2 rfl
        exact days_case3 n y h mi s _ _ w hG h0 h1 ⟨o0, o1⟩ wl hU ho (next _ _ _ q1 q2) (fun w => weekday_q n w) HW
  · by_cases h1 : n < -62167219200 ∨ 253402300799 < n
    · exact days_out n w hG h1
    · exact days_top n w hG (by omega) (by omega)
end Go.Proofs.YtmmommcgjafbbaaDoor.Da

