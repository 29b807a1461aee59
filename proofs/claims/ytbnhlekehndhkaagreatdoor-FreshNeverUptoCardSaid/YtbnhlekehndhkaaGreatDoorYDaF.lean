import Derived.Test.YtbnhlekehndhkaaGreatDoorYDaG

/- date.Format: its contract. -/
namespace Go.Proofs.YtbnhlekehndhkaaGreatDoor.Da
open Go.RowKit Go.Proofs.YtbnhlekehndhkaaGreatDoorW.PrintWords Go.Proofs.YtbnhlekehndhkaaGreatDoorW.PrintLast Go.Proofs.YtbnhlekehndhkaaGreatDoorW.PrintMore Go.Proofs.YtbnhlekehndhkaaGreatDoor.G
set_option linter.unusedVariables false
set_option linter.unusedSimpArgs false
/-- more is known from here on -/
theorem switch_ {P : Program} {md : Region.Mode} {ops : Array Oper} {Q : Exit → Act → World → Prop} {S S' : World → Prop} (hSS : ∀ w, S' w → S w) {fuel : Nat} {l : Array Bool} {a : Act} {w : World} (hS : S' w)
    (h : S' w → wpAnyLast P md ops Q S' [] fuel l a w) : wpAnyLast P md ops Q S [] fuel l a w := by
  have key : ∀ (fuel : Nat) (l : Array Bool) (a : Act) (w : World), S' w → wpAnyLast P md ops Q S' [] fuel l a w → wpAnyLast P md ops Q S [] fuel l a w := by
    intro fuel
    induction fuel with
    | zero => intro l a w _ h; exact h
    | succ fuel ih =>
      intro l a w hS h
      refine ⟨h.1, fun i hi => wpOp_mono (fun a' w' h' => ?_) (h.2 i hi)⟩
      have h1 := h'.1 (by simp) hS
      exact ⟨fun _ _ => hSS _ h1, ih _ _ _ h1 h'.2⟩
  exact key fuel l a w hS (h hS)
theorem name_at (l : List (List UInt8)) (i : Nat) (h : i < l.length) : (nameCells l)[i]? = some (.string ⟨(l.getD i []).toArray⟩) := by
  simp [nameCells, List.getElem?_eq_getElem h]
theorem join_cells {W : World} {b t : Nat} {m : Nat × Nat} {xs : List ByteArray} (h : W.heap[b]? = some (.cells (xs.map Value.string).toArray t m)) : ∀ (j : Nat) x, xs[j]? = some x → W.cell? ⟨b, 0 + j, none⟩ = some (.string x) := by
  intro j x hj
  rw [Nat.zero_add]
  exact c_of h j (by simp [hj])
theorem join_3 (b : Nat) (x0 x1 x2 : ByteArray) (w : World) (h : w.heap[b]? = some (.cells #[.string x0, .string x1, .string x2] 9 (0, 0))) (hl : (Lib.join [x0.data.toList, x1.data.toList, x2.data.toList] [58]).length ≤ 1000) :
    Calls Tryz.prog 131 #[.slice (some ⟨b, 0, none⟩) 3 3, .string ⟨#[58]⟩] w fun e w' => e = .returned (.string ⟨(Lib.join [x0.data.toList, x1.data.toList, x2.data.toList] [58]).toArray⟩) ∧ Below w.heap.size w w' :=
  Tryz.strings_Join b 0 3 [x0, x1, x2] ⟨#[58]⟩ w (join_cells h) (blk_lt h) (by simp) (by simp) (Nat.le_trans hl (by decide))
theorem join_6 (b : Nat) (x0 x1 x2 x3 x4 x5 : ByteArray) (w : World) (h : w.heap[b]? = some (.cells #[.string x0, .string x1, .string x2, .string x3, .string x4, .string x5] 9 (0, 0))) (hl : (Lib.join [x0.data.toList, x1.data.toList, x2.data.toList, x3.data.toList, x4.data.toList, x5.data.toList] [32]).length ≤ 1000) :
    Calls Tryz.prog 131 #[.slice (some ⟨b, 0, none⟩) 6 6, .string ⟨#[32]⟩] w fun e w' => e = .returned (.string ⟨(Lib.join [x0.data.toList, x1.data.toList, x2.data.toList, x3.data.toList, x4.data.toList, x5.data.toList] [32]).toArray⟩) ∧ Below w.heap.size w w' :=
  Tryz.strings_Join b 0 6 [x0, x1, x2, x3, x4, x5] ⟨#[32]⟩ w (join_cells h) (blk_lt h) (by simp) (by simp) (Nat.le_trans hl (by decide))
theorem weekday_nat (n : Int) (wd : Nat) (h : wday n = (wd : Int)) (w : World) : Calls Tryz.prog 153 #[.int .i64 n] w fun e w' => e = .returned (.int .i64 (wd : Int)) ∧ Drawn0 w w' := by rw [← h]; exact weekday_q n w
theorem weekdays_at (b : Nat) (w : World) (hG : Glob w) (hb : b = w.heap.size) : Calls Tryz.prog 152 #[] w fun e w' => e = .returned (.slice (some ⟨b, 0, none⟩) 7 7) ∧ w' = w.alloc (.cells (nameCells wdays) 9) := by subst hb; exact weekdays_calls w hG
theorem months_at (b : Nat) (w : World) (hG : Glob w) (hb : b = w.heap.size) : Calls Tryz.prog 112 #[] w fun e w' => e = .returned (.slice (some ⟨b, 0, none⟩) 12 12) ∧ w' = w.alloc (.cells (nameCells mons) 9) := by subst hb; exact months_calls w hG
def clockL (h mi s : Nat) : List UInt8 := Lib.join [two h, two mi, two s] [58]
/-- the text of a date -/
def fmtL (y M d h mi s wd : Nat) : List UInt8 := Lib.join [wdays.getD wd [] ++ [44], two d, mons.getD M [], four y, clockL h mi s, [71, 77, 84]] [32]
theorem clock_len (h mi s : Nat) : (clockL h mi s).length = 8 := by simp [clockL, Lib.join, List.intercalate, two]
theorem wd_len (i : Nat) : (wdays.getD i []).length ≤ 3 := by
  by_cases h : i < 7
  · have : i = 0 ∨ i = 1 ∨ i = 2 ∨ i = 3 ∨ i = 4 ∨ i = 5 ∨ i = 6 := by omega
    rcases this with rfl | rfl | rfl | rfl | rfl | rfl | rfl <;> decide
  · rw [List.getD_eq_getElem?_getD, List.getElem?_eq_none (by show 7 ≤ i; omega)]; simp
theorem mon_len (i : Nat) : (mons.getD i []).length ≤ 3 := by
  by_cases h : i < 12
  · have : i = 0 ∨ i = 1 ∨ i = 2 ∨ i = 3 ∨ i = 4 ∨ i = 5 ∨ i = 6 ∨ i = 7 ∨ i = 8 ∨ i = 9 ∨ i = 10 ∨ i = 11 := by omega
    rcases this with rfl | rfl | rfl | rfl | rfl | rfl | rfl | rfl | rfl | rfl | rfl | rfl <;> decide
  · rw [List.getD_eq_getElem?_getD, List.getElem?_eq_none (by show 12 ≤ i; omega)]; simp
set_option maxRecDepth 100000 in
set_option maxHeartbeats 8000000 in
theorem format_nat (n : Int) (y M d h mi s wd : Nat) (w : World) (hG : Glob w) (o : DateOk (y : Int) ((M : Int) + 1) (d : Int) (h : Int) (mi : Int) (s : Int)) (e : num (y : Int) ((M : Int) + 1) (d : Int) (h : Int) (mi : Int) (s : Int) = n) (hwd : wday n = (wd : Int)) (hwd7 : wd < 7) :
    Calls Tryz.prog 114 #[.int .i64 n] w fun e w' => e = .returned (.tuple #[.string ⟨(fmtL y M d h mi s wd).toArray⟩, .int .i64 0]) ∧ Below w.heap.size w w' := by
  have hO := of_yes n w (by have := num_bd o; rw [e] at this; exact wB_yes this.1 this.2)
  have HOF : Hid (Calls Tryz.prog 150 #[.int .i64 n] w fun e w' => e = .returned (.tuple #[.agg #[.int .i64 (y : Int), .int .i64 ((M : Int) + 1), .int .i64 (d : Int), .int .i64 (h : Int), .int .i64 (mi : Int), .int .i64 (s : Int)], .int .i64 0]) ∧ Below w.heap.size w w') := Lib.hid (hO.mono (by
    rintro e' w' ⟨⟨y', m', d', h', mi', s', o', en, rfl⟩, hb⟩
    obtain ⟨rfl, rfl, rfl, rfl, rfl, rfl⟩ := num_inj o' o (en.trans e.symm)
    exact ⟨rfl, hb⟩))
  obtain ⟨⟨y0, y1, m0, m1, d0_, d1⟩, h0, h1, mi0, mi1, s0, s1⟩ := o
  have hd31 : (d : Int) ≤ 31 := by have := dim_lo (y : Int) ((M : Int) + 1); omega
  have h2 : h < 100 := by omega
  have mi2 : mi < 100 := by omega
  have s2 : s < 100 := by omega
  have d2 : d < 100 := by omega
  have y4 : y < 10000 := by omega
  have M12 : M < 12 := by omega
  have HWD := Lib.hid hwd
  have HG0 := Lib.hid hG
  clear hO e hwd hG d1
  go_enter Tryz.func114, Tryz.ntmps114
  go_upto_region 4 with (go_at_call 150; refine HOF.out.mono ?_; rintro e w1 ⟨rfl, hb1⟩; have HB1 := Lib.hid hb1; clear hb1)
  obtain ⟨Wr, hWr⟩ : ∃ W, W = w1.alloc (.cells #[.int .i64 (y : Int), .int .i64 ((M : Int) + 1), .int .i64 (d : Int), .int .i64 (h : Int), .int .i64 (mi : Int), .int .i64 (s : Int)] 136) := ⟨_, rfl⟩
  rw [← hWr]
  have HD : Hid (Wr.heap[w1.heap.size]? = some (.cells #[.int .i64 (y : Int), .int .i64 ((M : Int) + 1), .int .i64 (d : Int), .int .i64 (h : Int), .int .i64 (mi : Int), .int .i64 (s : Int)] 136 (0, 0))) := Lib.hid (by rw [hWr]; exact heap_alloc_new _ _)
  have HBr : Hid (Below w.heap.size w Wr) := Lib.hid (by rw [hWr]; exact below_alloc HB1.out _)
  have HG : Hid (Glob Wr) := Lib.hid (HG0.out.below HBr.out)
  clear hWr HB1 HG0 HOF
  refine start_ (n := 12) (S := fun w' => w'.cell? ⟨w1.heap.size, 3, none⟩ = some (.int .i64 (h : Int)) ∧ w'.cell? ⟨w1.heap.size, 4, none⟩ = some (.int .i64 (mi : Int)) ∧ w'.cell? ⟨w1.heap.size, 5, none⟩ = some (.int .i64 (s : Int))) (ds := []) #[false, false, false, false, false, false, false, false, false, false, false, false] (by kernel_rfl) rfl rfl ⟨c_of HD.out 3 rfl, c_of HD.out 4 rfl, c_of HD.out 5 rfl⟩ (fun hHeld => ?_)
  refine pure_ (i := 0) (N := some 15) (v := ?_) (a' := ?_) #[true, false, false, false, false, false, false, false, false, false, false, false] rfl rfl (by kernel_rfl) (fun _ _ _ h => h) (Or.inl ⟨by rfl, ?_⟩) ?_ ?_
  rotate_left
  · intro w'
    go_simp
    with_reducible rfl
  rotate_left
  · simp only [Act.put, List.setIfInBounds_toArray, List.set_cons_zero, List.set_cons_succ, i64_w, i32_w]
    rfl
  refine pure_ (i := 3) (N := some 18) (v := ?_) (a' := ?_) #[true, false, false, true, false, false, false, false, false, false, false, false] rfl rfl (by kernel_rfl) (fun _ _ _ h => h) (Or.inl ⟨by rfl, ?_⟩) ?_ ?_
  rotate_left
  · intro w'
    go_simp
    with_reducible rfl
  rotate_left
  · simp only [Act.put, List.setIfInBounds_toArray, List.set_cons_zero, List.set_cons_succ, i64_w, i32_w]
    rfl
  refine pure_ (i := 6) (N := some 21) (v := ?_) (a' := ?_) #[true, false, false, true, false, false, true, false, false, false, false, false] rfl rfl (by kernel_rfl) (fun _ _ _ h => h) (Or.inl ⟨by rfl, ?_⟩) ?_ ?_
  rotate_left
  · intro w'
    go_simp
    with_reducible rfl
  rotate_left
  · simp only [Act.put, List.setIfInBounds_toArray, List.set_cons_zero, List.set_cons_succ, i64_w, i32_w]
    rfl
  refine take_ (i := 1) (N := some 16) (v := ?_) (a' := ?_) #[true, true, false, true, false, false, true, false, false, false, false, false] rfl rfl (by kernel_rfl) (fun _ _ _ h => h) (Or.inl ⟨by rfl, ?_⟩) hHeld ?_ ?_
  rotate_left
  · rintro w' ⟨s0, s1, s2⟩
    go_simp
    with_reducible rfl
  rotate_left
  · simp only [Act.put, List.setIfInBounds_toArray, List.set_cons_zero, List.set_cons_succ, i64_w, i32_w]
    rfl
  refine take_ (i := 4) (N := some 19) (v := ?_) (a' := ?_) #[true, true, false, true, true, false, true, false, false, false, false, false] rfl rfl (by kernel_rfl) (fun _ _ _ h => h) (Or.inl ⟨by rfl, ?_⟩) hHeld ?_ ?_
  rotate_left
  · rintro w' ⟨s0, s1, s2⟩
    go_simp
    with_reducible rfl
  rotate_left
  · simp only [Act.put, List.setIfInBounds_toArray, List.set_cons_zero, List.set_cons_succ, i64_w, i32_w]
    rfl
  refine take_ (i := 7) (N := some 22) (v := ?_) (a' := ?_) #[true, true, false, true, true, false, true, true, false, false, false, false] rfl rfl (by kernel_rfl) (fun _ _ _ h => h) (Or.inl ⟨by rfl, ?_⟩) hHeld ?_ ?_
  rotate_left
  · rintro w' ⟨s0, s1, s2⟩
    go_simp
    with_reducible rfl
  rotate_left
  · simp only [Act.put, List.setIfInBounds_toArray, List.set_cons_zero, List.set_cons_succ, i64_w, i32_w]
    rfl
  refine one_ (i := 2) (N := some 17) #[true, true, true, true, true, false, true, true, false, false, false, false] rfl rfl (by kernel_rfl) (by decide) (fun K hK => ?_)
  refine goes_ Tryz.func151 (by kernel_rfl) rfl #[.int .i64 (h : Int), .int .i64 2] (by rfl) rfl rfl (by simp only [List.map_toArray, List.map_cons, List.map_nil]; rfl) ?_
  with_reducible refine (pad2_calls h _ (HG.out.below (below_drew (Below.refl _ _))) h2).mono ?_
  rintro e w2 ⟨rfl, hb2⟩
  refine ⟨_, rfl, ?_⟩
  have HB2 : Hid (Below Wr.heap.size Wr w2) := Lib.hid (below_step (below_drew (Below.refl _ _)) hb2)
  refine hK.out _ _ ⟨c_of (blk_bel HB2.out HD.out) 3 rfl, c_of (blk_bel HB2.out HD.out) 4 rfl, c_of (blk_bel HB2.out HD.out) 5 rfl⟩ (fun hHeld => ?_)
  clear hK K
  refine norm_ (a' := ?_) ?_ ?_
  rotate_left
  · show Act.put _ (some 17) _ = _
    simp only [Act.put, List.setIfInBounds_toArray, List.set_cons_zero, List.set_cons_succ, i64_w, i32_w]
    rfl
  refine one_ (i := 5) (N := some 20) #[true, true, true, true, true, true, true, true, false, false, false, false] rfl rfl (by kernel_rfl) (by decide) (fun K hK => ?_)
  refine goes_ Tryz.func151 (by kernel_rfl) rfl #[.int .i64 (mi : Int), .int .i64 2] (by rfl) rfl rfl (by simp only [List.map_toArray, List.map_cons, List.map_nil]; rfl) ?_
  with_reducible refine (pad2_calls mi _ (HG.out.below HB2.out) mi2).mono ?_
  rintro e w5 ⟨rfl, hb5⟩
  refine ⟨_, rfl, ?_⟩
  have HB5 : Hid (Below Wr.heap.size Wr w5) := Lib.hid (below_step HB2.out hb5)
  refine hK.out _ _ ⟨c_of (blk_bel HB5.out HD.out) 3 rfl, c_of (blk_bel HB5.out HD.out) 4 rfl, c_of (blk_bel HB5.out HD.out) 5 rfl⟩ (fun hHeld => ?_)
  clear hK K
  refine norm_ (a' := ?_) ?_ ?_
  rotate_left
  · show Act.put _ (some 20) _ = _
    simp only [Act.put, List.setIfInBounds_toArray, List.set_cons_zero, List.set_cons_succ, i64_w, i32_w]
    rfl
  refine one_ (i := 8) (N := some 23) #[true, true, true, true, true, true, true, true, true, false, false, false] rfl rfl (by kernel_rfl) (by decide) (fun K hK => ?_)
  refine goes_ Tryz.func151 (by kernel_rfl) rfl #[.int .i64 (s : Int), .int .i64 2] (by rfl) rfl rfl (by simp only [List.map_toArray, List.map_cons, List.map_nil]; rfl) ?_
  with_reducible refine (pad2_calls s _ (HG.out.below HB5.out) s2).mono ?_
  rintro e w8 ⟨rfl, hb8⟩
  refine ⟨_, rfl, ?_⟩
  have HB8 : Hid (Below Wr.heap.size Wr w8) := Lib.hid (below_step HB5.out hb8)
  refine hK.out _ _ ⟨c_of (blk_bel HB8.out HD.out) 3 rfl, c_of (blk_bel HB8.out HD.out) 4 rfl, c_of (blk_bel HB8.out HD.out) 5 rfl⟩ (fun hHeld => ?_)
  clear hK K
  refine norm_ (a' := ?_) ?_ ?_
  rotate_left
  · show Act.put _ (some 23) _ = _
    simp only [Act.put, List.setIfInBounds_toArray, List.set_cons_zero, List.set_cons_succ, i64_w, i32_w]
    rfl
  refine one_ (i := 9) (N := some 24) #[true, true, true, true, true, true, true, true, true, true, false, false] rfl rfl (by kernel_rfl) (by decide) (fun K hK => ?_)
  refine value_ (w1 := ?_) (v := ?_) (by rfl) rfl ?_ ?_
  rotate_left 2
  · go_simp
    constructor
    · rfl
    · rfl
  obtain ⟨w9, hw9⟩ : ∃ W, W = w8.alloc (.cells #[.string ⟨(two h).toArray⟩, .string ⟨(two mi).toArray⟩, .string ⟨(two s).toArray⟩] 9) := ⟨_, rfl⟩
  rw [← hw9]
  have HX9 : Hid (w9.heap[w8.heap.size]? = some (.cells #[.string ⟨(two h).toArray⟩, .string ⟨(two mi).toArray⟩, .string ⟨(two s).toArray⟩] 9 (0, 0))) := Lib.hid (by rw [hw9]; exact heap_alloc_new _ _)
  have HB9 : Hid (Below Wr.heap.size Wr w9) := Lib.hid (by rw [hw9]; exact below_alloc HB8.out _)
  clear hw9
  refine hK.out _ _ ⟨c_of (blk_bel HB9.out HD.out) 3 rfl, c_of (blk_bel HB9.out HD.out) 4 rfl, c_of (blk_bel HB9.out HD.out) 5 rfl⟩ (fun hHeld => ?_)
  clear hK K
  refine norm_ (a' := ?_) ?_ ?_
  rotate_left
  · show Act.put _ (some 24) _ = _
    simp only [Act.put, List.setIfInBounds_toArray, List.set_cons_zero, List.set_cons_succ, i64_w, i32_w]
    rfl
  refine one_ (i := 10) (N := some 25) #[true, true, true, true, true, true, true, true, true, true, true, false] rfl rfl (by kernel_rfl) (by decide) (fun K hK => ?_)
  refine goes_ Tryz.func131 (by kernel_rfl) rfl #[.slice (some ⟨w8.heap.size, 0, none⟩) 3 3, .string ⟨#[58]⟩] (by rfl) rfl rfl (by simp only [List.map_toArray, List.map_cons, List.map_nil]; rfl) ?_
  with_reducible refine (join_3 w8.heap.size _ _ _ w9 HX9.out (by have := clock_len h mi s; unfold clockL at this; simpa using (by omega : (Lib.join [two h, two mi, two s] [58]).length ≤ 1000))).mono ?_
  rintro e w10 ⟨rfl, hb10⟩
  refine ⟨_, rfl, ?_⟩
  have HB10 : Hid (Below Wr.heap.size Wr w10) := Lib.hid (below_step HB9.out hb10)
  refine hK.out _ _ ⟨c_of (blk_bel HB10.out HD.out) 3 rfl, c_of (blk_bel HB10.out HD.out) 4 rfl, c_of (blk_bel HB10.out HD.out) 5 rfl⟩ (fun hHeld => ?_)
  clear hK K
  refine norm_ (a' := ?_) ?_ ?_
  rotate_left
  · show Act.put _ (some 25) _ = _
    simp only [Act.put, List.setIfInBounds_toArray, List.set_cons_zero, List.set_cons_succ, i64_w, i32_w]
    rfl
  refine pure_ (i := 11) (N := some 6) (v := ?_) (a' := ?_) #[true, true, true, true, true, true, true, true, true, true, true, true] rfl rfl (by kernel_rfl) (fun _ _ _ h => h) (Or.inl ⟨by rfl, ?_⟩) ?_ ?_
  rotate_left
  · intro w'
    go_simp
    with_reducible rfl
  rotate_left
  · simp only [Act.put, List.setIfInBounds_toArray, List.set_cons_zero, List.set_cons_succ, i64_w, i32_w]
    rfl
  refine done_ (by kernel_rfl) ?_
  clear hHeld
  obtain ⟨CK, hCK⟩ : ∃ x, x = clockL h mi s := ⟨_, rfl⟩
  rw [show Lib.join [two h, two mi, two s] [58] = CK from hCK.symm]
  have HCK := Lib.hid hCK
  clear hCK
  obtain ⟨Wq, hWq⟩ : ∃ W, W = w10 := ⟨_, rfl⟩
  rw [← hWq] at HB10 ⊢
  replace HD := Lib.hid (blk_bel HB10.out HD.out)
  replace HG := Lib.hid (HG.out.below HB10.out)
  replace HBr := Lib.hid (below_step HBr.out HB10.out)
  clear hWq HB2 HB5 HB8 HB9 HX9 HB10
  have w0i : (0 : Int) ≤ (wd : Int) := by omega
  have w7i : (wd : Int) < 7 := by omega
  have m0i : (0 : Int) ≤ (M : Int) := by omega
  have m12i : (M : Int) < 12 := by omega
  obtain ⟨A7, hA7⟩ : ∃ x, x = wdays.getD wd [] := ⟨_, rfl⟩
  obtain ⟨B12, hB12⟩ : ∃ x, x = mons.getD M [] := ⟨_, rfl⟩
  have hwl := wd_len wd
  have hml := mon_len M
  rw [← hA7] at hwl
  rw [← hB12] at hml
  have hcat : ¬ 9223372036854775807 < A7.length + 1 := by omega
  have hw : wrap64 (M : Int) = (M : Int) := by unfold wrap64; omega
  have hN7 : Hid ((nameCells wdays)[wd]? = some (.string ⟨A7.toArray⟩)) := Lib.hid (by rw [hA7]; exact name_at wdays wd hwd7)
  have hN12 : Hid ((nameCells mons)[M]? = some (.string ⟨B12.toArray⟩)) := Lib.hid (by rw [hB12]; exact name_at mons M M12)
  have HA7 := Lib.hid hA7
  have HB12 := Lib.hid hB12
  clear hA7 hB12
  have HJL : Hid ((Lib.join [((⟨A7.toArray⟩ : ByteArray) ++ ⟨#[44]⟩).data.toList, (⟨(two d).toArray⟩ : ByteArray).data.toList, (⟨B12.toArray⟩ : ByteArray).data.toList, (⟨(four y).toArray⟩ : ByteArray).data.toList, (⟨CK.toArray⟩ : ByteArray).data.toList, (⟨#[71, 77, 84]⟩ : ByteArray).data.toList] [32]).length ≤ 1000) := Lib.hid (by
    have h2 := clock_len h mi s
    rw [← HCK.out] at h2
    simp [Lib.join, List.intercalate, two, four, ByteArray.data_append]
    omega)
  go_upto_region 5 with fail
  refine start_ (n := 23) (S := fun w' => w'.cell? ⟨w1.heap.size, 2, none⟩ = some (.int .i64 (d : Int)) ∧ w'.cell? ⟨w1.heap.size, 1, none⟩ = some (.int .i64 ((M : Int) + 1)) ∧ w'.cell? ⟨w1.heap.size, 0, none⟩ = some (.int .i64 (y : Int))) (ds := []) #[false, false, false, false, false, false, false, false, false, false, false, false, false, false, false, false, false, false, false, false, false, false, false] (by kernel_rfl) rfl rfl ⟨c_of HD.out 2 rfl, c_of HD.out 1 rfl, c_of HD.out 0 rfl⟩ (fun hHeld => ?_)
  refine pure_ (i := 1) (N := some 27) (v := ?_) (a' := ?_) #[false, true, false, false, false, false, false, false, false, false, false, false, false, false, false, false, false, false, false, false, false, false, false] rfl rfl (by kernel_rfl) (fun _ _ _ h => h) (Or.inl ⟨by rfl, ?_⟩) ?_ ?_
  rotate_left
  · intro w'
    go_simp
    with_reducible rfl
  rotate_left
  · simp only [Act.put, List.setIfInBounds_toArray, List.set_cons_zero, List.set_cons_succ, i64_w, i32_w]
    rfl
  refine pure_ (i := 6) (N := some 32) (v := ?_) (a' := ?_) #[false, true, false, false, false, false, true, false, false, false, false, false, false, false, false, false, false, false, false, false, false, false, false] rfl rfl (by kernel_rfl) (fun _ _ _ h => h) (Or.inl ⟨by rfl, ?_⟩) ?_ ?_
  rotate_left
  · intro w'
    go_simp
    with_reducible rfl
  rotate_left
  · simp only [Act.put, List.setIfInBounds_toArray, List.set_cons_zero, List.set_cons_succ, i64_w, i32_w]
    rfl
  refine pure_ (i := 10) (N := some 36) (v := ?_) (a' := ?_) #[false, true, false, false, false, false, true, false, false, false, true, false, false, false, false, false, false, false, false, false, false, false, false] rfl rfl (by kernel_rfl) (fun _ _ _ h => h) (Or.inl ⟨by rfl, ?_⟩) ?_ ?_
  rotate_left
  · intro w'
    go_simp
    with_reducible rfl
  rotate_left
  · simp only [Act.put, List.setIfInBounds_toArray, List.set_cons_zero, List.set_cons_succ, i64_w, i32_w]
    rfl
  refine pure_ (i := 15) (N := some 41) (v := ?_) (a' := ?_) #[false, true, false, false, false, false, true, false, false, false, true, false, false, false, false, true, false, false, false, false, false, false, false] rfl rfl (by kernel_rfl) (fun _ _ _ h => h) (Or.inl ⟨by rfl, ?_⟩) ?_ ?_
  rotate_left
  · intro w'
    go_simp
    with_reducible rfl
  rotate_left
  · simp only [Act.put, List.setIfInBounds_toArray, List.set_cons_zero, List.set_cons_succ, i64_w, i32_w]
    rfl
  refine pure_ (i := 18) (N := some 44) (v := ?_) (a' := ?_) #[false, true, false, false, false, false, true, false, false, false, true, false, false, false, false, true, false, false, true, false, false, false, false] rfl rfl (by kernel_rfl) (fun _ _ _ h => h) (Or.inl ⟨by rfl, ?_⟩) ?_ ?_
  rotate_left
  · intro w'
    go_simp
    with_reducible rfl
  rotate_left
  · simp only [Act.put, List.setIfInBounds_toArray, List.set_cons_zero, List.set_cons_succ, i64_w, i32_w]
    rfl
  refine take_ (i := 7) (N := some 33) (v := ?_) (a' := ?_) #[false, true, false, false, false, false, true, true, false, false, true, false, false, false, false, true, false, false, true, false, false, false, false] rfl rfl (by kernel_rfl) (fun _ _ _ h => h) (Or.inl ⟨by rfl, ?_⟩) hHeld ?_ ?_
  rotate_left
  · rintro w' ⟨s0, s1, s2⟩
    go_simp
    with_reducible rfl
  rotate_left
  · simp only [Act.put, List.setIfInBounds_toArray, List.set_cons_zero, List.set_cons_succ, i64_w, i32_w]
    rfl
  refine take_ (i := 11) (N := some 37) (v := ?_) (a' := ?_) #[false, true, false, false, false, false, true, true, false, false, true, true, false, false, false, true, false, false, true, false, false, false, false] rfl rfl (by kernel_rfl) (fun _ _ _ h => h) (Or.inl ⟨by rfl, ?_⟩) hHeld ?_ ?_
  rotate_left
  · rintro w' ⟨s0, s1, s2⟩
    go_simp
    with_reducible rfl
  rotate_left
  · simp only [Act.put, List.setIfInBounds_toArray, List.set_cons_zero, List.set_cons_succ, i64_w, i32_w]
    rfl
  refine pure_ (i := 12) (N := some 38) (v := ?_) (a' := ?_) #[false, true, false, false, false, false, true, true, false, false, true, true, true, false, false, true, false, false, true, false, false, false, false] rfl rfl (by kernel_rfl) (fun _ _ _ h => h) (Or.inl ⟨by rfl, ?_⟩) ?_ ?_
  rotate_left
  · intro w'
    go_simp
    with_reducible rfl
  rotate_left
  · simp only [Act.put, List.setIfInBounds_toArray, List.set_cons_zero, List.set_cons_succ, i64_w, i32_w]
    rfl
  refine take_ (i := 16) (N := some 42) (v := ?_) (a' := ?_) #[false, true, false, false, false, false, true, true, false, false, true, true, true, false, false, true, true, false, true, false, false, false, false] rfl rfl (by kernel_rfl) (fun _ _ _ h => h) (Or.inl ⟨by rfl, ?_⟩) hHeld ?_ ?_
  rotate_left
  · rintro w' ⟨s0, s1, s2⟩
    go_simp
    with_reducible rfl
  rotate_left
  · simp only [Act.put, List.setIfInBounds_toArray, List.set_cons_zero, List.set_cons_succ, i64_w, i32_w]
    rfl
  refine one_ (i := 0) (N := some 26) #[true, true, false, false, false, false, true, true, false, false, true, true, true, false, false, true, true, false, true, false, false, false, false] rfl rfl (by kernel_rfl) (by decide) (fun K hK => ?_)
  refine goes_ Tryz.func152 (by kernel_rfl) rfl #[] (by rfl) rfl rfl (by simp only [List.map_toArray, List.map_cons, List.map_nil]) ?_
  with_reducible refine (weekdays_at Wq.heap.size _ (HG.out.below (below_drew (Below.refl _ _))) rfl).mono ?_
  rintro e w50 ⟨rfl, hw50⟩
  refine ⟨_, rfl, ?_⟩
  have HB50 : Hid (Below Wq.heap.size Wq w50) := Lib.hid (by rw [hw50]; exact below_alloc (below_drew (Below.refl _ _)) _)
  have HN50 : Hid (w50.heap[Wq.heap.size]? = some (.cells (nameCells wdays) 9 (0, 0))) := Lib.hid (by rw [hw50]; exact heap_alloc_new _ _)
  clear hw50
  refine hK.out _ _ ⟨c_of (blk_bel HB50.out HD.out) 2 rfl, c_of (blk_bel HB50.out HD.out) 1 rfl, c_of (blk_bel HB50.out HD.out) 0 rfl⟩ (fun hHeld => ?_)
  clear hK K
  refine norm_ (a' := ?_) ?_ ?_
  rotate_left
  · show Act.put _ (some 26) _ = _
    simp only [Act.put, List.setIfInBounds_toArray, List.set_cons_zero, List.set_cons_succ, i64_w, i32_w]
    rfl
  refine switch_ (S' := fun w' => w'.cell? ⟨w1.heap.size, 2, none⟩ = some (.int .i64 (d : Int)) ∧ w'.cell? ⟨w1.heap.size, 1, none⟩ = some (.int .i64 ((M : Int) + 1)) ∧ w'.cell? ⟨w1.heap.size, 0, none⟩ = some (.int .i64 (y : Int)) ∧ w'.cell? ⟨Wq.heap.size, wd, none⟩ = some (.string ⟨A7.toArray⟩)) (by rintro w' ⟨s0, s1, s2, s3⟩; exact ⟨s0, s1, s2⟩) ⟨c_of (blk_bel HB50.out HD.out) 2 rfl, c_of (blk_bel HB50.out HD.out) 1 rfl, c_of (blk_bel HB50.out HD.out) 0 rfl, c_of HN50.out wd hN7.out⟩ (fun hHeld => ?_)
  refine one_ (i := 2) (N := some 28) #[true, true, true, false, false, false, true, true, false, false, true, true, true, false, false, true, true, false, true, false, false, false, false] rfl rfl (by kernel_rfl) (by decide) (fun K hK => ?_)
  refine goes_ Tryz.func153 (by kernel_rfl) rfl #[.int .i64 n] (by rfl) rfl rfl (by simp only [List.map_toArray, List.map_cons, List.map_nil]; rfl) ?_
  with_reducible refine (weekday_nat n wd HWD.out _).mono ?_
  rintro e w52 ⟨rfl, hd52⟩
  refine ⟨_, rfl, ?_⟩
  have hb52 := hd52.below
  have HB52 : Hid (Below Wq.heap.size Wq w52) := Lib.hid (below_step HB50.out hb52)
  have HC52 : Hid (Below w50.heap.size w50 w52) := Lib.hid (below_step (Below.refl _ _) hb52)
  refine hK.out _ _ ⟨c_of (blk_bel HB52.out HD.out) 2 rfl, c_of (blk_bel HB52.out HD.out) 1 rfl, c_of (blk_bel HB52.out HD.out) 0 rfl, c_of (blk_bel HC52.out HN50.out) wd hN7.out⟩ (fun hHeld => ?_)
  clear hK K
  refine norm_ (a' := ?_) ?_ ?_
  rotate_left
  · show Act.put _ (some 28) _ = _
    simp only [Act.put, List.setIfInBounds_toArray, List.set_cons_zero, List.set_cons_succ, i64_w, i32_w]
    rfl
  refine pure_ (i := 3) (N := some 29) (v := ?_) (a' := ?_) #[true, true, true, true, false, false, true, true, false, false, true, true, true, false, false, true, true, false, true, false, false, false, false] rfl rfl (by kernel_rfl) (fun _ _ _ h => h) (Or.inl ⟨by rfl, ?_⟩) ?_ ?_
  rotate_left
  · intro w'
    go_simp
    with_reducible rfl
  rotate_left
  · simp only [Act.put, List.setIfInBounds_toArray, List.set_cons_zero, List.set_cons_succ, i64_w, i32_w]
    rfl
  refine take_ (i := 4) (N := some 30) (v := ?_) (a' := ?_) #[true, true, true, true, true, false, true, true, false, false, true, true, true, false, false, true, true, false, true, false, false, false, false] rfl rfl (by kernel_rfl) (fun _ _ _ h => h) (Or.inl ⟨by rfl, ?_⟩) hHeld ?_ ?_
  rotate_left
  · rintro w' ⟨s0, s1, s2, s3⟩
    go_simp
    with_reducible rfl
  rotate_left
  · simp only [Act.put, List.setIfInBounds_toArray, List.set_cons_zero, List.set_cons_succ, i64_w, i32_w]
    rfl
  refine pure_ (i := 5) (N := some 31) (v := ?_) (a' := ?_) #[true, true, true, true, true, true, true, true, false, false, true, true, true, false, false, true, true, false, true, false, false, false, false] rfl rfl (by kernel_rfl) (fun _ _ _ h => h) (Or.inl ⟨by rfl, ?_⟩) ?_ ?_
  rotate_left
  · intro w'
    go_simp
    with_reducible rfl
  rotate_left
  · simp only [Act.put, List.setIfInBounds_toArray, List.set_cons_zero, List.set_cons_succ, i64_w, i32_w]
    rfl
  refine one_ (i := 8) (N := some 34) #[true, true, true, true, true, true, true, true, true, false, true, true, true, false, false, true, true, false, true, false, false, false, false] rfl rfl (by kernel_rfl) (by decide) (fun K hK => ?_)
  refine goes_ Tryz.func151 (by kernel_rfl) rfl #[.int .i64 (d : Int), .int .i64 2] (by rfl) rfl rfl (by simp only [List.map_toArray, List.map_cons, List.map_nil]; rfl) ?_
  with_reducible refine (pad2_calls d _ (HG.out.below HB52.out) d2).mono ?_
  rintro e w58 ⟨rfl, hb58⟩
  refine ⟨_, rfl, ?_⟩
  have HB58 : Hid (Below Wq.heap.size Wq w58) := Lib.hid (below_step HB52.out hb58)
  have HC58 : Hid (Below w50.heap.size w50 w58) := Lib.hid (below_step HC52.out hb58)
  refine hK.out _ _ ⟨c_of (blk_bel HB58.out HD.out) 2 rfl, c_of (blk_bel HB58.out HD.out) 1 rfl, c_of (blk_bel HB58.out HD.out) 0 rfl, c_of (blk_bel HC58.out HN50.out) wd hN7.out⟩ (fun hHeld => ?_)
  clear hK K
  refine norm_ (a' := ?_) ?_ ?_
  rotate_left
  · show Act.put _ (some 34) _ = _
    simp only [Act.put, List.setIfInBounds_toArray, List.set_cons_zero, List.set_cons_succ, i64_w, i32_w]
    rfl
  refine one_ (i := 9) (N := some 35) #[true, true, true, true, true, true, true, true, true, true, true, true, true, false, false, true, true, false, true, false, false, false, false] rfl rfl (by kernel_rfl) (by decide) (fun K hK => ?_)
  refine goes_ Tryz.func112 (by kernel_rfl) rfl #[] (by rfl) rfl rfl (by simp only [List.map_toArray, List.map_cons, List.map_nil]) ?_
  with_reducible refine (months_at w58.heap.size _ (HG.out.below HB58.out) rfl).mono ?_
  rintro e w59 ⟨rfl, hw59⟩
  refine ⟨_, rfl, ?_⟩
  have hb59 : Below w58.heap.size w58 w59 := by rw [hw59]; exact below_alloc (Below.refl _ _) _
  have HB59 : Hid (Below Wq.heap.size Wq w59) := Lib.hid (below_step HB58.out hb59)
  have HC59 : Hid (Below w50.heap.size w50 w59) := Lib.hid (below_step HC58.out hb59)
  have HN59 : Hid (w59.heap[w58.heap.size]? = some (.cells (nameCells mons) 9 (0, 0))) := Lib.hid (by rw [hw59]; exact heap_alloc_new _ _)
  clear hw59
  refine hK.out _ _ ⟨c_of (blk_bel HB59.out HD.out) 2 rfl, c_of (blk_bel HB59.out HD.out) 1 rfl, c_of (blk_bel HB59.out HD.out) 0 rfl, c_of (blk_bel HC59.out HN50.out) wd hN7.out⟩ (fun hHeld => ?_)
  clear hK K
  refine norm_ (a' := ?_) ?_ ?_
  rotate_left
  · show Act.put _ (some 35) _ = _
    simp only [Act.put, List.setIfInBounds_toArray, List.set_cons_zero, List.set_cons_succ, i64_w, i32_w]
    rfl
  refine switch_ (S' := fun w' => w'.cell? ⟨w1.heap.size, 2, none⟩ = some (.int .i64 (d : Int)) ∧ w'.cell? ⟨w1.heap.size, 1, none⟩ = some (.int .i64 ((M : Int) + 1)) ∧ w'.cell? ⟨w1.heap.size, 0, none⟩ = some (.int .i64 (y : Int)) ∧ w'.cell? ⟨Wq.heap.size, wd, none⟩ = some (.string ⟨A7.toArray⟩) ∧ w'.cell? ⟨w58.heap.size, M, none⟩ = some (.string ⟨B12.toArray⟩)) (by rintro w' ⟨s0, s1, s2, s3, s4⟩; exact ⟨s0, s1, s2, s3⟩) ⟨c_of (blk_bel HB59.out HD.out) 2 rfl, c_of (blk_bel HB59.out HD.out) 1 rfl, c_of (blk_bel HB59.out HD.out) 0 rfl, c_of (blk_bel HC59.out HN50.out) wd hN7.out, c_of HN59.out M hN12.out⟩ (fun hHeld => ?_)
  refine pure_ (i := 13) (N := some 39) (v := ?_) (a' := ?_) #[true, true, true, true, true, true, true, true, true, true, true, true, true, true, false, true, true, false, true, false, false, false, false] rfl rfl (by kernel_rfl) (fun _ _ _ h => h) (Or.inl ⟨by rfl, ?_⟩) ?_ ?_
  rotate_left
  · intro w'
    go_simp
    with_reducible rfl
  rotate_left
  · simp only [Act.put, List.setIfInBounds_toArray, List.set_cons_zero, List.set_cons_succ, i64_w, i32_w]
    rfl
  refine take_ (i := 14) (N := some 40) (v := ?_) (a' := ?_) #[true, true, true, true, true, true, true, true, true, true, true, true, true, true, true, true, true, false, true, false, false, false, false] rfl rfl (by kernel_rfl) (fun _ _ _ h => h) (Or.inl ⟨by rfl, ?_⟩) hHeld ?_ ?_
  rotate_left
  · rintro w' ⟨s0, s1, s2, s3, s4⟩
    go_simp
    with_reducible rfl
  rotate_left
  · simp only [Act.put, List.setIfInBounds_toArray, List.set_cons_zero, List.set_cons_succ, i64_w, i32_w]
    rfl
  refine one_ (i := 17) (N := some 43) #[true, true, true, true, true, true, true, true, true, true, true, true, true, true, true, true, true, true, true, false, false, false, false] rfl rfl (by kernel_rfl) (by decide) (fun K hK => ?_)
  refine goes_ Tryz.func151 (by kernel_rfl) rfl #[.int .i64 (y : Int), .int .i64 4] (by rfl) rfl rfl (by simp only [List.map_toArray, List.map_cons, List.map_nil]; rfl) ?_
  with_reducible refine (pad4_calls y _ (HG.out.below HB59.out) y4).mono ?_
  rintro e w517 ⟨rfl, hb517⟩
  refine ⟨_, rfl, ?_⟩
  have HB517 : Hid (Below Wq.heap.size Wq w517) := Lib.hid (below_step HB59.out hb517)
  have HC517 : Hid (Below w50.heap.size w50 w517) := Lib.hid (below_step HC59.out hb517)
  have HE517 : Hid (Below w59.heap.size w59 w517) := Lib.hid (below_step (Below.refl _ _) hb517)
  refine hK.out _ _ ⟨c_of (blk_bel HB517.out HD.out) 2 rfl, c_of (blk_bel HB517.out HD.out) 1 rfl, c_of (blk_bel HB517.out HD.out) 0 rfl, c_of (blk_bel HC517.out HN50.out) wd hN7.out, c_of (blk_bel HE517.out HN59.out) M hN12.out⟩ (fun hHeld => ?_)
  clear hK K
  refine norm_ (a' := ?_) ?_ ?_
  rotate_left
  · show Act.put _ (some 43) _ = _
    simp only [Act.put, List.setIfInBounds_toArray, List.set_cons_zero, List.set_cons_succ, i64_w, i32_w]
    rfl
  refine one_ (i := 19) (N := some 45) #[true, true, true, true, true, true, true, true, true, true, true, true, true, true, true, true, true, true, true, true, false, false, false] rfl rfl (by kernel_rfl) (by decide) (fun K hK => ?_)
  refine value_ (w1 := ?_) (v := ?_) (by rfl) rfl ?_ ?_
  rotate_left 2
  · go_simp
    constructor
    · rfl
    · rfl
  obtain ⟨w519, hw519⟩ : ∃ W, W = w517.alloc (.cells #[.string (⟨A7.toArray⟩ ++ ⟨#[44]⟩), .string ⟨(two d).toArray⟩, .string ⟨B12.toArray⟩, .string ⟨(four y).toArray⟩, .string ⟨CK.toArray⟩, .string ⟨#[71, 77, 84]⟩] 9) := ⟨_, rfl⟩
  rw [← hw519]
  have HX519 : Hid (w519.heap[w517.heap.size]? = some (.cells #[.string (⟨A7.toArray⟩ ++ ⟨#[44]⟩), .string ⟨(two d).toArray⟩, .string ⟨B12.toArray⟩, .string ⟨(four y).toArray⟩, .string ⟨CK.toArray⟩, .string ⟨#[71, 77, 84]⟩] 9 (0, 0))) := Lib.hid (by rw [hw519]; exact heap_alloc_new _ _)
  have hb519 : Below w517.heap.size w517 w519 := by rw [hw519]; exact below_alloc (Below.refl _ _) _
  have HB519 : Hid (Below Wq.heap.size Wq w519) := Lib.hid (below_step HB517.out hb519)
  have HC519 : Hid (Below w50.heap.size w50 w519) := Lib.hid (below_step HC517.out hb519)
  have HE519 : Hid (Below w59.heap.size w59 w519) := Lib.hid (below_step HE517.out hb519)
  clear hw519
  refine hK.out _ _ ⟨c_of (blk_bel HB519.out HD.out) 2 rfl, c_of (blk_bel HB519.out HD.out) 1 rfl, c_of (blk_bel HB519.out HD.out) 0 rfl, c_of (blk_bel HC519.out HN50.out) wd hN7.out, c_of (blk_bel HE519.out HN59.out) M hN12.out⟩ (fun hHeld => ?_)
  clear hK K
  refine norm_ (a' := ?_) ?_ ?_
  rotate_left
  · show Act.put _ (some 45) _ = _
    simp only [Act.put, List.setIfInBounds_toArray, List.set_cons_zero, List.set_cons_succ, i64_w, i32_w]
    rfl
  refine one_ (i := 20) (N := some 46) #[true, true, true, true, true, true, true, true, true, true, true, true, true, true, true, true, true, true, true, true, true, false, false] rfl rfl (by kernel_rfl) (by decide) (fun K hK => ?_)
  refine goes_ Tryz.func131 (by kernel_rfl) rfl #[.slice (some ⟨w517.heap.size, 0, none⟩) 6 6, .string ⟨#[32]⟩] (by rfl) rfl rfl (by simp only [List.map_toArray, List.map_cons, List.map_nil]; rfl) ?_
  with_reducible refine (join_6 w517.heap.size _ _ _ _ _ _ w519 HX519.out (HJL.out)).mono ?_
  rintro e w520 ⟨rfl, hb520⟩
  refine ⟨_, rfl, ?_⟩
  have HB520 : Hid (Below Wq.heap.size Wq w520) := Lib.hid (below_step HB519.out hb520)
  have HC520 : Hid (Below w50.heap.size w50 w520) := Lib.hid (below_step HC519.out hb520)
  have HE520 : Hid (Below w59.heap.size w59 w520) := Lib.hid (below_step HE519.out hb520)
  refine hK.out _ _ ⟨c_of (blk_bel HB520.out HD.out) 2 rfl, c_of (blk_bel HB520.out HD.out) 1 rfl, c_of (blk_bel HB520.out HD.out) 0 rfl, c_of (blk_bel HC520.out HN50.out) wd hN7.out, c_of (blk_bel HE520.out HN59.out) M hN12.out⟩ (fun hHeld => ?_)
  clear hK K
  refine norm_ (a' := ?_) ?_ ?_
  rotate_left
  · show Act.put _ (some 46) _ = _
    simp only [Act.put, List.setIfInBounds_toArray, List.set_cons_zero, List.set_cons_succ, i64_w, i32_w]
    rfl
  refine pure_ (i := 21) (N := some 2) (v := ?_) (a' := ?_) #[true, true, true, true, true, true, true, true, true, true, true, true, true, true, true, true, true, true, true, true, true, true, false] rfl rfl (by kernel_rfl) (fun _ _ _ h => h) (Or.inl ⟨by rfl, ?_⟩) ?_ ?_
  rotate_left
  · intro w'
    go_simp
    with_reducible rfl
  rotate_left
  · simp only [Act.put, List.setIfInBounds_toArray, List.set_cons_zero, List.set_cons_succ, i64_w, i32_w]
    rfl
  refine pure_ (i := 22) (N := some 3) (v := ?_) (a' := ?_) #[true, true, true, true, true, true, true, true, true, true, true, true, true, true, true, true, true, true, true, true, true, true, true] rfl rfl (by kernel_rfl) (fun _ _ _ h => h) (Or.inl ⟨by rfl, ?_⟩) ?_ ?_
  rotate_left
  · intro w'
    go_simp
    with_reducible rfl
  rotate_left
  · simp only [Act.put, List.setIfInBounds_toArray, List.set_cons_zero, List.set_cons_succ, i64_w, i32_w]
    rfl
  refine done_ (by kernel_rfl) ?_
  clear hHeld
  go_wp2
  go_ret2
  refine ⟨?_, below_step HBr.out HB520.out⟩
  have ef : fmtL y M d h mi s wd = Lib.join [A7 ++ [44], two d, B12, four y, CK, [71, 77, 84]] [32] := by unfold fmtL; rw [← HA7.out, ← HB12.out, ← HCK.out]
  rw [ef]
  rfl
theorem wday_nat {n : Int} (h : -62167219200 ≤ n ∧ n ≤ 253402300799) : ∃ wd : Nat, wday n = (wd : Int) ∧ wd < 7 := by
  refine ⟨(wday n).toNat, ?_, ?_⟩ <;> (unfold wday; rw [if_pos h]; omega)
end Go.Proofs.YtbnhlekehndhkaaGreatDoor.Da

