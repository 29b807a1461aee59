import Derived.Test.YtbnhlekehndhkaaGreatDoorYFrW

/- Lifetimes and ages: the walks. -/
namespace Go.Proofs.YtbnhlekehndhkaaGreatDoor.Fr
open Go.RowKit Go.Proofs.YtbnhlekehndhkaaGreatDoorW.PrintWords Go.Proofs.YtbnhlekehndhkaaGreatDoorW.PrintLast Go.Proofs.YtbnhlekehndhkaaGreatDoorW.PrintMore Go.Proofs.YtbnhlekehndhkaaGreatDoor.G Go.Proofs.YtbnhlekehndhkaaGreatDoor.V Go.Proofs.YtbnhlekehndhkaaGreatDoor.S
set_option linter.unusedVariables false
set_option linter.unusedSimpArgs false
theorem isTime_q (n : Int) (w : World) : Calls Tryz.prog 40 #[.int .i64 n] w fun e w' => e = .returned (.bool (isT n)) ∧ Below w.heap.size w w' := by
  unfold isT
  by_cases h : 0 ≤ n
  · have t0 : decide (n ≥ 0) = true := decide_eq_true h
    have HE := Lib.hid (show (decide (0 ≤ n) && decide (n ≤ 1099511627776)) = decide (n ≤ 1099511627776) by simp [h])
    clear h
    go_enter Tryz.func40, Tryz.ntmps40
    go_wp2
    go_ret
    exact ⟨by rw [HE.out]; rfl, Below.refl _ _⟩
  · have t0 : decide (n ≥ 0) = false := decide_eq_false h
    have HE := Lib.hid (show (decide (0 ≤ n) && decide (n ≤ 1099511627776)) = false by simp [h])
    clear h
    go_enter Tryz.func40, Tryz.ntmps40
    go_wp2
    go_ret
    exact ⟨by rw [HE.out]; rfl, Below.refl _ _⟩
theorem fbG {w : World} (h : Da.Glob w) : Fb.Glob w := ⟨h.mx, h.p10⟩
theorem dirs_q (A0 : Option Addr) (c0 : Nat) (l0 : List S59) (w : World) (hr0 : Kd.C k59 w A0 l0.length l0) (hc0 : l0.length ≤ c0) (hw : wt l0 < 268435456) (hG : Da.Glob w) :
    Calls Tryz.prog 44 #[.slice A0 l0.length c0] w fun e w' => e = .returned (.agg (dirsOf l0).cells) ∧ Below w.heap.size w w' := Fb.directives_q A0 c0 l0 w hr0 hc0 hw (fbG hG)
set_option maxRecDepth 100000 in
set_option maxHeartbeats 4000000 in
theorem told_q (w : World) (P : Nat → Prop) (x : S34) (r : Rf) (h : Ex w P x r) (hG : Da.Glob w) (hs : wt x.f1.f1 < 268435456) (h0 : 0 ≤ x.f3) (h1 : x.f3 ≤ 1099511627776) :
    Calls Tryz.prog 45 #[.agg (Vx x r)] w fun e w' => e = .returned (.tuple #[.int .i64 ((toldN x.f1.f1 x.f3).getD 0), .bool (toldN x.f1.f1 x.f3).isSome]) ∧ Below w.heap.size w w' := by
  have HB0 := Lib.hid (below_alloc (Below.refl w.heap.size w) (.cells (Vx x r) 34))
  have HX0 := Lib.hid (show (w.alloc (.cells (Vx x r) 34)).heap[w.heap.size]? = some (Bx x r) from heap_alloc_new _ _)
  have HD := Lib.hid (fun W (hb : Below w.heap.size w W) => dirs_q r.A7 r.c7 x.f1.f1 W (Kd.C_below h.g7 hb) h.l7 hs (hG.below hb))
  have HF := Lib.hid (fun W (hb : Below w.heap.size w W) => first_q W r.A7 r.c7 x.f1.f1 EXPIRES (Kd.C_below h.g7 hb) (by have := wt_len x.f1.f1; omega))
  have HDE := Lib.hid (fun W (hb : Below w.heap.size w W) => dated_q W P x r (h.below hb) EXPIRES (hG.below hb) hs)
  have HDD := Lib.hid (fun W (hb : Below w.heap.size w W) => dated_q W P x r (h.below hb) DATE (hG.below hb) hs)
  obtain ⟨r0, hr0⟩ : ∃ r0, r0 = toldN x.f1.f1 x.f3 := ⟨_, rfl⟩
  rw [← hr0]
  unfold toldN at hr0
  obtain ⟨C, hC⟩ : ∃ C, C = dirsOf x.f1.f1 := ⟨_, rfl⟩
  obtain ⟨o, ho⟩ : ∃ o, o = firstN x.f1.f1 EXPIRES := ⟨_, rfl⟩
  obtain ⟨de, hde⟩ : ∃ o, o = datedN x.f1.f1 EXPIRES := ⟨_, rfl⟩
  obtain ⟨dd, hdd⟩ : ∃ o, o = datedN x.f1.f1 DATE := ⟨_, rfl⟩
  have be : ∀ n, de = some n → -62167219200 ≤ n ∧ n ≤ 253402300799 := fun n hn => datedN_bd (by rw [← hde]; exact hn)
  have bd : ∀ n, dd = some n → -62167219200 ≤ n ∧ n ≤ 253402300799 := fun n hn => datedN_bd (by rw [← hdd]; exact hn)
  rw [← hC] at HD hr0
  rw [← ho] at HF hr0
  rw [← hde] at HDE hr0
  rw [← hdd] at HDD hr0
  have HR0 := Lib.hid hr0
  unfold Fb.Ct.cells at HD
  obtain ⟨l0, l1, l2, l3, l4, l5, l6, l7, l8, l9, l10⟩ := bx_cells HX0.out
  clear hC ho hde hdd hr0 h hG
  have HBE := Lib.hid be; have HBD := Lib.hid bd
  clear be bd
  go_enter Tryz.func45, Tryz.ntmps45
  go_upto_region 2 with (go_at_call 44; refine (HD.out _ HB0.out).mono ?_; rintro e w1 ⟨rfl, hb1⟩; have HB1 := Lib.hid (below_step HB0.out hb1); have HX1 := Lib.hid (blk_bel hb1 HX0.out); obtain ⟨l0, l1, l2, l3, l4, l5, l6, l7, l8, l9, l10⟩ := bx_cells HX1.out; clear hb1)
  obtain ⟨W1, hW1⟩ : ∃ W, W = w1.alloc (.cells #[.bool (C.fl 0), .bool (C.fl 1), .bool (C.fl 2), .bool (C.fl 3), .bool (C.fl 4), .bool (C.fl 5), .int .i64 (C.nm 6), .int .i64 (C.nm 7), .int .i64 (C.nm 8), .int .i64 (C.nm 9), .int .i64 (C.nm 10), .int .i64 (C.nm 11)] 69) := ⟨_, rfl⟩
  rw [← hW1]
  have HCC : Hid (W1.heap[w1.heap.size]? = some (.cells #[.bool (C.fl 0), .bool (C.fl 1), .bool (C.fl 2), .bool (C.fl 3), .bool (C.fl 4), .bool (C.fl 5), .int .i64 (C.nm 6), .int .i64 (C.nm 7), .int .i64 (C.nm 8), .int .i64 (C.nm 9), .int .i64 (C.nm 10), .int .i64 (C.nm 11)] 69 (0, 0))) := Lib.hid (by rw [hW1]; exact heap_alloc_new _ _)
  have HB2 : Hid (Below w.heap.size w W1) := Lib.hid (by rw [hW1]; exact below_alloc HB1.out _)
  have HX2 : Hid (W1.heap[w.heap.size]? = some (Bx x r)) := Lib.hid (by rw [hW1]; exact blk_bel (below_alloc (Below.refl _ _) _) HX1.out)
  clear hW1
  have k7 := c_of HCC.out 7 (v := .int .i64 (C.nm 7)) rfl
  have k6 := c_of HCC.out 6 (v := .int .i64 (C.nm 6)) rfl
  go_wp2
  obtain ⟨W2, hW2⟩ : ∃ W, W = W1.alloc (.cells #[.int .i64 (C.nm 7), .int .i64 (C.nm 6)] 3) := ⟨_, rfl⟩
  rw [← hW2]
  have HS : Hid (W2.heap[W1.heap.size]? = some (.cells #[.int .i64 (C.nm 7), .int .i64 (C.nm 6)] 3 (0, 0))) := Lib.hid (by rw [hW2]; exact heap_alloc_new _ _)
  have HB3 : Hid (Below w.heap.size w W2) := Lib.hid (by rw [hW2]; exact below_alloc HB2.out _)
  have HX3 : Hid (W2.heap[w.heap.size]? = some (Bx x r)) := Lib.hid (by rw [hW2]; exact blk_bel (below_alloc (Below.refl _ _) _) HX2.out)
  clear hW2
  go_loopg [22] 3 (fun k v22 W => ∃ i : Nat, v22 = .int .i64 (i : Int) ∧ i ≤ 2 ∧ 3 ≤ k + i ∧ Hid (1 ≤ i → ¬ 0 ≤ C.nm 7) ∧ Hid (2 ≤ i → ¬ 0 ≤ C.nm 6) ∧ Hid (W = W2))
  case atStart => exact ⟨0, rfl, by omega, by omega, Lib.hid (by omega), Lib.hid (by omega), Lib.hid rfl⟩
  case round =>
    obtain ⟨i, rfl, hi, hk, H7, H6, HW⟩ := hrel
    obtain rfl := HW.out
    have s0 := c_of HS.out 0 (v := .int .i64 (C.nm 7)) rfl
    have s1 := c_of HS.out 1 (v := .int .i64 (C.nm 6)) rfl
    obtain ⟨ko, rfl⟩ : ∃ ko, gk = ko + 1 := ⟨gk - 1, by omega⟩
    have hi3 : i = 0 ∨ i = 1 ∨ i = 2 := by omega
    rcases hi3 with rfl | rfl | rfl
    · by_cases hc : 0 ≤ C.nm 7
      · have t1 : decide (C.nm 7 ≥ 0) = true := decide_eq_true hc
        have HT : Hid (r0 = some (C.nm 7)) := Lib.hid (by rw [HR0.out, if_pos hc])
        clear hc
        go_wp2
        go_ret2
        exact ⟨by rw [HT.out]; rfl, HB3.out⟩
      · have t1 : decide (C.nm 7 ≥ 0) = false := decide_eq_false hc
        have HN := Lib.hid hc
        clear hc
        go_wp2
        go_roundg ko
        case measure => omega
        case rel => exact ⟨1, by first | rfl | go_num, by omega, by omega, Lib.hid (fun _ => HN.out), Lib.hid (by omega), Lib.hid rfl⟩
    · have HN7 := Lib.hid (H7.out (by omega))
      by_cases hc : 0 ≤ C.nm 6
      · have t1 : decide (C.nm 6 ≥ 0) = true := decide_eq_true hc
        have HT : Hid (r0 = some (C.nm 6)) := Lib.hid (by rw [HR0.out, if_neg HN7.out, if_pos hc])
        clear hc
        go_wp2
        go_ret2
        exact ⟨by rw [HT.out]; rfl, HB3.out⟩
      · have t1 : decide (C.nm 6 ≥ 0) = false := decide_eq_false hc
        have HN := Lib.hid hc
        clear hc
        go_wp2
        go_roundg ko
        case measure => omega
        case rel => exact ⟨2, by first | rfl | go_num, by omega, by omega, Lib.hid (fun _ => HN7.out), Lib.hid (fun _ => HN.out), Lib.hid rfl⟩
    · have HT := Lib.hid (HR0.out.trans ((if_neg (H7.out (by omega))).trans (if_neg (H6.out (by omega)))))
      obtain ⟨l0, l1, l2, l3, l4, l5, l6, l7, l8, l9, l10⟩ := bx_cells HX3.out
      clear hi hk H7 H6 HR0
      cases o with
      | none =>
        have HE : Hid (r0 = none) := Lib.hid (by rw [HT.out]; rfl)
        go_wp2_with (go_at_call 41; refine (HF.out _ HB3.out).mono ?_; rintro e w4 ⟨rfl, hb4⟩; have HB4 := Lib.hid (below_step HB3.out hb4); have HX4 := Lib.hid (blk_bel hb4 HX3.out); obtain ⟨l0, l1, l2, l3, l4, l5, l6, l7, l8, l9, l10⟩ := bx_cells HX4.out; clear hb4)
        go_ret2
        exact ⟨by rw [HE.out]; rfl, HB4.out⟩
      | some ov =>
        cases de with
        | none =>
          have HE : Hid (r0 = some 0) := Lib.hid (by rw [HT.out]; rfl)
          go_wp2_with (first | (go_at_call 41; refine (HF.out _ HB3.out).mono ?_; rintro e w4 ⟨rfl, hb4⟩; have HB4 := Lib.hid (below_step HB3.out hb4); have HX4 := Lib.hid (blk_bel hb4 HX3.out); obtain ⟨l0, l1, l2, l3, l4, l5, l6, l7, l8, l9, l10⟩ := bx_cells HX4.out; clear hb4) | (go_at_call 43; refine (HDE.out _ HB4.out).mono ?_; rintro e w5 ⟨rfl, hb5⟩; have HB5 := Lib.hid (below_step HB4.out hb5); have HX5 := Lib.hid (blk_bel hb5 HX4.out); obtain ⟨l0, l1, l2, l3, l4, l5, l6, l7, l8, l9, l10⟩ := bx_cells HX5.out; clear hb5))
          go_ret2
          exact ⟨by rw [HE.out]; rfl, HB5.out⟩
        | some ev =>
          have b1 := HBE.out ev rfl
          cases dd with
          | none =>
            have HE : Hid (r0 = some (max 0 (wrap64 (ev - x.f3)))) := Lib.hid (by rw [HT.out, show wrap64 (ev - x.f3) = ev - x.f3 by unfold wrap64; omega]; rfl)
            clear b1 h0 h1
            go_wp2_with (first | (go_at_call 43; refine (HDD.out _ HB5.out).mono ?_; rintro e w6 ⟨rfl, hb6⟩; have HB6 := Lib.hid (below_step HB5.out hb6); have HX6 := Lib.hid (blk_bel hb6 HX5.out); obtain ⟨l0, l1, l2, l3, l4, l5, l6, l7, l8, l9, l10⟩ := bx_cells HX6.out; clear hb6) | (go_at_call 43; refine (HDE.out _ HB4.out).mono ?_; rintro e w5 ⟨rfl, hb5⟩; have HB5 := Lib.hid (below_step HB4.out hb5); have HX5 := Lib.hid (blk_bel hb5 HX4.out); obtain ⟨l0, l1, l2, l3, l4, l5, l6, l7, l8, l9, l10⟩ := bx_cells HX5.out; clear hb5) | (go_at_call 41; refine (HF.out _ HB3.out).mono ?_; rintro e w4 ⟨rfl, hb4⟩; have HB4 := Lib.hid (below_step HB3.out hb4); have HX4 := Lib.hid (blk_bel hb4 HX3.out); obtain ⟨l0, l1, l2, l3, l4, l5, l6, l7, l8, l9, l10⟩ := bx_cells HX4.out; clear hb4))
            go_ret2
            exact ⟨by rw [HE.out]; rfl, HB6.out⟩
          | some dv =>
            have b2 := HBD.out dv rfl
            have HE : Hid (r0 = some (max 0 (wrap64 (ev - dv)))) := Lib.hid (by rw [HT.out, show wrap64 (ev - dv) = ev - dv by unfold wrap64; omega]; rfl)
            clear b1 b2 h0 h1
            go_wp2_with (first | (go_at_call 43; refine (HDD.out _ HB5.out).mono ?_; rintro e w6 ⟨rfl, hb6⟩; have HB6 := Lib.hid (below_step HB5.out hb6); have HX6 := Lib.hid (blk_bel hb6 HX5.out); obtain ⟨l0, l1, l2, l3, l4, l5, l6, l7, l8, l9, l10⟩ := bx_cells HX6.out; clear hb6) | (go_at_call 43; refine (HDE.out _ HB4.out).mono ?_; rintro e w5 ⟨rfl, hb5⟩; have HB5 := Lib.hid (below_step HB4.out hb5); have HX5 := Lib.hid (blk_bel hb5 HX4.out); obtain ⟨l0, l1, l2, l3, l4, l5, l6, l7, l8, l9, l10⟩ := bx_cells HX5.out; clear hb5) | (go_at_call 41; refine (HF.out _ HB3.out).mono ?_; rintro e w4 ⟨rfl, hb4⟩; have HB4 := Lib.hid (below_step HB3.out hb4); have HX4 := Lib.hid (blk_bel hb4 HX3.out); obtain ⟨l0, l1, l2, l3, l4, l5, l6, l7, l8, l9, l10⟩ := bx_cells HX4.out; clear hb4))
            go_ret2
            exact ⟨by rw [HE.out]; rfl, HB6.out⟩
end Go.Proofs.YtbnhlekehndhkaaGreatDoor.Fr

