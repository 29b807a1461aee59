import Derived.Test.YtbnhlekehndhkaaGreatDoorYDaN

/- date.Of: its contract. -/
namespace Go.Proofs.YtbnhlekehndhkaaGreatDoor.Da
open Go.RowKit Go.Proofs.YtbnhlekehndhkaaGreatDoorW.PrintWords Go.Proofs.YtbnhlekehndhkaaGreatDoorW.PrintLast Go.Proofs.YtbnhlekehndhkaaGreatDoorW.PrintMore Go.Proofs.YtbnhlekehndhkaaGreatDoor.G
set_option linter.unusedVariables false
set_option linter.unusedSimpArgs false
theorem set_same {w : World} {g i : Nat} {cs cs' : Array Value} {t : Nat} {v : Value} (hg : w.heap[g]? = some (.cells cs t (0, 0))) (e : cs.setIfInBounds i v = cs') : (w.setCell ⟨g, i, none⟩ v).heap[g]? = some (.cells cs' t (0, 0)) := e ▸ heap_setCell_same w g i cs t v hg
theorem set_other {w : World} {g i k : Nat} {o : Obj} {v : Value} (hk : w.heap[k]? = some o) (h : k ≠ g) : (w.setCell ⟨g, i, none⟩ v).heap[k]? = some o := (heap_setCell_other w ⟨g, i, none⟩ k v h).trans hk
theorem index_lit (y : Int) (i : Nat) (h : i < 12) (w : World) : Sem.run Tryz.prog (Instr.index 177 (.agg (lenA y)) (.int .i64 (i : Int))) w = .ok (.int .i64 (dim y ((i : Int) + 1))) w := by
  have e := index_len y i h w
  rw [feb_lp] at e
  exact e
theorem put6 {W : World} {g t : Nat} {z0 z1 z2 z3 z4 z5 : Value} (h : W.heap[g]? = some (.cells #[z0, z1, z2, z3, z4, z5] t (0, 0))) (v0 v1 v2 v3 v4 v5 : Value) :
    ((((((W.setCell ⟨g, 0, none⟩ v0).setCell ⟨g, 1, none⟩ v1).setCell ⟨g, 2, none⟩ v2).setCell ⟨g, 3, none⟩ v3).setCell ⟨g, 4, none⟩ v4).setCell ⟨g, 5, none⟩ v5).heap[g]? = some (.cells #[v0, v1, v2, v3, v4, v5] t (0, 0)) := by
  have h0 : (W.setCell ⟨g, 0, none⟩ v0).heap[g]? = some (.cells #[v0, z1, z2, z3, z4, z5] t (0, 0)) := set_same h rfl
  have h1 : ((W.setCell ⟨g, 0, none⟩ v0).setCell ⟨g, 1, none⟩ v1).heap[g]? = some (.cells #[v0, v1, z2, z3, z4, z5] t (0, 0)) := set_same h0 rfl
  have h2 : (((W.setCell ⟨g, 0, none⟩ v0).setCell ⟨g, 1, none⟩ v1).setCell ⟨g, 2, none⟩ v2).heap[g]? = some (.cells #[v0, v1, v2, z3, z4, z5] t (0, 0)) := set_same h1 rfl
  have h3 : ((((W.setCell ⟨g, 0, none⟩ v0).setCell ⟨g, 1, none⟩ v1).setCell ⟨g, 2, none⟩ v2).setCell ⟨g, 3, none⟩ v3).heap[g]? = some (.cells #[v0, v1, v2, v3, z4, z5] t (0, 0)) := set_same h2 rfl
  have h4 : (((((W.setCell ⟨g, 0, none⟩ v0).setCell ⟨g, 1, none⟩ v1).setCell ⟨g, 2, none⟩ v2).setCell ⟨g, 3, none⟩ v3).setCell ⟨g, 4, none⟩ v4).heap[g]? = some (.cells #[v0, v1, v2, v3, v4, z5] t (0, 0)) := set_same h3 rfl
  have h5 : ((((((W.setCell ⟨g, 0, none⟩ v0).setCell ⟨g, 1, none⟩ v1).setCell ⟨g, 2, none⟩ v2).setCell ⟨g, 3, none⟩ v3).setCell ⟨g, 4, none⟩ v4).setCell ⟨g, 5, none⟩ v5).heap[g]? = some (.cells #[v0, v1, v2, v3, v4, v5] t (0, 0)) := set_same h4 rfl
  exact h5
set_option maxRecDepth 100000 in
set_option maxHeartbeats 8000000 in
theorem of_yes (n : Int) (w : World) (hb : wB n (-62167219200) 253402300799 = true) : Calls Tryz.prog 150 #[.int .i64 n] w fun e w' => (∃ y m d h mi s, DateOk y m d h mi s ∧ num y m d h mi s = n ∧ e = .returned (.tuple #[date6 y m d h mi s, .int .i64 0])) ∧ Below w.heap.size w w' := by
  have n0 : -62167219200 ≤ n := (wB_tells hb).1
  have n1 : n ≤ 253402300799 := (wB_tells hb).2
  go_enter Tryz.func150, Tryz.ntmps150
  go_upto_region 3 with (go_at_call 148; refine (within_q _ _ _ _).mono ?_; rintro e w0 ⟨rfl, hd⟩; have HB : Hid (Below w.heap.size w w0) := Lib.hid (below_step (below_alloc (Below.refl _ _) _) hd.below); have HR : Hid (w0.heap[w.heap.size]? = some (.cells #[.int .i64 0, .int .i64 0, .int .i64 0, .int .i64 0, .int .i64 0, .int .i64 0] 136 (0, 0))) := Lib.hid (blk_bel hd.below (heap_alloc_new _ _)); clear hd)
  clear hb
  obtain ⟨N, hN⟩ : ∃ N, N = (n + 62167219200) / 86400 := ⟨_, rfl⟩
  obtain ⟨S, hS⟩ : ∃ S, S = (n + 62167219200) % 86400 := ⟨_, rfl⟩
  have HN := Lib.hid hN
  have HS := Lib.hid hS
  have N0 : 0 ≤ N := by omega
  have N1 : N ≤ 3652424 := by omega
  have S0 : 0 ≤ S := by omega
  have S1 : S < 86400 := by omega
  go_wp2
  rw [← hN, ← hS]
  clear hN hS
  go_loopg [5, 6] 10001 (fun k v5 v6 W => ∃ (y L : Int), v5 = .int .i64 L ∧ v6 = .int .i64 y ∧ 0 ≤ y ∧ y ≤ 9999 ∧ 0 ≤ L ∧ L ≤ 146096 ∧ 10000 ≤ k + y.toNat ∧ Hid (bef y + L = N) ∧ Hid (Below w.heap.size w W) ∧ Hid (W.heap[w.heap.size]? = some (.cells #[.int .i64 0, .int .i64 0, .int .i64 0, .int .i64 0, .int .i64 0, .int .i64 0] 136 (0, 0))))
  case atStart =>
    refine ⟨N / 146097 * 400, N % 146097, rfl, rfl, by omega, by omega, by omega, by omega, by omega, Lib.hid ?_, HB, HR⟩
    unfold bef
    omega
  case round =>
    obtain ⟨y, L, rfl, rfl, y0, y1, L0, L1, hk, HE, HW, HRW⟩ := hrel
    rename World => Wo
    have hlp := lp_01 y
    have HLP := Lib.hid hlp
    by_cases hge : 365 + lp y ≤ L
    · have y2 : y + 1 ≤ 9999 := by
        have e1 := HE.out
        have e2 := bef_succ y y0
        apply Classical.byContradiction
        intro hc
        obtain rfl : y = 9999 := by omega
        have e3 := bef_top
        rw [show (9999 : Int) + 1 = 10000 by rfl] at e2
        omega
      obtain ⟨ko, rfl⟩ : ∃ ko, gk = ko + 1 := ⟨gk - 1, by omega⟩
      have hk2 : 10000 ≤ ko + (y + 1).toNat := by omega
      have HE2 : Hid (bef (y + 1) + (L - (365 + lp y)) = N) := Lib.hid (by have := HE.out; have := bef_succ y y0; omega)
      have t0 : decide (365 + lp y ≤ L) = true := decide_eq_true hge
      go_wp2_with (go_at_call 182; refine (length_calls y _ y0 (by omega)).mono ?_; rintro e w1 ⟨rfl, hb1⟩; replace HW := Lib.hid (below_step HW.out hb1); replace HRW := Lib.hid (blk_bel hb1 HRW.out); clear hb1)
      go_roundg ko
      case measure => omega
      case rel => exact ⟨y + 1, L - (365 + lp y), rfl, rfl, by omega, y2, by omega, by omega, hk2, HE2, HW, HRW⟩
    · have t0 : decide (365 + lp y ≤ L) = false := decide_eq_false hge
      have L2 : L ≤ 365 := by omega
      have LX : Hid (L < 365 + lp y) := Lib.hid (by omega)
      clear hge hlp
      go_upto_region 11 with (go_at_call 182; refine (length_calls y _ y0 (by omega)).mono ?_; rintro e w1 ⟨rfl, hb1⟩; replace HW := Lib.hid (below_step HW.out hb1); replace HRW := Lib.hid (blk_bel hb1 HRW.out); clear hb1)
      obtain ⟨W1, hW1⟩ : ∃ W, W = w1.alloc (.cells #[.int .i64 y, .int .i64 1, .int .i64 0, .int .i64 (S / 3600), .int .i64 (S / 60 % 60), .int .i64 (S % 60)] 136) := ⟨_, rfl⟩
      rw [← hW1]
      have HD1 : Hid (W1.heap[w1.heap.size]? = some (.cells #[.int .i64 y, .int .i64 1, .int .i64 0, .int .i64 (S / 3600), .int .i64 (S / 60 % 60), .int .i64 (S % 60)] 136 (0, 0))) := Lib.hid (by rw [hW1]; exact heap_alloc_new _ _)
      have HB1 : Hid (Below w1.heap.size w1 W1) := Lib.hid (by rw [hW1]; exact below_alloc (Below.refl _ _) _)
      clear hW1
      have HRL : Hid (w.heap.size < w1.heap.size) := Lib.hid (blk_lt HRW.out)
      replace HRW := Lib.hid (blk_bel HB1.out HRW.out)
      have HBW : Hid (Below w.heap.size w W1) := Lib.hid (below_step HW.out HB1.out)
      go_wp2_with (go_at_call 149; refine (lengths_lit y _).mono ?_; rintro e w2 ⟨rfl, hb2⟩; replace HBW := Lib.hid (below_step HBW.out hb2); replace HRW := Lib.hid (blk_bel hb2 HRW.out); replace HD1 := Lib.hid (blk_bel hb2 HD1.out); clear hb2)
      clear HW HB1
      go_loopg [5, 9, 46] 13 (fun k v5 v9 v46 W => ∃ (i : Nat), v46 = .int .i64 (i : Int) ∧ i < 12 ∧ 12 ≤ k + i ∧ v5 = .int .i64 (L - cum y ((i : Int) + 1)) ∧ Hid (cum y ((i : Int) + 1) ≤ L) ∧ Hid (W.heap[w1.heap.size]? = some (.cells #[.int .i64 y, .int .i64 ((i : Int) + 1), .int .i64 0, .int .i64 (S / 3600), .int .i64 (S / 60 % 60), .int .i64 (S % 60)] 136 (0, 0))) ∧ Hid (W.heap[w.heap.size]? = some (.cells #[.int .i64 0, .int .i64 0, .int .i64 0, .int .i64 0, .int .i64 0, .int .i64 0] 136 (0, 0))) ∧ Hid (Below w.heap.size w W))
      case atStart =>
        refine ⟨0, rfl, by omega, by omega, ?_, Lib.hid ?_, HD1, HRW, HBW⟩
        · rw [show ((0 : Nat) : Int) + 1 = 1 from rfl, cum_1]; congr 1; omega
        · rw [show ((0 : Nat) : Int) + 1 = 1 from rfl, cum_1]; exact L0
      case round =>
        obtain ⟨i, rfl, hi, hki, rfl, HC, HD, HRW, HBW⟩ := hrel
        rename World => Wi
        have hcb := cum_bd y ((i : Int) + 1) (by omega) (by omega)
        have hdl := dim_lo y ((i : Int) + 1)
        have HCS := Lib.hid (cum_succ y ((i : Int) + 1) (by omega) (by omega))
        have hlp := HLP.out
        have c0 := HC.out
        have hix := fun W => index_lit y i hi W
        have t1 : decide ((i : Int) < 12) = true := decide_eq_true (by omega)
        by_cases hlt : L - cum y ((i : Int) + 1) < dim y ((i : Int) + 1)
        · have t0 : decide (L - cum y ((i : Int) + 1) < dim y ((i : Int) + 1)) = true := decide_eq_true hlt
          have l0 := c_of HD.out 0 (v := .int .i64 y) rfl
          have f0 := fr_of HD.out 0
          have l1 := c_of HD.out 1 (v := .int .i64 ((i : Int) + 1)) rfl
          have f1 := fr_of HD.out 1
          have l2 := c_of HD.out 2 (v := .int .i64 0) rfl
          have f2 := fr_of HD.out 2
          have l3 := c_of HD.out 3 (v := .int .i64 (S / 3600)) rfl
          have f3 := fr_of HD.out 3
          have l4 := c_of HD.out 4 (v := .int .i64 (S / 60 % 60)) rfl
          have f4 := fr_of HD.out 4
          have l5 := c_of HD.out 5 (v := .int .i64 (S % 60)) rfl
          have f5 := fr_of HD.out 5
          have z0 := c_of HRW.out 0 (v := .int .i64 0) rfl
          have q0 := fr_of HRW.out 0
          have z1 := c_of HRW.out 1 (v := .int .i64 0) rfl
          have q1 := fr_of HRW.out 1
          have z2 := c_of HRW.out 2 (v := .int .i64 0) rfl
          have q2 := fr_of HRW.out 2
          have z3 := c_of HRW.out 3 (v := .int .i64 0) rfl
          have q3 := fr_of HRW.out 3
          have z4 := c_of HRW.out 4 (v := .int .i64 0) rfl
          have q4 := fr_of HRW.out 4
          have z5 := c_of HRW.out 5 (v := .int .i64 0) rfl
          have q5 := fr_of HRW.out 5
          have hne : w1.heap.size ≠ w.heap.size := by have := HRL.out; omega
          have hne2 : w.heap.size ≠ w1.heap.size := by have := HRL.out; omega
          go_wp2
          have hp := put6 (set_other (g := w1.heap.size) (i := 2) (v := .int .i64 (L - cum y ((i : Int) + 1) + 1)) HRW.out hne2) (.int .i64 y) (.int .i64 ((i : Int) + 1)) (.int .i64 (L - cum y ((i : Int) + 1) + 1)) (.int .i64 (S / 3600)) (.int .i64 (S / 60 % 60)) (.int .i64 (S % 60))
          obtain ⟨W4, hW⟩ : ∃ W, W = (((((((Wi.setCell ⟨w1.heap.size, 2, none⟩ (.int .i64 (L - cum y ((i : Int) + 1) + 1))).setCell ⟨w.heap.size, 0, none⟩ (.int .i64 y)).setCell ⟨w.heap.size, 1, none⟩ (.int .i64 ((i : Int) + 1))).setCell ⟨w.heap.size, 2, none⟩ (.int .i64 (L - cum y ((i : Int) + 1) + 1))).setCell ⟨w.heap.size, 3, none⟩ (.int .i64 (S / 3600))).setCell ⟨w.heap.size, 4, none⟩ (.int .i64 (S / 60 % 60))).setCell ⟨w.heap.size, 5, none⟩ (.int .i64 (S % 60))) := ⟨_, rfl⟩
          rw [← hW] at hp ⊢
          have hb : Below w.heap.size w W4 := by
            rw [hW]
            have hrl := HRL.out
            repeat (refine Below.setCell ?_ (by show w.heap.size ≤ _; first | exact Nat.le_refl _ | (simp only; omega) | omega) _)
            exact HBW.out
          refine bodyPost_ret (v := .tuple #[date6 y ((i : Int) + 1) (L - cum y ((i : Int) + 1) + 1) (S / 3600) (S / 60 % 60) (S % 60), .int .i64 0]) (by simp [results, Tryz.results150, go_sem, c_of hp 0 (v := .int .i64 y) rfl, c_of hp 1 (v := .int .i64 ((i : Int) + 1)) rfl, c_of hp 2 (v := .int .i64 (L - cum y ((i : Int) + 1) + 1)) rfl, c_of hp 3 (v := .int .i64 (S / 3600)) rfl, c_of hp 4 (v := .int .i64 (S / 60 % 60)) rfl, c_of hp 5 (v := .int .i64 (S % 60)) rfl]) rfl ⟨⟨y, (i : Int) + 1, L - cum y ((i : Int) + 1) + 1, S / 3600, S / 60 % 60, S % 60, ?_, ?_, rfl⟩, hb⟩
          · exact ⟨⟨y0, y1, by omega, by omega, by omega, by omega⟩, by omega, by omega, by omega, by omega, by omega, by omega⟩
          · have e1 := HE.out
            have e2 := HN.out
            have e3 := HS.out
            unfold num dno
            omega
        · have t0 : decide (L - cum y ((i : Int) + 1) < dim y ((i : Int) + 1)) = false := decide_eq_false hlt
          obtain ⟨ko2, rfl⟩ : ∃ ko, gk = ko + 1 := ⟨gk - 1, by omega⟩
          have hk3 : 12 ≤ ko2 + (i + 1) := by omega
          have hi2 : i + 1 < 12 := by
            have e1 := LX.out
            have e2 := HCS.out
            apply Classical.byContradiction
            intro hc
            obtain rfl : i = 11 := by omega
            rw [show ((11 : Nat) : Int) + 1 + 1 = 13 from rfl, cum_13] at e2
            omega
          have HC2 : Hid (cum y (((i + 1 : Nat) : Int) + 1) ≤ L) := Lib.hid (by rw [show ((i + 1 : Nat) : Int) + 1 = (i : Int) + 1 + 1 by omega, HCS.out]; omega)
          have HV2 : Hid (L - cum y ((i : Int) + 1) - dim y ((i : Int) + 1) = L - cum y (((i + 1 : Nat) : Int) + 1)) := Lib.hid (by rw [show ((i + 1 : Nat) : Int) + 1 = (i : Int) + 1 + 1 by omega, HCS.out]; omega)
          have l1 := c_of HD.out 1 (v := .int .i64 ((i : Int) + 1)) rfl
          have f1 := fr_of HD.out 1
          go_wp2
          go_roundg ko2
          case measure => omega
          case rel =>
            refine ⟨i + 1, by go_num, hi2, hk3, congrArg (Value.int .i64) HV2.out, HC2, Lib.hid ?_, Lib.hid (set_other HRW.out (by have := HRL.out; omega)), Lib.hid (Below.setCell HBW.out (p := ⟨w1.heap.size, 1, none⟩) (by have := HRL.out; show w.heap.size ≤ w1.heap.size; omega) _)⟩
            rw [show (((i + 1 : Nat) : Int) + 1) = (i : Int) + 1 + 1 by omega]
            exact set_same HD.out rfl
end Go.Proofs.YtbnhlekehndhkaaGreatDoor.Da

