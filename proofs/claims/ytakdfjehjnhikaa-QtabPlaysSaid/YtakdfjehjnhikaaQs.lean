import Derived.Test.YtakdfjehjnhikaaQr
namespace Go.Proofs.Ytakdfjehjnhikaa.Q
open Go.RowKit Go.Proofs.YtakdfjehjnhikaaW.PrintWords Go.Proofs.YtakdfjehjnhikaaW.PrintLast Go.Proofs.YtakdfjehjnhikaaW.PrintMore Go.Proofs.Ytakdfjehjnhikaa.G
set_option linter.unusedVariables false
set_option linter.unusedSimpArgs false
theorem sameAs_symm (x z : S29) : sameAs x z = sameAs z x := by
  unfold sameAs
  rw [BEq.comm (a := z.f0.toList), BEq.comm (a := z.f1.toList)]

attribute [local go_sem high] eqA29
set_option maxHeartbeats 4000000 in
theorem rfindfixed_calls (w : World) (x : S29) : Calls Try.prog 21 #[.agg #[.string x.f0, .string x.f1]] w fun e w' => e = .returned (.tuple #[.int .i64 (fi (fun z => sameAs z x) 0 FX), .int .i64 (fi (namedAs x.f0) 0 FX)]) ∧ Below w.heap.size w w' := by
  rw [fi_congr (fun z => sameAs z x) (sameAs x) (fun z => sameAs_symm z x)]
  have hlen : FX.length ≤ 140737488351232 := by rw [FX_len]; decide
  have BX := Lib.hid (World.alloc_heap_new w (.cells #[.string x.f0, .string x.f1] 29))
  generalize hl : FX = l
  have HFX : Hid (turnbuckleref13_All.f = some l) := Lib.hid (hl ▸ all_eq)
  rw [hl] at hlen
  clear hl
  go_enter Try.func21, Try.ntmps21
  go_wp2_with (first | (go_at_call 35; refine (turnbuckleref13_All.calls l _ HFX.out).mono ?_; rintro e w1 ⟨v1, rfl, hR1, hb1⟩; obtain ⟨A, c, rfl, hl1, hC1⟩ := Kd.R_reads hR1; have HC1 := Lib.hid hC1; have BX1 := Lib.hid (blk_below hb1 BX.out); have HB1 := Lib.hid (below_step (below_alloc (Below.refl _ _) _) hb1); clear hR1 hb1 hC1))
  go_loopg [5, 6, 7] l.length (fun k v5 v6 v7 W => ∃ (j : Nat), v7 = .int .i64 ((j : Int) - 1) ∧ v5 = .int .i64 (fi (sameAs x) (j : Int) (l.drop j)) ∧ v6 = .int .i64 (fi (namedAs x.f0) (j : Int) (l.drop j)) ∧ j ≤ l.length ∧ j ≤ k ∧ Hid (Below w1.heap.size w1 W))
  case atStart => exact ⟨l.length, rfl, by rw [fi_end], by rw [fi_end], Nat.le_refl _, Nat.le_refl _, Lib.hid (Below.refl _ _)⟩
  case round =>
    obtain ⟨j, rfl, rfl, rfl, hj, hk, HW⟩ := hrel
    cases j with
    | zero =>
      go_wp2
      go_ret2
      exact ⟨rfl, below_step HB1.out HW.out⟩
    | succ j =>
      have x0 := box0 (blk_below HW.out BX1.out)
      have x1 := box1 (blk_below HW.out BX1.out)
      have hxl := blk_lt' (blk_below HW.out BX1.out)
      obtain ⟨ad, rfl, hz0, hz1⟩ := at_T29 (Kd.C_below HC1.out HW.out) (j : Int) (by omega) (by omega)
      rw [show (j : Int).toNat = j from Int.toNat_natCast j] at hz0 hz1
      obtain ⟨ko, rfl⟩ : ∃ ko, gk = ko + 1 := ⟨gk - 1, by omega⟩
      have hk2 : j ≤ ko := by omega
      have hjj : (((j + 1 : Nat) : Int) - 1) = (j : Int) := by omega
      rw [hjj]
      have hlt : j < l.length := hj
      have c1 : decide (0 ≤ (j : Int)) = true := decide_eq_true (by omega)
      have p1 : 0 ≤ (j : Int) := by omega
      have p2 : (j : Int) < (l.length : Int) := by omega
      have hj2 : j ≤ l.length := by omega
      have hadl := World.block_lt_of_cell? wr _ hz0
      have HWI := Lib.hid (show wrap64 ((j : Int) - 1) = (j : Int) - 1 by unfold wrap64; omega)
      have hs := fi_drop (sameAs x) l j hlt (j : Int)
      have hn := fi_drop (namedAs x.f0) l j hlt (j : Int)
      have ej : ((j + 1 : Nat) : Int) = (j : Int) + 1 := by omega
      rw [← ej] at hs hn
      obtain ⟨b, hb⟩ : ∃ b, ((rd_T29 l (j : Int)).f1.toList == x.f1.toList) = b := ⟨_, rfl⟩
      obtain ⟨d, hd⟩ : ∃ d, namedAs x.f0 (rd_T29 l (j : Int)) = d := ⟨_, rfl⟩
      rw [show sameAs x (rd_T29 l (j : Int)) = (d && b) by rw [← hb, ← hd]; rfl] at hs
      rw [hd] at hn
      have hd' : ((rd_T29 l (j : Int)).f0.toList == x.f0.toList) = d := hd
      obtain ⟨s1, hs1⟩ : ∃ t, t = fi (sameAs x) ((j + 1 : Nat) : Int) (l.drop (j + 1)) := ⟨_, rfl⟩
      obtain ⟨n1, hn1⟩ : ∃ t, t = fi (namedAs x.f0) ((j + 1 : Nat) : Int) (l.drop (j + 1)) := ⟨_, rfl⟩
      rw [← hs1] at hs ⊢
      rw [← hn1] at hn ⊢
      have HS := Lib.hid hs
      have HN := Lib.hid hn
      clear hs hn hs1 hn1 ej hjj hd hlt
      have HJ2 := Lib.hid hj2
      cases b with
      | false =>
        cases d with
        | false =>
          go_wp2_with fail
          go_quiet (fail)
          go_wp2_with fail
          go_quiet (fail)
          go_wp2_with fail
          go_roundg ko
          case measure => omega
          case rel => exact ⟨j, by first | exact congrArg (Value.int .i64) HWI.out | go_num, by rw [HS.out]; simp, by rw [HN.out]; simp, HJ2.out, hk2, Lib.hid (by repeat (first | exact HW.out | apply below_drew | apply pw_below_drewN))⟩
        | true =>
          go_wp2_with fail
          go_quiet (fail)
          go_wp2_with fail
          go_quiet (fail)
          go_wp2_with fail
          go_roundg ko
          case measure => omega
          case rel => exact ⟨j, by first | exact congrArg (Value.int .i64) HWI.out | go_num, by rw [HS.out]; simp, by rw [HN.out]; simp, HJ2.out, hk2, Lib.hid (by repeat (first | exact HW.out | apply below_drew | apply pw_below_drewN))⟩
      | true =>
        cases d with
        | false =>
          go_wp2_with fail
          go_quiet (fail)
          go_wp2_with fail
          go_quiet (fail)
          go_wp2_with fail
          go_roundg ko
          case measure => omega
          case rel => exact ⟨j, by first | exact congrArg (Value.int .i64) HWI.out | go_num, by rw [HS.out]; simp, by rw [HN.out]; simp, HJ2.out, hk2, Lib.hid (by repeat (first | exact HW.out | apply below_drew | apply pw_below_drewN))⟩
        | true =>
          go_wp2_with fail
          go_quiet (fail)
          go_wp2_with fail
          go_quiet (fail)
          go_wp2_with fail
          go_roundg ko
          case measure => omega
          case rel => exact ⟨j, by first | exact congrArg (Value.int .i64) HWI.out | go_num, by rw [HS.out]; simp, by rw [HN.out]; simp, HJ2.out, hk2, Lib.hid (by repeat (first | exact HW.out | apply below_drew | apply pw_below_drewN))⟩
end Go.Proofs.Ytakdfjehjnhikaa.Q
