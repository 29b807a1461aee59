import Derived.Test.YtakdfjehjnhikaaQw
namespace Go.Proofs.Ytakdfjehjnhikaa.Q
open Go.RowKit Go.Proofs.YtakdfjehjnhikaaW.PrintWords Go.Proofs.YtakdfjehjnhikaaW.PrintLast Go.Proofs.YtakdfjehjnhikaaW.PrintMore Go.Proofs.Ytakdfjehjnhikaa.G
set_option linter.unusedVariables false
set_option linter.unusedSimpArgs false

def TS.lastTo (s : TS) (p : S29 → Bool) (m : Nat) : Int := match lastAt p s.l m with | some j => wrap64 (s.first + (j : Int)) | none => -1
theorem lastTo_succ (s : TS) (p : S29 → Bool) (m : Nat) : s.lastTo p (m + 1) = if p (rd_T29 s.l (m : Int)) then wrap64 (s.first + (m : Int)) else s.lastTo p m := by
  unfold TS.lastTo
  by_cases h : p (rd_T29 s.l (m : Int)) = true
  · simp [lastAt, h]
  · simp [lastAt, h]
attribute [local go_sem high] eqA29
set_option maxHeartbeats 4000000 in
theorem rfind_any {ok : Nat → Prop} (w : World) (g : Nat) (s : TS) (x : S29) (h : RTabK ok w g s) (hlen : s.l.length ≤ 140737488351232) : Calls Try.prog 30 #[.pointer (some ⟨g, 0, none⟩), .agg #[.string x.f0, .string x.f1]] w fun e w' => e = .returned (.tuple #[.int .i64 (s.last (sameAs x)), .int .i64 (s.last (namedAs x.f0))]) ∧ Below w.heap.size w w' := by
  obtain ⟨A, c, hh, hl, hC, -⟩ := h
  have hgl := blk_lt' hh
  have HH := Lib.hid (blk_below (below_alloc (Below.refl _ _) (.cells #[.string x.f0, .string x.f1] 29)) hh)
  have HC := Lib.hid hC
  have BX := Lib.hid (World.alloc_heap_new w (.cells #[.string x.f0, .string x.f1] 29))
  have HB := Lib.hid (below_alloc (Below.refl w.heap.size w) (.cells #[.string x.f0, .string x.f1] 29))
  clear hh hC
  go_enter Try.func30, Try.ntmps30
  go_wp2
  generalize (w.alloc (.cells #[.string x.f0, .string x.f1] 29)) = W0 at BX HB HH ⊢
  go_loopg [6, 7, 8] s.l.length (fun k v6 v7 v8 W => ∃ (j : Nat), v8 = .int .i64 (j : Int) ∧ v6 = .int .i64 (s.lastTo (sameAs x) j) ∧ v7 = .int .i64 (s.lastTo (namedAs x.f0) j) ∧ j ≤ s.l.length ∧ s.l.length ≤ k + j ∧ Hid (Below W0.heap.size W0 W))
  case atStart => exact ⟨0, rfl, rfl, rfl, Nat.zero_le _, Nat.le_refl _, Lib.hid (Below.refl _ _)⟩
  case round =>
    obtain ⟨j, rfl, rfl, rfl, hj, hk, HW⟩ := hrel
    have h2 := cells_of (blk_below HW.out HH.out) 2
    have h3 := cells_of (blk_below HW.out HH.out) 3
    simp only [List.getElem?_toArray, List.getElem?_cons_succ, List.getElem?_cons_zero] at h2 h3
    have hgr := blk_lt' (blk_below HW.out HH.out)
    have x0 := box0 (blk_below HW.out BX.out)
    have x1 := box1 (blk_below HW.out BX.out)
    have hxl := blk_lt' (blk_below HW.out BX.out)
    by_cases hlt : j < s.l.length
    · obtain ⟨ad, rfl, hz0, hz1⟩ := at_T29 (Kd.C_below HC.out (below_step HB.out HW.out)) (j : Int) (by omega) (by omega)
      rw [show (j : Int).toNat = j from Int.toNat_natCast j] at hz0 hz1
      obtain ⟨ko, rfl⟩ : ∃ ko, gk = ko + 1 := ⟨gk - 1, by omega⟩
      have hk2 : s.l.length ≤ ko + (j + 1) := by omega
      have hj1 : j + 1 ≤ s.l.length := hlt
      have c1 : decide ((j : Int) < (s.l.length : Int)) = true := decide_eq_true (by omega)
      have p1 : 0 ≤ (j : Int) := by omega
      have p2 : (j : Int) < (s.l.length : Int) := by omega
      have hadl := World.block_lt_of_cell? wr _ hz0
      have HWI := Lib.hid (show wrap64 ((j : Int) + 1) = (j : Int) + 1 by unfold wrap64; omega)
      have hs := lastTo_succ s (sameAs x) j
      have hn := lastTo_succ s (namedAs x.f0) j
      obtain ⟨b, hb⟩ : ∃ b, ((rd_T29 s.l (j : Int)).f1.toList == x.f1.toList) = b := ⟨_, rfl⟩
      obtain ⟨d, hd⟩ : ∃ d, namedAs x.f0 (rd_T29 s.l (j : Int)) = d := ⟨_, rfl⟩
      rw [show sameAs x (rd_T29 s.l (j : Int)) = (d && b) by rw [← hb, ← hd]; rfl] at hs
      rw [hd] at hn
      have hd' : ((rd_T29 s.l (j : Int)).f0.toList == x.f0.toList) = d := hd
      obtain ⟨s1, hs1⟩ : ∃ t, t = s.lastTo (sameAs x) j := ⟨_, rfl⟩
      obtain ⟨n1, hn1⟩ : ∃ t, t = s.lastTo (namedAs x.f0) j := ⟨_, rfl⟩
      rw [← hs1] at hs ⊢
      rw [← hn1] at hn ⊢
      have HS := Lib.hid hs
      have HN := Lib.hid hn
      have HJ1 := Lib.hid hj1
      clear hs hn hs1 hn1 hd hlt
      cases b with
      | false =>
        cases d with
        | false =>
          go_wp2_with fail
          go_quiet (fail)
          go_wp2_with fail
          go_quiet (fail)
          go_wp2_with fail
          go_roundg ko
          case measure => omega
          case rel => exact ⟨j + 1, by first | exact congrArg (Value.int .i64) HWI.out | go_num, by rw [HS.out]; simp, by rw [HN.out]; simp, HJ1.out, hk2, Lib.hid (by repeat (first | exact HW.out | apply below_drew | apply pw_below_drewN))⟩
        | true =>
          go_wp2_with fail
          go_quiet (fail)
          go_wp2_with fail
          go_quiet (fail)
          go_wp2_with fail
          go_roundg ko
          case measure => omega
          case rel => exact ⟨j + 1, by first | exact congrArg (Value.int .i64) HWI.out | go_num, by rw [HS.out]; simp, by rw [HN.out]; simp, HJ1.out, hk2, Lib.hid (by repeat (first | exact HW.out | apply below_drew | apply pw_below_drewN))⟩
      | true =>
        cases d with
        | false =>
          go_wp2_with fail
          go_quiet (fail)
          go_wp2_with fail
          go_quiet (fail)
          go_wp2_with fail
          go_roundg ko
          case measure => omega
          case rel => exact ⟨j + 1, by first | exact congrArg (Value.int .i64) HWI.out | go_num, by rw [HS.out]; simp, by rw [HN.out]; simp, HJ1.out, hk2, Lib.hid (by repeat (first | exact HW.out | apply below_drew | apply pw_below_drewN))⟩
        | true =>
          go_wp2_with fail
          go_quiet (fail)
          go_wp2_with fail
          go_quiet (fail)
          go_wp2_with fail
          go_roundg ko
          case measure => omega
          case rel => exact ⟨j + 1, by first | exact congrArg (Value.int .i64) HWI.out | go_num, by rw [HS.out]; simp, by rw [HN.out]; simp, HJ1.out, hk2, Lib.hid (by repeat (first | exact HW.out | apply below_drew | apply pw_below_drewN))⟩
    · have c0 : decide ((j : Int) < (s.l.length : Int)) = false := decide_eq_false (by omega)
      have HJ := Lib.hid (show j = s.l.length by omega)
      go_wp2
      go_ret2
      exact ⟨by rw [HJ.out]; rfl, below_step HB.out HW.out⟩
end Go.Proofs.Ytakdfjehjnhikaa.Q
