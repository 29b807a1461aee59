import Derived.Test.YtakdfjehjnhikaaQt
namespace Go.Proofs.Ytakdfjehjnhikaa.Q
open Go.RowKit Go.Proofs.YtakdfjehjnhikaaW.PrintWords Go.Proofs.YtakdfjehjnhikaaW.PrintLast Go.Proofs.YtakdfjehjnhikaaW.PrintMore Go.Proofs.Ytakdfjehjnhikaa.G
set_option linter.unusedVariables false
set_option linter.unusedSimpArgs false

/-! the document's table -/
def RTabK (ok : Nat → Prop) (w : World) (r : Nat) (s : TS) : Prop :=
  ∃ A c, w.heap[r]? = some (.cells #[.int .i64 s.most, .int .i64 s.cap, .int .i64 s.first, .slice A s.l.length c] 46 (0, 0)) ∧ s.l.length ≤ c ∧ Kd.C k29 w A s.l.length s.l ∧ ∀ ad, A = some ad → ad.block ≠ r ∧ ad.block < w.heap.size ∧ ok ad.block
theorem RTabK.below {ok : Nat → Prop} {w w' : World} {r : Nat} {s : TS} (h : RTabK ok w r s) (hb : Below w.heap.size w w') : RTabK ok w' r s := by
  obtain ⟨A, c, hh, hl, hc, hne⟩ := h
  exact ⟨A, c, (hb.block r (blk_lt' hh)).trans hh, hl, Kd.C_below hc hb, fun ad e => ⟨(hne ad e).1, Nat.lt_of_lt_of_le (hne ad e).2.1 hb.size, (hne ad e).2.2⟩⟩
theorem RTabK.grown {ok : Nat → Prop} {W W1 : World} {r : Nat} {s : TS} {row : Option Nat} (h : RTabK ok W r s) (hg : W.grownBy W1 row) (hgr : some r ≠ row) (hok : ∀ k, ok k → some k ≠ row) : RTabK ok W1 r s := by
  obtain ⟨A, c, hh, hl, hC, hne⟩ := h
  exact ⟨A, c, (hg.block r (blk_lt' hh) hgr).trans hh, hl, C29_move hC (fun ad e hlt => hg.block _ hlt (hok _ (hne ad e).2.2)), fun ad e => ⟨(hne ad e).1, Nat.lt_of_lt_of_le (hne ad e).2.1 hg.size, (hne ad e).2.2⟩⟩

theorem rcount_calls {ok : Nat → Prop} (w : World) (r : Nat) (s : TS) (h : RTabK ok w r s) (hb : -4611686018427387904 ≤ s.first ∧ s.first + s.l.length ≤ 4611686018427387904) : Calls Try.prog 32 #[.pointer (some ⟨r, 0, none⟩)] w fun e w' => e = .returned (.int .i64 (s.first + s.l.length)) ∧ Drawn0 w w' := by
  have hw : wrap64 (s.first + s.l.length) = s.first + s.l.length := by unfold wrap64; omega
  have HW := Lib.hid hw
  obtain ⟨A, c, hh, -⟩ := h
  have h2 := cells_of hh 2
  have h3 := cells_of hh 3
  simp at h2 h3
  clear hh hw
  go_enter Try.func32, Try.ntmps32
  go_wp2
  go_region
  go_wp2
  go_ret
  exact ⟨by rw [← HW.out]; rfl, ⟨_, rfl⟩⟩

set_option maxHeartbeats 4000000 in
theorem rused_calls {ok : Nat → Prop} (w : World) (r : Nat) (s : TS) (h : RTabK ok w r s) (hb : rms s.l ≤ 4611686018427387904) (hl : s.l.length ≤ 140737488351232) : Calls Try.prog 31 #[.pointer (some ⟨r, 0, none⟩)] w fun e w' => e = .returned (.int .i64 (rms s.l)) ∧ Below w.heap.size w w' := by
  obtain ⟨A, c, hh, hlc, hC, -⟩ := h
  have HC := Lib.hid hC
  have HH := Lib.hid hh
  clear hh hC
  go_enter Try.func31, Try.ntmps31
  go_wp2
  go_loopg [3, 4] s.l.length (fun k v3 v4 W => ∃ (j : Nat), v3 = .int .i64 (rms (s.l.take j)) ∧ v4 = .int .i64 (j : Int) ∧ j ≤ s.l.length ∧ s.l.length ≤ k + j ∧ Hid (Below w.heap.size w W))
  case atStart => exact ⟨0, by simp [rms], by simp, Nat.zero_le _, by omega, Lib.hid (Below.refl _ _)⟩
  case round =>
    obtain ⟨j, rfl, rfl, hj, hk, HW⟩ := hrel
    have h3 := cells_of (blk_below HW.out HH.out) 3
    simp at h3
    have hrl := blk_lt' (blk_below HW.out HH.out)
    by_cases hlt : j < s.l.length
    · obtain ⟨ad, rfl, hz0, hz1⟩ := at_T29 (Kd.C_below HC.out HW.out) (j : Int) (by omega) (by omega)
      rw [show (j : Int).toNat = j from Int.toNat_natCast j] at hz0 hz1
      have hadl := World.block_lt_of_cell? wr _ hz0
      have hrt := rms_take_succ s.l j hlt
      have hrl1 := rms_take_le s.l (j + 1)
      have hr0 := rms_nonneg (s.l.take j)
      obtain ⟨x, hx⟩ : ∃ x, x = rd_T29 s.l (j : Int) := ⟨_, rfl⟩
      rw [← hx] at hz0 hz1 hrt
      have hrm := rm_lo x
      have hrmb : rm x ≤ 4611686018427387904 := by omega
      obtain ⟨ko, rfl⟩ : ∃ ko, gk = ko + 1 := ⟨gk - 1, by omega⟩
      have hk2 : s.l.length ≤ ko + (j + 1) := by omega
      have hj1 : j + 1 ≤ s.l.length := hlt
      have c1 : decide ((j : Int) < (s.l.length : Int)) = true := decide_eq_true (by omega)
      have p1 : 0 ≤ (j : Int) := by omega
      have p2 : (j : Int) < (s.l.length : Int) := by omega
      have HWA := Lib.hid (show wrap64 (rms (s.l.take j) + rm x) = rms (s.l.take (j + 1)) by rw [hrt]; unfold wrap64; omega)
      have HWB := Lib.hid (show wrap64 ((j : Int) + 1) = (j : Int) + 1 by clear hrt hrl1 hrm; unfold wrap64; omega)
      clear hrt hrl1 hr0 hx hlt
      go_wp2_with (first | (go_at_call 22; refine (rroom_calls x _ hrmb).mono ?_; rintro e w6 ⟨rfl, hb6⟩; have HB6 := Lib.hid (below_step HW.out hb6); clear hb6))
      go_roundg ko
      case measure => omega
      case rel => exact ⟨j + 1, congrArg (Value.int .i64) HWA.out, by first | exact congrArg (Value.int .i64) HWB.out | go_num, hj1, hk2, HB6⟩
    · have c0 : decide ((j : Int) < (s.l.length : Int)) = false := decide_eq_false (by omega)
      have hjl : rms (s.l.take j) = rms s.l := by rw [show j = s.l.length by omega, List.take_length]
      have HJ := Lib.hid hjl
      clear hjl
      go_wp2
      go_ret
      exact ⟨by rw [← HJ.out]; rfl, HW.out⟩
end Go.Proofs.Ytakdfjehjnhikaa.Q
