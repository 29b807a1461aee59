import Derived.Test.YtakdfjehjnhikaaQc
namespace Go.Proofs.Ytakdfjehjnhikaa.Q
open Go.RowKit Go.Proofs.YtakdfjehjnhikaaW.PrintWords Go.Proofs.YtakdfjehjnhikaaW.PrintLast Go.Proofs.YtakdfjehjnhikaaW.PrintMore Go.Proofs.Ytakdfjehjnhikaa.G
set_option linter.unusedVariables false
set_option linter.unusedSimpArgs false

/-- what holds of a table between calls -/
structure TS.Ok (s : TS) : Prop where
  used : s.used = rms s.l
  fits : s.used ≤ s.cap
  cap0 : 0 ≤ s.cap
  cap1 : s.cap ≤ s.most
  most : s.most ≤ 4096
  first : 0 ≤ s.first
  count : s.first + s.l.length ≤ 4611686018427387000

/-- fields go, until at most 'm' bytes are used -/
def TS.cut (s : TS) (m : Int) : TS := { s with used := rms (shr m s.first s.l).2, first := (shr m s.first s.l).1, l := (shr m s.first s.l).2 }
def TS.setCap (s : TS) (n : Int) : TS := TS.cut { s with cap := n } n

theorem setcap_nil (w : World) (n : Int) : Calls Try.prog 27 #[.pointer none, .int .i64 n] w fun e w' => e = .returned (.int .i64 2) ∧ w' = w := by
  have Hok := Lib.hid (fun w' => ok_nil w')
  go_enter Try.func27, Try.ntmps27
  go_wp2_with (first | (go_at_call 33; refine (Hok.out _).mono ?_; rintro e w' ⟨rfl, rfl⟩))
  go_ret
  exact ⟨rfl, rfl⟩

theorem setcap_no (w : World) (g : Nat) (s : TS) (n : Int) (h : TabAt w g s) (hn : n < 0 ∨ s.most < n) : Calls Try.prog 27 #[.pointer (some ⟨g, 0, none⟩), .int .i64 n] w fun e w' => e = .returned (.int .i64 1) ∧ w' = w := by
  have Hok := Lib.hid (ok_made w g s h)
  obtain ⟨A, c, hh, -⟩ := h
  have h1 := cells_of hh 1
  simp at h1
  clear hh
  by_cases h2 : n < 0
  · have h2' : decide (n < 0) = true := decide_eq_true h2
    go_enter Try.func27, Try.ntmps27
    go_wp2_with (first | (go_at_call 33; refine (Hok.out).mono ?_; rintro e w' ⟨rfl, rfl⟩))
    go_ret
    exact ⟨rfl, rfl⟩
  · have h2' : decide (n < 0) = false := decide_eq_false h2
    have h3' : decide (s.most < n) = true := decide_eq_true (by omega)
    go_enter Try.func27, Try.ntmps27
    go_wp2_with (first | (go_at_call 33; refine (Hok.out).mono ?_; rintro e w' ⟨rfl, rfl⟩))
    go_ret
    exact ⟨rfl, rfl⟩

theorem setcap_yes {ok : Nat → Prop} (w : World) (g : Nat) (s : TS) (n : Int) (h : TabK ok w g s) (hs : s.Ok) (h0 : 0 ≤ n) (h1 : n ≤ s.most) : Calls Try.prog 27 #[.pointer (some ⟨g, 0, none⟩), .int .i64 n] w fun e w' => e = .returned (.int .i64 0) ∧ TabK ok w' g (s.setCap n) ∧ w.grownBy w' (some g) := by
  have Hok := Lib.hid (ok_made w g s h.at)
  have Hs := Lib.hid (shrink_calls (w.setCell ⟨g, 2, none⟩ (.int .i64 n)) g { s with cap := n } 0 (h.set_cap n) hs.used (by have := hs.fits; have := hs.cap1; have := hs.most; show s.used ≤ 1000000; omega) (by simp only []; omega) (by have := hs.most; simp only []; omega) (by omega) hs.first (by have := hs.count; simp only []; omega))
  obtain ⟨A, c, hh, -⟩ := h
  have h3 := cells_of hh 1
  have h4 := cells_of hh 2
  have hz2 := blk_frozen hh 2
  simp at h3 h4
  clear hh hs
  have h2' : decide (n < 0) = false := decide_eq_false (by omega)
  have h3' : decide (s.most < n) = false := decide_eq_false (by omega)
  go_enter Try.func27, Try.ntmps27
  go_wp2_with (first | (go_at_call 33; refine (Hok.out).mono ?_; rintro e w' ⟨rfl, rfl⟩) | (go_at_call 42; refine (Hs.out).mono ?_; rintro e w' ⟨rfl, hT, hg⟩))
  go_ret
  refine ⟨rfl, ?_, World.grownBy.trans (grownBy_set _ _ _ _) hg⟩
  have e : (n - 0 : Int) = n := by omega
  simp only [e] at hT
  exact hT

theorem rms_nonneg (l : List S29) : 0 ≤ rms l := by have := rms_lo l; omega

theorem cut_ok (s : TS) (m : Int) (hm : 0 ≤ m) (hs : s.Ok) (hc : m ≤ s.cap) : (s.cut m).Ok := by
  obtain ⟨h1, h2, h3, d, h4, h5⟩ := shr_spec m hm s.l s.first
  refine ⟨rfl, by show rms _ ≤ s.cap; omega, hs.cap0, hs.cap1, hs.most, ?_, ?_⟩
  · have := hs.first; show 0 ≤ (shr m s.first s.l).1; omega
  · have := hs.count; show (shr m s.first s.l).1 + _ ≤ _; unfold TS.cut; simp only []; omega

theorem setCap_ok (s : TS) (n : Int) (h0 : 0 ≤ n) (h1 : n ≤ s.most) (hs : s.Ok) : (s.setCap n).Ok := by
  obtain ⟨g1, g2, g3, d, h4, h5⟩ := shr_spec n h0 s.l s.first
  refine ⟨rfl, g1, h0, h1, hs.most, ?_, ?_⟩
  · have := hs.first; show 0 ≤ (shr n s.first s.l).1; omega
  · have := hs.count; unfold TS.setCap TS.cut; simp only []; omega

/-! Insert -/
def small (x : S29) : Prop := x.f0.size ≤ 64 ∧ x.f1.size ≤ 512
def TS.insert (s : TS) (x : S29) : TS := { s.cut (s.cap - rm x) with used := (s.cut (s.cap - rm x)).used + rm x, l := (s.cut (s.cap - rm x)).l ++ [x] }

theorem insert_nil (w : World) (x : S29) : Calls Try.prog 25 #[.pointer none, .agg #[.string x.f0, .string x.f1]] w fun e w' => e = .returned (.tuple #[.int .i64 0, .int .i64 2]) ∧ Below w.heap.size w w' := by
  have Hok := Lib.hid (fun w' => ok_nil w')
  go_enter Try.func25, Try.ntmps25
  go_wp2_with (first | (go_at_call 33; refine (Hok.out _).mono ?_; rintro e w' ⟨rfl, rfl⟩))
  go_ret2
  exact ⟨rfl, by repeat (first | exact Below.refl _ _ | apply below_alloc)⟩

theorem insert_big (w : World) (g : Nat) (s : TS) (x : S29) (h : TabAt w g s) (hx : ¬ small x) : Calls Try.prog 25 #[.pointer (some ⟨g, 0, none⟩), .agg #[.string x.f0, .string x.f1]] w fun e w' => e = .returned (.tuple #[.int .i64 0, .int .i64 13]) ∧ Below w.heap.size w w' := by
  have Hok := Lib.hid (ok_made (w.alloc (.cells #[.string x.f0, .string x.f1] 29)) g s (h.below (below_alloc (Below.refl _ _) _)))
  by_cases h2 : 64 < x.f0.size
  · have h2' : decide ((64 : Int) < (x.f0.size : Int)) = true := decide_eq_true (by omega)
    go_enter Try.func25, Try.ntmps25
    go_wp2_with (first | (go_at_call 33; refine (Hok.out).mono ?_; rintro e w' ⟨rfl, rfl⟩))
    go_ret2
    exact ⟨rfl, by repeat (first | exact Below.refl _ _ | apply below_alloc)⟩
  · have h2' : decide ((64 : Int) < (x.f0.size : Int)) = false := decide_eq_false (by omega)
    have h3' : decide ((512 : Int) < (x.f1.size : Int)) = true := decide_eq_true (by unfold small at hx; omega)
    go_enter Try.func25, Try.ntmps25
    go_wp2_with (first | (go_at_call 33; refine (Hok.out).mono ?_; rintro e w' ⟨rfl, rfl⟩))
    go_ret2
    exact ⟨rfl, by repeat (first | exact Below.refl _ _ | apply below_alloc)⟩
end Go.Proofs.Ytakdfjehjnhikaa.Q
