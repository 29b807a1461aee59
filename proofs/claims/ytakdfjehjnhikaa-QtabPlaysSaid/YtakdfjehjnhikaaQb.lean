import Derived.Test.YtakdfjehjnhikaaQa
import Derived.Outline
import Derived.Lib.SliceRun
import Derived.StillTailTactics
namespace Go.Proofs.Ytakdfjehjnhikaa.Q
open Go.RowKit Go.Proofs.YtakdfjehjnhikaaW.PrintWords Go.Proofs.YtakdfjehjnhikaaW.PrintLast Go.Proofs.YtakdfjehjnhikaaW.PrintMore Go.Proofs.Ytakdfjehjnhikaa.G
set_option linter.unusedVariables false
set_option linter.unusedSimpArgs false

/-- what a table has at a number -/
def TS.get (s : TS) (n : Int) : S29 × Int := if n < s.first ∨ s.first + s.l.length ≤ n then (z29, 11) else (rd_T29 s.l (n - s.first), 0)

theorem get_low (w : World) (g : Nat) (s : TS) (n : Int) (h : TabAt w g s) (hn : n < s.first) : Calls Try.prog 16 #[.pointer (some ⟨g, 0, none⟩), .int .i64 n] w fun e w' => e = .returned (.tuple #[.agg #[.string z29.f0, .string z29.f1], .int .i64 11]) ∧ Below w.heap.size w w' := by
  have Hok := Lib.hid (fun w' (hb : Below w.heap.size w w') => ok_made w' g s (TabK.below h hb))
  obtain ⟨A, c, hh, -⟩ := h
  have h0 := cells_of hh 4
  simp at h0
  have hgl := blk_lt' hh
  clear hh
  have hn' : decide (n < s.first) = true := decide_eq_true hn
  go_enter Try.func16, Try.ntmps16
  go_wp2_with (go_at_call 33; refine (Hok.out _ (by exact below_alloc (Below.refl _ _) _)).mono ?_; rintro e w' ⟨rfl, rfl⟩)
  exact bodyPost_ret (v := .tuple #[.agg #[.string z29.f0, .string z29.f1], .int .i64 11]) (by simp [results, Try.results16, go_sem, z29]) rfl ⟨rfl, by exact below_alloc (Below.refl _ _) _⟩

theorem get_in (w : World) (g : Nat) (s : TS) (n : Int) (h : TabAt w g s) (hf : 0 ≤ s.first) (hb : s.first + s.l.length ≤ 4611686018427387904) (hn : s.first ≤ n) (hn1 : n < s.first + s.l.length) : Calls Try.prog 16 #[.pointer (some ⟨g, 0, none⟩), .int .i64 n] w fun e w' => e = .returned (.tuple #[.agg #[.string (rd_T29 s.l (n - s.first)).f0, .string (rd_T29 s.l (n - s.first)).f1], .int .i64 0]) ∧ Below w.heap.size w w' := by
  have Hok := Lib.hid (fun w' (hb : Below w.heap.size w w') => ok_made w' g s (TabK.below h hb))
  have Hc := Lib.hid (fun w' (hb : Below w.heap.size w w') => count_made w' g s (TabK.below h hb))
  obtain ⟨A, c, hh, hl, hC, -⟩ := h
  have h4 := cells_of hh 4
  have h5 := cells_of hh 5
  simp at h4 h5
  have hgl := blk_lt' hh
  clear hh
  obtain ⟨ad, rfl, hx0, hx1⟩ := at_T29 hC (n - s.first) (by omega) (by omega)
  have hal := World.block_lt_of_cell? w _ hx0
  have hn' : decide (n < s.first) = false := decide_eq_false (by omega)
  have hw : wrap64 (s.first + s.l.length) = s.first + s.l.length := by unfold wrap64; omega
  rw [hw] at Hc
  have hg : decide (s.first + s.l.length ≤ n) = false := decide_eq_false (by omega)
  have hw2 : IntKind.i64.wrap (n - s.first) = n - s.first := by rw [IntKind.wrap_i64]; omega
  have p1 : 0 ≤ n - s.first := by omega
  have p2 : n - s.first < s.l.length := by omega
  clear hw
  go_enter Try.func16, Try.ntmps16
  go_wp2_with (first | (go_at_call 33; refine (Hok.out _ (by exact below_alloc (Below.refl _ _) _)).mono ?_; rintro e w' ⟨rfl, rfl⟩) | (go_at_call 15; refine (Hc.out _ (by exact below_alloc (Below.refl _ _) _)).mono ?_; rintro e w' ⟨rfl, ⟨⟨m, rfl⟩⟩⟩))
  go_region
  go_wp2
  exact bodyPost_ret (v := .tuple #[.agg #[.string (rd_T29 s.l (n - s.first)).f0, .string (rd_T29 s.l (n - s.first)).f1], .int .i64 0]) (by simp [results, Try.results16, go_sem]) rfl ⟨rfl, by repeat (first | exact Below.refl _ _ | apply below_drew | apply pw_below_drewN | apply below_alloc | (refine Below.setCell ?_ (by simp) _))⟩

theorem get_high (w : World) (g : Nat) (s : TS) (n : Int) (h : TabAt w g s) (hf : 0 ≤ s.first) (hb : s.first + s.l.length ≤ 4611686018427387904) (hn : s.first + s.l.length ≤ n) : Calls Try.prog 16 #[.pointer (some ⟨g, 0, none⟩), .int .i64 n] w fun e w' => e = .returned (.tuple #[.agg #[.string z29.f0, .string z29.f1], .int .i64 11]) ∧ Below w.heap.size w w' := by
  have Hok := Lib.hid (fun w' (hb : Below w.heap.size w w') => ok_made w' g s (TabK.below h hb))
  have Hc := Lib.hid (fun w' (hb : Below w.heap.size w w') => count_made w' g s (TabK.below h hb))
  obtain ⟨A, c, hh, -⟩ := h
  have h4 := cells_of hh 4
  simp at h4
  have hgl := blk_lt' hh
  clear hh
  have hn' : decide (n < s.first) = false := decide_eq_false (by omega)
  have hw : wrap64 (s.first + s.l.length) = s.first + s.l.length := by unfold wrap64; omega
  rw [hw] at Hc
  have hg : decide (s.first + s.l.length ≤ n) = true := decide_eq_true (by omega)
  clear hw
  go_enter Try.func16, Try.ntmps16
  go_wp2_with (first | (go_at_call 33; refine (Hok.out _ (by exact below_alloc (Below.refl _ _) _)).mono ?_; rintro e w' ⟨rfl, rfl⟩) | (go_at_call 15; refine (Hc.out _ (by exact below_alloc (Below.refl _ _) _)).mono ?_; rintro e w' ⟨rfl, ⟨⟨m, rfl⟩⟩⟩))
  exact bodyPost_ret (v := .tuple #[.agg #[.string z29.f0, .string z29.f1], .int .i64 11]) (by simp [results, Try.results16, go_sem, z29]) rfl ⟨rfl, by repeat (first | exact Below.refl _ _ | apply below_drew | apply pw_below_drewN | apply below_alloc | (refine Below.setCell ?_ (by simp) _))⟩

theorem get_made (w : World) (g : Nat) (s : TS) (n : Int) (h : TabAt w g s) (hf : 0 ≤ s.first) (hb : s.first + s.l.length ≤ 4611686018427387904) : Calls Try.prog 16 #[.pointer (some ⟨g, 0, none⟩), .int .i64 n] w fun e w' => e = .returned (.tuple #[.agg #[.string (s.get n).1.f0, .string (s.get n).1.f1], .int .i64 (s.get n).2]) ∧ Below w.heap.size w w' := by
  unfold TS.get
  by_cases h1 : n < s.first
  · rw [if_pos (.inl h1)]; exact get_low w g s n h h1
  · by_cases h2 : s.first + s.l.length ≤ n
    · rw [if_pos (.inr h2)]; exact get_high w g s n h hf hb h2
    · rw [if_neg (by omega)]; exact get_in w g s n h hf hb (by omega) (by omega)

theorem get_nil (w : World) (n : Int) : Calls Try.prog 16 #[.pointer none, .int .i64 n] w fun e w' => e = .returned (.tuple #[.agg #[.string z29.f0, .string z29.f1], .int .i64 2]) ∧ Below w.heap.size w w' := by
  have Hok := Lib.hid (fun w' => ok_nil w')
  go_enter Try.func16, Try.ntmps16
  go_wp2_with (first | (go_at_call 33; refine (Hok.out _).mono ?_; rintro e w' ⟨rfl, rfl⟩))
  exact bodyPost_ret (v := .tuple #[.agg #[.string z29.f0, .string z29.f1], .int .i64 2]) (by simp [results, Try.results16, go_sem, z29]) rfl ⟨rfl, by repeat (first | exact Below.refl _ _ | apply below_drew | apply pw_below_drewN | apply below_alloc | (refine Below.setCell ?_ (by simp) _))⟩

/-! New -/
theorem new_no (w : World) (n : Int) (h : n < 0 ∨ 4096 < n) : Calls Try.prog 9 #[.int .i64 n] w fun e w' => e = .returned (.tuple #[.pointer none, .int .i64 1]) ∧ w' = w := by
  by_cases h1 : n < 0
  · have h1' : decide (n < 0) = true := decide_eq_true h1
    go_enter Try.func9, Try.ntmps9
    go_wp2
    go_ret2
    exact ⟨rfl, rfl⟩
  · have h1' : decide (n < 0) = false := decide_eq_false h1
    have h2 : decide (4096 < n) = true := decide_eq_true (by omega)
    go_enter Try.func9, Try.ntmps9
    go_wp2
    go_ret2
    exact ⟨rfl, rfl⟩

theorem new_yes (w : World) (n : Int) (h0 : 0 ≤ n) (h1 : n ≤ 4096) : Calls Try.prog 9 #[.int .i64 n] w fun e w' => e = .returned (.tuple #[.pointer (some ⟨w.heap.size, 0, none⟩), .int .i64 0]) ∧ TabAt w' w.heap.size ⟨n, 0, 0, 0, []⟩ ∧ Below w.heap.size w w' := by
  have h1' : decide (n < 0) = false := decide_eq_false (by omega)
  have h2 : decide (4096 < n) = false := decide_eq_false (by omega)
  go_enter Try.func9, Try.ntmps9
  go_wp2
  go_ret2
  refine ⟨rfl, ⟨none, 0, ?_, Nat.le_refl _, ?_, fun ad e => by cases e⟩, by repeat (first | exact Below.refl _ _ | apply below_alloc)⟩
  · exact heap_alloc_new w _
  · exact ⟨rfl, by simp, fun h => absurd h (by simp)⟩

/-! Clone -/
theorem info29 : (Try.prog.info? 29).map (fun i => (i.zero, i.size, i.bytes)) = some (some (.agg #[.string ⟨#[]⟩, .string ⟨#[]⟩]), 2, 32) := by kernel_rfl

theorem k29_KM (w : World) (base : Nat) (ok : Nat → Prop) (x : S29) (cs : List Value) (h : k29.K w x cs) : k29.M w base ok x cs := by
  obtain rfl := k29_open h
  exact k29_mkM w base ok x

theorem clone_none (w : World) (c : Nat) (l : List S29) (hC : Kd.C k29 w none l.length l) : Calls Try.prog 43 #[.slice none l.length c] w fun e w' => ∃ v, e = .returned v ∧ Kd.R k29 29 w' w.heap.size (fun _ => True) v l ∧ Below w.heap.size w w' := by
  have hl : l = [] := by
    rcases l with _ | ⟨x, l⟩
    · rfl
    · obtain ⟨ad, e, -⟩ := hC.2.2 (by simp)
      cases e
  subst hl
  have hn := fun w n c n' c' => Lib.run_eql_slice_nil (P := Try.prog) w 39 _ none n c n' c' Try.underlying39
  go_enter Try.func43, Try.ntmps43
  go_wp2
  go_ret
  exact ⟨_, rfl, Kd.R_nil _ _ _ _ _, Below.refl _ _⟩

theorem clone_some (w : World) (ad : Addr) (c : Nat) (l : List S29) (hC : Kd.C k29 w (some ad) l.length l) (hlen : l.length * 32 ≤ 140737488355328) : Calls Try.prog 43 #[.slice (some ad) l.length c] w fun e w' => ∃ v, e = .returned v ∧ Kd.R k29 29 w' w.heap.size (fun _ => True) v l ∧ Below w.heap.size w w' := by
  have HC := Lib.hid hC
  clear hC
  have hn := fun w n c n' c' => Lib.run_eql_slice_nil (P := Try.prog) w 39 _ (some ad) n c n' c' Try.underlying39
  go_enter Try.func43, Try.ntmps43
  go_wp2_with (first | (at_builtin; refine Kd.R_append_rows k29 (Rr := k29.K w) (w0 := w) w.heap.size rfl (.tmp 5) (.tmp 6) 39 29 (.agg #[.string ⟨#[]⟩, .string ⟨#[]⟩]) 32 rfl Try.underlying39 info29 rfl (by decide) (by decide) _ [] l (some ad) l.length c (fun _ => True) (fun _ => False) rfl rfl ?c1 ?c2 ?c3 ?c4 ?c5 ?c6 ?c7 ?c8 ?_))
  case c1 => exact ⟨fun _ _ => trivial, OwnRow.lit w w.heap.size (inner := []) (Reps.none _ _) (Nat.le_refl _) (by simp)⟩
  case c2 => exact ReadsRow.imp_ HC.out (below_alloc (Below.refl _ _) _) (fun _ _ h => h)
  case c3 => exact fun x cs h => k29_KM _ _ _ x cs h
  case c4 => exact fun _ h => h.elim
  case c5 => exact fun _ _ => trivial
  case c6 => exact below_alloc (Below.refl _ _) _
  case c7 => simp
  case c8 => simpa using hlen
  intro v1 w1 hR hB hg _
  clear hg
  go_wp2
  go_ret
  exact ⟨_, rfl, hR, hB⟩
end Go.Proofs.Ytakdfjehjnhikaa.Q
