import Derived.Test.YtakdfjehjnhikaaQv
namespace Go.Proofs.Ytakdfjehjnhikaa.Q
open Go.RowKit Go.Proofs.YtakdfjehjnhikaaW.PrintWords Go.Proofs.YtakdfjehjnhikaaW.PrintLast Go.Proofs.YtakdfjehjnhikaaW.PrintMore Go.Proofs.Ytakdfjehjnhikaa.G
set_option linter.unusedVariables false
set_option linter.unusedSimpArgs false

theorem rget_low {ok : Nat → Prop} (w : World) (g : Nat) (s : TS) (n : Int) (h : RTabK ok w g s) (hn : n < s.first) : Calls Try.prog 29 #[.pointer (some ⟨g, 0, none⟩), .int .i64 n] w fun e w' => e = .returned (.tuple #[.agg #[.string z29.f0, .string z29.f1], .int .i64 11]) ∧ Below w.heap.size w w' := by
  obtain ⟨A, c, hh, -⟩ := h
  have h2 := cells_of hh 2
  simp at h2
  have hgl := blk_lt' hh
  clear hh
  have hn' : decide (n < s.first) = true := decide_eq_true hn
  go_enter Try.func29, Try.ntmps29
  go_wp2
  exact bodyPost_ret (v := .tuple #[.agg #[.string z29.f0, .string z29.f1], .int .i64 11]) (by simp [results, Try.results29, go_sem, z29]) rfl ⟨rfl, by repeat (first | exact Below.refl _ _ | apply below_drew | apply pw_below_drewN | apply below_alloc | (refine Below.setCell ?_ (by simp) _))⟩
theorem rget_high {ok : Nat → Prop} (w : World) (g : Nat) (s : TS) (n : Int) (h : RTabK ok w g s) (hf : 0 ≤ s.first) (hb : s.first + s.l.length ≤ 4611686018427387904) (hn : s.first + s.l.length ≤ n) : Calls Try.prog 29 #[.pointer (some ⟨g, 0, none⟩), .int .i64 n] w fun e w' => e = .returned (.tuple #[.agg #[.string z29.f0, .string z29.f1], .int .i64 11]) ∧ Below w.heap.size w w' := by
  have Hc := Lib.hid (fun w' (hb' : Below w.heap.size w w') => rcount_calls w' g s (h.below hb') (by omega))
  obtain ⟨A, c, hh, -⟩ := h
  have h2 := cells_of hh 2
  simp at h2
  have hgl := blk_lt' hh
  clear hh
  have hn' : decide (n < s.first) = false := decide_eq_false (by omega)
  have hg : decide (s.first + s.l.length ≤ n) = true := decide_eq_true hn
  go_enter Try.func29, Try.ntmps29
  go_wp2_with (first | (go_at_call 32; refine (Hc.out _ (by exact below_alloc (Below.refl _ _) _)).mono ?_; rintro e w' ⟨rfl, ⟨⟨m, rfl⟩⟩⟩))
  exact bodyPost_ret (v := .tuple #[.agg #[.string z29.f0, .string z29.f1], .int .i64 11]) (by simp [results, Try.results29, go_sem, z29]) rfl ⟨rfl, by repeat (first | exact Below.refl _ _ | apply below_drew | apply pw_below_drewN | apply below_alloc | (refine Below.setCell ?_ (by simp) _))⟩
theorem rget_in {ok : Nat → Prop} (w : World) (g : Nat) (s : TS) (n : Int) (h : RTabK ok w g s) (hf : 0 ≤ s.first) (hb : s.first + s.l.length ≤ 4611686018427387904) (hn : s.first ≤ n) (hn1 : n < s.first + s.l.length) : Calls Try.prog 29 #[.pointer (some ⟨g, 0, none⟩), .int .i64 n] w fun e w' => e = .returned (.tuple #[.agg #[.string (rd_T29 s.l (n - s.first)).f0, .string (rd_T29 s.l (n - s.first)).f1], .int .i64 0]) ∧ Below w.heap.size w w' := by
  have Hc := Lib.hid (fun w' (hb' : Below w.heap.size w w') => rcount_calls w' g s (h.below hb') (by omega))
  obtain ⟨A, c, hh, hl, hC, -⟩ := h
  have h2 := cells_of hh 2
  have h3 := cells_of hh 3
  simp at h2 h3
  have hgl := blk_lt' hh
  clear hh
  obtain ⟨ad, rfl, hx0, hx1⟩ := at_T29 hC (n - s.first) (by omega) (by omega)
  have hal := World.block_lt_of_cell? w _ hx0
  have hn' : decide (n < s.first) = false := decide_eq_false (by omega)
  have hg : decide (s.first + s.l.length ≤ n) = false := decide_eq_false (by omega)
  have hw2 : IntKind.i64.wrap (n - s.first) = n - s.first := by rw [IntKind.wrap_i64]; omega
  have p1 : 0 ≤ n - s.first := by omega
  have p2 : n - s.first < s.l.length := by omega
  go_enter Try.func29, Try.ntmps29
  go_wp2_with (first | (go_at_call 32; refine (Hc.out _ (by exact below_alloc (Below.refl _ _) _)).mono ?_; rintro e w' ⟨rfl, ⟨⟨m, rfl⟩⟩⟩))
  go_region
  go_wp2
  exact bodyPost_ret (v := .tuple #[.agg #[.string (rd_T29 s.l (n - s.first)).f0, .string (rd_T29 s.l (n - s.first)).f1], .int .i64 0]) (by simp [results, Try.results29, go_sem]) rfl ⟨rfl, by repeat (first | exact Below.refl _ _ | apply below_drew | apply pw_below_drewN | apply below_alloc | (refine Below.setCell ?_ (by simp) _))⟩
theorem rget_any {ok : Nat → Prop} (w : World) (g : Nat) (s : TS) (n : Int) (h : RTabK ok w g s) (hf : 0 ≤ s.first) (hb : s.first + s.l.length ≤ 4611686018427387904) : Calls Try.prog 29 #[.pointer (some ⟨g, 0, none⟩), .int .i64 n] w fun e w' => e = .returned (.tuple #[.agg #[.string (s.get n).1.f0, .string (s.get n).1.f1], .int .i64 (s.get n).2]) ∧ Below w.heap.size w w' := by
  unfold TS.get
  by_cases h1 : n < s.first
  · rw [if_pos (.inl h1)]; exact rget_low w g s n h h1
  · by_cases h2 : s.first + s.l.length ≤ n
    · rw [if_pos (.inr h2)]; exact rget_high w g s n h hf hb h2
    · rw [if_neg (by omega)]; exact rget_in w g s n h hf hb (by omega) (by omega)

theorem rnew_no (w : World) (n : Int) (h : n < 0 ∨ 4096 < n) : Calls Try.prog 24 #[.int .i64 n] w fun e w' => e = .returned (.tuple #[.agg #[.int .i64 0, .int .i64 0, .int .i64 0, .slice none 0 0], .int .i64 1]) ∧ Below w.heap.size w w' := by
  by_cases h1 : n < 0
  · have h1' : decide (n < 0) = true := decide_eq_true h1
    clear h
    go_enter Try.func24, Try.ntmps24
    go_wp2
    exact bodyPost_ret (v := .tuple #[.agg #[.int .i64 0, .int .i64 0, .int .i64 0, .slice none 0 0], .int .i64 1]) (by simp [results, Try.results24, go_sem]) rfl ⟨rfl, by repeat (first | exact Below.refl _ _ | apply below_drew | apply pw_below_drewN | apply below_alloc | (refine Below.setCell ?_ (by simp) _))⟩
  · have h1' : decide (n < 0) = false := decide_eq_false h1
    have h2' : decide (4096 < n) = true := decide_eq_true (by omega)
    clear h
    go_enter Try.func24, Try.ntmps24
    go_wp2
    exact bodyPost_ret (v := .tuple #[.agg #[.int .i64 0, .int .i64 0, .int .i64 0, .slice none 0 0], .int .i64 1]) (by simp [results, Try.results24, go_sem]) rfl ⟨rfl, by repeat (first | exact Below.refl _ _ | apply below_drew | apply pw_below_drewN | apply below_alloc | (refine Below.setCell ?_ (by simp) _))⟩
theorem rnew_yes (w : World) (n : Int) (h0 : 0 ≤ n) (h1 : n ≤ 4096) : Calls Try.prog 24 #[.int .i64 n] w fun e w' => e = .returned (.tuple #[.agg #[.int .i64 n, .int .i64 0, .int .i64 0, .slice none 0 0], .int .i64 0]) ∧ Below w.heap.size w w' := by
  have h1' : decide (n < 0) = false := decide_eq_false (by omega)
  have h2' : decide (4096 < n) = false := decide_eq_false (by omega)
  go_enter Try.func24, Try.ntmps24
  go_wp2
  exact bodyPost_ret (v := .tuple #[.agg #[.int .i64 n, .int .i64 0, .int .i64 0, .slice none 0 0], .int .i64 0]) (by simp [results, Try.results24, go_sem]) rfl ⟨rfl, by repeat (first | exact Below.refl _ _ | apply below_drew | apply pw_below_drewN | apply below_alloc | (refine Below.setCell ?_ (by simp) _))⟩
end Go.Proofs.Ytakdfjehjnhikaa.Q
