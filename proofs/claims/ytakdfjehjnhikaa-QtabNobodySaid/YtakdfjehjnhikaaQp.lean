import Derived.Test.YtakdfjehjnhikaaQn
namespace Go.Proofs.Ytakdfjehjnhikaa.Q
open Go.RowKit Go.Proofs.YtakdfjehjnhikaaW.PrintWords Go.Proofs.YtakdfjehjnhikaaW.PrintLast Go.Proofs.YtakdfjehjnhikaaW.PrintMore Go.Proofs.Ytakdfjehjnhikaa.G
set_option linter.unusedVariables false
set_option linter.unusedSimpArgs false

/-! a table that nobody made -/
def NoTab (w : World) (p : Option Addr) : Prop := p = none ∨ ∃ g, p = some ⟨g, 0, none⟩ ∧ w.cell? ⟨g, 0, none⟩ = some (.bool false) ∧ g < w.heap.size
theorem NoTab.below {w w' : World} {p : Option Addr} (h : NoTab w p) (hb : Below w.heap.size w w') : NoTab w' p := by
  rcases h with rfl | ⟨g, rfl, h1, h2⟩
  · exact .inl rfl
  · exact .inr ⟨g, rfl, pw_cell_below hb h1, Nat.lt_of_lt_of_le h2 hb.size⟩
theorem ok_no (w : World) (p : Option Addr) (h : NoTab w p) : Calls Try.prog 33 #[.pointer p] w fun e w' => e = .returned (.bool false) ∧ w' = w := by
  rcases h with rfl | ⟨g, rfl, h1, h2⟩
  · exact ok_nil w
  · go_enter Try.func33, Try.ntmps33
    go_wp2
    go_ret
    exact ⟨rfl, rfl⟩
theorem cap_no (w : World) (p : Option Addr) (h : NoTab w p) : Calls Try.prog 12 #[.pointer p] w fun e w' => e = .returned (.int .i64 0) ∧ w' = w := by
  have Hok := Lib.hid (ok_no w p h)
  clear h
  go_enter Try.func12, Try.ntmps12
  go_wp2_with (go_at_call 33; refine Hok.out.mono ?_; rintro e w' ⟨rfl, rfl⟩)
  go_ret
  exact ⟨rfl, rfl⟩
theorem used_no (w : World) (p : Option Addr) (h : NoTab w p) : Calls Try.prog 13 #[.pointer p] w fun e w' => e = .returned (.int .i64 0) ∧ w' = w := by
  have Hok := Lib.hid (ok_no w p h)
  clear h
  go_enter Try.func13, Try.ntmps13
  go_wp2_with (go_at_call 33; refine Hok.out.mono ?_; rintro e w' ⟨rfl, rfl⟩)
  go_ret
  exact ⟨rfl, rfl⟩
theorem first_no (w : World) (p : Option Addr) (h : NoTab w p) : Calls Try.prog 14 #[.pointer p] w fun e w' => e = .returned (.int .i64 0) ∧ w' = w := by
  have Hok := Lib.hid (ok_no w p h)
  clear h
  go_enter Try.func14, Try.ntmps14
  go_wp2_with (go_at_call 33; refine Hok.out.mono ?_; rintro e w' ⟨rfl, rfl⟩)
  go_ret
  exact ⟨rfl, rfl⟩
theorem count_no (w : World) (p : Option Addr) (h : NoTab w p) : Calls Try.prog 15 #[.pointer p] w fun e w' => e = .returned (.int .i64 0) ∧ w' = w := by
  have Hok := Lib.hid (ok_no w p h)
  clear h
  go_enter Try.func15, Try.ntmps15
  go_wp2_with (go_at_call 33; refine Hok.out.mono ?_; rintro e w' ⟨rfl, rfl⟩)
  go_ret
  exact ⟨rfl, rfl⟩
theorem setcap_un (w : World) (p : Option Addr) (n : Int) (h : NoTab w p) : Calls Try.prog 27 #[.pointer p, .int .i64 n] w fun e w' => e = .returned (.int .i64 2) ∧ w' = w := by
  have Hok := Lib.hid (ok_no w p h)
  clear h
  go_enter Try.func27, Try.ntmps27
  go_wp2_with (first | (go_at_call 33; refine Hok.out.mono ?_; rintro e w' ⟨rfl, rfl⟩))
  go_ret
  exact ⟨rfl, rfl⟩
theorem insert_un (w : World) (p : Option Addr) (x : S29) (h : NoTab w p) : Calls Try.prog 25 #[.pointer p, .agg #[.string x.f0, .string x.f1]] w fun e w' => e = .returned (.tuple #[.int .i64 0, .int .i64 2]) ∧ Below w.heap.size w w' := by
  have Hok := Lib.hid (ok_no (w.alloc (.cells #[.string x.f0, .string x.f1] 29)) p (h.below (below_alloc (Below.refl _ _) _)))
  clear h
  go_enter Try.func25, Try.ntmps25
  go_wp2_with (first | (go_at_call 33; refine Hok.out.mono ?_; rintro e w' ⟨rfl, rfl⟩))
  go_ret2
  exact ⟨rfl, by repeat (first | exact Below.refl _ _ | apply below_alloc)⟩
theorem get_un (w : World) (p : Option Addr) (n : Int) (h : NoTab w p) : Calls Try.prog 16 #[.pointer p, .int .i64 n] w fun e w' => e = .returned (.tuple #[.agg #[.string z29.f0, .string z29.f1], .int .i64 2]) ∧ Below w.heap.size w w' := by
  have Hok := Lib.hid (fun w' (hb : Below w.heap.size w w') => ok_no w' p (h.below hb))
  clear h
  go_enter Try.func16, Try.ntmps16
  go_wp2_with (first | (go_at_call 33; refine (Hok.out _ (by exact below_alloc (Below.refl _ _) _)).mono ?_; rintro e w' ⟨rfl, rfl⟩))
  exact bodyPost_ret (v := .tuple #[.agg #[.string z29.f0, .string z29.f1], .int .i64 2]) (by simp [results, Try.results16, go_sem, z29]) rfl ⟨rfl, by repeat (first | exact Below.refl _ _ | apply below_drew | apply pw_below_drewN | apply below_alloc | (refine Below.setCell ?_ (by simp) _))⟩
theorem find_un (w : World) (p : Option Addr) (x : S29) (h : NoTab w p) : Calls Try.prog 23 #[.pointer p, .agg #[.string x.f0, .string x.f1]] w fun e w' => e = .returned (.tuple #[.int .i64 (-1), .int .i64 (-1)]) ∧ Below w.heap.size w w' :=
  find_no w p x (fun W hb => ok_no W p (h.below hb))

attribute [local go_sem high] eqA29
set_option maxHeartbeats 4000000 in
set_option maxRecDepth 100000 in
theorem nobody_calls (w : World) (x : S31) (hk0 : 0 ≤ x.f0) (hk1 : x.f0 ≤ 255) : Calls Try.prog 8 #[.agg #[.int .u8 x.f0, .int .i64 x.f1, .string x.f2.f0, .string x.f2.f1]] w fun e w' => e = .returned (.bool true) ∧ Below w.heap.size w w' := by
  go_enter Try.func8, Try.ntmps8
  go_wp2
  have bA := World.alloc_heap_new w (.cells #[.int .u8 x.f0, .int .i64 x.f1, .string x.f2.f0, .string x.f2.f1] 31)
  have bB := World.alloc_heap_new (w.alloc (.cells #[.int .u8 x.f0, .int .i64 x.f1, .string x.f2.f0, .string x.f2.f1] 31)) (.cells #[.bool false, .int .i64 0, .int .i64 0, .int .i64 0, .int .i64 0, .slice none 0 0] 54)
  have bC := World.alloc_heap_new ((w.alloc (.cells #[.int .u8 x.f0, .int .i64 x.f1, .string x.f2.f0, .string x.f2.f1] 31)).alloc (.cells #[.bool false, .int .i64 0, .int .i64 0, .int .i64 0, .int .i64 0, .slice none 0 0] 54)) (.cells #[.pointer none, .pointer (some ⟨w.heap.size + 1, 0, none⟩)] 23)
  have bA := blk_below (below_alloc (Below.refl _ _) (.cells #[.pointer none, .pointer (some ⟨w.heap.size + 1, 0, none⟩)] 23)) (blk_below (below_alloc (Below.refl _ _) (.cells #[.bool false, .int .i64 0, .int .i64 0, .int .i64 0, .int .i64 0, .slice none 0 0] 54)) bA)
  have bB := blk_below (below_alloc (Below.refl _ _) (.cells #[.pointer none, .pointer (some ⟨w.heap.size + 1, 0, none⟩)] 23)) bB
  have hBW : Below w.heap.size w (((w.alloc (.cells #[.int .u8 x.f0, .int .i64 x.f1, .string x.f2.f0, .string x.f2.f1] 31)).alloc (.cells #[.bool false, .int .i64 0, .int .i64 0, .int .i64 0, .int .i64 0, .slice none 0 0] 54)).alloc (.cells #[.pointer none, .pointer (some ⟨w.heap.size + 1, 0, none⟩)] 23)) := below_alloc (below_alloc (below_alloc (Below.refl _ _) _) _) _
  rw [World.size_alloc] at bB bC
  rw [World.size_alloc] at bC
  generalize (((w.alloc (.cells #[.int .u8 x.f0, .int .i64 x.f1, .string x.f2.f0, .string x.f2.f1] 31)).alloc (.cells #[.bool false, .int .i64 0, .int .i64 0, .int .i64 0, .int .i64 0, .slice none 0 0] 54)).alloc (.cells #[.pointer none, .pointer (some ⟨w.heap.size + 1, 0, none⟩)] 23)) = W0 at bA bB bC hBW ⊢
  have BA := Lib.hid bA
  have BB := Lib.hid bB
  have BC := Lib.hid bC
  have HBW := Lib.hid hBW
  clear bA bB bC hBW
  go_loopg [15] 2 (fun k v15 W => ∃ (i : Nat), v15 = .int .i64 i ∧ i ≤ 2 ∧ 2 ≤ k + i ∧ Hid (Below W0.heap.size W0 W))
  case atStart => exact ⟨0, rfl, by omega, by omega, Lib.hid (Below.refl _ _)⟩
  case round =>
    obtain ⟨i, rfl, hi, hk, HB⟩ := hrel
    have a1 := cells_of (blk_below HB.out BA.out) 1
    have a2 := cells_of (blk_below HB.out BA.out) 2
    have a3 := cells_of (blk_below HB.out BA.out) 3
    have d0 := cells_of (blk_below HB.out BC.out) 0
    have d1 := cells_of (blk_below HB.out BC.out) 1
    simp only [List.getElem?_toArray, List.getElem?_cons_succ, List.getElem?_cons_zero] at a1 a2 a3 d0 d1
    have ha := blk_lt' (blk_below HB.out BA.out)
    have hc := blk_lt' (blk_below HB.out BC.out)
    have A1 := Lib.hid a1
    have A2 := Lib.hid a2
    have A3 := Lib.hid a3
    have hno1 : NoTab wr (some ⟨w.heap.size + 1, 0, none⟩) := .inr ⟨_, rfl, cells_of (blk_below HB.out BB.out) 0, blk_lt' (blk_below HB.out BB.out)⟩
    have HN1 := Lib.hid hno1
    have HN0 : Hid (NoTab wr none) := Lib.hid (.inl rfl)
    clear hno1
    rcases (show i = 0 ∨ i = 1 ∨ i = 2 by omega) with rfl | rfl | rfl
    · obtain ⟨ko, rfl⟩ : ∃ ko, gk = ko + 1 := ⟨gk - 1, by omega⟩
      have hk2 : 2 ≤ ko + 1 := by omega
      have Hget : Hid (∀ W, NoTab W none → Calls Try.prog 16 #[.pointer none, .int .i64 x.f1] W fun e w' => e = .returned (.tuple #[.agg #[.string ⟨#[]⟩, .string ⟨#[]⟩], .int .i64 2]) ∧ Below W.heap.size W w') := Lib.hid (fun W hW => get_un W none x.f1 hW)
      clear hi hk
      go_wp2_with (first
        | (go_at_call 25; refine (insert_un _ none x.f2 HN0.out).mono ?_; rintro e w3 ⟨rfl, hb3⟩; have HB3 := Lib.hid hb3; have y1 := pw_cell_below hb3 A1.out; have NN3 := Lib.hid (HN0.out.below hb3); clear hb3)
        | (go_at_call 16; refine (Hget.out _ NN3.out).mono ?_; rintro e w4 ⟨rfl, hb4⟩; have HB4 := Lib.hid (below_alloc (below_step HB3.out hb4) (.cells #[.string ⟨#[]⟩, .string ⟨#[]⟩] 29)); have z2 := pw_cell_below HB4.out A2.out; have z3 := pw_cell_below HB4.out A3.out; have BZ := Lib.hid (World.alloc_heap_new w4 (.cells #[.string ⟨#[]⟩, .string ⟨#[]⟩] 29)); clear hb4 y1)
        | (go_at_call 23; refine (find_un _ none x.f2 (HN0.out.below HB4.out)).mono ?_; rintro e w5 ⟨rfl, hb5⟩; have HB5 := Lib.hid (below_step HB4.out hb5); have NN5 := Lib.hid (HN0.out.below HB5.out); have q0 := box0 (blk_below hb5 BZ.out); have q1 := box1 (blk_below hb5 BZ.out); have q2 := pw_cell_below HB5.out A1.out; clear hb5 z2 z3)
        | (go_at_call 27; refine (setcap_un _ none x.f1 NN5.out).mono ?_; rintro e w' ⟨rfl, h_⟩; obtain rfl := h_.symm)
        | (go_at_call 12; refine (cap_no _ none NN5.out).mono ?_; rintro e w' ⟨rfl, h_⟩; obtain rfl := h_.symm)
        | (go_at_call 13; refine (used_no _ none NN5.out).mono ?_; rintro e w' ⟨rfl, h_⟩; obtain rfl := h_.symm)
        | (go_at_call 14; refine (first_no _ none NN5.out).mono ?_; rintro e w' ⟨rfl, h_⟩; obtain rfl := h_.symm)
        | (go_at_call 15; refine (count_no _ none NN5.out).mono ?_; rintro e w' ⟨rfl, h_⟩; obtain rfl := h_.symm))
      go_roundg ko
      case measure => omega
      case rel => exact ⟨1, by first | rfl | go_num, by omega, hk2, Lib.hid (below_step HB.out HB5.out)⟩
    · obtain ⟨ko, rfl⟩ : ∃ ko, gk = ko + 1 := ⟨gk - 1, by omega⟩
      have hk2 : 2 ≤ ko + 2 := by omega
      have Hget : Hid (∀ W, NoTab W (some ⟨w.heap.size + 1, 0, none⟩) → Calls Try.prog 16 #[.pointer (some ⟨w.heap.size + 1, 0, none⟩), .int .i64 x.f1] W fun e w' => e = .returned (.tuple #[.agg #[.string ⟨#[]⟩, .string ⟨#[]⟩], .int .i64 2]) ∧ Below W.heap.size W w') := Lib.hid (fun W hW => get_un W (some ⟨w.heap.size + 1, 0, none⟩) x.f1 hW)
      clear hi hk
      go_wp2_with (first
        | (go_at_call 25; refine (insert_un _ (some ⟨w.heap.size + 1, 0, none⟩) x.f2 HN1.out).mono ?_; rintro e w3 ⟨rfl, hb3⟩; have HB3 := Lib.hid hb3; have y1 := pw_cell_below hb3 A1.out; have NN3 := Lib.hid (HN1.out.below hb3); clear hb3)
        | (go_at_call 16; refine (Hget.out _ NN3.out).mono ?_; rintro e w4 ⟨rfl, hb4⟩; have HB4 := Lib.hid (below_alloc (below_step HB3.out hb4) (.cells #[.string ⟨#[]⟩, .string ⟨#[]⟩] 29)); have z2 := pw_cell_below HB4.out A2.out; have z3 := pw_cell_below HB4.out A3.out; have BZ := Lib.hid (World.alloc_heap_new w4 (.cells #[.string ⟨#[]⟩, .string ⟨#[]⟩] 29)); clear hb4 y1)
        | (go_at_call 23; refine (find_un _ (some ⟨w.heap.size + 1, 0, none⟩) x.f2 (HN1.out.below HB4.out)).mono ?_; rintro e w5 ⟨rfl, hb5⟩; have HB5 := Lib.hid (below_step HB4.out hb5); have NN5 := Lib.hid (HN1.out.below HB5.out); have q0 := box0 (blk_below hb5 BZ.out); have q1 := box1 (blk_below hb5 BZ.out); have q2 := pw_cell_below HB5.out A1.out; clear hb5 z2 z3)
        | (go_at_call 27; refine (setcap_un _ (some ⟨w.heap.size + 1, 0, none⟩) x.f1 NN5.out).mono ?_; rintro e w' ⟨rfl, h_⟩; obtain rfl := h_.symm)
        | (go_at_call 12; refine (cap_no _ (some ⟨w.heap.size + 1, 0, none⟩) NN5.out).mono ?_; rintro e w' ⟨rfl, h_⟩; obtain rfl := h_.symm)
        | (go_at_call 13; refine (used_no _ (some ⟨w.heap.size + 1, 0, none⟩) NN5.out).mono ?_; rintro e w' ⟨rfl, h_⟩; obtain rfl := h_.symm)
        | (go_at_call 14; refine (first_no _ (some ⟨w.heap.size + 1, 0, none⟩) NN5.out).mono ?_; rintro e w' ⟨rfl, h_⟩; obtain rfl := h_.symm)
        | (go_at_call 15; refine (count_no _ (some ⟨w.heap.size + 1, 0, none⟩) NN5.out).mono ?_; rintro e w' ⟨rfl, h_⟩; obtain rfl := h_.symm))
      go_roundg ko
      case measure => omega
      case rel => exact ⟨2, by first | rfl | go_num, by omega, hk2, Lib.hid (below_step HB.out HB5.out)⟩
    · go_wp2_with (first | (go_at_call 10; refine (alive_calls _).mono ?_; rintro e w' ⟨rfl, hb⟩; have HBz := Lib.hid hb; clear hb))
      go_ret
      exact ⟨rfl, below_step (below_step HBW.out HB.out) HBz.out⟩
end Go.Proofs.Ytakdfjehjnhikaa.Q
