import Derived.Test.YtakdfjehjnhikaaGx
import Derived.Lib.Hide
/- (not yet a claim) the table's own methods -/
namespace Go.Proofs.Ytakdfjehjnhikaa.Q
open Go.RowKit Go.Proofs.YtakdfjehjnhikaaW.PrintWords Go.Proofs.YtakdfjehjnhikaaW.PrintLast Go.Proofs.YtakdfjehjnhikaaW.PrintMore Go.Proofs.Ytakdfjehjnhikaa.G
set_option linter.unusedVariables false
set_option linter.unusedSimpArgs false

/-- A growing table. -/
structure TS where
  most : Int
  cap : Int
  used : Int
  first : Int
  l : List S29

/-- The table lies at g; its fields lie in a block that is ok. -/
def TabK (ok : Nat → Prop) (w : World) (g : Nat) (s : TS) : Prop :=
  ∃ A c, w.heap[g]? = some (.cells #[.bool true, .int .i64 s.most, .int .i64 s.cap, .int .i64 s.used, .int .i64 s.first, .slice A s.l.length c] 54 (0, 0)) ∧ s.l.length ≤ c ∧ Kd.C k29 w A s.l.length s.l ∧ ∀ ad, A = some ad → ad.block ≠ g ∧ ad.block < w.heap.size ∧ ok ad.block
abbrev TabAt := TabK (fun _ => True)
theorem TabK.at {ok : Nat → Prop} {w : World} {g : Nat} {s : TS} (h : TabK ok w g s) : TabAt w g s := by
  obtain ⟨A, c, hh, hl, hc, hne⟩ := h
  exact ⟨A, c, hh, hl, hc, fun ad e => ⟨(hne ad e).1, (hne ad e).2.1, trivial⟩⟩
theorem TabK.imp {ok ok' : Nat → Prop} {w : World} {g : Nat} {s : TS} (h : TabK ok w g s) (hk : ∀ k, k < w.heap.size → ok k → ok' k) : TabK ok' w g s := by
  obtain ⟨A, c, hh, hl, hc, hne⟩ := h
  exact ⟨A, c, hh, hl, hc, fun ad e => ⟨(hne ad e).1, (hne ad e).2.1, hk _ (hne ad e).2.1 (hne ad e).2.2⟩⟩

theorem ok_nil (w : World) : Calls Try.prog 33 #[.pointer none] w fun e w' => e = .returned (.bool false) ∧ w' = w := by
  go_enter Try.func33, Try.ntmps33
  go_wp2
  go_ret
  exact ⟨rfl, rfl⟩

theorem cells_of {w : World} {g : Nat} {cs : Array Value} {t : Nat} {m : Nat × Nat} (h : w.heap[g]? = some (.cells cs t m)) (j : Nat) : w.cell? ⟨g, j, none⟩ = cs[j]? := by
  simp [World.cell?, h]

theorem ok_made (w : World) (g : Nat) (s : TS) (h : TabAt w g s) : Calls Try.prog 33 #[.pointer (some ⟨g, 0, none⟩)] w fun e w' => e = .returned (.bool true) ∧ w' = w := by
  obtain ⟨A, c, hh, -⟩ := h
  have h0 := cells_of hh 0
  simp at h0
  clear hh
  go_enter Try.func33, Try.ntmps33
  go_wp2
  go_ret
  exact ⟨rfl, rfl⟩


theorem blk_lt' {w : World} {g : Nat} {o : Obj} (h : w.heap[g]? = some o) : g < w.heap.size := (Array.getElem?_eq_some_iff.1 h).1

theorem TabK.below {ok : Nat → Prop} {w w' : World} {g : Nat} {s : TS} (h : TabK ok w g s) (hb : Below w.heap.size w w') : TabK ok w' g s := by
  obtain ⟨A, c, hh, hl, hc, hne⟩ := h
  exact ⟨A, c, (hb.block g (blk_lt' hh)).trans hh, hl, Kd.C_below hc hb, fun ad e => ⟨(hne ad e).1, Nat.lt_of_lt_of_le (hne ad e).2.1 hb.size, (hne ad e).2.2⟩⟩

theorem cap_made (w : World) (g : Nat) (s : TS) (h : TabAt w g s) : Calls Try.prog 12 #[.pointer (some ⟨g, 0, none⟩)] w fun e w' => e = .returned (.int .i64 s.cap) ∧ w' = w := by
  have Hok := Lib.hid (ok_made w g s h)
  obtain ⟨A, c, hh, -⟩ := h
  have h0 := cells_of hh 2
  simp at h0
  clear hh
  go_enter Try.func12, Try.ntmps12
  go_wp2_with (go_at_call 33; refine Hok.out.mono ?_; rintro e w' ⟨rfl, rfl⟩)
  go_ret
  exact ⟨rfl, rfl⟩

theorem used_made (w : World) (g : Nat) (s : TS) (h : TabAt w g s) : Calls Try.prog 13 #[.pointer (some ⟨g, 0, none⟩)] w fun e w' => e = .returned (.int .i64 s.used) ∧ w' = w := by
  have Hok := Lib.hid (ok_made w g s h)
  obtain ⟨A, c, hh, -⟩ := h
  have h0 := cells_of hh 3
  simp at h0
  clear hh
  go_enter Try.func13, Try.ntmps13
  go_wp2_with (go_at_call 33; refine Hok.out.mono ?_; rintro e w' ⟨rfl, rfl⟩)
  go_ret
  exact ⟨rfl, rfl⟩

theorem first_made (w : World) (g : Nat) (s : TS) (h : TabAt w g s) : Calls Try.prog 14 #[.pointer (some ⟨g, 0, none⟩)] w fun e w' => e = .returned (.int .i64 s.first) ∧ w' = w := by
  have Hok := Lib.hid (ok_made w g s h)
  obtain ⟨A, c, hh, -⟩ := h
  have h0 := cells_of hh 4
  simp at h0
  clear hh
  go_enter Try.func14, Try.ntmps14
  go_wp2_with (go_at_call 33; refine Hok.out.mono ?_; rintro e w' ⟨rfl, rfl⟩)
  go_ret
  exact ⟨rfl, rfl⟩

theorem count_made (w : World) (g : Nat) (s : TS) (h : TabAt w g s) : Calls Try.prog 15 #[.pointer (some ⟨g, 0, none⟩)] w fun e w' => e = .returned (.int .i64 (wrap64 (s.first + s.l.length))) ∧ Drawn0 w w' := by
  have Hok := Lib.hid (ok_made w g s h)
  obtain ⟨A, c, hh, -⟩ := h
  have h0 := cells_of hh 4
  have h1 := cells_of hh 5
  simp at h0 h1
  clear hh
  go_enter Try.func15, Try.ntmps15
  go_wp2_with (go_at_call 33; refine Hok.out.mono ?_; rintro e w' ⟨rfl, rfl⟩)
  go_quiet (fail)
  go_wp2
  go_ret
  exact ⟨rfl, ⟨⟨_, rfl⟩⟩⟩

end Go.Proofs.Ytakdfjehjnhikaa.Q
