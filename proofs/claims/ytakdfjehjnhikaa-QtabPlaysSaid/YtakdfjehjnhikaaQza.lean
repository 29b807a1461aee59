import Derived.Test.YtakdfjehjnhikaaQz
import Derived.Test.YtakdfjehjnhikaaQk
import Derived.Test.YtakdfjehjnhikaaQn
import Derived.Test.YtakdfjehjnhikaaQo
import Derived.Deep.DeepCutAuto
import Derived.Deep.CutBlock
namespace Go.Proofs.Ytakdfjehjnhikaa.Q
open Go.RowKit Go.Proofs.YtakdfjehjnhikaaW.PrintWords Go.Proofs.YtakdfjehjnhikaaW.PrintLast Go.Proofs.YtakdfjehjnhikaaW.PrintMore Go.Proofs.Ytakdfjehjnhikaa.G
set_option linter.unusedVariables false
set_option linter.unusedSimpArgs false

theorem cap_b (w : World) (g : Nat) (s : TS) (h : TabAt w g s) : Calls Try.prog 12 #[.pointer (some ⟨g, 0, none⟩)] w fun e w' => e = .returned (.int .i64 s.cap) ∧ Below w.heap.size w w' :=
  (cap_made w g s h).mono fun e w' ⟨a, b⟩ => ⟨a, b ▸ Below.refl _ _⟩
theorem used_b (w : World) (g : Nat) (s : TS) (h : TabAt w g s) (hs : s.Ok) : Calls Try.prog 13 #[.pointer (some ⟨g, 0, none⟩)] w fun e w' => e = .returned (.int .i64 (rms s.l)) ∧ Below w.heap.size w w' :=
  (used_made w g s h).mono fun e w' ⟨a, b⟩ => ⟨by rw [a, hs.used], b ▸ Below.refl _ _⟩
theorem first_b (w : World) (g : Nat) (s : TS) (h : TabAt w g s) : Calls Try.prog 14 #[.pointer (some ⟨g, 0, none⟩)] w fun e w' => e = .returned (.int .i64 s.first) ∧ Below w.heap.size w w' :=
  (first_made w g s h).mono fun e w' ⟨a, b⟩ => ⟨a, b ▸ Below.refl _ _⟩
theorem count_b (w : World) (g : Nat) (s : TS) (h : TabAt w g s) (hs : s.Ok) : Calls Try.prog 15 #[.pointer (some ⟨g, 0, none⟩)] w fun e w' => e = .returned (.int .i64 (s.first + s.l.length)) ∧ Below w.heap.size w w' := by
  refine (count_made w g s h).mono ?_
  rintro e w' ⟨rfl, ⟨⟨m, rfl⟩⟩⟩
  refine ⟨?_, pw_below_drewN (Below.refl _ _) m⟩
  have h1 := hs.first
  have h2 := hs.count
  have : wrap64 (s.first + (s.l.length : Int)) = s.first + s.l.length := by unfold wrap64; omega
  rw [this]
theorem rused_b {ok : Nat → Prop} (w : World) (r : Nat) (s : TS) (h : RTabK ok w r s) (hs : s.Ok) : Calls Try.prog 31 #[.pointer (some ⟨r, 0, none⟩)] w fun e w' => e = .returned (.int .i64 (rms s.l)) ∧ Below w.heap.size w w' :=
  rused_calls w r s h (by have := hs.used; have := hs.fits; have := hs.cap1; have := hs.most; omega) (by have := len_le s hs; omega)
theorem rcount_b {ok : Nat → Prop} (w : World) (r : Nat) (s : TS) (h : RTabK ok w r s) (hs : s.Ok) : Calls Try.prog 32 #[.pointer (some ⟨r, 0, none⟩)] w fun e w' => e = .returned (.int .i64 (s.first + s.l.length)) ∧ Below w.heap.size w w' := by
  refine (rcount_calls w r s h (by have := hs.first; have := hs.count; omega)).mono ?_
  rintro e w' ⟨rfl, ⟨⟨m, rfl⟩⟩⟩
  exact ⟨rfl, pw_below_drewN (Below.refl _ _) m⟩
theorem rcells {ok : Nat → Prop} {w : World} {r : Nat} {s : TS} (h : RTabK ok w r s) : w.cell? ⟨r, 1, none⟩ = some (.int .i64 s.cap) ∧ w.cell? ⟨r, 2, none⟩ = some (.int .i64 s.first) := by
  obtain ⟨A, c, hh, -⟩ := h
  exact ⟨cells_of hh 1, cells_of hh 2⟩

/-- both tables, alike -/
structure Both (w W : World) (r : Nat) (s : TS) : Prop where
  t : TabK (fun k => k ≠ r) W w.heap.size s
  d : RTabK (fun k => k ≠ w.heap.size) W r s
  ok : s.Ok
  b : Below w.heap.size w W
  gr : w.heap.size < r
theorem Both.below {w W W' : World} {r : Nat} {s : TS} (h : Both w W r s) (hb : Below W.heap.size W W') : Both w W' r s := ⟨h.t.below hb, h.d.below hb, h.ok, below_step h.b hb, h.gr⟩
theorem Both.rlt {w W : World} {r : Nat} {s : TS} (h : Both w W r s) : r < W.heap.size := by obtain ⟨A, c, hh, -⟩ := h.d; exact blk_lt' hh
theorem ins_both {w W : World} {r : Nat} {s : TS} (h : Both w W r s) (x : S29) : Calls Try.prog 25 #[.pointer (some ⟨w.heap.size, 0, none⟩), .agg #[.string x.f0, .string x.f1]] W fun e w' => e = .returned (.tuple #[.int .i64 (s.ins x).2.1, .int .i64 (s.ins x).2.2]) ∧ TabK (fun k => k ≠ r) w' w.heap.size (s.ins x).1 ∧ RTabK (fun k => k ≠ w.heap.size) w' r s ∧ W.grownBy w' (some w.heap.size) := by
  have hr := h.rlt
  refine (insert_any W w.heap.size s x (fun k hk => by omega) h.t h.ok).mono ?_
  rintro e w' ⟨he, hT, hg⟩
  exact ⟨he, hT, h.d.grown hg (fun e => by injection e with e; have := h.gr; omega) (fun k hk e => hk (Option.some.inj e)), hg⟩
theorem scap_both {w W : World} {r : Nat} {s : TS} (h : Both w W r s) (n : Int) : Calls Try.prog 27 #[.pointer (some ⟨w.heap.size, 0, none⟩), .int .i64 n] W fun e w' => e = .returned (.int .i64 (s.scap n).2) ∧ TabK (fun k => k ≠ r) w' w.heap.size (s.scap n).1 ∧ RTabK (fun k => k ≠ w.heap.size) w' r s ∧ W.grownBy w' (some w.heap.size) := by
  refine (setcap_any W w.heap.size s n h.t h.ok).mono ?_
  rintro e w' ⟨he, hT, hg⟩
  exact ⟨he, hT, h.d.grown hg (fun e => by injection e with e; have := h.gr; omega) (fun k hk e => hk (Option.some.inj e)), hg⟩
theorem both_of {w W W1 W2 : World} {r : Nat} {s s' : TS} (h : Both w W r s) (hT : TabK (fun k => k ≠ r) W1 w.heap.size s') (hg : W.grownBy W1 (some w.heap.size)) (hR : RTabK (fun k => k ≠ w.heap.size) W2 r s') (hg2 : W1.grownBy W2 (some r)) (hs : s'.Ok) : Both w W2 r s' := by
  have hgr := h.gr
  refine ⟨hT.grown hg2 (fun e => by injection e with e; omega) (fun k hk e => hk (Option.some.inj e)), hR, hs, ?_, h.gr⟩
  have h1 : Below w.heap.size w W1 := below_of_grown h.b hg (Nat.le_refl _)
  exact below_of_grown h1 hg2 (by omega)
end Go.Proofs.Ytakdfjehjnhikaa.Q
