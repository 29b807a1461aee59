import Derived.Test.YtmmommcgjafbbaaDoorXDaS2

/- One text, one number; alive. -/
namespace Go.Proofs.YtmmommcgjafbbaaDoor.Da
open Go.RowKit Go.Proofs.YtmmommcgjafbbaaDoorW.PrintWords Go.Proofs.YtmmommcgjafbbaaDoorW.PrintLast Go.Proofs.YtmmommcgjafbbaaDoorW.PrintMore Go.Proofs.YtmmommcgjafbbaaDoor.G
set_option linter.unusedVariables false
set_option linter.unusedSimpArgs false
theorem text_inj {s : ByteArray} {n n' : Int} (t : Text s n) (t' : Text s n') : n = n' := by
  obtain ⟨y, M, d, h, mi, sc, wd, t⟩ := t
  obtain ⟨y', M', d', h', mi', sc', wd', t'⟩ := t'
  have hP : Lib.splitB ⟨#[32]⟩ 0 (Lib.countB s ⟨#[32]⟩) s = [_, _, _, _, _, _] := t.split.2.2
  have e1 := Text.list t hP
  have e2 := Text.list t' hP
  have e3 := Text.vals t
  rw [e1.symm.trans e2, Text.vals t'] at e3
  simp only [List.cons.injEq, Lib.NumEnd.ok.injEq, and_true] at e3
  have e4 := (Text.pieces t hP).2.1
  have e5 := (Text.pieces t' hP).2.1
  have hM : M < 12 := by have := t.ok.1.2.2.2.1; omega
  have hM' : M' < 12 := by have := t'.ok.1.2.2.2.1; omega
  have e6 := idx_mons M hM
  rw [← e4, e5, idx_mons M' hM'] at e6
  obtain ⟨a, b, c, d, e⟩ := e3
  rw [← t.nu, ← t'.nu, a, b, c, d, e, e6]
theorem text_29 {s : ByteArray} {n : Int} (t : Text s n) : s.size = 29 := by
  obtain ⟨y, M, d, h, mi, sc, wd, t⟩ := t
  exact t.split.1
theorem text_same {s s' : ByteArray} {n : Int} (t : Text s n) (t' : Text s' n) : s = s' := by
  obtain ⟨y, M, d, h, mi, sc, wd, t⟩ := t
  obtain ⟨y', M', d', h', mi', sc', wd', t'⟩ := t'
  have e := num_inj t.ok t'.ok (t.nu.trans t'.nu.symm)
  have e7 := t.day
  rw [t'.day] at e7
  obtain rfl : y = y' := by omega
  obtain rfl : M = M' := by omega
  obtain rfl : d = d' := by omega
  obtain rfl : h = h' := by omega
  obtain rfl : mi = mi' := by omega
  obtain rfl : sc = sc' := by omega
  obtain rfl : wd = wd' := by omega
  exact t.text.trans t'.text.symm
/-- Parse of a text, and of none -/
theorem parse_of {s : ByteArray} {n : Int} (t : Text s n) (w : World) (hG : Glob w) : Calls Tryd.prog 20 #[.string s] w fun e w' => e = .returned (.tuple #[.int .i64 n, .int .i64 0]) ∧ Below w.heap.size w w' := by
  refine (parse_q s w hG (by have := text_29 t; omega)).mono ?_
  rintro e w2 ⟨hb2, h_ | ⟨n', ht, rfl⟩⟩
  · exact absurd t (h_.2 _)
  · obtain rfl := text_inj t ht
    exact ⟨rfl, hb2⟩
theorem parse_none {s : ByteArray} (t : NoText s) (hs : s.size < 4294967281) (w : World) (hG : Glob w) : Calls Tryd.prog 20 #[.string s] w fun e w' => e = .returned (.tuple #[.int .i64 0, .int .i64 15]) ∧ Below w.heap.size w w' := by
  refine (parse_q s w hG hs).mono ?_
  rintro e w2 ⟨hb2, h_ | ⟨n', ht, rfl⟩⟩
  · exact ⟨h_.1, hb2⟩
  · exact absurd ht (t _)
/-- what Format answers is a text of its number -/
theorem format_q (n : Int) (w : World) (hG : Glob w) (h : -62167219200 ≤ n ∧ n ≤ 253402300799) : ∃ s, Text s n ∧ ∀ w', Below w.heap.size w w' → Calls Tryd.prog 18 #[.int .i64 n] w' fun e w'' => e = .returned (.tuple #[.string s, .int .i64 0]) ∧ Below w'.heap.size w' w'' := by
  obtain ⟨wd, hwd, hwd7⟩ := wday_nat h
  obtain ⟨_, _, _, ⟨⟨y, m, d, h, mi, s, o, hn, -⟩, -⟩, -⟩ := of_yes n w (wB_yes h.1 h.2) []
  obtain ⟨Y, rfl⟩ : ∃ Y : Nat, y = (Y : Int) := ⟨y.toNat, by have := o.1.1; omega⟩
  obtain ⟨M, rfl⟩ : ∃ Y : Nat, m = (Y : Int) + 1 := ⟨(m - 1).toNat, by have := o.1.2.2.1; omega⟩
  obtain ⟨D, rfl⟩ : ∃ Y : Nat, d = (Y : Int) := ⟨d.toNat, by have := o.1.2.2.2.2.1; omega⟩
  obtain ⟨H, rfl⟩ : ∃ Y : Nat, h = (Y : Int) := ⟨h.toNat, by have := o.h0; omega⟩
  obtain ⟨MI, rfl⟩ : ∃ Y : Nat, mi = (Y : Int) := ⟨mi.toNat, by have := o.mi0; omega⟩
  obtain ⟨SC, rfl⟩ : ∃ Y : Nat, s = (Y : Int) := ⟨s.toNat, by have := o.s0; omega⟩
  exact ⟨_, ⟨Y, M, D, H, MI, SC, wd, o, hn, hwd, hwd7, rfl⟩, fun w' hb => format_nat n Y M D H MI SC wd w' (hG.below hb) o hn hwd hwd7⟩
theorem sun_text : Text ⟨#[83, 117, 110, 44, 32, 48, 54, 32, 78, 111, 118, 32, 49, 57, 57, 52, 32, 48, 56, 58, 52, 57, 58, 51, 55, 32, 71, 77, 84]⟩ 784111777 :=
  ⟨1994, 10, 6, 8, 49, 37, 6, by constructor <;> first | decide | (constructor <;> decide), by decide, by decide, by decide, by decide⟩
set_option maxRecDepth 100000 in
set_option maxHeartbeats 4000000 in
theorem alive_q (w : World) (hG : Glob w) : Calls Tryd.prog 17 #[] w fun e w' => e = .returned (.bool true) ∧ Below w.heap.size w w' := by
  obtain ⟨s, hs, hf⟩ := format_q 784111777 w hG (by decide)
  obtain rfl := text_same sun_text hs
  have HF := Lib.hid (hf w (Below.refl _ _))
  have HG := Lib.hid hG
  have HS := Lib.hid hs
  clear hs hf hG
  go_enter Tryd.func17, Tryd.ntmps17
  go_wp2_with (first | (go_at_call 18; refine HF.out.mono ?_; rintro e w1 ⟨rfl, hb1⟩; have HB1 := Lib.hid hb1; clear hb1) | (go_at_call 20; refine (parse_of HS.out _ (HG.out.below HB1.out)).mono ?_; rintro e w2 ⟨rfl, hb2⟩; have HB2 := Lib.hid hb2; clear hb2))
  go_ret
  exact ⟨rfl, below_step HB1.out HB2.out⟩
end Go.Proofs.YtmmommcgjafbbaaDoor.Da

