import Derived.Test.YtmmommcgjafbbaaDoorXDaJ
import Derived.Test.YtmmommcgjafbbaaDoorXDaV


/- DateTexts: its walk. -/
namespace Go.Proofs.YtmmommcgjafbbaaDoor.Da
open Go.RowKit Go.Proofs.YtmmommcgjafbbaaDoorW.PrintWords Go.Proofs.YtmmommcgjafbbaaDoorW.PrintLast Go.Proofs.YtmmommcgjafbbaaDoorW.PrintMore Go.Proofs.YtmmommcgjafbbaaDoor.G
set_option linter.unusedVariables false
set_option linter.unusedSimpArgs false
theorem rparse_of {s : ByteArray} {n : Int} (t : Text s n) (w : World) : Calls Tryd.prog 21 #[.string s] w fun e w' => e = .returned (.tuple #[.int .i64 n, .int .i64 0]) ∧ Below w.heap.size w w' := by
  refine (rparse_q s w).mono ?_
  rintro e w2 ⟨hb2, h_ | ⟨n', ht, rfl⟩⟩
  · exact absurd t (h_.2 _)
  · obtain rfl := text_inj t ht
    exact ⟨rfl, hb2⟩
theorem rparse_none {s : ByteArray} (t : NoText s) (w : World) : Calls Tryd.prog 21 #[.string s] w fun e w' => e = .returned (.tuple #[.int .i64 0, .int .i64 15]) ∧ Below w.heap.size w w' := by
  refine (rparse_q s w).mono ?_
  rintro e w2 ⟨hb2, h_ | ⟨n', ht, rfl⟩⟩
  · exact ⟨h_.1, hb2⟩
  · exact absurd ht (t _)
theorem rformat_q (n : Int) (w : World) (h : -62167219200 ≤ n ∧ n ≤ 253402300799) : ∃ s, Text s n ∧ ∀ w', Calls Tryd.prog 19 #[.int .i64 n] w' fun e w'' => e = .returned (.tuple #[.string s, .int .i64 0]) ∧ Below w'.heap.size w' w'' := by
  obtain ⟨wd, hwd, hwd7⟩ := wday_nat h
  obtain ⟨_, _, _, ⟨⟨y, m, d, h, mi, s, o, hn, -⟩, -⟩, -⟩ := of_yes n w (wB_yes h.1 h.2) []
  obtain ⟨Y, rfl⟩ : ∃ Y : Nat, y = (Y : Int) := ⟨y.toNat, by have := o.1.1; omega⟩
  obtain ⟨M, rfl⟩ : ∃ Y : Nat, m = (Y : Int) + 1 := ⟨(m - 1).toNat, by have := o.1.2.2.1; omega⟩
  obtain ⟨D, rfl⟩ : ∃ Y : Nat, d = (Y : Int) := ⟨d.toNat, by have := o.1.2.2.2.2.1; omega⟩
  obtain ⟨H, rfl⟩ : ∃ Y : Nat, h = (Y : Int) := ⟨h.toNat, by have := o.h0; omega⟩
  obtain ⟨MI, rfl⟩ : ∃ Y : Nat, mi = (Y : Int) := ⟨mi.toNat, by have := o.mi0; omega⟩
  obtain ⟨SC, rfl⟩ : ∃ Y : Nat, s = (Y : Int) := ⟨s.toNat, by have := o.s0; omega⟩
  exact ⟨_, ⟨Y, M, D, H, MI, SC, wd, o, hn, hwd, hwd7, rfl⟩, fun w' => rformat_nat n Y M D H MI SC wd w' o hn hwd hwd7⟩
set_option maxRecDepth 100000 in
set_option maxHeartbeats 2000000 in
theorem texts_walk (n a p q : Int) (s t : ByteArray) (w : World) (hG : Glob w)
    (hF : ∀ w', Below w.heap.size w w' → Calls Tryd.prog 18 #[.int .i64 n] w' fun e w'' => e = .returned (.tuple #[.string t, .int .i64 a]) ∧ Below w'.heap.size w' w'')
    (hR : ∀ w', Below w.heap.size w w' → Calls Tryd.prog 19 #[.int .i64 n] w' fun e w'' => e = .returned (.tuple #[.string t, .int .i64 a]) ∧ Below w'.heap.size w' w'')
    (hP : ∀ w', Below w.heap.size w w' → Calls Tryd.prog 20 #[.string s] w' fun e w'' => e = .returned (.tuple #[.int .i64 p, .int .i64 q]) ∧ Below w'.heap.size w' w'')
    (hQ : ∀ w', Below w.heap.size w w' → Calls Tryd.prog 21 #[.string s] w' fun e w'' => e = .returned (.tuple #[.int .i64 p, .int .i64 q]) ∧ Below w'.heap.size w' w'') :
    Calls Tryd.prog 4 #[.int .i64 n, .string s] w fun e w' => e = .returned (.bool true) ∧ Below w.heap.size w w' := by
  have HB := Lib.hid (Below.refl w.heap.size w)
  have HG := Lib.hid hG
  have HF := Lib.hid hF; have HR := Lib.hid hR; have HP := Lib.hid hP; have HQ := Lib.hid hQ
  clear hG hF hR hP hQ
  go_enter Tryd.func4, Tryd.ntmps4
  go_upto_region 2 with (go_at_call 18; with_reducible refine (HF.out _ HB.out).mono ?_; rintro e_ w_ ⟨rfl, hb_⟩; replace HB := Lib.hid (below_step HB.out hb_); clear hb_)
  go_upto_region 3 with (go_at_call 19; with_reducible refine (HR.out _ HB.out).mono ?_; rintro e_ w_ ⟨rfl, hb_⟩; replace HB := Lib.hid (below_step HB.out hb_); clear hb_)
  go_upto_region 4 with (go_at_call 20; with_reducible refine (HP.out _ HB.out).mono ?_; rintro e_ w_ ⟨rfl, hb_⟩; replace HB := Lib.hid (below_step HB.out hb_); clear hb_)
  go_upto_region 5 with (go_at_call 21; with_reducible refine (HQ.out _ HB.out).mono ?_; rintro e_ w_ ⟨rfl, hb_⟩; replace HB := Lib.hid (below_step HB.out hb_); clear hb_)
  go_wp2_with (go_at_call 17; with_reducible refine (alive_q _ (HG.out.below HB.out)).mono ?_; rintro e_ w_ ⟨rfl, hb_⟩; replace HB := Lib.hid (below_step HB.out hb_); clear hb_)
  go_ret
  exact ⟨rfl, HB.out⟩
theorem texts_calls (n : Int) (s : ByteArray) (w : World) (hG : Glob w) (hs : s.size < 4294967281) : Calls Tryd.prog 4 #[.int .i64 n, .string s] w fun e w' => e = .returned (.bool true) ∧ Below w.heap.size w w' := by
  obtain ⟨t, a, hF, hR⟩ : ∃ t a, (∀ w', Below w.heap.size w w' → Calls Tryd.prog 18 #[.int .i64 n] w' fun e w'' => e = .returned (.tuple #[.string t, .int .i64 a]) ∧ Below w'.heap.size w' w'') ∧
      (∀ w', Below w.heap.size w w' → Calls Tryd.prog 19 #[.int .i64 n] w' fun e w'' => e = .returned (.tuple #[.string t, .int .i64 a]) ∧ Below w'.heap.size w' w'') := by
    by_cases hr : -62167219200 ≤ n ∧ n ≤ 253402300799
    · obtain ⟨t, ht, hf⟩ := format_q n w hG hr
      obtain ⟨u, hu, hg⟩ := rformat_q n w hr
      obtain rfl := text_same ht hu
      exact ⟨t, 0, hf, fun w' _ => hg w'⟩
    · exact ⟨_, _, fun w' _ => format_no n w' hr, fun w' _ => rformat_no n w' hr⟩
  by_cases hk : ∃ k, Text s k
  · obtain ⟨k, hk⟩ := hk
    exact texts_walk n a k 0 s t w hG hF hR (fun w' hb => parse_of hk w' (hG.below hb)) (fun w' _ => rparse_of hk w')
  · exact texts_walk n a 0 15 s t w hG hF hR (fun w' hb => parse_none (fun k h => hk ⟨k, h⟩) hs w' (hG.below hb)) (fun w' _ => rparse_none (fun k h => hk ⟨k, h⟩) w')
end Go.Proofs.YtmmommcgjafbbaaDoor.Da

