import Derived.Test.YtmmommcgjafbbaaDoorVDaV

/- DateTold: its walk. -/
namespace Go.Proofs.YtmmommcgjafbbaaDoor.Da
open Go.RowKit Go.Proofs.YtmmommcgjafbbaaDoorW.PrintWords Go.Proofs.YtmmommcgjafbbaaDoorW.PrintLast Go.Proofs.YtmmommcgjafbbaaDoorW.PrintMore Go.Proofs.YtmmommcgjafbbaaDoor.G
set_option linter.unusedVariables false
set_option linter.unusedSimpArgs false
set_option maxRecDepth 100000 in
set_option maxHeartbeats 1000000 in
theorem told_11 (n k : Int) (s t : ByteArray) (w : World) (hG : Glob w)
    (hF : ∀ w', Below w.heap.size w w' → Calls Tryd.prog 18 #[.int .i64 n] w' fun e w'' => e = .returned (.tuple #[.string t, .int .i64 0]) ∧ Below w'.heap.size w' w'')
    (hP : ∀ w', Below w.heap.size w w' → Calls Tryd.prog 20 #[.string s] w' fun e w'' => e = .returned (.tuple #[.int .i64 k, .int .i64 0]) ∧ Below w'.heap.size w' w'')
    (hQ : ∀ w', Below w.heap.size w w' → Calls Tryd.prog 20 #[.string t] w' fun e w'' => e = .returned (.tuple #[.int .i64 n, .int .i64 0]) ∧ Below w'.heap.size w' w'')
    (ht : t.size = 29)
    (hR : ∀ w', Below w.heap.size w w' → Calls Tryd.prog 18 #[.int .i64 k] w' fun e w'' => e = .returned (.tuple #[.string s, .int .i64 0]) ∧ Below w'.heap.size w' w'') :
    Calls Tryd.prog 7 #[.int .i64 n, .string s] w fun e w' => e = .returned (.bool true) ∧ Below w.heap.size w w' := by
  have HB := Lib.hid (Below.refl w.heap.size w)
  have HG := Lib.hid hG
  have HF := Lib.hid hF
  have HP := Lib.hid hP
  have HQ := Lib.hid hQ
  have HR := Lib.hid hR
  have h29 : ((t.size : Int) != 29) = false := by rw [ht]; rfl
  clear ht
  clear hG hF hP hQ hR
  go_enter Tryd.func7, Tryd.ntmps7
  go_upto_region 3 with (go_at_call 18; with_reducible refine (HF.out _ HB.out).mono ?_; rintro e_ w_ ⟨rfl, hb_⟩; replace HB := Lib.hid (below_step HB.out hb_); clear hb_)
  go_upto_region 6 with (go_at_call 20; with_reducible refine (HQ.out _ HB.out).mono ?_; rintro e_ w_ ⟨rfl, hb_⟩; replace HB := Lib.hid (below_step HB.out hb_); clear hb_)
  go_upto_region 8 with (go_at_call 20; with_reducible refine (HP.out _ HB.out).mono ?_; rintro e_ w_ ⟨rfl, hb_⟩; replace HB := Lib.hid (below_step HB.out hb_); clear hb_)
  go_upto_region 11 with (go_at_call 18; with_reducible refine (HR.out _ HB.out).mono ?_; rintro e_ w_ ⟨rfl, hb_⟩; replace HB := Lib.hid (below_step HB.out hb_); clear hb_)
  go_wp2_with (go_at_call 17; with_reducible refine (alive_q _ (HG.out.below HB.out)).mono ?_; rintro e_ w_ ⟨rfl, hb_⟩; replace HB := Lib.hid (below_step HB.out hb_); clear hb_)
  go_ret
  exact ⟨rfl, HB.out⟩
set_option maxRecDepth 100000 in
set_option maxHeartbeats 1000000 in
theorem told_10 (n k : Int) (s t : ByteArray) (w : World) (hG : Glob w)
    (hF : ∀ w', Below w.heap.size w w' → Calls Tryd.prog 18 #[.int .i64 n] w' fun e w'' => e = .returned (.tuple #[.string t, .int .i64 0]) ∧ Below w'.heap.size w' w'')
    (hP : ∀ w', Below w.heap.size w w' → Calls Tryd.prog 20 #[.string s] w' fun e w'' => e = .returned (.tuple #[.int .i64 0, .int .i64 15]) ∧ Below w'.heap.size w' w'')
    (hQ : ∀ w', Below w.heap.size w w' → Calls Tryd.prog 20 #[.string t] w' fun e w'' => e = .returned (.tuple #[.int .i64 n, .int .i64 0]) ∧ Below w'.heap.size w' w'')
    (ht : t.size = 29) :
    Calls Tryd.prog 7 #[.int .i64 n, .string s] w fun e w' => e = .returned (.bool true) ∧ Below w.heap.size w w' := by
  have HB := Lib.hid (Below.refl w.heap.size w)
  have HG := Lib.hid hG
  have HF := Lib.hid hF
  have HP := Lib.hid hP
  have HQ := Lib.hid hQ
  have h29 : ((t.size : Int) != 29) = false := by rw [ht]; rfl
  clear ht
  clear hG hF hP hQ
  go_enter Tryd.func7, Tryd.ntmps7
  go_upto_region 3 with (go_at_call 18; with_reducible refine (HF.out _ HB.out).mono ?_; rintro e_ w_ ⟨rfl, hb_⟩; replace HB := Lib.hid (below_step HB.out hb_); clear hb_)
  go_upto_region 6 with (go_at_call 20; with_reducible refine (HQ.out _ HB.out).mono ?_; rintro e_ w_ ⟨rfl, hb_⟩; replace HB := Lib.hid (below_step HB.out hb_); clear hb_)
  go_upto_region 11 with (go_at_call 20; with_reducible refine (HP.out _ HB.out).mono ?_; rintro e_ w_ ⟨rfl, hb_⟩; replace HB := Lib.hid (below_step HB.out hb_); clear hb_)
  go_wp2_with (go_at_call 17; with_reducible refine (alive_q _ (HG.out.below HB.out)).mono ?_; rintro e_ w_ ⟨rfl, hb_⟩; replace HB := Lib.hid (below_step HB.out hb_); clear hb_)
  go_ret
  exact ⟨rfl, HB.out⟩
set_option maxRecDepth 100000 in
set_option maxHeartbeats 1000000 in
theorem told_01 (n k : Int) (s t : ByteArray) (w : World) (hG : Glob w)
    (hF : ∀ w', Below w.heap.size w w' → Calls Tryd.prog 18 #[.int .i64 n] w' fun e w'' => e = .returned (.tuple #[.string t, .int .i64 1]) ∧ Below w'.heap.size w' w'')
    (hP : ∀ w', Below w.heap.size w w' → Calls Tryd.prog 20 #[.string s] w' fun e w'' => e = .returned (.tuple #[.int .i64 k, .int .i64 0]) ∧ Below w'.heap.size w' w'')
    (hR : ∀ w', Below w.heap.size w w' → Calls Tryd.prog 18 #[.int .i64 k] w' fun e w'' => e = .returned (.tuple #[.string s, .int .i64 0]) ∧ Below w'.heap.size w' w'') :
    Calls Tryd.prog 7 #[.int .i64 n, .string s] w fun e w' => e = .returned (.bool true) ∧ Below w.heap.size w w' := by
  have HB := Lib.hid (Below.refl w.heap.size w)
  have HG := Lib.hid hG
  have HF := Lib.hid hF
  have HP := Lib.hid hP
  have HR := Lib.hid hR
  clear hG hF hP hR
  go_enter Tryd.func7, Tryd.ntmps7
  go_upto_region 6 with (go_at_call 18; with_reducible refine (HF.out _ HB.out).mono ?_; rintro e_ w_ ⟨rfl, hb_⟩; replace HB := Lib.hid (below_step HB.out hb_); clear hb_)
  go_upto_region 8 with (go_at_call 20; with_reducible refine (HP.out _ HB.out).mono ?_; rintro e_ w_ ⟨rfl, hb_⟩; replace HB := Lib.hid (below_step HB.out hb_); clear hb_)
  go_upto_region 11 with (go_at_call 18; with_reducible refine (HR.out _ HB.out).mono ?_; rintro e_ w_ ⟨rfl, hb_⟩; replace HB := Lib.hid (below_step HB.out hb_); clear hb_)
  go_wp2_with (go_at_call 17; with_reducible refine (alive_q _ (HG.out.below HB.out)).mono ?_; rintro e_ w_ ⟨rfl, hb_⟩; replace HB := Lib.hid (below_step HB.out hb_); clear hb_)
  go_ret
  exact ⟨rfl, HB.out⟩
set_option maxRecDepth 100000 in
set_option maxHeartbeats 1000000 in
theorem told_00 (n k : Int) (s t : ByteArray) (w : World) (hG : Glob w)
    (hF : ∀ w', Below w.heap.size w w' → Calls Tryd.prog 18 #[.int .i64 n] w' fun e w'' => e = .returned (.tuple #[.string t, .int .i64 1]) ∧ Below w'.heap.size w' w'')
    (hP : ∀ w', Below w.heap.size w w' → Calls Tryd.prog 20 #[.string s] w' fun e w'' => e = .returned (.tuple #[.int .i64 0, .int .i64 15]) ∧ Below w'.heap.size w' w'') :
    Calls Tryd.prog 7 #[.int .i64 n, .string s] w fun e w' => e = .returned (.bool true) ∧ Below w.heap.size w w' := by
  have HB := Lib.hid (Below.refl w.heap.size w)
  have HG := Lib.hid hG
  have HF := Lib.hid hF
  have HP := Lib.hid hP
  clear hG hF hP
  go_enter Tryd.func7, Tryd.ntmps7
  go_upto_region 6 with (go_at_call 18; with_reducible refine (HF.out _ HB.out).mono ?_; rintro e_ w_ ⟨rfl, hb_⟩; replace HB := Lib.hid (below_step HB.out hb_); clear hb_)
  go_upto_region 11 with (go_at_call 20; with_reducible refine (HP.out _ HB.out).mono ?_; rintro e_ w_ ⟨rfl, hb_⟩; replace HB := Lib.hid (below_step HB.out hb_); clear hb_)
  go_wp2_with (go_at_call 17; with_reducible refine (alive_q _ (HG.out.below HB.out)).mono ?_; rintro e_ w_ ⟨rfl, hb_⟩; replace HB := Lib.hid (below_step HB.out hb_); clear hb_)
  go_ret
  exact ⟨rfl, HB.out⟩
theorem told_calls (n : Int) (s : ByteArray) (w : World) (hG : Glob w) (hs : s.size < 4294967281) : Calls Tryd.prog 7 #[.int .i64 n, .string s] w fun e w' => e = .returned (.bool true) ∧ Below w.heap.size w w' := by
  have range : ∀ {s : ByteArray} {k : Int}, Text s k → -62167219200 ≤ k ∧ k ≤ 253402300799 := by
    rintro s k ⟨y, M, d, h, mi, sc, wd, t⟩
    have := num_bd t.ok
    rwa [t.nu] at this
  by_cases hr : -62167219200 ≤ n ∧ n ≤ 253402300799
  · obtain ⟨t, ht, hf⟩ := format_q n w hG hr
    by_cases hk : ∃ k, Text s k
    · obtain ⟨k, hk⟩ := hk
      obtain ⟨s', hs', hr'⟩ := format_q k w hG (range hk)
      obtain rfl := text_same hk hs'
      exact told_11 n k s t w hG hf (fun w' hb => parse_of hk w' (hG.below hb)) (fun w' hb => parse_of ht w' (hG.below hb)) (text_29 ht) hr'
    · exact told_10 n 0 s t w hG hf (fun w' hb => parse_none (fun k h => hk ⟨k, h⟩) hs w' (hG.below hb)) (fun w' hb => parse_of ht w' (hG.below hb)) (text_29 ht)
  · by_cases hk : ∃ k, Text s k
    · obtain ⟨k, hk⟩ := hk
      obtain ⟨s', hs', hr'⟩ := format_q k w hG (range hk)
      obtain rfl := text_same hk hs'
      exact told_01 n k s _ w hG (fun w' hb => format_no n w' hr) (fun w' hb => parse_of hk w' (hG.below hb)) hr'
    · exact told_00 n 0 s _ w hG (fun w' hb => format_no n w' hr) (fun w' hb => parse_none (fun k h => hk ⟨k, h⟩) hs w' (hG.below hb))
end Go.Proofs.YtmmommcgjafbbaaDoor.Da

