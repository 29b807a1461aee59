import Derived.Test.YtakdfjehjnhikaaQu
namespace Go.Proofs.Ytakdfjehjnhikaa.Q
open Go.RowKit Go.Proofs.YtakdfjehjnhikaaW.PrintWords Go.Proofs.YtakdfjehjnhikaaW.PrintLast Go.Proofs.YtakdfjehjnhikaaW.PrintMore Go.Proofs.Ytakdfjehjnhikaa.G
set_option linter.unusedVariables false
set_option linter.unusedSimpArgs false

theorem RTabK.set_cap {ok : Nat → Prop} {w : World} {g : Nat} {s : TS} (h : RTabK ok w g s) (n : Int) : RTabK ok (w.setCell ⟨g, 1, none⟩ (.int .i64 n)) g { s with cap := n } := by
  obtain ⟨A, c, hh, hl, hc, hne⟩ := h
  exact ⟨A, c, blk_put hh 1 _ rfl, hl, C29_move hc (fun ad e _ => heap_set_ne _ _ _ _ (hne ad e).1), fun ad e => ⟨(hne ad e).1, by rw [size_set]; exact (hne ad e).2.1, (hne ad e).2.2⟩⟩
theorem RTabK.set_first {ok : Nat → Prop} {w : World} {g : Nat} {s : TS} (h : RTabK ok w g s) (n : Int) : RTabK ok (w.setCell ⟨g, 2, none⟩ (.int .i64 n)) g { s with first := n } := by
  obtain ⟨A, c, hh, hl, hc, hne⟩ := h
  exact ⟨A, c, blk_put hh 2 _ rfl, hl, C29_move hc (fun ad e _ => heap_set_ne _ _ _ _ (hne ad e).1), fun ad e => ⟨(hne ad e).1, by rw [size_set]; exact (hne ad e).2.1, (hne ad e).2.2⟩⟩
theorem RTabK.set_l {ok : Nat → Prop} {w : World} {g : Nat} {s : TS} (h : RTabK ok w g s) (A : Option Addr) (c : Nat) (l : List S29) (hl : l.length ≤ c) (hC : Kd.C k29 w A l.length l) (hne : ∀ ad, A = some ad → ad.block ≠ g ∧ ad.block < w.heap.size ∧ ok ad.block) : RTabK ok (w.setCell ⟨g, 3, none⟩ (.slice A l.length c)) g { s with l := l } := by
  obtain ⟨A', c', hh, -⟩ := h
  exact ⟨A, c, blk_put hh 3 _ rfl, hl, C29_move hC (fun ad e _ => heap_set_ne _ _ _ _ (hne ad e).1), fun ad e => ⟨(hne ad e).1, by rw [size_set]; exact (hne ad e).2.1, (hne ad e).2.2⟩⟩

theorem rshrink_calls {ok : Nat → Prop} (w : World) (g : Nat) (s : TS) (m : Int) (h : RTabK ok w g s) (hu : rms s.l ≤ 1000000) (hm : 0 ≤ m) (hf : 0 ≤ s.first) (hf1 : s.first + s.l.length ≤ 4611686018427387904) :
    Calls Try.prog 44 #[.pointer (some ⟨g, 0, none⟩), .int .i64 m] w fun e w' => e = .returned (.tuple #[]) ∧ RTabK ok w' g { s with first := (shr m s.first s.l).1, l := (shr m s.first s.l).2 } ∧ w.grownBy w' (some g) := by
  go_enter Try.func44, Try.ntmps44
  go_wp2
  go_loopg [] s.l.length (fun k W => ∃ (f : Int) (l : List S29), Hid (RTabK ok W g { s with first := f, l := l }) ∧ Hid (shr m f l = shr m s.first s.l) ∧ Hid (w.grownBy W (some g)) ∧ rms l ≤ 1000000 ∧ 0 ≤ f ∧ f + l.length = s.first + s.l.length ∧ l.length ≤ k)
  case atStart => exact ⟨s.first, s.l, Lib.hid h, Lib.hid rfl, Lib.hid (World.grownBy.refl w _), by omega, hf, rfl, Nat.le_refl _⟩
  case round =>
    obtain ⟨f, l, HT, HSH, HG, hb, hf0, hfl, hk⟩ := hrel
    have hlo := rms_lo l
    by_cases hlt : m < rms l
    · have hlt' : decide (m < rms l) = true := decide_eq_true hlt
      obtain ⟨x, l, rfl⟩ : ∃ x l', l = x :: l' := by
        rcases l with _ | ⟨x, l⟩
        · simp only [rms] at hlt; omega
        · exact ⟨x, l, rfl⟩
      have hx := rm_lo x
      have hrx : rms (x :: l) = rm x + rms l := rfl
      have hlo' := rms_lo l
      have hrb : rms l ≤ 1000000 := by omega
      have hll : (x :: l).length ≤ 140737488351232 := by simp only [List.length_cons] at *; omega
      have hlen : f + 1 + (l.length : Int) = s.first + s.l.length := by simp only [List.length_cons] at hfl; omega
      obtain ⟨k1, rfl⟩ : ∃ k1, gk = k1 + 1 := ⟨gk - 1, by simp only [List.length_cons] at hk; omega⟩
      have hk1 : l.length ≤ k1 := by simp only [List.length_cons] at hk; omega
      have hf2 : 0 ≤ f + 1 := by omega
      have Hu := Lib.hid (rused_calls wr g _ HT.out (show rms (x :: l) ≤ 4611686018427387904 by omega) hll)
      have hT := HT.out
      obtain ⟨A, c, hh, hl, hC, hne⟩ := hT
      have hA : ∃ ad, A = some ad := by
        obtain ⟨ad, e, _⟩ := hC.2.2 (by simp)
        exact ⟨ad, e⟩
      obtain ⟨ad, rfl⟩ := hA
      have HH := Lib.hid hh
      have HNE := Lib.hid (hne ad rfl)
      have HC := Lib.hid hC
      have HL := Lib.hid hl
      have hgl := blk_lt' hh
      obtain ⟨A', hcut, hA1, hA2⟩ := cut1 ad x l c (by simpa using hl)
      have HA1 := Lib.hid hA1
      have HA2 := Lib.hid hA2
      have hfb : f + 1 ≤ 4611686018427387904 := by omega
      have HW := Lib.hid (show wrap64 (f + 1) = f + 1 by clear hlo hlo' hrx hlt hfl hlen; unfold wrap64; omega)
      have HLT := Lib.hid hlt
      clear hh hl hC hne hA1 hA2 hlt hlo hlo' hrx hx hfl hk hb
      go_upto_region 1 with (first | (go_at_call 31; refine Hu.out.mono ?_; rintro e w2 ⟨rfl, hb2⟩; have HB2 := Lib.hid hb2; have h3 := cells_of (blk_below hb2 HH.out) 3; have h2 := cells_of (blk_below hb2 HH.out) 2; have hzz := blk_frozen (blk_below hb2 HH.out); have hgl2 := blk_lt' (blk_below hb2 HH.out); clear hb2))
      simp only [List.getElem?_toArray, List.getElem?_cons_succ, List.getElem?_cons_zero] at h2 h3
      have hz2 := hzz 2
      have hz3 := hzz 3
      clear hzz
      go_wp2
      have hT1 : RTabK ok ((w2.setCell ⟨g, 3, none⟩ (.slice A' l.length (c - 1))).setCell ⟨g, 2, none⟩ (.int .i64 (f + 1))) g { s with first := f + 1, l := l } := by
        have HN := HNE.out
        refine RTabK.set_first (RTabK.set_l (HT.out.below HB2.out) A' _ _ ?_ ?_ ?_) _
        · have := HL.out; simp only [List.length_cons] at this; omega
        · exact HA2.out _ (Kd.C_below HC.out HB2.out)
        · intro ad' h; rw [HA1.out ad' h]; exact ⟨HN.1, Nat.lt_of_lt_of_le HN.2.1 HB2.out.size, HN.2.2⟩
      have hg1 : w.grownBy ((w2.setCell ⟨g, 3, none⟩ (.slice A' l.length (c - 1))).setCell ⟨g, 2, none⟩ (.int .i64 (f + 1))) (some g) :=
        World.grownBy.trans (World.grownBy.trans (World.grownBy.trans HG.out (grown_of_below HB2.out _)) (grownBy_set _ _ _ _)) (grownBy_set _ _ _ _)
      have HT1 := Lib.hid hT1
      have HG1 := Lib.hid hg1
      go_roundg k1
      case measure => omega
      case rel => exact ⟨f + 1, l, HT1, Lib.hid (by rw [← HSH.out, shr_yes _ _ _ _ HLT.out]), HG1, hrb, hf2, hlen, hk1⟩
    · have hlt' : decide (m < rms l) = false := decide_eq_false hlt
      have hll : l.length ≤ 140737488351232 := by omega
      have Hu := Lib.hid (rused_calls wr g _ HT.out (show rms l ≤ 4611686018427387904 by omega) hll)
      have HLT := Lib.hid hlt
      clear hlt
      go_wp2_with (first | (go_at_call 31; refine Hu.out.mono ?_; rintro e w2 ⟨rfl, hb2⟩; have HB2 := Lib.hid hb2; clear hb2))
      go_end0
      have hd : shr m f l = (f, l) := by
        cases l with
        | nil => rfl
        | cons x l => exact shr_no _ _ _ (by have := HLT.out; omega)
      refine ⟨rfl, ?_, World.grownBy.trans HG.out (grown_of_below HB2.out _)⟩
      rw [← HSH.out, hd]
      exact HT.out.below HB2.out

theorem rsetcap_no {ok : Nat → Prop} (w : World) (g : Nat) (s : TS) (n : Int) (h : RTabK ok w g s) (hn : n < 0 ∨ s.most < n) : Calls Try.prog 28 #[.pointer (some ⟨g, 0, none⟩), .int .i64 n] w fun e w' => e = .returned (.int .i64 1) ∧ w' = w := by
  obtain ⟨A, c, hh, -⟩ := h
  have h0 := cells_of hh 0
  simp at h0
  clear hh
  by_cases h1 : n < 0
  · have h1' : decide (n < 0) = true := decide_eq_true h1
    clear hn
    go_enter Try.func28, Try.ntmps28
    go_wp2
    go_ret
    exact ⟨rfl, rfl⟩
  · have h1' : decide (n < 0) = false := decide_eq_false h1
    have h2' : decide (s.most < n) = true := decide_eq_true (by omega)
    clear hn
    go_enter Try.func28, Try.ntmps28
    go_wp2
    go_ret
    exact ⟨rfl, rfl⟩
theorem rsetcap_yes {ok : Nat → Prop} (w : World) (g : Nat) (s : TS) (n : Int) (h : RTabK ok w g s) (hs : s.Ok) (hn : ¬ (n < 0 ∨ s.most < n)) : Calls Try.prog 28 #[.pointer (some ⟨g, 0, none⟩), .int .i64 n] w fun e w' => e = .returned (.int .i64 0) ∧ RTabK ok w' g (s.setCap n) ∧ w.grownBy w' (some g) := by
  have HT := Lib.hid h
  have Hs := Lib.hid (rshrink_calls (w.setCell ⟨g, 1, none⟩ (.int .i64 n)) g _ n (h.set_cap n) (show rms s.l ≤ 1000000 by have := hs.used; have := hs.fits; have := hs.cap1; have := hs.most; omega) (by omega) hs.first (by have := hs.count; show s.first + (s.l.length : Int) ≤ _; omega))
  obtain ⟨A, c, hh, -⟩ := h
  have h0 := cells_of hh 0
  have h1 := cells_of hh 1
  have hz := blk_frozen hh 1
  have hgl := blk_lt' hh
  simp only [List.getElem?_toArray, List.getElem?_cons_succ, List.getElem?_cons_zero] at h0 h1
  clear hh
  have h1' : decide (n < 0) = false := decide_eq_false (by omega)
  have h2' : decide (s.most < n) = false := decide_eq_false (by omega)
  clear hn
  go_enter Try.func28, Try.ntmps28
  go_wp2_with (first | (go_at_call 44; refine Hs.out.mono ?_; rintro e w2 ⟨rfl, hT2, hg2⟩; have HT2 := Lib.hid hT2; have HG2 := Lib.hid hg2; clear hT2 hg2))
  go_ret
  exact ⟨rfl, HT2.out, World.grownBy.trans (grownBy_set _ _ _ _) HG2.out⟩
theorem rsetcap_any {ok : Nat → Prop} (w : World) (g : Nat) (s : TS) (n : Int) (h : RTabK ok w g s) (hs : s.Ok) : Calls Try.prog 28 #[.pointer (some ⟨g, 0, none⟩), .int .i64 n] w fun e w' => e = .returned (.int .i64 (s.scap n).2) ∧ RTabK ok w' g (s.scap n).1 ∧ w.grownBy w' (some g) := by
  unfold TS.scap
  by_cases hn : n < 0 ∨ s.most < n
  · rw [if_pos hn]
    refine (rsetcap_no w g s n h hn).mono ?_
    rintro e w' ⟨rfl, rfl⟩
    exact ⟨rfl, h, World.grownBy.refl _ _⟩
  · rw [if_neg hn]
    exact rsetcap_yes w g s n h hs hn
end Go.Proofs.Ytakdfjehjnhikaa.Q
