import Derived.Test.YtakdfjehjnhikaaQh
namespace Go.Proofs.Ytakdfjehjnhikaa.Q
open Go.RowKit Go.Proofs.YtakdfjehjnhikaaW.PrintWords Go.Proofs.YtakdfjehjnhikaaW.PrintLast Go.Proofs.YtakdfjehjnhikaaW.PrintMore Go.Proofs.Ytakdfjehjnhikaa.G
set_option linter.unusedVariables false
set_option linter.unusedSimpArgs false

/-! acts -/
structure S31 where
  f0 : Int
  f1 : Int
  f2 : S29
def z31 : S31 := ⟨0, 0, z29⟩
def k31 : Kd S31 := Kd.iso (Kd.pair (Kd.int .u8) (Kd.pair (Kd.int .i64) k29)) (fun x : S31 => (x.f0, x.f1, x.f2))
theorem k31_open {w : World} {x : S31} {cs : List Value} (h : k31.K w x cs) : cs = [.int .u8 x.f0, .int .i64 x.f1, .string x.f2.f0, .string x.f2.f1] := by
  obtain ⟨_, _, rfl, rfl, _, _, rfl, rfl, h2⟩ := h
  rw [k29_open h2]
  rfl
def rd_T31 (xs : List S31) (i : Int) : S31 := xs.getD i.toNat z31
theorem at_T31 {w : World} {A : Option Addr} {n : Nat} {xs : List S31} (h : Kd.C k31 w A n xs) (i : Int) (h0 : 0 ≤ i) (h1 : i < n) : ∃ ad , A = some ad ∧ w.cell? (ad.add (i.toNat * 4)) = some (.int .u8 (rd_T31 xs i).f0) ∧ w.cell? ⟨(ad.add (i.toNat * 4)).block, (ad.add (i.toNat * 4)).off + 1, none⟩ = some (.int .i64 (rd_T31 xs i).f1) ∧ w.cell? ⟨(ad.add (i.toNat * 4)).block, (ad.add (i.toNat * 4)).off + 2, none⟩ = some (.string (rd_T31 xs i).f2.f0) ∧ w.cell? ⟨(ad.add (i.toNat * 4)).block, (ad.add (i.toNat * 4)).off + 3, none⟩ = some (.string (rd_T31 xs i).f2.f1) := by
  obtain ⟨ad, c, e, _, hK, hc0⟩ := Kd.C_get h z31 i h0 h1
  have hc : ∀ j u, c[j]? = some u → w.cell? (ad.add (i.toNat * 4 + j)) = some u := hc0
  obtain rfl := k31_open hK
  exact ⟨ad, e, hc 0 _ rfl, by rw [← add_field _ _ 1 (by omega)]; exact hc 1 _ rfl, by rw [← add_field _ _ 2 (by omega)]; exact hc 2 _ rfl, by rw [← add_field _ _ 3 (by omega)]; exact hc 3 _ rfl⟩

/-- acts as they are read: each kind is a byte -/
def ActsOk (l : List S31) : Prop := ∀ x ∈ l, 0 ≤ x.f0 ∧ x.f0 ≤ 255
theorem acts_rd {l : List S31} (h : ActsOk l) (i : Int) (h0 : 0 ≤ i) (h1 : i < l.length) : 0 ≤ (rd_T31 l i).f0 ∧ (rd_T31 l i).f0 ≤ 255 := by
  unfold rd_T31
  rw [List.getD_eq_getElem?_getD, List.getElem?_eq_getElem (by omega)]
  exact h _ (List.getElem_mem _)

theorem bounds_no (w : World) (most : Int) (A : Option Addr) (c : Nat) (l : List S31) (h : most < 0 ∨ 4096 < most) :
    Calls Try.prog 3 #[.int .i64 most, .slice A l.length c] w fun e w' => e = .returned (.bool true) ∧ Below w.heap.size w w' := by
  have Hn := Lib.hid (new_no w most h)
  go_enter Try.func3, Try.ntmps3
  go_wp2_with (first | (go_at_call 9; refine Hn.out.mono ?_; rintro e w' ⟨rfl, rfl⟩) | (go_at_call 10; refine (alive_calls _).mono ?_; rintro e w' ⟨rfl, hb⟩; have HB := Lib.hid hb; clear hb))
  go_ret
  exact ⟨rfl, HB.out⟩

theorem rms_take_succ (l : List S29) (j : Nat) (h : j < l.length) : rms (l.take (j + 1)) = rms (l.take j) + rm (rd_T29 l j) := by
  rw [List.take_succ_eq_append_getElem h, rms_append]
  unfold rd_T29
  rw [List.getD_eq_getElem?_getD, Int.toNat_natCast, List.getElem?_eq_getElem h]
  simp [rms]
theorem rms_take_le (l : List S29) (j : Nat) : rms (l.take j) ≤ rms l := by
  have h : l = l.take j ++ l.drop j := (List.take_append_drop j l).symm
  have h2 := rms_nonneg (l.drop j)
  have h3 : rms l = rms (l.take j) + rms (l.drop j) := by rw [← rms_append, ← h]
  omega
theorem get_at (s : TS) (j : Nat) (h : j < s.l.length) : s.get (s.first + j) = (rd_T29 s.l j, 0) := by
  unfold TS.get
  rw [if_neg (by omega), show s.first + (j : Int) - s.first = j by omega]

theorem new_ok (n : Int) (h0 : 0 ≤ n) (h1 : n ≤ 4096) : TS.Ok ⟨n, 0, 0, 0, []⟩ := ⟨rfl, Int.le_refl _, Int.le_refl _, h0, h1, Int.le_refl _, by simp⟩
theorem len_le (s : TS) (hs : s.Ok) : (s.l.length : Int) ≤ 128 := by
  have h1 := rms_lo s.l
  have h2 := hs.used
  have h3 := hs.fits
  have h4 := hs.cap1
  have h5 := hs.most
  omega

set_option maxRecDepth 100000 in
theorem bounds_yes (w : World) (most : Int) (A : Option Addr) (c : Nat) (l : List S31) (h0 : 0 ≤ most) (h1 : most ≤ 4096) (hC : Kd.C k31 w A l.length l) (hl : l.length ≤ 140737488351232) (ha : ActsOk l) :
    Calls Try.prog 3 #[.int .i64 most, .slice A l.length c] w fun e w' => e = .returned (.bool true) ∧ Below w.heap.size w w' := by
  have Hn := Lib.hid (new_yes w most h0 h1)
  have HC := Lib.hid hC
  clear hC
  go_enter Try.func3, Try.ntmps3
  go_wp2_with (first | (go_at_call 9; refine Hn.out.mono ?_; rintro e w1 ⟨rfl, hT, hb⟩; have HT1 := Lib.hid hT; have HB1 := Lib.hid hb; clear hT hb) | (go_at_call 10; refine (alive_calls _).mono ?_; rintro e w2 ⟨rfl, hb⟩; have HT2 := Lib.hid (HT1.out.below hb); have HB2 := Lib.hid (below_step HB1.out hb); clear hb))
  go_loopg [31] l.length (fun k v31 W => ∃ (i : Nat) (s : TS), v31 = .int .i64 i ∧ i ≤ l.length ∧ l.length ≤ k + i ∧ Hid (TabAt W w.heap.size s) ∧ s.Ok ∧ Hid (s.most = most) ∧ s.first + s.l.length ≤ i ∧ Hid (Below w.heap.size w W))
  case atStart => exact ⟨0, ⟨most, 0, 0, 0, []⟩, rfl, Nat.zero_le _, Nat.le_refl _, HT2, new_ok most h0 h1, Lib.hid rfl, by simp, HB2⟩
  case round =>
    obtain ⟨i, s, rfl, hi, hk, HT, hs, HM, hcnt, HB⟩ := hrel
    clear HT1 HB1 HT2 HB2 Hn
    by_cases hlt : i < l.length
    · obtain ⟨ad, rfl, hx0, hx1, hx2, hx3⟩ := at_T31 (Kd.C_below HC.out HB.out) i (by omega) (by omega)
      obtain ⟨hk0, hk1⟩ := acts_rd ha i (by omega) (by omega)
      rw [show (i : Int).toNat = i from Int.toNat_natCast i] at hx0 hx1 hx2 hx3
      have hal := World.block_lt_of_cell? wr _ hx0
      have Hs := Lib.hid hs
      have hfirst := hs.first
      clear hs
      obtain ⟨x, hx⟩ : ∃ x, x = rd_T31 l i := ⟨_, rfl⟩
      rw [← hx] at hx0 hx1 hx2 hx3 hk0 hk1
      have HX := Lib.hid hx
      clear hx
      go_upto_region 8 with (first | (go_at_call 11; refine (plays_any _ _ s x.f0 x.f1 x.f2 hk0 hk1 (fun _ _ => trivial) (HT.out.below (below_alloc (Below.refl _ _) _)) Hs.out).mono ?_; rintro e w3 ⟨rfl, hT3, hg3⟩; have HT3 := Lib.hid hT3; have HG3 := Lib.hid hg3; clear hT3 hg3))
      have hs3 := play_ok s x.f0 x.f1 x.f2 Hs.out (by have := Hs.out.count; omega)
      have hc3 := play_count s x.f0 x.f1 x.f2 Hs.out
      have hm3 := play_most s x.f0 x.f1 x.f2
      obtain ⟨s3, hs3e⟩ : ∃ t, t = (s.play x.f0 x.f1 x.f2).1 := ⟨_, rfl⟩
      rw [← hs3e] at hs3 hc3 hm3 HT3
      have HM3 := Lib.hid (hm3.trans HM.out)
      have hlen3 := len_le s3 hs3
      have hsz3 : w.heap.size < w3.heap.size := by obtain ⟨A, c, hh, -⟩ := HT3.out; exact blk_lt' hh
      have f1 := hs3.first
      have b1 : decide (s3.cap < 0) = false := decide_eq_false (by have := hs3.cap0; omega)
      have b2 : decide (most < s3.cap) = false := decide_eq_false (by have := hs3.cap1; have := HM3.out; omega)
      have b3 : decide (s3.cap < s3.used) = false := decide_eq_false (by have := hs3.fits; omega)
      have b4 : decide (s3.first < 0) = false := decide_eq_false (by omega)
      have hw3 : wrap64 (s3.first + (s3.l.length : Int)) = s3.first + (s3.l.length : Int) := by unfold wrap64; omega
      have b5 : decide (s3.first + (s3.l.length : Int) < s3.first) = false := decide_eq_false (by omega)
      have hw4 : wrap64 (s3.first + (s3.l.length : Int) - s3.first) = (s3.l.length : Int) := by rw [show s3.first + (s3.l.length : Int) - s3.first = (s3.l.length : Int) by omega]; unfold wrap64; omega
      have b6 : decide ((200 : Int) < s3.first + (s3.l.length : Int) - s3.first) = false := decide_eq_false (by omega)
      have Hcount : Hid (∀ W, TabAt W w.heap.size s3 → Calls Try.prog 15 #[.pointer (some ⟨w.heap.size, 0, none⟩)] W fun e w' => e = .returned (.int .i64 (s3.first + (s3.l.length : Int))) ∧ Drawn0 W w') := Lib.hid (fun W hW => by
        have := count_made W _ s3 hW
        rw [hw3] at this
        exact this)
      have Hs3 := Lib.hid hs3
      have HTT := fun m => Lib.hid (HT3.out.below (pw_below_drewN (Below.refl w3.heap.size w3) m))
      clear hs3 hm3 hs3e hw3
      go_wp2_with (first | (go_at_call 12; refine (cap_made _ _ s3 HT3.out).mono ?_; rintro e w' ⟨rfl, h_⟩; obtain rfl := h_.symm) | (go_at_call 13; refine (used_made _ _ s3 HT3.out).mono ?_; rintro e w' ⟨rfl, h_⟩; obtain rfl := h_.symm) | (go_at_call 14; refine (first_made _ _ s3 (by first | exact HT3.out | exact (HTT _).out)).mono ?_; rintro e w' ⟨rfl, h_⟩; obtain rfl := h_.symm) | (go_at_call 15; refine (Hcount.out _ (by first | exact HT3.out | exact (HTT _).out)).mono ?_; rintro e w' ⟨rfl, ⟨⟨m, rfl⟩⟩⟩))
      clear b1 b2 b3 b4 b5 b6 hw4 hx0 hx1 hx2 hx3
      obtain ⟨ko, rfl⟩ : ∃ ko, gk = ko + 1 := ⟨gk - 1, by omega⟩
      have hi1 : i + 1 ≤ l.length := hlt
      have hk2 : l.length ≤ ko + (i + 1) := by omega
      have hcnt2 : s3.first + (s3.l.length : Int) ≤ ((i + 1 : Nat) : Int) := by omega
      have HW : Hid (Below w3.heap.size w3 w3) := Lib.hid (Below.refl _ _)
      go_loopg [9, 10] s3.l.length (fun k v9 v10 W => ∃ (j : Nat), v9 = .int .i64 (rms (s3.l.take j)) ∧ v10 = .int .i64 (s3.first + (j : Int)) ∧ j ≤ s3.l.length ∧ s3.l.length ≤ k + j ∧ Hid (Below w3.heap.size w3 W))
      case atStart => exact ⟨0, by simp [rms], by simp, Nat.zero_le _, by omega, Lib.hid (by repeat (first | exact Below.refl _ _ | apply pw_below_drewN))⟩
      case round =>
        obtain ⟨j, rfl, rfl, hj, hkj, HBj⟩ := hrel
        have HTj := Lib.hid (HT3.out.below HBj.out)
        have hsu := Hs3.out.used
        have hsf := Hs3.out.fits
        have hsc := Hs3.out.cap1
        have hsm := Hs3.out.most
        have hscc := Hs3.out.count
        by_cases hjl : j < s3.l.length
        · have c1 : decide (s3.first + (j : Int) < s3.first + (s3.l.length : Int)) = true := decide_eq_true (by omega)
          have hrt := rms_take_succ s3.l j hjl
          have hrl := rms_take_le s3.l (j + 1)
          have hr0 := rms_nonneg (s3.l.take j)
          have hrm := rm_lo (rd_T29 s3.l j)
          have Hget : Hid (∀ W, TabAt W w.heap.size s3 → Calls Try.prog 16 #[.pointer (some ⟨w.heap.size, 0, none⟩), .int .i64 (s3.first + (j : Int))] W fun e w' => e = .returned (.tuple #[.agg #[.string (rd_T29 s3.l j).f0, .string (rd_T29 s3.l j).f1], .int .i64 0]) ∧ Below W.heap.size W w') := Lib.hid (fun W hW => by
            have := get_made W _ s3 (s3.first + (j : Int)) hW f1 (by omega)
            rw [get_at s3 j hjl] at this
            exact this)
          have hwa : wrap64 (rms (s3.l.take j) + rm (rd_T29 s3.l j)) = rms (s3.l.take (j + 1)) := by rw [hrt]; unfold wrap64; omega
          have hwb : wrap64 (s3.first + (j : Int) + 1) = s3.first + (j : Int) + 1 := by unfold wrap64; omega
          have HR := Lib.hid hrt
          have hrmb : rm (rd_T29 s3.l j) ≤ 4611686018427387904 := by omega
          clear hrt hsu hsf hsc hsm hscc hrl hr0
          go_wp2_with (first | (go_at_call 15; refine (Hcount.out _ HTj.out).mono ?_; rintro e w' ⟨rfl, ⟨⟨m, rfl⟩⟩⟩; have HBm := Lib.hid (below_step HBj.out (pw_below_drewN (Below.refl _ _) m)); have HTm := Lib.hid (HT3.out.below HBm.out)) | (go_at_call 16; refine (Hget.out _ HTm.out).mono ?_; rintro e w5 ⟨rfl, hb5⟩; have HB5 := Lib.hid (below_step HBm.out hb5); clear hb5) | (go_at_call 17; refine (room_calls _ _ hrmb).mono ?_; rintro e w6 ⟨rfl, hb6⟩; have HB6 := Lib.hid (below_step (below_alloc HB5.out _) hb6); clear hb6))
          obtain ⟨k1, rfl⟩ : ∃ k1, gk = k1 + 1 := ⟨gk - 1, by omega⟩
          go_roundg k1
          case measure => omega
          case rel => exact ⟨j + 1, congrArg (Value.int .i64) hwa, by go_num, by omega, by omega, HB6⟩
        · have c1 : decide (s3.first + (j : Int) < s3.first + (s3.l.length : Int)) = false := decide_eq_false (by omega)
          have hju : rms (s3.l.take j) = s3.used := by rw [show j = s3.l.length by omega, List.take_length, hsu]
          have hjb : (rms (s3.l.take j) != s3.used) = false := by rw [hju]; simp
          clear hju hsu hsf hsc hsm hscc
          go_wp2_with (first | (go_at_call 15; refine (Hcount.out _ HTj.out).mono ?_; rintro e w' ⟨rfl, ⟨⟨m, rfl⟩⟩⟩; have HBm := Lib.hid (below_step HBj.out (pw_below_drewN (Below.refl _ _) m)); have HTm := Lib.hid (HT3.out.below HBm.out)) | (go_at_call 13; refine (used_made _ _ s3 HTm.out).mono ?_; rintro e w' ⟨rfl, h_⟩; obtain rfl := h_.symm))
          have hwi : wrap64 ((i : Int) + 1) = (i : Int) + 1 := by unfold wrap64; omega
          go_roundg ko
          case measure => omega
          case rel => exact ⟨i + 1, s3, by go_num, hi1, hk2, HTm, Hs3.out, HM3, hcnt2, Lib.hid (below_step (below_of_grown (below_alloc HB.out _) HG3.out (Nat.le_refl _)) HBm.out)⟩
    · have c0 : decide ((i : Int) < (l.length : Int)) = false := decide_eq_false (by omega)
      go_wp2
      go_ret
      exact ⟨rfl, HB.out⟩

theorem bounds_any (w : World) (most : Int) (A : Option Addr) (c : Nat) (l : List S31) (hC : Kd.C k31 w A l.length l) (hl : l.length ≤ 140737488351232) (ha : ActsOk l) :
    Calls Try.prog 3 #[.int .i64 most, .slice A l.length c] w fun e w' => e = .returned (.bool true) ∧ Below w.heap.size w w' := by
  by_cases h : most < 0 ∨ 4096 < most
  · exact bounds_no w most A c l h
  · exact bounds_yes w most A c l (by omega) (by omega) hC hl ha
end Go.Proofs.Ytakdfjehjnhikaa.Q
