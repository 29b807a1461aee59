import Derived.Test.YtakdfjehjnhikaaQn
namespace Go.Proofs.Ytakdfjehjnhikaa.Q
open Go.RowKit Go.Proofs.YtakdfjehjnhikaaW.PrintWords Go.Proofs.YtakdfjehjnhikaaW.PrintLast Go.Proofs.YtakdfjehjnhikaaW.PrintMore Go.Proofs.Ytakdfjehjnhikaa.G
set_option linter.unusedVariables false
set_option linter.unusedSimpArgs false

/-- what was put in is the last one -/
theorem play_last (s : TS) (k n : Int) (x : S29) (h : (s.play k n x).2.2 = true) : ∃ L, (s.play k n x).1.l = L ++ [x] ∧ (s.play k n x).2.1 = (s.play k n x).1.first + (L.length : Int) := by
  unfold TS.play at h ⊢
  split
  · rename_i hk
    rw [if_pos hk] at h
    unfold TS.ins at h ⊢
    split
    · rename_i h1
      rw [if_pos h1] at h
      split
      · rename_i h2
        rw [if_pos h2] at h
        simp at h
      · refine ⟨(s.cut (s.cap - rm x)).l, rfl, ?_⟩
        have : (s.insert x).l = (s.cut (s.cap - rm x)).l ++ [x] := rfl
        show (s.insert x).first + ((s.insert x).l.length : Int) - 1 = (s.insert x).first + _
        rw [this]
        simp
        omega
    · rename_i h1
      rw [if_neg h1] at h
      simp at h
  · rename_i hk
    rw [if_neg hk] at h
    split
    · rename_i hk2
      rw [if_pos hk2] at h
      simp at h
    · rename_i hk2
      rw [if_neg hk2] at h
      simp at h
theorem rd_last (L : List S29) (x : S29) : rd_T29 (L ++ [x]) (L.length : Int) = x := by
  unfold rd_T29
  simp
theorem last_new (s : TS) (p : S29 → Bool) (L : List S29) (x : S29) (h : s.l = L ++ [x]) (hp : p x = true) : s.last p = wrap64 (s.first + (L.length : Int)) := by
  unfold TS.last
  rw [lastAt_some p s.l L.length (by rw [h, rd_last]; exact hp) s.l.length (by rw [h]; simp) (fun i h1 h2 => by rw [h] at h2; simp at h2; omega)]
theorem sameAs_self (x : S29) : sameAs x x = true := by simp [sameAs]
theorem namedAs_self (x : S29) : namedAs x.f0 x = true := by simp [namedAs]

attribute [local go_sem high] eqA29
set_option maxHeartbeats 4000000 in
set_option maxRecDepth 100000 in
theorem last_yes (w : World) (most : Int) (A : Option Addr) (c : Nat) (l : List S31) (h0 : 0 ≤ most) (h1 : most ≤ 4096) (hC : Kd.C k31 w A l.length l) (hl : l.length ≤ 140737488351232) (ha : ActsOk l) :
    Calls Try.prog 6 #[.int .i64 most, .slice A l.length c] w fun e w' => e = .returned (.bool true) ∧ Below w.heap.size w w' := by
  have Hn := Lib.hid (new_yes w most h0 h1)
  have HC := Lib.hid hC
  clear hC
  go_enter Try.func6, Try.ntmps6
  go_wp2_with (first | (go_at_call 9; refine Hn.out.mono ?_; rintro e w1 ⟨rfl, hT, hb⟩; have HT1 := Lib.hid hT; have HB1 := Lib.hid hb; clear hT hb) | (go_at_call 10; refine (alive_calls _).mono ?_; rintro e w2 ⟨rfl, hb⟩; have HT2 := Lib.hid (HT1.out.below hb); have HB2 := Lib.hid (below_step HB1.out hb); clear hb))
  go_loopg [33] l.length (fun k v33 W => ∃ (i : Nat) (s : TS), v33 = .int .i64 i ∧ i ≤ l.length ∧ l.length ≤ k + i ∧ Hid (TabAt W w.heap.size s) ∧ s.Ok ∧ s.first + s.l.length ≤ i ∧ Hid (Below w.heap.size w W))
  case atStart => exact ⟨0, ⟨most, 0, 0, 0, []⟩, rfl, Nat.zero_le _, Nat.le_refl _, HT2, new_ok most h0 h1, by simp, HB2⟩
  case round =>
    obtain ⟨i, s, rfl, hi, hk, HT, hs, hcnt, HB⟩ := hrel
    clear HT1 HB1 HT2 HB2 Hn
    by_cases hlt : i < l.length
    · obtain ⟨ad, rfl, hx0, hx1, hx2, hx3⟩ := at_T31 (Kd.C_below HC.out HB.out) i (by omega) (by omega)
      obtain ⟨hk0, hk1⟩ := acts_rd ha i (by omega) (by omega)
      rw [show (i : Int).toNat = i from Int.toNat_natCast i] at hx0 hx1 hx2 hx3
      have hal := World.block_lt_of_cell? wr _ hx0
      have Hs := Lib.hid hs
      obtain ⟨x, hx⟩ : ∃ x, x = rd_T31 l i := ⟨_, rfl⟩
      rw [← hx] at hx0 hx1 hx2 hx3 hk0 hk1
      have HX := Lib.hid hx
      have hs3 := play_ok s x.f0 x.f1 x.f2 hs (by have := hs.count; omega)
      have hc3 := play_count s x.f0 x.f1 x.f2 hs
      have hi1 : i + 1 ≤ l.length := hlt
      obtain ⟨ko, rfl⟩ : ∃ ko, gk = ko + 1 := ⟨gk - 1, by omega⟩
      have hk2 : l.length ≤ ko + (i + 1) := by omega
      have hsz : w.heap.size < wr.heap.size := by obtain ⟨A, c, hh, -⟩ := HT.out; exact blk_lt' hh
      have Hp := Lib.hid (fun W hT => plays_any (ok := fun _ => True) W w.heap.size s x.f0 x.f1 x.f2 hk0 hk1 (fun _ _ => trivial) hT hs)
      have Hin := Lib.hid (play_last s x.f0 x.f1 x.f2)
      obtain ⟨b, hbe⟩ : ∃ t, t = (s.play x.f0 x.f1 x.f2).2.2 := ⟨_, rfl⟩
      obtain ⟨n3, hne⟩ : ∃ t, t = (s.play x.f0 x.f1 x.f2).2.1 := ⟨_, rfl⟩
      obtain ⟨s3, hs3e⟩ : ∃ t, t = (s.play x.f0 x.f1 x.f2).1 := ⟨_, rfl⟩
      rw [← hs3e] at hs3 hc3 Hp Hin
      rw [← hbe] at Hp Hin
      rw [← hne] at Hp Hin
      have hcnt2 : s3.first + (s3.l.length : Int) ≤ ((i + 1 : Nat) : Int) := by omega
      have Hs3 := Lib.hid hs3
      clear hs hx hs3e hbe hne hlt hc3
      have hwi : wrap64 ((i : Int) + 1) = (i : Int) + 1 := by clear hcnt hcnt2 hs3; unfold wrap64; omega
      have HWI := Lib.hid hwi
      clear hwi hs3
      cases b with
      | false =>
        go_wp2_with (first | (go_at_call 11; refine (Hp.out _ (HT.out.below (below_alloc (Below.refl _ _) _))).mono ?_; rintro e w3 ⟨rfl, hT3, hg3⟩; have HT3 := Lib.hid hT3; have HG3 := Lib.hid hg3; clear hT3 hg3))
        go_roundg ko
        case measure => omega
        case rel => exact ⟨i + 1, s3, by first | exact congrArg (Value.int .i64) HWI.out | go_num, hi1, hk2, HT3, Hs3.out, hcnt2, Lib.hid (below_of_grown (below_alloc HB.out _) HG3.out (Nat.le_refl _))⟩
      | true =>
        obtain ⟨L, hL, hn⟩ := Hin.out rfl
        have hf := Hs3.out.first
        have hll : s3.l.length = L.length + 1 := by rw [hL]; simp
        have hlen3 := len_le s3 Hs3.out
        have hw0 : wrap64 (s3.first + (L.length : Int)) = n3 := by rw [hn]; unfold wrap64; omega
        have Hget : Hid (∀ W, TabAt W w.heap.size s3 → Calls Try.prog 16 #[.pointer (some ⟨w.heap.size, 0, none⟩), .int .i64 n3] W fun e w' => e = .returned (.tuple #[.agg #[.string x.f2.f0, .string x.f2.f1], .int .i64 0]) ∧ Below W.heap.size W w') := Lib.hid (fun W hW => by
          have h1 := get_made W _ s3 (s3.first + (L.length : Int)) hW hf (by omega)
          rw [get_at s3 L.length (by omega)] at h1
          rw [← hn, hL, rd_last] at h1
          exact h1)
        have Hfind : Hid (∀ W, TabAt W w.heap.size s3 → Calls Try.prog 23 #[.pointer (some ⟨w.heap.size, 0, none⟩), .agg #[.string x.f2.f0, .string x.f2.f1]] W fun e w' => e = .returned (.tuple #[.int .i64 n3, .int .i64 n3]) ∧ Below W.heap.size W w') := Lib.hid (fun W hW => by
          have h1 := find_made W _ s3 x.f2 hW (by omega)
          rw [last_new s3 _ L x.f2 hL (sameAs_self _), last_new s3 _ L x.f2 hL (namedAs_self _), hw0] at h1
          exact h1)
        have hw1 : wrap64 (s3.first + (s3.l.length : Int)) = n3 + 1 := by rw [hn]; unfold wrap64; omega
        have Hcount : Hid (∀ W, TabAt W w.heap.size s3 → Calls Try.prog 15 #[.pointer (some ⟨w.heap.size, 0, none⟩)] W fun e w' => e = .returned (.int .i64 (n3 + 1)) ∧ Drawn0 W w') := Lib.hid (fun W hW => by
          have := count_made W _ s3 hW
          rw [hw1] at this
          exact this)
        have hn0 : -10 ≤ n3 ∧ n3 ≤ 4611686018427387904 := by have := Hs3.out.count; omega
        clear hw0 hw1 hL hn hll hlen3 hf hcnt
        go_upto_region 11 with (first | (go_at_call 11; refine (Hp.out _ (HT.out.below (below_alloc (Below.refl _ _) _))).mono ?_; rintro e w3 ⟨rfl, hT3, hg3⟩; have HT3 := Lib.hid hT3; have HG3 := Lib.hid hg3; have BX3 := Lib.hid (blk_grown hg3 (heap_alloc_new wr (.cells #[.int .u8 x.f0, .int .i64 x.f1, .string x.f2.f0, .string x.f2.f1] 31)) (by omega)); clear hT3 hg3) | (go_at_call 16; refine (Hget.out _ HT3.out).mono ?_; rintro e w6 ⟨rfl, hb6⟩; have HB6 := Lib.hid (below_alloc hb6 (.cells #[.string x.f2.f0, .string x.f2.f1] 29)); have y2 := cells_of (blk_below HB6.out BX3.out) 2; have y3 := cells_of (blk_below HB6.out BX3.out) 3; simp only [List.getElem?_toArray, List.getElem?_cons_succ, List.getElem?_cons_zero] at y2 y3; have BY6 := Lib.hid (heap_alloc_new w6 (.cells #[.string x.f2.f0, .string x.f2.f1] 29)); clear hb6) | (go_at_call 23; refine (Hfind.out _ (HT3.out.below HB6.out)).mono ?_; rintro e w7 ⟨rfl, hb7⟩; have HB7 := Lib.hid (below_step HB6.out hb7); have u2 := pw_cell_below hb7 y2; have u3 := pw_cell_below hb7 y3; have u0 := box0 (blk_below hb7 BY6.out); have u1 := box1 (blk_below hb7 BY6.out); clear y2 y3 hb7))
        have HT7 := Lib.hid (HT3.out.below HB7.out)
        have HBX := Lib.hid (below_step (below_of_grown (below_alloc HB.out (.cells #[.int .u8 x.f0, .int .i64 x.f1, .string x.f2.f0, .string x.f2.f1] 31)) HG3.out (Nat.le_refl _)) HB7.out)
        go_wp2_with (first | (go_at_call 15; refine (Hcount.out _ HT7.out).mono ?_; rintro e w' ⟨rfl, ⟨⟨m, rfl⟩⟩⟩; have HBm := Lib.hid (below_step HBX.out (pw_below_drewN (Below.refl _ _) m)); have HTm := Lib.hid (HT7.out.below (pw_below_drewN (Below.refl _ _) m))))
        go_roundg ko
        case measure => omega
        case rel => exact ⟨i + 1, s3, by first | exact congrArg (Value.int .i64) HWI.out | go_num, hi1, hk2, HTm, Hs3.out, hcnt2, HBm⟩
    · have c0 : decide ((i : Int) < (l.length : Int)) = false := decide_eq_false (by omega)
      go_wp2
      go_ret
      exact ⟨rfl, HB.out⟩

theorem last_no (w : World) (most : Int) (A : Option Addr) (c : Nat) (l : List S31) (h : most < 0 ∨ 4096 < most) :
    Calls Try.prog 6 #[.int .i64 most, .slice A l.length c] w fun e w' => e = .returned (.bool true) ∧ Below w.heap.size w w' := by
  have Hn := Lib.hid (new_no w most h)
  go_enter Try.func6, Try.ntmps6
  go_wp2_with (first | (go_at_call 9; refine Hn.out.mono ?_; rintro e w' ⟨rfl, rfl⟩) | (go_at_call 10; refine (alive_calls _).mono ?_; rintro e w' ⟨rfl, hb⟩; have HB := Lib.hid hb; clear hb))
  go_ret
  exact ⟨rfl, HB.out⟩

theorem last_any (w : World) (most : Int) (A : Option Addr) (c : Nat) (l : List S31) (hC : Kd.C k31 w A l.length l) (hl : l.length ≤ 140737488351232) (ha : ActsOk l) :
    Calls Try.prog 6 #[.int .i64 most, .slice A l.length c] w fun e w' => e = .returned (.bool true) ∧ Below w.heap.size w w' := by
  by_cases h : most < 0 ∨ 4096 < most
  · exact last_no w most A c l h
  · exact last_yes w most A c l (by omega) (by omega) hC hl ha
end Go.Proofs.Ytakdfjehjnhikaa.Q
