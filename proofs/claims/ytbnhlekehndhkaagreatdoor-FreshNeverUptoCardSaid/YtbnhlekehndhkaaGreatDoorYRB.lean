import Derived.Test.YtbnhlekehndhkaaGreatDoorYFH
import Derived.Test.YtbnhlekehndhkaaGreatDoorYPw
import Derived.Test.YtbnhlekehndhkaaGreatDoorYGA
import Derived.Test.YtbnhlekehndhkaaGreatDoorYDaT





/- The document's cut and Seconds are the program's; set. -/
namespace Go.Proofs.YtbnhlekehndhkaaGreatDoor.Rb
open Go.RowKit Go.Proofs.YtbnhlekehndhkaaGreatDoorW.PrintWords Go.Proofs.YtbnhlekehndhkaaGreatDoorW.PrintLast Go.Proofs.YtbnhlekehndhkaaGreatDoorW.PrintMore Go.Proofs.YtbnhlekehndhkaaGreatDoor.G Go.Proofs.YtbnhlekehndhkaaGreatDoor.V
set_option linter.unusedVariables false
set_option linter.unusedSimpArgs false
theorem cut_l0 (s : ByteArray) (hs : s.size < 4611686018427387904) : ∀ (t : List UInt8) (i k : Nat), (D s).drop i = t → (61 : UInt8) ∉ (D s).take i → i ≤ s.size → t.length + 1 ≤ k →
    turnbuckleref17_cut.l0 k s (i : Int) = some (mk (Lib.cut (D s) [61]).1, mk (Lib.cut (D s) [61]).2.1, (Lib.cut (D s) [61]).2.2)
  | [], i, k, h, hn, hi, hk => by
    obtain ⟨k, rfl⟩ : ∃ k', k = k' + 1 := ⟨k - 1, by omega⟩
    have hl : (D s).length ≤ i := List.drop_eq_nil_iff.1 h
    rw [List.take_of_length_le hl] at hn
    have he : Lib.cut (D s) [61] = (D s, [], false) := by unfold Lib.cut; rw [Da.index_no _ hn]; rfl
    rw [D_len] at hl
    rw [he]
    unfold turnbuckleref17_cut.l0
    rw [if_neg (by omega), mk_D]
    rfl
  | c :: t, i, k, h, hn, hi, hk => by
    obtain ⟨k, rfl⟩ : ∃ k', k = k' + 1 := ⟨k - 1, by omega⟩
    obtain ⟨h1, h2, h3⟩ := drop_step h
    rw [D_len] at h3
    simp only [List.length_cons] at hk
    unfold turnbuckleref17_cut.l0
    rw [if_pos (by omega), if_pos (by omega), bt_D s i c t h, w64 i (by omega)]
    by_cases hc : c = 61
    · subst hc
      have hsplit : D s = (D s).take i ++ 61 :: t := by rw [← h, List.take_append_drop]
      have hix : Lib.index (D s) [61] = (i : Int) := by
        have := Da.index_cut ((D s).take i) t hn
        rw [← hsplit, List.length_take, D_len, Nat.min_eq_left (by omega)] at this
        exact this
      have he : Lib.cut (D s) [61] = ((D s).take i, t, true) := by
        unfold Lib.cut
        rw [hix, if_pos (by omega), Int.toNat_natCast]
        simp only [List.length_cons, List.length_nil]
        rw [h1]
      rw [he, if_pos (by decide), if_pos (by omega), if_pos (by omega), if_pos (by omega), ext_D, ext_D, Int.toNat_natCast, Int.toNat_natCast, List.drop_zero, show (D s).take s.size = D s from List.take_of_length_le (by rw [D_len]; exact Nat.le_refl _), h1]
    · rw [if_neg (by rw [show (61 : Int) = ((61 : Nat) : Int) from rfl, u8_eq c 61 (by omega)]; exact hc)]
      exact cut_l0 s hs t (i + 1) k h1 (by rw [h2]; simp [hn, Ne.symm hc]) (by omega) (by omega)
theorem cut_f (s : ByteArray) (hs : s.size < 4611686018427387904) (k : Nat) (hk : s.size + 1 ≤ k) : turnbuckleref17_cut.f k s = some (mk (Lib.cut (D s) [61]).1, mk (Lib.cut (D s) [61]).2.1, (Lib.cut (D s) [61]).2.2) :=
  cut_l0 s hs (D s) 0 k rfl (by simp) (by omega) (by rw [D_len]; exact hk)
/-- the number so far, cut off at 2^31; none: a byte is no digit -/
def sat : Int → List UInt8 → Option Int
  | n, [] => some n
  | n, c :: t => if 48 ≤ c.toNat ∧ c.toNat ≤ 57 then sat (min (n * 10 + ((c.toNat : Int) - 48)) 2147483648) t else none
def satR (s : ByteArray) (o : Option Int) : Int × Bool := match o with | some m => (m, decide ((s.size : Int) > 0)) | none => (0, false)
theorem sec_l0 (s : ByteArray) (hs : s.size < 4611686018427387904) : ∀ (t : List UInt8) (i k : Nat) (n : Int), (D s).drop i = t → 0 ≤ n → n ≤ 2147483648 → i ≤ s.size → t.length + 1 ≤ k →
    turnbuckleref17_Seconds.l0 k s n (i : Int) = some (satR s (sat n t))
  | [], i, k, n, h, h0, h1, hi, hk => by
    obtain ⟨k, rfl⟩ : ∃ k', k = k' + 1 := ⟨k - 1, by omega⟩
    have hl : (D s).length ≤ i := List.drop_eq_nil_iff.1 h
    rw [D_len] at hl
    unfold turnbuckleref17_Seconds.l0
    rw [if_neg (by omega)]
    rfl
  | c :: t, i, k, n, h, h0, h1, hi, hk => by
    obtain ⟨k, rfl⟩ : ∃ k', k = k' + 1 := ⟨k - 1, by omega⟩
    obtain ⟨d1, d2, d3⟩ := drop_step h
    rw [D_len] at d3
    simp only [List.length_cons] at hk
    unfold turnbuckleref17_Seconds.l0
    rw [if_pos (by omega), if_pos (by omega), bt_D s i c t h, w64 i (by omega)]
    unfold turnbuckleref17_digit.f sat
    have hc256 : c.toNat < 256 := c.toNat_lt
    by_cases hg : 48 ≤ c.toNat ∧ c.toNat ≤ 57
    · rw [if_pos (by omega), Option.bind_some, if_pos (by rw [decide_eq_true_eq]; omega), if_pos hg]
      have e1 : wrap64 (n * 10) = n * 10 := by unfold wrap64; omega
      have e2 : ((c.toNat : Int) - 48) % 256 = (c.toNat : Int) - 48 := by omega
      have e3 : wrap64 (n * 10 + ((c.toNat : Int) - 48)) = n * 10 + ((c.toNat : Int) - 48) := by unfold wrap64; omega
      have e4 : mn (n * 10 + ((c.toNat : Int) - 48)) 2147483648 = min (n * 10 + ((c.toNat : Int) - 48)) 2147483648 := by unfold mn; split <;> omega
      rw [e1, e2, e3, e4]
      exact sec_l0 s hs t (i + 1) k _ d1 (by omega) (by omega) (by omega) (by omega)
    · rw [if_neg hg]
      by_cases h48 : (c.toNat : Int) ≥ 48
      · rw [if_pos h48, Option.bind_some, if_neg (by rw [decide_eq_true_eq]; omega)]
        rfl
      · rw [if_neg h48, Option.bind_some, if_neg (by decide)]
        rfl
theorem sat_dec : ∀ (l : List UInt8) (a m : Nat), Lib.decFrom a l = some m → (∀ b ∈ l, 48 ≤ b.toNat ∧ b.toNat ≤ 57) → sat (min (a : Int) 2147483648) l = some (min (m : Int) 2147483648)
  | [], a, m, h, _ => by
    simp only [Lib.decFrom, Option.some.injEq] at h
    subst h; rfl
  | c :: t, a, m, h, hd => by
    have hc := hd c (by simp)
    simp only [Lib.decFrom, Lib.digitVal, if_pos hc] at h
    have ih := sat_dec t (a * 10 + (c.toNat - 48)) m h (fun b hb => hd b (by simp [hb]))
    unfold sat
    rw [if_pos hc, ← ih]
    congr 1
    omega
theorem sat_bad : ∀ (l : List UInt8) (n : Int), ¬ (∀ b ∈ l, 48 ≤ b.toNat ∧ b.toNat ≤ 57) → sat n l = none
  | [], n, h => absurd (fun b hb => by cases hb) h
  | c :: t, n, h => by
    unfold sat
    by_cases hc : 48 ≤ c.toNat ∧ c.toNat ≤ 57
    · rw [if_pos hc]
      exact sat_bad t _ (fun ht => h (fun b hb => by rcases List.mem_cons.1 hb with rfl | hb; exact hc; exact ht b hb))
    · rw [if_neg hc]
theorem dw_all {p : UInt8 → Bool} : ∀ (l : List UInt8), (∀ b ∈ l, p b = true) → l.dropWhile p = []
  | [], _ => rfl
  | c :: t, h => by
    rw [List.dropWhile_cons_of_pos (h c (by simp))]
    exact dw_all t (fun b hb => h b (by simp [hb]))
theorem trim_all {l : List UInt8} (h : ∀ b ∈ l, 48 ≤ b.toNat ∧ b.toNat ≤ 57) : Lib.trimS l Fb.digs = [] := by
  unfold Lib.trimS Lib.trimLeftS Lib.trimRightS
  have : l.reverse.dropWhile (Fb.digs.contains ·) = [] := dw_all _ (fun b hb => by rw [Fb.digs_iff]; exact h b (by simpa using hb))
  rw [this]; rfl
theorem atoi_dec (l : List UInt8) (h0 : l ≠ []) (hl : l.length ≤ 18) (h : ∀ b ∈ l, 48 ≤ b.toNat ∧ b.toNat ≤ 57) (m : Nat) (hm : Lib.decFrom 0 l = some m) : Lib.atoiAll l = .ok (m : Int) := by
  rw [Lib.atoiAll_short l hl]
  cases l with
  | nil => exact absurd rfl h0
  | cons c r =>
    have hc := h c (by simp)
    have h45 : (c == 45) = false := by rw [beq_eq_false_iff_ne]; rintro rfl; revert hc; decide
    have h43 : (c == 43) = false := by rw [beq_eq_false_iff_ne]; rintro rfl; revert hc; decide
    have hn : Lib.decNat (c :: r) = some m := by unfold Lib.decNat; simpa using hm
    simp only [Lib.atoi, h45, h43, hn]
    rfl
theorem dec_zeros : ∀ l : List UInt8, Lib.decFrom 0 (Lib.trimLeftB l 48) = Lib.decFrom 0 l
  | [] => rfl
  | c :: t => by
    unfold Lib.trimLeftB
    by_cases hc : c = 48
    · subst hc
      rw [List.dropWhile_cons_of_pos (by decide)]
      have ih := dec_zeros t
      unfold Lib.trimLeftB at ih
      rw [ih]
      rfl
    · rw [List.dropWhile_cons_of_neg (by simpa using hc)]
theorem dec_ge : ∀ (l : List UInt8) (a m : Nat), Lib.decFrom a l = some m → a * 10 ^ l.length ≤ m
  | [], a, m, h => by simp only [Lib.decFrom, Option.some.injEq] at h; subst h; simp
  | c :: t, a, m, h => by
    simp only [Lib.decFrom] at h
    split at h
    · rename_i d hd
      have := dec_ge t _ m h
      rw [List.length_cons, Nat.pow_succ]
      have h2 : a * (10 ^ t.length * 10) = (a * 10) * 10 ^ t.length := by rw [Nat.mul_comm (10 ^ t.length) 10, Nat.mul_assoc]
      rw [h2]
      exact Nat.le_trans (Nat.mul_le_mul_right _ (Nat.le_add_right _ _)) this
    · cases h
theorem sec_eq (l : List UInt8) (s : ByteArray) (hl : D s = l) : satR s (sat 0 l) = Fb.secV l := by
  have hsz : s.size = l.length := by rw [← hl, D_len]
  unfold Fb.secV
  by_cases h0 : l = []
  · subst h0
    rw [if_pos (.inl rfl)]
    simp [sat, satR, hsz]
  · by_cases hd : ∀ b ∈ l, 48 ≤ b.toNat ∧ b.toNat ≤ 57
    · rw [if_neg (by rintro (h | h); exact h0 h; exact h (trim_all hd))]
      obtain ⟨m, hm⟩ := Fb.decFrom_digits l 0 hd
      have hs := sat_dec l 0 m hm hd
      rw [show min ((0 : Nat) : Int) 2147483648 = 0 by omega] at hs
      rw [hs]
      have hpos : 0 < l.length := List.length_pos_iff.2 h0
      unfold satR
      simp only
      rw [show decide ((s.size : Int) > 0) = true from decide_eq_true (by omega)]
      have hz := dec_zeros l
      rw [hm] at hz
      have hdt : ∀ b ∈ Lib.trimLeftB l 48, 48 ≤ b.toNat ∧ b.toNat ≤ 57 := fun b hb => hd b (Fb.trimLeft_mem hb)
      split
      · rename_i hlen
        have hbig : 2147483648 ≤ m := by
          cases hT : Lib.trimLeftB l 48 with
          | nil => rw [hT] at hlen; simp at hlen
          | cons c t =>
            rw [hT] at hz hlen hdt
            have hc := hdt c (by simp)
            have hne : c ≠ 48 := by
              have := Fb.dw_head l c t hT
              simpa using this
            have hc49 : 49 ≤ c.toNat := by
              rcases Nat.lt_or_ge 48 c.toNat with h | h
              · exact h
              · exact absurd (UInt8.toNat_inj.1 (show c.toNat = (48 : UInt8).toNat by show c.toNat = 48; omega)) hne
            simp only [Lib.decFrom, Lib.digitVal, if_pos hc] at hz
            have hge := dec_ge t _ m hz
            have hp : 10 ^ 10 ≤ 10 ^ t.length := Nat.pow_le_pow_right (by decide) (by simp only [List.length_cons] at hlen; omega)
            have e : (10 : Nat) ^ 10 = 10000000000 := by decide
            have h1 : 1 * 10 ^ t.length ≤ (0 * 10 + (c.toNat - 48)) * 10 ^ t.length := Nat.mul_le_mul_right _ (by omega)
            omega
        rw [show min (m : Int) 2147483648 = 2147483648 by omega]
      · rename_i hlen
        have hz2 : Lib.decFrom 0 (48 :: Lib.trimLeftB l 48) = some m := by
          simp only [Lib.decFrom]
          exact hz
        rw [atoi_dec (48 :: Lib.trimLeftB l 48) (by simp) (by simp only [List.length_cons]; omega) (fun b hb => by rcases List.mem_cons.1 hb with rfl | hb; decide; exact hdt b hb) m hz2]
    · rw [if_pos (.inr (fun h => hd (Fb.trim_digits h))), sat_bad l 0 hd]
      rfl
theorem sec_f (s : ByteArray) (hs : s.size < 4611686018427387904) (k : Nat) (hk : s.size + 1 ≤ k) : turnbuckleref17_Seconds.f k s = some (Fb.secV (D s)) := by
  rw [← sec_eq (D s) s rfl]
  exact sec_l0 s hs (D s) 0 k 0 rfl (by omega) (by omega) (by omega) (by rw [D_len]; exact hk)
theorem sec_q (s : ByteArray) (hs : s.size < 4611686018427387904) (w : World) : Calls Tryz.prog 87 #[.string s] w fun e w' => e = .returned (.tuple #[.int .i64 (Fb.secV s.data.toList).1, .bool (Fb.secV s.data.toList).2]) ∧ Below w.heap.size w w' :=
  turnbuckleref17_Seconds.calls (s.size + 1) s (Fb.secV (D s)).1 (Fb.secV (D s)).2 w (sec_f s hs _ (Nat.le_refl _))
theorem cut_q (s : ByteArray) (hs : s.size < 4611686018427387904) (w : World) : Calls Tryz.prog 47 #[.string s] w fun e w' => e = .returned (.tuple #[.string ⟨(Lib.cut s.data.toList [61]).1.toArray⟩, .string ⟨(Lib.cut s.data.toList [61]).2.1.toArray⟩, .bool (Lib.cut s.data.toList [61]).2.2]) ∧ Below w.heap.size w w' :=
  (turnbuckleref17_cut.calls (s.size + 1) s _ _ _ w (cut_f s hs _ (Nat.le_refl _))).mono fun e w' h => ⟨h.1, h.2.below⟩
set_option maxHeartbeats 1000000 in
/-- set: a number that is not told yet -/
theorem set_q (g j : Nat) (cs : Array Value) (t : Nat) (n : Int) (s : ByteArray) (hs : s.size ≤ 281474976710656) (w : World) (hc : w.heap[g]? = some (.cells cs t (0, 0))) (hj : cs[j]? = some (.int .i64 n)) :
    Calls Tryz.prog 49 #[.pointer (some ⟨g, j, none⟩), .string s] w fun e w' => e = .returned (.tuple #[]) ∧ ∃ w1, Below w.heap.size w w1 ∧ (w' = if n < 0 then w1.setCell ⟨g, j, none⟩ (.int .i64 (Fb.secV s.data.toList).1) else w1) := by
  have HSQ := Lib.hid (sec_q s (by omega))
  have HC := Lib.hid hc
  have l0 := Fb.c_of hc j hj
  obtain ⟨r, hr⟩ : ∃ r, r = Fb.secV s.data.toList := ⟨_, rfl⟩
  rw [← hr] at HSQ ⊢
  have HJ := Lib.hid hj
  clear hr hc
  by_cases hn : n < 0
  · have t0 : decide (n < 0) = true := decide_eq_true hn
    simp only [if_pos hn]
    clear hn
    go_enter Tryz.func49, Tryz.ntmps49
    go_wp2_with (go_at_call 87; refine (HSQ.out _).mono ?_; rintro e_ w1 ⟨rfl, hb1⟩; have HB1 := Lib.hid hb1; have k0 := Fb.c_of (Fb.blk_bel hb1 HC.out) j HJ.out; have k1 := Fb.fr_of (Fb.blk_bel hb1 HC.out) j; clear hb1)
    go_end0
    exact ⟨rfl, w1, HB1.out, rfl⟩
  · have t0 : decide (n < 0) = false := decide_eq_false hn
    simp only [if_neg hn]
    clear hn
    go_enter Tryz.func49, Tryz.ntmps49
    go_wp2
    go_end0
    exact ⟨rfl, w, Below.refl _ _, rfl⟩
end Go.Proofs.YtbnhlekehndhkaaGreatDoor.Rb

