import Derived.Test.YtgcefofmfeghmaaHuG
import Derived.Test.YtgcefofmfeghmaaGxf11
/- The document's encoding. -/
namespace Go.Proofs.Ytgcefofmfeghmaa.Hu
open Go.RowKit Go.Proofs.Ytgcefofmfeghmaa.G Go.Proofs.YtgcefofmfeghmaaW.PrintWords Go.Proofs.YtgcefofmfeghmaaW.PrintLast Go.Proofs.YtgcefofmfeghmaaW.PrintMore
set_option linter.unusedVariables false

theorem mbits_mod (v : Int) (b : Nat) : mbits (v % 2 ^ b) b = mbits v b := by
  have := mbits_split 0 b v
  rw [Nat.zero_add] at this
  rw [this]; rfl
theorem mbits_front (v : Int) (b : Nat) : mbits v (b + 1) = (v / 2 ^ b % 2) :: mbits v b := by
  rw [Nat.add_comm, mbits_split 1 b v, mbits_mod]; rfl
theorem mbits_01 : ∀ (n : Nat) (v : Int), ∀ x ∈ mbits v n, x = 0 ∨ x = 1
  | 0, v, x, h => by simp [mbits] at h
  | n + 1, v, x, h => by
    unfold mbits at h
    rcases List.mem_append.1 h with h | h
    · exact mbits_01 n _ x h
    · have := List.mem_singleton.1 h; omega
/-- the bits of a word, written -/
theorem rb_word (l : List Int) (hr : RightP l) (S : List Int) (i : Nat) (hi : i < 1000000000000) (x : Nat) (hx : x < l.length) (R : List Int × Bool) (B : List Int)
    (hout : Ev (fun k => turnbuckleref12_bits.l0 k (rwords l) S (B ++ mbits (wordOf l x).f0 (wordOf l x).f1.toNat) ((i + 1 : Nat) : Int)) R) :
    ∀ (j : Nat) (A : List Int), j ≤ 24 → A ++ mbits (wordOf l x).f0 j = B ++ mbits (wordOf l x).f0 (wordOf l x).f1.toNat → A.length + j < 100000000000 → Ev (fun k => turnbuckleref12_bits.l1 k (rwords l) S A (i : Int) (x : Int) ((j : Int) - 1)) R
  | 0, A, _, h, _ => by
    have e1 : wrap64 ((i : Int) + 1) = ((i + 1 : Nat) : Int) := by unfold wrap64; omega
    rw [mbits, List.append_nil] at h
    subst h
    refine Ev.step (fun k => ?_) hout
    simp only [turnbuckleref12_bits.l1]
    rw [if_neg (by omega), e1]
  | j + 1, A, hj, h, hA => by
    have hb := words_bnd l hr x hx
    obtain ⟨v, hv⟩ : ∃ v, (wordOf l x).f0 = v := ⟨_, rfl⟩
    obtain ⟨L, hL⟩ : ∃ L : Nat, (wordOf l x).f1 = (L : Int) := ⟨_, (Int.toNat_of_nonneg hb.2.2.1).symm⟩
    have hL24 : L ≤ 24 := by have := hb.2.2.2; rw [hL] at this; omega
    have hv1 : v < 16777216 := by
      have h1 := hb.2.1
      rw [hv, hL, Int.toNat_natCast] at h1
      have h2 := pow_lit L 24 hL24 16777216 (by decide)
      omega
    have hv0 : 0 ≤ v := by have := hb.1; rwa [hv] at this
    have ew : wrap64 (((j + 1 : Nat) : Int) - 1 - 1) = (j : Int) - 1 := by unfold wrap64; omega
    have es : shr .i64 v (((j + 1 : Nat) : Int) - 1) = v / 2 ^ j := by
      rw [show ((j + 1 : Nat) : Int) - 1 = (j : Int) by omega]
      exact shr_div v j (by omega)
    have hd0 : 0 ≤ v / 2 ^ j := Int.ediv_nonneg hv0 (Int.pow_nonneg (by decide))
    have hd1 : v / 2 ^ j ≤ v := Int.ediv_le_self _ hv0
    have ea : Go.bits .and .i64 (v / 2 ^ j) 1 % 256 = v / 2 ^ j % 2 := by
      have := and_low (v / 2 ^ j) 1 (by decide) hd0 (by omega)
      have e1 : (2 : Int) ^ 1 - 1 = 1 := by decide
      have e2 : (2 : Int) ^ 1 = 2 := by decide
      rw [e1, e2] at this
      rw [this]
      omega
    have ih := rb_word l hr S i hi x hx R B hout j (A ++ [v / 2 ^ j % 2]) (by omega) (by
      rw [← h, mbits_front, hv, List.append_assoc]; rfl) (by simp; omega)
    refine Ev.step (fun k => ?_) ih
    simp only [turnbuckleref12_bits.l1]
    rw [if_pos (by omega), if_pos (by omega), if_pos (by rw [rwords_len]; omega), if_pos (by omega), if_pos (by omega), rwords_at l x hx, (rword_f l x).1, hv, es, ea, ew]

theorem rb_from (l : List Int) (hr : RightP l) (S : List Int) (hS : S.length ≤ 1000000000) (hby : Bytes S) : ∀ (d i : Nat) (B : List Int), i + d = S.length → B.length ≤ 24 * i →
    ((∀ x ∈ S.drop i, Val l x) → Ev (fun k => turnbuckleref12_bits.l0 k (rwords l) S B (i : Int)) (B ++ (S.drop i).flatMap (wb l), true)) ∧
    ((¬ ∀ x ∈ S.drop i, Val l x) → Ev (fun k => turnbuckleref12_bits.l0 k (rwords l) S B (i : Int)) ([], false))
  | 0, i, B, h, hB => by
    have hd : S.drop i = [] := List.drop_eq_nil_of_le (by omega)
    rw [hd]
    refine ⟨fun _ => ?_, fun h => absurd (by simp) h⟩
    refine Ev.step (f := fun k => some (B, true)) (fun k => ?_) (by simp; exact Ev.now _)
    simp only [turnbuckleref12_bits.l0]
    rw [if_neg (by omega)]
  | d + 1, i, B, h, hB => by
    have hi : i < S.length := by omega
    obtain ⟨x, hx⟩ : ∃ x, rd S (i : Int) = x := ⟨_, rfl⟩
    have hdr : S.drop i = x :: S.drop (i + 1) := by
      rw [List.drop_eq_getElem_cons hi, ← hx]
      simp [rd, hi]
    have hxb : 0 ≤ x ∧ x < 256 := hby x (by rw [← hx]; simp [rd, hi])
    obtain ⟨y, rfl⟩ : ∃ y : Nat, x = (y : Int) := ⟨x.toNat, (Int.toNat_of_nonneg hxb.1).symm⟩
    have hl := hr.1
    have ewx : wrap64 (y : Int) = (y : Int) := by unfold wrap64; omega
    rw [hdr]
    by_cases hval : Val l (y : Int)
    · obtain ⟨v0, v1, v2⟩ := hval
      have hy : y < l.length := by omega
      obtain ⟨b0, b1, b2, b3⟩ := words_bnd l hr y hy
      have hwl := wordOf_len l hr y hy
      have hwb : wb l (y : Int) = mbits (wordOf l y).f0 (wordOf l y).f1.toNat := by unfold wb; rw [Int.toNat_natCast]
      clear b0 b1
      have hml : (mbits (wordOf l y).f0 (wordOf l y).f1.toNat).length ≤ 24 := by rw [mbits_len]; omega
      have ih := rb_from l hr S hS hby d (i + 1) (B ++ mbits (wordOf l y).f0 (wordOf l y).f1.toNat) (by omega) (by rw [List.length_append]; omega)
      have hgo : ∀ R, Ev (fun k => turnbuckleref12_bits.l0 k (rwords l) S (B ++ mbits (wordOf l y).f0 (wordOf l y).f1.toNat) ((i + 1 : Nat) : Int)) R → Ev (fun k => turnbuckleref12_bits.l0 k (rwords l) S B (i : Int)) R := by
        intro R hR
        have hw := rb_word l hr S i (by omega) y hy R B hR (wordOf l y).f1.toNat B (by omega) rfl (by omega)
        rw [Int.toNat_of_nonneg b2] at hw
        refine Ev.step (f := fun k => turnbuckleref12_bits.j1 k (rwords l) S B (i : Int) (y : Int) false) (fun k => ?_) (Ev.step (fun k => ?_) hw)
        · simp only [turnbuckleref12_bits.l0]
          rw [if_pos (by omega), if_pos (by omega), hx, ewx, if_neg (by rw [rwords_len]; omega), if_pos v0, if_pos (by rw [rwords_len]; omega), rwords_at l y hy, (rword_f l y).2, show ((wordOf l y).f1 == 0) = false from beq_eq_false_iff_ne.2 (by omega)]
        · simp only [turnbuckleref12_bits.j1, Bool.false_eq_true, if_false]
          rw [if_pos v0, if_pos (by rw [rwords_len]; omega), rwords_at l y hy, (rword_f l y).2, show wrap64 ((wordOf l y).f1 - 1) = (wordOf l y).f1 - 1 by unfold wrap64; omega]
      constructor
      · intro hall
        have h1 := hgo _ (ih.1 (fun z hz => hall z (by simp [hz])))
        rw [List.flatMap_cons, hwb, ← List.append_assoc]
        exact h1
      · intro hall
        refine hgo _ (ih.2 (fun hh => hall (fun z hz => ?_)))
        rcases List.mem_cons.1 hz with h1 | h1
        · subst h1; exact ⟨v0, v1, v2⟩
        · exact hh z h1
    · refine ⟨fun hall => absurd (hall _ (by simp)) hval, fun _ => ?_⟩
      refine Ev.step (f := fun k => turnbuckleref12_bits.j1 k (rwords l) S B (i : Int) (y : Int) true) (fun k => ?_) (Ev.step (f := fun k => some ([], false)) (fun k => by simp only [turnbuckleref12_bits.j1]; rfl) (Ev.now _))
      simp only [turnbuckleref12_bits.l0]
      rw [if_pos (by omega), if_pos (by omega), hx, ewx]
      by_cases c : (y : Int) ≥ (l.length : Int)
      · rw [if_pos (by rw [rwords_len]; exact c)]
      · have hy : y < l.length := by omega
        have hwl := wordOf_len l hr y hy
        have hok : 0 ≤ rd l (y : Int) ∧ rd l (y : Int) ≤ 24 := hr.2.1 y hy
        have hz : rd l (y : Int) = 0 := by
          have : ¬ (0 < rd l (y : Int)) := fun h => hval ⟨hxb.1, by omega, h⟩
          omega
        rw [if_neg (by rw [rwords_len]; exact c), if_pos hxb.1, if_pos (by rw [rwords_len]; omega), rwords_at l y hy, (rword_f l y).2, hwl, hz]
        rfl

/-! packing -/
theorem pk_byte (B out : List Int) (hB : ∀ x ∈ B, x = 0 ∨ x = 1) (i : Nat) (hi : i + 8 ≤ B.length) (hBl : B.length < 100000000000) (R : List Int × Int)
    (hout : ∀ c : Int, 0 ≤ c → c < 256 → mbits c 8 = (B.drop i).take 8 → Ev (fun k => turnbuckleref12_Encode.l1 k B (out ++ [c]) ((i + 8 : Nat) : Int)) R) (ho : out.length < 100000000000) :
    ∀ (d t : Nat) (c : Int), t + d = 8 → 0 ≤ c → c < 2 ^ t → mbits c t = (B.drop i).take t → Ev (fun k => turnbuckleref12_Encode.l2 k B out (i : Int) c (t : Int)) R
  | 0, t, c, h, h0, h1, hm => by
    obtain rfl : t = 8 := by omega
    have e8 : wrap64 ((i : Int) + 8) = ((i + 8 : Nat) : Int) := by unfold wrap64; omega
    refine Ev.step (fun k => ?_) (hout c h0 h1 hm)
    simp only [turnbuckleref12_Encode.l2]
    rw [if_neg (by omega), if_pos (by omega), e8]
  | d + 1, t, c, h, h0, h1, hm => by
    have hit : i + t < B.length := by omega
    have et : wrap64 ((i : Int) + (t : Int)) = ((i + t : Nat) : Int) := by unfold wrap64; omega
    have e1 : wrap64 ((t : Int) + 1) = ((t + 1 : Nat) : Int) := by unfold wrap64; omega
    obtain ⟨b, hb⟩ : ∃ b, rd B ((i + t : Nat) : Int) = b := ⟨_, rfl⟩
    have hbe : B[i + t] = b := by rw [← hb]; unfold rd; rw [Int.toNat_natCast]; simp [List.getD, hit]
    have hb01 : b = 0 ∨ b = 1 := hB b (by rw [← hbe]; exact List.getElem_mem hit)
    have hc7 : c < 128 := by
      have := pow_lit t 7 (by omega) 128 (by decide)
      omega
    have ej : Go.bits .or .u8 (c * 2 % 256) b = 2 * c + b := by
      rw [show c * 2 % 256 = 2 * c by omega]
      have e2 : (2 : Int) ^ 1 = 2 := by decide
      have e256 : (2 : Int) ^ 8 = 256 := by decide
      exact bits_join .u8 8 (by decide) wraps_u8 1 _ _ (by omega) (by rw [e2]; omega) (by rw [e256]; omega) (by omega) (by rw [e2]; omega) (by rw [e256]; omega)
    have hm' : mbits (2 * c + b) (t + 1) = (B.drop i).take (t + 1) := by
      rw [mbits, show (2 * c + b) / 2 = c by omega, show (2 * c + b) % 2 = b by omega, hm, List.take_add_one]
      congr 1
      rw [List.getElem?_drop, List.getElem?_eq_getElem hit, hbe]
      rfl
    have ih := pk_byte B out hB i hi hBl R hout ho d (t + 1) (2 * c + b) (by omega) (by omega) (by rw [Int.pow_succ]; omega) hm'
    refine Ev.step (fun k => ?_) ih
    simp only [turnbuckleref12_Encode.l2]
    rw [if_pos (by omega), et, if_pos (by omega), if_pos (by omega), hb, ej, e1]
theorem pk_from (B : List Int) (hB : ∀ x ∈ B, x = 0 ∨ x = 1) (n : Nat) (hn : B.length = 8 * n) (hBl : B.length < 100000000000) : ∀ (d i : Nat) (out : List Int), i + d = n → Bytes out → Mp.bitsOf out = B.take (8 * i) → out.length = i →
    ∃ r, Ev (fun k => turnbuckleref12_Encode.l1 k B out ((8 * i : Nat) : Int)) (r, 0) ∧ Bytes r ∧ Mp.bitsOf r = B
  | 0, i, out, h, hby, hb, hl => by
    refine ⟨out, Ev.step (f := fun k => some (out, 0)) (fun k => ?_) (Ev.now _), hby, ?_⟩
    · simp only [turnbuckleref12_Encode.l1]
      rw [if_neg (by omega)]
    · rw [hb, List.take_of_length_le (by omega)]
  | d + 1, i, out, h, hby, hb, hl => by
    obtain ⟨C, hC⟩ : ∃ C, (B.drop (8 * i)).take 8 = C := ⟨_, rfl⟩
    have hCl : C.length = 8 := by rw [← hC]; simp; omega
    have key : ∃ c : Int, 0 ≤ c ∧ c < 256 ∧ mbits c 8 = C := by
      have hC01 : ∀ x ∈ C, x = 0 ∨ x = 1 := fun x hx => hB x (List.mem_of_mem_drop (List.mem_of_mem_take (hC ▸ hx)))
      have : ∀ (t : Nat) (D : List Int), D.length = t → (∀ x ∈ D, x = 0 ∨ x = 1) → ∃ c : Int, 0 ≤ c ∧ c < 2 ^ t ∧ mbits c t = D := by
        intro t
        induction t with
        | zero => intro D hD _; exact ⟨0, by decide, by decide, by rw [List.length_eq_zero_iff.1 hD]; rfl⟩
        | succ t ih =>
          intro D hD h01
          obtain ⟨c, c0, c1, cm⟩ := ih D.dropLast (by simp [hD]) (fun x hx => h01 x (List.dropLast_subset D hx))
          have hne : D ≠ [] := by intro h; rw [h] at hD; simp at hD
          have hb := h01 (D.getLast hne) (List.getLast_mem hne)
          refine ⟨2 * c + D.getLast hne, by omega, by rw [Int.pow_succ]; omega, ?_⟩
          rw [mbits, show (2 * c + D.getLast hne) / 2 = c by omega, show (2 * c + D.getLast hne) % 2 = D.getLast hne by omega, cm, List.dropLast_concat_getLast]
      obtain ⟨c, c0, c1, cm⟩ := this 8 C hCl hC01
      exact ⟨c, c0, c1, cm⟩
    obtain ⟨c, c0, c1, cm⟩ := key
    obtain ⟨r, q1, q2, q3⟩ := pk_from B hB n hn hBl d (i + 1) (out ++ [c]) (by omega) (fun x hx => by
      rcases List.mem_append.1 hx with h1 | h1
      · exact hby x h1
      · rw [List.mem_singleton.1 h1]; exact ⟨c0, c1⟩) (by
      rw [Mp.bitsOf_snoc, hb, mbits8, cm, ← hC, show 8 * (i + 1) = 8 * i + 8 by omega, List.take_add]) (by simp [hl])
    refine ⟨r, ?_, q2, q3⟩
    have hby := pk_byte B out hB (8 * i) (by omega) hBl (r, 0) (fun c' d0 d1 dm => by
      have hcc : c' = c := bits8_inj c' c ⟨d0, d1⟩ ⟨c0, c1⟩ (by rw [mbits8, mbits8, dm, cm, hC])
      subst hcc
      exact q1) (by omega) 8 0 0 (by omega) (by decide) (by decide) rfl
    refine Ev.step (fun k => ?_) hby
    simp only [turnbuckleref12_Encode.l1]
    rw [if_pos (by omega)]
    rfl
theorem pad_from : ∀ (p : Nat) (B : List Int), p < 8 → (∀ x ∈ B, x = 0 ∨ x = 1) → (B.length + p) % 8 = 0 → B.length + p < 50000000000 →
    ∃ r q, Ev (fun k => turnbuckleref12_Encode.l0 k B) (r, 0) ∧ Bytes r ∧ q < 8 ∧ Mp.bitsOf r = B ++ List.replicate q 1
  | 0, B, _, hB, hm, hl => by
    obtain ⟨n, hn⟩ : ∃ n, B.length = 8 * n := ⟨B.length / 8, by omega⟩
    obtain ⟨r, q1, q2, q3⟩ := pk_from B hB n hn (by omega) n 0 [] (by omega) (by intro x hx; simp at hx) (by simp [Mp.bitsOf]) rfl
    refine ⟨r, 0, ?_, q2, by omega, by rw [q3]; simp⟩
    refine Ev.step (fun k => ?_) q1
    simp only [turnbuckleref12_Encode.l0]
    rw [if_pos (by omega)]
    rfl
  | p + 1, B, hp, hB, hm, hl => by
    obtain ⟨r, q, q1, q2, q3, q4⟩ := pad_from p (B ++ [1]) (by omega) (fun x hx => by
      rcases List.mem_append.1 hx with h1 | h1
      · exact hB x h1
      · exact Or.inr (List.mem_singleton.1 h1)) (by rw [List.length_append, List.length_singleton]; omega) (by rw [List.length_append, List.length_singleton]; omega)
    have hlen := congrArg List.length q4
    rw [Mp.bitsOf_len] at hlen
    simp only [List.length_append, List.length_replicate, List.length_cons, List.length_nil] at hlen
    have hpq : q = p := by omega
    subst hpq
    refine ⟨r, q + 1, ?_, q2, hp, by rw [q4, List.append_assoc, List.replicate_succ]; rfl⟩
    refine Ev.step (fun k => ?_) q1
    simp only [turnbuckleref12_Encode.l0]
    rw [if_neg (by omega), if_pos (by omega)]
theorem flat_len (l : List Int) (hr : RightP l) : ∀ S : List Int, (∀ x ∈ S, Val l x) → (S.flatMap (wb l)).length ≤ 24 * S.length
  | [], _ => by simp
  | x :: S, h => by
    have ih := flat_len l hr S (fun y hy => h y (by simp [hy]))
    obtain ⟨v0, v1, v2⟩ := h x (by simp)
    have hb := (words_bnd l hr x.toNat (by omega)).2.2
    rw [List.flatMap_cons, List.length_append, List.length_cons]
    have : (wb l x).length ≤ 24 := by unfold wb; rw [mbits_len]; omega
    omega
theorem flat_01 (l S : List Int) : ∀ x ∈ S.flatMap (wb l), x = 0 ∨ x = 1 := by
  intro x hx
  obtain ⟨y, -, h⟩ := List.mem_flatMap.1 hx
  exact mbits_01 _ _ x h
theorem renc_ev (l : List Int) (hl : l.length ≤ 17592186044416) (S : List Int) (hS : S.length ≤ 1000000000) (hby : Bytes S) :
    (RightP l → (∀ x ∈ S, Val l x) → ∃ r, Ev (fun k => turnbuckleref12_Encode.f k l S) (r, 0) ∧ Bytes r ∧ ∃ p < 8, Mp.bitsOf r = S.flatMap (wb l) ++ List.replicate p 1) ∧
    (¬ (RightP l ∧ ∀ x ∈ S, Val l x) → Ev (fun k => turnbuckleref12_Encode.f k l S) ([], 1)) := by
  have hgo : RightP l → ∀ b R, Ev (fun k => turnbuckleref12_bits.f k (rwords l) S) b → Ev (fun k => if b.2 = true then (turnbuckleref12_Encode.l0 k b.1) else (some (([] : List Int), 1))) R → Ev (fun k => turnbuckleref12_Encode.f k l S) R := by
    intro hr b R h1 h2
    unfold turnbuckleref12_Encode.f
    refine Ev.bind (f := fun k t => _) ((rwords_ev l hl).1 hr) ?_
    simp only [if_true]
    refine Ev.bind (f := fun k t => _) h1 ?_
    exact h2
  constructor
  · intro hr hv
    have hb := (rb_from l hr S hS hby S.length 0 [] (by omega) (by simp)).1 (by rw [List.drop_zero]; exact hv)
    rw [List.drop_zero, List.nil_append] at hb
    have hfl := flat_len l hr S hv
    obtain ⟨r, q, q1, q2, q3, q4⟩ := pad_from ((8 - (S.flatMap (wb l)).length % 8) % 8) (S.flatMap (wb l)) (by omega) (flat_01 l S) (by omega) (by omega)
    exact ⟨r, hgo hr _ _ hb q1, q2, q, q3, q4⟩
  · intro hn
    by_cases hr : RightP l
    · have hb := (rb_from l hr S hS hby S.length 0 [] (by omega) (by simp)).2 (fun h => hn ⟨hr, by rw [List.drop_zero] at h; exact h⟩)
      exact hgo hr _ _ hb (Ev.now _)
    · unfold turnbuckleref12_Encode.f
      refine Ev.bind (f := fun k t => _) ((rwords_ev l hl).2 hr) ?_
      exact Ev.now _
end Go.Proofs.Ytgcefofmfeghmaa.Hu
