import Derived.Test.YtgcefofmfeghmaaHuE
import Derived.Test.YtgcefofmfeghmaaGxf10
/- Encoding: the bits that it writes. -/
namespace Go.Proofs.Ytgcefofmfeghmaa.Hu
open Go.RowKit Go.Proofs.Ytgcefofmfeghmaa.G Go.Proofs.YtgcefofmfeghmaaW.PrintWords Go.Proofs.YtgcefofmfeghmaaW.PrintLast Go.Proofs.YtgcefofmfeghmaaW.PrintMore
set_option linter.unusedVariables false

/-- the low n bits of v, the highest first -/
def mbits (v : Int) : Nat → List Int
  | 0 => []
  | n + 1 => mbits (v / 2) n ++ [v % 2]
theorem mbits_len : ∀ (n : Nat) (v : Int), (mbits v n).length = n
  | 0, v => rfl
  | n + 1, v => by unfold mbits; rw [List.length_append, mbits_len n]; rfl
theorem mbits_split (a : Nat) : ∀ (b : Nat) (v : Int), mbits v (a + b) = mbits (v / 2 ^ b) a ++ mbits (v % 2 ^ b) b
  | 0, v => by simp [mbits]
  | b + 1, v => by
    have e1 : v / 2 / 2 ^ b = v / 2 ^ (b + 1) := by rw [Int.ediv_ediv_of_nonneg (by decide), Int.pow_succ, Int.mul_comm]
    have e2 : v % 2 ^ (b + 1) % 2 = v % 2 := Int.emod_emod_of_dvd v ⟨2 ^ b, by rw [Int.pow_succ, Int.mul_comm]⟩
    have e3 : v % 2 ^ (b + 1) / 2 = v / 2 % 2 ^ b := by
      have hp : (0 : Int) < 2 ^ b := Int.pow_pos (by decide)
      have h1 := Int.emod_add_mul_ediv v (2 ^ (b + 1))
      have h2 := Int.emod_add_mul_ediv (v / 2) (2 ^ b)
      rw [e1, Int.pow_succ] at h2
      rw [Int.pow_succ] at h1 ⊢
      generalize v / (2 ^ b * 2) = q at h1 h2
      have h3 : (2 : Int) ^ b * 2 * q = 2 * (2 ^ b * q) := by rw [Int.mul_comm ((2 : Int) ^ b) 2, Int.mul_assoc]
      rw [h3] at h1
      generalize (2 : Int) ^ b * q = t at h1 h2
      generalize v % (2 ^ b * 2) = r at h1 ⊢
      omega
    rw [← Nat.add_assoc]
    show mbits (v / 2) (a + b) ++ [v % 2] = _ ++ (mbits (v % 2 ^ (b + 1) / 2) b ++ [v % 2 ^ (b + 1) % 2])
    rw [mbits_split a b (v / 2), e1, e2, e3, List.append_assoc]
theorem mbits_ones : ∀ b : Nat, mbits (2 ^ b - 1) b = List.replicate b 1
  | 0 => rfl
  | b + 1 => by
    unfold mbits
    have hp : (0 : Int) < 2 ^ b := Int.pow_pos (by decide)
    rw [Int.pow_succ, show ((2 : Int) ^ b * 2 - 1) / 2 = 2 ^ b - 1 by omega, show ((2 : Int) ^ b * 2 - 1) % 2 = 1 by omega, mbits_ones b, List.replicate_succ']
theorem mbits8 (c : Int) : Mp.bits8 c 8 = mbits c 8 := by
  unfold Mp.bits8
  simp only [mbits, Mp.bit, List.nil_append, List.cons_append, List.range, List.range.loop, List.map_cons, List.map_nil]
  simp only [Nat.reduceSub, Int.reducePow, List.cons.injEq, and_true]
  refine ⟨?_, ?_, ?_, ?_, ?_, ?_, trivial, ?_⟩ <;> omega

/-- the bits of a word -/
def wb (l : List Int) (x : Int) : List Int := mbits (wordOf l x.toNat).f0 (wordOf l x.toNat).f1.toNat
def Bytes (l : List Int) : Prop := ∀ x ∈ l, 0 ≤ x ∧ x < 256
/-- a symbol that has a word -/
def Val (l : List Int) (x : Int) : Prop := 0 ≤ x ∧ x < l.length ∧ 0 < rd l x

structure EInv (out : List Int) (acc : Int) (n : Nat) : Prop where
  by8 : Bytes out
  lo : 0 ≤ acc
  hi : acc < 2 ^ n

theorem shl_mul (a : Int) (m : Nat) (h0 : 0 ≤ a) (h1 : a * 2 ^ m < 9223372036854775808) (hm : m ≤ 64) : shl .i64 a (m : Int) = a * 2 ^ m := by
  unfold shl
  rw [show min ((m : Int)).toNat IntKind.i64.bits = m by simp [IntKind.bits]; omega, IntKind.wrap_i64]
  have h2 : 0 ≤ a * 2 ^ m := Int.mul_nonneg h0 (Int.pow_nonneg (by decide))
  generalize a * 2 ^ m = t at h1 h2
  omega
theorem shr_div (a : Int) (m : Nat) (hm : m ≤ 64) : shr .i64 a (m : Int) = a / 2 ^ m := by
  unfold shr
  rw [show min ((m : Int)).toNat IntKind.i64.bits = m by simp [IntKind.bits]; omega]
theorem wraps_i64 (n : Int) (h : 0 ≤ n) (h' : n < 2 ^ 62) : IntKind.i64.wrap n = n := by
  rw [IntKind.wrap_i64]
  have : (2 : Int) ^ 62 = 4611686018427387904 := by decide
  omega
theorem pow_le_lit (m n : Nat) (h : m ≤ n) : (2 : Int) ^ m ≤ 2 ^ n := by
  have := Nat.pow_le_pow_right (n := 2) (by decide) h
  exact_mod_cast this

theorem pow_lit (m n : Nat) (h : m ≤ n) (P : Int) (hP : (2 : Int) ^ n = P) : (2 : Int) ^ m ≤ P := hP ▸ pow_le_lit m n h
theorem or_add (x y : Int) (i : Nat) (hx0 : 0 ≤ x) (hd : x % 2 ^ i = 0) (hx1 : x < 4611686018427387904) (hy0 : 0 ≤ y) (hy : y < 2 ^ i) (hy1 : y < 4611686018427387904) : Go.bits .or .i64 x y = x + y := by
  have e62 : (2 : Int) ^ 62 = 4611686018427387904 := by decide
  exact bits_join .i64 62 (by decide) wraps_i64 i x y hx0 hd (by rw [e62]; exact hx1) hy0 hy (by rw [e62]; exact hy1)
theorem and_low (x : Int) (m : Nat) (hm : m ≤ 62) (h0 : 0 ≤ x) (h1 : x < 4611686018427387904) : Go.bits .and .i64 x (2 ^ m - 1) = x % 2 ^ m := by
  have e62 : (2 : Int) ^ 62 = 4611686018427387904 := by decide
  exact bits_mask .i64 62 (by decide) wraps_i64 m hm x h0 (by rw [e62]; exact h1)
/-- what is full goes out -/
theorem flush (l : List Int) (S : List Int) (i : Nat) (hi : i < 1000000000000) : ∀ (c : Nat) (out : List Int) (acc : Int) (n : Nat), n < 8 * (c + 1) → n ≤ 32 → EInv out acc n → out.length + c < 140737488355328 →
    ∃ out' acc' n', n' < 8 ∧ EInv out' acc' n' ∧ Mp.bitsOf out' ++ mbits acc' n' = Mp.bitsOf out ++ mbits acc n ∧ 8 * out'.length + n' = 8 * out.length + n ∧
      ∀ R, Ev (fun k => huff_Encode.l0 k (words l) out' acc' (n' : Int) S (S.length : Int) ((i + 1 : Nat) : Int)) R → Ev (fun k => huff_Encode.l1 k (words l) out acc (n : Int) S (S.length : Int) (i : Int)) R
  | 0, out, acc, n, h, _, hv, _ => by
    have e1 : wrap64 ((i : Int) + 1) = ((i + 1 : Nat) : Int) := by unfold wrap64; omega
    refine ⟨out, acc, n, by omega, hv, rfl, rfl, fun R hR => ?_⟩
    refine Ev.step (fun k => ?_) hR
    simp only [huff_Encode.l1]
    rw [if_neg (by omega), e1]
  | c + 1, out, acc, n, h, h32, hv, hlen => by
    have e1 : wrap64 ((i : Int) + 1) = ((i + 1 : Nat) : Int) := by unfold wrap64; omega
    by_cases c8 : n < 8
    · refine ⟨out, acc, n, by omega, hv, rfl, rfl, fun R hR => ?_⟩
      refine Ev.step (fun k => ?_) hR
      simp only [huff_Encode.l1]
      rw [if_neg (by omega), e1]
    · obtain ⟨m, rfl⟩ : ∃ m, n = 8 + m := ⟨n - 8, by omega⟩
      have hmp : (0 : Int) < 2 ^ m := Int.pow_pos (by decide)
      have hlo := hv.lo
      have hhi := hv.hi
      have h24 := pow_lit m 24 (by omega) 16777216 (by decide)
      have h32' := pow_lit (8 + m) 32 h32 4294967296 (by decide)
      have ew : wrap64 (((8 + m : Nat) : Int) - 8) = (m : Int) := by unfold wrap64; omega
      have es : shr .i64 acc (m : Int) = acc / 2 ^ m := shr_div acc m (by omega)
      have hq : acc / 2 ^ m < 256 := by
        rw [Int.ediv_lt_iff_lt_mul hmp]
        rw [Int.pow_add] at hhi
        exact hhi
      have hq0 : 0 ≤ acc / 2 ^ m := Int.ediv_nonneg hlo (Int.le_of_lt hmp)
      have eb : acc / 2 ^ m % 256 = acc / 2 ^ m := by omega
      have em : Go.bits .and .i64 acc (wrap64 (shl .i64 1 (m : Int) - 1)) = acc % 2 ^ m := by
        rw [shl_mul 1 m (by decide) (by omega) (by omega), Int.one_mul, show wrap64 ((2 : Int) ^ m - 1) = 2 ^ m - 1 by unfold wrap64; omega]
        exact and_low acc m (by omega) hlo (by omega)
      have hv' : EInv (out ++ [acc / 2 ^ m]) (acc % 2 ^ m) m := by
        refine ⟨fun x hx => ?_, Int.emod_nonneg _ (by omega), Int.emod_lt_of_pos _ hmp⟩
        rcases List.mem_append.1 hx with h1 | h1
        · exact hv.by8 x h1
        · rw [List.mem_singleton.1 h1]; exact ⟨hq0, hq⟩
      obtain ⟨out', acc', n', a1, a2, a3, a4, a5⟩ := flush l S i hi c (out ++ [acc / 2 ^ m]) (acc % 2 ^ m) m (by omega) (by omega) hv' (by simp; omega)
      refine ⟨out', acc', n', a1, a2, ?_, ?_, fun R hR => ?_⟩
      · rw [a3, Mp.bitsOf_snoc, mbits8, mbits_split 8 m, List.append_assoc]
      · rw [a4]; simp; omega
      · refine Ev.step (fun k => ?_) (a5 R hR)
        simp only [huff_Encode.l1]
        rw [if_pos (by omega), ew, if_pos (by omega), if_pos (by omega), es, eb, em]

theorem words_bnd (l : List Int) (hr : RightP l) (i : Nat) (hi : i < l.length) : 0 ≤ (wordOf l i).f0 ∧ (wordOf l i).f0 < 2 ^ (wordOf l i).f1.toNat ∧ 0 ≤ (wordOf l i).f1 ∧ (wordOf l i).f1 ≤ 24 := by
  have hok : 0 ≤ rd l (i : Int) ∧ rd l (i : Int) ≤ 24 := hr.2.1 i hi
  by_cases hp : 0 < rd l (i : Int)
  · rw [wordOf_pos l i hp]
    have h1 := bitsN_lt l hr i hi hp
    refine ⟨by simp only []; omega, ?_, hok.1, hok.2⟩
    have h2 : ((bitsN l i + 1 : Nat) : Int) < ((2 ^ (rd l (i : Int)).toNat : Nat) : Int) := Int.ofNat_lt.2 h1
    rw [Int.natCast_pow] at h2
    show ((bitsN l i : Nat) : Int) < 2 ^ (rd l (i : Int)).toNat
    have : ((2 : Nat) : Int) = 2 := rfl
    rw [this] at h2
    omega
  · have hw : wordOf l i = z36 := by unfold wordOf; rw [if_neg hp]
    rw [hw]
    decide

theorem enc_from (l : List Int) (hr : RightP l) (S : List Int) (hS : S.length ≤ 1000000000) (hby : Bytes S) : ∀ (d i : Nat) (out : List Int) (acc : Int) (n : Nat), i + d = S.length → n < 8 → EInv out acc n → 8 * out.length + n ≤ 24 * i →
    ((∀ x ∈ S.drop i, Val l x) → ∃ r, Ev (fun k => huff_Encode.l0 k (words l) out acc (n : Int) S (S.length : Int) (i : Int)) (r, 0) ∧ Bytes r ∧ r.length ≤ 3 * S.length + 1 ∧ ∃ p < 8, Mp.bitsOf r = Mp.bitsOf out ++ mbits acc n ++ (S.drop i).flatMap (wb l) ++ List.replicate p 1) ∧
    ((¬ ∀ x ∈ S.drop i, Val l x) → Ev (fun k => huff_Encode.l0 k (words l) out acc (n : Int) S (S.length : Int) (i : Int)) ([], 1))
  | 0, i, out, acc, n, h, hn, hv, hlen => by
    have hd : S.drop i = [] := List.drop_eq_nil_of_le (by omega)
    rw [hd]
    refine ⟨fun _ => ?_, fun h => absurd (by simp) h⟩
    have hlo := hv.lo
    have hhi := hv.hi
    by_cases c : n = 0
    · subst c
      refine ⟨out, Ev.step (f := fun k => some (out, 0)) (fun k => ?_) (Ev.now _), hv.by8, by omega, 0, by omega, by simp [mbits]⟩
      simp only [huff_Encode.l0]
      rw [if_neg (by omega), if_neg (by omega)]
    · obtain ⟨q, hq⟩ : ∃ q, n + q = 8 := ⟨8 - n, by omega⟩
      have ew : wrap64 (8 - (n : Int)) = (q : Int) := by unfold wrap64; omega
      have hqp : (0 : Int) < 2 ^ q := Int.pow_pos (by decide)
      have hq8 := pow_lit q 8 (by omega) 256 (by decide)
      have hmul : (acc + 1) * 2 ^ q ≤ 256 := by
        rw [show (256 : Int) = 2 ^ 8 from by decide, ← hq, Int.pow_add]
        exact Int.mul_le_mul_of_nonneg_right (by omega) (Int.le_of_lt hqp)
      have hm2 : acc * 2 ^ q + 2 ^ q ≤ 256 := by rw [Int.add_mul, Int.one_mul] at hmul; exact hmul
      have hm0 : 0 ≤ acc * 2 ^ q := Int.mul_nonneg hlo (Int.le_of_lt hqp)
      have ej : Go.bits .or .i64 (shl .i64 acc (q : Int)) (wrap64 (shl .i64 1 (q : Int) - 1)) = acc * 2 ^ q + (2 ^ q - 1) := by
        rw [shl_mul 1 q (by decide) (by omega) (by omega), Int.one_mul, shl_mul acc q hlo (by omega) (by omega), show wrap64 ((2 : Int) ^ q - 1) = 2 ^ q - 1 by unfold wrap64; omega]
        exact or_add _ _ q hm0 (Int.mul_emod_left _ _) (by omega) (by omega) (by omega) (by omega)
      have ediv : (acc * 2 ^ q + (2 ^ q - 1)) / 2 ^ q = acc := by
        rw [Int.add_comm, Int.add_mul_ediv_right _ _ (by omega), Int.ediv_eq_zero_of_lt (by omega) (by omega), Int.zero_add]
      have emod : (acc * 2 ^ q + (2 ^ q - 1)) % 2 ^ q = 2 ^ q - 1 := by
        rw [Int.add_comm, Int.add_mul_emod_self_right, Int.emod_eq_of_lt (by omega) (by omega)]
      refine ⟨out ++ [acc * 2 ^ q + (2 ^ q - 1)], Ev.step (f := fun k => some (out ++ [acc * 2 ^ q + (2 ^ q - 1)], 0)) (fun k => ?_) (Ev.now _), ?_, by simp; omega, q, by omega, ?_⟩
      · simp only [huff_Encode.l0]
        rw [if_neg (by omega), if_pos (by omega), ew, if_pos (by omega), if_pos (by omega), ej, show (acc * 2 ^ q + (2 ^ q - 1)) % 256 = acc * 2 ^ q + (2 ^ q - 1) by omega]
      · intro x hx
        rcases List.mem_append.1 hx with h1 | h1
        · exact hv.by8 x h1
        · rw [List.mem_singleton.1 h1]; omega
      · rw [Mp.bitsOf_snoc, mbits8, ← hq, mbits_split n q, ediv, emod, mbits_ones]
        simp
  | d + 1, i, out, acc, n, h, hn, hv, hlen => by
    have hi : i < S.length := by omega
    have hlo := hv.lo
    have hhi := hv.hi
    obtain ⟨x, hx⟩ : ∃ x, rd S (i : Int) = x := ⟨_, rfl⟩
    have hdr : S.drop i = x :: S.drop (i + 1) := by
      rw [List.drop_eq_getElem_cons hi, ← hx]
      simp [rd, hi]
    have hxb : 0 ≤ x ∧ x < 256 := hby x (by rw [← hx]; simp [rd, hi])
    have hl := hr.1
    have ewx : wrap64 x = x := by unfold wrap64; omega
    rw [hdr]
    by_cases hval : Val l x
    · obtain ⟨v0, v1, v2⟩ := hval
      have ex : ((x.toNat : Nat) : Int) = x := Int.toNat_of_nonneg v0
      obtain ⟨b0, b1, b2, b3⟩ := words_bnd l hr x.toNat (by omega)
      have hwl := wordOf_len l hr x.toNat (by omega)
      rw [ex] at hwl
      have hat : rd_T36 (words l) x = wordOf l x.toNat := by have := words_at l x.toNat (by omega); rwa [ex] at this
      obtain ⟨m, hm⟩ : ∃ m : Nat, (wordOf l x.toNat).f1 = (m : Int) := ⟨_, (Int.toNat_of_nonneg b2).symm⟩
      obtain ⟨v, hvv⟩ : ∃ v, (wordOf l x.toNat).f0 = v := ⟨_, rfl⟩
      have hwb : wb l x = mbits v m := by unfold wb; rw [hm, hvv, Int.toNat_natCast]
      rw [hm, hvv, Int.toNat_natCast] at b1
      rw [hvv] at b0
      rw [hm] at b3 hwl
      have m24 : m ≤ 24 := by clear b0 b1 b2 hlo hhi; omega
      clear b3
      have f1 : n + m < 8 * (4 + 1) := by clear b0 b1 b2 hlo hhi; omega
      have f2 : n + m ≤ 32 := by clear b0 b1 b2 hlo hhi; omega
      have f3 : out.length + 4 < 140737488355328 := by clear b0 b1 b2 hlo hhi; omega
      have f5 : 8 * out.length + (n + m) ≤ 24 * (i + 1) := by clear b0 b1 b2 hlo hhi; omega
      have hmp : (0 : Int) < 2 ^ m := Int.pow_pos (by decide)
      have h24 := pow_lit m 24 (by omega) 16777216 (by decide)
      have h7 := pow_lit n 7 (by omega) 128 (by decide)
      have hmul : (acc + 1) * 2 ^ m ≤ 2 ^ (n + m) := by
        rw [Int.pow_add]
        exact Int.mul_le_mul_of_nonneg_right (by omega) (Int.le_of_lt hmp)
      have hnm := pow_lit (n + m) 31 (by omega) 2147483648 (by decide)
      rw [Int.add_mul, Int.one_mul] at hmul
      have hm0 : 0 ≤ acc * 2 ^ m := Int.mul_nonneg hlo (Int.le_of_lt hmp)
      have ej : Go.bits .or .i64 (shl .i64 acc (m : Int)) v = acc * 2 ^ m + v := by
        rw [shl_mul acc m hlo (by omega) (by omega)]
        exact or_add _ _ m hm0 (Int.mul_emod_left _ _) (by omega) (by omega) (by omega) (by omega)
      have ediv : (acc * 2 ^ m + v) / 2 ^ m = acc := by
        rw [Int.add_comm, Int.add_mul_ediv_right _ _ (by omega), Int.ediv_eq_zero_of_lt (by omega) (by omega), Int.zero_add]
      have emod : (acc * 2 ^ m + v) % 2 ^ m = v := by
        rw [Int.add_comm, Int.add_mul_emod_self_right, Int.emod_eq_of_lt (by omega) (by omega)]
      have en : wrap64 ((n : Int) + (m : Int)) = ((n + m : Nat) : Int) := by unfold wrap64; omega
      obtain ⟨out', acc', n', a1, a2, a3, a4, a5⟩ := flush l S i (by omega) 4 out (acc * 2 ^ m + v) (n + m) f1 f2 ⟨hv.by8, by omega, by omega⟩ f3
      have ebits : Mp.bitsOf out' ++ mbits acc' n' = Mp.bitsOf out ++ mbits acc n ++ wb l x := by
        rw [a3, mbits_split n m, ediv, emod, hwb, List.append_assoc]
      have ih := enc_from l hr S hS hby d (i + 1) out' acc' n' (by omega) a1 a2 (by rw [a4]; exact f5)
      have hgo : ∀ R, Ev (fun k => huff_Encode.l0 k (words l) out' acc' (n' : Int) S (S.length : Int) ((i + 1 : Nat) : Int)) R → Ev (fun k => huff_Encode.l0 k (words l) out acc (n : Int) S (S.length : Int) (i : Int)) R := by
        intro R hR
        refine Ev.step (f := fun k => huff_Encode.j1 k (words l) out acc (n : Int) x S (S.length : Int) (i : Int) false) (fun k => ?_) (Ev.step (fun k => ?_) (a5 R hR))
        · simp only [huff_Encode.l0]
          rw [if_pos (by omega), if_pos (by omega), if_pos (by omega), hx, ewx, if_neg (by rw [words_len]; omega), if_pos v0, if_pos (by rw [words_len]; omega), hat, hm, show ((m : Int) == 0) = false from beq_eq_false_iff_ne.2 (by omega)]
        · simp only [huff_Encode.j1, Bool.false_eq_true, if_false]
          rw [if_pos v0, if_pos (by rw [words_len]; omega), hat, hm, if_pos (by omega), hvv, ej, en]
      constructor
      · intro hall
        obtain ⟨r, q1, q2, q3, p, q4, q5⟩ := ih.1 (fun y hy => hall y (by simp [hy]))
        refine ⟨r, hgo _ q1, q2, q3, p, q4, ?_⟩
        rw [q5, ebits, List.flatMap_cons]
        simp [List.append_assoc]
      · intro hall
        refine hgo _ (ih.2 (fun hh => hall (fun y hy => ?_)))
        rcases List.mem_cons.1 hy with h1 | h1
        · subst h1; exact ⟨v0, v1, v2⟩
        · exact hh y h1
    · refine ⟨fun hall => absurd (hall x (by simp)) hval, fun _ => ?_⟩
      refine Ev.step (f := fun k => huff_Encode.j1 k (words l) out acc (n : Int) x S (S.length : Int) (i : Int) true) (fun k => ?_) (Ev.step (f := fun k => some ([], 1)) (fun k => by simp only [huff_Encode.j1]; rfl) (Ev.now _))
      simp only [huff_Encode.l0]
      rw [if_pos (by omega), if_pos (by omega), if_pos (by omega), hx, ewx]
      by_cases c : x ≥ (l.length : Int)
      · rw [if_pos (by rw [words_len]; exact c)]
      · have ex : ((x.toNat : Nat) : Int) = x := Int.toNat_of_nonneg hxb.1
        have hat : rd_T36 (words l) x = wordOf l x.toNat := by have := words_at l x.toNat (by omega); rwa [ex] at this
        have hwl := wordOf_len l hr x.toNat (by omega)
        have hok : 0 ≤ rd l (x.toNat : Int) ∧ rd l (x.toNat : Int) ≤ 24 := hr.2.1 x.toNat (by omega)
        rw [ex] at hwl hok
        have hz : rd l x = 0 := by
          have : ¬ (0 < rd l x) := fun h => hval ⟨hxb.1, by omega, h⟩
          omega
        rw [if_neg (by rw [words_len]; exact c), if_pos hxb.1, if_pos (by rw [words_len]; omega), hat, hwl, hz]
        rfl

/-- what Encode answers -/
theorem enc_ev (l : List Int) (hl : l.length ≤ 17592186044416) (S : List Int) (hS : S.length ≤ 1000000000) (hby : Bytes S) :
    (RightP l → (∀ x ∈ S, Val l x) → ∃ r, Ev (fun k => huff_Encode.f k l S) (r, 0) ∧ Bytes r ∧ r.length ≤ 3 * S.length + 1 ∧ ∃ p < 8, Mp.bitsOf r = S.flatMap (wb l) ++ List.replicate p 1) ∧
    (¬ (RightP l ∧ ∀ x ∈ S, Val l x) → Ev (fun k => huff_Encode.f k l S) ([], 1)) := by
  have base : RightP l → _ := fun hr => enc_from l hr S hS hby S.length 0 [] 0 0 (by omega) (by omega) ⟨by intro x hx; simp at hx, by omega, by simp⟩ (by simp)
  have hgo : RightP l → ∀ R, Ev (fun k => huff_Encode.l0 k (words l) [] 0 ((0 : Nat) : Int) S (S.length : Int) ((0 : Nat) : Int)) R → Ev (fun k => huff_Encode.f k l S) R := by
    intro hr R h
    unfold huff_Encode.f
    refine Ev.bind (f := fun k t => _) ((words_ev l hl).1 hr) ?_
    simp only [if_true]
    exact h
  constructor
  · intro hr hv
    obtain ⟨r, q1, q2, q3, p, q4, q5⟩ := (base hr).1 (by rw [List.drop_zero]; exact hv)
    refine ⟨r, hgo hr _ q1, q2, q3, p, q4, ?_⟩
    rw [q5]
    simp [Mp.bitsOf, mbits]
  · intro hn
    by_cases hr : RightP l
    · exact hgo hr _ ((base hr).2 (fun h => hn ⟨hr, by rw [List.drop_zero] at h; exact h⟩))
    · unfold huff_Encode.f
      refine Ev.bind (f := fun k t => _) ((words_ev l hl).2 hr) ?_
      exact Ev.now _
end Go.Proofs.Ytgcefofmfeghmaa.Hu
