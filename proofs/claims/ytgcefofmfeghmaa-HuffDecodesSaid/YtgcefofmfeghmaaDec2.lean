import Derived.Test.YtgcefofmfeghmaaDec1
import Derived.Laws.BitsLemmas
/- Decoding, plainly: bit by bit. -/
namespace Go.Proofs.Ytgcefofmfeghmaa.Mp
open Go.RowKit Go.Proofs.YtgcefofmfeghmaaW.PrintWords Go.Proofs.YtgcefofmfeghmaaW.PrintLast Go.Proofs.YtgcefofmfeghmaaW.PrintMore Go.Proofs.Ytgcefofmfeghmaa.G
set_option linter.unusedVariables false
set_option linter.unusedSimpArgs false

/-- the symbols of the first j words -/
def symMap (ws : List S36) (j : Nat) : List (S36 × Int) := (List.range j).filterMap (fun i : Nat => if 0 < (rd_T36 ws (i : Int)).f1 then some (rd_T36 ws (i : Int), (i : Int) % 256) else none)
theorem symMap_succ (ws : List S36) (j : Nat) : symMap ws (j + 1) = if 0 < (rd_T36 ws (j : Int)).f1 then symMap ws j ++ [(rd_T36 ws (j : Int), (j : Int) % 256)] else symMap ws j := by
  unfold symMap
  rw [List.range_succ, List.filterMap_append]
  by_cases h : 0 < (rd_T36 ws (j : Int)).f1 <;> simp [h]
/-- no word is met twice -/
def distB (ws : List S36) : Bool := (List.range ws.length).all (fun i : Nat => !decide (0 < (rd_T36 ws (i : Int)).f1) || (look (symMap ws i) (rd_T36 ws (i : Int)).f0 (rd_T36 ws (i : Int)).f1).isNone)
theorem distB_at {ws : List S36} (h : distB ws = true) (j : Nat) (hj : j < ws.length) (hp : 0 < (rd_T36 ws (j : Int)).f1) : look (symMap ws j) (rd_T36 ws (j : Int)).f0 (rd_T36 ws (j : Int)).f1 = none := by
  have := List.all_eq_true.1 h j (List.mem_range.2 hj)
  simpa [hp] using this

abbrev DS := List Int × Int × Int
/-- one bit -/
def dstep (m : List (S36 × Int)) (s : DS) (x : Int) : Option DS :=
  match look m (2 * s.2.1 + x) (s.2.2 + 1) with
  | some y => some (s.1 ++ [y], 0, 0)
  | none => if 24 < s.2.2 + 1 then none else some (s.1, 2 * s.2.1 + x, s.2.2 + 1)
def bit (c : Int) (k : Nat) : Int := c / 2 ^ (7 - k) % 2
def bits8 (c : Int) (k : Nat) : List Int := (List.range k).map (bit c)
theorem bits8_succ (c : Int) (k : Nat) : bits8 c (k + 1) = bits8 c k ++ [bit c k] := by unfold bits8; rw [List.range_succ]; simp
theorem bit_cases (c : Int) (k : Nat) : bit c k = 0 ∨ bit c k = 1 := by unfold bit; omega
def bitsOf (l : List Int) : List Int := l.flatMap (fun c => bits8 c 8)
def drun (m : List (S36 × Int)) (s : DS) (l : List Int) : Option DS := l.foldlM (dstep m) s
theorem drun_append (m : List (S36 × Int)) (s : DS) (a b : List Int) : drun m s (a ++ b) = (drun m s a).bind (fun t => drun m t b) := by
  unfold drun; rw [List.foldlM_append]; rfl
theorem drun_snoc (m : List (S36 × Int)) (s : DS) (a : List Int) (x : Int) : drun m s (a ++ [x]) = (drun m s a).bind (fun t => dstep m t x) := by
  rw [drun_append]
  congr 1
  funext t
  unfold drun
  simp
/-- what holds of all states -/
structure DOk (n : Nat) (s : DS) : Prop where
  lo : 0 ≤ s.2.1
  hi : s.2.1 < 2 ^ s.2.2.toNat
  l0 : 0 ≤ s.2.2
  l1 : s.2.2 ≤ 24
  len : s.1.length ≤ n
theorem DOk.small {n : Nat} {s : DS} (h : DOk n s) : s.2.1 < 16777216 := by
  have h1 := h.hi
  have : (2 : Int) ^ s.2.2.toNat ≤ 2 ^ 24 := by
    have h2 : 2 ^ s.2.2.toNat ≤ 2 ^ 24 := Nat.pow_le_pow_right (by decide) (by have := h.l1; omega)
    have h4 := Int.ofNat_le.2 h2
    rwa [Int.natCast_pow, Int.natCast_pow] at h4
  have h3 : (2 : Int) ^ 24 = 16777216 := by decide
  omega
theorem DOk.step {n : Nat} {s t : DS} {m : List (S36 × Int)} {x : Int} (h : DOk n s) (hx : x = 0 ∨ x = 1) (ht : dstep m s x = some t) : DOk (n + 1) t := by
  unfold dstep at ht
  split at ht
  · cases ht
    exact ⟨by simp, by simp, by simp, by simp, by have := h.len; simp; omega⟩
  · split at ht
    · cases ht
    · cases ht
      have h1 := h.lo; have h2 := h.hi; have h3 := h.l0; have h4 := h.len
      refine ⟨by simp only []; omega, ?_, by simp only []; omega, by simp only []; omega, by simp only []; omega⟩
      simp only []
      rw [show (s.2.2 + 1).toNat = s.2.2.toNat + 1 by omega, Int.pow_succ]
      omega
theorem DOk.run {m : List (S36 × Int)} : ∀ (l : List Int) (n : Nat) (s t : DS), DOk n s → (∀ x ∈ l, x = 0 ∨ x = 1) → drun m s l = some t → DOk (n + l.length) t
  | [], n, s, t, h, _, ht => by unfold drun at ht; simp at ht; subst ht; exact h
  | x :: l, n, s, t, h, hb, ht => by
    unfold drun at ht
    rw [List.foldlM_cons] at ht
    cases hs : dstep m s x with
    | none => rw [hs] at ht; simp at ht
    | some u =>
      rw [hs] at ht
      have := DOk.run l (n + 1) u t (h.step (hb x (by simp)) hs) (fun y hy => hb y (by simp [hy])) ht
      rw [List.length_cons, show n + (l.length + 1) = n + 1 + l.length by omega]
      exact this
theorem bits8_01 (c : Int) (k : Nat) : ∀ x ∈ bits8 c k, x = 0 ∨ x = 1 := by
  intro x hx
  unfold bits8 at hx
  simp only [List.mem_map] at hx
  obtain ⟨i, -, rfl⟩ := hx
  exact bit_cases c i
theorem bits8_len (c : Int) (k : Nat) : (bits8 c k).length = k := by unfold bits8; simp
theorem bitsOf_01 (l : List Int) : ∀ x ∈ bitsOf l, x = 0 ∨ x = 1 := by
  intro x hx
  unfold bitsOf at hx
  simp only [List.mem_flatMap] at hx
  obtain ⟨c, -, h⟩ := hx
  exact bits8_01 c 8 x h
theorem bitsOf_snoc (l : List Int) (c : Int) : bitsOf (l ++ [c]) = bitsOf l ++ bits8 c 8 := by unfold bitsOf; simp
theorem bitsOf_len (l : List Int) : (bitsOf l).length = 8 * l.length := by
  induction l with
  | nil => rfl
  | cons c l ih =>
    have : bitsOf (c :: l) = bits8 c 8 ++ bitsOf l := by unfold bitsOf; simp
    rw [this, List.length_append, bits8_len, ih, List.length_cons]; omega
theorem dok0 : DOk 0 (([], 0, 0) : DS) := ⟨by simp, by simp, by simp, by simp, by simp⟩
theorem dok_at {m : List (S36 × Int)} {l : List Int} {c : Int} {k : Nat} {s : DS} (hk : k ≤ 8) (h : drun m ([], 0, 0) (bitsOf l ++ bits8 c k) = some s) : DOk (8 * l.length + k) s := by
  have := DOk.run (bitsOf l ++ bits8 c k) 0 _ s dok0 (fun x hx => (List.mem_append.1 hx).elim (bitsOf_01 l x) (bits8_01 c k x)) h
  rwa [List.length_append, bitsOf_len, bits8_len, Nat.zero_add] at this

/-- what decoding answers: from the words and the bytes -/
def decodeF (ws : List S36) (l : List Int) : List Int × Int :=
  match drun (symMap ws ws.length) ([], 0, 0) (bitsOf l) with
  | none => ([], 12)
  | some s => if 7 < s.2.2 then ([], 12) else if s.2.1 = 2 ^ s.2.2.toNat - 1 then (s.1, 0) else ([], 12)

theorem bits8_split (c : Int) (q : Nat) (hq : q < 8) : ∃ r, bits8 c 8 = bits8 c q ++ [bit c q] ++ r := by
  refine ⟨((List.range 8).drop (q + 1)).map (bit c), ?_⟩
  unfold bits8
  rw [show [bit c q] = [q].map (bit c) from rfl, ← List.map_append, ← List.map_append]
  congr 1
  rcases q with _ | _ | _ | _ | _ | _ | _ | _ | q <;> first | rfl | omega
theorem bitsOf_cut (l : List Int) (i : Nat) (hi : i < l.length) : ∃ r, bitsOf l = bitsOf (l.take i) ++ bits8 (rd l (i : Int)) 8 ++ r := by
  refine ⟨bitsOf (l.drop (i + 1)), ?_⟩
  have h : l = l.take i ++ [rd l (i : Int)] ++ l.drop (i + 1) := by
    have e : rd l (i : Int) = l[i] := by simp [rd, hi]
    rw [e, List.append_assoc, List.singleton_append, List.getElem_cons_drop hi, List.take_append_drop]
  conv => lhs; rw [h]
  unfold bitsOf
  simp
/-- a step that fails: nothing is decoded -/
theorem decode_none (ws : List S36) (l : List Int) (i q : Nat) (s : DS) (hi : i < l.length) (hq : q < 8) (h : drun (symMap ws ws.length) ([], 0, 0) (bitsOf (l.take i) ++ bits8 (rd l (i : Int)) q) = some s) (hs : dstep (symMap ws ws.length) s (bit (rd l (i : Int)) q) = none) : decodeF ws l = ([], 12) := by
  obtain ⟨r1, e1⟩ := bitsOf_cut l i hi
  obtain ⟨r2, e2⟩ := bits8_split (rd l (i : Int)) q hq
  have : drun (symMap ws ws.length) ([], 0, 0) (bitsOf l) = none := by
    rw [e1, e2, show bitsOf (l.take i) ++ (bits8 (rd l (i : Int)) q ++ [bit (rd l (i : Int)) q] ++ r2) ++ r1 = ((bitsOf (l.take i) ++ bits8 (rd l (i : Int)) q) ++ [bit (rd l (i : Int)) q]) ++ (r2 ++ r1) by simp [List.append_assoc], drun_append, drun_snoc, h]
    simp [hs]
  unfold decodeF
  rw [this]
theorem or_bit (B b : Int) (h0 : 0 ≤ B) (h1 : B < 16777216) (hb : b = 0 ∨ b = 1) : bits .or .i64 (wrap64 (B * 2)) (wrap64 b) = 2 * B + b := by
  have e1 : wrap64 (B * 2) = 2 * B := by unfold wrap64; omega
  have e2 : wrap64 b = b := by unfold wrap64; omega
  rw [e1, e2]
  have h2 : ∀ n : Int, 0 ≤ n → n < 2 ^ 32 → IntKind.i64.wrap n = n := fun n h h' => by
    rw [IntKind.wrap_i64]
    have : (2 : Int) ^ 32 = 4294967296 := by decide
    omega
  refine bits_join .i64 32 (by decide) h2 1 (by omega) (x := 2 * B) (y := b) ?_ ?_ ?_ ?_ ?_
  all_goals first | (simp; omega) | omega
theorem and_bit (x : Int) (q : Nat) (h0 : 0 ≤ x) (h1 : x < 256) : bits .and .u8 (x / 2 ^ (7 - q)) 1 = bit x q := by
  have h2 : 0 ≤ x / 2 ^ (7 - q) := Int.ediv_nonneg h0 (Int.pow_nonneg (by decide))
  have h3 : x / 2 ^ (7 - q) ≤ x := Int.ediv_le_self _ h0
  unfold bit
  exact bits_mask .u8 8 (by decide) wraps_u8 1 (by decide) _ h2 (by omega)
end Go.Proofs.Ytgcefofmfeghmaa.Mp
