import Derived.Test.YtmmommcgjafbbaaDoorXDaE

/- The document's numbers in a text of 29 bytes: its cuts, its months. -/
namespace Go.Proofs.YtmmommcgjafbbaaDoor.Da
open Go.RowKit Go.Proofs.YtmmommcgjafbbaaDoorW.PrintWords Go.Proofs.YtmmommcgjafbbaaDoorW.PrintLast Go.Proofs.YtmmommcgjafbbaaDoorW.PrintMore Go.Proofs.YtmmommcgjafbbaaDoor.G
set_option linter.unusedVariables false
set_option linter.unusedSimpArgs false
def numOf (a : ByteArray) : Int := (turnbuckleref16_number.f 40 a).getD 0
theorem num_l0 (a : ByteArray) : ∀ (k i : Nat) (x : Int), i ≤ a.size → a.size + 1 ≤ k + i → a.size ≤ 1000 → ∃ r, turnbuckleref16_number.l0 k a x (i : Int) = some r
  | 0, i, x, h, h', _ => by omega
  | k + 1, i, x, h, h', hs => by
    unfold turnbuckleref16_number.l0
    by_cases h1 : (i : Int) < (a.size : Int)
    · rw [if_pos h1, if_pos (by omega)]
      by_cases h2 : bt a (i : Int) < 48
      · rw [if_pos h2]; exact ⟨_, rfl⟩
      · rw [if_neg h2]
        by_cases h3 : bt a (i : Int) > 57
        · rw [if_pos h3]; exact ⟨_, rfl⟩
        · rw [if_neg h3, show wrap64 ((i : Int) + 1) = ((i + 1 : Nat) : Int) by unfold wrap64; omega]
          exact num_l0 a k (i + 1) _ (by omega) (by omega) hs
    · rw [if_neg h1]; exact ⟨_, rfl⟩
theorem num_def (a : ByteArray) (h : a.size ≤ 29) : turnbuckleref16_number.f 40 a = some (numOf a) := by
  obtain ⟨r, hr⟩ := num_l0 a 40 0 0 (by omega) (by omega) (by omega)
  have hr : turnbuckleref16_number.f 40 a = some r := hr
  unfold numOf
  rw [hr]; rfl
theorem num_calls (a : ByteArray) (h : a.size ≤ 29) (w : World) : Calls Tryd.prog 36 #[.string a] w fun e w' => e = .returned (.int .i64 (numOf a)) ∧ Drawn0 w w' :=
  turnbuckleref16_number.calls 40 a _ w (num_def a h)
theorem num_two' : ∀ n : Nat, n < 100 → turnbuckleref16_number.f 40 ⟨(two n).toArray⟩ = some (n : Int) := by decide +kernel
theorem num_fours : ∀ a : Nat, a < 100 → ∀ b : Nat, b < 100 → turnbuckleref16_number.f 40 ⟨(two a ++ two b).toArray⟩ = some ((100 * a + b : Nat) : Int) := by decide +kernel
theorem num_two {n : Nat} (h : n < 100) : numOf (B (two n)) = (n : Int) := by unfold numOf; rw [num_two' n h]; rfl
theorem num_four {n : Nat} (h : n < 10000) : numOf (B (four n)) = (n : Int) := by
  have h1 := num_fours (n / 100) (by omega) (n % 100) (by omega)
  rw [show 100 * (n / 100) + n % 100 = n by omega] at h1
  have : four n = two (n / 100) ++ two (n % 100) := by simp only [four, two, List.cons_append, List.nil_append, show n / 100 / 10 = n / 1000 by omega, show n % 100 / 10 = n / 10 % 10 by omega, show n % 100 % 10 = n % 10 by omega]
  unfold numOf
  rw [this, h1]; rfl
/-- the month that the document's loop finds: the last one of the first k that is p -/
def mo (p : ByteArray) : Nat → Int
  | 0 => 0
  | k + 1 => if B (mons.getD k []) = p then (k : Int) + 1 else mo p k
theorem mo_at : ∀ M : Nat, M < 12 → mo (B (mons.getD M [])) 12 = (M : Int) + 1 := by decide +kernel
theorem wd3 : ∀ i : Nat, i < 7 → ∃ a b c, wdays.getD i [] = [a, b, c] := by
  intro i h
  have : i = 0 ∨ i = 1 ∨ i = 2 ∨ i = 3 ∨ i = 4 ∨ i = 5 ∨ i = 6 := by omega
  rcases this with rfl | rfl | rfl | rfl | rfl | rfl | rfl <;> exact ⟨_, _, _, rfl⟩
theorem mon3 : ∀ i : Nat, i < 12 → ∃ a b c, mons.getD i [] = [a, b, c] := by
  intro i h
  have : i = 0 ∨ i = 1 ∨ i = 2 ∨ i = 3 ∨ i = 4 ∨ i = 5 ∨ i = 6 ∨ i = 7 ∨ i = 8 ∨ i = 9 ∨ i = 10 ∨ i = 11 := by omega
  rcases this with rfl | rfl | rfl | rfl | rfl | rfl | rfl | rfl | rfl | rfl | rfl | rfl <;> exact ⟨_, _, _, rfl⟩
theorem ext_l (l : List UInt8) (a b : Nat) : (⟨l.toArray⟩ : ByteArray).extract a b = ⟨((l.drop a).take (b - a)).toArray⟩ := by
  apply ByteArray.ext
  simp [ByteArray.data_extract]
theorem text_cuts {s : ByteArray} {n : Int} {y M d h mi sc wd : Nat} (t : IsText s n y M d h mi sc wd) :
    s.extract 12 16 = B (four y) ∧ s.extract 5 7 = B (two d) ∧ s.extract 17 19 = B (two h) ∧ s.extract 20 22 = B (two mi) ∧ s.extract 23 25 = B (two sc) ∧ s.extract 8 11 = B (mons.getD M []) := by
  have hM : M < 12 := by have := t.ok.1.2.2.2.1; omega
  obtain ⟨w0, w1, w2, hw⟩ := wd3 wd t.wd7
  obtain ⟨m0, m1, m2, hm⟩ := mon3 M hM
  rw [t.text]
  unfold fmtL clockL
  rw [hw, hm]
  refine ⟨?_, ?_, ?_, ?_, ?_, ?_⟩ <;> (rw [ext_l]; simp [Lib.join, List.intercalate, two, four, B])
/-- of a text the numbers are the ones read -/
theorem text_read {s : ByteArray} {n : Int} {y M d h mi sc wd : Nat} (t : IsText s n y M d h mi sc wd) :
    numOf (s.extract 12 16) = (y : Int) ∧ mo (s.extract 8 11) 12 = (M : Int) + 1 ∧ numOf (s.extract 5 7) = (d : Int) ∧ numOf (s.extract 17 19) = (h : Int) ∧ numOf (s.extract 20 22) = (mi : Int) ∧ numOf (s.extract 23 25) = (sc : Int) := by
  obtain ⟨h1, h2, h3, h4, h5, h6⟩ := text_cuts t
  obtain ⟨⟨y0, y1, m0, m1, d0_, d1⟩, h0, hh1, mi0, mi1, s0, s1⟩ := t.ok
  have hd31 : (d : Int) ≤ 31 := by have := dim_lo (y : Int) ((M : Int) + 1); omega
  rw [h1, h2, h3, h4, h5, h6]
  exact ⟨num_four (by omega), mo_at M (by omega), num_two (by omega), num_two (by omega), num_two (by omega), num_two (by omega)⟩
end Go.Proofs.YtmmommcgjafbbaaDoor.Da

