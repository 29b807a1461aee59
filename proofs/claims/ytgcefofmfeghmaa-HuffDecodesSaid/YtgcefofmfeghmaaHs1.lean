import Derived.Sort.LotA
import Derived.Sort.Grow
/- Stable sorting by blocks and merges in place (plain: no program). -/
namespace Go.Proofs.Ytgcefofmfeghmaa.St
open Go.Sort
set_option linter.unusedVariables false

def SwapV (f : Nat → Int) (a b n k : Nat) : Int := if a ≤ k ∧ k < a + n then f (b + (k - a)) else if b ≤ k ∧ k < b + n then f (a + (k - b)) else f k
def RotV (f : Nat → Int) (a m b k : Nat) : Int := if a ≤ k ∧ k < a + (b - m) then f (m + (k - a)) else if a + (b - m) ≤ k ∧ k < b then f (a + (k - (a + (b - m)))) else f k

theorem rot_gt (f g : Nat → Int) (m i j : Nat) (hi : i ≤ m) (hj : 0 < j) (hij : j < i) (hg : ∀ k, g k = SwapV f (m - i) m j k) (k : Nat) :
    RotV g (m - i + j) m (m + j) k = RotV f (m - i) m (m + j) k := by
  unfold RotV
  simp only [hg]
  unfold SwapV
  repeat' split
  all_goals first | (exfalso; omega) | (congr 1; omega) | rfl
theorem rot_lt (f g : Nat → Int) (m i j : Nat) (hi : i ≤ m) (hj : 0 < i) (hij : i < j) (hg : ∀ k, g k = SwapV f (m - i) (m + j - i) i k) (k : Nat) :
    RotV g (m - i) m (m + (j - i)) k = RotV f (m - i) m (m + j) k := by
  unfold RotV
  simp only [hg]
  unfold SwapV
  repeat' split
  all_goals first | (exfalso; omega) | (congr 1; omega) | rfl
theorem rot_eq (f g : Nat → Int) (m i : Nat) (hi : i ≤ m) (hg : ∀ k, g k = SwapV f (m - i) m i k) (k : Nat) :
    g k = RotV f (m - i) m (m + i) k := by
  unfold RotV
  simp only [hg]
  unfold SwapV
  repeat' split
  all_goals first | (exfalso; omega) | (congr 1; omega) | rfl

/-- the order: by key, then by number -/
def le (K : Int → Int) (x y : Int) : Prop := K x < K y ∨ (K x = K y ∧ x ≤ y)
theorem le.refl (K : Int → Int) (x : Int) : le K x x := by unfold le; omega
theorem le.trans {K : Int → Int} {x y z : Int} (h : le K x y) (h2 : le K y z) : le K x z := by unfold le at *; omega
theorem le_of_not_lt {K : Int → Int} {x y : Int} (h : ¬ K y < K x) (hxy : x ≤ y) : le K x y := by unfold le; omega
theorem le_of_lt {K : Int → Int} {x y : Int} (h : K x < K y) : le K x y := .inl h

def Sorted (K : Int → Int) (a b : Nat) (d : Array Int) : Prop := ∀ i j, a ≤ i → i < j → j < b → le K d[i]! d[j]!
def Cross (a m b : Nat) (d : Array Int) : Prop := ∀ i j, a ≤ i → i < m → m ≤ j → j < b → d[i]! ≤ d[j]!

theorem Sorted.le_of {K : Int → Int} {a b : Nat} {d : Array Int} (h : Sorted K a b d) {i j : Nat} (h1 : a ≤ i) (h2 : i ≤ j) (h3 : j < b) : le K d[i]! d[j]! := by
  rcases Nat.lt_or_ge i j with h' | h'
  · exact h i j h1 h' h3
  · obtain rfl : i = j := by omega
    exact le.refl _ _

/-- two sorted parts, all of the first one before all of the second -/
theorem Sorted.glue {K : Int → Int} {a m b : Nat} {d : Array Int} (h1 : Sorted K a m d) (h2 : Sorted K m b d) (hx : ∀ i j, a ≤ i → i < m → m ≤ j → j < b → le K d[i]! d[j]!) : Sorted K a b d := by
  intro i j hi hij hj
  rcases Nat.lt_or_ge j m with h | h
  · exact h1 i j hi hij h
  · rcases Nat.lt_or_ge i m with h' | h'
    · exact hx i j hi h' h hj
    · exact h2 i j h' hij hj

theorem mem_ext {d : Array Int} {a b : Nat} (hb : b ≤ d.size) (x : Int) : x ∈ (d.extract a b).toList ↔ ∃ i, a ≤ i ∧ i < b ∧ d[i]! = x := by
  rw [extract_toList d a b hb, List.mem_map]
  constructor
  · rintro ⟨i, hi, rfl⟩
    rw [List.mem_range'_1] at hi
    exact ⟨i, by omega, by omega, rfl⟩
  · rintro ⟨i, h1, h2, rfl⟩
    exact ⟨i, by rw [List.mem_range'_1]; omega, rfl⟩

/-- what lies in a part behind a permutation of it lay there -/
theorem PermIn.from {a b : Nat} {d d' : Array Int} (h : PermIn a b d d') (hb : b ≤ d.size) {i : Nat} (h1 : a ≤ i) (h2 : i < b) : ∃ j, a ≤ j ∧ j < b ∧ d[j]! = d'[i]! := by
  have : d'[i]! ∈ (d.extract a b).toList := h.2.2.mem_iff.1 ((mem_ext (by rw [h.1]; exact hb) _).2 ⟨i, h1, h2, rfl⟩)
  exact (mem_ext hb _).1 this

/-- the merge's step: behind the turn of [s, m) and [m, e) the halves are merged by themselves -/
theorem merge_step {K : Int → Int} {a m b mid s e : Nat} {d d1 d2 d3 : Array Int} (hm1 : a < m) (hm2 : m < b) (hb : b ≤ d.size) (h1 : Sorted K a m d) (h2 : Sorted K m b d) (hx : Cross a m b d)
    (hmid : mid = (a + b) / 2) (hse : s + e = mid + m) (has : a ≤ s) (hsm : s ≤ m) (hme : m ≤ e) (heb : e ≤ b)
    (hlo : ∀ c, a ≤ c → c < s → s + e - 1 - c < b → ¬ K d[s + e - 1 - c]! < K d[c]!) (hhi : s < m → m < e → K d[e - 1]! < K d[s]!)
    (hp1 : PermIn a b d d1) (hr : ∀ k, d1[k]! = RotV (fun k => d[k]!) s m e k)
    (hp2 : PermIn a mid d1 d2) (hs2 : Sorted K a s d1 → Sorted K s mid d1 → Cross a s mid d1 → Sorted K a mid d2)
    (hp3 : PermIn mid b d2 d3) (hs3 : Sorted K mid e d2 → Sorted K e b d2 → Cross mid e b d2 → Sorted K mid b d3) :
    PermIn a b d d3 ∧ Sorted K a b d3 := by
  have hmid1 : a ≤ mid := by omega
  have hmid2 : mid ≤ b := by omega
  have hsmid : s ≤ mid := by omega
  have hmide : mid ≤ e := by omega
  have q1 : ∀ k, a ≤ k → k < s → d1[k]! = d[k]! := fun k h h' => by rw [hr]; unfold RotV; rw [if_neg (by omega), if_neg (by omega)]
  have q2 : ∀ k, s ≤ k → k < mid → d1[k]! = d[m + (k - s)]! := fun k h h' => by rw [hr]; unfold RotV; rw [if_pos (by omega)]
  have q3 : ∀ k, mid ≤ k → k < e → d1[k]! = d[s + (k - mid)]! := fun k h h' => by rw [hr]; unfold RotV; rw [if_neg (by omega), if_pos (by omega)]; congr 1; omega
  have q4 : ∀ k, e ≤ k → d1[k]! = d[k]! := fun k h => by rw [hr]; unfold RotV; rw [if_neg (by omega), if_neg (by omega)]
  have sz1 : d1.size = d.size := hp1.1
  have sz2 : d2.size = d1.size := hp2.1
  have r2 : ∀ k, mid ≤ k → d2[k]! = d1[k]! := fun k h => hp2.2.1 k (.inr h)
  have S2 : Sorted K a mid d2 := by
    refine hs2 ?_ ?_ ?_
    · intro i j hi hij hj
      rw [q1 i hi (by omega), q1 j (by omega) hj]
      exact h1 i j hi hij (by omega)
    · intro i j hi hij hj
      rw [q2 i hi (by omega), q2 j (by omega) hj]
      exact h2 _ _ (by omega) (by omega) (by omega)
    · intro i j hi hi' hj hj'
      rw [q1 i hi hi', q2 j hj hj']
      exact hx _ _ hi (by omega) (by omega) (by omega)
  have S3 : Sorted K mid b d3 := by
    refine hs3 ?_ ?_ ?_
    · intro i j hi hij hj
      rw [r2 i hi, r2 j (by omega), q3 i hi (by omega), q3 j (by omega) hj]
      exact h1 _ _ (by omega) (by omega) (by omega)
    · intro i j hi hij hj
      rw [r2 i (by omega), r2 j (by omega), q4 i hi, q4 j (by omega)]
      exact h2 _ _ (by omega) (by omega) (by omega)
    · intro i j hi hi' hj hj'
      rw [r2 i hi, r2 j (by omega), q3 i hi hi', q4 j hj]
      exact hx _ _ (by omega) (by omega) (by omega) hj'
  have C1 : ∀ i j, a ≤ i → i < mid → mid ≤ j → j < b → le K d1[i]! d1[j]! := by
    intro i j hi hi' hj hj'
    -- the first half's elements: d[a..s) and d[m..e); the second half's: d[s..m) and d[e..b)
    have key : ∀ x, a ≤ x → x < s → ∀ y, e ≤ y → y < b → le K d[x]! d[y]! := by
      intro x hx1 hx2 y hy1 hy2
      have hc := hlo (s - 1) (by omega) (by omega) (by omega)
      have : s + e - 1 - (s - 1) = e := by omega
      rw [this] at hc
      exact ((h1.le_of hx1 (by omega : x ≤ s - 1) (by omega)).trans (le_of_not_lt hc (hx _ _ (by omega) (by omega) (by omega) (by omega)))).trans (h2.le_of (by omega) hy1 hy2)
    have key2 : ∀ x, m ≤ x → x < e → ∀ y, s ≤ y → y < m → le K d[x]! d[y]! := by
      intro x hx1 hx2 y hy1 hy2
      exact ((h2.le_of hx1 (by omega : x ≤ e - 1) (by omega)).trans (le_of_lt (hhi (by omega) (by omega)))).trans (h1.le_of (by omega) hy1 (by omega))
    rcases Nat.lt_or_ge i s with c1 | c1 <;> rcases Nat.lt_or_ge j e with c2 | c2
    · rw [q1 i hi c1, q3 j hj c2]; exact h1.le_of hi (by omega) (by omega)
    · rw [q1 i hi c1, q4 j c2]; exact key i hi c1 j c2 hj'
    · rw [q2 i c1 hi', q3 j hj c2]; exact key2 _ (by omega) (by omega) _ (by omega) (by omega)
    · rw [q2 i c1 hi', q4 j c2]; exact h2.le_of (by omega) (by omega) hj'
  have P12 : PermIn a b d d2 := permIn_trans _ _ _ _ _ hp1 (permIn_mono _ _ _ _ _ _ (Nat.le_refl a) hmid2 (by omega) hp2)
  refine ⟨permIn_trans _ _ _ _ _ P12 (permIn_mono _ _ _ _ _ _ hmid1 (Nat.le_refl b) (by omega) hp3), ?_⟩
  refine Sorted.glue (m := mid) ?_ S3 ?_
  · intro i j hi hij hj
    rw [hp3.2.1 i (by omega), hp3.2.1 j (by omega)]
    exact S2 i j hi hij hj
  · intro i j hi hi' hj hj'
    rw [hp3.2.1 i (by omega)]
    obtain ⟨j2, a1, a2, a3⟩ := PermIn.from hp3 (by omega) hj hj'
    obtain ⟨i2, b1, b2, b3⟩ := PermIn.from hp2 (by omega) hi hi'
    rw [← a3, ← b3, r2 j2 a1]
    exact C1 i2 j2 b1 b2 a1 a2

/-- one element in front, moved behind those that are less -/
theorem merge_first {K : Int → Int} {a b i : Nat} {d d' : Array Int} (hab : a + 1 < b) (h2 : Sorted K (a + 1) b d) (hx : Cross a (a + 1) b d) (hi1 : a + 1 ≤ i) (hi2 : i ≤ b)
    (hlo : ∀ k, a + 1 ≤ k → k < i → K d[k]! < K d[a]!) (hhi : ∀ k, i ≤ k → k < b → ¬ K d[k]! < K d[a]!)
    (hp : PermIn a b d d') (hd : ∀ k, d'[k]! = if a ≤ k ∧ k < i - 1 then d[k + 1]! else if k = i - 1 then d[a]! else d[k]!) : Sorted K a b d' := by
  intro p q hp1 hpq hq
  rw [hd p, hd q]
  by_cases c1 : p < i - 1
  · rw [if_pos ⟨hp1, c1⟩]
    by_cases c2 : q < i - 1
    · rw [if_pos (by omega)]; exact h2 _ _ (by omega) (by omega) (by omega)
    · rw [if_neg (by omega)]
      by_cases c3 : q = i - 1
      · rw [if_pos c3]; exact le_of_lt (hlo _ (by omega) (by omega))
      · rw [if_neg c3]; exact h2 _ _ (by omega) (by omega) (by omega)
  · rw [if_neg (by omega)]
    by_cases c3 : p = i - 1
    · rw [if_pos c3, if_neg (by omega), if_neg (by omega)]
      exact le_of_not_lt (hhi _ (by omega) hq) (hx _ _ (by omega) (by omega) (by omega) hq)
    · rw [if_neg c3, if_neg (by omega), if_neg (by omega)]
      exact h2 _ _ (by omega) (by omega) (by omega)
/-- one element behind, moved ahead of those that are greater -/
theorem merge_last {K : Int → Int} {a m i : Nat} {d d' : Array Int} (ham : a < m) (h1 : Sorted K a m d) (hx : Cross a m (m + 1) d) (hi1 : a ≤ i) (hi2 : i ≤ m)
    (hlo : ∀ k, a ≤ k → k < i → ¬ K d[m]! < K d[k]!) (hhi : ∀ k, i ≤ k → k < m → K d[m]! < K d[k]!)
    (hd : ∀ k, d'[k]! = if i < k ∧ k ≤ m then d[k - 1]! else if k = i then d[m]! else d[k]!) : Sorted K a (m + 1) d' := by
  intro p q hp1 hpq hq
  rw [hd p, hd q]
  by_cases c1 : i < p
  · rw [if_pos (by omega), if_pos (by omega)]; exact h1 _ _ (by omega) (by omega) (by omega)
  · rw [if_neg (by omega)]
    by_cases c3 : p = i
    · rw [if_pos c3, if_pos (by omega)]
      exact le_of_lt (hhi _ (by omega) (by omega))
    · rw [if_neg c3]
      by_cases c2 : i < q
      · rw [if_pos (by omega)]; exact h1 _ _ (by omega) (by omega) (by omega)
      · rw [if_neg (by omega)]
        by_cases c4 : q = i
        · rw [if_pos c4]
          exact le_of_not_lt (hlo _ hp1 (by omega)) (hx _ _ hp1 (by omega) (by omega) (by omega))
        · rw [if_neg c4]
          exact h1 _ _ (by omega) (by omega) (by omega)
end Go.Proofs.Ytgcefofmfeghmaa.St
