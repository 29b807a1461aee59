import Derived.Sort.LotA
import Derived.Sort.Grow
import Derived.Sort.WalkA
import Derived.Test.YtgcefofmfeghmaaProg
import Derived.Shelf.GgSortFunc.SW
import Derived.WalkKit
import Derived.KernelRfl
import Derived.Lib.Hide
import Derived.Below
import Derived.Outline
import Derived.Deep.DeepCutAuto
import Derived.Deep.CutBlock
import Derived.Deep.LoopGhost
import Derived.Shelf.GgSortFunc.Small
import Derived.Shelf.GgSortFunc.Slice
/- Stable sorting by blocks and merges in place (plain: no program). -/
namespace Go.Proofs.Ytgcefofmfeghmaa.St
open Go.Sort
set_option linter.unusedVariables false

def SwapV (f : Nat → Int) (a b n k : Nat) : Int := if a ≤ k ∧ k < a + n then f (b + (k - a)) else if b ≤ k ∧ k < b + n then f (a + (k - b)) else f k
def RotV (f : Nat → Int) (a m b k : Nat) : Int := if a ≤ k ∧ k < a + (b - m) then f (m + (k - a)) else if a + (b - m) ≤ k ∧ k < b then f (a + (k - (a + (b - m)))) else f k

theorem rot_gt (f g : Nat → Int) (m i j : Nat) (hi : i ≤ m) (hj : 0 < j) (hij : j < i) (hg : ∀ k, g k = SwapV f (m - i) m j k) (k : Nat) :
    RotV g (m - i + j) m (m + j) k = RotV f (m - i) m (m + j) k := by
  unfold RotV
  simp only [hg]
  unfold SwapV
  repeat' split
  all_goals first | (exfalso; omega) | (congr 1; omega) | rfl
theorem rot_lt (f g : Nat → Int) (m i j : Nat) (hi : i ≤ m) (hj : 0 < i) (hij : i < j) (hg : ∀ k, g k = SwapV f (m - i) (m + j - i) i k) (k : Nat) :
    RotV g (m - i) m (m + (j - i)) k = RotV f (m - i) m (m + j) k := by
  unfold RotV
  simp only [hg]
  unfold SwapV
  repeat' split
  all_goals first | (exfalso; omega) | (congr 1; omega) | rfl
theorem rot_eq (f g : Nat → Int) (m i : Nat) (hi : i ≤ m) (hg : ∀ k, g k = SwapV f (m - i) m i k) (k : Nat) :
    g k = RotV f (m - i) m (m + i) k := by
  unfold RotV
  simp only [hg]
  unfold SwapV
  repeat' split
  all_goals first | (exfalso; omega) | (congr 1; omega) | rfl

/-- the order: by key, then by number -/
def le (K : Int → Int) (x y : Int) : Prop := K x < K y ∨ (K x = K y ∧ x ≤ y)
theorem le.refl (K : Int → Int) (x : Int) : le K x x := by unfold le; omega
theorem le.trans {K : Int → Int} {x y z : Int} (h : le K x y) (h2 : le K y z) : le K x z := by unfold le at *; omega
theorem le_of_not_lt {K : Int → Int} {x y : Int} (h : ¬ K y < K x) (hxy : x ≤ y) : le K x y := by unfold le; omega
theorem le_of_lt {K : Int → Int} {x y : Int} (h : K x < K y) : le K x y := .inl h

def Sorted (K : Int → Int) (a b : Nat) (d : Array Int) : Prop := ∀ i j, a ≤ i → i < j → j < b → le K d[i]! d[j]!
def Cross (a m b : Nat) (d : Array Int) : Prop := ∀ i j, a ≤ i → i < m → m ≤ j → j < b → d[i]! ≤ d[j]!

theorem Sorted.le_of {K : Int → Int} {a b : Nat} {d : Array Int} (h : Sorted K a b d) {i j : Nat} (h1 : a ≤ i) (h2 : i ≤ j) (h3 : j < b) : le K d[i]! d[j]! := by
  rcases Nat.lt_or_ge i j with h' | h'
  · exact h i j h1 h' h3
  · obtain rfl : i = j := by omega
    exact le.refl _ _

/-- two sorted parts, all of the first one before all of the second -/
theorem Sorted.glue {K : Int → Int} {a m b : Nat} {d : Array Int} (h1 : Sorted K a m d) (h2 : Sorted K m b d) (hx : ∀ i j, a ≤ i → i < m → m ≤ j → j < b → le K d[i]! d[j]!) : Sorted K a b d := by
  intro i j hi hij hj
  rcases Nat.lt_or_ge j m with h | h
  · exact h1 i j hi hij h
  · rcases Nat.lt_or_ge i m with h' | h'
    · exact hx i j hi h' h hj
    · exact h2 i j h' hij hj

theorem mem_ext {d : Array Int} {a b : Nat} (hb : b ≤ d.size) (x : Int) : x ∈ (d.extract a b).toList ↔ ∃ i, a ≤ i ∧ i < b ∧ d[i]! = x := by
  rw [extract_toList d a b hb, List.mem_map]
  constructor
  · rintro ⟨i, hi, rfl⟩
    rw [List.mem_range'_1] at hi
    exact ⟨i, by omega, by omega, rfl⟩
  · rintro ⟨i, h1, h2, rfl⟩
    exact ⟨i, by rw [List.mem_range'_1]; omega, rfl⟩

/-- what lies in a part behind a permutation of it lay there -/
theorem PermIn.from {a b : Nat} {d d' : Array Int} (h : PermIn a b d d') (hb : b ≤ d.size) {i : Nat} (h1 : a ≤ i) (h2 : i < b) : ∃ j, a ≤ j ∧ j < b ∧ d[j]! = d'[i]! := by
  have : d'[i]! ∈ (d.extract a b).toList := h.2.2.mem_iff.1 ((mem_ext (by rw [h.1]; exact hb) _).2 ⟨i, h1, h2, rfl⟩)
  exact (mem_ext hb _).1 this

/-- the merge's step: behind the turn of [s, m) and [m, e) the halves are merged by themselves -/
theorem merge_step {K : Int → Int} {a m b mid s e : Nat} {d d1 d2 d3 : Array Int} (hm1 : a < m) (hm2 : m < b) (hb : b ≤ d.size) (h1 : Sorted K a m d) (h2 : Sorted K m b d) (hx : Cross a m b d)
    (hmid : mid = (a + b) / 2) (hse : s + e = mid + m) (has : a ≤ s) (hsm : s ≤ m) (hme : m ≤ e) (heb : e ≤ b)
    (hlo : ∀ c, a ≤ c → c < s → s + e - 1 - c < b → ¬ K d[s + e - 1 - c]! < K d[c]!) (hhi : s < m → m < e → K d[e - 1]! < K d[s]!)
    (hp1 : PermIn a b d d1) (hr : ∀ k, d1[k]! = RotV (fun k => d[k]!) s m e k)
    (hp2 : PermIn a mid d1 d2) (hs2 : Sorted K a s d1 → Sorted K s mid d1 → Cross a s mid d1 → Sorted K a mid d2)
    (hp3 : PermIn mid b d2 d3) (hs3 : Sorted K mid e d2 → Sorted K e b d2 → Cross mid e b d2 → Sorted K mid b d3) :
    PermIn a b d d3 ∧ Sorted K a b d3 := by
  have hmid1 : a ≤ mid := by omega
  have hmid2 : mid ≤ b := by omega
  have hsmid : s ≤ mid := by omega
  have hmide : mid ≤ e := by omega
  have q1 : ∀ k, a ≤ k → k < s → d1[k]! = d[k]! := fun k h h' => by rw [hr]; unfold RotV; rw [if_neg (by omega), if_neg (by omega)]
  have q2 : ∀ k, s ≤ k → k < mid → d1[k]! = d[m + (k - s)]! := fun k h h' => by rw [hr]; unfold RotV; rw [if_pos (by omega)]
  have q3 : ∀ k, mid ≤ k → k < e → d1[k]! = d[s + (k - mid)]! := fun k h h' => by rw [hr]; unfold RotV; rw [if_neg (by omega), if_pos (by omega)]; congr 1; omega
  have q4 : ∀ k, e ≤ k → d1[k]! = d[k]! := fun k h => by rw [hr]; unfold RotV; rw [if_neg (by omega), if_neg (by omega)]
  have sz1 : d1.size = d.size := hp1.1
  have sz2 : d2.size = d1.size := hp2.1
  have r2 : ∀ k, mid ≤ k → d2[k]! = d1[k]! := fun k h => hp2.2.1 k (.inr h)
  have S2 : Sorted K a mid d2 := by
    refine hs2 ?_ ?_ ?_
    · intro i j hi hij hj
      rw [q1 i hi (by omega), q1 j (by omega) hj]
      exact h1 i j hi hij (by omega)
    · intro i j hi hij hj
      rw [q2 i hi (by omega), q2 j (by omega) hj]
      exact h2 _ _ (by omega) (by omega) (by omega)
    · intro i j hi hi' hj hj'
      rw [q1 i hi hi', q2 j hj hj']
      exact hx _ _ hi (by omega) (by omega) (by omega)
  have S3 : Sorted K mid b d3 := by
    refine hs3 ?_ ?_ ?_
    · intro i j hi hij hj
      rw [r2 i hi, r2 j (by omega), q3 i hi (by omega), q3 j (by omega) hj]
      exact h1 _ _ (by omega) (by omega) (by omega)
    · intro i j hi hij hj
      rw [r2 i (by omega), r2 j (by omega), q4 i hi, q4 j (by omega)]
      exact h2 _ _ (by omega) (by omega) (by omega)
    · intro i j hi hi' hj hj'
      rw [r2 i hi, r2 j (by omega), q3 i hi hi', q4 j hj]
      exact hx _ _ (by omega) (by omega) (by omega) hj'
  have C1 : ∀ i j, a ≤ i → i < mid → mid ≤ j → j < b → le K d1[i]! d1[j]! := by
    intro i j hi hi' hj hj'
    -- the first half's elements: d[a..s) and d[m..e); the second half's: d[s..m) and d[e..b)
    have key : ∀ x, a ≤ x → x < s → ∀ y, e ≤ y → y < b → le K d[x]! d[y]! := by
      intro x hx1 hx2 y hy1 hy2
      have hc := hlo (s - 1) (by omega) (by omega) (by omega)
      have : s + e - 1 - (s - 1) = e := by omega
      rw [this] at hc
      exact ((h1.le_of hx1 (by omega : x ≤ s - 1) (by omega)).trans (le_of_not_lt hc (hx _ _ (by omega) (by omega) (by omega) (by omega)))).trans (h2.le_of (by omega) hy1 hy2)
    have key2 : ∀ x, m ≤ x → x < e → ∀ y, s ≤ y → y < m → le K d[x]! d[y]! := by
      intro x hx1 hx2 y hy1 hy2
      exact ((h2.le_of hx1 (by omega : x ≤ e - 1) (by omega)).trans (le_of_lt (hhi (by omega) (by omega)))).trans (h1.le_of (by omega) hy1 (by omega))
    rcases Nat.lt_or_ge i s with c1 | c1 <;> rcases Nat.lt_or_ge j e with c2 | c2
    · rw [q1 i hi c1, q3 j hj c2]; exact h1.le_of hi (by omega) (by omega)
    · rw [q1 i hi c1, q4 j c2]; exact key i hi c1 j c2 hj'
    · rw [q2 i c1 hi', q3 j hj c2]; exact key2 _ (by omega) (by omega) _ (by omega) (by omega)
    · rw [q2 i c1 hi', q4 j c2]; exact h2.le_of (by omega) (by omega) hj'
  have P12 : PermIn a b d d2 := permIn_trans _ _ _ _ _ hp1 (permIn_mono _ _ _ _ _ _ (Nat.le_refl a) hmid2 (by omega) hp2)
  refine ⟨permIn_trans _ _ _ _ _ P12 (permIn_mono _ _ _ _ _ _ hmid1 (Nat.le_refl b) (by omega) hp3), ?_⟩
  refine Sorted.glue (m := mid) ?_ S3 ?_
  · intro i j hi hij hj
    rw [hp3.2.1 i (by omega), hp3.2.1 j (by omega)]
    exact S2 i j hi hij hj
  · intro i j hi hi' hj hj'
    rw [hp3.2.1 i (by omega)]
    obtain ⟨j2, a1, a2, a3⟩ := PermIn.from hp3 (by omega) hj hj'
    obtain ⟨i2, b1, b2, b3⟩ := PermIn.from hp2 (by omega) hi hi'
    rw [← a3, ← b3, r2 j2 a1]
    exact C1 i2 j2 b1 b2 a1 a2

/-- one element in front, moved behind those that are less -/
theorem merge_first {K : Int → Int} {a b i : Nat} {d d' : Array Int} (hab : a + 1 < b) (h2 : Sorted K (a + 1) b d) (hx : Cross a (a + 1) b d) (hi1 : a + 1 ≤ i) (hi2 : i ≤ b)
    (hlo : ∀ k, a + 1 ≤ k → k < i → K d[k]! < K d[a]!) (hhi : ∀ k, i ≤ k → k < b → ¬ K d[k]! < K d[a]!)
    (hp : PermIn a b d d') (hd : ∀ k, d'[k]! = if a ≤ k ∧ k < i - 1 then d[k + 1]! else if k = i - 1 then d[a]! else d[k]!) : Sorted K a b d' := by
  intro p q hp1 hpq hq
  rw [hd p, hd q]
  by_cases c1 : p < i - 1
  · rw [if_pos ⟨hp1, c1⟩]
    by_cases c2 : q < i - 1
    · rw [if_pos (by omega)]; exact h2 _ _ (by omega) (by omega) (by omega)
    · rw [if_neg (by omega)]
      by_cases c3 : q = i - 1
      · rw [if_pos c3]; exact le_of_lt (hlo _ (by omega) (by omega))
      · rw [if_neg c3]; exact h2 _ _ (by omega) (by omega) (by omega)
  · rw [if_neg (by omega)]
    by_cases c3 : p = i - 1
    · rw [if_pos c3, if_neg (by omega), if_neg (by omega)]
      exact le_of_not_lt (hhi _ (by omega) hq) (hx _ _ (by omega) (by omega) (by omega) hq)
    · rw [if_neg c3, if_neg (by omega), if_neg (by omega)]
      exact h2 _ _ (by omega) (by omega) (by omega)
/-- one element behind, moved ahead of those that are greater -/
theorem merge_last {K : Int → Int} {a m i : Nat} {d d' : Array Int} (ham : a < m) (h1 : Sorted K a m d) (hx : Cross a m (m + 1) d) (hi1 : a ≤ i) (hi2 : i ≤ m)
    (hlo : ∀ k, a ≤ k → k < i → ¬ K d[m]! < K d[k]!) (hhi : ∀ k, i ≤ k → k < m → K d[m]! < K d[k]!)
    (hd : ∀ k, d'[k]! = if i < k ∧ k ≤ m then d[k - 1]! else if k = i then d[m]! else d[k]!) : Sorted K a (m + 1) d' := by
  intro p q hp1 hpq hq
  rw [hd p, hd q]
  by_cases c1 : i < p
  · rw [if_pos (by omega), if_pos (by omega)]; exact h1 _ _ (by omega) (by omega) (by omega)
  · rw [if_neg (by omega)]
    by_cases c3 : p = i
    · rw [if_pos c3, if_pos (by omega)]
      exact le_of_lt (hhi _ (by omega) (by omega))
    · rw [if_neg c3]
      by_cases c2 : i < q
      · rw [if_pos (by omega)]; exact h1 _ _ (by omega) (by omega) (by omega)
      · rw [if_neg (by omega)]
        by_cases c4 : q = i
        · rw [if_pos c4]
          exact le_of_not_lt (hlo _ hp1 (by omega)) (hx _ _ hp1 (by omega) (by omega) (by omega))
        · rw [if_neg c4]
          exact h1 _ _ (by omega) (by omega) (by omega)
end Go.Proofs.Ytgcefofmfeghmaa.St
/- Insertion sort of an ascending row of numbers by a key is by the key and the number. -/
namespace Go.Proofs.Ytgcefofmfeghmaa.St
open Go.Sort
set_option linter.unusedVariables false

def ltK (K : Int → Int) (x y : Int) : Bool := decide (K x < K y)
def ltX (K : Int → Int) (x y : Int) : Bool := decide (K x < K y ∨ (K x = K y ∧ x < y))
theorem swo_ltX (K : Int → Int) : SWO (ltX K) where
  irrefl x := by simp [ltX]
  trans x y z h1 h2 := by simp only [ltX, decide_eq_true_eq] at *; omega
  ntrans x y z h1 h2 := by simp only [ltX, decide_eq_false_iff_not] at *; omega
theorem le_of_ltX {K : Int → Int} {x y : Int} (h : ltX K y x = false) : le K x y := by
  simp only [ltX, decide_eq_false_iff_not] at h
  unfold le
  omega
theorem lt_same {K : Int → Int} {x y : Int} (h : y < x) : ltK K x y = ltX K x y := by
  unfold ltK ltX
  congr 1
  apply propext
  omega

theorem inner_same (K : Int → Int) (a : Nat) : ∀ (j : Nat) (d : Array Int), j < d.size → (∀ p, a ≤ p → p < j → d[p]! < d[j]!) → insInner (ltK K) a j d = insInner (ltX K) a j d
  | 0, d, _, _ => by unfold insInner; rfl
  | j + 1, d, hj, h => by
    unfold insInner
    by_cases hc : j + 1 > a
    · rw [lt_same (h j (by omega) (by omega))]
      split
      · refine inner_same K a j _ (by rw [size_swp]; omega) (fun p h1 h2 => ?_)
        rw [swp_other _ _ _ _ (by omega) (by omega), swp_right _ _ _ (by omega)]
        exact h p h1 (by omega)
      · rfl
    · simp [hc]
theorem insInner_perm (lt : Int → Int → Bool) (a b : Nat) : ∀ (j : Nat) (d : Array Int), j < b → b ≤ d.size → PermIn a b d (insInner lt a j d)
  | 0, d, _, _ => by unfold insInner; exact permIn_refl _ _ _
  | j + 1, d, hj, hb => by
    unfold insInner
    split
    · rename_i hc
      simp only [Bool.and_eq_true, decide_eq_true_eq] at hc
      exact permIn_trans _ _ _ _ _ (swp_permIn d a b (j + 1) j (by omega) (by omega) (by omega) (by omega) hb) (insInner_perm lt a b j _ (by omega) (by rw [size_swp]; exact hb))
    · exact permIn_refl _ _ _
theorem outer_same (K : Int → Int) (a b : Nat) : ∀ (n i : Nat) (d : Array Int), b - i = n → b ≤ d.size → (∀ p q, a ≤ p → p < q → i ≤ q → q < b → d[p]! < d[q]!) → insOuter (ltK K) a b i d = insOuter (ltX K) a b i d
  | 0, i, d, hn, hb, h => by rw [insOuter.eq_def (ltK K), insOuter.eq_def (ltX K), if_neg (by omega), if_neg (by omega)]
  | n + 1, i, d, hn, hb, h => by
    have hib : i < b := by omega
    rw [insOuter.eq_def (ltK K), if_pos hib, inner_same K a i d (by omega) (fun p h1 h2 => h p i h1 h2 (Nat.le_refl _) hib), outer_same K a b n (i + 1) _ (by omega) ?_ ?_]
    · rw [insOuter.eq_def (ltX K) a b i, if_pos hib]
    · rw [(insInner_perm (ltX K) a (i + 1) i d (by omega) (by omega)).1]; exact hb
    · intro p q hp hpq hq hqb
      have hP := insInner_perm (ltX K) a (i + 1) i d (by omega) (by omega)
      rw [hP.2.1 q (.inr (by omega))]
      rcases Nat.lt_or_ge p (i + 1) with c | c
      · obtain ⟨p2, c1, c2, c3⟩ := PermIn.from hP (by omega) hp c
        rw [← c3]
        exact h p2 q c1 (by omega) (by omega) hqb
      · rw [hP.2.1 p (.inr c)]
        exact h p q hp hpq (by omega) hqb

theorem ins_sorted (K : Int → Int) (d : Array Int) (a b : Nat) (hab : a ≤ b) (hb : b ≤ d.size) (h : ∀ p q, a ≤ p → p < q → q < b → d[p]! < d[q]!) :
    PermIn a b d (insertionSort (ltK K) d a b) ∧ Sorted K a b (insertionSort (ltK K) d a b) := by
  have e : insertionSort (ltK K) d a b = insertionSort (ltX K) d a b := by
    unfold insertionSort
    exact outer_same K a b _ (a + 1) d rfl hb (fun p q h1 h2 h3 h4 => h p q h1 h2 h4)
  rw [e]
  obtain ⟨h1, h2⟩ := insertionSort_holds (lt := ltX K) (swo_ltX K) d a b hab hb
  exact ⟨h1, fun i j a1 a2 a3 => le_of_ltX (h2 i j a1 a2 a3)⟩
end Go.Proofs.Ytgcefofmfeghmaa.St
/- sort's own loops over a row of whole numbers: swapRange_func, rotate_func. -/
namespace Go.Proofs.Ytgcefofmfeghmaa.St
open Go.Shelf Go.RowKit Go.Lib Go.Sort
set_option linter.unusedVariables false
set_option linter.unusedSimpArgs false
variable {enc : Int → Value}

theorem swp_view (d : Array Int) (i j : Nat) (hi : i < d.size) (hj : j < d.size) (hij : i ≠ j) (k : Nat) : (swp d i j)[k]! = if k = i then d[j]! else if k = j then d[i]! else d[k]! := by
  by_cases h1 : k = i
  · subst h1; rw [if_pos rfl]; exact swp_left _ _ _ hi hij
  · rw [if_neg h1]
    by_cases h2 : k = j
    · subst h2; rw [if_pos rfl]; exact swp_right _ _ _ hj
    · rw [if_neg h2]; exact swp_other _ _ _ _ h1 h2

/-- the parameter 'data' -/
abbrev dat (g : Nat) (lb : Array Value) (sf : Nat) (sb : Array Value) : Value := .agg #[.func (.func g) #[] lb, .func (.func sf) #[] sb]

theorem SW.cell {w0 W : World} {blk off : Nat} {d : Array Int} (h : SW enc w0 blk off d W) {a : Addr} (h1 : a.block ≠ blk) (h2 : a.block < w0.heap.size) : W.cell? a = w0.cell? a := by
  obtain ⟨n, os, rfl⟩ := h
  unfold sortWorld
  rw [cell?_grow _ _ _ (by rw [size_putRow]; exact h2), cell?_putRow_other enc _ blk off _ _ (Or.inl h1)]
  rfl
theorem SW.trans {w0 w1 w2 : World} {blk off : Nat} {d d' : Array Int} (h : SW enc w0 blk off d w1) (h2 : SW enc w1 blk off d' w2) (hblk : blk < w0.heap.size) (hs : d'.size = d.size) : SW enc w0 blk off d' w2 := by
  obtain ⟨n, os, rfl⟩ := h2
  exact h.on hblk n d' os hs

set_option maxRecDepth 100000 in
set_option maxHeartbeats 2000000 in
theorem swapRange_calls (g : Nat) (lb : Array Value) (sf : Nat) (sb : Array Value) (blk off : Nat) (d : Array Int) (W : World) (hH : Holds enc W blk off d) (hblk : blk < W.heap.size)
    (hswap : SwapSwaps Try.prog sf sb enc blk off d.size) (hsz : d.size < 4611686018427387904)
    (a b n : Nat) (hab : a + n ≤ b) (hb : b + n ≤ d.size) :
    Calls Try.prog 54 #[dat g lb sf sb, .int .i64 (a : Int), .int .i64 (b : Int), .int .i64 (n : Int)] W fun e w' => e = .returned (.tuple #[]) ∧ ∃ d', SW enc W blk off d' w' ∧ PermIn a (b + n) d d' ∧ ∀ k, d'[k]! = SwapV (fun k => d[k]!) a b n k := by
  have HH := Lib.hid hH
  have HSW := Lib.hid hswap
  clear hH hswap
  go_enter Try.func54, Try.ntmps54
  go_wp2
  obtain ⟨W1, hW1⟩ : ∃ W1, W1 = W.alloc (.cells #[.func (.func g) #[] lb, .func (.func sf) #[] sb] 70) := ⟨_, rfl⟩
  have H1 : Hid (SW enc W blk off d W1) := Lib.hid (by rw [hW1]; exact (SW.start HH.out).alloc _)
  have hc1 : W1.cell? ⟨W.heap.size, 1, none⟩ = some (.func (.func sf) #[] sb) := by rw [hW1]; simp
  have hz1 : W1.heap.size = W.heap.size + 1 := by rw [hW1]; simp
  rw [← hW1]
  clear hW1
  go_loopg [8] n (fun k v8 wr => ∃ (j : Nat) (x : Array Int), v8 = .int .i64 (j : Int) ∧ j ≤ n ∧ n ≤ k + j ∧ Hid (SW enc W blk off x wr) ∧ wr.cell? ⟨W.heap.size, 1, none⟩ = some (.func (.func sf) #[] sb) ∧ Hid (PermIn a (b + n) d x) ∧ Hid (∀ k, x[k]! = SwapV (fun k => d[k]!) a b j k))
  case atStart => exact ⟨0, d, rfl, by omega, by omega, H1, hc1, Lib.hid (permIn_refl _ _ _), Lib.hid (fun k => by unfold SwapV; rw [if_neg (by omega), if_neg (by omega)])⟩
  case round =>
    obtain ⟨j, x, rfl, hj, hk, HX, hc, HP, HV⟩ := hrel
    by_cases hlt : j < n
    · have c1 : decide ((j : Int) < (n : Int)) = true := decide_eq_true (by omega)
      have hxs : x.size = d.size := HP.out.1
      have hsw := HSW.out wr x (HX.out.holds hblk HH.out hxs) hxs (a + j) (b + j) (by omega) (by omega)
      rw [show (((a + j : Nat) : Int)) = (a : Int) + (j : Int) by omega, show (((b + j : Nat) : Int)) = (b : Int) + (j : Int) by omega] at hsw
      have HSW1 := Lib.hid hsw
      have HX2 := Lib.hid (HX.out.swap hblk (a + j) (b + j) (by omega) (by omega))
      obtain ⟨ko, rfl⟩ : ∃ ko, gk = ko + 1 := ⟨gk - 1, by omega⟩
      have hxs1 := Lib.hid hxs
      clear hsw hxs
      go_wp2_with fail
      rw [HSW1.out, Oper.upon_value]
      have hcn : ((wr.setCell ⟨blk, off + (a + j), none⟩ (enc x[b + j]!)).setCell ⟨blk, off + (b + j), none⟩ (enc x[a + j]!)).cell? ⟨W.heap.size, 1, none⟩ = some (.func (.func sf) #[] sb) := by
        rw [World.cell?_setCell_other _ _ _ _ (by intro e; injection e with e1; omega), World.cell?_setCell_other _ _ _ _ (by intro e; injection e with e1; omega)]
        exact hc
      go_wp2
      go_roundg ko
      case measure => omega
      case rel => exact ⟨j + 1, swp x (a + j) (b + j), by go_num, hlt, by omega, HX2, hcn, Lib.hid (permIn_trans _ _ _ _ _ HP.out (swp_permIn _ _ _ _ _ (by omega) (by omega) (by omega) (by omega) (by rw [hxs1.out]; exact hb))), Lib.hid (fun k => by
          rw [swp_view _ _ _ (by rw [hxs1.out]; omega) (by rw [hxs1.out]; omega) (by omega), HV.out, HV.out, HV.out]
          unfold SwapV
          repeat' split
          all_goals first | (exfalso; omega) | (congr 1; omega) | rfl)⟩
    · have c0 : decide ((j : Int) < (n : Int)) = false := decide_eq_false (by omega)
      obtain rfl : n = j := by omega
      go_wp2
      go_end0
      exact ⟨rfl, x, HX.out, HP.out, HV.out⟩
end Go.Proofs.Ytgcefofmfeghmaa.St
/- sort.rotate_func -/
namespace Go.Proofs.Ytgcefofmfeghmaa.St
open Go.Shelf Go.RowKit Go.Lib Go.Sort
set_option linter.unusedVariables false
set_option linter.unusedSimpArgs false
variable {enc : Int → Value}

theorem hold_on {w0 W : World} {blk off : Nat} {d d' : Array Int} (h : SW enc w0 blk off d' W) (hblk : blk < w0.heap.size) (hH : Holds enc w0 blk off d) (hs : d'.size = d.size) : Holds enc W blk off d' := h.holds hblk hH hs

set_option maxRecDepth 100000 in
set_option maxHeartbeats 4000000 in
theorem rotate_calls (g : Nat) (lb : Array Value) (sf : Nat) (sb : Array Value) (blk off : Nat) (d : Array Int) (W : World) (hH : Holds enc W blk off d) (hblk : blk < W.heap.size)
    (hswap : SwapSwaps Try.prog sf sb enc blk off d.size) (hsz : d.size < 4611686018427387904)
    (a m b : Nat) (ham : a < m) (hmb : m < b) (hb : b ≤ d.size) :
    Calls Try.prog 53 #[dat g lb sf sb, .int .i64 (a : Int), .int .i64 (m : Int), .int .i64 (b : Int)] W fun e w' => e = .returned (.tuple #[]) ∧ ∃ d', SW enc W blk off d' w' ∧ PermIn a b d d' ∧ ∀ k, d'[k]! = RotV (fun k => d[k]!) a m b k := by
  have HH := Lib.hid hH
  have HC := Lib.hid (fun (x : Array Int) (w : World) (hx : SW enc W blk off x w) (hxs : x.size = d.size) (p q n : Nat) (h1 : p + n ≤ q) (h2 : q + n ≤ d.size) => swapRange_calls g lb sf sb blk off x w (hx.holds hblk hH hxs) (hx.lt hblk) (by rw [hxs]; exact hswap) (by omega) p q n h1 (by omega))
  clear hH hswap
  go_enter Try.func53, Try.ntmps53
  go_wp2
  obtain ⟨W1, hW1⟩ : ∃ W1, W1 = W.alloc (.cells #[.func (.func g) #[] lb, .func (.func sf) #[] sb] 70) := ⟨_, rfl⟩
  have H1 : Hid (SW enc W blk off d W1) := Lib.hid (by rw [hW1]; exact (SW.start HH.out).alloc _)
  have hc1 : W1.cell? ⟨W.heap.size, 1, none⟩ = some (.func (.func sf) #[] sb) := by rw [hW1]; simp
  have hc0 : W1.cell? ⟨W.heap.size, 0, none⟩ = some (.func (.func g) #[] lb) := by rw [hW1]; simp
  have hz1 : W1.heap.size = W.heap.size + 1 := by rw [hW1]; simp
  rw [← hW1]
  clear hW1
  go_loopg [8, 9] (m - a + (b - m)) (fun k v8 v9 wr => ∃ (i j : Nat) (x : Array Int), v8 = .int .i64 (i : Int) ∧ v9 = .int .i64 (j : Int) ∧ 0 < i ∧ 0 < j ∧ a + i ≤ m ∧ m + j ≤ b ∧ i + j ≤ k ∧ Hid (SW enc W blk off x wr) ∧ Hid (wr.cell? ⟨W.heap.size, 0, none⟩ = some (.func (.func g) #[] lb) ∧ wr.cell? ⟨W.heap.size, 1, none⟩ = some (.func (.func sf) #[] sb)) ∧ W.heap.size < wr.heap.size ∧ Hid (PermIn a b d x) ∧ Hid (∀ k, RotV (fun k => x[k]!) (m - i) m (m + j) k = RotV (fun k => d[k]!) a m b k))
  case atStart => exact ⟨m - a, b - m, d, by go_num, by go_num, by omega, by omega, by omega, by omega, by omega, H1, Lib.hid ⟨hc0, hc1⟩, by omega, Lib.hid (permIn_refl _ _ _), Lib.hid (fun k => by rw [show m - (m - a) = a by omega, show m + (b - m) = b by omega])⟩
  case round =>
    obtain ⟨i, j, x, rfl, rfl, hi, hj, hai, hjb, hk, HX, HCC, hwz, HP, HV⟩ := hrel
    have c0 := HCC.out.1
    have c1 := HCC.out.2
    have HCX := Lib.hid (fun p q n h1 h2 => HC.out x wr HX.out HP.out.1 p q n h1 h2)
    by_cases hij : i = j
    · subst hij
      have hb0 : ((i : Int) != (i : Int)) = false := by simp
      have Hc := Lib.hid (HCX.out (m - i) m i (by omega) (by omega))
      rw [show ((m - i : Nat) : Int) = (m : Int) - (i : Int) by omega] at Hc
      go_wp2_with (first | (go_at_call 54; refine Hc.out.mono ?_; rintro e w2 ⟨rfl, x2, hx2, hp2, hv2⟩; have HX2 := Lib.hid hx2; have HP2 := Lib.hid hp2; have HV2 := Lib.hid hv2; clear hx2 hp2 hv2))
      go_end0
      refine ⟨rfl, x2, SW.trans HX.out HX2.out hblk HP2.out.1, permIn_trans _ _ _ _ _ HP.out (permIn_mono _ _ _ _ _ _ (by omega) (by omega) (by rw [HP.out.1]; exact hb) HP2.out), fun k => ?_⟩
      rw [rot_eq (fun k => x[k]!) (fun k => x2[k]!) m i (by omega) HV2.out k]
      exact HV.out k
    · have hb1 : ((i : Int) != (j : Int)) = true := by rw [bne_iff_ne]; omega
      by_cases hgt : j < i
      · have hc' : decide ((j : Int) < (i : Int)) = true := decide_eq_true (by omega)
        have Hc := Lib.hid (HCX.out (m - i) m j (by omega) (by omega))
        rw [show ((m - i : Nat) : Int) = (m : Int) - (i : Int) by omega] at Hc
        obtain ⟨ko, rfl⟩ : ∃ ko, gk = ko + 1 := ⟨gk - 1, by omega⟩
        go_wp2_with (first | (go_at_call 54; refine Hc.out.mono ?_; rintro e w2 ⟨rfl, x2, hx2, hp2, hv2⟩; have HX2 := Lib.hid hx2; have HP2 := Lib.hid hp2; have HV2 := Lib.hid hv2; clear hx2 hp2 hv2))
        have hw2 := HX2.out.le
        have HC2 : Hid (w2.cell? ⟨W.heap.size, 0, none⟩ = some (.func (.func g) #[] lb) ∧ w2.cell? ⟨W.heap.size, 1, none⟩ = some (.func (.func sf) #[] sb)) := Lib.hid ⟨by rw [SW.cell HX2.out (by show W.heap.size ≠ blk; omega) (by show W.heap.size < wr.heap.size; omega)]; exact c0, by rw [SW.cell HX2.out (by show W.heap.size ≠ blk; omega) (by show W.heap.size < wr.heap.size; omega)]; exact c1⟩
        go_roundg ko
        case measure => omega
        case rel => exact ⟨i - j, j, x2, by go_num, rfl, by omega, hj, by omega, hjb, by omega, Lib.hid (SW.trans HX.out HX2.out hblk HP2.out.1), HC2, by omega, Lib.hid (permIn_trans _ _ _ _ _ HP.out (permIn_mono _ _ _ _ _ _ (by omega) (by omega) (by rw [HP.out.1]; exact hb) HP2.out)), Lib.hid (fun k => by
            rw [show m - (i - j) = m - i + j by omega, rot_gt (fun k => x[k]!) (fun k => x2[k]!) m i j (by omega) hj hgt HV2.out k]
            exact HV.out k)⟩
      · have hc' : decide ((j : Int) < (i : Int)) = false := decide_eq_false (by omega)
        have Hc := Lib.hid (HCX.out (m - i) (m + j - i) i (by omega) (by omega))
        rw [show ((m - i : Nat) : Int) = (m : Int) - (i : Int) by omega, show ((m + j - i : Nat) : Int) = (m : Int) + (j : Int) - (i : Int) by omega] at Hc
        obtain ⟨ko, rfl⟩ : ∃ ko, gk = ko + 1 := ⟨gk - 1, by omega⟩
        go_wp2_with (first | (go_at_call 54; refine Hc.out.mono ?_; rintro e w2 ⟨rfl, x2, hx2, hp2, hv2⟩; have HX2 := Lib.hid hx2; have HP2 := Lib.hid hp2; have HV2 := Lib.hid hv2; clear hx2 hp2 hv2))
        have hw2 := HX2.out.le
        have HC2 : Hid (w2.cell? ⟨W.heap.size, 0, none⟩ = some (.func (.func g) #[] lb) ∧ w2.cell? ⟨W.heap.size, 1, none⟩ = some (.func (.func sf) #[] sb)) := Lib.hid ⟨by rw [SW.cell HX2.out (by show W.heap.size ≠ blk; omega) (by show W.heap.size < wr.heap.size; omega)]; exact c0, by rw [SW.cell HX2.out (by show W.heap.size ≠ blk; omega) (by show W.heap.size < wr.heap.size; omega)]; exact c1⟩
        go_roundg ko
        case measure => omega
        case rel => exact ⟨i, j - i, x2, rfl, by go_num, hi, by omega, hai, by omega, by omega, Lib.hid (SW.trans HX.out HX2.out hblk HP2.out.1), HC2, by omega, Lib.hid (permIn_trans _ _ _ _ _ HP.out (permIn_mono _ _ _ _ _ _ (by omega) (by omega) (by rw [HP.out.1]; exact hb) HP2.out)), Lib.hid (fun k => by
            rw [rot_lt (fun k => x[k]!) (fun k => x2[k]!) m i j (by omega) hi (by omega) HV2.out k]
            exact HV.out k)⟩
end Go.Proofs.Ytgcefofmfeghmaa.St
/- sort.symMerge_func, at one element on one side -/
namespace Go.Proofs.Ytgcefofmfeghmaa.St
open Go.Shelf Go.RowKit Go.Lib Go.Sort
set_option linter.unusedVariables false
set_option linter.unusedSimpArgs false
variable {enc : Int → Value}

set_option maxRecDepth 100000 in
set_option maxHeartbeats 4000000 in
theorem sm_first (K : Int → Int) (g : Nat) (lb : Array Value) (sf : Nat) (sb : Array Value) (blk off : Nat) (d : Array Int) (W : World) (hH : Holds enc W blk off d) (hblk : blk < W.heap.size)
    (eg : ∀ args w, (callFunc g args).run Try.prog w = .ok (.enter g args) w) (hless : LessReads Try.prog g lb enc (ltK K) blk off d.size W) (hswap : SwapSwaps Try.prog sf sb enc blk off d.size) (hsz : d.size < 4611686018427387904)
    (a m b : Nat) (hm : m = a + 1) (hab : a + 1 < b) (hb : b ≤ d.size) (h2 : Sorted K (a + 1) b d) (hx : Cross a (a + 1) b d) :
    Calls Try.prog 52 #[dat g lb sf sb, .int .i64 (a : Int), .int .i64 (m : Int), .int .i64 (b : Int)] W fun e w' => e = .returned (.tuple #[]) ∧ ∃ d', SW enc W blk off d' w' ∧ PermIn a b d d' ∧ Sorted K a b d' := by
  have HH := Lib.hid hH
  have HL := Lib.hid (fun (x : Array Int) (w : World) (hx : SW enc W blk off x w) (hxs : x.size = d.size) (p q : Nat) (h1 : p < d.size) (h2 : q < d.size) => SW.less hx hless hxs p q h1 h2)
  have HSW := Lib.hid hswap
  have H2 := Lib.hid h2
  have HX := Lib.hid hx
  have HM := Lib.hid hm
  have hm1 : m ≤ a + 1 := by omega
  have hm2 : a + 1 ≤ m := by omega
  have hc : ((m : Int) - (a : Int) == 1) = true := beq_iff_eq.2 (by omega)
  clear hH hswap hless h2 hx hm
  go_enter Try.func52, Try.ntmps52
  go_wp2
  obtain ⟨W1, hW1⟩ : ∃ W1, W1 = W.alloc (.cells #[.func (.func g) #[] lb, .func (.func sf) #[] sb] 70) := ⟨_, rfl⟩
  have H1 : Hid (SW enc W blk off d W1) := Lib.hid (by rw [hW1]; exact (SW.start HH.out).alloc _)
  have hc1 : W1.cell? ⟨W.heap.size, 1, none⟩ = some (.func (.func sf) #[] sb) := by rw [hW1]; simp
  have hc0 : W1.cell? ⟨W.heap.size, 0, none⟩ = some (.func (.func g) #[] lb) := by rw [hW1]; simp
  have hz1 : W1.heap.size = W.heap.size + 1 := by rw [hW1]; simp
  rw [← hW1]
  clear hW1
  go_loopg [8, 9, 10] (b - m) (fun k v8 v9 v10 wr => ∃ (i j : Nat), v8 = .int .i64 (i : Int) ∧ v9 = .int .i64 (j : Int) ∧ m ≤ i ∧ i ≤ j ∧ j ≤ b ∧ j - i ≤ k ∧ Hid (SW enc W blk off d wr) ∧ wr.cell? ⟨W.heap.size, 0, none⟩ = some (.func (.func g) #[] lb) ∧ wr.cell? ⟨W.heap.size, 1, none⟩ = some (.func (.func sf) #[] sb) ∧ Hid ((∀ k, m ≤ k → k < i → K d[k]! < K d[a]!) ∧ (∀ k, j ≤ k → k < b → ¬ K d[k]! < K d[a]!)))
  case atStart => exact ⟨m, b, rfl, rfl, by omega, by omega, by omega, by omega, H1, hc0, hc1, Lib.hid ⟨fun k _ _ => by omega, fun k _ _ => by omega⟩⟩
  case round =>
    obtain ⟨i, j, rfl, rfl, hi, hij, hj, hk, HS, c0, c1, HB⟩ := hrel
    by_cases hlt : i < j
    · have t1 : decide ((i : Int) < (j : Int)) = true := decide_eq_true (by omega)
      obtain ⟨h, hh⟩ : ∃ h : Nat, (h : Int) = ((i : Int) + (j : Int)) / 2 := ⟨(i + j) / 2, by omega⟩
      have hh1 : i ≤ h := by omega
      have hh2 : h < j := by omega
      have HHH := Lib.hid hh
      clear hh
      obtain ⟨ko, rfl⟩ : ∃ ko, gk = ko + 1 := ⟨gk - 1, by omega⟩
      have HC := Lib.hid (HL.out d wr HS.out rfl h a (by omega) (by omega))
      by_cases hb' : K d[h]! < K d[a]!
      · rw [show ltK K d[h]! d[a]! = true from decide_eq_true hb'] at HC
        have HB2 : Hid _ := Lib.hid hb'
        clear hb'
        go_wp2_with fail
        rw [← HHH.out]
        refine HC.out.mono ?_
        rintro e w2 ⟨rfl, q, rfl⟩
        go_wp2
        go_roundg ko
        case measure => omega
        case rel => exact ⟨h + 1, j, by go_num, rfl, by omega, by omega, hj, by omega, Lib.hid (HS.out.drewN q), by simpa using c0, by simpa using c1, Lib.hid ⟨fun k h1 h2' => by
            rcases Nat.lt_or_ge k i with c | c
            · exact HB.out.1 k h1 c
            · have := H2.out.le_of (i := k) (j := h) (by omega) (by omega) (by omega)
              have := HB2.out
              unfold le at *; omega, HB.out.2⟩⟩
      · rw [show ltK K d[h]! d[a]! = false from decide_eq_false hb'] at HC
        have HB2 : Hid _ := Lib.hid hb'
        clear hb'
        go_wp2_with fail
        rw [← HHH.out]
        refine HC.out.mono ?_
        rintro e w2 ⟨rfl, q, rfl⟩
        go_wp2
        go_roundg ko
        case measure => omega
        case rel => exact ⟨i, h, rfl, rfl, by omega, by omega, by omega, by omega, Lib.hid (HS.out.drewN q), by simpa using c0, by simpa using c1, Lib.hid ⟨HB.out.1, fun k h1 h2' => by
            rcases Nat.lt_or_ge k j with c | c
            · have := H2.out.le_of (i := h) (j := k) (by omega) (by omega) (by omega)
              have := HB2.out
              unfold le at *; omega
            · exact HB.out.2 k c h2'⟩⟩
    · have t0 : decide ((i : Int) < (j : Int)) = false := decide_eq_false (by omega)
      obtain rfl : i = j := by omega
      go_wp2
      go_loopg [11] (i - 1 - a) (fun k v11 wr2 => ∃ (r : Nat) (x : Array Int), v11 = .int .i64 (r : Int) ∧ a ≤ r ∧ r ≤ i - 1 ∧ i - 1 - r ≤ k ∧ Hid (SW enc W blk off x wr2) ∧ wr2.cell? ⟨W.heap.size, 1, none⟩ = some (.func (.func sf) #[] sb) ∧ Hid (PermIn a b d x) ∧ Hid (∀ k, x[k]! = if a ≤ k ∧ k < r then d[k + 1]! else if k = r then d[a]! else d[k]!))
      case atStart => exact ⟨a, d, rfl, by omega, by omega, by omega, HS, c1, Lib.hid (permIn_refl _ _ _), Lib.hid (fun k => by
          rw [if_neg (by omega)]
          by_cases e : k = a
          · rw [if_pos e, e]
          · rw [if_neg e])⟩
      case round =>
        obtain ⟨r, x, rfl, hr1, hr2, hrk, HSX, c1', HP, HV⟩ := hrel
        have hxs : x.size = d.size := HP.out.1
        have HXS := Lib.hid hxs
        clear hxs
        by_cases hrl : r < i - 1
        · have t2 : decide ((r : Int) < (i : Int) - 1) = true := decide_eq_true (by omega)
          have hsw := HSW.out wr x (HSX.out.holds hblk HH.out HXS.out) HXS.out r (r + 1) (by omega) (by omega)
          rw [show (((r + 1 : Nat) : Int)) = (r : Int) + 1 by omega] at hsw
          have HSW1 := Lib.hid hsw
          have HX2 := Lib.hid (HSX.out.swap hblk r (r + 1) (by rw [HXS.out]; omega) (by rw [HXS.out]; omega))
          obtain ⟨ko, rfl⟩ : ∃ ko, gk = ko + 1 := ⟨gk - 1, by omega⟩
          clear hsw
          go_wp2_with fail
          rw [HSW1.out, Oper.upon_value]
          have hcn : ((wr.setCell ⟨blk, off + r, none⟩ (enc x[r + 1]!)).setCell ⟨blk, off + (r + 1), none⟩ (enc x[r]!)).cell? ⟨W.heap.size, 1, none⟩ = some (.func (.func sf) #[] sb) := by
            rw [World.cell?_setCell_other _ _ _ _ (by intro e; injection e with e1; omega), World.cell?_setCell_other _ _ _ _ (by intro e; injection e with e1; omega)]
            exact c1'
          go_wp2
          go_roundg ko
          case measure => omega
          case rel => exact ⟨r + 1, swp x r (r + 1), by go_num, by omega, by omega, by omega, HX2, hcn, Lib.hid (permIn_trans _ _ _ _ _ HP.out (swp_permIn _ _ _ _ _ (by omega) (by omega) (by omega) (by omega) (by rw [HXS.out]; exact hb))), Lib.hid (fun k => by
              rw [swp_view _ _ _ (by rw [HXS.out]; omega) (by rw [HXS.out]; omega) (by omega), HV.out, HV.out, HV.out]
              repeat' split
              all_goals first | (exfalso; omega) | (congr 1; omega) | rfl)⟩
        · have t2 : decide ((r : Int) < (i : Int) - 1) = false := decide_eq_false (by omega)
          obtain rfl : r = i - 1 := by omega
          go_wp2
          (try simp only [Exit.inBlock, Exit.then])
          refine bodyPost_ret (results_none rfl _ _ _) rfl ?_
          exact ⟨rfl, x, HSX.out, HP.out, merge_first (i := i) hab H2.out HX.out (by omega) hj (fun k h1 h2' => HB.out.1 k (by omega) h2') (fun k h1 h2' => Int.not_lt.2 (HB.out.2 k h1 h2')) HP.out HV.out⟩

set_option maxRecDepth 100000 in
set_option maxHeartbeats 4000000 in
theorem sm_last (K : Int → Int) (g : Nat) (lb : Array Value) (sf : Nat) (sb : Array Value) (blk off : Nat) (d : Array Int) (W : World) (hH : Holds enc W blk off d) (hblk : blk < W.heap.size)
    (eg : ∀ args w, (callFunc g args).run Try.prog w = .ok (.enter g args) w) (hless : LessReads Try.prog g lb enc (ltK K) blk off d.size W) (hswap : SwapSwaps Try.prog sf sb enc blk off d.size) (hsz : d.size < 4611686018427387904)
    (a m b : Nat) (hm : b = m + 1) (hab : a + 1 < m) (hb : m + 1 ≤ d.size) (h2 : Sorted K a m d) (hx : Cross a m (m + 1) d) :
    Calls Try.prog 52 #[dat g lb sf sb, .int .i64 (a : Int), .int .i64 (m : Int), .int .i64 (b : Int)] W fun e w' => e = .returned (.tuple #[]) ∧ ∃ d', SW enc W blk off d' w' ∧ PermIn a (m + 1) d d' ∧ Sorted K a (m + 1) d' := by
  have HH := Lib.hid hH
  have HL := Lib.hid (fun (x : Array Int) (w : World) (hx : SW enc W blk off x w) (hxs : x.size = d.size) (p q : Nat) (h1 : p < d.size) (h2 : q < d.size) => SW.less hx hless hxs p q h1 h2)
  have HSW := Lib.hid hswap
  have H2 := Lib.hid h2
  have HX := Lib.hid hx
  have HM := Lib.hid hm
  have hm1 : b ≤ m + 1 := by omega
  have hm2 : m + 1 ≤ b := by omega
  have hc0 : ((m : Int) - (a : Int) == 1) = false := beq_eq_false_iff_ne.2 (by omega)
  have hc : ((b : Int) - (m : Int) == 1) = true := beq_iff_eq.2 (by omega)
  clear hH hswap hless h2 hx hm
  go_enter Try.func52, Try.ntmps52
  go_wp2
  obtain ⟨W1, hW1⟩ : ∃ W1, W1 = W.alloc (.cells #[.func (.func g) #[] lb, .func (.func sf) #[] sb] 70) := ⟨_, rfl⟩
  have H1 : Hid (SW enc W blk off d W1) := Lib.hid (by rw [hW1]; exact (SW.start HH.out).alloc _)
  have hc1 : W1.cell? ⟨W.heap.size, 1, none⟩ = some (.func (.func sf) #[] sb) := by rw [hW1]; simp
  have hc0 : W1.cell? ⟨W.heap.size, 0, none⟩ = some (.func (.func g) #[] lb) := by rw [hW1]; simp
  have hz1 : W1.heap.size = W.heap.size + 1 := by rw [hW1]; simp
  rw [← hW1]
  clear hW1
  go_loopg [12, 13, 14] (m - a) (fun k v8 v9 v10 wr => ∃ (i j : Nat), v8 = .int .i64 (i : Int) ∧ v9 = .int .i64 (j : Int) ∧ a ≤ i ∧ i ≤ j ∧ j ≤ m ∧ j - i ≤ k ∧ Hid (SW enc W blk off d wr) ∧ wr.cell? ⟨W.heap.size, 0, none⟩ = some (.func (.func g) #[] lb) ∧ wr.cell? ⟨W.heap.size, 1, none⟩ = some (.func (.func sf) #[] sb) ∧ Hid ((∀ k, a ≤ k → k < i → ¬ K d[m]! < K d[k]!) ∧ (∀ k, j ≤ k → k < m → K d[m]! < K d[k]!)))
  case atStart => exact ⟨a, m, rfl, rfl, by omega, by omega, by omega, by omega, H1, hc0, hc1, Lib.hid ⟨fun k _ _ => by omega, fun k _ _ => by omega⟩⟩
  case round =>
    obtain ⟨i, j, rfl, rfl, hi, hij, hj, hk, HS, c0, c1, HB⟩ := hrel
    by_cases hlt : i < j
    · have t1 : decide ((i : Int) < (j : Int)) = true := decide_eq_true (by omega)
      obtain ⟨h, hh⟩ : ∃ h : Nat, (h : Int) = ((i : Int) + (j : Int)) / 2 := ⟨(i + j) / 2, by omega⟩
      have hh1 : i ≤ h := by omega
      have hh2 : h < j := by omega
      have HHH := Lib.hid hh
      clear hh
      obtain ⟨ko, rfl⟩ : ∃ ko, gk = ko + 1 := ⟨gk - 1, by omega⟩
      have HC := Lib.hid (HL.out d wr HS.out rfl m h (by omega) (by omega))
      by_cases hb' : K d[m]! < K d[h]!
      · rw [show ltK K d[m]! d[h]! = true from decide_eq_true hb'] at HC
        have HB2 : Hid _ := Lib.hid hb'
        clear hb'
        go_wp2_with fail
        rw [← HHH.out]
        refine HC.out.mono ?_
        rintro e w2 ⟨rfl, q, rfl⟩
        go_wp2
        go_roundg ko
        case measure => omega
        case rel => exact ⟨i, h, rfl, rfl, by omega, by omega, by omega, by omega, Lib.hid (HS.out.drewN q), by simpa using c0, by simpa using c1, Lib.hid ⟨HB.out.1, fun k h1 h2' => by
            rcases Nat.lt_or_ge k j with c | c
            · have := H2.out.le_of (i := h) (j := k) (by omega) (by omega) (by omega)
              have := HB2.out
              unfold le at *; omega
            · exact HB.out.2 k c h2'⟩⟩
      · rw [show ltK K d[m]! d[h]! = false from decide_eq_false hb'] at HC
        have HB2 : Hid _ := Lib.hid hb'
        clear hb'
        go_wp2_with fail
        rw [← HHH.out]
        refine HC.out.mono ?_
        rintro e w2 ⟨rfl, q, rfl⟩
        go_wp2
        go_roundg ko
        case measure => omega
        case rel => exact ⟨h + 1, j, by go_num, rfl, by omega, by omega, hj, by omega, Lib.hid (HS.out.drewN q), by simpa using c0, by simpa using c1, Lib.hid ⟨fun k h1 h2' => by
            rcases Nat.lt_or_ge k i with c | c
            · exact HB.out.1 k h1 c
            · have := H2.out.le_of (i := k) (j := h) (by omega) (by omega) (by omega)
              have := HB2.out
              unfold le at *; omega, HB.out.2⟩⟩
    · have t0 : decide ((i : Int) < (j : Int)) = false := decide_eq_false (by omega)
      obtain rfl : i = j := by omega
      go_wp2
      go_loopg [15] (m - i) (fun k v11 wr2 => ∃ (r : Nat) (x : Array Int), v11 = .int .i64 (r : Int) ∧ i ≤ r ∧ r ≤ m ∧ r - i ≤ k ∧ Hid (SW enc W blk off x wr2) ∧ wr2.cell? ⟨W.heap.size, 1, none⟩ = some (.func (.func sf) #[] sb) ∧ Hid (PermIn a (m + 1) d x) ∧ Hid (∀ k, x[k]! = if r < k ∧ k ≤ m then d[k - 1]! else if k = r then d[m]! else d[k]!))
      case atStart => exact ⟨m, d, rfl, by omega, by omega, by omega, HS, c1, Lib.hid (permIn_refl _ _ _), Lib.hid (fun k => by
          rw [if_neg (by omega)]
          by_cases e : k = m
          · rw [if_pos e, e]
          · rw [if_neg e])⟩
      case round =>
        obtain ⟨r, x, rfl, hr1, hr2, hrk, HSX, c1', HP, HV⟩ := hrel
        have hxs : x.size = d.size := HP.out.1
        have HXS := Lib.hid hxs
        clear hxs
        by_cases hrl : i < r
        · have t2 : decide ((i : Int) < (r : Int)) = true := decide_eq_true (by omega)
          have hsw := HSW.out wr x (HSX.out.holds hblk HH.out HXS.out) HXS.out r (r - 1) (by omega) (by omega)
          rw [show (((r - 1 : Nat) : Int)) = (r : Int) - 1 by omega] at hsw
          have HSW1 := Lib.hid hsw
          have HX2 := Lib.hid (HSX.out.swap hblk r (r - 1) (by rw [HXS.out]; omega) (by rw [HXS.out]; omega))
          obtain ⟨ko, rfl⟩ : ∃ ko, gk = ko + 1 := ⟨gk - 1, by omega⟩
          clear hsw
          go_wp2_with fail
          rw [HSW1.out, Oper.upon_value]
          have hcn : ((wr.setCell ⟨blk, off + r, none⟩ (enc x[r - 1]!)).setCell ⟨blk, off + (r - 1), none⟩ (enc x[r]!)).cell? ⟨W.heap.size, 1, none⟩ = some (.func (.func sf) #[] sb) := by
            rw [World.cell?_setCell_other _ _ _ _ (by intro e; injection e with e1; omega), World.cell?_setCell_other _ _ _ _ (by intro e; injection e with e1; omega)]
            exact c1'
          go_wp2
          go_roundg ko
          case measure => omega
          case rel => exact ⟨r - 1, swp x r (r - 1), by go_num, by omega, by omega, by omega, HX2, hcn, Lib.hid (permIn_trans _ _ _ _ _ HP.out (swp_permIn _ _ _ _ _ (by omega) (by omega) (by omega) (by omega) (by rw [HXS.out]; exact hb))), Lib.hid (fun k => by
              rw [swp_view _ _ _ (by rw [HXS.out]; omega) (by rw [HXS.out]; omega) (by omega), HV.out, HV.out, HV.out]
              repeat' split
              all_goals first | (exfalso; omega) | (congr 1; omega) | rfl)⟩
        · have t2 : decide ((i : Int) < (r : Int)) = false := decide_eq_false (by omega)
          obtain rfl : r = i := by omega
          go_wp2
          (try simp only [Exit.inBlock, Exit.then])
          refine bodyPost_ret (results_none rfl _ _ _) rfl ?_
          exact ⟨rfl, x, HSX.out, HP.out, merge_last (i := r) (by omega) H2.out HX.out (by omega) hj (fun k h1 h2' => Int.not_lt.2 (HB.out.1 k h1 h2')) HB.out.2 HV.out⟩
end Go.Proofs.Ytgcefofmfeghmaa.St
/- sort.symMerge_func -/
namespace Go.Proofs.Ytgcefofmfeghmaa.St
open Go.Shelf Go.RowKit Go.Lib Go.Sort
set_option linter.unusedVariables false
set_option linter.unusedSimpArgs false
variable {enc : Int → Value}

def SMOk (enc : Int → Value) (K : Int → Int) (g : Nat) (lb : Array Value) (sf : Nat) (sb : Array Value) (blk off : Nat) (n : Nat) : Prop :=
  ∀ (d : Array Int) (W : World), Holds enc W blk off d → blk < W.heap.size → LessReads Try.prog g lb enc (ltK K) blk off d.size W → SwapSwaps Try.prog sf sb enc blk off d.size → d.size < 4611686018427387904 →
    ∀ (a m b : Nat), a < m → m < b → b ≤ d.size → b - a ≤ n → Sorted K a m d → Sorted K m b d → Cross a m b d →
    Calls Try.prog 52 #[dat g lb sf sb, .int .i64 (a : Int), .int .i64 (m : Int), .int .i64 (b : Int)] W fun e w' => e = .returned (.tuple #[]) ∧ ∃ d', SW enc W blk off d' w' ∧ PermIn a b d d' ∧ Sorted K a b d'

/-- the halves behind the turn are merges of their own -/
theorem merge_pre {K : Int → Int} {a m b mid s e : Nat} {d d1 : Array Int} (hse : s + e = mid + m) (has : a ≤ s) (hsm : s ≤ m) (hmid : s ≤ mid ∧ mid ≤ e) (hme : m ≤ e) (heb : e ≤ b) (h1 : Sorted K a m d) (h2 : Sorted K m b d) (hx : Cross a m b d) (hr : ∀ k, d1[k]! = RotV (fun k => d[k]!) s m e k) :
    Sorted K a s d1 ∧ Sorted K s mid d1 ∧ Cross a s mid d1 ∧ Sorted K mid e d1 ∧ Sorted K e b d1 ∧ Cross mid e b d1 := by
  have q1 : ∀ k, a ≤ k → k < s → d1[k]! = d[k]! := fun k h h' => by rw [hr]; unfold RotV; rw [if_neg (by omega), if_neg (by omega)]
  have q2 : ∀ k, s ≤ k → k < mid → d1[k]! = d[m + (k - s)]! := fun k h h' => by rw [hr]; unfold RotV; rw [if_pos (by omega)]
  have q3 : ∀ k, mid ≤ k → k < e → d1[k]! = d[s + (k - mid)]! := fun k h h' => by rw [hr]; unfold RotV; rw [if_neg (by omega), if_pos (by omega)]; congr 1; omega
  have q4 : ∀ k, e ≤ k → d1[k]! = d[k]! := fun k h => by rw [hr]; unfold RotV; rw [if_neg (by omega), if_neg (by omega)]
  refine ⟨?_, ?_, ?_, ?_, ?_, ?_⟩
  · intro i j hi hij hj
    rw [q1 i hi (by omega), q1 j (by omega) hj]
    exact h1 i j hi hij (by omega)
  · intro i j hi hij hj
    rw [q2 i hi (by omega), q2 j (by omega) hj]
    exact h2 _ _ (by omega) (by omega) (by omega)
  · intro i j hi hi' hj hj'
    rw [q1 i hi hi', q2 j hj hj']
    exact hx _ _ hi (by omega) (by omega) (by omega)
  · intro i j hi hij hj
    rw [q3 i hi (by omega), q3 j (by omega) hj]
    exact h1 _ _ (by omega) (by omega) (by omega)
  · intro i j hi hij hj
    rw [q4 i hi, q4 j (by omega)]
    exact h2 _ _ (by omega) (by omega) (by omega)
  · intro i j hi hi' hj hj'
    rw [q3 i hi hi', q4 j hj]
    exact hx _ _ (by omega) (by omega) (by omega) hj'

theorem perm_same {a b : Nat} {d d' : Array Int} (h : PermIn a b d d') (k : Nat) (hk : k < a ∨ b ≤ k) : d'[k]! = d[k]! := h.2.1 k hk

set_option maxRecDepth 100000 in
set_option maxHeartbeats 8000000 in
theorem sm_step (K : Int → Int) (g : Nat) (lb : Array Value) (sf : Nat) (sb : Array Value) (blk off n : Nat) (eg : ∀ args w, (callFunc g args).run Try.prog w = .ok (.enter g args) w)
    (ih : SMOk enc K g lb sf sb blk off n) (d : Array Int) (W : World) (hH : Holds enc W blk off d) (hblk : blk < W.heap.size)
    (hless : LessReads Try.prog g lb enc (ltK K) blk off d.size W) (hswap : SwapSwaps Try.prog sf sb enc blk off d.size) (hsz : d.size < 4611686018427387904)
    (a m b : Nat) (ham : a + 1 < m) (hmb : m + 1 < b) (hb : b ≤ d.size) (hn : b - a ≤ n + 1) (h1 : Sorted K a m d) (h2 : Sorted K m b d) (hx : Cross a m b d) :
    Calls Try.prog 52 #[dat g lb sf sb, .int .i64 (a : Int), .int .i64 (m : Int), .int .i64 (b : Int)] W fun e w' => e = .returned (.tuple #[]) ∧ ∃ d', SW enc W blk off d' w' ∧ PermIn a b d d' ∧ Sorted K a b d' := by
  have HH := Lib.hid hH
  have HL := Lib.hid (fun (x : Array Int) (w : World) (hx : SW enc W blk off x w) (hxs : x.size = d.size) (p q : Nat) (h1 : p < d.size) (h2 : q < d.size) => SW.less hx hless hxs p q h1 h2)
  have HLR := Lib.hid (fun (x : Array Int) (w : World) (hx : SW enc W blk off x w) (hxs : x.size = d.size) => SW.lessReads hx hless hblk hxs)
  have HSW := Lib.hid hswap
  have H1' := Lib.hid h1
  have H2' := Lib.hid h2
  have HX := Lib.hid hx
  have IH := Lib.hid ih
  have hc0 : ((m : Int) - (a : Int) == 1) = false := beq_eq_false_iff_ne.2 (by omega)
  have hc : ((b : Int) - (m : Int) == 1) = false := beq_eq_false_iff_ne.2 (by omega)
  clear hH hswap hless h1 h2 hx ih
  obtain ⟨mid, hmid⟩ : ∃ h : Nat, (h : Int) = ((a : Int) + (b : Int)) / 2 := ⟨(a + b) / 2, by omega⟩
  have hm1 : a < mid := by omega
  have hm2 : mid < b := by omega
  have hm3 : 2 * mid ≤ a + b := by omega
  have hm4 : a + b ≤ 2 * mid + 1 := by omega
  have HMID := Lib.hid hmid
  clear hmid
  obtain ⟨s0, r0, hs0, hr0, hsr⟩ : ∃ s0 r0 : Nat, (mid < m → s0 + b = mid + m ∧ r0 = mid) ∧ (m ≤ mid → s0 = a ∧ r0 = m) ∧ s0 ≤ r0 := by
    rcases Nat.lt_or_ge mid m with c | c
    · exact ⟨mid + m - b, mid, fun _ => ⟨by omega, rfl⟩, fun h => by omega, by omega⟩
    · exact ⟨a, m, fun h => by omega, fun _ => ⟨rfl, rfl⟩, by omega⟩
  have hs1 : a ≤ s0 := by rcases Nat.lt_or_ge mid m with c | c; (have := hs0 c; omega); (have := hr0 c; omega)
  have hr1 : r0 ≤ m := by rcases Nat.lt_or_ge mid m with c | c; (have := hs0 c; omega); (have := hr0 c; omega)
  have hr2 : r0 ≤ mid := by rcases Nat.lt_or_ge mid m with c | c; (have := hs0 c; omega); (have := hr0 c; omega)
  have hs2 : mid + m ≤ s0 + b := by rcases Nat.lt_or_ge mid m with c | c; (have := hs0 c; omega); (have := hr0 c; omega)
  have HR := Lib.hid (⟨hs0, hr0⟩ : _ ∧ _)
  clear hs0 hr0
  go_enter Try.func52, Try.ntmps52
  go_upto_if 106 with fail
  obtain ⟨W1, hW1⟩ : ∃ W1, W1 = W.alloc (.cells #[.func (.func g) #[] lb, .func (.func sf) #[] sb] 70) := ⟨_, rfl⟩
  have H1 : Hid (SW enc W blk off d W1) := Lib.hid (by rw [hW1]; exact (SW.start HH.out).alloc _)
  have hc1 : W1.cell? ⟨W.heap.size, 1, none⟩ = some (.func (.func sf) #[] sb) := by rw [hW1]; simp
  have hc0 : W1.cell? ⟨W.heap.size, 0, none⟩ = some (.func (.func g) #[] lb) := by rw [hW1]; simp
  have hz1 : W.heap.size < W1.heap.size := by rw [hW1]; simp
  rw [← hW1]
  clear hW1
  rw [← HMID.out]
  go_cut [18, 19] (fun v18 v19 wx => v18 = .int .i64 (s0 : Int) ∧ v19 = .int .i64 (r0 : Int) ∧ wx = W1)
  case first =>
    by_cases hmm : mid < m
    · have hb3 : decide ((mid : Int) < (m : Int)) = true := decide_eq_true (by omega)
      obtain ⟨e1, e2⟩ := HR.out.1 hmm
      have E1 := Lib.hid e1
      have E2 := Lib.hid e2
      clear e1 e2
      go_wp2
      go_meet
      case rel => exact ⟨by have := E1.out; congr 1; omega, by rw [E2.out], rfl⟩
    · have hb3 : decide ((mid : Int) < (m : Int)) = false := decide_eq_false (by omega)
      obtain ⟨e1, e2⟩ := HR.out.2 (by omega)
      have E1 := Lib.hid e1
      have E2 := Lib.hid e2
      clear e1 e2
      go_wp2
      go_meet
      case rel => exact ⟨by rw [E1.out], by rw [E2.out], rfl⟩
  case rest =>
    obtain ⟨rfl, rfl, e4⟩ := hcut
    obtain rfl := e4.symm
    go_wp2
    go_loopg [18, 19, 21] (r0 - s0) (fun k v18 v19 v21 wr => ∃ (s r : Nat), v18 = .int .i64 (s : Int) ∧ v19 = .int .i64 (r : Int) ∧ s0 ≤ s ∧ s ≤ r ∧ r ≤ r0 ∧ r - s ≤ k ∧ Hid (SW enc W blk off d wr) ∧ wr.cell? ⟨W.heap.size, 0, none⟩ = some (.func (.func g) #[] lb) ∧ wr.cell? ⟨W.heap.size, 1, none⟩ = some (.func (.func sf) #[] sb) ∧ W.heap.size < wr.heap.size ∧ Hid (∀ c, s0 ≤ c → c < s → ¬ K d[mid + m - 1 - c]! < K d[c]!) ∧ Hid (∀ c, r ≤ c → c < r0 → K d[mid + m - 1 - c]! < K d[c]!))
    case atStart => exact ⟨s0, r0, rfl, rfl, by omega, by omega, by omega, by omega, H1, hc0, hc1, hz1, Lib.hid (fun c _ _ => by omega), Lib.hid (fun c _ _ => by omega)⟩
    case round =>
      obtain ⟨s, r, rfl, rfl, hs3, hsr2, hr3, hk, HS, c0, c1, hwz, HB1, HB2⟩ := hrel
      by_cases hlt : s < r
      · have t1 : decide ((s : Int) < (r : Int)) = true := decide_eq_true (by omega)
        obtain ⟨c, hh⟩ : ∃ h : Nat, (h : Int) = ((s : Int) + (r : Int)) / 2 := ⟨(s + r) / 2, by omega⟩
        have hh1 : s ≤ c := by omega
        have hh2 : c < r := by omega
        have HHH := Lib.hid hh
        clear hh
        obtain ⟨ko, rfl⟩ : ∃ ko, gk = ko + 1 := ⟨gk - 1, by omega⟩
        have HC := Lib.hid (HL.out d wr HS.out rfl (mid + m - 1 - c) c (by omega) (by omega))
        rw [show ((mid + m - 1 - c : Nat) : Int) = (mid : Int) + (m : Int) - 1 - (c : Int) by omega] at HC
        by_cases hb' : K d[mid + m - 1 - c]! < K d[c]!
        · rw [show ltK K d[mid + m - 1 - c]! d[c]! = true from decide_eq_true hb'] at HC
          have HB3 : Hid _ := Lib.hid hb'
          clear hb'
          go_wp2_with fail
          rw [← HHH.out]
          refine HC.out.mono ?_
          rintro e w2 ⟨rfl, q, rfl⟩
          go_wp2
          go_roundg ko
          case measure => omega
          case rel => exact ⟨s, c, rfl, rfl, by omega, by omega, by omega, by omega, Lib.hid (HS.out.drewN q), by simpa using c0, by simpa using c1, by simpa using hwz, HB1, Lib.hid (fun k h1 h2 => by
              rcases Nat.lt_or_ge k r with c' | c'
              · have := H1'.out.le_of (i := c) (j := k) (by omega) (by omega) (by omega)
                have := H2'.out.le_of (i := mid + m - 1 - k) (j := mid + m - 1 - c) (by omega) (by omega) (by omega)
                have := HB3.out
                unfold le at *; omega
              · exact HB2.out k c' h2)⟩
        · rw [show ltK K d[mid + m - 1 - c]! d[c]! = false from decide_eq_false hb'] at HC
          have HB3 : Hid _ := Lib.hid hb'
          clear hb'
          go_wp2_with fail
          rw [← HHH.out]
          refine HC.out.mono ?_
          rintro e w2 ⟨rfl, q, rfl⟩
          go_wp2
          go_roundg ko
          case measure => omega
          case rel => exact ⟨c + 1, r, by go_num, rfl, by omega, by omega, by omega, by omega, Lib.hid (HS.out.drewN q), by simpa using c0, by simpa using c1, by simpa using hwz, Lib.hid (fun k h1 h2 => by
              rcases Nat.lt_or_ge k s with c' | c'
              · exact HB1.out k h1 c'
              · have := H1'.out.le_of (i := k) (j := c) (by omega) (by omega) (by omega)
                have := H2'.out.le_of (i := mid + m - 1 - c) (j := mid + m - 1 - k) (by omega) (by omega) (by omega)
                have := HB3.out
                unfold le at *; omega), HB2⟩
      · have t0 : decide ((s : Int) < (r : Int)) = false := decide_eq_false (by omega)
        obtain rfl : s = r := by omega
        obtain ⟨e, he⟩ : ∃ e, e = mid + m - s := ⟨_, rfl⟩
        have he1 : m ≤ e := by omega
        have he2 : e ≤ b := by omega
        have he3 : s + e = mid + m := by omega
        have he4 : (mid : Int) + (m : Int) - (s : Int) = (e : Int) := by omega
        have HE4 := Lib.hid he4
        clear he he4
        have HRO := Lib.hid (rotate_calls g lb sf sb blk off d wr (HS.out.holds hblk HH.out rfl) (HS.out.lt hblk) HSW.out hsz s m e)
        have LO : Hid (∀ c, a ≤ c → c < s → s + e - 1 - c < b → ¬ K d[s + e - 1 - c]! < K d[c]!) := Lib.hid (fun c q1 q2 q3 => by
          have := HB1.out c (by rcases Nat.lt_or_ge mid m with c' | c'; (have := HR.out.1 c'; omega); (have := HR.out.2 c'; omega)) q2
          rwa [show mid + m - 1 - c = s + e - 1 - c by omega] at this)
        have HI : Hid (s < m → m < e → K d[e - 1]! < K d[s]!) := Lib.hid (fun q1 q2 => by
          have := HB2.out s (Nat.le_refl _) (by rcases Nat.lt_or_ge mid m with c' | c'; (have := HR.out.1 c'; omega); (have := HR.out.2 c'; omega))
          rwa [show mid + m - 1 - s = e - 1 by omega] at this)
        clear HB1 HB2
        go_upto_region 40 with fail
        rw [HE4.out]
        go_cut [145] (fun v wx => v = .bool (decide (s < m ∧ m < e)) ∧ wx = wr)
        case first =>
          by_cases q1 : s < m
          · have b1 : decide ((s : Int) < (m : Int)) = true := decide_eq_true (by omega)
            by_cases q2 : m < e
            · have b2 : decide ((m : Int) < (e : Int)) = true := decide_eq_true (by omega)
              go_wp2
              go_meet
              case rel => exact ⟨by rw [decide_eq_true (show s < m ∧ m < e from ⟨q1, q2⟩)], rfl⟩
            · have b2 : decide ((m : Int) < (e : Int)) = false := decide_eq_false (by omega)
              go_wp2
              go_meet
              case rel => exact ⟨by rw [decide_eq_false (show ¬ (s < m ∧ m < e) by omega)], rfl⟩
          · have b1 : decide ((s : Int) < (m : Int)) = false := decide_eq_false (by omega)
            go_wp2
            go_meet
            case rel => exact ⟨by rw [decide_eq_false (show ¬ (s < m ∧ m < e) by omega)], rfl⟩
        case rest =>
          obtain ⟨rfl, e4⟩ := hcut
          obtain rfl := e4.symm
          go_upto_if 145 with fail
          go_cut [] (fun wx => ∃ d1, Hid (SW enc W blk off d1 wx) ∧ wx.cell? ⟨W.heap.size, 0, none⟩ = some (.func (.func g) #[] lb) ∧ wx.cell? ⟨W.heap.size, 1, none⟩ = some (.func (.func sf) #[] sb) ∧ W.heap.size < wx.heap.size ∧ Hid (PermIn a b d d1) ∧ Hid (∀ k, d1[k]! = RotV (fun k => d[k]!) s m e k))
          case first =>
            by_cases q : s < m ∧ m < e
            · obtain ⟨q1, q2⟩ := q
              have b3 : decide (s < m ∧ m < e) = true := decide_eq_true ⟨q1, q2⟩
              rw [b3]
              have HRO2 := Lib.hid (HRO.out q1 q2 (by omega))
              clear b3
              go_wp2_with (first | (go_at_call 53; refine HRO2.out.mono ?_; rintro e_ w2 ⟨rfl, x2, hx2, hp2, hv2⟩; have HX2 := Lib.hid hx2; have HP2 := Lib.hid hp2; have HV2 := Lib.hid hv2; clear hx2 hp2 hv2))
              have hw2 := HX2.out.le
              go_meet
              case rel => exact ⟨x2, Lib.hid (SW.trans HS.out HX2.out hblk HP2.out.1), by rw [SW.cell HX2.out (by show W.heap.size ≠ blk; omega) (by show W.heap.size < wr.heap.size; omega)]; exact c0, by rw [SW.cell HX2.out (by show W.heap.size ≠ blk; omega) (by show W.heap.size < wr.heap.size; omega)]; exact c1, by omega, Lib.hid (permIn_mono _ _ _ _ _ _ (by omega) he2 hb HP2.out), HV2⟩
            · have b3 : decide (s < m ∧ m < e) = false := decide_eq_false q
              rw [b3]
              clear b3
              go_wp2
              go_meet
              case rel => exact ⟨d, HS, c0, c1, hwz, Lib.hid (permIn_refl _ _ _), Lib.hid (fun k => by
                unfold RotV
                rcases Nat.lt_or_ge s m with c' | c'
                · rw [if_neg (by omega)]
                  split
                  · congr 1; omega
                  · rfl
                · split
                  · congr 1; omega
                  · rw [if_neg (by omega)])⟩
          case rest =>
            obtain ⟨d1, HS1, c0', c1', hwz', HP1, HV1⟩ := hcut
            have HD1 := Lib.hid HP1.out.1
            -- what the two halves bring
            have ST := Lib.hid (fun (d2 d3 : Array Int) hp2 hs2 hp3 hs3 => merge_step (K := K) (a := a) (m := m) (b := b) (mid := mid) (s := s) (e := e) (d := d) (d1 := d1) (d2 := d2) (d3 := d3) (by omega) (by omega) hb H1'.out H2'.out HX.out (by omega) he3 (by omega) (by omega) he1 he2 LO.out HI.out HP1.out HV1.out hp2 hs2 hp3 hs3)
            go_upto_region 42 with fail
            go_cut [158] (fun v wx => v = .bool (decide (a < s ∧ s < mid)) ∧ wx = wc)
            case first =>
              by_cases q1 : a < s
              · have b1 : decide ((a : Int) < (s : Int)) = true := decide_eq_true (by omega)
                by_cases q2 : s < mid
                · have b2 : decide ((s : Int) < (mid : Int)) = true := decide_eq_true (by omega)
                  go_wp2
                  go_meet
                  case rel => exact ⟨by rw [decide_eq_true (show a < s ∧ s < mid from ⟨q1, q2⟩)], rfl⟩
                · have b2 : decide ((s : Int) < (mid : Int)) = false := decide_eq_false (by omega)
                  go_wp2
                  go_meet
                  case rel => exact ⟨by rw [decide_eq_false (show ¬ (a < s ∧ s < mid) by omega)], rfl⟩
              · have b1 : decide ((a : Int) < (s : Int)) = false := decide_eq_false (by omega)
                go_wp2
                go_meet
                case rel => exact ⟨by rw [decide_eq_false (show ¬ (a < s ∧ s < mid) by omega)], rfl⟩
            case rest =>
              obtain ⟨rfl, e4⟩ := hcut
              obtain rfl := e4.symm
              go_upto_if 158 with fail
              go_cut [] (fun wx => ∃ d2, Hid (SW enc W blk off d2 wx) ∧ wx.cell? ⟨W.heap.size, 0, none⟩ = some (.func (.func g) #[] lb) ∧ wx.cell? ⟨W.heap.size, 1, none⟩ = some (.func (.func sf) #[] sb) ∧ W.heap.size < wx.heap.size ∧ Hid (PermIn a mid d1 d2) ∧ Hid (Sorted K a s d1 → Sorted K s mid d1 → Cross a s mid d1 → Sorted K a mid d2))
              case first =>
                by_cases q : a < s ∧ s < mid
                · obtain ⟨q1, q2⟩ := q
                  have b3 : decide (a < s ∧ s < mid) = true := decide_eq_true ⟨q1, q2⟩
                  rw [b3]
                  clear b3
                  have S1 := Lib.hid (merge_pre (K := K) (d1 := d1) he3 (by omega) (by omega) (by omega) he1 he2 H1'.out H2'.out HX.out HV1.out)
                  have HRO2 := Lib.hid (IH.out d1 wc (HS1.out.holds hblk HH.out HD1.out) (HS1.out.lt hblk) (by rw [HD1.out]; exact HLR.out d1 wc HS1.out HD1.out) (by rw [HD1.out]; exact HSW.out) (by rw [HD1.out]; exact hsz) a s mid q1 q2 (by rw [HD1.out]; omega) (by omega) S1.out.1 S1.out.2.1 S1.out.2.2.1)
                  go_wp2_with (first | (go_at_call 52; refine HRO2.out.mono ?_; rintro e_ w2 ⟨rfl, x2, hx2, hp2, hv2⟩; have HX2 := Lib.hid hx2; have HP2 := Lib.hid hp2; have HV2 := Lib.hid hv2; clear hx2 hp2 hv2))
                  have hw2 := HX2.out.le
                  go_meet
                  case rel => exact ⟨x2, Lib.hid (SW.trans HS1.out HX2.out hblk HP2.out.1), by rw [SW.cell HX2.out (by show W.heap.size ≠ blk; omega) (by show W.heap.size < wc.heap.size; omega)]; exact c0', by rw [SW.cell HX2.out (by show W.heap.size ≠ blk; omega) (by show W.heap.size < wc.heap.size; omega)]; exact c1', by omega, HP2, Lib.hid (fun _ _ _ => HV2.out)⟩
                · have b3 : decide (a < s ∧ s < mid) = false := decide_eq_false q
                  rw [b3]
                  clear b3
                  go_wp2
                  go_meet
                  case rel => exact ⟨d1, HS1, c0', c1', hwz', Lib.hid (permIn_refl _ _ _), Lib.hid (fun q1 q2 q3 => by
                    rcases Nat.lt_or_ge a s with c' | c'
                    · obtain rfl : s = mid := by omega
                      exact q1
                    · obtain rfl : s = a := by omega
                      exact q2)⟩
              case rest =>
                obtain ⟨d2, HS2, c0'', c1'', hwz'', HP2, HV2⟩ := hcut
                have HD2 : Hid (d2.size = d.size) := Lib.hid (by rw [HP2.out.1, HD1.out])
                go_upto_region 44 with fail
                go_cut [171] (fun v wx => v = .bool (decide (mid < e ∧ e < b)) ∧ wx = wc)
                case first =>
                  by_cases q1 : mid < e
                  · have b1 : decide ((mid : Int) < (e : Int)) = true := decide_eq_true (by omega)
                    by_cases q2 : e < b
                    · have b2 : decide ((e : Int) < (b : Int)) = true := decide_eq_true (by omega)
                      go_wp2
                      go_meet
                      case rel => exact ⟨by rw [decide_eq_true (show mid < e ∧ e < b from ⟨q1, q2⟩)], rfl⟩
                    · have b2 : decide ((e : Int) < (b : Int)) = false := decide_eq_false (by omega)
                      go_wp2
                      go_meet
                      case rel => exact ⟨by rw [decide_eq_false (show ¬ (mid < e ∧ e < b) by omega)], rfl⟩
                  · have b1 : decide ((mid : Int) < (e : Int)) = false := decide_eq_false (by omega)
                    go_wp2
                    go_meet
                    case rel => exact ⟨by rw [decide_eq_false (show ¬ (mid < e ∧ e < b) by omega)], rfl⟩
                case rest =>
                  obtain ⟨rfl, e4⟩ := hcut
                  obtain rfl := e4.symm
                  by_cases q : mid < e ∧ e < b
                  · obtain ⟨q1, q2⟩ := q
                    have b3 : decide (mid < e ∧ e < b) = true := decide_eq_true ⟨q1, q2⟩
                    rw [b3]
                    clear b3
                    have S1 := Lib.hid (merge_pre (K := K) (d1 := d1) he3 (by omega) (by omega) (by omega) he1 he2 H1'.out H2'.out HX.out HV1.out)
                    have R2 : Hid (∀ k, mid ≤ k → d2[k]! = d1[k]!) := Lib.hid (fun k h => HP2.out.2.1 k (.inr h))
                    have HRO2 := Lib.hid (IH.out d2 wc (HS2.out.holds hblk HH.out HD2.out) (HS2.out.lt hblk) (by rw [HD2.out]; exact HLR.out d2 wc HS2.out HD2.out) (by rw [HD2.out]; exact HSW.out) (by rw [HD2.out]; exact hsz) mid e b q1 q2 (by rw [HD2.out]; exact hb) (by omega)
                      (fun i j a1 a2 a3 => by rw [R2.out i a1, R2.out j (by omega)]; exact S1.out.2.2.2.1 i j a1 a2 a3) (fun i j a1 a2 a3 => by rw [R2.out i (by omega), R2.out j (by omega)]; exact S1.out.2.2.2.2.1 i j a1 a2 a3) (fun i j a1 a2 a3 a4 => by rw [R2.out i a1, R2.out j (by omega)]; exact S1.out.2.2.2.2.2 i j a1 a2 a3 a4))
                    go_wp2_with (first | (go_at_call 52; refine HRO2.out.mono ?_; rintro e_ w2 ⟨rfl, x2, hx2, hp2, hv2⟩; have HX2 := Lib.hid hx2; have HP3 := Lib.hid hp2; have HV3 := Lib.hid hv2; clear hx2 hp2 hv2))
                    go_end0
                    exact ⟨rfl, x2, SW.trans HS2.out HX2.out hblk HP3.out.1, ST.out d2 x2 HP2.out HV2.out HP3.out (fun _ _ _ => HV3.out)⟩
                  · have b3 : decide (mid < e ∧ e < b) = false := decide_eq_false q
                    rw [b3]
                    clear b3
                    go_wp2
                    go_end0
                    exact ⟨rfl, d2, HS2.out, ST.out d2 d2 HP2.out HV2.out (permIn_refl _ _ _) (fun q1 q2 q3 => by
                      rcases Nat.lt_or_ge mid e with c' | c'
                      · obtain rfl : e = b := by omega
                        exact q1
                      · obtain rfl : mid = e := by omega
                        exact q2)⟩

theorem sm_any (K : Int → Int) (g : Nat) (lb : Array Value) (sf : Nat) (sb : Array Value) (blk off : Nat) (eg : ∀ args w, (callFunc g args).run Try.prog w = .ok (.enter g args) w) : ∀ n, SMOk enc K g lb sf sb blk off n
  | 0 => fun d W _ _ _ _ _ a m b h1 h2 _ h3 => by omega
  | n + 1 => fun d W hH hblk hless hswap hsz a m b h1 h2 hb h3 s1 s2 hx => by
    by_cases c1 : m = a + 1
    · exact sm_first K g lb sf sb blk off d W hH hblk eg hless hswap hsz a m b c1 (by omega) hb (by rw [← c1]; exact s2) (by rw [← c1]; exact hx)
    · by_cases c2 : b = m + 1
      · have := sm_last K g lb sf sb blk off d W hH hblk eg hless hswap hsz a m b c2 (by omega) (by omega) s1 (by rw [← c2]; exact hx)
        rw [← c2] at this
        exact this
      · exact sm_step K g lb sf sb blk off n eg (sm_any K g lb sf sb blk off eg n) d W hH hblk hless hswap hsz a m b (by omega) (by omega) hb h3 s1 s2 hx
end Go.Proofs.Ytgcefofmfeghmaa.St
/- sort.insertionSort_func, sort.stable_func -/
namespace Go.Proofs.Ytgcefofmfeghmaa.St
open Go.Shelf Go.RowKit Go.Lib Go.Sort
set_option linter.unusedVariables false
set_option linter.unusedSimpArgs false
variable {enc : Int → Value}

set_option maxRecDepth 100000 in
set_option maxHeartbeats 4000000 in
theorem ins_calls (K : Int → Int) (g : Nat) (lb : Array Value) (sf : Nat) (sb : Array Value) (blk off : Nat) (d : Array Int) (W : World) (hH : Holds enc W blk off d) (hblk : blk < W.heap.size)
    (eg : ∀ args w, (callFunc g args).run Try.prog w = .ok (.enter g args) w) (hless : LessReads Try.prog g lb enc (ltK K) blk off d.size W) (hswap : SwapSwaps Try.prog sf sb enc blk off d.size) (hsz : d.size < 4611686018427387904)
    (a b : Nat) (hab : a ≤ b) (hb : b ≤ d.size) :
    Calls Try.prog 51 #[dat g lb sf sb, .int .i64 (a : Int), .int .i64 (b : Int)] W fun e w' => e = .returned (.tuple #[]) ∧ SW enc W blk off (insertionSort (ltK K) d a b) w' := by
  have HH := Lib.hid hH
  have HL := Lib.hid (fun (x : Array Int) (w : World) (hx : SW enc W blk off x w) (hxs : x.size = d.size) (p q : Nat) (h1 : p < d.size) (h2 : q < d.size) => SW.less hx hless hxs p q h1 h2)
  have HSW := Lib.hid hswap
  clear hH hswap hless
  go_enter Try.func51, Try.ntmps51
  go_wp2
  obtain ⟨W1, hW1⟩ : ∃ W1, W1 = W.alloc (.cells #[.func (.func g) #[] lb, .func (.func sf) #[] sb] 70) := ⟨_, rfl⟩
  have H1 : Hid (SW enc W blk off d W1) := Lib.hid (by rw [hW1]; exact (SW.start HH.out).alloc _)
  have hc1 : W1.cell? ⟨W.heap.size, 1, none⟩ = some (.func (.func sf) #[] sb) := by rw [hW1]; simp
  have hc0 : W1.cell? ⟨W.heap.size, 0, none⟩ = some (.func (.func g) #[] lb) := by rw [hW1]; simp
  have hz1 : W.heap.size < W1.heap.size := by rw [hW1]; simp
  rw [← hW1]
  clear hW1
  go_loopg [6] (b - a) (fun k v6 wr => ∃ (i : Nat) (x : Array Int), v6 = .int .i64 (i : Int) ∧ a < i ∧ b + 1 ≤ k + i ∧ i ≤ b + 1 ∧ Hid (SW enc W blk off x wr) ∧ wr.cell? ⟨W.heap.size, 0, none⟩ = some (.func (.func g) #[] lb) ∧ wr.cell? ⟨W.heap.size, 1, none⟩ = some (.func (.func sf) #[] sb) ∧ Hid (x.size = d.size) ∧ Hid (insOuter (ltK K) a b i x = insOuter (ltK K) a b (a + 1) d))
  case atStart => exact ⟨a + 1, d, by go_num, by omega, by omega, by omega, H1, hc0, hc1, Lib.hid rfl, Lib.hid rfl⟩
  case round =>
    obtain ⟨i, x, rfl, hi, hk, hib, HX, c0, c1, HS, HO⟩ := hrel
    by_cases hlt : i < b
    · have t1 : decide ((i : Int) < (b : Int)) = true := decide_eq_true (by omega)
      obtain ⟨ko, rfl⟩ : ∃ ko, gk = ko + 1 := ⟨gk - 1, by omega⟩
      go_wp2
      go_loopg [7] (i - a) (fun k v7 wr => ∃ (j : Nat) (y : Array Int), v7 = .int .i64 (j : Int) ∧ a ≤ j ∧ j ≤ i ∧ j ≤ k + a ∧ Hid (SW enc W blk off y wr) ∧ wr.cell? ⟨W.heap.size, 0, none⟩ = some (.func (.func g) #[] lb) ∧ wr.cell? ⟨W.heap.size, 1, none⟩ = some (.func (.func sf) #[] sb) ∧ Hid (y.size = d.size) ∧ Hid (insInner (ltK K) a j y = insInner (ltK K) a i x))
      case atStart => exact ⟨i, x, rfl, by omega, by omega, by omega, HX, c0, c1, HS, Lib.hid rfl⟩
      case round =>
        rename_i gko
        obtain ⟨j, y, rfl, haj, hji, hjk, HY, c0', c1', HSY, HI⟩ := hrel
        by_cases hja : a < j
        · have t2 : decide ((a : Int) < (j : Int)) = true := decide_eq_true (by omega)
          have HC := Lib.hid (HL.out y wr HY.out HSY.out j (j - 1) (by omega) (by omega))
          rw [show ((j - 1 : Nat) : Int) = (j : Int) - 1 by omega] at HC
          have hsw := fun q => HSW.out (wr.drewN q) y ((HY.out.drewN q).holds hblk HH.out HSY.out) HSY.out j (j - 1) (by omega) (by omega)
          rw [show (((j - 1 : Nat) : Int)) = (j : Int) - 1 by omega] at hsw
          have HSW1 := Lib.hid hsw
          clear hsw
          obtain ⟨bv, hbv⟩ : ∃ bv, ltK K y[j]! y[j - 1]! = bv := ⟨_, rfl⟩
          rw [hbv] at HC
          have HBV := Lib.hid hbv
          clear hbv
          cases bv with
          | true =>
            obtain ⟨kj, rfl⟩ : ∃ kj, gk = kj + 1 := ⟨gk - 1, by omega⟩
            go_wp2_with fail
            refine HC.out.mono ?_
            rintro e w2 ⟨rfl, q, rfl⟩
            go_wp2_with fail
            have c1q : (wr.drewN q).cell? ⟨W.heap.size, 1, none⟩ = some (.func (.func sf) #[] sb) := by simpa using c1'
            go_wp2_with fail
            rw [HSW1.out q, Oper.upon_value]
            have HX2 := Lib.hid ((HY.out.drewN q).swap hblk j (j - 1) (by rw [HSY.out]; omega) (by rw [HSY.out]; omega))
            have hcn : ∀ (c : Nat) (v : Value), wr.cell? ⟨W.heap.size, c, none⟩ = some v → (((wr.drewN q).setCell ⟨blk, off + j, none⟩ (enc y[j - 1]!)).setCell ⟨blk, off + (j - 1), none⟩ (enc y[j]!)).cell? ⟨W.heap.size, c, none⟩ = some v := fun c v h => by
              rw [World.cell?_setCell_other _ _ _ _ (by intro e; injection e with e1; omega), World.cell?_setCell_other _ _ _ _ (by intro e; injection e with e1; omega)]
              simpa using h
            have hc1n := hcn 1 _ c1'
            have hc0n := hcn 0 _ c0'
            clear hcn
            go_wp2
            go_roundg kj
            case measure => omega
            case rel => exact ⟨j - 1, swp y j (j - 1), by go_num, by omega, by omega, by omega, HX2, hc0n, hc1n, Lib.hid (by rw [size_swp]; exact HSY.out), Lib.hid (by rw [← HI.out, insInner_go (ltK K) a j y hja HBV.out])⟩
          | false =>
            go_wp2_with fail
            refine HC.out.mono ?_
            rintro e w2 ⟨rfl, q, rfl⟩
            go_wp2
            go_roundg ko
            case measure => omega
            case rel => exact ⟨i + 1, y, by go_num, by omega, by omega, by omega, Lib.hid (HY.out.drewN q), by simpa using c0', by simpa using c1', HSY, Lib.hid (by rw [← HO.out, insOuter_go _ _ _ _ _ hlt, ← HI.out, insInner_stop _ _ _ _ (.inr HBV.out)])⟩
        · have t2 : decide ((a : Int) < (j : Int)) = false := decide_eq_false (by omega)
          go_wp2
          go_roundg ko
          case measure => omega
          case rel => exact ⟨i + 1, y, by go_num, by omega, by omega, by omega, HY, c0', c1', HSY, Lib.hid (by rw [← HO.out, insOuter_go _ _ _ _ _ hlt, ← HI.out, insInner_stop _ _ _ _ (.inl (by omega))])⟩
    · have t1 : decide ((i : Int) < (b : Int)) = false := decide_eq_false (by omega)
      go_wp2
      go_end0
      have e1 : insertionSort (ltK K) d a b = x := by unfold insertionSort; rw [← HO.out, insOuter_stop _ _ _ _ _ hlt]
      rw [e1]
      exact ⟨rfl, HX.out⟩
end Go.Proofs.Ytgcefofmfeghmaa.St
/- sort.stable_func: blocks of 20, merged two and two. -/
namespace Go.Proofs.Ytgcefofmfeghmaa.St
open Go.Shelf Go.RowKit Go.Lib Go.Sort
set_option linter.unusedVariables false
set_option linter.unusedSimpArgs false
variable {enc : Int → Value}

def Asc (d : Array Int) : Prop := ∀ i j, i < j → j < d.size → d[i]! < d[j]!
/-- a part is in order, and has what lay there at first -/
def Good (K : Int → Int) (d y : Array Int) (lo hi : Nat) : Prop := Sorted K lo hi y ∧ ∀ k, lo ≤ k → k < hi → ∃ k', lo ≤ k' ∧ k' < hi ∧ y[k]! = d[k']!

theorem Good.congr {K : Int → Int} {d y y' : Array Int} {lo hi : Nat} (h : Good K d y lo hi) (he : ∀ k, lo ≤ k → k < hi → y'[k]! = y[k]!) : Good K d y' lo hi :=
  ⟨fun i j h1 h2 h3 => by rw [he i h1 (by omega), he j (by omega) h3]; exact h.1 i j h1 h2 h3, fun k h1 h2 => by rw [he k h1 h2]; exact h.2 k h1 h2⟩
theorem Good.empty {K : Int → Int} {d y : Array Int} {lo hi : Nat} (h : hi ≤ lo) : Good K d y lo hi := ⟨fun i j h1 h2 h3 => by omega, fun k h1 h2 => by omega⟩

theorem ins_good (K : Int → Int) (d y : Array Int) (a b : Nat) (hd : Asc d) (hs : y.size = d.size) (hab : a ≤ b) (hb : b ≤ d.size) (he : ∀ k, a ≤ k → k < b → y[k]! = d[k]!) :
    PermIn a b y (insertionSort (ltK K) y a b) ∧ Good K d (insertionSort (ltK K) y a b) a b := by
  obtain ⟨h1, h2⟩ := ins_sorted K y a b hab (by omega) (fun p q q1 q2 q3 => by rw [he p q1 (by omega), he q (by omega) q3]; exact hd p q q2 (by omega))
  refine ⟨h1, h2, fun k q1 q2 => ?_⟩
  obtain ⟨j, e1, e2, e3⟩ := PermIn.from h1 (by omega) q1 q2
  exact ⟨j, e1, e2, by rw [← e3, he j e1 e2]⟩

theorem good_cross {K : Int → Int} {d y : Array Int} {a m b : Nat} (hd : Asc d) (hb : b ≤ d.size) (h1 : Good K d y a m) (h2 : Good K d y m b) : Cross a m b y := by
  intro i j q1 q2 q3 q4
  obtain ⟨i', a1, a2, a3⟩ := h1.2 i q1 q2
  obtain ⟨j', b1, b2, b3⟩ := h2.2 j q3 q4
  rw [a3, b3]
  have := hd i' j' (by omega) (by omega)
  omega
theorem good_merge {K : Int → Int} {d y y' : Array Int} {a m b : Nat} (ham : a ≤ m) (hmb : m ≤ b) (hb : b ≤ y.size) (h1 : Good K d y a m) (h2 : Good K d y m b) (hp : PermIn a b y y') (hs : Sorted K a b y') : Good K d y' a b := by
  refine ⟨hs, fun k q1 q2 => ?_⟩
  obtain ⟨j, e1, e2, e3⟩ := PermIn.from hp hb q1 q2
  rcases Nat.lt_or_ge j m with c | c
  · obtain ⟨k', f1, f2, f3⟩ := h1.2 j e1 c
    exact ⟨k', f1, by omega, by rw [← e3, f3]⟩
  · obtain ⟨k', f1, f2, f3⟩ := h2.2 j c e2
    exact ⟨k', by omega, f2, by rw [← e3, f3]⟩

/-- a block of so many from p on -/
def Lv (K : Int → Int) (d y : Array Int) (bs p : Nat) : Prop := Good K d y p (min (p + bs) d.size)
theorem dvd_step {n p q : Nat} (h1 : n ∣ p) (h2 : n ∣ q) (h : p < q) : p + n ≤ q := by
  obtain ⟨x, rfl⟩ := h1
  obtain ⟨y, rfl⟩ := h2
  have : x < y := by
    rcases Nat.lt_or_ge x y with c | c
    · exact c
    · have := Nat.mul_le_mul_left n c; omega
  have := Nat.mul_le_mul_left n (Nat.succ_le_of_lt this)
  rw [Nat.mul_succ] at this
  exact this

set_option maxRecDepth 100000 in
set_option maxHeartbeats 8000000 in
theorem stable_calls (K : Int → Int) (g : Nat) (lb : Array Value) (sf : Nat) (sb : Array Value) (blk off : Nat) (d : Array Int) (W : World) (hH : Holds enc W blk off d) (hblk : blk < W.heap.size)
    (eg : ∀ args w, (callFunc g args).run Try.prog w = .ok (.enter g args) w) (hless : LessReads Try.prog g lb enc (ltK K) blk off d.size W) (hswap : SwapSwaps Try.prog sf sb enc blk off d.size) (hsz : d.size < 1000000) (hd : Asc d) :
    Calls Try.prog 37 #[dat g lb sf sb, .int .i64 (d.size : Int)] W fun e w' => e = .returned (.tuple #[]) ∧ ∃ d', SW enc W blk off d' w' ∧ PermIn 0 d.size d d' ∧ Sorted K 0 d.size d' := by
  have HH := Lib.hid hH
  have HD := Lib.hid hd
  have HIN := Lib.hid (fun (x : Array Int) (w : World) (hx : SW enc W blk off x w) (hxs : x.size = d.size) (a b : Nat) (h1 : a ≤ b) (h2 : b ≤ d.size) => ins_calls K g lb sf sb blk off x w (hx.holds hblk hH hxs) (hx.lt hblk) eg (by rw [hxs]; exact SW.lessReads hx hless hblk hxs) (by rw [hxs]; exact hswap) (by omega) a b h1 (by omega))
  have HSM := Lib.hid (fun (x : Array Int) (w : World) (hx : SW enc W blk off x w) (hxs : x.size = d.size) (a m b : Nat) (h1 : a < m) (h2 : m < b) (h3 : b ≤ d.size) (s1 : Sorted K a m x) (s2 : Sorted K m b x) (s3 : Cross a m b x) => sm_any K g lb sf sb blk off eg (b - a) x w (hx.holds hblk hH hxs) (hx.lt hblk) (by rw [hxs]; exact SW.lessReads hx hless hblk hxs) (by rw [hxs]; exact hswap) (by omega) a m b h1 h2 (by omega) (Nat.le_refl _) s1 s2 s3)
  clear hH hswap hless hd eg
  obtain ⟨n, hn⟩ : ∃ n, n = d.size := ⟨_, rfl⟩
  have HN := Lib.hid hn
  have hnb : n < 1000000 := by omega
  rw [← hn]
  have hn1 : n ≤ d.size := by omega
  have hn2 : d.size ≤ n := by omega
  clear hn
  go_enter Try.func37, Try.ntmps37
  go_wp2
  obtain ⟨W1, hW1⟩ : ∃ W1, W1 = W.alloc (.cells #[.func (.func g) #[] lb, .func (.func sf) #[] sb] 70) := ⟨_, rfl⟩
  have H1 : Hid (SW enc W blk off d W1) := Lib.hid (by rw [hW1]; exact (SW.start HH.out).alloc _)
  have hc1 : W1.cell? ⟨W.heap.size, 1, none⟩ = some (.func (.func sf) #[] sb) := by rw [hW1]; simp
  have hc0 : W1.cell? ⟨W.heap.size, 0, none⟩ = some (.func (.func g) #[] lb) := by rw [hW1]; simp
  have hz1 : W.heap.size < W1.heap.size := by rw [hW1]; simp
  rw [← hW1]
  clear hW1
  go_loopg [5, 6] (n + 1) (fun k v5 v6 wr => ∃ (a b : Nat) (x : Array Int), v5 = .int .i64 (a : Int) ∧ v6 = .int .i64 (b : Int) ∧ b = a + 20 ∧ a ≤ n ∧ n + 1 ≤ k + a ∧ 20 ∣ a ∧ Hid (SW enc W blk off x wr) ∧ wr.cell? ⟨W.heap.size, 0, none⟩ = some (.func (.func g) #[] lb) ∧ wr.cell? ⟨W.heap.size, 1, none⟩ = some (.func (.func sf) #[] sb) ∧ W.heap.size < wr.heap.size ∧ Hid (PermIn 0 d.size d x) ∧ Hid (∀ p, 20 ∣ p → p + 20 ≤ a → Lv K d x 20 p) ∧ Hid (∀ k, a ≤ k → x[k]! = d[k]!))
  case atStart => exact ⟨0, 20, d, rfl, rfl, rfl, by omega, by omega, by omega, H1, hc0, hc1, hz1, Lib.hid (permIn_refl _ _ _), Lib.hid (fun p _ _ => by omega), Lib.hid (fun _ _ => rfl)⟩
  case round =>
    obtain ⟨a, b, x, rfl, rfl, hb, han, hk, hda, HX, c0, c1, hwz, HP, HG, HE⟩ := hrel
    have HDA := Lib.hid hda
    have HBE := Lib.hid hb
    have hb1 : b ≤ a + 20 := by omega
    have hb2 : a + 20 ≤ b := by omega
    clear hda hb
    by_cases hlt : b ≤ n
    · have t1 : decide ((b : Int) ≤ (n : Int)) = true := decide_eq_true (by omega)
      have HC := Lib.hid (HIN.out x wr HX.out HP.out.1 a b (by omega) (by omega))
      obtain ⟨ko, rfl⟩ : ∃ ko, gk = ko + 1 := ⟨gk - 1, by omega⟩
      obtain ⟨g1, g2⟩ := ins_good K d x a b HD.out HP.out.1 (by omega) (by omega) (fun k h1 h2 => HE.out k h1)
      have G1 := Lib.hid g1
      have G2 := Lib.hid g2
      clear g1 g2
      go_wp2_with (first | (go_at_call 51; refine HC.out.mono ?_; rintro e_ w2 ⟨rfl, hx2⟩; have HX2 := Lib.hid hx2; clear hx2))
      have hw2 := HX2.out.le
      have hc0n : w2.cell? ⟨W.heap.size, 0, none⟩ = some (.func (.func g) #[] lb) := by rw [SW.cell HX2.out (by show W.heap.size ≠ blk; omega) (by show W.heap.size < wr.heap.size; omega)]; exact c0
      have hc1n : w2.cell? ⟨W.heap.size, 1, none⟩ = some (.func (.func sf) #[] sb) := by rw [SW.cell HX2.out (by show W.heap.size ≠ blk; omega) (by show W.heap.size < wr.heap.size; omega)]; exact c1
      go_roundg ko
      case measure => omega
      case rel => exact ⟨b, b + 20, insertionSort (ltK K) x a b, rfl, by go_num, rfl, hlt, by omega, by have := HDA.out; omega, Lib.hid (SW.trans HX.out HX2.out hblk G1.out.1), hc0n, hc1n, by omega, Lib.hid (permIn_trans _ _ _ _ _ HP.out (permIn_mono _ _ _ _ _ _ (Nat.zero_le _) (by omega) (by rw [HP.out.1]; exact Nat.le_refl _) G1.out)), Lib.hid (fun p hp1 hp2 => by
          have hda := HDA.out
          unfold Lv
          rw [Nat.min_eq_left (by omega)]
          rcases Nat.lt_or_ge p a with c | c
          · have := HG.out p hp1 (by omega)
            unfold Lv at this
            rw [Nat.min_eq_left (by omega)] at this
            exact this.congr (fun k h1 h2 => G1.out.2.1 k (.inl (by omega)))
          · obtain rfl : p = a := by omega
            rw [← HBE.out]
            exact G2.out), Lib.hid (fun k h1 => by rw [G1.out.2.1 k (.inr h1)]; exact HE.out k (by omega))⟩
    · have t1 : decide ((b : Int) ≤ (n : Int)) = false := decide_eq_false (by omega)
      have HC := Lib.hid (HIN.out x wr HX.out HP.out.1 a n han hn1)
      obtain ⟨g1, g2⟩ := ins_good K d x a n HD.out HP.out.1 han hn1 (fun k h1 h2 => HE.out k h1)
      have G1 := Lib.hid g1
      have LV : Hid (∀ p, 20 ∣ p → Lv K d (insertionSort (ltK K) x a n) 20 p) := Lib.hid (fun p hp1 => by
        have hda := HDA.out
        unfold Lv
        rcases Nat.lt_or_ge p a with c | c
        · rw [Nat.min_eq_left (by omega)]
          have := HG.out p hp1 (by omega)
          unfold Lv at this
          rw [Nat.min_eq_left (by omega)] at this
          exact this.congr (fun k h1 h2 => g1.2.1 k (.inl (by omega)))
        · rcases Nat.lt_or_ge a p with c' | c'
          · exact Good.empty (by omega)
          · obtain rfl : p = a := by omega
            rw [show min (p + 20) d.size = n by omega]
            exact g2)
      have HP2 : Hid (PermIn 0 d.size d (insertionSort (ltK K) x a n)) := Lib.hid (permIn_trans _ _ _ _ _ HP.out (permIn_mono _ _ _ _ _ _ (Nat.zero_le _) (by omega) (by rw [HP.out.1]; exact Nat.le_refl _) g1))
      clear g1 g2 HG HE
      obtain ⟨y0, hy0⟩ : ∃ y0, y0 = insertionSort (ltK K) x a n := ⟨_, rfl⟩
      rw [← hy0] at LV HP2 HC G1
      clear hy0
      go_wp2_with (first | (go_at_call 51; refine HC.out.mono ?_; rintro e_ w2 ⟨rfl, hx2⟩; have HX2 := Lib.hid hx2; clear hx2))
      have hw2 := HX2.out.le
      have hc0n : w2.cell? ⟨W.heap.size, 0, none⟩ = some (.func (.func g) #[] lb) := by rw [SW.cell HX2.out (by show W.heap.size ≠ blk; omega) (by show W.heap.size < wr.heap.size; omega)]; exact c0
      have hc1n : w2.cell? ⟨W.heap.size, 1, none⟩ = some (.func (.func sf) #[] sb) := by rw [SW.cell HX2.out (by show W.heap.size ≠ blk; omega) (by show W.heap.size < wr.heap.size; omega)]; exact c1
      have HXT := Lib.hid (SW.trans HX.out HX2.out hblk G1.out.1)
      have hwz2 : W.heap.size < w2.heap.size := by omega
      clear HX HX2 HC G1 hw2 c0 c1 hwz HP HDA t1 hlt
      go_loopg [4, 5, 6, 7] n (fun k v4 v5 v6 v7 wr => ∃ (bs : Nat) (y : Array Int), v4 = .int .i64 (bs : Int) ∧ 20 ≤ bs ∧ bs ≤ 2000000 ∧ n ≤ k + bs ∧ Hid (SW enc W blk off y wr) ∧ wr.cell? ⟨W.heap.size, 0, none⟩ = some (.func (.func g) #[] lb) ∧ wr.cell? ⟨W.heap.size, 1, none⟩ = some (.func (.func sf) #[] sb) ∧ W.heap.size < wr.heap.size ∧ Hid (PermIn 0 d.size d y) ∧ Hid (∀ p, bs ∣ p → Lv K d y bs p))
      case atStart => exact ⟨20, y0, rfl, by omega, by omega, by omega, HXT, hc0n, hc1n, hwz2, HP2, LV⟩
      case round =>
        obtain ⟨bs, y, rfl, hbs1, hbs2, hk2, HY, c0, c1, hwz, HP, HL⟩ := hrel
        by_cases hlt : bs < n
        · have t1 : decide ((bs : Int) < (n : Int)) = true := decide_eq_true (by omega)
          obtain ⟨ko, rfl⟩ : ∃ ko, gk = ko + 1 := ⟨gk - 1, by omega⟩
          go_wp2
          go_loopg [5, 6] (n + 1) (fun k v5 v6 wr => ∃ (a b : Nat) (z : Array Int), v5 = .int .i64 (a : Int) ∧ v6 = .int .i64 (b : Int) ∧ a + 2 * bs ≤ b ∧ b ≤ a + 2 * bs ∧ a ≤ n ∧ n + 1 ≤ k + a ∧ Hid (2 * bs ∣ a) ∧ Hid (SW enc W blk off z wr) ∧ wr.cell? ⟨W.heap.size, 0, none⟩ = some (.func (.func g) #[] lb) ∧ wr.cell? ⟨W.heap.size, 1, none⟩ = some (.func (.func sf) #[] sb) ∧ W.heap.size < wr.heap.size ∧ Hid (PermIn 0 d.size d z) ∧ Hid (∀ p, 2 * bs ∣ p → p + 2 * bs ≤ a → Lv K d z (2 * bs) p) ∧ Hid (∀ p, bs ∣ p → a ≤ p → Lv K d z bs p))
          case atStart => exact ⟨0, 2 * bs, y, rfl, by go_num, by omega, by omega, by omega, by omega, Lib.hid ⟨0, rfl⟩, HY, c0, c1, hwz, HP, Lib.hid (fun p _ _ => by omega), Lib.hid (fun p h _ => HL.out p h)⟩
          case round =>
            obtain ⟨a, b, z, rfl, rfl, hb1, hb2, han, hk3, HDA, HZ, c0', c1', hwz', HPZ, HG2, HG1⟩ := hrel
            have DV := Lib.hid (show bs ∣ a ∧ bs ∣ a + bs from by
              have h0 : bs ∣ a := Nat.dvd_trans (Nat.dvd_mul_left bs 2) HDA.out
              exact ⟨h0, Nat.dvd_add h0 (Nat.dvd_refl _)⟩)
            have GA := Lib.hid (HG1.out a DV.out.1 (Nat.le_refl _))
            have GB := Lib.hid (HG1.out (a + bs) DV.out.2 (by omega))
            by_cases hlt2 : b ≤ n
            · have t2 : decide ((b : Int) ≤ (n : Int)) = true := decide_eq_true (by omega)
              obtain ⟨ka, rfl⟩ : ∃ ka, gk = ka + 1 := ⟨gk - 1, by omega⟩
              have ga : Good K d z a (a + bs) := by have := GA.out; unfold Lv at this; rwa [Nat.min_eq_left (by omega)] at this
              have gb : Good K d z (a + bs) b := by have := GB.out; unfold Lv at this; rwa [show min (a + bs + bs) d.size = b by omega] at this
              have HC := Lib.hid (HSM.out z wr HZ.out HPZ.out.1 a (a + bs) b (by omega) (by omega) (by omega) ga.1 gb.1 (good_cross HD.out (by omega) ga gb))
              rw [show ((a + bs : Nat) : Int) = (a : Int) + (bs : Int) by omega] at HC
              have GA' := Lib.hid ga
              have GB' := Lib.hid gb
              clear ga gb
              go_wp2_with (first | (go_at_call 52; refine HC.out.mono ?_; rintro e_ w2 ⟨rfl, z2, hz2, hp2, hs2⟩; have HZ2 := Lib.hid hz2; have HPZ2 := Lib.hid hp2; have HS2 := Lib.hid hs2; clear hz2 hp2 hs2))
              have hw2 := HZ2.out.le
              have hc0n : w2.cell? ⟨W.heap.size, 0, none⟩ = some (.func (.func g) #[] lb) := by rw [SW.cell HZ2.out (by show W.heap.size ≠ blk; omega) (by show W.heap.size < wr.heap.size; omega)]; exact c0'
              have hc1n : w2.cell? ⟨W.heap.size, 1, none⟩ = some (.func (.func sf) #[] sb) := by rw [SW.cell HZ2.out (by show W.heap.size ≠ blk; omega) (by show W.heap.size < wr.heap.size; omega)]; exact c1'
              go_roundg ka
              case measure => omega
              case rel => exact ⟨b, b + 2 * bs, z2, rfl, by go_num, by omega, by omega, hlt2, by omega, Lib.hid (by rw [show b = a + 2 * bs by omega]; exact Nat.dvd_add HDA.out (Nat.dvd_refl _)), Lib.hid (SW.trans HZ.out HZ2.out hblk HPZ2.out.1), hc0n, hc1n, by omega, Lib.hid (permIn_trans _ _ _ _ _ HPZ.out (permIn_mono _ _ _ _ _ _ (Nat.zero_le _) (by omega) (by rw [HPZ.out.1]; exact Nat.le_refl _) HPZ2.out)), Lib.hid (fun p hp1 hp2 => by
                  unfold Lv
                  rw [Nat.min_eq_left (by omega)]
                  rcases Nat.lt_or_ge p a with c | c
                  · have h5 := dvd_step hp1 HDA.out c
                    have := HG2.out p hp1 h5
                    unfold Lv at this
                    rw [Nat.min_eq_left (by omega)] at this
                    exact this.congr (fun k h1 h2 => HPZ2.out.2.1 k (.inl (by omega)))
                  · obtain rfl : p = a := by omega
                    rw [show p + 2 * bs = b by omega]
                    exact good_merge (by omega) (by omega) (by rw [HPZ.out.1]; omega) GA'.out GB'.out HPZ2.out HS2.out), Lib.hid (fun p hp1 hp2 => by
                  have := HG1.out p hp1 (by omega)
                  unfold Lv at *
                  exact this.congr (fun k h1 h2 => HPZ2.out.2.1 k (.inr (by omega))))⟩
            · have t2 : decide ((b : Int) ≤ (n : Int)) = false := decide_eq_false (by omega)
              by_cases hm : a + bs < n
              · have t3 : decide ((a : Int) + (bs : Int) < (n : Int)) = true := decide_eq_true (by omega)
                have ga : Good K d z a (a + bs) := by have := GA.out; unfold Lv at this; rwa [Nat.min_eq_left (by omega)] at this
                have gb : Good K d z (a + bs) n := by have := GB.out; unfold Lv at this; rwa [show min (a + bs + bs) d.size = n by omega] at this
                have HC := Lib.hid (HSM.out z wr HZ.out HPZ.out.1 a (a + bs) n (by omega) hm hn1 ga.1 gb.1 (good_cross HD.out hn1 ga gb))
                rw [show ((a + bs : Nat) : Int) = (a : Int) + (bs : Int) by omega] at HC
                have GA' := Lib.hid ga
                have GB' := Lib.hid gb
                clear ga gb
                go_wp2_with (first | (go_at_call 52; refine HC.out.mono ?_; rintro e_ w2 ⟨rfl, z2, hz2, hp2, hs2⟩; have HZ2 := Lib.hid hz2; have HPZ2 := Lib.hid hp2; have HS2 := Lib.hid hs2; clear hz2 hp2 hs2))
                have hw2 := HZ2.out.le
                have hc0n : w2.cell? ⟨W.heap.size, 0, none⟩ = some (.func (.func g) #[] lb) := by rw [SW.cell HZ2.out (by show W.heap.size ≠ blk; omega) (by show W.heap.size < wr.heap.size; omega)]; exact c0'
                have hc1n : w2.cell? ⟨W.heap.size, 1, none⟩ = some (.func (.func sf) #[] sb) := by rw [SW.cell HZ2.out (by show W.heap.size ≠ blk; omega) (by show W.heap.size < wr.heap.size; omega)]; exact c1'
                go_roundg ko
                case measure => omega
                case rel => exact ⟨2 * bs, z2, by go_num, by omega, by omega, by omega, Lib.hid (SW.trans HZ.out HZ2.out hblk HPZ2.out.1), hc0n, hc1n, by omega, Lib.hid (permIn_trans _ _ _ _ _ HPZ.out (permIn_mono _ _ _ _ _ _ (Nat.zero_le _) hn1 (by rw [HPZ.out.1]; exact Nat.le_refl _) HPZ2.out)), Lib.hid (fun p hp1 => by
                    rcases Nat.lt_or_ge p a with c | c
                    · have h5 := dvd_step hp1 HDA.out c
                      have := HG2.out p hp1 h5
                      unfold Lv at *
                      exact this.congr (fun k h1 h2 => HPZ2.out.2.1 k (.inl (by omega)))
                    · unfold Lv
                      rcases Nat.lt_or_ge a p with c' | c'
                      · have h5 := dvd_step HDA.out hp1 c'
                        exact Good.empty (by omega)
                      · obtain rfl : p = a := by omega
                        rw [show min (p + 2 * bs) d.size = n by omega]
                        exact good_merge (by omega) (by omega) (by rw [HPZ.out.1]; exact hn1) GA'.out GB'.out HPZ2.out HS2.out)⟩
              · have t3 : decide ((a : Int) + (bs : Int) < (n : Int)) = false := decide_eq_false (by omega)
                go_wp2
                go_roundg ko
                case measure => omega
                case rel => exact ⟨2 * bs, z, by go_num, by omega, by omega, by omega, HZ, c0', c1', hwz', HPZ, Lib.hid (fun p hp1 => by
                    rcases Nat.lt_or_ge p a with c | c
                    · have h5 := dvd_step hp1 HDA.out c
                      exact HG2.out p hp1 h5
                    · unfold Lv
                      rcases Nat.lt_or_ge a p with c' | c'
                      · have h5 := dvd_step HDA.out hp1 c'
                        exact Good.empty (by omega)
                      · obtain rfl : p = a := by omega
                        have := GA.out
                        unfold Lv at this
                        rwa [show min (p + 2 * bs) d.size = min (p + bs) d.size by omega])⟩
        · have t1 : decide ((bs : Int) < (n : Int)) = false := decide_eq_false (by omega)
          have FIN := Lib.hid (show Sorted K 0 n y from by
            have := (HL.out 0 ⟨0, rfl⟩)
            unfold Lv at this
            rw [show min (0 + bs) d.size = n by omega] at this
            exact this.1)
          go_wp2
          go_end0
          refine ⟨rfl, y, HY.out, ?_, ?_⟩
          · rw [HN.out]; exact HP.out
          · first | exact FIN.out | (rw [HN.out] at FIN; exact FIN.out)
end Go.Proofs.Ytgcefofmfeghmaa.St
/- sort.SliceStable, over whole numbers that ascend -/
namespace Go.Proofs.Ytgcefofmfeghmaa.St
open Go.Shelf Go.RowKit Go.Lib Go.Sort
set_option linter.unusedVariables false
set_option linter.unusedSimpArgs false
variable {enc : Int → Value}

theorem inf22 : ∃ i, Try.prog.info? 22 = some i ∧ i.desc = .slice 3 := Option.map_eq_some_iff.1 (show (Try.prog.info? 22).map (·.desc) = some (.slice 3) by kernel_rfl)
theorem inf3 : ∃ i, Try.prog.info? 3 = some i ∧ i.size = 1 ∧ i.bytes = 8 ∧ i.hasPointers = false := by
  obtain ⟨i, h1, h2⟩ := Option.map_eq_some_iff.1 (show (Try.prog.info? 3).map (fun i => (i.size, i.bytes, i.hasPointers)) = some (1, 8, false) by kernel_rfl)
  simp only [Prod.mk.injEq] at h2
  exact ⟨i, h1, h2.1, h2.2.1, h2.2.2⟩
theorem kd3 : ∀ w, (Extern.Rtype.kind 3).run Try.prog w = .ok 2 w := fun w => by kernel_rfl
theorem agg3 : ∀ w, (isAgg 3).run Try.prog w = .ok false w := fun w => by kernel_rfl
theorem sw5 : Try.prog.funcs.findIdx? (·.name == "internal/reflectlite" ++ ".Swapper$" ++ toString 5) = some 46 := by kernel_rfl
theorem sw1 : Try.prog.funcs.findIdx? (·.name == "internal/reflectlite" ++ ".Swapper$" ++ toString 1) = some 42 := by kernel_rfl
theorem sw2 : Try.prog.funcs.findIdx? (·.name == "internal/reflectlite" ++ ".Swapper$" ++ toString 2) = some 43 := by kernel_rfl
theorem sw_ext : ∀ args W, (callFunc 46 args).run Try.prog W = ((Extern.ReflectliteSwapper.swap true args).run Try.prog W).andThen fun v w' => .ok (.value v) w' :=
  run_callFunc_extern Try.func46 (by kernel_rfl) (by kernel_rfl) (by kernel_rfl) (e := Extern.ReflectliteSwapper.swap true) (by kernel_rfl)

def stWorld (gs : Nat) (p : Option Addr) (n c : Nat) (w : World) : World :=
  (w.alloc (.cells #[.slice p n c] 22)).alloc (.cells #[.pointer (some ⟨gs, 22, none⟩), .pointer (some ⟨w.heap.size, 0, none⟩), .int .u64 151] 64)

set_option maxHeartbeats 4000000 in
set_option maxRecDepth 100000 in
theorem ss_of (p : Option Addr) (n c : Nat) (k f : Nat) (hk : ∀ ie, Try.prog.info? 3 = some ie → swapperK n ie 2 = k) (hf : Try.prog.funcs.findIdx? (·.name == "internal/reflectlite" ++ ".Swapper$" ++ toString k) = some f) (lf : Fn) (la lb : Array Value) (w : World) (R : World → Prop)
    (hp : Calls Try.prog 37 #[.agg #[.func lf la lb, .func (.func f) #[] (if k ≤ 2 then #[] else #[.slice p n c, typeHandle Try.prog 3])], .int .i64 n] (stWorld 1 p n c w) fun e w' => e = .returned (.tuple #[]) ∧ R w') :
    Calls Try.prog 31 #[.iface 22 (.slice p n c), .func lf la lb] w fun e w' => e = .returned (.tuple #[]) ∧ R w' := by
  obtain ⟨i, hi, hd⟩ := inf22
  obtain ⟨ie, hie, -⟩ := inf3
  have hk' := hk ie hie
  have hv := run_valueOf_slice (P := Try.prog) 22 3 i hi hd p n c w
  have hs := fun w => run_swapper_slice (P := Try.prog) 22 3 i ie hi hd hie 2 kd3 p n c f (by rw [hk']; exact hf) w
  have hl := fun a w ha => run_valueLen_slice (P := Try.prog) 22 3 i hi hd (by kernel_rfl) a p n c w ha
  rw [hk'] at hs
  unfold stWorld at hp
  generalize (if k ≤ 2 then (#[] : Array Value) else #[.slice p n c, typeHandle Try.prog 3]) = B at hs hp
  have hgs : Try.prog.globals.size = 1 := by kernel_rfl
  simp only [typeHandle, hgs] at hv hl
  clear hgs
  have HP := Lib.hid hp
  have HV := Lib.hid hv
  have HS := Lib.hid hs
  have HLn := Lib.hid hl
  clear hk hk' hp hv hs hl hi hd hie hf
  go_enter Try.func31, Try.ntmps31
  go_wp2
  rw [run_callFunc_extern Try.func35 (by kernel_rfl) (by kernel_rfl) (by kernel_rfl) (e := fun args => Extern.ReflectliteValue.unpack (args.getD 0 (.tuple #[]))) (by kernel_rfl),
    show Sem.run Try.prog ((fun args : Array Value => Extern.ReflectliteValue.unpack (args.getD 0 (.tuple #[]))) #[.iface 22 (.slice p n c)]) w = _ from HV.out]
  simp only [Result.andThen]
  rw [Oper.upon_value]
  go_wp2
  rw [run_callFunc_extern Try.func36 (by kernel_rfl) (by kernel_rfl) (by kernel_rfl) (e := Extern.ReflectliteSwapper.swapper "internal/reflectlite" (Extern.ReflectliteValue.valueError "Swapper")) (by kernel_rfl), HS.out]
  simp only [Result.andThen]
  rw [Oper.upon_value]
  go_wp2
  rw [run_callFunc_extern Try.func38 (by kernel_rfl) (by kernel_rfl) (by kernel_rfl) (e := Extern.ReflectliteValue.method (Extern.ReflectliteValue.valueError "reflectlite.Value.Len" 0) Extern.ReflectliteValue.len) (by kernel_rfl),
    HLn.out _ _ (by simp)]
  simp only [Result.andThen]
  rw [Oper.upon_value]
  go_wp2_with (go_at_call 37; refine HP.out.mono ?_; rintro e w' ⟨rfl, hR⟩; have HR := Lib.hid hR; clear hR)
  go_end0
  exact ⟨rfl, HR.out⟩

theorem ins_none (lf : Fn) (la lb : Array Value) (f : Nat) (sb : Array Value) (n : Nat) (hn : n ≤ 1) (w : World) : Calls Try.prog 51 #[.agg #[.func lf la lb, .func (.func f) #[] sb], .int .i64 0, .int .i64 n] w fun e w' => e = .returned (.tuple #[]) ∧ w' = w.alloc (.cells #[.func lf la lb, .func (.func f) #[] sb] 70) := by
  have t : decide ((1 : Int) < (n : Int)) = false := decide_eq_false (by omega)
  go_enter Try.func51, Try.ntmps51
  go_wp2
  refine wp_loop_rounds 1 ?_
  rw [rounds_succ]
  go_wp2
  go_end0
  exact ⟨rfl, rfl⟩
set_option maxRecDepth 100000 in
theorem stable_tiny (lf : Fn) (la lb : Array Value) (f : Nat) (sb : Array Value) (n : Nat) (hn : n ≤ 1) (w : World) : Calls Try.prog 37 #[.agg #[.func lf la lb, .func (.func f) #[] sb], .int .i64 n] w fun e w' => e = .returned (.tuple #[]) ∧ ∃ o1 o2, w' = (w.alloc o1).alloc o2 := by
  have t : decide ((20 : Int) ≤ (n : Int)) = false := decide_eq_false (by omega)
  have t2 : decide ((20 : Int) < (n : Int)) = false := decide_eq_false (by omega)
  have HI := Lib.hid (ins_none lf la lb f sb n hn)
  go_enter Try.func37, Try.ntmps37
  go_wp2
  refine wp_loop_rounds 1 ?_
  rw [rounds_succ]
  go_wp2_with (go_at_call 51; refine (HI.out _).mono ?_; rintro e w1 ⟨rfl, rfl⟩)
  refine wp_loop_rounds 1 ?_
  rw [rounds_succ]
  go_wp2
  go_end0
  exact ⟨rfl, _, _, rfl⟩

theorem kd_of (n k : Nat) (h : (if n = 0 then 1 else if n = 1 then 2 else 5) = k) : ∀ ie, Try.prog.info? 3 = some ie → swapperK n ie 2 = k := by
  intro ie hie
  obtain ⟨ie', hie', h1, h2, h3⟩ := inf3
  rw [hie'] at hie
  cases hie
  unfold swapperK
  rw [h3, h2]
  rw [← h]
  by_cases c : n = 0
  · simp [c]
  · by_cases c1 : n = 1
    · simp [c1]
    · simp [c, c1]

theorem ss_nil (w : World) (p : Option Addr) (c : Nat) (lf : Fn) (la lb : Array Value) : Calls Try.prog 31 #[.iface 22 (.slice p 0 c), .func lf la lb] w fun e w' => e = .returned (.tuple #[]) ∧ Below w.heap.size w w' := by
  refine ss_of p 0 c 1 42 (kd_of 0 1 rfl) sw1 lf la lb w _ ?_
  refine (stable_tiny lf la lb 42 _ 0 (by omega) _).mono ?_
  rintro e w' ⟨rfl, o1, o2, rfl⟩
  refine ⟨rfl, ?_⟩
  unfold stWorld
  exact ((((Below.refl _ _).alloc (Nat.le_refl _) _).alloc (by simp) _).alloc (by simp; omega) _).alloc (by simp; omega) _

theorem ss_calls (h1' : ∀ x, (enc x).oneCell' = true) (K : Int → Int) (g : Nat) (lb : Array Value) (w : World) (blk off c : Nat) (d : Array Int) (hH : Holds enc w blk off d) (hblk : blk < w.heap.size)
    (eg : ∀ args w, (callFunc g args).run Try.prog w = .ok (.enter g args) w) (hless : LessReads Try.prog g lb enc (ltK K) blk off d.size w) (h0 : 0 < d.size) (hsz : d.size < 1000000) (hd : Asc d) :
    Calls Try.prog 31 #[.iface 22 (.slice (some ⟨blk, off, none⟩) d.size c), .func (.func g) #[] lb] w fun e w' => e = .returned (.tuple #[]) ∧ ∃ d', SW enc w blk off d' w' ∧ PermIn 0 d.size d d' ∧ Sorted K 0 d.size d' := by
  have hS : SW enc w blk off d (stWorld 1 (some ⟨blk, off, none⟩) d.size c w) := by unfold stWorld; exact ((SW.start hH).alloc _).alloc _
  by_cases h1 : d.size = 1
  · refine ss_of _ d.size c 2 43 (kd_of _ 2 (by rw [h1]; rfl)) sw2 (.func g) #[] lb w _ ?_
    refine (stable_tiny (.func g) #[] lb 43 _ d.size (by omega) _).mono ?_
    rintro e w' ⟨rfl, o1, o2, rfl⟩
    exact ⟨rfl, d, (hS.alloc _).alloc _, permIn_refl _ _ _, fun i j a1 a2 a3 => by omega⟩
  · refine ss_of _ d.size c 5 46 (kd_of _ 5 (by rw [if_neg (by omega), if_neg h1])) sw5 (.func g) #[] lb w _ ?_
    obtain ⟨ie, hie, hs1, -⟩ := inf3
    refine (stable_calls K g lb 46 _ blk off d _ (hS.holds hblk hH rfl) (hS.lt hblk) eg (SW.lessReads hS hless hblk rfl)
      (swapSwaps_of_literal true 46 sw_ext 3 ie hie hs1 agg3 enc h1' blk off d.size c) hsz hd).mono ?_
    rintro e w' ⟨rfl, d', h2, h3, h4⟩
    exact ⟨rfl, d', SW.trans hS h2 hblk h3.1, h3, h4⟩
end Go.Proofs.Ytgcefofmfeghmaa.St
