import Derived.Test.YtgcefofmfeghmaaHs1
import Derived.Sort.WalkA
/- Insertion sort of an ascending row of numbers by a key is by the key and the number. -/
namespace Go.Proofs.Ytgcefofmfeghmaa.St
open Go.Sort
set_option linter.unusedVariables false

def ltK (K : Int → Int) (x y : Int) : Bool := decide (K x < K y)
def ltX (K : Int → Int) (x y : Int) : Bool := decide (K x < K y ∨ (K x = K y ∧ x < y))
theorem swo_ltX (K : Int → Int) : SWO (ltX K) where
  irrefl x := by simp [ltX]
  trans x y z h1 h2 := by simp only [ltX, decide_eq_true_eq] at *; omega
  ntrans x y z h1 h2 := by simp only [ltX, decide_eq_false_iff_not] at *; omega
theorem le_of_ltX {K : Int → Int} {x y : Int} (h : ltX K y x = false) : le K x y := by
  simp only [ltX, decide_eq_false_iff_not] at h
  unfold le
  omega
theorem lt_same {K : Int → Int} {x y : Int} (h : y < x) : ltK K x y = ltX K x y := by
  unfold ltK ltX
  congr 1
  apply propext
  omega

theorem inner_same (K : Int → Int) (a : Nat) : ∀ (j : Nat) (d : Array Int), j < d.size → (∀ p, a ≤ p → p < j → d[p]! < d[j]!) → insInner (ltK K) a j d = insInner (ltX K) a j d
  | 0, d, _, _ => by unfold insInner; rfl
  | j + 1, d, hj, h => by
    unfold insInner
    by_cases hc : j + 1 > a
    · rw [lt_same (h j (by omega) (by omega))]
      split
      · refine inner_same K a j _ (by rw [size_swp]; omega) (fun p h1 h2 => ?_)
        rw [swp_other _ _ _ _ (by omega) (by omega), swp_right _ _ _ (by omega)]
        exact h p h1 (by omega)
      · rfl
    · simp [hc]
theorem insInner_perm (lt : Int → Int → Bool) (a b : Nat) : ∀ (j : Nat) (d : Array Int), j < b → b ≤ d.size → PermIn a b d (insInner lt a j d)
  | 0, d, _, _ => by unfold insInner; exact permIn_refl _ _ _
  | j + 1, d, hj, hb => by
    unfold insInner
    split
    · rename_i hc
      simp only [Bool.and_eq_true, decide_eq_true_eq] at hc
      exact permIn_trans _ _ _ _ _ (swp_permIn d a b (j + 1) j (by omega) (by omega) (by omega) (by omega) hb) (insInner_perm lt a b j _ (by omega) (by rw [size_swp]; exact hb))
    · exact permIn_refl _ _ _
theorem outer_same (K : Int → Int) (a b : Nat) : ∀ (n i : Nat) (d : Array Int), b - i = n → b ≤ d.size → (∀ p q, a ≤ p → p < q → i ≤ q → q < b → d[p]! < d[q]!) → insOuter (ltK K) a b i d = insOuter (ltX K) a b i d
  | 0, i, d, hn, hb, h => by rw [insOuter.eq_def (ltK K), insOuter.eq_def (ltX K), if_neg (by omega), if_neg (by omega)]
  | n + 1, i, d, hn, hb, h => by
    have hib : i < b := by omega
    rw [insOuter.eq_def (ltK K), if_pos hib, inner_same K a i d (by omega) (fun p h1 h2 => h p i h1 h2 (Nat.le_refl _) hib), outer_same K a b n (i + 1) _ (by omega) ?_ ?_]
    · rw [insOuter.eq_def (ltX K) a b i, if_pos hib]
    · rw [(insInner_perm (ltX K) a (i + 1) i d (by omega) (by omega)).1]; exact hb
    · intro p q hp hpq hq hqb
      have hP := insInner_perm (ltX K) a (i + 1) i d (by omega) (by omega)
      rw [hP.2.1 q (.inr (by omega))]
      rcases Nat.lt_or_ge p (i + 1) with c | c
      · obtain ⟨p2, c1, c2, c3⟩ := PermIn.from hP (by omega) hp c
        rw [← c3]
        exact h p2 q c1 (by omega) (by omega) hqb
      · rw [hP.2.1 p (.inr c)]
        exact h p q hp hpq (by omega) hqb

theorem ins_sorted (K : Int → Int) (d : Array Int) (a b : Nat) (hab : a ≤ b) (hb : b ≤ d.size) (h : ∀ p q, a ≤ p → p < q → q < b → d[p]! < d[q]!) :
    PermIn a b d (insertionSort (ltK K) d a b) ∧ Sorted K a b (insertionSort (ltK K) d a b) := by
  have e : insertionSort (ltK K) d a b = insertionSort (ltX K) d a b := by
    unfold insertionSort
    exact outer_same K a b _ (a + 1) d rfl hb (fun p q h1 h2 h3 h4 => h p q h1 h2 h4)
  rw [e]
  obtain ⟨h1, h2⟩ := insertionSort_holds (lt := ltX K) (swo_ltX K) d a b hab hb
  exact ⟨h1, fun i j a1 a2 a3 => le_of_ltX (h2 i j a1 a2 a3)⟩
end Go.Proofs.Ytgcefofmfeghmaa.St
