/- Grow answers, for every largest, cut and width, the number that the document's Grow answers, or refuses as it does: no condition beyond 64-bit arguments. -/
import Derived.Test.YtcaagfbbpkjhlaaPPnumGrowsx1
namespace Go.Proofs.Ytcaagfbbpkjhlaa.Pure
open Go.RowKit Go.Proofs.Ytcaagfbbpkjhlaa.PPnumGrows Go.Proofs.YtcaagfbbpkjhlaaW.PrintWords Go.Proofs.YtcaagfbbpkjhlaaW.PrintLast

theorem tmod_fix (x K : Int) (hK : 0 < K) : Int.tmod (Int.tmod x K + K) K = x % K := by
  have h1 := Int.tmod_lt_of_pos x hK
  have h2 := Int.lt_tmod_of_pos x hK
  rw [Int.tmod_eq_emod_of_nonneg (by omega), Int.add_emod_right]
  by_cases h : 0 ≤ x
  · rw [Int.tmod_eq_emod_of_nonneg h, Int.emod_emod]
  · have := Int.mul_tdiv_add_tmod x K
    rw [show Int.tmod x K = x + K * (-(Int.tdiv x K)) by rw [Int.mul_neg]; omega]
    exact Int.add_mul_emod_self_left ..

/-- a width, and how many cut numbers it has -/
def KW (w K : Int) : Prop := (w = 1 ∧ K = 256) ∨ (w = 2 ∧ K = 65536) ∨ (w = 3 ∧ K = 16777216) ∨ (w = 4 ∧ K = 4294967296)

theorem KW.some {w : Int} (h1 : 1 ≤ w) (h2 : w ≤ 4) : ∃ K, KW w K := by
  have : w = 1 ∨ w = 2 ∨ w = 3 ∨ w = 4 := by omega
  rcases this with rfl | rfl | rfl | rfl
  · exact ⟨_, .inl ⟨rfl, rfl⟩⟩
  · exact ⟨_, .inr (.inl ⟨rfl, rfl⟩)⟩
  · exact ⟨_, .inr (.inr (.inl ⟨rfl, rfl⟩))⟩
  · exact ⟨_, .inr (.inr (.inr ⟨rfl, rfl⟩))⟩

theorem KW.range {w K : Int} (h : KW w K) : 1 ≤ w ∧ w ≤ 4 ∧ 256 ≤ K ∧ K ≤ 4294967296 := by
  unfold KW at h; omega

theorem w8 (w : Int) (h : 1 ≤ w) (h4 : w ≤ 4) : wrap64 (8 * w) = 8 * w := by unfold wrap64; omega

theorem shl_yes {w K : Int} (h : KW w K) : shl .i64 1 (wrap64 (8 * w)) = K := by
  rcases h with ⟨rfl, rfl⟩ | ⟨rfl, rfl⟩ | ⟨rfl, rfl⟩ | ⟨rfl, rfl⟩ <;> decide +kernel

theorem row_no (w : Int) (h : w < 1 ∨ 4 < w) : pnum_row.f w = some 0 := by
  unfold pnum_row.f
  by_cases h1 : w < 1
  · rw [if_pos h1]
  · rw [if_neg h1, if_pos (by omega)]

theorem row_yes {w K : Int} (h : KW w K) : pnum_row.f w = some K := by
  have hr := h.range
  unfold pnum_row.f
  rw [if_neg (by omega), if_neg (by omega), shl_yes h, if_pos]
  rw [w8 w (by omega) (by omega)]; omega

theorem num_yes {a : Int} (h : 0 ≤ a) (h' : a ≤ 4611686018427387903) : pnum_isNumber.f a = some true := by
  unfold pnum_isNumber.f
  rw [if_pos (by omega), decide_eq_true h']

theorem num_no {a : Int} (h : a < 0 ∨ 4611686018427387903 < a) : pnum_isNumber.f a = some false := by
  unfold pnum_isNumber.f
  by_cases g : a ≥ 0
  · rw [if_pos g, decide_eq_false (by omega)]
  · rw [if_neg g]

/-- what grows: m is the one of the window, n what comes of it -/
def GR (L c K n : Int) : Prop :=
  ∃ m, L + 1 - K / 2 + 1 ≤ m ∧ m < L + 1 - K / 2 + 1 + K ∧ (m - c) % K = 0 ∧ (m < 0 → n = m + K) ∧ (m > 4611686018427387903 → n = m - K) ∧ (0 ≤ m → m ≤ 4611686018427387903 → n = m)

theorem tdiv2 {K : Int} (h : 0 ≤ K) : Int.tdiv K 2 = K / 2 := Int.tdiv_eq_ediv_of_nonneg h

theorem grow_in (k : Nat) {L c w K : Int} (hK : KW w K) (hL : -1 ≤ L) (hL' : L ≤ 4611686018427387903) (hc : 0 ≤ c) (hc' : c < K) :
    ∃ n, pnum_Grow.j0 (k + 1) L c K false = some (n, 0) ∧ GR L c K n := by
  have hr := hK.range
  simp only [pnum_Grow.j0]
  rw [if_neg (by simp), if_neg (by omega)]
  rw [tdiv2 (by omega)]
  have e1 : wrap64 (L + 1) = L + 1 := by unfold wrap64; omega
  have e2 : wrap64 (K / 2) = K / 2 := by unfold wrap64; omega
  have e3 : wrap64 (L + 1 - K / 2) = L + 1 - K / 2 := by unfold wrap64; omega
  have e4 : wrap64 (L + 1 - K / 2 + 1) = L + 1 - K / 2 + 1 := by unfold wrap64; omega
  rw [e1, e2, e3, e4]
  have e5 : wrap64 (c - (L + 1 - K / 2 + 1)) = c - (L + 1 - K / 2 + 1) := by unfold wrap64; omega
  rw [e5]
  have h1 := Int.tmod_lt_of_pos (c - (L + 1 - K / 2 + 1)) (show 0 < K by omega)
  have h2 := Int.lt_tmod_of_pos (c - (L + 1 - K / 2 + 1)) (show 0 < K by omega)
  have e6 : wrap64 (Int.tmod (c - (L + 1 - K / 2 + 1)) K + K) = Int.tmod (c - (L + 1 - K / 2 + 1)) K + K := by unfold wrap64; omega
  rw [e6, tmod_fix _ _ (by omega)]
  have h3 := Int.emod_nonneg (c - (L + 1 - K / 2 + 1)) (show K ≠ 0 by omega)
  have h4 := Int.emod_lt_of_pos (c - (L + 1 - K / 2 + 1)) (show 0 < K by omega)
  have h5 := Int.mul_ediv_add_emod (c - (L + 1 - K / 2 + 1)) K
  generalize hr5 : (c - (L + 1 - K / 2 + 1)) % K = r at *
  have e7 : wrap64 (L + 1 - K / 2 + 1 + r) = L + 1 - K / 2 + 1 + r := by unfold wrap64; omega
  have e8 : wrap64 (L + 1 - K / 2 + 1 + r + K) = L + 1 - K / 2 + 1 + r + K := by unfold wrap64; omega
  have e9 : wrap64 (L + 1 - K / 2 + 1 + r - K) = L + 1 - K / 2 + 1 + r - K := by unfold wrap64; omega
  rw [e7, e8, e9]
  have hm : (L + 1 - K / 2 + 1 + r - c) % K = 0 := by
    rw [show L + 1 - K / 2 + 1 + r - c = K * (-((c - (L + 1 - K / 2 + 1)) / K)) by rw [Int.mul_neg]; omega]
    exact Int.mul_emod_right ..
  by_cases g : L + 1 - K / 2 + 1 + r < 0
  · rw [if_pos g]
    exact ⟨_, rfl, _, by omega, by omega, hm, fun _ => rfl, fun _ => by omega, fun _ _ => by omega⟩
  · rw [if_neg g]
    by_cases g' : L + 1 - K / 2 + 1 + r > 4611686018427387903
    · rw [if_pos g']
      exact ⟨_, rfl, _, by omega, by omega, hm, fun _ => by omega, fun _ => rfl, fun _ _ => by omega⟩
    · rw [if_neg g']
      exact ⟨_, rfl, _, by omega, by omega, hm, fun _ => by omega, fun _ => by omega, fun _ _ => rfl⟩

theorem grow_out (k : Nat) (L c K : Int) : pnum_Grow.j0 (k + 1) L c K true = some (0, 1) := by
  simp only [pnum_Grow.j0]; rw [if_pos trivial]

theorem grow_yes (k : Nat) {L c w K : Int} (hK : KW w K) (hL : -1 ≤ L) (hL' : L ≤ 4611686018427387903) (hc : 0 ≤ c) (hc' : c < K) :
    ∃ n, pnum_Grow.f (k + 1) L c w = some (n, 0) ∧ GR L c K n := by
  have hb := grow_in k hK hL hL' hc hc'
  unfold pnum_Grow.f
  rw [row_yes hK]; simp only [Option.bind_some]
  rw [decide_eq_false (by omega : ¬ c ≥ K), if_neg (by omega : ¬ c < 0)]
  by_cases h : L = -1
  · rw [if_pos h]; exact hb
  · rw [if_neg h, num_yes (by omega) (by omega)]; simp only [Option.bind_some]; rw [if_pos trivial]; exact hb

theorem grow_no (k : Nat) {L c w : Int} (h : L < -1 ∨ 4611686018427387903 < L ∨ c < 0 ∨ ∀ K, KW w K → K ≤ c) :
    pnum_Grow.f (k + 1) L c w = some (0, 1) := by
  have hrow : ∃ r, pnum_row.f w = some r ∧ (c < 0 ∨ r ≤ c ∨ L < -1 ∨ 4611686018427387903 < L) := by
    by_cases hw : 1 ≤ w ∧ w ≤ 4
    · obtain ⟨K, hK⟩ := KW.some hw.1 hw.2
      refine ⟨K, row_yes hK, ?_⟩
      rcases h with h | h | h | h
      · omega
      · omega
      · omega
      · have := h K hK; omega
    · exact ⟨0, row_no w (by omega), by omega⟩
  obtain ⟨r, hr, hc⟩ := hrow
  unfold pnum_Grow.f
  rw [hr]; simp only [Option.bind_some]
  have hd : ¬ (L < -1 ∨ 4611686018427387903 < L) → (if c < 0 then pnum_Grow.j0 (k + 1) L c r true else pnum_Grow.j0 (k + 1) L c r (decide (c ≥ r))) = some (0, 1) := by
    intro hL
    by_cases hc0 : c < 0
    · rw [if_pos hc0, grow_out]
    · rw [if_neg hc0, decide_eq_true (by omega : c ≥ r), grow_out]
  by_cases h1 : L = -1
  · rw [if_pos h1]; exact hd (by omega)
  · rw [if_neg h1]
    by_cases h2 : L < -1 ∨ 4611686018427387903 < L
    · rw [num_no (by omega)]; simp only [Option.bind_some]; rw [if_neg (by simp), grow_out]
    · rw [num_yes (by omega) (by omega)]; simp only [Option.bind_some]; rw [if_pos trivial]; exact hd h2

/-- the lower bits, by 'and' -/
theorem wraps_i64 (n : Int) (h₀ : 0 ≤ n) (h₁ : n < 2 ^ 63) : IntKind.i64.wrap n = n := by rw [IntKind.wrap_i64]; omega

theorem and_low (n : Int) (hn : 0 ≤ n) (hn' : n ≤ 4611686018427387903) {w K : Int} (h : KW w K) : Go.bits .and .i64 n (wrap64 (K - 1)) = n % K := by
  have hr := h.range
  rw [show wrap64 (K - 1) = K - 1 by unfold wrap64; omega]
  have hm := fun i hi => bits_mask .i64 63 (by decide) wraps_i64 i hi n hn (by omega)
  rcases h with ⟨_, rfl⟩ | ⟨_, rfl⟩ | ⟨_, rfl⟩ | ⟨_, rfl⟩
  · exact hm 8 (by decide)
  · exact hm 16 (by decide)
  · exact hm 24 (by decide)
  · exact hm 32 (by decide)

theorem cut_yes {n w K : Int} (hK : KW w K) (hn : 0 ≤ n) (hn' : n ≤ 4611686018427387903) : pnum_Cut.f n w = some (n % K, 0) := by
  have hr := hK.range
  unfold pnum_Cut.f
  rw [num_yes hn hn', row_yes hK]; simp only [Option.bind_some]
  rw [if_pos trivial, if_neg (by omega), and_low n hn hn' hK]

theorem cut_no {n w : Int} (h : n < 0 ∨ 4611686018427387903 < n ∨ w < 1 ∨ 4 < w) : pnum_Cut.f n w = some (0, 1) := by
  unfold pnum_Cut.f
  by_cases hn : n < 0 ∨ 4611686018427387903 < n
  · rw [num_no hn]; simp only [Option.bind_some]; rw [if_neg (by simp)]
  · rw [num_yes (by omega) (by omega), row_no w (by omega)]; simp only [Option.bind_some]; rw [if_pos trivial, if_pos trivial]

theorem alive_yes (k : Nat) : turnbucklelaw03_alive.f (k + 1) = some true := by
  unfold turnbucklelaw03_alive.f
  obtain ⟨n, h, m, h1, h2, h3, h4, h5, h6⟩ := grow_yes k (L := 2821665002) (c := 39730) (w := 2) (K := 65536) (.inr (.inl ⟨rfl, rfl⟩)) (by omega) (by omega) (by omega) (by omega)
  have hm : m = 2821692210 := by omega
  have hn : n = 2821692210 := by rw [h6 (by omega) (by omega)]; exact hm
  rw [h, cut_yes (w := 2) (K := 65536) (.inr (.inl ⟨rfl, rfl⟩)) (by omega) (by omega)]
  simp only [Option.bind_some, hn]
  rfl
theorem ref_out (k : Nat) (L c w : Int) : turnbuckleref03_Grow.j0 (k + 1) L c w true = some (0, 1) := by
  simp only [turnbuckleref03_Grow.j0]; rw [if_pos trivial]

theorem ref_no (k : Nat) {L c w : Int} (h : L < -1 ∨ 4611686018427387903 < L ∨ c < 0 ∨ ∀ K, KW w K → K ≤ c) :
    turnbuckleref03_Grow.f (k + 1) L c w = some (0, 1) := by
  unfold turnbuckleref03_Grow.f
  by_cases h1 : L < -1
  · rw [if_pos h1, ref_out]
  rw [if_neg h1]
  by_cases h2 : L > 4611686018427387903
  · rw [if_pos h2, ref_out]
  rw [if_neg h2]
  by_cases h3 : w < 1
  · rw [if_pos h3, ref_out]
  rw [if_neg h3]
  by_cases h4 : w > 4
  · rw [if_pos h4, ref_out]
  rw [if_neg h4]
  by_cases h5 : c < 0
  · rw [if_pos h5, ref_out]
  rw [if_neg h5]
  obtain ⟨K, hK⟩ := KW.some (w := w) (by omega) (by omega)
  have hKc : K ≤ c := by
    rcases h with h | h | h | h
    · omega
    · omega
    · omega
    · exact h K hK
  rw [if_pos (by rw [w8 w (by omega) (by omega)]; omega), shl_yes hK, decide_eq_true (show c ≥ K from hKc), ref_out]

theorem ref_end (k : Nat) {K x : Int} (hK : 0 < K) (hK' : K ≤ 4294967296) (hx : -4294967296 * 2 ≤ x) (hx' : x ≤ 4611686018427387903 + 4294967296 * 2) (hno : x < 0 → x + K ≤ 4611686018427387903) :
    turnbuckleref03_Grow.j1 (k + 1) K x = some (if x < 0 then x + K else if x > 4611686018427387903 then x - K else x, 0) := by
  simp only [turnbuckleref03_Grow.j1]
  have e1 : wrap64 (x + K) = x + K := by unfold wrap64; omega
  have e2 : wrap64 (x - K) = x - K := by unfold wrap64; omega
  rw [e1, e2]
  by_cases h : x < 0
  · rw [if_pos h, if_pos h, if_neg (by have := hno h; omega)]
  · rw [if_neg h, if_neg h]
    by_cases h' : x > 4611686018427387903
    · rw [if_pos h', if_pos h']
    · rw [if_neg h', if_neg h']

theorem one_of {m x p q K : Int} (hd : m - x = K * (p - q)) (hK : 0 < K) (a1 : m - x < 2 * K) (a2 : -(2 * K) < m - x) : m = x ∨ m = x + K ∨ m = x - K := by
  rw [hd] at a1 a2
  generalize p - q = d at *
  have b1 : d < 2 := Int.lt_of_mul_lt_mul_left (a := K) (by rw [Int.mul_comm K 2]; exact a1) (by omega)
  have b2 : -2 < d := Int.lt_of_mul_lt_mul_left (a := K) (by rw [Int.mul_neg, Int.mul_comm K 2]; exact a2) (by omega)
  have b3 : d = 0 ∨ d = 1 ∨ d = -1 := by omega
  rcases b3 with rfl | rfl | rfl
  · left; omega
  · right; left; omega
  · right; right; omega

theorem ref_fin (k : Nat) {L K X m n : Int} (hK : 0 < K) (hK' : K ≤ 4294967296) (b1 : L + 1 - K ≤ X) (b2 : X ≤ L + 1 + K) (hL : -1 ≤ L) (hL' : L ≤ 4611686018427387903) (hone : m = X ∨ m = X + K ∨ m = X - K)
    (w1 : L + 1 - K / 2 + 1 ≤ m) (w2 : m ≤ L + 1 + K / 2) (hev : K = 2 * (K / 2)) (hnn : n = if m < 0 then m + K else if m > 4611686018427387903 then m - K else m) :
    (if X ≤ L + 1 - K / 2 then turnbuckleref03_Grow.j1 (k + 1) K (X + K) else if X > L + 1 + K / 2 then turnbuckleref03_Grow.j1 (k + 1) K (X - K) else turnbuckleref03_Grow.j1 (k + 1) K X) = some (n, 0) := by
  generalize K / 2 = H at *
  subst hnn
  by_cases c1 : X ≤ L + 1 - H
  · obtain rfl : m = X + K := by omega
    rw [if_pos c1]
    exact ref_end k (by omega) (by omega) (by omega) (by omega) (by omega)
  · rw [if_neg c1]
    by_cases c2 : X > L + 1 + H
    · obtain rfl : m = X - K := by omega
      rw [if_pos c2]
      exact ref_end k (by omega) (by omega) (by omega) (by omega) (by omega)
    · obtain rfl : m = X := by omega
      rw [if_neg c2]
      exact ref_end k (by omega) (by omega) (by omega) (by omega) (by omega)

theorem ref_yes (k : Nat) {L c w K : Int} (hK : KW w K) (hL : -1 ≤ L) (hL' : L ≤ 4611686018427387903) (hc : 0 ≤ c) (hc' : c < K) {n : Int} (hg : GR L c K n) :
    turnbuckleref03_Grow.f (k + 1 + 1) L c w = some (n, 0) := by
  have hr := hK.range
  have hev : K = 2 * (K / 2) := by unfold KW at hK; omega
  unfold turnbuckleref03_Grow.f
  rw [if_neg (by omega), if_neg (by omega), if_neg (by omega), if_neg (by omega), if_neg (by omega), if_pos (by rw [w8 w (by omega) (by omega)]; omega), shl_yes hK, decide_eq_false (show ¬ c ≥ K by omega)]
  simp only [turnbuckleref03_Grow.j0]
  rw [if_neg (by simp), if_pos (by rw [w8 w (by omega) (by omega)]; omega), shl_yes hK, if_neg (by omega), tdiv2 (by omega)]
  have e1 : wrap64 (L + 1) = L + 1 := by unfold wrap64; omega
  have e2 : wrap64 (K / 2) = K / 2 := by unfold wrap64; omega
  have e3 : wrap64 (L + 1 - K / 2) = L + 1 - K / 2 := by unfold wrap64; omega
  have e4 : wrap64 (L + 1 + K / 2) = L + 1 + K / 2 := by unfold wrap64; omega
  rw [e1, e2, e3, e4, Int.tmod_eq_emod_of_nonneg (by omega)]
  have h3 := Int.emod_nonneg (L + 1) (show K ≠ 0 by omega)
  have h4 := Int.emod_lt_of_pos (L + 1) (show 0 < K by omega)
  have h5 := Int.mul_ediv_add_emod (L + 1) K
  generalize (L + 1) % K = r at *
  generalize hq : (L + 1) / K = q at *
  have e5 : wrap64 (L + 1 - r) = L + 1 - r := by unfold wrap64; omega
  rw [e5]
  have e6 : wrap64 (L + 1 - r + c) = L + 1 - r + c := by unfold wrap64; omega
  rw [e6]
  have e7 : wrap64 (L + 1 - r + c + K) = L + 1 - r + c + K := by unfold wrap64; omega
  have e8 : wrap64 (L + 1 - r + c - K) = L + 1 - r + c - K := by unfold wrap64; omega
  rw [e7, e8]
  obtain ⟨m, g1, g2, g3, g4, g5, g6⟩ := hg
  have g7 := Int.mul_ediv_add_emod (m - c) K
  generalize (m - c) / K = p at *
  rw [g3] at g7
  have hnn : n = if m < 0 then m + K else if m > 4611686018427387903 then m - K else m := by
    split
    · exact g4 ‹_›
    · split
      · exact g5 ‹_›
      · exact g6 (by omega) (by omega)
  have hone := one_of (x := L + 1 - r + c) (p := p) (q := q) (m := m) (K := K) (by rw [Int.mul_sub]; omega) (by omega) (by omega) (by omega)
  exact ref_fin k (X := L + 1 - r + c) (by omega) (by omega) (by omega) (by omega) hL hL' hone (by omega) (by omega) (by omega) hnn

theorem PnumGrows : turnbucklelaw03_PnumGrows.Pure := by
  intro L c w _ _ _
  refine ⟨2, ?_⟩
  unfold turnbucklelaw03_PnumGrows.f
  rw [alive_yes]
  by_cases h : L < -1 ∨ 4611686018427387903 < L ∨ c < 0 ∨ ∀ K, KW w K → K ≤ c
  · rw [grow_no 1 h, ref_no 1 h]; rfl
  · have h1 : ∃ K, KW w K ∧ c < K := by
      by_cases hh : ∃ K, KW w K ∧ c < K
      · exact hh
      · exact absurd (.inr (.inr (.inr fun K hK => by
          by_cases g : K ≤ c
          · exact g
          · exact absurd ⟨K, hK, by omega⟩ hh))) h
    obtain ⟨K, hK, hc⟩ := h1
    have hl : ¬ (L < -1 ∨ 4611686018427387903 < L ∨ c < 0) := fun g => h (by rcases g with g | g | g; exact .inl g; exact .inr (.inl g); exact .inr (.inr (.inl g)))
    obtain ⟨n, hn, hg⟩ := grow_yes 1 hK (L := L) (c := c) (by omega) (by omega) (by omega) hc
    rw [hn, ref_yes 0 hK (by omega) (by omega) (by omega) hc hg]
    simp

end Go.Proofs.Ytcaagfbbpkjhlaa.Pure
