/- With one byte fewer than Width answers a number would not grow back for all, or Width answers 1, for every number and acked number: no condition beyond 64-bit arguments. -/
import Derived.Test.YtcaagfbbpkjhlaaPPnumFewx1
namespace Go.Proofs.Ytcaagfbbpkjhlaa.Pure
open Go.RowKit Go.Proofs.Ytcaagfbbpkjhlaa.PPnumFew Go.Proofs.YtcaagfbbpkjhlaaW.PrintWords Go.Proofs.YtcaagfbbpkjhlaaW.PrintLast

theorem tmod_fix (x K : Int) (hK : 0 < K) : Int.tmod (Int.tmod x K + K) K = x % K := by
  have h1 := Int.tmod_lt_of_pos x hK
  have h2 := Int.lt_tmod_of_pos x hK
  rw [Int.tmod_eq_emod_of_nonneg (by omega), Int.add_emod_right]
  by_cases h : 0 ≤ x
  · rw [Int.tmod_eq_emod_of_nonneg h, Int.emod_emod]
  · have := Int.mul_tdiv_add_tmod x K
    rw [show Int.tmod x K = x + K * (-(Int.tdiv x K)) by rw [Int.mul_neg]; omega]
    exact Int.add_mul_emod_self_left ..

/-- a width, and how many cut numbers it has -/
def KW (w K : Int) : Prop := (w = 1 ∧ K = 256) ∨ (w = 2 ∧ K = 65536) ∨ (w = 3 ∧ K = 16777216) ∨ (w = 4 ∧ K = 4294967296)

theorem KW.some {w : Int} (h1 : 1 ≤ w) (h2 : w ≤ 4) : ∃ K, KW w K := by
  have : w = 1 ∨ w = 2 ∨ w = 3 ∨ w = 4 := by omega
  rcases this with rfl | rfl | rfl | rfl
  · exact ⟨_, .inl ⟨rfl, rfl⟩⟩
  · exact ⟨_, .inr (.inl ⟨rfl, rfl⟩)⟩
  · exact ⟨_, .inr (.inr (.inl ⟨rfl, rfl⟩))⟩
  · exact ⟨_, .inr (.inr (.inr ⟨rfl, rfl⟩))⟩

theorem KW.range {w K : Int} (h : KW w K) : 1 ≤ w ∧ w ≤ 4 ∧ 256 ≤ K ∧ K ≤ 4294967296 := by
  unfold KW at h; omega

theorem w8 (w : Int) (h : 1 ≤ w) (h4 : w ≤ 4) : wrap64 (8 * w) = 8 * w := by unfold wrap64; omega

theorem shl_yes {w K : Int} (h : KW w K) : shl .i64 1 (wrap64 (8 * w)) = K := by
  rcases h with ⟨rfl, rfl⟩ | ⟨rfl, rfl⟩ | ⟨rfl, rfl⟩ | ⟨rfl, rfl⟩ <;> decide +kernel

theorem row_no (w : Int) (h : w < 1 ∨ 4 < w) : pnum_row.f w = some 0 := by
  unfold pnum_row.f
  by_cases h1 : w < 1
  · rw [if_pos h1]
  · rw [if_neg h1, if_pos (by omega)]

theorem row_yes {w K : Int} (h : KW w K) : pnum_row.f w = some K := by
  have hr := h.range
  unfold pnum_row.f
  rw [if_neg (by omega), if_neg (by omega), shl_yes h, if_pos]
  rw [w8 w (by omega) (by omega)]; omega

theorem num_yes {a : Int} (h : 0 ≤ a) (h' : a ≤ 4611686018427387903) : pnum_isNumber.f a = some true := by
  unfold pnum_isNumber.f
  rw [if_pos (by omega), decide_eq_true h']

theorem num_no {a : Int} (h : a < 0 ∨ 4611686018427387903 < a) : pnum_isNumber.f a = some false := by
  unfold pnum_isNumber.f
  by_cases g : a ≥ 0
  · rw [if_pos g, decide_eq_false (by omega)]
  · rw [if_neg g]

/-- what grows: m is the one of the window, n what comes of it -/
def GR (L c K n : Int) : Prop :=
  ∃ m, L + 1 - K / 2 + 1 ≤ m ∧ m < L + 1 - K / 2 + 1 + K ∧ (m - c) % K = 0 ∧ (m < 0 → n = m + K) ∧ (m > 4611686018427387903 → n = m - K) ∧ (0 ≤ m → m ≤ 4611686018427387903 → n = m)

theorem tdiv2 {K : Int} (h : 0 ≤ K) : Int.tdiv K 2 = K / 2 := Int.tdiv_eq_ediv_of_nonneg h

theorem grow_in (k : Nat) {L c w K : Int} (hK : KW w K) (hL : -1 ≤ L) (hL' : L ≤ 4611686018427387903) (hc : 0 ≤ c) (hc' : c < K) :
    ∃ n, pnum_Grow.j0 (k + 1) L c K false = some (n, 0) ∧ GR L c K n := by
  have hr := hK.range
  simp only [pnum_Grow.j0]
  rw [if_neg (by simp), if_neg (by omega)]
  rw [tdiv2 (by omega)]
  have e1 : wrap64 (L + 1) = L + 1 := by unfold wrap64; omega
  have e2 : wrap64 (K / 2) = K / 2 := by unfold wrap64; omega
  have e3 : wrap64 (L + 1 - K / 2) = L + 1 - K / 2 := by unfold wrap64; omega
  have e4 : wrap64 (L + 1 - K / 2 + 1) = L + 1 - K / 2 + 1 := by unfold wrap64; omega
  rw [e1, e2, e3, e4]
  have e5 : wrap64 (c - (L + 1 - K / 2 + 1)) = c - (L + 1 - K / 2 + 1) := by unfold wrap64; omega
  rw [e5]
  have h1 := Int.tmod_lt_of_pos (c - (L + 1 - K / 2 + 1)) (show 0 < K by omega)
  have h2 := Int.lt_tmod_of_pos (c - (L + 1 - K / 2 + 1)) (show 0 < K by omega)
  have e6 : wrap64 (Int.tmod (c - (L + 1 - K / 2 + 1)) K + K) = Int.tmod (c - (L + 1 - K / 2 + 1)) K + K := by unfold wrap64; omega
  rw [e6, tmod_fix _ _ (by omega)]
  have h3 := Int.emod_nonneg (c - (L + 1 - K / 2 + 1)) (show K ≠ 0 by omega)
  have h4 := Int.emod_lt_of_pos (c - (L + 1 - K / 2 + 1)) (show 0 < K by omega)
  have h5 := Int.mul_ediv_add_emod (c - (L + 1 - K / 2 + 1)) K
  generalize hr5 : (c - (L + 1 - K / 2 + 1)) % K = r at *
  have e7 : wrap64 (L + 1 - K / 2 + 1 + r) = L + 1 - K / 2 + 1 + r := by unfold wrap64; omega
  have e8 : wrap64 (L + 1 - K / 2 + 1 + r + K) = L + 1 - K / 2 + 1 + r + K := by unfold wrap64; omega
  have e9 : wrap64 (L + 1 - K / 2 + 1 + r - K) = L + 1 - K / 2 + 1 + r - K := by unfold wrap64; omega
  rw [e7, e8, e9]
  have hm : (L + 1 - K / 2 + 1 + r - c) % K = 0 := by
    rw [show L + 1 - K / 2 + 1 + r - c = K * (-((c - (L + 1 - K / 2 + 1)) / K)) by rw [Int.mul_neg]; omega]
    exact Int.mul_emod_right ..
  by_cases g : L + 1 - K / 2 + 1 + r < 0
  · rw [if_pos g]
    exact ⟨_, rfl, _, by omega, by omega, hm, fun _ => rfl, fun _ => by omega, fun _ _ => by omega⟩
  · rw [if_neg g]
    by_cases g' : L + 1 - K / 2 + 1 + r > 4611686018427387903
    · rw [if_pos g']
      exact ⟨_, rfl, _, by omega, by omega, hm, fun _ => by omega, fun _ => rfl, fun _ _ => by omega⟩
    · rw [if_neg g']
      exact ⟨_, rfl, _, by omega, by omega, hm, fun _ => by omega, fun _ => by omega, fun _ _ => rfl⟩

theorem grow_out (k : Nat) (L c K : Int) : pnum_Grow.j0 (k + 1) L c K true = some (0, 1) := by
  simp only [pnum_Grow.j0]; rw [if_pos trivial]

theorem grow_yes (k : Nat) {L c w K : Int} (hK : KW w K) (hL : -1 ≤ L) (hL' : L ≤ 4611686018427387903) (hc : 0 ≤ c) (hc' : c < K) :
    ∃ n, pnum_Grow.f (k + 1) L c w = some (n, 0) ∧ GR L c K n := by
  have hb := grow_in k hK hL hL' hc hc'
  unfold pnum_Grow.f
  rw [row_yes hK]; simp only [Option.bind_some]
  rw [decide_eq_false (by omega : ¬ c ≥ K), if_neg (by omega : ¬ c < 0)]
  by_cases h : L = -1
  · rw [if_pos h]; exact hb
  · rw [if_neg h, num_yes (by omega) (by omega)]; simp only [Option.bind_some]; rw [if_pos trivial]; exact hb

theorem grow_no (k : Nat) {L c w : Int} (h : L < -1 ∨ 4611686018427387903 < L ∨ c < 0 ∨ ∀ K, KW w K → K ≤ c) :
    pnum_Grow.f (k + 1) L c w = some (0, 1) := by
  have hrow : ∃ r, pnum_row.f w = some r ∧ (c < 0 ∨ r ≤ c ∨ L < -1 ∨ 4611686018427387903 < L) := by
    by_cases hw : 1 ≤ w ∧ w ≤ 4
    · obtain ⟨K, hK⟩ := KW.some hw.1 hw.2
      refine ⟨K, row_yes hK, ?_⟩
      rcases h with h | h | h | h
      · omega
      · omega
      · omega
      · have := h K hK; omega
    · exact ⟨0, row_no w (by omega), by omega⟩
  obtain ⟨r, hr, hc⟩ := hrow
  unfold pnum_Grow.f
  rw [hr]; simp only [Option.bind_some]
  have hd : ¬ (L < -1 ∨ 4611686018427387903 < L) → (if c < 0 then pnum_Grow.j0 (k + 1) L c r true else pnum_Grow.j0 (k + 1) L c r (decide (c ≥ r))) = some (0, 1) := by
    intro hL
    by_cases hc0 : c < 0
    · rw [if_pos hc0, grow_out]
    · rw [if_neg hc0, decide_eq_true (by omega : c ≥ r), grow_out]
  by_cases h1 : L = -1
  · rw [if_pos h1]; exact hd (by omega)
  · rw [if_neg h1]
    by_cases h2 : L < -1 ∨ 4611686018427387903 < L
    · rw [num_no (by omega)]; simp only [Option.bind_some]; rw [if_neg (by simp), grow_out]
    · rw [num_yes (by omega) (by omega)]; simp only [Option.bind_some]; rw [if_pos trivial]; exact hd h2

/-- the lower bits, by 'and' -/
theorem wraps_i64 (n : Int) (h₀ : 0 ≤ n) (h₁ : n < 2 ^ 63) : IntKind.i64.wrap n = n := by rw [IntKind.wrap_i64]; omega

theorem and_low (n : Int) (hn : 0 ≤ n) (hn' : n ≤ 4611686018427387903) {w K : Int} (h : KW w K) : Go.bits .and .i64 n (wrap64 (K - 1)) = n % K := by
  have hr := h.range
  rw [show wrap64 (K - 1) = K - 1 by unfold wrap64; omega]
  have hm := fun i hi => bits_mask .i64 63 (by decide) wraps_i64 i hi n hn (by omega)
  rcases h with ⟨_, rfl⟩ | ⟨_, rfl⟩ | ⟨_, rfl⟩ | ⟨_, rfl⟩
  · exact hm 8 (by decide)
  · exact hm 16 (by decide)
  · exact hm 24 (by decide)
  · exact hm 32 (by decide)

theorem cut_yes {n w K : Int} (hK : KW w K) (hn : 0 ≤ n) (hn' : n ≤ 4611686018427387903) : pnum_Cut.f n w = some (n % K, 0) := by
  have hr := hK.range
  unfold pnum_Cut.f
  rw [num_yes hn hn', row_yes hK]; simp only [Option.bind_some]
  rw [if_pos trivial, if_neg (by omega), and_low n hn hn' hK]

theorem cut_no {n w : Int} (h : n < 0 ∨ 4611686018427387903 < n ∨ w < 1 ∨ 4 < w) : pnum_Cut.f n w = some (0, 1) := by
  unfold pnum_Cut.f
  by_cases hn : n < 0 ∨ 4611686018427387903 < n
  · rw [num_no hn]; simp only [Option.bind_some]; rw [if_neg (by simp)]
  · rw [num_yes (by omega) (by omega), row_no w (by omega)]; simp only [Option.bind_some]; rw [if_pos trivial, if_pos trivial]

theorem alive_yes (k : Nat) : turnbucklelaw03_alive.f (k + 1) = some true := by
  unfold turnbucklelaw03_alive.f
  obtain ⟨n, h, m, h1, h2, h3, h4, h5, h6⟩ := grow_yes k (L := 2821665002) (c := 39730) (w := 2) (K := 65536) (.inr (.inl ⟨rfl, rfl⟩)) (by omega) (by omega) (by omega) (by omega)
  have hm : m = 2821692210 := by omega
  have hn : n = 2821692210 := by rw [h6 (by omega) (by omega)]; exact hm
  rw [h, cut_yes (w := 2) (K := 65536) (.inr (.inl ⟨rfl, rfl⟩)) (by omega) (by omega)]
  simp only [Option.bind_some, hn]
  rfl
/-- the width of a number that is so far from what was acked -/
def WD (d : Int) : Int × Int :=
  if d ≤ 128 then (1, 0) else if d ≤ 32768 then (2, 0) else if d ≤ 8388608 then (3, 0) else if d ≤ 2147483648 then (4, 0) else (0, 1)

theorem mn_le (d K : Int) (hd : d ≤ 4611686018427387904) (h0 : 0 < d) (hK : K ≤ 4294967296) : wrap64 (2 * mn d 1152921504606846976) ≤ K ↔ 2 * d ≤ K := by
  unfold mn wrap64; split <;> omega

theorem width_step (k : Nat) {n a w K : Int} (hK : KW w K) (hd : n - a ≤ 4611686018427387904) (h0 : 0 < n - a) :
    pnum_Width.l0 (k + 1) n a w = if n - a ≤ K / 2 then some (w, 0) else pnum_Width.l0 k n a (w + 1) := by
  have hr := hK.range
  have hev : K = 2 * (K / 2) := by unfold KW at hK; omega
  simp only [pnum_Width.l0]
  rw [if_pos (by omega), row_yes hK]; simp only [Option.bind_some]
  rw [show wrap64 (n - a) = n - a by unfold wrap64; omega, show wrap64 (w + 1) = w + 1 by unfold wrap64; omega]
  have hm := mn_le (n - a) K hd h0 (by omega)
  by_cases h : n - a ≤ K / 2
  · rw [if_pos h, if_pos (hm.2 (by omega))]
  · rw [if_neg h, if_neg (fun g => h (by have := hm.1 g; omega))]

theorem width_in (k : Nat) {n a : Int} (hd : n - a ≤ 4611686018427387904) (h0 : 0 < n - a) :
    pnum_Width.j0 (k + 7) n a false = some (WD (n - a)) := by
  simp only [pnum_Width.j0]
  rw [if_neg (by simp)]
  have e0 : pnum_Width.l0 (k + 6) n a 0 = pnum_Width.l0 (k + 5) n a 1 := by
    have hz := mn_le (n - a) 0 hd h0 (by omega)
    simp only [pnum_Width.l0]
    rw [if_pos (by omega), row_no 0 (by omega)]; simp only [Option.bind_some]
    rw [show wrap64 (n - a) = n - a by unfold wrap64; omega, show wrap64 (0 + 1) = 1 by decide +kernel, if_neg (fun g => by have := hz.1 g; omega)]
  have e5 : pnum_Width.l0 (k + 1) n a 5 = some (0, 1) := by
    simp only [pnum_Width.l0]; rw [if_neg (by omega)]
  rw [e0, width_step _ (.inl ⟨rfl, rfl⟩) hd h0]
  rw [show (1 : Int) + 1 = 2 by omega, width_step _ (.inr (.inl ⟨rfl, rfl⟩)) hd h0]
  rw [show (2 : Int) + 1 = 3 by omega, width_step _ (.inr (.inr (.inl ⟨rfl, rfl⟩))) hd h0]
  rw [show (3 : Int) + 1 = 4 by omega, width_step _ (.inr (.inr (.inr ⟨rfl, rfl⟩))) hd h0]
  rw [show (4 : Int) + 1 = 5 by omega, e5]
  rw [show (256 : Int) / 2 = 128 by decide +kernel, show (65536 : Int) / 2 = 32768 by decide +kernel, show (16777216 : Int) / 2 = 8388608 by decide +kernel, show (4294967296 : Int) / 2 = 2147483648 by decide +kernel]
  unfold WD
  split
  · rfl
  · split
    · rfl
    · split
      · rfl
      · split <;> rfl

theorem width_out (k : Nat) (n a : Int) : pnum_Width.j0 (k + 1) n a true = some (0, 1) := by
  simp only [pnum_Width.j0]; rw [if_pos trivial]

/-- which numbers have a width -/
def WR (n a : Int) : Prop := 0 ≤ n ∧ n ≤ 4611686018427387903 ∧ -1 ≤ a ∧ a < n

theorem width_yes (k : Nat) {n a : Int} (h : WR n a) : pnum_Width.f (k + 7) n a = some (WD (n - a)) := by
  obtain ⟨h1, h2, h3, h4⟩ := h
  unfold pnum_Width.f
  rw [num_yes h1 h2]; simp only [Option.bind_some]
  rw [if_pos trivial, if_neg (by omega), decide_eq_false (by omega : ¬ a ≥ n), width_in k (by omega) (by omega)]

theorem width_no (k : Nat) {n a : Int} (h : ¬ WR n a) : pnum_Width.f (k + 1) n a = some (0, 1) := by
  unfold pnum_Width.f
  by_cases h1 : n < 0 ∨ 4611686018427387903 < n
  · rw [num_no h1]; simp only [Option.bind_some]; rw [if_neg (by simp), width_out]
  · rw [num_yes (by omega) (by omega)]; simp only [Option.bind_some]; rw [if_pos trivial]
    by_cases h2 : a < -1
    · rw [if_pos h2, width_out]
    · rw [if_neg h2, decide_eq_true (by unfold WR at h; omega : a ≥ n), width_out]

theorem WD_cases (d : Int) : (∃ w K, KW w K ∧ WD d = (w, 0) ∧ d ≤ K / 2 ∧ (w = 1 ∨ ∃ J, KW (w - 1) J ∧ J / 2 < d)) ∨ WD d = (0, 1) := by
  unfold WD
  split
  · exact .inl ⟨1, 256, .inl ⟨rfl, rfl⟩, rfl, by omega, .inl rfl⟩
  · split
    · exact .inl ⟨2, 65536, .inr (.inl ⟨rfl, rfl⟩), rfl, by omega, .inr ⟨256, .inl ⟨by omega, rfl⟩, by omega⟩⟩
    · split
      · exact .inl ⟨3, 16777216, .inr (.inr (.inl ⟨rfl, rfl⟩)), rfl, by omega, .inr ⟨65536, .inr (.inl ⟨by omega, rfl⟩), by omega⟩⟩
      · split
        · exact .inl ⟨4, 4294967296, .inr (.inr (.inr ⟨rfl, rfl⟩)), rfl, by omega, .inr ⟨16777216, .inr (.inr (.inl ⟨by omega, rfl⟩)), by omega⟩⟩
        · exact .inr rfl

theorem PnumFew : turnbucklelaw03_PnumFew.Pure := by
  intro n a _ _
  refine ⟨7, ?_⟩
  unfold turnbucklelaw03_PnumFew.f
  have hout : ∀ w, turnbucklelaw03_PnumFew.j0 7 n a w true = some true := by
    intro w
    simp only [turnbucklelaw03_PnumFew.j0]
    rw [if_pos trivial, alive_yes]; rfl
  by_cases h : WR n a
  · rw [width_yes 0 h]; simp only [Option.bind_some]
    rcases WD_cases (n - a) with ⟨w, K, hK, hw, hd, hj⟩ | hw
    · rw [hw]; simp only []
      rw [if_pos trivial]
      rcases hj with rfl | ⟨J, hJ, hJd⟩
      · exact hout 1
      · have hr := hK.range
        have hs := hJ.range
        unfold WR at h
        rw [show (w == 1) = false by simp; omega]
        simp only [turnbucklelaw03_PnumFew.j0]
        rw [if_neg (by simp), if_pos (by omega), if_pos (by omega), show wrap64 (w - 1) = w - 1 by unfold wrap64; omega, if_pos (by rw [w8 (w - 1) (by omega) (by omega)]; omega), shl_yes hJ, tdiv2 (by omega)]
        rw [show wrap64 (n - a) = n - a by unfold wrap64; omega, show wrap64 (J / 2) = J / 2 by unfold wrap64; omega, if_pos (by omega), if_pos (by rw [w8 w (by omega) (by omega)]; omega), shl_yes hK, tdiv2 (by omega), show wrap64 (K / 2) = K / 2 by unfold wrap64; omega, if_pos hd, alive_yes]; rfl
    · rw [hw]; simp only []
      rw [if_neg (by omega)]; exact hout 0
  · rw [width_no 6 h]; simp only [Option.bind_some]
    rw [if_neg (by omega)]; exact hout 0

end Go.Proofs.Ytcaagfbbpkjhlaa.Pure
