import Derived.Test.YtgcefofmfeghmaaGxf16
import Derived.Test.YtgcefofmfeghmaaGxf17
import Derived.Test.YtgcefofmfeghmaaGxf21
import Derived.Test.YtgcefofmfeghmaaWNEv
/- Codes, plainly: which may be, and the words of any. -/
namespace Go.Proofs.Ytgcefofmfeghmaa.Hu
open Go.RowKit Go.Proofs.Ytgcefofmfeghmaa.G Go.Proofs.YtgcefofmfeghmaaW.PrintWords Go.Proofs.YtgcefofmfeghmaaW.PrintLast Go.Proofs.YtgcefofmfeghmaaW.PrintMore
set_option linter.unusedVariables false

/-- the room that a word of so many bits takes -/
def wt (n : Int) : Nat := if 0 < n then 2 ^ (24 - n.toNat) else 0
theorem wt_le (n : Int) : wt n ≤ 8388608 := by
  unfold wt
  split
  · have : 2 ^ (24 - n.toNat) ≤ 2 ^ 23 := Nat.pow_le_pow_right (by decide) (by omega)
    omega
  · omega
theorem shl_wt (n : Int) (h0 : 0 < n) (h1 : n ≤ 24) : shl .i64 1 (wrap64 (24 - n)) = (wt n : Int) := by
  have ew : wrap64 (24 - n) = 24 - n := by unfold wrap64; omega
  have hm : min (24 - n).toNat IntKind.i64.bits = 24 - n.toNat := by simp [IntKind.bits]; omega
  have hp : (2 : Int) ^ (24 - n.toNat) = ((2 ^ (24 - n.toNat) : Nat) : Int) := by rw [Int.natCast_pow]; rfl
  have hw := wt_le n
  unfold wt at hw ⊢
  rw [if_pos h0] at hw ⊢
  unfold shl
  rw [ew, hm, Int.one_mul, hp, IntKind.wrap_i64]
  clear hp hm
  generalize (2 ^ (24 - n.toNat) : Nat) = P at hw ⊢
  omega

def Ok (n : Int) : Prop := 0 ≤ n ∧ n ≤ 24
instance (n : Int) : Decidable (Ok n) := by unfold Ok; infer_instance
/-- the room of the places from i on, d of them -/
def tot (l : List Int) : Nat → Nat → Nat
  | 0, _ => 0
  | d + 1, i => wt (rd l (i : Int)) + tot l d (i + 1)
/-- which codes may be -/
def RightP (l : List Int) : Prop := l.length ≤ 256 ∧ (∀ i : Nat, i < l.length → Ok (rd l (i : Int))) ∧ tot l l.length 0 < 16777216

def rightFrom (l : List Int) : Nat → Nat → Int → Bool
  | 0, _, room => if room > 0 then decide ((l.length : Int) ≤ 256) else false
  | d + 1, i, room => if Ok (rd l (i : Int)) then rightFrom l d (i + 1) (if 0 < rd l (i : Int) then wrap64 (room - (wt (rd l (i : Int)) : Int)) else room) else false

theorem right_from (l : List Int) (hl : l.length ≤ 17592186044416) : ∀ (d i : Nat) (room : Int), i + d = l.length → Ev (fun k => huff_Right.l0 k l room l (l.length : Int) (i : Int)) (rightFrom l d i room)
  | 0, i, room, h => by
    refine Ev.step (f := fun k => if room > 0 then (some (decide ((l.length : Int) ≤ 256))) else (some false)) (fun k => by simp only [huff_Right.l0]; rw [if_neg (by omega)]) ?_
    unfold rightFrom
    by_cases c : room > 0
    · simp only [if_pos c]; exact Ev.now _
    · simp only [if_neg c]; exact Ev.now _
  | d + 1, i, room, h => by
    have e1 : wrap64 ((i : Int) + 1) = ((i + 1 : Nat) : Int) := by unfold wrap64; omega
    unfold rightFrom
    by_cases c : Ok (rd l (i : Int))
    · have c' : 0 ≤ rd l (i : Int) ∧ rd l (i : Int) ≤ 24 := c
      rw [if_pos c]
      have ih := right_from l hl d (i + 1) (if 0 < rd l (i : Int) then wrap64 (room - (wt (rd l (i : Int)) : Int)) else room) (by omega)
      refine Ev.step (f := fun k => huff_Right.j1 k l room (rd l (i : Int)) l (l.length : Int) (i : Int) false) (fun k => by
        simp only [huff_Right.l0]; rw [if_pos (by omega), if_pos (by omega), if_pos (by omega), if_neg (by omega), decide_eq_false (by omega)]) ?_
      refine Ev.step ?_ ih
      intro k
      simp only [huff_Right.j1, Bool.false_eq_true, if_false]
      by_cases hp : 0 < rd l (i : Int)
      · have ew : wrap64 (24 - rd l (i : Int)) = 24 - rd l (i : Int) := by unfold wrap64; omega
        rw [if_pos hp, if_pos (by rw [ew]; omega), shl_wt _ hp c'.2, e1]
        simp only [if_pos hp]
      · rw [if_neg hp, e1]
        simp only [if_neg hp]
    · rw [if_neg c]
      have c' : rd l (i : Int) < 0 ∨ 24 < rd l (i : Int) := by unfold Ok at c; omega
      refine Ev.step (f := fun k => huff_Right.j1 k l room (rd l (i : Int)) l (l.length : Int) (i : Int) true) (fun k => by
        simp only [huff_Right.l0]; rw [if_pos (by omega), if_pos (by omega), if_pos (by omega)]
        by_cases h0 : rd l (i : Int) < 0
        · rw [if_pos h0]
        · rw [if_neg h0, decide_eq_true (by omega)]) ?_
      refine Ev.step (f := fun k => some false) (fun k => by simp only [huff_Right.j1]; rfl) (Ev.now _)

theorem rightFrom_false (l : List Int) (h : 256 < l.length) : ∀ d i room, rightFrom l d i room = false
  | 0, i, room => by unfold rightFrom; rw [decide_eq_false (by omega)]; simp
  | d + 1, i, room => by
    unfold rightFrom
    split
    · exact rightFrom_false l h d _ _
    · rfl
theorem tot_le (l : List Int) : ∀ d i, tot l d i ≤ 8388608 * d
  | 0, i => by simp [tot]
  | d + 1, i => by
    have := tot_le l d (i + 1)
    have := wt_le (rd l (i : Int))
    unfold tot; omega
theorem rightFrom_iff (l : List Int) (hl : l.length ≤ 256) : ∀ (d i : Nat) (room : Int), d ≤ 256 → -4294967296 ≤ room - 8388608 * d → room ≤ 16777216 → (rightFrom l d i room = true ↔ (∀ j : Nat, i ≤ j → j < i + d → Ok (rd l (j : Int))) ∧ (tot l d i : Int) < room)
  | 0, i, room, _, _, _ => by
    unfold rightFrom tot
    rw [decide_eq_true (by omega)]
    constructor
    · intro h
      split at h
      · exact ⟨fun j h1 h2 => by omega, by omega⟩
      · cases h
    · rintro ⟨-, h⟩
      rw [if_pos (by omega)]
  | d + 1, i, room, hd, h1, h2 => by
    have hw := wt_le (rd l (i : Int))
    unfold rightFrom tot
    by_cases c : Ok (rd l (i : Int))
    · rw [if_pos c]
      have e : (if 0 < rd l (i : Int) then wrap64 (room - (wt (rd l (i : Int)) : Int)) else room) = room - (wt (rd l (i : Int)) : Int) := by
        by_cases hp : 0 < rd l (i : Int)
        · rw [if_pos hp]; unfold wrap64; omega
        · rw [if_neg hp]; unfold wt; rw [if_neg hp]; omega
      rw [e, rightFrom_iff l hl d (i + 1) _ (by omega) (by omega) (by omega)]
      constructor
      · rintro ⟨q1, q2⟩
        refine ⟨fun j a1 a2 => ?_, by omega⟩
        rcases Nat.lt_or_ge i j with h | h
        · exact q1 j h (by omega)
        · obtain rfl : j = i := by omega
          exact c
      · rintro ⟨q1, q2⟩
        exact ⟨fun j a1 a2 => q1 j (by omega) (by omega), by omega⟩
    · rw [if_neg c]
      constructor
      · intro h; cases h
      · rintro ⟨q1, -⟩
        exact absurd (q1 i (Nat.le_refl _) (by omega)) c

/-- Right tells which codes may be -/
theorem right_ev (l : List Int) (hl : l.length ≤ 17592186044416) : ∃ b, Ev (fun k => huff_Right.f k l) b ∧ (b = true ↔ RightP l) := by
  refine ⟨_, right_from l hl l.length 0 16777216 (by omega), ?_⟩
  by_cases h : l.length ≤ 256
  · rw [rightFrom_iff l h l.length 0 16777216 h (by omega) (by omega)]
    unfold RightP
    constructor
    · rintro ⟨q1, q2⟩; exact ⟨h, fun i hi => q1 i (by omega) (by omega), by omega⟩
    · rintro ⟨-, q1, q2⟩; exact ⟨fun j _ hj => q1 j (by omega), by omega⟩
  · rw [rightFrom_false l (by omega)]
    constructor
    · intro h; cases h
    · rintro ⟨q, -⟩; omega
end Go.Proofs.Ytgcefofmfeghmaa.Hu
