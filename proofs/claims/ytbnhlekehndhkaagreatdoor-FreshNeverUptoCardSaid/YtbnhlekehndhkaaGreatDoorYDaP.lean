import Derived.RowKit

/- Days: how many lie ahead of a year, of a month; of two dates the later one has more of them. Numbers alone. -/
namespace Go.Proofs.YtbnhlekehndhkaaGreatDoor.Da
set_option linter.unusedVariables false
/-- a leap day -/
def lp (y : Int) : Int := if y % 4 = 0 ∧ (y % 100 ≠ 0 ∨ y % 400 = 0) then 1 else 0
def bef (y : Int) : Int := 365 * y + (y + 3) / 4 - (y + 99) / 100 + (y + 399) / 400
def dim (y m : Int) : Int := if m = 4 ∨ m = 6 ∨ m = 9 ∨ m = 11 then 30 else if m = 2 then 28 + lp y else 31
/-- the days ahead of a month, of the year's own -/
def cum (y m : Int) : Int :=
  if m ≤ 1 then 0 else if m = 2 then 31 else if m = 3 then 59 + lp y else if m = 4 then 90 + lp y else if m = 5 then 120 + lp y else if m = 6 then 151 + lp y else if m = 7 then 181 + lp y else
  if m = 8 then 212 + lp y else if m = 9 then 243 + lp y else if m = 10 then 273 + lp y else if m = 11 then 304 + lp y else if m = 12 then 334 + lp y else 365 + lp y
theorem lp_01 (y : Int) : 0 ≤ lp y ∧ lp y ≤ 1 := by unfold lp; split <;> omega
theorem bef_succ (y : Int) (h : 0 ≤ y) : bef (y + 1) = bef y + 365 + lp y := by
  unfold bef lp
  split <;> omega
theorem bef_ge (y : Int) (h : 0 ≤ y) : 365 * y ≤ bef y := by unfold bef; omega
theorem bef_le (y : Int) (h : 0 ≤ y) : bef y ≤ 366 * y := by unfold bef; omega
theorem bef_top : bef 10000 = 3652425 := by decide
theorem bef_lt {a b : Int} (h0 : 0 ≤ a) (h : a < b) : bef a + 365 + lp a ≤ bef b := by
  have e := bef_succ a h0
  have : bef (a + 1) ≤ bef b := by unfold bef; omega
  omega
theorem dim_lo (y m : Int) : 28 ≤ dim y m ∧ dim y m ≤ 31 := by
  have := lp_01 y
  unfold dim
  repeat' split
  all_goals omega
theorem cases12 {m : Int} (h1 : 1 ≤ m) (h2 : m ≤ 12) : m = 1 ∨ m = 2 ∨ m = 3 ∨ m = 4 ∨ m = 5 ∨ m = 6 ∨ m = 7 ∨ m = 8 ∨ m = 9 ∨ m = 10 ∨ m = 11 ∨ m = 12 := by omega
theorem cum_succ (y m : Int) (h1 : 1 ≤ m) (h2 : m ≤ 12) : cum y (m + 1) = cum y m + dim y m := by
  rcases cases12 h1 h2 with rfl | rfl | rfl | rfl | rfl | rfl | rfl | rfl | rfl | rfl | rfl | rfl <;> simp [cum, dim] <;> omega
theorem cum_1 (y : Int) : cum y 1 = 0 := by simp [cum]
theorem cum_13 (y : Int) : cum y 13 = 365 + lp y := by simp [cum]
theorem cum_bd (y m : Int) (h1 : 1 ≤ m) (h2 : m ≤ 13) : 0 ≤ cum y m ∧ cum y m ≤ 365 + lp y := by
  have := lp_01 y
  by_cases h : m = 13
  · subst h; simp [cum]; omega
  · rcases cases12 h1 (by omega) with rfl | rfl | rfl | rfl | rfl | rfl | rfl | rfl | rfl | rfl | rfl | rfl <;> simp [cum] <;> omega
theorem cum_mono {y m k : Int} (h1 : 1 ≤ m) (h : m < k) (h2 : k ≤ 13) : cum y m + dim y m ≤ cum y k := by
  have h3 := cum_succ y m h1 (by omega)
  have : ∀ (n : Nat) (a : Int), 1 ≤ a → a + n ≤ 13 → cum y a ≤ cum y (a + n) := by
    intro n
    induction n with
    | zero => intro a _ _; simp
    | succ n ih =>
      intro a ha hb
      have h4 := ih a ha (by omega)
      have h5 := cum_succ y (a + n) (by omega) (by omega)
      have h6 := dim_lo y (a + n)
      have : a + ((n + 1 : Nat) : Int) = a + n + 1 := by omega
      rw [this]
      omega
  have h7 := this (k - (m + 1)).toNat (m + 1) (by omega) (by omega)
  rw [show m + 1 + ((k - (m + 1)).toNat : Int) = k by omega] at h7
  omega
/-- the number of a day -/
def dno (y m d : Int) : Int := bef y + cum y m + d - 1
def DayOk (y m d : Int) : Prop := 0 ≤ y ∧ y ≤ 9999 ∧ 1 ≤ m ∧ m ≤ 12 ∧ 1 ≤ d ∧ d ≤ dim y m
theorem cum_day {y m d : Int} (h : DayOk y m d) : 0 ≤ cum y m + d - 1 ∧ cum y m + d - 1 < 365 + lp y := by
  obtain ⟨_, _, h1, h2, h3, h4⟩ := h
  have := cum_bd y m h1 (by omega)
  have h5 := cum_succ y m h1 h2
  have h6 := cum_bd y (m + 1) (by omega) (by omega)
  omega
theorem dno_bd {y m d : Int} (h : DayOk y m d) : 0 ≤ dno y m d ∧ dno y m d ≤ 3652424 := by
  have h1 := cum_day h
  obtain ⟨h2, h3, _⟩ := h
  have h4 := bef_ge y h2
  have h5 : bef y + 365 + lp y ≤ 3652425 := by
    by_cases e : y = 9999
    · subst e; decide
    · have := bef_lt (a := y) (b := 10000) h2 (by omega)
      rw [bef_top] at this
      exact this
  unfold dno
  omega
/-- earlier: year, month, day -/
def Erl (y m d y' m' d' : Int) : Prop := y < y' ∨ y = y' ∧ (m < m' ∨ m = m' ∧ d < d')
theorem dno_lt {y m d y' m' d' : Int} (h : DayOk y m d) (h' : DayOk y' m' d') (he : Erl y m d y' m' d') : dno y m d < dno y' m' d' := by
  have h1 := cum_day h
  have h2 := cum_day h'
  unfold dno
  rcases he with he | ⟨rfl, he | ⟨rfl, he⟩⟩
  · have := bef_lt h.1 he
    omega
  · have h3 := cum_mono (y := y) h.2.2.1 he (by have := h'.2.2.2.1; omega)
    have h4 := h.2.2.2.2.2
    have h5 := h'.2.2.2.2.1
    omega
  · omega
theorem dno_inj {y m d y' m' d' : Int} (h : DayOk y m d) (h' : DayOk y' m' d') (e : dno y m d = dno y' m' d') : y = y' ∧ m = m' ∧ d = d' := by
  by_cases h1 : y = y' ∧ m = m' ∧ d = d'
  · exact h1
  · have : Erl y m d y' m' d' ∨ Erl y' m' d' y m d := by unfold Erl; omega
    rcases this with h2 | h2
    · have := dno_lt h h' h2; omega
    · have := dno_lt h' h h2; omega

/-- a date -/
structure DateOk (y m d h mi s : Int) : Prop where
  day : DayOk y m d
  h0 : 0 ≤ h
  h1 : h ≤ 23
  mi0 : 0 ≤ mi
  mi1 : mi ≤ 59
  s0 : 0 ≤ s
  s1 : s ≤ 59
def num (y m d h mi s : Int) : Int := -62167219200 + dno y m d * 86400 + (h * 60 + mi) * 60 + s
theorem num_bd {y m d h mi s : Int} (o : DateOk y m d h mi s) : -62167219200 ≤ num y m d h mi s ∧ num y m d h mi s ≤ 253402300799 := by
  have := dno_bd o.day
  have := o.h0; have := o.h1; have := o.mi0; have := o.mi1; have := o.s0; have := o.s1
  unfold num
  omega
theorem num_parts {y m d h mi s : Int} (o : DateOk y m d h mi s) : (num y m d h mi s - -62167219200) / 86400 = dno y m d ∧ (num y m d h mi s - -62167219200) % 86400 = (h * 60 + mi) * 60 + s := by
  have := o.h0; have := o.h1; have := o.mi0; have := o.mi1; have := o.s0; have := o.s1
  unfold num
  omega
theorem num_inj {y m d h mi s y' m' d' h' mi' s' : Int} (o : DateOk y m d h mi s) (o' : DateOk y' m' d' h' mi' s') (e : num y m d h mi s = num y' m' d' h' mi' s') : y = y' ∧ m = m' ∧ d = d' ∧ h = h' ∧ mi = mi' ∧ s = s' := by
  have h1 := num_parts o
  have h2 := num_parts o'
  rw [← e] at h2
  have h3 := dno_inj o.day o'.day (by omega)
  have := o.h0; have := o.h1; have := o.mi0; have := o.mi1; have := o.s0; have := o.s1
  have := o'.h0; have := o'.h1; have := o'.mi0; have := o'.mi1; have := o'.s0; have := o'.s1
  refine ⟨h3.1, h3.2.1, h3.2.2, ?_, ?_, ?_⟩ <;> omega
end Go.Proofs.YtbnhlekehndhkaaGreatDoor.Da

