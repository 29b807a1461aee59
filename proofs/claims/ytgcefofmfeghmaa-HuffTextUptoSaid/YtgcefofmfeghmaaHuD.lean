import Derived.Test.YtgcefofmfeghmaaHuC
import Derived.Test.YtgcefofmfeghmaaGxf15
/- The document's words, and its decoding. -/
namespace Go.Proofs.Ytgcefofmfeghmaa.Hu
open Go.RowKit Go.Proofs.Ytgcefofmfeghmaa.G Go.Proofs.YtgcefofmfeghmaaW.PrintWords Go.Proofs.YtgcefofmfeghmaaW.PrintLast Go.Proofs.YtgcefofmfeghmaaW.PrintMore
set_option linter.unusedVariables false

def rrFrom (l : List Int) : Nat → Nat → Nat → Bool
  | 0, _, s => decide ((s : Int) < 16777216)
  | d + 1, i, s => if Ok (rd l (i : Int)) then rrFrom l d (i + 1) (s + wt (rd l (i : Int))) else false
theorem rr_from (l : List Int) (hl : l.length ≤ 256) : ∀ (d i s : Nat), i + d = l.length → s ≤ 8388608 * i → Ev (fun k => turnbuckleref12_Right.l0 k l (s : Int) (i : Int)) (rrFrom l d i s)
  | 0, i, s, h, hs => by
    refine Ev.step (f := fun k => some (decide ((s : Int) < 16777216))) (fun k => by simp only [turnbuckleref12_Right.l0]; rw [if_neg (by omega)]) (Ev.now _)
  | d + 1, i, s, h, hs => by
    have e1 : wrap64 ((i : Int) + 1) = ((i + 1 : Nat) : Int) := by unfold wrap64; omega
    have hw := wt_le (rd l (i : Int))
    unfold rrFrom
    by_cases c : Ok (rd l (i : Int))
    · have c' : 0 ≤ rd l (i : Int) ∧ rd l (i : Int) ≤ 24 := c
      rw [if_pos c]
      have ih := rr_from l hl d (i + 1) (s + wt (rd l (i : Int))) (by omega) (by omega)
      refine Ev.step (f := fun k => turnbuckleref12_Right.j1 k l (s : Int) (i : Int) false) (fun k => by
        simp only [turnbuckleref12_Right.l0]; rw [if_pos (by omega), if_pos (by omega), if_neg (by omega), decide_eq_false (by omega)]) ?_
      refine Ev.step ?_ ih
      intro k
      simp only [turnbuckleref12_Right.j1, Bool.false_eq_true, if_false]
      rw [if_pos (by omega), if_pos (by omega)]
      by_cases hp : 0 < rd l (i : Int)
      · have ew : wrap64 (24 - rd l (i : Int)) = 24 - rd l (i : Int) := by unfold wrap64; omega
        have es : wrap64 ((s : Int) + (wt (rd l (i : Int)) : Int)) = ((s + wt (rd l (i : Int)) : Nat) : Int) := by unfold wrap64; omega
        rw [if_pos hp, if_pos (by rw [ew]; omega), shl_wt _ hp c'.2, e1, es]
      · have : wt (rd l (i : Int)) = 0 := by unfold wt; rw [if_neg hp]
        rw [if_neg hp, e1, this]; rfl
    · rw [if_neg c]
      have c' : rd l (i : Int) < 0 ∨ 24 < rd l (i : Int) := by unfold Ok at c; omega
      refine Ev.step (f := fun k => turnbuckleref12_Right.j1 k l (s : Int) (i : Int) true) (fun k => by
        simp only [turnbuckleref12_Right.l0]; rw [if_pos (by omega), if_pos (by omega)]
        by_cases h0 : rd l (i : Int) < 0
        · rw [if_pos h0]
        · rw [if_neg h0, decide_eq_true (by omega)]) ?_
      refine Ev.step (f := fun k => some false) (fun k => by simp only [turnbuckleref12_Right.j1]; rfl) (Ev.now _)
theorem rrFrom_iff (l : List Int) : ∀ (d i s : Nat), (rrFrom l d i s = true ↔ (∀ j : Nat, i ≤ j → j < i + d → Ok (rd l (j : Int))) ∧ s + tot l d i < 16777216)
  | 0, i, s => by
    unfold rrFrom tot
    rw [decide_eq_true_iff]
    constructor
    · intro h; exact ⟨fun j h1 h2 => by omega, by omega⟩
    · rintro ⟨-, h⟩; omega
  | d + 1, i, s => by
    unfold rrFrom tot
    by_cases c : Ok (rd l (i : Int))
    · rw [if_pos c, rrFrom_iff l d (i + 1)]
      constructor
      · rintro ⟨q1, q2⟩
        refine ⟨fun j a1 a2 => ?_, by omega⟩
        rcases Nat.lt_or_ge i j with h | h
        · exact q1 j h (by omega)
        · obtain rfl : j = i := by omega
          exact c
      · rintro ⟨q1, q2⟩
        exact ⟨fun j a1 a2 => q1 j (by omega) (by omega), by omega⟩
    · rw [if_neg c]
      constructor
      · intro h; cases h
      · rintro ⟨q1, -⟩
        exact absurd (q1 i (Nat.le_refl _) (by omega)) c
theorem rright_ev (l : List Int) : ∃ b, Ev (fun k => turnbuckleref12_Right.f k l) b ∧ (b = true ↔ RightP l) := by
  by_cases h : l.length ≤ 256
  · refine ⟨_, Ev.congr (fun k => by unfold turnbuckleref12_Right.f; rw [if_neg (by omega)]; rfl) (rr_from l h l.length 0 0 (by omega) (by omega)), ?_⟩
    rw [rrFrom_iff]
    unfold RightP
    constructor
    · rintro ⟨q1, q2⟩; exact ⟨h, fun i hi => q1 i (by omega) (by omega), by omega⟩
    · rintro ⟨-, q1, q2⟩; exact ⟨fun j _ hj => q1 j (by omega), by omega⟩
  · refine ⟨false, Ev.congr (f := fun _ => some false) (fun k => by unfold turnbuckleref12_Right.f; rw [if_pos (by omega)]) (Ev.now _), ?_⟩
    constructor
    · intro h; cases h
    · rintro ⟨q, -⟩; omega

/-! the document's words -/
theorem bef_step (l : List Int) (n : Int) (i : Nat) : ∀ m : Nat, bef l n (i + 1) m = bef l n i m + if i < m ∧ rd l (i : Int) = n then wt n else 0
  | 0 => by simp [bef]
  | m + 1 => by
    unfold bef
    rw [bef_step l n i m]
    by_cases c : i = m
    · subst c
      by_cases h : rd l (i : Int) = n
      · rw [if_pos (by omega : rd l (i : Int) < n ∨ rd l (i : Int) = n ∧ i < i + 1), if_neg (by omega : ¬ (i < i ∧ rd l (i : Int) = n)), if_neg (by omega : ¬ (rd l (i : Int) < n ∨ rd l (i : Int) = n ∧ i < i)), if_pos (by omega : i < i + 1 ∧ rd l (i : Int) = n), h]
      · rw [if_neg (by omega : ¬ (i < i ∧ rd l (i : Int) = n)), if_neg (by omega : ¬ (i < i + 1 ∧ rd l (i : Int) = n))]
        by_cases h2 : rd l (i : Int) < n
        · rw [if_pos (Or.inl h2), if_pos (Or.inl h2)]; omega
        · rw [if_neg (by omega), if_neg (by omega)]
    · repeat' split
      all_goals omega
theorem bef_level (l : List Int) (n : Int) (i : Nat) : ∀ m : Nat, m ≤ i → bef l n i m = bef l (n + 1) 0 m
  | 0, _ => by simp [bef]
  | m + 1, h => by
    unfold bef
    rw [bef_level l n i m (by omega)]
    congr 1
    by_cases c : rd l (m : Int) ≤ n
    · rw [if_pos (by omega), if_pos (by omega)]
    · rw [if_neg (by omega), if_neg (by omega)]
theorem bef_start (l : List Int) : ∀ m : Nat, bef l 1 0 m = 0
  | 0 => by simp [bef]
  | m + 1 => by
    unfold bef
    rw [bef_start l m]
    split
    · unfold wt; rw [if_neg (by omega)]
    · rfl
theorem tot_snoc (l : List Int) : ∀ d i, tot l (d + 1) i = tot l d i + wt (rd l ((i + d : Nat) : Int)) := by
  intro d
  induction d with
  | zero => intro i; simp [tot]
  | succ d ih =>
    intro i
    rw [tot, ih (i + 1), tot, show i + 1 + d = i + (d + 1) by omega]
    omega
theorem bef_le (l : List Int) (n : Int) (i : Nat) : ∀ m : Nat, bef l n i m ≤ tot l m 0
  | 0 => by simp [bef]
  | m + 1 => by
    rw [tot_snoc, Nat.zero_add]
    unfold bef
    have := bef_le l n i m
    split <;> omega

def rword (l : List Int) (i : Nat) : S53 := if 0 < rd l (i : Int) then ⟨(bitsN l i : Int), rd l (i : Int)⟩ else z53
def rwords (l : List Int) : List S53 := (List.range l.length).map (rword l)
def arrR (l : List Int) (n : Int) (i : Nat) : List S53 := (List.range l.length).map (fun j : Nat => if rd l (j : Int) < n ∨ (rd l (j : Int) = n ∧ j < i) then rword l j else z53)
theorem arrR_len (l : List Int) (n : Int) (i : Nat) : (arrR l n i).length = l.length := by unfold arrR; simp
theorem arrR_skip (l : List Int) (n : Int) (i : Nat) (h : rd l (i : Int) ≠ n) : arrR l n i = arrR l n (i + 1) := by
  unfold arrR
  apply List.map_congr_left
  intro j hj
  by_cases c : j = i
  · subst c
    by_cases h2 : rd l (j : Int) < n
    · rw [if_pos (by omega), if_pos (by omega)]
    · rw [if_neg (by omega), if_neg (by omega)]
  · by_cases h2 : rd l (j : Int) < n ∨ (rd l (j : Int) = n ∧ j < i)
    · rw [if_pos h2, if_pos (by omega)]
    · rw [if_neg h2, if_neg (by omega)]
theorem arrR_set (l : List Int) (n : Int) (i : Nat) (hi : i < l.length) (h : rd l (i : Int) = n) : (arrR l n i).set i (rword l i) = arrR l n (i + 1) := by
  apply List.ext_getElem?
  intro j
  rw [List.getElem?_set]
  unfold arrR
  simp only [List.length_map, List.length_range, List.getElem?_map]
  by_cases c : i = j
  · subst c
    rw [if_pos rfl, if_pos hi, List.getElem?_range hi]
    simp only [Option.map_some]
    rw [if_pos (by omega)]
  · rw [if_neg c]
    rcases Nat.lt_or_ge j l.length with hj | hj
    · rw [List.getElem?_range hj]
      simp only [Option.map_some]
      congr 1
      by_cases h2 : rd l (j : Int) < n ∨ (rd l (j : Int) = n ∧ j < i)
      · rw [if_pos h2, if_pos (by omega)]
      · rw [if_neg h2, if_neg (by omega)]
    · rw [List.getElem?_eq_none (by simpa using hj)]
      rfl
theorem arrR_level (l : List Int) (n : Int) : arrR l n l.length = arrR l (n + 1) 0 := by
  unfold arrR
  apply List.map_congr_left
  intro j hj
  have := List.mem_range.1 hj
  by_cases c : rd l (j : Int) ≤ n
  · rw [if_pos (by omega), if_pos (by omega)]
  · rw [if_neg (by omega), if_neg (by omega)]
theorem arrR_start (l : List Int) : List.replicate l.length z53 = arrR l 1 0 := by
  unfold arrR
  apply List.ext_getElem
  · simp
  · intro j h1 h2
    simp only [List.getElem_replicate, List.getElem_map, List.getElem_range]
    split
    · unfold rword; rw [if_neg (by omega)]
    · rfl
theorem arrR_end (l : List Int) (hr : RightP l) : arrR l 25 0 = rwords l := by
  unfold arrR rwords
  apply List.map_congr_left
  intro j hj
  have h : 0 ≤ rd l (j : Int) ∧ rd l (j : Int) ≤ 24 := hr.2.1 j (List.mem_range.1 hj)
  rw [if_pos (by omega)]

theorem rw_inner (l : List Int) (hr : RightP l) (n : Nat) (hn0 : 0 < n) (hn : n ≤ 24) (r : List S53 × Int)
    (hout : ∀ next : Nat, next * 2 ^ (24 - n) = bef l ((n : Int) + 1) 0 l.length → Ev (fun k => turnbuckleref12_Words.l0 k l (arrR l ((n : Int) + 1) 0) (next : Int) ((n : Int) + 1)) r) :
    ∀ (d i next : Nat), i + d = l.length → next * 2 ^ (24 - n) = bef l (n : Int) i l.length → Ev (fun k => turnbuckleref12_Words.l1 k l (arrR l (n : Int) i) (next : Int) (n : Int) (i : Int)) r
  | 0, i, next, h, hx => by
    obtain rfl : i = l.length := by omega
    have e : wrap64 ((n : Int) + 1) = (n : Int) + 1 := by unfold wrap64; omega
    rw [bef_level l _ _ _ (Nat.le_refl _)] at hx
    refine Ev.step ?_ (hout next hx)
    intro k
    simp only [turnbuckleref12_Words.l1]
    rw [if_neg (by omega), e, arrR_level]
  | d + 1, i, next, h, hx => by
    have hl := hr.1
    have hi : i < l.length := by omega
    have e1 : wrap64 ((i : Int) + 1) = ((i + 1 : Nat) : Int) := by unfold wrap64; omega
    have hbl := bef_le l (n : Int) i l.length
    have htot := hr.2.2
    have hP : 0 < 2 ^ (24 - n) := Nat.two_pow_pos _
    have hnb : next ≤ next * 2 ^ (24 - n) := Nat.le_mul_of_pos_right _ hP
    have e2 : wrap64 ((next : Int) + 1) = ((next + 1 : Nat) : Int) := by unfold wrap64; omega
    by_cases c : rd l (i : Int) = (n : Int)
    · have hwt : wt (n : Int) = 2 ^ (24 - n) := by unfold wt; rw [if_pos (by omega), Int.toNat_natCast]
      have hword : (⟨(next : Int), (n : Int)⟩ : S53) = rword l i := by
        unfold rword
        rw [if_pos (by omega), c]
        have h1 := bitsN_mul l i hi (by omega)
        rw [c, hwt] at h1
        have h2 : first l i = bef l (n : Int) i l.length := by unfold first; rw [c]
        rw [h2, ← hx] at h1
        rw [Nat.eq_of_mul_eq_mul_right hP h1]
      have ih := rw_inner l hr n hn0 hn r hout d (i + 1) (next + 1) (by omega) (by rw [bef_step, if_pos ⟨hi, c⟩, hwt, Nat.add_mul, hx]; omega)
      refine Ev.step ?_ ih
      intro k
      simp only [turnbuckleref12_Words.l1]
      rw [if_pos (by omega), if_pos (by omega), if_pos c, if_pos (by rw [arrR_len]; omega), Int.toNat_natCast, hword, arrR_set l _ i hi c, e1, e2]
    · have ih := rw_inner l hr n hn0 hn r hout d (i + 1) next (by omega) (by rw [bef_step, if_neg (by omega), hx]; omega)
      refine Ev.step ?_ ih
      intro k
      simp only [turnbuckleref12_Words.l1]
      rw [if_pos (by omega), if_pos (by omega), if_neg c, e1, arrR_skip l _ i c]
theorem rw_outer (l : List Int) (hr : RightP l) : ∀ (d n next : Nat), n + d = 25 → 0 < n → next * 2 ^ (24 - (n - 1)) = bef l (n : Int) 0 l.length → Ev (fun k => turnbuckleref12_Words.l0 k l (arrR l (n : Int) 0) (next : Int) (n : Int)) (rwords l, 0)
  | 0, n, next, h, h0, hx => by
    obtain rfl : n = 25 := by omega
    refine Ev.step (f := fun k => some (rwords l, 0)) (fun k => by simp only [turnbuckleref12_Words.l0]; rw [if_neg (by omega), ← arrR_end l hr]; rfl) (Ev.now _)
  | d + 1, n, next, h, h0, hx => by
    have hbl := bef_le l (n : Int) 0 l.length
    have htot := hr.2.2
    have hP : 0 < 2 ^ (24 - (n - 1)) := Nat.two_pow_pos _
    have hnb : next ≤ next * 2 ^ (24 - (n - 1)) := Nat.le_mul_of_pos_right _ hP
    have e2 : wrap64 (2 * (next : Int)) = ((2 * next : Nat) : Int) := by unfold wrap64; omega
    have hin := rw_inner l hr n h0 (by omega) (rwords l, 0) (fun nx hnx => by
      have := rw_outer l hr d (n + 1) nx (by omega) (by omega) (by rw [show n + 1 - 1 = n by omega]; exact hnx)
      exact this) l.length 0 (2 * next) (by omega) (by
        rw [← hx, show 24 - (n - 1) = 24 - n + 1 by omega, Nat.pow_succ, Nat.mul_comm 2 next, Nat.mul_assoc, Nat.mul_comm 2])
    refine Ev.step ?_ hin
    intro k
    simp only [turnbuckleref12_Words.l0]
    rw [if_pos (by omega), e2]
    rfl
theorem rwords_ev (l : List Int) (hl : l.length ≤ 17592186044416) : (RightP l → Ev (fun k => turnbuckleref12_Words.f k l) (rwords l, 0)) ∧ (¬ RightP l → Ev (fun k => turnbuckleref12_Words.f k l) ([], 1)) := by
  obtain ⟨b, hb, hiff⟩ := rright_ev l
  constructor
  · intro hr
    have hbt := hiff.2 hr
    subst hbt
    unfold turnbuckleref12_Words.f
    refine Ev.bind (f := fun k t => _) hb ?_
    simp only [if_true]
    refine Ev.congr (f := fun k => turnbuckleref12_Words.l0 k l (List.replicate l.length z53) 0 1) (fun k => by
      rw [if_pos (by omega), if_pos (by rw [Int.toNat_natCast]; exact hl), Int.toNat_natCast]) ?_
    rw [arrR_start]
    exact rw_outer l hr 24 1 0 (by omega) (by omega) (by rw [Nat.zero_mul]; exact (bef_start l _).symm)
  · intro hr
    have hbf : b = false := by cases b with | false => rfl | true => exact absurd (hiff.1 rfl) hr
    subst hbf
    unfold turnbuckleref12_Words.f
    refine Ev.bind (f := fun k t => _) hb ?_
    exact Ev.now _
end Go.Proofs.Ytgcefofmfeghmaa.Hu
