import Derived.Test.YtgcefofmfeghmaaHuA
/- The words of a code. -/
namespace Go.Proofs.Ytgcefofmfeghmaa.Hu
open Go.RowKit Go.Proofs.Ytgcefofmfeghmaa.G Go.Proofs.YtgcefofmfeghmaaW.PrintWords Go.Proofs.YtgcefofmfeghmaaW.PrintLast Go.Proofs.YtgcefofmfeghmaaW.PrintMore
set_option linter.unusedVariables false

/-- the room of what goes ahead of a word of n bits at i, among the first m -/
def bef (l : List Int) (n : Int) (i : Nat) : Nat → Nat
  | 0 => 0
  | m + 1 => bef l n i m + if rd l (m : Int) < n ∨ (rd l (m : Int) = n ∧ m < i) then wt (rd l (m : Int)) else 0
def first (l : List Int) (i : Nat) : Nat := bef l (rd l (i : Int)) i l.length
def wordOf (l : List Int) (i : Nat) : S36 := if 0 < rd l (i : Int) then ⟨((first l i / wt (rd l (i : Int)) : Nat) : Int), rd l (i : Int)⟩ else z36
def words (l : List Int) : List S36 := (List.range l.length).map (wordOf l)

def ahead (l : List Int) (i : Nat) (j : Int) : Bool := decide (rd l j < rd l (i : Int) ∨ (rd l j = rd l (i : Int) ∧ j < (i : Int)))
def sumw (l : List Int) (A : List Int) : Nat := (A.map (fun j => wt (rd l j))).sum
theorem sumw_append (l : List Int) (A B : List Int) : sumw l (A ++ B) = sumw l A + sumw l B := by unfold sumw; simp
theorem bef_sum (l : List Int) (i : Nat) : ∀ m : Nat, bef l (rd l (i : Int)) i m = sumw l ((St.pos l m).filter (ahead l i))
  | 0 => by simp [bef, St.pos, sumw]
  | m + 1 => by
    have hc : (ahead l i (m : Int) = true) ↔ (rd l (m : Int) < rd l (i : Int) ∨ (rd l (m : Int) = rd l (i : Int) ∧ m < i)) := by
      unfold ahead; rw [decide_eq_true_iff]; omega
    unfold bef
    rw [bef_sum l i m, St.pos_succ]
    by_cases h : 0 < rd l (m : Int)
    · rw [if_pos h, List.filter_append, sumw_append]
      by_cases c : ahead l i (m : Int) = true
      · rw [if_pos (hc.1 c)]; simp [List.filter, c, sumw]
      · rw [if_neg (fun q => c (hc.2 q))]; simp [List.filter, c, sumw]
    · rw [if_neg h]
      have : wt (rd l (m : Int)) = 0 := by unfold wt; rw [if_neg h]
      rw [this]; simp
theorem tot_sum (l : List Int) : ∀ m : Nat, tot l m 0 = sumw l (St.pos l m)
  | 0 => by simp [tot, St.pos, sumw]
  | m + 1 => by
    have h2 : ∀ d i, tot l (d + 1) i = tot l d i + wt (rd l ((i + d : Nat) : Int)) := by
      intro d
      induction d with
      | zero => intro i; simp [tot]
      | succ d ih =>
        intro i
        rw [tot, ih (i + 1), tot]
        rw [show i + 1 + d = i + (d + 1) by omega]
        omega
    rw [h2 m 0, tot_sum l m, St.pos_succ, Nat.zero_add]
    by_cases h : 0 < rd l (m : Int)
    · rw [if_pos h, sumw_append]; simp [sumw]
    · rw [if_neg h]
      have : wt (rd l (m : Int)) = 0 := by unfold wt; rw [if_neg h]
      omega
theorem sumw_perm {l A B : List Int} (h : A.Perm B) : sumw l A = sumw l B := (h.map _).sum_nat

theorem key_in (l : List Int) (x : Int) (h : x ∈ St.pos l l.length) : St.keyN l x = rd l x := by unfold St.keyN; rw [St.clamp_pos l x h]
theorem ord_mem (l : List Int) (x : Int) : x ∈ St.ordered l ↔ x ∈ St.pos l l.length := (St.ordered_perm l).mem_iff
theorem ord_nodup (l : List Int) : (St.ordered l).Nodup := by
  refine (St.ordered_perm l).nodup_iff.2 ?_
  exact (St.pos_asc l l.length).imp (fun h => by omega)
theorem ord_sorted (l : List Int) : (St.ordered l).Pairwise (fun x y => rd l x < rd l y ∨ (rd l x = rd l y ∧ x < y)) := by
  have h1 : (St.ordered l).Pairwise (fun x y => (!St.ltX (St.keyN l) y x) = true) := by
    unfold St.ordered
    refine List.pairwise_mergeSort ?_ ?_ _
    · intro a b c; simp only [St.ltX, Bool.not_eq_true', decide_eq_false_iff_not]; omega
    · intro a b; simp only [St.ltX, Bool.or_eq_true, Bool.not_eq_true', decide_eq_false_iff_not]; omega
  have h2 := ord_nodup l
  refine (h1.and h2).imp_of_mem ?_
  rintro x y hx hy ⟨h3, h4⟩
  rw [ord_mem] at hx hy
  simp only [St.ltX, Bool.not_eq_true', decide_eq_false_iff_not, key_in l x hx, key_in l y hy] at h3
  omega

/-- what goes ahead of a word, by the order -/
theorem first_of (l : List Int) (A B : List Int) (i : Int) (h : St.ordered l = A ++ i :: B) : first l i.toNat = sumw l A := by
  have hi : i ∈ St.pos l l.length := (ord_mem l i).1 (by rw [h]; simp)
  have hi0 := ((St.pos_mem l _ i).1 hi).1
  have e : ((i.toNat : Nat) : Int) = i := Int.toNat_of_nonneg hi0
  unfold first
  rw [bef_sum, ← sumw_perm ((St.ordered_perm l).filter _), h]
  congr 1
  have hs := ord_sorted l
  rw [h, List.pairwise_append] at hs
  obtain ⟨h1, h2, h3⟩ := hs
  rw [List.pairwise_cons] at h2
  rw [List.filter_append, List.filter_cons]
  have c1 : ahead l i.toNat i = false := by unfold ahead; rw [e, decide_eq_false_iff_not]; omega
  have c2 : A.filter (ahead l i.toNat) = A := List.filter_eq_self.2 (fun a ha => by
    have := h3 a ha i (by simp)
    unfold ahead; rw [e, decide_eq_true_iff]; omega)
  have c3 : B.filter (ahead l i.toNat) = [] := List.filter_eq_nil_iff.2 (fun b hb => by
    have := h2.1 b hb
    unfold ahead; rw [e, decide_eq_true_iff]; omega)
  rw [c1, c2, c3]
  simp

def arr (l : List Int) (A : List Int) : List S36 := (List.range l.length).map (fun j : Nat => if (j : Int) ∈ A then wordOf l j else z36)
theorem arr_len (l A : List Int) : (arr l A).length = l.length := by unfold arr; simp
theorem arr_set (l A : List Int) (i : Int) (h0 : 0 ≤ i) (h1 : i < l.length) : (arr l A).set i.toNat (wordOf l i.toNat) = arr l (A ++ [i]) := by
  apply List.ext_getElem?
  intro j
  rw [List.getElem?_set]
  unfold arr
  simp only [List.length_map, List.length_range, List.getElem?_map]
  by_cases c : i.toNat = j
  · subst c
    rw [if_pos rfl, if_pos (by omega), List.getElem?_range (by omega)]
    simp only [Option.map_some, Int.toNat_of_nonneg h0, List.mem_append, List.mem_singleton, or_true, if_true]
  · rw [if_neg c]
    rcases Nat.lt_or_ge j l.length with hj | hj
    · rw [List.getElem?_range hj]
      simp only [Option.map_some, List.mem_append, List.mem_singleton]
      congr 1
      have : ¬ ((j : Int) = i) := by omega
      simp [this]
    · rw [List.getElem?_eq_none (by simpa using hj)]
      rfl
theorem arr_nil (l : List Int) : List.replicate l.length z36 = arr l [] := by
  unfold arr
  apply List.ext_getElem
  · simp
  · intro j h1 h2; simp
theorem arr_all (l : List Int) : arr l (St.ordered l) = words l := by
  unfold arr words
  apply List.map_congr_left
  intro j hj
  have hj' := List.mem_range.1 hj
  by_cases h : (j : Int) ∈ St.ordered l
  · rw [if_pos h]
  · rw [if_neg h]
    unfold wordOf
    rw [if_neg]
    intro hp
    exact h ((ord_mem l _).2 ((St.pos_mem l _ _).2 ⟨by omega, by omega, hp⟩))

theorem words_loop (l : List Int) (hr : RightP l) : ∀ (B A : List Int), St.ordered l = A ++ B → Ev (fun k => huff_Words.l0 k l (arr l A) (sumw l A : Int) (St.ordered l) ((St.ordered l).length : Int) (A.length : Int)) (words l, 0)
  | [], A, h => by
    rw [List.append_nil] at h
    refine Ev.step (f := fun k => some (words l, 0)) (fun k => by simp only [huff_Words.l0]; rw [if_neg (by rw [h]; omega), ← h, arr_all]) (Ev.now _)
  | i :: B, A, h => by
    have hi : i ∈ St.pos l l.length := (ord_mem l i).1 (by rw [h]; simp)
    obtain ⟨i0, i1, ip⟩ := (St.pos_mem l _ i).1 hi
    have e : ((i.toNat : Nat) : Int) = i := Int.toNat_of_nonneg i0
    have hlen : (St.ordered l).length = A.length + B.length + 1 := by rw [h]; simp; omega
    have hle : (St.ordered l).length ≤ 256 := by rw [(St.ordered_perm l).length_eq]; have := St.pos_len l l.length; have := hr.1; omega
    have hrd : rd (St.ordered l) (A.length : Int) = i := by rw [h]; simp [rd]
    have hok := hr.2.1 i.toNat (by omega)
    rw [e] at hok
    have hok' : 0 ≤ rd l i ∧ rd l i ≤ 24 := hok
    have ew : wrap64 (24 - rd l i) = 24 - rd l i := by unfold wrap64; omega
    have hsum : sumw l A + wt (rd l i) ≤ tot l l.length 0 := by
      rw [tot_sum, ← sumw_perm (St.ordered_perm l), h, sumw_append]
      have : sumw l (i :: B) = wt (rd l i) + sumw l B := by unfold sumw; simp
      omega
    have htot := hr.2.2
    have e2 : wrap64 ((sumw l A : Int) + (wt (rd l i) : Int)) = ((sumw l (A ++ [i]) : Nat) : Int) := by
      rw [sumw_append]
      have : sumw l [i] = wt (rd l i) := by unfold sumw; simp
      rw [this]
      unfold wrap64; omega
    have e3 : wrap64 ((A.length : Int) + 1) = (((A ++ [i]).length : Nat) : Int) := by simp; unfold wrap64; omega
    have hword : (⟨shr .i64 (sumw l A : Int) (24 - rd l i), rd l i⟩ : S36) = wordOf l i.toNat := by
      unfold wordOf
      rw [e, if_pos ip, first_of l A B i h]
      congr 1
      unfold shr wt
      rw [if_pos ip, show min (24 - rd l i).toNat IntKind.i64.bits = 24 - (rd l i).toNat by simp [IntKind.bits]; omega, Int.natCast_ediv, Int.natCast_pow]
      rfl
    have ih := words_loop l hr B (A ++ [i]) (by rw [h]; simp)
    refine Ev.step ?_ ih
    intro k
    simp only [huff_Words.l0]
    rw [if_pos (by omega), if_pos (by omega), if_pos (by omega), hrd, if_pos i0, if_pos (by omega), if_pos (by rw [ew]; omega), if_pos (by rw [arr_len]; omega), shl_wt _ ip hok'.2, e2, e3, ew, hword, arr_set l A i i0 (by omega)]

/-- Words tells the words, or refuses -/
theorem words_ev (l : List Int) (hl : l.length ≤ 17592186044416) : (RightP l → Ev (fun k => huff_Words.f k l) (words l, 0)) ∧ (¬ RightP l → Ev (fun k => huff_Words.f k l) ([], 1)) := by
  obtain ⟨b, hb, hiff⟩ := right_ev l hl
  constructor
  · intro hr
    have hbt := hiff.2 hr
    subst hbt
    unfold huff_Words.f
    refine Ev.bind (f := fun k t => _) hb ?_
    have ho : Pl.order.f l = some (St.ordered l) := by unfold Pl.order.f; rw [if_pos hr.1]
    simp only [if_true]
    refine Ev.congr (f := fun k => huff_Words.l0 k l (List.replicate l.length z36) 0 (St.ordered l) ((St.ordered l).length : Int) 0) (fun k => by
      rw [if_pos (by omega), if_pos (by rw [Int.toNat_natCast]; exact hl), ho, Int.toNat_natCast]; rfl) ?_
    rw [arr_nil]
    exact words_loop l hr (St.ordered l) [] rfl
  · intro hr
    have hbf : b = false := by cases b with | false => rfl | true => exact absurd (hiff.1 rfl) hr
    subst hbf
    unfold huff_Words.f
    refine Ev.bind (f := fun k t => _) hb ?_
    exact Ev.now _
end Go.Proofs.Ytgcefofmfeghmaa.Hu
