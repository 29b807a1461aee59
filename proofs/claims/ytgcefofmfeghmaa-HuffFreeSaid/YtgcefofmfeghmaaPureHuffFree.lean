import Derived.Test.YtgcefofmfeghmaaGxf7
import Derived.Test.YtgcefofmfeghmaaHuC
/- No word of a code begins another one, and none is of bits 1 alone: for every list of lengths. -/
namespace Go.Proofs.Ytgcefofmfeghmaa.Pure
open Go.RowKit Go.Proofs.Ytgcefofmfeghmaa.G Go.Proofs.YtgcefofmfeghmaaW.PrintWords Go.Proofs.YtgcefofmfeghmaaW.PrintLast Go.Proofs.YtgcefofmfeghmaaW.PrintMore Go.Proofs.Ytgcefofmfeghmaa.Hu
set_option linter.unusedVariables false

theorem shl1 (n : Int) (h0 : 0 ≤ n) (h1 : n ≤ 24) : shl .i64 1 n = ((2 ^ n.toNat : Nat) : Int) ∧ 2 ^ n.toNat ≤ 16777216 := by
  have hb : 2 ^ n.toNat ≤ 2 ^ 24 := Nat.pow_le_pow_right (by decide) (by omega)
  have hp : (2 : Int) ^ n.toNat = ((2 ^ n.toNat : Nat) : Int) := by rw [Int.natCast_pow]; rfl
  have h24 : 2 ^ 24 = 16777216 := by decide
  rw [h24] at hb
  refine ⟨?_, hb⟩
  unfold shl
  rw [show min n.toNat IntKind.i64.bits = n.toNat by simp [IntKind.bits]; omega, Int.one_mul, hp, IntKind.wrap_i64]
  clear hp
  generalize (2 ^ n.toNat : Nat) = P at hb ⊢
  omega

theorem free_inner (l : List Int) (hr : RightP l) (i : Nat) (hi : i < l.length) (hout : Ev (fun k => turnbucklelaw12_HuffFree.l0 k l (words l) (words l) (l.length : Int) ((i + 1 : Nat) : Int)) true) :
    ∀ (d j : Nat), j + d = l.length → Ev (fun k => turnbucklelaw12_HuffFree.l1 k l (words l) (i : Int) (words l) (l.length : Int) (i : Int) (words l) (l.length : Int) (j : Int) (wordOf l i).f0 (wordOf l i).f1) true
  | 0, j, h => by
    have e : wrap64 ((i : Int) + 1) = ((i + 1 : Nat) : Int) := by have := hr.1; unfold wrap64; omega
    refine Ev.step ?_ hout
    intro k
    simp only [turnbucklelaw12_HuffFree.l1]
    rw [if_neg (by omega), e]
  | d + 1, j, h => by
    have hl := hr.1
    have ej : wrap64 ((j : Int) + 1) = ((j + 1 : Nat) : Int) := by unfold wrap64; omega
    have ih := free_inner l hr i hi hout d (j + 1) (by omega)
    refine Ev.step ?_ ih
    intro k
    simp only [turnbucklelaw12_HuffFree.l1]
    rw [if_pos (by omega), if_pos (by omega), if_pos (by rw [words_len]; omega), words_at l j (by omega), ej]
    by_cases hij : (i : Int) = (j : Int)
    · rw [if_pos hij]
    · rw [if_neg hij]
      by_cases hp : 0 < rd l (i : Int)
      · rw [wordOf_pos l i hp]
        simp only
        rw [if_pos (by omega)]
        have hokj : 0 ≤ rd l (j : Int) ∧ rd l (j : Int) ≤ 24 := hr.2.1 j (by omega)
        by_cases hle : rd l (i : Int) ≤ rd l (j : Int)
        · rw [wordOf_pos l j (by omega)]
          simp only
          have ew : wrap64 (rd l (j : Int) - rd l (i : Int)) = rd l (j : Int) - rd l (i : Int) := by unfold wrap64; omega
          rw [if_pos (by omega), if_pos (by rw [ew]; omega), if_neg]
          rw [ew]
          unfold shr
          rw [show min (rd l (j : Int) - rd l (i : Int)).toNat IntKind.i64.bits = (rd l (j : Int)).toNat - (rd l (i : Int)).toNat by simp [IntKind.bits]; omega]
          intro he
          refine no_begin l hr i j hi (by omega) (by omega) hp hle ?_
          have h2 : ((bitsN l j / 2 ^ ((rd l (j : Int)).toNat - (rd l (i : Int)).toNat) : Nat) : Int) = (bitsN l i : Int) := by
            rw [Int.natCast_ediv, Int.natCast_pow]; exact he
          exact Int.ofNat_inj.1 h2
        · have hf : (wordOf l j).f1 = if 0 < rd l (j : Int) then rd l (j : Int) else 0 := by
            unfold wordOf; split <;> rfl
          rw [if_neg (by rw [hf]; split <;> omega)]
      · have hw : wordOf l i = z36 := by unfold wordOf; rw [if_neg hp]
        rw [hw]
        rw [if_neg (by show ¬ (0 : Int) > 0; omega)]

theorem free_outer (l : List Int) (hr : RightP l) : ∀ (d i : Nat), i + d = l.length → Ev (fun k => turnbucklelaw12_HuffFree.l0 k l (words l) (words l) (l.length : Int) (i : Int)) true
  | 0, i, h => by
    refine Ev.step (f := fun k => (turnbucklelaw12_alive.f k).bind fun t => some t) (fun k => by simp only [turnbucklelaw12_HuffFree.l0]; rw [if_neg (by omega)]) ?_
    refine Ev.bind (f := fun k t => _) alive_ev ?_
    exact Ev.now _
  | d + 1, i, h => by
    have hl := hr.1
    have hi : i < l.length := by omega
    have hout := free_outer l hr d (i + 1) (by omega)
    have hin := free_inner l hr i hi hout l.length 0 (by omega)
    have hok : 0 ≤ rd l (i : Int) ∧ rd l (i : Int) ≤ 24 := hr.2.1 i hi
    refine Ev.step (f := fun k => turnbucklelaw12_HuffFree.j1 k l (words l) (i : Int) (words l) (l.length : Int) (i : Int) false (wordOf l i).f0 (wordOf l i).f1) ?_ (Ev.step ?_ hin)
    · intro k
      simp only [turnbucklelaw12_HuffFree.l0]
      rw [if_pos (by omega), if_pos (by omega), if_pos (by rw [words_len]; omega), if_pos (by omega), words_at l i hi]
      by_cases hp : 0 < rd l (i : Int)
      · obtain ⟨e1, e2⟩ := shl1 (rd l (i : Int)) hok.1 hok.2
        have hlt := bitsN_lt l hr i hi hp
        rw [wordOf_pos l i hp]
        simp only
        rw [if_pos trivial, if_neg (by omega), if_neg (by omega), if_neg (by omega), if_pos (by omega), e1, if_neg (by omega), if_pos (by omega)]
        congr 1
        rw [beq_eq_false_iff_ne]
        clear e1
        generalize (2 ^ (rd l (i : Int)).toNat : Nat) = P at *
        unfold wrap64
        omega
      · have hz : rd l (i : Int) = 0 := by omega
        have hw : wordOf l i = z36 := by unfold wordOf; rw [if_neg hp]
        rw [hw]
        show (if (0 : Int) = rd l (i : Int) then _ else _) = _
        rw [if_pos (by omega)]
        show (if (0 : Int) < 0 then _ else if (0 : Int) > 24 then _ else if (0 : Int) < 0 then _ else if 0 ≤ (0 : Int) then (if (0 : Int) ≥ shl .i64 1 0 then _ else if (0 : Int) > 0 then _ else _) else _) = _
        rw [if_neg (by omega), if_neg (by omega), if_neg (by omega), if_pos (by omega), if_neg (by rw [(shl1 0 (by omega) (by omega)).1]; decide), if_neg (by omega)]
    · intro k
      simp only [turnbucklelaw12_HuffFree.j1]
      rw [words_len]
      rfl

theorem HuffFree : turnbucklelaw12_HuffFree.Pure := by
  intro l hm h8 hwf
  have hl : l.length ≤ 17592186044416 := by omega
  refine Ev.rounds (g := fun k => turnbucklelaw12_HuffFree.f k l) ?_
  unfold turnbucklelaw12_HuffFree.f
  by_cases hr : RightP l
  · refine Ev.bind (f := fun k t => _) ((words_ev l hl).1 hr) ?_
    simp only [if_true]
    rw [words_len]
    simp only [if_true]
    exact free_outer l hr l.length 0 (by omega)
  · refine Ev.bind (f := fun k t => _) ((words_ev l hl).2 hr) ?_
    refine Ev.congr (f := fun k => (turnbucklelaw12_alive.f k).bind fun t => some t) (fun k => by simp) ?_
    refine Ev.bind (f := fun k t => _) alive_ev ?_
    exact Ev.now _
end Go.Proofs.Ytgcefofmfeghmaa.Pure
