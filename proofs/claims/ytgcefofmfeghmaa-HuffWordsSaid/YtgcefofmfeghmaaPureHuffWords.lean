import Derived.Test.YtgcefofmfeghmaaGxf8
import Derived.Test.YtgcefofmfeghmaaHuD
import Derived.KernelRfl
/- Words, Right and Fields are the document's: for every list of lengths. -/
namespace Go.Proofs.Ytgcefofmfeghmaa.Pure
open Go.RowKit Go.Proofs.Ytgcefofmfeghmaa.G Go.Proofs.YtgcefofmfeghmaaW.PrintWords Go.Proofs.YtgcefofmfeghmaaW.PrintLast Go.Proofs.YtgcefofmfeghmaaW.PrintMore Go.Proofs.Ytgcefofmfeghmaa.Hu
set_option linter.unusedVariables false

theorem rword_of (l : List Int) (i : Nat) : (⟨(wordOf l i).f0, (wordOf l i).f1⟩ : S53) = rword l i := by
  unfold wordOf rword bitsN
  split <;> rfl
theorem ours_from (l : List Int) (hl : l.length ≤ 256) : ∀ (d i : Nat) (A : List S53), i + d = l.length → A = (rwords l).take i → Ev (fun k => turnbucklelaw12_ours.l0 k A (words l) (l.length : Int) (i : Int)) (rwords l)
  | 0, i, A, h, hA => by
    refine Ev.step (f := fun k => some (rwords l)) (fun k => ?_) (Ev.now _)
    simp only [turnbucklelaw12_ours.l0]
    rw [if_neg (by omega), hA, List.take_of_length_le (by unfold rwords; simp; omega)]
  | d + 1, i, A, h, hA => by
    have hi : i < l.length := by omega
    have e1 : wrap64 ((i : Int) + 1) = ((i + 1 : Nat) : Int) := by unfold wrap64; omega
    have hAl : A.length ≤ 256 := by rw [hA, List.length_take]; omega
    have hA' : A ++ [rword l i] = (rwords l).take (i + 1) := by
      rw [List.take_add_one, hA]
      congr 1
      unfold rwords
      simp [hi]
    refine Ev.step (fun k => ?_) (ours_from l hl d (i + 1) _ (by omega) hA')
    simp only [turnbucklelaw12_ours.l0]
    rw [if_pos (by omega), if_pos (by omega), if_pos (by rw [words_len]; omega), if_pos (by omega), words_at l i hi, rword_of, e1]
theorem same_from (L : List S53) (hl : L.length ≤ 1000000) : ∀ (d i : Nat), i + d = L.length → Ev (fun k => turnbuckleref12_Same.l0 k L L (i : Int)) true
  | 0, i, h => by
    refine Ev.step (f := fun k => some true) (fun k => ?_) (Ev.now _)
    simp only [turnbuckleref12_Same.l0]
    rw [if_neg (by omega)]
  | d + 1, i, h => by
    have e1 : wrap64 ((i : Int) + 1) = ((i + 1 : Nat) : Int) := by unfold wrap64; omega
    refine Ev.step (fun k => ?_) (same_from L hl d (i + 1) (by omega))
    simp only [turnbuckleref12_Same.l0]
    rw [if_pos (by omega), if_pos (by omega), if_pos (by omega), e1]
    simp
theorem same53 (L : List S53) (hl : L.length ≤ 1000000) : Ev (fun k => turnbuckleref12_Same.f k L L) true := by
  refine Ev.congr (fun k => ?_) (same_from L hl L.length 0 (by omega))
  unfold turnbuckleref12_Same.f
  rw [if_pos rfl]
  rfl
def FL : List Int := (huff_Fields.f 400).getD []
theorem fl_eq : huff_Fields.f 400 = some FL := by kernel_rfl
theorem rfl_eq : turnbuckleref12_Fields.f 800 = some FL := by kernel_rfl
theorem fl_same : turnbuckleref01_Ints.f 400 FL FL = some true := by kernel_rfl
theorem HuffWords : turnbucklelaw12_HuffWords.Pure := by
  intro l hm h8 hwf
  have hl : l.length ≤ 17592186044416 := by omega
  refine Ev.rounds (g := fun k => turnbucklelaw12_HuffWords.f k l) ?_
  unfold turnbucklelaw12_HuffWords.f
  obtain ⟨b, hb, hiff⟩ := right_ev l hl
  obtain ⟨b', hb', hiff'⟩ := rright_ev l
  have hbb : b' = b := by
    cases b <;> cases b' <;> simp_all
  subst hbb
  have tail : Ev (fun k => (huff_Right.f k l).bind fun t312 => ((turnbuckleref12_Right.f k l).bind fun t313 => (if (t312 == t313) = true then ((huff_Fields.f k).bind fun t314 => ((turnbuckleref12_Fields.f k).bind fun t317 => ((turnbuckleref01_Ints.f k t314 t317).bind fun t320 => (if t320 = true then ((turnbucklelaw12_alive.f k).bind fun t321 => (some t321)) else (some false))))) else (some false)))) true := by
    refine Ev.bind (f := fun k t => _) hb ?_
    refine Ev.bind (f := fun k t => _) hb' ?_
    simp only [beq_self_eq_true, if_true]
    refine Ev.bind (f := fun k t => _) (a := FL) ⟨400, fun k hk => at_rounds (fun k => huff_Fields.mono k) hk fl_eq⟩ ?_
    refine Ev.bind (f := fun k t => _) (a := FL) ⟨800, fun k hk => at_rounds (fun k => turnbuckleref12_Fields.mono k) hk rfl_eq⟩ ?_
    refine Ev.bind (f := fun k t => _) (a := true) ⟨400, fun k hk => at_rounds (fun k => turnbuckleref01_Ints.mono FL FL k) hk fl_same⟩ ?_
    simp only [if_true]
    refine Ev.bind (f := fun k t => _) alive_ev ?_
    exact Ev.now _
  by_cases hr : RightP l
  · refine Ev.bind (f := fun k t => _) ((words_ev l hl).1 hr) ?_
    refine Ev.bind (f := fun k t => _) ((rwords_ev l hl).1 hr) ?_
    refine Ev.bind (f := fun k t => _) (a := rwords l) (g := fun k => turnbucklelaw12_ours.f k (words l)) ?_ ?_
    · unfold turnbucklelaw12_ours.f
      rw [words_len]
      exact ours_from l hr.1 l.length 0 [] (by omega) rfl
    refine Ev.bind (f := fun k t => _) (same53 (rwords l) (by unfold rwords; have := hr.1; simp; omega)) ?_
    simp only [if_true]
    exact tail
  · refine Ev.bind (f := fun k t => _) ((words_ev l hl).2 hr) ?_
    refine Ev.bind (f := fun k t => _) ((rwords_ev l hl).2 hr) ?_
    refine Ev.bind (f := fun k t => _) (a := ([] : List S53)) (g := fun k => turnbucklelaw12_ours.f k []) ?_ ?_
    · unfold turnbucklelaw12_ours.f
      refine Ev.step (f := fun k => some []) (fun k => ?_) (Ev.now _)
      simp only [turnbucklelaw12_ours.l0]
      rfl
    refine Ev.bind (f := fun k t => _) (same53 [] (by simp)) ?_
    simp only [if_true]
    exact tail
end Go.Proofs.Ytgcefofmfeghmaa.Pure
