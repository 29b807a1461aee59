import Derived.Test.YtgcefofmfeghmaaUptoHuffOne
import Derived.Test.YtgcefofmfeghmaaHuG
/- What decodes is what is encoded. -/
namespace Go.Proofs.Ytgcefofmfeghmaa.Pure
open Go.RowKit Go.Proofs.Ytgcefofmfeghmaa.G Go.Proofs.YtgcefofmfeghmaaW.PrintWords Go.Proofs.YtgcefofmfeghmaaW.PrintLast Go.Proofs.YtgcefofmfeghmaaW.PrintMore Go.Proofs.Ytgcefofmfeghmaa.Hu
set_option linter.unusedVariables false
theorem HuffOneUpto : turnbucklelaw12_HuffOne.PureU := by
  intro l l1 hm hl hwf hm1 hS hwf1
  have hby : Bytes l1 := bytes_wf hwf1
  refine Ev.rounds (g := fun k => turnbucklelaw12_HuffOne.f k l l1) ?_
  unfold turnbucklelaw12_HuffOne.f
  obtain ⟨d, h1, -, h3, h4⟩ := dec_both l (by omega) l1 (by omega) hby
  refine Ev.bind (f := fun k t => _) h1 ?_
  by_cases c : d.2 = 0
  · simp only [if_pos c]
    have hr : RightP l := by
      by_cases hr : RightP l
      · exact hr
      · rw [h4 hr] at c; cases c
    have hd := h3 hr
    obtain ⟨S, e⟩ := d
    simp only at c
    subst c
    obtain ⟨hv, hlen⟩ := dec_val l hr l1 S hd.symm
    have hSb : Bytes S := fun x hx => by
      obtain ⟨a, b, -⟩ := hv x hx
      have := hr.1
      omega
    obtain ⟨r, q1, q2, q3, p, q4, q5⟩ := (enc_ev l (by omega) S (by omega) hSb).1 hr hv
    have h := one l hr l1 S r p q4 hby q2 hd.symm q5
    subst h
    refine Ev.bind (f := fun k t => _) q1 ?_
    simp only [if_true]
    refine Ev.bind (f := fun k t => _) (same_self l1) ?_
    simp only [if_true]
    refine Ev.bind (f := fun k t => _) alive_ev ?_
    exact Ev.now _
  · have hn : d.1 = [] := by
      by_cases hr : RightP l
      · rw [h3 hr] at c ⊢; exact fin_err _ c
      · rw [h4 hr]
    simp only [if_neg c, hn]
    refine Ev.congr (f := fun k => (turnbucklelaw12_alive.f k).bind fun t => some t) (fun k => by simp) ?_
    refine Ev.bind (f := fun k t => _) alive_ev ?_
    exact Ev.now _
end Go.Proofs.Ytgcefofmfeghmaa.Pure
