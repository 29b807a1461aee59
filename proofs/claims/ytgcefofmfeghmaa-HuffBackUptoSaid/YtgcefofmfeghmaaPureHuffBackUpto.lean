import Derived.Test.YtgcefofmfeghmaaUptoHuffBack
import Derived.Test.YtgcefofmfeghmaaHuG
/- What is encoded decodes. -/
namespace Go.Proofs.Ytgcefofmfeghmaa.Pure
open Go.RowKit Go.Proofs.Ytgcefofmfeghmaa.G Go.Proofs.YtgcefofmfeghmaaW.PrintWords Go.Proofs.YtgcefofmfeghmaaW.PrintLast Go.Proofs.YtgcefofmfeghmaaW.PrintMore Go.Proofs.Ytgcefofmfeghmaa.Hu
set_option linter.unusedVariables false
theorem HuffBackUpto : turnbucklelaw12_HuffBack.PureU := by
  intro l S hm hl hwf hm1 hS hwf1
  have hby : Bytes S := bytes_wf hwf1
  refine Ev.rounds (g := fun k => turnbucklelaw12_HuffBack.f k l S) ?_
  unfold turnbucklelaw12_HuffBack.f
  obtain ⟨e1, e2⟩ := enc_ev l (by omega) S (by omega) hby
  by_cases c : RightP l ∧ ∀ x ∈ S, Val l x
  · obtain ⟨hr, hv⟩ := c
    obtain ⟨r, q1, q2, q3, p, q4, q5⟩ := e1 hr hv
    refine Ev.bind (f := fun k t => _) q1 ?_
    simp only [if_true]
    obtain ⟨d, h1, -, h3, -⟩ := dec_both l (by omega) r (by omega) q2
    have hd := (h3 hr).trans (back l hr S r p q4 hv q5)
    subst hd
    refine Ev.bind (f := fun k t => _) h1 ?_
    simp only [if_true]
    refine Ev.bind (f := fun k t => _) (same_self S) ?_
    simp only [if_true]
    refine Ev.bind (f := fun k t => _) alive_ev ?_
    exact Ev.now _
  · refine Ev.bind (f := fun k t => _) (e2 c) ?_
    refine Ev.congr (f := fun k => (turnbucklelaw12_alive.f k).bind fun t => some t) (fun k => by simp) ?_
    refine Ev.bind (f := fun k t => _) alive_ev ?_
    exact Ev.now _
end Go.Proofs.Ytgcefofmfeghmaa.Pure
