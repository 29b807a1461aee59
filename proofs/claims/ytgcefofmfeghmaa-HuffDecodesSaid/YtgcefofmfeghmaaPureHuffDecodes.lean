import Derived.Test.YtgcefofmfeghmaaGxf4
import Derived.Test.YtgcefofmfeghmaaHuE
/- Decode is the document's. -/
namespace Go.Proofs.Ytgcefofmfeghmaa.Pure
open Go.RowKit Go.Proofs.Ytgcefofmfeghmaa.G Go.Proofs.YtgcefofmfeghmaaW.PrintWords Go.Proofs.YtgcefofmfeghmaaW.PrintLast Go.Proofs.YtgcefofmfeghmaaW.PrintMore Go.Proofs.Ytgcefofmfeghmaa.Hu
set_option linter.unusedVariables false
theorem HuffDecodes : turnbucklelaw12_HuffDecodes.Pure := by
  intro l l1 hm h8 hwf hm1 h81 hwf1
  have hl : l.length ≤ 17592186044416 := by omega
  refine Ev.rounds (g := fun k => turnbucklelaw12_HuffDecodes.f k l l1) ?_
  unfold turnbucklelaw12_HuffDecodes.f
  by_cases c : (l1.length : Int) > 3000
  · simp only [if_pos c]
    refine Ev.bind (f := fun k t => _) alive_ev ?_
    exact Ev.now _
  · simp only [if_neg c]
    obtain ⟨r, h1, h2, -, -⟩ := dec_both l hl l1 (by omega) (bytes_wf hwf1)
    refine Ev.bind (f := fun k t => _) h1 ?_
    refine Ev.bind (f := fun k t => _) h2 ?_
    refine Ev.bind (f := fun k t => _) (same_self r.1) ?_
    simp only [if_true]
    refine Ev.bind (f := fun k t => _) alive_ev ?_
    exact Ev.now _
end Go.Proofs.Ytgcefofmfeghmaa.Pure
