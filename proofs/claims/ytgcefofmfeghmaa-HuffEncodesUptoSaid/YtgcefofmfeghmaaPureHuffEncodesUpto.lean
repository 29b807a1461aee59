import Derived.Test.YtgcefofmfeghmaaUptoHuffEncodes
import Derived.Test.YtgcefofmfeghmaaHuH
/- Encode is the document's. -/
namespace Go.Proofs.Ytgcefofmfeghmaa.Pure
open Go.RowKit Go.Proofs.Ytgcefofmfeghmaa.G Go.Proofs.YtgcefofmfeghmaaW.PrintWords Go.Proofs.YtgcefofmfeghmaaW.PrintLast Go.Proofs.YtgcefofmfeghmaaW.PrintMore Go.Proofs.Ytgcefofmfeghmaa.Hu
set_option linter.unusedVariables false
theorem HuffEncodesUpto : turnbucklelaw12_HuffEncodes.PureU := by
  intro l S hm hl hwf hm1 hS hwf1
  have hby : Bytes S := bytes_wf hwf1
  refine Ev.rounds (g := fun k => turnbucklelaw12_HuffEncodes.f k l S) ?_
  unfold turnbucklelaw12_HuffEncodes.f
  obtain ⟨e1, e2⟩ := enc_ev l (by omega) S (by omega) hby
  obtain ⟨f1, f2⟩ := renc_ev l (by omega) S (by omega) hby
  have key : ∃ r, Ev (fun k => huff_Encode.f k l S) r ∧ Ev (fun k => turnbuckleref12_Encode.f k l S) r := by
    by_cases c : RightP l ∧ ∀ x ∈ S, Val l x
    · obtain ⟨hr, hv⟩ := c
      obtain ⟨r, q1, q2, q3, p, q4, q5⟩ := e1 hr hv
      obtain ⟨r', q1', q2', p', q4', q5'⟩ := f1 hr hv
      have h1 := congrArg List.length q5
      have h2 := congrArg List.length q5'
      rw [Mp.bitsOf_len, List.length_append, List.length_replicate] at h1 h2
      have hp : p = p' := by omega
      subst hp
      have := bitsOf_inj r r' q2 q2' (q5.trans q5'.symm)
      subst this
      exact ⟨_, q1, q1'⟩
    · exact ⟨_, e2 c, f2 c⟩
  obtain ⟨r, h1, h2⟩ := key
  refine Ev.bind (f := fun k t => _) h1 ?_
  refine Ev.bind (f := fun k t => _) h2 ?_
  refine Ev.bind (f := fun k t => _) (same_self r.1) ?_
  simp only [if_true]
  refine Ev.bind (f := fun k t => _) alive_ev ?_
  exact Ev.now _
end Go.Proofs.Ytgcefofmfeghmaa.Pure
