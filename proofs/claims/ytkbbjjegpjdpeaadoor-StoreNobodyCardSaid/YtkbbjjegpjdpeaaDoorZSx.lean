import Derived.Test.YtkbbjjegpjdpeaaDoorZSw
import Derived.Test.YtkbbjjegpjdpeaaDoorZPw


/- (not yet a claim) the document's Right and Matches are the program's -/
namespace Go.Proofs.YtkbbjjegpjdpeaaDoor.S
open Go.RowKit Go.Proofs.YtkbbjjegpjdpeaaDoorW.PrintWords Go.Proofs.YtkbbjjegpjdpeaaDoorW.PrintLast Go.Proofs.YtkbbjjegpjdpeaaDoorW.PrintMore Go.Proofs.YtkbbjjegpjdpeaaDoor.G Go.Proofs.YtkbbjjegpjdpeaaDoor.V
set_option linter.unusedVariables false
set_option linter.unusedSimpArgs false
/-- One: the same bytes -/
theorem one_calls (w : World) (P P2 : Nat → Prop) (x y : S41) (r s : Rf) (h : Ex w P x r) (h2 : Ex w P2 y s) (hs : Sm x) : Calls Tryd.prog 16 #[.agg (Vx x r), .agg (Vx y s)] w fun e w' => e = .returned (.bool (oneB (to35 x) (to35 y))) ∧ Below w.heap.size w w' := by
  obtain ⟨K, hK⟩ := one_f (to35 x) (to35 y) (sm_len4 hs) (by have := wt_len x.f1.f1; have := hs.a7; show x.f1.f1.length < _; omega)
  exact turnbuckleref20_One.calls K _ _ _ _ r.A4 r.c4 _ r.A5 r.c5 _ _ r.A7 r.c7 _ r.A8 r.c8 _ _ _ _ _ _ _ s.A4 s.c4 _ s.A5 s.c5 _ _ s.A7 s.c7 _ s.A8 s.c8 _ _ _ _ w h.g4 h.l4 h.g5 h.l5 h.g7 h.l7 h.g8 h.l8 h2.g4 h2.l4 h2.g5 h2.l5 h2.g7 h2.l7 h2.g8 h2.l8 (hK K (Nat.le_refl _))
end Go.Proofs.YtkbbjjegpjdpeaaDoor.S

