import Derived.Test.YtbnhlekehndhkaaGreatDoorZMt
import Derived.Test.YtbnhlekehndhkaaGreatDoorZSv
import Derived.Test.YtbnhlekehndhkaaGreatDoorZPw



/- (not yet a claim) the document's Right and Matches are the program's -/
namespace Go.Proofs.YtbnhlekehndhkaaGreatDoor.S
open Go.RowKit Go.Proofs.YtbnhlekehndhkaaGreatDoorW.PrintWords Go.Proofs.YtbnhlekehndhkaaGreatDoorW.PrintLast Go.Proofs.YtbnhlekehndhkaaGreatDoorW.PrintMore Go.Proofs.YtbnhlekehndhkaaGreatDoor.G Go.Proofs.YtbnhlekehndhkaaGreatDoor.V
set_option linter.unusedVariables false
set_option linter.unusedSimpArgs false
theorem xright_f (x : S34) : turnbuckleref19_Right.f x.f0.f0 x.f0.f1 x.f0.f2 x.f0.f3 x.f0.f4 x.f0.f5 x.f1.f0 x.f1.f1 x.f1.f2 x.f2 x.f3 = some (rightB x) := by
  unfold turnbuckleref19_Right.f turnbuckleref19_Time.f rightB
  by_cases h0 : x.f2 ≥ 0 <;> by_cases h1 : x.f2 ≤ 1099511627776 <;> by_cases h2 : x.f3 ≥ 0 <;> by_cases h3 : x.f3 ≤ 1099511627776 <;> simp [h0, h1, h2, h3] <;> omega
theorem xright_calls (w : World) (P : Nat → Prop) (x : S34) (r : Rf) (h : Ex w P x r) : Calls Tryz.prog 13 #[.agg (Vx x r)] w fun e w' => e = .returned (.bool (rightB x)) ∧ Below w.heap.size w w' :=
  turnbuckleref19_Right.calls _ _ _ _ r.A4 r.c4 _ r.A5 r.c5 _ _ r.A7 r.c7 _ r.A8 r.c8 _ _ _ _ w h.g4 h.l4 h.g5 h.l5 h.g7 h.l7 h.g8 h.l8 (xright_f x)
end Go.Proofs.YtbnhlekehndhkaaGreatDoor.S

