import Derived.Test.YtmmommcgjafbbaaDoorXOpen
import Derived.Test.YtmmommcgjafbbaaDoorXGx0


/- A date as it comes in. -/
namespace Go.Proofs.YtmmommcgjafbbaaDoor.Da
open Go.RowKit Go.Proofs.YtmmommcgjafbbaaDoorW.PrintWords Go.Proofs.YtmmommcgjafbbaaDoor.Opn
abbrev kI : Kd Int := Kd.int .i64
abbrev kD : Kd (Int × Int × Int × Int × Int × Int) := Kd.pair kI (Kd.pair kI (Kd.pair kI (Kd.pair kI (Kd.pair kI kI))))
theorem opn23 : Opens Tryd.prog 23 kD (fun _ => True) :=
  opens_mono (opens_struct Tryd.underlying23 (by kernel_rfl) (opensFs_cons rfl (by kernel_rfl) (opens_int Tryd.underlying3) (opensFs_cons rfl (by kernel_rfl) (opens_int Tryd.underlying3) (opensFs_cons rfl (by kernel_rfl) (opens_int Tryd.underlying3) (opensFs_cons rfl (by kernel_rfl) (opens_int Tryd.underlying3) (opensFs_cons rfl (by kernel_rfl) (opens_int Tryd.underlying3) (opensFs_last rfl (by kernel_rfl) (opens_int Tryd.underlying3)))))))) (fun _ _ => trivial)
theorem open_date {w : World} {x : Int × Int × Int × Int × Int × Int} {cs : List Value} (h : kD.K w x cs) : ∃ _ : Unit, cs = [.int .i64 x.1, .int .i64 x.2.1, .int .i64 x.2.2.1, .int .i64 x.2.2.2.1, .int .i64 x.2.2.2.2.1, .int .i64 x.2.2.2.2.2] ∧ True := by
  obtain ⟨_, _, rfl, rfl, _, _, rfl, rfl, _, _, rfl, rfl, _, _, rfl, rfl, _, _, rfl, rfl, rfl⟩ := h
  exact ⟨(), rfl, trivial⟩
end Go.Proofs.YtmmommcgjafbbaaDoor.Da

