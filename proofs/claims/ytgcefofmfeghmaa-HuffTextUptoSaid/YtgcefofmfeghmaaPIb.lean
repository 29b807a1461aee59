import Derived.Test.YtgcefofmfeghmaaGx0
import Derived.Lib.Walk
import Derived.Lib.Bytealg
/- strings.IndexByte's contract, for its callers. -/
namespace Go.Proofs.Ytgcefofmfeghmaa.Pl
open Go.RowKit Go.Proofs.YtgcefofmfeghmaaW.PrintWords Go.Proofs.YtgcefofmfeghmaaW.PrintLast Go.Proofs.YtgcefofmfeghmaaW.PrintMore Go.Proofs.Ytgcefofmfeghmaa.G
set_option linter.unusedVariables false
set_option maxRecDepth 100000 in
theorem lite_calls (s : ByteArray) (c : Int) (w : World) : Calls Try.prog 34 #[.string s, .int .u8 c] w fun e w' => e = .returned (.int .i64 (Lib.indexByte s.data.toList c.toNat.toUInt8)) ∧ w' = w := by
  go_enter Try.func34, Try.ntmps34
  go_wp2
  rw [run_callFunc_extern Try.func41 (by kernel_rfl) (by kernel_rfl) (by kernel_rfl) (e := Extern.BytealgIndexByte.indexByte) (by kernel_rfl), Lib.run_indexByteString]
  simp only [Result.andThen]
  rw [Oper.upon_value]
  go_wp2
  go_ret
  exact ⟨rfl, rfl⟩
def indexByte.f (s : ByteArray) (c : Int) : Option Int := some (Lib.indexByte s.data.toList c.toNat.toUInt8)
theorem indexByte.calls (s : ByteArray) (c : Int) (r : Int) (w : World) (h : indexByte.f s c = some r) : Calls Try.prog 29 #[.string s, .int .u8 c] w fun e w' => e = .returned (.int .i64 r) ∧ Drawn0 w w' := by
  obtain rfl := Option.some.inj h
  go_enter Try.func29, Try.ntmps29
  go_wp2_with (go_at_call 34; refine (lite_calls _ _ _).mono ?_; rintro e w' ⟨rfl, rfl⟩)
  go_ret
  exact ⟨rfl, ⟨0, rfl⟩⟩
end Go.Proofs.Ytgcefofmfeghmaa.Pl
