import Derived.Test.YtkbbjjegpjdpeaaDoorZPTr
import Derived.Test.YtkbbjjegpjdpeaaDoorZGx0


/- strings.Trim at the gaps: its contract, for its callers. -/
namespace Go.Proofs.YtkbbjjegpjdpeaaDoor.Pl
open Go.RowKit Go.Proofs.YtkbbjjegpjdpeaaDoorW.PrintWords Go.Proofs.YtkbbjjegpjdpeaaDoorW.PrintLast Go.Proofs.YtkbbjjegpjdpeaaDoorW.PrintMore Go.Proofs.YtkbbjjegpjdpeaaDoor.G
def trimmed (s : ByteArray) : ByteArray := ⟨(Lib.trimS s.data.toList [32, 9]).toArray⟩
def trim.f (s c : ByteArray) : Option ByteArray := if c.data.toList = [32, 9] ∧ s.size ≤ 140737488355328 then some (trimmed s) else none
theorem trim.calls (s c r : ByteArray) (w : World) (h : trim.f s c = some r) : Calls Tryd.prog 68 #[.string s, .string c] w fun e w' => e = .returned (.string r) ∧ Below w.heap.size w w' := by
  unfold trim.f at h
  split at h
  · rename_i hs
    obtain rfl := Option.some.inj h
    obtain ⟨h1, h2⟩ := hs
    obtain ⟨⟨l⟩⟩ := c
    simp only at h1
    subst h1
    exact Tryd.strings_Trim_gaps s w (by omega)
  · cases h
end Go.Proofs.YtkbbjjegpjdpeaaDoor.Pl

