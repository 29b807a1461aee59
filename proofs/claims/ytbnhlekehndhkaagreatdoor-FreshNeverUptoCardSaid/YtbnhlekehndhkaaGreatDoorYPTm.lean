import Derived.Test.YtbnhlekehndhkaaGreatDoorYSh
import Derived.Test.YtbnhlekehndhkaaGreatDoorYGx0


/- strings.Trim at the gaps and at the digits, strings.CutPrefix: their contracts, for their callers. -/
namespace Go.Proofs.YtbnhlekehndhkaaGreatDoor.Pl
open Go.RowKit Go.Proofs.YtbnhlekehndhkaaGreatDoorW.PrintWords Go.Proofs.YtbnhlekehndhkaaGreatDoorW.PrintLast Go.Proofs.YtbnhlekehndhkaaGreatDoorW.PrintMore Go.Proofs.YtbnhlekehndhkaaGreatDoor.G
def digs : List UInt8 := [48, 49, 50, 51, 52, 53, 54, 55, 56, 57]
def trimmed (s : ByteArray) : ByteArray := ⟨(Lib.trimS s.data.toList [32, 9]).toArray⟩
def trim.f (s c : ByteArray) : Option ByteArray := if c.data.toList = [32, 9] ∧ s.size ≤ 140737488355328 then some (trimmed s) else none
theorem trim.calls (s c r : ByteArray) (w : World) (h : trim.f s c = some r) : Calls Tryz.prog 76 #[.string s, .string c] w fun e w' => e = .returned (.string r) ∧ Below w.heap.size w w' := by
  unfold trim.f at h
  split at h
  · rename_i hs
    obtain rfl := Option.some.inj h
    obtain ⟨h1, h2⟩ := hs
    obtain ⟨⟨l⟩⟩ := c
    simp only at h1
    subst h1
    exact Tryz.strings_Trim_gaps s w (by omega)
  · cases h
def cutPrefix.f (s p : ByteArray) : Option (ByteArray × Bool) := some (⟨(Lib.trimPrefix s.data.toList p.data.toList).toArray⟩, Lib.hasPrefix s.data.toList p.data.toList)
theorem cutPrefix.calls (s p : ByteArray) (r1 : ByteArray) (r2 : Bool) (w : World) (h : cutPrefix.f s p = some (r1, r2)) : Calls Tryz.prog 100 #[.string s, .string p] w fun e w' => e = .returned (.tuple #[.string r1, .bool r2]) ∧ Below w.heap.size w w' := by
  simp only [cutPrefix.f, Option.some.injEq, Prod.mk.injEq] at h
  obtain ⟨rfl, rfl⟩ := h
  exact (Tryz.strings_CutPrefix s p w).mono fun e w' h => ⟨h.1, by rw [h.2]; exact Below.refl _ _⟩
end Go.Proofs.YtbnhlekehndhkaaGreatDoor.Pl

