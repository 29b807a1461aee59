import Derived.Test.YtbnhlekehndhkaaGreatDoorYDaS2

/- One text, one number; alive. -/
namespace Go.Proofs.YtbnhlekehndhkaaGreatDoor.Da
open Go.RowKit Go.Proofs.YtbnhlekehndhkaaGreatDoorW.PrintWords Go.Proofs.YtbnhlekehndhkaaGreatDoorW.PrintLast Go.Proofs.YtbnhlekehndhkaaGreatDoorW.PrintMore Go.Proofs.YtbnhlekehndhkaaGreatDoor.G
set_option linter.unusedVariables false
set_option linter.unusedSimpArgs false
theorem text_inj {s : ByteArray} {n n' : Int} (t : Text s n) (t' : Text s n') : n = n' := by
  obtain ⟨y, M, d, h, mi, sc, wd, t⟩ := t
  obtain ⟨y', M', d', h', mi', sc', wd', t'⟩ := t'
  have hP : Lib.splitB ⟨#[32]⟩ 0 (Lib.countB s ⟨#[32]⟩) s = [_, _, _, _, _, _] := t.split.2.2
  have e1 := Text.list t hP
  have e2 := Text.list t' hP
  have e3 := Text.vals t
  rw [e1.symm.trans e2, Text.vals t'] at e3
  simp only [List.cons.injEq, Lib.NumEnd.ok.injEq, and_true] at e3
  have e4 := (Text.pieces t hP).2.1
  have e5 := (Text.pieces t' hP).2.1
  have hM : M < 12 := by have := t.ok.1.2.2.2.1; omega
  have hM' : M' < 12 := by have := t'.ok.1.2.2.2.1; omega
  have e6 := idx_mons M hM
  rw [← e4, e5, idx_mons M' hM'] at e6
  obtain ⟨a, b, c, d, e⟩ := e3
  rw [← t.nu, ← t'.nu, a, b, c, d, e, e6]
theorem text_29 {s : ByteArray} {n : Int} (t : Text s n) : s.size = 29 := by
  obtain ⟨y, M, d, h, mi, sc, wd, t⟩ := t
  exact t.split.1
end Go.Proofs.YtbnhlekehndhkaaGreatDoor.Da

