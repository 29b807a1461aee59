import Derived.Test.YtbnhlekehndhkaaGreatDoorYFB

/- One span of a range: part. -/
namespace Go.Proofs.YtbnhlekehndhkaaGreatDoor.Fb
open Go.RowKit Go.Proofs.YtbnhlekehndhkaaGreatDoorW.PrintWords Go.Proofs.YtbnhlekehndhkaaGreatDoorW.PrintLast Go.Proofs.YtbnhlekehndhkaaGreatDoorW.PrintMore Go.Proofs.YtbnhlekehndhkaaGreatDoor.G
set_option linter.unusedVariables false
set_option linter.unusedSimpArgs false
theorem cells_of {w : World} {g : Nat} {cs : Array Value} {t : Nat} {m : Nat × Nat} (h : w.heap[g]? = some (.cells cs t m)) (j : Nat) : w.cell? ⟨g, j, none⟩ = cs[j]? := by simp [World.cell?, h]
theorem c_of {w : World} {g : Nat} {cs : Array Value} {t : Nat} {m : Nat × Nat} {v : Value} (h : w.heap[g]? = some (.cells cs t m)) (j : Nat) (e : cs[j]? = some v) : w.cell? ⟨g, j, none⟩ = some v := (cells_of h j).trans e
theorem fr_of {w : World} {g : Nat} {cs : Array Value} {t : Nat} (h : w.heap[g]? = some (.cells cs t (0, 0))) (j : Nat) : w.frozen? ⟨g, j, none⟩ = false := frozen_of_row w g j cs t h
theorem blk_lt {w : World} {g : Nat} {o : Obj} (h : w.heap[g]? = some o) : g < w.heap.size := (Array.getElem?_eq_some_iff.1 h).1
theorem blk_bel {W W' : World} {b : Nat} {o : Obj} (hg : Below W.heap.size W W') (hb : W.heap[b]? = some o) : W'.heap[b]? = some o := (hg.block _ (blk_lt hb)).trans hb
theorem set_same {w : World} {g i : Nat} {cs cs' : Array Value} {t : Nat} {v : Value} (hg : w.heap[g]? = some (.cells cs t (0, 0))) (e : cs.setIfInBounds i v = cs') : (w.setCell ⟨g, i, none⟩ v).heap[g]? = some (.cells cs' t (0, 0)) := e ▸ heap_setCell_same w g i cs t v hg
theorem cut_len (l : List UInt8) (c : List UInt8) : (Lib.cut l c).1.length ≤ l.length ∧ (Lib.cut l c).2.1.length ≤ l.length := by
  unfold Lib.cut
  split
  · exact ⟨by simp only [List.length_take]; omega, by simp only [List.length_drop]; omega⟩
  · exact ⟨Nat.le_refl _, by simp⟩
end Go.Proofs.YtbnhlekehndhkaaGreatDoor.Fb

