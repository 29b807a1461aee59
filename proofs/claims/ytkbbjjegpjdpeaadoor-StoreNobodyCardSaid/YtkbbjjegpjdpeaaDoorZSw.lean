import Derived.Test.YtkbbjjegpjdpeaaDoorZSu
import Derived.Test.YtkbbjjegpjdpeaaDoorZSv


/- (not yet a claim) StorePurged's walk -/
namespace Go.Proofs.YtkbbjjegpjdpeaaDoor.S
open Go.RowKit Go.Proofs.YtkbbjjegpjdpeaaDoorW.PrintWords Go.Proofs.YtkbbjjegpjdpeaaDoorW.PrintLast Go.Proofs.YtkbbjjegpjdpeaaDoorW.PrintMore Go.Proofs.YtkbbjjegpjdpeaaDoor.G Go.Proofs.YtkbbjjegpjdpeaaDoor.V
set_option linter.unusedVariables false
set_option linter.unusedSimpArgs false
theorem blk_bel {W W' : World} {b : Nat} {o : Obj} (hg : Below W.heap.size W W') (hb : W.heap[b]? = some o) : W'.heap[b]? = some o := (hg.block _ (blk_lt' hb)).trans hb
def to35 (y : S41) : S35 := ⟨y.f0, y.f1, y.f2, y.f3⟩
def xs5 (ps : List (S41 × Rf)) : List S35 := ps.map fun p => to35 p.1
theorem L5.C {w : World} {base : Nat} {P : Nat → Prop} {A : Option Addr} {c : Nat} {ps : List (S41 × Rf)} (h : L5 w base P A c ps) : Kd.C k35 w A (xs5 ps).length (xs5 ps) ∧ (xs5 ps).length ≤ c := by
  obtain ⟨A', c', e, hle, hr⟩ := OwnRow.reads h.row
  cases e
  have hl : (xs5 ps).length = ps.length := by simp [xs5]
  refine ⟨⟨rfl, by rw [hl]; exact hr.2.1, fun hp => ?_⟩, by rw [hl]; exact hle⟩
  obtain ⟨ad, e, hc⟩ := hr.2.2 (by omega)
  refine ⟨ad, e, fun j p hj => ?_⟩
  have hj' : j < ps.length := by
    have := (List.getElem?_eq_some_iff.1 hj).1
    omega
  obtain ⟨cs, hs, hR, hcell⟩ := hc j ps[j] (List.getElem?_eq_getElem hj')
  have hR' : cs = (Vx ps[j].1 ps[j].2).toList := hR
  subst hR'
  have hp' : p = to35 ps[j].1 := by
    simp [xs5, List.getElem?_eq_getElem hj'] at hj
    exact hj.symm
  subst hp'
  have hE := h.ex _ (List.getElem_mem hj')
  exact ⟨_, rfl, k35_mk w (to35 ps[j].1) hE.l4 hE.g4 hE.l5 hE.g5 hE.l7 hE.g7 hE.l8 hE.g8, hcell⟩
end Go.Proofs.YtkbbjjegpjdpeaaDoor.S

