import Derived.Test.YtkbbjjegpjdpeaaDoorZSu
import Derived.Test.YtkbbjjegpjdpeaaDoorZSv


/- (not yet a claim) StorePurged's walk -/
namespace Go.Proofs.YtkbbjjegpjdpeaaDoor.S
open Go.RowKit Go.Proofs.YtkbbjjegpjdpeaaDoorW.PrintWords Go.Proofs.YtkbbjjegpjdpeaaDoorW.PrintLast Go.Proofs.YtkbbjjegpjdpeaaDoorW.PrintMore Go.Proofs.YtkbbjjegpjdpeaaDoor.G Go.Proofs.YtkbbjjegpjdpeaaDoor.V
set_option linter.unusedVariables false
set_option linter.unusedSimpArgs false
/-- an exchange of a row -/
theorem l5_at {w : World} {base : Nat} {P : Nat → Prop} {A : Option Addr} {c : Nat} {ps : List (S41 × Rf)} (h : L5 w base P A c ps) (i : Nat) (hi : i < ps.length) : ∃ ad x r, A = some ad ∧ ps[i]? = some (x, r) ∧ w.cell? (ad.add (i * 11)) = some (.string x.f0.f0) ∧ w.cell? ⟨(ad.add (i * 11)).block, (ad.add (i * 11)).off + 1, none⟩ = some (.string x.f0.f1) ∧ w.cell? ⟨(ad.add (i * 11)).block, (ad.add (i * 11)).off + 2, none⟩ = some (.string x.f0.f2) ∧ w.cell? ⟨(ad.add (i * 11)).block, (ad.add (i * 11)).off + 3, none⟩ = some (.string x.f0.f3) ∧ w.cell? ⟨(ad.add (i * 11)).block, (ad.add (i * 11)).off + 4, none⟩ = some (.slice r.A4 x.f0.f4.length r.c4) ∧ w.cell? ⟨(ad.add (i * 11)).block, (ad.add (i * 11)).off + 5, none⟩ = some (.slice r.A5 x.f0.f5.length r.c5) ∧ w.cell? ⟨(ad.add (i * 11)).block, (ad.add (i * 11)).off + 6, none⟩ = some (.int .i64 x.f1.f0) ∧ w.cell? ⟨(ad.add (i * 11)).block, (ad.add (i * 11)).off + 7, none⟩ = some (.slice r.A7 x.f1.f1.length r.c7) ∧ w.cell? ⟨(ad.add (i * 11)).block, (ad.add (i * 11)).off + 8, none⟩ = some (.slice r.A8 x.f1.f2.length r.c8) ∧ w.cell? ⟨(ad.add (i * 11)).block, (ad.add (i * 11)).off + 9, none⟩ = some (.int .i64 x.f2) ∧ w.cell? ⟨(ad.add (i * 11)).block, (ad.add (i * 11)).off + 10, none⟩ = some (.int .i64 x.f3) ∧ Ex w P x r := by
  obtain ⟨A', c', e, _, hr⟩ := OwnRow.reads h.row
  cases e
  obtain ⟨ad, e, hc⟩ := hr.2.2 (by omega)
  obtain ⟨cs, hs, hR, hcell⟩ := hc i ps[i] (List.getElem?_eq_getElem hi)
  have hR' : cs = (Vx ps[i].1 ps[i].2).toList := hR
  subst hR'
  have hf : ∀ j, 0 < j → (⟨(ad.add (i * 11)).block, (ad.add (i * 11)).off + j, none⟩ : Addr) = ad.add (i * 11 + j) := fun j hj => (add_field ad (i * 11) j hj).symm
  exact ⟨ad, ps[i].1, ps[i].2, e, List.getElem?_eq_getElem hi, hcell 0 _ rfl, (by rw [hf 1 (by omega)]; exact hcell 1 _ rfl), (by rw [hf 2 (by omega)]; exact hcell 2 _ rfl), (by rw [hf 3 (by omega)]; exact hcell 3 _ rfl), (by rw [hf 4 (by omega)]; exact hcell 4 _ rfl), (by rw [hf 5 (by omega)]; exact hcell 5 _ rfl), (by rw [hf 6 (by omega)]; exact hcell 6 _ rfl), (by rw [hf 7 (by omega)]; exact hcell 7 _ rfl), (by rw [hf 8 (by omega)]; exact hcell 8 _ rfl), (by rw [hf 9 (by omega)]; exact hcell 9 _ rfl), (by rw [hf 10 (by omega)]; exact hcell 10 _ rfl), h.ex _ (List.getElem_mem hi)⟩
theorem blk_bel {W W' : World} {b : Nat} {o : Obj} (hg : Below W.heap.size W W') (hb : W.heap[b]? = some o) : W'.heap[b]? = some o := (hg.block _ (blk_lt' hb)).trans hb
def to35 (y : S41) : S35 := ⟨y.f0, y.f1, y.f2, y.f3⟩
def xs5 (ps : List (S41 × Rf)) : List S35 := ps.map fun p => to35 p.1
theorem L5.C {w : World} {base : Nat} {P : Nat → Prop} {A : Option Addr} {c : Nat} {ps : List (S41 × Rf)} (h : L5 w base P A c ps) : Kd.C k35 w A (xs5 ps).length (xs5 ps) ∧ (xs5 ps).length ≤ c := by
  obtain ⟨A', c', e, hle, hr⟩ := OwnRow.reads h.row
  cases e
  have hl : (xs5 ps).length = ps.length := by simp [xs5]
  refine ⟨⟨rfl, by rw [hl]; exact hr.2.1, fun hp => ?_⟩, by rw [hl]; exact hle⟩
  obtain ⟨ad, e, hc⟩ := hr.2.2 (by omega)
  refine ⟨ad, e, fun j p hj => ?_⟩
  have hj' : j < ps.length := by
    have := (List.getElem?_eq_some_iff.1 hj).1
    omega
  obtain ⟨cs, hs, hR, hcell⟩ := hc j ps[j] (List.getElem?_eq_getElem hj')
  have hR' : cs = (Vx ps[j].1 ps[j].2).toList := hR
  subst hR'
  have hp' : p = to35 ps[j].1 := by
    simp [xs5, List.getElem?_eq_getElem hj'] at hj
    exact hj.symm
  subst hp'
  have hE := h.ex _ (List.getElem_mem hj')
  exact ⟨_, rfl, k35_mk w (to35 ps[j].1) hE.l4 hE.g4 hE.l5 hE.g5 hE.l7 hE.g7 hE.l8 hE.g8, hcell⟩
end Go.Proofs.YtkbbjjegpjdpeaaDoor.S

