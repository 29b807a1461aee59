import Derived.Test.YtkbbjjegpjdpeaaDoorZM3

/- (not yet a claim) the law's own rows of exchanges: all -/
namespace Go.Proofs.YtkbbjjegpjdpeaaDoor.S
open Go.RowKit Go.Proofs.YtkbbjjegpjdpeaaDoorW.PrintWords Go.Proofs.YtkbbjjegpjdpeaaDoorW.PrintLast Go.Proofs.YtkbbjjegpjdpeaaDoorW.PrintMore Go.Proofs.YtkbbjjegpjdpeaaDoor.G Go.Proofs.YtkbbjjegpjdpeaaDoor.V
set_option linter.unusedVariables false
set_option linter.unusedSimpArgs false
/-- a row of the document's exchanges, from base on; where its elements' slices lie is of P, below base -/
structure L5 (w : World) (base : Nat) (P : Nat → Prop) (A : Option Addr) (c : Nat) (ps : List (S41 × Rf)) : Prop where
  row : OwnRow RX 35 11 w base (.slice A ps.length c) ps
  ex : ∀ p ∈ ps, Ex w P p.1 p.2
  lo : ∀ k, P k → k < base
theorem own35_move {w w1 : World} {base : Nat} {v : Value} {ps : List (S41 × Rf)} (h : OwnRow RX 35 11 w base v ps) (hm : ∀ k, v.ownBlock = some k → w1.heap[k]? = w.heap[k]?) : OwnRow RX 35 11 w1 base v ps := by
  obtain ⟨inner, ho, hr⟩ := h
  exact ⟨inner, own_move ho hm, hr⟩
theorem L5.grow {w w' : World} {base : Nat} {P : Nat → Prop} {A : Option Addr} {c : Nat} {ps : List (S41 × Rf)} (h : L5 w base P A c ps) (hb : Below w.heap.size w w') : L5 w' base P A c ps :=
  ⟨h.row.below hb, fun p hp => (h.ex p hp).below hb, h.lo⟩
theorem l5_lt {w : World} {base : Nat} {P : Nat → Prop} {A : Option Addr} {c : Nat} {ps : List (S41 × Rf)} (h : L5 w base P A c ps) (ad : Addr) (e : A = some ad) : base ≤ ad.block ∧ ad.block < w.heap.size := by
  obtain ⟨inner, ho, -⟩ := h.row
  subst e
  exact ⟨own_base ho _ rfl, own_lt ho _ rfl⟩
theorem L5.none_ (w : World) (base : Nat) (P : Nat → Prop) (lo : ∀ k, P k → k < base) : L5 w base P none 0 [] := ⟨OwnRow.none_ _ _ _ _ _, (fun p hp => by cases hp), lo⟩
theorem L5.only {w w' : World} {base : Nat} {P S : Nat → Prop} {A : Option Addr} {c : Nat} {ps : List (S41 × Rf)} (h : L5 w base P A c ps) (ho : Only S w w') (h1 : ∀ k, base ≤ k → ¬ S k) (h2 : ∀ k, P k → ¬ S k) : L5 w' base P A c ps :=
  ⟨own35_move h.row (fun k hk => by
    rcases A with _ | ad
    · simp [Value.ownBlock] at hk
    · have hl := l5_lt h ad rfl
      simp only [own_block, Option.some.injEq] at hk
      subst hk
      exact ho.block _ hl.2 (h1 _ hl.1)), fun p hp => (h.ex p hp).only ho h2, h.lo⟩
theorem L5.snoc {w w3 w5 : World} {base : Nat} {P : Nat → Prop} {A A' : Option Addr} {c c' : Nat} {ps : List (S41 × Rf)} {x : S41} {r : Rf} (h : L5 w base P A c ps) (h3 : Below w.heap.size w w3) (hE : Ex w P x r) (hb : base ≤ w.heap.size)
    (hown : OwnRow RX 35 11 w5 base (.slice A' (ps ++ [(x, r)]).length c') (ps ++ [(x, r)])) (hg : (w3.alloc (.cells (Vx x r) 35)).grownBy w5 (Value.slice A ps.length c).ownBlock) : L5 w5 base P A' c' (ps ++ [(x, r)]) := by
  have hs := h3.size
  have keep : ∀ k, k < base → w5.heap[k]? = w.heap[k]? := by
    intro k hk
    rw [hg.block k (by simp; omega) (by
      rcases A with _ | ad
      · simp [Value.ownBlock]
      · have := (l5_lt h ad rfl).1
        simp [Value.ownBlock]; omega), heap_alloc_old _ _ _ (by omega), h3.block k (by omega)]
  refine ⟨hown, fun p hp => ?_, h.lo⟩
  rcases List.mem_append.1 hp with hp | hp
  · exact (h.ex p hp).keep (fun k hk => keep k (h.lo k hk))
  · obtain rfl : p = (x, r) := by simpa using hp
    exact hE.keep (fun k hk => keep k (h.lo k hk))
end Go.Proofs.YtkbbjjegpjdpeaaDoor.S

