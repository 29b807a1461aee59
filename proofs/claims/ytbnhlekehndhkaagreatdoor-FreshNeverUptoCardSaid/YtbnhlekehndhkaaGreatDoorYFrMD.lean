import Derived.Test.YtbnhlekehndhkaaGreatDoorYFrTL
import Derived.Test.YtbnhlekehndhkaaGreatDoorYRD

/- FreshAges: its walk. -/
namespace Go.Proofs.YtbnhlekehndhkaaGreatDoor.Fr
open Go.RowKit Go.Proofs.YtbnhlekehndhkaaGreatDoorW.PrintWords Go.Proofs.YtbnhlekehndhkaaGreatDoorW.PrintLast Go.Proofs.YtbnhlekehndhkaaGreatDoorW.PrintMore Go.Proofs.YtbnhlekehndhkaaGreatDoor.G Go.Proofs.YtbnhlekehndhkaaGreatDoor.V Go.Proofs.YtbnhlekehndhkaaGreatDoor.S
set_option linter.unusedVariables false
set_option linter.unusedSimpArgs false
abbrev Br (x : S34) (r : Rf) : Obj := .cells #[.string x.f0.f0, .string x.f0.f1, .string x.f0.f2, .string x.f0.f3, .slice r.A4 x.f0.f4.length r.c4, .slice r.A5 x.f0.f5.length r.c5, .int .i64 x.f1.f0, .slice r.A7 x.f1.f1.length r.c7, .slice r.A8 x.f1.f2.length r.c8, .int .i64 x.f2, .int .i64 x.f3] 29 (0, 0)
theorem bxr_cells {W : World} {b : Nat} {x : S34} {r : Rf} (h : W.heap[b]? = some (Br x r)) : W.cell? ⟨b, 0, none⟩ = some (.string x.f0.f0) ∧ W.cell? ⟨b, 1, none⟩ = some (.string x.f0.f1) ∧ W.cell? ⟨b, 2, none⟩ = some (.string x.f0.f2) ∧ W.cell? ⟨b, 3, none⟩ = some (.string x.f0.f3) ∧ W.cell? ⟨b, 4, none⟩ = some (.slice r.A4 x.f0.f4.length r.c4) ∧ W.cell? ⟨b, 5, none⟩ = some (.slice r.A5 x.f0.f5.length r.c5) ∧ W.cell? ⟨b, 6, none⟩ = some (.int .i64 x.f1.f0) ∧ W.cell? ⟨b, 7, none⟩ = some (.slice r.A7 x.f1.f1.length r.c7) ∧ W.cell? ⟨b, 8, none⟩ = some (.slice r.A8 x.f1.f2.length r.c8) ∧ W.cell? ⟨b, 9, none⟩ = some (.int .i64 x.f2) ∧ W.cell? ⟨b, 10, none⟩ = some (.int .i64 x.f3) :=
  ⟨c_of h 0 rfl, c_of h 1 rfl, c_of h 2 rfl, c_of h 3 rfl, c_of h 4 rfl, c_of h 5 rfl, c_of h 6 rfl, c_of h 7 rfl, c_of h 8 rfl, c_of h 9 rfl, c_of h 10 rfl⟩
end Go.Proofs.YtbnhlekehndhkaaGreatDoor.Fr



/- Two variables of the document's directives. -/
namespace Go.Proofs.YtbnhlekehndhkaaGreatDoor.Fr
open Go.RowKit Go.Proofs.YtbnhlekehndhkaaGreatDoorW.PrintWords Go.Proofs.YtbnhlekehndhkaaGreatDoorW.PrintLast Go.Proofs.YtbnhlekehndhkaaGreatDoorW.PrintMore Go.Proofs.YtbnhlekehndhkaaGreatDoor.G Go.Proofs.YtbnhlekehndhkaaGreatDoor.V Go.Proofs.YtbnhlekehndhkaaGreatDoor.S
set_option linter.unusedVariables false
set_option linter.unusedSimpArgs false
structure AtD (W1 : World) (d7 d8 : Bool) (a b : Nat) (w : World) : Prop where
  bel : Below W1.heap.size W1 w
  h7 : d7 = true → w.heap[a]? = some (.cells Fb.ZZ42 41 (0, 0))
  g7 : d7 = true → W1.heap.size ≤ a
  h8 : d8 = true → w.heap[b]? = some (.cells Fb.ZZ42 41 (0, 0))
  g8 : d8 = true → W1.heap.size ≤ b
  ne : d7 = true → d8 = true → a ≠ b
theorem AtD.start (W1 : World) : AtD W1 false false 0 0 W1.drew := ⟨below_drew (Below.refl _ _), (fun h => by cases h), (fun h => by cases h), (fun h => by cases h), (fun h => by cases h), (fun h => by cases h)⟩
theorem AtD.step {W1 : World} {d7 d8 : Bool} {a b : Nat} {w w' : World} (h : AtD W1 d7 d8 a b w) (hb : Below w.heap.size w w') : AtD W1 d7 d8 a b w' :=
  ⟨below_step h.bel hb, fun e => blk_bel hb (h.h7 e), h.g7, fun e => blk_bel hb (h.h8 e), h.g8, h.ne⟩
theorem AtD.new7 {W1 : World} {d8 : Bool} {a b : Nat} {w : World} (h : AtD W1 false d8 a b w) : AtD W1 true d8 w.heap.size b (w.alloc (.cells Fb.ZZ42 41)) :=
  ⟨below_alloc h.bel _, fun _ => heap_alloc_new _ _, fun _ => h.bel.size, fun e => blk_bel (below_alloc (Below.refl _ _) _) (h.h8 e), h.g8, fun _ e => by have := blk_lt' (h.h8 e); omega⟩
theorem AtD.new8 {W1 : World} {d7 : Bool} {a b : Nat} {w : World} (h : AtD W1 d7 false a b w) : AtD W1 d7 true a w.heap.size (w.alloc (.cells Fb.ZZ42 41)) :=
  ⟨below_alloc h.bel _, fun e => blk_bel (below_alloc (Below.refl _ _) _) (h.h7 e), h.g7, fun _ => heap_alloc_new _ _, fun _ => h.bel.size, fun e _ => by have := blk_lt' (h.h7 e); omega⟩
theorem AtD.ge7 {W1 : World} {d8 : Bool} {a b : Nat} {w : World} (h : AtD W1 true d8 a b w) {j : Nat} : W1.heap.size ≤ (⟨a, j, none⟩ : Addr).block := h.g7 rfl
theorem AtD.ge8 {W1 : World} {d7 : Bool} {a b : Nat} {w : World} (h : AtD W1 d7 true a b w) {j : Nat} : W1.heap.size ≤ (⟨b, j, none⟩ : Addr).block := h.g8 rfl
theorem rdirs_of (A0 : Option Addr) (c0 : Nat) (l0 : List S59) (w : World) (hr0 : Kd.C k59 w A0 l0.length l0) (hc0 : l0.length ≤ c0) (hw : wt l0 < 268435456) :
    Calls Tryz.prog 20 #[.slice A0 l0.length c0] w fun e w' => e = .returned (.agg (dirsOf l0).cells) ∧ Below w.heap.size w w' := Rb.rdirs_q A0 c0 l0 w hr0 hc0 hw
end Go.Proofs.YtbnhlekehndhkaaGreatDoor.Fr

