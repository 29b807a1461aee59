import Derived.Test.YtbnhlekehndhkaaGreatDoorYGx0
import Derived.Lib.Hide
import Derived.Outline
import Derived.StillTailTactics




/- An exchange and a request as values: where their slices lie. -/
namespace Go.Proofs.YtbnhlekehndhkaaGreatDoor.S
open Go.RowKit Go.Proofs.YtbnhlekehndhkaaGreatDoorW.PrintWords Go.Proofs.YtbnhlekehndhkaaGreatDoorW.PrintLast Go.Proofs.YtbnhlekehndhkaaGreatDoorW.PrintMore Go.Proofs.YtbnhlekehndhkaaGreatDoor.G
set_option linter.unusedVariables false
set_option linter.unusedSimpArgs false
/-- where an exchange's four slices lie -/
structure Rf where
  A4 : Option Addr
  c4 : Nat
  A5 : Option Addr
  c5 : Nat
  A7 : Option Addr
  c7 : Nat
  A8 : Option Addr
  c8 : Nat
abbrev Vx (x : S34) (r : Rf) : Array Value := #[.string x.f0.f0, .string x.f0.f1, .string x.f0.f2, .string x.f0.f3, .slice r.A4 x.f0.f4.length r.c4, .slice r.A5 x.f0.f5.length r.c5, .int .i64 x.f1.f0, .slice r.A7 x.f1.f1.length r.c7, .slice r.A8 x.f1.f2.length r.c8, .int .i64 x.f2, .int .i64 x.f3]
abbrev at0 (b : Nat) : Addr := ⟨b, 0, none⟩
theorem cells_of {w : World} {g : Nat} {cs : Array Value} {t : Nat} {m : Nat × Nat} (h : w.heap[g]? = some (.cells cs t m)) (j : Nat) : w.cell? ⟨g, j, none⟩ = cs[j]? := by
  simp [World.cell?, h]
theorem fr_of {w : World} {g : Nat} {cs : Array Value} {t : Nat} (h : w.heap[g]? = some (.cells cs t (0, 0))) (j : Nat) : w.frozen? ⟨g, j, none⟩ = false := frozen_of_row w g j cs t h
theorem blk_lt' {w : World} {g : Nat} {o : Obj} (h : w.heap[g]? = some o) : g < w.heap.size := (Array.getElem?_eq_some_iff.1 h).1

theorem set_same {w : World} {g i : Nat} {cs cs' : Array Value} {t : Nat} {v : Value} (hg : w.heap[g]? = some (.cells cs t (0, 0))) (e : cs.setIfInBounds i v = cs') : (w.setCell ⟨g, i, none⟩ v).heap[g]? = some (.cells cs' t (0, 0)) := e ▸ heap_setCell_same w g i cs t v hg
theorem set_other {w : World} {g i k : Nat} {o : Obj} {v : Value} (hk : w.heap[k]? = some o) (h : k ≠ g) : (w.setCell ⟨g, i, none⟩ v).heap[k]? = some o := (heap_setCell_other w ⟨g, i, none⟩ k v h).trans hk
theorem c_of {w : World} {g : Nat} {cs : Array Value} {t : Nat} {m : Nat × Nat} {v : Value} (h : w.heap[g]? = some (.cells cs t m)) (j : Nat) (e : cs[j]? = some v) : w.cell? ⟨g, j, none⟩ = some v := (cells_of h j).trans e
theorem add_block (a : Addr) (n : Nat) : (a.add n).block = a.block := by unfold Addr.add; split <;> rfl
theorem k59_C_keep {w w' : World} {A : Option Addr} {l : List S59} (h : Kd.C k59 w A l.length l) (hk : 0 < l.length → ∀ ad, A = some ad → w'.heap[ad.block]? = w.heap[ad.block]?) : Kd.C k59 w' A l.length l := by
  refine ⟨h.1, h.2.1, fun hn => ?_⟩
  obtain ⟨ad, e, hc⟩ := h.2.2 hn
  refine ⟨ad, e, fun j p hj => ?_⟩
  obtain ⟨c, hs, hK, hcell⟩ := hc j p hj
  obtain rfl := k59_open hK
  refine ⟨_, hs, k59_mk w' p, fun i u hu => ?_⟩
  rw [← hcell i u hu]
  exact World.cell?_of_block (by rw [add_block]; exact hk hn ad e)
theorem u8_C_keep {w w' : World} {A : Option Addr} {l : List Int} (h : Kd.C (Kd.int .u8) w A l.length l) (hk : 0 < l.length → ∀ ad, A = some ad → w'.heap[ad.block]? = w.heap[ad.block]?) : Kd.C (Kd.int .u8) w' A l.length l := by
  refine ⟨h.1, h.2.1, fun hn => ?_⟩
  obtain ⟨ad, e, hc⟩ := h.2.2 hn
  refine ⟨ad, e, fun j p hj => ?_⟩
  obtain ⟨c, hs, hK, hcell⟩ := hc j p hj
  refine ⟨c, hs, hK, fun i u hu => ?_⟩
  rw [← hcell i u hu]
  exact World.cell?_of_block (by rw [add_block]; exact hk hn ad e)

/-- the content of an exchange, in blocks of P -/
structure Ex (w : World) (P : Nat → Prop) (x : S34) (r : Rf) : Prop where
  l4 : x.f0.f4.length ≤ r.c4
  g4 : Kd.C k59 w r.A4 x.f0.f4.length x.f0.f4
  b4 : 0 < x.f0.f4.length → ∀ ad, r.A4 = some ad → P ad.block
  l5 : x.f0.f5.length ≤ r.c5
  g5 : Kd.C (Kd.int .u8) w r.A5 x.f0.f5.length x.f0.f5
  b5 : 0 < x.f0.f5.length → ∀ ad, r.A5 = some ad → P ad.block
  l7 : x.f1.f1.length ≤ r.c7
  g7 : Kd.C k59 w r.A7 x.f1.f1.length x.f1.f1
  b7 : 0 < x.f1.f1.length → ∀ ad, r.A7 = some ad → P ad.block
  l8 : x.f1.f2.length ≤ r.c8
  g8 : Kd.C (Kd.int .u8) w r.A8 x.f1.f2.length x.f1.f2
  b8 : 0 < x.f1.f2.length → ∀ ad, r.A8 = some ad → P ad.block
theorem Ex.keep {w w' : World} {P : Nat → Prop} {x : S34} {r : Rf} (h : Ex w P x r) (hk : ∀ k, P k → w'.heap[k]? = w.heap[k]?) : Ex w' P x r :=
  ⟨h.l4, k59_C_keep h.g4 (fun n ad e => hk _ (h.b4 n ad e)), h.b4, h.l5, u8_C_keep h.g5 (fun n ad e => hk _ (h.b5 n ad e)), h.b5, h.l7, k59_C_keep h.g7 (fun n ad e => hk _ (h.b7 n ad e)), h.b7, h.l8, u8_C_keep h.g8 (fun n ad e => hk _ (h.b8 n ad e)), h.b8⟩
theorem Ex.mono {w : World} {P P' : Nat → Prop} {x : S34} {r : Rf} (h : Ex w P x r) (hk : ∀ k, P k → P' k) : Ex w P' x r :=
  ⟨h.l4, h.g4, fun n ad e => hk _ (h.b4 n ad e), h.l5, h.g5, fun n ad e => hk _ (h.b5 n ad e), h.l7, h.g7, fun n ad e => hk _ (h.b7 n ad e), h.l8, h.g8, fun n ad e => hk _ (h.b8 n ad e)⟩
theorem C_lt {α : Type} {k : Kd α} {w : World} {A : Option Addr} {l : List α} (h : Kd.C k w A l.length l) (hz : 0 < k.sz) (hn : 0 < l.length) (ad : Addr) (e : A = some ad) : ad.block < w.heap.size := by
  obtain ⟨ad', e', hc⟩ := h.2.2 hn
  rw [e] at e'
  obtain rfl := Option.some.inj e'
  obtain ⟨c, hs, _, hcell⟩ := hc 0 l[0] (List.getElem?_eq_getElem hn)
  have := hcell 0 (c[0]'(by omega)) (List.getElem?_eq_getElem (by omega))
  have := block_lt_of_cell this
  rwa [add_block] at this
theorem Ex.lt {w : World} {P : Nat → Prop} {x : S34} {r : Rf} (h : Ex w P x r) : Ex w (fun k => P k ∧ k < w.heap.size) x r :=
  ⟨h.l4, h.g4, fun n ad e => ⟨h.b4 n ad e, C_lt h.g4 (by decide) n ad e⟩, h.l5, h.g5, fun n ad e => ⟨h.b5 n ad e, C_lt h.g5 (by decide) n ad e⟩, h.l7, h.g7, fun n ad e => ⟨h.b7 n ad e, C_lt h.g7 (by decide) n ad e⟩, h.l8, h.g8, fun n ad e => ⟨h.b8 n ad e, C_lt h.g8 (by decide) n ad e⟩⟩
theorem Ex.below {w w' : World} {P : Nat → Prop} {x : S34} {r : Rf} (h : Ex w P x r) (hb : Below w.heap.size w w') : Ex w' P x r :=
  (h.lt.keep (fun k hk => hb.block k hk.2)).mono (fun k hk => hk.1)

abbrev Bx (x : S34) (r : Rf) : Obj := .cells #[.string x.f0.f0, .string x.f0.f1, .string x.f0.f2, .string x.f0.f3, .slice r.A4 x.f0.f4.length r.c4, .slice r.A5 x.f0.f5.length r.c5, .int .i64 x.f1.f0, .slice r.A7 x.f1.f1.length r.c7, .slice r.A8 x.f1.f2.length r.c8, .int .i64 x.f2, .int .i64 x.f3] 34 (0, 0)
theorem bx_cells {W : World} {b : Nat} {x : S34} {r : Rf} (h : W.heap[b]? = some (Bx x r)) :
    W.cell? ⟨b, 0, none⟩ = some (.string x.f0.f0) ∧ W.cell? ⟨b, 1, none⟩ = some (.string x.f0.f1) ∧ W.cell? ⟨b, 2, none⟩ = some (.string x.f0.f2) ∧ W.cell? ⟨b, 3, none⟩ = some (.string x.f0.f3) ∧
    W.cell? ⟨b, 4, none⟩ = some (.slice r.A4 x.f0.f4.length r.c4) ∧ W.cell? ⟨b, 5, none⟩ = some (.slice r.A5 x.f0.f5.length r.c5) ∧ W.cell? ⟨b, 6, none⟩ = some (.int .i64 x.f1.f0) ∧
    W.cell? ⟨b, 7, none⟩ = some (.slice r.A7 x.f1.f1.length r.c7) ∧ W.cell? ⟨b, 8, none⟩ = some (.slice r.A8 x.f1.f2.length r.c8) ∧ W.cell? ⟨b, 9, none⟩ = some (.int .i64 x.f2) ∧ W.cell? ⟨b, 10, none⟩ = some (.int .i64 x.f3) :=
  ⟨c_of h 0 rfl, c_of h 1 rfl, c_of h 2 rfl, c_of h 3 rfl, c_of h 4 rfl, c_of h 5 rfl, c_of h 6 rfl, c_of h 7 rfl, c_of h 8 rfl, c_of h 9 rfl, c_of h 10 rfl⟩
theorem blk_bel {W W' : World} {b : Nat} {o : Obj} (hg : Below W.heap.size W W') (hb : W.heap[b]? = some o) : W'.heap[b]? = some o := (hg.block _ (blk_lt' hb)).trans hb
end Go.Proofs.YtbnhlekehndhkaaGreatDoor.S

