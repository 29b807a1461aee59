import Derived.Test.YtbnhlekehndhkaaGreatDoorYFrY
import Derived.Test.YtbnhlekehndhkaaGreatDoorYFrK
import Derived.Test.YtbnhlekehndhkaaGreatDoorYGx0
import Derived.Test.YtbnhlekehndhkaaGreatDoorYMt
import Derived.Test.YtbnhlekehndhkaaGreatDoorYSv
import Derived.Test.YtbnhlekehndhkaaGreatDoorYPw

/- theirs: the same exchange. -/
namespace Go.Proofs.YtbnhlekehndhkaaGreatDoor.Fr
open Go.RowKit Go.Proofs.YtbnhlekehndhkaaGreatDoorW.PrintWords Go.Proofs.YtbnhlekehndhkaaGreatDoorW.PrintLast Go.Proofs.YtbnhlekehndhkaaGreatDoorW.PrintMore Go.Proofs.YtbnhlekehndhkaaGreatDoor.G Go.Proofs.YtbnhlekehndhkaaGreatDoor.V Go.Proofs.YtbnhlekehndhkaaGreatDoor.S
set_option linter.unusedVariables false
set_option linter.unusedSimpArgs false
theorem frz {w : World} {g : Nat} {cs : Array Value} {t : Nat} (h : w.heap[g]? = some (.cells cs t (0, 0))) (j : Nat) : w.frozen? ⟨g, j, none⟩ = false := frozen_of_row w g j cs t h
theorem put11 {W : World} {g t : Nat} {z0 z1 z2 z3 z4 z5 z6 z7 z8 z9 z10 : Value} (h : W.heap[g]? = some (.cells #[z0, z1, z2, z3, z4, z5, z6, z7, z8, z9, z10] t (0, 0))) (v0 v1 v2 v3 v4 v5 v6 v7 v8 v9 v10 : Value) :
    (((((((((((W.setCell ⟨g, 0, none⟩ (v0)).setCell ⟨g, 1, none⟩ (v1)).setCell ⟨g, 2, none⟩ (v2)).setCell ⟨g, 3, none⟩ (v3)).setCell ⟨g, 4, none⟩ (v4)).setCell ⟨g, 5, none⟩ (v5)).setCell ⟨g, 6, none⟩ (v6)).setCell ⟨g, 7, none⟩ (v7)).setCell ⟨g, 8, none⟩ (v8)).setCell ⟨g, 9, none⟩ (v9)).setCell ⟨g, 10, none⟩ (v10)).heap[g]? = some (.cells #[v0, v1, v2, v3, v4, v5, v6, v7, v8, v9, v10] t (0, 0)) := by
  have h0 : (W.setCell ⟨g, 0, none⟩ v0).heap[g]? = some (.cells #[v0, z1, z2, z3, z4, z5, z6, z7, z8, z9, z10] t (0, 0)) := set_same h rfl
  have h1 : ((W.setCell ⟨g, 0, none⟩ v0).setCell ⟨g, 1, none⟩ v1).heap[g]? = some (.cells #[v0, v1, z2, z3, z4, z5, z6, z7, z8, z9, z10] t (0, 0)) := set_same h0 rfl
  have h2 : (((W.setCell ⟨g, 0, none⟩ v0).setCell ⟨g, 1, none⟩ v1).setCell ⟨g, 2, none⟩ v2).heap[g]? = some (.cells #[v0, v1, v2, z3, z4, z5, z6, z7, z8, z9, z10] t (0, 0)) := set_same h1 rfl
  have h3 : ((((W.setCell ⟨g, 0, none⟩ v0).setCell ⟨g, 1, none⟩ v1).setCell ⟨g, 2, none⟩ v2).setCell ⟨g, 3, none⟩ v3).heap[g]? = some (.cells #[v0, v1, v2, v3, z4, z5, z6, z7, z8, z9, z10] t (0, 0)) := set_same h2 rfl
  have h4 : (((((W.setCell ⟨g, 0, none⟩ v0).setCell ⟨g, 1, none⟩ v1).setCell ⟨g, 2, none⟩ v2).setCell ⟨g, 3, none⟩ v3).setCell ⟨g, 4, none⟩ v4).heap[g]? = some (.cells #[v0, v1, v2, v3, v4, z5, z6, z7, z8, z9, z10] t (0, 0)) := set_same h3 rfl
  have h5 : ((((((W.setCell ⟨g, 0, none⟩ v0).setCell ⟨g, 1, none⟩ v1).setCell ⟨g, 2, none⟩ v2).setCell ⟨g, 3, none⟩ v3).setCell ⟨g, 4, none⟩ v4).setCell ⟨g, 5, none⟩ v5).heap[g]? = some (.cells #[v0, v1, v2, v3, v4, v5, z6, z7, z8, z9, z10] t (0, 0)) := set_same h4 rfl
  have h6 : (((((((W.setCell ⟨g, 0, none⟩ v0).setCell ⟨g, 1, none⟩ v1).setCell ⟨g, 2, none⟩ v2).setCell ⟨g, 3, none⟩ v3).setCell ⟨g, 4, none⟩ v4).setCell ⟨g, 5, none⟩ v5).setCell ⟨g, 6, none⟩ v6).heap[g]? = some (.cells #[v0, v1, v2, v3, v4, v5, v6, z7, z8, z9, z10] t (0, 0)) := set_same h5 rfl
  have h7 : ((((((((W.setCell ⟨g, 0, none⟩ v0).setCell ⟨g, 1, none⟩ v1).setCell ⟨g, 2, none⟩ v2).setCell ⟨g, 3, none⟩ v3).setCell ⟨g, 4, none⟩ v4).setCell ⟨g, 5, none⟩ v5).setCell ⟨g, 6, none⟩ v6).setCell ⟨g, 7, none⟩ v7).heap[g]? = some (.cells #[v0, v1, v2, v3, v4, v5, v6, v7, z8, z9, z10] t (0, 0)) := set_same h6 rfl
  have h8 : (((((((((W.setCell ⟨g, 0, none⟩ v0).setCell ⟨g, 1, none⟩ v1).setCell ⟨g, 2, none⟩ v2).setCell ⟨g, 3, none⟩ v3).setCell ⟨g, 4, none⟩ v4).setCell ⟨g, 5, none⟩ v5).setCell ⟨g, 6, none⟩ v6).setCell ⟨g, 7, none⟩ v7).setCell ⟨g, 8, none⟩ v8).heap[g]? = some (.cells #[v0, v1, v2, v3, v4, v5, v6, v7, v8, z9, z10] t (0, 0)) := set_same h7 rfl
  have h9 : ((((((((((W.setCell ⟨g, 0, none⟩ v0).setCell ⟨g, 1, none⟩ v1).setCell ⟨g, 2, none⟩ v2).setCell ⟨g, 3, none⟩ v3).setCell ⟨g, 4, none⟩ v4).setCell ⟨g, 5, none⟩ v5).setCell ⟨g, 6, none⟩ v6).setCell ⟨g, 7, none⟩ v7).setCell ⟨g, 8, none⟩ v8).setCell ⟨g, 9, none⟩ v9).heap[g]? = some (.cells #[v0, v1, v2, v3, v4, v5, v6, v7, v8, v9, z10] t (0, 0)) := set_same h8 rfl
  have h10 : (((((((((((W.setCell ⟨g, 0, none⟩ v0).setCell ⟨g, 1, none⟩ v1).setCell ⟨g, 2, none⟩ v2).setCell ⟨g, 3, none⟩ v3).setCell ⟨g, 4, none⟩ v4).setCell ⟨g, 5, none⟩ v5).setCell ⟨g, 6, none⟩ v6).setCell ⟨g, 7, none⟩ v7).setCell ⟨g, 8, none⟩ v8).setCell ⟨g, 9, none⟩ v9).setCell ⟨g, 10, none⟩ v10).heap[g]? = some (.cells #[v0, v1, v2, v3, v4, v5, v6, v7, v8, v9, v10] t (0, 0)) := set_same h9 rfl
  exact h10
set_option maxRecDepth 100000 in
set_option maxHeartbeats 4000000 in
theorem theirs_q (w : World) (x : S34) (r : Rf) : Calls Tryz.prog 17 #[.agg (Vx x r)] w fun e w' => e = .returned (.agg (Vx x r)) ∧ Below w.heap.size w w' := by
  obtain ⟨W0, hW0⟩ : ∃ W, W = (w.alloc (.cells (Vx x r) 29)).alloc (.cells #[.string ⟨#[]⟩, .string ⟨#[]⟩, .string ⟨#[]⟩, .string ⟨#[]⟩, .slice none 0 0, .slice none 0 0, .int .i64 0, .slice none 0 0, .slice none 0 0, .int .i64 0, .int .i64 0] 34) := ⟨_, rfl⟩
  have HB0 : Hid (Below w.heap.size w W0) := Lib.hid (by rw [hW0]; exact below_alloc (below_alloc (Below.refl _ _) _) _)
  have HX0 : Hid (W0.heap[w.heap.size]? = some (.cells (Vx x r) 29 (0, 0))) := Lib.hid (by rw [hW0, heap_alloc_old _ _ (by simp)]; exact heap_alloc_new w _)
  have HQ0 : Hid (W0.heap[w.heap.size + 1]? = some (.cells #[.string ⟨#[]⟩, .string ⟨#[]⟩, .string ⟨#[]⟩, .string ⟨#[]⟩, .slice none 0 0, .slice none 0 0, .int .i64 0, .slice none 0 0, .slice none 0 0, .int .i64 0, .int .i64 0] 34 (0, 0))) := Lib.hid (by
    have := heap_alloc_new (w.alloc (.cells (Vx x r) 29)) (.cells #[.string ⟨#[]⟩, .string ⟨#[]⟩, .string ⟨#[]⟩, .string ⟨#[]⟩, .slice none 0 0, .slice none 0 0, .int .i64 0, .slice none 0 0, .slice none 0 0, .int .i64 0, .int .i64 0] 34)
    rw [World.size_alloc] at this
    rw [hW0]; exact this)
  have HEQ := Lib.hid hW0
  clear hW0
  have l0 := c_of HX0.out 0 (v := .string x.f0.f0) rfl
  have l1 := c_of HX0.out 1 (v := .string x.f0.f1) rfl
  have l2 := c_of HX0.out 2 (v := .string x.f0.f2) rfl
  have l3 := c_of HX0.out 3 (v := .string x.f0.f3) rfl
  have l4 := c_of HX0.out 4 (v := .slice r.A4 x.f0.f4.length r.c4) rfl
  have l5 := c_of HX0.out 5 (v := .slice r.A5 x.f0.f5.length r.c5) rfl
  have l6 := c_of HX0.out 6 (v := .int .i64 x.f1.f0) rfl
  have l7 := c_of HX0.out 7 (v := .slice r.A7 x.f1.f1.length r.c7) rfl
  have l8 := c_of HX0.out 8 (v := .slice r.A8 x.f1.f2.length r.c8) rfl
  have l9 := c_of HX0.out 9 (v := .int .i64 x.f2) rfl
  have l10 := c_of HX0.out 10 (v := .int .i64 x.f3) rfl
  have z0 := c_of HQ0.out 0 (v := .string ⟨#[]⟩) rfl
  have z1 := c_of HQ0.out 1 (v := .string ⟨#[]⟩) rfl
  have z2 := c_of HQ0.out 2 (v := .string ⟨#[]⟩) rfl
  have z3 := c_of HQ0.out 3 (v := .string ⟨#[]⟩) rfl
  have z4 := c_of HQ0.out 4 (v := .slice none 0 0) rfl
  have z5 := c_of HQ0.out 5 (v := .slice none 0 0) rfl
  have z6 := c_of HQ0.out 6 (v := .int .i64 0) rfl
  have z7 := c_of HQ0.out 7 (v := .slice none 0 0) rfl
  have z8 := c_of HQ0.out 8 (v := .slice none 0 0) rfl
  have z9 := c_of HQ0.out 9 (v := .int .i64 0) rfl
  have z10 := c_of HQ0.out 10 (v := .int .i64 0) rfl
  have y0 := frz HQ0.out 0
  have y1 := frz HQ0.out 1
  have y2 := frz HQ0.out 2
  have y3 := frz HQ0.out 3
  have y4 := frz HQ0.out 4
  have y5 := frz HQ0.out 5
  have y6 := frz HQ0.out 6
  have y7 := frz HQ0.out 7
  have y8 := frz HQ0.out 8
  have y9 := frz HQ0.out 9
  have y10 := frz HQ0.out 10
  go_enter Tryz.func17, Tryz.ntmps17
  go_upto_region 1 with fail
  rw [← HEQ.out]
  go_wp2
  have hp := put11 HQ0.out (.string x.f0.f0) (.string x.f0.f1) (.string x.f0.f2) (.string x.f0.f3) (.slice r.A4 x.f0.f4.length r.c4) (.slice r.A5 x.f0.f5.length r.c5) (.int .i64 x.f1.f0) (.slice r.A7 x.f1.f1.length r.c7) (.slice r.A8 x.f1.f2.length r.c8) (.int .i64 x.f2) (.int .i64 x.f3)
  obtain ⟨W9, hW9⟩ : ∃ W, W = (((((((((((W0.setCell ⟨w.heap.size + 1, 0, none⟩ (.string x.f0.f0)).setCell ⟨w.heap.size + 1, 1, none⟩ (.string x.f0.f1)).setCell ⟨w.heap.size + 1, 2, none⟩ (.string x.f0.f2)).setCell ⟨w.heap.size + 1, 3, none⟩ (.string x.f0.f3)).setCell ⟨w.heap.size + 1, 4, none⟩ (.slice r.A4 x.f0.f4.length r.c4)).setCell ⟨w.heap.size + 1, 5, none⟩ (.slice r.A5 x.f0.f5.length r.c5)).setCell ⟨w.heap.size + 1, 6, none⟩ (.int .i64 x.f1.f0)).setCell ⟨w.heap.size + 1, 7, none⟩ (.slice r.A7 x.f1.f1.length r.c7)).setCell ⟨w.heap.size + 1, 8, none⟩ (.slice r.A8 x.f1.f2.length r.c8)).setCell ⟨w.heap.size + 1, 9, none⟩ (.int .i64 x.f2)).setCell ⟨w.heap.size + 1, 10, none⟩ (.int .i64 x.f3)) := ⟨_, rfl⟩
  rw [← hW9] at hp ⊢
  have hb : Below w.heap.size w W9 := by
    rw [hW9]
    exact (Below.setCell (Below.setCell (Below.setCell (Below.setCell (Below.setCell (Below.setCell (Below.setCell (Below.setCell (Below.setCell (Below.setCell (Below.setCell HB0.out (p := ⟨w.heap.size + 1, 0, none⟩) (by simp) _) (p := ⟨w.heap.size + 1, 1, none⟩) (by simp) _) (p := ⟨w.heap.size + 1, 2, none⟩) (by simp) _) (p := ⟨w.heap.size + 1, 3, none⟩) (by simp) _) (p := ⟨w.heap.size + 1, 4, none⟩) (by simp) _) (p := ⟨w.heap.size + 1, 5, none⟩) (by simp) _) (p := ⟨w.heap.size + 1, 6, none⟩) (by simp) _) (p := ⟨w.heap.size + 1, 7, none⟩) (by simp) _) (p := ⟨w.heap.size + 1, 8, none⟩) (by simp) _) (p := ⟨w.heap.size + 1, 9, none⟩) (by simp) _) (p := ⟨w.heap.size + 1, 10, none⟩) (by simp) _)
  exact bodyPost_ret (v := .agg (Vx x r)) (by simp [results, Tryz.results17, go_sem, c_of hp 0 (v := .string x.f0.f0) rfl, c_of hp 1 (v := .string x.f0.f1) rfl, c_of hp 2 (v := .string x.f0.f2) rfl, c_of hp 3 (v := .string x.f0.f3) rfl, c_of hp 4 (v := .slice r.A4 x.f0.f4.length r.c4) rfl, c_of hp 5 (v := .slice r.A5 x.f0.f5.length r.c5) rfl, c_of hp 6 (v := .int .i64 x.f1.f0) rfl, c_of hp 7 (v := .slice r.A7 x.f1.f1.length r.c7) rfl, c_of hp 8 (v := .slice r.A8 x.f1.f2.length r.c8) rfl, c_of hp 9 (v := .int .i64 x.f2) rfl, c_of hp 10 (v := .int .i64 x.f3) rfl]) rfl ⟨rfl, hb⟩
end Go.Proofs.YtbnhlekehndhkaaGreatDoor.Fr





/- alive; the document's Time. -/
namespace Go.Proofs.YtbnhlekehndhkaaGreatDoor.Fr
open Go.RowKit Go.Proofs.YtbnhlekehndhkaaGreatDoorW.PrintWords Go.Proofs.YtbnhlekehndhkaaGreatDoorW.PrintLast Go.Proofs.YtbnhlekehndhkaaGreatDoorW.PrintMore Go.Proofs.YtbnhlekehndhkaaGreatDoor.G Go.Proofs.YtbnhlekehndhkaaGreatDoor.V Go.Proofs.YtbnhlekehndhkaaGreatDoor.S
set_option linter.unusedVariables false
set_option linter.unusedSimpArgs false
theorem C_one59 {w : World} {g : Nat} {a b : ByteArray} (h : w.heap[g]? = some (.cells #[.string a, .string b] 59 (0, 0))) : Kd.C k59 w (some ⟨g, 0, none⟩) [(⟨a, b⟩ : S59)].length [⟨a, b⟩] := by
  refine ⟨rfl, by simp only [List.length_cons, List.length_nil]; decide, fun _ => ⟨⟨g, 0, none⟩, rfl, fun j p hj => ?_⟩⟩
  rcases j with _ | j
  · obtain rfl := Option.some.inj hj
    refine ⟨[.string a, .string b], rfl, ⟨[.string a], [.string b], rfl, rfl, rfl⟩, fun i v hi => ?_⟩
    rcases i with _ | _ | i
    · obtain rfl := Option.some.inj hi; exact c_of h 0 rfl
    · obtain rfl := Option.some.inj hi; exact c_of h 1 rfl
    · simp at hi
  · simp at hj
def AQ : S25 := ⟨⟨#[71, 69, 84]⟩, ⟨#[104, 116, 116, 112, 115]⟩, ⟨#[97]⟩, ⟨#[47]⟩, [], []⟩
def AF : S59 := ⟨⟨#[99, 97, 99, 104, 101, 45, 99, 111, 110, 116, 114, 111, 108]⟩, ⟨#[109, 97, 120, 45, 97, 103, 101, 61, 54, 48]⟩⟩
def AX : S34 := ⟨AQ, ⟨200, [AF], []⟩, 100, 100⟩

def AR (g : Nat) : Rf := ⟨none, 0, none, 0, some ⟨g, 0, none⟩, 1, none, 0⟩
theorem ax_keep : keepN AX = true := by decide +kernel
theorem ax_age : ageN AX 150 = 50 := by decide +kernel
theorem ax_v1 : verdN AX AQ 150 = 1 := by decide +kernel
theorem ax_v2 : verdN AX AQ 161 = 0 := by decide +kernel
theorem ax_m : matchB AX AQ = true := by decide +kernel
theorem ax_wt : wt AX.f1.f1 < 268435456 := by decide +kernel
theorem none_C {α : Type} (k : Kd α) (w : World) : Kd.C k w none ([] : List α).length [] := ⟨rfl, by simp, fun h => absurd h (by simp)⟩
theorem ax_ex (w : World) (g : Nat) (h : w.heap[g]? = some (.cells #[.string ⟨#[99, 97, 99, 104, 101, 45, 99, 111, 110, 116, 114, 111, 108]⟩, .string ⟨#[109, 97, 120, 45, 97, 103, 101, 61, 54, 48]⟩] 59 (0, 0))) : Ex w (fun _ => True) AX (AR g) :=
  ⟨Nat.le_refl _, none_C _ _, fun _ _ _ => trivial, Nat.le_refl _, none_C _ _, fun _ _ _ => trivial, Nat.le_refl _, C_one59 h, fun _ _ _ => trivial, Nat.le_refl _, none_C _ _, fun _ _ _ => trivial⟩
set_option maxRecDepth 100000 in
set_option maxHeartbeats 8000000 in
theorem alive_q (w : World) (hG : Da.Glob w) : Calls Tryz.prog 15 #[] w fun e w' => e = .returned (.bool true) ∧ Below w.heap.size w w' := by
  obtain ⟨W0, hW0⟩ : ∃ W, W = ((w.alloc (.cells #[.string ⟨#[71, 69, 84]⟩, .string ⟨#[104, 116, 116, 112, 115]⟩, .string ⟨#[97]⟩, .string ⟨#[47]⟩, .slice none 0 0, .slice none 0 0] 25)).alloc (.cells #[.string ⟨#[99, 97, 99, 104, 101, 45, 99, 111, 110, 116, 114, 111, 108]⟩, .string ⟨#[109, 97, 120, 45, 97, 103, 101, 61, 54, 48]⟩] 59)).alloc (.cells #[.string ⟨#[71, 69, 84]⟩, .string ⟨#[104, 116, 116, 112, 115]⟩, .string ⟨#[97]⟩, .string ⟨#[47]⟩, .slice none 0 0, .slice none 0 0, .int .i64 200, .slice (some ⟨w.heap.size + 1, 0, none⟩) 1 1, .slice none 0 0, .int .i64 100, .int .i64 100] 34) := ⟨_, rfl⟩
  have HB0 : Hid (Below w.heap.size w W0) := Lib.hid (by rw [hW0]; exact below_alloc (below_alloc (below_alloc (Below.refl _ _) _) _) _)
  have HQ0 : Hid (W0.heap[w.heap.size]? = some (.cells #[.string ⟨#[71, 69, 84]⟩, .string ⟨#[104, 116, 116, 112, 115]⟩, .string ⟨#[97]⟩, .string ⟨#[47]⟩, .slice none 0 0, .slice none 0 0] 25 (0, 0))) := Lib.hid (by rw [hW0, heap_alloc_old _ _ (by simp; omega), heap_alloc_old _ _ (by simp)]; exact heap_alloc_new w _)
  have HF0 : Hid (W0.heap[w.heap.size + 1]? = some (.cells #[.string ⟨#[99, 97, 99, 104, 101, 45, 99, 111, 110, 116, 114, 111, 108]⟩, .string ⟨#[109, 97, 120, 45, 97, 103, 101, 61, 54, 48]⟩] 59 (0, 0))) := Lib.hid (by
    have := heap_alloc_new (w.alloc (.cells #[.string ⟨#[71, 69, 84]⟩, .string ⟨#[104, 116, 116, 112, 115]⟩, .string ⟨#[97]⟩, .string ⟨#[47]⟩, .slice none 0 0, .slice none 0 0] 25)) (.cells #[.string ⟨#[99, 97, 99, 104, 101, 45, 99, 111, 110, 116, 114, 111, 108]⟩, .string ⟨#[109, 97, 120, 45, 97, 103, 101, 61, 54, 48]⟩] 59)
    rw [World.size_alloc] at this
    rw [hW0, heap_alloc_old _ _ (by simp)]; exact this)
  have HX0 : Hid (W0.heap[w.heap.size + 1 + 1]? = some (Bx AX (AR (w.heap.size + 1)))) := Lib.hid (by
    have := heap_alloc_new ((w.alloc (.cells #[.string ⟨#[71, 69, 84]⟩, .string ⟨#[104, 116, 116, 112, 115]⟩, .string ⟨#[97]⟩, .string ⟨#[47]⟩, .slice none 0 0, .slice none 0 0] 25)).alloc (.cells #[.string ⟨#[99, 97, 99, 104, 101, 45, 99, 111, 110, 116, 114, 111, 108]⟩, .string ⟨#[109, 97, 120, 45, 97, 103, 101, 61, 54, 48]⟩] 59)) (.cells #[.string ⟨#[71, 69, 84]⟩, .string ⟨#[104, 116, 116, 112, 115]⟩, .string ⟨#[97]⟩, .string ⟨#[47]⟩, .slice none 0 0, .slice none 0 0, .int .i64 200, .slice (some ⟨w.heap.size + 1, 0, none⟩) 1 1, .slice none 0 0, .int .i64 100, .int .i64 100] 34)
    simp only [World.size_alloc] at this
    rw [hW0]; exact this)
  have hE := ax_ex W0 (w.heap.size + 1) HF0.out
  have HEQ := Lib.hid hW0
  have HG := Lib.hid hG
  have HKE : Hid (∀ W, Below W0.heap.size W0 W → Calls Tryz.prog 22 #[.agg #[.string ⟨#[71, 69, 84]⟩, .string ⟨#[104, 116, 116, 112, 115]⟩, .string ⟨#[97]⟩, .string ⟨#[47]⟩, .slice none 0 0, .slice none 0 0, .int .i64 200, .slice (some ⟨w.heap.size + 1, 0, none⟩) 1 1, .slice none 0 0, .int .i64 100, .int .i64 100]] W fun e w' => e = .returned (.bool true) ∧ Below W.heap.size W w') :=
    Lib.hid (fun W hb => by have := keep_q W _ AX (AR (w.heap.size + 1)) (hE.below hb) (hG.below (below_step HB0.out hb)) ax_wt (by decide); rw [ax_keep] at this; exact this)
  have HAG : Hid (∀ W, Below W0.heap.size W0 W → Calls Tryz.prog 16 #[.agg #[.string ⟨#[71, 69, 84]⟩, .string ⟨#[104, 116, 116, 112, 115]⟩, .string ⟨#[97]⟩, .string ⟨#[47]⟩, .slice none 0 0, .slice none 0 0, .int .i64 200, .slice (some ⟨w.heap.size + 1, 0, none⟩) 1 1, .slice none 0 0, .int .i64 100, .int .i64 100], .int .i64 150] W fun e w' => e = .returned (.int .i64 50) ∧ Below W.heap.size W w') :=
    Lib.hid (fun W hb => by have := age_q W _ AX (AR (w.heap.size + 1)) (hE.below hb) 150 (hG.below (below_step HB0.out hb)) ax_wt; rw [ax_age] at this; exact this)
  have HV1 : Hid (∀ W, Below W0.heap.size W0 W → Calls Tryz.prog 18 #[.agg #[.string ⟨#[71, 69, 84]⟩, .string ⟨#[104, 116, 116, 112, 115]⟩, .string ⟨#[97]⟩, .string ⟨#[47]⟩, .slice none 0 0, .slice none 0 0, .int .i64 200, .slice (some ⟨w.heap.size + 1, 0, none⟩) 1 1, .slice none 0 0, .int .i64 100, .int .i64 100], .agg #[.string ⟨#[71, 69, 84]⟩, .string ⟨#[104, 116, 116, 112, 115]⟩, .string ⟨#[97]⟩, .string ⟨#[47]⟩, .slice none 0 0, .slice none 0 0], .int .i64 150] W fun e w' => e = .returned (.int .i64 1) ∧ Below W.heap.size W w') :=
    Lib.hid (fun W hb => by have := verd_q W _ AX (AR (w.heap.size + 1)) (hE.below hb) AQ none 0 none 0 (none_C _ _) (Nat.le_refl _) 150 (hG.below (below_step HB0.out hb)) ax_wt (by decide); rw [ax_v1] at this; exact this)
  have HV2 : Hid (∀ W, Below W0.heap.size W0 W → Calls Tryz.prog 18 #[.agg #[.string ⟨#[71, 69, 84]⟩, .string ⟨#[104, 116, 116, 112, 115]⟩, .string ⟨#[97]⟩, .string ⟨#[47]⟩, .slice none 0 0, .slice none 0 0, .int .i64 200, .slice (some ⟨w.heap.size + 1, 0, none⟩) 1 1, .slice none 0 0, .int .i64 100, .int .i64 100], .agg #[.string ⟨#[71, 69, 84]⟩, .string ⟨#[104, 116, 116, 112, 115]⟩, .string ⟨#[97]⟩, .string ⟨#[47]⟩, .slice none 0 0, .slice none 0 0], .int .i64 161] W fun e w' => e = .returned (.int .i64 0) ∧ Below W.heap.size W w') :=
    Lib.hid (fun W hb => by have := verd_q W _ AX (AR (w.heap.size + 1)) (hE.below hb) AQ none 0 none 0 (none_C _ _) (Nat.le_refl _) 161 (hG.below (below_step HB0.out hb)) ax_wt (by decide); rw [ax_v2] at this; exact this)
  have HMA : Hid (∀ W, Below W0.heap.size W0 W → Calls Tryz.prog 34 #[.agg #[.string ⟨#[71, 69, 84]⟩, .string ⟨#[104, 116, 116, 112, 115]⟩, .string ⟨#[97]⟩, .string ⟨#[47]⟩, .slice none 0 0, .slice none 0 0, .int .i64 200, .slice (some ⟨w.heap.size + 1, 0, none⟩) 1 1, .slice none 0 0, .int .i64 100, .int .i64 100], .agg #[.string ⟨#[71, 69, 84]⟩, .string ⟨#[104, 116, 116, 112, 115]⟩, .string ⟨#[97]⟩, .string ⟨#[47]⟩, .slice none 0 0, .slice none 0 0]] W fun e w' => e = .returned (.bool true) ∧ Below W.heap.size W w') :=
    Lib.hid (fun W hb => by have := matches_calls W _ AX (AR (w.heap.size + 1)) AQ none 0 none 0 (hE.below hb) (none_C _ _) (Nat.le_refl _) (by decide) (by decide) ax_wt; rw [ax_m] at this; exact this)
  clear hW0 hG hE
  go_enter Tryz.func15, Tryz.ntmps15
  go_upto_region 3 with fail
  rw [← HEQ.out]
  have HX0' : Hid (W0.heap[w.heap.size + 1 + 1]? = some (.cells #[.string ⟨#[71, 69, 84]⟩, .string ⟨#[104, 116, 116, 112, 115]⟩, .string ⟨#[97]⟩, .string ⟨#[47]⟩, .slice none 0 0, .slice none 0 0, .int .i64 200, .slice (some ⟨w.heap.size + 1, 0, none⟩) 1 1, .slice none 0 0, .int .i64 100, .int .i64 100] 34 (0, 0))) := HX0
  have HBz := Lib.hid (Below.refl W0.heap.size W0)
  have l0 := c_of HX0'.out 0 (v := .string ⟨#[71, 69, 84]⟩) rfl
  have l1 := c_of HX0'.out 1 (v := .string ⟨#[104, 116, 116, 112, 115]⟩) rfl
  have l2 := c_of HX0'.out 2 (v := .string ⟨#[97]⟩) rfl
  have l3 := c_of HX0'.out 3 (v := .string ⟨#[47]⟩) rfl
  have l4 := c_of HX0'.out 4 (v := .slice none 0 0) rfl
  have l5 := c_of HX0'.out 5 (v := .slice none 0 0) rfl
  have l6 := c_of HX0'.out 6 (v := .int .i64 200) rfl
  have l7 := c_of HX0'.out 7 (v := .slice (some ⟨w.heap.size + 1, 0, none⟩) 1 1) rfl
  have l8 := c_of HX0'.out 8 (v := .slice none 0 0) rfl
  have l9 := c_of HX0'.out 9 (v := .int .i64 100) rfl
  have l10 := c_of HX0'.out 10 (v := .int .i64 100) rfl
  have q0 := c_of HQ0.out 0 (v := .string ⟨#[71, 69, 84]⟩) rfl
  have q1 := c_of HQ0.out 1 (v := .string ⟨#[104, 116, 116, 112, 115]⟩) rfl
  have q2 := c_of HQ0.out 2 (v := .string ⟨#[97]⟩) rfl
  have q3 := c_of HQ0.out 3 (v := .string ⟨#[47]⟩) rfl
  have q4 := c_of HQ0.out 4 (v := .slice none 0 0) rfl
  have q5 := c_of HQ0.out 5 (v := .slice none 0 0) rfl
  go_wp2_with (first | (go_at_call 34; refine (HMA.out _ HBz4.out).mono ?_; rintro e wz5 ⟨rfl, hb⟩; have HBz5 := Lib.hid (below_step HBz4.out hb); have l0 := c_of (blk_bel HBz5.out HX0'.out) 0 (v := .string ⟨#[71, 69, 84]⟩) rfl; have l1 := c_of (blk_bel HBz5.out HX0'.out) 1 (v := .string ⟨#[104, 116, 116, 112, 115]⟩) rfl; have l2 := c_of (blk_bel HBz5.out HX0'.out) 2 (v := .string ⟨#[97]⟩) rfl; have l3 := c_of (blk_bel HBz5.out HX0'.out) 3 (v := .string ⟨#[47]⟩) rfl; have l4 := c_of (blk_bel HBz5.out HX0'.out) 4 (v := .slice none 0 0) rfl; have l5 := c_of (blk_bel HBz5.out HX0'.out) 5 (v := .slice none 0 0) rfl; have l6 := c_of (blk_bel HBz5.out HX0'.out) 6 (v := .int .i64 200) rfl; have l7 := c_of (blk_bel HBz5.out HX0'.out) 7 (v := .slice (some ⟨w.heap.size + 1, 0, none⟩) 1 1) rfl; have l8 := c_of (blk_bel HBz5.out HX0'.out) 8 (v := .slice none 0 0) rfl; have l9 := c_of (blk_bel HBz5.out HX0'.out) 9 (v := .int .i64 100) rfl; have l10 := c_of (blk_bel HBz5.out HX0'.out) 10 (v := .int .i64 100) rfl; have q0 := c_of (blk_bel HBz5.out HQ0.out) 0 (v := .string ⟨#[71, 69, 84]⟩) rfl; have q1 := c_of (blk_bel HBz5.out HQ0.out) 1 (v := .string ⟨#[104, 116, 116, 112, 115]⟩) rfl; have q2 := c_of (blk_bel HBz5.out HQ0.out) 2 (v := .string ⟨#[97]⟩) rfl; have q3 := c_of (blk_bel HBz5.out HQ0.out) 3 (v := .string ⟨#[47]⟩) rfl; have q4 := c_of (blk_bel HBz5.out HQ0.out) 4 (v := .slice none 0 0) rfl; have q5 := c_of (blk_bel HBz5.out HQ0.out) 5 (v := .slice none 0 0) rfl; clear hb) | (go_at_call 18; refine (HV2.out _ HBz3.out).mono ?_; rintro e wz4 ⟨rfl, hb⟩; have HBz4 := Lib.hid (below_step HBz3.out hb); have l0 := c_of (blk_bel HBz4.out HX0'.out) 0 (v := .string ⟨#[71, 69, 84]⟩) rfl; have l1 := c_of (blk_bel HBz4.out HX0'.out) 1 (v := .string ⟨#[104, 116, 116, 112, 115]⟩) rfl; have l2 := c_of (blk_bel HBz4.out HX0'.out) 2 (v := .string ⟨#[97]⟩) rfl; have l3 := c_of (blk_bel HBz4.out HX0'.out) 3 (v := .string ⟨#[47]⟩) rfl; have l4 := c_of (blk_bel HBz4.out HX0'.out) 4 (v := .slice none 0 0) rfl; have l5 := c_of (blk_bel HBz4.out HX0'.out) 5 (v := .slice none 0 0) rfl; have l6 := c_of (blk_bel HBz4.out HX0'.out) 6 (v := .int .i64 200) rfl; have l7 := c_of (blk_bel HBz4.out HX0'.out) 7 (v := .slice (some ⟨w.heap.size + 1, 0, none⟩) 1 1) rfl; have l8 := c_of (blk_bel HBz4.out HX0'.out) 8 (v := .slice none 0 0) rfl; have l9 := c_of (blk_bel HBz4.out HX0'.out) 9 (v := .int .i64 100) rfl; have l10 := c_of (blk_bel HBz4.out HX0'.out) 10 (v := .int .i64 100) rfl; have q0 := c_of (blk_bel HBz4.out HQ0.out) 0 (v := .string ⟨#[71, 69, 84]⟩) rfl; have q1 := c_of (blk_bel HBz4.out HQ0.out) 1 (v := .string ⟨#[104, 116, 116, 112, 115]⟩) rfl; have q2 := c_of (blk_bel HBz4.out HQ0.out) 2 (v := .string ⟨#[97]⟩) rfl; have q3 := c_of (blk_bel HBz4.out HQ0.out) 3 (v := .string ⟨#[47]⟩) rfl; have q4 := c_of (blk_bel HBz4.out HQ0.out) 4 (v := .slice none 0 0) rfl; have q5 := c_of (blk_bel HBz4.out HQ0.out) 5 (v := .slice none 0 0) rfl; clear hb) | (go_at_call 18; refine (HV1.out _ HBz2.out).mono ?_; rintro e wz3 ⟨rfl, hb⟩; have HBz3 := Lib.hid (below_step HBz2.out hb); have l0 := c_of (blk_bel HBz3.out HX0'.out) 0 (v := .string ⟨#[71, 69, 84]⟩) rfl; have l1 := c_of (blk_bel HBz3.out HX0'.out) 1 (v := .string ⟨#[104, 116, 116, 112, 115]⟩) rfl; have l2 := c_of (blk_bel HBz3.out HX0'.out) 2 (v := .string ⟨#[97]⟩) rfl; have l3 := c_of (blk_bel HBz3.out HX0'.out) 3 (v := .string ⟨#[47]⟩) rfl; have l4 := c_of (blk_bel HBz3.out HX0'.out) 4 (v := .slice none 0 0) rfl; have l5 := c_of (blk_bel HBz3.out HX0'.out) 5 (v := .slice none 0 0) rfl; have l6 := c_of (blk_bel HBz3.out HX0'.out) 6 (v := .int .i64 200) rfl; have l7 := c_of (blk_bel HBz3.out HX0'.out) 7 (v := .slice (some ⟨w.heap.size + 1, 0, none⟩) 1 1) rfl; have l8 := c_of (blk_bel HBz3.out HX0'.out) 8 (v := .slice none 0 0) rfl; have l9 := c_of (blk_bel HBz3.out HX0'.out) 9 (v := .int .i64 100) rfl; have l10 := c_of (blk_bel HBz3.out HX0'.out) 10 (v := .int .i64 100) rfl; have q0 := c_of (blk_bel HBz3.out HQ0.out) 0 (v := .string ⟨#[71, 69, 84]⟩) rfl; have q1 := c_of (blk_bel HBz3.out HQ0.out) 1 (v := .string ⟨#[104, 116, 116, 112, 115]⟩) rfl; have q2 := c_of (blk_bel HBz3.out HQ0.out) 2 (v := .string ⟨#[97]⟩) rfl; have q3 := c_of (blk_bel HBz3.out HQ0.out) 3 (v := .string ⟨#[47]⟩) rfl; have q4 := c_of (blk_bel HBz3.out HQ0.out) 4 (v := .slice none 0 0) rfl; have q5 := c_of (blk_bel HBz3.out HQ0.out) 5 (v := .slice none 0 0) rfl; clear hb) | (go_at_call 16; refine (HAG.out _ HBz1.out).mono ?_; rintro e wz2 ⟨rfl, hb⟩; have HBz2 := Lib.hid (below_step HBz1.out hb); have l0 := c_of (blk_bel HBz2.out HX0'.out) 0 (v := .string ⟨#[71, 69, 84]⟩) rfl; have l1 := c_of (blk_bel HBz2.out HX0'.out) 1 (v := .string ⟨#[104, 116, 116, 112, 115]⟩) rfl; have l2 := c_of (blk_bel HBz2.out HX0'.out) 2 (v := .string ⟨#[97]⟩) rfl; have l3 := c_of (blk_bel HBz2.out HX0'.out) 3 (v := .string ⟨#[47]⟩) rfl; have l4 := c_of (blk_bel HBz2.out HX0'.out) 4 (v := .slice none 0 0) rfl; have l5 := c_of (blk_bel HBz2.out HX0'.out) 5 (v := .slice none 0 0) rfl; have l6 := c_of (blk_bel HBz2.out HX0'.out) 6 (v := .int .i64 200) rfl; have l7 := c_of (blk_bel HBz2.out HX0'.out) 7 (v := .slice (some ⟨w.heap.size + 1, 0, none⟩) 1 1) rfl; have l8 := c_of (blk_bel HBz2.out HX0'.out) 8 (v := .slice none 0 0) rfl; have l9 := c_of (blk_bel HBz2.out HX0'.out) 9 (v := .int .i64 100) rfl; have l10 := c_of (blk_bel HBz2.out HX0'.out) 10 (v := .int .i64 100) rfl; have q0 := c_of (blk_bel HBz2.out HQ0.out) 0 (v := .string ⟨#[71, 69, 84]⟩) rfl; have q1 := c_of (blk_bel HBz2.out HQ0.out) 1 (v := .string ⟨#[104, 116, 116, 112, 115]⟩) rfl; have q2 := c_of (blk_bel HBz2.out HQ0.out) 2 (v := .string ⟨#[97]⟩) rfl; have q3 := c_of (blk_bel HBz2.out HQ0.out) 3 (v := .string ⟨#[47]⟩) rfl; have q4 := c_of (blk_bel HBz2.out HQ0.out) 4 (v := .slice none 0 0) rfl; have q5 := c_of (blk_bel HBz2.out HQ0.out) 5 (v := .slice none 0 0) rfl; clear hb) | (go_at_call 22; refine (HKE.out _ HBz.out).mono ?_; rintro e wz1 ⟨rfl, hb⟩; have HBz1 := Lib.hid (below_step HBz.out hb); have l0 := c_of (blk_bel HBz1.out HX0'.out) 0 (v := .string ⟨#[71, 69, 84]⟩) rfl; have l1 := c_of (blk_bel HBz1.out HX0'.out) 1 (v := .string ⟨#[104, 116, 116, 112, 115]⟩) rfl; have l2 := c_of (blk_bel HBz1.out HX0'.out) 2 (v := .string ⟨#[97]⟩) rfl; have l3 := c_of (blk_bel HBz1.out HX0'.out) 3 (v := .string ⟨#[47]⟩) rfl; have l4 := c_of (blk_bel HBz1.out HX0'.out) 4 (v := .slice none 0 0) rfl; have l5 := c_of (blk_bel HBz1.out HX0'.out) 5 (v := .slice none 0 0) rfl; have l6 := c_of (blk_bel HBz1.out HX0'.out) 6 (v := .int .i64 200) rfl; have l7 := c_of (blk_bel HBz1.out HX0'.out) 7 (v := .slice (some ⟨w.heap.size + 1, 0, none⟩) 1 1) rfl; have l8 := c_of (blk_bel HBz1.out HX0'.out) 8 (v := .slice none 0 0) rfl; have l9 := c_of (blk_bel HBz1.out HX0'.out) 9 (v := .int .i64 100) rfl; have l10 := c_of (blk_bel HBz1.out HX0'.out) 10 (v := .int .i64 100) rfl; have q0 := c_of (blk_bel HBz1.out HQ0.out) 0 (v := .string ⟨#[71, 69, 84]⟩) rfl; have q1 := c_of (blk_bel HBz1.out HQ0.out) 1 (v := .string ⟨#[104, 116, 116, 112, 115]⟩) rfl; have q2 := c_of (blk_bel HBz1.out HQ0.out) 2 (v := .string ⟨#[97]⟩) rfl; have q3 := c_of (blk_bel HBz1.out HQ0.out) 3 (v := .string ⟨#[47]⟩) rfl; have q4 := c_of (blk_bel HBz1.out HQ0.out) 4 (v := .slice none 0 0) rfl; have q5 := c_of (blk_bel HBz1.out HQ0.out) 5 (v := .slice none 0 0) rfl; clear hb))
  go_ret
  exact ⟨rfl, below_step HB0.out HBz5.out⟩
end Go.Proofs.YtbnhlekehndhkaaGreatDoor.Fr

