import Derived.Test.YtkbbjjegpjdpeaaDoorZM1b
import Derived.Outline
import Derived.Lib.SliceRun
import Derived.StillTailTactics
import Derived.RangeFuncCalls
import Derived.OrdersIn
import Derived.Test.YtkbbjjegpjdpeaaDoorZWWords
import Derived.Test.YtkbbjjegpjdpeaaDoorZWLast








/- (not yet a claim) an exchange's content; clones; own -/
namespace Go.Proofs.YtkbbjjegpjdpeaaDoor.S
open Go.RowKit Go.Proofs.YtkbbjjegpjdpeaaDoorW.PrintWords Go.Proofs.YtkbbjjegpjdpeaaDoorW.PrintLast Go.Proofs.YtkbbjjegpjdpeaaDoorW.PrintMore Go.Proofs.YtkbbjjegpjdpeaaDoor.G
set_option linter.unusedVariables false
set_option linter.unusedSimpArgs false

theorem add_block (a : Addr) (n : Nat) : (a.add n).block = a.block := by unfold Addr.add; split <;> rfl
theorem k63_C_keep {w w' : World} {A : Option Addr} {l : List S63} (h : Kd.C k63 w A l.length l) (hk : 0 < l.length → ∀ ad, A = some ad → w'.heap[ad.block]? = w.heap[ad.block]?) : Kd.C k63 w' A l.length l := by
  refine ⟨h.1, h.2.1, fun hn => ?_⟩
  obtain ⟨ad, e, hc⟩ := h.2.2 hn
  refine ⟨ad, e, fun j p hj => ?_⟩
  obtain ⟨c, hs, hK, hcell⟩ := hc j p hj
  obtain rfl := k63_open hK
  refine ⟨_, hs, k63_mk w' p, fun i u hu => ?_⟩
  rw [← hcell i u hu]
  exact World.cell?_of_block (by rw [add_block]; exact hk hn ad e)
theorem u8_C_keep {w w' : World} {A : Option Addr} {l : List Int} (h : Kd.C (Kd.int .u8) w A l.length l) (hk : 0 < l.length → ∀ ad, A = some ad → w'.heap[ad.block]? = w.heap[ad.block]?) : Kd.C (Kd.int .u8) w' A l.length l := by
  refine ⟨h.1, h.2.1, fun hn => ?_⟩
  obtain ⟨ad, e, hc⟩ := h.2.2 hn
  refine ⟨ad, e, fun j p hj => ?_⟩
  obtain ⟨c, hs, hK, hcell⟩ := hc j p hj
  refine ⟨c, hs, hK, fun i u hu => ?_⟩
  rw [← hcell i u hu]
  exact World.cell?_of_block (by rw [add_block]; exact hk hn ad e)

/-- the content of an exchange, in blocks of P -/
structure Ex (w : World) (P : Nat → Prop) (x : S41) (r : Rf) : Prop where
  l4 : x.f0.f4.length ≤ r.c4
  g4 : Kd.C k63 w r.A4 x.f0.f4.length x.f0.f4
  b4 : 0 < x.f0.f4.length → ∀ ad, r.A4 = some ad → P ad.block
  l5 : x.f0.f5.length ≤ r.c5
  g5 : Kd.C (Kd.int .u8) w r.A5 x.f0.f5.length x.f0.f5
  b5 : 0 < x.f0.f5.length → ∀ ad, r.A5 = some ad → P ad.block
  l7 : x.f1.f1.length ≤ r.c7
  g7 : Kd.C k63 w r.A7 x.f1.f1.length x.f1.f1
  b7 : 0 < x.f1.f1.length → ∀ ad, r.A7 = some ad → P ad.block
  l8 : x.f1.f2.length ≤ r.c8
  g8 : Kd.C (Kd.int .u8) w r.A8 x.f1.f2.length x.f1.f2
  b8 : 0 < x.f1.f2.length → ∀ ad, r.A8 = some ad → P ad.block
theorem Ex.keep {w w' : World} {P : Nat → Prop} {x : S41} {r : Rf} (h : Ex w P x r) (hk : ∀ k, P k → w'.heap[k]? = w.heap[k]?) : Ex w' P x r :=
  ⟨h.l4, k63_C_keep h.g4 (fun n ad e => hk _ (h.b4 n ad e)), h.b4, h.l5, u8_C_keep h.g5 (fun n ad e => hk _ (h.b5 n ad e)), h.b5, h.l7, k63_C_keep h.g7 (fun n ad e => hk _ (h.b7 n ad e)), h.b7, h.l8, u8_C_keep h.g8 (fun n ad e => hk _ (h.b8 n ad e)), h.b8⟩
theorem Ex.mono {w : World} {P P' : Nat → Prop} {x : S41} {r : Rf} (h : Ex w P x r) (hk : ∀ k, P k → P' k) : Ex w P' x r :=
  ⟨h.l4, h.g4, fun n ad e => hk _ (h.b4 n ad e), h.l5, h.g5, fun n ad e => hk _ (h.b5 n ad e), h.l7, h.g7, fun n ad e => hk _ (h.b7 n ad e), h.l8, h.g8, fun n ad e => hk _ (h.b8 n ad e)⟩
theorem C_lt {α : Type} {k : Kd α} {w : World} {A : Option Addr} {l : List α} (h : Kd.C k w A l.length l) (hz : 0 < k.sz) (hn : 0 < l.length) (ad : Addr) (e : A = some ad) : ad.block < w.heap.size := by
  obtain ⟨ad', e', hc⟩ := h.2.2 hn
  rw [e] at e'
  obtain rfl := Option.some.inj e'
  obtain ⟨c, hs, _, hcell⟩ := hc 0 l[0] (List.getElem?_eq_getElem hn)
  have := hcell 0 (c[0]'(by omega)) (List.getElem?_eq_getElem (by omega))
  have := block_lt_of_cell this
  rwa [add_block] at this
theorem Ex.lt {w : World} {P : Nat → Prop} {x : S41} {r : Rf} (h : Ex w P x r) : Ex w (fun k => P k ∧ k < w.heap.size) x r :=
  ⟨h.l4, h.g4, fun n ad e => ⟨h.b4 n ad e, C_lt h.g4 (by decide) n ad e⟩, h.l5, h.g5, fun n ad e => ⟨h.b5 n ad e, C_lt h.g5 (by decide) n ad e⟩, h.l7, h.g7, fun n ad e => ⟨h.b7 n ad e, C_lt h.g7 (by decide) n ad e⟩, h.l8, h.g8, fun n ad e => ⟨h.b8 n ad e, C_lt h.g8 (by decide) n ad e⟩⟩
theorem Ex.only {w w' : World} {S P : Nat → Prop} {x : S41} {r : Rf} (h : Ex w P x r) (ho : Only S w w') (hs : ∀ k, P k → ¬ S k) : Ex w' P x r :=
  (h.lt.keep (fun k hk => ho.block k hk.2 (hs k hk.1))).mono (fun k hk => hk.1)
theorem Ex.below {w w' : World} {P : Nat → Prop} {x : S41} {r : Rf} (h : Ex w P x r) (hb : Below w.heap.size w w') : Ex w' P x r :=
  (h.lt.keep (fun k hk => hb.block k hk.2)).mono (fun k hk => hk.1)

theorem info63 : (Tryd.prog.info? 63).map (fun i => (i.zero, i.size, i.bytes)) = some (some (.agg #[.string ⟨#[]⟩, .string ⟨#[]⟩]), 2, 32) := by kernel_rfl
theorem info5 : (Tryd.prog.info? 5).map (fun i => (i.zero, i.size, i.bytes)) = some (some (.int .u8 0), 1, 1) := by kernel_rfl
theorem k63_KM (w : World) (base : Nat) (ok : Nat → Prop) (x : S63) (cs : List Value) (h : k63.K w x cs) : k63.M w base ok x cs := by
  obtain rfl := k63_open h
  exact k63_mkM w base ok x

/-- a block of cells that may be written -/
def Typed (w : World) (k : Nat) : Prop := ∃ cs t, w.heap[k]? = some (.cells cs t (0, 0))
theorem Typed.of {w w' : World} {k : Nat} (h : Typed w k) (e : w'.heap[k]? = w.heap[k]?) : Typed w' k := by
  obtain ⟨cs, t, h⟩ := h
  exact ⟨cs, t, e.trans h⟩
theorem Typed.lt {w : World} {k : Nat} (h : Typed w k) : k < w.heap.size := by
  obtain ⟨cs, t, h⟩ := h
  exact blk_lt' h
theorem Typed.below {w w' : World} {k : Nat} (h : Typed w k) (hb : Below w.heap.size w w') : Typed w' k := h.of (hb.block k h.lt)

theorem cloneF_none (w : World) (c : Nat) (l : List S63) (hC : Kd.C k63 w none l.length l) : Calls Tryd.prog 48 #[.slice none l.length c] w fun e w' => ∃ v, e = .returned v ∧ Kd.R k63 63 w' w.heap.size (fun _ => True) v l ∧ Below w.heap.size w w' := by
  have hl : l = [] := by
    rcases l with _ | ⟨x, l⟩
    · rfl
    · obtain ⟨ad, e, -⟩ := hC.2.2 (by simp)
      cases e
  subst hl
  have hn := fun w n c n' c' => Lib.run_eql_slice_nil (P := Tryd.prog) w 28 _ none n c n' c' Tryd.underlying28
  go_enter Tryd.func48, Tryd.ntmps48
  go_wp2
  go_ret
  exact ⟨_, rfl, Kd.R_nil _ _ _ _ _, Below.refl _ _⟩
theorem cloneF_some (w : World) (ad : Addr) (c : Nat) (l : List S63) (hC : Kd.C k63 w (some ad) l.length l) (hlen : l.length * 32 ≤ 140737488355328) : Calls Tryd.prog 48 #[.slice (some ad) l.length c] w fun e w' => ∃ v, e = .returned v ∧ Kd.R k63 63 w' w.heap.size (fun _ => True) v l ∧ Below w.heap.size w w' := by
  have HC := Lib.hid hC
  clear hC
  have hn := fun w n c n' c' => Lib.run_eql_slice_nil (P := Tryd.prog) w 28 _ (some ad) n c n' c' Tryd.underlying28
  go_enter Tryd.func48, Tryd.ntmps48
  go_wp2_with (first | (at_builtin; refine Kd.R_append_rows k63 (Rr := (k63).K w) (w0 := w) w.heap.size rfl (.tmp 5) (.tmp 6) 28 63 (.agg #[.string ⟨#[]⟩, .string ⟨#[]⟩]) 32 rfl Tryd.underlying28 info63 rfl (by decide) (by decide) _ [] l (some ad) l.length c (fun _ => True) (fun _ => False) rfl rfl ?c1 ?c2 ?c3 ?c4 ?c5 ?c6 ?c7 ?c8 ?_))
  case c1 => exact ⟨fun _ _ => trivial, OwnRow.lit w w.heap.size (inner := []) (Reps.none _ _) (Nat.le_refl _) (by simp)⟩
  case c2 => exact ReadsRow.imp_ HC.out (below_alloc (Below.refl _ _) _) (fun _ _ h => h)
  case c3 => exact fun x cs h => k63_KM _ _ _ x cs h
  case c4 => exact fun _ h => h.elim
  case c5 => exact fun _ _ => trivial
  case c6 => exact below_alloc (Below.refl _ _) _
  case c7 => simp
  case c8 => simpa using hlen
  intro v1 w1 hR hB hg _
  clear hg
  go_wp2
  go_ret
  exact ⟨_, rfl, hR, hB⟩
theorem cloneF (w : World) (A : Option Addr) (c : Nat) (l : List S63) (hC : Kd.C k63 w A l.length l) (hlen : l.length * 32 ≤ 140737488355328) : Calls Tryd.prog 48 #[.slice A l.length c] w fun e w' => ∃ A' c', e = .returned (.slice A' l.length c') ∧ Below w.heap.size w w' ∧ l.length ≤ c' ∧ Kd.C k63 w' A' l.length l ∧ (0 < l.length → ∀ ad, A' = some ad → w.heap.size ≤ ad.block ∧ Typed w' ad.block) := by
  have H : Calls Tryd.prog 48 #[.slice A l.length c] w fun e w' => ∃ v, e = .returned v ∧ Kd.R k63 63 w' w.heap.size (fun _ => True) v l ∧ Below w.heap.size w w' := by
    rcases A with _ | ad
    · exact cloneF_none w c l hC
    · exact cloneF_some w ad c l hC hlen
  refine H.mono ?_
  rintro e w' ⟨v, rfl, hR, hB⟩
  obtain ⟨A', c', rfl, hl', hC'⟩ := Kd.R_reads hR
  refine ⟨A', c', rfl, hB, hl', hC', fun hn ad e => ?_⟩
  subst e
  obtain ⟨-, h1, -, q, -, cs, h2⟩ := (Kd.R_bound hR).1 _ rfl
  exact ⟨h1, cs, q, h2⟩


theorem cloneB_none (w : World) (c : Nat) (l : List Int) (hC : Kd.C (Kd.int .u8) w none l.length l) : Calls Tryd.prog 49 #[.slice none l.length c] w fun e w' => ∃ v, e = .returned v ∧ Kd.R (Kd.int .u8) 5 w' w.heap.size (fun _ => True) v l ∧ Below w.heap.size w w' := by
  have hl : l = [] := by
    rcases l with _ | ⟨x, l⟩
    · rfl
    · obtain ⟨ad, e, -⟩ := hC.2.2 (by simp)
      cases e
  subst hl
  have hn := fun w n c n' c' => Lib.run_eql_slice_nil (P := Tryd.prog) w 29 _ none n c n' c' Tryd.underlying29
  go_enter Tryd.func49, Tryd.ntmps49
  go_wp2
  go_ret
  exact ⟨_, rfl, Kd.R_nil _ _ _ _ _, Below.refl _ _⟩
theorem cloneB_some (w : World) (ad : Addr) (c : Nat) (l : List Int) (hC : Kd.C (Kd.int .u8) w (some ad) l.length l) (hlen : l.length * 1 ≤ 140737488355328) : Calls Tryd.prog 49 #[.slice (some ad) l.length c] w fun e w' => ∃ v, e = .returned v ∧ Kd.R (Kd.int .u8) 5 w' w.heap.size (fun _ => True) v l ∧ Below w.heap.size w w' := by
  have HC := Lib.hid hC
  clear hC
  have hn := fun w n c n' c' => Lib.run_eql_slice_nil (P := Tryd.prog) w 29 _ (some ad) n c n' c' Tryd.underlying29
  go_enter Tryd.func49, Tryd.ntmps49
  go_wp2_with (first | (at_builtin; refine Kd.R_append_rows (Kd.int .u8) (Rr := ((Kd.int .u8)).K w) (w0 := w) w.heap.size rfl (.tmp 5) (.tmp 6) 29 5 (.int .u8 0) 1 rfl Tryd.underlying29 info5 rfl (by decide) (by decide) _ [] l (some ad) l.length c (fun _ => True) (fun _ => False) rfl rfl ?c1 ?c2 ?c3 ?c4 ?c5 ?c6 ?c7 ?c8 ?_))
  case c1 => exact ⟨fun _ _ => trivial, OwnRow.lit w w.heap.size (inner := []) (Reps.none _ _) (Nat.le_refl _) (by simp)⟩
  case c2 => exact ReadsRow.imp_ HC.out (below_alloc (Below.refl _ _) _) (fun _ _ h => h)
  case c3 => exact fun x cs h => h
  case c4 => exact fun _ h => h.elim
  case c5 => exact fun _ _ => trivial
  case c6 => exact below_alloc (Below.refl _ _) _
  case c7 => simp
  case c8 => simpa using hlen
  intro v1 w1 hR hB hg _
  clear hg
  go_wp2
  go_ret
  exact ⟨_, rfl, hR, hB⟩
theorem cloneB (w : World) (A : Option Addr) (c : Nat) (l : List Int) (hC : Kd.C (Kd.int .u8) w A l.length l) (hlen : l.length * 1 ≤ 140737488355328) : Calls Tryd.prog 49 #[.slice A l.length c] w fun e w' => ∃ A' c', e = .returned (.slice A' l.length c') ∧ Below w.heap.size w w' ∧ l.length ≤ c' ∧ Kd.C (Kd.int .u8) w' A' l.length l ∧ (0 < l.length → ∀ ad, A' = some ad → w.heap.size ≤ ad.block ∧ Typed w' ad.block) := by
  have H : Calls Tryd.prog 49 #[.slice A l.length c] w fun e w' => ∃ v, e = .returned v ∧ Kd.R (Kd.int .u8) 5 w' w.heap.size (fun _ => True) v l ∧ Below w.heap.size w w' := by
    rcases A with _ | ad
    · exact cloneB_none w c l hC
    · exact cloneB_some w ad c l hC hlen
  refine H.mono ?_
  rintro e w' ⟨v, rfl, hR, hB⟩
  obtain ⟨A', c', rfl, hl', hC'⟩ := Kd.R_reads hR
  refine ⟨A', c', rfl, hB, hl', hC', fun hn ad e => ?_⟩
  subst e
  obtain ⟨-, h1, -, q, -, cs, h2⟩ := (Kd.R_bound hR).1 _ rfl
  exact ⟨h1, cs, q, h2⟩
end Go.Proofs.YtkbbjjegpjdpeaaDoor.S
/- (not yet a claim) own -/
namespace Go.Proofs.YtkbbjjegpjdpeaaDoor.S
open Go.RowKit Go.Proofs.YtkbbjjegpjdpeaaDoorW.PrintWords Go.Proofs.YtkbbjjegpjdpeaaDoorW.PrintLast Go.Proofs.YtkbbjjegpjdpeaaDoorW.PrintMore Go.Proofs.YtkbbjjegpjdpeaaDoor.G
set_option linter.unusedVariables false
set_option linter.unusedSimpArgs false
/-- a boxed exchange -/
abbrev Bx (x : S41) (r : Rf) : Obj := .cells #[.string x.f0.f0, .string x.f0.f1, .string x.f0.f2, .string x.f0.f3, .slice r.A4 x.f0.f4.length r.c4, .slice r.A5 x.f0.f5.length r.c5, .int .i64 x.f1.f0, .slice r.A7 x.f1.f1.length r.c7, .slice r.A8 x.f1.f2.length r.c8, .int .i64 x.f2, .int .i64 x.f3] 41 (0, 0)
theorem bx_cells {W : World} {b : Nat} {x : S41} {r : Rf} (h : W.heap[b]? = some (Bx x r)) :
    W.cell? ⟨b, 0, none⟩ = some (.string x.f0.f0) ∧ W.cell? ⟨b, 1, none⟩ = some (.string x.f0.f1) ∧ W.cell? ⟨b, 2, none⟩ = some (.string x.f0.f2) ∧ W.cell? ⟨b, 3, none⟩ = some (.string x.f0.f3) ∧
    W.cell? ⟨b, 4, none⟩ = some (.slice r.A4 x.f0.f4.length r.c4) ∧ W.cell? ⟨b, 5, none⟩ = some (.slice r.A5 x.f0.f5.length r.c5) ∧ W.cell? ⟨b, 6, none⟩ = some (.int .i64 x.f1.f0) ∧
    W.cell? ⟨b, 7, none⟩ = some (.slice r.A7 x.f1.f1.length r.c7) ∧ W.cell? ⟨b, 8, none⟩ = some (.slice r.A8 x.f1.f2.length r.c8) ∧ W.cell? ⟨b, 9, none⟩ = some (.int .i64 x.f2) ∧ W.cell? ⟨b, 10, none⟩ = some (.int .i64 x.f3) :=
  ⟨c_of h 0 rfl, c_of h 1 rfl, c_of h 2 rfl, c_of h 3 rfl, c_of h 4 rfl, c_of h 5 rfl, c_of h 6 rfl, c_of h 7 rfl, c_of h 8 rfl, c_of h 9 rfl, c_of h 10 rfl⟩
theorem put11 {W : World} {g : Nat} {z0 z1 z2 z3 z4 z5 z6 z7 z8 z9 z10 : Value} (h : W.heap[g]? = some (.cells #[z0, z1, z2, z3, z4, z5, z6, z7, z8, z9, z10] 41 (0, 0))) (v0 v1 v2 v3 v4 v5 v6 v7 v8 v9 v10 : Value) :
    (((((((((((W.setCell ⟨g, 0, none⟩ v0).setCell ⟨g, 1, none⟩ v1).setCell ⟨g, 2, none⟩ v2).setCell ⟨g, 3, none⟩ v3).setCell ⟨g, 4, none⟩ v4).setCell ⟨g, 5, none⟩ v5).setCell ⟨g, 6, none⟩ v6).setCell ⟨g, 7, none⟩ v7).setCell ⟨g, 8, none⟩ v8).setCell ⟨g, 9, none⟩ v9).setCell ⟨g, 10, none⟩ v10).heap[g]? = some (.cells #[v0, v1, v2, v3, v4, v5, v6, v7, v8, v9, v10] 41 (0, 0)) := by
  have h0 : (W.setCell ⟨g, 0, none⟩ v0).heap[g]? = some (.cells #[v0, z1, z2, z3, z4, z5, z6, z7, z8, z9, z10] 41 (0, 0)) := set_same h rfl
  have h1 : ((W.setCell ⟨g, 0, none⟩ v0).setCell ⟨g, 1, none⟩ v1).heap[g]? = some (.cells #[v0, v1, z2, z3, z4, z5, z6, z7, z8, z9, z10] 41 (0, 0)) := set_same h0 rfl
  have h2 : (((W.setCell ⟨g, 0, none⟩ v0).setCell ⟨g, 1, none⟩ v1).setCell ⟨g, 2, none⟩ v2).heap[g]? = some (.cells #[v0, v1, v2, z3, z4, z5, z6, z7, z8, z9, z10] 41 (0, 0)) := set_same h1 rfl
  have h3 : ((((W.setCell ⟨g, 0, none⟩ v0).setCell ⟨g, 1, none⟩ v1).setCell ⟨g, 2, none⟩ v2).setCell ⟨g, 3, none⟩ v3).heap[g]? = some (.cells #[v0, v1, v2, v3, z4, z5, z6, z7, z8, z9, z10] 41 (0, 0)) := set_same h2 rfl
  have h4 : (((((W.setCell ⟨g, 0, none⟩ v0).setCell ⟨g, 1, none⟩ v1).setCell ⟨g, 2, none⟩ v2).setCell ⟨g, 3, none⟩ v3).setCell ⟨g, 4, none⟩ v4).heap[g]? = some (.cells #[v0, v1, v2, v3, v4, z5, z6, z7, z8, z9, z10] 41 (0, 0)) := set_same h3 rfl
  have h5 : ((((((W.setCell ⟨g, 0, none⟩ v0).setCell ⟨g, 1, none⟩ v1).setCell ⟨g, 2, none⟩ v2).setCell ⟨g, 3, none⟩ v3).setCell ⟨g, 4, none⟩ v4).setCell ⟨g, 5, none⟩ v5).heap[g]? = some (.cells #[v0, v1, v2, v3, v4, v5, z6, z7, z8, z9, z10] 41 (0, 0)) := set_same h4 rfl
  have h6 : (((((((W.setCell ⟨g, 0, none⟩ v0).setCell ⟨g, 1, none⟩ v1).setCell ⟨g, 2, none⟩ v2).setCell ⟨g, 3, none⟩ v3).setCell ⟨g, 4, none⟩ v4).setCell ⟨g, 5, none⟩ v5).setCell ⟨g, 6, none⟩ v6).heap[g]? = some (.cells #[v0, v1, v2, v3, v4, v5, v6, z7, z8, z9, z10] 41 (0, 0)) := set_same h5 rfl
  have h7 : ((((((((W.setCell ⟨g, 0, none⟩ v0).setCell ⟨g, 1, none⟩ v1).setCell ⟨g, 2, none⟩ v2).setCell ⟨g, 3, none⟩ v3).setCell ⟨g, 4, none⟩ v4).setCell ⟨g, 5, none⟩ v5).setCell ⟨g, 6, none⟩ v6).setCell ⟨g, 7, none⟩ v7).heap[g]? = some (.cells #[v0, v1, v2, v3, v4, v5, v6, v7, z8, z9, z10] 41 (0, 0)) := set_same h6 rfl
  have h8 : (((((((((W.setCell ⟨g, 0, none⟩ v0).setCell ⟨g, 1, none⟩ v1).setCell ⟨g, 2, none⟩ v2).setCell ⟨g, 3, none⟩ v3).setCell ⟨g, 4, none⟩ v4).setCell ⟨g, 5, none⟩ v5).setCell ⟨g, 6, none⟩ v6).setCell ⟨g, 7, none⟩ v7).setCell ⟨g, 8, none⟩ v8).heap[g]? = some (.cells #[v0, v1, v2, v3, v4, v5, v6, v7, v8, z9, z10] 41 (0, 0)) := set_same h7 rfl
  have h9 : ((((((((((W.setCell ⟨g, 0, none⟩ v0).setCell ⟨g, 1, none⟩ v1).setCell ⟨g, 2, none⟩ v2).setCell ⟨g, 3, none⟩ v3).setCell ⟨g, 4, none⟩ v4).setCell ⟨g, 5, none⟩ v5).setCell ⟨g, 6, none⟩ v6).setCell ⟨g, 7, none⟩ v7).setCell ⟨g, 8, none⟩ v8).setCell ⟨g, 9, none⟩ v9).heap[g]? = some (.cells #[v0, v1, v2, v3, v4, v5, v6, v7, v8, v9, z10] 41 (0, 0)) := set_same h8 rfl
  have h10 : (((((((((((W.setCell ⟨g, 0, none⟩ v0).setCell ⟨g, 1, none⟩ v1).setCell ⟨g, 2, none⟩ v2).setCell ⟨g, 3, none⟩ v3).setCell ⟨g, 4, none⟩ v4).setCell ⟨g, 5, none⟩ v5).setCell ⟨g, 6, none⟩ v6).setCell ⟨g, 7, none⟩ v7).setCell ⟨g, 8, none⟩ v8).setCell ⟨g, 9, none⟩ v9).setCell ⟨g, 10, none⟩ v10).heap[g]? = some (.cells #[v0, v1, v2, v3, v4, v5, v6, v7, v8, v9, v10] 41 (0, 0)) := set_same h9 rfl
  exact h10
/-- small enough to be copied -/
structure Fits (x : S41) : Prop where
  s4 : x.f0.f4.length * 32 ≤ 140737488355328
  s5 : x.f0.f5.length * 1 ≤ 140737488355328
  s7 : x.f1.f1.length * 32 ≤ 140737488355328
  s8 : x.f1.f2.length * 1 ≤ 140737488355328

set_option maxRecDepth 100000 in
set_option maxHeartbeats 4000000 in
theorem own_calls2 (w : World) (P : Nat → Prop) (x : S41) (r : Rf) (h : Ex w P x r) (hf : Fits x) : Calls Tryd.prog 29 #[.agg (Vx x r)] w fun e w' => ∃ r', e = .returned (.agg (Vx x r')) ∧ Below w.heap.size w w' ∧ Ex w' (fun k => w.heap.size ≤ k ∧ Typed w' k) x r' := by
  obtain ⟨A4, c4, A5, c5, A7, c7, A8, c8⟩ := r
  have H := Lib.hid h
  have F4 := Lib.hid (fun W c (hb : Below w.heap.size w W) => cloneF W A4 c x.f0.f4 (h.below hb).g4 hf.s4)
  have F5 := Lib.hid (fun W c (hb : Below w.heap.size w W) => cloneB W A5 c x.f0.f5 (h.below hb).g5 hf.s5)
  have F7 := Lib.hid (fun W c (hb : Below w.heap.size w W) => cloneF W A7 c x.f1.f1 (h.below hb).g7 hf.s7)
  have F8 := Lib.hid (fun W c (hb : Below w.heap.size w W) => cloneB W A8 c x.f1.f2 (h.below hb).g8 hf.s8)
  clear h hf
  go_enter Tryd.func29, Tryd.ntmps29
  go_upto_region 1 with fail
  have hN1 : (((w.alloc (.cells (Vx x ⟨A4, c4, A5, c5, A7, c7, A8, c8⟩) 41)).alloc (.cells #[.string ⟨#[]⟩, .string ⟨#[]⟩, .string ⟨#[]⟩, .string ⟨#[]⟩, .slice none 0 0, .slice none 0 0, .int .i64 0, .slice none 0 0, .slice none 0 0, .int .i64 0, .int .i64 0] 41))).heap[w.heap.size]? = some (Bx x ⟨A4, c4, A5, c5, A7, c7, A8, c8⟩) := by
    rw [heap_alloc_old _ _ _ (by simp)]; exact heap_alloc_new w _
  have hZ1 := heap_alloc_new (w.alloc (.cells (Vx x ⟨A4, c4, A5, c5, A7, c7, A8, c8⟩) 41)) (.cells #[.string ⟨#[]⟩, .string ⟨#[]⟩, .string ⟨#[]⟩, .string ⟨#[]⟩, .slice none 0 0, .slice none 0 0, .int .i64 0, .slice none 0 0, .slice none 0 0, .int .i64 0, .int .i64 0] 41)
  rw [World.size_alloc] at hZ1
  have hB1 : Below w.heap.size w (((w.alloc (.cells (Vx x ⟨A4, c4, A5, c5, A7, c7, A8, c8⟩) 41)).alloc (.cells #[.string ⟨#[]⟩, .string ⟨#[]⟩, .string ⟨#[]⟩, .string ⟨#[]⟩, .slice none 0 0, .slice none 0 0, .int .i64 0, .slice none 0 0, .slice none 0 0, .int .i64 0, .int .i64 0] 41))) := below_alloc (below_alloc (Below.refl _ _) _) _
  have hsz : (((w.alloc (.cells (Vx x ⟨A4, c4, A5, c5, A7, c7, A8, c8⟩) 41)).alloc (.cells #[.string ⟨#[]⟩, .string ⟨#[]⟩, .string ⟨#[]⟩, .string ⟨#[]⟩, .slice none 0 0, .slice none 0 0, .int .i64 0, .slice none 0 0, .slice none 0 0, .int .i64 0, .int .i64 0] 41))).heap.size = w.heap.size + 2 := by simp
  generalize (((w.alloc (.cells (Vx x ⟨A4, c4, A5, c5, A7, c7, A8, c8⟩) 41)).alloc (.cells #[.string ⟨#[]⟩, .string ⟨#[]⟩, .string ⟨#[]⟩, .string ⟨#[]⟩, .slice none 0 0, .slice none 0 0, .int .i64 0, .slice none 0 0, .slice none 0 0, .int .i64 0, .int .i64 0] 41))) = W1 at hN1 hZ1 hB1 hsz ⊢
  have NB := Lib.hid hN1
  have BB := Lib.hid hB1
  have hsb : w.heap.size < W1.heap.size := blk_lt' hN1
  have ca := c_of hN1 4 (v := .slice A4 x.f0.f4.length c4) rfl
  have cb := c_of hN1 5 (v := .slice A5 x.f0.f5.length c5) rfl
  have CA := Lib.hid ca
  have CB := Lib.hid cb
  refine start_ (n := 14) (S := fun w' => w'.cell? ⟨w.heap.size, 4, none⟩ = some (.slice A4 x.f0.f4.length c4) ∧ w'.cell? ⟨w.heap.size, 5, none⟩ = some (.slice A5 x.f0.f5.length c5)) (ds := [10, 13]) #[false, false, false, false, false, false, false, false, false, false, false, false, false, false] (by kernel_rfl) rfl rfl ⟨ca, cb⟩ (fun hHeld => ?_)
  refine pure_ (i := 0) (N := some 3) (v := ?_) (a' := ?_) #[true, false, false, false, false, false, false, false, false, false, false, false, false, false] rfl rfl (by kernel_rfl) (fun _ _ _ h => h) (Or.inl ⟨by rfl, ?_⟩) ?_ ?_
  rotate_left
  · intro w'
    go_simp
    with_reducible rfl
  rotate_left
  · simp only [Act.put, List.setIfInBounds_toArray, List.set_cons_zero, List.set_cons_succ, i64_w, i32_w]
    rfl
  refine pure_ (i := 1) (N := some 4) (v := ?_) (a' := ?_) #[true, true, false, false, false, false, false, false, false, false, false, false, false, false] rfl rfl (by kernel_rfl) (fun _ _ _ h => h) (Or.inl ⟨by rfl, ?_⟩) ?_ ?_
  rotate_left
  · intro w'
    go_simp
    with_reducible rfl
  rotate_left
  · simp only [Act.put, List.setIfInBounds_toArray, List.set_cons_zero, List.set_cons_succ, i64_w, i32_w]
    rfl
  refine pure_ (i := 4) (N := some 7) (v := ?_) (a' := ?_) #[true, true, false, false, true, false, false, false, false, false, false, false, false, false] rfl rfl (by kernel_rfl) (fun _ _ _ h => h) (Or.inl ⟨by rfl, ?_⟩) ?_ ?_
  rotate_left
  · intro w'
    go_simp
    with_reducible rfl
  rotate_left
  · simp only [Act.put, List.setIfInBounds_toArray, List.set_cons_zero, List.set_cons_succ, i64_w, i32_w]
    rfl
  refine pure_ (i := 5) (N := some 8) (v := ?_) (a' := ?_) #[true, true, false, false, true, true, false, false, false, false, false, false, false, false] rfl rfl (by kernel_rfl) (fun _ _ _ h => h) (Or.inl ⟨by rfl, ?_⟩) ?_ ?_
  rotate_left
  · intro w'
    go_simp
    with_reducible rfl
  rotate_left
  · simp only [Act.put, List.setIfInBounds_toArray, List.set_cons_zero, List.set_cons_succ, i64_w, i32_w]
    rfl
  refine take_ (i := 2) (N := some 5) (v := ?_) (a' := ?_) #[true, true, true, false, true, true, false, false, false, false, false, false, false, false] rfl rfl (by kernel_rfl) (fun _ _ _ h => h) (Or.inl ⟨by rfl, ?_⟩) hHeld ?_ ?_
  rotate_left
  · rintro w' ⟨s0, s1⟩
    go_simp
    with_reducible rfl
  rotate_left
  · simp only [Act.put, List.setIfInBounds_toArray, List.set_cons_zero, List.set_cons_succ, i64_w, i32_w]
    rfl
  refine take_ (i := 6) (N := some 9) (v := ?_) (a' := ?_) #[true, true, true, false, true, true, true, false, false, false, false, false, false, false] rfl rfl (by kernel_rfl) (fun _ _ _ h => h) (Or.inl ⟨by rfl, ?_⟩) hHeld ?_ ?_
  rotate_left
  · rintro w' ⟨s0, s1⟩
    go_simp
    with_reducible rfl
  rotate_left
  · simp only [Act.put, List.setIfInBounds_toArray, List.set_cons_zero, List.set_cons_succ, i64_w, i32_w]
    rfl
  refine one_ (i := 3) (N := some 6) #[true, true, true, true, true, true, true, false, false, false, false, false, false, false] rfl rfl (by kernel_rfl) (by decide) (fun K hK => ?_)
  refine goes_ Tryd.func48 (by kernel_rfl) rfl #[.slice A4 x.f0.f4.length c4] (by rfl) rfl rfl (by simp only [List.map_toArray, List.map_cons, List.map_nil]; rfl) ?_
  with_reducible refine (F4.out _ c4 (below_step BB.out (below_drew (Below.refl _ W1)))).mono ?_
  rintro e w3 ⟨Y4, d4, rfl, hb3, hla, hCa, hoa⟩
  refine ⟨_, rfl, ?_⟩
  refine hK.out _ _ ⟨pw_cell_below (below_step (below_drew (Below.refl _ W1)) hb3) CA.out, pw_cell_below (below_step (below_drew (Below.refl _ W1)) hb3) CB.out⟩ (fun hHeld => ?_)
  clear hK K
  refine norm_ (a' := ?_) ?_ ?_
  rotate_left
  · show Act.put _ (some 6) _ = _
    simp only [Act.put, List.setIfInBounds_toArray, List.set_cons_zero, List.set_cons_succ, i64_w, i32_w]
    rfl
  refine pure_ (i := 8) (N := some 11) (v := ?_) (a' := ?_) #[true, true, true, true, true, true, true, false, true, false, false, false, false, false] rfl rfl (by kernel_rfl) (fun _ _ _ h => h) (Or.inl ⟨by rfl, ?_⟩) ?_ ?_
  rotate_left
  · intro w'
    go_simp
    with_reducible rfl
  rotate_left
  · simp only [Act.put, List.setIfInBounds_toArray, List.set_cons_zero, List.set_cons_succ, i64_w, i32_w]
    rfl
  refine pure_ (i := 9) (N := some 12) (v := ?_) (a' := ?_) #[true, true, true, true, true, true, true, false, true, true, false, false, false, false] rfl rfl (by kernel_rfl) (fun _ _ _ h => h) (Or.inl ⟨by rfl, ?_⟩) ?_ ?_
  rotate_left
  · intro w'
    go_simp
    with_reducible rfl
  rotate_left
  · simp only [Act.put, List.setIfInBounds_toArray, List.set_cons_zero, List.set_cons_succ, i64_w, i32_w]
    rfl
  refine one_ (i := 7) (N := some 10) #[true, true, true, true, true, true, true, true, true, true, false, false, false, false] rfl rfl (by kernel_rfl) (by decide) (fun K hK => ?_)
  refine goes_ Tryd.func49 (by kernel_rfl) rfl #[.slice A5 x.f0.f5.length c5] (by rfl) rfl rfl (by simp only [List.map_toArray, List.map_cons, List.map_nil]; rfl) ?_
  with_reducible refine (F5.out _ c5 (below_step BB.out (below_step (below_drew (Below.refl _ W1)) hb3))).mono ?_
  rintro e w7 ⟨Y5, d5, rfl, hb7, hlb, hCb, hob⟩
  refine ⟨_, rfl, ?_⟩
  have hh7 := (Below.block (below_step (below_step (below_drew (Below.refl _ W1)) hb3) hb7) w.heap.size hsb).trans NB.out
  have fa := fr_of hh7 4
  have fb := fr_of hh7 5
  have HH7 := Lib.hid hh7
  clear hh7
  refine hK.out _ _ ⟨pw_cell_below (below_step (below_step (below_drew (Below.refl _ W1)) hb3) hb7) CA.out, pw_cell_below (below_step (below_step (below_drew (Below.refl _ W1)) hb3) hb7) CB.out⟩ (fun hHeld => ?_)
  clear hK K
  refine norm_ (a' := ?_) ?_ ?_
  rotate_left
  · show Act.put _ (some 10) _ = _
    simp only [Act.put, List.setIfInBounds_toArray, List.set_cons_zero, List.set_cons_succ, i64_w, i32_w]
    rfl
  refine last_ (i := 10) (N := none) #[true, true, true, true, true, true, true, true, true, true, true, false, false, false] rfl rfl (by kernel_rfl) (by decide) (fun K hK => ?_)
  refine skip_ (w1 := ?_) (by rfl) rfl ?_ ?_
  rotate_left
  · go_simp
    rfl
  refine hK.out _ _ ?_
  clear hK K
  refine pure_ (i := 11) (N := some 13) (v := ?_) (a' := ?_) #[true, true, true, true, true, true, true, true, true, true, true, true, false, false] rfl rfl (by kernel_rfl) (fun _ _ _ h => h) (Or.inl ⟨by rfl, ?_⟩) ?_ ?_
  rotate_left
  · intro w'
    go_simp
    with_reducible rfl
  rotate_left
  · simp only [Act.put, List.setIfInBounds_toArray, List.set_cons_zero, List.set_cons_succ, i64_w, i32_w]
    rfl
  refine pure_ (i := 12) (N := some 14) (v := ?_) (a' := ?_) #[true, true, true, true, true, true, true, true, true, true, true, true, true, false] rfl rfl (by kernel_rfl) (fun _ _ _ h => h) (Or.inl ⟨by rfl, ?_⟩) ?_ ?_
  rotate_left
  · intro w'
    go_simp
    with_reducible rfl
  rotate_left
  · simp only [Act.put, List.setIfInBounds_toArray, List.set_cons_zero, List.set_cons_succ, i64_w, i32_w]
    rfl
  refine last_ (i := 13) (N := none) #[true, true, true, true, true, true, true, true, true, true, true, true, true, true] rfl rfl (by kernel_rfl) (by decide) (fun K hK => ?_)
  refine skip_ (w1 := ?_) (by rfl) rfl ?_ ?_
  rotate_left
  · go_simp
    rfl
  refine hK.out _ _ ?_
  clear hK K
  refine done_ (by kernel_rfl) ?_
  clear hHeld ca cb fa fb hsb
  obtain ⟨W2, hW⟩ : ∃ W, W = ((w7.setCell ⟨w.heap.size, 4, none⟩ (.slice Y4 x.f0.f4.length d4)).setCell ⟨w.heap.size, 5, none⟩ (.slice Y5 x.f0.f5.length d5)) := ⟨_, rfl⟩
  rw [← hW]
  have hN2 : W2.heap[w.heap.size]? = some (Bx x ⟨Y4, d4, Y5, d5, A7, c7, A8, c8⟩) := by rw [hW]; exact set_same (set_same HH7.out rfl) rfl
  have hZ2 : W2.heap[w.heap.size + 1]? = some (.cells #[.string ⟨#[]⟩, .string ⟨#[]⟩, .string ⟨#[]⟩, .string ⟨#[]⟩, .slice none 0 0, .slice none 0 0, .int .i64 0, .slice none 0 0, .slice none 0 0, .int .i64 0, .int .i64 0] 41 (0, 0)) := by rw [hW]; exact set_other (set_other ((Below.block (below_step (below_step (below_drew (Below.refl _ W1)) hb3) hb7) _ (blk_lt' hZ1)).trans hZ1) (by omega)) (by omega)
  have hB2 : Below w.heap.size w W2 := by rw [hW]; exact ((below_step BB.out (below_step (below_step (below_drew (Below.refl _ W1)) hb3) hb7)).setCell (p := ⟨w.heap.size, 4, none⟩) (Nat.le_refl _) _).setCell (p := ⟨w.heap.size, 5, none⟩) (Nat.le_refl _) _
  have hsz2 : w.heap.size + 2 ≤ W2.heap.size := by rw [hW]; have := Below.size (below_step (below_step (below_drew (Below.refl _ W1)) hb3) hb7); simp only [World.size_setCell]; omega
  have far : ∀ q, q ≠ w.heap.size → W2.heap[q]? = w7.heap[q]? := by intro q hq; rw [hW, heap_setCell_other _ _ _ _ hq, heap_setCell_other _ _ _ _ hq]
  have b3s : w.heap.size + 2 ≤ w3.heap.size := by have := Below.size (below_step (below_drew (Below.refl _ W1)) hb3); omega
  have b1s : w.heap.size + 2 ≤ W1.heap.size := by omega
  have E4 : Kd.C k63 W2 Y4 x.f0.f4.length x.f0.f4 := k63_C_keep (Kd.C_below hCa hb7) (fun hn ad e => far _ (by have : W1.heap.size ≤ ad.block := (hoa hn ad e).1; omega))
  have E5 : Kd.C (Kd.int .u8) W2 Y5 x.f0.f5.length x.f0.f5 := u8_C_keep hCb (fun hn ad e => far _ (by have := (hob hn ad e).1; omega))
  have O4 : 0 < x.f0.f4.length → ∀ ad, Y4 = some ad → w.heap.size + 1 < ad.block := fun hn ad e => by have : W1.heap.size ≤ ad.block := (hoa hn ad e).1; omega
  have O5 : 0 < x.f0.f5.length → ∀ ad, Y5 = some ad → w.heap.size + 1 < ad.block := fun hn ad e => by have := (hob hn ad e).1; omega
  have Q4 : 0 < x.f0.f4.length → ∀ ad, Y4 = some ad → Typed W2 ad.block := fun hn ad e => ((hoa hn ad e).2.below hb7).of (far _ (by have : W1.heap.size ≤ ad.block := (hoa hn ad e).1; omega))
  have Q5 : 0 < x.f0.f5.length → ∀ ad, Y5 = some ad → Typed W2 ad.block := fun hn ad e => (hob hn ad e).2.of (far _ (by have := (hob hn ad e).1; omega))
  have L4 := hla
  have L5 := hlb
  clear hW far hN1 hZ1 hB1 HH7 NB BB CA CB hCa hCb hoa hob hla hlb hb3 hb7 b3s b1s
  clear hsz
  go_upto_region 2 with fail
  have NB := Lib.hid hN2
  have BB := Lib.hid hB2
  have hsb : w.heap.size < W2.heap.size := blk_lt' hN2
  have ca := c_of hN2 7 (v := .slice A7 x.f1.f1.length c7) rfl
  have cb := c_of hN2 8 (v := .slice A8 x.f1.f2.length c8) rfl
  have CA := Lib.hid ca
  have CB := Lib.hid cb
  refine start_ (n := 14) (S := fun w' => w'.cell? ⟨w.heap.size, 7, none⟩ = some (.slice A7 x.f1.f1.length c7) ∧ w'.cell? ⟨w.heap.size, 8, none⟩ = some (.slice A8 x.f1.f2.length c8)) (ds := [10, 13]) #[false, false, false, false, false, false, false, false, false, false, false, false, false, false] (by kernel_rfl) rfl rfl ⟨ca, cb⟩ (fun hHeld => ?_)
  refine pure_ (i := 0) (N := some 15) (v := ?_) (a' := ?_) #[true, false, false, false, false, false, false, false, false, false, false, false, false, false] rfl rfl (by kernel_rfl) (fun _ _ _ h => h) (Or.inl ⟨by rfl, ?_⟩) ?_ ?_
  rotate_left
  · intro w'
    go_simp
    with_reducible rfl
  rotate_left
  · simp only [Act.put, List.setIfInBounds_toArray, List.set_cons_zero, List.set_cons_succ, i64_w, i32_w]
    rfl
  refine pure_ (i := 1) (N := some 16) (v := ?_) (a' := ?_) #[true, true, false, false, false, false, false, false, false, false, false, false, false, false] rfl rfl (by kernel_rfl) (fun _ _ _ h => h) (Or.inl ⟨by rfl, ?_⟩) ?_ ?_
  rotate_left
  · intro w'
    go_simp
    with_reducible rfl
  rotate_left
  · simp only [Act.put, List.setIfInBounds_toArray, List.set_cons_zero, List.set_cons_succ, i64_w, i32_w]
    rfl
  refine pure_ (i := 4) (N := some 19) (v := ?_) (a' := ?_) #[true, true, false, false, true, false, false, false, false, false, false, false, false, false] rfl rfl (by kernel_rfl) (fun _ _ _ h => h) (Or.inl ⟨by rfl, ?_⟩) ?_ ?_
  rotate_left
  · intro w'
    go_simp
    with_reducible rfl
  rotate_left
  · simp only [Act.put, List.setIfInBounds_toArray, List.set_cons_zero, List.set_cons_succ, i64_w, i32_w]
    rfl
  refine pure_ (i := 5) (N := some 20) (v := ?_) (a' := ?_) #[true, true, false, false, true, true, false, false, false, false, false, false, false, false] rfl rfl (by kernel_rfl) (fun _ _ _ h => h) (Or.inl ⟨by rfl, ?_⟩) ?_ ?_
  rotate_left
  · intro w'
    go_simp
    with_reducible rfl
  rotate_left
  · simp only [Act.put, List.setIfInBounds_toArray, List.set_cons_zero, List.set_cons_succ, i64_w, i32_w]
    rfl
  refine take_ (i := 2) (N := some 17) (v := ?_) (a' := ?_) #[true, true, true, false, true, true, false, false, false, false, false, false, false, false] rfl rfl (by kernel_rfl) (fun _ _ _ h => h) (Or.inl ⟨by rfl, ?_⟩) hHeld ?_ ?_
  rotate_left
  · rintro w' ⟨s0, s1⟩
    go_simp
    with_reducible rfl
  rotate_left
  · simp only [Act.put, List.setIfInBounds_toArray, List.set_cons_zero, List.set_cons_succ, i64_w, i32_w]
    rfl
  refine take_ (i := 6) (N := some 21) (v := ?_) (a' := ?_) #[true, true, true, false, true, true, true, false, false, false, false, false, false, false] rfl rfl (by kernel_rfl) (fun _ _ _ h => h) (Or.inl ⟨by rfl, ?_⟩) hHeld ?_ ?_
  rotate_left
  · rintro w' ⟨s0, s1⟩
    go_simp
    with_reducible rfl
  rotate_left
  · simp only [Act.put, List.setIfInBounds_toArray, List.set_cons_zero, List.set_cons_succ, i64_w, i32_w]
    rfl
  refine one_ (i := 3) (N := some 18) #[true, true, true, true, true, true, true, false, false, false, false, false, false, false] rfl rfl (by kernel_rfl) (by decide) (fun K hK => ?_)
  refine goes_ Tryd.func48 (by kernel_rfl) rfl #[.slice A7 x.f1.f1.length c7] (by rfl) rfl rfl (by simp only [List.map_toArray, List.map_cons, List.map_nil]; rfl) ?_
  with_reducible refine (F7.out _ c7 (below_step BB.out (below_drew (Below.refl _ W2)))).mono ?_
  rintro e w3 ⟨Xa, ma, rfl, hb3, hla, hCa, hoa⟩
  refine ⟨_, rfl, ?_⟩
  refine hK.out _ _ ⟨pw_cell_below (below_step (below_drew (Below.refl _ W2)) hb3) CA.out, pw_cell_below (below_step (below_drew (Below.refl _ W2)) hb3) CB.out⟩ (fun hHeld => ?_)
  clear hK K
  refine norm_ (a' := ?_) ?_ ?_
  rotate_left
  · show Act.put _ (some 18) _ = _
    simp only [Act.put, List.setIfInBounds_toArray, List.set_cons_zero, List.set_cons_succ, i64_w, i32_w]
    rfl
  refine pure_ (i := 8) (N := some 23) (v := ?_) (a' := ?_) #[true, true, true, true, true, true, true, false, true, false, false, false, false, false] rfl rfl (by kernel_rfl) (fun _ _ _ h => h) (Or.inl ⟨by rfl, ?_⟩) ?_ ?_
  rotate_left
  · intro w'
    go_simp
    with_reducible rfl
  rotate_left
  · simp only [Act.put, List.setIfInBounds_toArray, List.set_cons_zero, List.set_cons_succ, i64_w, i32_w]
    rfl
  refine pure_ (i := 9) (N := some 24) (v := ?_) (a' := ?_) #[true, true, true, true, true, true, true, false, true, true, false, false, false, false] rfl rfl (by kernel_rfl) (fun _ _ _ h => h) (Or.inl ⟨by rfl, ?_⟩) ?_ ?_
  rotate_left
  · intro w'
    go_simp
    with_reducible rfl
  rotate_left
  · simp only [Act.put, List.setIfInBounds_toArray, List.set_cons_zero, List.set_cons_succ, i64_w, i32_w]
    rfl
  refine one_ (i := 7) (N := some 22) #[true, true, true, true, true, true, true, true, true, true, false, false, false, false] rfl rfl (by kernel_rfl) (by decide) (fun K hK => ?_)
  refine goes_ Tryd.func49 (by kernel_rfl) rfl #[.slice A8 x.f1.f2.length c8] (by rfl) rfl rfl (by simp only [List.map_toArray, List.map_cons, List.map_nil]; rfl) ?_
  with_reducible refine (F8.out _ c8 (below_step BB.out (below_step (below_drew (Below.refl _ W2)) hb3))).mono ?_
  rintro e w7 ⟨Xb, mb, rfl, hb7, hlb, hCb, hob⟩
  refine ⟨_, rfl, ?_⟩
  have hh7 := (Below.block (below_step (below_step (below_drew (Below.refl _ W2)) hb3) hb7) w.heap.size hsb).trans NB.out
  have fa := fr_of hh7 7
  have fb := fr_of hh7 8
  have HH7 := Lib.hid hh7
  clear hh7
  refine hK.out _ _ ⟨pw_cell_below (below_step (below_step (below_drew (Below.refl _ W2)) hb3) hb7) CA.out, pw_cell_below (below_step (below_step (below_drew (Below.refl _ W2)) hb3) hb7) CB.out⟩ (fun hHeld => ?_)
  clear hK K
  refine norm_ (a' := ?_) ?_ ?_
  rotate_left
  · show Act.put _ (some 22) _ = _
    simp only [Act.put, List.setIfInBounds_toArray, List.set_cons_zero, List.set_cons_succ, i64_w, i32_w]
    rfl
  refine last_ (i := 10) (N := none) #[true, true, true, true, true, true, true, true, true, true, true, false, false, false] rfl rfl (by kernel_rfl) (by decide) (fun K hK => ?_)
  refine skip_ (w1 := ?_) (by rfl) rfl ?_ ?_
  rotate_left
  · go_simp
    rfl
  refine hK.out _ _ ?_
  clear hK K
  refine pure_ (i := 11) (N := some 25) (v := ?_) (a' := ?_) #[true, true, true, true, true, true, true, true, true, true, true, true, false, false] rfl rfl (by kernel_rfl) (fun _ _ _ h => h) (Or.inl ⟨by rfl, ?_⟩) ?_ ?_
  rotate_left
  · intro w'
    go_simp
    with_reducible rfl
  rotate_left
  · simp only [Act.put, List.setIfInBounds_toArray, List.set_cons_zero, List.set_cons_succ, i64_w, i32_w]
    rfl
  refine pure_ (i := 12) (N := some 26) (v := ?_) (a' := ?_) #[true, true, true, true, true, true, true, true, true, true, true, true, true, false] rfl rfl (by kernel_rfl) (fun _ _ _ h => h) (Or.inl ⟨by rfl, ?_⟩) ?_ ?_
  rotate_left
  · intro w'
    go_simp
    with_reducible rfl
  rotate_left
  · simp only [Act.put, List.setIfInBounds_toArray, List.set_cons_zero, List.set_cons_succ, i64_w, i32_w]
    rfl
  refine last_ (i := 13) (N := none) #[true, true, true, true, true, true, true, true, true, true, true, true, true, true] rfl rfl (by kernel_rfl) (by decide) (fun K hK => ?_)
  refine skip_ (w1 := ?_) (by rfl) rfl ?_ ?_
  rotate_left
  · go_simp
    rfl
  refine hK.out _ _ ?_
  clear hK K
  refine done_ (by kernel_rfl) ?_
  clear hHeld ca cb fa fb hsb
  obtain ⟨W3, hW⟩ : ∃ W, W = ((w7.setCell ⟨w.heap.size, 7, none⟩ (.slice Xa x.f1.f1.length ma)).setCell ⟨w.heap.size, 8, none⟩ (.slice Xb x.f1.f2.length mb)) := ⟨_, rfl⟩
  rw [← hW]
  have hN3 : W3.heap[w.heap.size]? = some (Bx x ⟨Y4, d4, Y5, d5, Xa, ma, Xb, mb⟩) := by rw [hW]; exact set_same (set_same HH7.out rfl) rfl
  have hZ3 : W3.heap[w.heap.size + 1]? = some (.cells #[.string ⟨#[]⟩, .string ⟨#[]⟩, .string ⟨#[]⟩, .string ⟨#[]⟩, .slice none 0 0, .slice none 0 0, .int .i64 0, .slice none 0 0, .slice none 0 0, .int .i64 0, .int .i64 0] 41 (0, 0)) := by rw [hW]; exact set_other (set_other ((Below.block (below_step (below_step (below_drew (Below.refl _ W2)) hb3) hb7) _ (blk_lt' hZ2)).trans hZ2) (by omega)) (by omega)
  have hB3 : Below w.heap.size w W3 := by rw [hW]; exact ((below_step BB.out (below_step (below_step (below_drew (Below.refl _ W2)) hb3) hb7)).setCell (p := ⟨w.heap.size, 7, none⟩) (Nat.le_refl _) _).setCell (p := ⟨w.heap.size, 8, none⟩) (Nat.le_refl _) _
  have hsz3 : w.heap.size + 2 ≤ W3.heap.size := by rw [hW]; have := Below.size (below_step (below_step (below_drew (Below.refl _ W2)) hb3) hb7); simp only [World.size_setCell]; omega
  have far : ∀ q, q ≠ w.heap.size → W3.heap[q]? = w7.heap[q]? := by intro q hq; rw [hW, heap_setCell_other _ _ _ _ hq, heap_setCell_other _ _ _ _ hq]
  have b3s : w.heap.size + 2 ≤ w3.heap.size := by have := Below.size (below_step (below_drew (Below.refl _ W2)) hb3); omega
  have b1s := hsz2
  have E7 : Kd.C k63 W3 Xa x.f1.f1.length x.f1.f1 := k63_C_keep (Kd.C_below hCa hb7) (fun hn ad e => far _ (by have : W2.heap.size ≤ ad.block := (hoa hn ad e).1; omega))
  have E8 : Kd.C (Kd.int .u8) W3 Xb x.f1.f2.length x.f1.f2 := u8_C_keep hCb (fun hn ad e => far _ (by have := (hob hn ad e).1; omega))
  have O7 : 0 < x.f1.f1.length → ∀ ad, Xa = some ad → w.heap.size + 1 < ad.block := fun hn ad e => by have : W2.heap.size ≤ ad.block := (hoa hn ad e).1; omega
  have O8 : 0 < x.f1.f2.length → ∀ ad, Xb = some ad → w.heap.size + 1 < ad.block := fun hn ad e => by have := (hob hn ad e).1; omega
  have Q7 : 0 < x.f1.f1.length → ∀ ad, Xa = some ad → Typed W3 ad.block := fun hn ad e => ((hoa hn ad e).2.below hb7).of (far _ (by have : W2.heap.size ≤ ad.block := (hoa hn ad e).1; omega))
  have Q8 : 0 < x.f1.f2.length → ∀ ad, Xb = some ad → Typed W3 ad.block := fun hn ad e => (hob hn ad e).2.of (far _ (by have := (hob hn ad e).1; omega))
  have L7 := hla
  have L8 := hlb
  have Q4 := fun hn ad e => ((Q4 hn ad e).below (below_step (below_step (below_drew (Below.refl _ W2)) hb3) hb7)).of (far _ (by have := O4 hn ad e; omega))
  have Q5 := fun hn ad e => ((Q5 hn ad e).below (below_step (below_step (below_drew (Below.refl _ W2)) hb3) hb7)).of (far _ (by have := O5 hn ad e; omega))
  have E4 := k63_C_keep (Kd.C_below E4 (below_step (below_step (below_drew (Below.refl _ W2)) hb3) hb7)) (fun hn ad e => far _ (by have := O4 hn ad e; omega))
  have E5 := u8_C_keep (Kd.C_below E5 (below_step (below_step (below_drew (Below.refl _ W2)) hb3) hb7)) (fun hn ad e => far _ (by have := O5 hn ad e; omega))
  clear hW far hN2 hZ2 hB2 HH7 NB BB CA CB hCa hCb hoa hob hla hlb hb3 hb7 b3s b1s
  obtain ⟨l0, l1, l2, l3, l4, l5, l6, l7, l8, l9, l10⟩ := bx_cells hN3
  have z0 := c_of hZ3 0 (v := .string ⟨#[]⟩) rfl
  have y0 := fr_of hZ3 0
  have z1 := c_of hZ3 1 (v := .string ⟨#[]⟩) rfl
  have y1 := fr_of hZ3 1
  have z2 := c_of hZ3 2 (v := .string ⟨#[]⟩) rfl
  have y2 := fr_of hZ3 2
  have z3 := c_of hZ3 3 (v := .string ⟨#[]⟩) rfl
  have y3 := fr_of hZ3 3
  have z4 := c_of hZ3 4 (v := .slice none 0 0) rfl
  have y4 := fr_of hZ3 4
  have z5 := c_of hZ3 5 (v := .slice none 0 0) rfl
  have y5 := fr_of hZ3 5
  have z6 := c_of hZ3 6 (v := .int .i64 0) rfl
  have y6 := fr_of hZ3 6
  have z7 := c_of hZ3 7 (v := .slice none 0 0) rfl
  have y7 := fr_of hZ3 7
  have z8 := c_of hZ3 8 (v := .slice none 0 0) rfl
  have y8 := fr_of hZ3 8
  have z9 := c_of hZ3 9 (v := .int .i64 0) rfl
  have y9 := fr_of hZ3 9
  have z10 := c_of hZ3 10 (v := .int .i64 0) rfl
  have y10 := fr_of hZ3 10
  go_wp2
  obtain ⟨W4, hW⟩ : ∃ W, W = (((((((((((W3.setCell ⟨w.heap.size + 1, 0, none⟩ (.string x.f0.f0)).setCell ⟨w.heap.size + 1, 1, none⟩ (.string x.f0.f1)).setCell ⟨w.heap.size + 1, 2, none⟩ (.string x.f0.f2)).setCell ⟨w.heap.size + 1, 3, none⟩ (.string x.f0.f3)).setCell ⟨w.heap.size + 1, 4, none⟩ (.slice Y4 x.f0.f4.length d4)).setCell ⟨w.heap.size + 1, 5, none⟩ (.slice Y5 x.f0.f5.length d5)).setCell ⟨w.heap.size + 1, 6, none⟩ (.int .i64 x.f1.f0)).setCell ⟨w.heap.size + 1, 7, none⟩ (.slice Xa x.f1.f1.length ma)).setCell ⟨w.heap.size + 1, 8, none⟩ (.slice Xb x.f1.f2.length mb)).setCell ⟨w.heap.size + 1, 9, none⟩ (.int .i64 x.f2)).setCell ⟨w.heap.size + 1, 10, none⟩ (.int .i64 x.f3)) := ⟨_, rfl⟩
  rw [← hW]
  have hR : W4.heap[w.heap.size + 1]? = some (Bx x ⟨Y4, d4, Y5, d5, Xa, ma, Xb, mb⟩) := by
    rw [hW]
    exact put11 hZ3 _ _ _ _ _ _ _ _ _ _ _
  have hb : Below w.heap.size w W4 := by
    rw [hW]
    repeat (refine Below.setCell ?_ (by simp) _)
    exact hB3
  have far : ∀ q, q ≠ w.heap.size + 1 → W4.heap[q]? = W3.heap[q]? := by
    intro q hq
    rw [hW]
    iterate 11 rw [heap_setCell_other _ _ _ _ hq]
  clear hW l0 l1 l2 l3 l4 l5 l6 l7 l8 l9 l10
  obtain ⟨l0, l1, l2, l3, l4, l5, l6, l7, l8, l9, l10⟩ := bx_cells hR
  refine bodyPost_ret (v := .agg (Vx x ⟨Y4, d4, Y5, d5, Xa, ma, Xb, mb⟩)) (by simp [results, Tryd.results29, go_sem, l0, l1, l2, l3, l4, l5, l6, l7, l8, l9, l10]) rfl ⟨_, rfl, hb, ?_⟩
  refine ⟨L4, k63_C_keep E4 (fun hn ad e => far _ ?_), fun hn ad e => ?_, L5, u8_C_keep E5 (fun hn ad e => far _ ?_), fun hn ad e => ?_, L7, k63_C_keep E7 (fun hn ad e => far _ ?_), fun hn ad e => ?_, L8, u8_C_keep E8 (fun hn ad e => far _ ?_), fun hn ad e => ?_⟩
  · have := O4 hn ad e; omega
  · exact ⟨by have := O4 hn ad e; omega, (Q4 hn ad e).of (far _ (by have := O4 hn ad e; omega))⟩
  · have := O5 hn ad e; omega
  · exact ⟨by have := O5 hn ad e; omega, (Q5 hn ad e).of (far _ (by have := O5 hn ad e; omega))⟩
  · have := O7 hn ad e; omega
  · exact ⟨by have := O7 hn ad e; omega, (Q7 hn ad e).of (far _ (by have := O7 hn ad e; omega))⟩
  · have := O8 hn ad e; omega
  · exact ⟨by have := O8 hn ad e; omega, (Q8 hn ad e).of (far _ (by have := O8 hn ad e; omega))⟩
theorem own_calls (w : World) (P : Nat → Prop) (x : S41) (r : Rf) (h : Ex w P x r) (hf : Fits x) : Calls Tryd.prog 29 #[.agg (Vx x r)] w fun e w' => ∃ r', e = .returned (.agg (Vx x r')) ∧ Below w.heap.size w w' ∧ Ex w' (fun k => w.heap.size ≤ k) x r' := by
  refine (own_calls2 w P x r h hf).mono ?_
  rintro e w' ⟨r', he, hb, hE⟩
  exact ⟨r', he, hb, hE.mono (fun k hk => hk.1)⟩
end Go.Proofs.YtkbbjjegpjdpeaaDoor.S
/- A region that draws its order, inside a round of a loop over a function. -/
namespace Go.Proofs.YtkbbjjegpjdpeaaDoor.S
open Go Go.RowKit Go.Proofs.YtkbbjjegpjdpeaaDoorW.PrintWords Go.Proofs.YtkbbjjegpjdpeaaDoorW.PrintLast
variable {P : Program} {ops : Array Oper} {Q : Exit → Act → World → Prop} {md : Region.Mode} {S : World → Prop} {ds : List Nat}

theorem oper_in {l m : Nat} {o : Oper} {a : Act} {K : Act → World → Prop} {w : World} (hp : ∀ c, o.op ≠ .defer c) (h : o.wp P a w K Q) : o.wpIn (Fence.wide.inRound l) m P a w K Q := by
  unfold Oper.wpIn
  refine ⟨fun _ _ => trivial, ?_⟩
  rw [Oper.semAt_eq _ _ _ hp]
  unfold Oper.wp at h
  generalize (execOp a.eval o).run P w = r at h ⊢
  cases r with
  | ok x w' =>
    cases x
    case enter f args => exact ⟨(fun hd => by cases hd), (CallsIn.inRound l (callsIn_wide.2 h)).mono (by intro e w h; cases e <;> exact h)⟩
    case row r args => exact ⟨(fun hd => by cases hd), fun c cs _ => let ⟨v, w'', hR, hs⟩ := h c cs; ⟨v, w'', hR, stepsIn_wide.2 hs⟩⟩
    all_goals first | exact h | exact h.elim
  | halt x w' => cases x <;> first | exact h | exact h.elim
def plainOps (ops : Array Oper) : Bool := ops.all fun o => match o.op with | .defer _ => false | _ => true
theorem plainOps_at {i : Nat} {o : Oper} (h : plainOps ops = true) (ho : ops[i]? = some o) : ∀ c, o.op ≠ .defer c := by
  intro c e
  have := Array.all_eq_true'.1 h o (Array.mem_of_getElem? ho)
  rw [e] at this
  cases this
theorem any_in {l m : Nat} (hp : plainOps ops = true) (hno : ¬ LetsOut Q) : ∀ (fuel : Nat) (L : Array Bool) (a : Act) (w : World), wpAny P md ops Q fuel L a w → wpAnyIn (Fence.wide.inRound l) m P md ops Q fuel L a w
  | 0, _, _, _, h => h
  | fuel + 1, L, a, w, h => by
    refine ⟨h.1, fun i hi => ?_⟩
    have h2 := h.2 i hi
    unfold wpOp at h2
    unfold wpOpIn
    split at h2
    · rename_i ho
      rw [ho]
      exact any_in hp hno fuel _ _ _ h2
    · rename_i o ho
      rw [ho]
      simp only
      split at h2
      · rename_i hw
        rw [if_pos hw]
        rcases h2 with h2 | h2
        · exact Oper.wpIn_mono (fun a w => any_in hp hno fuel _ a w) (oper_in (plainOps_at hp ho) h2)
        · exact absurd h2.2 hno
      · rename_i hw
        rw [if_neg hw]
        exact ⟨fun _ _ => trivial, any_in hp hno fuel _ _ _ h2⟩
theorem start_in {l m : Nat} {id n : Nat} {a : Act} {w : World} (hp : plainOps ops = true) (hno : ¬ LetsOut Q) (L : Array Bool) (hm : P.follows .mixedOrders = true) (hn : ops.size = n) (hl : Array.replicate n false = L) (hS : S w.drew)
    (h : S w.drew → wpAnyLast P .any ops Q S ds n L a w.drew) : (Code.region id ops true).wpIn (Fence.wide.inRound l) m P Q a w := by
  subst hn
  subst hl
  exact wpIn_region_any hm (any_in hp hno _ _ _ _ (wpAny_of_last _ _ _ _ (h hS)))
end Go.Proofs.YtkbbjjegpjdpeaaDoor.S
/- (not yet a claim) the store's List -/
namespace Go.Proofs.YtkbbjjegpjdpeaaDoor.S
open Go.RowKit Go.Shelf Go.Proofs.YtkbbjjegpjdpeaaDoorW.PrintWords Go.Proofs.YtkbbjjegpjdpeaaDoorW.PrintLast Go.Proofs.YtkbbjjegpjdpeaaDoorW.PrintMore Go.Proofs.YtkbbjjegpjdpeaaDoor.G
set_option linter.unusedVariables false
set_option linter.unusedSimpArgs false
attribute [local go_sem] Oper.semAt_some

theorem info41 : (Tryd.prog.info? 41).map (fun i => (i.zero, i.size, i.bytes)) = some (some (.agg #[.string ⟨#[]⟩, .string ⟨#[]⟩, .string ⟨#[]⟩, .string ⟨#[]⟩, .slice none 0 0, .slice none 0 0, .int .i64 0, .slice none 0 0, .slice none 0 0, .int .i64 0, .int .i64 0]), 11, 184) := by kernel_rfl
theorem info41' : ∃ i, Tryd.prog.info? 41 = some i ∧ i.zero = some (.agg #[.string ⟨#[]⟩, .string ⟨#[]⟩, .string ⟨#[]⟩, .string ⟨#[]⟩, .slice none 0 0, .slice none 0 0, .int .i64 0, .slice none 0 0, .slice none 0 0, .int .i64 0, .int .i64 0]) ∧ i.size = 11 ∧ i.bytes = 184 := by
  have h := info41
  rcases hi : Tryd.prog.info? 41 with _ | i
  · rw [hi] at h; cases h
  · rw [hi] at h
    simp only [Option.map_some, Option.some.injEq, Prod.mk.injEq] at h
    exact ⟨i, rfl, h.1, h.2.1, h.2.2⟩
/-- an exchange in a row: its cells -/
def RX (p : S41 × Rf) (c : List Value) : Prop := c = (Vx p.1 p.2).toList
theorem app_eq (w3 : World) (base : Nat) (A : Option Addr) (c : Nat) (ps : List (S41 × Rf)) (x : S41) (r : Rf) (hown : OwnRow RX 41 11 w3 base (.slice A ps.length c) ps) (hb : base ≤ w3.heap.size) (hl : ps.length + 1 ≤ 1000000) :
    ∃ A' c' w', (Builtin.append_ #[39, 39] 39 #[.slice A ps.length c, .slice (some ⟨w3.heap.size, 0, none⟩) 1 1]).run Tryd.prog (w3.alloc (.cells #[.string x.f0.f0, .string x.f0.f1, .string x.f0.f2, .string x.f0.f3, .slice r.A4 x.f0.f4.length r.c4, .slice r.A5 x.f0.f5.length r.c5, .int .i64 x.f1.f0, .slice r.A7 x.f1.f1.length r.c7, .slice r.A8 x.f1.f2.length r.c8, .int .i64 x.f2, .int .i64 x.f3] 41)) = .ok (.slice A' (ps.length + 1) c') w' ∧
      OwnRow RX 41 11 w' base (.slice A' (ps ++ [(x, r)]).length c') (ps ++ [(x, r)]) ∧ (w3.alloc (.cells (Vx x r) 41)).grownBy w' (Value.slice A ps.length c).ownBlock ∧ ((Value.slice A' (ps.length + 1) c').ownBlock = (Value.slice A ps.length c).ownBlock ∨ (Value.slice A' (ps.length + 1) c').ownBlock = some (w3.heap.size + 1)) := by
  obtain ⟨inner, ho, hr⟩ := hown.below (below_alloc (Below.refl _ _) (.cells (Vx x r) 41))
  obtain ⟨i, h1, h2, h3, h4⟩ := info41'
  obtain ⟨v', w', hrun, how, hg, -, hk⟩ := run_append_own_at (P := Tryd.prog) (w3.alloc (.cells (Vx x r) 41)) base 39 39 41 i _ 11 184 Tryd.underlying39 h1 h2 h3 h4 rfl (by omega) (.slice A ps.length c) ps.length inner ho ⟨w3.heap.size, 0, none⟩ 1 1 (Vx x r).toList rfl
    (fun j u hj => by
      rw [show (⟨w3.heap.size, 0, none⟩ : Addr).add j = ⟨w3.heap.size, j, none⟩ by unfold Addr.add; split <;> simp_all]
      rw [cells_of (heap_alloc_new w3 _) j]
      simpa using hj)
    (by simp [Vx, Value.oneCell']) (by simp only [maxLen]; omega) (by omega) (by simp; omega)
  have hor : OwnRow RX 41 11 w' base v' (ps ++ [(x, r)]) := ⟨inner ++ (Vx x r).toList, by simpa using how, hr.snoc rfl rfl⟩
  obtain ⟨A', c', rfl, -⟩ := hor.reads
  refine ⟨A', c', w', ?_, hor, hg, ?_⟩
  · simpa using hrun
  · simpa using hk

theorem app_step {ops : Array Oper} {oi : Oper} {N : Option Tmp} {a : Act} {K : Act → World → Prop} {Q : Exit → Act → World → Prop} {w : World} (s t : Operand) (hw : Region.wanted oi (yielded ops a.tmps) = true) (hN : oi.dst = N) (hop : oi.op = Op.call { callee := Callee.builtin Builtin.append, args := #[s, t], argTypes := #[39, 39] })
    {v x v' : Value} {w' : World} {ty : TypeId} (hs : a.eval s = v) (hx : a.eval t = x) (hty : oi.type = ty) (hrun : (Builtin.append_ #[39, 39] ty #[v, x]).run Tryd.prog w = .ok v' w') (h : K (a.put N v') w') : if Region.wanted oi (yielded ops a.tmps) = true then Oper.wp Tryd.prog oi a w K Q else K (a.put N undef) w := by
  subst hty
  subst hN
  rw [if_pos hw]
  unfold Oper.wp
  simp [execOp, hop, resolve, invoke, builtin, hs, hx, hrun, Result.andThen]
  exact h
/-- a row of exchanges: where its elements' slices lie is of P -/
structure Ls (w : World) (base : Nat) (P : Nat → Prop) (A : Option Addr) (c : Nat) (ps : List (S41 × Rf)) : Prop where
  row : OwnRow RX 41 11 w base (.slice A ps.length c) ps
  ex : ∀ p ∈ ps, Ex w P p.1 p.2
  far : ∀ ad, A = some ad → ¬ P ad.block
def QL (w W : World) (A : Option Addr) (k : Nat) : Prop := w.heap.size < k ∧ k < W.heap.size ∧ ∀ ad, A = some ad → k ≠ ad.block
structure ILs (w : World) (g : Nat) (cap used : Int) (xs : List Nd) (pre : List Nd) (W : World) : Prop where
  below : Below w.heap.size w W
  row : ∃ A c ps, W.heap[w.heap.size]? = some (.cells #[.slice A ps.length c] 39 (0, 0)) ∧ ps.map Prod.fst = pre.map Nd.x ∧ Ls W (w.heap.size + 1) (QL w W A) A c ps
theorem own_block {ad : Addr} {n c : Nat} : (Value.slice (some ad) n c).ownBlock = some ad.block := rfl
theorem ownRX_move {w w1 : World} {base : Nat} {v : Value} {ps : List (S41 × Rf)} (h : OwnRow RX 41 11 w base v ps) (hm : ∀ k, v.ownBlock = some k → w1.heap[k]? = w.heap[k]?) : OwnRow RX 41 11 w1 base v ps := by
  obtain ⟨inner, ho, hr⟩ := h
  exact ⟨inner, own_move ho hm, hr⟩

theorem Ex.putObj {W : World} {P : Nat → Prop} {x : S41} {r : Rf} (h : Ex W P x r) {k : Nat} {o o' : Obj} (ho : W.heap[k]? = some o) (hc : o.isCells = false) : Ex (W.putObj k o') P x r := by
  have cel : ∀ {α : Type} {K : Kd α} {A : Option Addr} {l : List α} (hC : Kd.C K W A l.length l) (hz : 0 < K.sz) (hn : 0 < l.length) (ad : Addr) (e : A = some ad), (W.putObj k o').heap[ad.block]? = W.heap[ad.block]? := by
    intro α K A l hC hz hn ad e
    refine World.putObj_heap_other ?_
    rintro rfl
    obtain ⟨ad', e', hcc⟩ := hC.2.2 hn
    rw [e] at e'
    obtain rfl := Option.some.inj e'
    obtain ⟨c, hs, _, hcell⟩ := hcc 0 l[0] (List.getElem?_eq_getElem hn)
    have h1 := hcell 0 (c[0]'(by omega)) (List.getElem?_eq_getElem (by omega))
    unfold World.cell? at h1
    rw [add_block, ho] at h1
    cases o <;> simp_all [Obj.isCells]
  exact ⟨h.l4, k63_C_keep h.g4 (fun n ad e => cel h.g4 (by decide) n ad e), h.b4, h.l5, u8_C_keep h.g5 (fun n ad e => cel h.g5 (by decide) n ad e), h.b5, h.l7, k63_C_keep h.g7 (fun n ad e => cel h.g7 (by decide) n ad e), h.b7, h.l8, u8_C_keep h.g8 (fun n ad e => cel h.g8 (by decide) n ad e), h.b8⟩

theorem Ls.move {w w1 : World} {base : Nat} {P P' : Nat → Prop} {A : Option Addr} {c : Nat} {ps : List (S41 × Rf)} (h : Ls w base P A c ps) (hA : ∀ ad, A = some ad → w1.heap[ad.block]? = w.heap[ad.block]?) (hP : ∀ k, P k → w1.heap[k]? = w.heap[k]?) (hPP : ∀ k, P k → P' k) (hf : ∀ ad, A = some ad → ¬ P' ad.block) : Ls w1 base P' A c ps :=
  ⟨ownRX_move h.row (fun k hk => by
    rcases A with _ | ad
    · simp [Value.ownBlock] at hk
    · simp only [own_block, Option.some.injEq] at hk; subst hk; exact hA ad rfl), fun p hp => ((h.ex p hp).keep hP).mono hPP, hf⟩
theorem ls_lt {w : World} {base : Nat} {P : Nat → Prop} {A : Option Addr} {c : Nat} {ps : List (S41 × Rf)} (h : Ls w base P A c ps) (ad : Addr) (e : A = some ad) : base ≤ ad.block ∧ ad.block < w.heap.size := by
  obtain ⟨inner, ho, -⟩ := h.row
  subst e
  exact ⟨own_base ho _ rfl, own_lt ho _ rfl⟩
theorem ls_step {w W w3 w5 : World} {A A' : Option Addr} {c c' : Nat} {ps : List (S41 × Rf)} {x : S41} {r : Rf} (hb : Below w.heap.size w W) (hbox : w.heap.size < W.heap.size) (hrow : Ls W (w.heap.size + 1) (QL w W A) A c ps) (h3 : Below W.heap.size W w3) (hE : Ex w3 (fun k => W.heap.size ≤ k) x r)
    (hown : OwnRow RX 41 11 w5 (w.heap.size + 1) (.slice A' (ps ++ [(x, r)]).length c') (ps ++ [(x, r)])) (hg : (w3.alloc (.cells (Vx x r) 41)).grownBy w5 (Value.slice A ps.length c).ownBlock)
    (hk : (Value.slice A' (ps.length + 1) c').ownBlock = (Value.slice A ps.length c).ownBlock ∨ (Value.slice A' (ps.length + 1) c').ownBlock = some (w3.heap.size + 1)) :
    Ls w5 (w.heap.size + 1) (QL w w5 A') A' c' (ps ++ [(x, r)]) := by
  have hs3 := h3.size
  have hs5 : w3.heap.size + 1 ≤ w5.heap.size := by have := hg.size; simpa using this
  have hA' : ∀ ad', A' = some ad' → (∃ ad, A = some ad ∧ ad.block = ad'.block) ∨ ad'.block = w3.heap.size + 1 := by
    intro ad' e
    subst e
    rcases hk with h | h
    · left
      rcases A with _ | ad
      · simp [Value.ownBlock] at h
      · exact ⟨ad, rfl, by simpa [Value.ownBlock] using h.symm⟩
    · right; simpa [Value.ownBlock] using h
  have keep : ∀ k, k < w3.heap.size → (∀ ad, A = some ad → k ≠ ad.block) → w5.heap[k]? = w3.heap[k]? := by
    intro k hk1 hk2
    rw [hg.block k (by simp; omega) (by
      rcases A with _ | ad
      · simp [Value.ownBlock]
      · have := hk2 ad rfl
        simpa [Value.ownBlock] using this), heap_alloc_old _ _ _ hk1]
  refine ⟨hown, fun p hp => ?_, fun ad' e hq => hq.2.2 ad' e rfl⟩
  rcases List.mem_append.1 hp with hp | hp
  · have h1 := (hrow.ex p hp).keep (w' := w5) (fun k hk => by
      rw [keep k (by have := hk.2.1; omega) hk.2.2, h3.block k hk.2.1])
    refine h1.mono (fun k hk => ⟨hk.1, by have := hk.2.1; omega, fun ad' e => ?_⟩)
    rcases hA' ad' e with ⟨ad, e1, e2⟩ | e2
    · rw [← e2]; exact hk.2.2 ad e1
    · have := hk.2.1; omega
  · obtain rfl : p = (x, r) := by simpa using hp
    have hE2 := hE.lt
    have h1 := hE2.keep (w' := w5) (fun k hk => keep k hk.2 (fun ad e => by have := (ls_lt hrow ad e).2; have := hk.1; omega))
    refine h1.mono (fun k hk => ⟨by have := hk.1; omega, by have := hk.2; omega, fun ad' e => ?_⟩)
    rcases hA' ad' e with ⟨ad, e1, e2⟩ | e2
    · have := (ls_lt hrow ad e1).2; have := hk.1; omega
    · have := hk.2; omega
theorem box_after {w W w3 w5 : World} {A : Option Addr} {c : Nat} {ps : List (S41 × Rf)} {x : S41} {r : Rf} {cs : Array Value} (hb : Below w.heap.size w W) (hlt : w.heap.size < W.heap.size) (hrow : Ls W (w.heap.size + 1) (QL w W A) A c ps) (h3 : Below W.heap.size W w3)
    (hg : (w3.alloc (.cells (Vx x r) 41)).grownBy w5 (Value.slice A ps.length c).ownBlock) (hbox : W.heap[w.heap.size]? = some (.cells cs 39 (0, 0))) : w5.heap[w.heap.size]? = some (.cells cs 39 (0, 0)) := by
  have hs := h3.size
  rw [hg.block _ (by simp; omega) (by
    rcases A with _ | ad
    · simp [Value.ownBlock]
    · have := (ls_lt hrow ad rfl).1
      simp [Value.ownBlock]; omega), heap_alloc_old _ _ _ (by omega), h3.block _ hlt, hbox]
theorem keepsFrom_grown {B : Nat} {X Y : World} {row : Option Nat} (hg : X.grownBy Y row) (hrow : ∀ r, row = some r → ∃ cs, X.heap[r]? = some (.cells cs 41 (0, 0))) : KeepsFrom B X Y :=
  ⟨hg.size, fun k o _ hk hc => (hg.block k (blk_lt' hk) (fun e => by
    obtain ⟨cs, hcs⟩ := hrow k e.symm
    rw [hk] at hcs
    cases hcs
    simp [Obj.isCells] at hc)).trans hk⟩
theorem own_lower {w : World} {base base' : Nat} {e : TypeId} {size n : Nat} {v : Value} {xs : List Value} (h : w.ownsRow base e size v n xs) (hb : base' ≤ base) : w.ownsRow base' e size v n xs := by
  obtain ⟨h1, h2⟩ := h
  refine ⟨h1, ?_⟩
  rcases h2 with h2 | ⟨g, cap, cur, e1, e2, r⟩
  · exact .inl h2
  · exact .inr ⟨g, cap, cur, e1, by omega, r⟩
theorem ILs.grow {w : World} {g : Nat} {cap used : Int} {xs pre : List Nd} {W W' : World} (h : ILs w g cap used xs pre W) (hb : Below W.heap.size W W') : ILs w g cap used xs pre W' := by
  obtain ⟨b, A, c, ps, h1, h2, h3⟩ := h
  have hlt := blk_lt' h1
  refine ⟨below_step b hb, A, c, ps, (hb.block _ hlt).trans h1, h2, h3.move (fun ad e => hb.block _ (ls_lt h3 ad e).2) (fun k hk => hb.block _ hk.2.1) (fun k hk => ⟨hk.1, by have := hk.2.1; have := hb.size; omega, hk.2.2⟩) (fun ad e hq => hq.2.2 ad e rfl)⟩

set_option maxRecDepth 100000 in
set_option maxHeartbeats 4000000 in
theorem list_made (w : World) (g : Nat) (cap used : Int) (xs : List Nd) (P : Nat → Prop) (h : StoreAt w g cap used xs) (hx : ∀ d ∈ xs, Ex w P d.x d.r ∧ Fits d.x) (hlen : xs.length ≤ 65536) :
    Calls Tryd.prog 11 #[.pointer (some (at0 g))] w fun e w' => ∃ A c ps, e = .returned (.slice A ps.length c) ∧ ps.map Prod.fst = xs.map Nd.x ∧ Ls w' w.heap.size (fun k => w.heap.size ≤ k ∧ ∀ ad, A = some ad → k ≠ ad.block) A c ps ∧ Below w.heap.size w w' := by
  have HX := Lib.hid hx
  have HS := Lib.hid h
  have hok := Lib.hid (ok_made w g cap used _ _ h.head)
  have hnd : (xs.map Nd.b).Nodup := (List.nodup_cons.1 h.nd).2
  have hg3 := c_of h.head 3 (v := .pointer (first xs none)) rfl
  have hgl := blk_lt' h.head
  clear h hx
  refine (callsIn_wide (n := 8)).1 ?_
  have hro : Fence.wide.round = none := rfl
  refine callsIn_of_wp_marks Tryd.func11 rfl trivial ?_ hro
  simp only [Tryd.ntmps11, List.size_toArray, List.length_cons, List.length_nil, Nat.reduceAdd, Nat.reduceSub, Array.replicate_succ, Array.replicate_zero, List.push_toArray, List.append_toArray, List.nil_append, List.cons_append]
  gi_wp2_with (first | (refine ⟨trivial, ?_⟩; gi_at_call 27; refine (callsIn_wide.2 hok.out).mono ?_; rintro e w' ⟨rfl, h_⟩; obtain rfl := h_.symm) | (refine ⟨trivial, ?_⟩; gi_at_call 28; refine (callsIn_wide.2 (links_calls _ _)).mono ?_; rintro e w' ⟨rfl, rfl⟩))
  obtain ⟨W0, hW0⟩ : ∃ W0, W0 = (w.alloc (.cells #[.slice none 0 0] 39)).alloc (.cells #[.pointer (some (at0 g))] 23) := ⟨_, rfl⟩
  rw [← hW0]
  have hB0 : Below w.heap.size w W0 := by rw [hW0]; exact below_alloc (below_alloc (Below.refl _ _) _) _
  have hsz : W0.heap.size = w.heap.size + 2 := by rw [hW0]; simp
  have HI0 : Hid (ILs w g cap used xs [] W0) := Lib.hid (by
    refine ⟨hB0, none, 0, [], ?_, rfl, ⟨OwnRow.none_ _ _ _ _ _, (fun p hp => by cases hp), (fun ad e => by cases e)⟩⟩
    rw [hW0, heap_alloc_old _ _ _ (by simp)]
    exact heap_alloc_new w _)
  have hbx : W0.cell? ⟨w.heap.size + 1, 0, none⟩ = some (.pointer (some (at0 g))) := by
    have := heap_alloc_new (w.alloc (.cells #[.slice none 0 0] 39)) (.cells #[.pointer (some (at0 g))] 23)
    rw [World.size_alloc] at this
    rw [hW0]
    exact c_of this 0 rfl
  have hg30 := pw_cell_below hB0 hg3
  clear hW0 hg3 hok
  refine range_links (n := 8) (h47 := trivial) (hro := hro) (hn := by omega) (hps := rfl) (w.heap.size + 1) g xs hnd rfl hbx hg30 (ILs w g cap used xs)
    (fun o o' => HI0.out.grow (by exact below_alloc (below_alloc (Below.refl _ _) _) _)) ?put ?chain
    (fun d => { tmps := #[.pointer (some (at0 g)), undef, .slice none 0 0, .pointer (some ⟨w.heap.size, 0, none⟩), .pointer (some (at0 d.b)), .pointer (some (at0 g)), .bool true, .bool false, .pointer (some (at0 g)), .func (.func 47) #[] #[.pointer (some (at0 (w.heap.size + 1)))], .pointer (some (at0 d.b)), undef, undef, undef, undef, undef, undef, undef, undef, undef], defers := [] })
    ?assign ?body ?done
  case put =>
    intro pre W k o o' hi hk ho hc
    obtain ⟨b, A, c, ps, h1, h2, h3⟩ := hi
    have hrow : OwnRow RX 41 11 (W.putObj k o') (w.heap.size + 1) (.slice A ps.length c) ps := ownRX_move h3.row (fun q hq => by
      obtain ⟨inner, hoo, -⟩ := h3.row
      obtain ⟨cells, hcc⟩ := own_typed hoo q hq
      exact (putObj_keeps hcc ho hc).trans hcc.symm)
    refine ⟨⟨b.os, b.tape, b.output, by simpa using b.size, fun i hi => (World.putObj_heap_other (by omega)).trans (b.block i hi)⟩, A, c, ps, putObj_keeps h1 ho hc, h2, hrow, fun p hp => (h3.ex p hp).putObj ho hc |>.mono (fun q hq => ⟨hq.1, by simpa using hq.2.1, hq.2.2⟩), fun ad e hq => hq.2.2 ad e rfl⟩
  case chain =>
    intro pre d t W e hi
    have := (HS.out.below hi.below).seg
    rw [e, seg_append] at this
    exact c_of this.2.1 13 rfl
  case assign =>
    intro l d W K hK
    gi_wp2
    exact hK
  case body =>
    intro l pre d t W hxs hi
    have HXS := Lib.hid hxs
    have hdm : d ∈ xs := by rw [hxs]; simp
    obtain ⟨hb, A, c, ps, h1, h2, h3⟩ := hi
    have hst := (HS.out.below hb).mem d hdm
    obtain ⟨p', n', hlk⟩ := hst
    obtain ⟨l0, l1, l2, l3, l4, l5, l6, l7, l8, l9, l10⟩ := link_cells hlk
    have hpl : ps.length + 1 ≤ 65536 := by
      have e1 := congrArg List.length h2
      have e2 := congrArg List.length hxs
      simp at e1 e2
      omega
    have c0 := c_of h1 0 (v := .slice A ps.length c) rfl
    have hlt := blk_lt' h1
    have HB := Lib.hid hb
    have HR := Lib.hid h3
    have HN := Lib.hid h1
    have HP := Lib.hid h2
    have hd : 1 ≤ 8 - 1 - 1 := by omega
    have hmx : Tryd.prog.follows .mixedOrders = true := by kernel_rfl
    clear hxs hlk hg30 hbx hb h1 h2 h3
    gi_wp2
    have HC : Hid (W.cell? ⟨w.heap.size, 0, none⟩ = some (.slice A ps.length c) ∧ W.cell? ⟨d.b, 0, none⟩ = some (.string d.x.f0.f0) ∧ W.cell? ⟨d.b, 1, none⟩ = some (.string d.x.f0.f1) ∧ W.cell? ⟨d.b, 2, none⟩ = some (.string d.x.f0.f2) ∧ W.cell? ⟨d.b, 3, none⟩ = some (.string d.x.f0.f3) ∧ W.cell? ⟨d.b, 4, none⟩ = some (.slice d.r.A4 d.x.f0.f4.length d.r.c4) ∧ W.cell? ⟨d.b, 5, none⟩ = some (.slice d.r.A5 d.x.f0.f5.length d.r.c5) ∧ W.cell? ⟨d.b, 6, none⟩ = some (.int .i64 d.x.f1.f0) ∧ W.cell? ⟨d.b, 7, none⟩ = some (.slice d.r.A7 d.x.f1.f1.length d.r.c7) ∧ W.cell? ⟨d.b, 8, none⟩ = some (.slice d.r.A8 d.x.f1.f2.length d.r.c8) ∧ W.cell? ⟨d.b, 9, none⟩ = some (.int .i64 d.x.f2) ∧ W.cell? ⟨d.b, 10, none⟩ = some (.int .i64 d.x.f3)) := Lib.hid ⟨c0, l0, l1, l2, l3, l4, l5, l6, l7, l8, l9, l10⟩
    refine start_in (by kernel_rfl) (by rintro ⟨_, _, h⟩; exact h) (n := 9) (S := fun w' => w'.cell? ⟨w.heap.size, 0, none⟩ = some (.slice A ps.length c) ∧ w'.cell? ⟨d.b, 0, none⟩ = some (.string d.x.f0.f0) ∧ w'.cell? ⟨d.b, 1, none⟩ = some (.string d.x.f0.f1) ∧ w'.cell? ⟨d.b, 2, none⟩ = some (.string d.x.f0.f2) ∧ w'.cell? ⟨d.b, 3, none⟩ = some (.string d.x.f0.f3) ∧ w'.cell? ⟨d.b, 4, none⟩ = some (.slice d.r.A4 d.x.f0.f4.length d.r.c4) ∧ w'.cell? ⟨d.b, 5, none⟩ = some (.slice d.r.A5 d.x.f0.f5.length d.r.c5) ∧ w'.cell? ⟨d.b, 6, none⟩ = some (.int .i64 d.x.f1.f0) ∧ w'.cell? ⟨d.b, 7, none⟩ = some (.slice d.r.A7 d.x.f1.f1.length d.r.c7) ∧ w'.cell? ⟨d.b, 8, none⟩ = some (.slice d.r.A8 d.x.f1.f2.length d.r.c8) ∧ w'.cell? ⟨d.b, 9, none⟩ = some (.int .i64 d.x.f2) ∧ w'.cell? ⟨d.b, 10, none⟩ = some (.int .i64 d.x.f3)) (ds := [7, 8]) #[false, false, false, false, false, false, false, false, false] (by kernel_rfl) rfl rfl ⟨c0, l0, l1, l2, l3, l4, l5, l6, l7, l8, l9, l10⟩ (fun hHeld => ?_)
    refine pure_ (i := 1) (N := some 12) (v := ?_) (a' := ?_) #[false, true, false, false, false, false, false, false, false] rfl rfl (by kernel_rfl) (fun _ _ _ h => h) (Or.inl ⟨by rfl, ?_⟩) ?_ ?_
    rotate_left
    · intro w'
      go_simp
      with_reducible rfl
    rotate_left
    · simp only [Act.put, List.setIfInBounds_toArray, List.set_cons_zero, List.set_cons_succ, i64_w, i32_w]
      rfl
    refine pure_ (i := 2) (N := some 13) (v := ?_) (a' := ?_) #[false, true, true, false, false, false, false, false, false] rfl rfl (by kernel_rfl) (fun _ _ _ h => h) (Or.inl ⟨by rfl, ?_⟩) ?_ ?_
    rotate_left
    · intro w'
      go_simp
      with_reducible rfl
    rotate_left
    · simp only [Act.put, List.setIfInBounds_toArray, List.set_cons_zero, List.set_cons_succ, i64_w, i32_w]
      rfl
    refine pure_ (i := 3) (N := some 14) (v := ?_) (a' := ?_) #[false, true, true, true, false, false, false, false, false] rfl rfl (by kernel_rfl) (fun _ _ _ h => h) (Or.inl ⟨by rfl, ?_⟩) ?_ ?_
    rotate_left
    · intro w'
      go_simp
      with_reducible rfl
    rotate_left
    · simp only [Act.put, List.setIfInBounds_toArray, List.set_cons_zero, List.set_cons_succ, i64_w, i32_w]
      rfl
    refine take_ (i := 0) (N := some 11) (v := ?_) (a' := ?_) #[true, true, true, true, false, false, false, false, false] rfl rfl (by kernel_rfl) (fun _ _ _ h => h) (Or.inl ⟨by rfl, ?_⟩) hHeld ?_ ?_
    rotate_left
    · rintro w' ⟨s0, s1, s2, s3, s4, s5, s6, s7, s8, s9, s10, s11⟩
      go_simp
      with_reducible rfl
    rotate_left
    · simp only [Act.put, List.setIfInBounds_toArray, List.set_cons_zero, List.set_cons_succ, i64_w, i32_w]
      rfl
    refine take_ (i := 4) (N := some 15) (v := ?_) (a' := ?_) #[true, true, true, true, true, false, false, false, false] rfl rfl (by kernel_rfl) (fun _ _ _ h => h) (Or.inl ⟨by rfl, ?_⟩) hHeld ?_ ?_
    rotate_left
    · rintro w' ⟨s0, s1, s2, s3, s4, s5, s6, s7, s8, s9, s10, s11⟩
      go_simp
      with_reducible rfl
    rotate_left
    · simp only [Act.put, List.setIfInBounds_toArray, List.set_cons_zero, List.set_cons_succ, i64_w, i32_w]
      rfl
    refine one_ (i := 5) (N := some 16) #[true, true, true, true, true, true, false, false, false] rfl rfl (by kernel_rfl) (by decide) (fun K hK => ?_)
    refine goes_ Tryd.func29 (by kernel_rfl) rfl #[.agg (Vx d.x d.r)] (by rfl) rfl rfl (by simp only [List.map_toArray, List.map_cons, List.map_nil]; rfl) ?_
    with_reducible refine (own_calls W.drew P d.x d.r ((HX.out d hdm).1.below (HB.out.trans ((below_drew (Below.refl _ W)).mono HB.out.size))) (HX.out d hdm).2).mono ?_
    rintro e w3 ⟨r3, rfl, hb3, hE3⟩
    refine ⟨_, rfl, ?_⟩
    have HB3 := Lib.hid ((below_drew (Below.refl _ W)).trans hb3)
    have HE3 := Lib.hid hE3
    obtain ⟨A5, c5, w5, hrun5_, ho5, hg5, hk5⟩ := app_eq w3 (w.heap.size + 1) A c ps d.x r3 (HR.out.row.below HB3.out) (by have := HB3.out.size; omega) (by omega)
    have HO5 := Lib.hid ho5
    have HG5 := Lib.hid hg5
    have HK5 := Lib.hid hk5
    have n5_ := box_after HB.out hlt HR.out HB3.out hg5 HN.out
    have HN5 := Lib.hid n5_
    have HRUN := Lib.hid hrun5_
    clear n5_ hb3 hE3 ho5 hg5 hk5 hrun5_
    refine hK.out _ _ ⟨pw_cell_below HB3.out HC.out.1, pw_cell_below HB3.out HC.out.2.1, pw_cell_below HB3.out HC.out.2.2.1, pw_cell_below HB3.out HC.out.2.2.2.1, pw_cell_below HB3.out HC.out.2.2.2.2.1, pw_cell_below HB3.out HC.out.2.2.2.2.2.1, pw_cell_below HB3.out HC.out.2.2.2.2.2.2.1, pw_cell_below HB3.out HC.out.2.2.2.2.2.2.2.1, pw_cell_below HB3.out HC.out.2.2.2.2.2.2.2.2.1, pw_cell_below HB3.out HC.out.2.2.2.2.2.2.2.2.2.1, pw_cell_below HB3.out HC.out.2.2.2.2.2.2.2.2.2.2.1, pw_cell_below HB3.out HC.out.2.2.2.2.2.2.2.2.2.2.2⟩ (fun hHeld => ?_)
    clear hK K
    refine norm_ (a' := ?_) ?_ ?_
    rotate_left
    · show Act.put _ (some 16) _ = _
      simp only [Act.put, List.setIfInBounds_toArray, List.set_cons_zero, List.set_cons_succ, i64_w, i32_w]
      rfl
    refine one_ (i := 6) (N := some 17) #[true, true, true, true, true, true, true, false, false] rfl rfl (by kernel_rfl) (by decide) (fun K hK => ?_)
    refine value_ (w1 := ?_) (v := ?_) (by rfl) rfl ?_ ?_
    rotate_left 2
    · go_simp
      constructor
      · rfl
      · rfl
    refine hK.out _ _ ⟨pw_cell_below (below_alloc HB3.out _) HC.out.1, pw_cell_below (below_alloc HB3.out _) HC.out.2.1, pw_cell_below (below_alloc HB3.out _) HC.out.2.2.1, pw_cell_below (below_alloc HB3.out _) HC.out.2.2.2.1, pw_cell_below (below_alloc HB3.out _) HC.out.2.2.2.2.1, pw_cell_below (below_alloc HB3.out _) HC.out.2.2.2.2.2.1, pw_cell_below (below_alloc HB3.out _) HC.out.2.2.2.2.2.2.1, pw_cell_below (below_alloc HB3.out _) HC.out.2.2.2.2.2.2.2.1, pw_cell_below (below_alloc HB3.out _) HC.out.2.2.2.2.2.2.2.2.1, pw_cell_below (below_alloc HB3.out _) HC.out.2.2.2.2.2.2.2.2.2.1, pw_cell_below (below_alloc HB3.out _) HC.out.2.2.2.2.2.2.2.2.2.2.1, pw_cell_below (below_alloc HB3.out _) HC.out.2.2.2.2.2.2.2.2.2.2.2⟩ (fun hHeld => ?_)
    clear hK K
    refine norm_ (a' := ?_) ?_ ?_
    rotate_left
    · show Act.put _ (some 17) _ = _
      simp only [Act.put, List.setIfInBounds_toArray, List.set_cons_zero, List.set_cons_succ, i64_w, i32_w]
      rfl
    refine last_ (i := 7) (N := some 18) #[true, true, true, true, true, true, true, true, false] rfl rfl (by kernel_rfl) (by decide) (fun K hK => ?_)
    refine app_step (.tmp 11) (.tmp 17) (by rfl) rfl rfl (v := .slice A ps.length c) (x := .slice (some ⟨w3.heap.size, 0, none⟩) 1 1) (by rfl) (by rfl) rfl HRUN.out ?_
    have c5_ := c_of HN5.out 0 (v := .slice A ps.length c) rfl
    have f5_ := fr_of HN5.out 0
    refine hK.out _ _ ?_
    clear hK K
    refine norm_ (a' := ?_) ?_ ?_
    rotate_left
    · show Act.put _ (some 18) _ = _
      simp only [Act.put, List.setIfInBounds_toArray, List.set_cons_zero, List.set_cons_succ, i64_w, i32_w]
      rfl
    refine last_ (i := 8) (N := none) #[true, true, true, true, true, true, true, true, true] rfl rfl (by kernel_rfl) (by decide) (fun K hK => ?_)
    refine skip_ (w1 := ?_) (by rfl) rfl ?_ ?_
    rotate_left
    · go_simp
      rfl
    refine hK.out _ _ ?_
    clear hK K
    refine done_ (by kernel_rfl) ?_
    have HL := Lib.hid (ls_step HB.out hlt HR.out HB3.out ((HE3.out.lt).mono (fun k hk => by have := hk.1; exact this)) HO5.out HG5.out HK5.out)
    obtain ⟨W6, hW6⟩ : ∃ W6, W6 = w5.setCell ⟨w.heap.size, 0, none⟩ (.slice A5 (ps.length + 1) c5) := ⟨_, rfl⟩
    rw [← hW6]
    have hs3 := HB3.out.size
    have far6 : ∀ k, k ≠ w.heap.size → W6.heap[k]? = w5.heap[k]? := fun k hk => by rw [hW6]; exact heap_setCell_other _ _ _ _ hk
    have hfin : KeepsFrom W0.heap.size W W6 ∧ ILs w g cap used xs (pre ++ [d]) W6 := by
      refine ⟨?_, ?_, A5, c5, ps ++ [(d.x, r3)], ?_, ?_, ?_⟩
      · rw [hW6]
        exact (((keepsFrom_below _ HB3.out).trans (keepsFrom_below _ (below_alloc (Below.refl _ _) _))).trans (keepsFrom_grown HG5.out (fun q hq => by
          obtain ⟨inner, hoo, -⟩ := (HR.out.row.below HB3.out).below (below_alloc (Below.refl _ _) (.cells (Vx d.x r3) 41))
          exact own_typed hoo q hq))).trans ((KeepsOthers.setCell _ _ _).from _)
      · rw [hW6]
        refine Below.setCell (Below.grown (below_alloc (HB.out.trans (HB3.out.mono HB.out.size)) _) HG5.out (by simp; omega) (fun q hq => ?_)) (Nat.le_refl _) _
        obtain ⟨inner, hoo, -⟩ := HR.out.row
        have := own_base hoo q hq
        omega
      · rw [hW6]
        exact set_same HN5.out (by simp)
      · rw [List.map_append, List.map_append, HP.out]; rfl
      · refine HL.out.move (fun ad e => far6 _ (by have := (ls_lt HL.out ad e).1; omega)) (fun k hk => far6 _ (by have := hk.1; omega)) (fun k hk => ⟨hk.1, ?_, hk.2.2⟩) (fun ad e hq => hq.2.2 ad e rfl)
        rw [hW6]; simpa using hk.2.1
    exact hfin
  case done =>
    intro D W hD hi hdf
    obtain ⟨hb, A, c, ps, h1, h2, h3⟩ := hi
    have c5 := c_of h1 0 (v := .slice A ps.length c) rfl
    have HB := Lib.hid hb
    have HR := Lib.hid h3
    have HP := Lib.hid h2
    clear hb h1 h2 h3
    gi_wp2
    refine ⟨by simp, .inl ⟨_, _, rfl, run_takeDeferred hdf, ?_⟩⟩
    have hrow : OwnRow RX 41 11 (W.putObj D (.deferred none)) (w.heap.size + 1) (.slice A ps.length c) ps := ownRX_move HR.out.row (fun q hq => by
      obtain ⟨inner, hoo, -⟩ := HR.out.row
      obtain ⟨cells, hcc⟩ := own_typed hoo q hq
      exact (putObj_keeps hcc hdf rfl).trans hcc.symm)
    refine ⟨_, results_tmp rfl _ _ _, A, c, ps, rfl, HP.out, ⟨?_, fun p hp => ((HR.out.ex p hp).putObj hdf rfl).mono (fun q hq => ⟨by have := hq.1; omega, hq.2.2⟩), fun ad e hq => hq.2 ad e rfl⟩, ⟨HB.out.os, HB.out.tape, HB.out.output, by simpa using HB.out.size, fun i hi => (World.putObj_heap_other (by omega)).trans (HB.out.block i hi)⟩⟩
    obtain ⟨inner, ho, hr⟩ := hrow
    exact ⟨inner, own_lower ho (by omega), hr⟩
end Go.Proofs.YtkbbjjegpjdpeaaDoor.S

