import Derived.RangeFuncNested
import Derived.RangeFuncBound
import Derived.RangeFuncCalls
import Derived.RangeFuncLeaves
import Derived.RangeFuncBox
import Derived.Shelf.Abstract
import Derived.Shelf.RegionOpen
import Derived.WalkKit
import Derived.OwnWalkIn
import Derived.TacticsInMore
import Derived.LoopNIn
import Derived.LoopIn
import Derived.Test.YtkbbjjegpjdpeaaDoorZM1













/- (not yet a claim) the store's iterator -/
namespace Go.Proofs.YtkbbjjegpjdpeaaDoor.S
open Go.RowKit Go.Shelf Go.Proofs.YtkbbjjegpjdpeaaDoorW.PrintWords Go.Proofs.YtkbbjjegpjdpeaaDoorW.PrintLast Go.Proofs.YtkbbjjegpjdpeaaDoorW.PrintMore Go.Proofs.YtkbbjjegpjdpeaaDoor.G
set_option linter.unusedVariables false
set_option linter.unusedSimpArgs false
attribute [local go_sem] Oper.semAt_some

/-- how many links are still to come, from a pointer -/
def toCome (xs : List Nd) : Value → Nat
  | .pointer (some a) => (xs.dropWhile (fun d => d.b != a.block)).length
  | _ => 0
theorem dropWhile_at : ∀ (pre : List Nd) (d : Nd) (t : List Nd), ((pre ++ d :: t).map Nd.b).Nodup → (pre ++ d :: t).dropWhile (fun e => e.b != d.b) = d :: t
  | [], d, t, _ => by simp
  | p :: pre, d, t, h => by
    have h' := List.nodup_cons.1 h
    have hne : p.b ≠ d.b := fun e => h'.1 (by rw [e]; simp)
    rw [List.cons_append, List.dropWhile_cons_of_pos (by simp [hne]), dropWhile_at pre d t h'.2]
theorem toCome_first {xs : List Nd} (hnd : (xs.map Nd.b).Nodup) {pre t : List Nd} (e : xs = pre ++ t) : toCome xs (.pointer (first t none)) = t.length := by
  subst e
  cases t with
  | nil => rfl
  | cons d t => simp only [first, toCome]; rw [dropWhile_at pre d t hnd]

set_option maxRecDepth 100000 in
set_option maxHeartbeats 2000000 in
theorem links1_in (F : Fence) (n : Nat) (h47 : F.fn 47) (hro : F.round = none) (hn : 1 ≤ n) (lp : Nat) (xs : List Nd) (hnd : (xs.map Nd.b).Nodup) (bx g : Nat) (J : List Nd → World → Prop)
    (hJ : ∀ pre d t W, xs = pre ++ d :: t → J pre W → W.cell? ⟨d.b, 13, none⟩ = some (.pointer (first t none)))
    (hY : ∀ pre d t W, xs = pre ++ d :: t → J pre W → YieldAt F (n - 1) Tryd.prog lp #[.pointer (some (at0 d.b))] W fun e W' => e = .returned (.bool true) ∧ J (pre ++ [d]) W')
    (W : World) (h0 : J [] W) (hbx : W.cell? ⟨bx, 0, none⟩ = some (.pointer (some (at0 g)))) (hg : W.cell? ⟨g, 3, none⟩ = some (.pointer (first xs none))) :
    CallsIn F n Tryd.prog 47 #[.func (.yield lp) #[] #[], .pointer (some (at0 bx))] W fun e W' => (∃ v, e = .returned v) ∧ J xs W' := by
  refine callsIn_of_wp Tryd.func47 rfl h47 ?_ hro
  simp only [Tryd.ntmps47, List.size_toArray, List.length_cons, List.length_nil, Nat.reduceAdd, Nat.reduceSub, Array.replicate_succ, Array.replicate_zero, List.push_toArray, List.append_toArray, List.nil_append, List.cons_append]
  gi_wp2
  clear hbx hg
  gi_loopw [3] (fun v wr => ∃ pre t, xs = pre ++ t ∧ v = .pointer (first t none) ∧ J pre wr)
    (fun v _ => toCome xs v)
  case atStart => exact ⟨[], xs, rfl, rfl, h0⟩
  case round =>
    obtain ⟨pre, t, ht, rfl, hJs⟩ := hrel
    cases t with
    | nil =>
      rw [List.append_nil] at ht
      subst ht
      rw [show first ([] : List Nd) none = none from rfl]
      gi_wp2
      go_end0
      exact ⟨⟨_, rfl⟩, hJs⟩
    | cons d t =>
      have c13 := hJ pre d t wr ht hJs
      obtain ⟨fn, tmps, assign, body, hy, hR⟩ := hY pre d t wr ht hJs
      have HR : Hid (xs = (pre ++ [d]) ++ t) := Lib.hid (by rw [ht]; simp)
      have HT := Lib.hid ht
      clear ht
      rw [show first (d :: t) none = some (at0 d.b) from rfl]
      gi_wp2
      refine hR.mono ?_
      rintro e W3 ⟨rfl, hJ3⟩
      gi_wp2
      go_roundw
      case rel => exact ⟨pre ++ [d], t, HR.out, rfl, hJ3⟩
      case measure =>
        have h1 := toCome_first hnd HR.out
        have h2 := toCome_first hnd HT.out
        simp only [first, List.length_cons] at h2
        show toCome xs (.pointer (first t none)) < toCome xs (.pointer (some (at0 d.b)))
        rw [h1, h2]; omega

/-- a round may end off its end alone -/
def offEnd (R : World → Prop) : Exit → Act → World → Prop
  | .normal, _, W' => R W'
  | _, _, _ => False

theorem range_links {F : Fence} {n : Nat} {gf : Operand} {ps : Array Tmp} {assign body : Code} {Q : Exit → Act → World → Prop} {a : Act} {w : World}
    (h47 : F.fn 47) (hro : F.round = none) (hn : 2 ≤ n) (hps : ps.size = 1) (bx g : Nat) (xs : List Nd) (hnd : (xs.map Nd.b).Nodup)
    (hgf : a.eval gf = .func (.func 47) #[] #[.pointer (some (at0 bx))]) (hbx : w.cell? ⟨bx, 0, none⟩ = some (.pointer (some (at0 g)))) (hg : w.cell? ⟨g, 3, none⟩ = some (.pointer (first xs none)))
    (I : List Nd → World → Prop) (h0 : ∀ o o', I [] ((w.alloc o).alloc o'))
    (hput : ∀ pre W k o o', I pre W → w.heap.size ≤ k → W.heap[k]? = some o → o.isCells = false → I pre (W.putObj k o'))
    (hI : ∀ pre d t W, xs = pre ++ d :: t → I pre W → W.cell? ⟨d.b, 13, none⟩ = some (.pointer (first t none)))
    (a₁ : Nd → Act)
    (hassign : ∀ (l : Nat) (d : Nd) (W : World) (K : Act → World → Prop), K (a₁ d) W →
      assign.wpIn (F.inRound l) (n - 1 - 1) Tryd.prog (Exit.then K (fun _ _ _ => False)) { tmps := (ps.zip #[.pointer (some (at0 d.b))]).foldl (fun t (p, v) => t.setIfInBounds p v) a.tmps, defers := [] } W)
    (hbody : ∀ (l : Nat) pre d t W, xs = pre ++ d :: t → I pre W → body.wpIn (F.inRound l) (n - 1 - 1) Tryd.prog (offEnd fun W' => KeepsFrom w.heap.size W W' ∧ I (pre ++ [d]) W') (a₁ d) W)
    (hdone : ∀ (D : Nat) W, w.heap.size ≤ D → I xs W → W.heap[D]? = some (.deferred (some [])) → Q .normal { a with defers := { target := .collected D, args := #[] } :: a.defers } W) :
    (Code.rangeFunc gf ps assign body).wpIn F n Tryd.prog Q a w := by
  refine wpIn_rangeFunc fun fn hfn => ?_
  rw [hro]
  obtain ⟨rc, hrc⟩ : ∃ rc : LoopState → Loop, rc = fun s => { state := s, pending := none, fn := fn, tmps := a.tmps, params := ps, assign := assign, body := body, defers := w.heap.size } := ⟨_, rfl⟩
  obtain ⟨w1, hw1⟩ : ∃ w1, w1 = (w.alloc (.deferred (some []))).alloc (.loop (rc .ready)) := ⟨_, rfl⟩
  have hB1 : Below w.heap.size w w1 := by rw [hw1]; exact ((Below.refl _ w).alloc (Nat.le_refl _) _).alloc (by simp) _
  have hL : w1.heap[w.heap.size + 1]? = some (.loop (rc .ready)) := by
    have := heap_alloc_new (w.alloc (.deferred (some []))) (.loop (rc .ready))
    rw [hw1]; simpa using this
  have hD : w1.heap[w.heap.size]? = some (.deferred (some [])) := by
    rw [hw1, heap_alloc_old _ _ _ (by simp)]; exact heap_alloc_new w _
  have hrun : (Instr.enterLoop fn a.tmps ps assign body none).run Tryd.prog w = .ok (w.heap.size + 1, [{ target := .collected w.heap.size, args := #[] }]) w1 := by
    rw [hw1, hrc]; exact run_enterLoop_outer _ _ _ _ _
  refine ⟨_, _, w1, { target := .fn (.func 47) #[.pointer (some (at0 bx))], args := #[.func (.yield (w.heap.size + 1)) #[] #[]] }, w1, 47, #[.func (.yield (w.heap.size + 1)) #[] #[], .pointer (some (at0 bx))], w1, hrun, ?_, ?_, ?_, fun _ => by omega, ?_⟩
  · simp only [resolve, hgf]
    simp [go_sem]
  · intro f' hf'
    simp [Target.leads] at hf'
    subst hf'
    exact h47
  · simp [invoke, go_sem, enters_of Tryd.func47 (by kernel_rfl) rfl]
  · refine (links1_in F (n - 1) h47 hro (by omega) (w.heap.size + 1) xs hnd bx g (fun pre W => I pre W ∧ W.heap[w.heap.size + 1]? = some (.loop (rc .ready)) ∧ W.heap[w.heap.size]? = some (.deferred (some [])))
      (fun pre d t W e h => hI pre d t W e h.1) ?_ w1 ⟨hw1 ▸ h0 _ _, hL, hD⟩ (pw_cell_below hB1 hbx) (pw_cell_below hB1 hg)).mono ?_
    · rintro pre d t W hxs ⟨hi, hl, hd⟩
      have hlt := blk_lt' hl
      have hy := run_yield (P := Tryd.prog) (args := #[.pointer (some (at0 d.b))]) hl (by rw [hrc]; exact hps.symm)
      rw [hrc] at hy
      refine ⟨fn, _, assign, body, hy, roundIn_of_wpIn hfn (hassign _ d W _ ⟨_, run_beginRound hl (by rw [hrc]), ?_⟩)⟩
      have hl2 : (W.putObj (w.heap.size + 1) (.loop { rc .ready with state := .busy })).heap[w.heap.size + 1]? = some (.loop { rc .ready with state := .busy }) := World.putObj_heap_same hlt
      have hd2 : (W.putObj (w.heap.size + 1) (.loop { rc .ready with state := .busy })).heap[w.heap.size]? = some (.deferred (some [])) := (World.putObj_heap_other (by omega)).trans hd
      refine wpIn_mono (hbody _ pre d t _ hxs (hput pre W _ _ _ hi (by omega) hl rfl)) ?_
      rintro e a3 W3 hp
      cases e with
      | normal =>
        obtain ⟨hk3, hi3⟩ := hp
        have hl3 := hk3.same _ _ (by omega) hl2 rfl
        have hd3 := hk3.same _ _ (Nat.le_refl _) hd2 rfl
        have he := run_endRound (P := Tryd.prog) none hl3
        have hback : ({ { rc .ready with state := .busy } with state := if (none : Option Code).isNone then .ready else .done, pending := none } : Loop) = rc .ready := by rw [hrc]; rfl
        rw [hback] at he
        exact ⟨_, _, he, rfl, hput _ W3 _ _ _ hi3 (by omega) hl3 rfl, World.putObj_heap_same (blk_lt' hl3), (World.putObj_heap_other (by omega)).trans hd3⟩
      | ret => exact hp.elim
      | exit id => exact hp.elim
      | goto t => exact hp.elim
      | panic ch => exact hp.elim
      | outgrown => exact hp.elim
    · rintro e W2 ⟨⟨v, rfl⟩, hi, hl, hd⟩
      refine ⟨none, _, ?_, hdone _ _ (Nat.le_refl _) (hput _ W2 (w.heap.size + 1) _ (.loop { rc .ready with state := .exhausted }) hi (by omega) hl rfl) ((World.putObj_heap_other (by omega)).trans hd)⟩
      have := run_endLoop (P := Tryd.prog) hl (by rw [hrc]; simp)
      rw [hrc] at this ⊢
      exact this

/-- (*Store).links: the store's pointer is boxed; the function value captures the box. -/
theorem links_calls (g : Nat) (w : World) : Calls Tryd.prog 28 #[.pointer (some (at0 g))] w fun e w' => e = .returned (.func (.func 47) #[] #[.pointer (some (at0 w.heap.size))]) ∧ w' = w.alloc (.cells #[.pointer (some (at0 g))] 23) := by
  go_enter Tryd.func28, Tryd.ntmps28
  go_wp2
  go_ret
  exact ⟨rfl, rfl⟩
end Go.Proofs.YtkbbjjegpjdpeaaDoor.S
/- (not yet a claim) the store's drop -/
namespace Go.Proofs.YtkbbjjegpjdpeaaDoor.S
open Go.RowKit Go.Shelf Go.Proofs.YtkbbjjegpjdpeaaDoorW.PrintWords Go.Proofs.YtkbbjjegpjdpeaaDoorW.PrintLast Go.Proofs.YtkbbjjegpjdpeaaDoorW.PrintMore Go.Proofs.YtkbbjjegpjdpeaaDoor.G
set_option linter.unusedVariables false
set_option linter.unusedSimpArgs false
attribute [local go_sem] Oper.semAt_some

def zs : List Nd → Int
  | [] => 0
  | d :: t => d.z + zs t
theorem zs_append : ∀ a b : List Nd, zs (a ++ b) = zs a + zs b
  | [], b => by simp [zs]
  | d :: t, b => by simp only [List.cons_append, zs, zs_append t b]; omega
theorem zs_nonneg : ∀ a : List Nd, (∀ d ∈ a, 0 ≤ d.z) → 0 ≤ zs a
  | [], _ => by simp [zs]
  | d :: t, h => by
    have := h d (by simp)
    have := zs_nonneg t (fun e he => h e (by simp [he]))
    simp only [zs]; omega
theorem zs_filter_le (p : Nd → Bool) : ∀ a : List Nd, (∀ d ∈ a, 0 ≤ d.z) → zs (a.filter p) ≤ zs a
  | [], _ => by simp [zs]
  | d :: t, h => by
    have h0 := h d (by simp)
    have h1 := zs_filter_le p t (fun e he => h e (by simp [he]))
    cases hp : p d
    · rw [List.filter_cons_of_neg (by simp [hp])]; simp only [zs]; omega
    · rw [List.filter_cons_of_pos hp]; simp only [zs]; omega

theorem putObj_keeps {W : World} {j k : Nat} {cs : Array Value} {t : Nat} {m : Nat × Nat} {o o' : Obj} (hj : W.heap[j]? = some (.cells cs t m)) (hk : W.heap[k]? = some o) (ho : o.isCells = false) : (W.putObj k o').heap[j]? = some (.cells cs t m) := by
  refine (World.putObj_heap_other ?_).trans hj
  rintro rfl
  rw [hj] at hk
  cases hk
  simp [Obj.isCells] at ho
theorem Only.putObj {S : Nat → Prop} {w W : World} (h : Only S w W) {k : Nat} (hk : w.heap.size ≤ k) (o : Obj) : Only S w (W.putObj k o) :=
  ⟨h.os, h.tape, h.output, by simpa using h.size, fun i hi hs => (World.putObj_heap_other (by omega)).trans (h.block i hi hs)⟩
theorem StoreAt.putObj {W : World} {g : Nat} {cap used : Int} {l : List Nd} (h : StoreAt W g cap used l) {k : Nat} {o o' : Obj} (hk : W.heap[k]? = some o) (ho : o.isCells = false) : StoreAt (W.putObj k o') g cap used l :=
  h.keep ((putObj_keeps h.head hk ho).trans h.head.symm) (fun d hd => by obtain ⟨_, _, e⟩ := h.mem d hd; exact (putObj_keeps e hk ho).trans e.symm)
theorem StoreAt.below {w w' : World} {g : Nat} {cap used : Int} {l : List Nd} (h : StoreAt w g cap used l) (hb : Below w.heap.size w w') : StoreAt w' g cap used l :=
  h.keep (hb.block _ (blk_lt' h.head)) (fun d hd => hb.block _ (h.lt d hd))
/-- what was Only, and then grew -/
theorem Only.then {S : Nat → Prop} {a b c : World} (h : Only S a b) (k : Below b.heap.size b c) : Only S a c := h.trans (Only.below k)

/-- the cells of a link's exchange -/
theorem link_cells {W : World} {b : Nat} {x : S41} {r : Rf} {z : Int} {p n : Option Addr} (h : W.heap[b]? = some (Lc x r z p n)) :
    W.cell? ⟨b, 0, none⟩ = some (.string x.f0.f0) ∧ W.cell? ⟨b, 1, none⟩ = some (.string x.f0.f1) ∧ W.cell? ⟨b, 2, none⟩ = some (.string x.f0.f2) ∧ W.cell? ⟨b, 3, none⟩ = some (.string x.f0.f3) ∧
    W.cell? ⟨b, 4, none⟩ = some (.slice r.A4 x.f0.f4.length r.c4) ∧ W.cell? ⟨b, 5, none⟩ = some (.slice r.A5 x.f0.f5.length r.c5) ∧ W.cell? ⟨b, 6, none⟩ = some (.int .i64 x.f1.f0) ∧
    W.cell? ⟨b, 7, none⟩ = some (.slice r.A7 x.f1.f1.length r.c7) ∧ W.cell? ⟨b, 8, none⟩ = some (.slice r.A8 x.f1.f2.length r.c8) ∧ W.cell? ⟨b, 9, none⟩ = some (.int .i64 x.f2) ∧ W.cell? ⟨b, 10, none⟩ = some (.int .i64 x.f3) :=
  ⟨c_of h 0 rfl, c_of h 1 rfl, c_of h 2 rfl, c_of h 3 rfl, c_of h 4 rfl, c_of h 5 rfl, c_of h 6 rfl, c_of h 7 rfl, c_of h 8 rfl, c_of h 9 rfl, c_of h 10 rfl⟩

structure IDrop (w : World) (g : Nat) (cap : Int) (xs : List Nd) (p : Nd → Bool) (fv : Value) (pre : List Nd) (W : World) : Prop where
  only : Only (Mine g xs) w W
  b0 : W.heap[w.heap.size]? = some (.cells #[.pointer (some (at0 g))] 23 (0, 0))
  b1 : W.heap[w.heap.size + 1]? = some (.cells #[fv] 83 (0, 0))
  b2 : W.heap[w.heap.size + 2]? = some (.cells #[.int .i64 ((pre.filter p).length : Int)] 3 (0, 0))
  st : ∀ t, xs = pre ++ t → StoreAt W g cap (zs (pre.filter (fun d => !p d) ++ t)) (pre.filter (fun d => !p d) ++ t)
theorem IDrop.below {w : World} {g : Nat} {cap : Int} {xs : List Nd} {p : Nd → Bool} {fv : Value} {pre : List Nd} {W W' : World} (h : IDrop w g cap xs p fv pre W) (hb : Below W.heap.size W W') : IDrop w g cap xs p fv pre W' :=
  ⟨h.only.then hb, (hb.block _ (blk_lt' h.b0)).trans h.b0, (hb.block _ (blk_lt' h.b1)).trans h.b1, (hb.block _ (blk_lt' h.b2)).trans h.b2, fun t e => (h.st t e).below hb⟩
theorem mine_lt {w : World} {g : Nat} {cap used : Int} {l : List Nd} (h : StoreAt w g cap used l) {k : Nat} (hk : Mine g l k) : k < w.heap.size := by
  rcases hk with rfl | ⟨d, hd, rfl⟩
  · exact blk_lt' h.head
  · exact h.lt d hd
theorem Mine.mono {g : Nat} {l l' : List Nd} (h : ∀ d ∈ l, d ∈ l') {k : Nat} (hk : Mine g l k) : Mine g l' k := by
  rcases hk with rfl | ⟨d, hd, rfl⟩
  · exact .inl rfl
  · exact .inr ⟨d, h d hd, rfl⟩

theorem keepsFrom_below (B : Nat) {W w3 : World} (h : Below W.heap.size W w3) : KeepsFrom B W w3 :=
  ⟨h.size, fun i o _ hi _ => (h.block i (Array.getElem?_eq_some_iff.1 hi).1).trans hi⟩
theorem StoreAt.keepsFrom {W W' : World} {g : Nat} {cap used : Int} {l : List Nd} (h : StoreAt W g cap used l) (ho : Only (Mine g l) W W') (B : Nat) : KeepsFrom B W W' :=
  ⟨ho.size, fun i o _ hi hc => (ho.block i (blk_lt' hi) (by
    rintro (rfl | ⟨d, hd, rfl⟩)
    · rw [h.head] at hi; cases hi; simp [Obj.isCells] at hc
    · obtain ⟨_, _, e⟩ := h.mem d hd
      rw [e] at hi; cases hi; simp [Obj.isCells] at hc)).trans hi⟩
theorem IDrop.no {w : World} {g : Nat} {cap : Int} {xs : List Nd} {p : Nd → Bool} {fv : Value} {pre : List Nd} {d : Nd} {W : World} (h : IDrop w g cap xs p fv pre W) (hp : p d = false) : IDrop w g cap xs p fv (pre ++ [d]) W := by
  refine ⟨h.only, h.b0, h.b1, ?_, fun t e => ?_⟩
  · rw [List.filter_append, List.filter_cons_of_neg (by simp [hp]), List.filter_nil, List.append_nil]; exact h.b2
  · have := h.st (d :: t) (by rw [e]; simp)
    rw [List.filter_append, List.filter_cons_of_pos (by simp [hp]), List.filter_nil, List.append_assoc]
    exact this
theorem filter_sub {p : Nd → Bool} {xs pre t : List Nd} {d : Nd} (e : xs = pre ++ d :: t) : (∀ y ∈ pre.filter (fun d => !p d) ++ d :: t, y ∈ xs) := by
  intro y hy
  rw [e]
  rcases List.mem_append.1 hy with h | h
  · exact List.mem_append.2 (.inl ((List.mem_filter.1 h).1))
  · exact List.mem_append.2 (.inr h)
theorem zs_bound {p : Nd → Bool} {xs pre t : List Nd} {d : Nd} (e : xs = pre ++ d :: t) (hz : ∀ d ∈ xs, 0 ≤ d.z) (hzs : zs xs ≤ 65536) :
    wrap64 (zs (pre.filter (fun d => !p d) ++ d :: t) - d.z) = zs (pre.filter (fun d => !p d) ++ t) := by
  subst e
  rw [zs_append] at hzs
  have h1 := zs_filter_le (fun d => !p d) pre (fun d hd => hz d (by simp [hd]))
  have h2 := zs_nonneg (pre.filter (fun d => !p d)) (fun d hd => hz d (List.mem_append.2 (.inl ((List.mem_filter.1 hd).1))))
  have h3 := zs_nonneg t (fun d hd => hz d (by simp [hd]))
  have h4 := hz d (by simp)
  simp only [zs_append, zs] at hzs ⊢
  unfold wrap64
  omega
theorem IDrop.yes {w : World} {g : Nat} {cap : Int} {xs : List Nd} {p : Nd → Bool} {fv : Value} {pre t : List Nd} {d : Nd} {W W' : World} (h : IDrop w g cap xs p fv pre W) (e : xs = pre ++ d :: t) (hp : p d = true)
    (hml : ∀ k, Mine g xs k → k < w.heap.size) (ho : Only (Mine g (pre.filter (fun d => !p d) ++ d :: t)) W W') (hs : StoreAt W' g cap (zs (pre.filter (fun d => !p d) ++ t)) (pre.filter (fun d => !p d) ++ t)) :
    IDrop w g cap xs p fv (pre ++ [d]) (W'.setCell ⟨w.heap.size + 1 + 1, 0, none⟩ (.int .i64 ((pre.filter p).length + 1))) := by
  have hmm : ∀ k, Mine g (pre.filter (fun d => !p d) ++ d :: t) k → k < w.heap.size := fun k hk => hml k (hk.mono (filter_sub e))
  have o1 := h.only.trans (ho.mono (fun k hk => hk.mono (filter_sub e)))
  have far : ∀ k o, w.heap.size ≤ k → W.heap[k]? = some o → W'.heap[k]? = some o := fun k o hk hko => (ho.block k (blk_lt' hko) (fun hm => by have := hmm k hm; omega)).trans hko
  refine ⟨⟨o1.os, o1.tape, o1.output, by simpa using o1.size, fun k hk hs => (heap_setCell_other _ _ _ _ (by show k ≠ w.heap.size + 1 + 1; omega)).trans (o1.block k hk hs)⟩, ?_, ?_, ?_, fun t' e' => ?_⟩
  · exact set_other (far _ _ (Nat.le_refl _) h.b0) (by omega)
  · exact set_other (far _ _ (by omega) h.b1) (by omega)
  · refine set_same (far _ _ (by omega) h.b2) ?_
    rw [List.filter_append, List.filter_cons_of_pos hp, List.filter_nil, List.length_append]
    rfl
  · obtain rfl : t' = t := by
      rw [e, List.append_assoc] at e'
      have := List.append_cancel_left e'
      simp at this
      exact this.symm
    rw [List.filter_append, List.filter_cons_of_neg (by simp [hp]), List.filter_nil, List.append_nil]
    refine hs.keep (heap_setCell_other _ _ _ _ ?_) (fun f hf => heap_setCell_other _ _ _ _ ?_)
    · have := hml g (.inl rfl); show g ≠ w.heap.size + 1 + 1; omega
    · have := hmm f.b (.inr ⟨f, by rcases List.mem_append.1 hf with h | h; exact List.mem_append.2 (.inl h); exact List.mem_append.2 (.inr (List.mem_cons_of_mem _ h)), rfl⟩); show f.b ≠ w.heap.size + 1 + 1; omega

set_option maxRecDepth 100000 in
set_option maxHeartbeats 4000000 in
theorem drop_42 (w : World) (g : Nat) (cap : Int) (xs : List Nd) (p : Nd → Bool) (P0 : Nat) (h : StoreAt w g cap (zs xs) xs) (hz : ∀ d ∈ xs, 0 ≤ d.z) (hzs : zs xs ≤ 65536) (hlen : xs.length ≤ 65536)
    (hp : ∀ (W : World) (d : Nd), d ∈ xs → Only (Mine g xs) w W → Calls Tryd.prog 42 #[.agg (Vx d.x d.r), .pointer (some (at0 P0))] W fun e w' => e = .returned (.bool (p d)) ∧ Below W.heap.size W w') :
    Calls Tryd.prog 41 #[.pointer (some (at0 g)), .func (.func 42) #[] #[.pointer (some (at0 P0))]] w fun e w' => e = .returned (.int .i64 ((xs.filter p).length : Int)) ∧ StoreAt w' g cap (zs (xs.filter (fun d => !p d))) (xs.filter (fun d => !p d)) ∧ Only (Mine g xs) w w' := by
  have HP := Lib.hid hp
  have HS := Lib.hid h
  have hnd : (xs.map Nd.b).Nodup := (List.nodup_cons.1 h.nd).2
  have hg3 := c_of h.head 3 (v := .pointer (first xs none)) rfl
  have hgl := blk_lt' h.head
  have hml : ∀ k, Mine g xs k → k < w.heap.size := fun k hk => mine_lt h hk
  clear h hp
  refine (callsIn_wide (n := 8)).1 ?_
  have hro : Fence.wide.round = none := rfl
  refine callsIn_of_wp_marks Tryd.func41 rfl trivial ?_ hro
  simp only [Tryd.ntmps41, List.size_toArray, List.length_cons, List.length_nil, Nat.reduceAdd, Nat.reduceSub, Array.replicate_succ, Array.replicate_zero, List.push_toArray, List.append_toArray, List.nil_append, List.cons_append]
  gi_wp2_with (refine ⟨trivial, ?_⟩; gi_at_call 28; refine (callsIn_wide.2 (links_calls _ _)).mono ?_; rintro e w' ⟨rfl, rfl⟩)
  obtain ⟨W0, hW0⟩ : ∃ W0, W0 = (((w.alloc (.cells #[.pointer (some (at0 g))] 23)).alloc (.cells #[.func (.func 42) #[] #[.pointer (some (at0 P0))]] 83)).alloc (.cells #[.int .i64 0] 3)).alloc (.cells #[.pointer (some (at0 g))] 23) := ⟨_, rfl⟩
  rw [← hW0]
  have hB0 : Below w.heap.size w W0 := by rw [hW0]; exact below_alloc (below_alloc (below_alloc (below_alloc (Below.refl _ _) _) _) _) _
  have hsz : W0.heap.size = w.heap.size + 4 := by rw [hW0]; simp
  have HI0 : Hid (IDrop w g cap xs p (.func (.func 42) #[] #[.pointer (some (at0 P0))]) [] W0) := Lib.hid (by
    refine ⟨Only.below hB0, ?_, ?_, ?_, fun t e => ?_⟩
    · rw [hW0, heap_alloc_old _ _ _ (by simp <;> omega), heap_alloc_old _ _ _ (by simp <;> omega), heap_alloc_old _ _ _ (by simp <;> omega)]; exact heap_alloc_new w _
    · rw [hW0, heap_alloc_old _ _ _ (by simp <;> omega), heap_alloc_old _ _ _ (by simp <;> omega)]
      have := heap_alloc_new (w.alloc (.cells #[.pointer (some (at0 g))] 23)) (.cells #[.func (.func 42) #[] #[.pointer (some (at0 P0))]] 83)
      rwa [World.size_alloc] at this
    · rw [hW0, heap_alloc_old _ _ _ (by simp <;> omega)]
      have := heap_alloc_new ((w.alloc (.cells #[.pointer (some (at0 g))] 23)).alloc (.cells #[.func (.func 42) #[] #[.pointer (some (at0 P0))]] 83)) (.cells #[.int .i64 0] 3)
      rwa [World.size_alloc, World.size_alloc] at this
    · simp only [List.nil_append] at e
      subst e
      exact HS.out.below hB0)
  have hbx : W0.cell? ⟨w.heap.size + 1 + 1 + 1, 0, none⟩ = some (.pointer (some (at0 g))) := by
    have := heap_alloc_new (((w.alloc (.cells #[.pointer (some (at0 g))] 23)).alloc (.cells #[.func (.func 42) #[] #[.pointer (some (at0 P0))]] 83)).alloc (.cells #[.int .i64 0] 3)) (.cells #[.pointer (some (at0 g))] 23)
    rw [World.size_alloc, World.size_alloc, World.size_alloc] at this
    rw [hW0]
    exact c_of this 0 rfl
  have hg30 := pw_cell_below hB0 hg3
  clear hW0 hg3
  refine range_links (n := 8) (h47 := trivial) (hro := hro) (hn := by omega) (hps := rfl) (w.heap.size + 1 + 1 + 1) g xs hnd rfl hbx hg30 (IDrop w g cap xs p (.func (.func 42) #[] #[.pointer (some (at0 P0))]))
    (fun o o' => HI0.out.below (by exact below_alloc (below_alloc (Below.refl _ _) _) _)) ?put ?chain
    (fun d => { tmps := #[.pointer (some (at0 g)), .func (.func 42) #[] #[.pointer (some (at0 P0))], .pointer (some ⟨w.heap.size, 0, none⟩), .pointer (some ⟨w.heap.size + 1, 0, none⟩), .int .i64 0, .pointer (some ⟨w.heap.size + 1 + 1, 0, none⟩), .pointer (some (at0 d.b)), .pointer (some (at0 g)), .func (.func 47) #[] #[.pointer (some ⟨w.heap.size + 1 + 1 + 1, 0, none⟩)], .pointer (some (at0 d.b)), undef, undef, undef, undef, undef, undef, undef, undef, undef, undef, undef, undef], defers := [] })
    ?assign ?body ?done
  case put =>
    intro pre W k o o' hi hk ho hc
    exact ⟨hi.only.putObj (by omega) _, putObj_keeps hi.b0 ho hc, putObj_keeps hi.b1 ho hc, putObj_keeps hi.b2 ho hc, fun t e => (hi.st t e).putObj ho hc⟩
  case chain =>
    intro pre d t W e hi
    have := (hi.st _ e).seg
    rw [seg_append] at this
    exact c_of this.2.1 13 rfl
  case assign =>
    intro l d W K hK
    gi_wp2
    exact hK
  case body =>
    intro l pre d t W hxs hi
    have HI := Lib.hid hi
    have HX := Lib.hid hxs
    have hdm : d ∈ xs := by rw [hxs]; simp
    have hst := (hi.st _ hxs).mem d (by simp)
    obtain ⟨p', n', hlk⟩ := hst
    obtain ⟨l0, l1, l2, l3, l4, l5, l6, l7, l8, l9, l10⟩ := link_cells hlk
    have c0 := c_of hi.b0 0 (v := .pointer (some (at0 g))) rfl
    have c1 := c_of hi.b1 0 (v := .func (.func 42) #[] #[.pointer (some (at0 P0))]) rfl
    have hd : 1 ≤ 8 - 1 - 1 := by omega
    have hmx : Tryd.prog.follows .mixedOrders = true := by kernel_rfl
    clear hi hxs hlk hg30 hbx
    gi_wp2
    gi_region_with_o ((refine ⟨trivial, ?_⟩; gi_at_call 42; refine (CallsIn.inRound l (callsIn_wide.2 (HP.out _ d hdm (HI.out.only.drew)))).mono ?_; rintro e w3 ⟨rfl, hb3⟩))
    all_goals clear l0 l1 l2 l3 l4 l5 l6 l7 l8 l9 l10 c0 c1
    all_goals have hB3 : Below W.heap.size W w3 := (below_drew (Below.refl _ W)).trans hb3
    all_goals have HI3 : Hid (IDrop w g cap xs p (.func (.func 42) #[] #[.pointer (some (at0 P0))]) pre w3) := Lib.hid (HI.out.below hB3)
    all_goals have HB3 := Lib.hid hB3
    all_goals clear hb3 hB3
    all_goals have c0 := c_of HI3.out.b0 0 (v := .pointer (some (at0 g))) rfl
    all_goals (cases hpd : p d)
    all_goals first
      | (gi_wp2_with (refine ⟨trivial, ?_⟩; gi_at_call 32; refine (CallsIn.inRound l (callsIn_wide.2 (out_at w3 g cap _ _ t d (HI3.out.st _ HX.out)))).mono ?_; rintro e w5 ⟨⟨v5, rfl⟩, hs5, hb5, ho5⟩; rw [zs_bound HX.out hz hzs] at hs5; have c5 : w5.cell? ⟨w.heap.size + 1 + 1, 0, none⟩ = some (.int .i64 ((pre.filter p).length : Int)) := c_of ((ho5.block _ (blk_lt' HI3.out.b2) (fun hm => by have := hml _ (hm.mono (filter_sub HX.out)); omega)).trans HI3.out.b2) 0 rfl; have f5 : w5.frozen? ⟨w.heap.size + 1 + 1, 0, none⟩ = false := fr_of ((ho5.block _ (blk_lt' HI3.out.b2) (fun hm => by have := hml _ (hm.mono (filter_sub HX.out)); omega)).trans HI3.out.b2) 0; have hfl : (pre.filter p).length ≤ 65536 := Nat.le_trans (List.length_filter_le _ _) (by have := congrArg List.length HX.out; simp at this; omega); have HS5 := Lib.hid hs5; have HO5 := Lib.hid ho5; clear hs5 hb5 ho5)
         exact ⟨((keepsFrom_below _ HB3.out).trans ((HI3.out.st _ HX.out).keepsFrom HO5.out _)).trans ((KeepsOthers.setCell _ _ _).from _), HI3.out.yes HX.out hpd hml HO5.out HS5.out⟩)
      | (gi_wp2
         exact ⟨keepsFrom_below _ HB3.out, HI3.out.no hpd⟩)
  case done =>
    intro D W hD hi hdf
    have HI := Lib.hid hi
    have c5 := c_of hi.b2 0 (v := .int .i64 ((xs.filter p).length : Int)) rfl
    clear hi
    gi_wp2
    refine ⟨by simp, .inl ⟨_, _, rfl, run_takeDeferred hdf, ?_⟩⟩
    have hst := HI.out.st [] (by simp)
    rw [List.append_nil] at hst
    exact ⟨_, results_tmp rfl _ _ _, rfl, hst.putObj hdf rfl, HI.out.only.putObj (by omega) _⟩

end Go.Proofs.YtkbbjjegpjdpeaaDoor.S

