import Derived.Test.YtakdfjehjnhikaaQl
namespace Go.Proofs.Ytakdfjehjnhikaa.Q
open Go.RowKit Go.Shelf Go.Proofs.YtakdfjehjnhikaaW.PrintWords Go.Proofs.YtakdfjehjnhikaaW.PrintLast Go.Proofs.YtakdfjehjnhikaaW.PrintMore Go.Proofs.Ytakdfjehjnhikaa.G
set_option linter.unusedVariables false
set_option linter.unusedSimpArgs false
attribute [local go_sem] Oper.semAt_some
attribute [local go_sem high] eqA29

/-- the last place below m at which p holds -/
def lastAt (p : S29 → Bool) (l : List S29) : Nat → Option Nat
  | 0 => none
  | j + 1 => if p (rd_T29 l (j : Int)) then some j else lastAt p l j
theorem lastAt_none (p : S29 → Bool) (l : List S29) : ∀ m : Nat, (∀ j : Nat, j < m → p (rd_T29 l (j : Int)) = false) → lastAt p l m = none
  | 0, _ => rfl
  | m + 1, h => by
    unfold lastAt
    rw [if_neg (by rw [h m (by omega)]; simp), lastAt_none p l m (fun j hj => h j (by omega))]
theorem lastAt_some (p : S29 → Bool) (l : List S29) (j : Nat) (hp : p (rd_T29 l (j : Int)) = true) : ∀ m : Nat, j < m → (∀ i : Nat, j < i → i < m → p (rd_T29 l (i : Int)) = false) → lastAt p l m = some j
  | 0, h, _ => by omega
  | m + 1, h, hn => by
    unfold lastAt
    by_cases e : j = m
    · subst e; rw [if_pos hp]
    · rw [if_neg (by rw [hn m (by omega) (by omega)]; simp), lastAt_some p l j hp m (by omega) (fun i h1 h2 => hn i h1 (by omega))]
def TS.last (s : TS) (p : S29 → Bool) : Int := match lastAt p s.l s.l.length with | some j => wrap64 (s.first + (j : Int)) | none => -1

theorem keepsFrom_below (B : Nat) {W w3 : World} (h : Below W.heap.size W w3) : KeepsFrom B W w3 :=
  ⟨h.size, fun i o _ hi _ => (h.block i (Array.getElem?_eq_some_iff.1 hi).1).trans hi⟩

def sameAs (x z : S29) : Bool := z.f0.toList == x.f0.toList && z.f1.toList == x.f1.toList
def namedAs (n : ByteArray) (z : S29) : Bool := z.f0.toList == n.toList

theorem same_calls (w : World) (P : Nat) (x z : S29) (h : w.heap[P]? = some (.cells #[.string x.f0, .string x.f1] 29 (0, 0))) : Calls Try.prog 41 #[.agg #[.string z.f0, .string z.f1], .pointer (some ⟨P, 0, none⟩)] w fun e w' => e = .returned (.bool (sameAs x z)) ∧ Below w.heap.size w w' := by
  have h0 := box0 h
  have h1 := box1 h
  have hl := blk_lt' h
  clear h
  go_enter Try.func41, Try.ntmps41
  go_wp2
  go_ret
  exact ⟨rfl, below_alloc (Below.refl _ _) _⟩

theorem named_calls (w : World) (P : Nat) (n : ByteArray) (z : S29) (h : w.cell? ⟨P, 0, none⟩ = some (.string n)) (hl : P < w.heap.size) : Calls Try.prog 45 #[.agg #[.string z.f0, .string z.f1], .pointer (some ⟨P, 0, none⟩)] w fun e w' => e = .returned (.bool (namedAs n z)) ∧ Below w.heap.size w w' := by
  go_enter Try.func45, Try.ntmps45
  go_wp2
  go_ret
  exact ⟨rfl, below_alloc (Below.refl _ _) _⟩

theorem mknamed_calls (w : World) (n : ByteArray) : Calls Try.prog 38 #[.string n] w fun e w' => e = .returned (.func (.func 45) #[] #[.pointer (some ⟨w.heap.size, 0, none⟩)]) ∧ w' = w.alloc (.cells #[.string n] 9) := by
  go_enter Try.func38, Try.ntmps38
  go_wp2
  go_ret
  exact ⟨rfl, rfl⟩

set_option maxRecDepth 100000 in
set_option maxHeartbeats 4000000 in
theorem last_same (w : World) (p : S29 → Bool) (P Tb g : Nat) (s : TS) (h : TabAt w g s) (hP : P < w.heap.size) (hTb : w.cell? ⟨Tb, 0, none⟩ = some (.pointer (some ⟨g, 0, none⟩))) (hTl : Tb < w.heap.size) (hlen : s.l.length ≤ 140737488351232)
    (hp : ∀ (W : World) (z : S29), Below w.heap.size w W → Calls Try.prog 41 #[.agg #[.string z.f0, .string z.f1], .pointer (some ⟨P, 0, none⟩)] W fun e w' => e = .returned (.bool (p z)) ∧ Below W.heap.size W w') :
    Calls Try.prog 39 #[.func (.func 41) #[] #[.pointer (some ⟨P, 0, none⟩)], .pointer (some ⟨Tb, 0, none⟩)] w fun e w' => e = .returned (.int .i64 (s.last p)) ∧ Below w.heap.size w w' := by
  have HT := Lib.hid h
  have HP := Lib.hid hp
  obtain ⟨A, c, hh, hc, hC, -⟩ := h
  have h4 := cells_of hh 4
  have h5 := cells_of hh 5
  simp only [List.getElem?_toArray, List.getElem?_cons_succ, List.getElem?_cons_zero] at h4 h5
  have hgl := blk_lt' hh
  have HC := Lib.hid hC
  clear hh hC hp
  refine (callsIn_wide (n := 8)).1 ?_
  have hro : Fence.wide.round = none := rfl
  refine callsIn_of_wp_marks Try.func39 rfl trivial ?_ hro
  simp only [Try.ntmps39, List.size_toArray, List.length_cons, List.length_nil, Nat.reduceAdd, Nat.reduceSub, Array.replicate_succ, Array.replicate_zero, List.push_toArray, List.append_toArray, List.nil_append, List.cons_append]
  gi_wp2_with (refine ⟨trivial, ?_⟩; gi_at_call 40; refine (callsIn_wide.2 (back_calls _ _ _ _)).mono ?_; rintro e w' ⟨rfl, rfl⟩)
  have h1 : 1 ≤ 8 := by omega
  obtain ⟨W0, hW0⟩ : ∃ W0, ((w.alloc (.cells #[.func (.func 41) #[] #[.pointer (some ⟨P, 0, none⟩)]] 60)).alloc (.cells #[.int .i64 0] 3)).alloc (.cells #[.slice A s.l.length c] 39) = W0 := ⟨_, rfl⟩
  have bH : Boxed W0 w.heap.size 60 (.func (.func 41) #[] #[.pointer (some ⟨P, 0, none⟩)]) := by rw [← hW0]; exact ((Boxed.new w 60 _).alloc _).alloc _
  have bR : Boxed W0 (w.heap.size + 1) 3 (.int .i64 0) := by
    rw [← hW0]
    have := (Boxed.new (w.alloc (.cells #[.func (.func 41) #[] #[.pointer (some ⟨P, 0, none⟩)]] 60)) 3 (.int .i64 0)).alloc (.cells #[.slice A s.l.length c] 39)
    rwa [World.size_alloc] at this
  have bS : Boxed W0 (w.heap.size + 1 + 1) 39 (.slice A s.l.length c) := by
    rw [← hW0]
    have := Boxed.new ((w.alloc (.cells #[.func (.func 41) #[] #[.pointer (some ⟨P, 0, none⟩)]] 60)).alloc (.cells #[.int .i64 0] 3)) 39 (.slice A s.l.length c)
    rwa [World.size_alloc, World.size_alloc] at this
  have hB0 : Below w.heap.size w W0 := by rw [← hW0]; exact below_alloc (below_alloc (below_alloc (Below.refl _ _) _) _) _
  have hsz : W0.heap.size = w.heap.size + 3 := by rw [← hW0]; simp
  have hTb0 := pw_cell_below hB0 hTb
  have h40 := pw_cell_below hB0 h4
  rw [hW0]
  clear hW0 hTb h4 h5
  refine wpIn_rangeFunc_ownH hro h1 (gf := 46) (lb := #[.pointer (some ⟨w.heap.size + 1 + 1, 0, none⟩)]) rfl trivial (enters_of Try.func46 (by kernel_rfl) rfl)
    (back_stops Fence.wide 7 trivial hro (by omega) (w.heap.size + 1 + 1) A c s.l hlen W0 (by omega) bS.cell (Kd.C_below HC.out hB0)) belowK_t (belowK_b (Nat.le_refl _)) (Below.refl _ _) (fun _ => rfl)
    (fun pre W => (∀ y ∈ pre, p y.2 = false) ∧ Below W0.heap.size W0 W)
    (fun cd pre W => (cd = .ret ∧ ∃ ini last, pre = ini ++ [last] ∧ (∀ y ∈ ini, p y.2 = false) ∧ p last.2 = true ∧ Boxed W (w.heap.size + 1) 3 (.int .i64 (wrap64 (s.first + (last.1 : Int))))) ∧ Below w.heap.size w W)
    (OwnFrom.and (ownFrom_pure _ _) (ownFrom_below (Nat.le_refl _) (Nat.le_refl _)))
    (fun cd => OwnFrom.and (Own.from (fun s' X Y row hs hg hr => by obtain ⟨hc1, ini, last, e1, e2, e3, e4⟩ := hs; exact ⟨hc1, ini, last, e1, e2, e3, boxed_own _ 3 (fun (_ : Unit) => Value.int .i64 (wrap64 (s.first + (last.1 : Int)))) () X Y row e4 hg hr⟩) _) (ownFrom_below (Nat.le_refl _) (by omega)))
    ⟨by simp, Below.refl _ _⟩
    (fun x a' W => ∃ Bx, W0.heap.size ≤ Bx ∧ W.heap[Bx]? = some (.cells #[.string x.2.f0, .string x.2.f1] 29 (0, 0)) ∧ a' = { tmps := #[.func (.func 41) #[] #[.pointer (some ⟨P, 0, none⟩)], .pointer (some ⟨Tb, 0, none⟩), .pointer (some ⟨w.heap.size, 0, none⟩), .pointer (some ⟨w.heap.size + 1, 0, none⟩), .int .i64 (x.1 : Int), .pointer (some ⟨Bx, 0, none⟩), .pointer (some ⟨g, 0, none⟩), .pointer (some ⟨g, 0, none⟩), .pointer (some ⟨g, 5, none⟩), .slice A s.l.length c, .func (.func 46) #[] #[.pointer (some ⟨w.heap.size + 1 + 1, 0, none⟩)], .int .i64 (x.1 : Int), .agg #[.string x.2.f0, .string x.2.f1], undef, undef, undef, undef, undef, undef, undef, undef, undef], defers := [] })
    (fun x a' _ X Y row hs hg hr => by
      obtain ⟨Bx, q1, q2, q3⟩ := hs
      exact ⟨Bx, q1, (hg.block Bx (blk_lt' q2) (fun e => by obtain ⟨-, o, ho, hcc⟩ := hr Bx e.symm; rw [q2] at ho; cases ho; cases hcc)).trans q2, q3⟩)
    ?assign ?body ?done ?stop
  case assign =>
    rintro lp pre x W K ⟨hpre, hB1⟩ hK
    gi_wp2
    exact hK _ _ ((KeepsOthers.alloc _ _).from _) ((Below.refl _ W).alloc hB1.size _) ⟨hpre, hB1.alloc hB1.size _⟩ ⟨W.heap.size, hB1.size, World.alloc_heap_new W _, rfl⟩
  case body =>
    rintro lp pre x a' W hl ⟨r, hr⟩ ⟨hpre, hB1⟩ ⟨Bx, hBx, bX, rfl⟩ hlt
    have cH := pw_cell_below hB1 bH.cell
    have bR1 : Boxed W (w.heap.size + 1) 3 (.int .i64 0) := (hB1.block _ bR.lt).trans bR
    have cT := pw_cell_below hB1 hTb0
    have c4 := pw_cell_below hB1 h40
    have x0 := box0 bX
    have x1 := box1 bX
    have HBX := Lib.hid (fun (w3 : World) (hb : Below W.heap.size W w3) => hb)
    gi_wp2_with (refine ⟨trivial, ?_⟩; gi_at_call 41; refine (CallsIn.inRound lp (callsIn_wide.2 (HP.out _ x.2 (below_step hB0 hB1)))).mono ?_; rintro e w3 ⟨rfl, hb3⟩; have HB3 := Lib.hid hb3; have d1 := pw_cell_below hb3 cT; have d2 := pw_cell_below hb3 c4; have bR3 : Boxed w3 (w.heap.size + 1) 3 (.int .i64 0) := (hb3.block _ bR1.lt).trans bR1; have d3 := bR3.cell; have d4 := bR3.frozen; clear hb3)
    · have hx : p x.2 = true := by assumption
      exact ⟨(keepsFrom_below W0.heap.size HB3.out).trans ((KeepsOthers.setCell _ _ _).from _), ⟨rfl, pre, x, rfl, hpre, hx, bR3.set _⟩, ((below_step hB0 (below_step hB1 HB3.out)).setCell (p := ⟨w.heap.size + 1, 0, none⟩) (by simp) _)⟩
    · have hx : p x.2 = false := by assumption
      exact ⟨keepsFrom_below W0.heap.size HB3.out, HB3.out.mono hB1.size, fun y hy => (List.mem_append.1 hy).elim (hpre y) (fun e => by simp at e; subst e; exact hx), below_step hB1 HB3.out⟩
  case done =>
    rintro D ys W hD rfl ⟨hne, hB⟩ hK
    have bR1 : Boxed W (w.heap.size + 1) 3 (.int .i64 0) := (hB.block _ bR.lt).trans bR
    have d3 := bR1.cell
    have d4 := bR1.frozen
    gi_wp2
    have hK' := (KeepsOthers.setCell W ⟨w.heap.size + 1, 0, none⟩ (.int .i64 (-1))).same D _ hK rfl
    refine ⟨by simp, .inl ⟨_, _, rfl, run_takeDeferred hK', ?_⟩⟩
    have hc5 := cell_kept (World.cell?_setCell_same' W ⟨w.heap.size + 1, 0, none⟩ (.int .i64 (-1)) (by rw [d3]; rfl)) (grownBy_putObj' _ D (.deferred none)) (fun r e => by cases e; exact ⟨_, hK', rfl⟩)
    have hla : lastAt p s.l s.l.length = none := lastAt_none p s.l _ (fun j hj => hne (j, rd_T29 s.l (j : Int)) (by
      simp only [upto, List.mem_map, List.mem_range]
      refine ⟨s.l.length - (j + 1), by omega, bk_at s.l j (by omega)⟩))
    refine ⟨.int .i64 (-1), ?_, by unfold TS.last; rw [hla], ((below_step hB0 hB).setCell (p := ⟨w.heap.size + 1, 0, none⟩) (by simp) _).trans (belowK_b (w := w) (Nat.le_refl _) _ D _ _ (by omega) hK' rfl rfl)⟩
    simp [results, Try.f39, go_sem, hc5]
  case stop =>
    rintro D cd pre W hD ⟨k, hk, rfl⟩ ⟨⟨rfl, ini, last, e1, e2, e3, e4⟩, hB⟩ hK
    gi_wp2
    refine ⟨by simp, .inl ⟨_, _, rfl, run_takeDeferred hK, ?_⟩⟩
    have hc5 := cell_kept e4.cell (grownBy_putObj' _ D (.deferred none)) (fun r e => by cases e; exact ⟨_, hK, rfl⟩)
    obtain ⟨k', rfl⟩ : ∃ k', k = k' + 1 := by
      cases k with
      | zero => simp [upto] at e1
      | succ k' => exact ⟨k', rfl⟩
    rw [upto_succ] at e1
    obtain ⟨rfl, e5⟩ := List.append_inj' e1 rfl
    obtain rfl : bk s.l k' = last := by simpa using e5
    have hla : lastAt p s.l s.l.length = some (s.l.length - 1 - k') := by
      refine lastAt_some p s.l _ e3 _ (by omega) (fun i h1 h2 => e2 (i, rd_T29 s.l (i : Int)) ?_)
      simp only [upto, List.mem_map, List.mem_range]
      exact ⟨s.l.length - (i + 1), by omega, bk_at s.l i (by omega)⟩
    refine ⟨_, ?_, by unfold TS.last; rw [hla], hB.trans (belowK_b (w := w) (Nat.le_refl _) W D _ _ (by omega) hK rfl rfl)⟩
    simp [results, Try.f39, go_sem, hc5, bk]

set_option maxRecDepth 100000 in
set_option maxHeartbeats 4000000 in
theorem last_named (w : World) (p : S29 → Bool) (P Tb g : Nat) (s : TS) (h : TabAt w g s) (hP : P < w.heap.size) (hTb : w.cell? ⟨Tb, 0, none⟩ = some (.pointer (some ⟨g, 0, none⟩))) (hTl : Tb < w.heap.size) (hlen : s.l.length ≤ 140737488351232)
    (hp : ∀ (W : World) (z : S29), Below w.heap.size w W → Calls Try.prog 45 #[.agg #[.string z.f0, .string z.f1], .pointer (some ⟨P, 0, none⟩)] W fun e w' => e = .returned (.bool (p z)) ∧ Below W.heap.size W w') :
    Calls Try.prog 39 #[.func (.func 45) #[] #[.pointer (some ⟨P, 0, none⟩)], .pointer (some ⟨Tb, 0, none⟩)] w fun e w' => e = .returned (.int .i64 (s.last p)) ∧ Below w.heap.size w w' := by
  have HT := Lib.hid h
  have HP := Lib.hid hp
  obtain ⟨A, c, hh, hc, hC, -⟩ := h
  have h4 := cells_of hh 4
  have h5 := cells_of hh 5
  simp only [List.getElem?_toArray, List.getElem?_cons_succ, List.getElem?_cons_zero] at h4 h5
  have hgl := blk_lt' hh
  have HC := Lib.hid hC
  clear hh hC hp
  refine (callsIn_wide (n := 8)).1 ?_
  have hro : Fence.wide.round = none := rfl
  refine callsIn_of_wp_marks Try.func39 rfl trivial ?_ hro
  simp only [Try.ntmps39, List.size_toArray, List.length_cons, List.length_nil, Nat.reduceAdd, Nat.reduceSub, Array.replicate_succ, Array.replicate_zero, List.push_toArray, List.append_toArray, List.nil_append, List.cons_append]
  gi_wp2_with (refine ⟨trivial, ?_⟩; gi_at_call 40; refine (callsIn_wide.2 (back_calls _ _ _ _)).mono ?_; rintro e w' ⟨rfl, rfl⟩)
  have h1 : 1 ≤ 8 := by omega
  obtain ⟨W0, hW0⟩ : ∃ W0, ((w.alloc (.cells #[.func (.func 45) #[] #[.pointer (some ⟨P, 0, none⟩)]] 60)).alloc (.cells #[.int .i64 0] 3)).alloc (.cells #[.slice A s.l.length c] 39) = W0 := ⟨_, rfl⟩
  have bH : Boxed W0 w.heap.size 60 (.func (.func 45) #[] #[.pointer (some ⟨P, 0, none⟩)]) := by rw [← hW0]; exact ((Boxed.new w 60 _).alloc _).alloc _
  have bR : Boxed W0 (w.heap.size + 1) 3 (.int .i64 0) := by
    rw [← hW0]
    have := (Boxed.new (w.alloc (.cells #[.func (.func 45) #[] #[.pointer (some ⟨P, 0, none⟩)]] 60)) 3 (.int .i64 0)).alloc (.cells #[.slice A s.l.length c] 39)
    rwa [World.size_alloc] at this
  have bS : Boxed W0 (w.heap.size + 1 + 1) 39 (.slice A s.l.length c) := by
    rw [← hW0]
    have := Boxed.new ((w.alloc (.cells #[.func (.func 45) #[] #[.pointer (some ⟨P, 0, none⟩)]] 60)).alloc (.cells #[.int .i64 0] 3)) 39 (.slice A s.l.length c)
    rwa [World.size_alloc, World.size_alloc] at this
  have hB0 : Below w.heap.size w W0 := by rw [← hW0]; exact below_alloc (below_alloc (below_alloc (Below.refl _ _) _) _) _
  have hsz : W0.heap.size = w.heap.size + 3 := by rw [← hW0]; simp
  have hTb0 := pw_cell_below hB0 hTb
  have h40 := pw_cell_below hB0 h4
  rw [hW0]
  clear hW0 hTb h4 h5
  refine wpIn_rangeFunc_ownH hro h1 (gf := 46) (lb := #[.pointer (some ⟨w.heap.size + 1 + 1, 0, none⟩)]) rfl trivial (enters_of Try.func46 (by kernel_rfl) rfl)
    (back_stops Fence.wide 7 trivial hro (by omega) (w.heap.size + 1 + 1) A c s.l hlen W0 (by omega) bS.cell (Kd.C_below HC.out hB0)) belowK_t (belowK_b (Nat.le_refl _)) (Below.refl _ _) (fun _ => rfl)
    (fun pre W => (∀ y ∈ pre, p y.2 = false) ∧ Below W0.heap.size W0 W)
    (fun cd pre W => (cd = .ret ∧ ∃ ini last, pre = ini ++ [last] ∧ (∀ y ∈ ini, p y.2 = false) ∧ p last.2 = true ∧ Boxed W (w.heap.size + 1) 3 (.int .i64 (wrap64 (s.first + (last.1 : Int))))) ∧ Below w.heap.size w W)
    (OwnFrom.and (ownFrom_pure _ _) (ownFrom_below (Nat.le_refl _) (Nat.le_refl _)))
    (fun cd => OwnFrom.and (Own.from (fun s' X Y row hs hg hr => by obtain ⟨hc1, ini, last, e1, e2, e3, e4⟩ := hs; exact ⟨hc1, ini, last, e1, e2, e3, boxed_own _ 3 (fun (_ : Unit) => Value.int .i64 (wrap64 (s.first + (last.1 : Int)))) () X Y row e4 hg hr⟩) _) (ownFrom_below (Nat.le_refl _) (by omega)))
    ⟨by simp, Below.refl _ _⟩
    (fun x a' W => ∃ Bx, W0.heap.size ≤ Bx ∧ W.heap[Bx]? = some (.cells #[.string x.2.f0, .string x.2.f1] 29 (0, 0)) ∧ a' = { tmps := #[.func (.func 45) #[] #[.pointer (some ⟨P, 0, none⟩)], .pointer (some ⟨Tb, 0, none⟩), .pointer (some ⟨w.heap.size, 0, none⟩), .pointer (some ⟨w.heap.size + 1, 0, none⟩), .int .i64 (x.1 : Int), .pointer (some ⟨Bx, 0, none⟩), .pointer (some ⟨g, 0, none⟩), .pointer (some ⟨g, 0, none⟩), .pointer (some ⟨g, 5, none⟩), .slice A s.l.length c, .func (.func 46) #[] #[.pointer (some ⟨w.heap.size + 1 + 1, 0, none⟩)], .int .i64 (x.1 : Int), .agg #[.string x.2.f0, .string x.2.f1], undef, undef, undef, undef, undef, undef, undef, undef, undef], defers := [] })
    (fun x a' _ X Y row hs hg hr => by
      obtain ⟨Bx, q1, q2, q3⟩ := hs
      exact ⟨Bx, q1, (hg.block Bx (blk_lt' q2) (fun e => by obtain ⟨-, o, ho, hcc⟩ := hr Bx e.symm; rw [q2] at ho; cases ho; cases hcc)).trans q2, q3⟩)
    ?assign ?body ?done ?stop
  case assign =>
    rintro lp pre x W K ⟨hpre, hB1⟩ hK
    gi_wp2
    exact hK _ _ ((KeepsOthers.alloc _ _).from _) ((Below.refl _ W).alloc hB1.size _) ⟨hpre, hB1.alloc hB1.size _⟩ ⟨W.heap.size, hB1.size, World.alloc_heap_new W _, rfl⟩
  case body =>
    rintro lp pre x a' W hl ⟨r, hr⟩ ⟨hpre, hB1⟩ ⟨Bx, hBx, bX, rfl⟩ hlt
    have cH := pw_cell_below hB1 bH.cell
    have bR1 : Boxed W (w.heap.size + 1) 3 (.int .i64 0) := (hB1.block _ bR.lt).trans bR
    have cT := pw_cell_below hB1 hTb0
    have c4 := pw_cell_below hB1 h40
    have x0 := box0 bX
    have x1 := box1 bX
    have HBX := Lib.hid (fun (w3 : World) (hb : Below W.heap.size W w3) => hb)
    gi_wp2_with (refine ⟨trivial, ?_⟩; gi_at_call 45; refine (CallsIn.inRound lp (callsIn_wide.2 (HP.out _ x.2 (below_step hB0 hB1)))).mono ?_; rintro e w3 ⟨rfl, hb3⟩; have HB3 := Lib.hid hb3; have d1 := pw_cell_below hb3 cT; have d2 := pw_cell_below hb3 c4; have bR3 : Boxed w3 (w.heap.size + 1) 3 (.int .i64 0) := (hb3.block _ bR1.lt).trans bR1; have d3 := bR3.cell; have d4 := bR3.frozen; clear hb3)
    · have hx : p x.2 = true := by assumption
      exact ⟨(keepsFrom_below W0.heap.size HB3.out).trans ((KeepsOthers.setCell _ _ _).from _), ⟨rfl, pre, x, rfl, hpre, hx, bR3.set _⟩, ((below_step hB0 (below_step hB1 HB3.out)).setCell (p := ⟨w.heap.size + 1, 0, none⟩) (by simp) _)⟩
    · have hx : p x.2 = false := by assumption
      exact ⟨keepsFrom_below W0.heap.size HB3.out, HB3.out.mono hB1.size, fun y hy => (List.mem_append.1 hy).elim (hpre y) (fun e => by simp at e; subst e; exact hx), below_step hB1 HB3.out⟩
  case done =>
    rintro D ys W hD rfl ⟨hne, hB⟩ hK
    have bR1 : Boxed W (w.heap.size + 1) 3 (.int .i64 0) := (hB.block _ bR.lt).trans bR
    have d3 := bR1.cell
    have d4 := bR1.frozen
    gi_wp2
    have hK' := (KeepsOthers.setCell W ⟨w.heap.size + 1, 0, none⟩ (.int .i64 (-1))).same D _ hK rfl
    refine ⟨by simp, .inl ⟨_, _, rfl, run_takeDeferred hK', ?_⟩⟩
    have hc5 := cell_kept (World.cell?_setCell_same' W ⟨w.heap.size + 1, 0, none⟩ (.int .i64 (-1)) (by rw [d3]; rfl)) (grownBy_putObj' _ D (.deferred none)) (fun r e => by cases e; exact ⟨_, hK', rfl⟩)
    have hla : lastAt p s.l s.l.length = none := lastAt_none p s.l _ (fun j hj => hne (j, rd_T29 s.l (j : Int)) (by
      simp only [upto, List.mem_map, List.mem_range]
      refine ⟨s.l.length - (j + 1), by omega, bk_at s.l j (by omega)⟩))
    refine ⟨.int .i64 (-1), ?_, by unfold TS.last; rw [hla], ((below_step hB0 hB).setCell (p := ⟨w.heap.size + 1, 0, none⟩) (by simp) _).trans (belowK_b (w := w) (Nat.le_refl _) _ D _ _ (by omega) hK' rfl rfl)⟩
    simp [results, Try.f39, go_sem, hc5]
  case stop =>
    rintro D cd pre W hD ⟨k, hk, rfl⟩ ⟨⟨rfl, ini, last, e1, e2, e3, e4⟩, hB⟩ hK
    gi_wp2
    refine ⟨by simp, .inl ⟨_, _, rfl, run_takeDeferred hK, ?_⟩⟩
    have hc5 := cell_kept e4.cell (grownBy_putObj' _ D (.deferred none)) (fun r e => by cases e; exact ⟨_, hK, rfl⟩)
    obtain ⟨k', rfl⟩ : ∃ k', k = k' + 1 := by
      cases k with
      | zero => simp [upto] at e1
      | succ k' => exact ⟨k', rfl⟩
    rw [upto_succ] at e1
    obtain ⟨rfl, e5⟩ := List.append_inj' e1 rfl
    obtain rfl : bk s.l k' = last := by simpa using e5
    have hla : lastAt p s.l s.l.length = some (s.l.length - 1 - k') := by
      refine lastAt_some p s.l _ e3 _ (by omega) (fun i h1 h2 => e2 (i, rd_T29 s.l (i : Int)) ?_)
      simp only [upto, List.mem_map, List.mem_range]
      exact ⟨s.l.length - (i + 1), by omega, bk_at s.l i (by omega)⟩
    refine ⟨_, ?_, by unfold TS.last; rw [hla], hB.trans (belowK_b (w := w) (Nat.le_refl _) W D _ _ (by omega) hK rfl rfl)⟩
    simp [results, Try.f39, go_sem, hc5, bk]
end Go.Proofs.Ytakdfjehjnhikaa.Q
