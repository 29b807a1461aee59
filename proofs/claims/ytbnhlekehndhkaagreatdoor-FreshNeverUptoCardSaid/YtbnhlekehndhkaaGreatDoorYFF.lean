import Derived.Test.YtbnhlekehndhkaaGreatDoorYFD
import Derived.Maps.Own
import Derived.Maps.OwnOps



/- Maps from texts to pointers; argument. -/
namespace Go.Proofs.YtbnhlekehndhkaaGreatDoor.Fb
open Go.RowKit Go.Proofs.YtbnhlekehndhkaaGreatDoorW.PrintWords Go.Proofs.YtbnhlekehndhkaaGreatDoorW.PrintLast Go.Proofs.YtbnhlekehndhkaaGreatDoorW.PrintMore Go.Proofs.YtbnhlekehndhkaaGreatDoor.G
set_option linter.unusedVariables false
set_option linter.unusedSimpArgs false
def ent (p : ByteArray × Value) : Value × Value := (.string p.1, p.2)
/-- block b is the map that has these, in this order -/
def MapS (w : World) (b : Nat) (l : List (ByteArray × Value)) : Prop := ∃ es clock, w.heap[b]? = some (.map es clock) ∧ es.toList.map (fun e => (e.key, e.val)) = l.map ent
def lookS : List (ByteArray × Value) → ByteArray → Option Value
  | [], _ => none
  | (k, v) :: r, s => if s == k then some v else lookS r s
theorem find_now (s : ByteArray) : ∀ (es : List MapEntry) (l : List (ByteArray × Value)) (i : Nat), es.map (fun e => (e.key, e.val)) = l.map ent →
    ∃ r, Instr.findNow .string (.string s) es i = some r ∧ r.map (·.2) = lookS l s
  | [], l, i, h => by
    obtain rfl : l = [] := by cases l with | nil => rfl | cons p m => simp at h
    exact ⟨none, rfl, rfl⟩
  | e :: es, l, i, h => by
    cases l with
    | nil => simp at h
    | cons p l =>
      obtain ⟨k, v⟩ := p
      simp only [List.map_cons, List.cons.injEq, ent, Prod.mk.injEq] at h
      obtain ⟨⟨h1, h2⟩, h3⟩ := h
      unfold Instr.findNow lookS
      rw [h1]
      simp only [Instr.sameNow]
      cases hc : (s == k) with
      | true => exact ⟨some (i, e.val), rfl, by simp [h2]⟩
      | false =>
        obtain ⟨r, hr, hl⟩ := find_now s es l (i + 1) h3
        exact ⟨r, hr, by simpa using hl⟩
theorem findKey_run (w : World) (s : ByteArray) (es : List MapEntry) (l : List (ByteArray × Value)) (h : es.map (fun e => (e.key, e.val)) = l.map ent) :
    ∃ r, (Instr.findKey 9 (.string s) es).run Tryz.prog w = .ok r w ∧ r.map (·.2) = lookS l s := by
  obtain ⟨r, hr, hl⟩ := find_now s es l 0 h
  refine ⟨r, ?_, hl⟩
  simp only [Instr.findKey, Sem.run_bind, run_underlying Tryz.underlying9, Result.andThen_ok, hr, Sem.run_pure]
theorem check_run (b : Bool) (w : World) (s : ByteArray) : (Instr.checkKey b 10000 9 (.string s)).run Tryz.prog w = .ok () w := by kernel_rfl
theorem lookup_run (T E : Nat) (hT : Tryz.prog.underlying T = some (.map 9 E)) (hz : ∀ w, (zeroValue E).run Tryz.prog w = .ok (.pointer none) w) (w : World) (b : Nat) (l : List (ByteArray × Value)) (h : MapS w b l) (s : ByteArray) :
    (Instr.lookup T (.map (some b)) (.string s) false).run Tryz.prog w = .ok ((lookS l s).getD (.pointer none)) w := by
  obtain ⟨es, clock, hb, hm⟩ := h
  obtain ⟨r, h1, h2⟩ := findKey_run w s es.toList l hm
  simp only [Instr.lookup, Sem.run_bind, run_underlying hT, Result.andThen_ok, MapKept.run_getObj_map hb, Sem.run_pure, check_run, h1]
  cases r with
  | none =>
    have : lookS l s = none := by simpa using h2.symm
    simp [this, Result.andThen, hz]
  | some q =>
    obtain ⟨i, v⟩ := q
    have : lookS l s = some v := by simpa using h2.symm
    simp [this, Result.andThen]
theorem update_run (T E : Nat) (hT : Tryz.prog.underlying T = some (.map 9 E)) (w : World) (b : Nat) (l : List (ByteArray × Value)) (h : MapS w b l) (s : ByteArray) (v : Value) (hn : lookS l s = none) :
    ∃ w', (Instr.mapUpdate T (.map (some b)) (.string s) v).run Tryz.prog w = .ok () w' ∧ MapS w' b (l ++ [(s, v)]) ∧ w.grownBy w' (some b) := by
  obtain ⟨es, clock, hb, hm⟩ := h
  obtain ⟨r, h1, h2⟩ := findKey_run w s es.toList l hm
  rw [hn] at h2
  have hr : r = none := by cases r with | none => rfl | some q => simp at h2
  subst hr
  have hlt := (Array.getElem?_eq_some_iff.1 hb).1
  refine ⟨{ w with heap := w.heap.setIfInBounds b (.map (es.push ⟨.string s, v, clock⟩) (clock + 1)) }, ?_, ⟨es.push ⟨.string s, v, clock⟩, clock + 1, by simp [hlt], ?_⟩, ⟨rfl, rfl, rfl, by simp, fun i _ hi => by
    have : b ≠ i := fun e => hi (by rw [e])
    simp [Array.getElem?_setIfInBounds, this]⟩⟩
  · simp only [Instr.mapUpdate, Sem.run_bind, run_underlying hT, Result.andThen_ok, MapKept.run_getObj_map hb, Sem.run_pure, check_run, h1]
    rw [MapKept.run_setObj_map _ hb]
  · simp [hm, ent]
theorem MapS.same {w w' : World} {b : Nat} {l : List (ByteArray × Value)} (h : MapS w b l) (hg : w'.heap[b]? = w.heap[b]?) : MapS w' b l := by
  obtain ⟨es, clock, hb, hm⟩ := h
  exact ⟨es, clock, hg.trans hb, hm⟩
theorem MapS.lt {w : World} {b : Nat} {l : List (ByteArray × Value)} (h : MapS w b l) : b < w.heap.size := by
  obtain ⟨es, clock, hb, hm⟩ := h
  exact (Array.getElem?_eq_some_iff.1 hb).1
theorem MapS.below {w w' : World} {b : Nat} {l : List (ByteArray × Value)} (h : MapS w b l) (hb : Below w.heap.size w w') : MapS w' b l := h.same (hb.block _ h.lt)
theorem MapS.fresh (w : World) : MapS (w.alloc (.map #[] 0)) w.heap.size [] := ⟨#[], 0, heap_alloc_new w _, rfl⟩
theorem MapS.set {w : World} {b : Nat} {l : List (ByteArray × Value)} (h : MapS w b l) (g i : Nat) (v : Value) (hne : b ≠ g) : MapS (w.setCell ⟨g, i, none⟩ v) b l := h.same (heap_setCell_other w ⟨g, i, none⟩ b v hne)
/-- the look-up, at the operation -/
theorem wp_look (T E : Nat) (hT : Tryz.prog.underlying T = some (.map 9 E)) (hz : ∀ w, (zeroValue E).run Tryz.prog w = .ok (.pointer none) w) (w : World) {ops : Array Oper} {rest : List Oper} {o : Oper} {a : Act} {Q : Exit → Act → World → Prop}
    (hg : o.guard = none) (m x : Operand) (hop : o.op = Op.lookup T m x false) (b : Nat) (l : List (ByteArray × Value)) (hm : a.eval m = .map (some b)) (hown : MapS w b l) (s : ByteArray) (hx : a.eval x = .string s)
    (hK : wpList Tryz.prog ops Q rest (a.put o.dst ((lookS l s).getD (.pointer none))) w) : wpList Tryz.prog ops Q (o :: rest) a w := by
  refine wpList_plain hg fun K' hK' => ?_
  unfold Oper.wp
  simp [execOp, hop, hm, hx, lookup_run T E hT hz w b l hown s, Result.andThen]
  exact hK' _ _ hK
theorem wp_ins (T E : Nat) (hT : Tryz.prog.underlying T = some (.map 9 E)) (w : World) {ops : Array Oper} {rest : List Oper} {o : Oper} {a : Act} {Q : Exit → Act → World → Prop}
    (hg : o.guard = none) (m x y : Operand) (hop : o.op = Op.insert T m x y) (b : Nat) (l : List (ByteArray × Value)) (hm : a.eval m = .map (some b)) (hown : MapS w b l) (s : ByteArray) (v : Value) (hx : a.eval x = .string s) (hy : a.eval y = v) (hn : lookS l s = none)
    (hK : ∀ w', MapS w' b (l ++ [(s, v)]) → w.grownBy w' (some b) → wpList Tryz.prog ops Q rest (a.put o.dst undef) w') : wpList Tryz.prog ops Q (o :: rest) a w := by
  refine wpList_plain hg fun K' hK' => ?_
  obtain ⟨w', hrun, r1, r2⟩ := update_run T E hT w b l hown s v hn
  unfold Oper.wp
  simp [execOp, hop, hm, hx, hy, hrun, Result.andThen]
  exact hK' _ _ (hK w' r1 r2)
theorem zero66 (w : World) : (zeroValue 108).run Tryz.prog w = .ok (.pointer none) w := by kernel_rfl
theorem zero68 (w : World) : (zeroValue 77).run Tryz.prog w = .ok (.pointer none) w := by kernel_rfl
set_option maxHeartbeats 1000000 in
/-- argument: a number that is not told yet -/
theorem argument_q (g j : Nat) (cs : Array Value) (t : Nat) (n : Int) (s : ByteArray) (hs : s.size ≤ 281474976710656) (w : World) (hc : w.heap[g]? = some (.cells cs t (0, 0))) (hj : cs[j]? = some (.int .i64 n)) :
    Calls Tryz.prog 85 #[.pointer (some ⟨g, j, none⟩), .string s] w fun e w' => e = .returned (.tuple #[]) ∧ ∃ w1, Below w.heap.size w w1 ∧ (w' = if n < 0 then w1.setCell ⟨g, j, none⟩ (.int .i64 (secV s.data.toList).1) else w1) := by
  have HSQ := Lib.hid (seconds_q s hs)
  have HC := Lib.hid hc
  have l0 := c_of hc j hj
  obtain ⟨r, hr⟩ : ∃ r, r = secV s.data.toList := ⟨_, rfl⟩
  rw [← hr] at HSQ ⊢
  have HJ := Lib.hid hj
  clear hr hc
  by_cases hn : n < 0
  · have t0 : decide (n < 0) = true := decide_eq_true hn
    simp only [if_pos hn]
    clear hn
    go_enter Tryz.func85, Tryz.ntmps85
    go_wp2_with (go_at_call 42; refine (HSQ.out _).mono ?_; rintro e_ w1 ⟨rfl, hb1⟩; have HB1 := Lib.hid hb1; have k0 := c_of (blk_bel hb1 HC.out) j HJ.out; have k1 := fr_of (blk_bel hb1 HC.out) j; clear hb1)
    go_end0
    exact ⟨rfl, w1, HB1.out, rfl⟩
  · have t0 : decide (n < 0) = false := decide_eq_false hn
    simp only [if_neg hn]
    clear hn
    go_enter Tryz.func85, Tryz.ntmps85
    go_wp2
    go_end0
    exact ⟨rfl, w, Below.refl _ _, rfl⟩
end Go.Proofs.YtbnhlekehndhkaaGreatDoor.Fb

