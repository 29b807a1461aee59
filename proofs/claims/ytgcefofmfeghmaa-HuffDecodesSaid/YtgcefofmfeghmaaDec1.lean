import Derived.Test.YtgcefofmfeghmaaGx0
import Derived.Test.YtgcefofmfeghmaaWEqStruct
import Derived.Maps.Own
import Derived.Maps.OwnOps
import Derived.Lib.Hide
/- A map from words to symbols, as a list. -/
namespace Go.Proofs.Ytgcefofmfeghmaa.Mp
open Go.RowKit Go.Proofs.YtgcefofmfeghmaaW.PrintWords Go.Proofs.YtgcefofmfeghmaaW.PrintLast Go.Proofs.YtgcefofmfeghmaaW.PrintMore Go.Proofs.Ytgcefofmfeghmaa.G
set_option linter.unusedVariables false
set_option linter.unusedSimpArgs false

theorem eqW (d : Nat) (w : World) (x0 y0 : Int) (x1 y1 : Int) :
    (Op.equalIn (d + 2) 36 (.agg #[.int .i64 x0, .int .i64 x1]) (.agg #[.int .i64 y0, .int .i64 y1])).run Try.prog w = .ok (x0 == y0 && (x1 == y1)) w := by
  refine eqA_of Try.underlying36 (by kernel_rfl) ?_
  refine eqf_cons (by rfl) (by go_simp; rfl) (by go_simp; rfl) (by go_simp) ?_
  exact eqf_last (by rfl) (by go_simp; rfl) (by go_simp; rfl) (by go_simp)

/-- the symbol of a word -/
def look : List (S36 × Int) → Int → Int → Option Int
  | [], _, _ => none
  | p :: m, B, L => if B == p.1.f0 && (L == p.1.f1) then some p.2 else look m B L
def ent (p : S36 × Int) : Value × Value := (.agg #[.int .i64 p.1.f0, .int .i64 p.1.f1], .int .u8 p.2)
/-- block b is the map that has these, in this order -/
def MapAt (w : World) (b : Nat) (m : List (S36 × Int)) : Prop := ∃ es clock, w.heap[b]? = some (.map es clock) ∧ es.toList.map (fun e => (e.key, e.val)) = m.map ent

theorem find_run (w : World) (B L : Int) : ∀ (es : List MapEntry) (m : List (S36 × Int)) (i : Nat), es.map (fun e => (e.key, e.val)) = m.map ent →
    ∃ r, (Instr.findAsking 36 (.agg #[.int .i64 B, .int .i64 L]) es i).run Try.prog w = .ok r w ∧ r.map (·.2) = (look m B L).map (Value.int .u8)
  | [], [], i, _ => ⟨none, by simp [Instr.findAsking], rfl⟩
  | [], p :: m, i, h => by simp at h
  | e :: es, [], i, h => by simp at h
  | e :: es, p :: m, i, h => by
    simp only [List.map_cons, List.cons.injEq, ent, Prod.mk.injEq] at h
    obtain ⟨⟨h1, h2⟩, h3⟩ := h
    have he : (Op.equal 36 (.agg #[.int .i64 B, .int .i64 L]) e.key).run Try.prog w = .ok (B == p.1.f0 && (L == p.1.f1)) w := by
      rw [h1]
      exact eqW _ w _ _ _ _
    by_cases c : (B == p.1.f0 && (L == p.1.f1)) = true
    · refine ⟨some (i, e.val), ?_, ?_⟩
      · rw [Instr.findAsking]
        simp only [Sem.run_bind, he, Result.andThen_ok, c, if_true, Sem.run_pure]
      · simp only [look, c, if_true, h2, Option.map_some]
    · simp only [Bool.not_eq_true] at c
      obtain ⟨r, h4, h5⟩ := find_run w B L es m (i + 1) h3
      refine ⟨r, ?_, ?_⟩
      · rw [Instr.findAsking]
        simp only [Sem.run_bind, he, Result.andThen_ok, c, Bool.false_eq_true, if_false]
        exact h4
      · simp only [look, c, Bool.false_eq_true, if_false, h5]

theorem findNow_none (fs : Array Field) (k : Value) (e : MapEntry) (es : List MapEntry) (i : Nat) : Instr.findNow (.struct fs) k (e :: es) i = none := by
  simp [Instr.findNow, Instr.sameNow]

theorem findKey_run (w : World) (B L : Int) (es : List MapEntry) (m : List (S36 × Int)) (h : es.map (fun e => (e.key, e.val)) = m.map ent) :
    ∃ r, (Instr.findKey 36 (.agg #[.int .i64 B, .int .i64 L]) es).run Try.prog w = .ok r w ∧ r.map (·.2) = (look m B L).map (Value.int .u8) := by
  cases es with
  | nil =>
    obtain rfl : m = [] := by cases m with | nil => rfl | cons p m => simp at h
    exact ⟨none, by simp [Instr.findKey, run_underlying Try.underlying36, Instr.findNow, Result.andThen], rfl⟩
  | cons e es =>
    obtain ⟨r, h1, h2⟩ := find_run w B L (e :: es) m 0 h
    refine ⟨r, ?_, h2⟩
    simp only [Instr.findKey, Sem.run_bind, run_underlying Try.underlying36, Result.andThen_ok, findNow_none]
    exact h1

theorem check_run (b : Bool) (w : World) (B L : Int) : (Instr.checkKey b 10000 36 (.agg #[.int .i64 B, .int .i64 L])).run Try.prog w = .ok () w := by kernel_rfl

theorem lookup_run (w : World) (b : Nat) (m : List (S36 × Int)) (h : MapAt w b m) (B L : Int) :
    (Instr.lookup 49 (.map (some b)) (.agg #[.int .i64 B, .int .i64 L]) true).run Try.prog w = .ok (.tuple #[.int .u8 ((look m B L).getD 0), .bool (look m B L).isSome]) w := by
  obtain ⟨es, clock, hb, hm⟩ := h
  obtain ⟨r, h1, h2⟩ := findKey_run w B L es.toList m hm
  simp only [Instr.lookup, Sem.run_bind, run_underlying Try.underlying49, Result.andThen_ok, MapKept.run_getObj_map hb, Sem.run_pure, check_run, h1]
  cases r with
  | none =>
    have : look m B L = none := by cases hl : look m B L with | none => rfl | some x => rw [hl] at h2; simp at h2
    simp [this, Result.andThen, show ∀ w, (zeroValue 5).run Try.prog w = .ok (.int .u8 0) w from fun w => by kernel_rfl]
  | some q =>
    obtain ⟨i, v⟩ := q
    cases hl : look m B L with
    | none => rw [hl] at h2; simp at h2
    | some x =>
      rw [hl] at h2
      simp only [Option.map_some, Option.some.injEq] at h2
      simp [h2, Result.andThen]

theorem update_run (w : World) (b : Nat) (m : List (S36 × Int)) (h : MapAt w b m) (x : S36) (v : Int) (hn : look m x.f0 x.f1 = none) :
    ∃ w', (Instr.mapUpdate 49 (.map (some b)) (.agg #[.int .i64 x.f0, .int .i64 x.f1]) (.int .u8 v)).run Try.prog w = .ok () w' ∧ MapAt w' b (m ++ [(x, v)]) ∧ w.grownBy w' (some b) := by
  obtain ⟨es, clock, hb, hm⟩ := h
  obtain ⟨r, h1, h2⟩ := findKey_run w x.f0 x.f1 es.toList m hm
  rw [hn] at h2
  have hr : r = none := by cases r with | none => rfl | some q => simp at h2
  subst hr
  have hlt := (Array.getElem?_eq_some_iff.1 hb).1
  refine ⟨{ w with heap := w.heap.setIfInBounds b (.map (es.push ⟨.agg #[.int .i64 x.f0, .int .i64 x.f1], .int .u8 v, clock⟩) (clock + 1)) }, ?_, ⟨es.push ⟨.agg #[.int .i64 x.f0, .int .i64 x.f1], .int .u8 v, clock⟩, clock + 1, by simp [hlt], ?_⟩, ⟨rfl, rfl, rfl, by simp, fun i _ hi => by
    have : b ≠ i := fun e => hi (by rw [e])
    simp [Array.getElem?_setIfInBounds, this]⟩⟩
  · simp only [Instr.mapUpdate, Sem.run_bind, run_underlying Try.underlying49, Result.andThen_ok, MapKept.run_getObj_map hb, Sem.run_pure, check_run, h1]
    rw [MapKept.run_setObj_map _ hb]
  · simp [hm, ent]

theorem MapAt.kept {w w' : World} {b : Nat} {m : List (S36 × Int)} {row : Option Nat} (h : MapAt w b m) (hg : w.grownBy w' row) (hne : some b ≠ row) : MapAt w' b m := by
  obtain ⟨es, clock, hb, hm⟩ := h
  exact ⟨es, clock, (hg.block b (Array.getElem?_eq_some_iff.1 hb).1 hne).trans hb, hm⟩
theorem MapAt.same {w w' : World} {b : Nat} {m : List (S36 × Int)} (h : MapAt w b m) (hg : w'.heap[b]? = w.heap[b]?) : MapAt w' b m := by
  obtain ⟨es, clock, hb, hm⟩ := h
  exact ⟨es, clock, hg.trans hb, hm⟩
theorem MapAt.lt {w : World} {b : Nat} {m : List (S36 × Int)} (h : MapAt w b m) : b < w.heap.size := by
  obtain ⟨es, clock, hb, hm⟩ := h
  exact (Array.getElem?_eq_some_iff.1 hb).1

/-- the look-up, at the operation -/
theorem wp_look (w : World) {ops : Array Oper} {rest : List Oper} {o : Oper} {a : Act} {Q : Exit → Act → World → Prop}
    (hg : o.guard = none) (m x : Operand) (hop : o.op = Op.lookup 49 m x true) (b : Nat) (l : List (S36 × Int)) (hm : a.eval m = .map (some b)) (hown : MapAt w b l) (B L : Int) (hx : a.eval x = .agg #[.int .i64 B, .int .i64 L])
    (hK : wpList Try.prog ops Q rest (a.put o.dst (.tuple #[.int .u8 ((look l B L).getD 0), .bool (look l B L).isSome])) w) : wpList Try.prog ops Q (o :: rest) a w := by
  refine wpList_plain hg fun K' hK' => ?_
  unfold Oper.wp
  simp [execOp, hop, hm, hx, lookup_run w b l hown B L, Result.andThen]
  exact hK' _ _ hK
theorem wp_upd (w : World) {ops : Array Oper} {rest : List Oper} {o : Oper} {a : Act} {Q : Exit → Act → World → Prop}
    (hg : o.guard = none) (m x y : Operand) (hop : o.op = Op.mapUpdate 49 m x y) (b : Nat) (l : List (S36 × Int)) (hm : a.eval m = .map (some b)) (hown : MapAt w b l) (k : S36) (v : Int) (hx : a.eval x = .agg #[.int .i64 k.f0, .int .i64 k.f1]) (hy : a.eval y = .int .u8 v) (hn : look l k.f0 k.f1 = none)
    (hK : ∀ w', MapAt w' b (l ++ [(k, v)]) → w.grownBy w' (some b) → wpList Try.prog ops Q rest (a.put o.dst undef) w') : wpList Try.prog ops Q (o :: rest) a w := by
  refine wpList_plain hg fun K' hK' => ?_
  obtain ⟨w', hrun, r1, r2⟩ := update_run w b l hown k v hn
  unfold Oper.wp
  simp [execOp, hop, hm, hx, hy, hrun, Result.andThen]
  exact hK' _ _ (hK w' r1 r2)
end Go.Proofs.Ytgcefofmfeghmaa.Mp
