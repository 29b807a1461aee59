import Derived.Test.YtgcefofmfeghmaaGx0
import Derived.Test.YtgcefofmfeghmaaWEqStruct
import Derived.Maps.Own
import Derived.Maps.OwnOps
import Derived.Lib.Hide
import Derived.Laws.BitsLemmas
import Derived.Test.YtgcefofmfeghmaaGxf16
import Derived.Test.YtgcefofmfeghmaaWLast
import Derived.Deep.QuietTactic
import Derived.BigQuiet
import Derived.Outline
/- A map from words to symbols, as a list. -/
namespace Go.Proofs.Ytgcefofmfeghmaa.Mp
open Go.RowKit Go.Proofs.YtgcefofmfeghmaaW.PrintWords Go.Proofs.YtgcefofmfeghmaaW.PrintLast Go.Proofs.YtgcefofmfeghmaaW.PrintMore Go.Proofs.Ytgcefofmfeghmaa.G
set_option linter.unusedVariables false
set_option linter.unusedSimpArgs false

theorem eqW (d : Nat) (w : World) (x0 y0 : Int) (x1 y1 : Int) :
    (Op.equalIn (d + 2) 36 (.agg #[.int .i64 x0, .int .i64 x1]) (.agg #[.int .i64 y0, .int .i64 y1])).run Try.prog w = .ok (x0 == y0 && (x1 == y1)) w := by
  refine eqA_of Try.underlying36 (by kernel_rfl) ?_
  refine eqf_cons (by rfl) (by go_simp; rfl) (by go_simp; rfl) (by go_simp) ?_
  exact eqf_last (by rfl) (by go_simp; rfl) (by go_simp; rfl) (by go_simp)

/-- the symbol of a word -/
def look : List (S36 × Int) → Int → Int → Option Int
  | [], _, _ => none
  | p :: m, B, L => if B == p.1.f0 && (L == p.1.f1) then some p.2 else look m B L
def ent (p : S36 × Int) : Value × Value := (.agg #[.int .i64 p.1.f0, .int .i64 p.1.f1], .int .u8 p.2)
/-- block b is the map that has these, in this order -/
def MapAt (w : World) (b : Nat) (m : List (S36 × Int)) : Prop := ∃ es clock, w.heap[b]? = some (.map es clock) ∧ es.toList.map (fun e => (e.key, e.val)) = m.map ent

theorem find_run (w : World) (B L : Int) : ∀ (es : List MapEntry) (m : List (S36 × Int)) (i : Nat), es.map (fun e => (e.key, e.val)) = m.map ent →
    ∃ r, (Instr.findAsking 36 (.agg #[.int .i64 B, .int .i64 L]) es i).run Try.prog w = .ok r w ∧ r.map (·.2) = (look m B L).map (Value.int .u8)
  | [], [], i, _ => ⟨none, by simp [Instr.findAsking], rfl⟩
  | [], p :: m, i, h => by simp at h
  | e :: es, [], i, h => by simp at h
  | e :: es, p :: m, i, h => by
    simp only [List.map_cons, List.cons.injEq, ent, Prod.mk.injEq] at h
    obtain ⟨⟨h1, h2⟩, h3⟩ := h
    have he : (Op.equal 36 (.agg #[.int .i64 B, .int .i64 L]) e.key).run Try.prog w = .ok (B == p.1.f0 && (L == p.1.f1)) w := by
      rw [h1]
      exact eqW _ w _ _ _ _
    by_cases c : (B == p.1.f0 && (L == p.1.f1)) = true
    · refine ⟨some (i, e.val), ?_, ?_⟩
      · rw [Instr.findAsking]
        simp only [Sem.run_bind, he, Result.andThen_ok, c, if_true, Sem.run_pure]
      · simp only [look, c, if_true, h2, Option.map_some]
    · simp only [Bool.not_eq_true] at c
      obtain ⟨r, h4, h5⟩ := find_run w B L es m (i + 1) h3
      refine ⟨r, ?_, ?_⟩
      · rw [Instr.findAsking]
        simp only [Sem.run_bind, he, Result.andThen_ok, c, Bool.false_eq_true, if_false]
        exact h4
      · simp only [look, c, Bool.false_eq_true, if_false, h5]

theorem findNow_none (fs : Array Field) (k : Value) (e : MapEntry) (es : List MapEntry) (i : Nat) : Instr.findNow (.struct fs) k (e :: es) i = none := by
  simp [Instr.findNow, Instr.sameNow]

theorem findKey_run (w : World) (B L : Int) (es : List MapEntry) (m : List (S36 × Int)) (h : es.map (fun e => (e.key, e.val)) = m.map ent) :
    ∃ r, (Instr.findKey 36 (.agg #[.int .i64 B, .int .i64 L]) es).run Try.prog w = .ok r w ∧ r.map (·.2) = (look m B L).map (Value.int .u8) := by
  cases es with
  | nil =>
    obtain rfl : m = [] := by cases m with | nil => rfl | cons p m => simp at h
    exact ⟨none, by simp [Instr.findKey, run_underlying Try.underlying36, Instr.findNow, Result.andThen], rfl⟩
  | cons e es =>
    obtain ⟨r, h1, h2⟩ := find_run w B L (e :: es) m 0 h
    refine ⟨r, ?_, h2⟩
    simp only [Instr.findKey, Sem.run_bind, run_underlying Try.underlying36, Result.andThen_ok, findNow_none]
    exact h1

theorem check_run (b : Bool) (w : World) (B L : Int) : (Instr.checkKey b 10000 36 (.agg #[.int .i64 B, .int .i64 L])).run Try.prog w = .ok () w := by kernel_rfl

theorem lookup_run (w : World) (b : Nat) (m : List (S36 × Int)) (h : MapAt w b m) (B L : Int) :
    (Instr.lookup 49 (.map (some b)) (.agg #[.int .i64 B, .int .i64 L]) true).run Try.prog w = .ok (.tuple #[.int .u8 ((look m B L).getD 0), .bool (look m B L).isSome]) w := by
  obtain ⟨es, clock, hb, hm⟩ := h
  obtain ⟨r, h1, h2⟩ := findKey_run w B L es.toList m hm
  simp only [Instr.lookup, Sem.run_bind, run_underlying Try.underlying49, Result.andThen_ok, MapKept.run_getObj_map hb, Sem.run_pure, check_run, h1]
  cases r with
  | none =>
    have : look m B L = none := by cases hl : look m B L with | none => rfl | some x => rw [hl] at h2; simp at h2
    simp [this, Result.andThen, show ∀ w, (zeroValue 5).run Try.prog w = .ok (.int .u8 0) w from fun w => by kernel_rfl]
  | some q =>
    obtain ⟨i, v⟩ := q
    cases hl : look m B L with
    | none => rw [hl] at h2; simp at h2
    | some x =>
      rw [hl] at h2
      simp only [Option.map_some, Option.some.injEq] at h2
      simp [h2, Result.andThen]

theorem update_run (w : World) (b : Nat) (m : List (S36 × Int)) (h : MapAt w b m) (x : S36) (v : Int) (hn : look m x.f0 x.f1 = none) :
    ∃ w', (Instr.mapUpdate 49 (.map (some b)) (.agg #[.int .i64 x.f0, .int .i64 x.f1]) (.int .u8 v)).run Try.prog w = .ok () w' ∧ MapAt w' b (m ++ [(x, v)]) ∧ w.grownBy w' (some b) := by
  obtain ⟨es, clock, hb, hm⟩ := h
  obtain ⟨r, h1, h2⟩ := findKey_run w x.f0 x.f1 es.toList m hm
  rw [hn] at h2
  have hr : r = none := by cases r with | none => rfl | some q => simp at h2
  subst hr
  have hlt := (Array.getElem?_eq_some_iff.1 hb).1
  refine ⟨{ w with heap := w.heap.setIfInBounds b (.map (es.push ⟨.agg #[.int .i64 x.f0, .int .i64 x.f1], .int .u8 v, clock⟩) (clock + 1)) }, ?_, ⟨es.push ⟨.agg #[.int .i64 x.f0, .int .i64 x.f1], .int .u8 v, clock⟩, clock + 1, by simp [hlt], ?_⟩, ⟨rfl, rfl, rfl, by simp, fun i _ hi => by
    have : b ≠ i := fun e => hi (by rw [e])
    simp [Array.getElem?_setIfInBounds, this]⟩⟩
  · simp only [Instr.mapUpdate, Sem.run_bind, run_underlying Try.underlying49, Result.andThen_ok, MapKept.run_getObj_map hb, Sem.run_pure, check_run, h1]
    rw [MapKept.run_setObj_map _ hb]
  · simp [hm, ent]

theorem MapAt.kept {w w' : World} {b : Nat} {m : List (S36 × Int)} {row : Option Nat} (h : MapAt w b m) (hg : w.grownBy w' row) (hne : some b ≠ row) : MapAt w' b m := by
  obtain ⟨es, clock, hb, hm⟩ := h
  exact ⟨es, clock, (hg.block b (Array.getElem?_eq_some_iff.1 hb).1 hne).trans hb, hm⟩
theorem MapAt.same {w w' : World} {b : Nat} {m : List (S36 × Int)} (h : MapAt w b m) (hg : w'.heap[b]? = w.heap[b]?) : MapAt w' b m := by
  obtain ⟨es, clock, hb, hm⟩ := h
  exact ⟨es, clock, hg.trans hb, hm⟩
theorem MapAt.lt {w : World} {b : Nat} {m : List (S36 × Int)} (h : MapAt w b m) : b < w.heap.size := by
  obtain ⟨es, clock, hb, hm⟩ := h
  exact (Array.getElem?_eq_some_iff.1 hb).1

/-- the look-up, at the operation -/
theorem wp_look (w : World) {ops : Array Oper} {rest : List Oper} {o : Oper} {a : Act} {Q : Exit → Act → World → Prop}
    (hg : o.guard = none) (m x : Operand) (hop : o.op = Op.lookup 49 m x true) (b : Nat) (l : List (S36 × Int)) (hm : a.eval m = .map (some b)) (hown : MapAt w b l) (B L : Int) (hx : a.eval x = .agg #[.int .i64 B, .int .i64 L])
    (hK : wpList Try.prog ops Q rest (a.put o.dst (.tuple #[.int .u8 ((look l B L).getD 0), .bool (look l B L).isSome])) w) : wpList Try.prog ops Q (o :: rest) a w := by
  refine wpList_plain hg fun K' hK' => ?_
  unfold Oper.wp
  simp [execOp, hop, hm, hx, lookup_run w b l hown B L, Result.andThen]
  exact hK' _ _ hK
theorem wp_upd (w : World) {ops : Array Oper} {rest : List Oper} {o : Oper} {a : Act} {Q : Exit → Act → World → Prop}
    (hg : o.guard = none) (m x y : Operand) (hop : o.op = Op.mapUpdate 49 m x y) (b : Nat) (l : List (S36 × Int)) (hm : a.eval m = .map (some b)) (hown : MapAt w b l) (k : S36) (v : Int) (hx : a.eval x = .agg #[.int .i64 k.f0, .int .i64 k.f1]) (hy : a.eval y = .int .u8 v) (hn : look l k.f0 k.f1 = none)
    (hK : ∀ w', MapAt w' b (l ++ [(k, v)]) → w.grownBy w' (some b) → wpList Try.prog ops Q rest (a.put o.dst undef) w') : wpList Try.prog ops Q (o :: rest) a w := by
  refine wpList_plain hg fun K' hK' => ?_
  obtain ⟨w', hrun, r1, r2⟩ := update_run w b l hown k v hn
  unfold Oper.wp
  simp [execOp, hop, hm, hx, hy, hrun, Result.andThen]
  exact hK' _ _ (hK w' r1 r2)
end Go.Proofs.Ytgcefofmfeghmaa.Mp
/- Decoding, plainly: bit by bit. -/
namespace Go.Proofs.Ytgcefofmfeghmaa.Mp
open Go.RowKit Go.Proofs.YtgcefofmfeghmaaW.PrintWords Go.Proofs.YtgcefofmfeghmaaW.PrintLast Go.Proofs.YtgcefofmfeghmaaW.PrintMore Go.Proofs.Ytgcefofmfeghmaa.G
set_option linter.unusedVariables false
set_option linter.unusedSimpArgs false

/-- the symbols of the first j words -/
def symMap (ws : List S36) (j : Nat) : List (S36 × Int) := (List.range j).filterMap (fun i : Nat => if 0 < (rd_T36 ws (i : Int)).f1 then some (rd_T36 ws (i : Int), (i : Int) % 256) else none)
theorem symMap_succ (ws : List S36) (j : Nat) : symMap ws (j + 1) = if 0 < (rd_T36 ws (j : Int)).f1 then symMap ws j ++ [(rd_T36 ws (j : Int), (j : Int) % 256)] else symMap ws j := by
  unfold symMap
  rw [List.range_succ, List.filterMap_append]
  by_cases h : 0 < (rd_T36 ws (j : Int)).f1 <;> simp [h]
/-- no word is met twice -/
def distB (ws : List S36) : Bool := (List.range ws.length).all (fun i : Nat => !decide (0 < (rd_T36 ws (i : Int)).f1) || (look (symMap ws i) (rd_T36 ws (i : Int)).f0 (rd_T36 ws (i : Int)).f1).isNone)
theorem distB_at {ws : List S36} (h : distB ws = true) (j : Nat) (hj : j < ws.length) (hp : 0 < (rd_T36 ws (j : Int)).f1) : look (symMap ws j) (rd_T36 ws (j : Int)).f0 (rd_T36 ws (j : Int)).f1 = none := by
  have := List.all_eq_true.1 h j (List.mem_range.2 hj)
  simpa [hp] using this

abbrev DS := List Int × Int × Int
/-- one bit -/
def dstep (m : List (S36 × Int)) (s : DS) (x : Int) : Option DS :=
  match look m (2 * s.2.1 + x) (s.2.2 + 1) with
  | some y => some (s.1 ++ [y], 0, 0)
  | none => if 24 < s.2.2 + 1 then none else some (s.1, 2 * s.2.1 + x, s.2.2 + 1)
def bit (c : Int) (k : Nat) : Int := c / 2 ^ (7 - k) % 2
def bits8 (c : Int) (k : Nat) : List Int := (List.range k).map (bit c)
theorem bits8_succ (c : Int) (k : Nat) : bits8 c (k + 1) = bits8 c k ++ [bit c k] := by unfold bits8; rw [List.range_succ]; simp
theorem bit_cases (c : Int) (k : Nat) : bit c k = 0 ∨ bit c k = 1 := by unfold bit; omega
def bitsOf (l : List Int) : List Int := l.flatMap (fun c => bits8 c 8)
def drun (m : List (S36 × Int)) (s : DS) (l : List Int) : Option DS := l.foldlM (dstep m) s
theorem drun_append (m : List (S36 × Int)) (s : DS) (a b : List Int) : drun m s (a ++ b) = (drun m s a).bind (fun t => drun m t b) := by
  unfold drun; rw [List.foldlM_append]; rfl
theorem drun_snoc (m : List (S36 × Int)) (s : DS) (a : List Int) (x : Int) : drun m s (a ++ [x]) = (drun m s a).bind (fun t => dstep m t x) := by
  rw [drun_append]
  congr 1
  funext t
  unfold drun
  simp
/-- what holds of all states -/
structure DOk (n : Nat) (s : DS) : Prop where
  lo : 0 ≤ s.2.1
  hi : s.2.1 < 2 ^ s.2.2.toNat
  l0 : 0 ≤ s.2.2
  l1 : s.2.2 ≤ 24
  len : s.1.length ≤ n
theorem DOk.small {n : Nat} {s : DS} (h : DOk n s) : s.2.1 < 16777216 := by
  have h1 := h.hi
  have : (2 : Int) ^ s.2.2.toNat ≤ 2 ^ 24 := by
    have h2 : 2 ^ s.2.2.toNat ≤ 2 ^ 24 := Nat.pow_le_pow_right (by decide) (by have := h.l1; omega)
    have h4 := Int.ofNat_le.2 h2
    rwa [Int.natCast_pow, Int.natCast_pow] at h4
  have h3 : (2 : Int) ^ 24 = 16777216 := by decide
  omega
theorem DOk.step {n : Nat} {s t : DS} {m : List (S36 × Int)} {x : Int} (h : DOk n s) (hx : x = 0 ∨ x = 1) (ht : dstep m s x = some t) : DOk (n + 1) t := by
  unfold dstep at ht
  split at ht
  · cases ht
    exact ⟨by simp, by simp, by simp, by simp, by have := h.len; simp; omega⟩
  · split at ht
    · cases ht
    · cases ht
      have h1 := h.lo; have h2 := h.hi; have h3 := h.l0; have h4 := h.len
      refine ⟨by simp only []; omega, ?_, by simp only []; omega, by simp only []; omega, by simp only []; omega⟩
      simp only []
      rw [show (s.2.2 + 1).toNat = s.2.2.toNat + 1 by omega, Int.pow_succ]
      omega
theorem DOk.run {m : List (S36 × Int)} : ∀ (l : List Int) (n : Nat) (s t : DS), DOk n s → (∀ x ∈ l, x = 0 ∨ x = 1) → drun m s l = some t → DOk (n + l.length) t
  | [], n, s, t, h, _, ht => by unfold drun at ht; simp at ht; subst ht; exact h
  | x :: l, n, s, t, h, hb, ht => by
    unfold drun at ht
    rw [List.foldlM_cons] at ht
    cases hs : dstep m s x with
    | none => rw [hs] at ht; simp at ht
    | some u =>
      rw [hs] at ht
      have := DOk.run l (n + 1) u t (h.step (hb x (by simp)) hs) (fun y hy => hb y (by simp [hy])) ht
      rw [List.length_cons, show n + (l.length + 1) = n + 1 + l.length by omega]
      exact this
theorem bits8_01 (c : Int) (k : Nat) : ∀ x ∈ bits8 c k, x = 0 ∨ x = 1 := by
  intro x hx
  unfold bits8 at hx
  simp only [List.mem_map] at hx
  obtain ⟨i, -, rfl⟩ := hx
  exact bit_cases c i
theorem bits8_len (c : Int) (k : Nat) : (bits8 c k).length = k := by unfold bits8; simp
theorem bitsOf_01 (l : List Int) : ∀ x ∈ bitsOf l, x = 0 ∨ x = 1 := by
  intro x hx
  unfold bitsOf at hx
  simp only [List.mem_flatMap] at hx
  obtain ⟨c, -, h⟩ := hx
  exact bits8_01 c 8 x h
theorem bitsOf_snoc (l : List Int) (c : Int) : bitsOf (l ++ [c]) = bitsOf l ++ bits8 c 8 := by unfold bitsOf; simp
theorem bitsOf_len (l : List Int) : (bitsOf l).length = 8 * l.length := by
  induction l with
  | nil => rfl
  | cons c l ih =>
    have : bitsOf (c :: l) = bits8 c 8 ++ bitsOf l := by unfold bitsOf; simp
    rw [this, List.length_append, bits8_len, ih, List.length_cons]; omega
theorem dok0 : DOk 0 (([], 0, 0) : DS) := ⟨by simp, by simp, by simp, by simp, by simp⟩
theorem dok_at {m : List (S36 × Int)} {l : List Int} {c : Int} {k : Nat} {s : DS} (hk : k ≤ 8) (h : drun m ([], 0, 0) (bitsOf l ++ bits8 c k) = some s) : DOk (8 * l.length + k) s := by
  have := DOk.run (bitsOf l ++ bits8 c k) 0 _ s dok0 (fun x hx => (List.mem_append.1 hx).elim (bitsOf_01 l x) (bits8_01 c k x)) h
  rwa [List.length_append, bitsOf_len, bits8_len, Nat.zero_add] at this

/-- what decoding answers: from the words and the bytes -/
def decodeF (ws : List S36) (l : List Int) : List Int × Int :=
  match drun (symMap ws ws.length) ([], 0, 0) (bitsOf l) with
  | none => ([], 12)
  | some s => if 7 < s.2.2 then ([], 12) else if s.2.1 = 2 ^ s.2.2.toNat - 1 then (s.1, 0) else ([], 12)

theorem bits8_split (c : Int) (q : Nat) (hq : q < 8) : ∃ r, bits8 c 8 = bits8 c q ++ [bit c q] ++ r := by
  refine ⟨((List.range 8).drop (q + 1)).map (bit c), ?_⟩
  unfold bits8
  rw [show [bit c q] = [q].map (bit c) from rfl, ← List.map_append, ← List.map_append]
  congr 1
  rcases q with _ | _ | _ | _ | _ | _ | _ | _ | q <;> first | rfl | omega
theorem bitsOf_cut (l : List Int) (i : Nat) (hi : i < l.length) : ∃ r, bitsOf l = bitsOf (l.take i) ++ bits8 (rd l (i : Int)) 8 ++ r := by
  refine ⟨bitsOf (l.drop (i + 1)), ?_⟩
  have h : l = l.take i ++ [rd l (i : Int)] ++ l.drop (i + 1) := by
    have e : rd l (i : Int) = l[i] := by simp [rd, hi]
    rw [e, List.append_assoc, List.singleton_append, List.getElem_cons_drop hi, List.take_append_drop]
  conv => lhs; rw [h]
  unfold bitsOf
  simp
/-- a step that fails: nothing is decoded -/
theorem decode_none (ws : List S36) (l : List Int) (i q : Nat) (s : DS) (hi : i < l.length) (hq : q < 8) (h : drun (symMap ws ws.length) ([], 0, 0) (bitsOf (l.take i) ++ bits8 (rd l (i : Int)) q) = some s) (hs : dstep (symMap ws ws.length) s (bit (rd l (i : Int)) q) = none) : decodeF ws l = ([], 12) := by
  obtain ⟨r1, e1⟩ := bitsOf_cut l i hi
  obtain ⟨r2, e2⟩ := bits8_split (rd l (i : Int)) q hq
  have : drun (symMap ws ws.length) ([], 0, 0) (bitsOf l) = none := by
    rw [e1, e2, show bitsOf (l.take i) ++ (bits8 (rd l (i : Int)) q ++ [bit (rd l (i : Int)) q] ++ r2) ++ r1 = ((bitsOf (l.take i) ++ bits8 (rd l (i : Int)) q) ++ [bit (rd l (i : Int)) q]) ++ (r2 ++ r1) by simp [List.append_assoc], drun_append, drun_snoc, h]
    simp [hs]
  unfold decodeF
  rw [this]
theorem or_bit (B b : Int) (h0 : 0 ≤ B) (h1 : B < 16777216) (hb : b = 0 ∨ b = 1) : bits .or .i64 (wrap64 (B * 2)) (wrap64 b) = 2 * B + b := by
  have e1 : wrap64 (B * 2) = 2 * B := by unfold wrap64; omega
  have e2 : wrap64 b = b := by unfold wrap64; omega
  rw [e1, e2]
  have h2 : ∀ n : Int, 0 ≤ n → n < 2 ^ 32 → IntKind.i64.wrap n = n := fun n h h' => by
    rw [IntKind.wrap_i64]
    have : (2 : Int) ^ 32 = 4294967296 := by decide
    omega
  refine bits_join .i64 32 (by decide) h2 1 (by omega) (x := 2 * B) (y := b) ?_ ?_ ?_ ?_ ?_
  all_goals first | (simp; omega) | omega
theorem and_bit (x : Int) (q : Nat) (h0 : 0 ≤ x) (h1 : x < 256) : bits .and .u8 (x / 2 ^ (7 - q)) 1 = bit x q := by
  have h2 : 0 ≤ x / 2 ^ (7 - q) := Int.ediv_nonneg h0 (Int.pow_nonneg (by decide))
  have h3 : x / 2 ^ (7 - q) ≤ x := Int.ediv_le_self _ h0
  unfold bit
  exact bits_mask .u8 8 (by decide) wraps_u8 1 (by decide) _ h2 (by omega)
end Go.Proofs.Ytgcefofmfeghmaa.Mp
/- huff.Decode -/
namespace Go.Proofs.Ytgcefofmfeghmaa.Mp
open Go.RowKit Go.Proofs.YtgcefofmfeghmaaW.PrintWords Go.Proofs.YtgcefofmfeghmaaW.PrintLast Go.Proofs.YtgcefofmfeghmaaW.PrintMore Go.Proofs.Ytgcefofmfeghmaa.G
set_option linter.unusedVariables false
set_option linter.unusedSimpArgs false

theorem alloc_at (w : World) (o : Obj) (b : Nat) (m : List (S36 × Int)) (h : MapAt w b m) : MapAt (w.alloc o) b m := h.same ((below_alloc (Below.refl w.heap.size w) o).block b h.lt)
theorem cells_of {w : World} {g : Nat} {cs : Array Value} {t : Nat} {m : Nat × Nat} (h : w.heap[g]? = some (.cells cs t m)) (j : Nat) : w.cell? ⟨g, j, none⟩ = cs[j]? := by simp [World.cell?, h]
theorem blt {w : World} {g : Nat} {o : Obj} (h : w.heap[g]? = some o) : g < w.heap.size := (Array.getElem?_eq_some_iff.1 h).1

theorem shift_run (x : Int) (q : Nat) (hq : q < 8) (w : World) : (Op.shift BinOp.shr IntKind.u8 x IntKind.i64 (wrap64 (7 - (q : Int)))).run Try.prog w = .ok (.int .u8 (x / 2 ^ (7 - q))) w := by
  have e : wrap64 (7 - (q : Int)) = ((7 - q : Nat) : Int) := by unfold wrap64; omega
  rw [e]
  unfold Op.shift
  rw [if_neg (by omega)]
  have h2 : min (7 - q) IntKind.u8.bits = 7 - q := by simp [IntKind.bits]; omega
  simp only [Int.toNat_natCast, h2, Sem.run_pure]
  rw [Int.fdiv_eq_ediv_of_nonneg _ (Int.pow_nonneg (by decide))]

theorem below_drewN {B : Nat} {a w : World} (h : Below B a w) (n : Nat) : Below B a (w.drewN n) := pw_below_drewN h n

set_option maxRecDepth 100000 in
set_option maxHeartbeats 8000000 in
theorem decode_yes (k : Nat) (A0 : Option Addr) (c0 : Nat) (l0 : List Int) (A1 : Option Addr) (c1 : Nat) (l1 : List Int) (ws : List S36) (w : World) (hr0 : Kd.C (Kd.int .i64) w A0 l0.length l0) (hc0 : l0.length ≤ c0) (hr1 : Kd.C (Kd.int .u8) w A1 l1.length l1) (hc1 : l1.length ≤ c1)
    (hw : huff_Words.f k l0 = some (ws, 0)) (hd : distB ws = true) (hlen : l1.length ≤ 1000000000000) (hby : ∀ x ∈ l1, 0 ≤ x ∧ x < 256) :
    Calls Try.prog 14 #[.slice A0 l0.length c0, .slice A1 l1.length c1] w fun e w' => ∃ v0_ : Value, e = .returned (.tuple #[v0_, .int .i64 (decodeF ws l1).2]) ∧ Kd.R (Kd.int .u8) 5 w' w.heap.size (fun _ => True) v0_ (decodeF ws l1).1 ∧ Below w.heap.size w w' := by
  have HW := Lib.hid (huff_Words.calls k A0 c0 l0 ws 0 w hr0 hc0 hw)
  have HC1 := Lib.hid hr1
  have HD := Lib.hid hd
  have HBY := Lib.hid hby
  clear hr0 hw hd hr1 hby hc0
  have hmm := @run_makeMap Try.prog
  go_enter Try.func14, Try.ntmps14
  go_wp2_with (first | (go_at_call 16; refine HW.out.mono ?_; rintro e w1 ⟨v1, rfl, hR1, hb1⟩; obtain ⟨A, c, rfl, hl1, hC1⟩ := Kd.R_reads hR1; have HCW := Lib.hid hC1; have HB1 := Lib.hid hb1; clear hR1 hb1 hC1))
  have hz1 := HB1.out.size
  have hwm : ws.length ≤ 9223372036854775807 := Kd.C_max HCW.out
  obtain ⟨W2, hW2⟩ : ∃ W2, W2 = w1.alloc (.map #[] 0) := ⟨_, rfl⟩
  have M2 : Hid (MapAt W2 w1.heap.size []) := Lib.hid ⟨#[], 0, by rw [hW2]; exact heap_alloc_new w1 _, rfl⟩
  have B2 : Hid (Below w1.heap.size w1 W2) := Lib.hid (by rw [hW2]; exact below_alloc (Below.refl _ _) _)
  have hz2 : W2.heap.size = w1.heap.size + 1 := by rw [hW2]; simp
  (try rw [← hW2])
  clear hW2
  go_loopg [9, 10, 29] ws.length (fun k v9 v10 v29 wr => ∃ j : Nat, v29 = .int .i64 (j : Int) ∧ j ≤ ws.length ∧ ws.length ≤ k + j ∧ w1.heap.size < wr.heap.size ∧ Hid (Below w1.heap.size w1 wr) ∧ Hid (MapAt wr w1.heap.size (symMap ws j)))
  case atStart => exact ⟨0, rfl, by omega, by omega, by omega, B2, M2⟩
  case round =>
    obtain ⟨j, rfl, hj, hk, hwz, HBW, HM⟩ := hrel
    by_cases hlt : j < ws.length
    · have t1 : decide ((j : Int) < (ws.length : Int)) = true := decide_eq_true (by omega)
      have p1 : 0 ≤ (j : Int) := by omega
      have p2 : (j : Int) < (ws.length : Int) := by omega
      obtain ⟨ko, rfl⟩ : ∃ ko, gk = ko + 1 := ⟨gk - 1, by omega⟩
      obtain ⟨ad, rfl, hx0, hx1⟩ := at_T36 (Kd.C_below HCW.out HBW.out) (j : Int) (by omega) (by omega)
      rw [Int.toNat_natCast] at hx0 hx1
      have hadl := World.block_lt_of_cell? wr _ hx0
      have HSS := Lib.hid (symMap_succ ws j)
      have HDJ := Lib.hid (distB_at HD.out j hlt)
      obtain ⟨x, hx⟩ : ∃ x, x = rd_T36 ws (j : Int) := ⟨_, rfl⟩
      rw [← hx] at hx0 hx1 HSS HDJ
      clear hx
      have BA : Hid (Below w1.heap.size w1 (wr.alloc (.cells #[.int .i64 x.f0, .int .i64 x.f1] 36))) := Lib.hid (below_alloc HBW.out _)
      have HMA : Hid (MapAt (wr.alloc (.cells #[.int .i64 x.f0, .int .i64 x.f1] 36)) w1.heap.size (symMap ws j)) := Lib.hid (alloc_at _ _ _ _ HM.out)
      by_cases hx0' : 0 < x.f1
      · have t2 : decide (0 < x.f1) = true := decide_eq_true hx0'
        have HP := Lib.hid hx0'
        clear hx0'
        go_wp2_with (first | (at_mapUpdate; refine wp_upd _ rfl (.tmp 37) (.tmp 38) (.tmp 40) rfl w1.heap.size (symMap ws j) rfl HMA.out x _ rfl rfl (HDJ.out HP.out) ?_; intro w3 hM3 hG3; have HM3 := Lib.hid hM3; have HG3 := Lib.hid hG3; clear hM3 hG3))
        have hz3 := HG3.out.size
        go_roundg ko
        case measure => omega
        case rel => exact ⟨j + 1, by go_num, hlt, by omega, by simp at hz3; omega, Lib.hid (BA.out.grown HG3.out (by simp; omega) (fun k hk => by cases hk; exact Nat.le_refl _)), Lib.hid (by rw [HSS.out, if_pos HP.out]; exact HM3.out)⟩
      · have t2 : decide (0 < x.f1) = false := decide_eq_false hx0'
        have HP := Lib.hid hx0'
        clear hx0'
        go_wp2
        go_roundg ko
        case measure => omega
        case rel => exact ⟨j + 1, by go_num, hlt, by omega, by simp; omega, BA, Lib.hid (by rw [HSS.out, if_neg (by have := HP.out; omega)]; exact HMA.out)⟩
    · have t1 : decide ((j : Int) < (ws.length : Int)) = false := decide_eq_false (by omega)
      obtain rfl : ws.length = j := by omega
      obtain ⟨w5, rfl⟩ : ∃ w5 : World, w5 = wr := ⟨_, rfl⟩
      obtain ⟨m, hm⟩ : ∃ m, m = symMap ws ws.length := ⟨_, rfl⟩
      rw [← hm] at HM
      have HMD := Lib.hid hm
      clear hm t1 hlt hk hj
      have HA1 : Hid (∀ W, Below w5.heap.size w5 W → Kd.C (Kd.int .u8) W A1 l1.length l1) := Lib.hid (fun W hW => Kd.C_below HC1.out (below_step HB1.out (below_step HBW.out hW)))
      have HMW : Hid (∀ W, Below w5.heap.size w5 W → MapAt W w1.heap.size m) := Lib.hid (fun W hW => HM.out.same (hW.block _ HM.out.lt))
      have HBF : Hid (∀ W, Below w5.heap.size w5 W → Below w.heap.size w W) := Lib.hid (fun W hW => below_step HB1.out (below_step HBW.out hW))
      have hzw : w.heap.size ≤ w5.heap.size := by have := HBW.out.size; omega
      clear HM HBW M2 B2 HD HCW hz2
      go_wp2
      obtain ⟨W4, hW4⟩ : ∃ W4, W4 = w5.alloc (.cells #[.int .i64 0, .int .i64 0] 36) := ⟨_, rfl⟩
      have S4 : Hid (W4.heap[w5.heap.size]? = some (.cells #[.int .i64 0, .int .i64 0] 36 (0, 0))) := Lib.hid (by rw [hW4]; exact heap_alloc_new w5 _)
      have B4 : Hid (Below w5.heap.size w5 W4) := Lib.hid (by rw [hW4]; exact below_alloc (Below.refl _ _) _)
      (try rw [← hW4])
      clear hW4
      obtain ⟨sb, hsb⟩ : ∃ sb, sb = w5.heap.size := ⟨_, rfl⟩
      rw [← hsb] at S4
      rw [← hsb]
      have HSB := Lib.hid hsb
      have hsb1 : sb ≤ w5.heap.size := by omega
      have hsb2 : w5.heap.size ≤ sb := by omega
      clear hsb
      go_loopg [11, 14, 15, 16, 17, 44] l1.length (fun k v11 v14 v15 v16 v17 v44 W => ∃ (i : Nat) (s : DS), v44 = .int .i64 (i : Int) ∧ i ≤ l1.length ∧ l1.length ≤ k + i ∧ sb < W.heap.size ∧ Hid (Below w5.heap.size w5 W) ∧ Hid (W.heap[sb]? = some (.cells #[.int .i64 s.2.1, .int .i64 s.2.2] 36 (0, 0))) ∧ Hid (Kd.R (Kd.int .u8) 5 W (sb + 1) (fun _ => True) v11 s.1) ∧ Hid (drun m ([], 0, 0) (bitsOf (l1.take i)) = some s))
      case atStart => exact ⟨0, ([], 0, 0), rfl, by omega, by omega, blt S4.out, B4, S4, Lib.hid (Kd.R_nil _ _ _ _ _), Lib.hid rfl⟩
      case round =>
        obtain ⟨i, s, rfl, hi, hk, hwz2, HBW, HS, HV, HDR⟩ := hrel
        by_cases hlt : i < l1.length
        · have t1 : decide ((i : Int) < (l1.length : Int)) = true := decide_eq_true (by omega)
          have p1 : 0 ≤ (i : Int) := by omega
          have p2 : (i : Int) < (l1.length : Int) := by omega
          obtain ⟨ko, rfl⟩ : ∃ ko, gk = ko + 1 := ⟨gk - 1, by omega⟩
          obtain ⟨ad, rfl, hx0⟩ := Kd.at_int (HA1.out _ HBW.out) (i : Int) (by omega) (by omega)
          rw [Int.toNat_natCast] at hx0
          have hadl := World.block_lt_of_cell? wr _ hx0
          obtain ⟨x, hx⟩ : ∃ x, x = rd l1 (i : Int) := ⟨_, rfl⟩
          rw [← hx] at hx0
          have HX : Hid (l1.take (i + 1) = l1.take i ++ [x]) := Lib.hid (by
            rw [List.take_succ_eq_append_getElem hlt, hx]
            simp [rd, hlt])
          have hxb : 0 ≤ x ∧ x < 256 := by
            refine HBY.out x ?_
            rw [hx]
            simp [rd, hlt]
          obtain ⟨hxb1, hxb2⟩ := hxb
          have HXR := Lib.hid hx
          clear hx
          go_wp2
          go_loopg [11, 15, 16, 17, 48] 8 (fun k v11 v15 v16 v17 v48 W => ∃ (q : Nat) (t : DS), v48 = .int .i64 (q : Int) ∧ q ≤ 8 ∧ 8 ≤ k + q ∧ sb < W.heap.size ∧ Hid (Below w5.heap.size w5 W) ∧ Hid (W.heap[sb]? = some (.cells #[.int .i64 t.2.1, .int .i64 t.2.2] 36 (0, 0))) ∧ Hid (Kd.R (Kd.int .u8) 5 W (sb + 1) (fun _ => True) v11 t.1) ∧ Hid (drun m ([], 0, 0) (bitsOf (l1.take i) ++ bits8 x q) = some t))
          case atStart => exact ⟨0, s, rfl, by omega, by omega, hwz2, HBW, HS, HV, Lib.hid (by rw [show bits8 x 0 = [] from rfl, List.append_nil]; exact HDR.out)⟩
          case round =>
            obtain ⟨q, t, rfl, hq, hqk, hwz3, HBW3, HS3, HV3, HDR3⟩ := hrel
            have hok := dok_at hq HDR3.out
            rw [List.length_take, Nat.min_eq_left (by omega)] at hok
            have o1 := hok.lo
            have o2 := hok.small
            have o3 := hok.l0
            have o4 := hok.l1
            have o5 := hok.len
            clear hok
            obtain ⟨out, B, L⟩ := t
            simp only at o1 o2 o3 o4 o5
            by_cases hq8 : q < 8
            · have t2 : decide ((q : Int) < 8) = true := decide_eq_true (by omega)
              obtain ⟨kq, rfl⟩ : ∃ kq, gk = kq + 1 := ⟨gk - 1, by omega⟩
              have s0 := cells_of HS3.out 0
              have s1 := cells_of HS3.out 1
              simp only [List.getElem?_toArray, List.getElem?_cons_succ, List.getElem?_cons_zero] at s0 s1
              have hz3 := blk_frozen HS3.out
              have hsh := shift_run x q hq8
              go_upto_region 19 with fail
              refine start_ (n := 15) (S := fun w' => w'.cell? ⟨sb, 0, none⟩ = some (.int .i64 B) ∧ w'.cell? ⟨sb, 1, none⟩ = some (.int .i64 L)) (ds := [14]) #[false, false, false, false, false, false, false, false, false, false, false, false, false, false, false] (by kernel_rfl) rfl rfl ⟨s0, s1⟩ (fun hHeld => ?_)
              refine pure_ (i := 0) (N := some 51) (v := ?_) (a' := ?_) #[true, false, false, false, false, false, false, false, false, false, false, false, false, false, false] rfl rfl (by kernel_rfl) (fun _ _ _ h => h) (Or.inl ⟨by rfl, ?_⟩) ?_ ?_
              rotate_left
              · intro w'
                go_simp
                with_reducible rfl
              rotate_left
              · simp only [Act.put, List.setIfInBounds_toArray, List.set_cons_zero, List.set_cons_succ, i64_w, i32_w]
                rfl
              refine pure_ (i := 3) (N := some 54) (v := ?_) (a' := ?_) #[true, false, false, true, false, false, false, false, false, false, false, false, false, false, false] rfl rfl (by kernel_rfl) (fun _ _ _ h => h) (Or.inl ⟨by rfl, ?_⟩) ?_ ?_
              rotate_left
              · intro w'
                go_simp
                with_reducible rfl
              rotate_left
              · simp only [Act.put, List.setIfInBounds_toArray, List.set_cons_zero, List.set_cons_succ, i64_w, i32_w]
                rfl
              refine pure_ (i := 4) (N := some 55) (v := ?_) (a' := ?_) #[true, false, false, true, true, false, false, false, false, false, false, false, false, false, false] rfl rfl (by kernel_rfl) (fun _ _ _ h => h) (Or.inl ⟨by rfl, ?_⟩) ?_ ?_
              rotate_left
              · intro w'
                go_simp
                with_reducible rfl
              rotate_left
              · simp only [Act.put, List.setIfInBounds_toArray, List.set_cons_zero, List.set_cons_succ, i64_w, i32_w]
                rfl
              refine pure_ (i := 5) (N := some 56) (v := ?_) (a' := ?_) #[true, false, false, true, true, true, false, false, false, false, false, false, false, false, false] rfl rfl (by kernel_rfl) (fun _ _ _ h => h) (Or.inl ⟨by rfl, ?_⟩) ?_ ?_
              rotate_left
              · intro w'
                go_simp
                with_reducible rfl
              rotate_left
              · simp only [Act.put, List.setIfInBounds_toArray, List.set_cons_zero, List.set_cons_succ, i64_w, i32_w]
                rfl
              refine pure_ (i := 6) (N := some 57) (v := ?_) (a' := ?_) #[true, false, false, true, true, true, true, false, false, false, false, false, false, false, false] rfl rfl (by kernel_rfl) (fun _ _ _ h => h) (Or.inl ⟨by rfl, ?_⟩) ?_ ?_
              rotate_left
              · intro w'
                go_simp
                with_reducible rfl
              rotate_left
              · simp only [Act.put, List.setIfInBounds_toArray, List.set_cons_zero, List.set_cons_succ, i64_w, i32_w]
                rfl
              refine pure_ (i := 7) (N := some 58) (v := ?_) (a' := ?_) #[true, false, false, true, true, true, true, true, false, false, false, false, false, false, false] rfl rfl (by kernel_rfl) (fun _ _ _ h => h) (Or.inl ⟨by rfl, ?_⟩) ?_ ?_
              rotate_left
              · intro w'
                go_simp
                with_reducible rfl
              rotate_left
              · simp only [Act.put, List.setIfInBounds_toArray, List.set_cons_zero, List.set_cons_succ, i64_w, i32_w]
                rfl
              refine pure_ (i := 8) (N := some 59) (v := ?_) (a' := ?_) #[true, false, false, true, true, true, true, true, true, false, false, false, false, false, false] rfl rfl (by kernel_rfl) (fun _ _ _ h => h) (Or.inl ⟨by rfl, ?_⟩) ?_ ?_
              rotate_left
              · intro w'
                go_simp
                with_reducible rfl
              rotate_left
              · simp only [Act.put, List.setIfInBounds_toArray, List.set_cons_zero, List.set_cons_succ, i64_w, i32_w]
                rfl
              refine pure_ (i := 10) (N := some 61) (v := ?_) (a' := ?_) #[true, false, false, true, true, true, true, true, true, false, true, false, false, false, false] rfl rfl (by kernel_rfl) (fun _ _ _ h => h) (Or.inl ⟨by rfl, ?_⟩) ?_ ?_
              rotate_left
              · intro w'
                go_simp
                with_reducible rfl
              rotate_left
              · simp only [Act.put, List.setIfInBounds_toArray, List.set_cons_zero, List.set_cons_succ, i64_w, i32_w]
                rfl
              refine take_ (i := 1) (N := some 52) (v := ?_) (a' := ?_) #[true, true, false, true, true, true, true, true, true, false, true, false, false, false, false] rfl rfl (by kernel_rfl) (fun _ _ _ h => h) (Or.inl ⟨by rfl, ?_⟩) hHeld ?_ ?_
              rotate_left
              · rintro w' ⟨s0, s1⟩
                go_simp
                with_reducible rfl
              rotate_left
              · simp only [Act.put, List.setIfInBounds_toArray, List.set_cons_zero, List.set_cons_succ, i64_w, i32_w]
                rfl
              refine pure_ (i := 2) (N := some 53) (v := ?_) (a' := ?_) #[true, true, true, true, true, true, true, true, true, false, true, false, false, false, false] rfl rfl (by kernel_rfl) (fun _ _ _ h => h) (Or.inl ⟨by rfl, ?_⟩) ?_ ?_
              rotate_left
              · intro w'
                go_simp
                with_reducible rfl
              rotate_left
              · simp only [Act.put, List.setIfInBounds_toArray, List.set_cons_zero, List.set_cons_succ, i64_w, i32_w]
                rfl
              refine pure_ (i := 9) (N := some 60) (v := ?_) (a' := ?_) #[true, true, true, true, true, true, true, true, true, true, true, false, false, false, false] rfl rfl (by kernel_rfl) (fun _ _ _ h => h) (Or.inl ⟨by rfl, ?_⟩) ?_ ?_
              rotate_left
              · intro w'
                go_simp
                with_reducible rfl
              rotate_left
              · simp only [Act.put, List.setIfInBounds_toArray, List.set_cons_zero, List.set_cons_succ, i64_w, i32_w]
                rfl
              refine take_ (i := 11) (N := some 62) (v := ?_) (a' := ?_) #[true, true, true, true, true, true, true, true, true, true, true, true, false, false, false] rfl rfl (by kernel_rfl) (fun _ _ _ h => h) (Or.inl ⟨by rfl, ?_⟩) hHeld ?_ ?_
              rotate_left
              · rintro w' ⟨s0, s1⟩
                go_simp
                with_reducible rfl
              rotate_left
              · simp only [Act.put, List.setIfInBounds_toArray, List.set_cons_zero, List.set_cons_succ, i64_w, i32_w]
                rfl
              refine pure_ (i := 12) (N := some 63) (v := ?_) (a' := ?_) #[true, true, true, true, true, true, true, true, true, true, true, true, true, false, false] rfl rfl (by kernel_rfl) (fun _ _ _ h => h) (Or.inl ⟨by rfl, ?_⟩) ?_ ?_
              rotate_left
              · intro w'
                go_simp
                with_reducible rfl
              rotate_left
              · simp only [Act.put, List.setIfInBounds_toArray, List.set_cons_zero, List.set_cons_succ, i64_w, i32_w]
                rfl
              refine pure_ (i := 13) (N := some 64) (v := ?_) (a' := ?_) #[true, true, true, true, true, true, true, true, true, true, true, true, true, true, false] rfl rfl (by kernel_rfl) (fun _ _ _ h => h) (Or.inl ⟨by rfl, ?_⟩) ?_ ?_
              rotate_left
              · intro w'
                go_simp
                with_reducible rfl
              rotate_left
              · simp only [Act.put, List.setIfInBounds_toArray, List.set_cons_zero, List.set_cons_succ, i64_w, i32_w]
                rfl
              refine last_ (i := 14) (N := none) #[true, true, true, true, true, true, true, true, true, true, true, true, true, true, true] rfl rfl (by kernel_rfl) (by decide) (fun K hK => ?_)
              refine skip_ (w1 := ?_) (by rfl) rfl ?_ ?_
              rotate_left
              · go_simp
                rfl
              refine hK.out _ _ ?_
              clear hK K
              refine done_ (by kernel_rfl) ?_
              rw [and_bit x q hxb1 hxb2, or_bit B (bit x q) o1 o2 (bit_cases x q), show wrap64 (L + 1) = L + 1 by unfold wrap64; omega]
              have hbc := bit_cases x q
              obtain ⟨b, hb⟩ : ∃ b, b = bit x q := ⟨_, rfl⟩
              rw [← hb] at hbc ⊢
              have HBB := Lib.hid hb
              clear hb
              have hbl := blt HS3.out
              obtain ⟨W6, hW6⟩ : ∃ W6, W6 = ((wr.setCell ⟨sb, 0, none⟩ (.int .i64 (2 * B + b))).setCell ⟨sb, 1, none⟩ (.int .i64 (L + 1))).drew := ⟨_, rfl⟩
              rw [← hW6]
              have S6 : Hid (W6.heap[sb]? = some (.cells #[.int .i64 (2 * B + b), .int .i64 (L + 1)] 36 (0, 0))) := Lib.hid (by
                rw [hW6]
                exact blk_put (blk_put HS3.out 0 (.int .i64 (2 * B + b)) rfl) 1 (.int .i64 (L + 1)) rfl)
              have B6 : Hid (Below w5.heap.size w5 W6) := Lib.hid (by
                rw [hW6]
                exact ((HBW3.out.setCell (p := ⟨sb, 0, none⟩) hsb2 _).setCell (p := ⟨sb, 1, none⟩) hsb2 _).drew)
              have R6 : Hid (Kd.R (Kd.int .u8) 5 W6 (sb + 1) (fun _ => True) u11 out) := Lib.hid (by
                rw [hW6]
                have h0 := Kd.R_bound HV3.out
                have h1 := Kd.R_far (p := ⟨sb, 0, none⟩) h0 (fun k hk => by have := hk.2.1; show k ≠ sb; omega) (.int .i64 (2 * B + b))
                have h2 := Kd.R_far (p := ⟨sb, 1, none⟩) h1 (fun k hk => by have := hk.2.1; show k ≠ sb; omega) (.int .i64 (L + 1))
                exact Kd.R_drew (Kd.R_mono h2 (fun _ _ => trivial)))
              have hz6 : wr.heap.size ≤ W6.heap.size := by rw [hW6]; simp [World.setCell]
              have HM6 := Lib.hid (HMW.out W6 B6.out)
              have HST : Hid (dstep m (out, B, L) b = (match look m (2 * B + b) (L + 1) with | some y => some (out ++ [y], 0, 0) | none => if 24 < L + 1 then none else some (out, 2 * B + b, L + 1))) := Lib.hid rfl
              have HDR4 : Hid (drun m ([], 0, 0) (bitsOf (l1.take i) ++ bits8 x (q + 1)) = dstep m (out, B, L) b) := Lib.hid (by
                rw [bits8_succ, ← List.append_assoc, drun_snoc, HDR3.out, ← HBB.out]
                rfl)
              have c6 := cells_of S6.out 0
              have c7 := cells_of S6.out 1
              simp only [List.getElem?_toArray, List.getElem?_cons_succ, List.getElem?_cons_zero] at c6 c7
              have f6 := blk_frozen S6.out
              have hbl6 : sb < W6.heap.size := by omega
              clear hW6 s0 s1 hz3 hsh HV3 HS3 HBW3
              cases hlk : look m (2 * B + b) (L + 1) with
              | some y =>
                have HLK := Lib.hid hlk
                clear hlk
                rw [HLK.out] at HST
                go_wp2_with (first | (at_lookup; refine wp_look _ rfl (.tmp 66) (.tmp 67) rfl w1.heap.size m rfl HM6.out (2 * B + b) (L + 1) rfl ?_; rw [HLK.out]; simp only [Option.getD_some, Option.isSome_some]) | (at_builtin; refine Kd.R_append (Kd.int .u8) (w0 := W6) (sb + 1) rfl (.tmp 72) (.tmp 74) 23 5 (.int .u8 0) 1 rfl Try.underlying23 info5 rfl (by decide) (by decide) u11 out y [.int .u8 y] (fun _ => True) (fun _ => False) rfl rfl ?aP (fun _ hk => hk.elim) ?aF ?aO ?aB ?aS ?aL ?_))
                case aP => exact rfl
                case aO => exact R6.out
                case aB => exact Below.refl _ _
                case aS => omega
                case aL => omega
                intro v7 W7 hR7 hB7 hg7 hat7
                have HR7 := Lib.hid hR7
                have HB7 := Lib.hid hB7
                have hz7 := hg7.size
                have S7 := Lib.hid ((hB7.block sb (by omega)).trans S6.out)
                have c8 := cells_of S7.out 0
                have c9 := cells_of S7.out 1
                simp only [List.getElem?_toArray, List.getElem?_cons_succ, List.getElem?_cons_zero] at c8 c9
                have f7 := blk_frozen S7.out
                have hbl7 := blt S7.out
                clear hR7 hB7 hg7 hat7
                go_wp2
                go_roundg kq
                case measure => omega
                case rel => exact ⟨q + 1, (out ++ [y], 0, 0), by go_num, hq8, by omega, by simp [World.setCell]; omega, Lib.hid (((B6.out.trans (HB7.out.mono (by omega))).setCell (p := ⟨sb, 0, none⟩) hsb2 _).setCell (p := ⟨sb, 1, none⟩) hsb2 _), Lib.hid (blk_put (blk_put S7.out 0 (.int .i64 0) rfl) 1 (.int .i64 0) rfl), Lib.hid (by
                    have h0 := Kd.R_bound HR7.out
                    have h1 := Kd.R_far (p := ⟨sb, 0, none⟩) h0 (fun k hk => by have := hk.2.1; show k ≠ sb; omega) (.int .i64 0)
                    have h2 := Kd.R_far (p := ⟨sb, 1, none⟩) h1 (fun k hk => by have := hk.2.1; show k ≠ sb; omega) (.int .i64 0)
                    exact Kd.R_mono h2 (fun _ _ => trivial)), Lib.hid (by rw [HDR4.out, HST.out])⟩
              | none =>
                have HLK := Lib.hid hlk
                clear hlk
                rw [HLK.out] at HST
                by_cases h24 : 24 < L + 1
                · have t3 : decide (24 < L + 1) = true := decide_eq_true h24
                  have DN : Hid (decodeF ws l1 = ([], 12)) := Lib.hid (decode_none ws l1 i q (out, B, L) hlt hq8 (by rw [← HMD.out, ← HXR.out]; exact HDR3.out) (by rw [← HMD.out, ← HXR.out, ← HBB.out, HST.out]; exact if_pos h24))
                  go_wp2_with (first | (at_lookup; refine wp_look _ rfl (.tmp 66) (.tmp 67) rfl w1.heap.size m rfl HM6.out (2 * B + b) (L + 1) rfl ?_; rw [HLK.out]; simp only [Option.getD_none, Option.isSome_none]))
                  go_ret2
                  rw [DN.out]
                  exact ⟨_, rfl, Kd.R_nil _ _ _ _ _, HBF.out _ B6.out⟩
                · have t3 : decide (24 < L + 1) = false := decide_eq_false h24
                  have H24 := Lib.hid h24
                  go_wp2_with (first | (at_lookup; refine wp_look _ rfl (.tmp 66) (.tmp 67) rfl w1.heap.size m rfl HM6.out (2 * B + b) (L + 1) rfl ?_; rw [HLK.out]; simp only [Option.getD_none, Option.isSome_none]))
                  go_roundg kq
                  case measure => omega
                  case rel => exact ⟨q + 1, (out, 2 * B + b, L + 1), by go_num, hq8, by omega, by omega, B6, S6, R6, Lib.hid (by rw [HDR4.out, HST.out]; exact if_neg (by have := H24.out; omega))⟩
            · have t2 : decide ((q : Int) < 8) = false := decide_eq_false (by omega)
              obtain rfl : q = 8 := by omega
              go_wp2
              go_roundg ko
              case measure => omega
              case rel => exact ⟨i + 1, (out, B, L), by go_num, hlt, by omega, hwz3, HBW3, HS3, HV3, Lib.hid (by rw [HX.out, bitsOf_snoc]; exact HDR3.out)⟩
        · have t1 : decide ((i : Int) < (l1.length : Int)) = false := decide_eq_false (by omega)
          obtain rfl : i = l1.length := by omega
          have hdr := HDR.out
          rw [List.take_length] at hdr
          obtain ⟨out, B, L⟩ := s
          have hok := dok_at (l := l1) (c := 0) (k := 0) (by omega) (by rw [show bits8 0 0 = [] from rfl, List.append_nil]; exact hdr)
          have o1 := hok.lo
          have o2 := hok.small
          have o3 := hok.l0
          have o4 := hok.l1
          simp only at o1 o2 o3 o4
          have HF : Hid (decodeF ws l1 = if 7 < L then ([], 12) else if B = 2 ^ L.toNat - 1 then (out, 0) else ([], 12)) := Lib.hid (by
            unfold decodeF
            rw [← HMD.out, hdr])
          have s0 := cells_of HS.out 0
          have s1 := cells_of HS.out 1
          simp only [List.getElem?_toArray, List.getElem?_cons_succ, List.getElem?_cons_zero] at s0 s1
          clear hok hdr HDR
          by_cases h7 : 7 < L
          · have t3 : decide (7 < L) = true := decide_eq_true h7
            have HF2 : Hid (decodeF ws l1 = ([], 12)) := Lib.hid (by rw [HF.out, if_pos h7])
            clear h7
            go_wp2
            go_quiet (fail)
            go_wp2
            go_ret2
            rw [HF2.out]
            exact ⟨_, rfl, Kd.R_nil _ _ _ _ _, HBF.out _ (below_drewN HBW.out _)⟩
          · have t3 : decide (7 < L) = false := decide_eq_false h7
            obtain ⟨P, hP⟩ : ∃ P : Int, P = 2 ^ L.toNat := ⟨_, rfl⟩
            have hP1 : 1 ≤ P ∧ P ≤ 128 := by
              rw [hP]
              have : L.toNat = 0 ∨ L.toNat = 1 ∨ L.toNat = 2 ∨ L.toNat = 3 ∨ L.toNat = 4 ∨ L.toNat = 5 ∨ L.toNat = 6 ∨ L.toNat = 7 := by omega
              rcases this with h | h | h | h | h | h | h | h <;> rw [h] <;> decide
            obtain ⟨hP2, hP3⟩ := hP1
            have HF2 : Hid (decodeF ws l1 = if B = P - 1 then (out, 0) else ([], 12)) := Lib.hid (by rw [HF.out, if_neg h7, hP])
            have HE := Lib.hid (show wrap64 (wrap64 (2 ^ L.toNat) - 1) = P - 1 by rw [← hP]; unfold wrap64; omega)
            clear h7 hP HF
            by_cases hB : B = P - 1
            · have t4 : (B != wrap64 (wrap64 (2 ^ L.toNat) - 1)) = false := by rw [HE.out, bne_eq_false_iff_eq]; exact hB
              have HF3 : Hid (decodeF ws l1 = (out, 0)) := Lib.hid (by rw [HF2.out, if_pos hB])
              clear hB
              go_wp2
              go_quiet (fail)
              go_wp2
              go_ret2
              rw [HF3.out]
              exact ⟨_, rfl, Kd.R_lower (Kd.R_drewN HV.out _) (by omega), HBF.out _ (below_drewN HBW.out _)⟩
            · have t4 : (B != wrap64 (wrap64 (2 ^ L.toNat) - 1)) = true := by rw [HE.out, bne_iff_ne]; exact hB
              have HF3 : Hid (decodeF ws l1 = ([], 12)) := Lib.hid (by rw [HF2.out, if_neg hB])
              clear hB
              go_wp2
              go_quiet (fail)
              go_wp2
              go_ret2
              rw [HF3.out]
              exact ⟨_, rfl, Kd.R_nil _ _ _ _ _, HBF.out _ (below_drewN HBW.out _)⟩
end Go.Proofs.Ytgcefofmfeghmaa.Mp
/- huff.Decode's contract, for its callers. -/
namespace Go.Proofs.Ytgcefofmfeghmaa.Mp
open Go.RowKit Go.Proofs.YtgcefofmfeghmaaW.PrintWords Go.Proofs.YtgcefofmfeghmaaW.PrintLast Go.Proofs.YtgcefofmfeghmaaW.PrintMore Go.Proofs.Ytgcefofmfeghmaa.G
set_option linter.unusedVariables false
set_option maxRecDepth 100000 in
theorem decode_no (k : Nat) (A0 : Option Addr) (c0 : Nat) (l0 : List Int) (A1 : Option Addr) (c1 : Nat) (n1 : Nat) (ws : List S36) (e : Int) (w : World) (hr0 : Kd.C (Kd.int .i64) w A0 l0.length l0) (hc0 : l0.length ≤ c0)
    (hw : huff_Words.f k l0 = some (ws, e)) (he : e ≠ 0) :
    Calls Try.prog 14 #[.slice A0 l0.length c0, .slice A1 n1 c1] w fun e_ w' => e_ = .returned (.tuple #[.slice none 0 0, .int .i64 e]) ∧ Below w.heap.size w w' := by
  have HW := Lib.hid (huff_Words.calls k A0 c0 l0 ws e w hr0 hc0 hw)
  have t1 : (e != 0) = true := by rw [bne_iff_ne]; exact he
  clear hr0 hw hc0 he
  go_enter Try.func14, Try.ntmps14
  go_wp2_with (first | (go_at_call 16; refine HW.out.mono ?_; rintro e w1 ⟨v1, rfl, hR1, hb1⟩; obtain ⟨A, c, rfl, hl1, hC1⟩ := Kd.R_reads hR1; have HB1 := Lib.hid hb1; clear hR1 hb1 hC1))
  go_ret2
  exact ⟨rfl, HB1.out⟩
end Go.Proofs.Ytgcefofmfeghmaa.Mp
namespace Go.Proofs.Ytgcefofmfeghmaa.Pl
open Go.RowKit Go.Proofs.YtgcefofmfeghmaaW.PrintWords Go.Proofs.YtgcefofmfeghmaaW.PrintLast Go.Proofs.YtgcefofmfeghmaaW.PrintMore Go.Proofs.Ytgcefofmfeghmaa.G
def byteL (l : List Int) : Bool := l.all (fun x => decide (0 ≤ x ∧ x < 256))
def decode.f (k : Nat) (l0 : List Int) (l1 : List Int) : Option (List Int × Int) :=
  (huff_Words.f k l0).bind fun r => if r.2 = 0 then (if Mp.distB r.1 = true ∧ byteL l1 = true ∧ l1.length ≤ 1000000000000 then some (Mp.decodeF r.1 l1) else none) else some ([], r.2)
theorem decode.mono : ∀ a0 a1 k, LeO (decode.f k a0 a1) (decode.f (k + 1) a0 a1) := by
  intro a0 a1 k r h
  unfold decode.f at *
  obtain ⟨x, h1, h2⟩ := Option.bind_eq_some_iff.1 h
  rw [huff_Words.mono a0 k x h1]
  exact h2
theorem decode.calls (k : Nat) (A0 : Option Addr) (c0 : Nat) (l0 : List Int) (A1 : Option Addr) (c1 : Nat) (l1 : List Int) (r1 : List Int) (r2 : Int) (w : World) (hr0 : Kd.C (Kd.int .i64) w A0 l0.length l0) (hc0 : l0.length ≤ c0) (hr1 : Kd.C (Kd.int .u8) w A1 l1.length l1) (hc1 : l1.length ≤ c1) (h : decode.f k l0 l1 = some (r1, r2)) :
    Calls Try.prog 14 #[.slice A0 l0.length c0, .slice A1 l1.length c1] w fun e w' => ∃ v0_ : Value, e = .returned (.tuple #[v0_, .int .i64 r2]) ∧ Kd.R (Kd.int .u8) 5 w' w.heap.size (fun _ => True) v0_ r1 ∧ Below w.heap.size w w' := by
  unfold decode.f at h
  obtain ⟨⟨ws, e⟩, h1, h2⟩ := Option.bind_eq_some_iff.1 h
  simp only at h2
  by_cases he : e = 0
  · rw [if_pos he] at h2
    split at h2
    · rename_i hq
      have hd := Option.some.inj h2
      subst he
      have := Mp.decode_yes k A0 c0 l0 A1 c1 l1 ws w hr0 hc0 hr1 hc1 h1 hq.1 hq.2.2 (fun x hx => by simpa using List.all_eq_true.1 hq.2.1 x hx)
      rw [hd] at this
      exact this
    · cases h2
  · rw [if_neg he] at h2
    obtain ⟨rfl, rfl⟩ : [] = r1 ∧ e = r2 := by simpa using h2
    refine (Mp.decode_no k A0 c0 l0 A1 c1 l1.length ws e w hr0 hc0 h1 he).mono ?_
    rintro _ w' ⟨rfl, hb⟩
    exact ⟨_, rfl, Kd.R_nil _ _ _ _ _, hb⟩
end Go.Proofs.Ytgcefofmfeghmaa.Pl
