import Derived.Test.YtkbbjjegpjdpeaaDoorZSw
import Derived.Test.YtkbbjjegpjdpeaaDoorZPw


/- (not yet a claim) the document's Right and Matches are the program's -/
namespace Go.Proofs.YtkbbjjegpjdpeaaDoor.S
open Go.RowKit Go.Proofs.YtkbbjjegpjdpeaaDoorW.PrintWords Go.Proofs.YtkbbjjegpjdpeaaDoorW.PrintLast Go.Proofs.YtkbbjjegpjdpeaaDoorW.PrintMore Go.Proofs.YtkbbjjegpjdpeaaDoor.G Go.Proofs.YtkbbjjegpjdpeaaDoor.V
set_option linter.unusedVariables false
set_option linter.unusedSimpArgs false
theorem rright_f (x : S41) : turnbuckleref19_Right.f x.f0.f0 x.f0.f1 x.f0.f2 x.f0.f3 x.f0.f4 x.f0.f5 x.f1.f0 x.f1.f1 x.f1.f2 x.f2 x.f3 = some (rightB x) := by
  unfold turnbuckleref19_Right.f turnbuckleref19_Time.f rightB
  by_cases h0 : x.f2 ≥ 0 <;> by_cases h1 : x.f2 ≤ 1099511627776 <;> by_cases h2 : x.f3 ≥ 0 <;> by_cases h3 : x.f3 ≤ 1099511627776 <;> simp [h0, h1, h2, h3] <;> omega
theorem rright_calls (w : World) (P : Nat → Prop) (x : S41) (r : Rf) (h : Ex w P x r) : Calls Tryd.prog 18 #[.agg (Vx x r)] w fun e w' => e = .returned (.bool (rightB x)) ∧ Below w.heap.size w w' :=
  turnbuckleref19_Right.calls _ _ _ _ r.A4 r.c4 _ r.A5 r.c5 _ _ r.A7 r.c7 _ r.A8 r.c8 _ _ _ _ w h.g4 h.l4 h.g5 h.l5 h.g7 h.l7 h.g8 h.l8 (rright_f x)
theorem rm_l0 (x : S41) (q : S31) (ns : List ByteArray) (hl : ns.length < 1099511627776) (hx : x.f0.f4.length < 1099511627776) (hq : q.f4.length < 1099511627776) : ∀ (rest : List ByteArray) (i k : Nat), ns.drop i = rest → rest.length + x.f0.f4.length + q.f4.length + 2 ≤ k →
    turnbuckleref19_Matches.l0 k ns (i : Int) x.f0.f0 x.f0.f1 x.f0.f2 x.f0.f3 x.f0.f4 x.f0.f5 x.f1.f0 x.f1.f1 x.f1.f2 x.f2 x.f3 q.f0 q.f1 q.f2 q.f3 q.f4 q.f5 = some (!rest.any (differ x q))
  | [], i, k, h, hk => by
    obtain ⟨k, rfl⟩ : ∃ k', k = k' + 1 := ⟨k - 1, by omega⟩
    have := drop_nil_len h
    rw [turnbuckleref19_Matches.l0, if_neg (by omega)]
    rfl
  | n :: rest, i, k, h, hk => by
    obtain ⟨k, rfl⟩ : ∃ k', k = k' + 1 := ⟨k - 1, by omega⟩
    obtain ⟨h1, h2, h3⟩ := rdOf_at h
    simp only [List.length_cons] at hk
    have ha : (allL x.f0.f4 n).length ≤ x.f0.f4.length := by unfold allL; rw [List.length_map]; exact List.length_filter_le _ _
    rw [turnbuckleref19_Matches.l0, if_pos (by omega), if_pos (by omega), h1, w64 i (by omega), rall_f _ _ k (by omega) (by omega), Option.bind_some, rall_f _ _ k (by omega) (by omega), Option.bind_some, texts_f _ _ k (by omega) (by omega), Option.bind_some]
    have ih := rm_l0 x q ns hl hx hq rest (i + 1) k h2 (by omega)
    have hd : differ x q n = !eqL (allL x.f0.f4 n) (allL q.f4 n) := rfl
    rw [List.any_cons, hd]
    cases eqL (allL x.f0.f4 n) (allL q.f4 n) with
    | true => rw [if_pos rfl, ih]; rfl
    | false => rw [if_neg Bool.false_ne_true]; rfl
theorem rmatch_f (x : S41) (q : S31) (hx : x.f0.f4.length < 1099511627776) (hq : q.f4.length < 1099511627776) (hv : wt x.f1.f1 < 268435456) : ∃ k, turnbuckleref19_Matches.f k x.f0.f0 x.f0.f1 x.f0.f2 x.f0.f3 x.f0.f4 x.f0.f5 x.f1.f0 x.f1.f1 x.f1.f2 x.f2 x.f3 q.f0 q.f1 q.f2 q.f3 q.f4 q.f5 = some (matchB x q) := by
  refine ⟨x.f0.f4.length + q.f4.length + 10 * wt x.f1.f1 + 40, ?_⟩
  have hvl := vary_len x.f1.f1
  generalize hk : x.f0.f4.length + q.f4.length + 10 * wt x.f1.f1 + 40 = K
  obtain ⟨k, rfl⟩ : ∃ k, K = k + 1 := ⟨K - 1, by omega⟩
  have hj : turnbuckleref19_Matches.j0 (k + 1) (vary x.f1.f1).1 false x.f0.f0 x.f0.f1 x.f0.f2 x.f0.f3 x.f0.f4 x.f0.f5 x.f1.f0 x.f1.f1 x.f1.f2 x.f2 x.f3 q.f0 q.f1 q.f2 q.f3 q.f4 q.f5 = some (!(vary x.f1.f1).1.any (differ x q)) := by
    rw [turnbuckleref19_Matches.j0, if_neg Bool.false_ne_true]
    exact rm_l0 x q _ (by omega) hx hq _ 0 k rfl (by omega)
  have ht : turnbuckleref19_Matches.j0 (k + 1) (vary x.f1.f1).1 true x.f0.f0 x.f0.f1 x.f0.f2 x.f0.f3 x.f0.f4 x.f0.f5 x.f1.f0 x.f1.f1 x.f1.f2 x.f2 x.f3 q.f0 q.f1 q.f2 q.f3 q.f4 q.f5 = some false := by
    rw [turnbuckleref19_Matches.j0, if_pos rfl]
  unfold turnbuckleref19_Matches.f matchB
  rw [rvary_f x.f1.f1 (k + 1) hv (by omega), Option.bind_some, rright_f, Option.bind_some, ht]
  simp only [toL]
  cases rightB x with
  | false => simp
  | true =>
    rw [if_pos rfl]
    cases (vary x.f1.f1).2 with
    | true => simp
    | false =>
      rw [if_neg Bool.false_ne_true]
      by_cases h1 : D x.f0.f1 = D q.f1
      · rw [if_pos h1]
        by_cases h2 : D x.f0.f2 = D q.f2
        · rw [if_pos h2]
          by_cases h3 : D x.f0.f3 = D q.f3
          · rw [show (D x.f0.f3 != D q.f3) = false by simp [h3], hj]
            simp [h1, h2, h3]
          · rw [show (D x.f0.f3 != D q.f3) = true by simp [h3], ht]
            simp [h3]
        · rw [if_neg h2]; simp [h2]
      · rw [if_neg h1]; simp [h1]
theorem rmatches_calls (w : World) (P : Nat → Prop) (x : S41) (r : Rf) (q : S31) (A4 : Option Addr) (c4 : Nat) (A5 : Option Addr) (c5 : Nat) (h : Ex w P x r) (hC : Kd.C k63 w A4 q.f4.length q.f4) (hc : q.f4.length ≤ c4) (hC5 : Kd.C (Kd.int .u8) w A5 q.f5.length q.f5) (hc5 : q.f5.length ≤ c5)
    (hs : Sm x) (hq : q.f4.length < 1099511627776) :
    Calls Tryd.prog 17 #[.agg (Vx x r), .agg (Vq q A4 c4 A5 c5)] w fun e w' => e = .returned (.bool (matchB x q)) ∧ Below w.heap.size w w' := by
  obtain ⟨k, hk⟩ := rmatch_f x q (sm_len4 hs) hq hs.a7
  exact turnbuckleref19_Matches.calls k _ _ _ _ r.A4 r.c4 _ r.A5 r.c5 _ _ r.A7 r.c7 _ r.A8 r.c8 _ _ _ _ _ _ _ A4 c4 _ A5 c5 _ _ w h.g4 h.l4 h.g5 h.l5 h.g7 h.l7 h.g8 h.l8 hC hc hC5 hc5 hk
/-- One: the same bytes -/
theorem one_calls (w : World) (P P2 : Nat → Prop) (x y : S41) (r s : Rf) (h : Ex w P x r) (h2 : Ex w P2 y s) (hs : Sm x) : Calls Tryd.prog 16 #[.agg (Vx x r), .agg (Vx y s)] w fun e w' => e = .returned (.bool (oneB (to35 x) (to35 y))) ∧ Below w.heap.size w w' := by
  obtain ⟨K, hK⟩ := one_f (to35 x) (to35 y) (sm_len4 hs) (by have := wt_len x.f1.f1; have := hs.a7; show x.f1.f1.length < _; omega)
  exact turnbuckleref20_One.calls K _ _ _ _ r.A4 r.c4 _ r.A5 r.c5 _ _ r.A7 r.c7 _ r.A8 r.c8 _ _ _ _ _ _ _ s.A4 s.c4 _ s.A5 s.c5 _ _ s.A7 s.c7 _ s.A8 s.c8 _ _ _ _ w h.g4 h.l4 h.g5 h.l5 h.g7 h.l7 h.g8 h.l8 h2.g4 h2.l4 h2.g5 h2.l5 h2.g7 h2.l7 h2.g8 h2.l8 (hK K (Nat.le_refl _))
end Go.Proofs.YtkbbjjegpjdpeaaDoor.S

