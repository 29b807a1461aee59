import Derived.Test.YtkbbjjegpjdpeaaDoorZSx

/- (not yet a claim) what StoreGets needs besides: the row of what was put lies apart from the store -/
namespace Go.Proofs.YtkbbjjegpjdpeaaDoor.S
open Go.RowKit Go.Proofs.YtkbbjjegpjdpeaaDoorW.PrintWords Go.Proofs.YtkbbjjegpjdpeaaDoorW.PrintLast Go.Proofs.YtkbbjjegpjdpeaaDoorW.PrintMore Go.Proofs.YtkbbjjegpjdpeaaDoor.G Go.Proofs.YtkbbjjegpjdpeaaDoor.V
set_option linter.unusedVariables false
set_option linter.unusedSimpArgs false
theorem oneB_refl (a : S35) : oneB a a = true := by simp [oneB, reqB, respB, fsB]
theorem Ex.and {w : World} {P Q : Nat → Prop} {x : S41} {r : Rf} (h : Ex w P x r) (k : Ex w Q x r) : Ex w (fun i => P i ∧ Q i) x r :=
  ⟨h.l4, h.g4, fun n ad e => ⟨h.b4 n ad e, k.b4 n ad e⟩, h.l5, h.g5, fun n ad e => ⟨h.b5 n ad e, k.b5 n ad e⟩, h.l7, h.g7, fun n ad e => ⟨h.b7 n ad e, k.b7 n ad e⟩, h.l8, h.g8, fun n ad e => ⟨h.b8 n ad e, k.b8 n ad e⟩⟩
def New (w w' : World) (xs l' : List Nd) : Prop := ∀ d ∈ l', d ∈ xs ∨ Ex w' (fun k => w.heap.size ≤ k) d.x d.r
/-- the row of what was put, and the store's exchanges, do not meet -/
structure PutAt (W : World) (B : Nat) (xs : List Nd) (A : Option Addr) (c : Nat) (put : List (S41 × Rf)) : Prop where
  row : L5 W B (fun k => k < B) A c put
  far : ∀ ad, A = some ad → ∀ d ∈ xs, Ex W (fun k => k ≠ ad.block) d.x d.r
theorem PutAt.grow {W W' : World} {B : Nat} {xs : List Nd} {A : Option Addr} {c : Nat} {put : List (S41 × Rf)} (h : PutAt W B xs A c put) (hb : Below W.heap.size W W') : PutAt W' B xs A c put :=
  ⟨h.row.grow hb, fun ad e d hd => (h.far ad e d hd).below hb⟩
theorem PutAt.sub {W : World} {B : Nat} {xs l' : List Nd} {A : Option Addr} {c : Nat} {put : List (S41 × Rf)} (h : PutAt W B xs A c put) (hm : ∀ d ∈ l', d ∈ xs) : PutAt W B l' A c put :=
  ⟨h.row, fun ad e d hd => h.far ad e d (hm d hd)⟩
theorem inv_put2 {w : World} {B g : Nat} {cap : Int} {xs : List Nd} {x : S41} {r : Rf} (h : Inv w B g cap xs) (hB : B ≤ w.heap.size) (hx : Ex w (fun k => ¬ Mine g xs k) x r) (hs : Sm x) :
    Calls Tryd.prog 21 #[.pointer (some (at0 g)), .agg (Vx x r)] w fun e w' => Only (Mine g xs) w w' ∧ ∃ l' c, e = .returned (.int .i64 c) ∧ Inv w' B g cap l' ∧ Put cap x xs l' ∧ New w w' xs l' := by
  refine (put_made w g cap xs _ x r h.st (fun d hd => ⟨h.ex d hd, (h.sm d hd).1⟩) (fun k hk => hk) (fun d hd => by have := h.z64 d hd; omega) h.room (by have := h.len; omega) h.cap0 h.cap1 hx hs).mono ?_
  rintro e w' ⟨ho, h1 | h1 | h1⟩
  · obtain ⟨h1, rfl, h3⟩ := h1
    exact ⟨ho, xs, 1, rfl, h.same h3 ho, .inl ⟨h1, rfl⟩, fun d hd => .inl hd⟩
  · obtain ⟨h1, h2, rfl, h3⟩ := h1
    exact ⟨ho, _, 6, rfl, h.sub h3 ho (fun d hd => (List.mem_filter.1 hd).1) (zs_filter_le _ _ (fun d hd => by have := h.z64 d hd; omega)), .inr (.inl ⟨h1, h2, rfl⟩), fun d hd => .inl (List.mem_filter.1 hd).1⟩
  · obtain ⟨h1, h2, rfl, kept, gone, d, hk, hd, hz, hb, hE, hr, ht, h3⟩ := h1
    refine ⟨ho, _, 0, rfl, h.more h3 ho (ys_mem hk) (by rw [hd]; exact hr) (by rw [hd]; exact hz) (by rw [hd]; exact hs) hB hb hE, .inr (.inr ⟨h1, h2, kept, gone, d, hk, hd, hr, ht, rfl⟩), fun e he => ?_⟩
    rcases List.mem_cons.1 he with rfl | he
    · exact .inr (hE.mono (fun k hk => hk.1))
    · exact .inl (ys_mem hk e he)
def anyB (x : S41) (ps : List (S41 × Rf)) : Bool := ps.any (fun p => oneB (to35 x) (to35 p.1))
def From (xs : List Nd) (ps : List (S41 × Rf)) : Prop := ∀ d ∈ xs, ∃ p ∈ ps, p.1 = d.x
theorem any_of {xs : List Nd} {ps : List (S41 × Rf)} (h : From xs ps) (d : Nd) (hd : d ∈ xs) : anyB d.x ps = true := by
  obtain ⟨p, hp, e⟩ := h d hd
  exact List.any_eq_true.2 ⟨p, hp, by rw [e]; exact oneB_refl _⟩
theorem From.sub {xs l' : List Nd} {ps : List (S41 × Rf)} (h : From xs ps) (hm : ∀ d ∈ l', d ∈ xs) : From l' ps := fun d hd => h d (hm d hd)
end Go.Proofs.YtkbbjjegpjdpeaaDoor.S

