import Derived.Test.YtgcefofmfeghmaaDec3
/- huff.Decode's contract, for its callers. -/
namespace Go.Proofs.Ytgcefofmfeghmaa.Mp
open Go.RowKit Go.Proofs.YtgcefofmfeghmaaW.PrintWords Go.Proofs.YtgcefofmfeghmaaW.PrintLast Go.Proofs.YtgcefofmfeghmaaW.PrintMore Go.Proofs.Ytgcefofmfeghmaa.G
set_option linter.unusedVariables false
set_option maxRecDepth 100000 in
theorem decode_no (k : Nat) (A0 : Option Addr) (c0 : Nat) (l0 : List Int) (A1 : Option Addr) (c1 : Nat) (n1 : Nat) (ws : List S36) (e : Int) (w : World) (hr0 : Kd.C (Kd.int .i64) w A0 l0.length l0) (hc0 : l0.length ≤ c0)
    (hw : huff_Words.f k l0 = some (ws, e)) (he : e ≠ 0) :
    Calls Try.prog 14 #[.slice A0 l0.length c0, .slice A1 n1 c1] w fun e_ w' => e_ = .returned (.tuple #[.slice none 0 0, .int .i64 e]) ∧ Below w.heap.size w w' := by
  have HW := Lib.hid (huff_Words.calls k A0 c0 l0 ws e w hr0 hc0 hw)
  have t1 : (e != 0) = true := by rw [bne_iff_ne]; exact he
  clear hr0 hw hc0 he
  go_enter Try.func14, Try.ntmps14
  go_wp2_with (first | (go_at_call 16; refine HW.out.mono ?_; rintro e w1 ⟨v1, rfl, hR1, hb1⟩; obtain ⟨A, c, rfl, hl1, hC1⟩ := Kd.R_reads hR1; have HB1 := Lib.hid hb1; clear hR1 hb1 hC1))
  go_ret2
  exact ⟨rfl, HB1.out⟩
end Go.Proofs.Ytgcefofmfeghmaa.Mp
namespace Go.Proofs.Ytgcefofmfeghmaa.Pl
open Go.RowKit Go.Proofs.YtgcefofmfeghmaaW.PrintWords Go.Proofs.YtgcefofmfeghmaaW.PrintLast Go.Proofs.YtgcefofmfeghmaaW.PrintMore Go.Proofs.Ytgcefofmfeghmaa.G
def byteL (l : List Int) : Bool := l.all (fun x => decide (0 ≤ x ∧ x < 256))
def decode.f (k : Nat) (l0 : List Int) (l1 : List Int) : Option (List Int × Int) :=
  (huff_Words.f k l0).bind fun r => if r.2 = 0 then (if Mp.distB r.1 = true ∧ byteL l1 = true ∧ l1.length ≤ 1000000000000 then some (Mp.decodeF r.1 l1) else none) else some ([], r.2)
theorem decode.mono : ∀ a0 a1 k, LeO (decode.f k a0 a1) (decode.f (k + 1) a0 a1) := by
  intro a0 a1 k r h
  unfold decode.f at *
  obtain ⟨x, h1, h2⟩ := Option.bind_eq_some_iff.1 h
  rw [huff_Words.mono a0 k x h1]
  exact h2
theorem decode.calls (k : Nat) (A0 : Option Addr) (c0 : Nat) (l0 : List Int) (A1 : Option Addr) (c1 : Nat) (l1 : List Int) (r1 : List Int) (r2 : Int) (w : World) (hr0 : Kd.C (Kd.int .i64) w A0 l0.length l0) (hc0 : l0.length ≤ c0) (hr1 : Kd.C (Kd.int .u8) w A1 l1.length l1) (hc1 : l1.length ≤ c1) (h : decode.f k l0 l1 = some (r1, r2)) :
    Calls Try.prog 14 #[.slice A0 l0.length c0, .slice A1 l1.length c1] w fun e w' => ∃ v0_ : Value, e = .returned (.tuple #[v0_, .int .i64 r2]) ∧ Kd.R (Kd.int .u8) 5 w' w.heap.size (fun _ => True) v0_ r1 ∧ Below w.heap.size w w' := by
  unfold decode.f at h
  obtain ⟨⟨ws, e⟩, h1, h2⟩ := Option.bind_eq_some_iff.1 h
  simp only at h2
  by_cases he : e = 0
  · rw [if_pos he] at h2
    split at h2
    · rename_i hq
      have hd := Option.some.inj h2
      subst he
      have := Mp.decode_yes k A0 c0 l0 A1 c1 l1 ws w hr0 hc0 hr1 hc1 h1 hq.1 hq.2.2 (fun x hx => by simpa using List.all_eq_true.1 hq.2.1 x hx)
      rw [hd] at this
      exact this
    · cases h2
  · rw [if_neg he] at h2
    obtain ⟨rfl, rfl⟩ : [] = r1 ∧ e = r2 := by simpa using h2
    refine (Mp.decode_no k A0 c0 l0 A1 c1 l1.length ws e w hr0 hc0 h1 he).mono ?_
    rintro _ w' ⟨rfl, hb⟩
    exact ⟨_, rfl, Kd.R_nil _ _ _ _ _, hb⟩
end Go.Proofs.Ytgcefofmfeghmaa.Pl
