import Derived.Test.YtakdfjehjnhikaaQzb
namespace Go.Proofs.Ytakdfjehjnhikaa.Q
open Go.RowKit Go.Proofs.YtakdfjehjnhikaaW.PrintWords Go.Proofs.YtakdfjehjnhikaaW.PrintLast Go.Proofs.YtakdfjehjnhikaaW.PrintMore Go.Proofs.Ytakdfjehjnhikaa.G
set_option linter.unusedVariables false
set_option linter.unusedSimpArgs false

set_option maxRecDepth 100000 in
theorem both_no (w : World) (most : Int) (A : Option Addr) (c : Nat) (l : List S31) (h : most < 0 ∨ 4096 < most) :
    Calls Try.prog 7 #[.int .i64 most, .slice A l.length c] w fun e w' => e = .returned (.bool true) ∧ Below w.heap.size w w' := by
  have Hn := Lib.hid (new_no w most h)
  have Hr := Lib.hid (rnew_no w most h)
  clear h
  go_enter Try.func7, Try.ntmps7
  go_wp2_with (first | (go_at_call 9; refine Hn.out.mono ?_; rintro e w' ⟨rfl, rfl⟩) | (go_at_call 24; refine Hr.out.mono ?_; rintro e w2 ⟨rfl, hb⟩; have HB2 := Lib.hid hb; clear hb) | (go_at_call 10; refine (alive_calls _).mono ?_; rintro e w3 ⟨rfl, hb⟩; have HB3 := Lib.hid hb; clear hb))
  go_ret
  exact ⟨rfl, below_step (below_alloc HB2.out _) HB3.out⟩
theorem both_any (w : World) (most : Int) (A : Option Addr) (c : Nat) (l : List S31) (hC : Kd.C k31 w A l.length l) (hl : l.length ≤ 140737488351232) (ha : ActsOk l) :
    Calls Try.prog 7 #[.int .i64 most, .slice A l.length c] w fun e w' => e = .returned (.bool true) ∧ Below w.heap.size w w' := by
  by_cases h : most < 0 ∨ 4096 < most
  · exact both_no w most A c l h
  · exact both_yes w most A c l (by omega) (by omega) hC hl ha
end Go.Proofs.Ytakdfjehjnhikaa.Q
