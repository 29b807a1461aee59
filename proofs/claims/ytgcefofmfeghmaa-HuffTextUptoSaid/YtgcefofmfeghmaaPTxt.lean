import Derived.Test.YtgcefofmfeghmaaGxf23
import Derived.Test.YtgcefofmfeghmaaGxf10
import Derived.Test.YtgcefofmfeghmaaGxf13
import Derived.Test.YtgcefofmfeghmaaPDec
import Derived.Laws.IdiomStrings
import Derived.Laws.BytesArg
import Derived.Laws.AppendOwn
/- HuffText's walk. -/
namespace Go.Proofs.Ytgcefofmfeghmaa.Pl
open Go.RowKit Go.Proofs.YtgcefofmfeghmaaW.PrintWords Go.Proofs.YtgcefofmfeghmaaW.PrintLast Go.Proofs.YtgcefofmfeghmaaW.PrintMore Go.Proofs.Ytgcefofmfeghmaa.G
set_option linter.unusedVariables false
set_option linter.unusedSimpArgs false

def bytesL (s : ByteArray) : List Int := s.data.toList.map (fun b => (b.toNat : Int))
theorem bytesL_len (s : ByteArray) : (bytesL s).length = s.size := by unfold bytesL; simp
theorem bytesL_at (s : ByteArray) (j : Nat) (hj : j < s.data.size) : (bytesL s)[j]? = some (s.data[j].toNat : Int) := by
  unfold bytesL; simp
  exact ⟨_, Array.getElem?_eq_getElem hj, rfl⟩
def cap5 (W : World) (s : ByteArray) : Nat := grownCap W s.size 0 5
theorem cap_ge (W : World) (s : ByteArray) : s.size ≤ cap5 W s := grownCap_ge W s.size 0 5
def after5 (W : World) (s : ByteArray) : World := W.drew.alloc (.cells (bytesRow s (cap5 W s)) 5 ((bytesRow s (cap5 W s)).size, (bytesRow s (cap5 W s)).size + 1))
theorem to_bytes (s : ByteArray) (W : World) : (convert 9 23 (.string s)).run Try.prog W = .ok (.slice (some ⟨W.heap.size, 0, none⟩) (bytesL s).length (cap5 W s)) (after5 W s) := by
  rw [bytesL_len]
  exact run_bytes_of_string W 9 23 5 s Try.underlying9 Try.underlying23 Try.underlying5
theorem after_below (W : World) (s : ByteArray) : Below W.heap.size W (after5 W s) := below_alloc (below_drew (Below.refl _ _)) _
theorem after_C (W : World) (s : ByteArray) (hs : s.size ≤ 1048576) : Kd.C (Kd.int .u8) (after5 W s) (some ⟨W.heap.size, 0, none⟩) (bytesL s).length (bytesL s) := by
  refine ⟨rfl, by rw [bytesL_len]; omega, fun _ => ⟨_, rfl, fun j p hj => ?_⟩⟩
  have hjl : j < s.data.size := by
    have := (List.getElem?_eq_some_iff.1 hj).1
    rw [bytesL_len] at this; exact this
  rw [bytesL_at s j hjl] at hj
  obtain rfl := Option.some.inj hj
  refine ⟨[.int .u8 (s.data[j].toNat : Int)], rfl, rfl, fun i u hu => ?_⟩
  have hi : i = 0 := by
    rcases i with _ | i
    · rfl
    · simp at hu
  subst hi
  have hu' : u = .int .u8 (s.data[j].toNat : Int) := by simpa using hu.symm
  have e : (⟨W.heap.size, 0, none⟩ : Addr).add (j * (Kd.int .u8).sz + 0) = ⟨W.heap.size, j, none⟩ := by
    have : j * (Kd.int .u8).sz + 0 = j := by show j * 1 + 0 = j; omega
    rw [this]; unfold Addr.add; split <;> simp_all
  rw [e, hu']
  have := World.cell?_alloc_mark W.drew (bytesRow s (cap5 W s)) 5 ((bytesRow s (cap5 W s)).size, (bytesRow s (cap5 W s)).size + 1) j
  exact this.trans (bytesRow_at s _ j hjl)
theorem of_bytes (s : ByteArray) (A : Option Addr) (c : Nat) (W : World) (h : Kd.C (Kd.int .u8) W A (bytesL s).length (bytesL s)) : (convert 23 9 (.slice A (bytesL s).length c)).run Try.prog W = .ok (.string s) W := by
  have hlen : (bytesL s).length = s.data.toList.length := by rw [bytesL_len]; simp
  rcases A with _ | ad
  · have h0 : (bytesL s).length = 0 := by
      rcases Nat.eq_zero_or_pos (bytesL s).length with h0 | h0
      · exact h0
      · obtain ⟨ad, e, _⟩ := h.2.2 h0; cases e
    rw [run_convert_bytes_nil W 23 5 Try.underlying23 Try.underlying5 _ _ 9 Try.underlying9]
    have hsz : s.data = #[] := by
      rw [hlen] at h0
      exact Array.eq_empty_of_size_eq_zero (by simpa using h0)
    obtain ⟨d⟩ := s
    simp only at hsz
    subst hsz
    rfl
  · have := run_convert_bytes_back (P := Try.prog) W 23 9 5 ad c s.data.toList Try.underlying23 Try.underlying5 Try.underlying9 (fun j hj => by
      have hj2 : j < s.data.size := by simpa using hj
      have hx := Kd.at_int h (j : Int) (by omega) (by rw [hlen]; omega)
      obtain ⟨ad', e, hx⟩ := hx
      injection e with e
      subst e
      rw [Int.toNat_natCast] at hx
      rw [hx]
      have : rd (bytesL s) (j : Int) = (s.data.toList[j].toNat : Int) := by
        unfold rd
        rw [Int.toNat_natCast, List.getD, bytesL_at s j hj2]
        simp
      rw [this])
    rw [← hlen] at this
    rw [this]

set_option maxRecDepth 100000 in
theorem text_calls (s : ByteArray) (hs : s.size ≤ 1048576) (k : Nat) (F out : List Int) (w : World) (hF : huff_Fields.f k = some F) (hE : huff_Encode.f k F (bytesL s) = some (out, 0)) (hD : Pl.decode.f k F out = some (bytesL s, 0)) (hA : turnbucklelaw12_alive.f k = some true) (hcap : ∀ W : World, (bytesL s).length ≤ cap5 W s) :
    Calls Try.prog 9 #[.string s] w fun e w' => e = .returned (.bool true) ∧ Below w.heap.size w w' := by
  have HF := Lib.hid (fun W => huff_Fields.calls k F W hF)
  have hcv := to_bytes s
  have HAL := Lib.hid (fun W => turnbucklelaw12_alive.calls k true W hA)
  go_enter Try.func9, Try.ntmps9
  go_upto_region 2 with (first | (go_at_call 23; refine (HF.out _).mono ?_; rintro e w1 ⟨v1, rfl, hR1, hb1⟩; obtain ⟨A1, c1, rfl, hl1, hC1⟩ := Kd.R_reads hR1; have HB1 := Lib.hid hb1; have HC1 := Lib.hid hC1; have HL1 := Lib.hid hl1; clear hR1 hb1 hC1 hl1) | (go_at_call 10; refine (huff_Encode.calls k A1 c1 F _ (cap5 w1 s) (bytesL s) out 0 _ (Kd.C_below HC1.out (after_below w1 s)) HL1.out (after_C w1 s hs) (hcap _) hE).mono ?_; rintro e w2 ⟨v2, rfl, hR2, hb2⟩; obtain ⟨A2, c2, rfl, hl2, hC2⟩ := Kd.R_reads hR2; have HB2 := Lib.hid (below_step HB1.out (below_step (after_below w1 s) hb2)); have HC2 := Lib.hid hC2; have HL2 := Lib.hid hl2; clear hR2 hb2 hC2 hl2))
  go_upto_region 3 with (first | (go_at_call 23; refine (HF.out _).mono ?_; rintro e w3 ⟨v3, rfl, hR3, hb3⟩; obtain ⟨A3, c3, rfl, hl3, hC3⟩ := Kd.R_reads hR3; have HB3 := Lib.hid hb3; have HC3 := Lib.hid hC3; have HL3 := Lib.hid hl3; clear hR3 hb3 hC3 hl3) | (go_at_call 14; refine (Pl.decode.calls k A3 c3 F A2 c2 out (bytesL s) 0 _ HC3.out HL3.out (Kd.C_below HC2.out HB3.out) HL2.out hD).mono ?_; rintro e w4 ⟨v4, rfl, hR4, hb4⟩; obtain ⟨A4, c4, rfl, hl4, hC4⟩ := Kd.R_reads hR4; have HB4 := Lib.hid (below_step (below_step HB2.out HB3.out) hb4); have HC4 := Lib.hid hC4; clear hR4 hb4 hC4 hl4))
  have hback := of_bytes s A4 c4 w4 HC4.out
  go_wp2_with (first | (go_at_call 13; refine (HAL.out _).mono ?_; rintro e w5 ⟨rfl, hb5⟩; have HB5 := Lib.hid (below_step HB4.out hb5); clear hb5))
  go_ret
  exact ⟨rfl, HB5.out⟩
end Go.Proofs.Ytgcefofmfeghmaa.Pl
