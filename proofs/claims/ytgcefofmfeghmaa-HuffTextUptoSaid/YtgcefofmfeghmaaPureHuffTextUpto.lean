import Derived.Test.YtgcefofmfeghmaaPTxt
import Derived.Test.YtgcefofmfeghmaaHuG
/- A text, encoded and decoded. -/
namespace Go.Proofs.Ytgcefofmfeghmaa.Pure
open Go.RowKit Go.Proofs.Ytgcefofmfeghmaa.G Go.Proofs.YtgcefofmfeghmaaW.PrintWords Go.Proofs.YtgcefofmfeghmaaW.PrintLast Go.Proofs.YtgcefofmfeghmaaW.PrintMore Go.Proofs.Ytgcefofmfeghmaa.Hu
set_option linter.unusedVariables false
def TF : List Int := (huff_Fields.f 0).getD []
theorem tf_eq : huff_Fields.f 0 = some TF := by kernel_rfl
theorem tf_len : TF.length = 256 := by kernel_rfl
theorem tf_val : ∀ i : Nat, i < 256 → 0 < rd TF (i : Int) ∧ rd TF (i : Int) ≤ 24 := by decide +kernel
theorem tf_right : RightP TF := by
  refine ⟨by rw [tf_len]; omega, fun i hi => ?_, by decide +kernel⟩
  rw [tf_len] at hi
  have := tf_val i hi
  exact ⟨by omega, this.2⟩
theorem HuffTextUpto (s : ByteArray) (hs : s.size ≤ 1048576) (w : World) : Calls Try.prog 9 #[.string s] w fun e w' => e = .returned (.bool true) ∧ Below w.heap.size w w' := by
  have hby : Bytes (Pl.bytesL s) := by
    intro x hx
    unfold Pl.bytesL at hx
    obtain ⟨b, -, rfl⟩ := List.mem_map.1 hx
    have := b.toNat_lt
    omega
  have hlen := Pl.bytesL_len s
  have hv : ∀ x ∈ Pl.bytesL s, Val TF x := fun x hx => by
    obtain ⟨h0, h1⟩ := hby x hx
    obtain ⟨n, rfl⟩ : ∃ n : Nat, x = (n : Int) := ⟨x.toNat, (Int.toNat_of_nonneg h0).symm⟩
    exact ⟨h0, by rw [tf_len]; omega, (tf_val n (by omega)).1⟩
  obtain ⟨r, ⟨k1, q1⟩, q2, q3, p, q4, q5⟩ := (enc_ev TF (by rw [tf_len]; omega) (Pl.bytesL s) (by omega) hby).1 tf_right hv
  obtain ⟨d, ⟨k2, h1⟩, -, h3, -⟩ := dec_both TF (by rw [tf_len]; omega) r (by omega) q2
  have hd := (h3 tf_right).trans (back TF tf_right (Pl.bytesL s) r p q4 hv q5)
  subst hd
  obtain ⟨k3, h5⟩ := alive_ev
  refine Pl.text_calls s hs (max k1 (max k2 k3)) TF r w ?_ (q1 _ (by omega)) (h1 _ (by omega)) (h5 _ (by omega)) (fun W => by rw [hlen]; exact Pl.cap_ge W s)
  exact tf_eq
end Go.Proofs.Ytgcefofmfeghmaa.Pure
