import Derived.Test.YtipmnfidkoaojaaDoorXFP
import Derived.Test.YtipmnfidkoaojaaDoorXFI
import Derived.Test.YtipmnfidkoaojaaDoorXGxf7



/- FieldJoins: bounds, the text of elements, Texts. -/
namespace Go.Proofs.YtipmnfidkoaojaaDoor.Fj
open Go.RowKit Go.Proofs.YtipmnfidkoaojaaDoorW.PrintWords Go.Proofs.YtipmnfidkoaojaaDoorW.PrintLast Go.Proofs.YtipmnfidkoaojaaDoorW.PrintMore Go.Proofs.YtipmnfidkoaojaaDoor.G
set_option linter.unusedVariables false
set_option linter.unusedSimpArgs false
theorem split_sum : ∀ (t cur : List UInt8) (q sk : Bool), ((V.split t cur q sk).map (fun p => p.length + 1)).sum = cur.length + t.length + 1
  | [], cur, q, sk => by simp [V.split]
  | c :: t, cur, q, sk => by
    have ih := split_sum t
    rw [split_cons]
    split
    · rw [ih]; simp only [List.length_append, List.length_cons, List.length_nil]; omega
    · split
      · rw [ih]; simp only [List.length_append, List.length_cons, List.length_nil]; omega
      · split
        · rw [ih]; simp only [List.length_append, List.length_cons, List.length_nil]; omega
        · split
          · simp only [List.map_cons, List.sum_cons]; rw [ih]; simp only [List.length_cons, List.length_nil]; omega
          · rw [ih]; simp only [List.length_append, List.length_cons, List.length_nil]; omega
def wsum (l : List ByteArray) : Nat := (l.map (fun e => e.size + 1)).sum
theorem wsum_app (a b : List ByteArray) : wsum (a ++ b) = wsum a + wsum b := by unfold wsum; rw [List.map_append, List.sum_append]
theorem keep_sum : ∀ (ps : List (List UInt8)), wsum (V.keep ps) ≤ (ps.map (fun p => p.length + 1)).sum
  | [] => Nat.le_refl _
  | p :: ps => by
    have ih := keep_sum ps
    rw [keep_cons, wsum_app]
    have h1 := V.trimS_len p
    have h2 : wsum (if (V.tr p).isEmpty then [] else [V.mk (V.tr p)]) ≤ p.length + 1 := by
      split
      · exact Nat.zero_le _
      · unfold wsum
        simp only [List.map_cons, List.map_nil, List.sum_cons, List.sum_nil]
        rw [V.mk_size]; omega
    simp only [List.map_cons, List.sum_cons]
    omega
theorem elements_sum : ∀ vs : List ByteArray, wsum (V.elements vs) ≤ V.tot vs
  | [] => Nat.le_refl _
  | v :: vs => by
    have ih := elements_sum vs
    have h1 := keep_sum (V.split (V.D v) [] false false)
    rw [split_sum] at h1
    have e : V.elements (v :: vs) = V.el (V.D v) ++ V.elements vs := by unfold V.elements; rw [List.flatMap_cons]
    rw [e, wsum_app]
    unfold V.el
    have h2 := V.D_len v
    unfold V.tot at ih ⊢
    simp only [List.map_cons, List.sum_cons, List.length_nil] at h1 ⊢
    omega
theorem jns_len : ∀ es : List ByteArray, (jns (es.map V.D)).length ≤ 4 * wsum es
  | [] => Nat.le_refl _
  | e :: es => by
    have ih := jns_len es
    have h2 := V.D_len e
    unfold jns wsum at ih ⊢
    simp only [List.map_cons, List.flatMap_cons, List.sum_cons, List.length_append, sep, List.length_cons, List.length_nil] at ih ⊢
    omega
theorem joined_len (es : List ByteArray) : (joined (es.map V.D)).length ≤ 4 * wsum es := by
  cases es with
  | nil => exact Nat.le_refl _
  | cons e es =>
    have h1 := jns_len es
    have h2 := V.D_len e
    unfold wsum at h1 ⊢
    simp only [List.map_cons, joined, List.length_append, List.sum_cons] at h1 ⊢
    omega
theorem wsum_take (l : List ByteArray) (i : Nat) : wsum (l.take i) ≤ wsum l := by
  have : wsum l = wsum (l.take i) + wsum (l.drop i) := by rw [← wsum_app, List.take_append_drop]
  omega
theorem tot_app (a b : List ByteArray) : V.tot (a ++ b) = V.tot a + V.tot b := by unfold V.tot; rw [List.map_append, List.sum_append]
theorem texts_l0 (l : List ByteArray) (hl : l.length < 1099511627776) : ∀ (n i : Nat), l.length - i = n → i ≤ l.length → turnbuckleref17_Texts.l0 (n + 1) l l (i : Int) = some true
  | 0, i, h, hi => by
    unfold turnbuckleref17_Texts.l0
    rw [if_neg (by omega)]
  | n + 1, i, h, hi => by
    unfold turnbuckleref17_Texts.l0
    rw [if_pos (by omega), if_pos (by omega), if_pos (by omega), if_pos rfl, V.w64 i (by omega)]
    exact texts_l0 l hl n (i + 1) (by omega) (by omega)
theorem texts_f (l : List ByteArray) (hl : l.length < 1099511627776) : turnbuckleref17_Texts.f (l.length + 1) l l = some true := by
  unfold turnbuckleref17_Texts.f
  rw [if_pos rfl]
  exact texts_l0 l hl l.length 0 (by omega) (by omega)
theorem texts_q (A B : Option Addr) (c d : Nat) (l : List ByteArray) (w : World) (hA : Kd.C Kd.string w A l.length l) (hc : l.length ≤ c) (hB : Kd.C Kd.string w B l.length l) (hd : l.length ≤ d) (hl : l.length < 1099511627776) :
    Calls Tryd.prog 7 #[.slice A l.length c, .slice B l.length d] w fun e w' => e = .returned (.bool true) ∧ Drawn0 w w' :=
  turnbuckleref17_Texts.calls (l.length + 1) A c l B d l true w hA hc hB hd (texts_f l hl)
theorem map_D_mk (l : List ByteArray) : (l.map V.D).map V.mk = l := by
  rw [List.map_map]
  conv => rhs; rw [← List.map_id l]
  exact List.map_congr_left (fun x _ => V.mk_D x)
end Go.Proofs.YtipmnfidkoaojaaDoor.Fj

