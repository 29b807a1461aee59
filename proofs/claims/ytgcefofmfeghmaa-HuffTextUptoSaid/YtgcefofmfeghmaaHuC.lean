import Derived.Test.YtgcefofmfeghmaaHuB
import Derived.Test.YtgcefofmfeghmaaGxf13
import Derived.KernelRfl
/- No word begins another one. -/
namespace Go.Proofs.Ytgcefofmfeghmaa.Hu
open Go.RowKit Go.Proofs.Ytgcefofmfeghmaa.G Go.Proofs.YtgcefofmfeghmaaW.PrintWords Go.Proofs.YtgcefofmfeghmaaW.PrintLast Go.Proofs.YtgcefofmfeghmaaW.PrintMore
set_option linter.unusedVariables false

theorem words_len (l : List Int) : (words l).length = l.length := by unfold words; simp
theorem words_at (l : List Int) (i : Nat) (h : i < l.length) : rd_T36 (words l) (i : Int) = wordOf l i := by
  unfold rd_T36 words
  simp [List.getD, h]
theorem wt_mul (n : Int) (h0 : 0 < n) (h1 : n ≤ 24) : wt n * 2 ^ n.toNat = 16777216 := by
  unfold wt
  rw [if_pos h0, ← Nat.pow_add, show 24 - n.toNat + n.toNat = 24 by omega]
theorem wt_pos (n : Int) (h0 : 0 < n) : 0 < wt n := by unfold wt; rw [if_pos h0]; exact Nat.two_pow_pos _
theorem wt_dvd (m n : Int) (h0 : 0 < m) (h1 : m ≤ n) : wt n ∣ wt m := by
  unfold wt
  rw [if_pos h0, if_pos (by omega)]
  exact Nat.pow_dvd_pow 2 (by omega)

theorem ord_cut (l : List Int) (i : Nat) (hi : i < l.length) (hp : 0 < rd l (i : Int)) : ∃ A B, St.ordered l = A ++ (i : Int) :: B :=
  List.append_of_mem ((ord_mem l _).2 ((St.pos_mem l _ _).2 ⟨by omega, by omega, hp⟩))
theorem first_fits (l : List Int) (i : Nat) (hi : i < l.length) (hp : 0 < rd l (i : Int)) : first l i + wt (rd l (i : Int)) ≤ tot l l.length 0 := by
  obtain ⟨A, B, h⟩ := ord_cut l i hi hp
  have h1 := first_of l A B i h
  rw [Int.toNat_natCast] at h1
  rw [h1, tot_sum, ← sumw_perm (St.ordered_perm l), h, sumw_append]
  have : sumw l ((i : Int) :: B) = wt (rd l (i : Int)) + sumw l B := by unfold sumw; simp
  omega
theorem first_dvd (l : List Int) (i : Nat) (hi : i < l.length) (hp : 0 < rd l (i : Int)) : wt (rd l (i : Int)) ∣ first l i := by
  obtain ⟨A, B, h⟩ := ord_cut l i hi hp
  have h1 := first_of l A B i h
  rw [Int.toNat_natCast] at h1
  rw [h1]
  have hs := ord_sorted l
  rw [h, List.pairwise_append] at hs
  have hA : ∀ a ∈ A, wt (rd l (i : Int)) ∣ wt (rd l a) := fun a ha => by
    have h2 := hs.2.2 a ha (i : Int) (by simp)
    have h3 : a ∈ St.pos l l.length := (ord_mem l a).1 (by rw [h]; simp [ha])
    have h4 := ((St.pos_mem l _ a).1 h3).2.2
    exact wt_dvd _ _ h4 (by omega)
  clear h h1 hs
  induction A with
  | nil => exact Nat.dvd_zero _
  | cons a A ih =>
    have : sumw l (a :: A) = wt (rd l a) + sumw l A := by unfold sumw; simp
    rw [this]
    exact Nat.dvd_add (hA a (by simp)) (ih (fun b hb => hA b (by simp [hb])))
theorem apart (l : List Int) (i j : Nat) (hi : i < l.length) (hj : j < l.length) (hij : i ≠ j) (hpi : 0 < rd l (i : Int)) (hpj : 0 < rd l (j : Int)) :
    first l i + wt (rd l (i : Int)) ≤ first l j ∨ first l j + wt (rd l (j : Int)) ≤ first l i := by
  obtain ⟨A, B, h⟩ := ord_cut l i hi hpi
  have hjm : (j : Int) ∈ A ++ (i : Int) :: B := by rw [← h]; exact (ord_mem l _).2 ((St.pos_mem l _ _).2 ⟨by omega, by omega, hpj⟩)
  have h1 := first_of l A B i h
  rw [Int.toNat_natCast] at h1
  rcases List.mem_append.1 hjm with hm | hm
  · right
    obtain ⟨A1, A2, rfl⟩ := List.append_of_mem hm
    have h2 := first_of l A1 (A2 ++ (i : Int) :: B) j (by rw [h]; simp)
    rw [Int.toNat_natCast] at h2
    rw [h1, h2, sumw_append]
    have : sumw l ((j : Int) :: A2) = wt (rd l (j : Int)) + sumw l A2 := by unfold sumw; simp
    omega
  · left
    rcases List.mem_cons.1 hm with hm | hm
    · omega
    · obtain ⟨B1, B2, rfl⟩ := List.append_of_mem hm
      have h2 := first_of l (A ++ (i : Int) :: B1) B2 j (by rw [h]; simp)
      rw [Int.toNat_natCast] at h2
      rw [h1, h2, sumw_append]
      have : sumw l ((i : Int) :: B1) = wt (rd l (i : Int)) + sumw l B1 := by unfold sumw; simp
      omega

/-- a word's bits, as a place in the room -/
def bitsN (l : List Int) (i : Nat) : Nat := first l i / wt (rd l (i : Int))
theorem wordOf_pos (l : List Int) (i : Nat) (hp : 0 < rd l (i : Int)) : wordOf l i = ⟨(bitsN l i : Int), rd l (i : Int)⟩ := by unfold wordOf bitsN; rw [if_pos hp]
theorem bitsN_mul (l : List Int) (i : Nat) (hi : i < l.length) (hp : 0 < rd l (i : Int)) : bitsN l i * wt (rd l (i : Int)) = first l i := Nat.div_mul_cancel (first_dvd l i hi hp)
/-- a word is none of bits 1 alone -/
theorem bitsN_lt (l : List Int) (hr : RightP l) (i : Nat) (hi : i < l.length) (hp : 0 < rd l (i : Int)) : bitsN l i + 1 < 2 ^ (rd l (i : Int)).toNat := by
  have hok : 0 ≤ rd l (i : Int) ∧ rd l (i : Int) ≤ 24 := hr.2.1 i hi
  have h1 := bitsN_mul l i hi hp
  have h2 := first_fits l i hi hp
  have h3 := hr.2.2
  have h4 := wt_mul _ hp hok.2
  have h5 : (bitsN l i + 1) * wt (rd l (i : Int)) < 2 ^ (rd l (i : Int)).toNat * wt (rd l (i : Int)) := by
    rw [Nat.add_mul, h1, Nat.one_mul, Nat.mul_comm (2 ^ _), h4]; omega
  exact Nat.lt_of_mul_lt_mul_right h5
/-- no word begins another one -/
theorem no_begin (l : List Int) (hr : RightP l) (i j : Nat) (hi : i < l.length) (hj : j < l.length) (hij : i ≠ j) (hpi : 0 < rd l (i : Int)) (hle : rd l (i : Int) ≤ rd l (j : Int)) :
    bitsN l j / 2 ^ ((rd l (j : Int)).toNat - (rd l (i : Int)).toNat) ≠ bitsN l i := by
  intro he
  have hpj : 0 < rd l (j : Int) := by omega
  have hoki : 0 ≤ rd l (i : Int) ∧ rd l (i : Int) ≤ 24 := hr.2.1 i hi
  have hokj : 0 ≤ rd l (j : Int) ∧ rd l (j : Int) ≤ 24 := hr.2.1 j hj
  have h1 := bitsN_mul l i hi hpi
  have h2 := bitsN_mul l j hj hpj
  have hw : wt (rd l (i : Int)) = 2 ^ ((rd l (j : Int)).toNat - (rd l (i : Int)).toNat) * wt (rd l (j : Int)) := by
    unfold wt
    rw [if_pos hpi, if_pos hpj, ← Nat.pow_add]
    congr 1
    omega
  have hwp := wt_pos _ hpj
  obtain ⟨P, hP⟩ : ∃ P, P = 2 ^ ((rd l (j : Int)).toNat - (rd l (i : Int)).toNat) := ⟨_, rfl⟩
  rw [← hP] at he hw
  have hPp : 0 < P := by rw [hP]; exact Nat.two_pow_pos _
  have e1 : bitsN l i * P ≤ bitsN l j := by rw [← he]; exact Nat.div_mul_le_self _ _
  have e2 : bitsN l j < (bitsN l i + 1) * P := by
    rw [← he, Nat.add_mul, Nat.one_mul, Nat.mul_comm]
    have := Nat.div_add_mod (bitsN l j) P
    have := Nat.mod_lt (bitsN l j) hPp
    omega
  have f1 : first l i ≤ first l j := by rw [← h1, ← h2, hw, ← Nat.mul_assoc]; exact Nat.mul_le_mul_right _ e1
  have f2 : first l j < first l i + wt (rd l (i : Int)) := by
    have : bitsN l j * wt (rd l (j : Int)) < (bitsN l i + 1) * P * wt (rd l (j : Int)) := Nat.mul_lt_mul_of_pos_right e2 hwp
    rw [h2, Nat.mul_assoc, ← hw, Nat.add_mul, h1, Nat.one_mul] at this
    exact this
  rcases apart l i j hi hj hij hpi hpj with h | h <;> omega
theorem words_inj (l : List Int) (hr : RightP l) (i j : Nat) (hi : i < l.length) (hj : j < l.length) (hp : 0 < rd l (i : Int)) (h1 : rd l (i : Int) = rd l (j : Int)) (h2 : bitsN l i = bitsN l j) : i = j := by
  rcases Nat.decEq i j with h | h
  · exfalso
    refine no_begin l hr i j hi hj h hp (by omega) ?_
    rw [h1, Nat.sub_self, Nat.pow_zero, Nat.div_one, h2]
  · exact h

/-! alive -/
theorem right123 : RightP [1, 2, 3] := by
  refine ⟨by decide, ?_, by decide +kernel⟩
  intro i hi
  have : i = 0 ∨ i = 1 ∨ i = 2 := by simp at hi; omega
  rcases this with rfl | rfl | rfl <;> decide
theorem words123 : words [1, 2, 3] = [⟨0, 1⟩, ⟨2, 2⟩, ⟨6, 3⟩] := by kernel_rfl
theorem words123_ev : Ev (fun k => huff_Words.f k [1, 2, 3]) ([⟨0, 1⟩, ⟨2, 2⟩, ⟨6, 3⟩], 0) := by
  rw [← words123]
  exact (words_ev [1, 2, 3] (by decide)).1 right123
theorem alive_ev : Ev turnbucklelaw12_alive.f true := by
  obtain ⟨b, hb, hiff⟩ := right_ev [1, 2, 3] (by decide)
  have hbt := hiff.2 right123
  subst hbt
  unfold turnbucklelaw12_alive.f
  simp only [Option.bind_some]
  have henc : Ev (fun k => huff_Encode.f k [1, 2, 3] [1, 0, 2]) ([155], 0) := by
    unfold huff_Encode.f
    refine Ev.bind (f := fun k t => _) words123_ev ?_
    simp only [if_true]
    refine ⟨60, fun k hk => at_rounds (fun k => (huff_Encode.mono_l k).1 _ _ _ _ _ _ _) hk ?_⟩
    kernel_rfl
  have hdec : Ev (fun k => Pl.decode.f k [1, 2, 3] [155]) ([1, 0, 2], 0) := by
    unfold Pl.decode.f
    refine Ev.bind (f := fun k t => _) words123_ev ?_
    simp only [if_true]
    rw [if_pos ⟨by kernel_rfl, by decide, by decide⟩]
    rw [show Mp.decodeF [⟨0, 1⟩, ⟨2, 2⟩, ⟨6, 3⟩] [155] = ([1, 0, 2], 0) by kernel_rfl]
    exact Ev.now _
  refine Ev.bind (f := fun k t => _) henc ?_
  refine Ev.bind (f := fun k t => _) hdec ?_
  simp only [if_true]
  refine Ev.bind (f := fun k t => _) (a := true) (g := fun k => turnbuckleref01_Same.f [155] [155]) ⟨0, fun k _ => by simp [turnbuckleref01_Same.f]⟩ ?_
  simp only [if_true]
  refine Ev.bind (f := fun k t => _) (a := true) (g := fun k => turnbuckleref01_Same.f [1, 0, 2] [1, 0, 2]) ⟨0, fun k _ => by simp [turnbuckleref01_Same.f]⟩ ?_
  simp only [if_true]
  refine Ev.bind (f := fun k t => _) hb ?_
  exact Ev.now _
end Go.Proofs.Ytgcefofmfeghmaa.Hu
