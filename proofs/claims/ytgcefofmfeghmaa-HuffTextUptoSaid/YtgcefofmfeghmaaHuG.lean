import Derived.Test.YtgcefofmfeghmaaHuF
/- Decoding of what is encoded, and the other way. -/
namespace Go.Proofs.Ytgcefofmfeghmaa.Hu
open Go.RowKit Go.Proofs.Ytgcefofmfeghmaa.G Go.Proofs.YtgcefofmfeghmaaW.PrintWords Go.Proofs.YtgcefofmfeghmaaW.PrintLast Go.Proofs.YtgcefofmfeghmaaW.PrintMore
set_option linter.unusedVariables false

theorem findW_none (l : List Int) (B L : Int) : ∀ d i, findW l d i B L = none → ∀ j, i ≤ j → j < i + d → ¬ ((wordOf l j).f1 = L ∧ (wordOf l j).f0 = B)
  | 0, i, h, j, h1, h2 => by omega
  | d + 1, i, h, j, h1, h2 => by
    unfold findW at h
    split at h
    · cases h
    · rename_i c
      rcases Nat.lt_or_ge i j with hj | hj
      · exact findW_none l B L d (i + 1) h j (by omega) (by omega)
      · obtain rfl : j = i := by omega
        exact c
abbrev mp (l : List Int) := Mp.symMap (words l) l.length
theorem look_mp (l : List Int) (hr : RightP l) (B L : Int) (hL : 0 < L) : Mp.look (mp l) B L = (findW l l.length 0 B L).map (fun j : Nat => (j : Int)) := look_sym l hr.1 B L hL _ (Nat.le_refl _)

/-- what has been read -/
def DInv (l : List Int) (B : List Int) (s : Mp.DS) : Prop := B = s.1.flatMap (wb l) ++ mbits s.2.1 s.2.2.toNat ∧ ∀ x ∈ s.1, Val l x
theorem dinv_step (l : List Int) (hr : RightP l) (B : List Int) (s t : Mp.DS) (x : Int) (hx : x = 0 ∨ x = 1) (h : DInv l B s) (h0 : 0 ≤ s.2.2) (ht : Mp.dstep (mp l) s x = some t) : DInv l (B ++ [x]) t := by
  obtain ⟨h1, h2⟩ := h
  have e1 : (2 * s.2.1 + x) / 2 = s.2.1 := by omega
  have e2 : (2 * s.2.1 + x) % 2 = x := by omega
  have e3 : mbits (2 * s.2.1 + x) (s.2.2 + 1).toNat = mbits s.2.1 s.2.2.toNat ++ [x] := by
    rw [show (s.2.2 + 1).toNat = s.2.2.toNat + 1 by omega, mbits, e1, e2]
  unfold Mp.dstep at ht
  rw [look_mp l hr _ _ (by omega)] at ht
  cases hf : findW l l.length 0 (2 * s.2.1 + x) (s.2.2 + 1) with
  | some j =>
    rw [hf] at ht
    obtain rfl := Option.some.inj ht
    obtain ⟨-, hj, w1, w0⟩ := findW_some l _ _ _ _ _ hf
    have hwl := wordOf_len l hr j (by omega)
    refine ⟨?_, fun y hy => ?_⟩
    · rw [h1]
      simp only [List.flatMap_append, List.flatMap_cons, List.flatMap_nil, wb, Int.toNat_natCast, w1, w0, e3]
      simp [mbits, List.append_assoc]
    · rcases List.mem_append.1 hy with hy | hy
      · exact h2 y hy
      · rw [List.mem_singleton.1 hy]; exact ⟨show (0 : Int) ≤ (j : Int) by omega, show (j : Int) < _ by omega, show 0 < rd l (j : Int) by omega⟩
  | none =>
    rw [hf] at ht
    simp only [Option.map_none] at ht
    split at ht
    · cases ht
    · obtain rfl := Option.some.inj ht
      refine ⟨?_, h2⟩
      rw [h1]
      simp only [e3, List.append_assoc]
theorem dinv_run (l : List Int) (hr : RightP l) : ∀ (B' B : List Int) (n : Nat) (s t : Mp.DS), (∀ x ∈ B', x = 0 ∨ x = 1) → DInv l B s → Mp.DOk n s → Mp.drun (mp l) s B' = some t → DInv l (B ++ B') t
  | [], B, n, s, t, _, h, _, ht => by
    unfold Mp.drun at ht
    simp at ht
    subst ht
    rw [List.append_nil]; exact h
  | x :: B', B, n, s, t, hb, h, hok, ht => by
    unfold Mp.drun at ht
    rw [List.foldlM_cons] at ht
    cases hs : Mp.dstep (mp l) s x with
    | none => rw [hs] at ht; simp at ht
    | some u =>
      rw [hs] at ht
      have hx := hb x (by simp)
      have := dinv_run l hr B' (B ++ [x]) (n + 1) u t (fun y hy => hb y (by simp [hy])) (dinv_step l hr B s u x hx h hok.l0 hs) (hok.step hx hs) ht
      rwa [List.append_assoc] at this
theorem dinv_all (l : List Int) (hr : RightP l) (l1 : List Int) (t : Mp.DS) (ht : Mp.drun (mp l) ([], 0, 0) (Mp.bitsOf l1) = some t) : DInv l (Mp.bitsOf l1) t ∧ Mp.DOk (8 * l1.length) t := by
  have h1 := dinv_run l hr (Mp.bitsOf l1) [] 0 _ t (Mp.bitsOf_01 l1) ⟨rfl, by simp⟩ Mp.dok0 ht
  have h2 := Mp.DOk.run (Mp.bitsOf l1) 0 _ t Mp.dok0 (Mp.bitsOf_01 l1) ht
  rw [Mp.bitsOf_len, Nat.zero_add] at h2
  exact ⟨h1, h2⟩

/-- a word is read -/
theorem run_pre (l : List Int) (hr : RightP l) (out : List Int) (x : Nat) (hx : x < l.length) (L : Nat) (hL0 : 0 < L) (hL : rd l (x : Int) = (L : Int)) : ∀ j : Nat, j < L → Mp.drun (mp l) (out, 0, 0) (mbits ((bitsN l x : Int) / 2 ^ (L - j)) j) = some (out, (bitsN l x : Int) / 2 ^ (L - j), (j : Int))
  | 0, _ => by
    have h1 := bitsN_lt l hr x hx (by omega)
    rw [hL, Int.toNat_natCast] at h1
    have h2 : (bitsN l x : Int) / 2 ^ (L - 0) = 0 := by
      rw [Nat.sub_zero]
      refine Int.ediv_eq_zero_of_lt (by omega) ?_
      have h3 : ((bitsN l x + 1 : Nat) : Int) < ((2 ^ L : Nat) : Int) := Int.ofNat_lt.2 h1
      rw [Int.natCast_pow] at h3
      have : ((2 : Nat) : Int) = 2 := rfl
      rw [this] at h3
      clear h1
      omega
    rw [h2]; rfl
  | j + 1, hj => by
    have ih := run_pre l hr out x hx L hL0 hL j (by omega)
    have hok : 0 ≤ rd l (x : Int) ∧ rd l (x : Int) ≤ 24 := hr.2.1 x hx
    obtain ⟨v, hv⟩ : ∃ v : Int, (bitsN l x : Int) / 2 ^ (L - (j + 1)) = v := ⟨_, rfl⟩
    have hv2 : (bitsN l x : Int) / 2 ^ (L - j) = v / 2 := by
      rw [← hv, show L - j = (L - (j + 1)) + 1 by omega, Int.ediv_ediv_of_nonneg (Int.pow_nonneg (by decide)), Int.pow_succ]
    rw [hv2] at ih
    rw [hv, mbits, Mp.drun_snoc, ih]
    show Mp.dstep (mp l) (out, v / 2, (j : Int)) (v % 2) = _
    unfold Mp.dstep
    simp only
    rw [show 2 * (v / 2) + v % 2 = v by omega, look_mp l hr _ _ (by omega)]
    cases hf : findW l l.length 0 v ((j : Int) + 1) with
    | some i =>
      exfalso
      obtain ⟨-, hi, w1, w0⟩ := findW_some l _ _ _ _ _ hf
      have hwl := wordOf_len l hr i (by omega)
      have hne : i ≠ x := by intro h; subst h; omega
      refine no_begin l hr i x (by omega) hx hne (by omega) (by omega) ?_
      rw [wordOf_pos l i (by omega)] at w0
      have h1 : (rd l (i : Int)).toNat = j + 1 := by omega
      rw [h1, hL, Int.toNat_natCast]
      have h2 : ((bitsN l x / 2 ^ (L - (j + 1)) : Nat) : Int) = (bitsN l i : Int) := by
        rw [Int.natCast_ediv, Int.natCast_pow]; exact hv.trans w0.symm
      exact Int.ofNat_inj.1 h2
    | none =>
      simp only [Option.map_none]
      rw [if_neg (by omega)]
      rfl
theorem run_word (l : List Int) (hr : RightP l) (out : List Int) (x : Int) (hx : Val l x) : Mp.drun (mp l) (out, 0, 0) (wb l x) = some (out ++ [x], 0, 0) := by
  obtain ⟨v0, v1, v2⟩ := hx
  obtain ⟨y, rfl⟩ : ∃ y : Nat, x = (y : Int) := ⟨x.toNat, (Int.toNat_of_nonneg v0).symm⟩
  obtain ⟨L, hL⟩ : ∃ L : Nat, rd l (y : Int) = ((L + 1 : Nat) : Int) := ⟨(rd l (y : Int)).toNat - 1, by omega⟩
  have hpre := run_pre l hr out y (by omega) (L + 1) (by omega) hL L (by omega)
  have hok : 0 ≤ rd l (y : Int) ∧ rd l (y : Int) ≤ 24 := hr.2.1 y (by omega)
  rw [show L + 1 - L = 1 by omega, Int.pow_succ, Int.pow_zero, Int.one_mul] at hpre
  have hw := wordOf_pos l y v2
  have hwb : wb l (y : Int) = mbits ((bitsN l y : Int) / 2) L ++ [(bitsN l y : Int) % 2] := by
    unfold wb
    rw [Int.toNat_natCast, hw]
    simp only []
    rw [hL, Int.toNat_natCast, mbits]
  rw [hwb, Mp.drun_snoc, hpre]
  show Mp.dstep (mp l) (out, (bitsN l y : Int) / 2, (L : Int)) ((bitsN l y : Int) % 2) = _
  unfold Mp.dstep
  simp only
  rw [show 2 * ((bitsN l y : Int) / 2) + (bitsN l y : Int) % 2 = (bitsN l y : Int) by omega, look_mp l hr _ _ (by omega)]
  cases hf : findW l l.length 0 (bitsN l y : Int) ((L : Int) + 1) with
  | some i =>
    obtain ⟨-, hi, w1, w0⟩ := findW_some l _ _ _ _ _ hf
    have hwl := wordOf_len l hr i (by omega)
    rw [wordOf_pos l i (by omega)] at w0
    have hiy := words_inj l hr i y (by omega) (by omega) (by omega) (by omega) (Int.ofNat_inj.1 w0)
    subst hiy
    rfl
  | none =>
    exfalso
    refine findW_none l _ _ _ _ hf y (by omega) (by omega) ?_
    rw [hw]
    exact ⟨by simp only []; omega, rfl⟩
theorem run_all (l : List Int) (hr : RightP l) : ∀ (S out : List Int), (∀ x ∈ S, Val l x) → Mp.drun (mp l) (out, 0, 0) (S.flatMap (wb l)) = some (out ++ S, 0, 0)
  | [], out, _ => by simp [Mp.drun]
  | x :: S, out, h => by
    rw [List.flatMap_cons, Mp.drun_append, run_word l hr out x (h x (by simp))]
    have := run_all l hr S (out ++ [x]) (fun y hy => h y (by simp [hy]))
    rw [List.append_assoc] at this
    exact this
theorem run_ones (l : List Int) (hr : RightP l) (out : List Int) : ∀ p : Nat, p < 8 → Mp.drun (mp l) (out, 0, 0) (List.replicate p 1) = some (out, 2 ^ p - 1, (p : Int))
  | 0, _ => rfl
  | p + 1, h => by
    rw [List.replicate_succ', Mp.drun_snoc, run_ones l hr out p (by omega)]
    show Mp.dstep (mp l) (out, 2 ^ p - 1, (p : Int)) 1 = _
    unfold Mp.dstep
    simp only
    have e : 2 * ((2 : Int) ^ p - 1) + 1 = 2 ^ (p + 1) - 1 := by rw [Int.pow_succ]; omega
    rw [e, look_mp l hr _ _ (by omega)]
    cases hf : findW l l.length 0 (2 ^ (p + 1) - 1) ((p : Int) + 1) with
    | some i =>
      exfalso
      obtain ⟨-, hi, w1, w0⟩ := findW_some l _ _ _ _ _ hf
      have hwl := wordOf_len l hr i (by omega)
      have hlt := bitsN_lt l hr i (by omega) (by omega)
      rw [wordOf_pos l i (by omega)] at w0
      rw [show (rd l (i : Int)).toNat = p + 1 by omega] at hlt
      have h3 : ((bitsN l i + 1 : Nat) : Int) < ((2 ^ (p + 1) : Nat) : Int) := Int.ofNat_lt.2 hlt
      rw [Int.natCast_pow] at h3
      have : ((2 : Nat) : Int) = 2 := rfl
      rw [this] at h3
      clear hlt
      simp only at w0
      generalize (2 : Int) ^ (p + 1) = P at *
      omega
    | none =>
      simp only [Option.map_none]
      rw [if_neg (by omega)]
      rfl
/-- what is encoded decodes -/
theorem back (l : List Int) (hr : RightP l) (S r : List Int) (p : Nat) (hp : p < 8) (hS : ∀ x ∈ S, Val l x) (hb : Mp.bitsOf r = S.flatMap (wb l) ++ List.replicate p 1) : fin (Mp.drun (mp l) ([], 0, 0) (Mp.bitsOf r)) = (S, 0) := by
  rw [hb, Mp.drun_append, run_all l hr S [] hS]
  show fin (Mp.drun (mp l) (S, 0, 0) _) = _
  rw [run_ones l hr S p hp]
  simp only [fin]
  rw [if_neg (by omega), Int.toNat_natCast, if_pos rfl]
theorem bits8_inj (c d : Int) (hc : 0 ≤ c ∧ c < 256) (hd : 0 ≤ d ∧ d < 256) (h : Mp.bits8 c 8 = Mp.bits8 d 8) : c = d := by
  rw [mbits8, mbits8] at h
  simp only [mbits, List.nil_append, List.cons_append, List.cons.injEq, and_true] at h
  omega
theorem bitsOf_inj : ∀ (a b : List Int), Bytes a → Bytes b → Mp.bitsOf a = Mp.bitsOf b → a = b
  | [], [], _, _, _ => rfl
  | [], d :: b, _, _, h => by have := congrArg List.length h; rw [Mp.bitsOf_len, Mp.bitsOf_len] at this; simp at this
  | c :: a, [], _, _, h => by have := congrArg List.length h; rw [Mp.bitsOf_len, Mp.bitsOf_len] at this; simp at this
  | c :: a, d :: b, ha, hb, h => by
    have e1 : Mp.bitsOf (c :: a) = Mp.bits8 c 8 ++ Mp.bitsOf a := by unfold Mp.bitsOf; simp
    have e2 : Mp.bitsOf (d :: b) = Mp.bits8 d 8 ++ Mp.bitsOf b := by unfold Mp.bitsOf; simp
    rw [e1, e2] at h
    obtain ⟨h1, h2⟩ := List.append_inj h (by rw [Mp.bits8_len, Mp.bits8_len])
    rw [bits8_inj c d (ha c (by simp)) (hb d (by simp)) h1, bitsOf_inj a b (fun x hx => ha x (by simp [hx])) (fun x hx => hb x (by simp [hx])) h2]
/-- what decodes is what is encoded -/
theorem one (l : List Int) (hr : RightP l) (l1 S r : List Int) (p : Nat) (hp : p < 8) (h1 : Bytes l1) (h2 : Bytes r) (hf : fin (Mp.drun (mp l) ([], 0, 0) (Mp.bitsOf l1)) = (S, 0)) (hb : Mp.bitsOf r = S.flatMap (wb l) ++ List.replicate p 1) : l1 = r := by
  cases hd : Mp.drun (mp l) ([], 0, 0) (Mp.bitsOf l1) with
  | none => rw [hd] at hf; simp [fin] at hf
  | some t =>
    obtain ⟨⟨q1, q2⟩, hok⟩ := dinv_all l hr l1 t hd
    rw [hd] at hf
    simp only [fin] at hf
    have ht0 := hok.l0
    split at hf
    · cases hf
    · rename_i c7
      split at hf
      · rename_i cE
        obtain ⟨rfl, -⟩ := Prod.mk.inj hf
        rw [cE, mbits_ones] at q1
        have e1 := congrArg List.length q1
        have e2 := congrArg List.length hb
        rw [Mp.bitsOf_len, List.length_append, List.length_replicate] at e1 e2
        have hpe : t.2.2.toNat = p := by omega
        rw [hpe] at q1
        exact bitsOf_inj l1 r h1 h2 (q1.trans hb.symm)
      · cases hf
theorem dec_val (l : List Int) (hr : RightP l) (l1 S : List Int) (hf : fin (Mp.drun (mp l) ([], 0, 0) (Mp.bitsOf l1)) = (S, 0)) : (∀ x ∈ S, Val l x) ∧ S.length ≤ 8 * l1.length := by
  cases hd : Mp.drun (mp l) ([], 0, 0) (Mp.bitsOf l1) with
  | none => rw [hd] at hf; simp [fin] at hf
  | some t =>
    obtain ⟨⟨q1, q2⟩, hok⟩ := dinv_all l hr l1 t hd
    rw [hd] at hf
    simp only [fin] at hf
    split at hf
    · cases hf
    · split at hf
      · obtain ⟨rfl, -⟩ := Prod.mk.inj hf
        exact ⟨q2, hok.len⟩
      · cases hf
theorem fin_err (o : Option Mp.DS) : (fin o).2 ≠ 0 → (fin o).1 = [] := by
  unfold fin
  split
  · intro; rfl
  · split
    · intro; rfl
    · split
      · intro h; exact absurd rfl h
      · intro; rfl
end Go.Proofs.Ytgcefofmfeghmaa.Hu
