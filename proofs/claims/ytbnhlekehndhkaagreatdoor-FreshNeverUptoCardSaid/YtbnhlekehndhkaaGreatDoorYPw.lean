import Derived.Test.YtbnhlekehndhkaaGreatDoorYPv
import Derived.Test.YtbnhlekehndhkaaGreatDoorYGx0
import Derived.Test.YtbnhlekehndhkaaGreatDoorYGA
import Derived.Test.YtbnhlekehndhkaaGreatDoorYGxf21


/- (not yet a claim) the document's vary and Matches say what the program's say: plain lists of bytes -/
namespace Go.Proofs.YtbnhlekehndhkaaGreatDoor.V
open Go.RowKit Go.Proofs.YtbnhlekehndhkaaGreatDoorW.PrintWords Go.Proofs.YtbnhlekehndhkaaGreatDoorW.PrintLast Go.Proofs.YtbnhlekehndhkaaGreatDoorW.PrintMore Go.Proofs.YtbnhlekehndhkaaGreatDoor.G
set_option linter.unusedVariables false
set_option linter.unusedSimpArgs false

/-! ### Trim -/
def sp (b : UInt8) : Bool := [(32 : UInt8), 9].contains b
def rd (l : List UInt8) : List UInt8 := (l.reverse.dropWhile sp).reverse
theorem rd_cons (a : UInt8) (t : List UInt8) : rd (a :: t) = if (rd t).isEmpty && sp a then [] else a :: rd t := by
  unfold rd
  rw [List.reverse_cons, List.dropWhile_append]
  by_cases h : (t.reverse.dropWhile sp).isEmpty
  · rw [if_pos h]
    have : t.reverse.dropWhile sp = [] := List.isEmpty_iff.1 h
    rw [this]
    by_cases hs : sp a <;> simp [hs]
  · rw [if_neg h, if_neg (by simp only [List.isEmpty_reverse]; simp at h; simp [h])]
    simp
theorem rd_ld : ∀ l : List UInt8, rd (l.dropWhile sp) = (rd l).dropWhile sp
  | [] => rfl
  | a :: t => by
    by_cases hs : sp a
    · rw [List.dropWhile_cons_of_pos hs, rd_ld t, rd_cons]
      split
      · rename_i h
        simp at h
        simp [h.1]
      · rw [List.dropWhile_cons_of_pos hs]
    · rw [List.dropWhile_cons_of_neg hs, rd_cons, if_neg (by simp [hs]), List.dropWhile_cons_of_neg hs]
theorem tr_eq (l : List UInt8) : tr l = rd (l.dropWhile sp) := by
  rw [rd_ld]
  rfl
theorem sp_iff (c : UInt8) : sp c = true ↔ (c.toNat : Int) = 32 ∨ (c.toNat : Int) = 9 := by
  have h1 := u8_eq c 32 (by omega)
  have h2 := u8_eq c 9 (by omega)
  have e1 : ((32 : Nat) : Int) = 32 := rfl
  have e2 : ((9 : Nat) : Int) = 9 := rfl
  rw [e1] at h1
  rw [e2] at h2
  rw [h1, h2]
  simp [sp]
theorem rd_snoc (l : List UInt8) (c : UInt8) : rd (l ++ [c]) = if sp c then rd l else l ++ [c] := by
  unfold rd
  rw [List.reverse_append]
  simp only [List.reverse_singleton, List.singleton_append]
  by_cases h : sp c
  · rw [List.dropWhile_cons_of_pos h, if_pos h]
  · rw [List.dropWhile_cons_of_neg h, if_neg h]
    simp
theorem trim_l1 : ∀ (n : Nat) (s : ByteArray) (k : Nat), s.size = n → s.size < 4611686018427387904 → n + 1 ≤ k → turnbuckleref17_Trim.l1 k s = some (mk (rd (D s)))
  | 0, s, k, hn, hb, hk => by
    obtain ⟨k, rfl⟩ : ∃ k', k = k' + 1 := ⟨k - 1, by omega⟩
    unfold turnbuckleref17_Trim.l1
    rw [if_neg (by omega)]
    have : D s = [] := List.eq_nil_of_length_eq_zero (by rw [D_len]; exact hn)
    rw [← mk_D s, this]
    rfl
  | n + 1, s, k, hn, hb, hk => by
    obtain ⟨k, rfl⟩ : ∃ k', k = k' + 1 := ⟨k - 1, by omega⟩
    have hl : (D s).length = n + 1 := by rw [D_len]; exact hn
    have hw : wrap64 ((s.size : Int) - 1) = (n : Int) := by unfold wrap64; omega
    have hd : D s = (D s).take n ++ [(D s)[n]'(by omega)] := by
      rw [← List.take_succ_eq_append_getElem (by omega), List.take_of_length_le (by omega)]
    have hdr : (D s).drop n = (D s)[n]'(by omega) :: [] := by
      rw [List.drop_eq_getElem_cons (by omega), List.drop_eq_nil_of_le (by omega)]
    have hbt := bt_D s n _ _ hdr
    unfold turnbuckleref17_Trim.l1
    rw [if_pos (by omega), hw, if_pos (by omega), if_pos (by omega), hbt]
    have hext : s.extract 0 (n : Int).toNat = mk ((D s).take n) := by rw [Int.toNat_natCast, ext_D, List.drop_zero]
    have hsz : (mk ((D s).take n)).size = n := by rw [mk_size, List.length_take]; omega
    have ih := trim_l1 n (mk ((D s).take n)) k hsz (by omega) (by omega)
    rw [D_mk] at ih
    have hr := rd_snoc ((D s).take n) ((D s)[n]'(by omega))
    rw [← hd] at hr
    have hsp := sp_iff ((D s)[n]'(by omega))
    by_cases h1 : (((D s)[n]'(by omega)).toNat : Int) = 32
    · rw [if_pos h1, if_pos (by omega), hext, ih, hr, if_pos (hsp.2 (.inl h1))]
    · rw [if_neg h1]
      by_cases h2 : (((D s)[n]'(by omega)).toNat : Int) = 9
      · rw [if_pos h2, if_pos (by omega), hext, ih, hr, if_pos (hsp.2 (.inr h2))]
      · rw [if_neg h2, hr, if_neg (fun h => by rcases hsp.1 h with h | h; exact h1 h; exact h2 h), mk_D]
theorem trim_j1 (k : Nat) (s : ByteArray) : turnbuckleref17_Trim.j1 (k + 1) s = turnbuckleref17_Trim.l1 k s := by rw [turnbuckleref17_Trim.j1]
theorem trim_l0 : ∀ (n : Nat) (s : ByteArray) (k : Nat), s.size = n → s.size < 4611686018427387904 → 2 * n + 4 ≤ k → turnbuckleref17_Trim.l0 k s = some (mk (rd ((D s).dropWhile sp)))
  | 0, s, k, hn, hb, hk => by
    obtain ⟨k, rfl⟩ : ∃ k', k = k' + 2 := ⟨k - 2, by omega⟩
    unfold turnbuckleref17_Trim.l0
    rw [if_neg (by omega), trim_j1, trim_l1 0 s k hn hb (by omega)]
    have : D s = [] := List.eq_nil_of_length_eq_zero (by rw [D_len]; exact hn)
    rw [this]
    rfl
  | n + 1, s, k, hn, hb, hk => by
    obtain ⟨k, rfl⟩ : ∃ k', k = k' + 2 := ⟨k - 2, by omega⟩
    have hl : (D s).length = n + 1 := by rw [D_len]; exact hn
    obtain ⟨c, t, hd⟩ : ∃ c t, D s = c :: t := by
      rcases h : D s with _ | ⟨c, t⟩
      · rw [h] at hl; cases hl
      · exact ⟨c, t, rfl⟩
    have hbt := bt_D s 0 c t (by rw [List.drop_zero]; exact hd)
    have hext : s.extract 1 s.size = mk t := by
      rw [ext_D, List.take_of_length_le (by rw [D_len]; exact Nat.le_refl _), hd]
      rfl
    have htl : t.length = n := by rw [hd] at hl; simpa using hl
    have hsz : (mk t).size = n := by rw [mk_size]; exact htl
    have ih := trim_l0 n (mk t) (k + 1) hsz (by omega) (by omega)
    rw [D_mk] at ih
    have hsp := sp_iff c
    unfold turnbuckleref17_Trim.l0
    rw [if_pos (by omega), if_pos (by omega), show (0 : Int) = ((0 : Nat) : Int) from rfl, hbt, hd]
    by_cases h1 : (c.toNat : Int) = 32
    · rw [if_pos h1, if_pos (by omega), hext, ih, List.dropWhile_cons_of_pos (hsp.2 (.inl h1))]
    · rw [if_neg h1]
      by_cases h2 : (c.toNat : Int) = 9
      · rw [if_pos h2, if_pos (by omega), hext, ih, List.dropWhile_cons_of_pos (hsp.2 (.inr h2))]
      · rw [if_neg h2]
        rw [trim_j1, trim_l1 (n + 1) s k hn hb (by omega), hd, List.dropWhile_cons_of_neg (fun h => by rcases hsp.1 h with h | h; exact h1 h; exact h2 h)]
theorem rtrim_f (s : ByteArray) (k : Nat) (hb : s.size < 4611686018427387904) (hk : 2 * s.size + 4 ≤ k) : turnbuckleref17_Trim.f k s = some (mk (tr (D s))) := by
  unfold turnbuckleref17_Trim.f
  rw [trim_l0 s.size s k rfl hb hk, tr_eq]

/-! ### one, Elements -/
theorem keep_cons (p : List UInt8) (ps : List (List UInt8)) : keep (p :: ps) = keep [p] ++ keep ps := by
  unfold keep
  simp only [List.map_cons, List.map_nil]
  cases h : (tr p).isEmpty <;> simp [h]
theorem keep_one (p : List UInt8) : keep [p] = if tr p = [] then [] else [mk (tr p)] := by
  unfold keep
  by_cases h : tr p = []
  · simp [h]
  · rw [if_neg h]
    cases he : (tr p).isEmpty
    · simp [he]
    · exact absurd (List.isEmpty_iff.1 he) h
theorem element_f (out : List ByteArray) (s : ByteArray) (k : Nat) (hb : s.size < 4611686018427387904) (hk : 2 * s.size + 4 ≤ k) (ho : out.length < 8796093022208) : turnbuckleref17_element.f k out s = some (out ++ keep [D s]) := by
  unfold turnbuckleref17_element.f
  rw [rtrim_f s k hb hk, Option.bind_some, mk_toList, keep_one]
  by_cases h : tr (D s) = []
  · rw [if_pos h, if_pos h, List.append_nil]
  · rw [if_neg h, if_neg h, if_pos ho]
theorem split_sk (c : UInt8) (t cur : List UInt8) (q : Bool) : split (c :: t) cur q true = split t (cur ++ [c]) q false := by rw [split, if_pos rfl]
theorem split_92 (t cur : List UInt8) : split (92 :: t) cur true false = split t (cur ++ [92]) true true := by rw [split]; rfl
theorem split_34 (t cur : List UInt8) (q : Bool) : split (34 :: t) cur q false = split t (cur ++ [34]) (!q) false := by cases q <;> (rw [split]; rfl)
theorem split_44f (t cur : List UInt8) : split (44 :: t) cur false false = cur :: split t [] false false := by rw [split]; rfl
theorem split_44t (t cur : List UInt8) : split (44 :: t) cur true false = split t (cur ++ [44]) true false := by rw [split]; rfl
theorem split_o (c : UInt8) (t cur : List UInt8) (q : Bool) (h34 : c ≠ 34) (h44 : c ≠ 44) (h92 : q = true → c ≠ 92) : split (c :: t) cur q false = split t (cur ++ [c]) q false := by
  have a := beq_eq_false_iff_ne.2 h34
  have b := beq_eq_false_iff_ne.2 h44
  rw [split, a, b]
  cases q
  · simp
  · have d := beq_eq_false_iff_ne.2 (h92 rfl)
    rw [d]; simp
/-- where the walk of one stands -/
structure At (s : ByteArray) (t cur : List UInt8) (i fr : Nat) : Prop where
  t : (D s).drop i = t
  cur : ((D s).drop fr).take (i - fr) = cur
  le : fr ≤ i
  fr : fr ≤ s.size
  i : i ≤ s.size + 1
theorem At.step {s : ByteArray} {c : UInt8} {t cur : List UInt8} {i fr : Nat} (h : At s (c :: t) cur i fr) : At s t (cur ++ [c]) (i + 1) fr ∧ i < s.size := by
  obtain ⟨h1, h2, h3, h4, h5⟩ := h
  obtain ⟨a, b, d⟩ := drop_step h1
  rw [D_len] at d
  refine ⟨⟨a, ?_, by omega, h4, by omega⟩, d⟩
  have h := (drop_step (l := (D s).drop fr) (i := i - fr) (c := c) (t := t) (by rw [List.drop_drop, show fr + (i - fr) = i by omega]; exact h1)).2.1
  rw [show i + 1 - fr = i - fr + 1 by omega, h, h2]
theorem At.cut {s : ByteArray} {c : UInt8} {t cur : List UInt8} {i fr : Nat} (h : At s (c :: t) cur i fr) : At s t [] (i + 1) (i + 1) := by
  obtain ⟨h1, h2⟩ := h.step
  exact ⟨h1.t, by simp, Nat.le_refl _, by omega, by omega⟩
theorem At.over {s : ByteArray} {cur : List UInt8} {i fr : Nat} (h : At s [] cur i fr) (hi : i ≤ s.size) : At s [] cur (i + 1) fr := by
  obtain ⟨h1, h2, h3, h4, h5⟩ := h
  have hl := List.drop_eq_nil_iff.1 h1
  rw [D_len] at hl
  refine ⟨List.drop_eq_nil_of_le (by rw [D_len]; omega), ?_, by omega, h4, by omega⟩
  rw [← h2, List.take_of_length_le (by rw [List.length_drop, D_len]; omega), List.take_of_length_le (by rw [List.length_drop, D_len]; omega)]
theorem At.end_ {s : ByteArray} {cur : List UInt8} {i fr : Nat} (h : At s [] cur i fr) : D (s.extract fr s.size) = cur ∧ s.size ≤ i := by
  obtain ⟨h1, h2, h3, h4, h5⟩ := h
  have hl := List.drop_eq_nil_iff.1 h1
  rw [D_len] at hl
  refine ⟨?_, hl⟩
  rw [ext_D, D_mk, List.take_of_length_le (by rw [D_len]; exact Nat.le_refl _), ← h2, List.take_of_length_le (by rw [List.length_drop, D_len]; omega)]
theorem At.mid {s : ByteArray} {t cur : List UInt8} {i fr : Nat} (h : At s t cur i fr) : D (s.extract fr i) = cur := by
  rw [ext_D, D_mk, List.drop_take, h.cur]
theorem ext_size (s : ByteArray) (a b : Nat) : (s.extract a b).size ≤ s.size := by rw [ext_D, mk_size, List.length_drop, List.length_take, D_len]; omega
/-- the loop says: what is so far, and the rest's -/
def Ones (s : ByteArray) (n : Nat) : Prop := ∀ (t : List UInt8) (i fr : Nat) (q : Bool) (acc : List ByteArray) (cur : List UInt8) (k : Nat), t.length ≤ n → At s t cur i fr → acc.length + t.length + 2 < 8796093022208 → 2 * n + 2 * s.size + 10 ≤ k →
  turnbuckleref17_one.l0 k s acc (fr : Int) q (i : Int) = some (acc ++ keep (split t cur q false))
theorem one_nil (s : ByteArray) (hs : s.size < 1099511627776) (i fr : Nat) (q : Bool) (acc : List ByteArray) (cur : List UInt8) (k : Nat) (h : At s [] cur i fr) (ha : acc.length + 2 < 8796093022208) (hk : 2 * s.size + 10 ≤ k) :
    turnbuckleref17_one.l0 k s acc (fr : Int) q (i : Int) = some (acc ++ keep (split [] cur q false)) := by
  obtain ⟨k, rfl⟩ : ∃ k', k = k' + 1 := ⟨k - 1, by omega⟩
  obtain ⟨he, hi⟩ := h.end_
  have hsz := ext_size s fr s.size
  have hf := h.fr
  have hw := element_f acc (s.extract fr s.size) k (by omega) (by omega) (by omega)
  have n1 : ¬ (i : Int) < (s.size : Int) := by omega
  have n2 : (0 : Int) ≤ (fr : Int) := by omega
  have n3 : (fr : Int) ≤ (s.size : Int) := by omega
  unfold turnbuckleref17_one.l0
  rw [if_neg n1, if_pos n2, if_pos n3, Int.toNat_natCast, hw, Option.bind_some, he]
  rfl
theorem one_j1 (s : ByteArray) (hs : s.size < 1099511627776) (n : Nat) (ih : Ones s n) (c : UInt8) (t : List UInt8) (i fr : Nat) (q : Bool) (acc : List ByteArray) (cur : List UInt8) (k : Nat) (h : At s (c :: t) cur i fr) (hn : t.length ≤ n) (ha : acc.length + t.length + 3 < 8796093022208) (hk : 2 * n + 2 * s.size + 10 ≤ k)
    (hq : q = true → c ≠ 92) : turnbuckleref17_one.j1 (k + 1) s acc (fr : Int) q (i : Int) false = some (acc ++ keep (split (c :: t) cur q false)) := by
  obtain ⟨h1, hil⟩ := h.step
  have hbt := bt_D s i c t h.t
  have hw1 : wrap64 ((i : Int) + 1) = ((i + 1 : Nat) : Int) := w64 i (by omega)
  have e34 := u8_eq c 34 (by omega)
  have e44 := u8_eq c 44 (by omega)
  have step : ∀ q', turnbuckleref17_one.l0 k s acc (fr : Int) q' ((i + 1 : Nat) : Int) = some (acc ++ keep (split t (cur ++ [c]) q' false)) := fun q' => ih t (i + 1) fr q' acc _ k hn h1 (by omega) hk
  have n1 : (0 : Int) ≤ (i : Int) := by omega
  have n2 : (i : Int) < (s.size : Int) := by omega
  have n3 : (0 : Int) ≤ (fr : Int) := by omega
  have n4 : (fr : Int) ≤ (i : Int) := by have := h.le; omega
  have n5 : (i : Int) ≤ (s.size : Int) := by omega
  rw [turnbuckleref17_one.j1, if_neg (show ¬ (false = true) from Bool.false_ne_true), if_pos n1, if_pos n2, hbt, hw1]
  by_cases h34 : (c.toNat : Int) = 34
  · have : c = 34 := e34.1 h34
    subst this
    rw [if_pos h34, step, split_34]
  · rw [if_neg h34]
    by_cases h44 : (c.toNat : Int) = 44
    · rw [if_pos h44]
      have : c = 44 := e44.1 h44
      subst this
      cases q with
      | true => rw [if_pos rfl, step, split_44t]
      | false =>
        have hsz := ext_size s fr i
        have hko : (keep [cur]).length ≤ 1 := by rw [keep_one]; split <;> simp
        have hw := element_f acc (s.extract fr i) k (by omega) (by omega) (by omega)
        rw [if_neg Bool.false_ne_true, if_pos n3, if_pos n4, if_pos n5, Int.toNat_natCast, Int.toNat_natCast, hw, Option.bind_some, h.mid, split_44f, keep_cons cur (split t [] false false),
          ih t (i + 1) (i + 1) false (acc ++ keep [cur]) [] k hn h.cut (by rw [List.length_append]; omega) hk, List.append_assoc]
    · rw [if_neg h44, step, split_o c t cur q (fun e => h34 (e34.2 e)) (fun e => h44 (e44.2 e)) hq]
theorem one_l0 (s : ByteArray) (hs : s.size < 1099511627776) : ∀ n, Ones s n
  | n, [], i, fr, q, acc, cur, k, hn, h, ha, hk => one_nil s hs i fr q acc cur k h (by simpa using ha) (by omega)
  | 0, c :: t, i, fr, q, acc, cur, k, hn, h, ha, hk => absurd hn (by simp)
  | n + 1, c :: t, i, fr, q, acc, cur, k, hn, h, ha, hk => by
    obtain ⟨k, rfl⟩ : ∃ k', k = k' + 2 := ⟨k - 2, by omega⟩
    have ih := one_l0 s hs n
    obtain ⟨h1, hil⟩ := h.step
    have hbt := bt_D s i c t h.t
    have hw1 : wrap64 ((i : Int) + 1) = ((i + 1 : Nat) : Int) := w64 i (by omega)
    have hw2 : wrap64 (((i + 1 : Nat) : Int) + 1) = ((i + 2 : Nat) : Int) := w64 (i + 1) (by omega)
    simp only [List.length_cons] at hn ha
    have e92 := u8_eq c 92 (by omega)
    have n1 : (0 : Int) ≤ (i : Int) := by omega
    have n2 : (i : Int) < (s.size : Int) := by omega
    rw [turnbuckleref17_one.l0, if_pos n2]
    cases q with
    | false => rw [if_neg Bool.false_ne_true]; exact one_j1 s hs n ih c t i fr false acc cur k h (by omega) (by omega) (by omega) (by simp)
    | true =>
      rw [if_pos rfl, if_pos n1, hbt]
      by_cases h92 : (c.toNat : Int) = 92
      · rw [show (((c.toNat : Int) == 92) : Bool) = true from beq_iff_eq.2 h92]
        have : c = 92 := e92.1 h92
        subst this
        rw [turnbuckleref17_one.j1, if_pos rfl, hw1, hw2, split_92]
        rcases t with _ | ⟨c2, t2⟩
        · exact ih [] (i + 2) fr true acc (cur ++ [92]) k (by simp) (h1.over (by omega)) (by simp at ha ⊢; omega) (by omega)
        · simp only [List.length_cons] at hn ha
          rw [split_sk]
          exact ih t2 (i + 2) fr true acc _ k (by omega) h1.step.1 (by omega) (by omega)
      · rw [show (((c.toNat : Int) == 92) : Bool) = false from beq_eq_false_iff_ne.2 h92]
        exact one_j1 s hs n ih c t i fr true acc cur k h (by omega) (by omega) (by omega) (fun _ e => h92 (e92.2 e))
theorem one_f' (s : ByteArray) (k : Nat) (hs : s.size < 1099511627776) (hk : 4 * s.size + 10 ≤ k) : turnbuckleref17_one.f k s = some (el (D s)) := by
  unfold turnbuckleref17_one.f
  have := one_l0 s hs s.size (D s) 0 0 false [] [] k (by rw [D_len]; exact Nat.le_refl _) ⟨rfl, by simp, Nat.le_refl _, Nat.zero_le _, by omega⟩ (by rw [D_len]; simp; omega) (by omega)
  rw [List.nil_append] at this
  exact this

theorem relems_l0 (vs : List ByteArray) (M : Nat) (hM : M < 1099511627776) (hv : ∀ v ∈ vs, v.size ≤ M) (hb : vs.length < 1099511627776) : ∀ (rest : List ByteArray) (i : Nat) (acc : List ByteArray) (k : Nat), vs.drop i = rest → acc.length + tot rest + 1 < 8796093022208 → rest.length + 4 * M + 12 ≤ k →
    turnbuckleref17_Elements.l0 k vs acc (i : Int) = some (acc ++ elements rest)
  | [], i, acc, k, h, ha, hk => by
    obtain ⟨k, rfl⟩ : ∃ k', k = k' + 1 := ⟨k - 1, by omega⟩
    have := drop_nil_len h
    unfold turnbuckleref17_Elements.l0
    rw [if_neg (by omega)]
    simp [elements]
  | v :: rest, i, acc, k, h, ha, hk => by
    obtain ⟨k, rfl⟩ : ∃ k', k = k' + 1 := ⟨k - 1, by omega⟩
    obtain ⟨h1, h2, h3⟩ := rdOf_at h
    simp only [tot, List.map_cons, List.sum_cons, List.length_cons] at ha hk
    have hel := el_len (D v)
    rw [D_len] at hel
    have hm : v.size ≤ M := hv v (by
      have : v ∈ vs.drop i := by rw [h]; simp
      exact List.mem_of_mem_drop this)
    have n1 : (i : Int) < (vs.length : Int) := by omega
    have n2 : (0 : Int) ≤ (i : Int) := by omega
    have n3 : acc.length + (el (D v)).length < 8796093022208 := by omega
    have ih := relems_l0 vs M hM hv hb rest (i + 1) (acc ++ el (D v)) k h2 (by rw [List.length_append]; unfold tot; omega) (by omega)
    unfold turnbuckleref17_Elements.l0
    rw [if_pos n1, if_pos n2, h1, one_f' v k (by omega) (by omega), Option.bind_some, if_pos n3, w64 i (by omega), ih]
    simp [elements]
theorem tot_mem : ∀ {vs : List ByteArray} {v : ByteArray}, v ∈ vs → v.size + 1 ≤ tot vs
  | [], v, h => by cases h
  | a :: t, v, h => by
    simp only [tot, List.map_cons, List.sum_cons]
    rcases List.mem_cons.1 h with rfl | h
    · omega
    · have := tot_mem h; unfold tot at this; omega
theorem tot_len : ∀ (vs : List ByteArray), vs.length ≤ tot vs
  | [] => by simp
  | a :: t => by have := tot_len t; unfold tot at *; simp only [List.map_cons, List.sum_cons, List.length_cons]; omega
theorem relems_f (vs : List ByteArray) (k : Nat) (hb : tot vs < 268435456) (hk : 5 * tot vs + 12 ≤ k) : turnbuckleref17_Elements.f k vs = some (elements vs) := by
  have h1 := tot_len vs
  have := relems_l0 vs (tot vs) (by omega) (fun v hv => by have := tot_mem hv; omega) (by omega) vs 0 [] k rfl (by simp; omega) (by omega)
  rw [List.nil_append] at this
  exact this

/-! ### All, Has, Vary, Texts, Matches -/
theorem rall_l0 (n : ByteArray) (l : List S59) (hl : l.length < 1099511627776) : ∀ (rest : List S59) (i : Nat) (acc : List ByteArray) (k : Nat), l.drop i = rest → acc.length + rest.length < 1099511627776 → rest.length + 1 ≤ k →
    turnbuckleref17_All.l0 k l n acc (i : Int) = some (acc ++ allL rest n)
  | [], i, acc, k, h, ha, hk => by
    obtain ⟨k, rfl⟩ : ∃ k', k = k' + 1 := ⟨k - 1, by omega⟩
    have := drop_nil_len h
    unfold turnbuckleref17_All.l0
    rw [if_neg (by omega)]
    simp [allL]
  | f :: rest, i, acc, k, h, ha, hk => by
    obtain ⟨k, rfl⟩ : ∃ k', k = k' + 1 := ⟨k - 1, by omega⟩
    obtain ⟨h1, h2, h3⟩ := rd59_at h
    simp only [List.length_cons] at ha hk
    unfold turnbuckleref17_All.l0
    rw [if_pos (by omega), if_pos (by omega), h1, w64 i (by omega), toL, toL]
    by_cases he : D f.f0 = D n
    · rw [if_pos he, if_pos (by omega), rall_l0 n l hl rest (i + 1) _ k h2 (by rw [List.length_append]; simp; omega) (by omega)]
      simp [allL, he]
    · rw [if_neg he, rall_l0 n l hl rest (i + 1) _ k h2 (by omega) (by omega)]
      simp [allL, he]
theorem rall_f (l : List S59) (n : ByteArray) (k : Nat) (hl : l.length < 1099511627776) (hk : l.length + 1 ≤ k) : turnbuckleref17_All.f k l n = some (allL l n) := by
  have := rall_l0 n l hl l 0 [] k rfl (by simp; omega) hk
  rw [List.nil_append] at this
  exact this
theorem rhas_l0 (s : ByteArray) (vs : List ByteArray) (hl : vs.length < 1099511627776) : ∀ (rest : List ByteArray) (i k : Nat), vs.drop i = rest → rest.length + 1 ≤ k → turnbuckleref17_Has.l0 k vs s (i : Int) = some (hasL rest s)
  | [], i, k, h, hk => by
    obtain ⟨k, rfl⟩ : ∃ k', k = k' + 1 := ⟨k - 1, by omega⟩
    have := drop_nil_len h
    unfold turnbuckleref17_Has.l0
    rw [if_neg (by omega)]
    rfl
  | v :: rest, i, k, h, hk => by
    obtain ⟨k, rfl⟩ : ∃ k', k = k' + 1 := ⟨k - 1, by omega⟩
    obtain ⟨h1, h2, h3⟩ := rdOf_at h
    simp only [List.length_cons] at hk
    unfold turnbuckleref17_Has.l0
    rw [if_pos (by omega), if_pos (by omega), h1, w64 i (by omega), toL, toL]
    by_cases he : D v = D s
    · rw [if_pos he]; simp [hasL, he]
    · rw [if_neg he, rhas_l0 s vs hl rest (i + 1) k h2 (by omega)]
      have : (D s == D v) = false := beq_eq_false_iff_ne.2 (fun e => he e.symm)
      simp [hasL, this]
theorem rhas_f (vs : List ByteArray) (s : ByteArray) (k : Nat) (hl : vs.length < 1099511627776) (hk : vs.length + 1 ≤ k) : turnbuckleref17_Has.f k vs s = some (hasL vs s) := rhas_l0 s vs hl vs 0 k rfl hk
def STAR : ByteArray := ⟨#[42]⟩
def vn : List ByteArray → List ByteArray → List ByteArray
  | [], out => out
  | e :: t, out => if hasL out (Pl.lowS e) then vn t out else vn t (out ++ [Pl.lowS e])
theorem vl_star : ∀ (es out : List ByteArray), hasL es STAR = true → vl es out = ([], true)
  | [], out, h => by simp [hasL] at h
  | e :: t, out, h => by
    unfold vl
    by_cases he : D e = [42]
    · rw [if_pos he]
    · rw [if_neg he]
      have ht : hasL t STAR = true := by
        have h2 : (D STAR == D e) = false := beq_eq_false_iff_ne.2 (fun e' => he (by rw [← e']; rfl))
        unfold hasL at h ⊢
        rw [List.any_cons, h2, Bool.false_or] at h
        exact h
      split
      · exact vl_star t _ ht
      · exact vl_star t _ ht
theorem vl_no : ∀ (es out : List ByteArray), hasL es STAR = false → vl es out = (vn es out, false)
  | [], out, h => rfl
  | e :: t, out, h => by
    unfold hasL at h
    rw [List.any_cons, Bool.or_eq_false_iff] at h
    have he : D e ≠ [42] := fun e' => by
      have := beq_eq_false_iff_ne.1 h.1
      exact this (by rw [e']; rfl)
    unfold vl vn
    rw [if_neg he]
    split
    · exact vl_no t _ h.2
    · exact vl_no t _ h.2
theorem rsm_f (e : ByteArray) (h : e.size ≤ 140737488355328) : Pl.rsmall.f e = some (Pl.lowS e) := by
  unfold Pl.rsmall.f
  rw [if_pos (by rw [show e.data.toList.length = e.size from D_len e]; exact h)]
theorem rvary_l0 (es : List ByteArray) (hl : es.length < 1099511627776) (hs : ∀ e ∈ es, e.size ≤ 140737488355328) : ∀ (rest : List ByteArray) (i : Nat) (out : List ByteArray) (k : Nat), es.drop i = rest → out.length + rest.length < 1099511627776 → out.length + 2 * rest.length + 2 ≤ k →
    turnbuckleref17_Vary.l0 k es out (i : Int) = some (vn rest out, false)
  | [], i, out, k, h, ha, hk => by
    obtain ⟨k, rfl⟩ : ∃ k', k = k' + 1 := ⟨k - 1, by omega⟩
    have := drop_nil_len h
    unfold turnbuckleref17_Vary.l0
    rw [if_neg (by omega)]
    rfl
  | e :: rest, i, out, k, h, ha, hk => by
    obtain ⟨k, rfl⟩ : ∃ k', k = k' + 1 := ⟨k - 1, by omega⟩
    obtain ⟨h1, h2, h3⟩ := rdOf_at h
    simp only [List.length_cons] at ha hk
    have he : e ∈ es := by
      have : e ∈ es.drop i := by rw [h]; simp
      exact List.mem_of_mem_drop this
    have hsm := rsm_f e (hs e he)
    unfold turnbuckleref17_Vary.l0
    rw [if_pos (by omega), if_pos (by omega), h1, w64 i (by omega), hsm, Option.bind_some, rhas_f out _ k (by omega) (by omega), Option.bind_some]
    unfold vn
    cases hh : hasL out (Pl.lowS e) with
    | true => rw [if_pos rfl, if_pos rfl]; exact rvary_l0 es hl hs rest (i + 1) out k h2 (by omega) (by omega)
    | false =>
      rw [if_neg Bool.false_ne_true, if_neg Bool.false_ne_true, Option.bind_some, if_pos (by omega)]
      exact rvary_l0 es hl hs rest (i + 1) _ k h2 (by rw [List.length_append]; simp; omega) (by rw [List.length_append]; simp; omega)
theorem rvary_f (l : List S59) (k : Nat) (hl : wt l < 268435456) (hk : 5 * wt l + 20 ≤ k) : turnbuckleref17_Vary.f k l = some (vary l) := by
  have h1 := wt_len l
  have h2 := tot_all l VARY
  have h3 := elements_len (allL l VARY)
  unfold turnbuckleref17_Vary.f
  rw [show (⟨#[118, 97, 114, 121]⟩ : ByteArray) = VARY from rfl, rall_f l VARY k (by omega) (by omega), Option.bind_some, relems_f _ k (by omega) (by omega), Option.bind_some,
    show (⟨#[42]⟩ : ByteArray) = STAR from rfl, rhas_f _ _ k (by omega) (by omega), Option.bind_some]
  unfold vary
  cases hh : hasL (elements (allL l VARY)) STAR with
  | true => rw [if_pos rfl, vl_star _ _ hh]
  | false =>
    rw [if_neg Bool.false_ne_true, vl_no _ _ hh]
    exact rvary_l0 _ (by omega) (fun e he => by have := elements_sizes _ e he; omega) _ 0 [] k rfl (by simp; omega) (by simp; omega)
end Go.Proofs.YtbnhlekehndhkaaGreatDoor.V

