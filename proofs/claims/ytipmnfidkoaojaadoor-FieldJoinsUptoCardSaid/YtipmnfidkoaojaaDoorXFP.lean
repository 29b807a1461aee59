import Derived.Test.YtipmnfidkoaojaaDoorXFv

/- FieldJoins: the plain law. -/
namespace Go.Proofs.YtipmnfidkoaojaaDoor.Fj
open Go.RowKit Go.Proofs.YtipmnfidkoaojaaDoorW.PrintWords Go.Proofs.YtipmnfidkoaojaaDoorW.PrintLast Go.Proofs.YtipmnfidkoaojaaDoorW.PrintMore Go.Proofs.YtipmnfidkoaojaaDoor.G
set_option linter.unusedVariables false
set_option linter.unusedSimpArgs false
/-- through a text: quoted, skipping; none at a comma outside of quotes -/
def scan : List UInt8 → Bool → Bool → Option (Bool × Bool)
  | [], q, sk => some (q, sk)
  | c :: t, q, sk => if sk then scan t q false else if q && c == 92 then scan t q true else if c == 34 then scan t (!q) false else if c == 44 && !q then none else scan t q false
theorem scan_cons (c : UInt8) (t : List UInt8) (q sk : Bool) : scan (c :: t) q sk = if sk then scan t q false else if q && c == 92 then scan t q true else if c == 34 then scan t (!q) false else if c == 44 && !q then none else scan t q false := rfl
theorem scan_app : ∀ (a b : List UInt8) (q sk : Bool), scan (a ++ b) q sk = (scan a q sk).bind fun r => scan b r.1 r.2
  | [], b, q, sk => rfl
  | c :: a, b, q, sk => by
    have ih := scan_app a b
    show scan (c :: (a ++ b)) q sk = _
    rw [scan_cons, scan_cons]
    split
    · exact ih _ _
    · split
      · exact ih _ _
      · split
        · exact ih _ _
        · split
          · rfl
          · exact ih _ _
/-- what stands ahead of a split's first cut, and the pieces behind it -/
theorem split_scan : ∀ (t cur : List UInt8) (q sk : Bool), scan cur false false = some (q, sk) → ∀ p ∈ V.split t cur q sk, scan p false false ≠ none
  | [], cur, q, sk, h, p, hp => by
    simp only [V.split, List.mem_singleton] at hp
    subst hp
    rw [h]; simp
  | c :: t, cur, q, sk, h, p, hp => by
    have step : ∀ q' sk', scan [c] q sk = some (q', sk') → scan (cur ++ [c]) false false = some (q', sk') := fun q' sk' e => by rw [scan_app, h]; exact e
    unfold V.split at hp
    split at hp
    · rename_i h1
      exact split_scan t _ _ _ (step _ _ (by rw [scan_cons, if_pos h1]; rfl)) p hp
    · rename_i h1
      split at hp
      · rename_i h2
        exact split_scan t _ _ _ (step _ _ (by rw [scan_cons, if_neg h1, if_pos h2]; rfl)) p hp
      · rename_i h2
        split at hp
        · rename_i h3
          exact split_scan t _ _ _ (step _ _ (by rw [scan_cons, if_neg h1, if_neg h2, if_pos h3]; rfl)) p hp
        · rename_i h3
          split at hp
          · rcases List.mem_cons.1 hp with rfl | hp
            · rw [h]; simp
            · exact split_scan t [] false false rfl p hp
          · rename_i h4
            exact split_scan t _ _ _ (step _ _ (by rw [scan_cons, if_neg h1, if_neg h2, if_neg h3, if_neg h4]; rfl)) p hp
theorem split_cons (c : UInt8) (t cur : List UInt8) (q sk : Bool) : V.split (c :: t) cur q sk = if sk then V.split t (cur ++ [c]) q false else if q && c == 92 then V.split t (cur ++ [c]) q true else if c == 34 then V.split t (cur ++ [c]) (!q) false else if c == 44 && !q then cur :: V.split t [] false false else V.split t (cur ++ [c]) q false := rfl
/-- a text without a bare comma that ends outside of quotes -/
theorem split_over : ∀ (e t cur : List UInt8) (q sk : Bool) (r : Bool × Bool), scan e q sk = some r → V.split (e ++ t) cur q sk = V.split t (cur ++ e) r.1 r.2
  | [], t, cur, q, sk, r, h => by
    simp only [scan, Option.some.injEq] at h
    subst h
    simp
  | c :: e, t, cur, q, sk, r, h => by
    have ih := fun q' sk' h' => split_over e t (cur ++ [c]) q' sk' r h'
    have ea : cur ++ c :: e = (cur ++ [c]) ++ e := by simp
    rw [ea]
    show V.split (c :: (e ++ t)) cur q sk = _
    rw [scan_cons] at h
    rw [split_cons]
    split at h
    · rename_i h1; rw [if_pos h1]; exact ih _ _ h
    · rename_i h1
      rw [if_neg h1]
      split at h
      · rename_i h2; rw [if_pos h2]; exact ih _ _ h
      · rename_i h2
        rw [if_neg h2]
        split at h
        · rename_i h3; rw [if_pos h3]; exact ih _ _ h
        · rename_i h3
          rw [if_neg h3]
          split at h
          · cases h
          · rename_i h4; rw [if_neg h4]; exact ih _ _ h
def gap (b : UInt8) : Bool := ([32, 9] : List UInt8).contains b
theorem scan_gaps : ∀ (l t : List UInt8), (∀ b ∈ l, gap b = true) → scan (l ++ t) false false = scan t false false
  | [], t, _ => rfl
  | c :: l, t, h => by
    have hc := h c (by simp)
    have h34 : (c == 34) = false := by rw [beq_eq_false_iff_ne]; rintro rfl; revert hc; decide
    have h44 : (c == 44) = false := by rw [beq_eq_false_iff_ne]; rintro rfl; revert hc; decide
    show scan (c :: (l ++ t)) false false = _
    rw [scan_cons]
    simp only [Bool.false_eq_true, if_false, Bool.false_and, h34, h44]
    exact scan_gaps l t (fun b hb => h b (by simp [hb]))
/-- a trimmed text within its text -/
theorem tr_parts (p : List UInt8) : ∃ l r, p = l ++ (V.tr p ++ r) ∧ (∀ b ∈ l, gap b = true) ∧ (∀ b ∈ r, gap b = true) := by
  unfold V.tr Lib.trimS Lib.trimLeftS Lib.trimRightS
  obtain ⟨u, hu⟩ : ∃ u, u = (p.reverse.dropWhile (([32, 9] : List UInt8).contains ·)).reverse := ⟨_, rfl⟩
  rw [← hu]
  refine ⟨u.takeWhile (([32, 9] : List UInt8).contains ·), (p.reverse.takeWhile (([32, 9] : List UInt8).contains ·)).reverse, ?_, ?_, ?_⟩
  · rw [← List.append_assoc, List.takeWhile_append_dropWhile, hu, ← List.reverse_append, List.takeWhile_append_dropWhile, List.reverse_reverse]
  · intro b hb
    exact List.all_eq_true.1 List.all_takeWhile b hb
  · intro b hb
    rw [List.mem_reverse] at hb
    exact List.all_eq_true.1 List.all_takeWhile b hb
/-- a text whose ends are no gaps -/
structure Tight (e : List UInt8) : Prop where
  ne : e ≠ []
  hd : ∀ c t, e = c :: t → gap c = false
  la : ∀ c t, e.reverse = c :: t → gap c = false
theorem dw_head {p : UInt8 → Bool} : ∀ (l : List UInt8) (x : UInt8) (t : List UInt8), l.dropWhile p = x :: t → p x = false
  | [], x, t, h => by cases h
  | y :: l, x, t, h => by
    cases hp : p y with
    | true => rw [List.dropWhile_cons_of_pos hp] at h; exact dw_head l x t h
    | false => rw [List.dropWhile_cons_of_neg (by simp [hp])] at h; simp only [List.cons.injEq] at h; rw [← h.1]; exact hp
theorem tr_tight (p : List UInt8) (h : V.tr p ≠ []) : Tight (V.tr p) := by
  unfold V.tr Lib.trimS Lib.trimLeftS Lib.trimRightS at h ⊢
  obtain ⟨u, hu⟩ : ∃ u, u = (p.reverse.dropWhile (([32, 9] : List UInt8).contains ·)).reverse := ⟨_, rfl⟩
  rw [← hu] at h ⊢
  refine ⟨h, fun c t e => dw_head _ _ _ e, fun c t e => ?_⟩
  have hur : u.reverse = p.reverse.dropWhile (([32, 9] : List UInt8).contains ·) := by rw [hu, List.reverse_reverse]
  have h2 : u.reverse = (u.dropWhile (([32, 9] : List UInt8).contains ·)).reverse ++ (u.takeWhile (([32, 9] : List UInt8).contains ·)).reverse := by
    rw [← List.reverse_append, List.takeWhile_append_dropWhile]
  rw [e] at h2
  rw [h2] at hur
  exact dw_head _ _ _ hur.symm
theorem dw_all {p : UInt8 → Bool} : ∀ (l r : List UInt8), (∀ b ∈ l, p b = true) → (l ++ r).dropWhile p = r.dropWhile p
  | [], r, _ => rfl
  | c :: l, r, h => by
    show (c :: (l ++ r)).dropWhile p = _
    rw [List.dropWhile_cons_of_pos (h c (by simp))]
    exact dw_all l r (fun b hb => h b (by simp [hb]))
theorem dw_stop {p : UInt8 → Bool} {e : List UInt8} (h0 : e ≠ []) (h : ∀ c t, e = c :: t → p c = false) (r : List UInt8) : (e ++ r).dropWhile p = e ++ r := by
  cases e with
  | nil => exact absurd rfl h0
  | cons c t =>
    show (c :: (t ++ r)).dropWhile p = _
    rw [List.dropWhile_cons_of_neg (by simp [h c t rfl])]
    rfl
theorem tr_pad {e : List UInt8} (h : Tight e) (l r : List UInt8) (hl : ∀ b ∈ l, gap b = true) (hr : ∀ b ∈ r, gap b = true) : V.tr (l ++ (e ++ r)) = e := by
  unfold V.tr Lib.trimS Lib.trimLeftS Lib.trimRightS
  rw [show (l ++ (e ++ r)).reverse = r.reverse ++ (e.reverse ++ l.reverse) by simp]
  show List.dropWhile gap (List.dropWhile gap (r.reverse ++ (e.reverse ++ l.reverse))).reverse = e
  rw [dw_all r.reverse _ (fun b hb => hr b (List.mem_reverse.1 hb)), dw_stop (by simpa using h.ne) h.la]
  rw [show (e.reverse ++ l.reverse).reverse = l ++ e by simp]
  rw [dw_all l _ hl]
  have := dw_stop h.ne h.hd []
  rw [List.append_nil] at this
  exact this
/-- an element that ends outside of quotes -/
structure Good (e : List UInt8) : Prop where
  ti : Tight e
  sc : scan e false false = some (false, false)
def sep : List UInt8 := [32, 44, 44, 32]
def jns (es : List (List UInt8)) : List UInt8 := es.flatMap fun e => sep ++ e
theorem keep_cons (p : List UInt8) (ps : List (List UInt8)) : V.keep (p :: ps) = (if (V.tr p).isEmpty then [] else [V.mk (V.tr p)]) ++ V.keep ps := by
  unfold V.keep
  simp only [List.map_cons, List.filter_cons]
  cases (V.tr p).isEmpty <;> simp
theorem keep_jns : ∀ (es : List (List UInt8)) (l e0 : List UInt8), (∀ b ∈ l, gap b = true) → Good e0 → (∀ e ∈ es, Good e) → V.keep (V.split (jns es) (l ++ e0) false false) = V.mk e0 :: es.map V.mk
  | [], l, e0, hl, h0, h => by
    show V.keep [l ++ e0] = _
    rw [keep_cons]
    have := tr_pad h0.ti l [] hl (by simp)
    rw [List.append_nil] at this
    rw [this, if_neg (by simp [List.isEmpty_iff, h0.ti.ne])]
    rfl
  | e :: es, l, e0, hl, h0, h => by
    have he := h e (by simp)
    have ih := keep_jns es [32] e (by simp [gap]) he (fun x hx => h x (by simp [hx]))
    have hj : jns (e :: es) = 32 :: 44 :: 44 :: 32 :: (e ++ jns es) := by simp [jns, sep]
    have h1 : V.split (jns (e :: es)) (l ++ e0) false false = (l ++ e0 ++ [32]) :: [] :: V.split (jns es) ([32] ++ e) false false := by
      rw [hj, split_cons]
      simp only [Bool.false_eq_true, if_false, Bool.false_and, Bool.not_false, Bool.and_true]
      rw [if_neg (by decide), if_neg (by decide), split_cons]
      simp only [Bool.false_eq_true, if_false, Bool.false_and, Bool.not_false, Bool.and_true]
      rw [if_neg (by decide), if_pos (by decide), split_cons]
      simp only [Bool.false_eq_true, if_false, Bool.false_and, Bool.not_false, Bool.and_true]
      rw [if_neg (by decide), if_pos (by decide), split_cons]
      simp only [Bool.false_eq_true, if_false, Bool.false_and, Bool.not_false, Bool.and_true]
      rw [if_neg (by decide), if_neg (by decide), List.nil_append, split_over e (jns es) [32] false false (false, false) he.sc]
    rw [h1, keep_cons, keep_cons, ih]
    have := tr_pad h0.ti l [32] hl (by simp [gap])
    rw [List.append_assoc, this, if_neg (by simp [List.isEmpty_iff, h0.ti.ne])]
    rfl
def joined : List (List UInt8) → List UInt8
  | [] => []
  | e :: es => e ++ jns es
theorem joined_snoc (es : List (List UInt8)) (i : Nat) (e : List UInt8) (h : es[i]? = some e) : joined (es.take (i + 1)) = (if 0 < i then joined (es.take i) ++ sep else joined (es.take i)) ++ e := by
  cases es with
  | nil => simp at h
  | cons x es =>
    cases i with
    | zero =>
      simp only [List.getElem?_cons_zero, Option.some.injEq] at h
      subst h
      simp [joined, jns]
    | succ i =>
      simp only [List.getElem?_cons_succ] at h
      obtain ⟨hi, rfl⟩ := List.getElem?_eq_some_iff.1 h
      rw [if_pos (by omega)]
      simp only [List.take_succ_cons, joined]
      have e1 : es.take (i + 1) = es.take i ++ [es[i]] := (List.take_append_getElem hi).symm
      have e2 : jns (es.take i ++ [es[i]]) = jns (es.take i) ++ (sep ++ es[i]) := by
        unfold jns
        rw [List.flatMap_append]
        simp only [List.flatMap_cons, List.flatMap_nil, List.append_nil]
      rw [e1, e2]
      simp only [List.append_assoc]
theorem el_joined (es : List (List UInt8)) (h : ∀ e ∈ es, Good e) : V.el (joined es) = es.map V.mk := by
  unfold V.el
  cases es with
  | nil => decide
  | cons e es =>
    unfold joined
    have he := h e (by simp)
    rw [split_over e (jns es) [] false false (false, false) he.sc, List.nil_append]
    exact keep_jns es [] e (by simp) he (fun x hx => h x (by simp [hx]))
/-- what an element is -/
structure Elem (e : List UInt8) : Prop where
  ti : Tight e
  sc : scan e false false ≠ none
theorem elem_of (vs : List ByteArray) : ∀ e ∈ V.elements vs, Elem (V.D e) := by
  intro e he
  unfold V.elements at he
  rw [List.mem_flatMap] at he
  obtain ⟨v, _, he⟩ := he
  unfold V.el V.keep at he
  rw [List.mem_map] at he
  obtain ⟨m, hm, rfl⟩ := he
  rw [List.mem_filter, List.mem_map] at hm
  obtain ⟨⟨p, hp, rfl⟩, hne⟩ := hm
  rw [V.D_mk]
  have h0 : V.tr p ≠ [] := by
    intro h
    rw [h] at hne
    simp at hne
  refine ⟨tr_tight p h0, ?_⟩
  have h1 := split_scan (V.D v) [] false false rfl p hp
  obtain ⟨l, r, hpe, hl, hr⟩ := tr_parts p
  rw [hpe, scan_gaps l _ hl, scan_app] at h1
  intro h2
  rw [h2] at h1
  exact h1 rfl
theorem elements_app (a b : List ByteArray) : V.elements (a ++ b) = V.elements a ++ V.elements b := by
  unfold V.elements
  rw [List.flatMap_append]
end Go.Proofs.YtipmnfidkoaojaaDoor.Fj

