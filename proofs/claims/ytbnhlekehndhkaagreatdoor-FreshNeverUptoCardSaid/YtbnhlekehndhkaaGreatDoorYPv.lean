import Derived.Test.YtbnhlekehndhkaaGreatDoorYGxf51
import Derived.Test.YtbnhlekehndhkaaGreatDoorYGA


/- (not yet a claim) what the program's vary says: plain lists of bytes -/
namespace Go.Proofs.YtbnhlekehndhkaaGreatDoor.V
open Go.RowKit Go.Proofs.YtbnhlekehndhkaaGreatDoorW.PrintWords Go.Proofs.YtbnhlekehndhkaaGreatDoorW.PrintLast Go.Proofs.YtbnhlekehndhkaaGreatDoorW.PrintMore Go.Proofs.YtbnhlekehndhkaaGreatDoor.G
set_option linter.unusedVariables false
set_option linter.unusedSimpArgs false

theorem w64 (i : Nat) (h : i < 4611686018427387904) : wrap64 ((i : Int) + 1) = ((i + 1 : Nat) : Int) := by unfold wrap64; omega
/-- a text's bytes, and back -/
def D (s : ByteArray) : List UInt8 := s.data.toList
def mk (l : List UInt8) : ByteArray := ⟨l.toArray⟩
theorem D_mk (l : List UInt8) : D (mk l) = l := by simp [D, mk]
theorem mk_D (s : ByteArray) : mk (D s) = s := by cases s; simp [D, mk]
theorem D_len (s : ByteArray) : (D s).length = s.size := data_length s
theorem toL (s : ByteArray) : s.toList = D s := ByteArray.toList_eq s
theorem bt_D (s : ByteArray) (i : Nat) (c : UInt8) (t : List UInt8) (h : (D s).drop i = c :: t) : bt s (i : Int) = (c.toNat : Int) := by
  have hl : i < (D s).length := by
    rcases Nat.lt_or_ge i (D s).length with hl | hl
    · exact hl
    · rw [List.drop_eq_nil_of_le hl] at h; cases h
  have hg : (D s)[i] = c := by
    rw [List.drop_eq_getElem_cons hl] at h
    exact (List.cons.inj h).1
  have hi : (i : Int).toNat < s.size := by rw [Int.toNat_natCast, ← D_len]; exact hl
  unfold bt
  rw [dif_pos hi, ← hg]
  simp [D]
  rfl
theorem ext_D (s : ByteArray) (a b : Nat) : s.extract a b = mk (((D s).take b).drop a) := by
  have h : (s.extract a b).data = s.data.extract a b := ByteArray.data_extract ..
  rw [← mk_D (s.extract a b)]
  congr 1
  unfold D
  rw [h, Array.toList_extract]
  simp [List.extract, List.drop_take]

/-- it ends in r, with enough steps -/
def Ev {α : Type} (f : Nat → Option α) (r : α) : Prop := ∃ K, ∀ k, K ≤ k → f k = some r
theorem Ev.of {α : Type} {f : Nat → Option α} {r : α} (K : Nat) (h : f K = some r) (hm : ∀ k, LeO (f k) (f (k + 1))) : Ev f r := by
  refine ⟨K, fun k hk => ?_⟩
  induction k with
  | zero => obtain rfl : K = 0 := by omega
            exact h
  | succ k ih =>
    rcases Nat.lt_or_ge k K with hlt | hge
    · obtain rfl : K = k + 1 := by omega
      exact h
    · exact hm k r (ih hge)

/-! ### next -/
def nx : List UInt8 → List UInt8 → Bool → Bool → List UInt8 × Option (List UInt8)
  | [], cur, _, _ => (cur, none)
  | c :: t, cur, q, sk => if sk then nx t (cur ++ [c]) q false else if q && c == 92 then nx t (cur ++ [c]) q true else if c == 34 then nx t (cur ++ [c]) (!q) false else if c == 44 && !q then (cur, some t) else nx t (cur ++ [c]) q false
theorem nx_len : ∀ (t cur : List UInt8) (q sk : Bool) (r : List UInt8), (nx t cur q sk).2 = some r → r.length < t.length
  | [], _, _, _, r, h => by simp [nx] at h
  | c :: t, cur, q, sk, r, h => by
    unfold nx at h
    split at h
    · have := nx_len t _ _ _ r h; simp; omega
    · split at h
      · have := nx_len t _ _ _ r h; simp; omega
      · split at h
        · have := nx_len t _ _ _ r h; simp; omega
        · split at h
          · simp at h; subst h; simp
          · have := nx_len t _ _ _ r h; simp; omega
def after (o : Option (List UInt8)) : List UInt8 := o.getD []
theorem drop_step {l : List UInt8} {i : Nat} {c : UInt8} {t : List UInt8} (h : l.drop i = c :: t) : l.drop (i + 1) = t ∧ l.take (i + 1) = l.take i ++ [c] ∧ i < l.length := by
  have hl : i < l.length := by
    rcases Nat.lt_or_ge i l.length with hl | hl
    · exact hl
    · rw [List.drop_eq_nil_of_le hl] at h; cases h
  rw [List.drop_eq_getElem_cons hl] at h
  injection h with h1 h2
  exact ⟨h2, by rw [List.take_succ_eq_append_getElem hl, h1], hl⟩
theorem u8_eq (c : UInt8) (n : Nat) (hn : n < 256) : ((c.toNat : Int) = (n : Int)) ↔ c = UInt8.ofNat n := by
  constructor
  · intro h
    apply UInt8.toNat_inj.1
    rw [UInt8.toNat_ofNat']
    omega
  · rintro rfl
    rw [UInt8.toNat_ofNat']
    omega
theorem next_l0 (s : ByteArray) (hs : s.size < 4611686018427387904) : ∀ (t : List UInt8) (i : Nat) (q sk : Bool) (k : Nat), (D s).drop i = t → i ≤ s.size → 2 * t.length + 1 ≤ k →
    field_next.l0 k s q sk (s.size : Int) (i : Int) = some (mk (nx t ((D s).take i) q sk).1, mk (after (nx t ((D s).take i) q sk).2))
  | [], i, q, sk, k, ht, hi, hk => by
    obtain ⟨k, rfl⟩ : ∃ k', k = k' + 1 := ⟨k - 1, by omega⟩
    have hl : (D s).length ≤ i := List.drop_eq_nil_iff.1 ht
    rw [D_len] at hl
    unfold field_next.l0
    rw [if_neg (by omega)]
    simp only [nx, after, Option.getD_none]
    rw [List.take_of_length_le (by rw [D_len]; exact hl), mk_D]
    rfl
  | c :: t, i, q, sk, k, ht, hi, hk => by
    obtain ⟨h1, h2, h3⟩ := drop_step ht
    rw [D_len] at h3
    simp only [List.length_cons] at hk
    obtain ⟨k, rfl⟩ : ∃ k', k = k' + 2 := ⟨k - 2, by omega⟩
    have hb := bt_D s i c t ht
    have hw := w64 i (by omega)
    have ih := fun q sk => next_l0 s hs t (i + 1) q sk k h1 (by omega) (by omega)
    have ih1 := fun q sk => next_l0 s hs t (i + 1) q sk (k + 1) h1 (by omega) (by omega)
    rw [h2] at ih ih1
    unfold field_next.l0
    rw [if_pos (by omega), if_pos (by omega), if_pos (by omega), hw]
    have hj : ∀ b : Bool, sk = false → (b = (q && c == 92)) → field_next.j1 (k + 1) s q sk (i : Int) (bt s (i : Int)) (s.size : Int) (i : Int) b = some (mk (nx (c :: t) ((D s).take i) q sk).1, mk (after (nx (c :: t) ((D s).take i) q sk).2)) := by
      intro b hsk hbb
      subst hsk
      unfold field_next.j1 nx
      rw [hb, hw]
      simp only [Bool.false_eq_true, if_false]
      rw [← hbb]
      cases b with
      | true => simp only [if_true]; exact ih q true
      | false =>
        simp only [Bool.false_eq_true, if_false]
        by_cases h34 : c = 34
        · subst h34
          rw [if_pos (by decide), if_pos (by decide)]
          exact ih (!q) false
        · rw [if_neg (by rw [show (34 : Int) = ((34 : Nat) : Int) from rfl, u8_eq c 34 (by omega)]; exact h34), if_neg (show ¬ (c == 34) = true by simpa using h34)]
          by_cases h44 : c = 44
          · subst h44
            rw [if_pos (show ((UInt8.toNat 44 : Nat) : Int) = 44 by decide)]
            cases q with
            | true =>
              rw [if_pos rfl, if_neg (show ¬ ((44 : UInt8) == 44 && !true) = true by decide)]
              exact ih true false
            | false =>
              rw [if_neg (show ¬ false = true by decide), if_pos (show ((44 : UInt8) == 44 && !false) = true by decide), if_pos (by omega), if_pos (by omega), if_pos (by omega), if_pos (by omega)]
              simp only [after, Option.getD_some, Int.toNat_natCast]
              rw [ext_D, ext_D, List.drop_zero, show (D s).take s.size = D s from List.take_of_length_le (by rw [D_len]; exact Nat.le_refl _), h1]
          · rw [if_neg (by rw [show (44 : Int) = ((44 : Nat) : Int) from rfl, u8_eq c 44 (by omega)]; exact h44), if_neg (show ¬ (c == 44 && !q) = true by simp [h44])]
            exact ih q false
    cases sk with
    | true =>
      rw [if_pos rfl]
      have := ih1 q false
      simp only [nx, if_true]
      exact this
    | false =>
      rw [if_neg (by decide)]
      cases q with
      | true => rw [if_pos rfl]; exact hj _ rfl (by rw [hb]; simp only [Bool.true_and]; rw [Bool.eq_iff_iff]; simp only [beq_iff_eq]; rw [show (92 : Int) = ((92 : Nat) : Int) from rfl, u8_eq c 92 (by omega)]; rfl)
      | false => rw [if_neg (by decide)]; exact hj _ rfl (by simp)
theorem next_ev (s : ByteArray) (hs : s.size < 4611686018427387904) (k : Nat) (hk : 2 * s.size + 1 ≤ k) : field_next.f k s = some (mk (nx (D s) [] false false).1, mk (after (nx (D s) [] false false).2)) := by
  have := next_l0 s hs (D s) 0 false false k rfl (by omega) (by rw [D_len]; exact hk)
  rw [List.take_zero] at this
  exact this

/-! ### elements -/
def split : List UInt8 → List UInt8 → Bool → Bool → List (List UInt8)
  | [], cur, _, _ => [cur]
  | c :: t, cur, q, sk => if sk then split t (cur ++ [c]) q false else if q && c == 92 then split t (cur ++ [c]) q true else if c == 34 then split t (cur ++ [c]) (!q) false else if c == 44 && !q then cur :: split t [] false false else split t (cur ++ [c]) q false
def tr (p : List UInt8) : List UInt8 := Lib.trimS p [32, 9]
def keep (ps : List (List UInt8)) : List ByteArray := ((ps.map tr).filter (fun p => !p.isEmpty)).map mk
def el (v : List UInt8) : List ByteArray := keep (split v [] false false)
def more : Option (List UInt8) → List (List UInt8)
  | none => []
  | some r => split r [] false false
theorem split_nx : ∀ (t cur : List UInt8) (q sk : Bool), split t cur q sk = (nx t cur q sk).1 :: more (nx t cur q sk).2
  | [], cur, q, sk => by simp [split, nx, more]
  | c :: t, cur, q, sk => by
    unfold split nx
    split
    · exact split_nx t _ _ _
    · split
      · exact split_nx t _ _ _
      · split
        · exact split_nx t _ _ _
        · split
          · rfl
          · exact split_nx t _ _ _
theorem el_nil : el [] = [] := by decide
theorem trim_f (s : ByteArray) (h : s.size ≤ 140737488355328) : Pl.trim.f s ⟨#[32, 9]⟩ = some (mk (tr (D s))) := by
  unfold Pl.trim.f
  rw [if_pos ⟨rfl, h⟩]
  rfl
theorem nx1_len : ∀ (t cur : List UInt8) (q sk : Bool), (nx t cur q sk).1.length ≤ cur.length + t.length
  | [], cur, _, _ => by simp [nx]
  | c :: t, cur, q, sk => by
    unfold nx
    have h := fun q sk => nx1_len t (cur ++ [c]) q sk
    simp only [List.length_append, List.length_singleton] at h
    split
    · have := h q false; simp; omega
    · split
      · have := h q true; simp; omega
      · split
        · have := h (!q) false; simp; omega
        · split
          · simp
          · have := h q false; simp; omega
theorem elements_mono (k : Nat) (y0 : List ByteArray) (y1 : ByteArray) (y2 : List ByteArray) (y3 y4 : Int) : LeO (field_Elements.l1 k y0 y1 y2 y3 y4) (field_Elements.l1 (k + 1) y0 y1 y2 y3 y4) := (field_Elements.mono_l k).2 y0 y1 y2 y3 y4
theorem mk_size (l : List UInt8) : (mk l).size = l.length := by rw [← D_len, D_mk]
theorem mk_toList (l : List UInt8) : (mk l).toList = l := by rw [toL, D_mk]
theorem l1_ev (vs : List ByteArray) (idx : Int) (hw : wrap64 (idx + 1) = idx + 1) : ∀ (n : Nat) (v : List UInt8) (acc : List ByteArray) (r : List ByteArray), v.length ≤ n → v.length < 1099511627776 → acc.length + v.length + 1 < 8796093022208 →
    Ev (fun k => field_Elements.l0 k (acc ++ el v) vs (vs.length : Int) (idx + 1)) r → Ev (fun k => field_Elements.l1 k acc (mk v) vs (vs.length : Int) idx) r
  | n, [], acc, r, _, _, _, h => by
    obtain ⟨K, h⟩ := h
    refine Ev.of (K + 1) ?_ (fun k => elements_mono k _ _ _ _ _)
    show field_Elements.l1 (K + 1) acc (mk []) vs vs.length idx = some r
    unfold field_Elements.l1
    rw [if_pos (by rw [mk_toList]), hw]
    have := h K (Nat.le_refl _)
    rw [el_nil, List.append_nil] at this
    exact this
  | 0, c :: t, acc, r, hn, _, _, h => by simp at hn
  | n + 1, c :: t, acc, r, hn, hv, ha, h => by
    obtain ⟨v, hvv⟩ : ∃ v, v = c :: t := ⟨_, rfl⟩
    rw [← hvv] at hn hv ha h ⊢
    have hne : v ≠ [] := by rw [hvv]; simp
    obtain ⟨o, ho⟩ : ∃ o, o = (nx v [] false false).2 := ⟨_, rfl⟩
    obtain ⟨p, hp⟩ : ∃ p, p = (nx v [] false false).1 := ⟨_, rfl⟩
    have hpl := nx1_len v [] false false
    rw [← hp, List.length_nil] at hpl
    have hol : (after o).length < v.length := by
      cases ho' : o with
      | none => simp [after]; exact List.length_pos_iff.2 hne
      | some r => exact nx_len v [] false false r (by rw [← ho, ho'])
    have hel : el v = keep [p] ++ el (after o) := by
      unfold el
      rw [split_nx, ← hp, ← ho]
      cases o with
      | none => simp [more, after, keep, split, tr]; rfl
      | some r =>
        simp only [more, after, keep, Option.getD_some, List.map_cons, List.map_nil]
        rw [show tr p :: (split r [] false false).map tr = [tr p] ++ (split r [] false false).map tr from rfl, List.filter_append, List.map_append]
    have hk1 : (keep [p]).length ≤ 1 := by
      unfold keep
      simp only [List.map_cons, List.map_nil, List.length_map]
      exact Nat.le_trans (List.length_filter_le _ _) (by simp)
    rw [hel, ← List.append_assoc] at h
    obtain ⟨K1, h1⟩ := l1_ev vs idx hw n (after o) (acc ++ keep [p]) r (by omega) (by omega) (by rw [List.length_append]; omega) h
    refine Ev.of (K1 + 2 * v.length + 2) ?_ (fun k => elements_mono k _ _ _ _ _)
    show field_Elements.l1 (K1 + 2 * v.length + 2) acc (mk v) vs vs.length idx = some r
    obtain ⟨k2, hk2⟩ : ∃ k2, K1 + 2 * v.length + 2 = k2 + 1 := ⟨K1 + 2 * v.length + 1, rfl⟩
    rw [hk2]
    unfold field_Elements.l1
    rw [if_neg (by rw [mk_toList]; exact hne), next_ev (mk v) (by rw [mk_size]; omega) k2 (by rw [mk_size]; omega), Option.bind_some, D_mk, ← hp, ← ho]
    simp only
    have h2 := h1 k2 (by omega)
    simp only at h2
    rw [trim_f (mk p) (by rw [mk_size]; omega), Option.bind_some, D_mk]
    simp only [mk_toList]
    by_cases he : tr p = []
    · rw [if_pos he]
      rw [show keep [p] = [] by simp [keep, he], List.append_nil] at h2
      exact h2
    · rw [if_neg he, Option.bind_some, if_pos (by omega)]
      rw [show keep [p] = [mk (tr p)] by simp [keep, he]] at h2
      exact h2
def elements (vs : List ByteArray) : List ByteArray := vs.flatMap fun v => el (D v)
def tot (vs : List ByteArray) : Nat := (vs.map (fun v => v.size + 1)).sum
theorem el_len (v : List UInt8) : (el v).length ≤ v.length + 1 := by
  have : ∀ (t cur : List UInt8) (q sk : Bool), (split t cur q sk).length ≤ t.length + 1 := by
    intro t
    induction t with
    | nil => intro cur q sk; simp [split]
    | cons c t ih =>
      intro cur q sk
      unfold split
      have h := fun cur q sk => ih cur q sk
      (repeat' split) <;> simp only [List.length_cons] <;> first | exact Nat.le_succ_of_le (h _ _ _) | exact Nat.succ_le_succ (h _ _ _)
  unfold el keep
  rw [List.length_map]
  refine Nat.le_trans (List.length_filter_le _ _) ?_
  rw [List.length_map]
  exact this v [] false false
theorem l0_ev (vs : List ByteArray) (hb : vs.length < 1099511627776) : ∀ (rest : List ByteArray) (i : Nat) (acc : List ByteArray), vs.drop i = rest → acc.length + tot rest + 1 < 1099511627776 → Ev (fun k => field_Elements.l0 k acc vs (vs.length : Int) (i : Int)) (acc ++ elements rest)
  | [], i, acc, hr, ha => by
    have hl : vs.length ≤ i := List.drop_eq_nil_iff.1 hr
    refine Ev.of 1 ?_ (fun k => (field_Elements.mono_l k).1 _ _ _ _)
    show field_Elements.l0 1 acc vs vs.length i = _
    unfold field_Elements.l0
    rw [if_neg (by omega)]
    simp [elements]
  | v :: rest, i, acc, hr, ha => by
    have hl : i < vs.length := by
      rcases Nat.lt_or_ge i vs.length with hl | hl
      · exact hl
      · rw [List.drop_eq_nil_of_le hl] at hr; cases hr
    have hg : vs[i] = v ∧ vs.drop (i + 1) = rest := by
      rw [List.drop_eq_getElem_cons hl] at hr
      exact List.cons.inj hr
    simp only [tot, List.map_cons, List.sum_cons] at ha
    have hel := el_len (D v)
    rw [D_len] at hel
    have ih := l0_ev vs hb rest (i + 1) (acc ++ el (D v)) hg.2 (by rw [List.length_append]; unfold tot; omega)
    have h1 := l1_ev vs (i : Int) (by unfold wrap64; omega) (D v).length (D v) acc _ (Nat.le_refl _) (by rw [D_len]; omega) (by rw [D_len]; omega) (by
      have : ((i : Int) + 1) = ((i + 1 : Nat) : Int) := by omega
      rw [this]
      exact ih)
    obtain ⟨K, h1⟩ := h1
    refine Ev.of (K + 1) ?_ (fun k => (field_Elements.mono_l k).1 _ _ _ _)
    show field_Elements.l0 (K + 1) acc vs vs.length i = _
    unfold field_Elements.l0
    have hrd : rdOf ByteArray.empty vs (i : Int) = v := by
      unfold rdOf
      rw [Int.toNat_natCast, List.getD_eq_getElem?_getD, List.getElem?_eq_getElem hl, Option.getD_some, hg.1]
    rw [if_pos (by omega), if_pos (by omega), if_pos (by omega), hrd]
    have := h1 K (Nat.le_refl _)
    simp only [mk_D] at this
    rw [this]
    simp [elements]
theorem elements_ev (vs : List ByteArray) (hb : tot vs + 1 < 1099511627776) : Ev (fun k => field_Elements.f k vs) (elements vs) := by
  have hl : vs.length ≤ tot vs := by
    unfold tot
    clear hb
    induction vs with
    | nil => simp
    | cons v t ih => simp only [List.map_cons, List.sum_cons, List.length_cons]; omega
  have := l0_ev vs (by omega) vs 0 [] rfl (by simp; omega)
  rw [List.nil_append] at this
  exact this

/-! ### the fields' values, what is among them -/
theorem rdOf_at {vs : List ByteArray} {i : Nat} {v : ByteArray} {rest : List ByteArray} (h : vs.drop i = v :: rest) : rdOf ByteArray.empty vs (i : Int) = v ∧ vs.drop (i + 1) = rest ∧ i < vs.length := by
  have hl : i < vs.length := by
    rcases Nat.lt_or_ge i vs.length with hl | hl
    · exact hl
    · rw [List.drop_eq_nil_of_le hl] at h; cases h
  rw [List.drop_eq_getElem_cons hl] at h
  obtain ⟨h1, h2⟩ := List.cons.inj h
  refine ⟨?_, h2, hl⟩
  unfold rdOf
  rw [Int.toNat_natCast, List.getD_eq_getElem?_getD, List.getElem?_eq_getElem hl, Option.getD_some, h1]
theorem rd59_at {vs : List S59} {i : Nat} {v : S59} {rest : List S59} (h : vs.drop i = v :: rest) : rd_T59 vs (i : Int) = v ∧ vs.drop (i + 1) = rest ∧ i < vs.length := by
  have hl : i < vs.length := by
    rcases Nat.lt_or_ge i vs.length with hl | hl
    · exact hl
    · rw [List.drop_eq_nil_of_le hl] at h; cases h
  rw [List.drop_eq_getElem_cons hl] at h
  obtain ⟨h1, h2⟩ := List.cons.inj h
  refine ⟨?_, h2, hl⟩
  unfold rd_T59
  rw [Int.toNat_natCast, List.getD_eq_getElem?_getD, List.getElem?_eq_getElem hl, Option.getD_some, h1]
theorem drop_nil_len {α : Type} {vs : List α} {i : Nat} (h : vs.drop i = []) : vs.length ≤ i := List.drop_eq_nil_iff.1 h
def allL (l : List S59) (n : ByteArray) : List ByteArray := (l.filter (fun f => D f.f0 == D n)).map S59.f1
theorem all_l0 (n : ByteArray) (l : List S59) (hl : l.length < 1099511627776) : ∀ (rest : List S59) (i : Nat) (acc : List ByteArray) (k : Nat), l.drop i = rest → acc.length + rest.length < 1099511627776 → rest.length + 1 ≤ k →
    field_All.l0 k n acc l (l.length : Int) (i : Int) = some (acc ++ allL rest n)
  | [], i, acc, k, h, ha, hk => by
    obtain ⟨k, rfl⟩ : ∃ k', k = k' + 1 := ⟨k - 1, by omega⟩
    have := drop_nil_len h
    unfold field_All.l0
    rw [if_neg (by omega)]
    simp [allL]
  | f :: rest, i, acc, k, h, ha, hk => by
    obtain ⟨k, rfl⟩ : ∃ k', k = k' + 1 := ⟨k - 1, by omega⟩
    obtain ⟨h1, h2, h3⟩ := rd59_at h
    simp only [List.length_cons] at ha hk
    unfold field_All.l0
    rw [if_pos (by omega), if_pos (by omega), if_pos (by omega), h1, w64 i (by omega), toL, toL]
    by_cases he : D f.f0 = D n
    · rw [if_pos he, if_pos (by omega), all_l0 n l hl rest (i + 1) _ k h2 (by rw [List.length_append]; simp; omega) (by omega)]
      simp [allL, he]
    · rw [if_neg he, all_l0 n l hl rest (i + 1) _ k h2 (by omega) (by omega)]
      simp [allL, he]
theorem all_f (l : List S59) (n : ByteArray) (k : Nat) (hl : l.length < 1099511627776) (hk : l.length + 1 ≤ k) : field_All.f k l n = some (allL l n) := by
  have := all_l0 n l hl l 0 [] k rfl (by simp; omega) hk
  rw [List.nil_append] at this
  exact this
def hasL (vs : List ByteArray) (s : ByteArray) : Bool := vs.any fun v => D s == D v
theorem index_l0 (s : ByteArray) (vs : List ByteArray) (hl : vs.length < 1099511627776) : ∀ (rest : List ByteArray) (i k : Nat), vs.drop i = rest → rest.length + 1 ≤ k →
    ∃ j, slices_Index_string_string.l0 k vs s (vs.length : Int) (i : Int) = some j ∧ (decide (j ≥ 0)) = hasL rest s
  | [], i, k, h, hk => by
    obtain ⟨k, rfl⟩ : ∃ k', k = k' + 1 := ⟨k - 1, by omega⟩
    have := drop_nil_len h
    refine ⟨-1, ?_, by simp [hasL]⟩
    unfold slices_Index_string_string.l0
    rw [if_neg (by omega)]
  | v :: rest, i, k, h, hk => by
    obtain ⟨k, rfl⟩ : ∃ k', k = k' + 1 := ⟨k - 1, by omega⟩
    obtain ⟨h1, h2, h3⟩ := rdOf_at h
    simp only [List.length_cons] at hk
    unfold slices_Index_string_string.l0
    rw [if_pos (by omega), if_pos (by omega), if_pos (by omega), h1, w64 i (by omega), toL, toL]
    by_cases he : D s = D v
    · rw [if_pos he]
      exact ⟨_, rfl, by simp [hasL, he]⟩
    · rw [if_neg he]
      obtain ⟨j, hj, hd⟩ := index_l0 s vs hl rest (i + 1) k h2 (by omega)
      exact ⟨j, hj, by rw [hd]; simp [hasL, he]⟩
theorem contains_f (vs : List ByteArray) (s : ByteArray) (k : Nat) (hl : vs.length < 1099511627776) (hk : vs.length + 1 ≤ k) : slices_Contains_string_string.f k vs s = some (hasL vs s) := by
  obtain ⟨j, hj, hd⟩ := index_l0 s vs hl vs 0 k rfl hk
  unfold slices_Contains_string_string.f slices_Index_string_string.f
  rw [show ((0 : Nat) : Int) = 0 from rfl] at hj
  rw [hj, Option.bind_some, hd]
/-- the names that vary tells -/
def vl : List ByteArray → List ByteArray → List ByteArray × Bool
  | [], out => (out, false)
  | e :: t, out => if D e = [42] then ([], true) else if hasL out (Pl.lowS e) then vl t out else vl t (out ++ [Pl.lowS e])
theorem vary_l0 (es : List ByteArray) (hl : es.length < 1099511627776) (hs : ∀ e ∈ es, e.size ≤ 140737488355328) : ∀ (rest : List ByteArray) (i : Nat) (out : List ByteArray) (k : Nat), es.drop i = rest → out.length + rest.length < 1099511627776 → out.length + 2 * rest.length + 2 ≤ k →
    field_Vary.l0 k out es (es.length : Int) (i : Int) = some (vl rest out)
  | [], i, out, k, h, ha, hk => by
    obtain ⟨k, rfl⟩ : ∃ k', k = k' + 1 := ⟨k - 1, by omega⟩
    have := drop_nil_len h
    unfold field_Vary.l0
    rw [if_neg (by omega)]
    rfl
  | e :: rest, i, out, k, h, ha, hk => by
    obtain ⟨k, rfl⟩ : ∃ k', k = k' + 1 := ⟨k - 1, by omega⟩
    obtain ⟨h1, h2, h3⟩ := rdOf_at h
    simp only [List.length_cons] at ha hk
    have he : e ∈ es := by
      have : e ∈ es.drop i := by rw [h]; simp
      exact List.mem_of_mem_drop this
    have hsm : Pl.small.f e = some (Pl.lowS e) := by
      unfold Pl.small.f
      rw [if_pos (by have := hs e he; rw [show e.data.toList.length = e.size from D_len e]; exact this)]
    unfold field_Vary.l0
    rw [if_pos (by omega), if_pos (by omega), if_pos (by omega), h1, w64 i (by omega), toL]
    unfold vl
    by_cases hst : D e = [42]
    · rw [if_pos hst, if_pos hst]
    · rw [if_neg hst, if_neg hst, hsm, Option.bind_some, contains_f out _ k (by omega) (by omega), Option.bind_some]
      cases hh : hasL out (Pl.lowS e) with
      | true => rw [if_pos rfl, if_pos rfl]; exact vary_l0 es hl hs rest (i + 1) out k h2 (by omega) (by omega)
      | false =>
        rw [if_neg (by decide), if_neg (by decide), Option.bind_some, if_pos (by omega)]
        exact vary_l0 es hl hs rest (i + 1) _ k h2 (by rw [List.length_append]; simp; omega) (by rw [List.length_append]; simp; omega)
def VARY : ByteArray := ⟨#[118, 97, 114, 121]⟩
def vary (l : List S59) : List ByteArray × Bool := vl (elements (allL l VARY)) []
/-- how much fields hold -/
def wt (l : List S59) : Nat := (l.map (fun f => f.f0.size + f.f1.size + 1)).sum
theorem wt_len (l : List S59) : l.length ≤ wt l := by
  unfold wt
  induction l with
  | nil => simp
  | cons v t ih => simp only [List.map_cons, List.sum_cons, List.length_cons]; omega
theorem tot_all (l : List S59) (n : ByteArray) : tot (allL l n) ≤ wt l := by
  induction l with
  | nil => simp [allL, tot]
  | cons f t ih =>
    unfold allL tot wt at *
    by_cases h : (D f.f0 == D n) = true
    · rw [List.filter_cons_of_pos (p := fun f : S59 => D f.f0 == D n) h]; simp only [List.map_cons, List.sum_cons]; omega
    · rw [List.filter_cons_of_neg (p := fun f : S59 => D f.f0 == D n) h]; simp only [List.map_cons, List.sum_cons]; omega
theorem trimS_len (p : List UInt8) : (tr p).length ≤ p.length := by
  unfold tr Lib.trimS Lib.trimLeftS Lib.trimRightS
  refine Nat.le_trans (List.dropWhile_sublist _).length_le ?_
  rw [List.length_reverse]
  refine Nat.le_trans (List.dropWhile_sublist _).length_le ?_
  rw [List.length_reverse]
  exact Nat.le_refl _
theorem split_sizes : ∀ (t cur : List UInt8) (q sk : Bool), ∀ p ∈ split t cur q sk, p.length ≤ cur.length + t.length
  | [], cur, _, _, p, hp => by simp [split] at hp; subst hp; simp
  | c :: t, cur, q, sk, p, hp => by
    unfold split at hp
    have h := fun q sk => split_sizes t (cur ++ [c]) q sk p
    simp only [List.length_append, List.length_singleton] at h
    split at hp
    · have := h q false hp; simp; omega
    · split at hp
      · have := h q true hp; simp; omega
      · split at hp
        · have := h (!q) false hp; simp; omega
        · split at hp
          · rcases List.mem_cons.1 hp with rfl | hp
            · simp
            · have := split_sizes t [] false false p hp; simp at this ⊢; omega
          · have := h q false hp; simp; omega
theorem el_sizes (v : List UInt8) : ∀ e ∈ el v, e.size ≤ v.length := by
  intro e he
  unfold el keep at he
  obtain ⟨p, hp, rfl⟩ := List.mem_map.1 he
  obtain ⟨q, hq, rfl⟩ := List.mem_map.1 (List.mem_filter.1 hp).1
  have := split_sizes v [] false false q hq
  have := trimS_len q
  rw [mk_size]
  simp at *
  omega
theorem elements_sizes (vs : List ByteArray) : ∀ e ∈ elements vs, e.size ≤ tot vs := by
  intro e he
  obtain ⟨v, hv, hev⟩ := List.mem_flatMap.1 he
  have h1 := el_sizes (D v) e hev
  rw [D_len] at h1
  have : v.size + 1 ≤ tot vs := by
    unfold tot
    clear he hev h1
    induction vs with
    | nil => cases hv
    | cons a t ih =>
      simp only [List.map_cons, List.sum_cons]
      rcases List.mem_cons.1 hv with rfl | hv
      · omega
      · have := ih hv; omega
  omega
theorem elements_len (vs : List ByteArray) : (elements vs).length ≤ tot vs := by
  unfold elements tot
  induction vs with
  | nil => simp
  | cons v t ih =>
    simp only [List.flatMap_cons, List.length_append, List.map_cons, List.sum_cons]
    have := el_len (D v)
    rw [D_len] at this
    omega
theorem vary_ev (l : List S59) (hl : wt l < 268435456) : Ev (fun k => field_Vary.f k l) (vary l) := by
  have h1 := wt_len l
  have h2 := tot_all l VARY
  obtain ⟨K, hK⟩ := elements_ev (allL l VARY) (by omega)
  have h3 := elements_len (allL l VARY)
  refine ⟨K + 2 * wt l + wt l + 10, fun k hk => ?_⟩
  show field_Vary.f k l = _
  unfold field_Vary.f
  rw [show (⟨#[118, 97, 114, 121]⟩ : ByteArray) = VARY from rfl, all_f l VARY k (by omega) (by omega), Option.bind_some]
  have := hK k (by omega)
  simp only at this
  rw [this, Option.bind_some]
  exact vary_l0 _ (by omega) (fun e he => by have := elements_sizes _ e he; omega) _ 0 [] k rfl (by simp; omega) (by simp; omega)

def eqL (a b : List ByteArray) : Bool := a.map D == b.map D
theorem equal_l0 (a b : List ByteArray) (hab : a.length = b.length) (hl : a.length < 1099511627776) : ∀ (ra rb : List ByteArray) (i k : Nat), a.drop i = ra → b.drop i = rb → ra.length + 1 ≤ k →
    slices_Equal_string_string.l0 k a b (a.length : Int) (i : Int) = some (eqL ra rb)
  | [], rb, i, k, h, h', hk => by
    obtain ⟨k, rfl⟩ : ∃ k', k = k' + 1 := ⟨k - 1, by omega⟩
    have := drop_nil_len h
    have hrb : rb = [] := by rw [← h']; exact List.drop_eq_nil_of_le (by omega)
    subst hrb
    unfold slices_Equal_string_string.l0
    rw [if_neg (by omega)]
    rfl
  | u :: ra, rb, i, k, h, h', hk => by
    obtain ⟨k, rfl⟩ : ∃ k', k = k' + 1 := ⟨k - 1, by omega⟩
    obtain ⟨h1, h2, h3⟩ := rdOf_at h
    obtain ⟨v, rb, rfl⟩ : ∃ v r, rb = v :: r := by
      rw [List.drop_eq_getElem_cons (by omega)] at h'
      exact ⟨_, _, h'.symm⟩
    obtain ⟨g1, g2, g3⟩ := rdOf_at h'
    simp only [List.length_cons] at hk
    unfold slices_Equal_string_string.l0
    rw [if_pos (by omega), if_pos (by omega), if_pos (by omega), if_pos (by omega), h1, g1, w64 i (by omega), toL, toL]
    by_cases he : D u = D v
    · rw [if_pos he, equal_l0 a b hab hl ra rb (i + 1) k h2 g2 (by omega)]
      simp [eqL, he]
    · rw [if_neg he]
      simp [eqL, he]
theorem equal_f (a b : List ByteArray) (k : Nat) (hl : a.length < 1099511627776) (hk : a.length + 1 ≤ k) : slices_Equal_string_string.f k a b = some (eqL a b) := by
  unfold slices_Equal_string_string.f
  by_cases hab : a.length = b.length
  · rw [if_pos (by omega)]
    exact equal_l0 a b hab hl a b 0 k rfl rfl hk
  · rw [if_neg (by omega)]
    congr 1
    unfold eqL
    symm
    rw [beq_eq_false_iff_ne]
    intro e
    exact hab (by simpa using congrArg List.length e)
end Go.Proofs.YtbnhlekehndhkaaGreatDoor.V

