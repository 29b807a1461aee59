import Derived.Test.YtipmnfidkoaojaaDoorYFM
import Derived.Test.YtipmnfidkoaojaaDoorYFI


/- FieldMatches: the plain law and its walk. -/
namespace Go.Proofs.YtipmnfidkoaojaaDoor.Fb
open Go.RowKit Go.Proofs.YtipmnfidkoaojaaDoorW.PrintWords Go.Proofs.YtipmnfidkoaojaaDoorW.PrintLast Go.Proofs.YtipmnfidkoaojaaDoorW.PrintMore Go.Proofs.YtipmnfidkoaojaaDoor.G
set_option linter.unusedVariables false
set_option linter.unusedSimpArgs false
theorem okc_ne {c : UInt8} (h : okc c = true) : c ≠ 34 := by
  intro e
  subst e
  revert h
  decide
theorem split_in : ∀ (m cur : List UInt8) (sk : Bool), (∀ b ∈ m, okc b = true) → V.split (m ++ [34]) cur true sk = [cur ++ m ++ [34]]
  | [], cur, sk, _ => by cases sk <;> simp [V.split]
  | c :: m, cur, sk, h => by
    have hc := okc_ne (h c (by simp))
    have ih := fun sk' => split_in m (cur ++ [c]) sk' (fun b hb => h b (by simp [hb]))
    show V.split (c :: (m ++ [34])) cur true sk = _
    unfold V.split
    cases sk with
    | true => simp only [if_true]; rw [ih]; simp
    | false =>
      simp only [Bool.false_eq_true, if_false, Bool.true_and, Bool.not_true, Bool.and_false]
      by_cases h92 : c = 92
      · rw [if_pos (by simp [h92]), ih]; simp
      · rw [if_neg (by simp [h92]), if_neg (by simp [hc]), ih]; simp
theorem tag_form {t : List UInt8} (h1 : 2 ≤ t.length) (h2 : t[0]? = some 34) (h3 : t[t.length - 1]? = some 34) (h4 : (mid t).all okc = true) : t = 34 :: (mid t ++ [34]) ∧ ∀ b ∈ mid t, okc b = true := by
  refine ⟨?_, fun b hb => List.all_eq_true.1 h4 b hb⟩
  cases t with
  | nil => simp at h1
  | cons c t =>
    simp only [List.getElem?_cons_zero, Option.some.injEq] at h2
    subst h2
    cases hr : t.reverse with
    | nil =>
      have : t = [] := by simpa using hr
      subst this
      simp at h1
    | cons d u =>
      have ht : t = u.reverse ++ [d] := by
        have := congrArg List.reverse hr
        simpa using this
      subst ht
      have hd : d = 34 := by
        rw [show (34 :: (u.reverse ++ [d])).length - 1 = u.reverse.length + 1 by simp] at h3
        simpa using h3
      subst hd
      simp [mid]
theorem trimS_self {l : List UInt8} {a b : UInt8} (m : List UInt8) (hl : l = a :: (m ++ [b])) (ha : [32, 9].contains a = false) (hb : [32, 9].contains b = false) : Lib.trimS l [32, 9] = l := by
  subst hl
  unfold Lib.trimS Lib.trimLeftS Lib.trimRightS
  rw [show (a :: (m ++ [b])).reverse = b :: (m.reverse ++ [a]) by simp]
  rw [List.dropWhile_cons_of_neg (by simpa using hb)]
  rw [show (b :: (m.reverse ++ [a])).reverse = a :: (m ++ [b]) by simp]
  rw [List.dropWhile_cons_of_neg (by simpa using ha)]
theorem el_tag {s : ByteArray} (h : (tagV s).2.2 = true) : V.elements [s] = [s] ∧ s ≠ STAR := by
  unfold tagV at h
  split at h
  · rename_i ht
    obtain ⟨h0, h1, h2, h3, h4⟩ := ht
    obtain ⟨t, et⟩ : ∃ t, t = Lib.trimPrefix s.data.toList TW.data.toList := ⟨_, rfl⟩
    rw [← et] at h1 h2 h3 h4
    obtain ⟨hf, hm⟩ := tag_form h1 h2 h3 h4
    obtain ⟨m, em⟩ : ∃ m, m = mid t := ⟨_, rfl⟩
    rw [← em] at hf hm
    have hs : s.data.toList = t ∨ s.data.toList = 87 :: 47 :: t := by
      unfold Lib.trimPrefix Lib.hasPrefix at et
      split at et
      · rename_i hp
        right
        obtain ⟨u, hu⟩ := List.isPrefixOf_iff_prefix.1 hp
        rw [← hu] at et ⊢
        rw [et]
        simp [TW]
      · exact .inl et.symm
    have hD : V.D s = s.data.toList := rfl
    have hsp : V.split (V.D s) [] false false = [V.D s] := by
      rw [hD]
      rcases hs with hs | hs
      · rw [hs, hf]
        show V.split (34 :: (m ++ [34])) [] false false = _
        rw [V.split]
        simp only [Bool.false_eq_true, if_false, Bool.false_and, Bool.not_false]
        rw [if_pos (by decide), split_in m _ _ hm]
        simp
      · rw [hs, hf]
        rw [V.split]
        simp only [Bool.false_eq_true, if_false, Bool.false_and, Bool.not_false]
        rw [if_neg (by decide), if_neg (by decide), V.split]
        simp only [Bool.false_eq_true, if_false, Bool.false_and, Bool.not_false]
        rw [if_neg (by decide), if_neg (by decide), V.split]
        simp only [Bool.false_eq_true, if_false, Bool.false_and, Bool.not_false]
        rw [if_pos (by decide), split_in m _ _ hm]
        simp
    have htr : V.tr (V.D s) = V.D s := by
      unfold V.tr
      rw [hD]
      rcases hs with hs | hs
      · rw [hs]
        exact trimS_self m hf (by decide) (by decide)
      · rw [hs, hf]
        exact trimS_self (a := 87) (b := 34) (47 :: 34 :: m) rfl (by decide) (by decide)
    have hne : V.D s ≠ [] := by
      rw [hD]
      rcases hs with hs | hs
      · rw [hs, hf]; simp
      · rw [hs]; simp
    constructor
    · unfold V.elements V.el V.keep
      simp only [List.flatMap_cons, List.flatMap_nil, List.append_nil]
      rw [hsp]
      simp only [List.map_cons, List.map_nil]
      rw [htr]
      have : (!(V.D s).isEmpty) = true := by rw [Bool.not_eq_true', List.isEmpty_eq_false_iff]; exact hne
      simp only [List.filter_cons, this, if_true, List.filter_nil, List.map_cons, List.map_nil]
      rw [V.mk_D]
    · intro e
      have e2 : s.data.toList = [42] := by rw [e]; rfl
      rcases hs with hs | hs
      · rw [hs, hf] at e2; simp at e2
      · rw [hs] at e2; simp at e2
  · cases h
theorem match_sym {a b : ByteArray} (weak : Bool) (ha : (tagV a).2.2 = true) (hb : (tagV b).2.2 = true) : matchV [a] b weak = matchV [b] a weak := by
  obtain ⟨ea, na⟩ := el_tag ha
  obtain ⟨eb, nb⟩ := el_tag hb
  unfold matchV
  rw [ea, eb, ha, hb]
  simp only [List.any_cons, List.any_nil, Bool.or_false, Bool.true_and]
  unfold matchP
  rw [decide_eq_false na, decide_eq_false nb, ha, hb]
  simp only [Bool.false_or, Bool.true_and]
  have : decide ((tagV a).1 = (tagV b).1) = decide ((tagV b).1 = (tagV a).1) := by simp [eq_comm]
  rw [this, Bool.and_comm (!(tagV b).2.1)]
theorem match_weak {a b : ByteArray} (h : matchV [a] b false = true) : matchV [a] b true = true := by
  unfold matchV at h ⊢
  rw [Bool.and_eq_true] at h ⊢
  refine ⟨h.1, ?_⟩
  rw [List.any_eq_true] at h ⊢
  obtain ⟨h1, x, hx, hp⟩ := h
  refine ⟨x, hx, ?_⟩
  unfold matchP at hp ⊢
  simp only [Bool.or_eq_true, Bool.and_eq_true] at hp ⊢
  rcases hp with hp | ⟨h2, h3, _⟩
  · exact .inl hp
  · exact .inr ⟨h2, h3, .inl trivial⟩
theorem C_str {w : World} {g : Nat} {a : ByteArray} (h : w.heap[g]? = some (.cells #[.string a] 9 (0, 0))) : Kd.C Kd.string w (some ⟨g, 0, none⟩) [a].length [a] := by
  refine ⟨rfl, by simp only [List.length_cons, List.length_nil]; decide, fun _ => ⟨⟨g, 0, none⟩, rfl, fun j p hj => ?_⟩⟩
  rcases j with _ | j
  · obtain rfl := Option.some.inj hj
    refine ⟨[.string a], rfl, rfl, fun i v hi => ?_⟩
    rcases i with _ | i
    · obtain rfl := Option.some.inj hi; exact c_of h 0 rfl
    · simp at hi
  · simp at hj
theorem match_one (a b : ByteArray) (weak : Bool) (g : Nat) (W : World) (hg : g = W.heap.size) (ha : a.size ≤ 1099511627000) : Calls Tryd.prog 11 #[.slice (some ⟨g, 0, none⟩) 1 1, .string b, .bool weak] (W.alloc (.cells #[.string a] 9)) fun e w' => e = .returned (.bool (matchV [a] b weak)) ∧ Below (W.alloc (.cells #[.string a] 9)).heap.size (W.alloc (.cells #[.string a] 9)) w' := by
  subst hg
  exact match_q (some ⟨W.heap.size, 0, none⟩) 1 [a] b weak _ (C_str (heap_alloc_new _ _)) (Nat.le_refl _) (by unfold V.tot; simp only [List.map_cons, List.map_nil, List.sum_cons, List.sum_nil]; omega)
set_option maxRecDepth 100000 in
set_option maxHeartbeats 4000000 in
theorem matches_calls (a b : ByteArray) (w : World) (hG : Glob w) (ha : a.size ≤ 1099511627000) (hb : b.size ≤ 1099511627000) : Calls Tryd.prog 5 #[.string a, .string b] w fun e w' => e = .returned (.bool true) ∧ Below w.heap.size w w' := by
  have HG := Lib.hid hG
  have HTa := Lib.hid (fun W => tag_q a W)
  have HTb := Lib.hid (fun W => tag_q b W)
  have hsy := fun weak => match_sym (a := a) (b := b) weak
  have hwk := match_weak (a := a) (b := b)
  obtain ⟨⟨Ta, wa, oa⟩, hta⟩ : ∃ x, x = tagV a := ⟨_, rfl⟩
  obtain ⟨⟨Tb, wb, ob⟩, htb⟩ : ∃ x, x = tagV b := ⟨_, rfl⟩
  rw [← hta] at HTa hsy
  rw [← htb] at HTb hsy
  simp only at HTa HTb hsy
  have HSY := Lib.hid hsy
  have HWK := Lib.hid hwk
  have HMA := Lib.hid (fun weak g W hg => match_one a b weak g W hg ha)
  have HMB := Lib.hid (fun weak g W hg => match_one b a weak g W hg hb)
  clear hta htb hsy hwk ha hb hG
  go_enter Tryd.func5, Tryd.ntmps5
  go_upto_region 2 with (go_at_call 10; with_reducible refine (HTa.out _).mono ?_; rintro e_ w1 ⟨rfl, hb1⟩; have HB1 := Lib.hid hb1; clear hb1)
  go_upto_region 3 with (first | (go_at_call 10; with_reducible refine (HTb.out _).mono ?_; rintro e_ w2 ⟨rfl, hb2⟩; have HB2 := Lib.hid (below_step HB1.out hb2); clear hb2))
  go_upto_region 4 with fail
  obtain ⟨W3, hW3⟩ : ∃ W, W = w2.alloc (.cells #[.bool true, .bool false] 4) := ⟨_, rfl⟩
  rw [← hW3]
  have HBL : Hid (W3.heap[w2.heap.size]? = some (.cells #[.bool true, .bool false] 4 (0, 0))) := Lib.hid (by rw [hW3]; exact heap_alloc_new _ _)
  have HB3 : Hid (Below w.heap.size w W3) := Lib.hid (by rw [hW3]; exact below_alloc HB2.out _)
  clear hW3 HB1 HB2 HTa HTb
  go_loopg [27] 3 (fun k v27 W => ∃ i : Nat, v27 = .int .i64 (i : Int) ∧ i ≤ 2 ∧ 3 ≤ k + i ∧ Hid (Below W3.heap.size W3 W))
  case atStart => exact ⟨0, rfl, by omega, by omega, Lib.hid (Below.refl _ _)⟩
  case round =>
    obtain ⟨i, rfl, hi, hk, HW⟩ := hrel
    rename World => Wo
    by_cases hlt : i < 2
    · obtain ⟨ko, rfl⟩ : ∃ ko, gk = ko + 1 := ⟨gk - 1, by omega⟩
      have hk2 : 3 ≤ ko + (i + 1) := by omega
      have hi1 : i + 1 ≤ 2 := hlt
      have c1 : decide ((i : Int) < 2) = true := decide_eq_true (by omega)
      have p1 : 0 ≤ (i : Int) := by omega
      have p2 : (i : Int) < 2 := by omega
      have HWX := Lib.hid (show wrap64 ((i : Int) + 1) = (i : Int) + 1 by unfold wrap64; omega)
      obtain ⟨weak, hweak⟩ : ∃ weak : Bool, Wo.cell? ⟨w2.heap.size, i, none⟩ = some (.bool weak) := by
        have : i = 0 ∨ i = 1 := by omega
        rcases this with rfl | rfl
        · exact ⟨_, c_of (blk_bel HW.out HBL.out) 0 rfl⟩
        · exact ⟨_, c_of (blk_bel HW.out HBL.out) 1 rfl⟩
      clear hlt
      cases oa with
      | false =>
        go_wp2
        go_roundg ko
        case measure => omega
        case rel => exact ⟨i + 1, by first | exact congrArg (Value.int .i64) HWX.out | go_num, hi1, hk2, HW⟩
      | true =>
        cases ob with
        | false =>
          go_wp2
          go_roundg ko
          case measure => omega
          case rel => exact ⟨i + 1, by first | exact congrArg (Value.int .i64) HWX.out | go_num, hi1, hk2, HW⟩
        | true =>
          have hs := HSY.out weak rfl rfl
          have HM1 := Lib.hid (HMA.out weak)
          have HM2 := Lib.hid (HMB.out weak)
          rw [hs] at HM1
          obtain ⟨X, hX⟩ : ∃ X, X = matchV [b] a weak := ⟨_, rfl⟩
          rw [← hX] at HM1 HM2
          clear hs hX
          go_wp2_with (first | (go_at_call 11; with_reducible refine (HM1.out _ _ rfl).mono ?_; rintro e_ w5 ⟨rfl, hb_⟩; have HB5 := Lib.hid (below_step (below_alloc HW.out _) hb_); clear hb_) | (go_at_call 11; with_reducible refine (HM2.out _ _ rfl).mono ?_; rintro e_ w6 ⟨rfl, hb_⟩; have HB6 := Lib.hid (below_step (below_alloc HB5.out _) hb_); clear hb_))
          go_roundg ko
          case measure => omega
          case rel => exact ⟨i + 1, by first | exact congrArg (Value.int .i64) HWX.out | go_num, hi1, hk2, HB6⟩
    · obtain rfl : i = 2 := by omega
      have HBo := Lib.hid (below_step HB3.out HW.out)
      have HM1 := Lib.hid (HMA.out false)
      have HM2 := Lib.hid (HMA.out true)
      clear hlt hi hk HMA HMB HSY HB3 HW HBL
      obtain ⟨X, hX⟩ : ∃ X, X = matchV [a] b false := ⟨_, rfl⟩
      obtain ⟨Y, hY⟩ : ∃ Y, Y = matchV [a] b true := ⟨_, rfl⟩
      have HXY : Hid (X = true → Y = true) := Lib.hid (by rw [hX, hY]; exact HWK.out)
      rw [← hX] at HM1
      rw [← hY] at HM2
      clear hX hY HWK
      cases X with
      | false =>
        go_wp2_with (first | (go_at_call 11; with_reducible refine (HM1.out _ _ rfl).mono ?_; rintro e_ w5 ⟨rfl, hb_⟩; have HB5 := Lib.hid (below_step (below_alloc HBo.out _) hb_); clear hb_) | (go_at_call 8; refine (alive_q _ (HG.out.below HB5.out)).mono ?_; rintro e_ w7 ⟨rfl, hb_⟩; have HB7 := Lib.hid (below_step HB5.out hb_); clear hb_))
        go_ret
        exact ⟨rfl, HB7.out⟩
      | true =>
        obtain rfl := HXY.out rfl
        go_wp2_with (first | (go_at_call 11; with_reducible refine (HM1.out _ _ rfl).mono ?_; rintro e_ w5 ⟨rfl, hb_⟩; have HB5 := Lib.hid (below_step (below_alloc HBo.out _) hb_); clear hb_) | (go_at_call 11; with_reducible refine (HM2.out _ _ rfl).mono ?_; rintro e_ w6 ⟨rfl, hb_⟩; have HB6 := Lib.hid (below_step (below_alloc HB5.out _) hb_); clear hb_) | (go_at_call 8; refine (alive_q _ (HG.out.below HB6.out)).mono ?_; rintro e_ w7 ⟨rfl, hb_⟩; have HB7 := Lib.hid (below_step HB6.out hb_); clear hb_))
        go_ret
        exact ⟨rfl, HB7.out⟩
end Go.Proofs.YtipmnfidkoaojaaDoor.Fb

