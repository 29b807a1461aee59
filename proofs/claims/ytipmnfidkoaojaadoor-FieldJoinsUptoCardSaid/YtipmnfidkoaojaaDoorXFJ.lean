import Derived.Test.YtipmnfidkoaojaaDoorXFJ0

/- FieldJoins: its walk. -/
namespace Go.Proofs.YtipmnfidkoaojaaDoor.Fj
open Go.RowKit Go.Proofs.YtipmnfidkoaojaaDoorW.PrintWords Go.Proofs.YtipmnfidkoaojaaDoorW.PrintLast Go.Proofs.YtipmnfidkoaojaaDoorW.PrintMore Go.Proofs.YtipmnfidkoaojaaDoor.G Go.Proofs.YtipmnfidkoaojaaDoor.Fb
set_option linter.unusedVariables false
set_option linter.unusedSimpArgs false
theorem elem_at5 {W : World} {A : Option Addr} {L : List ByteArray} (hC : Kd.C Kd.string W A L.length L) (i : Nat) (x : ByteArray) (hx : L[i]? = some x) : ∃ ad, A = some ad ∧ W.cell? (ad.add i) = some (.string x) := by
  have hi := (List.getElem?_eq_some_iff.1 hx).1
  obtain ⟨_, _, h⟩ := hC
  obtain ⟨ad, e, hc⟩ := h (by omega)
  obtain ⟨cs, h1, h2, h3⟩ := hc i x hx
  obtain rfl : cs = [.string x] := h2
  have := h3 0 _ rfl
  rw [show i * Kd.string.sz + 0 = i by show i * 1 + 0 = i; omega] at this
  exact ⟨ad, e, this⟩
theorem byte_at (s : ByteArray) (i : Nat) (b : UInt8) (h : s.data.toList[i]? = some b) : ∀ h' : i < s.size, ((s[i]'h').toNat : Int) = (b.toNat : Int) := by
  intro h'
  have e : s.data.toList[i]? = some (s[i]'h') := by
    rw [Array.getElem?_toList, Array.getElem?_eq_getElem h']
    rfl
  rw [e] at h
  injection h with h
  rw [h]
theorem mk_app (a b : List UInt8) : V.mk (a ++ b) = V.mk a ++ V.mk b := by
  unfold V.mk
  apply ByteArray.ext
  simp [ByteArray.data_append]
theorem joined_step (X : List ByteArray) (i : Nat) (e S : ByteArray) (hx : X[i]? = some e) (hS : S = V.mk (joined ((X.take i).map V.D))) : (if 0 < i then S ++ ⟨#[32, 44, 44, 32]⟩ else S) ++ e = V.mk (joined ((X.take (i + 1)).map V.D)) := by
  have h1 := joined_snoc (X.map V.D) i (V.D e) (by rw [List.getElem?_map, hx]; rfl)
  rw [← List.map_take, ← List.map_take] at h1
  rw [h1, mk_app, V.mk_D]
  by_cases h : 0 < i
  · rw [if_pos h, if_pos h, mk_app, ← hS]; rfl
  · rw [if_neg h, if_neg h, ← hS]
theorem C_str {w : World} {g : Nat} {a : ByteArray} (h : w.heap[g]? = some (.cells #[.string a] 9 (0, 0))) : Kd.C Kd.string w (some ⟨g, 0, none⟩) [a].length [a] := by
  refine ⟨rfl, by simp only [List.length_cons, List.length_nil]; decide, fun _ => ⟨⟨g, 0, none⟩, rfl, fun j p hj => ?_⟩⟩
  rcases j with _ | j
  · obtain rfl := Option.some.inj hj
    refine ⟨[.string a], rfl, rfl, fun i v hi => ?_⟩
    rcases i with _ | i
    · obtain rfl := Option.some.inj hi; exact c_of h 0 rfl
    · simp at hi
  · simp at hj
theorem elements_calls (A : Option Addr) (c : Nat) (l : List ByteArray) (w : World) (hC : Kd.C Kd.string w A l.length l) (hc : l.length ≤ c) (hb : V.tot l + 1 < 1099511627776) :
    Calls Tryd.prog 6 #[.slice A l.length c] w fun e w' => (∃ A' c', e = .returned (.slice A' (V.elements l).length c') ∧ (V.elements l).length ≤ c' ∧ Kd.C Kd.string w' A' (V.elements l).length (V.elements l)) ∧ Below w.heap.size w w' := by
  obtain ⟨K, hK⟩ := V.elements_ev l hb
  refine (field_Elements.calls K A c l (V.elements l) w hC hc (hK K (Nat.le_refl _))).mono ?_
  rintro e w' ⟨v, rfl, hR, hb'⟩
  obtain ⟨A', c', rfl, hl, hC'⟩ := Kd.R_reads hR
  exact ⟨⟨A', c', rfl, hl, hC'⟩, hb'⟩
theorem len_sum : ∀ l : List ByteArray, l.length ≤ (l.map (fun v => v.size + 1)).sum
  | [] => Nat.le_refl _
  | v :: l => by
    have := len_sum l
    simp only [List.map_cons, List.sum_cons, List.length_cons]
    omega
theorem elements_n (A : Option Addr) (c : Nat) (l : List ByteArray) (n : Nat) (hn : l.length = n) (w : World) (hC : Kd.C Kd.string w A l.length l) (hc : l.length ≤ c) (hb : V.tot l + 1 < 1099511627776) :
    Calls Tryd.prog 6 #[.slice A n c] w fun e w' => (∃ A' c', e = .returned (.slice A' (V.elements l).length c') ∧ (V.elements l).length ≤ c' ∧ Kd.C Kd.string w' A' (V.elements l).length (V.elements l)) ∧ Below w.heap.size w w' := hn ▸ elements_calls A c l w hC hc hb
theorem texts_n (A B : Option Addr) (c d : Nat) (l : List ByteArray) (n : Nat) (hn : l.length = n) (w : World) (hA : Kd.C Kd.string w A l.length l) (hc : l.length ≤ c) (hB : Kd.C Kd.string w B l.length l) (hd : l.length ≤ d) (hl : l.length < 1099511627776) :
    Calls Tryd.prog 7 #[.slice A n c, .slice B n d] w fun e w' => e = .returned (.bool true) ∧ Drawn0 w w' := hn ▸ texts_q A B c d l w hA hc hB hd hl
set_option maxRecDepth 100000 in
set_option maxHeartbeats 4000000 in
theorem joins_calls (A0 : Option Addr) (c0 : Nat) (la : List ByteArray) (A1 : Option Addr) (c1 : Nat) (lb : List ByteArray) (w : World) (hG : Glob w) (ha : Kd.C Kd.string w A0 la.length la) (hca : la.length ≤ c0) (hb : Kd.C Kd.string w A1 lb.length lb) (hcb : lb.length ≤ c1) (hta : V.tot la ≤ 1048576) (htb : V.tot lb ≤ 1048576) :
    Calls Tryd.prog 3 #[.slice A0 la.length c0, .slice A1 lb.length c1] w fun e w' => e = .returned (.bool true) ∧ Below w.heap.size w w' := by
  have HG := Lib.hid hG
  have HA := Lib.hid ha
  have HBb := Lib.hid hb
  have HEA := Lib.hid (fun W h => elements_calls A0 c0 la W h hca (by omega))
  have HEB := Lib.hid (fun W h => elements_calls A1 c1 lb W h hcb (by omega))
  have HEC := Lib.hid (fun A c W h hc => elements_n A c (la ++ lb) (la.length + lb.length) List.length_append W h hc (by rw [tot_app]; omega))
  have hla := V.elements_len la
  have hlb := V.elements_len lb
  have hsa := elements_sum la
  have hel := elem_of la
  have ll : la.length ≤ V.tot la := by unfold V.tot; exact len_sum la
  have lbl : lb.length ≤ V.tot lb := by unfold V.tot; exact len_sum lb
  rw [elements_app] at HEC
  obtain ⟨X, hX⟩ : ∃ X, X = V.elements la := ⟨_, rfl⟩
  obtain ⟨Y, hY⟩ : ∃ Y, Y = V.elements lb := ⟨_, rfl⟩
  rw [← hX] at HEA HEC hla hsa hel
  rw [← hY] at HEB HEC hlb
  have b1 : la.length ≤ 1048576 := by omega
  have b2 : lb.length ≤ 1048576 := by omega
  have b3 : X.length ≤ 1048576 := by omega
  have b4 : Y.length ≤ 1048576 := by omega
  have b5 : wsum X ≤ 1048576 := by omega
  have HEL := Lib.hid hel
  clear hG ha hb hX hY hla hlb hsa hel ll lbl hta htb
  go_enter Tryd.func3, Tryd.ntmps3
  go_upto_region 2 with (first | (go_at_call 6; with_reducible refine (HEA.out _ HA.out).mono ?_; rintro e_ w1 ⟨⟨A5, c5, rfl, hl5, hC5⟩, hb1⟩; have HX1 := Lib.hid hC5; have HB1 := Lib.hid hb1; clear hC5 hb1) | (go_at_call 6; with_reducible refine (HEB.out _ (Kd.C_below HBb.out HB1.out)).mono ?_; rintro e_ w2 ⟨⟨A6, c6, rfl, hl6, hC6⟩, hb2⟩; have HX2 := Lib.hid (Kd.C_below HX1.out hb2); have HY2 := Lib.hid hC6; have HB2 := Lib.hid (below_step HB1.out hb2); clear hC6 hb2))
  obtain ⟨W2, hW2⟩ : ∃ W, W = w2 := ⟨_, rfl⟩
  rw [← hW2] at HX2 HY2 HB2
  rw [← hW2]
  have HA2 := Lib.hid (Kd.C_below HA.out HB2.out)
  have HBb2 := Lib.hid (Kd.C_below HBb.out HB2.out)
  clear hW2 HX1 HB1 HEA HEB HA HBb
  go_upto_region 3 with (first | (go_at_call 6; with_reducible refine (HEC.out A4 c4 _ HC4.out hl4).mono ?_; rintro e_ w5 ⟨⟨A7, c7, rfl, hl7, hC7⟩, hb5⟩; have HZ5 := Lib.hid hC7; have HB5 : Hid (Below W2.heap.size W2 w5) := Lib.hid (below_step HB4.out hb5); clear hC7 hb5) | (at_builtin; refine Kd.R_append_rows Kd.string (Rr := Kd.string.K w3) (w0 := W2) W2.heap.size rfl (.tmp 18) (.tmp 19) 22 9 (.string ⟨#[]⟩) 16 rfl Tryd.underlying22 info9 rfl (by decide) (by decide) v3 la lb A1 lb.length c1 (fun _ => True) (fun _ => False) rfl rfl HR3.out (Kd.C_below HBb2.out HB3.out) (fun _ _ h => h) (fun _ h => h.elim) (fun _ _ => trivial) HB3.out (by first | exact Nat.le_refl _ | exact HB3.out.size) (by omega) ?_; intro v4 w4 hR_ hB_ _ _; obtain ⟨A4, c4, rfl, hl4, hC4⟩ := Kd.R_reads hR_; have HC4 := Lib.hid hC4; have HB4 := Lib.hid hB_; clear hR_ hB_ hC4) | (at_builtin; refine Kd.R_append_rows Kd.string (Rr := Kd.string.K W2) (w0 := W2) W2.heap.size rfl (.const (.slice none 0 0)) (.tmp 17) 22 9 (.string ⟨#[]⟩) 16 rfl Tryd.underlying22 info9 rfl (by decide) (by decide) (.slice none 0 0) [] la A0 la.length c0 (fun _ => True) (fun _ => False) rfl rfl (Kd.R_nil _ _ _ _ _) HA2.out (fun _ _ h => h) (fun _ h => h.elim) (fun _ _ => trivial) (Below.refl _ _) (by first | exact Nat.le_refl _ | exact (Below.refl _ _).size) (by simp only [List.length_nil]; omega) ?_; intro v3 w3 hR_ hB_ _ _; have HR3 : Hid (Kd.R Kd.string 9 w3 W2.heap.size (fun _ => True) v3 la) := Lib.hid hR_; have HB3 := Lib.hid hB_; clear hR_ hB_))
  obtain ⟨W5, hW5⟩ : ∃ W, W = w5 := ⟨_, rfl⟩
  rw [← hW5] at HZ5 HB5
  rw [← hW5]
  have HX5 := Lib.hid (Kd.C_below HX2.out HB5.out)
  have HY5 := Lib.hid (Kd.C_below HY2.out HB5.out)
  have HZ5' := HZ5
  have HBw5 := Lib.hid (below_step HB2.out HB5.out)
  clear hW5 HB3 HB4 HR3 HC4 HX2 HY2 HA2 HBb2 HB2 HB5 HEC hl4
  go_upto_region 5 with (first | (go_at_call 7; with_reducible refine (texts_n A7 A8 c7 c8 (X ++ Y) (X.length + Y.length) List.length_append _ (Kd.C_below HZ5'.out HB7.out) hl7 HC8.out hl8 (by rw [List.length_append]; omega)).mono ?_; rintro e_ w8 ⟨rfl, hd⟩; have HB8 := Lib.hid (below_step HB7.out hd.below); clear hd) | (at_builtin; refine Kd.R_append_rows Kd.string (Rr := Kd.string.K w6) (w0 := W5) W5.heap.size rfl (.tmp 24) (.tmp 25) 22 9 (.string ⟨#[]⟩) 16 rfl Tryd.underlying22 info9 rfl (by decide) (by decide) v6 X Y A6 Y.length c6 (fun _ => True) (fun _ => False) rfl rfl HR6.out (Kd.C_below HY5.out HB6.out) (fun _ _ h => h) (fun _ h => h.elim) (fun _ _ => trivial) HB6.out (by first | exact Nat.le_refl _ | exact HB6.out.size) (by omega) ?_; intro v7 w7 hR_ hB_ _ _; obtain ⟨A8, c8, rfl, hl8, hC8⟩ := Kd.R_reads hR_; have HC8 := Lib.hid hC8; have HB7 := Lib.hid hB_; clear hR_ hB_ hC8) | (at_builtin; refine Kd.R_append_rows Kd.string (Rr := Kd.string.K W5) (w0 := W5) W5.heap.size rfl (.const (.slice none 0 0)) (.tmp 23) 22 9 (.string ⟨#[]⟩) 16 rfl Tryd.underlying22 info9 rfl (by decide) (by decide) (.slice none 0 0) [] X A5 X.length c5 (fun _ => True) (fun _ => False) rfl rfl (Kd.R_nil _ _ _ _ _) HX5.out (fun _ _ h => h) (fun _ h => h.elim) (fun _ _ => trivial) (Below.refl _ _) (by first | exact Nat.le_refl _ | exact (Below.refl _ _).size) (by simp only [List.length_nil]; omega) ?_; intro v6 w6 hR_ hB_ _ _; have HR6 : Hid (Kd.R Kd.string 9 w6 W5.heap.size (fun _ => True) v6 X) := Lib.hid hR_; have HB6 := Lib.hid hB_; clear hR_ hB_))
  obtain ⟨W8, hW8⟩ : ∃ W, W = w8 := ⟨_, rfl⟩
  rw [← hW8] at HB8
  rw [← hW8]
  have HX8 := Lib.hid (Kd.C_below HX5.out HB8.out)
  have HBw8 := Lib.hid (below_step HBw5.out HB8.out)
  clear hW8 HB6 HB7 HR6 HC8 HX5 HY5 HZ5 HZ5' HBw5 HB8 hl7 hl8
  go_wp2
  go_loopg [8, 31] (X.length + 1) (fun k v8 v31 W => ∃ (i : Nat) (S : ByteArray), v31 = .int .i64 (i : Int) ∧ v8 = .string S ∧ i ≤ X.length ∧ X.length + 1 ≤ k + i ∧ Hid (S = V.mk (joined ((X.take i).map V.D))) ∧ Hid (∀ e ∈ X.take i, Good (V.D e)) ∧ Hid (Below W8.heap.size W8 W))
  case atStart => exact ⟨0, ⟨#[]⟩, rfl, rfl, by omega, by omega, Lib.hid rfl, Lib.hid (fun e he => by simp at he), Lib.hid (Below.refl _ _)⟩
  case round =>
    obtain ⟨i, S, rfl, rfl, hi, hk, HS, HGD, HW⟩ := hrel
    rename World => Wo
    have hSs : S.size ≤ 4194304 := by
      have h1 := joined_len (X.take i)
      have h2 := wsum_take X i
      rw [HS.out, V.mk_size]; omega
    by_cases hlt : i < X.length
    · obtain ⟨ko, rfl⟩ : ∃ ko, gk = ko + 1 := ⟨gk - 1, by omega⟩
      have hk2 : X.length + 1 ≤ ko + (i + 1) := by omega
      have hi1 : i + 1 ≤ X.length := hlt
      have t0 : decide ((i : Int) < (X.length : Int)) = true := decide_eq_true (by omega)
      have q1 : 0 ≤ (i : Int) := by omega
      have q2 : (i : Int) < (X.length : Int) := by omega
      have HWX := Lib.hid (show wrap64 ((i : Int) + 1) = (i : Int) + 1 by unfold wrap64; omega)
      obtain ⟨e, hx⟩ : ∃ e, X[i]? = some e := ⟨_, List.getElem?_eq_getElem hlt⟩
      have hee := HEL.out e (List.mem_of_getElem? hx)
      have hes : e.size + 1 ≤ 1048576 := by
        have h1 : e.size + 1 ≤ wsum X := by
          have := wsum_take X (i + 1)
          have h2 : X.take (i + 1) = X.take i ++ [e] := by obtain ⟨hi', rfl⟩ := List.getElem?_eq_some_iff.1 hx; exact (List.take_append_getElem hi').symm
          rw [h2, wsum_app] at this
          unfold wsum at this ⊢
          simp only [List.map_cons, List.map_nil, List.sum_cons, List.sum_nil] at this
          omega
        omega
      obtain ⟨ad, hA5, hcell⟩ := elem_at5 (Kd.C_below HX8.out HW.out) i e hx
      subst hA5
      have HJN : Hid ((if 0 < i then S ++ ⟨#[32, 44, 44, 32]⟩ else S) ++ e = V.mk (joined ((X.take (i + 1)).map V.D))) := Lib.hid (joined_step X i e S hx HS.out)
      have HGN : Hid (Good (V.D e) → ∀ x ∈ X.take (i + 1), Good (V.D x)) := Lib.hid (fun hg x hxm => by
        have h2 : X.take (i + 1) = X.take i ++ [e] := by obtain ⟨hi', rfl⟩ := List.getElem?_eq_some_iff.1 hx; exact (List.take_append_getElem hi').symm
        rw [h2] at hxm
        rcases List.mem_append.1 hxm with hxm | hxm
        · exact HGD.out x hxm
        · simp only [List.mem_singleton] at hxm; subst hxm; exact hg)
      obtain ⟨r, hr⟩ : ∃ r, scan (V.D e) false false = some r := Option.ne_none_iff_exists'.1 hee.sc
      have HTI := Lib.hid hee.ti
      have HSR := Lib.hid hr
      have HDL := Lib.hid (V.D_len e)
      clear hlt hx hee
      go_wp2
      go_loopg [11, 12] (e.size + 2) (fun k v11 v12 W => ∃ (n : Nat) (op : Bool), v12 = .int .i64 (n : Int) ∧ v11 = .bool op ∧ n ≤ e.size + 1 ∧ e.size + 2 ≤ k + n ∧ W = Wo ∧ Hid ((n ≤ e.size ∧ scan ((V.D e).drop n) op false = some r) ∨ (n = e.size + 1 ∧ op = true ∧ r = (true, true))))
      case atStart => exact ⟨0, false, rfl, rfl, by omega, by omega, rfl, Lib.hid (.inl ⟨by omega, hr⟩)⟩
      case round =>
        obtain ⟨n, op, rfl, rfl, hn, hkn, hW, HSC⟩ := hrel
        subst hW
        clear hr
        by_cases hln : n < e.size
        · obtain ⟨kn, rfl⟩ : ∃ kn, gk = kn + 1 := ⟨gk - 1, by omega⟩
          have hsc : scan ((V.D e).drop n) op false = some r := by
            rcases HSC.out with h | h
            · exact h.2
            · have := h.1; omega
          obtain ⟨c, hc⟩ : ∃ c, (V.D e)[n]? = some c := ⟨_, List.getElem?_eq_getElem (by rw [HDL.out]; exact hln)⟩
          have hd : (V.D e).drop n = c :: (V.D e).drop (n + 1) := by
            obtain ⟨hn', rfl⟩ := List.getElem?_eq_some_iff.1 hc
            exact List.drop_eq_getElem_cons hn'
          rw [hd, scan_cons] at hsc
          have hbt := byte_at e n c hc
          have u0 : decide ((n : Int) < (e.size : Int)) = true := decide_eq_true (by omega)
          have p1 : 0 ≤ (n : Int) := by omega
          have p2 : (n : Int) < (e.size : Int) := by omega
          have HN1 := Lib.hid (show wrap64 ((n : Int) + 1) = ((n + 1 : Nat) : Int) by unfold wrap64; omega)
          have HN2 := Lib.hid (show wrap64 (((n + 1 : Nat) : Int) + 1) = ((n + 2 : Nat) : Int) by unfold wrap64; omega)
          have m1 : e.size + 2 ≤ kn + (n + 1) := by omega
          have m2 : e.size + 2 ≤ kn + (n + 2) := by omega
          have m3 : n + 1 ≤ e.size := hln
          clear hc hd
          cases op with
          | true =>
            by_cases h92 : c = 92
            · have d1 : ((c.toNat : Int) == 92) = true := by rw [h92]; rfl
              rw [if_neg (by simp), if_pos (by simp [h92])] at hsc
              have hnx : (n + 2 ≤ e.size ∧ scan ((V.D e).drop (n + 2)) true false = some r) ∨ (n + 2 = e.size + 1 ∧ true = true ∧ r = (true, true)) := by
                by_cases he : n + 1 < e.size
                · obtain ⟨d, hd⟩ : ∃ d, (V.D e)[n + 1]? = some d := ⟨_, List.getElem?_eq_getElem (by rw [HDL.out]; exact he)⟩
                  have hd2 : (V.D e).drop (n + 1) = d :: (V.D e).drop (n + 2) := by
                    obtain ⟨hn', rfl⟩ := List.getElem?_eq_some_iff.1 hd
                    exact List.drop_eq_getElem_cons hn'
                  rw [hd2, scan_cons, if_pos rfl] at hsc
                  exact .inl ⟨by omega, hsc⟩
                · have hd2 : (V.D e).drop (n + 1) = [] := List.drop_eq_nil_iff.2 (by rw [HDL.out]; omega)
                  rw [hd2] at hsc
                  simp only [scan, Option.some.injEq] at hsc
                  exact .inr ⟨by omega, rfl, hsc.symm⟩
              have HNXT := Lib.hid hnx
              clear hsc HSC hnx h92
              go_wp2
              go_roundg kn
              case measure => omega
              case rel => exact ⟨n + 2, true, by first | (simp only [HN1.out, HN2.out]; done) | go_num | rfl, rfl, by omega, m2, rfl, Lib.hid (by have := HNXT.out; simpa using this)⟩
            · have d1 : ((c.toNat : Int) == 92) = false := by rw [beq_eq_false_iff_ne]; intro h; exact h92 (UInt8.toNat_inj.1 (by show c.toNat = 92; omega))
              rw [if_neg (by simp), if_neg (by simp [h92])] at hsc
              clear h92
              by_cases h34 : c = 34
              · have d2 : ((c.toNat : Int) == 34) = true := by rw [h34]; rfl
                rw [if_pos (by simp [h34])] at hsc
                clear h34
                have HNXT : Hid ((n + 1 ≤ e.size ∧ scan ((V.D e).drop (n + 1)) false false = some r) ∨ (n + 1 = e.size + 1 ∧ false = true ∧ r = (true, true))) := Lib.hid (.inl ⟨m3, hsc⟩)
                clear hsc HSC
                go_wp2
                go_roundg kn
                case measure => omega
                case rel => exact ⟨n + 1, false, by first | (simp only [HN1.out, HN2.out]; done) | go_num | rfl, rfl, by omega, m1, rfl, Lib.hid (by have := HNXT.out; simpa using this)⟩
              · have d2 : ((c.toNat : Int) == 34) = false := by rw [beq_eq_false_iff_ne]; intro h; exact h34 (UInt8.toNat_inj.1 (by show c.toNat = 34; omega))
                rw [if_neg (by simp [h34]), if_neg (by simp)] at hsc
                clear h34
                have HNXT : Hid ((n + 1 ≤ e.size ∧ scan ((V.D e).drop (n + 1)) true false = some r) ∨ (n + 1 = e.size + 1 ∧ true = true ∧ r = (true, true))) := Lib.hid (.inl ⟨m3, hsc⟩)
                clear hsc HSC
                go_wp2
                go_roundg kn
                case measure => omega
                case rel => exact ⟨n + 1, true, by first | (simp only [HN1.out, HN2.out]; done) | go_num | rfl, rfl, by omega, m1, rfl, Lib.hid (by have := HNXT.out; simpa using this)⟩
          | false =>
            rw [if_neg (by simp), if_neg (by simp)] at hsc
            by_cases h34 : c = 34
            · have d2 : ((c.toNat : Int) == 34) = true := by rw [h34]; rfl
              rw [if_pos (by simp [h34])] at hsc
              clear h34
              have HNXT : Hid ((n + 1 ≤ e.size ∧ scan ((V.D e).drop (n + 1)) true false = some r) ∨ (n + 1 = e.size + 1 ∧ true = true ∧ r = (true, true))) := Lib.hid (.inl ⟨m3, hsc⟩)
              clear hsc HSC
              go_wp2
              go_roundg kn
              case measure => omega
              case rel => exact ⟨n + 1, true, by first | (simp only [HN1.out, HN2.out]; done) | go_num | rfl, rfl, by omega, m1, rfl, Lib.hid (by have := HNXT.out; simpa using this)⟩
            · have d2 : ((c.toNat : Int) == 34) = false := by rw [beq_eq_false_iff_ne]; intro h; exact h34 (UInt8.toNat_inj.1 (by show c.toNat = 34; omega))
              rw [if_neg (by simp [h34])] at hsc
              have h44 : c ≠ 44 := by intro h; rw [if_pos (by simp [h])] at hsc; cases hsc
              rw [if_neg (by simp [h44])] at hsc
              clear h34 h44
              have HNXT : Hid ((n + 1 ≤ e.size ∧ scan ((V.D e).drop (n + 1)) false false = some r) ∨ (n + 1 = e.size + 1 ∧ false = true ∧ r = (true, true))) := Lib.hid (.inl ⟨m3, hsc⟩)
              clear hsc HSC
              go_wp2
              go_roundg kn
              case measure => omega
              case rel => exact ⟨n + 1, false, by first | (simp only [HN1.out, HN2.out]; done) | go_num | rfl, rfl, by omega, m1, rfl, Lib.hid (by have := HNXT.out; simpa using this)⟩
        · have u0 : decide ((n : Int) < (e.size : Int)) = false := decide_eq_false (by omega)
          cases op with
          | true =>
            clear HSC
            go_wp2_with (go_at_call 8; refine (alive_q _ (HG.out.below (below_step HBw8.out HW.out))).mono ?_; rintro e_ w9 ⟨rfl, hb9⟩; have HB9 := Lib.hid (below_step (below_step HBw8.out HW.out) hb9); clear hb9)
            go_ret
            exact ⟨rfl, HB9.out⟩
          | false =>
            have hgood : Good (V.D e) := by
              rcases HSC.out with h | h
              · have h2 := h.2
                rw [List.drop_eq_nil_iff.2 (by rw [HDL.out]; omega)] at h2
                simp only [scan, Option.some.injEq] at h2
                exact ⟨HTI.out, by rw [HSR.out, ← h2]⟩
              · have := h.2.1; cases this
            have HGG := Lib.hid (HGN.out hgood)
            clear HSC hgood HGN
            by_cases hi0 : 0 < i
            · have u1 : decide ((i : Int) > 0) = true := decide_eq_true (by omega)
              have v1 : ¬ 9223372036854775807 < S.size + 4 := by omega
              have v2 : ¬ 9223372036854775807 < S.size + 4 + e.size := by omega
              have HJ2 : Hid (S ++ ⟨#[32, 44, 44, 32]⟩ ++ e = V.mk (joined ((X.take (i + 1)).map V.D))) := Lib.hid (by have := HJN.out; rw [if_pos hi0] at this; exact this)
              clear HJN
              go_wp2
              go_roundg ko
              case measure => omega
              case rel => exact ⟨i + 1, _, by first | exact congrArg (Value.int .i64) HWX.out | go_num, rfl, hi1, hk2, HJ2, HGG, HW⟩
            · have u1 : decide ((i : Int) > 0) = false := decide_eq_false (by omega)
              have v2 : ¬ 9223372036854775807 < S.size + e.size := by omega
              have HJ2 : Hid (S ++ e = V.mk (joined ((X.take (i + 1)).map V.D))) := Lib.hid (by have := HJN.out; rw [if_neg hi0] at this; exact this)
              clear HJN
              go_wp2
              go_roundg ko
              case measure => omega
              case rel => exact ⟨i + 1, _, by first | exact congrArg (Value.int .i64) HWX.out | go_num, rfl, hi1, hk2, HJ2, HGG, HW⟩
    · have hil : i = X.length := by omega
      subst hil
      have t0 : decide ((X.length : Int) < (X.length : Int)) = false := decide_eq_false (by omega)
      have hes : V.elements [S] = X := by
        have h1 := el_joined (X.map V.D) (fun e he => by
          rw [List.mem_map] at he
          obtain ⟨x, hx, rfl⟩ := he
          exact HGD.out x (by rw [List.take_length]; exact hx))
        have h2 : V.elements [S] = V.el (V.D S) := by unfold V.elements; simp
        rw [h2, HS.out, List.take_length, V.D_mk, h1, map_D_mk]
      have HE1 : Hid (∀ W : World, Calls Tryd.prog 6 #[.slice (some ⟨W.heap.size, 0, none⟩) 1 1] (W.alloc (.cells #[.string S] 9)) fun e w' => (∃ A' c', e = .returned (.slice A' X.length c') ∧ X.length ≤ c' ∧ Kd.C Kd.string w' A' X.length X) ∧ Below (W.alloc (.cells #[.string S] 9)).heap.size (W.alloc (.cells #[.string S] 9)) w') := Lib.hid (fun W => by
        have := elements_n (some ⟨W.heap.size, 0, none⟩) 1 [S] 1 rfl (W.alloc (.cells #[.string S] 9)) (C_str (heap_alloc_new _ _)) (Nat.le_refl _) (by unfold V.tot; simp only [List.map_cons, List.map_nil, List.sum_cons, List.sum_nil]; omega)
        rw [hes] at this
        exact this)
      have HXo := Lib.hid (Kd.C_below HX8.out HW.out)
      have HBo := Lib.hid (below_step HBw8.out HW.out)
      clear hk hi hlt hes HS HGD HEL HW HX8 HBw8
      go_wp2_with (first | (go_at_call 8; refine (alive_q _ (HG.out.below HB9.out)).mono ?_; rintro e_ wb ⟨rfl, hbb⟩; have HBb := Lib.hid (below_step HB9.out hbb); clear hbb) | (go_at_call 7; with_reducible refine (texts_n A9 A5 c9 c5 X X.length rfl _ HC9.out hl9 (Kd.C_below HXo.out HBx.out) hl5 (by omega)).mono ?_; rintro e_ wa ⟨rfl, hd⟩; have HB9 := Lib.hid (below_step HBo.out (below_step HBx.out hd.below)); clear hd) | (go_at_call 6; refine (HE1.out _).mono ?_; rintro e_ w9 ⟨⟨A9, c9, rfl, hl9, hC9⟩, hb9⟩; have HC9 := Lib.hid hC9; have HBx := Lib.hid (below_step (below_alloc (Below.refl _ _) _) hb9); clear hC9 hb9))
      go_ret
      exact ⟨rfl, HBb.out⟩
end Go.Proofs.YtipmnfidkoaojaaDoor.Fj

