import Derived.Test.YtipmnfidkoaojaaDoorYFT

/- Match: its contract. -/
namespace Go.Proofs.YtipmnfidkoaojaaDoor.Fb
open Go.RowKit Go.Proofs.YtipmnfidkoaojaaDoorW.PrintWords Go.Proofs.YtipmnfidkoaojaaDoorW.PrintLast Go.Proofs.YtipmnfidkoaojaaDoorW.PrintMore Go.Proofs.YtipmnfidkoaojaaDoor.G
set_option linter.unusedVariables false
set_option linter.unusedSimpArgs false
def STAR : ByteArray := ⟨#[42]⟩
def matchP (text : ByteArray) (weak w : Bool) (e : ByteArray) : Bool := decide (e = STAR) || ((tagV e).2.2 && (decide ((tagV e).1 = text) && (weak || (!w && !(tagV e).2.1))))
theorem star_of {s : ByteArray} (h : s.toList = [42]) : s = STAR := by
  rw [toL] at h
  obtain ⟨⟨l⟩⟩ := s
  simp only at h
  rw [h]; rfl
set_option maxHeartbeats 4000000 in
theorem clos_q (e text : ByteArray) (weak w : Bool) (p q r : Nat) (W : World) (hp : W.cell? ⟨p, 0, none⟩ = some (.string text)) (hq : W.cell? ⟨q, 0, none⟩ = some (.bool weak)) (hr : W.cell? ⟨r, 0, none⟩ = some (.bool w)) :
    Calls Tryd.prog 22 #[.string e, .pointer (some ⟨p, 0, none⟩), .pointer (some ⟨q, 0, none⟩), .pointer (some ⟨r, 0, none⟩)] W fun e' w' => e' = .returned (.bool (matchP text weak w e)) ∧ Below W.heap.size W w' := by
  have HT := Lib.hid (tag_q e W)
  obtain ⟨b, hb⟩ : ∃ b, b = matchP text weak w e := ⟨_, rfl⟩
  rw [← hb]
  unfold matchP at hb
  obtain ⟨⟨O, v, is⟩, ho⟩ : ∃ x, x = tagV e := ⟨_, rfl⟩
  rw [← ho] at HT hb
  simp only at HT hb
  have HP := Lib.hid hp; have HQ := Lib.hid hq; have HRr := Lib.hid hr
  clear ho hp hq hr
  by_cases h0 : e = STAR
  · have t0 : e.toList = [42] := by rw [h0]; unfold STAR; rw [toL]
    have hb2 : b = true := by rw [hb]; simp [h0]
    have HBB := Lib.hid hb2
    clear h0 hb hb2
    go_enter Tryd.func22, Tryd.ntmps22
    go_wp2_with (go_at_call 10; refine HT.out.mono ?_; rintro e_ w1 ⟨rfl, hb1⟩; have HB1 := Lib.hid hb1; clear hb1)
    go_ret
    exact ⟨by rw [HBB.out]; rfl, HB1.out⟩
  have t0 : ¬ e.toList = [42] := fun h => h0 (star_of h)
  have t0b : (e.toList == [42]) = false := by rw [beq_eq_false_iff_ne]; exact t0
  rw [decide_eq_false h0, Bool.false_or] at hb
  clear h0
  cases is with
  | false =>
    have HBB := Lib.hid hb
    clear hb
    go_enter Tryd.func22, Tryd.ntmps22
    go_wp2_with (go_at_call 10; refine HT.out.mono ?_; rintro e_ w1 ⟨rfl, hb1⟩; have HB1 := Lib.hid hb1; have k0 := pw_cell_below hb1 HP.out; have k1 := pw_cell_below hb1 HQ.out; have k2 := pw_cell_below hb1 HRr.out; clear hb1)
    go_ret
    exact ⟨by rw [HBB.out]; rfl, HB1.out⟩
  | true =>
    by_cases h1 : O = text
    · have t1 : (O.toList == text.toList) = true := (Lib.bytes_beq_iff O text).2 h1
      rw [decide_eq_true h1, Bool.true_and, Bool.true_and] at hb
      clear h1
      cases weak with
      | true =>
        have HBB := Lib.hid hb
        clear hb
        go_enter Tryd.func22, Tryd.ntmps22
        go_wp2_with (go_at_call 10; refine HT.out.mono ?_; rintro e_ w1 ⟨rfl, hb1⟩; have HB1 := Lib.hid hb1; have k0 := pw_cell_below hb1 HP.out; have k1 := pw_cell_below hb1 HQ.out; have k2 := pw_cell_below hb1 HRr.out; clear hb1)
        go_ret
        exact ⟨by rw [HBB.out]; rfl, HB1.out⟩
      | false =>
        cases w with
        | true =>
          have HBB := Lib.hid hb
          clear hb
          go_enter Tryd.func22, Tryd.ntmps22
          go_wp2_with (go_at_call 10; refine HT.out.mono ?_; rintro e_ w1 ⟨rfl, hb1⟩; have HB1 := Lib.hid hb1; have k0 := pw_cell_below hb1 HP.out; have k1 := pw_cell_below hb1 HQ.out; have k2 := pw_cell_below hb1 HRr.out; clear hb1)
          go_ret
          exact ⟨by rw [HBB.out]; rfl, HB1.out⟩
        | false =>
          have HBB := Lib.hid hb
          clear hb
          go_enter Tryd.func22, Tryd.ntmps22
          go_wp2_with (go_at_call 10; refine HT.out.mono ?_; rintro e_ w1 ⟨rfl, hb1⟩; have HB1 := Lib.hid hb1; have k0 := pw_cell_below hb1 HP.out; have k1 := pw_cell_below hb1 HQ.out; have k2 := pw_cell_below hb1 HRr.out; clear hb1)
          go_ret
          exact ⟨by rw [HBB.out]; rfl, HB1.out⟩
    · have t1 : (O.toList == text.toList) = false := (Lib.bytes_beq_false_iff O text).2 h1
      rw [decide_eq_false h1, Bool.false_and, Bool.and_false] at hb
      clear h1
      have HBB := Lib.hid hb
      clear hb
      go_enter Tryd.func22, Tryd.ntmps22
      go_wp2_with (go_at_call 10; refine HT.out.mono ?_; rintro e_ w1 ⟨rfl, hb1⟩; have HB1 := Lib.hid hb1; have k0 := pw_cell_below hb1 HP.out; have k1 := pw_cell_below hb1 HQ.out; have k2 := pw_cell_below hb1 HRr.out; clear hb1)
      go_ret
      exact ⟨by rw [HBB.out]; rfl, HB1.out⟩
/-- the first place from o on at which p holds, or -1 -/
def fi (p : ByteArray → Bool) : Int → List ByteArray → Int
  | _, [] => -1
  | o, x :: xs => if p x then o else fi p (o + 1) xs
theorem fi_drop (p : ByteArray → Bool) (l : List ByteArray) (i : Nat) (x : ByteArray) (h : l[i]? = some x) (o : Int) : fi p o (l.drop i) = if p x then o else fi p (o + 1) (l.drop (i + 1)) := by
  obtain ⟨hi, rfl⟩ := List.getElem?_eq_some_iff.1 h
  rw [List.drop_eq_getElem_cons hi]
  rfl
theorem fi_any (p : ByteArray → Bool) : ∀ (l : List ByteArray) (o : Int), 0 ≤ o → decide (0 ≤ fi p o l) = l.any p
  | [], o, _ => rfl
  | x :: l, o, h => by
    unfold fi
    cases hx : p x with
    | true => simp [hx, h]
    | false =>
      have := fi_any p l (o + 1) (by omega)
      simp [hx, this]
theorem elem_C {W : World} {A : Option Addr} {L : List ByteArray} (hC : Kd.C Kd.string W A L.length L) (i : Nat) (x : ByteArray) (hx : L[i]? = some x) : ∃ ad, A = some ad ∧ W.cell? (ad.add i) = some (.string x) := by
  have hi := (List.getElem?_eq_some_iff.1 hx).1
  obtain ⟨_, _, h⟩ := hC
  obtain ⟨ad, e, hc⟩ := h (by omega)
  obtain ⟨cs, h1, h2, h3⟩ := hc i x hx
  obtain rfl : cs = [.string x] := h2
  have := h3 0 _ rfl
  rw [show i * Kd.string.sz + 0 = i by show i * 1 + 0 = i; omega] at this
  exact ⟨ad, e, this⟩
set_option maxHeartbeats 4000000 in
theorem indexf_q (w : World) (A : Option Addr) (c : Nat) (l : List ByteArray) (text : ByteArray) (weak wk : Bool) (p q r : Nat) (hC : Kd.C Kd.string w A l.length l) (hl : l.length ≤ 140737488351232) (hp : w.cell? ⟨p, 0, none⟩ = some (.string text)) (hq : w.cell? ⟨q, 0, none⟩ = some (.bool weak)) (hr : w.cell? ⟨r, 0, none⟩ = some (.bool wk)) :
    Calls Tryd.prog 39 #[.slice A l.length c, .func (.func 22) #[] #[.pointer (some ⟨p, 0, none⟩), .pointer (some ⟨q, 0, none⟩), .pointer (some ⟨r, 0, none⟩)]] w fun e w' => e = .returned (.int .i64 (fi (matchP text weak wk) 0 l)) ∧ Below w.heap.size w w' := by
  have HC := Lib.hid hC
  have HP := Lib.hid hp; have HQ := Lib.hid hq; have HRr := Lib.hid hr
  clear hC hp hq hr
  go_enter Tryd.func39, Tryd.ntmps39
  go_wp2
  go_loopg [8] (l.length + 1) (fun k v8 W => ∃ (i : Nat), v8 = .int .i64 i ∧ i ≤ l.length ∧ l.length + 1 ≤ k + i ∧ Hid (fi (matchP text weak wk) 0 l = fi (matchP text weak wk) (i : Int) (l.drop i)) ∧ Hid (Below w.heap.size w W))
  case atStart => exact ⟨0, rfl, by omega, by omega, Lib.hid rfl, Lib.hid (Below.refl _ _)⟩
  case round =>
    obtain ⟨i, rfl, hi, hk, HF, HW⟩ := hrel
    rename World => Wo
    by_cases hlt : i < l.length
    · obtain ⟨x, hx⟩ : ∃ x, l[i]? = some x := ⟨_, List.getElem?_eq_getElem hlt⟩
      obtain ⟨ad, rfl, hz⟩ := elem_C (Kd.C_below HC.out HW.out) i x hx
      obtain ⟨ko, rfl⟩ : ∃ ko, gk = ko + 1 := ⟨gk - 1, by omega⟩
      have hk2 : l.length + 1 ≤ ko + (i + 1) := by omega
      have hi1 : i + 1 ≤ l.length := hlt
      have c1 : decide ((i : Int) < (l.length : Int)) = true := decide_eq_true (by omega)
      have p1 : 0 ≤ (i : Int) := by omega
      have p2 : (i : Int) < (l.length : Int) := by omega
      have hadl := World.block_lt_of_cell? Wo _ hz
      have HWI := Lib.hid (show wrap64 ((i : Int) + 1) = (i : Int) + 1 by unfold wrap64; omega)
      have HST := Lib.hid (fi_drop (matchP text weak wk) l i x hx (i : Int))
      have Hcall := Lib.hid (clos_q x text weak wk p q r Wo (pw_cell_below HW.out HP.out) (pw_cell_below HW.out HQ.out) (pw_cell_below HW.out HRr.out))
      obtain ⟨b, hb⟩ : ∃ b, b = matchP text weak wk x := ⟨_, rfl⟩
      rw [← hb] at HST Hcall
      clear hlt hx hb
      cases b with
      | true =>
        go_wp2_with (first | (go_at_call 22; refine Hcall.out.mono ?_; rintro e w3 ⟨rfl, hb3⟩; have HB3 := Lib.hid (below_step HW.out hb3); clear hb3))
        go_ret
        exact ⟨by rw [HF.out, HST.out]; rfl, HB3.out⟩
      | false =>
        go_wp2_with (first | (go_at_call 22; refine Hcall.out.mono ?_; rintro e w3 ⟨rfl, hb3⟩; have HB3 := Lib.hid (below_step HW.out hb3); clear hb3))
        go_roundg ko
        case measure => omega
        case rel => exact ⟨i + 1, by first | exact congrArg (Value.int .i64) HWI.out | go_num, hi1, hk2, Lib.hid (by rw [HF.out, HST.out]; rfl), HB3⟩
    · have hil : i = l.length := by omega
      subst hil
      have c0 : decide ((l.length : Int) < (l.length : Int)) = false := decide_eq_false (by omega)
      have HE : Hid (fi (matchP text weak wk) 0 l = -1) := Lib.hid (by rw [HF.out, List.drop_length]; rfl)
      clear hlt hi hk
      go_wp2
      go_ret
      exact ⟨by rw [HE.out]; rfl, HW.out⟩
set_option maxHeartbeats 4000000 in
theorem containsf_q (w : World) (A : Option Addr) (c : Nat) (l : List ByteArray) (text : ByteArray) (weak wk : Bool) (p q r : Nat) (hC : Kd.C Kd.string w A l.length l) (hl : l.length ≤ 140737488351232) (hp : w.cell? ⟨p, 0, none⟩ = some (.string text)) (hq : w.cell? ⟨q, 0, none⟩ = some (.bool weak)) (hr : w.cell? ⟨r, 0, none⟩ = some (.bool wk)) :
    Calls Tryd.prog 21 #[.slice A l.length c, .func (.func 22) #[] #[.pointer (some ⟨p, 0, none⟩), .pointer (some ⟨q, 0, none⟩), .pointer (some ⟨r, 0, none⟩)]] w fun e w' => e = .returned (.bool (l.any (matchP text weak wk))) ∧ Below w.heap.size w w' := by
  have HI := Lib.hid (indexf_q w A c l text weak wk p q r hC hl hp hq hr)
  have HA := Lib.hid (fi_any (matchP text weak wk) l 0 (by decide))
  clear hC hl hp hq hr
  go_enter Tryd.func21, Tryd.ntmps21
  go_wp2_with (go_at_call 39; refine HI.out.mono ?_; rintro e_ w1 ⟨rfl, hb1⟩; have HB1 := Lib.hid hb1; clear hb1)
  go_ret
  exact ⟨by rw [← HA.out]; rfl, HB1.out⟩
def matchV (l : List ByteArray) (tag : ByteArray) (weak : Bool) : Bool := (tagV tag).2.2 && (V.elements l).any (matchP (tagV tag).1 weak (tagV tag).2.1)
set_option maxRecDepth 100000 in
set_option maxHeartbeats 4000000 in
theorem match_q (A0 : Option Addr) (c0 : Nat) (l0 : List ByteArray) (tag : ByteArray) (weak : Bool) (w : World) (hr0 : Kd.C Kd.string w A0 l0.length l0) (hc0 : l0.length ≤ c0) (hb : V.tot l0 + 1 < 1099511627776) :
    Calls Tryd.prog 11 #[.slice A0 l0.length c0, .string tag, .bool weak] w fun e w' => e = .returned (.bool (matchV l0 tag weak)) ∧ Below w.heap.size w w' := by
  obtain ⟨K, hK⟩ := V.elements_ev l0 hb
  have HEL := Lib.hid (hK K (Nat.le_refl _))
  have hel := V.elements_len l0
  have HT := Lib.hid (fun W => tag_q tag W)
  have HC0 := Lib.hid hr0
  unfold matchV
  obtain ⟨L, hL⟩ : ∃ L, L = V.elements l0 := ⟨_, rfl⟩
  rw [← hL] at HEL hel ⊢
  obtain ⟨⟨T, wk, ok⟩, ho⟩ : ∃ x, x = tagV tag := ⟨_, rfl⟩
  rw [← ho] at HT ⊢
  simp only at HT ⊢
  have hLl : L.length ≤ 140737488351232 := by omega
  clear hL ho hK hr0 hel hb
  cases ok with
  | false =>
    go_enter Tryd.func11, Tryd.ntmps11
    go_wp2_with (go_at_call 10; refine (HT.out _).mono ?_; rintro e_ w1 ⟨rfl, hb1⟩; have HB1 : Hid (Below w.heap.size w w1) := Lib.hid (below_step (below_alloc (Below.refl _ _) _) hb1); clear hb1)
    go_ret
    exact ⟨rfl, below_alloc (below_alloc HB1.out _) _⟩
  | true =>
    go_enter Tryd.func11, Tryd.ntmps11
    go_upto_region 2 with (go_at_call 10; refine (HT.out _).mono ?_; rintro e_ w1 ⟨rfl, hb1⟩; have HB1 : Hid (Below w.heap.size w w1) := Lib.hid (below_step (below_alloc (Below.refl _ _) _) hb1); have HQ := Lib.hid (pw_cell_below hb1 (c_of (heap_alloc_new w (.cells #[.bool weak] 4)) 0 rfl)); clear hb1)
    obtain ⟨W2, hW2⟩ : ∃ W, W = (w1.alloc (.cells #[.string T] 9)).alloc (.cells #[.bool wk] 4) := ⟨_, rfl⟩
    rw [← hW2]
    have HB2 : Hid (Below w1.heap.size w1 W2) := Lib.hid (by rw [hW2]; exact below_alloc (below_alloc (Below.refl _ _) _) _)
    have HP2 : Hid (W2.cell? ⟨w1.heap.size, 0, none⟩ = some (.string T)) := Lib.hid (by rw [hW2]; exact c_of (blk_bel (below_alloc (Below.refl _ _) _) (heap_alloc_new w1 (.cells #[.string T] 9))) 0 rfl)
    have HR2 : Hid (W2.cell? ⟨w1.heap.size + 1, 0, none⟩ = some (.bool wk)) := Lib.hid (by rw [hW2]; have := heap_alloc_new (w1.alloc (.cells #[.string T] 9)) (.cells #[.bool wk] 4); rw [World.size_alloc] at this; exact c_of this 0 rfl)
    have HQ2 := Lib.hid (pw_cell_below HB2.out HQ.out)
    have HBw := Lib.hid (below_step HB1.out HB2.out)
    clear hW2 HT HQ HB1 HB2
    go_wp2_with (first | (go_at_call 6; refine (field_Elements.calls K A0 c0 l0 L _ (Kd.C_below HC0.out HBw.out) hc0 HEL.out).mono ?_; rintro e_ w3 ⟨v3, rfl, hR3, hb3⟩; obtain ⟨A3, c3, rfl, hl3, hC3⟩ := Kd.R_reads hR3; have HC3 := Lib.hid hC3; have HB3 := Lib.hid (below_step HBw.out hb3); have HP3 := Lib.hid (pw_cell_below hb3 HP2.out); have HQ3 := Lib.hid (pw_cell_below hb3 HQ2.out); have HR3 := Lib.hid (pw_cell_below hb3 HR2.out); clear hR3 hb3 hC3) | (go_at_call 21; refine (containsf_q _ A3 c3 L T weak wk _ _ _ HC3.out hLl HP3.out HQ3.out HR3.out).mono ?_; rintro e_ w4 ⟨rfl, hb4⟩; have HB4 := Lib.hid (below_step HB3.out hb4); clear hb4))
    go_ret
    exact ⟨rfl, HB4.out⟩
end Go.Proofs.YtipmnfidkoaojaaDoor.Fb

