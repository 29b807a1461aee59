import Derived.Test.YtipmnfidkoaojaaDoorYFH

/- Tag: its contract. -/
namespace Go.Proofs.YtipmnfidkoaojaaDoor.Fb
open Go.RowKit Go.Proofs.YtipmnfidkoaojaaDoorW.PrintWords Go.Proofs.YtipmnfidkoaojaaDoorW.PrintLast Go.Proofs.YtipmnfidkoaojaaDoorW.PrintMore Go.Proofs.YtipmnfidkoaojaaDoor.G
set_option linter.unusedVariables false
set_option linter.unusedSimpArgs false
def okc (b : UInt8) : Bool := decide (33 ≤ b.toNat ∧ b.toNat ≤ 126 ∧ b.toNat ≠ 34)
/-- what stands between the quotes -/
def mid (t : List UInt8) : List UInt8 := (t.take (t.length - 1)).drop 1
def tagB (n : Nat) (t : List UInt8) : Prop := n ≤ 512 ∧ 2 ≤ t.length ∧ t[0]? = some 34 ∧ t[t.length - 1]? = some 34 ∧ (mid t).all okc = true
instance (n : Nat) (t : List UInt8) : Decidable (tagB n t) := by unfold tagB; infer_instance
def TW : ByteArray := ⟨#[87, 47]⟩
def tagV (s : ByteArray) : ByteArray × Bool × Bool :=
  if tagB s.size (Lib.trimPrefix s.data.toList TW.data.toList) then (⟨(Lib.trimPrefix s.data.toList TW.data.toList).toArray⟩, Lib.hasPrefix s.data.toList TW.data.toList, true) else (⟨#[]⟩, false, false)
theorem byte_at (s : ByteArray) (i : Nat) (b : UInt8) (h : s.data.toList[i]? = some b) : ∀ h' : i < s.size, ((s[i]'h').toNat : Int) = (b.toNat : Int) := by
  intro h'
  have e : s.data.toList[i]? = some (s[i]'h') := by
    rw [Array.getElem?_toList, Array.getElem?_eq_getElem h']
    rfl
  rw [e] at h
  injection h with h
  rw [h]
set_option maxHeartbeats 2000000 in
theorem tag_1 (s T : ByteArray) (wk : Bool) (w : World) (hC : ∀ W, Calls Tryd.prog 20 #[.string s, .string TW] W fun e w' => e = .returned (.tuple #[.string T, .bool wk]) ∧ w' = W) (h0 : 512 < s.size) : Calls Tryd.prog 10 #[.string s] w fun e w' => e = .returned (.tuple #[.string ⟨#[]⟩, .bool false, .bool false]) ∧ Below w.heap.size w w' := by
  have HC := Lib.hid hC
  unfold TW at HC
  have t0 : decide ((s.size : Int) > 512) = true := decide_eq_true (by omega)
  clear hC h0
  go_enter Tryd.func10, Tryd.ntmps10
  go_wp2_with (go_at_call 20; refine (HC.out _).mono ?_; rintro e_ w1 ⟨rfl, h_⟩; obtain rfl := h_)
  go_ret3
  exact ⟨rfl, Below.refl _ _⟩
set_option maxHeartbeats 2000000 in
theorem tag_2 (s T : ByteArray) (wk : Bool) (w : World) (hC : ∀ W, Calls Tryd.prog 20 #[.string s, .string TW] W fun e w' => e = .returned (.tuple #[.string T, .bool wk]) ∧ w' = W) (h0 : ¬ 512 < s.size) (h1 : T.size < 2) : Calls Tryd.prog 10 #[.string s] w fun e w' => e = .returned (.tuple #[.string ⟨#[]⟩, .bool false, .bool false]) ∧ Below w.heap.size w w' := by
  have HC := Lib.hid hC
  unfold TW at HC
  have t0 : decide ((s.size : Int) > 512) = false := decide_eq_false (by omega)
  have t1 : decide ((T.size : Int) < 2) = true := decide_eq_true (by omega)
  clear hC h0 h1
  go_enter Tryd.func10, Tryd.ntmps10
  go_wp2_with (go_at_call 20; refine (HC.out _).mono ?_; rintro e_ w1 ⟨rfl, h_⟩; obtain rfl := h_)
  go_ret3
  exact ⟨rfl, Below.refl _ _⟩
set_option maxHeartbeats 2000000 in
theorem tag_3 (s T : ByteArray) (wk : Bool) (w : World) (hC : ∀ W, Calls Tryd.prog 20 #[.string s, .string TW] W fun e w' => e = .returned (.tuple #[.string T, .bool wk]) ∧ w' = W) (h0 : ¬ 512 < s.size) (h1 : ¬ T.size < 2) (b0 : UInt8) (h2 : T.data.toList[0]? = some b0) (h3 : b0 ≠ 34) : Calls Tryd.prog 10 #[.string s] w fun e w' => e = .returned (.tuple #[.string ⟨#[]⟩, .bool false, .bool false]) ∧ Below w.heap.size w w' := by
  have HC := Lib.hid hC
  unfold TW at HC
  have t0 : decide ((s.size : Int) > 512) = false := decide_eq_false (by omega)
  have t1 : decide ((T.size : Int) < 2) = false := decide_eq_false (by omega)
  have hb0 := byte_at T 0 b0 h2
  have q0 : 0 < T.size := by omega
  have t2 : ((b0.toNat : Int) != 34) = true := by rw [bne_iff_ne]; intro e; exact h3 (UInt8.toNat_inj.1 (by show b0.toNat = 34; omega))
  clear hC h0 h1 h2 h3
  go_enter Tryd.func10, Tryd.ntmps10
  go_wp2_with (go_at_call 20; refine (HC.out _).mono ?_; rintro e_ w1 ⟨rfl, h_⟩; obtain rfl := h_)
  go_ret3
  exact ⟨rfl, Below.refl _ _⟩
set_option maxHeartbeats 2000000 in
theorem tag_4 (s T : ByteArray) (wk : Bool) (w : World) (hC : ∀ W, Calls Tryd.prog 20 #[.string s, .string TW] W fun e w' => e = .returned (.tuple #[.string T, .bool wk]) ∧ w' = W) (h0 : ¬ 512 < s.size) (h1 : ¬ T.size < 2) (h2 : T.data.toList[0]? = some 34) (b1 : UInt8) (hbig : T.size ≤ 1000) (h4 : T.data.toList[T.size - 1]? = some b1) (h5 : b1 ≠ 34) : Calls Tryd.prog 10 #[.string s] w fun e w' => e = .returned (.tuple #[.string ⟨#[]⟩, .bool false, .bool false]) ∧ Below w.heap.size w w' := by
  have HC := Lib.hid hC
  unfold TW at HC
  have t0 : decide ((s.size : Int) > 512) = false := decide_eq_false (by omega)
  have t1 : decide ((T.size : Int) < 2) = false := decide_eq_false (by omega)
  have hb0 := byte_at T 0 34 h2
  have q0 : 0 < T.size := by omega
  have q1 : T.size - 1 < T.size := by omega
  have hb1 := byte_at T (T.size - 1) b1 h4
  have u0 : (0 ≤ (T.size : Int) - 1) = True := eq_true (by omega)
  have u1 : ((T.size : Int) - 1).toNat = T.size - 1 := by omega
  have u2 : ((T.size : Int) - 1 < (T.size : Int)) = True := eq_true (by omega)
  have t3 : ((b1.toNat : Int) != 34) = true := by rw [bne_iff_ne]; intro e; exact h5 (UInt8.toNat_inj.1 (by show b1.toNat = 34; omega))
  clear hC h0 h1 h2 h4 h5
  go_enter Tryd.func10, Tryd.ntmps10
  go_wp2_with (go_at_call 20; refine (HC.out _).mono ?_; rintro e_ w1 ⟨rfl, h_⟩; obtain rfl := h_)
  go_ret3
  exact ⟨rfl, Below.refl _ _⟩
theorem okc_yes {b : UInt8} (h : okc b = true) : ¬ (b.toNat : Int) < 33 ∧ ¬ 126 < (b.toNat : Int) ∧ (b.toNat : Int) ≠ 34 := by
  have := of_decide_eq_true h
  exact ⟨by omega, by omega, by omega⟩
theorem okc_no {b : UInt8} (h : okc b = false) : (b.toNat : Int) < 33 ∨ 126 < (b.toNat : Int) ∨ (b.toNat : Int) = 34 := by
  have := of_decide_eq_false h
  omega
set_option maxRecDepth 100000 in
set_option maxHeartbeats 4000000 in
theorem tag_good (s T : ByteArray) (wk : Bool) (w : World) (hC : ∀ W, Calls Tryd.prog 20 #[.string s, .string TW] W fun e w' => e = .returned (.tuple #[.string T, .bool wk]) ∧ w' = W) (h0 : ¬ 512 < s.size) (h1 : ¬ T.size < 2) (hbig : T.size ≤ 1000) (h2 : T.data.toList[0]? = some 34) (h4 : T.data.toList[T.size - 1]? = some 34) (r : ByteArray × Bool × Bool) (hr : r = if (mid T.data.toList).all okc = true then (T, wk, true) else (⟨#[]⟩, false, false)) :
    Calls Tryd.prog 10 #[.string s] w fun e w' => e = .returned (.tuple #[.string r.1, .bool r.2.1, .bool r.2.2]) ∧ Below w.heap.size w w' := by
  have HC := Lib.hid hC
  unfold TW at HC
  have t0 : decide ((s.size : Int) > 512) = false := decide_eq_false (by omega)
  have t1 : decide ((T.size : Int) < 2) = false := decide_eq_false (by omega)
  have hb0 := byte_at T 0 34 h2
  have q0 : 0 < T.size := by omega
  have q1 : T.size - 1 < T.size := by omega
  have hb1 := byte_at T (T.size - 1) 34 h4
  have u0 : (0 ≤ (T.size : Int) - 1) = True := eq_true (by omega)
  have u1 : ((T.size : Int) - 1).toNat = T.size - 1 := by omega
  have u2 : ((T.size : Int) - 1 < (T.size : Int)) = True := eq_true (by omega)
  have u3 : (1 ≤ (T.size : Int) - 1) = True := eq_true (by omega)
  have u4 : ((T.size : Int) - 1 ≤ (T.size : Int)) = True := eq_true (by omega)
  have u5 : (1 ≤ T.size - 1) = True := eq_true (by omega)
  have u6 : (2 ≤ (T.size : Int)) = True := eq_true (by omega)
  obtain ⟨M, hM⟩ : ∃ M, M = T.extract 1 (T.size - 1) := ⟨_, rfl⟩
  have hx := hM.symm
  have hbs : M.data.toList = mid T.data.toList := by
    have e := V.ext_D T 1 (T.size - 1)
    rw [hM, e]
    unfold V.mk V.D mid
    rw [show T.data.toList.length = T.size by simp]
  have hcv := Pl.to_bytes M
  have hgl : w.heap.size < (Pl.after5 w M).heap.size := by unfold Pl.after5; simp
  have HS0 := Lib.hid (Pl.smAt_0 w M)
  have HB0 := Lib.hid (Pl.after_below w M)
  have HR := Lib.hid hr
  rw [← hbs] at HR
  clear hC h0 h1 h2 h4 hr hM hbs
  go_enter Tryd.func10, Tryd.ntmps10
  go_upto_region 4 with (go_at_call 20; refine (HC.out _).mono ?_; rintro e_ w1 ⟨rfl, h_⟩; obtain rfl := h_)
  go_upto_region 5 with fail
  obtain ⟨CP, hCP⟩ : ∃ C, C = Pl.cap5 w1 M := ⟨_, rfl⟩
  rw [← hCP]
  obtain ⟨W1, hW1⟩ : ∃ W, W = Pl.after5 w1 M := ⟨_, rfl⟩
  rw [← hW1] at HB0 HS0 hgl ⊢
  obtain ⟨bs, hbs⟩ : ∃ bs, bs = M.data.toList := ⟨_, rfl⟩
  have hbl : M.data.toList.length = bs.length := by rw [hbs]
  have hbl2 : M.size = bs.length := by rw [hbs]; simp
  have hbM : bs.length ≤ 1000 := by rw [← hbl2, ← hx]; rw [ByteArray.size_extract]; omega
  rw [← hbs] at HS0 HR
  try rw [hbl]
  try rw [hbl2]
  clear hCP hW1 hcv hbs hbl hbl2 u0 u1 u2 u3 u4 u5 u6 hb0 hb1 q0 q1 t0 t1 hx HC hbig
  go_loopg [42] (bs.length + 1) (fun k v42 W => ∃ i : Nat, v42 = .int .i64 (i : Int) ∧ i ≤ bs.length ∧ bs.length + 1 ≤ k + i ∧ W = W1 ∧ Hid ((bs.take i).all okc = true))
  case atStart => exact ⟨0, rfl, by omega, by omega, rfl, Lib.hid rfl⟩
  case round =>
    obtain ⟨i, rfl, hi, hk, hW, HA⟩ := hrel
    obtain rfl := hW
    by_cases hlt : i < bs.length
    · obtain ⟨ko, rfl⟩ : ∃ ko, gk = ko + 1 := ⟨gk - 1, by omega⟩
      have hk2 : bs.length + 1 ≤ ko + (i + 1) := by omega
      have hi1 : i + 1 ≤ bs.length := hlt
      have c1 : decide ((i : Int) < (bs.length : Int)) = true := decide_eq_true (by omega)
      have p1 : 0 ≤ (i : Int) := by omega
      have p2 : (i : Int) < (bs.length : Int) := by omega
      have HWX := Lib.hid (show wrap64 ((i : Int) + 1) = (i : Int) + 1 by unfold wrap64; omega)
      have hx := (HS0.out i hlt).1
      rw [if_neg (by omega)] at hx
      obtain ⟨b, hb⟩ : ∃ b, b = bs[i] := ⟨_, rfl⟩
      rw [← hb] at hx
      have HNX : Hid (okc b = true → (bs.take (i + 1)).all okc = true) := Lib.hid (fun h => by rw [← List.take_append_getElem hlt, List.all_append, HA.out, ← hb]; simp [h])
      have HNO : Hid (okc b = false → bs.all okc = false) := Lib.hid (fun h => by
        rw [List.all_eq_false]
        exact ⟨b, by rw [hb]; exact List.getElem_mem hlt, by rw [h]; simp⟩)
      clear hlt hb
      cases hoc : okc b with
      | true =>
        obtain ⟨y1, y2, y3⟩ := okc_yes hoc
        have d1 : decide ((b.toNat : Int) < 33) = false := decide_eq_false y1
        have d2 : decide ((b.toNat : Int) > 126) = false := decide_eq_false y2
        have d3 : ((b.toNat : Int) == 34) = false := beq_eq_false_iff_ne.2 y3
        have HNX2 := Lib.hid (HNX.out hoc)
        clear hoc y1 y2 y3
        go_wp2
        go_roundg ko
        case measure => omega
        case rel => exact ⟨i + 1, by first | exact congrArg (Value.int .i64) HWX.out | go_num, hi1, hk2, rfl, HNX2⟩
      | false =>
        have hrr : r = (⟨#[]⟩, false, false) := by rw [HR.out, if_neg (by rw [HNO.out hoc]; simp)]
        have HRR := Lib.hid hrr
        rcases okc_no hoc with y | y | y
        · have d1 : decide ((b.toNat : Int) < 33) = true := decide_eq_true y
          clear hoc y hrr
          go_wp2
          go_ret3
          exact ⟨by rw [HRR.out]; rfl, HB0.out⟩
        · have d1 : decide ((b.toNat : Int) < 33) = false := decide_eq_false (by omega)
          have d2 : decide ((b.toNat : Int) > 126) = true := decide_eq_true y
          clear hoc y hrr
          go_wp2
          go_ret3
          exact ⟨by rw [HRR.out]; rfl, HB0.out⟩
        · have d1 : decide ((b.toNat : Int) < 33) = false := decide_eq_false (by omega)
          have d2 : decide ((b.toNat : Int) > 126) = false := decide_eq_false (by omega)
          have d3 : ((b.toNat : Int) == 34) = true := beq_iff_eq.2 y
          clear hoc y hrr
          go_wp2
          go_ret3
          exact ⟨by rw [HRR.out]; rfl, HB0.out⟩
    · obtain rfl : i = bs.length := by omega
      have c1 : decide ((bs.length : Int) < (bs.length : Int)) = false := decide_eq_false (by omega)
      have hrr : r = (T, wk, true) := by
        rw [HR.out, if_pos]
        have := HA.out
        rwa [List.take_length] at this
      have HRR := Lib.hid hrr
      clear hk hi hlt hrr
      go_wp2
      go_ret3
      exact ⟨by rw [HRR.out]; rfl, HB0.out⟩
theorem trimPrefix_le (s p : List UInt8) : (Lib.trimPrefix s p).length ≤ s.length := by
  unfold Lib.trimPrefix
  split
  · simp only [List.length_drop]; omega
  · exact Nat.le_refl _
theorem get0 {l : List UInt8} (i : Nat) (h : i < l.length) : ∃ b, l[i]? = some b := ⟨_, List.getElem?_eq_getElem h⟩
theorem tag_q (s : ByteArray) (w : World) : Calls Tryd.prog 10 #[.string s] w fun e w' => e = .returned (.tuple #[.string (tagV s).1, .bool (tagV s).2.1, .bool (tagV s).2.2]) ∧ Below w.heap.size w w' := by
  have hC := fun W => Tryd.strings_CutPrefix s TW W
  have hle := trimPrefix_le s.data.toList TW.data.toList
  have hsl : s.data.toList.length = s.size := by simp
  unfold tagV
  obtain ⟨L, hL⟩ : ∃ L, L = Lib.trimPrefix s.data.toList TW.data.toList := ⟨_, rfl⟩
  obtain ⟨wk, hwk⟩ : ∃ b, b = Lib.hasPrefix s.data.toList TW.data.toList := ⟨_, rfl⟩
  rw [← hL, ← hwk] at hC
  rw [← hL] at hle
  rw [← hL, ← hwk]
  obtain ⟨T, hT⟩ : ∃ T : ByteArray, T = ⟨L.toArray⟩ := ⟨_, rfl⟩
  have eT : T.data.toList = L := by rw [hT]
  have zT : T.size = L.length := by rw [← eT]; simp
  rw [← hT] at hC ⊢
  rw [← eT]
  clear hL hwk hT
  by_cases h0 : 512 < s.size
  · rw [if_neg (fun h => by have := h.1; omega)]; exact tag_1 s T wk w hC h0
  by_cases h1 : T.size < 2
  · rw [if_neg (fun h => by have := h.2.1; rw [eT] at this; omega)]; exact tag_2 s T wk w hC h0 h1
  obtain ⟨b0, hb0⟩ := get0 (l := T.data.toList) 0 (by rw [eT]; omega)
  by_cases h2 : b0 = 34
  · subst h2
    obtain ⟨b1, hb1⟩ := get0 (l := T.data.toList) (T.size - 1) (by rw [eT]; omega)
    have el : T.data.toList.length - 1 = T.size - 1 := by simp
    by_cases h3 : b1 = 34
    · subst h3
      refine tag_good s T wk w hC h0 h1 (by omega) hb0 hb1 _ ?_
      by_cases h4 : (mid T.data.toList).all okc = true
      · rw [if_pos h4, if_pos ⟨by omega, by rw [eT]; omega, hb0, by rw [el]; exact hb1, h4⟩]
      · rw [if_neg h4, if_neg (fun h => h4 h.2.2.2.2)]
    · rw [if_neg (fun h => by have := h.2.2.2.1; rw [el, hb1] at this; injection this with this; exact h3 this)]; exact tag_4 s T wk w hC h0 h1 hb0 b1 (by omega) hb1 h3
  · rw [if_neg (fun h => by have := h.2.2.1; rw [hb0] at this; injection this with this; exact h2 this)]; exact tag_3 s T wk w hC h0 h1 b0 hb0 h2
end Go.Proofs.YtipmnfidkoaojaaDoor.Fb

