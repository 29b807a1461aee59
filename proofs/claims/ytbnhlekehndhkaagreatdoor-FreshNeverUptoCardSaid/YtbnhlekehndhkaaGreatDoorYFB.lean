import Derived.Test.YtbnhlekehndhkaaGreatDoorYSh
import Derived.Test.YtbnhlekehndhkaaGreatDoorYGx0
import Derived.Lib.AtoiTie
import Derived.Lib.SlicesS




/- Numbers of a field: number, Seconds. -/
namespace Go.Proofs.YtbnhlekehndhkaaGreatDoor.Fb
open Go.RowKit Go.Proofs.YtbnhlekehndhkaaGreatDoorW.PrintWords Go.Proofs.YtbnhlekehndhkaaGreatDoorW.PrintLast Go.Proofs.YtbnhlekehndhkaaGreatDoorW.PrintMore Go.Proofs.YtbnhlekehndhkaaGreatDoor.G
set_option linter.unusedVariables false
set_option linter.unusedSimpArgs false
def digs : List UInt8 := [48, 49, 50, 51, 52, 53, 54, 55, 56, 57]
theorem trimLeft_mem {l : List UInt8} {c b : UInt8} (h : b ∈ Lib.trimLeftB l c) : b ∈ l := List.IsSuffix.subset (List.dropWhile_suffix _) h
theorem digs_iff (b : UInt8) : digs.contains b = true ↔ 48 ≤ b.toNat ∧ b.toNat ≤ 57 := by
  have : ∀ n : Fin 256, digs.contains (UInt8.ofNat n) = true ↔ 48 ≤ (UInt8.ofNat n).toNat ∧ (UInt8.ofNat n).toNat ≤ 57 := by decide +kernel
  have h := this ⟨b.toNat, b.toNat_lt⟩
  simpa using h
theorem dw_head {α : Type} {p : α → Bool} : ∀ (l : List α) (x : α) (t : List α), l.dropWhile p = x :: t → p x = false
  | [], x, t, h => by cases h
  | y :: l, x, t, h => by
    cases hp : p y with
    | true => rw [List.dropWhile_cons_of_pos hp] at h; exact dw_head l x t h
    | false => rw [List.dropWhile_cons_of_neg (by simp [hp])] at h; simp only [List.cons.injEq] at h; rw [← h.1]; exact hp
theorem dw_nil {α : Type} {p : α → Bool} : ∀ (l : List α), l.dropWhile p = [] → ∀ b ∈ l, p b = true
  | [], _, b, hb => by cases hb
  | y :: l, h, b, hb => by
    cases hp : p y with
    | true =>
      rw [List.dropWhile_cons_of_pos hp] at h
      rcases List.mem_cons.1 hb with rfl | hb
      · exact hp
      · exact dw_nil l h b hb
    | false => rw [List.dropWhile_cons_of_neg (by simp [hp])] at h; cases h
theorem trim_digits {l : List UInt8} (h : Lib.trimS l digs = []) : ∀ b ∈ l, 48 ≤ b.toNat ∧ b.toNat ≤ 57 := by
  unfold Lib.trimS Lib.trimLeftS Lib.trimRightS at h
  replace h := dw_nil _ h
  intro b hb
  rw [← digs_iff]
  cases hc : l.reverse.dropWhile (digs.contains ·) with
  | nil =>
    exact dw_nil _ hc b (by simpa using hb)
  | cons x t =>
    rw [hc] at h
    have h1 := h x (by simp)
    rw [dw_head l.reverse x t hc] at h1
    cases h1
theorem decFrom_digits : ∀ (l : List UInt8) (acc : Nat), (∀ b ∈ l, 48 ≤ b.toNat ∧ b.toNat ≤ 57) → ∃ m, Lib.decFrom acc l = some m
  | [], acc, _ => ⟨acc, rfl⟩
  | c :: r, acc, h => by
    have hd := h c (by simp)
    obtain ⟨m, hm⟩ := decFrom_digits r (acc * 10 + (c.toNat - 48)) (fun b hb => h b (by simp [hb]))
    exact ⟨m, by simp only [Lib.decFrom, Lib.digitVal, if_pos hd]; exact hm⟩
theorem atoi_digits (l : List UInt8) (h0 : l ≠ []) (hl : l.length ≤ 18) (h : ∀ b ∈ l, 48 ≤ b.toNat ∧ b.toNat ≤ 57) : ∃ m : Nat, Lib.atoiAll l = .ok (m : Int) ∧ m < 1000000000000000000 := by
  obtain ⟨m, hm⟩ := decFrom_digits l 0 h
  have hlt := Lib.decFrom_lt l 0 m hm
  have hp : 10 ^ l.length ≤ 10 ^ 18 := Nat.pow_le_pow_right (by decide) hl
  have e18 : (10 : Nat) ^ 18 = 1000000000000000000 := by decide
  refine ⟨m, ?_, by omega⟩
  rw [Lib.atoiAll_short l hl]
  cases l with
  | nil => exact absurd rfl h0
  | cons c r =>
    have hc := h c (by simp)
    have h45 : (c == 45) = false := by rw [beq_eq_false_iff_ne]; rintro rfl; revert hc; decide
    have h43 : (c == 43) = false := by rw [beq_eq_false_iff_ne]; rintro rfl; revert hc; decide
    have hn : Lib.decNat (c :: r) = some m := by unfold Lib.decNat; simpa using hm
    simp only [Lib.atoi, h45, h43, hn]
    rfl
theorem atoi_ok (s : ByteArray) (v : Int) (h : Lib.atoiAll s.data.toList = .ok v) (hs : s.size ≤ 1000) (w : World) : Calls Tryz.prog 78 #[.string s] w fun e w' => e = .returned (.tuple #[.int .i64 v, .nilIface]) ∧ Below w.heap.size w w' :=
  (Tryz.strconv_Atoi_ok s (by omega) v h w).mono fun e w' ⟨he, hw⟩ => ⟨he, by
    rcases hw with rfl | ⟨t, rfl⟩
    · exact Below.refl _ _
    · exact Lib.bytesWorld_below _ _ _⟩
/-- a number of seconds -/
def secV (l : List UInt8) : Int × Bool :=
  if l = [] ∨ Lib.trimS l digs ≠ [] then (0, false)
  else if 10 < (Lib.trimLeftB l 48).length then (2147483648, true)
  else match Lib.atoiAll (48 :: Lib.trimLeftB l 48) with | .ok v => (min v 2147483648, true) | _ => (0, true)
theorem toL (s : ByteArray) : s.toList = s.data.toList := ByteArray.toList_eq s
theorem trim_q (s : ByteArray) (hs : s.size ≤ 281474976710656) (w : World) : Calls Tryz.prog 76 #[.string s, .string ⟨#[48, 49, 50, 51, 52, 53, 54, 55, 56, 57]⟩] w fun e w' => e = .returned (.string ⟨(Lib.trimS s.data.toList digs).toArray⟩) ∧ Below w.heap.size w w' := Tryz.strings_Trim_digits s w (by omega)
theorem empty_of {s : ByteArray} (h : s.data.toList = []) : s = ⟨#[]⟩ := by
  obtain ⟨⟨l⟩⟩ := s
  simp only at h
  rw [h]
theorem ne_false {s : ByteArray} (h : s ≠ ⟨#[]⟩) : ¬ s.toList = [] := fun h' => h (empty_of (by rw [← toL]; exact h'))
set_option maxHeartbeats 2000000 in
theorem seconds_q (s : ByteArray) (hs : s.size ≤ 281474976710656) (w : World) : Calls Tryz.prog 42 #[.string s] w fun e w' => e = .returned (.tuple #[.int .i64 (secV s.data.toList).1, .bool (secV s.data.toList).2]) ∧ Below w.heap.size w w' := by
  have hsz : s.data.toList.length = s.size := by simp
  obtain ⟨r, hr⟩ : ∃ r, r = secV s.data.toList := ⟨_, rfl⟩
  rw [← hr]
  by_cases h0 : s.data.toList = []
  · have er : r = (0, false) := by rw [hr]; unfold secV; rw [if_pos (.inl h0)]
    obtain rfl := empty_of h0
    rw [er]
    clear hr er h0 hsz hs
    go_enter Tryz.func42, Tryz.ntmps42
    go_wp2
    go_ret2
    exact ⟨rfl, Below.refl _ _⟩
  have t0 : ¬ s.toList = [] := ne_false (fun h => h0 (by rw [h]))
  have t0b : s.toList.isEmpty = false := by rw [List.isEmpty_eq_false_iff]; exact t0
  have tE : (⟨#[]⟩ : ByteArray).toList = [] := by rw [toL]
  have HT := Lib.hid (trim_q s hs)
  obtain ⟨T, hT⟩ : ∃ T : ByteArray, T = ⟨(Lib.trimS s.data.toList digs).toArray⟩ := ⟨_, rfl⟩
  rw [← hT] at HT
  by_cases h2 : Lib.trimS s.data.toList digs = []
  · obtain rfl : T = ⟨#[]⟩ := by rw [hT, h2]
    have HL := Lib.hid (fun W => Tryz.strings_TrimLeft_one s 48 (by decide) W)
    obtain ⟨L, hL⟩ : ∃ L, L = Lib.trimLeftB s.data.toList 48 := ⟨_, rfl⟩
    rw [← hL] at HL
    by_cases h3 : 10 < L.length
    · have er : r = (2147483648, true) := by
        rw [hr]; unfold secV
        rw [if_neg (by rintro (h | h); exact h0 h; exact h h2), ← hL, if_pos h3]
      rw [er]
      have t3 : decide ((L.length : Int) > 10) = true := decide_eq_true (by omega)
      clear hr er h0 hsz hs hT h2 hL h3
      go_enter Tryz.func42, Tryz.ntmps42
      go_wp2_with (first | (go_at_call 76; refine (HT.out _).mono ?_; rintro e_ w1 ⟨rfl, hb1⟩; have HB1 := Lib.hid hb1; clear hb1) | (go_at_call 77; refine (HL.out _).mono ?_; rintro e_ w2 ⟨rfl, h_⟩; obtain rfl := h_))
      go_ret2
      exact ⟨rfl, HB1.out⟩
    · have hdig : ∀ b ∈ (48 :: L), 48 ≤ b.toNat ∧ b.toNat ≤ 57 := by
        intro b hb
        rcases List.mem_cons.1 hb with rfl | hb
        · decide
        · rw [hL] at hb
          exact trim_digits h2 b (trimLeft_mem hb)
      obtain ⟨m, hm, hm18⟩ := atoi_digits (48 :: L) (by simp) (by simp only [List.length_cons]; omega) hdig
      have er : r = (min (m : Int) 2147483648, true) := by
        rw [hr]; unfold secV
        rw [if_neg (by rintro (h | h); exact h0 h; exact h h2), ← hL, if_neg h3, hm]
      rw [er]
      have t3 : decide ((L.length : Int) > 10) = false := decide_eq_false (by omega)
      have t4 : ¬ 9223372036854775807 < 1 + L.length := by omega
      have HA := Lib.hid (atoi_ok ((⟨#[48]⟩ : ByteArray) ++ ⟨L.toArray⟩) m (by rw [show ((⟨#[48]⟩ : ByteArray) ++ ⟨L.toArray⟩).data.toList = 48 :: L by simp [ByteArray.data_append]]; exact hm) (by rw [ByteArray.size_append]; show 1 + L.toArray.size ≤ _; simp only [List.size_toArray]; omega))
      clear hr er h0 hsz hs hT h2 hL h3 hdig hm hm18
      go_enter Tryz.func42, Tryz.ntmps42
      go_wp2_with (first | (go_at_call 76; refine (HT.out _).mono ?_; rintro e_ w1 ⟨rfl, hb1⟩; have HB1 := Lib.hid hb1; clear hb1) | (go_at_call 77; refine (HL.out _).mono ?_; rintro e_ w2 ⟨rfl, h_⟩; obtain rfl := h_) | (go_at_call 78; refine (HA.out _).mono ?_; rintro e_ w3 ⟨rfl, hb3⟩; have HB3 := Lib.hid hb3; clear hb3))
      go_ret2
      exact ⟨rfl, below_step HB1.out HB3.out⟩
  · have er : r = (0, false) := by rw [hr]; unfold secV; rw [if_pos (.inr h2)]
    rw [er]
    have t2 : ¬ T.toList = [] := ne_false (fun h => h2 (by have e := congrArg (·.data.toList) (hT.symm.trans h); simpa using e))
    have t2b : T.toList.isEmpty = false := by rw [List.isEmpty_eq_false_iff]; exact t2
    clear hr er h0 hsz hs hT h2
    go_enter Tryz.func42, Tryz.ntmps42
    go_wp2_with (go_at_call 76; refine (HT.out _).mono ?_; rintro e_ w1 ⟨rfl, hb1⟩; have HB1 := Lib.hid hb1; clear hb1)
    go_ret2
    exact ⟨rfl, HB1.out⟩
end Go.Proofs.YtbnhlekehndhkaaGreatDoor.Fb

