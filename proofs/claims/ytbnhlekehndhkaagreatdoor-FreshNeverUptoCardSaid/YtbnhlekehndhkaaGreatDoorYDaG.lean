import Derived.Test.YtbnhlekehndhkaaGreatDoorYDaO
import Derived.Test.YtbnhlekehndhkaaGreatDoorYSh
import Derived.Lib.AppendIntMem



/- What the texts of dates want of the library's variables; the names of days and months; numbers in so many digits. -/
namespace Go.Proofs.YtbnhlekehndhkaaGreatDoor.Da
open Go.RowKit Go.Proofs.YtbnhlekehndhkaaGreatDoorW.PrintWords Go.Proofs.YtbnhlekehndhkaaGreatDoorW.PrintLast Go.Proofs.YtbnhlekehndhkaaGreatDoorW.PrintMore Go.Proofs.YtbnhlekehndhkaaGreatDoor.G
set_option linter.unusedVariables false
set_option linter.unusedSimpArgs false
/-- the library's variables -/
structure Glob (w : World) : Prop where
  sp : Lib.TabIs Tryz.prog w "strings.asciiSpace" .u8 Lib.asciiSpaceTab
  p10 : Lib.TabIs Tryz.prog w "internal/strconv.uint64pow10" .u64 Lib.pow10Tab
  mx : ∃ m, w.cell? ⟨4, 0, none⟩ = some (.int .i64 m)
  sy : ∃ tp p, w.var? Tryz.prog "strconv.ErrSyntax" = some #[.iface tp p]
  rg : ∃ tp p, w.var? Tryz.prog "strconv.ErrRange" = some #[.iface tp p]
theorem var_below {P : Program} {w w' : World} {n : String} {cs : Array Value} (h : w.var? P n = some cs) (hb : Below w.heap.size w w') : w'.var? P n = some cs := by
  unfold World.var? at *
  cases hg : P.globalNamed n with
  | none => simp [hg] at h
  | some g =>
    simp only [hg, Option.bind_some] at h ⊢
    have hlt : g < w.heap.size := by
      rcases Nat.lt_or_ge g w.heap.size with h' | h'
      · exact h'
      · rw [Array.getElem?_eq_none h'] at h; simp at h
    rw [hb.block g hlt]
    exact h
theorem Glob.below {w w' : World} (h : Glob w) (hb : Below w.heap.size w w') : Glob w' := by
  obtain ⟨h1, h2, ⟨m, h3⟩, ⟨tp, p, h4⟩, ⟨tq, q, h5⟩⟩ := h
  exact ⟨var_below h1 hb, var_below h2 hb, ⟨m, pw_cell_below hb h3⟩, ⟨tp, p, var_below h4 hb⟩, ⟨tq, q, var_below h5 hb⟩⟩
def u8 (n : Nat) : UInt8 := UInt8.ofNat n
/-- two and four digits -/
def two (n : Nat) : List UInt8 := [u8 (48 + n / 10), u8 (48 + n % 10)]
def four (n : Nat) : List UInt8 := [u8 (48 + n / 1000), u8 (48 + n / 100 % 10), u8 (48 + n / 10 % 10), u8 (48 + n % 10)]
theorem itoa_dec (n : Nat) : Lib.itoa (n : Int) = Lib.decDigits n := by unfold Lib.itoa; rw [if_neg (by omega)]; simp
theorem dec_big {n : Nat} (h : ¬ n < 10) : Lib.decDigits n = Lib.decDigits (n / 10) ++ [u8 (48 + n % 10)] := by rw [Lib.decDigits, dif_neg h]; rfl
theorem pad_two {n : Nat} (h : n < 100) : (Lib.decDigits n).length ≤ 2 ∧ Lib.repeatL [48] (2 - (Lib.decDigits n).length) ++ Lib.decDigits n = two n := by
  by_cases h1 : n < 10
  · rw [Lib.decDigits_one h1]
    refine ⟨by simp, ?_⟩
    unfold two u8
    rw [show n / 10 = 0 by omega, show n % 10 = n by omega]
    rfl
  · rw [Lib.decDigits_two h1 h]
    exact ⟨by simp, rfl⟩
theorem pad_four {n : Nat} (h : n < 10000) : (Lib.decDigits n).length ≤ 4 ∧ Lib.repeatL [48] (4 - (Lib.decDigits n).length) ++ Lib.decDigits n = four n := by
  unfold four
  by_cases h1 : n < 10
  · rw [Lib.decDigits_one h1]
    refine ⟨by simp, ?_⟩
    rw [show n / 1000 = 0 by omega, show n / 100 = 0 by omega, show n / 10 = 0 by omega, show n % 10 = n by omega]
    rfl
  by_cases h2 : n < 100
  · rw [Lib.decDigits_two h1 h2]
    refine ⟨by simp, ?_⟩
    rw [show n / 1000 = 0 by omega, show n / 100 = 0 by omega, show n / 10 % 10 = n / 10 by omega]
    rfl
  by_cases h3 : n < 1000
  · rw [dec_big h1, Lib.decDigits_two (i := n / 10) (by omega) (by omega)]
    refine ⟨by simp, ?_⟩
    rw [show n / 1000 = 0 by omega, show n / 100 % 10 = n / 10 / 10 by omega]
    rfl
  · rw [dec_big h1, dec_big (n := n / 10) (by omega), Lib.decDigits_two (i := n / 10 / 10) (by omega) (by omega)]
    refine ⟨by simp, ?_⟩
    rw [show n / 1000 = n / 10 / 10 / 10 by omega, show n / 100 % 10 = n / 10 / 10 % 10 by omega]
    rfl
theorem ba_append (a b : List UInt8) : (⟨a.toArray⟩ : ByteArray) ++ ⟨b.toArray⟩ = ⟨(a ++ b).toArray⟩ := by
  apply ByteArray.ext
  simp [ByteArray.data_append]
set_option maxHeartbeats 1000000 in
theorem pad_any (n k : Nat) (w : World) (hG : Glob w) (hn : n < 10000) (hk : (Lib.decDigits n).length ≤ k) (hk4 : k ≤ 4) : Calls Tryz.prog 151 #[.int .i64 (n : Int), .int .i64 (k : Int)] w fun e w' => e = .returned (.string ⟨(Lib.repeatL [48] (k - (Lib.decDigits n).length) ++ Lib.decDigits n).toArray⟩) ∧ Below w.heap.size w w' := by
  have HI := Lib.hid (Tryz.strconv_Itoa (n : Int) (by omega) (by omega) w hG.p10)
  rw [itoa_dec] at HI
  have HR := Lib.hid (fun W => Tryz.strings_Repeat ⟨#[48]⟩ (k - (Lib.decDigits n).length) W (by omega) (by show 1 * _ ≤ _; omega))
  obtain ⟨D, hD⟩ : ∃ D, D = Lib.decDigits n := ⟨_, rfl⟩
  rw [← hD] at HI HR hk ⊢
  clear hD
  have h0 : (0 : Int) ≤ (k : Int) - (D.length : Int) := by omega
  have hrl : (Lib.repeatL [48] (k - D.length)).length + D.length ≤ 4 := by rw [Lib.repeatL_length]; simp; omega
  go_enter Tryz.func151, Tryz.ntmps151
  go_wp2_with (first | (go_at_call 183; rw [show ((k : Int) - (D.length : Int)) = ((k - D.length : Nat) : Int) by omega]; refine (HR.out _).mono ?_; rintro e w2 ⟨rfl, hb2⟩; have HB2 := Lib.hid hb2; clear hb2) | (go_at_call 58; refine HI.out.mono ?_; rintro e w1 ⟨rfl, ⟨kk, os, hw⟩⟩; have HB1 : Hid (Below w.heap.size w w1) := Lib.hid (by rw [hw]; exact Lib.below_grow _ _ (Nat.le_refl _) _ _); clear hw))
  go_ret
  exact ⟨congrArg (fun x => Ending.returned (Value.string x)) (ba_append _ _), below_step HB1.out HB2.out⟩
theorem pad2_calls (n : Nat) (w : World) (hG : Glob w) (hn : n < 100) : Calls Tryz.prog 151 #[.int .i64 (n : Int), .int .i64 2] w fun e w' => e = .returned (.string ⟨(two n).toArray⟩) ∧ Below w.heap.size w w' := by
  obtain ⟨h1, h2⟩ := pad_two hn
  have := pad_any n 2 w hG (by omega) h1 (by omega)
  rw [h2] at this
  exact this
theorem pad4_calls (n : Nat) (w : World) (hG : Glob w) (hn : n < 10000) : Calls Tryz.prog 151 #[.int .i64 (n : Int), .int .i64 4] w fun e w' => e = .returned (.string ⟨(four n).toArray⟩) ∧ Below w.heap.size w w' := by
  obtain ⟨h1, h2⟩ := pad_four hn
  have := pad_any n 4 w hG hn h1 (by omega)
  rw [h2] at this
  exact this
/-- the names -/
def wdays : List (List UInt8) := [[77, 111, 110], [84, 117, 101], [87, 101, 100], [84, 104, 117], [70, 114, 105], [83, 97, 116], [83, 117, 110]]
def mons : List (List UInt8) := [[74, 97, 110], [70, 101, 98], [77, 97, 114], [65, 112, 114], [77, 97, 121], [74, 117, 110], [74, 117, 108], [65, 117, 103], [83, 101, 112], [79, 99, 116], [78, 111, 118], [68, 101, 99]]
abbrev nameCells (l : List (List UInt8)) : Array Value := (l.map fun l => Value.string ⟨l.toArray⟩).toArray
set_option maxHeartbeats 1000000 in
theorem weekdays_calls (w : World) (hG : Glob w) : Calls Tryz.prog 152 #[] w fun e w' => e = .returned (.slice (some ⟨w.heap.size, 0, none⟩) 7 7) ∧ w' = w.alloc (.cells (nameCells wdays) 9) := by
  have h := Tryz.strings_Fields ⟨#[77, 111, 110, 32, 84, 117, 101, 32, 87, 101, 100, 32, 84, 104, 117, 32, 70, 114, 105, 32, 83, 97, 116, 32, 83, 117, 110]⟩ w (by decide) (fun j b hb => by
    have := List.mem_of_getElem? hb
    revert this
    exact (by decide : ∀ b ∈ [77, 111, 110, 32, 84, 117, 101, 32, 87, 101, 100, 32, 84, 104, 117, 32, 70, 114, 105, 32, 83, 97, 116, 32, 83, 117, 110], (b : UInt8).toNat < 128) b) hG.sp
  have e : Lib.fields (⟨#[77, 111, 110, 32, 84, 117, 101, 32, 87, 101, 100, 32, 84, 104, 117, 32, 70, 114, 105, 32, 83, 97, 116, 32, 83, 117, 110]⟩ : ByteArray).data.toList = wdays := by decide +kernel
  rw [e] at h
  have H := Lib.hid h
  clear h e
  go_enter Tryz.func152, Tryz.ntmps152
  go_wp2_with (go_at_call 67; refine H.out.mono ?_; rintro e w1 ⟨rfl, hw⟩; have HW := Lib.hid hw; clear hw)
  go_ret
  exact ⟨rfl, HW.out⟩
set_option maxHeartbeats 1000000 in
theorem months_calls (w : World) (hG : Glob w) : Calls Tryz.prog 112 #[] w fun e w' => e = .returned (.slice (some ⟨w.heap.size, 0, none⟩) 12 12) ∧ w' = w.alloc (.cells (nameCells mons) 9) := by
  have h := Tryz.strings_Fields ⟨#[74, 97, 110, 32, 70, 101, 98, 32, 77, 97, 114, 32, 65, 112, 114, 32, 77, 97, 121, 32, 74, 117, 110, 32, 74, 117, 108, 32, 65, 117, 103, 32, 83, 101, 112, 32, 79, 99, 116, 32, 78, 111, 118, 32, 68, 101, 99]⟩ w (by decide) (fun j b hb => by
    have := List.mem_of_getElem? hb
    revert this
    exact (by decide : ∀ b ∈ [74, 97, 110, 32, 70, 101, 98, 32, 77, 97, 114, 32, 65, 112, 114, 32, 77, 97, 121, 32, 74, 117, 110, 32, 74, 117, 108, 32, 65, 117, 103, 32, 83, 101, 112, 32, 79, 99, 116, 32, 78, 111, 118, 32, 68, 101, 99], (b : UInt8).toNat < 128) b) hG.sp
  have e : Lib.fields (⟨#[74, 97, 110, 32, 70, 101, 98, 32, 77, 97, 114, 32, 65, 112, 114, 32, 77, 97, 121, 32, 74, 117, 110, 32, 74, 117, 108, 32, 65, 117, 103, 32, 83, 101, 112, 32, 79, 99, 116, 32, 78, 111, 118, 32, 68, 101, 99]⟩ : ByteArray).data.toList = mons := by decide +kernel
  rw [e] at h
  have H := Lib.hid h
  clear h e
  go_enter Tryz.func112, Tryz.ntmps112
  go_wp2_with (go_at_call 67; refine H.out.mono ?_; rintro e w1 ⟨rfl, hw⟩; have HW := Lib.hid hw; clear hw)
  go_ret
  exact ⟨rfl, HW.out⟩
end Go.Proofs.YtbnhlekehndhkaaGreatDoor.Da

