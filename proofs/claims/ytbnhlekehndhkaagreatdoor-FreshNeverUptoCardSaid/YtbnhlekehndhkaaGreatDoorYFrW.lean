import Derived.Test.YtbnhlekehndhkaaGreatDoorYFrP
import Derived.Test.YtbnhlekehndhkaaGreatDoorYFH
import Derived.Test.YtbnhlekehndhkaaGreatDoorYGA
import Derived.Test.YtbnhlekehndhkaaGreatDoorYPw




/- The first value of a name, its date; a lifetime that is told. -/
namespace Go.Proofs.YtbnhlekehndhkaaGreatDoor.Fr
open Go.RowKit Go.Proofs.YtbnhlekehndhkaaGreatDoorW.PrintWords Go.Proofs.YtbnhlekehndhkaaGreatDoorW.PrintLast Go.Proofs.YtbnhlekehndhkaaGreatDoorW.PrintMore Go.Proofs.YtbnhlekehndhkaaGreatDoor.G Go.Proofs.YtbnhlekehndhkaaGreatDoor.V Go.Proofs.YtbnhlekehndhkaaGreatDoor.S
set_option linter.unusedVariables false
set_option linter.unusedSimpArgs false
/-- the first place of a name -/
def fx (n : ByteArray) : Int → List S59 → Int
  | _, [] => -1
  | o, f :: l => if D f.f0 == D n then o else fx n (o + 1) l
theorem fx_spec (n : ByteArray) : ∀ (l : List S59) (o : Nat), (fx n o l = -1 ∧ firstN l n = none) ∨ ∃ j f, l[j]? = some f ∧ fx n o l = ((o + j : Nat) : Int) ∧ firstN l n = some f.f1
  | [], o => .inl ⟨rfl, rfl⟩
  | f :: l, o => by
    unfold fx firstN allL
    cases h : D f.f0 == D n with
    | true => exact .inr ⟨0, f, rfl, by simp, by simp [h]⟩
    | false =>
      rcases fx_spec n l (o + 1) with ⟨h1, h2⟩ | ⟨j, g, h1, h2, h3⟩
      · left
        refine ⟨by rw [← h1]; simp, ?_⟩
        rw [← h2]; unfold firstN allL; simp [h]
      · right
        refine ⟨j + 1, g, by simpa using h1, ?_, ?_⟩
        · have : fx n ((o : Int) + 1) l = ((o + 1 + j : Nat) : Int) := by rw [← h2]; simp
          simp only [Bool.false_eq_true, if_false, this]
          congr 1; omega
        · rw [← h3]; unfold firstN allL; simp [h]
theorem fx_drop (n : ByteArray) (l : List S59) (i : Nat) (h : i < l.length) (o : Int) : fx n o (l.drop i) = if D (rd_T59 l (i : Int)).f0 == D n then o else fx n (o + 1) (l.drop (i + 1)) := by
  rw [List.drop_eq_getElem_cons h]
  have : rd_T59 l (i : Int) = l[i] := by
    unfold rd_T59
    rw [Int.toNat_natCast, List.getD_eq_getElem?_getD, List.getElem?_eq_getElem h, Option.getD_some]
  rw [this]
  rfl
theorem clos_q (f : S59) (n : ByteArray) (p : Nat) (W : World) (hp : W.cell? ⟨p, 0, none⟩ = some (.string n)) :
    Calls Tryz.prog 75 #[.agg #[.string f.f0, .string f.f1], .pointer (some ⟨p, 0, none⟩)] W fun e' w' => e' = .returned (.bool (D f.f0 == D n)) ∧ Below W.heap.size W w' := by
  have HP := Lib.hid hp
  have hpl := World.block_lt_of_cell? W _ hp
  have HB := Lib.hid (below_alloc (Below.refl W.heap.size W) (.cells #[.string f.f0, .string f.f1] 59))
  by_cases h : D f.f0 = D n
  · have HE := Lib.hid (show (D f.f0 == D n) = true by simp [h])
    have t1 : (f.f0.toList == n.toList) = true := by rw [toL, toL]; simpa using h
    clear h
    go_enter Tryz.func75, Tryz.ntmps75
    go_wp2
    go_ret
    exact ⟨by rw [HE.out]; rfl, HB.out⟩
  · have HE := Lib.hid (show (D f.f0 == D n) = false by simp [h])
    have t1 : (f.f0.toList == n.toList) = false := by rw [toL, toL]; simpa using h
    clear h
    go_enter Tryz.func75, Tryz.ntmps75
    go_wp2
    go_ret
    exact ⟨by rw [HE.out]; rfl, HB.out⟩
set_option maxHeartbeats 4000000 in
theorem indexf_q (w : World) (A : Option Addr) (c : Nat) (l : List S59) (n : ByteArray) (p : Nat) (hC : Kd.C k59 w A l.length l) (hl : l.length < 1099511627776) (hp : w.cell? ⟨p, 0, none⟩ = some (.string n)) :
    Calls Tryz.prog 74 #[.slice A l.length c, .func (.func 75) #[] #[.pointer (some ⟨p, 0, none⟩)]] w fun e w' => e = .returned (.int .i64 (fx n 0 l)) ∧ Below w.heap.size w w' := by
  have HC := Lib.hid hC
  have HP := Lib.hid hp
  clear hC hp
  go_enter Tryz.func74, Tryz.ntmps74
  go_wp2
  go_loopg [8] (l.length + 1) (fun k v8 W => ∃ (i : Nat), v8 = .int .i64 i ∧ i ≤ l.length ∧ l.length + 1 ≤ k + i ∧ Hid (fx n 0 l = fx n (i : Int) (l.drop i)) ∧ Hid (Below w.heap.size w W))
  case atStart => exact ⟨0, rfl, by omega, by omega, Lib.hid rfl, Lib.hid (Below.refl _ _)⟩
  case round =>
    obtain ⟨i, rfl, hi, hk, HF, HW⟩ := hrel
    rename World => Wo
    by_cases hlt : i < l.length
    · obtain ⟨ad, rfl, hz0, hz1⟩ := at_T59 (Kd.C_below HC.out HW.out) (i : Int) (by omega) (by omega)
      obtain ⟨ko, rfl⟩ : ∃ ko, gk = ko + 1 := ⟨gk - 1, by omega⟩
      have hk2 : l.length + 1 ≤ ko + (i + 1) := by omega
      have hi1 : i + 1 ≤ l.length := hlt
      have c1 : decide ((i : Int) < (l.length : Int)) = true := decide_eq_true (by omega)
      have p1 : 0 ≤ (i : Int) := by omega
      have p2 : (i : Int) < (l.length : Int) := by omega
      rw [Int.toNat_natCast] at hz0 hz1
      have hadl := World.block_lt_of_cell? Wo _ hz0
      have HWI := Lib.hid (show wrap64 ((i : Int) + 1) = (i : Int) + 1 by unfold wrap64; omega)
      have HST := Lib.hid (fx_drop n l i hlt (i : Int))
      obtain ⟨x, hx⟩ : ∃ x, x = rd_T59 l (i : Int) := ⟨_, rfl⟩
      rw [← hx] at hz0 hz1 HST
      have Hcall := Lib.hid (clos_q x n p Wo (pw_cell_below HW.out HP.out))
      obtain ⟨b, hb⟩ : ∃ b, b = (D x.f0 == D n) := ⟨_, rfl⟩
      rw [← hb] at HST Hcall
      clear hlt hx hb
      cases b with
      | true =>
        go_wp2_with (first | (go_at_call 75; refine Hcall.out.mono ?_; rintro e w3 ⟨rfl, hb3⟩; have HB3 := Lib.hid (below_step HW.out hb3); clear hb3))
        go_ret
        exact ⟨by rw [HF.out, HST.out]; rfl, HB3.out⟩
      | false =>
        go_wp2_with (first | (go_at_call 75; refine Hcall.out.mono ?_; rintro e w3 ⟨rfl, hb3⟩; have HB3 := Lib.hid (below_step HW.out hb3); clear hb3))
        go_roundg ko
        case measure => omega
        case rel => exact ⟨i + 1, by first | exact congrArg (Value.int .i64) HWI.out | go_num, hi1, hk2, Lib.hid (by rw [HF.out, HST.out]; rfl), HB3⟩
    · have hil : i = l.length := by omega
      subst hil
      have c0 : decide ((l.length : Int) < (l.length : Int)) = false := decide_eq_false (by omega)
      have HE : Hid (fx n 0 l = -1) := Lib.hid (by rw [HF.out, List.drop_length]; rfl)
      clear hlt hi hk
      go_wp2
      go_ret
      exact ⟨by rw [HE.out]; rfl, HW.out⟩
theorem first_q (w : World) (A : Option Addr) (c : Nat) (l : List S59) (n : ByteArray) (hC : Kd.C k59 w A l.length l) (hl : l.length < 1099511627776) :
    Calls Tryz.prog 41 #[.slice A l.length c, .string n] w fun e w' => e = .returned (.tuple #[.string ((firstN l n).getD ⟨#[]⟩), .bool (firstN l n).isSome]) ∧ Below w.heap.size w w' := by
  have HC := Lib.hid hC
  have hb1 := below_alloc (Below.refl w.heap.size w) (.cells #[.string n] 9)
  have HB1 := Lib.hid hb1
  have HI := Lib.hid (indexf_q (w.alloc (.cells #[.string n] 9)) A c l n w.heap.size (Kd.C_below hC hb1) hl (c_of (heap_alloc_new _ _) 0 rfl))
  clear hb1
  rcases fx_spec n l 0 with ⟨h1, h2⟩ | ⟨j, f, h1, h2, h3⟩
  · have HN := Lib.hid h2
    rw [show ((0 : Nat) : Int) = 0 from rfl] at h1
    rw [h1] at HI
    clear h1 h2 hC
    go_enter Tryz.func41, Tryz.ntmps41
    go_wp2_with (go_at_call 74; refine HI.out.mono ?_; rintro e w3 ⟨rfl, hb3⟩; have HB3 := Lib.hid (below_step HB1.out hb3); clear hb3)
    go_ret2
    exact ⟨by rw [HN.out]; rfl, HB3.out⟩
  · have HN := Lib.hid h3
    rw [show ((0 : Nat) : Int) = 0 from rfl, Nat.zero_add] at h2
    rw [h2] at HI
    obtain ⟨hj, hf⟩ := List.getElem?_eq_some_iff.1 h1
    have t0 : decide ((j : Int) < 0) = false := decide_eq_false (by omega)
    have p1 : 0 ≤ (j : Int) := by omega
    have p2 : (j : Int) < (l.length : Int) := by omega
    have HJ := Lib.hid h1
    clear h1 h2 h3 hC hf
    go_enter Tryz.func41, Tryz.ntmps41
    go_upto_region 4 with (go_at_call 74; refine HI.out.mono ?_; rintro e w3 ⟨rfl, hb3⟩; have HB3 := Lib.hid (below_step HB1.out hb3); clear hb3)
    obtain ⟨ad, rfl, hz0, hz1⟩ := at_T59 (Kd.C_below HC.out HB3.out) (j : Int) (by omega) (by omega)
    rw [Int.toNat_natCast] at hz0 hz1
    have hx : rd_T59 l (j : Int) = f := by
      unfold rd_T59
      rw [Int.toNat_natCast, List.getD_eq_getElem?_getD, HJ.out, Option.getD_some]
    rw [hx] at hz0 hz1
    clear hx
    go_wp2
    go_ret2
    exact ⟨by rw [HN.out]; rfl, HB3.out⟩
theorem first_le {l : List S59} {n v : ByteArray} (h : firstN l n = some v) : v.size ≤ wt l := by
  unfold firstN at h
  have hm : v ∈ allL l n := List.mem_of_mem_head? h
  have := tot_all l n
  have h2 : v.size + 1 ≤ tot (allL l n) := tot_mem hm
  omega
set_option maxHeartbeats 4000000 in
theorem dated_q (w : World) (P : Nat → Prop) (x : S34) (r : Rf) (h : Ex w P x r) (n : ByteArray) (hG : Da.Glob w) (hs : wt x.f1.f1 < 268435456) :
    Calls Tryz.prog 43 #[.agg (Vx x r), .string n] w fun e w' => e = .returned (.tuple #[.int .i64 ((datedN x.f1.f1 n).getD 0), .bool (datedN x.f1.f1 n).isSome]) ∧ Below w.heap.size w w' := by
  have hb1 := below_alloc (Below.refl w.heap.size w) (.cells (Vx x r) 34)
  have HB1 := Lib.hid hb1
  have HG := Lib.hid hG
  have HF := Lib.hid (first_q (w.alloc (.cells (Vx x r) 34)) r.A7 r.c7 x.f1.f1 n (Kd.C_below h.g7 hb1) (by have := wt_len x.f1.f1; omega))
  have l7 := (bx_cells (heap_alloc_new w (.cells (Vx x r) 34))).2.2.2.2.2.2.2.1
  clear hb1 hG h
  obtain ⟨r0, hr⟩ : ∃ r0, r0 = datedN x.f1.f1 n := ⟨_, rfl⟩
  rw [← hr]
  have HR := Lib.hid hr
  unfold datedN at hr
  cases hf : firstN x.f1.f1 n with
  | none =>
    rw [hf] at HF hr
    have HE : Hid (r0 = none) := Lib.hid (by rw [hr]; rfl)
    have HD := Lib.hid (fun W hW => parse_d ⟨#[]⟩ (by decide) W (HG.out.below hW))
    rw [dateN_nil] at HD
    clear hr hf
    go_enter Tryz.func43, Tryz.ntmps43
    go_wp2_with (first | (go_at_call 41; refine HF.out.mono ?_; rintro e w3 ⟨rfl, hb3⟩; have HB3 := Lib.hid (below_step HB1.out hb3); clear hb3) | (go_at_call 79; refine (HD.out _ HB3.out).mono ?_; rintro e w4 ⟨rfl, hb4⟩; have HB4 := Lib.hid (below_step HB3.out hb4); clear hb4))
    go_ret2
    exact ⟨by rw [HE.out]; rfl, HB4.out⟩
  | some v =>
    have hv := first_le hf
    rw [hf] at HF hr
    have HD := Lib.hid (fun W hW => parse_d v (by omega) W (HG.out.below hW))
    rw [Option.bind_some] at hr
    clear hf hv
    cases hd : dateN v with
    | none =>
      rw [hd] at HD hr
      have HE := Lib.hid hr
      clear hr hd
      go_enter Tryz.func43, Tryz.ntmps43
      go_wp2_with (first | (go_at_call 41; refine HF.out.mono ?_; rintro e w3 ⟨rfl, hb3⟩; have HB3 := Lib.hid (below_step HB1.out hb3); clear hb3) | (go_at_call 79; refine (HD.out _ HB3.out).mono ?_; rintro e w4 ⟨rfl, hb4⟩; have HB4 := Lib.hid (below_step HB3.out hb4); clear hb4))
      go_ret2
      exact ⟨by rw [HE.out]; rfl, HB4.out⟩
    | some d =>
      rw [hd] at HD hr
      have HE := Lib.hid hr
      clear hr hd
      go_enter Tryz.func43, Tryz.ntmps43
      go_wp2_with (first | (go_at_call 41; refine HF.out.mono ?_; rintro e w3 ⟨rfl, hb3⟩; have HB3 := Lib.hid (below_step HB1.out hb3); clear hb3) | (go_at_call 79; refine (HD.out _ HB3.out).mono ?_; rintro e w4 ⟨rfl, hb4⟩; have HB4 := Lib.hid (below_step HB3.out hb4); clear hb4))
      go_ret2
      exact ⟨by rw [HE.out]; rfl, HB4.out⟩
end Go.Proofs.YtbnhlekehndhkaaGreatDoor.Fr

