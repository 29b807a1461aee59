import Derived.Test.YtbnhlekehndhkaaGreatDoorYFrA
import Derived.Test.YtbnhlekehndhkaaGreatDoorYPv
import Derived.Test.YtbnhlekehndhkaaGreatDoorYGA
import Derived.Deep.LoopGhost




/- (not yet a claim) does an exchange match a request? -/
namespace Go.Proofs.YtbnhlekehndhkaaGreatDoor.S
open Go.RowKit Go.Proofs.YtbnhlekehndhkaaGreatDoorW.PrintWords Go.Proofs.YtbnhlekehndhkaaGreatDoorW.PrintLast Go.Proofs.YtbnhlekehndhkaaGreatDoorW.PrintMore Go.Proofs.YtbnhlekehndhkaaGreatDoor.G Go.Proofs.YtbnhlekehndhkaaGreatDoor.V
set_option linter.unusedVariables false
set_option linter.unusedSimpArgs false

/-- the first place, from i on -/
def fi (p : ByteArray → Bool) : Int → List ByteArray → Int
  | _, [] => -1
  | i, v :: t => if p v then i else fi p (i + 1) t
theorem fi_any (p : ByteArray → Bool) : ∀ (l : List ByteArray) (i : Int), 0 ≤ i → decide (0 ≤ fi p i l) = l.any p
  | [], i, _ => by simp [fi]
  | v :: t, i, h => by
    unfold fi
    cases hp : p v with
    | true => simp [hp, h]
    | false => simp [hp]; simpa using fi_any p t (i + 1) (by omega)

/-- a boxed request -/
abbrev Vq (q : S25) (A4 : Option Addr) (c4 : Nat) (A5 : Option Addr) (c5 : Nat) : Array Value := #[.string q.f0, .string q.f1, .string q.f2, .string q.f3, .slice A4 q.f4.length c4, .slice A5 q.f5.length c5]
def rightB (x : S34) : Bool := (decide (0 ≤ x.f2) && decide (x.f2 ≤ 1099511627776)) && (decide (0 ≤ x.f3) && decide (x.f3 ≤ 1099511627776)) && decide (x.f2 ≤ x.f3)
def differ (x : S34) (q : S25) (n : ByteArray) : Bool := !eqL (allL x.f0.f4 n) (allL q.f4 n)
def matchB (x : S34) (q : S25) : Bool := rightB x && !(vary x.f1.f1).2 && (D x.f0.f1 == D q.f1) && (D x.f0.f2 == D q.f2) && (D x.f0.f3 == D q.f3) && !(vary x.f1.f1).1.any (differ x q)
theorem right_f (x : S34) : fresh_Right.f x.f0.f0 x.f0.f1 x.f0.f2 x.f0.f3 x.f0.f4 x.f0.f5 x.f1.f0 x.f1.f1 x.f1.f2 x.f2 x.f3 = some (rightB x) := by
  unfold fresh_Right.f fresh_isTime.f rightB
  by_cases h0 : x.f2 ≥ 0 <;> by_cases h1 : x.f2 ≤ 1099511627776 <;> by_cases h2 : x.f3 ≥ 0 <;> by_cases h3 : x.f3 ≤ 1099511627776 <;> simp [h0, h1, h2, h3] <;> omega
theorem right_calls (w : World) (P : Nat → Prop) (x : S34) (r : Rf) (h : Ex w P x r) : Calls Tryz.prog 39 #[.agg (Vx x r)] w fun e w' => e = .returned (.bool (rightB x)) ∧ Below w.heap.size w w' :=
  fresh_Right.calls _ _ _ _ r.A4 r.c4 _ r.A5 r.c5 _ _ r.A7 r.c7 _ r.A8 r.c8 _ _ _ _ w h.g4 h.l4 h.g5 h.l5 h.g7 h.l7 h.g8 h.l8 (right_f x)

theorem at_s {w : World} {A : Option Addr} {n : Nat} {xs : List ByteArray} (h : Kd.C Kd.string w A n xs) (i : Nat) (h1 : i < n) : ∃ ad, A = some ad ∧ w.cell? (ad.add i) = some (.string (rdOf ByteArray.empty xs (i : Int))) := by
  have := Kd.at_string h (i : Int) (by omega) (by omega)
  rwa [Int.toNat_natCast] at this

set_option maxRecDepth 100000 in
set_option maxHeartbeats 4000000 in
theorem indexf_calls (w : World) (A : Option Addr) (c : Nat) (l : List ByteArray) (p : ByteArray → Bool) (P1 P2 : Nat) (hC : Kd.C Kd.string w A l.length l) (hl : l.length < 1099511627776)
    (hp : ∀ (W : World) (n : ByteArray), Below w.heap.size w W → Calls Tryz.prog 63 #[.string n, .pointer (some (at0 P1)), .pointer (some (at0 P2))] W fun e w' => e = .returned (.bool (p n)) ∧ Below W.heap.size W w') :
    Calls Tryz.prog 96 #[.slice A l.length c, .func (.func 63) #[] #[.pointer (some (at0 P1)), .pointer (some (at0 P2))]] w fun e w' => e = .returned (.int .i64 (fi p 0 l)) ∧ Below w.heap.size w w' := by
  have HC := Lib.hid hC
  have HP := Lib.hid hp
  clear hC hp
  go_enter Tryz.func96, Tryz.ntmps96
  go_wp2
  go_loopg [5, 8] l.length (fun k v5 v8 W => ∃ (i : Nat), v8 = .int .i64 (i : Int) ∧ i ≤ l.length ∧ l.length ≤ k + i ∧ Hid (fi p 0 l = fi p (i : Int) (l.drop i)) ∧ Hid (Below w.heap.size w W))
  case atStart => exact ⟨0, rfl, by omega, by omega, Lib.hid rfl, Lib.hid (Below.refl _ _)⟩
  case round =>
    obtain ⟨i, rfl, hi, hk, HF, HW⟩ := hrel
    by_cases hlt : i < l.length
    · obtain ⟨ad, rfl, hz0⟩ := at_s (Kd.C_below HC.out HW.out) i hlt
      obtain ⟨ko, rfl⟩ : ∃ ko, gk = ko + 1 := ⟨gk - 1, by omega⟩
      have hk2 : l.length ≤ ko + (i + 1) := by omega
      have hi1 : i + 1 ≤ l.length := hlt
      have c1 : decide ((i : Int) < (l.length : Int)) = true := decide_eq_true (by omega)
      have p1 : 0 ≤ (i : Int) := by omega
      have p2 : (i : Int) < (l.length : Int) := by omega
      have HWI := Lib.hid (show wrap64 ((i : Int) + 1) = (i : Int) + 1 by unfold wrap64; omega)
      obtain ⟨v, hv⟩ : ∃ v, v = rdOf ByteArray.empty l (i : Int) := ⟨_, rfl⟩
      have hd : l.drop i = v :: l.drop (i + 1) := by
        rw [hv, List.drop_eq_getElem_cons hlt]
        congr 1
        unfold rdOf
        rw [Int.toNat_natCast, List.getD_eq_getElem?_getD, List.getElem?_eq_getElem hlt, Option.getD_some]
      have HF2 : Hid (fi p 0 l = if p v then (i : Int) else fi p ((i : Int) + 1) (l.drop (i + 1))) := Lib.hid (by rw [HF.out, hd]; rfl)
      rw [← hv] at hz0
      have Hcall := Lib.hid (HP.out wr v HW.out)
      obtain ⟨b, hb⟩ : ∃ b, p v = b := ⟨_, rfl⟩
      rw [hb] at HF2 Hcall
      clear hlt hb hd HF hv
      cases b with
      | true =>
        go_wp2_with (first | (go_at_call 63; refine Hcall.out.mono ?_; rintro e w3 ⟨rfl, hb3⟩; have HB3 := Lib.hid (below_step HW.out hb3); clear hb3))
        go_ret
        exact ⟨by rw [HF2.out]; rfl, HB3.out⟩
      | false =>
        go_wp2_with (first | (go_at_call 63; refine Hcall.out.mono ?_; rintro e w3 ⟨rfl, hb3⟩; have HB3 := Lib.hid (below_step HW.out hb3); clear hb3))
        go_roundg ko
        case measure => omega
        case rel => exact ⟨i + 1, by first | exact congrArg (Value.int .i64) HWI.out | go_num, hi1, hk2, Lib.hid (by rw [HF2.out]; rfl), HB3⟩
    · have c0 : decide ((i : Int) < (l.length : Int)) = false := decide_eq_false (by omega)
      have hil : i = l.length := by omega
      have HE : Hid (fi p (i : Int) (l.drop i) = -1) := Lib.hid (by rw [List.drop_eq_nil_of_le (by omega)]; rfl)
      clear hil
      go_wp2
      go_ret
      exact ⟨by rw [HF.out, HE.out]; rfl, HW.out⟩
theorem containsf_calls (w : World) (A : Option Addr) (c : Nat) (l : List ByteArray) (p : ByteArray → Bool) (P1 P2 : Nat) (hC : Kd.C Kd.string w A l.length l) (hl : l.length < 1099511627776)
    (hp : ∀ (W : World) (n : ByteArray), Below w.heap.size w W → Calls Tryz.prog 63 #[.string n, .pointer (some (at0 P1)), .pointer (some (at0 P2))] W fun e w' => e = .returned (.bool (p n)) ∧ Below W.heap.size W w') :
    Calls Tryz.prog 62 #[.slice A l.length c, .func (.func 63) #[] #[.pointer (some (at0 P1)), .pointer (some (at0 P2))]] w fun e w' => e = .returned (.bool (l.any p)) ∧ Below w.heap.size w w' := by
  have H := Lib.hid (indexf_calls w A c l p P1 P2 hC hl hp)
  have hany := fi_any p l 0 (by omega)
  clear hC hp
  go_enter Tryz.func62, Tryz.ntmps62
  go_wp2_with (go_at_call 96; refine H.out.mono ?_; rintro e w' ⟨rfl, hb⟩)
  go_ret
  exact ⟨by first | rw [hany] | rfl | (rw [← hany]), hb⟩

theorem all_calls (w : World) (A : Option Addr) (c : Nat) (l : List S59) (n : ByteArray) (hC : Kd.C k59 w A l.length l) (hc : l.length ≤ c) (hl : l.length < 1099511627776) :
    Calls Tryz.prog 65 #[.slice A l.length c, .string n] w fun e w' => ∃ A' c', e = .returned (.slice A' (allL l n).length c') ∧ (allL l n).length ≤ c' ∧ Kd.C Kd.string w' A' (allL l n).length (allL l n) ∧ Below w.heap.size w w' := by
  refine (field_All.calls (l.length + 1) A c l n (allL l n) w hC hc (all_f l n _ hl (Nat.le_refl _))).mono ?_
  rintro e w' ⟨v, rfl, hR, hB⟩
  obtain ⟨A', c', rfl, h1, h2⟩ := Kd.R_reads hR
  exact ⟨A', c', rfl, h1, h2, hB⟩
theorem allL_len (l : List S59) (n : ByteArray) : (allL l n).length ≤ l.length := by
  unfold allL
  rw [List.length_map]
  exact List.length_filter_le _ _

set_option maxRecDepth 100000 in
set_option maxHeartbeats 4000000 in
theorem differ_calls (w : World) (P1 P2 : Nat) (x : S34) (q : S25) (n : ByteArray) (A B : Option Addr) (c d : Nat)
    (h1 : w.cell? ⟨P1, 4, none⟩ = some (.slice A x.f0.f4.length c)) (h2 : w.cell? ⟨P2, 4, none⟩ = some (.slice B q.f4.length d)) (hC : Kd.C k59 w A x.f0.f4.length x.f0.f4) (hD : Kd.C k59 w B q.f4.length q.f4)
    (hc : x.f0.f4.length ≤ c) (hd : q.f4.length ≤ d) (hx : x.f0.f4.length < 1099511627776) (hq : q.f4.length < 1099511627776) :
    Calls Tryz.prog 63 #[.string n, .pointer (some (at0 P1)), .pointer (some (at0 P2))] w fun e w' => e = .returned (.bool (differ x q n)) ∧ Below w.heap.size w w' := by
  have C1 := Lib.hid (fun W (hb : Below w.heap.size w W) => all_calls W A c x.f0.f4 n (Kd.C_below hC hb) hc hx)
  have C2 := Lib.hid (fun W (hb : Below w.heap.size w W) => all_calls W B d q.f4 n (Kd.C_below hD hb) hd hq)
  have H1 := Lib.hid h1
  have H2 := Lib.hid h2
  have hla := Nat.lt_of_le_of_lt (allL_len x.f0.f4 n) hx
  clear hC hD
  go_enter Tryz.func63, Tryz.ntmps63
  go_upto_region 1 with fail
  refine start_ (n := 12) (S := fun w' => w'.cell? ⟨P1, 4, none⟩ = some (.slice A x.f0.f4.length c) ∧ w'.cell? ⟨P2, 4, none⟩ = some (.slice B q.f4.length d)) (ds := []) #[false, false, false, false, false, false, false, false, false, false, false, false] (by kernel_rfl) rfl rfl ⟨h1, h2⟩ (fun hHeld => ?_)
  refine pure_ (i := 0) (N := some 5) (v := ?_) (a' := ?_) #[true, false, false, false, false, false, false, false, false, false, false, false] rfl rfl (by kernel_rfl) (fun _ _ _ h => h) (Or.inl ⟨by rfl, ?_⟩) ?_ ?_
  rotate_left
  · intro w'
    go_simp
    with_reducible rfl
  rotate_left
  · simp only [Act.put, List.setIfInBounds_toArray, List.set_cons_zero, List.set_cons_succ, i64_w, i32_w]
    rfl
  refine pure_ (i := 1) (N := some 6) (v := ?_) (a' := ?_) #[true, true, false, false, false, false, false, false, false, false, false, false] rfl rfl (by kernel_rfl) (fun _ _ _ h => h) (Or.inl ⟨by rfl, ?_⟩) ?_ ?_
  rotate_left
  · intro w'
    go_simp
    with_reducible rfl
  rotate_left
  · simp only [Act.put, List.setIfInBounds_toArray, List.set_cons_zero, List.set_cons_succ, i64_w, i32_w]
    rfl
  refine pure_ (i := 3) (N := some 8) (v := ?_) (a' := ?_) #[true, true, false, true, false, false, false, false, false, false, false, false] rfl rfl (by kernel_rfl) (fun _ _ _ h => h) (Or.inl ⟨by rfl, ?_⟩) ?_ ?_
  rotate_left
  · intro w'
    go_simp
    with_reducible rfl
  rotate_left
  · simp only [Act.put, List.setIfInBounds_toArray, List.set_cons_zero, List.set_cons_succ, i64_w, i32_w]
    rfl
  refine pure_ (i := 5) (N := some 10) (v := ?_) (a' := ?_) #[true, true, false, true, false, true, false, false, false, false, false, false] rfl rfl (by kernel_rfl) (fun _ _ _ h => h) (Or.inl ⟨by rfl, ?_⟩) ?_ ?_
  rotate_left
  · intro w'
    go_simp
    with_reducible rfl
  rotate_left
  · simp only [Act.put, List.setIfInBounds_toArray, List.set_cons_zero, List.set_cons_succ, i64_w, i32_w]
    rfl
  refine pure_ (i := 7) (N := some 12) (v := ?_) (a' := ?_) #[true, true, false, true, false, true, false, true, false, false, false, false] rfl rfl (by kernel_rfl) (fun _ _ _ h => h) (Or.inl ⟨by rfl, ?_⟩) ?_ ?_
  rotate_left
  · intro w'
    go_simp
    with_reducible rfl
  rotate_left
  · simp only [Act.put, List.setIfInBounds_toArray, List.set_cons_zero, List.set_cons_succ, i64_w, i32_w]
    rfl
  refine take_ (i := 2) (N := some 7) (v := ?_) (a' := ?_) #[true, true, true, true, false, true, false, true, false, false, false, false] rfl rfl (by kernel_rfl) (fun _ _ _ h => h) (Or.inl ⟨by rfl, ?_⟩) hHeld ?_ ?_
  rotate_left
  · rintro w' ⟨s0, s1⟩
    go_simp
    with_reducible rfl
  rotate_left
  · simp only [Act.put, List.setIfInBounds_toArray, List.set_cons_zero, List.set_cons_succ, i64_w, i32_w]
    rfl
  refine take_ (i := 6) (N := some 11) (v := ?_) (a' := ?_) #[true, true, true, true, false, true, true, true, false, false, false, false] rfl rfl (by kernel_rfl) (fun _ _ _ h => h) (Or.inl ⟨by rfl, ?_⟩) hHeld ?_ ?_
  rotate_left
  · rintro w' ⟨s0, s1⟩
    go_simp
    with_reducible rfl
  rotate_left
  · simp only [Act.put, List.setIfInBounds_toArray, List.set_cons_zero, List.set_cons_succ, i64_w, i32_w]
    rfl
  refine one_ (i := 4) (N := some 9) #[true, true, true, true, true, true, true, true, false, false, false, false] rfl rfl (by kernel_rfl) (by decide) (fun K hK => ?_)
  refine goes_ Tryz.func65 (by kernel_rfl) rfl #[.slice A x.f0.f4.length c, .string n] (by rfl) rfl rfl (by simp only [List.map_toArray, List.map_cons, List.map_nil]; rfl) ?_
  with_reducible refine (C1.out _ (below_drew (Below.refl _ w))).mono ?_
  rintro e w4 ⟨A4, n4, rfl, hl4, hC4, hb4⟩
  refine ⟨_, rfl, ?_⟩
  refine hK.out _ _ ⟨pw_cell_below (below_step (below_drew (Below.refl _ w)) hb4) H1.out, pw_cell_below (below_step (below_drew (Below.refl _ w)) hb4) H2.out⟩ (fun hHeld => ?_)
  clear hK K
  refine norm_ (a' := ?_) ?_ ?_
  rotate_left
  · show Act.put _ (some 9) _ = _
    simp only [Act.put, List.setIfInBounds_toArray, List.set_cons_zero, List.set_cons_succ, i64_w, i32_w]
    rfl
  refine one_ (i := 8) (N := some 13) #[true, true, true, true, true, true, true, true, true, false, false, false] rfl rfl (by kernel_rfl) (by decide) (fun K hK => ?_)
  refine goes_ Tryz.func65 (by kernel_rfl) rfl #[.slice B q.f4.length d, .string n] (by rfl) rfl rfl (by simp only [List.map_toArray, List.map_cons, List.map_nil]; rfl) ?_
  with_reducible refine (C2.out _ (below_step (below_drew (Below.refl _ w)) hb4)).mono ?_
  rintro e w8 ⟨A8, n8, rfl, hl8, hC8, hb8⟩
  refine ⟨_, rfl, ?_⟩
  refine hK.out _ _ ⟨pw_cell_below (below_step (below_step (below_drew (Below.refl _ w)) hb4) hb8) H1.out, pw_cell_below (below_step (below_step (below_drew (Below.refl _ w)) hb4) hb8) H2.out⟩ (fun hHeld => ?_)
  clear hK K
  refine norm_ (a' := ?_) ?_ ?_
  rotate_left
  · show Act.put _ (some 13) _ = _
    simp only [Act.put, List.setIfInBounds_toArray, List.set_cons_zero, List.set_cons_succ, i64_w, i32_w]
    rfl
  refine one_ (i := 9) (N := some 14) #[true, true, true, true, true, true, true, true, true, true, false, false] rfl rfl (by kernel_rfl) (by decide) (fun K hK => ?_)
  refine goes_ Tryz.func64 (by kernel_rfl) rfl #[.slice A4 (allL x.f0.f4 n).length n4, .slice A8 (allL q.f4 n).length n8] (by rfl) rfl rfl (by simp only [List.map_toArray, List.map_cons, List.map_nil]; rfl) ?_
  with_reducible refine (slices_Equal_string_string.calls ((allL x.f0.f4 n).length + 1) A4 n4 (allL x.f0.f4 n) A8 n8 (allL q.f4 n) (eqL (allL x.f0.f4 n) (allL q.f4 n)) w8 (Kd.C_below hC4 hb8) hl4 hC8 hl8 (equal_f _ _ _ (by omega) (Nat.le_refl _))).mono ?_
  rintro e w9 ⟨rfl, hd9⟩
  refine ⟨_, rfl, ?_⟩
  refine hK.out _ _ ⟨pw_cell_below (below_step (below_step (below_step (below_drew (Below.refl _ w)) hb4) hb8) (hd9.below)) H1.out, pw_cell_below (below_step (below_step (below_step (below_drew (Below.refl _ w)) hb4) hb8) (hd9.below)) H2.out⟩ (fun hHeld => ?_)
  clear hK K
  refine norm_ (a' := ?_) ?_ ?_
  rotate_left
  · show Act.put _ (some 14) _ = _
    simp only [Act.put, List.setIfInBounds_toArray, List.set_cons_zero, List.set_cons_succ, i64_w, i32_w]
    rfl
  refine pure_ (i := 10) (N := some 15) (v := ?_) (a' := ?_) #[true, true, true, true, true, true, true, true, true, true, true, false] rfl rfl (by kernel_rfl) (fun _ _ _ h => h) (Or.inl ⟨by rfl, ?_⟩) ?_ ?_
  rotate_left
  · intro w'
    go_simp
    with_reducible rfl
  rotate_left
  · simp only [Act.put, List.setIfInBounds_toArray, List.set_cons_zero, List.set_cons_succ, i64_w, i32_w]
    rfl
  refine pure_ (i := 11) (N := some 4) (v := ?_) (a' := ?_) #[true, true, true, true, true, true, true, true, true, true, true, true] rfl rfl (by kernel_rfl) (fun _ _ _ h => h) (Or.inl ⟨by rfl, ?_⟩) ?_ ?_
  rotate_left
  · intro w'
    go_simp
    with_reducible rfl
  rotate_left
  · simp only [Act.put, List.setIfInBounds_toArray, List.set_cons_zero, List.set_cons_succ, i64_w, i32_w]
    rfl
  refine done_ (by kernel_rfl) ?_
  have HB := Lib.hid (below_step (below_step (below_step (below_drew (Below.refl _ w)) hb4) hb8) (hd9.below))
  clear hb4 hb8 hd9 hC4 hC8
  go_wp2
  go_ret
  exact ⟨rfl, HB.out⟩

theorem vl_len : ∀ (es out : List ByteArray), (vl es out).1.length ≤ es.length + out.length
  | [], out => by simp [vl]
  | e :: t, out => by
    unfold vl
    split
    · simp
    · split
      · have := vl_len t out; simp only [List.length_cons]; omega
      · have := vl_len t (out ++ [Pl.lowS e]); simp only [List.length_append, List.length_cons, List.length_nil] at this ⊢; omega
theorem vary_len (l : List S59) : (vary l).1.length ≤ wt l := by
  have h1 := vl_len (elements (allL l VARY)) []
  have h2 := elements_len (allL l VARY)
  have h3 := tot_all l VARY
  unfold vary
  simp only [List.length_nil] at h1
  omega

set_option maxRecDepth 100000 in
set_option maxHeartbeats 8000000 in
theorem matches_calls (w : World) (P : Nat → Prop) (x : S34) (r : Rf) (q : S25) (A4 : Option Addr) (c4 : Nat) (A5 : Option Addr) (c5 : Nat) (h : Ex w P x r) (hC : Kd.C k59 w A4 q.f4.length q.f4) (hc : q.f4.length ≤ c4)
    (hx : x.f0.f4.length < 1099511627776) (hq : q.f4.length < 1099511627776) (hv : wt x.f1.f1 < 268435456) :
    Calls Tryz.prog 34 #[.agg (Vx x r), .agg (Vq q A4 c4 A5 c5)] w fun e w' => e = .returned (.bool (matchB x q)) ∧ Below w.heap.size w w' := by
  obtain ⟨KV, hKV⟩ := vary_ev x.f1.f1 hv
  have HV := Lib.hid (fun W (hb : Below w.heap.size w W) => field_Vary.calls KV r.A7 r.c7 x.f1.f1 (vary x.f1.f1).1 (vary x.f1.f1).2 W (Kd.C_below h.g7 hb) h.l7 (hKV KV (Nat.le_refl _)))
  have HR := Lib.hid (fun W (hb : Below w.heap.size w W) => right_calls W P x r (h.below hb))
  have HX := Lib.hid h
  have HQ := Lib.hid hC
  clear h hC hKV
  go_enter Tryz.func34, Tryz.ntmps34
  go_upto_region 1 with fail
  have hb1 : ((w.alloc (.cells (Vx x r) 34)).alloc (.cells (Vq q A4 c4 A5 c5) 25)).heap[w.heap.size]? = some (Bx x r) := by
    rw [heap_alloc_old _ _ (by simp)]; exact heap_alloc_new w _
  have hb2 := heap_alloc_new (w.alloc (.cells (Vx x r) 34)) (.cells (Vq q A4 c4 A5 c5) 25)
  rw [World.size_alloc] at hb2
  have hB : Below w.heap.size w ((w.alloc (.cells (Vx x r) 34)).alloc (.cells (Vq q A4 c4 A5 c5) 25)) := below_alloc (below_alloc (Below.refl _ _) _) _
  generalize ((w.alloc (.cells (Vx x r) 34)).alloc (.cells (Vq q A4 c4 A5 c5) 25)) = W1 at hb1 hb2 hB ⊢
  have HB1 := Lib.hid hb1
  have HB2 := Lib.hid hb2
  have HB := Lib.hid hB
  have c7 := c_of hb1 7 (v := .slice r.A7 x.f1.f1.length r.c7) rfl
  clear hb1 hb2 hB
  go_upto_region 2 with (go_at_call 51; refine (HV.out _ HB.out).mono ?_; rintro e w3 ⟨v3, rfl, hR3, hb3⟩; obtain ⟨A3, n3, rfl, hl3, hC3⟩ := Kd.R_reads hR3; have HC3 := Lib.hid hC3; have HB3 := Lib.hid hb3; clear hR3 hb3 hC3)
  have X3 := Lib.hid ((HB3.out.block _ (blk_lt' HB1.out)).trans HB1.out)
  have Q3 := Lib.hid ((HB3.out.block _ (blk_lt' HB2.out)).trans HB2.out)
  have HR3 := Lib.hid (HR.out w3 (below_step HB.out HB3.out))
  obtain ⟨l0, l1, l2, l3, l4, l5, l6, l7, l8, l9, l10⟩ := bx_cells X3.out
  have HMB : Hid (matchB x q = (rightB x && !(vary x.f1.f1).2 && (D x.f0.f1 == D q.f1) && (D x.f0.f2 == D q.f2) && (D x.f0.f3 == D q.f3) && !(vary x.f1.f1).1.any (differ x q))) := Lib.hid rfl
  have HVL := Lib.hid (vary_len x.f1.f1)
  obtain ⟨ns, hns⟩ : ∃ ns, ns = (vary x.f1.f1).1 := ⟨_, rfl⟩
  obtain ⟨b2, hb2⟩ : ∃ b, b = (vary x.f1.f1).2 := ⟨_, rfl⟩
  obtain ⟨b1, hb1⟩ : ∃ b, b = rightB x := ⟨_, rfl⟩
  rw [← hns, ← hb2, ← hb1] at HMB
  rw [← hns] at HC3 HVL
  rw [← hns, ← hb2]
  rw [← hb1] at HR3
  have HT : Hid (∀ s : ByteArray, s.toList = D s) := Lib.hid toL
  have q1 := c_of Q3.out 1 (v := .string q.f1) rfl
  have q2 := c_of Q3.out 2 (v := .string q.f2) rfl
  have q3 := c_of Q3.out 3 (v := .string q.f3) rfl
  clear hns hb1 hb2
  rcases b1 with _ | _
  · go_wp2_with (go_at_call 39; refine HR3.out.mono ?_; rintro e w4 ⟨rfl, h4⟩; have HB4 := Lib.hid (below_step HB3.out h4); have x1 := pw_cell_below h4 l1; have x2 := pw_cell_below h4 l2; have x3 := pw_cell_below h4 l3; have y1 := pw_cell_below h4 q1; have y2 := pw_cell_below h4 q2; have y3 := pw_cell_below h4 q3; have H43 := Lib.hid h4; clear h4)
    go_ret
    exact ⟨by rw [HMB.out]; simp only [HT.out] at *; simp [*], below_step HB.out HB4.out⟩
  · skip
    rcases b2 with _ | _
    · skip
      by_cases eb3 : x.f0.f1.toList = q.f1.toList
      · skip
        by_cases eb4 : x.f0.f2.toList = q.f2.toList
        · skip
          by_cases eb5 : x.f0.f3.toList = q.f3.toList
          · have eq5 : (x.f0.f3.toList == q.f3.toList) = true := by simpa using eb5
            go_upto_region 4 with (go_at_call 39; refine HR3.out.mono ?_; rintro e w4 ⟨rfl, h4⟩; have HB4 := Lib.hid (below_step HB3.out h4); have x1 := pw_cell_below h4 l1; have x2 := pw_cell_below h4 l2; have x3 := pw_cell_below h4 l3; have y1 := pw_cell_below h4 q1; have y2 := pw_cell_below h4 q2; have y3 := pw_cell_below h4 q3; have H43 := Lib.hid h4; clear h4)
            have hx4 := c_of ((H43.out.block _ (blk_lt' X3.out)).trans X3.out) 4 (v := .slice r.A4 x.f0.f4.length r.c4) rfl
            have hq4 := c_of ((H43.out.block _ (blk_lt' Q3.out)).trans Q3.out) 4 (v := .slice A4 q.f4.length c4) rfl
            have HBB := Lib.hid (below_step HB.out HB4.out)
            have HCF := Lib.hid (containsf_calls w4 A3 n3 ns (differ x q) w.heap.size (w.heap.size + 1) (Kd.C_below HC3.out H43.out) (by have := HVL.out; omega) (fun W n hW => differ_calls W _ _ x q n r.A4 A4 r.c4 c4 (pw_cell_below hW hx4) (pw_cell_below hW hq4) (HX.out.below (below_step HBB.out hW)).g4 (Kd.C_below HQ.out (below_step HBB.out hW)) HX.out.l4 hc hx hq))
            clear hx4 hq4 x1 x2 x3 y1 y2 y3
            go_wp2_with (go_at_call 62; refine HCF.out.mono ?_; rintro e w5 ⟨rfl, h5⟩; have HB5 := Lib.hid (below_step HB4.out h5); clear h5)
            go_ret
            exact ⟨by rw [HMB.out]; simp only [HT.out] at *; simp [*], below_step HB.out HB5.out⟩
          · have eq5 : (x.f0.f3.toList == q.f3.toList) = false := by simpa using eb5
            go_wp2_with (go_at_call 39; refine HR3.out.mono ?_; rintro e w4 ⟨rfl, h4⟩; have HB4 := Lib.hid (below_step HB3.out h4); have x1 := pw_cell_below h4 l1; have x2 := pw_cell_below h4 l2; have x3 := pw_cell_below h4 l3; have y1 := pw_cell_below h4 q1; have y2 := pw_cell_below h4 q2; have y3 := pw_cell_below h4 q3; have H43 := Lib.hid h4; clear h4)
            go_ret
            exact ⟨by rw [HMB.out]; simp only [HT.out] at *; simp [*], below_step HB.out HB4.out⟩
        · go_wp2_with (go_at_call 39; refine HR3.out.mono ?_; rintro e w4 ⟨rfl, h4⟩; have HB4 := Lib.hid (below_step HB3.out h4); have x1 := pw_cell_below h4 l1; have x2 := pw_cell_below h4 l2; have x3 := pw_cell_below h4 l3; have y1 := pw_cell_below h4 q1; have y2 := pw_cell_below h4 q2; have y3 := pw_cell_below h4 q3; have H43 := Lib.hid h4; clear h4)
          go_ret
          exact ⟨by rw [HMB.out]; simp only [HT.out] at *; simp [*], below_step HB.out HB4.out⟩
      · go_wp2_with (go_at_call 39; refine HR3.out.mono ?_; rintro e w4 ⟨rfl, h4⟩; have HB4 := Lib.hid (below_step HB3.out h4); have x1 := pw_cell_below h4 l1; have x2 := pw_cell_below h4 l2; have x3 := pw_cell_below h4 l3; have y1 := pw_cell_below h4 q1; have y2 := pw_cell_below h4 q2; have y3 := pw_cell_below h4 q3; have H43 := Lib.hid h4; clear h4)
        go_ret
        exact ⟨by rw [HMB.out]; simp only [HT.out] at *; simp [*], below_step HB.out HB4.out⟩
    · go_wp2_with (go_at_call 39; refine HR3.out.mono ?_; rintro e w4 ⟨rfl, h4⟩; have HB4 := Lib.hid (below_step HB3.out h4); have x1 := pw_cell_below h4 l1; have x2 := pw_cell_below h4 l2; have x3 := pw_cell_below h4 l3; have y1 := pw_cell_below h4 q1; have y2 := pw_cell_below h4 q2; have y3 := pw_cell_below h4 q3; have H43 := Lib.hid h4; clear h4)
      go_ret
      exact ⟨by rw [HMB.out]; simp only [HT.out] at *; simp [*], below_step HB.out HB4.out⟩
end Go.Proofs.YtbnhlekehndhkaaGreatDoor.S

