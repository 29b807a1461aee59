import Derived.Test.YtkbbjjegpjdpeaaDoorZM1c
import Derived.Test.YtkbbjjegpjdpeaaDoorZPv
import Derived.Test.YtkbbjjegpjdpeaaDoorZGxf40
import Derived.Deep.LoopGhost
import Derived.Test.YtkbbjjegpjdpeaaDoorZGxf26
import Derived.Test.YtkbbjjegpjdpeaaDoorZGx0







/- (not yet a claim) does an exchange match a request? -/
namespace Go.Proofs.YtkbbjjegpjdpeaaDoor.S
open Go.RowKit Go.Proofs.YtkbbjjegpjdpeaaDoorW.PrintWords Go.Proofs.YtkbbjjegpjdpeaaDoorW.PrintLast Go.Proofs.YtkbbjjegpjdpeaaDoorW.PrintMore Go.Proofs.YtkbbjjegpjdpeaaDoor.G Go.Proofs.YtkbbjjegpjdpeaaDoor.V
set_option linter.unusedVariables false
set_option linter.unusedSimpArgs false

/-- the first place, from i on -/
def fi (p : ByteArray → Bool) : Int → List ByteArray → Int
  | _, [] => -1
  | i, v :: t => if p v then i else fi p (i + 1) t
theorem fi_any (p : ByteArray → Bool) : ∀ (l : List ByteArray) (i : Int), 0 ≤ i → decide (0 ≤ fi p i l) = l.any p
  | [], i, _ => by simp [fi]
  | v :: t, i, h => by
    unfold fi
    cases hp : p v with
    | true => simp [hp, h]
    | false => simp [hp]; simpa using fi_any p t (i + 1) (by omega)

/-- a boxed request -/
abbrev Vq (q : S31) (A4 : Option Addr) (c4 : Nat) (A5 : Option Addr) (c5 : Nat) : Array Value := #[.string q.f0, .string q.f1, .string q.f2, .string q.f3, .slice A4 q.f4.length c4, .slice A5 q.f5.length c5]
def rightB (x : S41) : Bool := (decide (0 ≤ x.f2) && decide (x.f2 ≤ 1099511627776)) && (decide (0 ≤ x.f3) && decide (x.f3 ≤ 1099511627776)) && decide (x.f2 ≤ x.f3)
def differ (x : S41) (q : S31) (n : ByteArray) : Bool := !eqL (allL x.f0.f4 n) (allL q.f4 n)
def matchB (x : S41) (q : S31) : Bool := rightB x && !(vary x.f1.f1).2 && (D x.f0.f1 == D q.f1) && (D x.f0.f2 == D q.f2) && (D x.f0.f3 == D q.f3) && !(vary x.f1.f1).1.any (differ x q)
theorem right_f (x : S41) : fresh_Right.f x.f0.f0 x.f0.f1 x.f0.f2 x.f0.f3 x.f0.f4 x.f0.f5 x.f1.f0 x.f1.f1 x.f1.f2 x.f2 x.f3 = some (rightB x) := by
  unfold fresh_Right.f fresh_isTime.f rightB
  by_cases h0 : x.f2 ≥ 0 <;> by_cases h1 : x.f2 ≤ 1099511627776 <;> by_cases h2 : x.f3 ≥ 0 <;> by_cases h3 : x.f3 ≤ 1099511627776 <;> simp [h0, h1, h2, h3] <;> omega
theorem right_calls (w : World) (P : Nat → Prop) (x : S41) (r : Rf) (h : Ex w P x r) : Calls Tryd.prog 40 #[.agg (Vx x r)] w fun e w' => e = .returned (.bool (rightB x)) ∧ Below w.heap.size w w' :=
  fresh_Right.calls _ _ _ _ r.A4 r.c4 _ r.A5 r.c5 _ _ r.A7 r.c7 _ r.A8 r.c8 _ _ _ _ w h.g4 h.l4 h.g5 h.l5 h.g7 h.l7 h.g8 h.l8 (right_f x)

theorem at_s {w : World} {A : Option Addr} {n : Nat} {xs : List ByteArray} (h : Kd.C Kd.string w A n xs) (i : Nat) (h1 : i < n) : ∃ ad, A = some ad ∧ w.cell? (ad.add i) = some (.string (rdOf ByteArray.empty xs (i : Int))) := by
  have := Kd.at_string h (i : Int) (by omega) (by omega)
  rwa [Int.toNat_natCast] at this

set_option maxRecDepth 100000 in
set_option maxHeartbeats 4000000 in
theorem indexf_calls (w : World) (A : Option Addr) (c : Nat) (l : List ByteArray) (p : ByteArray → Bool) (P1 P2 : Nat) (hC : Kd.C Kd.string w A l.length l) (hl : l.length < 1099511627776)
    (hp : ∀ (W : World) (n : ByteArray), Below w.heap.size w W → Calls Tryd.prog 52 #[.string n, .pointer (some (at0 P1)), .pointer (some (at0 P2))] W fun e w' => e = .returned (.bool (p n)) ∧ Below W.heap.size W w') :
    Calls Tryd.prog 65 #[.slice A l.length c, .func (.func 52) #[] #[.pointer (some (at0 P1)), .pointer (some (at0 P2))]] w fun e w' => e = .returned (.int .i64 (fi p 0 l)) ∧ Below w.heap.size w w' := by
  have HC := Lib.hid hC
  have HP := Lib.hid hp
  clear hC hp
  go_enter Tryd.func65, Tryd.ntmps65
  go_wp2
  go_loopg [5, 8] l.length (fun k v5 v8 W => ∃ (i : Nat), v8 = .int .i64 (i : Int) ∧ i ≤ l.length ∧ l.length ≤ k + i ∧ Hid (fi p 0 l = fi p (i : Int) (l.drop i)) ∧ Hid (Below w.heap.size w W))
  case atStart => exact ⟨0, rfl, by omega, by omega, Lib.hid rfl, Lib.hid (Below.refl _ _)⟩
  case round =>
    obtain ⟨i, rfl, hi, hk, HF, HW⟩ := hrel
    by_cases hlt : i < l.length
    · obtain ⟨ad, rfl, hz0⟩ := at_s (Kd.C_below HC.out HW.out) i hlt
      obtain ⟨ko, rfl⟩ : ∃ ko, gk = ko + 1 := ⟨gk - 1, by omega⟩
      have hk2 : l.length ≤ ko + (i + 1) := by omega
      have hi1 : i + 1 ≤ l.length := hlt
      have c1 : decide ((i : Int) < (l.length : Int)) = true := decide_eq_true (by omega)
      have p1 : 0 ≤ (i : Int) := by omega
      have p2 : (i : Int) < (l.length : Int) := by omega
      have HWI := Lib.hid (show wrap64 ((i : Int) + 1) = (i : Int) + 1 by unfold wrap64; omega)
      obtain ⟨v, hv⟩ : ∃ v, v = rdOf ByteArray.empty l (i : Int) := ⟨_, rfl⟩
      have hd : l.drop i = v :: l.drop (i + 1) := by
        rw [hv, List.drop_eq_getElem_cons hlt]
        congr 1
        unfold rdOf
        rw [Int.toNat_natCast, List.getD_eq_getElem?_getD, List.getElem?_eq_getElem hlt, Option.getD_some]
      have HF2 : Hid (fi p 0 l = if p v then (i : Int) else fi p ((i : Int) + 1) (l.drop (i + 1))) := Lib.hid (by rw [HF.out, hd]; rfl)
      rw [← hv] at hz0
      have Hcall := Lib.hid (HP.out wr v HW.out)
      obtain ⟨b, hb⟩ : ∃ b, p v = b := ⟨_, rfl⟩
      rw [hb] at HF2 Hcall
      clear hlt hb hd HF hv
      cases b with
      | true =>
        go_wp2_with (first | (go_at_call 52; refine Hcall.out.mono ?_; rintro e w3 ⟨rfl, hb3⟩; have HB3 := Lib.hid (below_step HW.out hb3); clear hb3))
        go_ret
        exact ⟨by rw [HF2.out]; rfl, HB3.out⟩
      | false =>
        go_wp2_with (first | (go_at_call 52; refine Hcall.out.mono ?_; rintro e w3 ⟨rfl, hb3⟩; have HB3 := Lib.hid (below_step HW.out hb3); clear hb3))
        go_roundg ko
        case measure => omega
        case rel => exact ⟨i + 1, by first | exact congrArg (Value.int .i64) HWI.out | go_num, hi1, hk2, Lib.hid (by rw [HF2.out]; rfl), HB3⟩
    · have c0 : decide ((i : Int) < (l.length : Int)) = false := decide_eq_false (by omega)
      have hil : i = l.length := by omega
      have HE : Hid (fi p (i : Int) (l.drop i) = -1) := Lib.hid (by rw [List.drop_eq_nil_of_le (by omega)]; rfl)
      clear hil
      go_wp2
      go_ret
      exact ⟨by rw [HF.out, HE.out]; rfl, HW.out⟩
theorem containsf_calls (w : World) (A : Option Addr) (c : Nat) (l : List ByteArray) (p : ByteArray → Bool) (P1 P2 : Nat) (hC : Kd.C Kd.string w A l.length l) (hl : l.length < 1099511627776)
    (hp : ∀ (W : World) (n : ByteArray), Below w.heap.size w W → Calls Tryd.prog 52 #[.string n, .pointer (some (at0 P1)), .pointer (some (at0 P2))] W fun e w' => e = .returned (.bool (p n)) ∧ Below W.heap.size W w') :
    Calls Tryd.prog 51 #[.slice A l.length c, .func (.func 52) #[] #[.pointer (some (at0 P1)), .pointer (some (at0 P2))]] w fun e w' => e = .returned (.bool (l.any p)) ∧ Below w.heap.size w w' := by
  have H := Lib.hid (indexf_calls w A c l p P1 P2 hC hl hp)
  have hany := fi_any p l 0 (by omega)
  clear hC hp
  go_enter Tryd.func51, Tryd.ntmps51
  go_wp2_with (go_at_call 65; refine H.out.mono ?_; rintro e w' ⟨rfl, hb⟩)
  go_ret
  exact ⟨by first | rw [hany] | rfl | (rw [← hany]), hb⟩

theorem all_calls (w : World) (A : Option Addr) (c : Nat) (l : List S63) (n : ByteArray) (hC : Kd.C k63 w A l.length l) (hc : l.length ≤ c) (hl : l.length < 1099511627776) :
    Calls Tryd.prog 54 #[.slice A l.length c, .string n] w fun e w' => ∃ A' c', e = .returned (.slice A' (allL l n).length c') ∧ (allL l n).length ≤ c' ∧ Kd.C Kd.string w' A' (allL l n).length (allL l n) ∧ Below w.heap.size w w' := by
  refine (field_All.calls (l.length + 1) A c l n (allL l n) w hC hc (all_f l n _ hl (Nat.le_refl _))).mono ?_
  rintro e w' ⟨v, rfl, hR, hB⟩
  obtain ⟨A', c', rfl, h1, h2⟩ := Kd.R_reads hR
  exact ⟨A', c', rfl, h1, h2, hB⟩
theorem allL_len (l : List S63) (n : ByteArray) : (allL l n).length ≤ l.length := by
  unfold allL
  rw [List.length_map]
  exact List.length_filter_le _ _

set_option maxRecDepth 100000 in
set_option maxHeartbeats 4000000 in
theorem differ_calls (w : World) (P1 P2 : Nat) (x : S41) (q : S31) (n : ByteArray) (A B : Option Addr) (c d : Nat)
    (h1 : w.cell? ⟨P1, 4, none⟩ = some (.slice A x.f0.f4.length c)) (h2 : w.cell? ⟨P2, 4, none⟩ = some (.slice B q.f4.length d)) (hC : Kd.C k63 w A x.f0.f4.length x.f0.f4) (hD : Kd.C k63 w B q.f4.length q.f4)
    (hc : x.f0.f4.length ≤ c) (hd : q.f4.length ≤ d) (hx : x.f0.f4.length < 1099511627776) (hq : q.f4.length < 1099511627776) :
    Calls Tryd.prog 52 #[.string n, .pointer (some (at0 P1)), .pointer (some (at0 P2))] w fun e w' => e = .returned (.bool (differ x q n)) ∧ Below w.heap.size w w' := by
  have C1 := Lib.hid (fun W (hb : Below w.heap.size w W) => all_calls W A c x.f0.f4 n (Kd.C_below hC hb) hc hx)
  have C2 := Lib.hid (fun W (hb : Below w.heap.size w W) => all_calls W B d q.f4 n (Kd.C_below hD hb) hd hq)
  have H1 := Lib.hid h1
  have H2 := Lib.hid h2
  have hla := Nat.lt_of_le_of_lt (allL_len x.f0.f4 n) hx
  clear hC hD
  go_enter Tryd.func52, Tryd.ntmps52
  go_upto_region 1 with fail
  refine start_ (n := 12) (S := fun w' => w'.cell? ⟨P1, 4, none⟩ = some (.slice A x.f0.f4.length c) ∧ w'.cell? ⟨P2, 4, none⟩ = some (.slice B q.f4.length d)) (ds := []) #[false, false, false, false, false, false, false, false, false, false, false, false] (by kernel_rfl) rfl rfl ⟨h1, h2⟩ (fun hHeld => ?_)
  refine pure_ (i := 0) (N := some 5) (v := ?_) (a' := ?_) #[true, false, false, false, false, false, false, false, false, false, false, false] rfl rfl (by kernel_rfl) (fun _ _ _ h => h) (Or.inl ⟨by rfl, ?_⟩) ?_ ?_
  rotate_left
  · intro w'
    go_simp
    with_reducible rfl
  rotate_left
  · simp only [Act.put, List.setIfInBounds_toArray, List.set_cons_zero, List.set_cons_succ, i64_w, i32_w]
    rfl
  refine pure_ (i := 1) (N := some 6) (v := ?_) (a' := ?_) #[true, true, false, false, false, false, false, false, false, false, false, false] rfl rfl (by kernel_rfl) (fun _ _ _ h => h) (Or.inl ⟨by rfl, ?_⟩) ?_ ?_
  rotate_left
  · intro w'
    go_simp
    with_reducible rfl
  rotate_left
  · simp only [Act.put, List.setIfInBounds_toArray, List.set_cons_zero, List.set_cons_succ, i64_w, i32_w]
    rfl
  refine pure_ (i := 3) (N := some 8) (v := ?_) (a' := ?_) #[true, true, false, true, false, false, false, false, false, false, false, false] rfl rfl (by kernel_rfl) (fun _ _ _ h => h) (Or.inl ⟨by rfl, ?_⟩) ?_ ?_
  rotate_left
  · intro w'
    go_simp
    with_reducible rfl
  rotate_left
  · simp only [Act.put, List.setIfInBounds_toArray, List.set_cons_zero, List.set_cons_succ, i64_w, i32_w]
    rfl
  refine pure_ (i := 5) (N := some 10) (v := ?_) (a' := ?_) #[true, true, false, true, false, true, false, false, false, false, false, false] rfl rfl (by kernel_rfl) (fun _ _ _ h => h) (Or.inl ⟨by rfl, ?_⟩) ?_ ?_
  rotate_left
  · intro w'
    go_simp
    with_reducible rfl
  rotate_left
  · simp only [Act.put, List.setIfInBounds_toArray, List.set_cons_zero, List.set_cons_succ, i64_w, i32_w]
    rfl
  refine pure_ (i := 7) (N := some 12) (v := ?_) (a' := ?_) #[true, true, false, true, false, true, false, true, false, false, false, false] rfl rfl (by kernel_rfl) (fun _ _ _ h => h) (Or.inl ⟨by rfl, ?_⟩) ?_ ?_
  rotate_left
  · intro w'
    go_simp
    with_reducible rfl
  rotate_left
  · simp only [Act.put, List.setIfInBounds_toArray, List.set_cons_zero, List.set_cons_succ, i64_w, i32_w]
    rfl
  refine take_ (i := 2) (N := some 7) (v := ?_) (a' := ?_) #[true, true, true, true, false, true, false, true, false, false, false, false] rfl rfl (by kernel_rfl) (fun _ _ _ h => h) (Or.inl ⟨by rfl, ?_⟩) hHeld ?_ ?_
  rotate_left
  · rintro w' ⟨s0, s1⟩
    go_simp
    with_reducible rfl
  rotate_left
  · simp only [Act.put, List.setIfInBounds_toArray, List.set_cons_zero, List.set_cons_succ, i64_w, i32_w]
    rfl
  refine take_ (i := 6) (N := some 11) (v := ?_) (a' := ?_) #[true, true, true, true, false, true, true, true, false, false, false, false] rfl rfl (by kernel_rfl) (fun _ _ _ h => h) (Or.inl ⟨by rfl, ?_⟩) hHeld ?_ ?_
  rotate_left
  · rintro w' ⟨s0, s1⟩
    go_simp
    with_reducible rfl
  rotate_left
  · simp only [Act.put, List.setIfInBounds_toArray, List.set_cons_zero, List.set_cons_succ, i64_w, i32_w]
    rfl
  refine one_ (i := 4) (N := some 9) #[true, true, true, true, true, true, true, true, false, false, false, false] rfl rfl (by kernel_rfl) (by decide) (fun K hK => ?_)
  refine goes_ Tryd.func54 (by kernel_rfl) rfl #[.slice A x.f0.f4.length c, .string n] (by rfl) rfl rfl (by simp only [List.map_toArray, List.map_cons, List.map_nil]; rfl) ?_
  with_reducible refine (C1.out _ (below_drew (Below.refl _ w))).mono ?_
  rintro e w4 ⟨A4, n4, rfl, hl4, hC4, hb4⟩
  refine ⟨_, rfl, ?_⟩
  refine hK.out _ _ ⟨pw_cell_below (below_step (below_drew (Below.refl _ w)) hb4) H1.out, pw_cell_below (below_step (below_drew (Below.refl _ w)) hb4) H2.out⟩ (fun hHeld => ?_)
  clear hK K
  refine norm_ (a' := ?_) ?_ ?_
  rotate_left
  · show Act.put _ (some 9) _ = _
    simp only [Act.put, List.setIfInBounds_toArray, List.set_cons_zero, List.set_cons_succ, i64_w, i32_w]
    rfl
  refine one_ (i := 8) (N := some 13) #[true, true, true, true, true, true, true, true, true, false, false, false] rfl rfl (by kernel_rfl) (by decide) (fun K hK => ?_)
  refine goes_ Tryd.func54 (by kernel_rfl) rfl #[.slice B q.f4.length d, .string n] (by rfl) rfl rfl (by simp only [List.map_toArray, List.map_cons, List.map_nil]; rfl) ?_
  with_reducible refine (C2.out _ (below_step (below_drew (Below.refl _ w)) hb4)).mono ?_
  rintro e w8 ⟨A8, n8, rfl, hl8, hC8, hb8⟩
  refine ⟨_, rfl, ?_⟩
  refine hK.out _ _ ⟨pw_cell_below (below_step (below_step (below_drew (Below.refl _ w)) hb4) hb8) H1.out, pw_cell_below (below_step (below_step (below_drew (Below.refl _ w)) hb4) hb8) H2.out⟩ (fun hHeld => ?_)
  clear hK K
  refine norm_ (a' := ?_) ?_ ?_
  rotate_left
  · show Act.put _ (some 13) _ = _
    simp only [Act.put, List.setIfInBounds_toArray, List.set_cons_zero, List.set_cons_succ, i64_w, i32_w]
    rfl
  refine one_ (i := 9) (N := some 14) #[true, true, true, true, true, true, true, true, true, true, false, false] rfl rfl (by kernel_rfl) (by decide) (fun K hK => ?_)
  refine goes_ Tryd.func53 (by kernel_rfl) rfl #[.slice A4 (allL x.f0.f4 n).length n4, .slice A8 (allL q.f4 n).length n8] (by rfl) rfl rfl (by simp only [List.map_toArray, List.map_cons, List.map_nil]; rfl) ?_
  with_reducible refine (slices_Equal_string_string.calls ((allL x.f0.f4 n).length + 1) A4 n4 (allL x.f0.f4 n) A8 n8 (allL q.f4 n) (eqL (allL x.f0.f4 n) (allL q.f4 n)) w8 (Kd.C_below hC4 hb8) hl4 hC8 hl8 (equal_f _ _ _ (by omega) (Nat.le_refl _))).mono ?_
  rintro e w9 ⟨rfl, hd9⟩
  refine ⟨_, rfl, ?_⟩
  refine hK.out _ _ ⟨pw_cell_below (below_step (below_step (below_step (below_drew (Below.refl _ w)) hb4) hb8) (hd9.below)) H1.out, pw_cell_below (below_step (below_step (below_step (below_drew (Below.refl _ w)) hb4) hb8) (hd9.below)) H2.out⟩ (fun hHeld => ?_)
  clear hK K
  refine norm_ (a' := ?_) ?_ ?_
  rotate_left
  · show Act.put _ (some 14) _ = _
    simp only [Act.put, List.setIfInBounds_toArray, List.set_cons_zero, List.set_cons_succ, i64_w, i32_w]
    rfl
  refine pure_ (i := 10) (N := some 15) (v := ?_) (a' := ?_) #[true, true, true, true, true, true, true, true, true, true, true, false] rfl rfl (by kernel_rfl) (fun _ _ _ h => h) (Or.inl ⟨by rfl, ?_⟩) ?_ ?_
  rotate_left
  · intro w'
    go_simp
    with_reducible rfl
  rotate_left
  · simp only [Act.put, List.setIfInBounds_toArray, List.set_cons_zero, List.set_cons_succ, i64_w, i32_w]
    rfl
  refine pure_ (i := 11) (N := some 4) (v := ?_) (a' := ?_) #[true, true, true, true, true, true, true, true, true, true, true, true] rfl rfl (by kernel_rfl) (fun _ _ _ h => h) (Or.inl ⟨by rfl, ?_⟩) ?_ ?_
  rotate_left
  · intro w'
    go_simp
    with_reducible rfl
  rotate_left
  · simp only [Act.put, List.setIfInBounds_toArray, List.set_cons_zero, List.set_cons_succ, i64_w, i32_w]
    rfl
  refine done_ (by kernel_rfl) ?_
  have HB := Lib.hid (below_step (below_step (below_step (below_drew (Below.refl _ w)) hb4) hb8) (hd9.below))
  clear hb4 hb8 hd9 hC4 hC8
  go_wp2
  go_ret
  exact ⟨rfl, HB.out⟩

theorem vl_len : ∀ (es out : List ByteArray), (vl es out).1.length ≤ es.length + out.length
  | [], out => by simp [vl]
  | e :: t, out => by
    unfold vl
    split
    · simp
    · split
      · have := vl_len t out; simp only [List.length_cons]; omega
      · have := vl_len t (out ++ [Pl.lowS e]); simp only [List.length_append, List.length_cons, List.length_nil] at this ⊢; omega
theorem vary_len (l : List S63) : (vary l).1.length ≤ wt l := by
  have h1 := vl_len (elements (allL l VARY)) []
  have h2 := elements_len (allL l VARY)
  have h3 := tot_all l VARY
  unfold vary
  simp only [List.length_nil] at h1
  omega

set_option maxRecDepth 100000 in
set_option maxHeartbeats 8000000 in
theorem matches_calls (w : World) (P : Nat → Prop) (x : S41) (r : Rf) (q : S31) (A4 : Option Addr) (c4 : Nat) (A5 : Option Addr) (c5 : Nat) (h : Ex w P x r) (hC : Kd.C k63 w A4 q.f4.length q.f4) (hc : q.f4.length ≤ c4)
    (hx : x.f0.f4.length < 1099511627776) (hq : q.f4.length < 1099511627776) (hv : wt x.f1.f1 < 268435456) :
    Calls Tryd.prog 31 #[.agg (Vx x r), .agg (Vq q A4 c4 A5 c5)] w fun e w' => e = .returned (.bool (matchB x q)) ∧ Below w.heap.size w w' := by
  obtain ⟨KV, hKV⟩ := vary_ev x.f1.f1 hv
  have HV := Lib.hid (fun W (hb : Below w.heap.size w W) => field_Vary.calls KV r.A7 r.c7 x.f1.f1 (vary x.f1.f1).1 (vary x.f1.f1).2 W (Kd.C_below h.g7 hb) h.l7 (hKV KV (Nat.le_refl _)))
  have HR := Lib.hid (fun W (hb : Below w.heap.size w W) => right_calls W P x r (h.below hb))
  have HX := Lib.hid h
  have HQ := Lib.hid hC
  clear h hC hKV
  go_enter Tryd.func31, Tryd.ntmps31
  go_upto_region 1 with fail
  have hb1 : ((w.alloc (.cells (Vx x r) 41)).alloc (.cells (Vq q A4 c4 A5 c5) 31)).heap[w.heap.size]? = some (Bx x r) := by
    rw [heap_alloc_old _ _ _ (by simp)]; exact heap_alloc_new w _
  have hb2 := heap_alloc_new (w.alloc (.cells (Vx x r) 41)) (.cells (Vq q A4 c4 A5 c5) 31)
  rw [World.size_alloc] at hb2
  have hB : Below w.heap.size w ((w.alloc (.cells (Vx x r) 41)).alloc (.cells (Vq q A4 c4 A5 c5) 31)) := below_alloc (below_alloc (Below.refl _ _) _) _
  generalize ((w.alloc (.cells (Vx x r) 41)).alloc (.cells (Vq q A4 c4 A5 c5) 31)) = W1 at hb1 hb2 hB ⊢
  have HB1 := Lib.hid hb1
  have HB2 := Lib.hid hb2
  have HB := Lib.hid hB
  have c7 := c_of hb1 7 (v := .slice r.A7 x.f1.f1.length r.c7) rfl
  clear hb1 hb2 hB
  go_upto_region 2 with (go_at_call 50; refine (HV.out _ HB.out).mono ?_; rintro e w3 ⟨v3, rfl, hR3, hb3⟩; obtain ⟨A3, n3, rfl, hl3, hC3⟩ := Kd.R_reads hR3; have HC3 := Lib.hid hC3; have HB3 := Lib.hid hb3; clear hR3 hb3 hC3)
  have X3 := Lib.hid ((HB3.out.block _ (blk_lt' HB1.out)).trans HB1.out)
  have Q3 := Lib.hid ((HB3.out.block _ (blk_lt' HB2.out)).trans HB2.out)
  have HR3 := Lib.hid (HR.out w3 (below_step HB.out HB3.out))
  obtain ⟨l0, l1, l2, l3, l4, l5, l6, l7, l8, l9, l10⟩ := bx_cells X3.out
  have HMB : Hid (matchB x q = (rightB x && !(vary x.f1.f1).2 && (D x.f0.f1 == D q.f1) && (D x.f0.f2 == D q.f2) && (D x.f0.f3 == D q.f3) && !(vary x.f1.f1).1.any (differ x q))) := Lib.hid rfl
  have HVL := Lib.hid (vary_len x.f1.f1)
  obtain ⟨ns, hns⟩ : ∃ ns, ns = (vary x.f1.f1).1 := ⟨_, rfl⟩
  obtain ⟨b2, hb2⟩ : ∃ b, b = (vary x.f1.f1).2 := ⟨_, rfl⟩
  obtain ⟨b1, hb1⟩ : ∃ b, b = rightB x := ⟨_, rfl⟩
  rw [← hns, ← hb2, ← hb1] at HMB
  rw [← hns] at HC3 HVL
  rw [← hns, ← hb2]
  rw [← hb1] at HR3
  have HT : Hid (∀ s : ByteArray, s.toList = D s) := Lib.hid toL
  have q1 := c_of Q3.out 1 (v := .string q.f1) rfl
  have q2 := c_of Q3.out 2 (v := .string q.f2) rfl
  have q3 := c_of Q3.out 3 (v := .string q.f3) rfl
  clear hns hb1 hb2
  rcases b1 with _ | _
  · go_wp2_with (go_at_call 40; refine HR3.out.mono ?_; rintro e w4 ⟨rfl, h4⟩; have HB4 := Lib.hid (below_step HB3.out h4); have x1 := pw_cell_below h4 l1; have x2 := pw_cell_below h4 l2; have x3 := pw_cell_below h4 l3; have y1 := pw_cell_below h4 q1; have y2 := pw_cell_below h4 q2; have y3 := pw_cell_below h4 q3; have H43 := Lib.hid h4; clear h4)
    go_ret
    exact ⟨by rw [HMB.out]; simp only [HT.out] at *; simp [*], below_step HB.out HB4.out⟩
  · skip
    rcases b2 with _ | _
    · skip
      by_cases eb3 : x.f0.f1.toList = q.f1.toList
      · skip
        by_cases eb4 : x.f0.f2.toList = q.f2.toList
        · skip
          by_cases eb5 : x.f0.f3.toList = q.f3.toList
          · have eq5 : (x.f0.f3.toList == q.f3.toList) = true := by simpa using eb5
            go_upto_region 4 with (go_at_call 40; refine HR3.out.mono ?_; rintro e w4 ⟨rfl, h4⟩; have HB4 := Lib.hid (below_step HB3.out h4); have x1 := pw_cell_below h4 l1; have x2 := pw_cell_below h4 l2; have x3 := pw_cell_below h4 l3; have y1 := pw_cell_below h4 q1; have y2 := pw_cell_below h4 q2; have y3 := pw_cell_below h4 q3; have H43 := Lib.hid h4; clear h4)
            have hx4 := c_of ((H43.out.block _ (blk_lt' X3.out)).trans X3.out) 4 (v := .slice r.A4 x.f0.f4.length r.c4) rfl
            have hq4 := c_of ((H43.out.block _ (blk_lt' Q3.out)).trans Q3.out) 4 (v := .slice A4 q.f4.length c4) rfl
            have HBB := Lib.hid (below_step HB.out HB4.out)
            have HCF := Lib.hid (containsf_calls w4 A3 n3 ns (differ x q) w.heap.size (w.heap.size + 1) (Kd.C_below HC3.out H43.out) (by have := HVL.out; omega) (fun W n hW => differ_calls W _ _ x q n r.A4 A4 r.c4 c4 (pw_cell_below hW hx4) (pw_cell_below hW hq4) (HX.out.below (below_step HBB.out hW)).g4 (Kd.C_below HQ.out (below_step HBB.out hW)) HX.out.l4 hc hx hq))
            clear hx4 hq4 x1 x2 x3 y1 y2 y3
            go_wp2_with (go_at_call 51; refine HCF.out.mono ?_; rintro e w5 ⟨rfl, h5⟩; have HB5 := Lib.hid (below_step HB4.out h5); clear h5)
            go_ret
            exact ⟨by rw [HMB.out]; simp only [HT.out] at *; simp [*], below_step HB.out HB5.out⟩
          · have eq5 : (x.f0.f3.toList == q.f3.toList) = false := by simpa using eb5
            go_wp2_with (go_at_call 40; refine HR3.out.mono ?_; rintro e w4 ⟨rfl, h4⟩; have HB4 := Lib.hid (below_step HB3.out h4); have x1 := pw_cell_below h4 l1; have x2 := pw_cell_below h4 l2; have x3 := pw_cell_below h4 l3; have y1 := pw_cell_below h4 q1; have y2 := pw_cell_below h4 q2; have y3 := pw_cell_below h4 q3; have H43 := Lib.hid h4; clear h4)
            go_ret
            exact ⟨by rw [HMB.out]; simp only [HT.out] at *; simp [*], below_step HB.out HB4.out⟩
        · go_wp2_with (go_at_call 40; refine HR3.out.mono ?_; rintro e w4 ⟨rfl, h4⟩; have HB4 := Lib.hid (below_step HB3.out h4); have x1 := pw_cell_below h4 l1; have x2 := pw_cell_below h4 l2; have x3 := pw_cell_below h4 l3; have y1 := pw_cell_below h4 q1; have y2 := pw_cell_below h4 q2; have y3 := pw_cell_below h4 q3; have H43 := Lib.hid h4; clear h4)
          go_ret
          exact ⟨by rw [HMB.out]; simp only [HT.out] at *; simp [*], below_step HB.out HB4.out⟩
      · go_wp2_with (go_at_call 40; refine HR3.out.mono ?_; rintro e w4 ⟨rfl, h4⟩; have HB4 := Lib.hid (below_step HB3.out h4); have x1 := pw_cell_below h4 l1; have x2 := pw_cell_below h4 l2; have x3 := pw_cell_below h4 l3; have y1 := pw_cell_below h4 q1; have y2 := pw_cell_below h4 q2; have y3 := pw_cell_below h4 q3; have H43 := Lib.hid h4; clear h4)
        go_ret
        exact ⟨by rw [HMB.out]; simp only [HT.out] at *; simp [*], below_step HB.out HB4.out⟩
    · go_wp2_with (go_at_call 40; refine HR3.out.mono ?_; rintro e w4 ⟨rfl, h4⟩; have HB4 := Lib.hid (below_step HB3.out h4); have x1 := pw_cell_below h4 l1; have x2 := pw_cell_below h4 l2; have x3 := pw_cell_below h4 l3; have y1 := pw_cell_below h4 q1; have y2 := pw_cell_below h4 q2; have y3 := pw_cell_below h4 q3; have H43 := Lib.hid h4; clear h4)
      go_ret
      exact ⟨by rw [HMB.out]; simp only [HT.out] at *; simp [*], below_step HB.out HB4.out⟩
end Go.Proofs.YtkbbjjegpjdpeaaDoor.S
/- (not yet a claim) the store's Get -/
namespace Go.Proofs.YtkbbjjegpjdpeaaDoor.S
open Go.RowKit Go.Shelf Go.Proofs.YtkbbjjegpjdpeaaDoorW.PrintWords Go.Proofs.YtkbbjjegpjdpeaaDoorW.PrintLast Go.Proofs.YtkbbjjegpjdpeaaDoorW.PrintMore Go.Proofs.YtkbbjjegpjdpeaaDoor.G Go.Proofs.YtkbbjjegpjdpeaaDoor.V
set_option linter.unusedVariables false
set_option linter.unusedSimpArgs false
attribute [local go_sem] Oper.semAt_some

/-- the best one so far -/
def pick (q : S31) : Option Nd → Nd → Option Nd
  | none, d => if matchB d.x q then some d else none
  | some b, d => if matchB d.x q && decide (b.x.f3 < d.x.f3) then some d else some b
def best (q : S31) (l : List Nd) : Option Nd := l.foldl (pick q) none
theorem best_snoc (q : S31) (l : List Nd) (d : Nd) : best q (l ++ [d]) = pick q (best q l) d := by unfold best; rw [List.foldl_append]; rfl
theorem best_mem (q : S31) (l : List Nd) (b : Nd) (h : best q l = some b) : b ∈ l := by
  have : ∀ (l : List Nd) (o : Option Nd), l.foldl (pick q) o = some b → b ∈ l ∨ o = some b := by
    intro l
    induction l with
    | nil => intro o h; exact .inr h
    | cons d t ih =>
      intro o h
      rcases ih _ h with h | h
      · exact .inl (List.mem_cons_of_mem _ h)
      · cases o with
        | none =>
          simp only [pick] at h
          split at h
          · obtain rfl := Option.some.inj h; exact .inl (List.mem_cons_self ..)
          · cases h
        | some c =>
          simp only [pick] at h
          split at h
          · obtain rfl := Option.some.inj h; exact .inl (List.mem_cons_self ..)
          · exact .inr h
  rcases this l none h with h | h
  · exact h
  · cases h
def ptr : Option Nd → Option Addr
  | none => none
  | some b => some (at0 b.b)
abbrev Bq (q : S31) (A4 : Option Addr) (c4 : Nat) (A5 : Option Addr) (c5 : Nat) : Obj := .cells #[.string q.f0, .string q.f1, .string q.f2, .string q.f3, .slice A4 q.f4.length c4, .slice A5 q.f5.length c5] 31 (0, 0)
abbrev Z41 : Obj := .cells #[.string ⟨#[]⟩, .string ⟨#[]⟩, .string ⟨#[]⟩, .string ⟨#[]⟩, .slice none 0 0, .slice none 0 0, .int .i64 0, .slice none 0 0, .slice none 0 0, .int .i64 0, .int .i64 0] 41 (0, 0)
structure IGet (w : World) (q : S31) (bq : Obj) (pre : List Nd) (W : World) : Prop where
  below : Below w.heap.size w W
  b0 : W.heap[w.heap.size]? = some bq
  b1 : W.heap[w.heap.size + 1]? = some Z41
  b2 : W.heap[w.heap.size + 2]? = some (.cells #[.pointer (ptr (best q pre))] 54 (0, 0))
theorem IGet.grow {w : World} {q : S31} {bq : Obj} {pre : List Nd} {W W' : World} (h : IGet w q bq pre W) (hb : Below W.heap.size W W') : IGet w q bq pre W' :=
  ⟨below_step h.below hb, (hb.block _ (blk_lt' h.b0)).trans h.b0, (hb.block _ (blk_lt' h.b1)).trans h.b1, (hb.block _ (blk_lt' h.b2)).trans h.b2⟩
theorem StoreAt.cell10 {w : World} {g : Nat} {cap used : Int} {l : List Nd} (h : StoreAt w g cap used l) (d : Nd) (hd : d ∈ l) : w.cell? ⟨d.b, 10, none⟩ = some (.int .i64 d.x.f3) := by
  obtain ⟨_, _, e⟩ := h.mem d hd
  exact c_of e 10 rfl

set_option maxRecDepth 100000 in
set_option maxHeartbeats 8000000 in
theorem get_made2 (w : World) (g : Nat) (cap : Int) (xs : List Nd) (P : Nat → Prop) (q : S31) (A4 : Option Addr) (c4 : Nat) (A5 : Option Addr) (c5 : Nat) (h : StoreAt w g cap (zs xs) xs)
    (hx : ∀ d ∈ xs, Ex w P d.x d.r ∧ Fits d.x ∧ d.x.f0.f4.length < 1099511627776 ∧ wt d.x.f1.f1 < 268435456) (hP : ∀ k, P k → ¬ Mine g xs k) (hz : ∀ d ∈ xs, 0 ≤ d.z) (hzs : zs xs ≤ 65536)
    (hC : Kd.C k63 w A4 q.f4.length q.f4) (hc : q.f4.length ≤ c4) (hq : q.f4.length < 1099511627776) :
    Calls Tryd.prog 15 #[.pointer (some (at0 g)), .agg (Vq q A4 c4 A5 c5)] w fun e w' => Only (Mine g xs) w w' ∧
      ((best q xs = none ∧ e = .returned (.tuple #[.agg #[.string ⟨#[]⟩, .string ⟨#[]⟩, .string ⟨#[]⟩, .string ⟨#[]⟩, .slice none 0 0, .slice none 0 0, .int .i64 0, .slice none 0 0, .slice none 0 0, .int .i64 0, .int .i64 0], .bool false]) ∧ StoreAt w' g cap (zs xs) xs) ∨
       (∃ l1 d l2 r', xs = l1 ++ d :: l2 ∧ best q xs = some d ∧ e = .returned (.tuple #[.agg (Vx d.x r'), .bool true]) ∧ Ex w' (fun k => w.heap.size ≤ k ∧ Typed w' k) d.x r' ∧ StoreAt w' g cap (zs xs) (d :: (l1 ++ l2)))) := by
  have HX := Lib.hid hx
  have HS := Lib.hid h
  have HC := Lib.hid hC
  have hok := Lib.hid (fun W (hW : Below w.heap.size w W) => ok_made W g cap (zs xs) _ _ (h.below hW).head)
  have hnd : (xs.map Nd.b).Nodup := (List.nodup_cons.1 h.nd).2
  have hg3 := c_of h.head 3 (v := .pointer (first xs none)) rfl
  have hgl := blk_lt' h.head
  have hml : ∀ k, Mine g xs k → k < w.heap.size := fun k hk => mine_lt h hk
  clear h hx hC
  refine (callsIn_wide (n := 8)).1 ?_
  have hro : Fence.wide.round = none := rfl
  refine callsIn_of_wp_marks Tryd.func15 rfl trivial ?_ hro
  simp only [Tryd.ntmps15, List.size_toArray, List.length_cons, List.length_nil, Nat.reduceAdd, Nat.reduceSub, Array.replicate_succ, Array.replicate_zero, List.push_toArray, List.append_toArray, List.nil_append, List.cons_append]
  gi_wp2_with (first | (refine ⟨trivial, ?_⟩; gi_at_call 27; refine (callsIn_wide.2 (hok.out _ (by exact below_alloc (below_alloc (Below.refl _ _) _) _))).mono ?_; rintro e w' ⟨rfl, h_⟩; obtain rfl := h_.symm) | (refine ⟨trivial, ?_⟩; gi_at_call 28; refine (callsIn_wide.2 (links_calls _ _)).mono ?_; rintro e w' ⟨rfl, rfl⟩))
  obtain ⟨W0, hW0⟩ : ∃ W0, W0 = (((w.alloc (.cells (Vq q A4 c4 A5 c5) 31)).alloc Z41).alloc (.cells #[.pointer none] 54)).alloc (.cells #[.pointer (some (at0 g))] 23) := ⟨_, rfl⟩
  rw [← hW0]
  have hB0 : Below w.heap.size w W0 := by rw [hW0]; exact below_alloc (below_alloc (below_alloc (below_alloc (Below.refl _ _) _) _) _) _
  have hsz : W0.heap.size = w.heap.size + 4 := by rw [hW0]; simp
  have HI0 : Hid (IGet w q (Bq q A4 c4 A5 c5) [] W0) := Lib.hid (by
    refine ⟨hB0, ?_, ?_, ?_⟩
    · rw [hW0, heap_alloc_old _ _ _ (by simp <;> omega), heap_alloc_old _ _ _ (by simp <;> omega), heap_alloc_old _ _ _ (by simp <;> omega)]; exact heap_alloc_new w _
    · rw [hW0, heap_alloc_old _ _ _ (by simp <;> omega), heap_alloc_old _ _ _ (by simp <;> omega)]
      have := heap_alloc_new (w.alloc (.cells (Vq q A4 c4 A5 c5) 31)) Z41
      rwa [World.size_alloc] at this
    · rw [hW0, heap_alloc_old _ _ _ (by simp <;> omega)]
      have := heap_alloc_new ((w.alloc (.cells (Vq q A4 c4 A5 c5) 31)).alloc Z41) (.cells #[.pointer none] 54)
      rwa [World.size_alloc, World.size_alloc] at this)
  have hbx : W0.cell? ⟨w.heap.size + 1 + 1 + 1, 0, none⟩ = some (.pointer (some (at0 g))) := by
    have := heap_alloc_new (((w.alloc (.cells (Vq q A4 c4 A5 c5) 31)).alloc Z41).alloc (.cells #[.pointer none] 54)) (.cells #[.pointer (some (at0 g))] 23)
    rw [World.size_alloc, World.size_alloc, World.size_alloc] at this
    rw [hW0]
    exact c_of this 0 rfl
  have hg30 := pw_cell_below hB0 hg3
  clear hW0 hg3 hok
  refine range_links (n := 8) (h47 := trivial) (hro := hro) (hn := by omega) (hps := rfl) (w.heap.size + 1 + 1 + 1) g xs hnd rfl hbx hg30 (IGet w q (Bq q A4 c4 A5 c5))
    (fun o o' => HI0.out.grow (by exact below_alloc (below_alloc (Below.refl _ _) _) _)) ?put ?chain
    (fun d => { tmps := #[.pointer (some (at0 g)), .agg (Vq q A4 c4 A5 c5), undef, .pointer (some ⟨w.heap.size, 0, none⟩), .pointer (some ⟨w.heap.size + 1, 0, none⟩), .bool false, .pointer (some ⟨w.heap.size + 1 + 1, 0, none⟩), .pointer (some (at0 d.b)), .pointer (some (at0 g)), .bool true, .bool false, undef, .pointer (some (at0 g)), .func (.func 47) #[] #[.pointer (some (at0 (w.heap.size + 1 + 1 + 1)))], .pointer (some (at0 d.b)), undef, undef, undef, undef, undef, undef, undef, undef, undef, undef, undef, undef, undef, undef, undef, undef, undef, undef, undef, undef, undef, undef, undef, undef, undef, undef, undef, undef, undef, undef, undef, undef, undef, undef, undef, undef, undef, undef], defers := [] })
    ?assign ?body ?done
  case put =>
    intro pre W k o o' hi hk ho hc
    exact ⟨⟨hi.below.os, hi.below.tape, hi.below.output, by simpa using hi.below.size, fun i hi' => (World.putObj_heap_other (by omega)).trans (hi.below.block i hi')⟩, putObj_keeps hi.b0 ho hc, putObj_keeps hi.b1 ho hc, putObj_keeps hi.b2 ho hc⟩
  case chain =>
    intro pre d t W e hi
    have := (HS.out.below hi.below).seg
    rw [e, seg_append] at this
    exact c_of this.2.1 13 rfl
  case assign =>
    intro l d W K hK
    gi_wp2
    exact hK
  case body =>
    intro l pre d t W hxs hi
    have hdm : d ∈ xs := by rw [hxs]; simp
    have hst := (HS.out.below hi.below).mem d hdm
    obtain ⟨p', n', hlk⟩ := hst
    obtain ⟨l0, l1, l2, l3, l4, l5, l6, l7, l8, l9, l10⟩ := link_cells hlk
    have HI := Lib.hid hi
    have HD := Lib.hid (HX.out d hdm)
    have q0 := c_of hi.b0 0 (v := .string q.f0) rfl
    have q1 := c_of hi.b0 1 (v := .string q.f1) rfl
    have q2 := c_of hi.b0 2 (v := .string q.f2) rfl
    have q3 := c_of hi.b0 3 (v := .string q.f3) rfl
    have q4 := c_of hi.b0 4 (v := .slice A4 q.f4.length c4) rfl
    have q5 := c_of hi.b0 5 (v := .slice A5 q.f5.length c5) rfl
    have bc := c_of hi.b2 0 (v := .pointer (ptr (best q pre))) rfl
    have hbs := best_snoc q pre d
    have hbm : ∀ b, best q pre = some b → W.cell? ⟨b.b, 10, none⟩ = some (.int .i64 b.x.f3) := fun b hb => (HS.out.below hi.below).cell10 b (by rw [hxs]; exact List.mem_append.2 (.inl (best_mem q pre b hb)))
    have HM := Lib.hid (fun W' (hW : Below W.heap.size W W') => matches_calls W' P d.x d.r q A4 c4 A5 c5 (HD.out.1.below (below_step HI.out.below hW)) (Kd.C_below HC.out (below_step HI.out.below hW)) hc HD.out.2.2.1 hq HD.out.2.2.2)
    have HXS := Lib.hid hxs
    have hlt2 := blk_lt' hi.b2
    clear hi hxs hlk hg30 hbx
    obtain ⟨o, ho⟩ : ∃ o, o = best q pre := ⟨_, rfl⟩
    obtain ⟨m, hm⟩ : ∃ m, m = matchB d.x q := ⟨_, rfl⟩
    rw [← ho] at hbs bc hbm
    rw [← hm] at HM
    have HBS : Hid (best q (pre ++ [d]) = pick q o d) := Lib.hid hbs
    clear hbs
    have HOO := Lib.hid ho
    have HMM := Lib.hid hm
    clear ho hm
    rcases o with _ | b
    · simp only [ptr] at bc
      rcases m with _ | _
      · have HPK : Hid (pick q none d = none) := Lib.hid (by simp [pick, ← HMM.out])
        clear hbm
        gi_wp2
        have HCL : Hid (W.cell? ⟨d.b, 0, none⟩ = some (.string d.x.f0.f0) ∧ W.cell? ⟨d.b, 1, none⟩ = some (.string d.x.f0.f1) ∧ W.cell? ⟨d.b, 2, none⟩ = some (.string d.x.f0.f2) ∧ W.cell? ⟨d.b, 3, none⟩ = some (.string d.x.f0.f3) ∧ W.cell? ⟨d.b, 4, none⟩ = some (.slice d.r.A4 d.x.f0.f4.length d.r.c4) ∧ W.cell? ⟨d.b, 5, none⟩ = some (.slice d.r.A5 d.x.f0.f5.length d.r.c5) ∧ W.cell? ⟨d.b, 6, none⟩ = some (.int .i64 d.x.f1.f0) ∧ W.cell? ⟨d.b, 7, none⟩ = some (.slice d.r.A7 d.x.f1.f1.length d.r.c7) ∧ W.cell? ⟨d.b, 8, none⟩ = some (.slice d.r.A8 d.x.f1.f2.length d.r.c8) ∧ W.cell? ⟨d.b, 9, none⟩ = some (.int .i64 d.x.f2) ∧ W.cell? ⟨d.b, 10, none⟩ = some (.int .i64 d.x.f3) ∧ W.cell? ⟨w.heap.size, 0, none⟩ = some (.string q.f0) ∧ W.cell? ⟨w.heap.size, 1, none⟩ = some (.string q.f1) ∧ W.cell? ⟨w.heap.size, 2, none⟩ = some (.string q.f2) ∧ W.cell? ⟨w.heap.size, 3, none⟩ = some (.string q.f3) ∧ W.cell? ⟨w.heap.size, 4, none⟩ = some (.slice A4 q.f4.length c4) ∧ W.cell? ⟨w.heap.size, 5, none⟩ = some (.slice A5 q.f5.length c5) ∧ W.cell? ⟨w.heap.size + 1 + 1, 0, none⟩ = some (.pointer none)) := Lib.hid ⟨l0, l1, l2, l3, l4, l5, l6, l7, l8, l9, l10, q0, q1, q2, q3, q4, q5, bc⟩
        refine start_in (by kernel_rfl) (by rintro ⟨_, _, h⟩; exact h) (n := 23) (S := fun w' => w'.cell? ⟨d.b, 0, none⟩ = some (.string d.x.f0.f0) ∧ w'.cell? ⟨d.b, 1, none⟩ = some (.string d.x.f0.f1) ∧ w'.cell? ⟨d.b, 2, none⟩ = some (.string d.x.f0.f2) ∧ w'.cell? ⟨d.b, 3, none⟩ = some (.string d.x.f0.f3) ∧ w'.cell? ⟨d.b, 4, none⟩ = some (.slice d.r.A4 d.x.f0.f4.length d.r.c4) ∧ w'.cell? ⟨d.b, 5, none⟩ = some (.slice d.r.A5 d.x.f0.f5.length d.r.c5) ∧ w'.cell? ⟨d.b, 6, none⟩ = some (.int .i64 d.x.f1.f0) ∧ w'.cell? ⟨d.b, 7, none⟩ = some (.slice d.r.A7 d.x.f1.f1.length d.r.c7) ∧ w'.cell? ⟨d.b, 8, none⟩ = some (.slice d.r.A8 d.x.f1.f2.length d.r.c8) ∧ w'.cell? ⟨d.b, 9, none⟩ = some (.int .i64 d.x.f2) ∧ w'.cell? ⟨d.b, 10, none⟩ = some (.int .i64 d.x.f3) ∧ w'.cell? ⟨w.heap.size, 0, none⟩ = some (.string q.f0) ∧ w'.cell? ⟨w.heap.size, 1, none⟩ = some (.string q.f1) ∧ w'.cell? ⟨w.heap.size, 2, none⟩ = some (.string q.f2) ∧ w'.cell? ⟨w.heap.size, 3, none⟩ = some (.string q.f3) ∧ w'.cell? ⟨w.heap.size, 4, none⟩ = some (.slice A4 q.f4.length c4) ∧ w'.cell? ⟨w.heap.size, 5, none⟩ = some (.slice A5 q.f5.length c5) ∧ w'.cell? ⟨w.heap.size + 1 + 1, 0, none⟩ = some (.pointer none)) (ds := []) #[false, false, false, false, false, false, false, false, false, false, false, false, false, false, false, false, false, false, false, false, false, false, false] (by kernel_rfl) rfl rfl ⟨l0, l1, l2, l3, l4, l5, l6, l7, l8, l9, l10, q0, q1, q2, q3, q4, q5, bc⟩ (fun hHeld => ?_)
        refine pure_ (i := 0) (N := some 15) (v := ?_) (a' := ?_) #[true, false, false, false, false, false, false, false, false, false, false, false, false, false, false, false, false, false, false, false, false, false, false] rfl rfl (by kernel_rfl) (fun _ _ _ h => h) (Or.inl ⟨by rfl, ?_⟩) ?_ ?_
        rotate_left
        · intro w'
          go_simp
          with_reducible rfl
        rotate_left
        · simp only [Act.put, List.setIfInBounds_toArray, List.set_cons_zero, List.set_cons_succ, i64_w, i32_w]
          rfl
        refine pure_ (i := 1) (N := some 16) (v := ?_) (a' := ?_) #[true, true, false, false, false, false, false, false, false, false, false, false, false, false, false, false, false, false, false, false, false, false, false] rfl rfl (by kernel_rfl) (fun _ _ _ h => h) (Or.inl ⟨by rfl, ?_⟩) ?_ ?_
        rotate_left
        · intro w'
          go_simp
          with_reducible rfl
        rotate_left
        · simp only [Act.put, List.setIfInBounds_toArray, List.set_cons_zero, List.set_cons_succ, i64_w, i32_w]
          rfl
        refine pure_ (i := 2) (N := some 17) (v := ?_) (a' := ?_) #[true, true, true, false, false, false, false, false, false, false, false, false, false, false, false, false, false, false, false, false, false, false, false] rfl rfl (by kernel_rfl) (fun _ _ _ h => h) (Or.inl ⟨by rfl, ?_⟩) ?_ ?_
        rotate_left
        · intro w'
          go_simp
          with_reducible rfl
        rotate_left
        · simp only [Act.put, List.setIfInBounds_toArray, List.set_cons_zero, List.set_cons_succ, i64_w, i32_w]
          rfl
        refine take_ (i := 3) (N := some 18) (v := ?_) (a' := ?_) #[true, true, true, true, false, false, false, false, false, false, false, false, false, false, false, false, false, false, false, false, false, false, false] rfl rfl (by kernel_rfl) (fun _ _ _ h => h) (Or.inl ⟨by rfl, ?_⟩) hHeld ?_ ?_
        rotate_left
        · rintro w' ⟨s0, s1, s2, s3, s4, s5, s6, s7, s8, s9, s10, s11, s12, s13, s14, s15, s16, s17⟩
          go_simp
          with_reducible rfl
        rotate_left
        · simp only [Act.put, List.setIfInBounds_toArray, List.set_cons_zero, List.set_cons_succ, i64_w, i32_w]
          rfl
        refine take_ (i := 4) (N := some 19) (v := ?_) (a' := ?_) #[true, true, true, true, true, false, false, false, false, false, false, false, false, false, false, false, false, false, false, false, false, false, false] rfl rfl (by kernel_rfl) (fun _ _ _ h => h) (Or.inl ⟨by rfl, ?_⟩) hHeld ?_ ?_
        rotate_left
        · rintro w' ⟨s0, s1, s2, s3, s4, s5, s6, s7, s8, s9, s10, s11, s12, s13, s14, s15, s16, s17⟩
          go_simp
          with_reducible rfl
        rotate_left
        · simp only [Act.put, List.setIfInBounds_toArray, List.set_cons_zero, List.set_cons_succ, i64_w, i32_w]
          rfl
        refine one_ (i := 5) (N := some 20) #[true, true, true, true, true, true, false, false, false, false, false, false, false, false, false, false, false, false, false, false, false, false, false] rfl rfl (by kernel_rfl) (by decide) (fun K hK => ?_)
        refine goes_ Tryd.func31 (by kernel_rfl) rfl #[.agg (Vx d.x d.r), .agg (Vq q A4 c4 A5 c5)] (by rfl) rfl rfl (by simp only [List.map_toArray, List.map_cons, List.map_nil]; rfl) ?_
        with_reducible refine (HM.out _ (below_drew (Below.refl _ W))).mono ?_
        rintro e w3 ⟨rfl, hb3⟩
        refine ⟨_, rfl, ?_⟩
        refine hK.out _ _ ⟨pw_cell_below (below_step (below_drew (Below.refl _ W)) hb3) HCL.out.1, pw_cell_below (below_step (below_drew (Below.refl _ W)) hb3) HCL.out.2.1, pw_cell_below (below_step (below_drew (Below.refl _ W)) hb3) HCL.out.2.2.1, pw_cell_below (below_step (below_drew (Below.refl _ W)) hb3) HCL.out.2.2.2.1, pw_cell_below (below_step (below_drew (Below.refl _ W)) hb3) HCL.out.2.2.2.2.1, pw_cell_below (below_step (below_drew (Below.refl _ W)) hb3) HCL.out.2.2.2.2.2.1, pw_cell_below (below_step (below_drew (Below.refl _ W)) hb3) HCL.out.2.2.2.2.2.2.1, pw_cell_below (below_step (below_drew (Below.refl _ W)) hb3) HCL.out.2.2.2.2.2.2.2.1, pw_cell_below (below_step (below_drew (Below.refl _ W)) hb3) HCL.out.2.2.2.2.2.2.2.2.1, pw_cell_below (below_step (below_drew (Below.refl _ W)) hb3) HCL.out.2.2.2.2.2.2.2.2.2.1, pw_cell_below (below_step (below_drew (Below.refl _ W)) hb3) HCL.out.2.2.2.2.2.2.2.2.2.2.1, pw_cell_below (below_step (below_drew (Below.refl _ W)) hb3) HCL.out.2.2.2.2.2.2.2.2.2.2.2.1, pw_cell_below (below_step (below_drew (Below.refl _ W)) hb3) HCL.out.2.2.2.2.2.2.2.2.2.2.2.2.1, pw_cell_below (below_step (below_drew (Below.refl _ W)) hb3) HCL.out.2.2.2.2.2.2.2.2.2.2.2.2.2.1, pw_cell_below (below_step (below_drew (Below.refl _ W)) hb3) HCL.out.2.2.2.2.2.2.2.2.2.2.2.2.2.2.1, pw_cell_below (below_step (below_drew (Below.refl _ W)) hb3) HCL.out.2.2.2.2.2.2.2.2.2.2.2.2.2.2.2.1, pw_cell_below (below_step (below_drew (Below.refl _ W)) hb3) HCL.out.2.2.2.2.2.2.2.2.2.2.2.2.2.2.2.2.1, pw_cell_below (below_step (below_drew (Below.refl _ W)) hb3) HCL.out.2.2.2.2.2.2.2.2.2.2.2.2.2.2.2.2.2⟩ (fun hHeld => ?_)
        clear hK K
        refine norm_ (a' := ?_) ?_ ?_
        rotate_left
        · show Act.put _ (some 20) _ = _
          simp only [Act.put, List.setIfInBounds_toArray, List.set_cons_zero, List.set_cons_succ, i64_w, i32_w]
          rfl
        refine pure_ (i := 6) (N := some 21) (v := ?_) (a' := ?_) #[true, true, true, true, true, true, true, false, false, false, false, false, false, false, false, false, false, false, false, false, false, false, false] rfl rfl (by kernel_rfl) (fun _ _ _ h => h) (Or.inl ⟨by rfl, ?_⟩) ?_ ?_
        rotate_left
        · intro w'
          go_simp
          with_reducible rfl
        rotate_left
        · simp only [Act.put, List.setIfInBounds_toArray, List.set_cons_zero, List.set_cons_succ, i64_w, i32_w]
          rfl
        refine pure_ (i := 7) (N := some 22) (v := undef) (a' := ?_) #[true, true, true, true, true, true, true, true, false, false, false, false, false, false, false, false, false, false, false, false, false, false, false] rfl rfl (by kernel_rfl) (fun _ _ _ h => h) (Or.inr ⟨by rfl, rfl⟩) ?_ ?_
        rotate_left
        · simp only [Act.put, List.setIfInBounds_toArray, List.set_cons_zero, List.set_cons_succ, i64_w, i32_w]
          rfl
        refine pure_ (i := 8) (N := some 23) (v := undef) (a' := ?_) #[true, true, true, true, true, true, true, true, true, false, false, false, false, false, false, false, false, false, false, false, false, false, false] rfl rfl (by kernel_rfl) (fun _ _ _ h => h) (Or.inr ⟨by rfl, rfl⟩) ?_ ?_
        rotate_left
        · simp only [Act.put, List.setIfInBounds_toArray, List.set_cons_zero, List.set_cons_succ, i64_w, i32_w]
          rfl
        refine pure_ (i := 9) (N := some 24) (v := undef) (a' := ?_) #[true, true, true, true, true, true, true, true, true, true, false, false, false, false, false, false, false, false, false, false, false, false, false] rfl rfl (by kernel_rfl) (fun _ _ _ h => h) (Or.inr ⟨by rfl, rfl⟩) ?_ ?_
        rotate_left
        · simp only [Act.put, List.setIfInBounds_toArray, List.set_cons_zero, List.set_cons_succ, i64_w, i32_w]
          rfl
        refine pure_ (i := 10) (N := some 25) (v := undef) (a' := ?_) #[true, true, true, true, true, true, true, true, true, true, true, false, false, false, false, false, false, false, false, false, false, false, false] rfl rfl (by kernel_rfl) (fun _ _ _ h => h) (Or.inr ⟨by rfl, rfl⟩) ?_ ?_
        rotate_left
        · simp only [Act.put, List.setIfInBounds_toArray, List.set_cons_zero, List.set_cons_succ, i64_w, i32_w]
          rfl
        refine pure_ (i := 11) (N := some 26) (v := undef) (a' := ?_) #[true, true, true, true, true, true, true, true, true, true, true, true, false, false, false, false, false, false, false, false, false, false, false] rfl rfl (by kernel_rfl) (fun _ _ _ h => h) (Or.inr ⟨by rfl, rfl⟩) ?_ ?_
        rotate_left
        · simp only [Act.put, List.setIfInBounds_toArray, List.set_cons_zero, List.set_cons_succ, i64_w, i32_w]
          rfl
        refine pure_ (i := 12) (N := some 27) (v := undef) (a' := ?_) #[true, true, true, true, true, true, true, true, true, true, true, true, true, false, false, false, false, false, false, false, false, false, false] rfl rfl (by kernel_rfl) (fun _ _ _ h => h) (Or.inr ⟨by rfl, rfl⟩) ?_ ?_
        rotate_left
        · simp only [Act.put, List.setIfInBounds_toArray, List.set_cons_zero, List.set_cons_succ, i64_w, i32_w]
          rfl
        refine pure_ (i := 13) (N := some 28) (v := undef) (a' := ?_) #[true, true, true, true, true, true, true, true, true, true, true, true, true, true, false, false, false, false, false, false, false, false, false] rfl rfl (by kernel_rfl) (fun _ _ _ h => h) (Or.inr ⟨by rfl, rfl⟩) ?_ ?_
        rotate_left
        · simp only [Act.put, List.setIfInBounds_toArray, List.set_cons_zero, List.set_cons_succ, i64_w, i32_w]
          rfl
        refine pure_ (i := 14) (N := some 29) (v := undef) (a' := ?_) #[true, true, true, true, true, true, true, true, true, true, true, true, true, true, true, false, false, false, false, false, false, false, false] rfl rfl (by kernel_rfl) (fun _ _ _ h => h) (Or.inr ⟨by rfl, rfl⟩) ?_ ?_
        rotate_left
        · simp only [Act.put, List.setIfInBounds_toArray, List.set_cons_zero, List.set_cons_succ, i64_w, i32_w]
          rfl
        refine pure_ (i := 15) (N := some 30) (v := undef) (a' := ?_) #[true, true, true, true, true, true, true, true, true, true, true, true, true, true, true, true, false, false, false, false, false, false, false] rfl rfl (by kernel_rfl) (fun _ _ _ h => h) (Or.inr ⟨by rfl, rfl⟩) ?_ ?_
        rotate_left
        · simp only [Act.put, List.setIfInBounds_toArray, List.set_cons_zero, List.set_cons_succ, i64_w, i32_w]
          rfl
        refine pure_ (i := 16) (N := some 31) (v := undef) (a' := ?_) #[true, true, true, true, true, true, true, true, true, true, true, true, true, true, true, true, true, false, false, false, false, false, false] rfl rfl (by kernel_rfl) (fun _ _ _ h => h) (Or.inr ⟨by rfl, rfl⟩) ?_ ?_
        rotate_left
        · simp only [Act.put, List.setIfInBounds_toArray, List.set_cons_zero, List.set_cons_succ, i64_w, i32_w]
          rfl
        refine pure_ (i := 17) (N := some 32) (v := undef) (a' := ?_) #[true, true, true, true, true, true, true, true, true, true, true, true, true, true, true, true, true, true, false, false, false, false, false] rfl rfl (by kernel_rfl) (fun _ _ _ h => h) (Or.inr ⟨by rfl, rfl⟩) ?_ ?_
        rotate_left
        · simp only [Act.put, List.setIfInBounds_toArray, List.set_cons_zero, List.set_cons_succ, i64_w, i32_w]
          rfl
        refine pure_ (i := 18) (N := some 33) (v := undef) (a' := ?_) #[true, true, true, true, true, true, true, true, true, true, true, true, true, true, true, true, true, true, true, false, false, false, false] rfl rfl (by kernel_rfl) (fun _ _ _ h => h) (Or.inr ⟨by rfl, rfl⟩) ?_ ?_
        rotate_left
        · simp only [Act.put, List.setIfInBounds_toArray, List.set_cons_zero, List.set_cons_succ, i64_w, i32_w]
          rfl
        refine pure_ (i := 19) (N := some 34) (v := undef) (a' := ?_) #[true, true, true, true, true, true, true, true, true, true, true, true, true, true, true, true, true, true, true, true, false, false, false] rfl rfl (by kernel_rfl) (fun _ _ _ h => h) (Or.inr ⟨by rfl, rfl⟩) ?_ ?_
        rotate_left
        · simp only [Act.put, List.setIfInBounds_toArray, List.set_cons_zero, List.set_cons_succ, i64_w, i32_w]
          rfl
        refine pure_ (i := 20) (N := some 35) (v := undef) (a' := ?_) #[true, true, true, true, true, true, true, true, true, true, true, true, true, true, true, true, true, true, true, true, true, false, false] rfl rfl (by kernel_rfl) (fun _ _ _ h => h) (Or.inr ⟨by rfl, rfl⟩) ?_ ?_
        rotate_left
        · simp only [Act.put, List.setIfInBounds_toArray, List.set_cons_zero, List.set_cons_succ, i64_w, i32_w]
          rfl
        refine pure_ (i := 21) (N := some 36) (v := undef) (a' := ?_) #[true, true, true, true, true, true, true, true, true, true, true, true, true, true, true, true, true, true, true, true, true, true, false] rfl rfl (by kernel_rfl) (fun _ _ _ h => h) (Or.inr ⟨by rfl, rfl⟩) ?_ ?_
        rotate_left
        · simp only [Act.put, List.setIfInBounds_toArray, List.set_cons_zero, List.set_cons_succ, i64_w, i32_w]
          rfl
        refine pure_ (i := 22) (N := some 37) (v := ?_) (a' := ?_) #[true, true, true, true, true, true, true, true, true, true, true, true, true, true, true, true, true, true, true, true, true, true, true] rfl rfl (by kernel_rfl) (fun _ _ _ h => h) (Or.inl ⟨by rfl, ?_⟩) ?_ ?_
        rotate_left
        · intro w'
          go_simp
          with_reducible rfl
        rotate_left
        · simp only [Act.put, List.setIfInBounds_toArray, List.set_cons_zero, List.set_cons_succ, i64_w, i32_w]
          rfl
        refine done_ (by kernel_rfl) ?_
        have HB3 := Lib.hid (below_step (below_drew (Below.refl _ W)) hb3)
        clear hHeld hb3
        clear l0 l1 l2 l3 l4 l5 l6 l7 l8 l9 l10 q0 q1 q2 q3 q4 q5 bc
        gi_wp2
        have hfin : KeepsFrom W0.heap.size W w3 ∧ IGet w q (Bq q A4 c4 A5 c5) (pre ++ [d]) w3 := by
          have hg3 := HI.out.grow HB3.out
          refine ⟨keepsFrom_below _ HB3.out, hg3.below, hg3.b0, hg3.b1, ?_⟩
          rw [HBS.out, show pick q none d = none from HPK.out]
          have := hg3.b2
          rw [← HOO.out] at this
          exact this
        exact hfin
      · have HPK : Hid (pick q none d = some d) := Lib.hid (by simp [pick, ← HMM.out])
        clear hbm
        gi_wp2
        have HCL : Hid (W.cell? ⟨d.b, 0, none⟩ = some (.string d.x.f0.f0) ∧ W.cell? ⟨d.b, 1, none⟩ = some (.string d.x.f0.f1) ∧ W.cell? ⟨d.b, 2, none⟩ = some (.string d.x.f0.f2) ∧ W.cell? ⟨d.b, 3, none⟩ = some (.string d.x.f0.f3) ∧ W.cell? ⟨d.b, 4, none⟩ = some (.slice d.r.A4 d.x.f0.f4.length d.r.c4) ∧ W.cell? ⟨d.b, 5, none⟩ = some (.slice d.r.A5 d.x.f0.f5.length d.r.c5) ∧ W.cell? ⟨d.b, 6, none⟩ = some (.int .i64 d.x.f1.f0) ∧ W.cell? ⟨d.b, 7, none⟩ = some (.slice d.r.A7 d.x.f1.f1.length d.r.c7) ∧ W.cell? ⟨d.b, 8, none⟩ = some (.slice d.r.A8 d.x.f1.f2.length d.r.c8) ∧ W.cell? ⟨d.b, 9, none⟩ = some (.int .i64 d.x.f2) ∧ W.cell? ⟨d.b, 10, none⟩ = some (.int .i64 d.x.f3) ∧ W.cell? ⟨w.heap.size, 0, none⟩ = some (.string q.f0) ∧ W.cell? ⟨w.heap.size, 1, none⟩ = some (.string q.f1) ∧ W.cell? ⟨w.heap.size, 2, none⟩ = some (.string q.f2) ∧ W.cell? ⟨w.heap.size, 3, none⟩ = some (.string q.f3) ∧ W.cell? ⟨w.heap.size, 4, none⟩ = some (.slice A4 q.f4.length c4) ∧ W.cell? ⟨w.heap.size, 5, none⟩ = some (.slice A5 q.f5.length c5) ∧ W.cell? ⟨w.heap.size + 1 + 1, 0, none⟩ = some (.pointer none)) := Lib.hid ⟨l0, l1, l2, l3, l4, l5, l6, l7, l8, l9, l10, q0, q1, q2, q3, q4, q5, bc⟩
        refine start_in (by kernel_rfl) (by rintro ⟨_, _, h⟩; exact h) (n := 23) (S := fun w' => w'.cell? ⟨d.b, 0, none⟩ = some (.string d.x.f0.f0) ∧ w'.cell? ⟨d.b, 1, none⟩ = some (.string d.x.f0.f1) ∧ w'.cell? ⟨d.b, 2, none⟩ = some (.string d.x.f0.f2) ∧ w'.cell? ⟨d.b, 3, none⟩ = some (.string d.x.f0.f3) ∧ w'.cell? ⟨d.b, 4, none⟩ = some (.slice d.r.A4 d.x.f0.f4.length d.r.c4) ∧ w'.cell? ⟨d.b, 5, none⟩ = some (.slice d.r.A5 d.x.f0.f5.length d.r.c5) ∧ w'.cell? ⟨d.b, 6, none⟩ = some (.int .i64 d.x.f1.f0) ∧ w'.cell? ⟨d.b, 7, none⟩ = some (.slice d.r.A7 d.x.f1.f1.length d.r.c7) ∧ w'.cell? ⟨d.b, 8, none⟩ = some (.slice d.r.A8 d.x.f1.f2.length d.r.c8) ∧ w'.cell? ⟨d.b, 9, none⟩ = some (.int .i64 d.x.f2) ∧ w'.cell? ⟨d.b, 10, none⟩ = some (.int .i64 d.x.f3) ∧ w'.cell? ⟨w.heap.size, 0, none⟩ = some (.string q.f0) ∧ w'.cell? ⟨w.heap.size, 1, none⟩ = some (.string q.f1) ∧ w'.cell? ⟨w.heap.size, 2, none⟩ = some (.string q.f2) ∧ w'.cell? ⟨w.heap.size, 3, none⟩ = some (.string q.f3) ∧ w'.cell? ⟨w.heap.size, 4, none⟩ = some (.slice A4 q.f4.length c4) ∧ w'.cell? ⟨w.heap.size, 5, none⟩ = some (.slice A5 q.f5.length c5) ∧ w'.cell? ⟨w.heap.size + 1 + 1, 0, none⟩ = some (.pointer none)) (ds := []) #[false, false, false, false, false, false, false, false, false, false, false, false, false, false, false, false, false, false, false, false, false, false, false] (by kernel_rfl) rfl rfl ⟨l0, l1, l2, l3, l4, l5, l6, l7, l8, l9, l10, q0, q1, q2, q3, q4, q5, bc⟩ (fun hHeld => ?_)
        refine pure_ (i := 0) (N := some 15) (v := ?_) (a' := ?_) #[true, false, false, false, false, false, false, false, false, false, false, false, false, false, false, false, false, false, false, false, false, false, false] rfl rfl (by kernel_rfl) (fun _ _ _ h => h) (Or.inl ⟨by rfl, ?_⟩) ?_ ?_
        rotate_left
        · intro w'
          go_simp
          with_reducible rfl
        rotate_left
        · simp only [Act.put, List.setIfInBounds_toArray, List.set_cons_zero, List.set_cons_succ, i64_w, i32_w]
          rfl
        refine pure_ (i := 1) (N := some 16) (v := ?_) (a' := ?_) #[true, true, false, false, false, false, false, false, false, false, false, false, false, false, false, false, false, false, false, false, false, false, false] rfl rfl (by kernel_rfl) (fun _ _ _ h => h) (Or.inl ⟨by rfl, ?_⟩) ?_ ?_
        rotate_left
        · intro w'
          go_simp
          with_reducible rfl
        rotate_left
        · simp only [Act.put, List.setIfInBounds_toArray, List.set_cons_zero, List.set_cons_succ, i64_w, i32_w]
          rfl
        refine pure_ (i := 2) (N := some 17) (v := ?_) (a' := ?_) #[true, true, true, false, false, false, false, false, false, false, false, false, false, false, false, false, false, false, false, false, false, false, false] rfl rfl (by kernel_rfl) (fun _ _ _ h => h) (Or.inl ⟨by rfl, ?_⟩) ?_ ?_
        rotate_left
        · intro w'
          go_simp
          with_reducible rfl
        rotate_left
        · simp only [Act.put, List.setIfInBounds_toArray, List.set_cons_zero, List.set_cons_succ, i64_w, i32_w]
          rfl
        refine take_ (i := 3) (N := some 18) (v := ?_) (a' := ?_) #[true, true, true, true, false, false, false, false, false, false, false, false, false, false, false, false, false, false, false, false, false, false, false] rfl rfl (by kernel_rfl) (fun _ _ _ h => h) (Or.inl ⟨by rfl, ?_⟩) hHeld ?_ ?_
        rotate_left
        · rintro w' ⟨s0, s1, s2, s3, s4, s5, s6, s7, s8, s9, s10, s11, s12, s13, s14, s15, s16, s17⟩
          go_simp
          with_reducible rfl
        rotate_left
        · simp only [Act.put, List.setIfInBounds_toArray, List.set_cons_zero, List.set_cons_succ, i64_w, i32_w]
          rfl
        refine take_ (i := 4) (N := some 19) (v := ?_) (a' := ?_) #[true, true, true, true, true, false, false, false, false, false, false, false, false, false, false, false, false, false, false, false, false, false, false] rfl rfl (by kernel_rfl) (fun _ _ _ h => h) (Or.inl ⟨by rfl, ?_⟩) hHeld ?_ ?_
        rotate_left
        · rintro w' ⟨s0, s1, s2, s3, s4, s5, s6, s7, s8, s9, s10, s11, s12, s13, s14, s15, s16, s17⟩
          go_simp
          with_reducible rfl
        rotate_left
        · simp only [Act.put, List.setIfInBounds_toArray, List.set_cons_zero, List.set_cons_succ, i64_w, i32_w]
          rfl
        refine one_ (i := 5) (N := some 20) #[true, true, true, true, true, true, false, false, false, false, false, false, false, false, false, false, false, false, false, false, false, false, false] rfl rfl (by kernel_rfl) (by decide) (fun K hK => ?_)
        refine goes_ Tryd.func31 (by kernel_rfl) rfl #[.agg (Vx d.x d.r), .agg (Vq q A4 c4 A5 c5)] (by rfl) rfl rfl (by simp only [List.map_toArray, List.map_cons, List.map_nil]; rfl) ?_
        with_reducible refine (HM.out _ (below_drew (Below.refl _ W))).mono ?_
        rintro e w3 ⟨rfl, hb3⟩
        refine ⟨_, rfl, ?_⟩
        refine hK.out _ _ ⟨pw_cell_below (below_step (below_drew (Below.refl _ W)) hb3) HCL.out.1, pw_cell_below (below_step (below_drew (Below.refl _ W)) hb3) HCL.out.2.1, pw_cell_below (below_step (below_drew (Below.refl _ W)) hb3) HCL.out.2.2.1, pw_cell_below (below_step (below_drew (Below.refl _ W)) hb3) HCL.out.2.2.2.1, pw_cell_below (below_step (below_drew (Below.refl _ W)) hb3) HCL.out.2.2.2.2.1, pw_cell_below (below_step (below_drew (Below.refl _ W)) hb3) HCL.out.2.2.2.2.2.1, pw_cell_below (below_step (below_drew (Below.refl _ W)) hb3) HCL.out.2.2.2.2.2.2.1, pw_cell_below (below_step (below_drew (Below.refl _ W)) hb3) HCL.out.2.2.2.2.2.2.2.1, pw_cell_below (below_step (below_drew (Below.refl _ W)) hb3) HCL.out.2.2.2.2.2.2.2.2.1, pw_cell_below (below_step (below_drew (Below.refl _ W)) hb3) HCL.out.2.2.2.2.2.2.2.2.2.1, pw_cell_below (below_step (below_drew (Below.refl _ W)) hb3) HCL.out.2.2.2.2.2.2.2.2.2.2.1, pw_cell_below (below_step (below_drew (Below.refl _ W)) hb3) HCL.out.2.2.2.2.2.2.2.2.2.2.2.1, pw_cell_below (below_step (below_drew (Below.refl _ W)) hb3) HCL.out.2.2.2.2.2.2.2.2.2.2.2.2.1, pw_cell_below (below_step (below_drew (Below.refl _ W)) hb3) HCL.out.2.2.2.2.2.2.2.2.2.2.2.2.2.1, pw_cell_below (below_step (below_drew (Below.refl _ W)) hb3) HCL.out.2.2.2.2.2.2.2.2.2.2.2.2.2.2.1, pw_cell_below (below_step (below_drew (Below.refl _ W)) hb3) HCL.out.2.2.2.2.2.2.2.2.2.2.2.2.2.2.2.1, pw_cell_below (below_step (below_drew (Below.refl _ W)) hb3) HCL.out.2.2.2.2.2.2.2.2.2.2.2.2.2.2.2.2.1, pw_cell_below (below_step (below_drew (Below.refl _ W)) hb3) HCL.out.2.2.2.2.2.2.2.2.2.2.2.2.2.2.2.2.2⟩ (fun hHeld => ?_)
        clear hK K
        refine norm_ (a' := ?_) ?_ ?_
        rotate_left
        · show Act.put _ (some 20) _ = _
          simp only [Act.put, List.setIfInBounds_toArray, List.set_cons_zero, List.set_cons_succ, i64_w, i32_w]
          rfl
        refine pure_ (i := 6) (N := some 21) (v := ?_) (a' := ?_) #[true, true, true, true, true, true, true, false, false, false, false, false, false, false, false, false, false, false, false, false, false, false, false] rfl rfl (by kernel_rfl) (fun _ _ _ h => h) (Or.inl ⟨by rfl, ?_⟩) ?_ ?_
        rotate_left
        · intro w'
          go_simp
          with_reducible rfl
        rotate_left
        · simp only [Act.put, List.setIfInBounds_toArray, List.set_cons_zero, List.set_cons_succ, i64_w, i32_w]
          rfl
        refine take_ (i := 7) (N := some 22) (v := ?_) (a' := ?_) #[true, true, true, true, true, true, true, true, false, false, false, false, false, false, false, false, false, false, false, false, false, false, false] rfl rfl (by kernel_rfl) (fun _ _ _ h => h) (Or.inl ⟨by rfl, ?_⟩) hHeld ?_ ?_
        rotate_left
        · rintro w' ⟨s0, s1, s2, s3, s4, s5, s6, s7, s8, s9, s10, s11, s12, s13, s14, s15, s16, s17⟩
          go_simp
          with_reducible rfl
        rotate_left
        · simp only [Act.put, List.setIfInBounds_toArray, List.set_cons_zero, List.set_cons_succ, i64_w, i32_w]
          rfl
        refine pure_ (i := 8) (N := some 23) (v := ?_) (a' := ?_) #[true, true, true, true, true, true, true, true, true, false, false, false, false, false, false, false, false, false, false, false, false, false, false] rfl rfl (by kernel_rfl) (fun _ _ _ h => h) (Or.inl ⟨by rfl, ?_⟩) ?_ ?_
        rotate_left
        · intro w'
          go_simp
          with_reducible rfl
        rotate_left
        · simp only [Act.put, List.setIfInBounds_toArray, List.set_cons_zero, List.set_cons_succ, i64_w, i32_w]
          rfl
        refine pure_ (i := 9) (N := some 24) (v := ?_) (a' := ?_) #[true, true, true, true, true, true, true, true, true, true, false, false, false, false, false, false, false, false, false, false, false, false, false] rfl rfl (by kernel_rfl) (fun _ _ _ h => h) (Or.inl ⟨by rfl, ?_⟩) ?_ ?_
        rotate_left
        · intro w'
          go_simp
          with_reducible rfl
        rotate_left
        · simp only [Act.put, List.setIfInBounds_toArray, List.set_cons_zero, List.set_cons_succ, i64_w, i32_w]
          rfl
        refine pure_ (i := 10) (N := some 25) (v := undef) (a' := ?_) #[true, true, true, true, true, true, true, true, true, true, true, false, false, false, false, false, false, false, false, false, false, false, false] rfl rfl (by kernel_rfl) (fun _ _ _ h => h) (Or.inr ⟨by rfl, rfl⟩) ?_ ?_
        rotate_left
        · simp only [Act.put, List.setIfInBounds_toArray, List.set_cons_zero, List.set_cons_succ, i64_w, i32_w]
          rfl
        refine pure_ (i := 11) (N := some 26) (v := undef) (a' := ?_) #[true, true, true, true, true, true, true, true, true, true, true, true, false, false, false, false, false, false, false, false, false, false, false] rfl rfl (by kernel_rfl) (fun _ _ _ h => h) (Or.inr ⟨by rfl, rfl⟩) ?_ ?_
        rotate_left
        · simp only [Act.put, List.setIfInBounds_toArray, List.set_cons_zero, List.set_cons_succ, i64_w, i32_w]
          rfl
        refine pure_ (i := 12) (N := some 27) (v := undef) (a' := ?_) #[true, true, true, true, true, true, true, true, true, true, true, true, true, false, false, false, false, false, false, false, false, false, false] rfl rfl (by kernel_rfl) (fun _ _ _ h => h) (Or.inr ⟨by rfl, rfl⟩) ?_ ?_
        rotate_left
        · simp only [Act.put, List.setIfInBounds_toArray, List.set_cons_zero, List.set_cons_succ, i64_w, i32_w]
          rfl
        refine pure_ (i := 13) (N := some 28) (v := undef) (a' := ?_) #[true, true, true, true, true, true, true, true, true, true, true, true, true, true, false, false, false, false, false, false, false, false, false] rfl rfl (by kernel_rfl) (fun _ _ _ h => h) (Or.inr ⟨by rfl, rfl⟩) ?_ ?_
        rotate_left
        · simp only [Act.put, List.setIfInBounds_toArray, List.set_cons_zero, List.set_cons_succ, i64_w, i32_w]
          rfl
        refine pure_ (i := 14) (N := some 29) (v := undef) (a' := ?_) #[true, true, true, true, true, true, true, true, true, true, true, true, true, true, true, false, false, false, false, false, false, false, false] rfl rfl (by kernel_rfl) (fun _ _ _ h => h) (Or.inr ⟨by rfl, rfl⟩) ?_ ?_
        rotate_left
        · simp only [Act.put, List.setIfInBounds_toArray, List.set_cons_zero, List.set_cons_succ, i64_w, i32_w]
          rfl
        refine pure_ (i := 15) (N := some 30) (v := undef) (a' := ?_) #[true, true, true, true, true, true, true, true, true, true, true, true, true, true, true, true, false, false, false, false, false, false, false] rfl rfl (by kernel_rfl) (fun _ _ _ h => h) (Or.inr ⟨by rfl, rfl⟩) ?_ ?_
        rotate_left
        · simp only [Act.put, List.setIfInBounds_toArray, List.set_cons_zero, List.set_cons_succ, i64_w, i32_w]
          rfl
        refine pure_ (i := 16) (N := some 31) (v := undef) (a' := ?_) #[true, true, true, true, true, true, true, true, true, true, true, true, true, true, true, true, true, false, false, false, false, false, false] rfl rfl (by kernel_rfl) (fun _ _ _ h => h) (Or.inr ⟨by rfl, rfl⟩) ?_ ?_
        rotate_left
        · simp only [Act.put, List.setIfInBounds_toArray, List.set_cons_zero, List.set_cons_succ, i64_w, i32_w]
          rfl
        refine pure_ (i := 17) (N := some 32) (v := undef) (a' := ?_) #[true, true, true, true, true, true, true, true, true, true, true, true, true, true, true, true, true, true, false, false, false, false, false] rfl rfl (by kernel_rfl) (fun _ _ _ h => h) (Or.inr ⟨by rfl, rfl⟩) ?_ ?_
        rotate_left
        · simp only [Act.put, List.setIfInBounds_toArray, List.set_cons_zero, List.set_cons_succ, i64_w, i32_w]
          rfl
        refine pure_ (i := 18) (N := some 33) (v := undef) (a' := ?_) #[true, true, true, true, true, true, true, true, true, true, true, true, true, true, true, true, true, true, true, false, false, false, false] rfl rfl (by kernel_rfl) (fun _ _ _ h => h) (Or.inr ⟨by rfl, rfl⟩) ?_ ?_
        rotate_left
        · simp only [Act.put, List.setIfInBounds_toArray, List.set_cons_zero, List.set_cons_succ, i64_w, i32_w]
          rfl
        refine pure_ (i := 19) (N := some 34) (v := undef) (a' := ?_) #[true, true, true, true, true, true, true, true, true, true, true, true, true, true, true, true, true, true, true, true, false, false, false] rfl rfl (by kernel_rfl) (fun _ _ _ h => h) (Or.inr ⟨by rfl, rfl⟩) ?_ ?_
        rotate_left
        · simp only [Act.put, List.setIfInBounds_toArray, List.set_cons_zero, List.set_cons_succ, i64_w, i32_w]
          rfl
        refine pure_ (i := 20) (N := some 35) (v := undef) (a' := ?_) #[true, true, true, true, true, true, true, true, true, true, true, true, true, true, true, true, true, true, true, true, true, false, false] rfl rfl (by kernel_rfl) (fun _ _ _ h => h) (Or.inr ⟨by rfl, rfl⟩) ?_ ?_
        rotate_left
        · simp only [Act.put, List.setIfInBounds_toArray, List.set_cons_zero, List.set_cons_succ, i64_w, i32_w]
          rfl
        refine pure_ (i := 21) (N := some 36) (v := ?_) (a' := ?_) #[true, true, true, true, true, true, true, true, true, true, true, true, true, true, true, true, true, true, true, true, true, true, false] rfl rfl (by kernel_rfl) (fun _ _ _ h => h) (Or.inl ⟨by rfl, ?_⟩) ?_ ?_
        rotate_left
        · intro w'
          go_simp
          with_reducible rfl
        rotate_left
        · simp only [Act.put, List.setIfInBounds_toArray, List.set_cons_zero, List.set_cons_succ, i64_w, i32_w]
          rfl
        refine pure_ (i := 22) (N := some 37) (v := ?_) (a' := ?_) #[true, true, true, true, true, true, true, true, true, true, true, true, true, true, true, true, true, true, true, true, true, true, true] rfl rfl (by kernel_rfl) (fun _ _ _ h => h) (Or.inl ⟨by rfl, ?_⟩) ?_ ?_
        rotate_left
        · intro w'
          go_simp
          with_reducible rfl
        rotate_left
        · simp only [Act.put, List.setIfInBounds_toArray, List.set_cons_zero, List.set_cons_succ, i64_w, i32_w]
          rfl
        refine done_ (by kernel_rfl) ?_
        have HB3 := Lib.hid (below_step (below_drew (Below.refl _ W)) hb3)
        clear hHeld hb3
        clear l0 l1 l2 l3 l4 l5 l6 l7 l8 l9 l10 q0 q1 q2 q3 q4 q5 bc
        have n3 := (HB3.out.block _ hlt2).trans HI.out.b2
        have c3 := c_of n3 0 (v := .pointer (ptr (best q pre))) rfl
        have f3 := fr_of n3 0
        have HN3 := Lib.hid n3
        clear n3
        gi_wp2
        have hfin : KeepsFrom W0.heap.size W (w3.setCell ⟨w.heap.size + 1 + 1, 0, none⟩ (.pointer (some (at0 d.b)))) ∧ IGet w q (Bq q A4 c4 A5 c5) (pre ++ [d]) (w3.setCell ⟨w.heap.size + 1 + 1, 0, none⟩ (.pointer (some (at0 d.b)))) := by
          have hg3 := HI.out.grow HB3.out
          refine ⟨(keepsFrom_below _ HB3.out).trans ((KeepsOthers.setCell _ _ _).from _), hg3.below.setCell (p := ⟨w.heap.size + 1 + 1, 0, none⟩) (by simp <;> omega) _, set_other hg3.b0 (by omega), set_other hg3.b1 (by omega), ?_⟩
          rw [HBS.out, show pick q none d = some d from HPK.out]
          exact set_same hg3.b2 rfl
        exact hfin
    · have hb10 := hbm b rfl
      simp only [ptr] at bc
      clear hbm
      rcases m with _ | _
      · have HPK : Hid (pick q (some b) d = some b) := Lib.hid (by simp [pick, ← HMM.out])
        gi_wp2
        have HCL : Hid (W.cell? ⟨d.b, 0, none⟩ = some (.string d.x.f0.f0) ∧ W.cell? ⟨d.b, 1, none⟩ = some (.string d.x.f0.f1) ∧ W.cell? ⟨d.b, 2, none⟩ = some (.string d.x.f0.f2) ∧ W.cell? ⟨d.b, 3, none⟩ = some (.string d.x.f0.f3) ∧ W.cell? ⟨d.b, 4, none⟩ = some (.slice d.r.A4 d.x.f0.f4.length d.r.c4) ∧ W.cell? ⟨d.b, 5, none⟩ = some (.slice d.r.A5 d.x.f0.f5.length d.r.c5) ∧ W.cell? ⟨d.b, 6, none⟩ = some (.int .i64 d.x.f1.f0) ∧ W.cell? ⟨d.b, 7, none⟩ = some (.slice d.r.A7 d.x.f1.f1.length d.r.c7) ∧ W.cell? ⟨d.b, 8, none⟩ = some (.slice d.r.A8 d.x.f1.f2.length d.r.c8) ∧ W.cell? ⟨d.b, 9, none⟩ = some (.int .i64 d.x.f2) ∧ W.cell? ⟨d.b, 10, none⟩ = some (.int .i64 d.x.f3) ∧ W.cell? ⟨w.heap.size, 0, none⟩ = some (.string q.f0) ∧ W.cell? ⟨w.heap.size, 1, none⟩ = some (.string q.f1) ∧ W.cell? ⟨w.heap.size, 2, none⟩ = some (.string q.f2) ∧ W.cell? ⟨w.heap.size, 3, none⟩ = some (.string q.f3) ∧ W.cell? ⟨w.heap.size, 4, none⟩ = some (.slice A4 q.f4.length c4) ∧ W.cell? ⟨w.heap.size, 5, none⟩ = some (.slice A5 q.f5.length c5) ∧ W.cell? ⟨w.heap.size + 1 + 1, 0, none⟩ = some (.pointer (some (at0 b.b))) ∧ W.cell? ⟨b.b, 10, none⟩ = some (.int .i64 b.x.f3)) := Lib.hid ⟨l0, l1, l2, l3, l4, l5, l6, l7, l8, l9, l10, q0, q1, q2, q3, q4, q5, bc, hb10⟩
        refine start_in (by kernel_rfl) (by rintro ⟨_, _, h⟩; exact h) (n := 23) (S := fun w' => w'.cell? ⟨d.b, 0, none⟩ = some (.string d.x.f0.f0) ∧ w'.cell? ⟨d.b, 1, none⟩ = some (.string d.x.f0.f1) ∧ w'.cell? ⟨d.b, 2, none⟩ = some (.string d.x.f0.f2) ∧ w'.cell? ⟨d.b, 3, none⟩ = some (.string d.x.f0.f3) ∧ w'.cell? ⟨d.b, 4, none⟩ = some (.slice d.r.A4 d.x.f0.f4.length d.r.c4) ∧ w'.cell? ⟨d.b, 5, none⟩ = some (.slice d.r.A5 d.x.f0.f5.length d.r.c5) ∧ w'.cell? ⟨d.b, 6, none⟩ = some (.int .i64 d.x.f1.f0) ∧ w'.cell? ⟨d.b, 7, none⟩ = some (.slice d.r.A7 d.x.f1.f1.length d.r.c7) ∧ w'.cell? ⟨d.b, 8, none⟩ = some (.slice d.r.A8 d.x.f1.f2.length d.r.c8) ∧ w'.cell? ⟨d.b, 9, none⟩ = some (.int .i64 d.x.f2) ∧ w'.cell? ⟨d.b, 10, none⟩ = some (.int .i64 d.x.f3) ∧ w'.cell? ⟨w.heap.size, 0, none⟩ = some (.string q.f0) ∧ w'.cell? ⟨w.heap.size, 1, none⟩ = some (.string q.f1) ∧ w'.cell? ⟨w.heap.size, 2, none⟩ = some (.string q.f2) ∧ w'.cell? ⟨w.heap.size, 3, none⟩ = some (.string q.f3) ∧ w'.cell? ⟨w.heap.size, 4, none⟩ = some (.slice A4 q.f4.length c4) ∧ w'.cell? ⟨w.heap.size, 5, none⟩ = some (.slice A5 q.f5.length c5) ∧ w'.cell? ⟨w.heap.size + 1 + 1, 0, none⟩ = some (.pointer (some (at0 b.b))) ∧ w'.cell? ⟨b.b, 10, none⟩ = some (.int .i64 b.x.f3)) (ds := []) #[false, false, false, false, false, false, false, false, false, false, false, false, false, false, false, false, false, false, false, false, false, false, false] (by kernel_rfl) rfl rfl ⟨l0, l1, l2, l3, l4, l5, l6, l7, l8, l9, l10, q0, q1, q2, q3, q4, q5, bc, hb10⟩ (fun hHeld => ?_)
        refine pure_ (i := 0) (N := some 15) (v := ?_) (a' := ?_) #[true, false, false, false, false, false, false, false, false, false, false, false, false, false, false, false, false, false, false, false, false, false, false] rfl rfl (by kernel_rfl) (fun _ _ _ h => h) (Or.inl ⟨by rfl, ?_⟩) ?_ ?_
        rotate_left
        · intro w'
          go_simp
          with_reducible rfl
        rotate_left
        · simp only [Act.put, List.setIfInBounds_toArray, List.set_cons_zero, List.set_cons_succ, i64_w, i32_w]
          rfl
        refine pure_ (i := 1) (N := some 16) (v := ?_) (a' := ?_) #[true, true, false, false, false, false, false, false, false, false, false, false, false, false, false, false, false, false, false, false, false, false, false] rfl rfl (by kernel_rfl) (fun _ _ _ h => h) (Or.inl ⟨by rfl, ?_⟩) ?_ ?_
        rotate_left
        · intro w'
          go_simp
          with_reducible rfl
        rotate_left
        · simp only [Act.put, List.setIfInBounds_toArray, List.set_cons_zero, List.set_cons_succ, i64_w, i32_w]
          rfl
        refine pure_ (i := 2) (N := some 17) (v := ?_) (a' := ?_) #[true, true, true, false, false, false, false, false, false, false, false, false, false, false, false, false, false, false, false, false, false, false, false] rfl rfl (by kernel_rfl) (fun _ _ _ h => h) (Or.inl ⟨by rfl, ?_⟩) ?_ ?_
        rotate_left
        · intro w'
          go_simp
          with_reducible rfl
        rotate_left
        · simp only [Act.put, List.setIfInBounds_toArray, List.set_cons_zero, List.set_cons_succ, i64_w, i32_w]
          rfl
        refine take_ (i := 3) (N := some 18) (v := ?_) (a' := ?_) #[true, true, true, true, false, false, false, false, false, false, false, false, false, false, false, false, false, false, false, false, false, false, false] rfl rfl (by kernel_rfl) (fun _ _ _ h => h) (Or.inl ⟨by rfl, ?_⟩) hHeld ?_ ?_
        rotate_left
        · rintro w' ⟨s0, s1, s2, s3, s4, s5, s6, s7, s8, s9, s10, s11, s12, s13, s14, s15, s16, s17, s18⟩
          go_simp
          with_reducible rfl
        rotate_left
        · simp only [Act.put, List.setIfInBounds_toArray, List.set_cons_zero, List.set_cons_succ, i64_w, i32_w]
          rfl
        refine take_ (i := 4) (N := some 19) (v := ?_) (a' := ?_) #[true, true, true, true, true, false, false, false, false, false, false, false, false, false, false, false, false, false, false, false, false, false, false] rfl rfl (by kernel_rfl) (fun _ _ _ h => h) (Or.inl ⟨by rfl, ?_⟩) hHeld ?_ ?_
        rotate_left
        · rintro w' ⟨s0, s1, s2, s3, s4, s5, s6, s7, s8, s9, s10, s11, s12, s13, s14, s15, s16, s17, s18⟩
          go_simp
          with_reducible rfl
        rotate_left
        · simp only [Act.put, List.setIfInBounds_toArray, List.set_cons_zero, List.set_cons_succ, i64_w, i32_w]
          rfl
        refine one_ (i := 5) (N := some 20) #[true, true, true, true, true, true, false, false, false, false, false, false, false, false, false, false, false, false, false, false, false, false, false] rfl rfl (by kernel_rfl) (by decide) (fun K hK => ?_)
        refine goes_ Tryd.func31 (by kernel_rfl) rfl #[.agg (Vx d.x d.r), .agg (Vq q A4 c4 A5 c5)] (by rfl) rfl rfl (by simp only [List.map_toArray, List.map_cons, List.map_nil]; rfl) ?_
        with_reducible refine (HM.out _ (below_drew (Below.refl _ W))).mono ?_
        rintro e w3 ⟨rfl, hb3⟩
        refine ⟨_, rfl, ?_⟩
        refine hK.out _ _ ⟨pw_cell_below (below_step (below_drew (Below.refl _ W)) hb3) HCL.out.1, pw_cell_below (below_step (below_drew (Below.refl _ W)) hb3) HCL.out.2.1, pw_cell_below (below_step (below_drew (Below.refl _ W)) hb3) HCL.out.2.2.1, pw_cell_below (below_step (below_drew (Below.refl _ W)) hb3) HCL.out.2.2.2.1, pw_cell_below (below_step (below_drew (Below.refl _ W)) hb3) HCL.out.2.2.2.2.1, pw_cell_below (below_step (below_drew (Below.refl _ W)) hb3) HCL.out.2.2.2.2.2.1, pw_cell_below (below_step (below_drew (Below.refl _ W)) hb3) HCL.out.2.2.2.2.2.2.1, pw_cell_below (below_step (below_drew (Below.refl _ W)) hb3) HCL.out.2.2.2.2.2.2.2.1, pw_cell_below (below_step (below_drew (Below.refl _ W)) hb3) HCL.out.2.2.2.2.2.2.2.2.1, pw_cell_below (below_step (below_drew (Below.refl _ W)) hb3) HCL.out.2.2.2.2.2.2.2.2.2.1, pw_cell_below (below_step (below_drew (Below.refl _ W)) hb3) HCL.out.2.2.2.2.2.2.2.2.2.2.1, pw_cell_below (below_step (below_drew (Below.refl _ W)) hb3) HCL.out.2.2.2.2.2.2.2.2.2.2.2.1, pw_cell_below (below_step (below_drew (Below.refl _ W)) hb3) HCL.out.2.2.2.2.2.2.2.2.2.2.2.2.1, pw_cell_below (below_step (below_drew (Below.refl _ W)) hb3) HCL.out.2.2.2.2.2.2.2.2.2.2.2.2.2.1, pw_cell_below (below_step (below_drew (Below.refl _ W)) hb3) HCL.out.2.2.2.2.2.2.2.2.2.2.2.2.2.2.1, pw_cell_below (below_step (below_drew (Below.refl _ W)) hb3) HCL.out.2.2.2.2.2.2.2.2.2.2.2.2.2.2.2.1, pw_cell_below (below_step (below_drew (Below.refl _ W)) hb3) HCL.out.2.2.2.2.2.2.2.2.2.2.2.2.2.2.2.2.1, pw_cell_below (below_step (below_drew (Below.refl _ W)) hb3) HCL.out.2.2.2.2.2.2.2.2.2.2.2.2.2.2.2.2.2.1, pw_cell_below (below_step (below_drew (Below.refl _ W)) hb3) HCL.out.2.2.2.2.2.2.2.2.2.2.2.2.2.2.2.2.2.2⟩ (fun hHeld => ?_)
        clear hK K
        refine norm_ (a' := ?_) ?_ ?_
        rotate_left
        · show Act.put _ (some 20) _ = _
          simp only [Act.put, List.setIfInBounds_toArray, List.set_cons_zero, List.set_cons_succ, i64_w, i32_w]
          rfl
        refine pure_ (i := 6) (N := some 21) (v := ?_) (a' := ?_) #[true, true, true, true, true, true, true, false, false, false, false, false, false, false, false, false, false, false, false, false, false, false, false] rfl rfl (by kernel_rfl) (fun _ _ _ h => h) (Or.inl ⟨by rfl, ?_⟩) ?_ ?_
        rotate_left
        · intro w'
          go_simp
          with_reducible rfl
        rotate_left
        · simp only [Act.put, List.setIfInBounds_toArray, List.set_cons_zero, List.set_cons_succ, i64_w, i32_w]
          rfl
        refine pure_ (i := 7) (N := some 22) (v := undef) (a' := ?_) #[true, true, true, true, true, true, true, true, false, false, false, false, false, false, false, false, false, false, false, false, false, false, false] rfl rfl (by kernel_rfl) (fun _ _ _ h => h) (Or.inr ⟨by rfl, rfl⟩) ?_ ?_
        rotate_left
        · simp only [Act.put, List.setIfInBounds_toArray, List.set_cons_zero, List.set_cons_succ, i64_w, i32_w]
          rfl
        refine pure_ (i := 8) (N := some 23) (v := undef) (a' := ?_) #[true, true, true, true, true, true, true, true, true, false, false, false, false, false, false, false, false, false, false, false, false, false, false] rfl rfl (by kernel_rfl) (fun _ _ _ h => h) (Or.inr ⟨by rfl, rfl⟩) ?_ ?_
        rotate_left
        · simp only [Act.put, List.setIfInBounds_toArray, List.set_cons_zero, List.set_cons_succ, i64_w, i32_w]
          rfl
        refine pure_ (i := 9) (N := some 24) (v := undef) (a' := ?_) #[true, true, true, true, true, true, true, true, true, true, false, false, false, false, false, false, false, false, false, false, false, false, false] rfl rfl (by kernel_rfl) (fun _ _ _ h => h) (Or.inr ⟨by rfl, rfl⟩) ?_ ?_
        rotate_left
        · simp only [Act.put, List.setIfInBounds_toArray, List.set_cons_zero, List.set_cons_succ, i64_w, i32_w]
          rfl
        refine pure_ (i := 10) (N := some 25) (v := undef) (a' := ?_) #[true, true, true, true, true, true, true, true, true, true, true, false, false, false, false, false, false, false, false, false, false, false, false] rfl rfl (by kernel_rfl) (fun _ _ _ h => h) (Or.inr ⟨by rfl, rfl⟩) ?_ ?_
        rotate_left
        · simp only [Act.put, List.setIfInBounds_toArray, List.set_cons_zero, List.set_cons_succ, i64_w, i32_w]
          rfl
        refine pure_ (i := 11) (N := some 26) (v := undef) (a' := ?_) #[true, true, true, true, true, true, true, true, true, true, true, true, false, false, false, false, false, false, false, false, false, false, false] rfl rfl (by kernel_rfl) (fun _ _ _ h => h) (Or.inr ⟨by rfl, rfl⟩) ?_ ?_
        rotate_left
        · simp only [Act.put, List.setIfInBounds_toArray, List.set_cons_zero, List.set_cons_succ, i64_w, i32_w]
          rfl
        refine pure_ (i := 12) (N := some 27) (v := undef) (a' := ?_) #[true, true, true, true, true, true, true, true, true, true, true, true, true, false, false, false, false, false, false, false, false, false, false] rfl rfl (by kernel_rfl) (fun _ _ _ h => h) (Or.inr ⟨by rfl, rfl⟩) ?_ ?_
        rotate_left
        · simp only [Act.put, List.setIfInBounds_toArray, List.set_cons_zero, List.set_cons_succ, i64_w, i32_w]
          rfl
        refine pure_ (i := 13) (N := some 28) (v := undef) (a' := ?_) #[true, true, true, true, true, true, true, true, true, true, true, true, true, true, false, false, false, false, false, false, false, false, false] rfl rfl (by kernel_rfl) (fun _ _ _ h => h) (Or.inr ⟨by rfl, rfl⟩) ?_ ?_
        rotate_left
        · simp only [Act.put, List.setIfInBounds_toArray, List.set_cons_zero, List.set_cons_succ, i64_w, i32_w]
          rfl
        refine pure_ (i := 14) (N := some 29) (v := undef) (a' := ?_) #[true, true, true, true, true, true, true, true, true, true, true, true, true, true, true, false, false, false, false, false, false, false, false] rfl rfl (by kernel_rfl) (fun _ _ _ h => h) (Or.inr ⟨by rfl, rfl⟩) ?_ ?_
        rotate_left
        · simp only [Act.put, List.setIfInBounds_toArray, List.set_cons_zero, List.set_cons_succ, i64_w, i32_w]
          rfl
        refine pure_ (i := 15) (N := some 30) (v := undef) (a' := ?_) #[true, true, true, true, true, true, true, true, true, true, true, true, true, true, true, true, false, false, false, false, false, false, false] rfl rfl (by kernel_rfl) (fun _ _ _ h => h) (Or.inr ⟨by rfl, rfl⟩) ?_ ?_
        rotate_left
        · simp only [Act.put, List.setIfInBounds_toArray, List.set_cons_zero, List.set_cons_succ, i64_w, i32_w]
          rfl
        refine pure_ (i := 16) (N := some 31) (v := undef) (a' := ?_) #[true, true, true, true, true, true, true, true, true, true, true, true, true, true, true, true, true, false, false, false, false, false, false] rfl rfl (by kernel_rfl) (fun _ _ _ h => h) (Or.inr ⟨by rfl, rfl⟩) ?_ ?_
        rotate_left
        · simp only [Act.put, List.setIfInBounds_toArray, List.set_cons_zero, List.set_cons_succ, i64_w, i32_w]
          rfl
        refine pure_ (i := 17) (N := some 32) (v := undef) (a' := ?_) #[true, true, true, true, true, true, true, true, true, true, true, true, true, true, true, true, true, true, false, false, false, false, false] rfl rfl (by kernel_rfl) (fun _ _ _ h => h) (Or.inr ⟨by rfl, rfl⟩) ?_ ?_
        rotate_left
        · simp only [Act.put, List.setIfInBounds_toArray, List.set_cons_zero, List.set_cons_succ, i64_w, i32_w]
          rfl
        refine pure_ (i := 18) (N := some 33) (v := undef) (a' := ?_) #[true, true, true, true, true, true, true, true, true, true, true, true, true, true, true, true, true, true, true, false, false, false, false] rfl rfl (by kernel_rfl) (fun _ _ _ h => h) (Or.inr ⟨by rfl, rfl⟩) ?_ ?_
        rotate_left
        · simp only [Act.put, List.setIfInBounds_toArray, List.set_cons_zero, List.set_cons_succ, i64_w, i32_w]
          rfl
        refine pure_ (i := 19) (N := some 34) (v := undef) (a' := ?_) #[true, true, true, true, true, true, true, true, true, true, true, true, true, true, true, true, true, true, true, true, false, false, false] rfl rfl (by kernel_rfl) (fun _ _ _ h => h) (Or.inr ⟨by rfl, rfl⟩) ?_ ?_
        rotate_left
        · simp only [Act.put, List.setIfInBounds_toArray, List.set_cons_zero, List.set_cons_succ, i64_w, i32_w]
          rfl
        refine pure_ (i := 20) (N := some 35) (v := undef) (a' := ?_) #[true, true, true, true, true, true, true, true, true, true, true, true, true, true, true, true, true, true, true, true, true, false, false] rfl rfl (by kernel_rfl) (fun _ _ _ h => h) (Or.inr ⟨by rfl, rfl⟩) ?_ ?_
        rotate_left
        · simp only [Act.put, List.setIfInBounds_toArray, List.set_cons_zero, List.set_cons_succ, i64_w, i32_w]
          rfl
        refine pure_ (i := 21) (N := some 36) (v := undef) (a' := ?_) #[true, true, true, true, true, true, true, true, true, true, true, true, true, true, true, true, true, true, true, true, true, true, false] rfl rfl (by kernel_rfl) (fun _ _ _ h => h) (Or.inr ⟨by rfl, rfl⟩) ?_ ?_
        rotate_left
        · simp only [Act.put, List.setIfInBounds_toArray, List.set_cons_zero, List.set_cons_succ, i64_w, i32_w]
          rfl
        refine pure_ (i := 22) (N := some 37) (v := ?_) (a' := ?_) #[true, true, true, true, true, true, true, true, true, true, true, true, true, true, true, true, true, true, true, true, true, true, true] rfl rfl (by kernel_rfl) (fun _ _ _ h => h) (Or.inl ⟨by rfl, ?_⟩) ?_ ?_
        rotate_left
        · intro w'
          go_simp
          with_reducible rfl
        rotate_left
        · simp only [Act.put, List.setIfInBounds_toArray, List.set_cons_zero, List.set_cons_succ, i64_w, i32_w]
          rfl
        refine done_ (by kernel_rfl) ?_
        have HB3 := Lib.hid (below_step (below_drew (Below.refl _ W)) hb3)
        clear hHeld hb3
        clear l0 l1 l2 l3 l4 l5 l6 l7 l8 l9 l10 q0 q1 q2 q3 q4 q5 bc hb10
        gi_wp2
        have hfin : KeepsFrom W0.heap.size W w3 ∧ IGet w q (Bq q A4 c4 A5 c5) (pre ++ [d]) w3 := by
          have hg3 := HI.out.grow HB3.out
          refine ⟨keepsFrom_below _ HB3.out, hg3.below, hg3.b0, hg3.b1, ?_⟩
          rw [HBS.out, show pick q (some b) d = (some b) from HPK.out]
          have := hg3.b2
          rw [← HOO.out] at this
          exact this
        exact hfin
      · by_cases hgt : b.x.f3 < d.x.f3
        · have HPK : Hid (pick q (some b) d = some d) := Lib.hid (by simp [pick, ← HMM.out, hgt])
          have dgt : decide (b.x.f3 < d.x.f3) = true := decide_eq_true hgt
          gi_wp2
          have HCL : Hid (W.cell? ⟨d.b, 0, none⟩ = some (.string d.x.f0.f0) ∧ W.cell? ⟨d.b, 1, none⟩ = some (.string d.x.f0.f1) ∧ W.cell? ⟨d.b, 2, none⟩ = some (.string d.x.f0.f2) ∧ W.cell? ⟨d.b, 3, none⟩ = some (.string d.x.f0.f3) ∧ W.cell? ⟨d.b, 4, none⟩ = some (.slice d.r.A4 d.x.f0.f4.length d.r.c4) ∧ W.cell? ⟨d.b, 5, none⟩ = some (.slice d.r.A5 d.x.f0.f5.length d.r.c5) ∧ W.cell? ⟨d.b, 6, none⟩ = some (.int .i64 d.x.f1.f0) ∧ W.cell? ⟨d.b, 7, none⟩ = some (.slice d.r.A7 d.x.f1.f1.length d.r.c7) ∧ W.cell? ⟨d.b, 8, none⟩ = some (.slice d.r.A8 d.x.f1.f2.length d.r.c8) ∧ W.cell? ⟨d.b, 9, none⟩ = some (.int .i64 d.x.f2) ∧ W.cell? ⟨d.b, 10, none⟩ = some (.int .i64 d.x.f3) ∧ W.cell? ⟨w.heap.size, 0, none⟩ = some (.string q.f0) ∧ W.cell? ⟨w.heap.size, 1, none⟩ = some (.string q.f1) ∧ W.cell? ⟨w.heap.size, 2, none⟩ = some (.string q.f2) ∧ W.cell? ⟨w.heap.size, 3, none⟩ = some (.string q.f3) ∧ W.cell? ⟨w.heap.size, 4, none⟩ = some (.slice A4 q.f4.length c4) ∧ W.cell? ⟨w.heap.size, 5, none⟩ = some (.slice A5 q.f5.length c5) ∧ W.cell? ⟨w.heap.size + 1 + 1, 0, none⟩ = some (.pointer (some (at0 b.b))) ∧ W.cell? ⟨b.b, 10, none⟩ = some (.int .i64 b.x.f3)) := Lib.hid ⟨l0, l1, l2, l3, l4, l5, l6, l7, l8, l9, l10, q0, q1, q2, q3, q4, q5, bc, hb10⟩
          refine start_in (by kernel_rfl) (by rintro ⟨_, _, h⟩; exact h) (n := 23) (S := fun w' => w'.cell? ⟨d.b, 0, none⟩ = some (.string d.x.f0.f0) ∧ w'.cell? ⟨d.b, 1, none⟩ = some (.string d.x.f0.f1) ∧ w'.cell? ⟨d.b, 2, none⟩ = some (.string d.x.f0.f2) ∧ w'.cell? ⟨d.b, 3, none⟩ = some (.string d.x.f0.f3) ∧ w'.cell? ⟨d.b, 4, none⟩ = some (.slice d.r.A4 d.x.f0.f4.length d.r.c4) ∧ w'.cell? ⟨d.b, 5, none⟩ = some (.slice d.r.A5 d.x.f0.f5.length d.r.c5) ∧ w'.cell? ⟨d.b, 6, none⟩ = some (.int .i64 d.x.f1.f0) ∧ w'.cell? ⟨d.b, 7, none⟩ = some (.slice d.r.A7 d.x.f1.f1.length d.r.c7) ∧ w'.cell? ⟨d.b, 8, none⟩ = some (.slice d.r.A8 d.x.f1.f2.length d.r.c8) ∧ w'.cell? ⟨d.b, 9, none⟩ = some (.int .i64 d.x.f2) ∧ w'.cell? ⟨d.b, 10, none⟩ = some (.int .i64 d.x.f3) ∧ w'.cell? ⟨w.heap.size, 0, none⟩ = some (.string q.f0) ∧ w'.cell? ⟨w.heap.size, 1, none⟩ = some (.string q.f1) ∧ w'.cell? ⟨w.heap.size, 2, none⟩ = some (.string q.f2) ∧ w'.cell? ⟨w.heap.size, 3, none⟩ = some (.string q.f3) ∧ w'.cell? ⟨w.heap.size, 4, none⟩ = some (.slice A4 q.f4.length c4) ∧ w'.cell? ⟨w.heap.size, 5, none⟩ = some (.slice A5 q.f5.length c5) ∧ w'.cell? ⟨w.heap.size + 1 + 1, 0, none⟩ = some (.pointer (some (at0 b.b))) ∧ w'.cell? ⟨b.b, 10, none⟩ = some (.int .i64 b.x.f3)) (ds := []) #[false, false, false, false, false, false, false, false, false, false, false, false, false, false, false, false, false, false, false, false, false, false, false] (by kernel_rfl) rfl rfl ⟨l0, l1, l2, l3, l4, l5, l6, l7, l8, l9, l10, q0, q1, q2, q3, q4, q5, bc, hb10⟩ (fun hHeld => ?_)
          refine pure_ (i := 0) (N := some 15) (v := ?_) (a' := ?_) #[true, false, false, false, false, false, false, false, false, false, false, false, false, false, false, false, false, false, false, false, false, false, false] rfl rfl (by kernel_rfl) (fun _ _ _ h => h) (Or.inl ⟨by rfl, ?_⟩) ?_ ?_
          rotate_left
          · intro w'
            go_simp
            with_reducible rfl
          rotate_left
          · simp only [Act.put, List.setIfInBounds_toArray, List.set_cons_zero, List.set_cons_succ, i64_w, i32_w]
            rfl
          refine pure_ (i := 1) (N := some 16) (v := ?_) (a' := ?_) #[true, true, false, false, false, false, false, false, false, false, false, false, false, false, false, false, false, false, false, false, false, false, false] rfl rfl (by kernel_rfl) (fun _ _ _ h => h) (Or.inl ⟨by rfl, ?_⟩) ?_ ?_
          rotate_left
          · intro w'
            go_simp
            with_reducible rfl
          rotate_left
          · simp only [Act.put, List.setIfInBounds_toArray, List.set_cons_zero, List.set_cons_succ, i64_w, i32_w]
            rfl
          refine pure_ (i := 2) (N := some 17) (v := ?_) (a' := ?_) #[true, true, true, false, false, false, false, false, false, false, false, false, false, false, false, false, false, false, false, false, false, false, false] rfl rfl (by kernel_rfl) (fun _ _ _ h => h) (Or.inl ⟨by rfl, ?_⟩) ?_ ?_
          rotate_left
          · intro w'
            go_simp
            with_reducible rfl
          rotate_left
          · simp only [Act.put, List.setIfInBounds_toArray, List.set_cons_zero, List.set_cons_succ, i64_w, i32_w]
            rfl
          refine take_ (i := 3) (N := some 18) (v := ?_) (a' := ?_) #[true, true, true, true, false, false, false, false, false, false, false, false, false, false, false, false, false, false, false, false, false, false, false] rfl rfl (by kernel_rfl) (fun _ _ _ h => h) (Or.inl ⟨by rfl, ?_⟩) hHeld ?_ ?_
          rotate_left
          · rintro w' ⟨s0, s1, s2, s3, s4, s5, s6, s7, s8, s9, s10, s11, s12, s13, s14, s15, s16, s17, s18⟩
            go_simp
            with_reducible rfl
          rotate_left
          · simp only [Act.put, List.setIfInBounds_toArray, List.set_cons_zero, List.set_cons_succ, i64_w, i32_w]
            rfl
          refine take_ (i := 4) (N := some 19) (v := ?_) (a' := ?_) #[true, true, true, true, true, false, false, false, false, false, false, false, false, false, false, false, false, false, false, false, false, false, false] rfl rfl (by kernel_rfl) (fun _ _ _ h => h) (Or.inl ⟨by rfl, ?_⟩) hHeld ?_ ?_
          rotate_left
          · rintro w' ⟨s0, s1, s2, s3, s4, s5, s6, s7, s8, s9, s10, s11, s12, s13, s14, s15, s16, s17, s18⟩
            go_simp
            with_reducible rfl
          rotate_left
          · simp only [Act.put, List.setIfInBounds_toArray, List.set_cons_zero, List.set_cons_succ, i64_w, i32_w]
            rfl
          refine one_ (i := 5) (N := some 20) #[true, true, true, true, true, true, false, false, false, false, false, false, false, false, false, false, false, false, false, false, false, false, false] rfl rfl (by kernel_rfl) (by decide) (fun K hK => ?_)
          refine goes_ Tryd.func31 (by kernel_rfl) rfl #[.agg (Vx d.x d.r), .agg (Vq q A4 c4 A5 c5)] (by rfl) rfl rfl (by simp only [List.map_toArray, List.map_cons, List.map_nil]; rfl) ?_
          with_reducible refine (HM.out _ (below_drew (Below.refl _ W))).mono ?_
          rintro e w3 ⟨rfl, hb3⟩
          refine ⟨_, rfl, ?_⟩
          refine hK.out _ _ ⟨pw_cell_below (below_step (below_drew (Below.refl _ W)) hb3) HCL.out.1, pw_cell_below (below_step (below_drew (Below.refl _ W)) hb3) HCL.out.2.1, pw_cell_below (below_step (below_drew (Below.refl _ W)) hb3) HCL.out.2.2.1, pw_cell_below (below_step (below_drew (Below.refl _ W)) hb3) HCL.out.2.2.2.1, pw_cell_below (below_step (below_drew (Below.refl _ W)) hb3) HCL.out.2.2.2.2.1, pw_cell_below (below_step (below_drew (Below.refl _ W)) hb3) HCL.out.2.2.2.2.2.1, pw_cell_below (below_step (below_drew (Below.refl _ W)) hb3) HCL.out.2.2.2.2.2.2.1, pw_cell_below (below_step (below_drew (Below.refl _ W)) hb3) HCL.out.2.2.2.2.2.2.2.1, pw_cell_below (below_step (below_drew (Below.refl _ W)) hb3) HCL.out.2.2.2.2.2.2.2.2.1, pw_cell_below (below_step (below_drew (Below.refl _ W)) hb3) HCL.out.2.2.2.2.2.2.2.2.2.1, pw_cell_below (below_step (below_drew (Below.refl _ W)) hb3) HCL.out.2.2.2.2.2.2.2.2.2.2.1, pw_cell_below (below_step (below_drew (Below.refl _ W)) hb3) HCL.out.2.2.2.2.2.2.2.2.2.2.2.1, pw_cell_below (below_step (below_drew (Below.refl _ W)) hb3) HCL.out.2.2.2.2.2.2.2.2.2.2.2.2.1, pw_cell_below (below_step (below_drew (Below.refl _ W)) hb3) HCL.out.2.2.2.2.2.2.2.2.2.2.2.2.2.1, pw_cell_below (below_step (below_drew (Below.refl _ W)) hb3) HCL.out.2.2.2.2.2.2.2.2.2.2.2.2.2.2.1, pw_cell_below (below_step (below_drew (Below.refl _ W)) hb3) HCL.out.2.2.2.2.2.2.2.2.2.2.2.2.2.2.2.1, pw_cell_below (below_step (below_drew (Below.refl _ W)) hb3) HCL.out.2.2.2.2.2.2.2.2.2.2.2.2.2.2.2.2.1, pw_cell_below (below_step (below_drew (Below.refl _ W)) hb3) HCL.out.2.2.2.2.2.2.2.2.2.2.2.2.2.2.2.2.2.1, pw_cell_below (below_step (below_drew (Below.refl _ W)) hb3) HCL.out.2.2.2.2.2.2.2.2.2.2.2.2.2.2.2.2.2.2⟩ (fun hHeld => ?_)
          clear hK K
          refine norm_ (a' := ?_) ?_ ?_
          rotate_left
          · show Act.put _ (some 20) _ = _
            simp only [Act.put, List.setIfInBounds_toArray, List.set_cons_zero, List.set_cons_succ, i64_w, i32_w]
            rfl
          refine pure_ (i := 6) (N := some 21) (v := ?_) (a' := ?_) #[true, true, true, true, true, true, true, false, false, false, false, false, false, false, false, false, false, false, false, false, false, false, false] rfl rfl (by kernel_rfl) (fun _ _ _ h => h) (Or.inl ⟨by rfl, ?_⟩) ?_ ?_
          rotate_left
          · intro w'
            go_simp
            with_reducible rfl
          rotate_left
          · simp only [Act.put, List.setIfInBounds_toArray, List.set_cons_zero, List.set_cons_succ, i64_w, i32_w]
            rfl
          refine take_ (i := 7) (N := some 22) (v := ?_) (a' := ?_) #[true, true, true, true, true, true, true, true, false, false, false, false, false, false, false, false, false, false, false, false, false, false, false] rfl rfl (by kernel_rfl) (fun _ _ _ h => h) (Or.inl ⟨by rfl, ?_⟩) hHeld ?_ ?_
          rotate_left
          · rintro w' ⟨s0, s1, s2, s3, s4, s5, s6, s7, s8, s9, s10, s11, s12, s13, s14, s15, s16, s17, s18⟩
            go_simp
            with_reducible rfl
          rotate_left
          · simp only [Act.put, List.setIfInBounds_toArray, List.set_cons_zero, List.set_cons_succ, i64_w, i32_w]
            rfl
          refine pure_ (i := 8) (N := some 23) (v := ?_) (a' := ?_) #[true, true, true, true, true, true, true, true, true, false, false, false, false, false, false, false, false, false, false, false, false, false, false] rfl rfl (by kernel_rfl) (fun _ _ _ h => h) (Or.inl ⟨by rfl, ?_⟩) ?_ ?_
          rotate_left
          · intro w'
            go_simp
            with_reducible rfl
          rotate_left
          · simp only [Act.put, List.setIfInBounds_toArray, List.set_cons_zero, List.set_cons_succ, i64_w, i32_w]
            rfl
          refine pure_ (i := 9) (N := some 24) (v := ?_) (a' := ?_) #[true, true, true, true, true, true, true, true, true, true, false, false, false, false, false, false, false, false, false, false, false, false, false] rfl rfl (by kernel_rfl) (fun _ _ _ h => h) (Or.inl ⟨by rfl, ?_⟩) ?_ ?_
          rotate_left
          · intro w'
            go_simp
            with_reducible rfl
          rotate_left
          · simp only [Act.put, List.setIfInBounds_toArray, List.set_cons_zero, List.set_cons_succ, i64_w, i32_w]
            rfl
          refine pure_ (i := 10) (N := some 25) (v := ?_) (a' := ?_) #[true, true, true, true, true, true, true, true, true, true, true, false, false, false, false, false, false, false, false, false, false, false, false] rfl rfl (by kernel_rfl) (fun _ _ _ h => h) (Or.inl ⟨by rfl, ?_⟩) ?_ ?_
          rotate_left
          · intro w'
            go_simp
            with_reducible rfl
          rotate_left
          · simp only [Act.put, List.setIfInBounds_toArray, List.set_cons_zero, List.set_cons_succ, i64_w, i32_w]
            rfl
          refine pure_ (i := 11) (N := some 26) (v := ?_) (a' := ?_) #[true, true, true, true, true, true, true, true, true, true, true, true, false, false, false, false, false, false, false, false, false, false, false] rfl rfl (by kernel_rfl) (fun _ _ _ h => h) (Or.inl ⟨by rfl, ?_⟩) ?_ ?_
          rotate_left
          · intro w'
            go_simp
            with_reducible rfl
          rotate_left
          · simp only [Act.put, List.setIfInBounds_toArray, List.set_cons_zero, List.set_cons_succ, i64_w, i32_w]
            rfl
          refine pure_ (i := 12) (N := some 27) (v := ?_) (a' := ?_) #[true, true, true, true, true, true, true, true, true, true, true, true, true, false, false, false, false, false, false, false, false, false, false] rfl rfl (by kernel_rfl) (fun _ _ _ h => h) (Or.inl ⟨by rfl, ?_⟩) ?_ ?_
          rotate_left
          · intro w'
            go_simp
            with_reducible rfl
          rotate_left
          · simp only [Act.put, List.setIfInBounds_toArray, List.set_cons_zero, List.set_cons_succ, i64_w, i32_w]
            rfl
          refine pure_ (i := 13) (N := some 28) (v := ?_) (a' := ?_) #[true, true, true, true, true, true, true, true, true, true, true, true, true, true, false, false, false, false, false, false, false, false, false] rfl rfl (by kernel_rfl) (fun _ _ _ h => h) (Or.inl ⟨by rfl, ?_⟩) ?_ ?_
          rotate_left
          · intro w'
            go_simp
            with_reducible rfl
          rotate_left
          · simp only [Act.put, List.setIfInBounds_toArray, List.set_cons_zero, List.set_cons_succ, i64_w, i32_w]
            rfl
          refine take_ (i := 14) (N := some 29) (v := ?_) (a' := ?_) #[true, true, true, true, true, true, true, true, true, true, true, true, true, true, true, false, false, false, false, false, false, false, false] rfl rfl (by kernel_rfl) (fun _ _ _ h => h) (Or.inl ⟨by rfl, ?_⟩) hHeld ?_ ?_
          rotate_left
          · rintro w' ⟨s0, s1, s2, s3, s4, s5, s6, s7, s8, s9, s10, s11, s12, s13, s14, s15, s16, s17, s18⟩
            go_simp
            with_reducible rfl
          rotate_left
          · simp only [Act.put, List.setIfInBounds_toArray, List.set_cons_zero, List.set_cons_succ, i64_w, i32_w]
            rfl
          refine take_ (i := 15) (N := some 30) (v := ?_) (a' := ?_) #[true, true, true, true, true, true, true, true, true, true, true, true, true, true, true, true, false, false, false, false, false, false, false] rfl rfl (by kernel_rfl) (fun _ _ _ h => h) (Or.inl ⟨by rfl, ?_⟩) hHeld ?_ ?_
          rotate_left
          · rintro w' ⟨s0, s1, s2, s3, s4, s5, s6, s7, s8, s9, s10, s11, s12, s13, s14, s15, s16, s17, s18⟩
            go_simp
            with_reducible rfl
          rotate_left
          · simp only [Act.put, List.setIfInBounds_toArray, List.set_cons_zero, List.set_cons_succ, i64_w, i32_w]
            rfl
          refine pure_ (i := 16) (N := some 31) (v := ?_) (a' := ?_) #[true, true, true, true, true, true, true, true, true, true, true, true, true, true, true, true, true, false, false, false, false, false, false] rfl rfl (by kernel_rfl) (fun _ _ _ h => h) (Or.inl ⟨by rfl, ?_⟩) ?_ ?_
          rotate_left
          · intro w'
            go_simp
            with_reducible rfl
          rotate_left
          · simp only [Act.put, List.setIfInBounds_toArray, List.set_cons_zero, List.set_cons_succ, i64_w, i32_w]
            rfl
          refine pure_ (i := 17) (N := some 32) (v := ?_) (a' := ?_) #[true, true, true, true, true, true, true, true, true, true, true, true, true, true, true, true, true, true, false, false, false, false, false] rfl rfl (by kernel_rfl) (fun _ _ _ h => h) (Or.inl ⟨by rfl, ?_⟩) ?_ ?_
          rotate_left
          · intro w'
            go_simp
            with_reducible rfl
          rotate_left
          · simp only [Act.put, List.setIfInBounds_toArray, List.set_cons_zero, List.set_cons_succ, i64_w, i32_w]
            rfl
          refine pure_ (i := 18) (N := some 33) (v := ?_) (a' := ?_) #[true, true, true, true, true, true, true, true, true, true, true, true, true, true, true, true, true, true, true, false, false, false, false] rfl rfl (by kernel_rfl) (fun _ _ _ h => h) (Or.inl ⟨by rfl, ?_⟩) ?_ ?_
          rotate_left
          · intro w'
            go_simp
            with_reducible rfl
          rotate_left
          · simp only [Act.put, List.setIfInBounds_toArray, List.set_cons_zero, List.set_cons_succ, i64_w, i32_w]
            rfl
          refine take_ (i := 19) (N := some 34) (v := ?_) (a' := ?_) #[true, true, true, true, true, true, true, true, true, true, true, true, true, true, true, true, true, true, true, true, false, false, false] rfl rfl (by kernel_rfl) (fun _ _ _ h => h) (Or.inl ⟨by rfl, ?_⟩) hHeld ?_ ?_
          rotate_left
          · rintro w' ⟨s0, s1, s2, s3, s4, s5, s6, s7, s8, s9, s10, s11, s12, s13, s14, s15, s16, s17, s18⟩
            go_simp
            with_reducible rfl
          rotate_left
          · simp only [Act.put, List.setIfInBounds_toArray, List.set_cons_zero, List.set_cons_succ, i64_w, i32_w]
            rfl
          refine pure_ (i := 20) (N := some 35) (v := ?_) (a' := ?_) #[true, true, true, true, true, true, true, true, true, true, true, true, true, true, true, true, true, true, true, true, true, false, false] rfl rfl (by kernel_rfl) (fun _ _ _ h => h) (Or.inl ⟨by rfl, ?_⟩) ?_ ?_
          rotate_left
          · intro w'
            go_simp
            with_reducible rfl
          rotate_left
          · simp only [Act.put, List.setIfInBounds_toArray, List.set_cons_zero, List.set_cons_succ, i64_w, i32_w]
            rfl
          refine pure_ (i := 21) (N := some 36) (v := ?_) (a' := ?_) #[true, true, true, true, true, true, true, true, true, true, true, true, true, true, true, true, true, true, true, true, true, true, false] rfl rfl (by kernel_rfl) (fun _ _ _ h => h) (Or.inl ⟨by rfl, ?_⟩) ?_ ?_
          rotate_left
          · intro w'
            go_simp
            with_reducible rfl
          rotate_left
          · simp only [Act.put, List.setIfInBounds_toArray, List.set_cons_zero, List.set_cons_succ, i64_w, i32_w]
            rfl
          refine pure_ (i := 22) (N := some 37) (v := ?_) (a' := ?_) #[true, true, true, true, true, true, true, true, true, true, true, true, true, true, true, true, true, true, true, true, true, true, true] rfl rfl (by kernel_rfl) (fun _ _ _ h => h) (Or.inl ⟨by rfl, ?_⟩) ?_ ?_
          rotate_left
          · intro w'
            go_simp
            with_reducible rfl
          rotate_left
          · simp only [Act.put, List.setIfInBounds_toArray, List.set_cons_zero, List.set_cons_succ, i64_w, i32_w]
            rfl
          refine done_ (by kernel_rfl) ?_
          have HB3 := Lib.hid (below_step (below_drew (Below.refl _ W)) hb3)
          clear hHeld hb3
          clear l0 l1 l2 l3 l4 l5 l6 l7 l8 l9 l10 q0 q1 q2 q3 q4 q5 bc hb10
          have n3 := (HB3.out.block _ hlt2).trans HI.out.b2
          have c3 := c_of n3 0 (v := .pointer (ptr (best q pre))) rfl
          have f3 := fr_of n3 0
          have HN3 := Lib.hid n3
          clear n3
          gi_wp2
          have hfin : KeepsFrom W0.heap.size W (w3.setCell ⟨w.heap.size + 1 + 1, 0, none⟩ (.pointer (some (at0 d.b)))) ∧ IGet w q (Bq q A4 c4 A5 c5) (pre ++ [d]) (w3.setCell ⟨w.heap.size + 1 + 1, 0, none⟩ (.pointer (some (at0 d.b)))) := by
            have hg3 := HI.out.grow HB3.out
            refine ⟨(keepsFrom_below _ HB3.out).trans ((KeepsOthers.setCell _ _ _).from _), hg3.below.setCell (p := ⟨w.heap.size + 1 + 1, 0, none⟩) (by simp <;> omega) _, set_other hg3.b0 (by omega), set_other hg3.b1 (by omega), ?_⟩
            rw [HBS.out, show pick q (some b) d = some d from HPK.out]
            exact set_same hg3.b2 rfl
          exact hfin
        · have HPK : Hid (pick q (some b) d = some b) := Lib.hid (by simp [pick, ← HMM.out, hgt])
          have dgt : decide (b.x.f3 < d.x.f3) = false := decide_eq_false hgt
          gi_wp2
          have HCL : Hid (W.cell? ⟨d.b, 0, none⟩ = some (.string d.x.f0.f0) ∧ W.cell? ⟨d.b, 1, none⟩ = some (.string d.x.f0.f1) ∧ W.cell? ⟨d.b, 2, none⟩ = some (.string d.x.f0.f2) ∧ W.cell? ⟨d.b, 3, none⟩ = some (.string d.x.f0.f3) ∧ W.cell? ⟨d.b, 4, none⟩ = some (.slice d.r.A4 d.x.f0.f4.length d.r.c4) ∧ W.cell? ⟨d.b, 5, none⟩ = some (.slice d.r.A5 d.x.f0.f5.length d.r.c5) ∧ W.cell? ⟨d.b, 6, none⟩ = some (.int .i64 d.x.f1.f0) ∧ W.cell? ⟨d.b, 7, none⟩ = some (.slice d.r.A7 d.x.f1.f1.length d.r.c7) ∧ W.cell? ⟨d.b, 8, none⟩ = some (.slice d.r.A8 d.x.f1.f2.length d.r.c8) ∧ W.cell? ⟨d.b, 9, none⟩ = some (.int .i64 d.x.f2) ∧ W.cell? ⟨d.b, 10, none⟩ = some (.int .i64 d.x.f3) ∧ W.cell? ⟨w.heap.size, 0, none⟩ = some (.string q.f0) ∧ W.cell? ⟨w.heap.size, 1, none⟩ = some (.string q.f1) ∧ W.cell? ⟨w.heap.size, 2, none⟩ = some (.string q.f2) ∧ W.cell? ⟨w.heap.size, 3, none⟩ = some (.string q.f3) ∧ W.cell? ⟨w.heap.size, 4, none⟩ = some (.slice A4 q.f4.length c4) ∧ W.cell? ⟨w.heap.size, 5, none⟩ = some (.slice A5 q.f5.length c5) ∧ W.cell? ⟨w.heap.size + 1 + 1, 0, none⟩ = some (.pointer (some (at0 b.b))) ∧ W.cell? ⟨b.b, 10, none⟩ = some (.int .i64 b.x.f3)) := Lib.hid ⟨l0, l1, l2, l3, l4, l5, l6, l7, l8, l9, l10, q0, q1, q2, q3, q4, q5, bc, hb10⟩
          refine start_in (by kernel_rfl) (by rintro ⟨_, _, h⟩; exact h) (n := 23) (S := fun w' => w'.cell? ⟨d.b, 0, none⟩ = some (.string d.x.f0.f0) ∧ w'.cell? ⟨d.b, 1, none⟩ = some (.string d.x.f0.f1) ∧ w'.cell? ⟨d.b, 2, none⟩ = some (.string d.x.f0.f2) ∧ w'.cell? ⟨d.b, 3, none⟩ = some (.string d.x.f0.f3) ∧ w'.cell? ⟨d.b, 4, none⟩ = some (.slice d.r.A4 d.x.f0.f4.length d.r.c4) ∧ w'.cell? ⟨d.b, 5, none⟩ = some (.slice d.r.A5 d.x.f0.f5.length d.r.c5) ∧ w'.cell? ⟨d.b, 6, none⟩ = some (.int .i64 d.x.f1.f0) ∧ w'.cell? ⟨d.b, 7, none⟩ = some (.slice d.r.A7 d.x.f1.f1.length d.r.c7) ∧ w'.cell? ⟨d.b, 8, none⟩ = some (.slice d.r.A8 d.x.f1.f2.length d.r.c8) ∧ w'.cell? ⟨d.b, 9, none⟩ = some (.int .i64 d.x.f2) ∧ w'.cell? ⟨d.b, 10, none⟩ = some (.int .i64 d.x.f3) ∧ w'.cell? ⟨w.heap.size, 0, none⟩ = some (.string q.f0) ∧ w'.cell? ⟨w.heap.size, 1, none⟩ = some (.string q.f1) ∧ w'.cell? ⟨w.heap.size, 2, none⟩ = some (.string q.f2) ∧ w'.cell? ⟨w.heap.size, 3, none⟩ = some (.string q.f3) ∧ w'.cell? ⟨w.heap.size, 4, none⟩ = some (.slice A4 q.f4.length c4) ∧ w'.cell? ⟨w.heap.size, 5, none⟩ = some (.slice A5 q.f5.length c5) ∧ w'.cell? ⟨w.heap.size + 1 + 1, 0, none⟩ = some (.pointer (some (at0 b.b))) ∧ w'.cell? ⟨b.b, 10, none⟩ = some (.int .i64 b.x.f3)) (ds := []) #[false, false, false, false, false, false, false, false, false, false, false, false, false, false, false, false, false, false, false, false, false, false, false] (by kernel_rfl) rfl rfl ⟨l0, l1, l2, l3, l4, l5, l6, l7, l8, l9, l10, q0, q1, q2, q3, q4, q5, bc, hb10⟩ (fun hHeld => ?_)
          refine pure_ (i := 0) (N := some 15) (v := ?_) (a' := ?_) #[true, false, false, false, false, false, false, false, false, false, false, false, false, false, false, false, false, false, false, false, false, false, false] rfl rfl (by kernel_rfl) (fun _ _ _ h => h) (Or.inl ⟨by rfl, ?_⟩) ?_ ?_
          rotate_left
          · intro w'
            go_simp
            with_reducible rfl
          rotate_left
          · simp only [Act.put, List.setIfInBounds_toArray, List.set_cons_zero, List.set_cons_succ, i64_w, i32_w]
            rfl
          refine pure_ (i := 1) (N := some 16) (v := ?_) (a' := ?_) #[true, true, false, false, false, false, false, false, false, false, false, false, false, false, false, false, false, false, false, false, false, false, false] rfl rfl (by kernel_rfl) (fun _ _ _ h => h) (Or.inl ⟨by rfl, ?_⟩) ?_ ?_
          rotate_left
          · intro w'
            go_simp
            with_reducible rfl
          rotate_left
          · simp only [Act.put, List.setIfInBounds_toArray, List.set_cons_zero, List.set_cons_succ, i64_w, i32_w]
            rfl
          refine pure_ (i := 2) (N := some 17) (v := ?_) (a' := ?_) #[true, true, true, false, false, false, false, false, false, false, false, false, false, false, false, false, false, false, false, false, false, false, false] rfl rfl (by kernel_rfl) (fun _ _ _ h => h) (Or.inl ⟨by rfl, ?_⟩) ?_ ?_
          rotate_left
          · intro w'
            go_simp
            with_reducible rfl
          rotate_left
          · simp only [Act.put, List.setIfInBounds_toArray, List.set_cons_zero, List.set_cons_succ, i64_w, i32_w]
            rfl
          refine take_ (i := 3) (N := some 18) (v := ?_) (a' := ?_) #[true, true, true, true, false, false, false, false, false, false, false, false, false, false, false, false, false, false, false, false, false, false, false] rfl rfl (by kernel_rfl) (fun _ _ _ h => h) (Or.inl ⟨by rfl, ?_⟩) hHeld ?_ ?_
          rotate_left
          · rintro w' ⟨s0, s1, s2, s3, s4, s5, s6, s7, s8, s9, s10, s11, s12, s13, s14, s15, s16, s17, s18⟩
            go_simp
            with_reducible rfl
          rotate_left
          · simp only [Act.put, List.setIfInBounds_toArray, List.set_cons_zero, List.set_cons_succ, i64_w, i32_w]
            rfl
          refine take_ (i := 4) (N := some 19) (v := ?_) (a' := ?_) #[true, true, true, true, true, false, false, false, false, false, false, false, false, false, false, false, false, false, false, false, false, false, false] rfl rfl (by kernel_rfl) (fun _ _ _ h => h) (Or.inl ⟨by rfl, ?_⟩) hHeld ?_ ?_
          rotate_left
          · rintro w' ⟨s0, s1, s2, s3, s4, s5, s6, s7, s8, s9, s10, s11, s12, s13, s14, s15, s16, s17, s18⟩
            go_simp
            with_reducible rfl
          rotate_left
          · simp only [Act.put, List.setIfInBounds_toArray, List.set_cons_zero, List.set_cons_succ, i64_w, i32_w]
            rfl
          refine one_ (i := 5) (N := some 20) #[true, true, true, true, true, true, false, false, false, false, false, false, false, false, false, false, false, false, false, false, false, false, false] rfl rfl (by kernel_rfl) (by decide) (fun K hK => ?_)
          refine goes_ Tryd.func31 (by kernel_rfl) rfl #[.agg (Vx d.x d.r), .agg (Vq q A4 c4 A5 c5)] (by rfl) rfl rfl (by simp only [List.map_toArray, List.map_cons, List.map_nil]; rfl) ?_
          with_reducible refine (HM.out _ (below_drew (Below.refl _ W))).mono ?_
          rintro e w3 ⟨rfl, hb3⟩
          refine ⟨_, rfl, ?_⟩
          refine hK.out _ _ ⟨pw_cell_below (below_step (below_drew (Below.refl _ W)) hb3) HCL.out.1, pw_cell_below (below_step (below_drew (Below.refl _ W)) hb3) HCL.out.2.1, pw_cell_below (below_step (below_drew (Below.refl _ W)) hb3) HCL.out.2.2.1, pw_cell_below (below_step (below_drew (Below.refl _ W)) hb3) HCL.out.2.2.2.1, pw_cell_below (below_step (below_drew (Below.refl _ W)) hb3) HCL.out.2.2.2.2.1, pw_cell_below (below_step (below_drew (Below.refl _ W)) hb3) HCL.out.2.2.2.2.2.1, pw_cell_below (below_step (below_drew (Below.refl _ W)) hb3) HCL.out.2.2.2.2.2.2.1, pw_cell_below (below_step (below_drew (Below.refl _ W)) hb3) HCL.out.2.2.2.2.2.2.2.1, pw_cell_below (below_step (below_drew (Below.refl _ W)) hb3) HCL.out.2.2.2.2.2.2.2.2.1, pw_cell_below (below_step (below_drew (Below.refl _ W)) hb3) HCL.out.2.2.2.2.2.2.2.2.2.1, pw_cell_below (below_step (below_drew (Below.refl _ W)) hb3) HCL.out.2.2.2.2.2.2.2.2.2.2.1, pw_cell_below (below_step (below_drew (Below.refl _ W)) hb3) HCL.out.2.2.2.2.2.2.2.2.2.2.2.1, pw_cell_below (below_step (below_drew (Below.refl _ W)) hb3) HCL.out.2.2.2.2.2.2.2.2.2.2.2.2.1, pw_cell_below (below_step (below_drew (Below.refl _ W)) hb3) HCL.out.2.2.2.2.2.2.2.2.2.2.2.2.2.1, pw_cell_below (below_step (below_drew (Below.refl _ W)) hb3) HCL.out.2.2.2.2.2.2.2.2.2.2.2.2.2.2.1, pw_cell_below (below_step (below_drew (Below.refl _ W)) hb3) HCL.out.2.2.2.2.2.2.2.2.2.2.2.2.2.2.2.1, pw_cell_below (below_step (below_drew (Below.refl _ W)) hb3) HCL.out.2.2.2.2.2.2.2.2.2.2.2.2.2.2.2.2.1, pw_cell_below (below_step (below_drew (Below.refl _ W)) hb3) HCL.out.2.2.2.2.2.2.2.2.2.2.2.2.2.2.2.2.2.1, pw_cell_below (below_step (below_drew (Below.refl _ W)) hb3) HCL.out.2.2.2.2.2.2.2.2.2.2.2.2.2.2.2.2.2.2⟩ (fun hHeld => ?_)
          clear hK K
          refine norm_ (a' := ?_) ?_ ?_
          rotate_left
          · show Act.put _ (some 20) _ = _
            simp only [Act.put, List.setIfInBounds_toArray, List.set_cons_zero, List.set_cons_succ, i64_w, i32_w]
            rfl
          refine pure_ (i := 6) (N := some 21) (v := ?_) (a' := ?_) #[true, true, true, true, true, true, true, false, false, false, false, false, false, false, false, false, false, false, false, false, false, false, false] rfl rfl (by kernel_rfl) (fun _ _ _ h => h) (Or.inl ⟨by rfl, ?_⟩) ?_ ?_
          rotate_left
          · intro w'
            go_simp
            with_reducible rfl
          rotate_left
          · simp only [Act.put, List.setIfInBounds_toArray, List.set_cons_zero, List.set_cons_succ, i64_w, i32_w]
            rfl
          refine take_ (i := 7) (N := some 22) (v := ?_) (a' := ?_) #[true, true, true, true, true, true, true, true, false, false, false, false, false, false, false, false, false, false, false, false, false, false, false] rfl rfl (by kernel_rfl) (fun _ _ _ h => h) (Or.inl ⟨by rfl, ?_⟩) hHeld ?_ ?_
          rotate_left
          · rintro w' ⟨s0, s1, s2, s3, s4, s5, s6, s7, s8, s9, s10, s11, s12, s13, s14, s15, s16, s17, s18⟩
            go_simp
            with_reducible rfl
          rotate_left
          · simp only [Act.put, List.setIfInBounds_toArray, List.set_cons_zero, List.set_cons_succ, i64_w, i32_w]
            rfl
          refine pure_ (i := 8) (N := some 23) (v := ?_) (a' := ?_) #[true, true, true, true, true, true, true, true, true, false, false, false, false, false, false, false, false, false, false, false, false, false, false] rfl rfl (by kernel_rfl) (fun _ _ _ h => h) (Or.inl ⟨by rfl, ?_⟩) ?_ ?_
          rotate_left
          · intro w'
            go_simp
            with_reducible rfl
          rotate_left
          · simp only [Act.put, List.setIfInBounds_toArray, List.set_cons_zero, List.set_cons_succ, i64_w, i32_w]
            rfl
          refine pure_ (i := 9) (N := some 24) (v := ?_) (a' := ?_) #[true, true, true, true, true, true, true, true, true, true, false, false, false, false, false, false, false, false, false, false, false, false, false] rfl rfl (by kernel_rfl) (fun _ _ _ h => h) (Or.inl ⟨by rfl, ?_⟩) ?_ ?_
          rotate_left
          · intro w'
            go_simp
            with_reducible rfl
          rotate_left
          · simp only [Act.put, List.setIfInBounds_toArray, List.set_cons_zero, List.set_cons_succ, i64_w, i32_w]
            rfl
          refine pure_ (i := 10) (N := some 25) (v := ?_) (a' := ?_) #[true, true, true, true, true, true, true, true, true, true, true, false, false, false, false, false, false, false, false, false, false, false, false] rfl rfl (by kernel_rfl) (fun _ _ _ h => h) (Or.inl ⟨by rfl, ?_⟩) ?_ ?_
          rotate_left
          · intro w'
            go_simp
            with_reducible rfl
          rotate_left
          · simp only [Act.put, List.setIfInBounds_toArray, List.set_cons_zero, List.set_cons_succ, i64_w, i32_w]
            rfl
          refine pure_ (i := 11) (N := some 26) (v := ?_) (a' := ?_) #[true, true, true, true, true, true, true, true, true, true, true, true, false, false, false, false, false, false, false, false, false, false, false] rfl rfl (by kernel_rfl) (fun _ _ _ h => h) (Or.inl ⟨by rfl, ?_⟩) ?_ ?_
          rotate_left
          · intro w'
            go_simp
            with_reducible rfl
          rotate_left
          · simp only [Act.put, List.setIfInBounds_toArray, List.set_cons_zero, List.set_cons_succ, i64_w, i32_w]
            rfl
          refine pure_ (i := 12) (N := some 27) (v := ?_) (a' := ?_) #[true, true, true, true, true, true, true, true, true, true, true, true, true, false, false, false, false, false, false, false, false, false, false] rfl rfl (by kernel_rfl) (fun _ _ _ h => h) (Or.inl ⟨by rfl, ?_⟩) ?_ ?_
          rotate_left
          · intro w'
            go_simp
            with_reducible rfl
          rotate_left
          · simp only [Act.put, List.setIfInBounds_toArray, List.set_cons_zero, List.set_cons_succ, i64_w, i32_w]
            rfl
          refine pure_ (i := 13) (N := some 28) (v := ?_) (a' := ?_) #[true, true, true, true, true, true, true, true, true, true, true, true, true, true, false, false, false, false, false, false, false, false, false] rfl rfl (by kernel_rfl) (fun _ _ _ h => h) (Or.inl ⟨by rfl, ?_⟩) ?_ ?_
          rotate_left
          · intro w'
            go_simp
            with_reducible rfl
          rotate_left
          · simp only [Act.put, List.setIfInBounds_toArray, List.set_cons_zero, List.set_cons_succ, i64_w, i32_w]
            rfl
          refine take_ (i := 14) (N := some 29) (v := ?_) (a' := ?_) #[true, true, true, true, true, true, true, true, true, true, true, true, true, true, true, false, false, false, false, false, false, false, false] rfl rfl (by kernel_rfl) (fun _ _ _ h => h) (Or.inl ⟨by rfl, ?_⟩) hHeld ?_ ?_
          rotate_left
          · rintro w' ⟨s0, s1, s2, s3, s4, s5, s6, s7, s8, s9, s10, s11, s12, s13, s14, s15, s16, s17, s18⟩
            go_simp
            with_reducible rfl
          rotate_left
          · simp only [Act.put, List.setIfInBounds_toArray, List.set_cons_zero, List.set_cons_succ, i64_w, i32_w]
            rfl
          refine take_ (i := 15) (N := some 30) (v := ?_) (a' := ?_) #[true, true, true, true, true, true, true, true, true, true, true, true, true, true, true, true, false, false, false, false, false, false, false] rfl rfl (by kernel_rfl) (fun _ _ _ h => h) (Or.inl ⟨by rfl, ?_⟩) hHeld ?_ ?_
          rotate_left
          · rintro w' ⟨s0, s1, s2, s3, s4, s5, s6, s7, s8, s9, s10, s11, s12, s13, s14, s15, s16, s17, s18⟩
            go_simp
            with_reducible rfl
          rotate_left
          · simp only [Act.put, List.setIfInBounds_toArray, List.set_cons_zero, List.set_cons_succ, i64_w, i32_w]
            rfl
          refine pure_ (i := 16) (N := some 31) (v := ?_) (a' := ?_) #[true, true, true, true, true, true, true, true, true, true, true, true, true, true, true, true, true, false, false, false, false, false, false] rfl rfl (by kernel_rfl) (fun _ _ _ h => h) (Or.inl ⟨by rfl, ?_⟩) ?_ ?_
          rotate_left
          · intro w'
            go_simp
            with_reducible rfl
          rotate_left
          · simp only [Act.put, List.setIfInBounds_toArray, List.set_cons_zero, List.set_cons_succ, i64_w, i32_w]
            rfl
          refine pure_ (i := 17) (N := some 32) (v := ?_) (a' := ?_) #[true, true, true, true, true, true, true, true, true, true, true, true, true, true, true, true, true, true, false, false, false, false, false] rfl rfl (by kernel_rfl) (fun _ _ _ h => h) (Or.inl ⟨by rfl, ?_⟩) ?_ ?_
          rotate_left
          · intro w'
            go_simp
            with_reducible rfl
          rotate_left
          · simp only [Act.put, List.setIfInBounds_toArray, List.set_cons_zero, List.set_cons_succ, i64_w, i32_w]
            rfl
          refine pure_ (i := 18) (N := some 33) (v := ?_) (a' := ?_) #[true, true, true, true, true, true, true, true, true, true, true, true, true, true, true, true, true, true, true, false, false, false, false] rfl rfl (by kernel_rfl) (fun _ _ _ h => h) (Or.inl ⟨by rfl, ?_⟩) ?_ ?_
          rotate_left
          · intro w'
            go_simp
            with_reducible rfl
          rotate_left
          · simp only [Act.put, List.setIfInBounds_toArray, List.set_cons_zero, List.set_cons_succ, i64_w, i32_w]
            rfl
          refine take_ (i := 19) (N := some 34) (v := ?_) (a' := ?_) #[true, true, true, true, true, true, true, true, true, true, true, true, true, true, true, true, true, true, true, true, false, false, false] rfl rfl (by kernel_rfl) (fun _ _ _ h => h) (Or.inl ⟨by rfl, ?_⟩) hHeld ?_ ?_
          rotate_left
          · rintro w' ⟨s0, s1, s2, s3, s4, s5, s6, s7, s8, s9, s10, s11, s12, s13, s14, s15, s16, s17, s18⟩
            go_simp
            with_reducible rfl
          rotate_left
          · simp only [Act.put, List.setIfInBounds_toArray, List.set_cons_zero, List.set_cons_succ, i64_w, i32_w]
            rfl
          refine pure_ (i := 20) (N := some 35) (v := ?_) (a' := ?_) #[true, true, true, true, true, true, true, true, true, true, true, true, true, true, true, true, true, true, true, true, true, false, false] rfl rfl (by kernel_rfl) (fun _ _ _ h => h) (Or.inl ⟨by rfl, ?_⟩) ?_ ?_
          rotate_left
          · intro w'
            go_simp
            with_reducible rfl
          rotate_left
          · simp only [Act.put, List.setIfInBounds_toArray, List.set_cons_zero, List.set_cons_succ, i64_w, i32_w]
            rfl
          refine pure_ (i := 21) (N := some 36) (v := ?_) (a' := ?_) #[true, true, true, true, true, true, true, true, true, true, true, true, true, true, true, true, true, true, true, true, true, true, false] rfl rfl (by kernel_rfl) (fun _ _ _ h => h) (Or.inl ⟨by rfl, ?_⟩) ?_ ?_
          rotate_left
          · intro w'
            go_simp
            with_reducible rfl
          rotate_left
          · simp only [Act.put, List.setIfInBounds_toArray, List.set_cons_zero, List.set_cons_succ, i64_w, i32_w]
            rfl
          refine pure_ (i := 22) (N := some 37) (v := ?_) (a' := ?_) #[true, true, true, true, true, true, true, true, true, true, true, true, true, true, true, true, true, true, true, true, true, true, true] rfl rfl (by kernel_rfl) (fun _ _ _ h => h) (Or.inl ⟨by rfl, ?_⟩) ?_ ?_
          rotate_left
          · intro w'
            go_simp
            with_reducible rfl
          rotate_left
          · simp only [Act.put, List.setIfInBounds_toArray, List.set_cons_zero, List.set_cons_succ, i64_w, i32_w]
            rfl
          refine done_ (by kernel_rfl) ?_
          have HB3 := Lib.hid (below_step (below_drew (Below.refl _ W)) hb3)
          clear hHeld hb3
          clear l0 l1 l2 l3 l4 l5 l6 l7 l8 l9 l10 q0 q1 q2 q3 q4 q5 bc hb10
          gi_wp2
          have hfin : KeepsFrom W0.heap.size W w3 ∧ IGet w q (Bq q A4 c4 A5 c5) (pre ++ [d]) w3 := by
            have hg3 := HI.out.grow HB3.out
            refine ⟨keepsFrom_below _ HB3.out, hg3.below, hg3.b0, hg3.b1, ?_⟩
            rw [HBS.out, show pick q (some b) d = (some b) from HPK.out]
            have := hg3.b2
            rw [← HOO.out] at this
            exact this
          exact hfin
  case done =>
    intro D W hD hi hdf
    have HI := Lib.hid hi
    have hb2 := c_of hi.b2 0 (v := .pointer (ptr (best q xs))) rfl
    have HDF := Lib.hid hdf
    clear hi hdf hg30 hbx
    obtain ⟨o, ho⟩ : ∃ o, o = best q xs := ⟨_, rfl⟩
    rw [← ho] at hb2
    have HO := Lib.hid ho
    clear ho
    rcases o with _ | d
    · simp only [ptr] at hb2
      have z0 := c_of HI.out.b1 0 (v := .string ⟨#[]⟩) rfl
      have y0 := fr_of HI.out.b1 0
      have z1 := c_of HI.out.b1 1 (v := .string ⟨#[]⟩) rfl
      have y1 := fr_of HI.out.b1 1
      have z2 := c_of HI.out.b1 2 (v := .string ⟨#[]⟩) rfl
      have y2 := fr_of HI.out.b1 2
      have z3 := c_of HI.out.b1 3 (v := .string ⟨#[]⟩) rfl
      have y3 := fr_of HI.out.b1 3
      have z4 := c_of HI.out.b1 4 (v := .slice none 0 0) rfl
      have y4 := fr_of HI.out.b1 4
      have z5 := c_of HI.out.b1 5 (v := .slice none 0 0) rfl
      have y5 := fr_of HI.out.b1 5
      have z6 := c_of HI.out.b1 6 (v := .int .i64 0) rfl
      have y6 := fr_of HI.out.b1 6
      have z7 := c_of HI.out.b1 7 (v := .slice none 0 0) rfl
      have y7 := fr_of HI.out.b1 7
      have z8 := c_of HI.out.b1 8 (v := .slice none 0 0) rfl
      have y8 := fr_of HI.out.b1 8
      have z9 := c_of HI.out.b1 9 (v := .int .i64 0) rfl
      have y9 := fr_of HI.out.b1 9
      have z10 := c_of HI.out.b1 10 (v := .int .i64 0) rfl
      have y10 := fr_of HI.out.b1 10
      gi_wp2
      have hput := put11 HI.out.b1 (.string ⟨#[]⟩) (.string ⟨#[]⟩) (.string ⟨#[]⟩) (.string ⟨#[]⟩) (.slice none 0 0) (.slice none 0 0) (.int .i64 0) (.slice none 0 0) (.slice none 0 0) (.int .i64 0) (.int .i64 0)
      obtain ⟨W4, hW4⟩ : ∃ W4, W4 = (((((((((((W.setCell ⟨w.heap.size + 1, 0, none⟩ (.string ⟨#[]⟩)).setCell ⟨w.heap.size + 1, 1, none⟩ (.string ⟨#[]⟩)).setCell ⟨w.heap.size + 1, 2, none⟩ (.string ⟨#[]⟩)).setCell ⟨w.heap.size + 1, 3, none⟩ (.string ⟨#[]⟩)).setCell ⟨w.heap.size + 1, 4, none⟩ (.slice none 0 0)).setCell ⟨w.heap.size + 1, 5, none⟩ (.slice none 0 0)).setCell ⟨w.heap.size + 1, 6, none⟩ (.int .i64 0)).setCell ⟨w.heap.size + 1, 7, none⟩ (.slice none 0 0)).setCell ⟨w.heap.size + 1, 8, none⟩ (.slice none 0 0)).setCell ⟨w.heap.size + 1, 9, none⟩ (.int .i64 0)).setCell ⟨w.heap.size + 1, 10, none⟩ (.int .i64 0)) := ⟨_, rfl⟩
      rw [← hW4] at hput ⊢
      have far : ∀ k, k ≠ w.heap.size + 1 → W4.heap[k]? = W.heap[k]? := by
        intro k hk
        rw [hW4]
        iterate 11 rw [heap_setCell_other _ _ _ _ hk]
      have hbel : Below w.heap.size w W4 := by
        rw [hW4]
        repeat (refine Below.setCell ?_ (by simp) _)
        exact HI.out.below
      have hlt1 := blk_lt' HI.out.b1
      have hd4 : W4.heap[D]? = some (.deferred (some [])) := (far D (by omega)).trans HDF.out
      clear hW4
      refine ⟨by simp, .inl ⟨_, _, rfl, run_takeDeferred hd4, ?_⟩⟩
      have h6 := putObj_keeps (o' := .deferred none) hput hd4 rfl
      have hres := c_of h6 0 rfl
      have r0 := c_of h6 0 (v := .string ⟨#[]⟩) rfl
      have r1 := c_of h6 1 (v := .string ⟨#[]⟩) rfl
      have r2 := c_of h6 2 (v := .string ⟨#[]⟩) rfl
      have r3 := c_of h6 3 (v := .string ⟨#[]⟩) rfl
      have r4 := c_of h6 4 (v := .slice none 0 0) rfl
      have r5 := c_of h6 5 (v := .slice none 0 0) rfl
      have r6 := c_of h6 6 (v := .int .i64 0) rfl
      have r7 := c_of h6 7 (v := .slice none 0 0) rfl
      have r8 := c_of h6 8 (v := .slice none 0 0) rfl
      have r9 := c_of h6 9 (v := .int .i64 0) rfl
      have r10 := c_of h6 10 (v := .int .i64 0) rfl
      refine ⟨.tuple #[.agg #[.string ⟨#[]⟩, .string ⟨#[]⟩, .string ⟨#[]⟩, .string ⟨#[]⟩, .slice none 0 0, .slice none 0 0, .int .i64 0, .slice none 0 0, .slice none 0 0, .int .i64 0, .int .i64 0], .bool false], by simp [results, Tryd.f15, go_sem, r0, r1, r2, r3, r4, r5, r6, r7, r8, r9, r10], ?_, .inl ⟨HO.out.symm, rfl, ?_⟩⟩
      · have hb5 : Below w.heap.size w (W4.putObj D (.deferred none)) := ⟨hbel.os, hbel.tape, hbel.output, by simpa using hbel.size, fun i hi => (World.putObj_heap_other (by omega)).trans (hbel.block i hi)⟩
        exact Only.below hb5
      · exact (HS.out.keep (hbel.block _ hgl) (fun e he => hbel.block _ (hml _ (.inr ⟨e, he, rfl⟩)))).putObj hd4 rfl
    · simp only [ptr] at hb2
      have hdm := best_mem q xs d HO.out.symm
      obtain ⟨l1, l2, hsp⟩ := List.append_of_mem hdm
      have HSP := Lib.hid hsp
      have hdz := hz d hdm
      have hzd : d.z ≤ zs xs := by
        rw [hsp, zs_append]
        have h1 := zs_nonneg l1 (fun e he => hz e (by rw [hsp]; simp [he]))
        have h2 := zs_nonneg l2 (fun e he => hz e (by rw [hsp]; simp [he]))
        simp only [zs]; omega
      have HSW : Hid (StoreAt W g cap (zs xs) (l1 ++ d :: l2)) := Lib.hid (hsp ▸ HS.out.below HI.out.below)
      have hnm : ¬ Mine g (l1 ++ l2) d.b := by
        have hn := HSW.out.nd
        rintro (e | ⟨f, hf, e⟩)
        · exact (List.nodup_cons.1 hn).1 (by rw [← e]; simp)
        · rw [List.map_append, List.map_cons] at hn
          have h2 := (List.nodup_cons.1 hn).2
          have h3 := List.nodup_append.1 h2
          rcases List.mem_append.1 hf with hf | hf
          · exact h3.2.2 _ (List.mem_map.2 ⟨f, hf, rfl⟩) _ (List.mem_cons_self ..) e.symm
          · exact (List.nodup_cons.1 h3.2.1).1 (by rw [e]; exact List.mem_map.2 ⟨f, hf, rfl⟩)
      have HM1 : Hid (∀ k, Mine g (l1 ++ d :: l2) k → Mine g xs k) := Lib.hid (by rw [hsp]; exact fun k h => h)
      have HM2 : Hid (∀ k, Mine g (d :: (l1 ++ l2)) k → Mine g xs k) := Lib.hid (fun k h => h.mono (fun e he => by
        rw [hsp]
        rcases List.mem_cons.1 he with rfl | he
        · simp
        · rcases List.mem_append.1 he with he | he <;> simp [he]))
      have hw1 : wrap64 (wrap64 (zs xs - d.z) + d.z) = zs xs := by unfold wrap64; omega
      have HW1 := Lib.hid hw1
      have HE := Lib.hid (HX.out d hdm)
      clear hsp hw1
      have hsW := HI.out.below.size
      have hlt2 := blk_lt' HI.out.b2
      gi_wp2_with (first
        | (refine ⟨trivial, ?_⟩; gi_at_call 32; refine (callsIn_wide.2 (out_at W g cap _ l1 l2 d HSW.out)).mono ?_; rintro e w5 ⟨⟨v5, rfl⟩, hs5, hb5, ho5⟩; have n5 := (ho5.block _ hlt2 (fun hm => by have := hml _ (HM1.out _ hm); omega)).trans HI.out.b2; rw [← HO.out] at n5; have c5 := c_of n5 0 (v := .pointer (some (at0 d.b))) rfl; have HS5 := Lib.hid hs5; have HD5 := Lib.hid hb5; have HO5 := Lib.hid ho5; have HN5 := Lib.hid n5; clear hs5 hb5 ho5 n5)
        | (refine ⟨trivial, ?_⟩; gi_at_call 33; refine (callsIn_wide.2 (in_at w5 g cap _ (l1 ++ l2) d none HS5.out HD5.out hnm)).mono ?_; rintro e w6 ⟨⟨v6, rfl⟩, hs6, ho6⟩; rw [HW1.out] at hs6; have n6 := (ho6.block _ (blk_lt' HN5.out) (fun hm => by have := hml _ (HM2.out _ hm); omega)).trans HN5.out; have c6 := c_of n6 0 (v := .pointer (some (at0 d.b))) rfl; obtain ⟨p6, n6', hl6⟩ := hs6.mem d (List.mem_cons_self ..); obtain ⟨l0, l1_, l2_, l3, l4, l5, l6, l7, l8, l9, l10⟩ := link_cells hl6; have HS6 := Lib.hid hs6; have HO6 := Lib.hid ho6; clear hs6 ho6 n6 hl6)
        | (refine ⟨trivial, ?_⟩; gi_at_call 29; refine (callsIn_wide.2 (own_calls2 w6 P d.x d.r (((HE.out.1.below HI.out.below).only HO5.out (fun k hk hm => hP k hk (HM1.out _ hm))).only HO6.out (fun k hk hm => hP k hk (HM2.out _ hm))) HE.out.2.1)).mono ?_; rintro e w7 ⟨r7, rfl, hb7, hE7⟩; have HB7 := Lib.hid hb7; have HE7 := Lib.hid hE7; have t5 := (HO5.out.block _ (blk_lt' HI.out.b1) (fun hm => by have := hml _ (HM1.out _ hm); omega)).trans HI.out.b1; have t6 := (HO6.out.block _ (blk_lt' t5) (fun hm => by have := hml _ (HM2.out _ hm); omega)).trans t5; have t7 := (hb7.block _ (blk_lt' t6)).trans t6; have z0 := c_of t7 0 (v := .string ⟨#[]⟩) rfl; have y0 := fr_of t7 0; have z1 := c_of t7 1 (v := .string ⟨#[]⟩) rfl; have y1 := fr_of t7 1; have z2 := c_of t7 2 (v := .string ⟨#[]⟩) rfl; have y2 := fr_of t7 2; have z3 := c_of t7 3 (v := .string ⟨#[]⟩) rfl; have y3 := fr_of t7 3; have z4 := c_of t7 4 (v := .slice none 0 0) rfl; have y4 := fr_of t7 4; have z5 := c_of t7 5 (v := .slice none 0 0) rfl; have y5 := fr_of t7 5; have z6 := c_of t7 6 (v := .int .i64 0) rfl; have y6 := fr_of t7 6; have z7 := c_of t7 7 (v := .slice none 0 0) rfl; have y7 := fr_of t7 7; have z8 := c_of t7 8 (v := .slice none 0 0) rfl; have y8 := fr_of t7 8; have z9 := c_of t7 9 (v := .int .i64 0) rfl; have y9 := fr_of t7 9; have z10 := c_of t7 10 (v := .int .i64 0) rfl; have y10 := fr_of t7 10; have HT7 := Lib.hid t7; clear hb7 hE7 t5 t6 t7))
      have hput := put11 HT7.out (.string d.x.f0.f0) (.string d.x.f0.f1) (.string d.x.f0.f2) (.string d.x.f0.f3) (.slice r7.A4 d.x.f0.f4.length r7.c4) (.slice r7.A5 d.x.f0.f5.length r7.c5) (.int .i64 d.x.f1.f0) (.slice r7.A7 d.x.f1.f1.length r7.c7) (.slice r7.A8 d.x.f1.f2.length r7.c8) (.int .i64 d.x.f2) (.int .i64 d.x.f3)
      obtain ⟨W8, hW8⟩ : ∃ W8, W8 = (((((((((((w7.setCell ⟨w.heap.size + 1, 0, none⟩ (.string d.x.f0.f0)).setCell ⟨w.heap.size + 1, 1, none⟩ (.string d.x.f0.f1)).setCell ⟨w.heap.size + 1, 2, none⟩ (.string d.x.f0.f2)).setCell ⟨w.heap.size + 1, 3, none⟩ (.string d.x.f0.f3)).setCell ⟨w.heap.size + 1, 4, none⟩ (.slice r7.A4 d.x.f0.f4.length r7.c4)).setCell ⟨w.heap.size + 1, 5, none⟩ (.slice r7.A5 d.x.f0.f5.length r7.c5)).setCell ⟨w.heap.size + 1, 6, none⟩ (.int .i64 d.x.f1.f0)).setCell ⟨w.heap.size + 1, 7, none⟩ (.slice r7.A7 d.x.f1.f1.length r7.c7)).setCell ⟨w.heap.size + 1, 8, none⟩ (.slice r7.A8 d.x.f1.f2.length r7.c8)).setCell ⟨w.heap.size + 1, 9, none⟩ (.int .i64 d.x.f2)).setCell ⟨w.heap.size + 1, 10, none⟩ (.int .i64 d.x.f3)) := ⟨_, rfl⟩
      rw [← hW8] at hput ⊢
      have O8 : Only (fun k => k = w.heap.size + 1) w7 W8 := by
        rw [hW8]
        repeat (refine Only.setCell ?_ (by rfl) _)
        exact Only.refl _ _
      clear hW8
      have hw7 : w.heap.size + 1 < w7.heap.size := blk_lt' HT7.out
      have far : ∀ k, k < w7.heap.size → k ≠ w.heap.size + 1 → W8.heap[k]? = w7.heap[k]? := fun k hk hne => O8.block k hk hne
      have HPUT := Lib.hid hput
      clear hput
      have hs56 := HO5.out.size
      have hs67 := HO6.out.size
      have hs7 := HB7.out.size
      have o7 : Only (Mine g xs) w w7 := ((((Only.below (HI.out.below)).trans (HO5.out.mono HM1.out)).trans (HO6.out.mono HM2.out)).trans (Only.below (HB7.out)))
      have o8 : Only (Mine g xs) w W8 := ⟨O8.os.trans o7.os, O8.tape.trans o7.tape, O8.output.trans o7.output, Nat.le_trans o7.size O8.size, fun k hk hm => (far k (by have := o7.size; omega) (by omega)).trans (o7.block k hk hm)⟩
      have hdfk : ∀ X Y : World, ∀ S : Nat → Prop, Only S X Y → (∀ k, S k → k < w.heap.size) → X.heap[D]? = some (.deferred (some [])) → Y.heap[D]? = some (.deferred (some [])) := fun X Y S ho hk hx => (ho.block D (blk_lt' hx) (fun hm => by have := hk _ hm; omega)).trans hx
      have d5 := hdfk _ _ _ HO5.out (fun k hk => hml k (HM1.out k hk)) HDF.out
      have d6 := hdfk _ _ _ HO6.out (fun k hk => hml k (HM2.out k hk)) d5
      have d7 : w7.heap[D]? = some (.deferred (some [])) := (HB7.out.block _ (blk_lt' d6)).trans d6
      have hd8 : W8.heap[D]? = some (.deferred (some [])) := (far D (blk_lt' d7) (by omega)).trans d7
      refine ⟨by simp, .inl ⟨_, _, rfl, run_takeDeferred hd8, ?_⟩⟩
      have h6 := putObj_keeps (o' := .deferred none) HPUT.out hd8 rfl
      have r0 := c_of h6 0 (v := .string d.x.f0.f0) rfl
      have r1 := c_of h6 1 (v := .string d.x.f0.f1) rfl
      have r2 := c_of h6 2 (v := .string d.x.f0.f2) rfl
      have r3 := c_of h6 3 (v := .string d.x.f0.f3) rfl
      have r4 := c_of h6 4 (v := .slice r7.A4 d.x.f0.f4.length r7.c4) rfl
      have r5 := c_of h6 5 (v := .slice r7.A5 d.x.f0.f5.length r7.c5) rfl
      have r6 := c_of h6 6 (v := .int .i64 d.x.f1.f0) rfl
      have r7_ := c_of h6 7 (v := .slice r7.A7 d.x.f1.f1.length r7.c7) rfl
      have r8 := c_of h6 8 (v := .slice r7.A8 d.x.f1.f2.length r7.c8) rfl
      have r9 := c_of h6 9 (v := .int .i64 d.x.f2) rfl
      have r10 := c_of h6 10 (v := .int .i64 d.x.f3) rfl
      refine ⟨.tuple #[.agg (Vx d.x r7), .bool true], by simp [results, Tryd.f15, go_sem, r0, r1, r2, r3, r4, r5, r6, r7_, r8, r9, r10], o8.putObj (by omega) _, .inr ⟨l1, d, l2, r7, HSP.out, HO.out.symm, rfl, ?_, ?_⟩⟩
      · have hE8 := HE7.out.keep (fun k hk => far k hk.2.lt (by have h1 : w6.heap.size ≤ k := hk.1; have := blk_lt' HI.out.b1; omega))
        refine (hE8.putObj hd8 rfl).mono (fun k hk => ?_)
        have h1 : w6.heap.size ≤ k := hk.1
        obtain ⟨cs, t, h2⟩ := hk.2.of (far k hk.2.lt (by have := blk_lt' HI.out.b1; omega))
        exact ⟨by show w.heap.size ≤ k; omega, cs, t, putObj_keeps h2 hd8 rfl⟩
      · have hS7 := HS6.out.below HB7.out
        refine StoreAt.putObj (hS7.keep (far _ (blk_lt' hS7.head) (by omega)) (fun e he => far _ (hS7.lt e he) ?_)) hd8 rfl
        have := hml _ (HM2.out _ (.inr ⟨e, he, rfl⟩))
        omega
theorem get_made (w : World) (g : Nat) (cap : Int) (xs : List Nd) (P : Nat → Prop) (q : S31) (A4 : Option Addr) (c4 : Nat) (A5 : Option Addr) (c5 : Nat) (h : StoreAt w g cap (zs xs) xs)
    (hx : ∀ d ∈ xs, Ex w P d.x d.r ∧ Fits d.x ∧ d.x.f0.f4.length < 1099511627776 ∧ wt d.x.f1.f1 < 268435456) (hP : ∀ k, P k → ¬ Mine g xs k) (hz : ∀ d ∈ xs, 0 ≤ d.z) (hzs : zs xs ≤ 65536)
    (hC : Kd.C k63 w A4 q.f4.length q.f4) (hc : q.f4.length ≤ c4) (hq : q.f4.length < 1099511627776) :
    Calls Tryd.prog 15 #[.pointer (some (at0 g)), .agg (Vq q A4 c4 A5 c5)] w fun e w' => Only (Mine g xs) w w' ∧
      ((best q xs = none ∧ e = .returned (.tuple #[.agg #[.string ⟨#[]⟩, .string ⟨#[]⟩, .string ⟨#[]⟩, .string ⟨#[]⟩, .slice none 0 0, .slice none 0 0, .int .i64 0, .slice none 0 0, .slice none 0 0, .int .i64 0, .int .i64 0], .bool false]) ∧ StoreAt w' g cap (zs xs) xs) ∨
       (∃ l1 d l2 r', xs = l1 ++ d :: l2 ∧ best q xs = some d ∧ e = .returned (.tuple #[.agg (Vx d.x r'), .bool true]) ∧ Ex w' (fun k => w.heap.size ≤ k) d.x r' ∧ StoreAt w' g cap (zs xs) (d :: (l1 ++ l2)))) := by
  refine (get_made2 w g cap xs P q A4 c4 A5 c5 h hx hP hz hzs hC hc hq).mono ?_
  rintro e w' ⟨ho, h1 | ⟨l1, d, l2, r', h1, h2, h3, h4, h5⟩⟩
  · exact ⟨ho, .inl h1⟩
  · exact ⟨ho, .inr ⟨l1, d, l2, r', h1, h2, h3, h4.mono (fun k hk => hk.1), h5⟩⟩
end Go.Proofs.YtkbbjjegpjdpeaaDoor.S
/- (not yet a claim) the sizes of exchanges -/
namespace Go.Proofs.YtkbbjjegpjdpeaaDoor.V
open Go.RowKit Go.Proofs.YtkbbjjegpjdpeaaDoorW.PrintWords Go.Proofs.YtkbbjjegpjdpeaaDoorW.PrintLast Go.Proofs.YtkbbjjegpjdpeaaDoorW.PrintMore Go.Proofs.YtkbbjjegpjdpeaaDoor.G
set_option linter.unusedVariables false
set_option linter.unusedSimpArgs false
theorem wid (x : Int) (h0 : 0 ≤ x) (h1 : x < 4611686018427387904) : wrap64 x = x := by unfold wrap64; omega
def wg : List S63 → Int
  | [] => 0
  | f :: t => ((f.f0.size : Int) + (f.f1.size : Int) + 8) + wg t
theorem wg_nonneg : ∀ l, 0 ≤ wg l
  | [] => by simp [wg]
  | f :: t => by have := wg_nonneg t; unfold wg; omega
theorem wg_le : ∀ l, wg l ≤ 8 * (wt l : Int)
  | [] => by simp [wg, wt]
  | f :: t => by
    have := wg_le t
    unfold wt at *
    simp only [List.map_cons, List.sum_cons]
    unfold wg
    omega

theorem weigh_l0 (l : List S63) (hl : l.length < 1099511627776) : ∀ (rest : List S63) (i : Nat) (acc : Int) (k : Nat), l.drop i = rest → 0 ≤ acc → acc + wg rest < 4611686018427387904 → rest.length + 1 ≤ k →
    store_weigh.l0 k acc l (l.length : Int) (i : Int) = some (acc + wg rest)
  | [], i, acc, k, h, ha, hb, hk => by
    obtain ⟨k, rfl⟩ : ∃ k', k = k' + 1 := ⟨k - 1, by omega⟩
    have := drop_nil_len h
    unfold store_weigh.l0
    rw [if_neg (by omega)]
    simp [wg]
  | f :: rest, i, acc, k, h, ha, hb, hk => by
    obtain ⟨k, rfl⟩ : ∃ k', k = k' + 1 := ⟨k - 1, by omega⟩
    obtain ⟨h1, h2, h3⟩ := rd63_at h
    have hn := wg_nonneg rest
    simp only [List.length_cons] at hk
    simp only [wg] at hb
    have hw : wrap64 (acc + wrap64 (wrap64 ((f.f0.size : Int) + (f.f1.size : Int)) + 8)) = acc + ((f.f0.size : Int) + (f.f1.size : Int) + 8) := by
      rw [wid ((f.f0.size : Int) + (f.f1.size : Int)) (by omega) (by omega), wid ((f.f0.size : Int) + (f.f1.size : Int) + 8) (by omega) (by omega), wid (acc + ((f.f0.size : Int) + (f.f1.size : Int) + 8)) (by omega) (by omega)]
    unfold store_weigh.l0
    rw [if_pos (by omega), if_pos (by omega), if_pos (by omega), h1, w64 i (by omega), hw, weigh_l0 l hl rest (i + 1) _ k h2 (by omega) (by omega) (by omega)]
    simp only [wg]
    congr 1
    omega
theorem weigh_f (l : List S63) (hl : wt l < 268435456) (k : Nat) (hk : l.length + 1 ≤ k) : store_weigh.f k l = some (wg l) := by
  have h1 := wg_le l
  have h2 := wt_len l
  have := weigh_l0 l (by omega) l 0 0 k rfl (by omega) (by omega) hk
  rw [Int.zero_add] at this
  exact this


/-- an exchange of a small bulk -/
structure Sm (x : S41) : Prop where
  a1 : x.f0.f1.size < 268435456
  a2 : x.f0.f2.size < 268435456
  a3 : x.f0.f3.size < 268435456
  a4 : wt x.f0.f4 < 268435456
  a5 : x.f0.f5.length < 268435456
  a7 : wt x.f1.f1 < 268435456
  a8 : x.f1.f2.length < 268435456
def sizeI (x : S41) : Int := 64 + (x.f0.f1.size : Int) + (x.f0.f2.size : Int) + (x.f0.f3.size : Int) + (x.f1.f2.length : Int) + wg x.f0.f4 + wg x.f1.f1
theorem sizeI_lo (x : S41) : 64 ≤ sizeI x := by
  have h1 := wg_nonneg x.f0.f4
  have h2 := wg_nonneg x.f1.f1
  unfold sizeI; omega
theorem sizeI_hi (x : S41) (h : Sm x) : sizeI x < 8589934592 := by
  have h1 := wg_le x.f0.f4
  have h2 := wg_le x.f1.f1
  obtain ⟨a1, a2, a3, a4, a5, a7, a8⟩ := h
  unfold sizeI; omega
theorem sum_wraps (a1 a2 a3 a8 : Nat) (g1 g2 : Int) (h1 : a1 < 268435456) (h2 : a2 < 268435456) (h3 : a3 < 268435456) (h8 : a8 < 268435456) (k1 : 0 ≤ g1) (k2 : 0 ≤ g2) (k3 : g1 < 4294967296) (k4 : g2 < 4294967296) :
    wrap64 (wrap64 (wrap64 (wrap64 (wrap64 (wrap64 (64 + (a1 : Int)) + (a2 : Int)) + (a3 : Int)) + (a8 : Int)) + g1) + g2) = 64 + (a1 : Int) + (a2 : Int) + (a3 : Int) + (a8 : Int) + g1 + g2 := by
  rw [wid (64 + (a1 : Int)) (by omega) (by omega), wid (64 + (a1 : Int) + (a2 : Int)) (by omega) (by omega), wid (64 + (a1 : Int) + (a2 : Int) + (a3 : Int)) (by omega) (by omega), wid (64 + (a1 : Int) + (a2 : Int) + (a3 : Int) + (a8 : Int)) (by omega) (by omega), wid (64 + (a1 : Int) + (a2 : Int) + (a3 : Int) + (a8 : Int) + g1) (by omega) (by omega), wid _ (by omega) (by omega)]
theorem size_f (x : S41) (h : Sm x) : Ev (fun k => store_Size.f k x.f0.f0 x.f0.f1 x.f0.f2 x.f0.f3 x.f0.f4 x.f0.f5 x.f1.f0 x.f1.f1 x.f1.f2 x.f2 x.f3) (sizeI x) := by
  refine ⟨x.f0.f4.length + x.f1.f1.length + 1, fun k hk => ?_⟩
  simp only
  unfold store_Size.f
  rw [weigh_f _ h.a4 k (by omega), Option.bind_some, weigh_f _ h.a7 k (by omega), Option.bind_some]
  have h1 := wg_le x.f0.f4
  have h2 := wg_le x.f1.f1
  have h3 := h.a4
  have h4 := h.a7
  rw [sum_wraps _ _ _ _ _ _ h.a1 h.a2 h.a3 h.a8 (wg_nonneg _) (wg_nonneg _) (by omega) (by omega)]
  rfl
end Go.Proofs.YtkbbjjegpjdpeaaDoor.V
/- (not yet a claim) what is dropped: Purge, Prefix -/
namespace Go.Proofs.YtkbbjjegpjdpeaaDoor.S
open Go.RowKit Go.Proofs.YtkbbjjegpjdpeaaDoorW.PrintWords Go.Proofs.YtkbbjjegpjdpeaaDoorW.PrintLast Go.Proofs.YtkbbjjegpjdpeaaDoorW.PrintMore Go.Proofs.YtkbbjjegpjdpeaaDoor.G Go.Proofs.YtkbbjjegpjdpeaaDoor.V
set_option linter.unusedVariables false
set_option linter.unusedSimpArgs false

set_option maxRecDepth 100000 in
set_option maxHeartbeats 4000000 in
theorem c42 (W : World) (P0 : Nat) (P Px : Nat → Prop) (x y : S41) (r ry : Rf) (hb : W.heap[P0]? = some (Bx x r)) (hx : Ex W Px x r) (hy : Ex W P y ry) (h1 : y.f0.f4.length < 1099511627776) (h2 : x.f0.f4.length < 1099511627776) (h3 : wt y.f1.f1 < 268435456) :
    Calls Tryd.prog 42 #[.agg (Vx y ry), .pointer (some (at0 P0))] W fun e w' => e = .returned (.bool (matchB y x.f0)) ∧ Below W.heap.size W w' := by
  have hlt := blk_lt' hb
  have HM := Lib.hid (fun W' (hW : Below W.heap.size W W') => matches_calls W' P y ry x.f0 r.A4 r.c4 r.A5 r.c5 (hy.below hW) (hx.below hW).g4 hx.l4 h1 h2 h3)
  obtain ⟨l0, l1, l2, l3, l4, l5, -⟩ := bx_cells hb
  clear hb hx hy
  go_enter Tryd.func42, Tryd.ntmps42
  go_wp2_with (go_at_call 31; refine (HM.out _ (by exact below_alloc (Below.refl _ _) _)).mono ?_; rintro e w3 ⟨rfl, hb3⟩; have HB3 := Lib.hid (below_step (below_alloc (Below.refl _ W) _) hb3); clear hb3)
  go_ret
  exact ⟨rfl, HB3.out⟩

theorem below_alloc3 (w : World) (a b c : Obj) : Below w.heap.size w (((w.alloc a).alloc b).alloc c) := below_alloc (below_alloc (below_alloc (Below.refl _ _) _) _) _
theorem purge_no (w : World) (q : Option Addr) (s h p : ByteArray) (hno : ∀ W, Below w.heap.size w W → Calls Tryd.prog 27 #[.pointer q] W fun e w' => e = .returned (.bool false) ∧ w' = W) : Calls Tryd.prog 23 #[.pointer q, .string s, .string h, .string p] w fun e w' => e = .returned (.int .i64 0) ∧ Below w.heap.size w w' := by
  have HN := Lib.hid (hno _ (below_alloc3 w (.cells #[.string s] 9) (.cells #[.string h] 9) (.cells #[.string p] 9)))
  clear hno
  go_enter Tryd.func23, Tryd.ntmps23
  go_wp2_with (first | (go_at_call 27; refine HN.out.mono ?_; rintro e w' ⟨rfl, h_⟩; obtain rfl := h_.symm))
  go_ret
  exact ⟨rfl, by exact below_alloc3 _ _ _ _⟩


theorem prefix__no (w : World) (q : Option Addr) (s h p : ByteArray) (hno : ∀ W, Below w.heap.size w W → Calls Tryd.prog 27 #[.pointer q] W fun e w' => e = .returned (.bool false) ∧ w' = W) : Calls Tryd.prog 24 #[.pointer q, .string s, .string h, .string p] w fun e w' => e = .returned (.int .i64 0) ∧ Below w.heap.size w w' := by
  have HN := Lib.hid (hno _ (below_alloc3 w (.cells #[.string s] 9) (.cells #[.string h] 9) (.cells #[.string p] 9)))
  clear hno
  go_enter Tryd.func24, Tryd.ntmps24
  go_wp2_with (first | (go_at_call 27; refine HN.out.mono ?_; rintro e w' ⟨rfl, h_⟩; obtain rfl := h_.symm))
  go_ret
  exact ⟨rfl, by exact below_alloc3 _ _ _ _⟩
end Go.Proofs.YtkbbjjegpjdpeaaDoor.S
/- (not yet a claim) the store's Put -/
namespace Go.Proofs.YtkbbjjegpjdpeaaDoor.S
open Go.RowKit Go.Proofs.YtkbbjjegpjdpeaaDoorW.PrintWords Go.Proofs.YtkbbjjegpjdpeaaDoorW.PrintLast Go.Proofs.YtkbbjjegpjdpeaaDoorW.PrintMore Go.Proofs.YtkbbjjegpjdpeaaDoor.G Go.Proofs.YtkbbjjegpjdpeaaDoor.V
set_option linter.unusedVariables false
set_option linter.unusedSimpArgs false

theorem size_calls (w : World) (P : Nat → Prop) (x : S41) (r : Rf) (h : Ex w P x r) (hs : Sm x) : Calls Tryd.prog 26 #[.agg (Vx x r)] w fun e w' => e = .returned (.int .i64 (sizeI x)) ∧ Below w.heap.size w w' := by
  obtain ⟨K, hK⟩ := size_f x hs
  exact store_Size.calls K _ _ _ _ r.A4 r.c4 _ r.A5 r.c5 _ _ r.A7 r.c7 _ r.A8 r.c8 _ _ _ _ w h.g4 h.l4 h.g5 h.l5 h.g7 h.l7 h.g8 h.l8 (hK K (Nat.le_refl _))
theorem sm_fits {x : S41} (h : Sm x) : Fits x := by
  obtain ⟨a1, a2, a3, a4, a5, a7, a8⟩ := h
  have h1 := wt_len x.f0.f4
  have h2 := wt_len x.f1.f1
  exact ⟨by omega, by omega, by omega, by omega⟩
theorem sm_len4 {x : S41} (h : Sm x) : x.f0.f4.length < 1099511627776 := by
  have h1 := wt_len x.f0.f4
  have := h.a4
  omega
/-- behind the drop: what is put in -/
def ys (xs : List Nd) (x : S41) : List Nd := xs.filter (fun d => !matchB d.x x.f0)

/-- where a Put stands before the room is made -/
structure Mid (w : World) (g : Nat) (cap : Int) (xs : List Nd) (x : S41) (lb : Nat) (r' : Rf) (kept gone : List Nd) (W : World) : Prop where
  split : ys xs x = kept ++ gone
  st : StoreAt W g cap (zs kept) kept
  only : Only (Mine g xs) w W
  lk : W.heap[lb]? = some (Lc x r' (sizeI x) none none)
  ex : Ex W (fun k => w.heap.size ≤ k ∧ k < lb) x r'
  tight : ∀ h t, gone = h :: t → cap - sizeI x < zs kept + h.z
theorem Mid.grow {w : World} {g : Nat} {cap : Int} {xs : List Nd} {x : S41} {lb : Nat} {r' : Rf} {kept gone : List Nd} {W W' : World} (h : Mid w g cap xs x lb r' kept gone W) (hb : Below W.heap.size W W') : Mid w g cap xs x lb r' kept gone W' :=
  ⟨h.split, h.st.below hb, h.only.then hb, (hb.block _ (blk_lt' h.lk)).trans h.lk, h.ex.below hb, h.tight⟩
theorem ys_mem {xs : List Nd} {x : S41} {kept gone : List Nd} (h : ys xs x = kept ++ gone) : ∀ d ∈ kept, d ∈ xs := fun d hd => by
  have : d ∈ ys xs x := by rw [h]; exact List.mem_append.2 (.inl hd)
  exact (List.mem_filter.1 this).1

set_option maxRecDepth 100000 in
set_option maxHeartbeats 8000000 in
theorem put_made (w : World) (g : Nat) (cap : Int) (xs : List Nd) (P : Nat → Prop) (x : S41) (r : Rf) (hS : StoreAt w g cap (zs xs) xs) (hx : ∀ d ∈ xs, Ex w P d.x d.r ∧ Sm d.x) (hP : ∀ k, P k → ¬ Mine g xs k) (hz : ∀ d ∈ xs, 0 ≤ d.z) (hzs : zs xs ≤ cap)
    (hlen : xs.length ≤ 65536) (h0 : 0 ≤ cap) (h1 : cap ≤ 65536) (hxx : Ex w P x r) (hsx : Sm x) :
    Calls Tryd.prog 21 #[.pointer (some (at0 g)), .agg (Vx x r)] w fun e w' => Only (Mine g xs) w w' ∧
      ((rightB x = false ∧ e = .returned (.int .i64 1) ∧ StoreAt w' g cap (zs xs) xs) ∨
       (rightB x = true ∧ cap < sizeI x ∧ e = .returned (.int .i64 6) ∧ StoreAt w' g cap (zs (ys xs x)) (ys xs x)) ∨
       (rightB x = true ∧ sizeI x ≤ cap ∧ e = .returned (.int .i64 0) ∧ ∃ kept gone d, ys xs x = kept ++ gone ∧ d.x = x ∧ d.z = sizeI x ∧ w.heap.size ≤ d.b ∧ Ex w' (fun k => w.heap.size ≤ k ∧ k < d.b) d.x d.r ∧ zs kept ≤ cap - sizeI x ∧ (∀ h t, gone = h :: t → cap - sizeI x < zs kept + h.z) ∧ StoreAt w' g cap (zs (d :: kept)) (d :: kept))) := by
  have hml : ∀ k, Mine g xs k → k < w.heap.size := fun k hk => mine_lt hS hk
  have hb1 : Below w.heap.size w (w.alloc (.cells (Vx x r) 41)) := below_alloc (Below.refl _ _) _
  have hbx : (w.alloc (.cells (Vx x r) 41)).heap[w.heap.size]? = some (Bx x r) := heap_alloc_new w _
  have hW1s : (w.alloc (.cells (Vx x r) 41)).heap.size = w.heap.size + 1 := by simp
  have HOK := Lib.hid (fun W (hW : Below w.heap.size w W) => ok_made W g cap (zs xs) _ _ (hS.below hW).head)
  have HR := Lib.hid (fun W (hW : Below w.heap.size w W) => right_calls W P x r (hxx.below hW))
  have HDR := Lib.hid (fun W (hW : Below (w.alloc (.cells (Vx x r) 41)).heap.size (w.alloc (.cells (Vx x r) 41)) W) => drop_42 W g cap xs (fun d => matchB d.x x.f0) w.heap.size (hS.below (hb1.trans (hW.mono (by simp)))) hz (by omega) hlen
    (fun W' d hd ho => c42 W' w.heap.size P P x d.x r d.r ((ho.block _ (by have := hW.size; simp at this; omega) (fun hm => by have := hml _ hm; omega)).trans ((hW.block _ (by simp)).trans hbx)) ((hxx.below (hb1.trans (hW.mono (by simp)))).only ho hP) (((hx d hd).1.below (hb1.trans (hW.mono (by simp)))).only ho hP) (sm_len4 (hx d hd).2) (sm_len4 hsx) (hx d hd).2.a7))
  have HXX := Lib.hid hxx
  have HSX := Lib.hid hsx
  have HS := Lib.hid hS
  have HBX := Lib.hid hbx
  have HB1 := Lib.hid hb1
  clear hS hx hxx hsx hbx hb1
  have l := bx_cells HBX.out
  obtain ⟨l0, l1, l2, l3, l4, l5, l6, l7, l8, l9, l10⟩ := l
  obtain ⟨b, hb⟩ : ∃ b, b = rightB x := ⟨_, rfl⟩
  have HRB := Lib.hid hb
  rw [← hb] at HR
  clear hb
  go_enter Tryd.func21, Tryd.ntmps21
  rcases b with _ | _
  · go_wp2_with (first | (go_at_call 27; refine (HOK.out _ (by exact HB1.out)).mono ?_; rintro e w' ⟨rfl, h_⟩; obtain rfl := h_.symm) | (go_at_call 40; refine (HR.out _ HB1.out).mono ?_; rintro e w3 ⟨rfl, hb3⟩; have HB3 := Lib.hid (below_step HB1.out hb3); clear hb3))
    go_ret
    exact ⟨Only.below HB3.out, .inl ⟨HRB.out.symm, rfl, HS.out.below HB3.out⟩⟩
  · go_upto_region 6 with (first | (go_at_call 27; refine (HOK.out _ (by exact HB1.out)).mono ?_; rintro e w' ⟨rfl, h_⟩; obtain rfl := h_.symm) | (go_at_call 40; refine (HR.out _ HB1.out).mono ?_; rintro e w3 ⟨rfl, hb3⟩; have HB3 := Lib.hid hb3; clear hb3) | (go_at_call 41; refine (HDR.out _ HB3.out).mono ?_; rintro e w5 ⟨rfl, hs5, ho5⟩; have HS5 := Lib.hid hs5; have HO5 := Lib.hid ho5; clear hs5 ho5))
    have n5 := (HO5.out.block _ (by have := HB3.out.size; simp at this; omega) (fun hm => by have := hml _ hm; omega)).trans ((HB3.out.block _ (by simp)).trans HBX.out)
    clear l0 l1 l2 l3 l4 l5 l6 l7 l8 l9 l10
    obtain ⟨l0, l1, l2, l3, l4, l5, l6, l7, l8, l9, l10⟩ := bx_cells n5
    have HE5 := Lib.hid ((HXX.out.below (HB1.out.trans (HB3.out.mono (by simp)))).only HO5.out hP)
    have HO05 : Hid (Only (Mine g xs) w w5) := Lib.hid ((Only.below (HB1.out.trans (HB3.out.mono (by simp)))).trans HO5.out)
    clear n5
    have HCL : Hid (w5.cell? ⟨w.heap.size, 0, none⟩ = some (.string x.f0.f0) ∧ w5.cell? ⟨w.heap.size, 1, none⟩ = some (.string x.f0.f1) ∧ w5.cell? ⟨w.heap.size, 2, none⟩ = some (.string x.f0.f2) ∧ w5.cell? ⟨w.heap.size, 3, none⟩ = some (.string x.f0.f3) ∧ w5.cell? ⟨w.heap.size, 4, none⟩ = some (.slice r.A4 x.f0.f4.length r.c4) ∧ w5.cell? ⟨w.heap.size, 5, none⟩ = some (.slice r.A5 x.f0.f5.length r.c5) ∧ w5.cell? ⟨w.heap.size, 6, none⟩ = some (.int .i64 x.f1.f0) ∧ w5.cell? ⟨w.heap.size, 7, none⟩ = some (.slice r.A7 x.f1.f1.length r.c7) ∧ w5.cell? ⟨w.heap.size, 8, none⟩ = some (.slice r.A8 x.f1.f2.length r.c8) ∧ w5.cell? ⟨w.heap.size, 9, none⟩ = some (.int .i64 x.f2) ∧ w5.cell? ⟨w.heap.size, 10, none⟩ = some (.int .i64 x.f3)) := Lib.hid ⟨l0, l1, l2, l3, l4, l5, l6, l7, l8, l9, l10⟩
    refine start_ (n := 7) (S := fun w' => w'.cell? ⟨w.heap.size, 0, none⟩ = some (.string x.f0.f0) ∧ w'.cell? ⟨w.heap.size, 1, none⟩ = some (.string x.f0.f1) ∧ w'.cell? ⟨w.heap.size, 2, none⟩ = some (.string x.f0.f2) ∧ w'.cell? ⟨w.heap.size, 3, none⟩ = some (.string x.f0.f3) ∧ w'.cell? ⟨w.heap.size, 4, none⟩ = some (.slice r.A4 x.f0.f4.length r.c4) ∧ w'.cell? ⟨w.heap.size, 5, none⟩ = some (.slice r.A5 x.f0.f5.length r.c5) ∧ w'.cell? ⟨w.heap.size, 6, none⟩ = some (.int .i64 x.f1.f0) ∧ w'.cell? ⟨w.heap.size, 7, none⟩ = some (.slice r.A7 x.f1.f1.length r.c7) ∧ w'.cell? ⟨w.heap.size, 8, none⟩ = some (.slice r.A8 x.f1.f2.length r.c8) ∧ w'.cell? ⟨w.heap.size, 9, none⟩ = some (.int .i64 x.f2) ∧ w'.cell? ⟨w.heap.size, 10, none⟩ = some (.int .i64 x.f3)) (ds := [5]) #[false, false, false, false, false, false, false] (by kernel_rfl) rfl rfl ⟨l0, l1, l2, l3, l4, l5, l6, l7, l8, l9, l10⟩ (fun hHeld => ?_)
    refine take_ (i := 0) (N := some 17) (v := ?_) (a' := ?_) #[true, false, false, false, false, false, false] rfl rfl (by kernel_rfl) (fun _ _ _ h => h) (Or.inl ⟨by rfl, ?_⟩) hHeld ?_ ?_
    rotate_left
    · rintro w' ⟨s0, s1, s2, s3, s4, s5, s6, s7, s8, s9, s10⟩
      go_simp
      with_reducible rfl
    rotate_left
    · simp only [Act.put, List.setIfInBounds_toArray, List.set_cons_zero, List.set_cons_succ, i64_w, i32_w]
      rfl
    refine take_ (i := 2) (N := some 19) (v := ?_) (a' := ?_) #[true, false, true, false, false, false, false] rfl rfl (by kernel_rfl) (fun _ _ _ h => h) (Or.inl ⟨by rfl, ?_⟩) hHeld ?_ ?_
    rotate_left
    · rintro w' ⟨s0, s1, s2, s3, s4, s5, s6, s7, s8, s9, s10⟩
      go_simp
      with_reducible rfl
    rotate_left
    · simp only [Act.put, List.setIfInBounds_toArray, List.set_cons_zero, List.set_cons_succ, i64_w, i32_w]
      rfl
    refine one_ (i := 1) (N := some 18) #[true, true, true, false, false, false, false] rfl rfl (by kernel_rfl) (by decide) (fun K hK => ?_)
    refine goes_ Tryd.func29 (by kernel_rfl) rfl #[.agg (Vx x r)] (by rfl) rfl rfl (by simp only [List.map_toArray, List.map_cons, List.map_nil]; rfl) ?_
    with_reducible refine (own_calls _ P x r (HE5.out.below (below_drew (Below.refl _ w5))) (sm_fits HSX.out)).mono ?_
    rintro e w7 ⟨r', rfl, hb7, hE7⟩
    refine ⟨_, rfl, ?_⟩
    refine hK.out _ _ ⟨pw_cell_below (below_step (below_drew (Below.refl _ w5)) hb7) HCL.out.1, pw_cell_below (below_step (below_drew (Below.refl _ w5)) hb7) HCL.out.2.1, pw_cell_below (below_step (below_drew (Below.refl _ w5)) hb7) HCL.out.2.2.1, pw_cell_below (below_step (below_drew (Below.refl _ w5)) hb7) HCL.out.2.2.2.1, pw_cell_below (below_step (below_drew (Below.refl _ w5)) hb7) HCL.out.2.2.2.2.1, pw_cell_below (below_step (below_drew (Below.refl _ w5)) hb7) HCL.out.2.2.2.2.2.1, pw_cell_below (below_step (below_drew (Below.refl _ w5)) hb7) HCL.out.2.2.2.2.2.2.1, pw_cell_below (below_step (below_drew (Below.refl _ w5)) hb7) HCL.out.2.2.2.2.2.2.2.1, pw_cell_below (below_step (below_drew (Below.refl _ w5)) hb7) HCL.out.2.2.2.2.2.2.2.2.1, pw_cell_below (below_step (below_drew (Below.refl _ w5)) hb7) HCL.out.2.2.2.2.2.2.2.2.2.1, pw_cell_below (below_step (below_drew (Below.refl _ w5)) hb7) HCL.out.2.2.2.2.2.2.2.2.2.2⟩ (fun hHeld => ?_)
    clear hK K
    refine norm_ (a' := ?_) ?_ ?_
    rotate_left
    · show Act.put _ (some 18) _ = _
      simp only [Act.put, List.setIfInBounds_toArray, List.set_cons_zero, List.set_cons_succ, i64_w, i32_w]
      rfl
    refine one_ (i := 3) (N := some 20) #[true, true, true, true, false, false, false] rfl rfl (by kernel_rfl) (by decide) (fun K hK => ?_)
    refine goes_ Tryd.func26 (by kernel_rfl) rfl #[.agg (Vx x r)] (by rfl) rfl rfl (by simp only [List.map_toArray, List.map_cons, List.map_nil]; rfl) ?_
    with_reducible refine (size_calls _ P x r (HE5.out.below (below_step (below_drew (Below.refl _ w5)) hb7)) HSX.out).mono ?_
    rintro e w8 ⟨rfl, hb8⟩
    refine ⟨_, rfl, ?_⟩
    refine hK.out _ _ ⟨pw_cell_below (below_step (below_step (below_drew (Below.refl _ w5)) hb7) hb8) HCL.out.1, pw_cell_below (below_step (below_step (below_drew (Below.refl _ w5)) hb7) hb8) HCL.out.2.1, pw_cell_below (below_step (below_step (below_drew (Below.refl _ w5)) hb7) hb8) HCL.out.2.2.1, pw_cell_below (below_step (below_step (below_drew (Below.refl _ w5)) hb7) hb8) HCL.out.2.2.2.1, pw_cell_below (below_step (below_step (below_drew (Below.refl _ w5)) hb7) hb8) HCL.out.2.2.2.2.1, pw_cell_below (below_step (below_step (below_drew (Below.refl _ w5)) hb7) hb8) HCL.out.2.2.2.2.2.1, pw_cell_below (below_step (below_step (below_drew (Below.refl _ w5)) hb7) hb8) HCL.out.2.2.2.2.2.2.1, pw_cell_below (below_step (below_step (below_drew (Below.refl _ w5)) hb7) hb8) HCL.out.2.2.2.2.2.2.2.1, pw_cell_below (below_step (below_step (below_drew (Below.refl _ w5)) hb7) hb8) HCL.out.2.2.2.2.2.2.2.2.1, pw_cell_below (below_step (below_step (below_drew (Below.refl _ w5)) hb7) hb8) HCL.out.2.2.2.2.2.2.2.2.2.1, pw_cell_below (below_step (below_step (below_drew (Below.refl _ w5)) hb7) hb8) HCL.out.2.2.2.2.2.2.2.2.2.2⟩ (fun hHeld => ?_)
    clear hK K
    refine norm_ (a' := ?_) ?_ ?_
    rotate_left
    · show Act.put _ (some 20) _ = _
      simp only [Act.put, List.setIfInBounds_toArray, List.set_cons_zero, List.set_cons_succ, i64_w, i32_w]
      rfl
    refine pure_ (i := 4) (N := some 21) (v := ?_) (a' := ?_) #[true, true, true, true, true, false, false] rfl rfl (by kernel_rfl) (fun _ _ _ h => h) (Or.inl ⟨by rfl, ?_⟩) ?_ ?_
    rotate_left
    · intro w'
      go_simp
      with_reducible rfl
    rotate_left
    · simp only [Act.put, List.setIfInBounds_toArray, List.set_cons_zero, List.set_cons_succ, i64_w, i32_w]
      rfl
    refine last_ (i := 5) (N := some 22) #[true, true, true, true, true, true, false] rfl rfl (by kernel_rfl) (by decide) (fun K hK => ?_)
    refine value_ (w1 := ?_) (v := ?_) (by rfl) rfl ?_ ?_
    rotate_left 2
    · go_simp
      constructor
      · rfl
      · rfl
    refine hK.out _ _ ?_
    clear hK K
    refine norm_ (a' := ?_) ?_ ?_
    rotate_left
    · show Act.put _ (some 22) _ = _
      simp only [Act.put, List.setIfInBounds_toArray, List.set_cons_zero, List.set_cons_succ, i64_w, i32_w]
      rfl
    refine pure_ (i := 6) (N := some 5) (v := ?_) (a' := ?_) #[true, true, true, true, true, true, true] rfl rfl (by kernel_rfl) (fun _ _ _ h => h) (Or.inl ⟨by rfl, ?_⟩) ?_ ?_
    rotate_left
    · intro w'
      go_simp
      with_reducible rfl
    rotate_left
    · simp only [Act.put, List.setIfInBounds_toArray, List.set_cons_zero, List.set_cons_succ, i64_w, i32_w]
      rfl
    refine done_ (by kernel_rfl) ?_
    have B58 := Lib.hid (below_step (below_step (below_drew (Below.refl _ w5)) hb7) hb8)
    clear l0 l1 l2 l3 l4 l5 l6 l7 l8 l9 l10 hHeld
    have h57 := hb7.size
    have h78 := hb8.size
    have h05 := HO05.out.size
    have hs5 : w5.drew.heap.size = w5.heap.size := rfl
    have HM9 : Hid (Mid w g cap xs x w8.heap.size r' (ys xs x) [] (w8.alloc (.cells #[.string x.f0.f0, .string x.f0.f1, .string x.f0.f2, .string x.f0.f3, .slice r'.A4 x.f0.f4.length r'.c4, .slice r'.A5 x.f0.f5.length r'.c5, .int .i64 x.f1.f0, .slice r'.A7 x.f1.f1.length r'.c7, .slice r'.A8 x.f1.f2.length r'.c8, .int .i64 x.f2, .int .i64 x.f3, .int .i64 (sizeI x), .pointer none, .pointer none] 71))) := Lib.hid (by
      have ba : Below w5.heap.size w5 (w8.alloc (.cells #[.string x.f0.f0, .string x.f0.f1, .string x.f0.f2, .string x.f0.f3, .slice r'.A4 x.f0.f4.length r'.c4, .slice r'.A5 x.f0.f5.length r'.c5, .int .i64 x.f1.f0, .slice r'.A7 x.f1.f1.length r'.c7, .slice r'.A8 x.f1.f2.length r'.c8, .int .i64 x.f2, .int .i64 x.f3, .int .i64 (sizeI x), .pointer none, .pointer none] 71)) := below_alloc B58.out _
      refine ⟨by simp, HS5.out.below ba, HO05.out.then ba, heap_alloc_new w8 _, ?_, fun h t e => by cases e⟩
      refine (((hE7.lt.keep (fun k hk => hb8.block k hk.2)).below (below_alloc (Below.refl _ _) _))).mono (fun k hk => ?_)
      have h1 : w5.heap.size ≤ k := hk.1
      exact ⟨by omega, by have := hk.2; omega⟩)
    obtain ⟨W9, hW9⟩ : ∃ W9, W9 = (w8.alloc (.cells #[.string x.f0.f0, .string x.f0.f1, .string x.f0.f2, .string x.f0.f3, .slice r'.A4 x.f0.f4.length r'.c4, .slice r'.A5 x.f0.f5.length r'.c5, .int .i64 x.f1.f0, .slice r'.A7 x.f1.f1.length r'.c7, .slice r'.A8 x.f1.f2.length r'.c8, .int .i64 x.f2, .int .i64 x.f3, .int .i64 (sizeI x), .pointer none, .pointer none] 71)) := ⟨_, rfl⟩
    have HLB : Hid (w.heap.size ≤ w8.heap.size) := Lib.hid (by omega)
    rw [← hW9] at HM9 ⊢
    obtain ⟨lb, hlb⟩ : ∃ lb, lb = w8.heap.size := ⟨_, rfl⟩
    rw [← hlb] at HM9 HLB ⊢
    clear hW9 hlb h57 h78 h05 hs5 hE7 hb7 hb8
    have cl := c_of HM9.out.lk 11 (v := .int .i64 (sizeI x)) rfl
    have cg := c_of HM9.out.st.head 1 (v := .int .i64 cap) rfl
    have hlo := sizeI_lo x
    have hhi := sizeI_hi x HSX.out
    by_cases hbig : cap < sizeI x
    · have d1 : decide (cap < sizeI x) = true := decide_eq_true hbig
      go_upto_region 7 with fail
      refine start_ (n := 9) (S := fun w' => w'.cell? ⟨lb, 11, none⟩ = some (.int .i64 (sizeI x)) ∧ w'.cell? ⟨g, 1, none⟩ = some (.int .i64 cap)) (ds := []) #[false, false, false, false, false, false, false, false, false] (by kernel_rfl) rfl rfl ⟨cl, cg⟩ (fun hHeld => ?_)
      refine pure_ (i := 0) (N := some 23) (v := ?_) (a' := ?_) #[true, false, false, false, false, false, false, false, false] rfl rfl (by kernel_rfl) (fun _ _ _ h => h) (Or.inl ⟨by rfl, ?_⟩) ?_ ?_
      rotate_left
      · intro w'
        go_simp
        with_reducible rfl
      rotate_left
      · simp only [Act.put, List.setIfInBounds_toArray, List.set_cons_zero, List.set_cons_succ, i64_w, i32_w]
        rfl
      refine pure_ (i := 1) (N := some 24) (v := ?_) (a' := ?_) #[true, true, false, false, false, false, false, false, false] rfl rfl (by kernel_rfl) (fun _ _ _ h => h) (Or.inl ⟨by rfl, ?_⟩) ?_ ?_
      rotate_left
      · intro w'
        go_simp
        with_reducible rfl
      rotate_left
      · simp only [Act.put, List.setIfInBounds_toArray, List.set_cons_zero, List.set_cons_succ, i64_w, i32_w]
        rfl
      refine pure_ (i := 2) (N := some 25) (v := ?_) (a' := ?_) #[true, true, true, false, false, false, false, false, false] rfl rfl (by kernel_rfl) (fun _ _ _ h => h) (Or.inl ⟨by rfl, ?_⟩) ?_ ?_
      rotate_left
      · intro w'
        go_simp
        with_reducible rfl
      rotate_left
      · simp only [Act.put, List.setIfInBounds_toArray, List.set_cons_zero, List.set_cons_succ, i64_w, i32_w]
        rfl
      refine pure_ (i := 4) (N := some 27) (v := ?_) (a' := ?_) #[true, true, true, false, true, false, false, false, false] rfl rfl (by kernel_rfl) (fun _ _ _ h => h) (Or.inl ⟨by rfl, ?_⟩) ?_ ?_
      rotate_left
      · intro w'
        go_simp
        with_reducible rfl
      rotate_left
      · simp only [Act.put, List.setIfInBounds_toArray, List.set_cons_zero, List.set_cons_succ, i64_w, i32_w]
        rfl
      refine pure_ (i := 5) (N := some 28) (v := ?_) (a' := ?_) #[true, true, true, false, true, true, false, false, false] rfl rfl (by kernel_rfl) (fun _ _ _ h => h) (Or.inl ⟨by rfl, ?_⟩) ?_ ?_
      rotate_left
      · intro w'
        go_simp
        with_reducible rfl
      rotate_left
      · simp only [Act.put, List.setIfInBounds_toArray, List.set_cons_zero, List.set_cons_succ, i64_w, i32_w]
        rfl
      refine pure_ (i := 6) (N := some 29) (v := ?_) (a' := ?_) #[true, true, true, false, true, true, true, false, false] rfl rfl (by kernel_rfl) (fun _ _ _ h => h) (Or.inl ⟨by rfl, ?_⟩) ?_ ?_
      rotate_left
      · intro w'
        go_simp
        with_reducible rfl
      rotate_left
      · simp only [Act.put, List.setIfInBounds_toArray, List.set_cons_zero, List.set_cons_succ, i64_w, i32_w]
        rfl
      refine take_ (i := 3) (N := some 26) (v := ?_) (a' := ?_) #[true, true, true, true, true, true, true, false, false] rfl rfl (by kernel_rfl) (fun _ _ _ h => h) (Or.inl ⟨by rfl, ?_⟩) hHeld ?_ ?_
      rotate_left
      · rintro w' ⟨s0, s1⟩
        go_simp
        with_reducible rfl
      rotate_left
      · simp only [Act.put, List.setIfInBounds_toArray, List.set_cons_zero, List.set_cons_succ, i64_w, i32_w]
        rfl
      refine take_ (i := 7) (N := some 30) (v := ?_) (a' := ?_) #[true, true, true, true, true, true, true, true, false] rfl rfl (by kernel_rfl) (fun _ _ _ h => h) (Or.inl ⟨by rfl, ?_⟩) hHeld ?_ ?_
      rotate_left
      · rintro w' ⟨s0, s1⟩
        go_simp
        with_reducible rfl
      rotate_left
      · simp only [Act.put, List.setIfInBounds_toArray, List.set_cons_zero, List.set_cons_succ, i64_w, i32_w]
        rfl
      refine pure_ (i := 8) (N := some 31) (v := ?_) (a' := ?_) #[true, true, true, true, true, true, true, true, true] rfl rfl (by kernel_rfl) (fun _ _ _ h => h) (Or.inl ⟨by rfl, ?_⟩) ?_ ?_
      rotate_left
      · intro w'
        go_simp
        with_reducible rfl
      rotate_left
      · simp only [Act.put, List.setIfInBounds_toArray, List.set_cons_zero, List.set_cons_succ, i64_w, i32_w]
        rfl
      refine done_ (by kernel_rfl) ?_
      go_wp2
      go_ret
      have hm := HM9.out.grow (below_drew (Below.refl _ W9))
      exact ⟨hm.only, .inr (.inl ⟨HRB.out.symm, hbig, rfl, by have := hm.st; exact this⟩)⟩
    · have d1 : decide (cap < sizeI x) = false := decide_eq_false hbig
      go_upto_region 7 with fail
      refine start_ (n := 9) (S := fun w' => w'.cell? ⟨lb, 11, none⟩ = some (.int .i64 (sizeI x)) ∧ w'.cell? ⟨g, 1, none⟩ = some (.int .i64 cap)) (ds := []) #[false, false, false, false, false, false, false, false, false] (by kernel_rfl) rfl rfl ⟨cl, cg⟩ (fun hHeld => ?_)
      refine pure_ (i := 0) (N := some 23) (v := ?_) (a' := ?_) #[true, false, false, false, false, false, false, false, false] rfl rfl (by kernel_rfl) (fun _ _ _ h => h) (Or.inl ⟨by rfl, ?_⟩) ?_ ?_
      rotate_left
      · intro w'
        go_simp
        with_reducible rfl
      rotate_left
      · simp only [Act.put, List.setIfInBounds_toArray, List.set_cons_zero, List.set_cons_succ, i64_w, i32_w]
        rfl
      refine pure_ (i := 1) (N := some 24) (v := ?_) (a' := ?_) #[true, true, false, false, false, false, false, false, false] rfl rfl (by kernel_rfl) (fun _ _ _ h => h) (Or.inl ⟨by rfl, ?_⟩) ?_ ?_
      rotate_left
      · intro w'
        go_simp
        with_reducible rfl
      rotate_left
      · simp only [Act.put, List.setIfInBounds_toArray, List.set_cons_zero, List.set_cons_succ, i64_w, i32_w]
        rfl
      refine pure_ (i := 2) (N := some 25) (v := ?_) (a' := ?_) #[true, true, true, false, false, false, false, false, false] rfl rfl (by kernel_rfl) (fun _ _ _ h => h) (Or.inl ⟨by rfl, ?_⟩) ?_ ?_
      rotate_left
      · intro w'
        go_simp
        with_reducible rfl
      rotate_left
      · simp only [Act.put, List.setIfInBounds_toArray, List.set_cons_zero, List.set_cons_succ, i64_w, i32_w]
        rfl
      refine pure_ (i := 4) (N := some 27) (v := ?_) (a' := ?_) #[true, true, true, false, true, false, false, false, false] rfl rfl (by kernel_rfl) (fun _ _ _ h => h) (Or.inl ⟨by rfl, ?_⟩) ?_ ?_
      rotate_left
      · intro w'
        go_simp
        with_reducible rfl
      rotate_left
      · simp only [Act.put, List.setIfInBounds_toArray, List.set_cons_zero, List.set_cons_succ, i64_w, i32_w]
        rfl
      refine pure_ (i := 5) (N := some 28) (v := ?_) (a' := ?_) #[true, true, true, false, true, true, false, false, false] rfl rfl (by kernel_rfl) (fun _ _ _ h => h) (Or.inl ⟨by rfl, ?_⟩) ?_ ?_
      rotate_left
      · intro w'
        go_simp
        with_reducible rfl
      rotate_left
      · simp only [Act.put, List.setIfInBounds_toArray, List.set_cons_zero, List.set_cons_succ, i64_w, i32_w]
        rfl
      refine pure_ (i := 6) (N := some 29) (v := ?_) (a' := ?_) #[true, true, true, false, true, true, true, false, false] rfl rfl (by kernel_rfl) (fun _ _ _ h => h) (Or.inl ⟨by rfl, ?_⟩) ?_ ?_
      rotate_left
      · intro w'
        go_simp
        with_reducible rfl
      rotate_left
      · simp only [Act.put, List.setIfInBounds_toArray, List.set_cons_zero, List.set_cons_succ, i64_w, i32_w]
        rfl
      refine take_ (i := 3) (N := some 26) (v := ?_) (a' := ?_) #[true, true, true, true, true, true, true, false, false] rfl rfl (by kernel_rfl) (fun _ _ _ h => h) (Or.inl ⟨by rfl, ?_⟩) hHeld ?_ ?_
      rotate_left
      · rintro w' ⟨s0, s1⟩
        go_simp
        with_reducible rfl
      rotate_left
      · simp only [Act.put, List.setIfInBounds_toArray, List.set_cons_zero, List.set_cons_succ, i64_w, i32_w]
        rfl
      refine take_ (i := 7) (N := some 30) (v := ?_) (a' := ?_) #[true, true, true, true, true, true, true, true, false] rfl rfl (by kernel_rfl) (fun _ _ _ h => h) (Or.inl ⟨by rfl, ?_⟩) hHeld ?_ ?_
      rotate_left
      · rintro w' ⟨s0, s1⟩
        go_simp
        with_reducible rfl
      rotate_left
      · simp only [Act.put, List.setIfInBounds_toArray, List.set_cons_zero, List.set_cons_succ, i64_w, i32_w]
        rfl
      refine pure_ (i := 8) (N := some 31) (v := ?_) (a' := ?_) #[true, true, true, true, true, true, true, true, true] rfl rfl (by kernel_rfl) (fun _ _ _ h => h) (Or.inl ⟨by rfl, ?_⟩) ?_ ?_
      rotate_left
      · intro w'
        go_simp
        with_reducible rfl
      rotate_left
      · simp only [Act.put, List.setIfInBounds_toArray, List.set_cons_zero, List.set_cons_succ, i64_w, i32_w]
        rfl
      refine done_ (by kernel_rfl) ?_
      clear hHeld cl cg d1
      have HM10 := Lib.hid (HM9.out.grow (below_drew (Below.refl _ W9)))
      obtain ⟨W10, hW10⟩ : ∃ W, W = W9.drew := ⟨_, rfl⟩
      rw [← hW10] at HM10 ⊢
      clear hW10
      go_wp2
      have hsmall : 0 ≤ cap - sizeI x := by omega
      have hw62 := wid (cap - sizeI x) (by omega) (by omega)
      have HW62 := Lib.hid hw62
      clear hw62
      go_loopg [] (ys xs x).length (fun k W => ∃ kept gone, kept.length ≤ k ∧ Hid (Mid w g cap xs x lb r' kept gone W))
      case atStart => exact ⟨ys xs x, [], Nat.le_refl _, HM10⟩
      case round =>
        obtain ⟨kept, gone, hk, HM⟩ := hrel
        have cl := c_of HM.out.lk 11 (v := .int .i64 (sizeI x)) rfl
        have cg := c_of HM.out.st.head 1 (v := .int .i64 cap) rfl
        have cu := c_of HM.out.st.head 2 (v := .int .i64 (zs kept)) rfl
        have hnl : ¬ Mine g kept lb := fun hm => by
          have := hml _ (hm.mono (ys_mem HM.out.split))
          have := HLB.out
          omega
        have HNL := Lib.hid hnl
        have HMX : Hid (∀ k, Mine g kept k → Mine g xs k) := Lib.hid (fun k hk => hk.mono (ys_mem HM.out.split))
        clear hnl
        by_cases hfull : cap - sizeI x < zs kept
        · have d1 : decide (wrap64 (cap - sizeI x) < zs kept) = true := by rw [HW62.out]; exact decide_eq_true hfull
          rcases snoc_cases kept with rfl | ⟨t, d, rfl⟩
          · simp only [zs] at hfull
            omega
          · obtain ⟨ko, rfl⟩ : ∃ ko, gk = ko + 1 := ⟨gk - 1, by simp at hk; omega⟩
            have hk2 : t.length ≤ ko := by simp at hk; omega
            have hdz : 0 ≤ d.z := hz d (ys_mem HM.out.split d (by simp))
            have htz : 0 ≤ zs t := zs_nonneg t (fun e he => hz e (ys_mem HM.out.split e (by simp [he])))
            have hzt : zs (t ++ [d]) = zs t + d.z := by rw [zs_append]; simp [zs]
            have hle : zs (t ++ [d]) ≤ zs xs := by
              have h1 : zs (ys xs x) ≤ zs xs := zs_filter_le _ _ hz
              have h2 : zs (ys xs x) = zs (t ++ [d]) + zs gone := by rw [HM.out.split, zs_append]
              have h3 := zs_nonneg gone (fun e he => hz e (by
                have : e ∈ ys xs x := by rw [HM.out.split]; simp [he]
                exact (List.mem_filter.1 this).1))
              omega
            have hwz := wid (zs t) htz (by omega)
            have HWZ : Hid (wrap64 (zs (t ++ [d]) - d.z) = zs t) := Lib.hid (by rw [hzt, show zs t + d.z - d.z = zs t by omega]; exact hwz)
            have HTI : Hid (∀ h u, d :: gone = h :: u → cap - sizeI x < zs t + h.z) := Lib.hid (fun h u e => by
              obtain ⟨rfl, -⟩ := List.cons.inj e
              omega)
            clear hwz hzt hle hfull hk
            go_upto_region 9 with fail
            refine start_ (n := 14) (S := fun w' => w'.cell? ⟨g, 2, none⟩ = some (.int .i64 (zs (t ++ [d]))) ∧ w'.cell? ⟨g, 1, none⟩ = some (.int .i64 cap) ∧ w'.cell? ⟨lb, 11, none⟩ = some (.int .i64 (sizeI x))) (ds := []) #[false, false, false, false, false, false, false, false, false, false, false, false, false, false] (by kernel_rfl) rfl rfl ⟨cu, cg, cl⟩ (fun hHeld => ?_)
            refine pure_ (i := 0) (N := some 32) (v := ?_) (a' := ?_) #[true, false, false, false, false, false, false, false, false, false, false, false, false, false] rfl rfl (by kernel_rfl) (fun _ _ _ h => h) (Or.inl ⟨by rfl, ?_⟩) ?_ ?_
            rotate_left
            · intro w'
              go_simp
              with_reducible rfl
            rotate_left
            · simp only [Act.put, List.setIfInBounds_toArray, List.set_cons_zero, List.set_cons_succ, i64_w, i32_w]
              rfl
            refine pure_ (i := 1) (N := some 33) (v := ?_) (a' := ?_) #[true, true, false, false, false, false, false, false, false, false, false, false, false, false] rfl rfl (by kernel_rfl) (fun _ _ _ h => h) (Or.inl ⟨by rfl, ?_⟩) ?_ ?_
            rotate_left
            · intro w'
              go_simp
              with_reducible rfl
            rotate_left
            · simp only [Act.put, List.setIfInBounds_toArray, List.set_cons_zero, List.set_cons_succ, i64_w, i32_w]
              rfl
            refine pure_ (i := 2) (N := some 34) (v := ?_) (a' := ?_) #[true, true, true, false, false, false, false, false, false, false, false, false, false, false] rfl rfl (by kernel_rfl) (fun _ _ _ h => h) (Or.inl ⟨by rfl, ?_⟩) ?_ ?_
            rotate_left
            · intro w'
              go_simp
              with_reducible rfl
            rotate_left
            · simp only [Act.put, List.setIfInBounds_toArray, List.set_cons_zero, List.set_cons_succ, i64_w, i32_w]
              rfl
            refine pure_ (i := 4) (N := some 36) (v := ?_) (a' := ?_) #[true, true, true, false, true, false, false, false, false, false, false, false, false, false] rfl rfl (by kernel_rfl) (fun _ _ _ h => h) (Or.inl ⟨by rfl, ?_⟩) ?_ ?_
            rotate_left
            · intro w'
              go_simp
              with_reducible rfl
            rotate_left
            · simp only [Act.put, List.setIfInBounds_toArray, List.set_cons_zero, List.set_cons_succ, i64_w, i32_w]
              rfl
            refine pure_ (i := 5) (N := some 37) (v := ?_) (a' := ?_) #[true, true, true, false, true, true, false, false, false, false, false, false, false, false] rfl rfl (by kernel_rfl) (fun _ _ _ h => h) (Or.inl ⟨by rfl, ?_⟩) ?_ ?_
            rotate_left
            · intro w'
              go_simp
              with_reducible rfl
            rotate_left
            · simp only [Act.put, List.setIfInBounds_toArray, List.set_cons_zero, List.set_cons_succ, i64_w, i32_w]
              rfl
            refine pure_ (i := 6) (N := some 38) (v := ?_) (a' := ?_) #[true, true, true, false, true, true, true, false, false, false, false, false, false, false] rfl rfl (by kernel_rfl) (fun _ _ _ h => h) (Or.inl ⟨by rfl, ?_⟩) ?_ ?_
            rotate_left
            · intro w'
              go_simp
              with_reducible rfl
            rotate_left
            · simp only [Act.put, List.setIfInBounds_toArray, List.set_cons_zero, List.set_cons_succ, i64_w, i32_w]
              rfl
            refine pure_ (i := 8) (N := some 40) (v := ?_) (a' := ?_) #[true, true, true, false, true, true, true, false, true, false, false, false, false, false] rfl rfl (by kernel_rfl) (fun _ _ _ h => h) (Or.inl ⟨by rfl, ?_⟩) ?_ ?_
            rotate_left
            · intro w'
              go_simp
              with_reducible rfl
            rotate_left
            · simp only [Act.put, List.setIfInBounds_toArray, List.set_cons_zero, List.set_cons_succ, i64_w, i32_w]
              rfl
            refine pure_ (i := 9) (N := some 41) (v := ?_) (a' := ?_) #[true, true, true, false, true, true, true, false, true, true, false, false, false, false] rfl rfl (by kernel_rfl) (fun _ _ _ h => h) (Or.inl ⟨by rfl, ?_⟩) ?_ ?_
            rotate_left
            · intro w'
              go_simp
              with_reducible rfl
            rotate_left
            · simp only [Act.put, List.setIfInBounds_toArray, List.set_cons_zero, List.set_cons_succ, i64_w, i32_w]
              rfl
            refine pure_ (i := 10) (N := some 42) (v := ?_) (a' := ?_) #[true, true, true, false, true, true, true, false, true, true, true, false, false, false] rfl rfl (by kernel_rfl) (fun _ _ _ h => h) (Or.inl ⟨by rfl, ?_⟩) ?_ ?_
            rotate_left
            · intro w'
              go_simp
              with_reducible rfl
            rotate_left
            · simp only [Act.put, List.setIfInBounds_toArray, List.set_cons_zero, List.set_cons_succ, i64_w, i32_w]
              rfl
            refine take_ (i := 3) (N := some 35) (v := ?_) (a' := ?_) #[true, true, true, true, true, true, true, false, true, true, true, false, false, false] rfl rfl (by kernel_rfl) (fun _ _ _ h => h) (Or.inl ⟨by rfl, ?_⟩) hHeld ?_ ?_
            rotate_left
            · rintro w' ⟨s0, s1, s2⟩
              go_simp
              with_reducible rfl
            rotate_left
            · simp only [Act.put, List.setIfInBounds_toArray, List.set_cons_zero, List.set_cons_succ, i64_w, i32_w]
              rfl
            refine take_ (i := 7) (N := some 39) (v := ?_) (a' := ?_) #[true, true, true, true, true, true, true, true, true, true, true, false, false, false] rfl rfl (by kernel_rfl) (fun _ _ _ h => h) (Or.inl ⟨by rfl, ?_⟩) hHeld ?_ ?_
            rotate_left
            · rintro w' ⟨s0, s1, s2⟩
              go_simp
              with_reducible rfl
            rotate_left
            · simp only [Act.put, List.setIfInBounds_toArray, List.set_cons_zero, List.set_cons_succ, i64_w, i32_w]
              rfl
            refine take_ (i := 11) (N := some 43) (v := ?_) (a' := ?_) #[true, true, true, true, true, true, true, true, true, true, true, true, false, false] rfl rfl (by kernel_rfl) (fun _ _ _ h => h) (Or.inl ⟨by rfl, ?_⟩) hHeld ?_ ?_
            rotate_left
            · rintro w' ⟨s0, s1, s2⟩
              go_simp
              with_reducible rfl
            rotate_left
            · simp only [Act.put, List.setIfInBounds_toArray, List.set_cons_zero, List.set_cons_succ, i64_w, i32_w]
              rfl
            refine pure_ (i := 12) (N := some 44) (v := ?_) (a' := ?_) #[true, true, true, true, true, true, true, true, true, true, true, true, true, false] rfl rfl (by kernel_rfl) (fun _ _ _ h => h) (Or.inl ⟨by rfl, ?_⟩) ?_ ?_
            rotate_left
            · intro w'
              go_simp
              with_reducible rfl
            rotate_left
            · simp only [Act.put, List.setIfInBounds_toArray, List.set_cons_zero, List.set_cons_succ, i64_w, i32_w]
              rfl
            refine pure_ (i := 13) (N := some 45) (v := ?_) (a' := ?_) #[true, true, true, true, true, true, true, true, true, true, true, true, true, true] rfl rfl (by kernel_rfl) (fun _ _ _ h => h) (Or.inl ⟨by rfl, ?_⟩) ?_ ?_
            rotate_left
            · intro w'
              go_simp
              with_reducible rfl
            rotate_left
            · simp only [Act.put, List.setIfInBounds_toArray, List.set_cons_zero, List.set_cons_succ, i64_w, i32_w]
              rfl
            refine done_ (by kernel_rfl) ?_
            clear hHeld cl cg cu
            have HMd := Lib.hid (HM.out.grow (below_drew (Below.refl _ wr)))
            obtain ⟨Wa, hWa⟩ : ∃ W, W = wr.drew := ⟨_, rfl⟩
            rw [← hWa] at HMd ⊢
            clear hWa
            have c4 := c_of HMd.out.st.head 4 (v := .pointer (some (at0 d.b))) (by show some (Value.pointer (last none (t ++ [d]))) = _; rw [last_snoc])
            go_wp2_with (go_at_call 32; refine (out_at Wa g cap (zs (t ++ [d])) t [] d HMd.out.st).mono ?_; rintro e w5 ⟨⟨v5, rfl⟩, hs5, hb5, ho5⟩; rw [HWZ.out, List.append_nil] at hs5; have HS5 := Lib.hid hs5; have HO5 := Lib.hid ho5; clear hs5 hb5 ho5)
            go_roundg ko
            case measure => omega
            case rel =>
              refine ⟨t, d :: gone, hk2, Lib.hid ⟨by rw [HM.out.split]; simp, HS5.out, HMd.out.only.trans (HO5.out.mono HMX.out), (HO5.out.block _ (blk_lt' HMd.out.lk) HNL.out).trans HMd.out.lk, HMd.out.ex.only HO5.out (fun k hk hm => ?_), HTI.out⟩⟩
              have := hml _ (HMX.out _ hm)
              omega
        · have d1 : decide (wrap64 (cap - sizeI x) < zs kept) = false := by rw [HW62.out]; exact decide_eq_false hfull
          have hkz : 0 ≤ zs kept := zs_nonneg kept (fun e he => hz e (ys_mem HM.out.split e he))
          have HWI : Hid (wrap64 (zs kept + sizeI x) = zs (⟨lb, x, r', sizeI x⟩ :: kept)) := Lib.hid (by
            rw [wid _ (by omega) (by omega)]
            simp only [zs]
            omega)
          have HF : Hid (zs kept ≤ cap - sizeI x) := Lib.hid (by omega)
          clear hfull
          go_upto_region 9 with fail
          refine start_ (n := 14) (S := fun w' => w'.cell? ⟨g, 2, none⟩ = some (.int .i64 (zs kept)) ∧ w'.cell? ⟨g, 1, none⟩ = some (.int .i64 cap) ∧ w'.cell? ⟨lb, 11, none⟩ = some (.int .i64 (sizeI x))) (ds := []) #[false, false, false, false, false, false, false, false, false, false, false, false, false, false] (by kernel_rfl) rfl rfl ⟨cu, cg, cl⟩ (fun hHeld => ?_)
          refine pure_ (i := 0) (N := some 32) (v := ?_) (a' := ?_) #[true, false, false, false, false, false, false, false, false, false, false, false, false, false] rfl rfl (by kernel_rfl) (fun _ _ _ h => h) (Or.inl ⟨by rfl, ?_⟩) ?_ ?_
          rotate_left
          · intro w'
            go_simp
            with_reducible rfl
          rotate_left
          · simp only [Act.put, List.setIfInBounds_toArray, List.set_cons_zero, List.set_cons_succ, i64_w, i32_w]
            rfl
          refine pure_ (i := 1) (N := some 33) (v := ?_) (a' := ?_) #[true, true, false, false, false, false, false, false, false, false, false, false, false, false] rfl rfl (by kernel_rfl) (fun _ _ _ h => h) (Or.inl ⟨by rfl, ?_⟩) ?_ ?_
          rotate_left
          · intro w'
            go_simp
            with_reducible rfl
          rotate_left
          · simp only [Act.put, List.setIfInBounds_toArray, List.set_cons_zero, List.set_cons_succ, i64_w, i32_w]
            rfl
          refine pure_ (i := 2) (N := some 34) (v := ?_) (a' := ?_) #[true, true, true, false, false, false, false, false, false, false, false, false, false, false] rfl rfl (by kernel_rfl) (fun _ _ _ h => h) (Or.inl ⟨by rfl, ?_⟩) ?_ ?_
          rotate_left
          · intro w'
            go_simp
            with_reducible rfl
          rotate_left
          · simp only [Act.put, List.setIfInBounds_toArray, List.set_cons_zero, List.set_cons_succ, i64_w, i32_w]
            rfl
          refine pure_ (i := 4) (N := some 36) (v := ?_) (a' := ?_) #[true, true, true, false, true, false, false, false, false, false, false, false, false, false] rfl rfl (by kernel_rfl) (fun _ _ _ h => h) (Or.inl ⟨by rfl, ?_⟩) ?_ ?_
          rotate_left
          · intro w'
            go_simp
            with_reducible rfl
          rotate_left
          · simp only [Act.put, List.setIfInBounds_toArray, List.set_cons_zero, List.set_cons_succ, i64_w, i32_w]
            rfl
          refine pure_ (i := 5) (N := some 37) (v := ?_) (a' := ?_) #[true, true, true, false, true, true, false, false, false, false, false, false, false, false] rfl rfl (by kernel_rfl) (fun _ _ _ h => h) (Or.inl ⟨by rfl, ?_⟩) ?_ ?_
          rotate_left
          · intro w'
            go_simp
            with_reducible rfl
          rotate_left
          · simp only [Act.put, List.setIfInBounds_toArray, List.set_cons_zero, List.set_cons_succ, i64_w, i32_w]
            rfl
          refine pure_ (i := 6) (N := some 38) (v := ?_) (a' := ?_) #[true, true, true, false, true, true, true, false, false, false, false, false, false, false] rfl rfl (by kernel_rfl) (fun _ _ _ h => h) (Or.inl ⟨by rfl, ?_⟩) ?_ ?_
          rotate_left
          · intro w'
            go_simp
            with_reducible rfl
          rotate_left
          · simp only [Act.put, List.setIfInBounds_toArray, List.set_cons_zero, List.set_cons_succ, i64_w, i32_w]
            rfl
          refine pure_ (i := 8) (N := some 40) (v := ?_) (a' := ?_) #[true, true, true, false, true, true, true, false, true, false, false, false, false, false] rfl rfl (by kernel_rfl) (fun _ _ _ h => h) (Or.inl ⟨by rfl, ?_⟩) ?_ ?_
          rotate_left
          · intro w'
            go_simp
            with_reducible rfl
          rotate_left
          · simp only [Act.put, List.setIfInBounds_toArray, List.set_cons_zero, List.set_cons_succ, i64_w, i32_w]
            rfl
          refine pure_ (i := 9) (N := some 41) (v := ?_) (a' := ?_) #[true, true, true, false, true, true, true, false, true, true, false, false, false, false] rfl rfl (by kernel_rfl) (fun _ _ _ h => h) (Or.inl ⟨by rfl, ?_⟩) ?_ ?_
          rotate_left
          · intro w'
            go_simp
            with_reducible rfl
          rotate_left
          · simp only [Act.put, List.setIfInBounds_toArray, List.set_cons_zero, List.set_cons_succ, i64_w, i32_w]
            rfl
          refine pure_ (i := 10) (N := some 42) (v := ?_) (a' := ?_) #[true, true, true, false, true, true, true, false, true, true, true, false, false, false] rfl rfl (by kernel_rfl) (fun _ _ _ h => h) (Or.inl ⟨by rfl, ?_⟩) ?_ ?_
          rotate_left
          · intro w'
            go_simp
            with_reducible rfl
          rotate_left
          · simp only [Act.put, List.setIfInBounds_toArray, List.set_cons_zero, List.set_cons_succ, i64_w, i32_w]
            rfl
          refine take_ (i := 3) (N := some 35) (v := ?_) (a' := ?_) #[true, true, true, true, true, true, true, false, true, true, true, false, false, false] rfl rfl (by kernel_rfl) (fun _ _ _ h => h) (Or.inl ⟨by rfl, ?_⟩) hHeld ?_ ?_
          rotate_left
          · rintro w' ⟨s0, s1, s2⟩
            go_simp
            with_reducible rfl
          rotate_left
          · simp only [Act.put, List.setIfInBounds_toArray, List.set_cons_zero, List.set_cons_succ, i64_w, i32_w]
            rfl
          refine take_ (i := 7) (N := some 39) (v := ?_) (a' := ?_) #[true, true, true, true, true, true, true, true, true, true, true, false, false, false] rfl rfl (by kernel_rfl) (fun _ _ _ h => h) (Or.inl ⟨by rfl, ?_⟩) hHeld ?_ ?_
          rotate_left
          · rintro w' ⟨s0, s1, s2⟩
            go_simp
            with_reducible rfl
          rotate_left
          · simp only [Act.put, List.setIfInBounds_toArray, List.set_cons_zero, List.set_cons_succ, i64_w, i32_w]
            rfl
          refine take_ (i := 11) (N := some 43) (v := ?_) (a' := ?_) #[true, true, true, true, true, true, true, true, true, true, true, true, false, false] rfl rfl (by kernel_rfl) (fun _ _ _ h => h) (Or.inl ⟨by rfl, ?_⟩) hHeld ?_ ?_
          rotate_left
          · rintro w' ⟨s0, s1, s2⟩
            go_simp
            with_reducible rfl
          rotate_left
          · simp only [Act.put, List.setIfInBounds_toArray, List.set_cons_zero, List.set_cons_succ, i64_w, i32_w]
            rfl
          refine pure_ (i := 12) (N := some 44) (v := ?_) (a' := ?_) #[true, true, true, true, true, true, true, true, true, true, true, true, true, false] rfl rfl (by kernel_rfl) (fun _ _ _ h => h) (Or.inl ⟨by rfl, ?_⟩) ?_ ?_
          rotate_left
          · intro w'
            go_simp
            with_reducible rfl
          rotate_left
          · simp only [Act.put, List.setIfInBounds_toArray, List.set_cons_zero, List.set_cons_succ, i64_w, i32_w]
            rfl
          refine pure_ (i := 13) (N := some 45) (v := ?_) (a' := ?_) #[true, true, true, true, true, true, true, true, true, true, true, true, true, true] rfl rfl (by kernel_rfl) (fun _ _ _ h => h) (Or.inl ⟨by rfl, ?_⟩) ?_ ?_
          rotate_left
          · intro w'
            go_simp
            with_reducible rfl
          rotate_left
          · simp only [Act.put, List.setIfInBounds_toArray, List.set_cons_zero, List.set_cons_succ, i64_w, i32_w]
            rfl
          refine done_ (by kernel_rfl) ?_
          clear hHeld cl cg cu
          have HMd := Lib.hid (HM.out.grow (below_drew (Below.refl _ wr)))
          obtain ⟨Wa, hWa⟩ : ∃ W, W = wr.drew := ⟨_, rfl⟩
          rw [← hWa] at HMd ⊢
          clear hWa
          go_wp2_with (go_at_call 33; refine (in_at Wa g cap (zs kept) kept ⟨lb, x, r', sizeI x⟩ none HMd.out.st HMd.out.lk HNL.out).mono ?_; rintro e w6 ⟨⟨v6, rfl⟩, hs6, ho6⟩; have HS6 := Lib.hid hs6; have HO6 := Lib.hid ho6; clear hs6 ho6)
          go_ret
          have ho6 : Only (fun k => Mine g xs k ∨ k = lb) Wa w6 := HO6.out.mono (fun k hk => by
            rcases hk with rfl | ⟨e, he, rfl⟩
            · exact .inl (.inl rfl)
            · rcases List.mem_cons.1 he with rfl | he
              · exact .inr rfl
              · exact .inl (HMX.out _ (.inr ⟨e, he, rfl⟩)))
          have o6 : Only (Mine g xs) w w6 := ⟨HO6.out.os.trans HMd.out.only.os, HO6.out.tape.trans HMd.out.only.tape, HO6.out.output.trans HMd.out.only.output, Nat.le_trans HMd.out.only.size HO6.out.size, fun k hk hm => (ho6.block k (by have := HMd.out.only.size; omega) (by
            rintro (h | rfl)
            · exact hm h
            · have := HLB.out; omega)).trans (HMd.out.only.block k hk hm)⟩
          refine ⟨o6, .inr (.inr ⟨HRB.out.symm, by omega, rfl, kept, gone, ⟨lb, x, r', sizeI x⟩, HMd.out.split, rfl, rfl, HLB.out, HMd.out.ex.only ho6 (fun k hk => ?_), HF.out, HMd.out.tight, ?_⟩)⟩
          · rintro (h | rfl)
            · have := hml _ h; omega
            · exact Nat.lt_irrefl _ hk.2
          · have := HS6.out
            rwa [HWI.out] at this
end Go.Proofs.YtkbbjjegpjdpeaaDoor.S
/- (not yet a claim) the store as it stands behind every call -/
namespace Go.Proofs.YtkbbjjegpjdpeaaDoor.S
open Go.RowKit Go.Proofs.YtkbbjjegpjdpeaaDoorW.PrintWords Go.Proofs.YtkbbjjegpjdpeaaDoorW.PrintLast Go.Proofs.YtkbbjjegpjdpeaaDoorW.PrintMore Go.Proofs.YtkbbjjegpjdpeaaDoor.G Go.Proofs.YtkbbjjegpjdpeaaDoor.V
set_option linter.unusedVariables false
set_option linter.unusedSimpArgs false

set_option maxRecDepth 100000 in
theorem theirs_calls (w : World) (x : S41) (r : Rf) : Calls Tryd.prog 22 #[.agg (Vx x r)] w fun e w' => e = .returned (.agg (Vx x r)) ∧ Below w.heap.size w w' := by
  go_enter Tryd.func22, Tryd.ntmps22
  go_wp2
  refine bodyPost_ret (v := .agg (Vx x r)) (by simp [results, Tryd.results22, go_sem]) rfl ⟨rfl, ?_⟩
  repeat (first | exact Below.refl _ _ | apply below_alloc | (refine Below.setCell ?_ (by simp) _))
set_option maxRecDepth 100000 in
theorem ours_calls (w : World) (x : S41) (r : Rf) : Calls Tryd.prog 13 #[.agg (Vx x r)] w fun e w' => e = .returned (.agg (Vx x r)) ∧ Below w.heap.size w w' := by
  go_enter Tryd.func13, Tryd.ntmps13
  go_wp2
  refine bodyPost_ret (v := .agg (Vx x r)) (by simp [results, Tryd.results13, go_sem]) rfl ⟨rfl, ?_⟩
  repeat (first | exact Below.refl _ _ | apply below_alloc | (refine Below.setCell ?_ (by simp) _))

structure Inv (w : World) (B : Nat) (g : Nat) (cap : Int) (l : List Nd) : Prop where
  st : StoreAt w g cap (zs l) l
  ge : ∀ k, Mine g l k → B ≤ k
  ex : ∀ d ∈ l, Ex w (fun k => ¬ Mine g l k) d.x d.r
  sm : ∀ d ∈ l, Sm d.x ∧ d.z = sizeI d.x
  cap0 : 0 ≤ cap
  cap1 : cap ≤ 65536
  room : zs l ≤ cap
theorem zs_len : ∀ (l : List Nd), (∀ d ∈ l, 64 ≤ d.z) → 64 * (l.length : Int) ≤ zs l
  | [], _ => by simp [zs]
  | d :: t, h => by
    have h1 := h d (by simp)
    have h2 := zs_len t (fun e he => h e (by simp [he]))
    simp only [zs, List.length_cons]
    omega
theorem Inv.z64 {w : World} {B g : Nat} {cap : Int} {l : List Nd} (h : Inv w B g cap l) : ∀ d ∈ l, 64 ≤ d.z := fun d hd => by rw [(h.sm d hd).2]; exact sizeI_lo _
theorem Inv.len {w : World} {B g : Nat} {cap : Int} {l : List Nd} (h : Inv w B g cap l) : l.length ≤ 1024 := by
  have h1 := zs_len l h.z64
  have h2 := h.room
  have h3 := h.cap1
  omega
theorem Inv.grow {w w' : World} {B g : Nat} {cap : Int} {l : List Nd} (h : Inv w B g cap l) (hb : Below w.heap.size w w') : Inv w' B g cap l :=
  ⟨h.st.below hb, h.ge, fun d hd => (h.ex d hd).below hb, h.sm, h.cap0, h.cap1, h.room⟩
theorem Inv.same {w w' : World} {B g : Nat} {cap : Int} {l : List Nd} (h : Inv w B g cap l) (hs : StoreAt w' g cap (zs l) l) (ho : Only (Mine g l) w w') : Inv w' B g cap l :=
  ⟨hs, h.ge, fun d hd => (h.ex d hd).only ho (fun k hk hm => hk hm), h.sm, h.cap0, h.cap1, h.room⟩
/-- fewer links, or the same ones -/
theorem Inv.sub {w w' : World} {B g : Nat} {cap : Int} {l l' : List Nd} (h : Inv w B g cap l) (hs : StoreAt w' g cap (zs l') l') (ho : Only (Mine g l) w w') (hm : ∀ d ∈ l', d ∈ l) (hr : zs l' ≤ zs l) : Inv w' B g cap l' :=
  ⟨hs, fun k hk => h.ge k (hk.mono hm), fun d hd => ((h.ex d (hm d hd)).only ho (fun k hk hmm => hk hmm)).mono (fun k hk hmm => hk (hmm.mono hm)), fun d hd => h.sm d (hm d hd), h.cap0, h.cap1, by have := h.room; omega⟩
/-- one link more -/
theorem Inv.more {w w' : World} {B g : Nat} {cap : Int} {l kept : List Nd} {d : Nd} (h : Inv w B g cap l) (hs : StoreAt w' g cap (zs (d :: kept)) (d :: kept)) (ho : Only (Mine g l) w w') (hm : ∀ e ∈ kept, e ∈ l) (hr : zs kept ≤ cap - sizeI d.x) (hz : d.z = sizeI d.x) (hsm : Sm d.x)
    (hB : B ≤ w.heap.size) (hb : w.heap.size ≤ d.b) (hex : Ex w' (fun k => w.heap.size ≤ k ∧ k < d.b) d.x d.r) : Inv w' B g cap (d :: kept) := by
  have hml : ∀ k, Mine g l k → k < w.heap.size := fun k hk => mine_lt h.st hk
  have hmk : ∀ k, Mine g kept k → k < w.heap.size := fun k hk => hml k (hk.mono hm)
  have hcase : ∀ k, Mine g (d :: kept) k → k = d.b ∨ Mine g kept k := fun k hk => by
    rcases hk with rfl | ⟨e, he, rfl⟩
    · exact .inr (.inl rfl)
    · rcases List.mem_cons.1 he with rfl | he
      · exact .inl rfl
      · exact .inr (.inr ⟨e, he, rfl⟩)
  refine ⟨hs, fun k hk => ?_, fun e he => ?_, fun e he => ?_, h.cap0, h.cap1, ?_⟩
  · rcases hcase k hk with rfl | hk
    · omega
    · exact h.ge k (hk.mono hm)
  · rcases List.mem_cons.1 he with rfl | he
    · refine hex.mono (fun k hk hmm => ?_)
      rcases hcase k hmm with e2 | h2
      · omega
      · have := hmk k h2; omega
    · refine (((h.ex e (hm e he)).lt.only ho (fun k hk hmm => hk.1 hmm))).mono (fun k hk hmm => ?_)
      rcases hcase k hmm with e2 | h2
      · have := hk.2; omega
      · exact hk.1 (h2.mono hm)
  · rcases List.mem_cons.1 he with rfl | he
    · exact ⟨hsm, hz⟩
    · exact h.sm e (hm e he)
  · simp only [zs]
    omega
theorem Inv.below {w w' : World} {B g : Nat} {cap : Int} {l : List Nd} {S : Nat → Prop} (hB : B ≤ w.heap.size) (ho : Only S w w') (hS : ∀ k, S k → B ≤ k) : Below B w w' :=
  ⟨ho.os, ho.tape, ho.output, ho.size, fun k hk => ho.block k (by omega) (fun hs => by have := hS k hs; omega)⟩

/-- what a call of a kind does -/
def Put (cap : Int) (x : S41) (xs l' : List Nd) : Prop :=
  (rightB x = false ∧ l' = xs) ∨ (rightB x = true ∧ cap < sizeI x ∧ l' = ys xs x) ∨
  (rightB x = true ∧ sizeI x ≤ cap ∧ ∃ kept gone d, ys xs x = kept ++ gone ∧ d.x = x ∧ zs kept ≤ cap - sizeI x ∧ (∀ h t, gone = h :: t → cap - sizeI x < zs kept + h.z) ∧ l' = d :: kept)
def Get (q : S31) (xs l' : List Nd) : Prop := (best q xs = none ∧ l' = xs) ∨ (∃ l1 d l2, xs = l1 ++ d :: l2 ∧ best q xs = some d ∧ l' = d :: (l1 ++ l2))
theorem inv_put {w : World} {B g : Nat} {cap : Int} {xs : List Nd} {x : S41} {r : Rf} (h : Inv w B g cap xs) (hB : B ≤ w.heap.size) (hx : Ex w (fun k => ¬ Mine g xs k) x r) (hs : Sm x) :
    Calls Tryd.prog 21 #[.pointer (some (at0 g)), .agg (Vx x r)] w fun e w' => Only (Mine g xs) w w' ∧ ∃ l' c, e = .returned (.int .i64 c) ∧ Inv w' B g cap l' ∧ Put cap x xs l' ∧ (c = if rightB x then if cap < sizeI x then 6 else 0 else 1) := by
  refine (put_made w g cap xs _ x r h.st (fun d hd => ⟨h.ex d hd, (h.sm d hd).1⟩) (fun k hk => hk) (fun d hd => by have := h.z64 d hd; omega) h.room (by have := h.len; omega) h.cap0 h.cap1 hx hs).mono ?_
  rintro e w' ⟨ho, h1 | h1 | h1⟩
  · obtain ⟨h1, rfl, h3⟩ := h1
    exact ⟨ho, xs, 1, rfl, h.same h3 ho, .inl ⟨h1, rfl⟩, by simp [h1]⟩
  · obtain ⟨h1, h2, rfl, h3⟩ := h1
    exact ⟨ho, _, 6, rfl, h.sub h3 ho (fun d hd => (List.mem_filter.1 hd).1) (zs_filter_le _ _ (fun d hd => by have := h.z64 d hd; omega)), .inr (.inl ⟨h1, h2, rfl⟩), by simp [h1, h2]⟩
  · obtain ⟨h1, h2, rfl, kept, gone, d, hk, hd, hz, hb, hE, hr, ht, h3⟩ := h1
    refine ⟨ho, _, 0, rfl, h.more h3 ho (ys_mem hk) (by rw [hd]; exact hr) (by rw [hd]; exact hz) (by rw [hd]; exact hs) hB hb hE, .inr (.inr ⟨h1, h2, kept, gone, d, hk, hd, hr, ht, rfl⟩), ?_⟩
    rw [if_pos h1, if_neg (by omega)]
theorem inv_get {w : World} {B g : Nat} {cap : Int} {xs : List Nd} {q : S31} {A4 A5 : Option Addr} {c4 c5 : Nat} (h : Inv w B g cap xs) (hC : Kd.C k63 w A4 q.f4.length q.f4) (hc : q.f4.length ≤ c4) (hq : q.f4.length < 1099511627776) :
    Calls Tryd.prog 15 #[.pointer (some (at0 g)), .agg (Vq q A4 c4 A5 c5)] w fun e w' => Only (Mine g xs) w w' ∧ ∃ l', Inv w' B g cap l' ∧ Get q xs l' ∧
      ((best q xs = none ∧ e = .returned (.tuple #[.agg #[.string ⟨#[]⟩, .string ⟨#[]⟩, .string ⟨#[]⟩, .string ⟨#[]⟩, .slice none 0 0, .slice none 0 0, .int .i64 0, .slice none 0 0, .slice none 0 0, .int .i64 0, .int .i64 0], .bool false])) ∨
       (∃ d r', best q xs = some d ∧ e = .returned (.tuple #[.agg (Vx d.x r'), .bool true]) ∧ Ex w' (fun k => w.heap.size ≤ k) d.x r')) := by
  have hz : ∀ d ∈ xs, 0 ≤ d.z := fun d hd => by have := h.z64 d hd; omega
  refine (get_made w g cap xs _ q A4 c4 A5 c5 h.st (fun d hd => ⟨h.ex d hd, sm_fits (h.sm d hd).1, sm_len4 (h.sm d hd).1, (h.sm d hd).1.a7⟩) (fun k hk => hk) hz (by have := h.room; have := h.cap1; omega) hC hc hq).mono ?_
  rintro e w' ⟨ho, ⟨h1, h2, h3⟩ | ⟨l1, d, l2, r', h1, h2, h3, h4, h5⟩⟩
  · exact ⟨ho, xs, h.same h3 ho, .inl ⟨h1, rfl⟩, .inl ⟨h1, h2⟩⟩
  · have hzz : zs (d :: (l1 ++ l2)) = zs xs := by rw [h1, zs_append]; simp only [zs, zs_append]; omega
    refine ⟨ho, _, h.sub (hzz ▸ h5) ho (fun e he => ?_) (by rw [hzz]; exact Int.le_refl _), .inr ⟨l1, d, l2, h1, h2, rfl⟩, .inr ⟨d, r', h2, h3, h4⟩⟩
    rw [h1]
    rcases List.mem_cons.1 he with rfl | he
    · simp
    · rcases List.mem_append.1 he with he | he <;> simp [he]
end Go.Proofs.YtkbbjjegpjdpeaaDoor.S
/- (not yet a claim) does -/
namespace Go.Proofs.YtkbbjjegpjdpeaaDoor.S
open Go.RowKit Go.Proofs.YtkbbjjegpjdpeaaDoorW.PrintWords Go.Proofs.YtkbbjjegpjdpeaaDoorW.PrintLast Go.Proofs.YtkbbjjegpjdpeaaDoorW.PrintMore Go.Proofs.YtkbbjjegpjdpeaaDoor.G Go.Proofs.YtkbbjjegpjdpeaaDoor.V
set_option linter.unusedVariables false
set_option linter.unusedSimpArgs false
end Go.Proofs.YtkbbjjegpjdpeaaDoor.S

