import Derived.Test.YtakdfjehjnhikaaQn
namespace Go.Proofs.Ytakdfjehjnhikaa.Q
open Go.RowKit Go.Proofs.YtakdfjehjnhikaaW.PrintWords Go.Proofs.YtakdfjehjnhikaaW.PrintLast Go.Proofs.YtakdfjehjnhikaaW.PrintMore Go.Proofs.Ytakdfjehjnhikaa.G
set_option linter.unusedVariables false
set_option linter.unusedSimpArgs false

/-- the first place from o on at which p holds, or -1 -/
def fi (p : S29 → Bool) : Int → List S29 → Int
  | _, [] => -1
  | o, x :: xs => if p x then o else fi p (o + 1) xs
theorem fi_drop (p : S29 → Bool) (l : List S29) (i : Nat) (h : i < l.length) (o : Int) : fi p o (l.drop i) = if p (rd_T29 l (i : Int)) then o else fi p (o + 1) (l.drop (i + 1)) := by
  rw [List.drop_eq_getElem_cons h]
  unfold rd_T29
  rw [Int.toNat_natCast, List.getD_eq_getElem?_getD, List.getElem?_eq_getElem h]
  rfl
theorem fi_yes (p : S29 → Bool) (l : List S29) (i : Nat) (h : i < l.length) (o : Int) (hp : p (rd_T29 l (i : Int)) = true) : fi p o (l.drop i) = o := by rw [fi_drop p l i h, if_pos hp]
theorem fi_no (p : S29 → Bool) (l : List S29) (i : Nat) (h : i < l.length) (o : Int) (hp : p (rd_T29 l (i : Int)) = false) : fi p o (l.drop i) = fi p (o + 1) (l.drop (i + 1)) := by rw [fi_drop p l i h, if_neg (by rw [hp]; simp)]
theorem fi_end (p : S29 → Bool) (l : List S29) (o : Int) : fi p o (l.drop l.length) = -1 := by rw [List.drop_length]; rfl
theorem fi_congr (p q : S29 → Bool) (h : ∀ z, p z = q z) : ∀ (l : List S29) (o : Int), fi p o l = fi q o l
  | [], _ => rfl
  | x :: l, o => by unfold fi; rw [h, fi_congr p q h l]

attribute [local go_sem high] eqA29
set_option maxHeartbeats 4000000 in
theorem index_calls (w : World) (A : Option Addr) (c : Nat) (l : List S29) (x : S29) (hC : Kd.C k29 w A l.length l) (hl : l.length ≤ 140737488351232) :
    Calls Try.prog 36 #[.slice A l.length c, .agg #[.string x.f0, .string x.f1]] w fun e w' => e = .returned (.int .i64 (fi (fun z => sameAs z x) 0 l)) ∧ Below w.heap.size w w' := by
  have HC := Lib.hid hC
  have BX := Lib.hid (World.alloc_heap_new w (.cells #[.string x.f0, .string x.f1] 29))
  have HB := Lib.hid (below_alloc (Below.refl w.heap.size w) (.cells #[.string x.f0, .string x.f1] 29))
  clear hC
  go_enter Try.func36, Try.ntmps36
  go_wp2
  generalize (w.alloc (.cells #[.string x.f0, .string x.f1] 29)) = W0 at BX HB ⊢
  go_loopg [8] l.length (fun k v8 W => ∃ (i : Nat), v8 = .int .i64 i ∧ i ≤ l.length ∧ l.length ≤ k + i ∧ Hid (fi (fun z => sameAs z x) 0 l = fi (fun z => sameAs z x) (i : Int) (l.drop i)) ∧ Hid (Below W0.heap.size W0 W))
  case atStart => exact ⟨0, rfl, by omega, by omega, Lib.hid rfl, Lib.hid (Below.refl _ _)⟩
  case round =>
    obtain ⟨i, rfl, hi, hk, HF, HW⟩ := hrel
    have x0 := box0 (blk_below HW.out BX.out)
    have x1 := box1 (blk_below HW.out BX.out)
    by_cases hlt : i < l.length
    · obtain ⟨ad, rfl, hz0, hz1⟩ := at_T29 (Kd.C_below HC.out (below_step HB.out HW.out)) (i : Int) (by omega) (by omega)
      rw [show (i : Int).toNat = i from Int.toNat_natCast i] at hz0 hz1
      obtain ⟨ko, rfl⟩ : ∃ ko, gk = ko + 1 := ⟨gk - 1, by omega⟩
      have hk2 : l.length ≤ ko + (i + 1) := by omega
      have hi1 : i + 1 ≤ l.length := hlt
      have c1 : decide ((i : Int) < (l.length : Int)) = true := decide_eq_true (by omega)
      have p1 : 0 ≤ (i : Int) := by omega
      have p2 : (i : Int) < (l.length : Int) := by omega
      have hadl := World.block_lt_of_cell? wr _ hz0
      have HWI := Lib.hid (show wrap64 ((i : Int) + 1) = (i : Int) + 1 by unfold wrap64; omega)
      obtain ⟨b, hb⟩ : ∃ b, sameAs (rd_T29 l (i : Int)) x = b := ⟨_, rfl⟩
      have Hyes := Lib.hid (fun h => fi_yes (fun z => sameAs z x) l i hlt (i : Int) h)
      have Hno := Lib.hid (fun h => fi_no (fun z => sameAs z x) l i hlt (i : Int) h)
      have HBB := Lib.hid hb
      have hb' : (x.f0.toList == (rd_T29 l (i : Int)).f0.toList && (x.f1.toList == (rd_T29 l (i : Int)).f1.toList)) = b := hb
      clear hlt hb
      cases b with
      | true =>
        go_wp2_with fail
        go_quiet (fail)
        go_wp2
        go_ret
        exact ⟨by rw [HF.out, Hyes.out HBB.out]; rfl, below_step HB.out (by repeat (first | exact HW.out | apply below_drew | apply pw_below_drewN))⟩
      | false =>
        go_wp2_with fail
        go_quiet (fail)
        go_wp2
        go_roundg ko
        case measure => omega
        case rel => exact ⟨i + 1, by first | exact congrArg (Value.int .i64) HWI.out | go_num, hi1, hk2, Lib.hid (HF.out.trans (Hno.out HBB.out)), Lib.hid (by repeat (first | exact HW.out | apply below_drew | apply pw_below_drewN))⟩
    · have c0 : decide ((i : Int) < (l.length : Int)) = false := decide_eq_false (by omega)
      have hil : i = l.length := by omega
      have HE := Lib.hid hil
      clear hil
      go_wp2
      go_ret
      exact ⟨by rw [HF.out, HE.out, fi_end]; rfl, below_step HB.out HW.out⟩

set_option maxHeartbeats 4000000 in
theorem indexf_calls (w : World) (A : Option Addr) (c : Nat) (l : List S29) (n : ByteArray) (P : Nat) (hC : Kd.C k29 w A l.length l) (hl : l.length ≤ 140737488351232) (hP : w.cell? ⟨P, 0, none⟩ = some (.string n) ∧ P < w.heap.size) :
    Calls Try.prog 37 #[.slice A l.length c, .func (.func 45) #[] #[.pointer (some ⟨P, 0, none⟩)]] w fun e w' => e = .returned (.int .i64 (fi (namedAs n) 0 l)) ∧ Below w.heap.size w w' := by
  have HC := Lib.hid hC
  have HP := Lib.hid hP
  clear hC hP
  go_enter Try.func37, Try.ntmps37
  go_wp2
  go_loopg [8] l.length (fun k v8 W => ∃ (i : Nat), v8 = .int .i64 i ∧ i ≤ l.length ∧ l.length ≤ k + i ∧ Hid (fi (namedAs n) 0 l = fi (namedAs n) (i : Int) (l.drop i)) ∧ Hid (Below w.heap.size w W))
  case atStart => exact ⟨0, rfl, by omega, by omega, Lib.hid rfl, Lib.hid (Below.refl _ _)⟩
  case round =>
    obtain ⟨i, rfl, hi, hk, HF, HW⟩ := hrel
    by_cases hlt : i < l.length
    · obtain ⟨ad, rfl, hz0, hz1⟩ := at_T29 (Kd.C_below HC.out HW.out) (i : Int) (by omega) (by omega)
      rw [show (i : Int).toNat = i from Int.toNat_natCast i] at hz0 hz1
      obtain ⟨ko, rfl⟩ : ∃ ko, gk = ko + 1 := ⟨gk - 1, by omega⟩
      have hk2 : l.length ≤ ko + (i + 1) := by omega
      have hi1 : i + 1 ≤ l.length := hlt
      have c1 : decide ((i : Int) < (l.length : Int)) = true := decide_eq_true (by omega)
      have p1 : 0 ≤ (i : Int) := by omega
      have p2 : (i : Int) < (l.length : Int) := by omega
      have hadl := World.block_lt_of_cell? wr _ hz0
      have HWI := Lib.hid (show wrap64 ((i : Int) + 1) = (i : Int) + 1 by unfold wrap64; omega)
      obtain ⟨b, hb⟩ : ∃ b, namedAs n (rd_T29 l (i : Int)) = b := ⟨_, rfl⟩
      have Hyes := Lib.hid (fun h => fi_yes (namedAs n) l i hlt (i : Int) h)
      have Hno := Lib.hid (fun h => fi_no (namedAs n) l i hlt (i : Int) h)
      have HBB := Lib.hid hb
      have Hcall : Hid (Calls Try.prog 45 #[.agg #[.string (rd_T29 l (i : Int)).f0, .string (rd_T29 l (i : Int)).f1], .pointer (some ⟨P, 0, none⟩)] wr fun e w' => e = .returned (.bool b) ∧ Below wr.heap.size wr w') := Lib.hid (by
        have := named_calls wr P n (rd_T29 l (i : Int)) (pw_cell_below HW.out HP.out.1) (Nat.lt_of_lt_of_le HP.out.2 HW.out.size)
        rw [hb] at this
        exact this)
      clear hlt hb
      cases b with
      | true =>
        go_wp2_with (first | (go_at_call 45; refine Hcall.out.mono ?_; rintro e w3 ⟨rfl, hb3⟩; have HB3 := Lib.hid (below_step HW.out hb3); clear hb3))
        go_ret
        exact ⟨by rw [HF.out, Hyes.out HBB.out]; rfl, HB3.out⟩
      | false =>
        go_wp2_with (first | (go_at_call 45; refine Hcall.out.mono ?_; rintro e w3 ⟨rfl, hb3⟩; have HB3 := Lib.hid (below_step HW.out hb3); clear hb3))
        go_roundg ko
        case measure => omega
        case rel => exact ⟨i + 1, by first | exact congrArg (Value.int .i64) HWI.out | go_num, hi1, hk2, Lib.hid (HF.out.trans (Hno.out HBB.out)), HB3⟩
    · have c0 : decide ((i : Int) < (l.length : Int)) = false := decide_eq_false (by omega)
      have hil : i = l.length := by omega
      have HE := Lib.hid hil
      clear hil
      go_wp2
      go_ret
      exact ⟨by rw [HF.out, HE.out, fi_end]; rfl, HW.out⟩

def FX : List S29 := (qtab_fixed.f).getD []
theorem fixed_eq : qtab_fixed.f = some FX := by rfl
theorem all_eq : turnbuckleref13_All.f = some FX := by rfl
theorem FX_len : FX.length = 24 := by rfl

theorem findfixed_calls (w : World) (x : S29) : Calls Try.prog 20 #[.agg #[.string x.f0, .string x.f1]] w fun e w' => e = .returned (.tuple #[.int .i64 (fi (fun z => sameAs z x) 0 FX), .int .i64 (fi (namedAs x.f0) 0 FX)]) ∧ Below w.heap.size w w' := by
  have hlen : FX.length ≤ 140737488351232 := by rw [FX_len]; decide
  have BX := Lib.hid (World.alloc_heap_new w (.cells #[.string x.f0, .string x.f1] 29))
  go_enter Try.func20, Try.ntmps20
  go_upto_region 2 with (first | (go_at_call 34; refine (qtab_fixed.calls FX _ fixed_eq).mono ?_; rintro e w1 ⟨v1, rfl, hR1, hb1⟩; obtain ⟨A, c, rfl, hl1, hC1⟩ := Kd.R_reads hR1; have HC1 := Lib.hid hC1; have BX1 := Lib.hid (blk_below hb1 BX.out); have HB1 := Lib.hid (below_step (below_alloc (Below.refl _ _) _) hb1); clear hR1 hb1 hC1))
  have HL := Lib.hid hlen
  have H0 := Lib.hid (box0 BX1.out)
  have H1 := Lib.hid (box1 BX1.out)
  clear hlen
  refine start_ (n := 10) (S := fun w' => w'.cell? ⟨w.heap.size, 0, none⟩ = some (.string x.f0) ∧ w'.cell? ⟨w.heap.size, 1, none⟩ = some (.string x.f1)) (ds := []) #[false, false, false, false, false, false, false, false, false, false] (by kernel_rfl) rfl rfl ⟨H0.out, H1.out⟩ (fun hHeld => ?_)
  refine pure_ (i := 0) (N := some 6) (v := ?_) (a' := ?_) #[true, false, false, false, false, false, false, false, false, false] rfl rfl (by kernel_rfl) (fun _ _ _ h => h) (Or.inl ⟨by rfl, ?_⟩) ?_ ?_
  rotate_left
  · intro w'
    go_simp
    with_reducible rfl
  rotate_left
  · simp only [Act.put, List.setIfInBounds_toArray, List.set_cons_zero, List.set_cons_succ, i64_w, i32_w]
    rfl
  refine pure_ (i := 3) (N := some 9) (v := ?_) (a' := ?_) #[true, false, false, true, false, false, false, false, false, false] rfl rfl (by kernel_rfl) (fun _ _ _ h => h) (Or.inl ⟨by rfl, ?_⟩) ?_ ?_
  rotate_left
  · intro w'
    go_simp
    with_reducible rfl
  rotate_left
  · simp only [Act.put, List.setIfInBounds_toArray, List.set_cons_zero, List.set_cons_succ, i64_w, i32_w]
    rfl
  refine pure_ (i := 4) (N := some 10) (v := ?_) (a' := ?_) #[true, false, false, true, true, false, false, false, false, false] rfl rfl (by kernel_rfl) (fun _ _ _ h => h) (Or.inl ⟨by rfl, ?_⟩) ?_ ?_
  rotate_left
  · intro w'
    go_simp
    with_reducible rfl
  rotate_left
  · simp only [Act.put, List.setIfInBounds_toArray, List.set_cons_zero, List.set_cons_succ, i64_w, i32_w]
    rfl
  refine take_ (i := 1) (N := some 7) (v := ?_) (a' := ?_) #[true, true, false, true, true, false, false, false, false, false] rfl rfl (by kernel_rfl) (fun _ _ _ h => h) (Or.inl ⟨by rfl, ?_⟩) hHeld ?_ ?_
  rotate_left
  · rintro w' ⟨s0, s1⟩
    go_simp
    with_reducible rfl
  rotate_left
  · simp only [Act.put, List.setIfInBounds_toArray, List.set_cons_zero, List.set_cons_succ, i64_w, i32_w]
    rfl
  refine take_ (i := 5) (N := some 11) (v := ?_) (a' := ?_) #[true, true, false, true, true, true, false, false, false, false] rfl rfl (by kernel_rfl) (fun _ _ _ h => h) (Or.inl ⟨by rfl, ?_⟩) hHeld ?_ ?_
  rotate_left
  · rintro w' ⟨s0, s1⟩
    go_simp
    with_reducible rfl
  rotate_left
  · simp only [Act.put, List.setIfInBounds_toArray, List.set_cons_zero, List.set_cons_succ, i64_w, i32_w]
    rfl
  refine one_ (i := 2) (N := some 8) #[true, true, true, true, true, true, false, false, false, false] rfl rfl (by kernel_rfl) (by decide) (fun K hK => ?_)
  refine goes_ Try.func36 (by kernel_rfl) rfl #[.slice A FX.length c, .agg #[.string x.f0, .string x.f1]] (by rfl) rfl rfl (by simp only [List.map_toArray, List.map_cons, List.map_nil]; rfl) ?_
  with_reducible refine (index_calls _ A c FX x (Kd.C_below HC1.out (below_drew (Below.refl _ w1))) HL.out).mono ?_
  rintro e w12 ⟨rfl, hb12⟩
  refine ⟨_, rfl, ?_⟩
  refine hK.out _ _ ⟨pw_cell_below (below_step (below_drew (Below.refl _ w1)) hb12) H0.out, pw_cell_below (below_step (below_drew (Below.refl _ w1)) hb12) H1.out⟩ (fun hHeld => ?_)
  clear hK K
  refine norm_ (a' := ?_) ?_ ?_
  rotate_left
  · show Act.put _ (some 8) _ = _
    simp only [Act.put, List.setIfInBounds_toArray, List.set_cons_zero, List.set_cons_succ, i64_w, i32_w]
    rfl
  refine one_ (i := 6) (N := some 12) #[true, true, true, true, true, true, true, false, false, false] rfl rfl (by kernel_rfl) (by decide) (fun K hK => ?_)
  refine goes_ Try.func38 (by kernel_rfl) rfl #[.string x.f0] (by rfl) rfl rfl (by simp only [List.map_toArray, List.map_cons, List.map_nil]; rfl) ?_
  with_reducible refine (mknamed_at _ x.f0).mono ?_
  rintro e w16 ⟨P6, rfl, hP6, hb16⟩
  refine ⟨_, rfl, ?_⟩
  refine hK.out _ _ ⟨pw_cell_below (below_step (below_step (below_drew (Below.refl _ w1)) hb12) hb16) H0.out, pw_cell_below (below_step (below_step (below_drew (Below.refl _ w1)) hb12) hb16) H1.out⟩ (fun hHeld => ?_)
  clear hK K
  refine norm_ (a' := ?_) ?_ ?_
  rotate_left
  · show Act.put _ (some 12) _ = _
    simp only [Act.put, List.setIfInBounds_toArray, List.set_cons_zero, List.set_cons_succ, i64_w, i32_w]
    rfl
  refine one_ (i := 7) (N := some 13) #[true, true, true, true, true, true, true, true, false, false] rfl rfl (by kernel_rfl) (by decide) (fun K hK => ?_)
  refine goes_ Try.func37 (by kernel_rfl) rfl #[.slice A FX.length c, .func (.func 45) #[] #[.pointer (some ⟨P6, 0, none⟩)]] (by rfl) rfl rfl (by simp only [List.map_toArray, List.map_cons, List.map_nil]; rfl) ?_
  with_reducible refine (indexf_calls _ A c FX x.f0 P6 (Kd.C_below HC1.out (below_step (below_step (below_drew (Below.refl _ w1)) hb12) hb16)) HL.out hP6).mono ?_
  rintro e w17 ⟨rfl, hb17⟩
  refine ⟨_, rfl, ?_⟩
  refine hK.out _ _ ⟨pw_cell_below (below_step (below_step (below_step (below_drew (Below.refl _ w1)) hb12) hb16) hb17) H0.out, pw_cell_below (below_step (below_step (below_step (below_drew (Below.refl _ w1)) hb12) hb16) hb17) H1.out⟩ (fun hHeld => ?_)
  clear hK K
  refine norm_ (a' := ?_) ?_ ?_
  rotate_left
  · show Act.put _ (some 13) _ = _
    simp only [Act.put, List.setIfInBounds_toArray, List.set_cons_zero, List.set_cons_succ, i64_w, i32_w]
    rfl
  refine pure_ (i := 8) (N := some 2) (v := ?_) (a' := ?_) #[true, true, true, true, true, true, true, true, true, false] rfl rfl (by kernel_rfl) (fun _ _ _ h => h) (Or.inl ⟨by rfl, ?_⟩) ?_ ?_
  rotate_left
  · intro w'
    go_simp
    with_reducible rfl
  rotate_left
  · simp only [Act.put, List.setIfInBounds_toArray, List.set_cons_zero, List.set_cons_succ, i64_w, i32_w]
    rfl
  refine pure_ (i := 9) (N := some 3) (v := ?_) (a' := ?_) #[true, true, true, true, true, true, true, true, true, true] rfl rfl (by kernel_rfl) (fun _ _ _ h => h) (Or.inl ⟨by rfl, ?_⟩) ?_ ?_
  rotate_left
  · intro w'
    go_simp
    with_reducible rfl
  rotate_left
  · simp only [Act.put, List.setIfInBounds_toArray, List.set_cons_zero, List.set_cons_succ, i64_w, i32_w]
    rfl
  refine done_ (by kernel_rfl) ?_
  have HB9 : Hid (Below w1.heap.size w1 w17) := Lib.hid (below_step (below_step (below_step (below_drew (Below.refl _ w1)) hb12) hb16) hb17)
  clear hb12 hb16 hb17 hP6
  go_wp2
  go_ret2
  exact ⟨rfl, below_step HB1.out HB9.out⟩
end Go.Proofs.Ytakdfjehjnhikaa.Q
