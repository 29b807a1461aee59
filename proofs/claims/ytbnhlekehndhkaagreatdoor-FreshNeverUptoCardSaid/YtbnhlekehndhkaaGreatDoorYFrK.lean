import Derived.Test.YtbnhlekehndhkaaGreatDoorYFrV
import Derived.Test.YtbnhlekehndhkaaGreatDoorYGA


/- Keep: its walk. -/
namespace Go.Proofs.YtbnhlekehndhkaaGreatDoor.Fr
open Go.RowKit Go.Proofs.YtbnhlekehndhkaaGreatDoorW.PrintWords Go.Proofs.YtbnhlekehndhkaaGreatDoorW.PrintLast Go.Proofs.YtbnhlekehndhkaaGreatDoorW.PrintMore Go.Proofs.YtbnhlekehndhkaaGreatDoor.G Go.Proofs.YtbnhlekehndhkaaGreatDoor.V Go.Proofs.YtbnhlekehndhkaaGreatDoor.S
set_option linter.unusedVariables false
set_option linter.unusedSimpArgs false
theorem ints_C {w : World} {g t : Nat} {m : Nat × Nat} {Q : List Int} (h : w.heap[g]? = some (.cells (Q.map (Value.int .i64)).toArray t m)) (hl : Q.length ≤ 9223372036854775807) : Kd.C (Kd.int .i64) w (some ⟨g, 0, none⟩) Q.length Q := by
  refine ⟨rfl, hl, fun _ => ⟨_, rfl, fun j p hj => ⟨[.int .i64 p], rfl, rfl, fun i u hu => ?_⟩⟩⟩
  rcases i with _ | i
  · obtain rfl := Option.some.inj hu
    rw [add_plain]
    exact c_of h _ (by simp [hj, show (Kd.int .i64).sz = 1 from rfl])
  · simp at hu
def USUAL : List Int := [200, 203, 204, 300, 301, 404, 405, 410, 414, 501]
theorem usual_f (n : Int) : slices_Contains_int_int.f 20 USUAL n = some (usualB n) := by
  unfold slices_Contains_int_int.f slices_Index_int_int.f usualB
  by_cases h0 : n = 200
  · subst h0; decide +kernel
  by_cases h1 : n = 203
  · subst h1; decide +kernel
  by_cases h2 : n = 204
  · subst h2; decide +kernel
  by_cases h3 : n = 300
  · subst h3; decide +kernel
  by_cases h4 : n = 301
  · subst h4; decide +kernel
  by_cases h5 : n = 404
  · subst h5; decide +kernel
  by_cases h6 : n = 405
  · subst h6; decide +kernel
  by_cases h7 : n = 410
  · subst h7; decide +kernel
  by_cases h8 : n = 414
  · subst h8; decide +kernel
  by_cases h9 : n = 501
  · subst h9; decide +kernel
  simp [h0, h1, h2, h3, h4, h5, h6, h7, h8, h9, USUAL, slices_Index_int_int.l0, Go.Proofs.YtbnhlekehndhkaaGreatDoorW.PrintWords.rd, wrap64]
theorem usual_q (g : Nat) (n : Int) (w : World) (h : w.heap[g]? = some (.cells #[.int .i64 200, .int .i64 203, .int .i64 204, .int .i64 300, .int .i64 301, .int .i64 404, .int .i64 405, .int .i64 410, .int .i64 414, .int .i64 501] 3 (0, 0))) :
    Calls Tryz.prog 52 #[.slice (some ⟨g, 0, none⟩) 10 10, .int .i64 n] w fun e w' => e = .returned (.bool (usualB n)) ∧ Below w.heap.size w w' :=
  (slices_Contains_int_int.calls 20 (some ⟨g, 0, none⟩) 10 USUAL n (usualB n) w (ints_C (Q := USUAL) h (by decide)) (by decide) (usual_f n)).mono fun e w' h => ⟨h.1, h.2.below⟩
set_option maxRecDepth 100000 in
set_option maxHeartbeats 16000000 in
theorem keep_q (w : World) (P : Nat → Prop) (x : S34) (r : Rf) (h : Ex w P x r)
    (hG : Da.Glob w) (hs : wt x.f1.f1 < 268435456) (hq : wt x.f0.f4 < 268435456) :
    Calls Tryz.prog 22 #[.agg (Vx x r)] w fun e w' => e = .returned (.bool (keepN x)) ∧ Below w.heap.size w w' := by
  obtain ⟨W0, hW0⟩ : ∃ W, W = w.alloc (.cells (Vx x r) 34) := ⟨_, rfl⟩
  have HB3 : Hid (Below w.heap.size w W0) := Lib.hid (by rw [hW0]; exact below_alloc (Below.refl _ _) _)
  have HX3 : Hid (W0.heap[w.heap.size]? = some (Bx x r)) := Lib.hid (by rw [hW0]; exact heap_alloc_new w _)
  have HEQ := Lib.hid hW0
  have HRI := Lib.hid (fun W (hb : Below w.heap.size w W) => right_calls W P x r (h.below hb))
  have HC0 := Lib.hid (fun W (hb : Below w.heap.size w W) => dirs_q r.A7 r.c7 x.f1.f1 W (Kd.C_below h.g7 hb) h.l7 hs (hG.below hb))
  have HR0 := Lib.hid (fun W (hb : Below w.heap.size w W) => dirs_q r.A4 r.c4 x.f0.f4 W (Kd.C_below h.g4 hb) h.l4 hq (hG.below hb))
  have HFI := Lib.hid (fun W (hb : Below w.heap.size w W) => first_q W r.A4 r.c4 x.f0.f4 AUTH (Kd.C_below h.g4 hb) (by have := wt_len x.f0.f4; omega))
  obtain ⟨KV, hKV⟩ := vary_ev x.f1.f1 hs
  have HV := Lib.hid (fun W (hb : Below w.heap.size w W) => field_Vary.calls KV r.A7 r.c7 x.f1.f1 (vary x.f1.f1).1 (vary x.f1.f1).2 W (Kd.C_below h.g7 hb) h.l7 (hKV KV (Nat.le_refl _)))
  have HTO : Hid (rightB x = true → ∀ W, Below w.heap.size w W → Calls Tryz.prog 45 #[.agg (Vx x r)] W fun e w' => e = .returned (.tuple #[.int .i64 ((toldN x.f1.f1 x.f3).getD 0), .bool (toldN x.f1.f1 x.f3).isSome]) ∧ Below W.heap.size W w') :=
    Lib.hid (fun hr W hbw => by have hx := (rightB_iff x).1 hr; exact told_q W P x r (h.below hbw) (hG.below hbw) hs (by omega) (by omega))
  obtain ⟨r0, hr0⟩ : ∃ r0, r0 = keepN x := ⟨_, rfl⟩
  rw [← hr0]
  unfold keepN at hr0
  obtain ⟨l0, l1, l2, l3, l4, l5, l6, l7, l8, l9, l10⟩ := bx_cells HX3.out
  obtain ⟨C, hC_⟩ : ∃ C, C = dirsOf x.f1.f1 := ⟨_, rfl⟩
  obtain ⟨R, hR_⟩ : ∃ R, R = dirsOf x.f0.f4 := ⟨_, rfl⟩
  obtain ⟨br, hbr⟩ : ∃ b, b = rightB x := ⟨_, rfl⟩
  obtain ⟨star, hstar⟩ : ∃ b, b = (vary x.f1.f1).2 := ⟨_, rfl⟩
  obtain ⟨names, hnames⟩ : ∃ b, b = (vary x.f1.f1).1 := ⟨_, rfl⟩
  obtain ⟨au, hau⟩ : ∃ b, b = firstN x.f0.f4 AUTH := ⟨_, rfl⟩
  obtain ⟨tq, hto⟩ : ∃ b, b = toldN x.f1.f1 x.f3 := ⟨_, rfl⟩
  rw [← hC_] at HC0 hr0
  rw [← hR_] at HR0 hr0
  rw [← hbr] at HRI hr0 HTO
  rw [← hstar] at HV hr0
  rw [← hnames] at HV
  rw [← hau] at HFI hr0
  rw [← hto] at HTO hr0
  obtain ⟨sh, hsh⟩ : ∃ b, b = (!au.isSome || C.fl 3 || C.fl 2 || decide (0 ≤ C.nm 7)) := ⟨_, rfl⟩
  rw [← hsh] at hr0
  obtain ⟨us, hus⟩ : ∃ b, b = usualB x.f1.f0 := ⟨_, rfl⟩
  have HUS := Lib.hid (fun W g hg => usual_q g x.f1.f0 W hg)
  rw [← hus] at hr0 HUS
  have HRR := Lib.hid hr0
  have HSH := Lib.hid hsh
  unfold Fb.Ct.cells at HC0 HR0
  clear hr0 h hG hC_ hR_ hbr hW0 hstar hnames hau hto hsh hus hKV
  go_enter Tryz.func22, Tryz.ntmps22
  go_upto_region 1 with fail
  rw [← HEQ.out]
  obtain ⟨W1, hW1⟩ : ∃ W, W = W0 := ⟨_, rfl⟩
  rw [← hW1] at HB3 HX3 ⊢
  clear hW1
  have HC := Lib.hid (fun W (hb : Below W1.heap.size W1 W) => HC0.out W (below_step HB3.out hb))
  have HR := Lib.hid (fun W (hb : Below W1.heap.size W1 W) => HR0.out W (below_step HB3.out hb))
  have hV := AtV.start W1
  refine start_ (n := 12) (S := fun w' => w'.cell? ⟨w.heap.size, 7, none⟩ = some (.slice r.A7 x.f1.f1.length r.c7) ∧ w'.cell? ⟨w.heap.size, 4, none⟩ = some (.slice r.A4 x.f0.f4.length r.c4)) (ds := [10, 11]) #[false, false, false, false, false, false, false, false, false, false, false, false] (by kernel_rfl) rfl rfl ⟨c_of (blk_bel hV.bel HX3.out) 7 (v := .slice r.A7 x.f1.f1.length r.c7) rfl, c_of (blk_bel hV.bel HX3.out) 4 (v := .slice r.A4 x.f0.f4.length r.c4) rfl⟩ (fun hHeld => ?_)
  refine pure_ (i := 0) (N := some 12) (v := ?_) (a' := ?_) #[true, false, false, false, false, false, false, false, false, false, false, false] rfl rfl (by kernel_rfl) (fun _ _ _ h => h) (Or.inl ⟨by rfl, ?_⟩) ?_ ?_
  rotate_left
  · intro w'
    go_simp
    with_reducible rfl
  rotate_left
  · simp only [Act.put, List.setIfInBounds_toArray, List.set_cons_zero, List.set_cons_succ, i64_w, i32_w]
    rfl
  refine pure_ (i := 1) (N := some 13) (v := ?_) (a' := ?_) #[true, true, false, false, false, false, false, false, false, false, false, false] rfl rfl (by kernel_rfl) (fun _ _ _ h => h) (Or.inl ⟨by rfl, ?_⟩) ?_ ?_
  rotate_left
  · intro w'
    go_simp
    with_reducible rfl
  rotate_left
  · simp only [Act.put, List.setIfInBounds_toArray, List.set_cons_zero, List.set_cons_succ, i64_w, i32_w]
    rfl
  refine pure_ (i := 4) (N := some 16) (v := ?_) (a' := ?_) #[true, true, false, false, true, false, false, false, false, false, false, false] rfl rfl (by kernel_rfl) (fun _ _ _ h => h) (Or.inl ⟨by rfl, ?_⟩) ?_ ?_
  rotate_left
  · intro w'
    go_simp
    with_reducible rfl
  rotate_left
  · simp only [Act.put, List.setIfInBounds_toArray, List.set_cons_zero, List.set_cons_succ, i64_w, i32_w]
    rfl
  refine pure_ (i := 5) (N := some 17) (v := ?_) (a' := ?_) #[true, true, false, false, true, true, false, false, false, false, false, false] rfl rfl (by kernel_rfl) (fun _ _ _ h => h) (Or.inl ⟨by rfl, ?_⟩) ?_ ?_
  rotate_left
  · intro w'
    go_simp
    with_reducible rfl
  rotate_left
  · simp only [Act.put, List.setIfInBounds_toArray, List.set_cons_zero, List.set_cons_succ, i64_w, i32_w]
    rfl
  refine take_ (i := 2) (N := some 14) (v := ?_) (a' := ?_) #[true, true, true, false, true, true, false, false, false, false, false, false] rfl rfl (by kernel_rfl) (fun _ _ _ h => h) (Or.inl ⟨by rfl, ?_⟩) hHeld ?_ ?_
  rotate_left
  · rintro w' ⟨s0, s1⟩
    go_simp
    with_reducible rfl
  rotate_left
  · simp only [Act.put, List.setIfInBounds_toArray, List.set_cons_zero, List.set_cons_succ, i64_w, i32_w]
    rfl
  refine take_ (i := 6) (N := some 18) (v := ?_) (a' := ?_) #[true, true, true, false, true, true, true, false, false, false, false, false] rfl rfl (by kernel_rfl) (fun _ _ _ h => h) (Or.inl ⟨by rfl, ?_⟩) hHeld ?_ ?_
  rotate_left
  · rintro w' ⟨s0, s1⟩
    go_simp
    with_reducible rfl
  rotate_left
  · simp only [Act.put, List.setIfInBounds_toArray, List.set_cons_zero, List.set_cons_succ, i64_w, i32_w]
    rfl
  refine join_ (σ := Nat × Nat) 2 #[true, true, true, true, true, true, true, true, true, true, false, false] (fun s_ => [(15, .agg #[.bool (C.fl 0), .bool (C.fl 1), .bool (C.fl 2), .bool (C.fl 3), .bool (C.fl 4), .bool (C.fl 5), .int .i64 (C.nm 6), .int .i64 (C.nm 7), .int .i64 (C.nm 8), .int .i64 (C.nm 9), .int .i64 (C.nm 10), .int .i64 (C.nm 11)]), (19, .agg #[.bool (R.fl 0), .bool (R.fl 1), .bool (R.fl 2), .bool (R.fl 3), .bool (R.fl 4), .bool (R.fl 5), .int .i64 (R.nm 6), .int .i64 (R.nm 7), .int .i64 (R.nm 8), .int .i64 (R.nm 9), .int .i64 (R.nm 10), .int .i64 (R.nm 11)]), (3, .pointer (some ⟨s_.1, 0, none⟩)), (4, .pointer (some ⟨s_.2, 0, none⟩))]) (fun s_ w' => AtV W1 true true s_.1 s_.2 w') ?_ ?_
  rotate_left
  · intro hJ3_7_8_9
    refine join_ (σ := Nat × Nat) 3 #[true, true, true, true, true, true, true, true, true, false, false, false] (fun s_ => [(15, .agg #[.bool (C.fl 0), .bool (C.fl 1), .bool (C.fl 2), .bool (C.fl 3), .bool (C.fl 4), .bool (C.fl 5), .int .i64 (C.nm 6), .int .i64 (C.nm 7), .int .i64 (C.nm 8), .int .i64 (C.nm 9), .int .i64 (C.nm 10), .int .i64 (C.nm 11)]), (19, .agg #[.bool (R.fl 0), .bool (R.fl 1), .bool (R.fl 2), .bool (R.fl 3), .bool (R.fl 4), .bool (R.fl 5), .int .i64 (R.nm 6), .int .i64 (R.nm 7), .int .i64 (R.nm 8), .int .i64 (R.nm 9), .int .i64 (R.nm 10), .int .i64 (R.nm 11)]), (3, .pointer (some ⟨s_.1, 0, none⟩))]) (fun s_ w' => AtV W1 true false s_.1 s_.2 w') ?_ ?_
    rotate_left
    · intro hJ3_7_8
      refine join_ (σ := Nat × Nat) 3 #[true, true, true, true, true, true, true, true, false, true, false, false] (fun s_ => [(15, .agg #[.bool (C.fl 0), .bool (C.fl 1), .bool (C.fl 2), .bool (C.fl 3), .bool (C.fl 4), .bool (C.fl 5), .int .i64 (C.nm 6), .int .i64 (C.nm 7), .int .i64 (C.nm 8), .int .i64 (C.nm 9), .int .i64 (C.nm 10), .int .i64 (C.nm 11)]), (19, .agg #[.bool (R.fl 0), .bool (R.fl 1), .bool (R.fl 2), .bool (R.fl 3), .bool (R.fl 4), .bool (R.fl 5), .int .i64 (R.nm 6), .int .i64 (R.nm 7), .int .i64 (R.nm 8), .int .i64 (R.nm 9), .int .i64 (R.nm 10), .int .i64 (R.nm 11)]), (4, .pointer (some ⟨s_.2, 0, none⟩))]) (fun s_ w' => AtV W1 false true s_.1 s_.2 w') ?_ ?_
      rotate_left
      · intro hJ3_7_9
        refine join_ (σ := Nat × Nat) 3 #[true, true, true, true, true, true, true, false, true, true, false, false] (fun s_ => [(15, .agg #[.bool (C.fl 0), .bool (C.fl 1), .bool (C.fl 2), .bool (C.fl 3), .bool (C.fl 4), .bool (C.fl 5), .int .i64 (C.nm 6), .int .i64 (C.nm 7), .int .i64 (C.nm 8), .int .i64 (C.nm 9), .int .i64 (C.nm 10), .int .i64 (C.nm 11)]), (3, .pointer (some ⟨s_.1, 0, none⟩)), (4, .pointer (some ⟨s_.2, 0, none⟩))]) (fun s_ w' => AtV W1 true true s_.1 s_.2 w') ?_ ?_
        rotate_left
        · intro hJ3_8_9
          refine join_ (σ := Nat × Nat) 4 #[true, true, true, true, true, true, true, true, false, false, false, false] (fun s_ => [(15, .agg #[.bool (C.fl 0), .bool (C.fl 1), .bool (C.fl 2), .bool (C.fl 3), .bool (C.fl 4), .bool (C.fl 5), .int .i64 (C.nm 6), .int .i64 (C.nm 7), .int .i64 (C.nm 8), .int .i64 (C.nm 9), .int .i64 (C.nm 10), .int .i64 (C.nm 11)]), (19, .agg #[.bool (R.fl 0), .bool (R.fl 1), .bool (R.fl 2), .bool (R.fl 3), .bool (R.fl 4), .bool (R.fl 5), .int .i64 (R.nm 6), .int .i64 (R.nm 7), .int .i64 (R.nm 8), .int .i64 (R.nm 9), .int .i64 (R.nm 10), .int .i64 (R.nm 11)])]) (fun s_ w' => AtV W1 false false s_.1 s_.2 w') ?_ ?_
          rotate_left
          · intro hJ3_7
            refine join_ (σ := Nat × Nat) 4 #[true, true, true, true, true, true, true, false, true, false, false, false] (fun s_ => [(15, .agg #[.bool (C.fl 0), .bool (C.fl 1), .bool (C.fl 2), .bool (C.fl 3), .bool (C.fl 4), .bool (C.fl 5), .int .i64 (C.nm 6), .int .i64 (C.nm 7), .int .i64 (C.nm 8), .int .i64 (C.nm 9), .int .i64 (C.nm 10), .int .i64 (C.nm 11)]), (3, .pointer (some ⟨s_.1, 0, none⟩))]) (fun s_ w' => AtV W1 true false s_.1 s_.2 w') ?_ ?_
            rotate_left
            · intro hJ3_8
              refine join_ (σ := Nat × Nat) 4 #[true, true, true, true, true, true, true, false, false, true, false, false] (fun s_ => [(15, .agg #[.bool (C.fl 0), .bool (C.fl 1), .bool (C.fl 2), .bool (C.fl 3), .bool (C.fl 4), .bool (C.fl 5), .int .i64 (C.nm 6), .int .i64 (C.nm 7), .int .i64 (C.nm 8), .int .i64 (C.nm 9), .int .i64 (C.nm 10), .int .i64 (C.nm 11)]), (4, .pointer (some ⟨s_.2, 0, none⟩))]) (fun s_ w' => AtV W1 false true s_.1 s_.2 w') ?_ ?_
              rotate_left
              · intro hJ3_9
                refine join_ (σ := Nat × Nat) 4 #[true, true, true, false, true, true, true, false, true, true, false, false] (fun s_ => [(3, .pointer (some ⟨s_.1, 0, none⟩)), (4, .pointer (some ⟨s_.2, 0, none⟩))]) (fun s_ w' => AtV W1 true true s_.1 s_.2 w') ?_ ?_
                rotate_left
                · intro hJ8_9
                  refine join_ (σ := Nat × Nat) 5 #[true, true, true, true, true, true, true, false, false, false, false, false] (fun s_ => [(15, .agg #[.bool (C.fl 0), .bool (C.fl 1), .bool (C.fl 2), .bool (C.fl 3), .bool (C.fl 4), .bool (C.fl 5), .int .i64 (C.nm 6), .int .i64 (C.nm 7), .int .i64 (C.nm 8), .int .i64 (C.nm 9), .int .i64 (C.nm 10), .int .i64 (C.nm 11)])]) (fun s_ w' => AtV W1 false false s_.1 s_.2 w') ?_ ?_
                  rotate_left
                  · intro hJ3
                    refine join_ (σ := Nat × Nat) 5 #[true, true, true, false, true, true, true, false, true, false, false, false] (fun s_ => [(3, .pointer (some ⟨s_.1, 0, none⟩))]) (fun s_ w' => AtV W1 true false s_.1 s_.2 w') ?_ ?_
                    rotate_left
                    · intro hJ8
                      refine join_ (σ := Nat × Nat) 5 #[true, true, true, false, true, true, true, false, false, true, false, false] (fun s_ => [(4, .pointer (some ⟨s_.2, 0, none⟩))]) (fun s_ w' => AtV W1 false true s_.1 s_.2 w') ?_ ?_
                      rotate_left
                      · intro hJ9
                        refine three_ (i := 3) (j := 8) (k := 9) (Ni := some 15) (Nj := some 3) (Nk := some 4) #[true, true, true, true, true, true, true, false, false, false, false, false] #[true, true, true, false, true, true, true, false, true, false, false, false] #[true, true, true, false, true, true, true, false, false, true, false, false] rfl rfl rfl rfl rfl rfl (by kernel_rfl) (by decide) (by decide) (by decide) (fun K hK => ?_) (fun K hK => ?_) (fun K hK => ?_)
                        · skip
                          refine goes_ Tryz.func44 (by kernel_rfl) rfl #[.slice r.A7 x.f1.f1.length r.c7] (by rfl) rfl rfl (by simp only [List.map_toArray, List.map_cons, List.map_nil]; rfl) ?_
                          with_reducible refine (HC.out _ hV.bel).mono ?_
                          rintro e w3_ ⟨rfl, hb3_⟩
                          refine ⟨_, rfl, ?_⟩
                          refine hK.out _ _ ⟨c_of (blk_bel (hV.step hb3_).bel HX3.out) 7 (v := .slice r.A7 x.f1.f1.length r.c7) rfl, c_of (blk_bel (hV.step hb3_).bel HX3.out) 4 (v := .slice r.A4 x.f0.f4.length r.c4) rfl⟩ (fun hHeld => ?_)
                          clear hK K
                          refine norm_ (a' := ?_) ?_ ?_
                          rotate_left
                          · show Act.put _ (some 15) _ = _
                            simp only [Act.put, List.setIfInBounds_toArray, List.set_cons_zero, List.set_cons_succ, i64_w, i32_w]
                            rfl
                          exact norm_ (by first | (simp only [putAll, Act.put, List.setIfInBounds_toArray, List.set_cons_zero, List.set_cons_succ]; done) | (simp only [putAll, Act.put, List.setIfInBounds_toArray, List.set_cons_zero, List.set_cons_succ]; rfl)) (hJ3 ⟨0, 0⟩ _ (hV.step hb3_))
                        · skip
                          refine value_ (w1 := ?_) (v := ?_) (by rfl) rfl ?_ ?_
                          rotate_left 2
                          · go_simp
                            constructor
                            · rfl
                            · rfl
                          refine hK.out _ _ ⟨c_of (blk_bel hV.new7.bel HX3.out) 7 (v := .slice r.A7 x.f1.f1.length r.c7) rfl, c_of (blk_bel hV.new7.bel HX3.out) 4 (v := .slice r.A4 x.f0.f4.length r.c4) rfl⟩ (fun hHeld => ?_)
                          clear hK K
                          refine norm_ (a' := ?_) ?_ ?_
                          rotate_left
                          · show Act.put _ (some 3) _ = _
                            simp only [Act.put, List.setIfInBounds_toArray, List.set_cons_zero, List.set_cons_succ, i64_w, i32_w]
                            rfl
                          exact norm_ (by first | (simp only [putAll, Act.put, List.setIfInBounds_toArray, List.set_cons_zero, List.set_cons_succ]; done) | (simp only [putAll, Act.put, List.setIfInBounds_toArray, List.set_cons_zero, List.set_cons_succ]; rfl)) (hJ8 ⟨W1.drew.heap.size, 0⟩ _ hV.new7)
                        · skip
                          refine value_ (w1 := ?_) (v := ?_) (by rfl) rfl ?_ ?_
                          rotate_left 2
                          · go_simp
                            constructor
                            · rfl
                            · rfl
                          refine hK.out _ _ ⟨c_of (blk_bel hV.new8.bel HX3.out) 7 (v := .slice r.A7 x.f1.f1.length r.c7) rfl, c_of (blk_bel hV.new8.bel HX3.out) 4 (v := .slice r.A4 x.f0.f4.length r.c4) rfl⟩ (fun hHeld => ?_)
                          clear hK K
                          refine norm_ (a' := ?_) ?_ ?_
                          rotate_left
                          · show Act.put _ (some 4) _ = _
                            simp only [Act.put, List.setIfInBounds_toArray, List.set_cons_zero, List.set_cons_succ, i64_w, i32_w]
                            rfl
                          exact norm_ (by first | (simp only [putAll, Act.put, List.setIfInBounds_toArray, List.set_cons_zero, List.set_cons_succ]; done) | (simp only [putAll, Act.put, List.setIfInBounds_toArray, List.set_cons_zero, List.set_cons_succ]; rfl)) (hJ9 ⟨0, W1.drew.heap.size⟩ _ hV.new8)
                      · skip
                        rintro ⟨a_, b_⟩ wq hV
                        have hHeld : wq.cell? ⟨w.heap.size, 7, none⟩ = some (.slice r.A7 x.f1.f1.length r.c7) ∧ wq.cell? ⟨w.heap.size, 4, none⟩ = some (.slice r.A4 x.f0.f4.length r.c4) := ⟨c_of (blk_bel hV.bel HX3.out) 7 (v := .slice r.A7 x.f1.f1.length r.c7) rfl, c_of (blk_bel hV.bel HX3.out) 4 (v := .slice r.A4 x.f0.f4.length r.c4) rfl⟩
                        refine norm_ (a' := ?_) ?_ ?_
                        rotate_left
                        · simp only [putAll, Act.put, List.setIfInBounds_toArray, List.set_cons_zero, List.set_cons_succ]
                          rfl
                        refine two_ (i := 3) (j := 8) (Ni := some 15) (Nj := some 3) #[true, true, true, true, true, true, true, false, false, true, false, false] #[true, true, true, false, true, true, true, false, true, true, false, false] rfl rfl rfl rfl (by kernel_rfl) (by decide) (by decide) (fun K hK => ?_) (fun K hK => ?_)
                        · skip
                          refine goes_ Tryz.func44 (by kernel_rfl) rfl #[.slice r.A7 x.f1.f1.length r.c7] (by rfl) rfl rfl (by simp only [List.map_toArray, List.map_cons, List.map_nil]; rfl) ?_
                          with_reducible refine (HC.out _ hV.bel).mono ?_
                          rintro e w3_ ⟨rfl, hb3_⟩
                          refine ⟨_, rfl, ?_⟩
                          refine hK.out _ _ ⟨c_of (blk_bel (hV.step hb3_).bel HX3.out) 7 (v := .slice r.A7 x.f1.f1.length r.c7) rfl, c_of (blk_bel (hV.step hb3_).bel HX3.out) 4 (v := .slice r.A4 x.f0.f4.length r.c4) rfl⟩ (fun hHeld => ?_)
                          clear hK K
                          refine norm_ (a' := ?_) ?_ ?_
                          rotate_left
                          · show Act.put _ (some 15) _ = _
                            simp only [Act.put, List.setIfInBounds_toArray, List.set_cons_zero, List.set_cons_succ, i64_w, i32_w]
                            rfl
                          exact norm_ (by first | (simp only [putAll, Act.put, List.setIfInBounds_toArray, List.set_cons_zero, List.set_cons_succ]; done) | (simp only [putAll, Act.put, List.setIfInBounds_toArray, List.set_cons_zero, List.set_cons_succ]; rfl)) (hJ3_9 ⟨a_, b_⟩ _ (hV.step hb3_))
                        · skip
                          refine value_ (w1 := ?_) (v := ?_) (by rfl) rfl ?_ ?_
                          rotate_left 2
                          · go_simp
                            constructor
                            · rfl
                            · rfl
                          refine hK.out _ _ ⟨c_of (blk_bel hV.new7.bel HX3.out) 7 (v := .slice r.A7 x.f1.f1.length r.c7) rfl, c_of (blk_bel hV.new7.bel HX3.out) 4 (v := .slice r.A4 x.f0.f4.length r.c4) rfl⟩ (fun hHeld => ?_)
                          clear hK K
                          refine norm_ (a' := ?_) ?_ ?_
                          rotate_left
                          · show Act.put _ (some 3) _ = _
                            simp only [Act.put, List.setIfInBounds_toArray, List.set_cons_zero, List.set_cons_succ, i64_w, i32_w]
                            rfl
                          exact norm_ (by first | (simp only [putAll, Act.put, List.setIfInBounds_toArray, List.set_cons_zero, List.set_cons_succ]; done) | (simp only [putAll, Act.put, List.setIfInBounds_toArray, List.set_cons_zero, List.set_cons_succ]; rfl)) (hJ8_9 ⟨wq.heap.size, b_⟩ _ hV.new7)
                    · skip
                      rintro ⟨a_, b_⟩ wq hV
                      have hHeld : wq.cell? ⟨w.heap.size, 7, none⟩ = some (.slice r.A7 x.f1.f1.length r.c7) ∧ wq.cell? ⟨w.heap.size, 4, none⟩ = some (.slice r.A4 x.f0.f4.length r.c4) := ⟨c_of (blk_bel hV.bel HX3.out) 7 (v := .slice r.A7 x.f1.f1.length r.c7) rfl, c_of (blk_bel hV.bel HX3.out) 4 (v := .slice r.A4 x.f0.f4.length r.c4) rfl⟩
                      refine norm_ (a' := ?_) ?_ ?_
                      rotate_left
                      · simp only [putAll, Act.put, List.setIfInBounds_toArray, List.set_cons_zero, List.set_cons_succ]
                        rfl
                      refine two_ (i := 3) (j := 9) (Ni := some 15) (Nj := some 4) #[true, true, true, true, true, true, true, false, true, false, false, false] #[true, true, true, false, true, true, true, false, true, true, false, false] rfl rfl rfl rfl (by kernel_rfl) (by decide) (by decide) (fun K hK => ?_) (fun K hK => ?_)
                      · skip
                        refine goes_ Tryz.func44 (by kernel_rfl) rfl #[.slice r.A7 x.f1.f1.length r.c7] (by rfl) rfl rfl (by simp only [List.map_toArray, List.map_cons, List.map_nil]; rfl) ?_
                        with_reducible refine (HC.out _ hV.bel).mono ?_
                        rintro e w3_ ⟨rfl, hb3_⟩
                        refine ⟨_, rfl, ?_⟩
                        refine hK.out _ _ ⟨c_of (blk_bel (hV.step hb3_).bel HX3.out) 7 (v := .slice r.A7 x.f1.f1.length r.c7) rfl, c_of (blk_bel (hV.step hb3_).bel HX3.out) 4 (v := .slice r.A4 x.f0.f4.length r.c4) rfl⟩ (fun hHeld => ?_)
                        clear hK K
                        refine norm_ (a' := ?_) ?_ ?_
                        rotate_left
                        · show Act.put _ (some 15) _ = _
                          simp only [Act.put, List.setIfInBounds_toArray, List.set_cons_zero, List.set_cons_succ, i64_w, i32_w]
                          rfl
                        exact norm_ (by first | (simp only [putAll, Act.put, List.setIfInBounds_toArray, List.set_cons_zero, List.set_cons_succ]; done) | (simp only [putAll, Act.put, List.setIfInBounds_toArray, List.set_cons_zero, List.set_cons_succ]; rfl)) (hJ3_8 ⟨a_, b_⟩ _ (hV.step hb3_))
                      · skip
                        refine value_ (w1 := ?_) (v := ?_) (by rfl) rfl ?_ ?_
                        rotate_left 2
                        · go_simp
                          constructor
                          · rfl
                          · rfl
                        refine hK.out _ _ ⟨c_of (blk_bel hV.new8.bel HX3.out) 7 (v := .slice r.A7 x.f1.f1.length r.c7) rfl, c_of (blk_bel hV.new8.bel HX3.out) 4 (v := .slice r.A4 x.f0.f4.length r.c4) rfl⟩ (fun hHeld => ?_)
                        clear hK K
                        refine norm_ (a' := ?_) ?_ ?_
                        rotate_left
                        · show Act.put _ (some 4) _ = _
                          simp only [Act.put, List.setIfInBounds_toArray, List.set_cons_zero, List.set_cons_succ, i64_w, i32_w]
                          rfl
                        exact norm_ (by first | (simp only [putAll, Act.put, List.setIfInBounds_toArray, List.set_cons_zero, List.set_cons_succ]; done) | (simp only [putAll, Act.put, List.setIfInBounds_toArray, List.set_cons_zero, List.set_cons_succ]; rfl)) (hJ8_9 ⟨a_, wq.heap.size⟩ _ hV.new8)
                  · skip
                    rintro ⟨a_, b_⟩ wq hV
                    have hHeld : wq.cell? ⟨w.heap.size, 7, none⟩ = some (.slice r.A7 x.f1.f1.length r.c7) ∧ wq.cell? ⟨w.heap.size, 4, none⟩ = some (.slice r.A4 x.f0.f4.length r.c4) := ⟨c_of (blk_bel hV.bel HX3.out) 7 (v := .slice r.A7 x.f1.f1.length r.c7) rfl, c_of (blk_bel hV.bel HX3.out) 4 (v := .slice r.A4 x.f0.f4.length r.c4) rfl⟩
                    refine norm_ (a' := ?_) ?_ ?_
                    rotate_left
                    · simp only [putAll, Act.put, List.setIfInBounds_toArray, List.set_cons_zero, List.set_cons_succ]
                      rfl
                    refine three_ (i := 7) (j := 8) (k := 9) (Ni := some 19) (Nj := some 3) (Nk := some 4) #[true, true, true, true, true, true, true, true, false, false, false, false] #[true, true, true, true, true, true, true, false, true, false, false, false] #[true, true, true, true, true, true, true, false, false, true, false, false] rfl rfl rfl rfl rfl rfl (by kernel_rfl) (by decide) (by decide) (by decide) (fun K hK => ?_) (fun K hK => ?_) (fun K hK => ?_)
                    · skip
                      refine goes_ Tryz.func44 (by kernel_rfl) rfl #[.slice r.A4 x.f0.f4.length r.c4] (by rfl) rfl rfl (by simp only [List.map_toArray, List.map_cons, List.map_nil]; rfl) ?_
                      with_reducible refine (HR.out _ hV.bel).mono ?_
                      rintro e w3_ ⟨rfl, hb3_⟩
                      refine ⟨_, rfl, ?_⟩
                      refine hK.out _ _ ⟨c_of (blk_bel (hV.step hb3_).bel HX3.out) 7 (v := .slice r.A7 x.f1.f1.length r.c7) rfl, c_of (blk_bel (hV.step hb3_).bel HX3.out) 4 (v := .slice r.A4 x.f0.f4.length r.c4) rfl⟩ (fun hHeld => ?_)
                      clear hK K
                      refine norm_ (a' := ?_) ?_ ?_
                      rotate_left
                      · show Act.put _ (some 19) _ = _
                        simp only [Act.put, List.setIfInBounds_toArray, List.set_cons_zero, List.set_cons_succ, i64_w, i32_w]
                        rfl
                      exact norm_ (by first | (simp only [putAll, Act.put, List.setIfInBounds_toArray, List.set_cons_zero, List.set_cons_succ]; done) | (simp only [putAll, Act.put, List.setIfInBounds_toArray, List.set_cons_zero, List.set_cons_succ]; rfl)) (hJ3_7 ⟨a_, b_⟩ _ (hV.step hb3_))
                    · skip
                      refine value_ (w1 := ?_) (v := ?_) (by rfl) rfl ?_ ?_
                      rotate_left 2
                      · go_simp
                        constructor
                        · rfl
                        · rfl
                      refine hK.out _ _ ⟨c_of (blk_bel hV.new7.bel HX3.out) 7 (v := .slice r.A7 x.f1.f1.length r.c7) rfl, c_of (blk_bel hV.new7.bel HX3.out) 4 (v := .slice r.A4 x.f0.f4.length r.c4) rfl⟩ (fun hHeld => ?_)
                      clear hK K
                      refine norm_ (a' := ?_) ?_ ?_
                      rotate_left
                      · show Act.put _ (some 3) _ = _
                        simp only [Act.put, List.setIfInBounds_toArray, List.set_cons_zero, List.set_cons_succ, i64_w, i32_w]
                        rfl
                      exact norm_ (by first | (simp only [putAll, Act.put, List.setIfInBounds_toArray, List.set_cons_zero, List.set_cons_succ]; done) | (simp only [putAll, Act.put, List.setIfInBounds_toArray, List.set_cons_zero, List.set_cons_succ]; rfl)) (hJ3_8 ⟨wq.heap.size, b_⟩ _ hV.new7)
                    · skip
                      refine value_ (w1 := ?_) (v := ?_) (by rfl) rfl ?_ ?_
                      rotate_left 2
                      · go_simp
                        constructor
                        · rfl
                        · rfl
                      refine hK.out _ _ ⟨c_of (blk_bel hV.new8.bel HX3.out) 7 (v := .slice r.A7 x.f1.f1.length r.c7) rfl, c_of (blk_bel hV.new8.bel HX3.out) 4 (v := .slice r.A4 x.f0.f4.length r.c4) rfl⟩ (fun hHeld => ?_)
                      clear hK K
                      refine norm_ (a' := ?_) ?_ ?_
                      rotate_left
                      · show Act.put _ (some 4) _ = _
                        simp only [Act.put, List.setIfInBounds_toArray, List.set_cons_zero, List.set_cons_succ, i64_w, i32_w]
                        rfl
                      exact norm_ (by first | (simp only [putAll, Act.put, List.setIfInBounds_toArray, List.set_cons_zero, List.set_cons_succ]; done) | (simp only [putAll, Act.put, List.setIfInBounds_toArray, List.set_cons_zero, List.set_cons_succ]; rfl)) (hJ3_9 ⟨a_, wq.heap.size⟩ _ hV.new8)
                · skip
                  rintro ⟨a_, b_⟩ wq hV
                  have hHeld : wq.cell? ⟨w.heap.size, 7, none⟩ = some (.slice r.A7 x.f1.f1.length r.c7) ∧ wq.cell? ⟨w.heap.size, 4, none⟩ = some (.slice r.A4 x.f0.f4.length r.c4) := ⟨c_of (blk_bel hV.bel HX3.out) 7 (v := .slice r.A7 x.f1.f1.length r.c7) rfl, c_of (blk_bel hV.bel HX3.out) 4 (v := .slice r.A4 x.f0.f4.length r.c4) rfl⟩
                  refine norm_ (a' := ?_) ?_ ?_
                  rotate_left
                  · simp only [putAll, Act.put, List.setIfInBounds_toArray, List.set_cons_zero, List.set_cons_succ]
                    rfl
                  refine one_ (i := 3) (N := some 15) #[true, true, true, true, true, true, true, false, true, true, false, false] rfl rfl (by kernel_rfl) (by decide) (fun K hK => ?_)
                  refine goes_ Tryz.func44 (by kernel_rfl) rfl #[.slice r.A7 x.f1.f1.length r.c7] (by rfl) rfl rfl (by simp only [List.map_toArray, List.map_cons, List.map_nil]; rfl) ?_
                  with_reducible refine (HC.out _ hV.bel).mono ?_
                  rintro e w3_ ⟨rfl, hb3_⟩
                  refine ⟨_, rfl, ?_⟩
                  refine hK.out _ _ ⟨c_of (blk_bel (hV.step hb3_).bel HX3.out) 7 (v := .slice r.A7 x.f1.f1.length r.c7) rfl, c_of (blk_bel (hV.step hb3_).bel HX3.out) 4 (v := .slice r.A4 x.f0.f4.length r.c4) rfl⟩ (fun hHeld => ?_)
                  clear hK K
                  refine norm_ (a' := ?_) ?_ ?_
                  rotate_left
                  · show Act.put _ (some 15) _ = _
                    simp only [Act.put, List.setIfInBounds_toArray, List.set_cons_zero, List.set_cons_succ, i64_w, i32_w]
                    rfl
                  exact norm_ (by first | (simp only [putAll, Act.put, List.setIfInBounds_toArray, List.set_cons_zero, List.set_cons_succ]; done) | (simp only [putAll, Act.put, List.setIfInBounds_toArray, List.set_cons_zero, List.set_cons_succ]; rfl)) (hJ3_8_9 ⟨a_, b_⟩ _ (hV.step hb3_))
              · skip
                rintro ⟨a_, b_⟩ wq hV
                have hHeld : wq.cell? ⟨w.heap.size, 7, none⟩ = some (.slice r.A7 x.f1.f1.length r.c7) ∧ wq.cell? ⟨w.heap.size, 4, none⟩ = some (.slice r.A4 x.f0.f4.length r.c4) := ⟨c_of (blk_bel hV.bel HX3.out) 7 (v := .slice r.A7 x.f1.f1.length r.c7) rfl, c_of (blk_bel hV.bel HX3.out) 4 (v := .slice r.A4 x.f0.f4.length r.c4) rfl⟩
                refine norm_ (a' := ?_) ?_ ?_
                rotate_left
                · simp only [putAll, Act.put, List.setIfInBounds_toArray, List.set_cons_zero, List.set_cons_succ]
                  rfl
                refine two_ (i := 7) (j := 8) (Ni := some 19) (Nj := some 3) #[true, true, true, true, true, true, true, true, false, true, false, false] #[true, true, true, true, true, true, true, false, true, true, false, false] rfl rfl rfl rfl (by kernel_rfl) (by decide) (by decide) (fun K hK => ?_) (fun K hK => ?_)
                · skip
                  refine goes_ Tryz.func44 (by kernel_rfl) rfl #[.slice r.A4 x.f0.f4.length r.c4] (by rfl) rfl rfl (by simp only [List.map_toArray, List.map_cons, List.map_nil]; rfl) ?_
                  with_reducible refine (HR.out _ hV.bel).mono ?_
                  rintro e w3_ ⟨rfl, hb3_⟩
                  refine ⟨_, rfl, ?_⟩
                  refine hK.out _ _ ⟨c_of (blk_bel (hV.step hb3_).bel HX3.out) 7 (v := .slice r.A7 x.f1.f1.length r.c7) rfl, c_of (blk_bel (hV.step hb3_).bel HX3.out) 4 (v := .slice r.A4 x.f0.f4.length r.c4) rfl⟩ (fun hHeld => ?_)
                  clear hK K
                  refine norm_ (a' := ?_) ?_ ?_
                  rotate_left
                  · show Act.put _ (some 19) _ = _
                    simp only [Act.put, List.setIfInBounds_toArray, List.set_cons_zero, List.set_cons_succ, i64_w, i32_w]
                    rfl
                  exact norm_ (by first | (simp only [putAll, Act.put, List.setIfInBounds_toArray, List.set_cons_zero, List.set_cons_succ]; done) | (simp only [putAll, Act.put, List.setIfInBounds_toArray, List.set_cons_zero, List.set_cons_succ]; rfl)) (hJ3_7_9 ⟨a_, b_⟩ _ (hV.step hb3_))
                · skip
                  refine value_ (w1 := ?_) (v := ?_) (by rfl) rfl ?_ ?_
                  rotate_left 2
                  · go_simp
                    constructor
                    · rfl
                    · rfl
                  refine hK.out _ _ ⟨c_of (blk_bel hV.new7.bel HX3.out) 7 (v := .slice r.A7 x.f1.f1.length r.c7) rfl, c_of (blk_bel hV.new7.bel HX3.out) 4 (v := .slice r.A4 x.f0.f4.length r.c4) rfl⟩ (fun hHeld => ?_)
                  clear hK K
                  refine norm_ (a' := ?_) ?_ ?_
                  rotate_left
                  · show Act.put _ (some 3) _ = _
                    simp only [Act.put, List.setIfInBounds_toArray, List.set_cons_zero, List.set_cons_succ, i64_w, i32_w]
                    rfl
                  exact norm_ (by first | (simp only [putAll, Act.put, List.setIfInBounds_toArray, List.set_cons_zero, List.set_cons_succ]; done) | (simp only [putAll, Act.put, List.setIfInBounds_toArray, List.set_cons_zero, List.set_cons_succ]; rfl)) (hJ3_8_9 ⟨wq.heap.size, b_⟩ _ hV.new7)
            · skip
              rintro ⟨a_, b_⟩ wq hV
              have hHeld : wq.cell? ⟨w.heap.size, 7, none⟩ = some (.slice r.A7 x.f1.f1.length r.c7) ∧ wq.cell? ⟨w.heap.size, 4, none⟩ = some (.slice r.A4 x.f0.f4.length r.c4) := ⟨c_of (blk_bel hV.bel HX3.out) 7 (v := .slice r.A7 x.f1.f1.length r.c7) rfl, c_of (blk_bel hV.bel HX3.out) 4 (v := .slice r.A4 x.f0.f4.length r.c4) rfl⟩
              refine norm_ (a' := ?_) ?_ ?_
              rotate_left
              · simp only [putAll, Act.put, List.setIfInBounds_toArray, List.set_cons_zero, List.set_cons_succ]
                rfl
              refine two_ (i := 7) (j := 9) (Ni := some 19) (Nj := some 4) #[true, true, true, true, true, true, true, true, true, false, false, false] #[true, true, true, true, true, true, true, false, true, true, false, false] rfl rfl rfl rfl (by kernel_rfl) (by decide) (by decide) (fun K hK => ?_) (fun K hK => ?_)
              · skip
                refine goes_ Tryz.func44 (by kernel_rfl) rfl #[.slice r.A4 x.f0.f4.length r.c4] (by rfl) rfl rfl (by simp only [List.map_toArray, List.map_cons, List.map_nil]; rfl) ?_
                with_reducible refine (HR.out _ hV.bel).mono ?_
                rintro e w3_ ⟨rfl, hb3_⟩
                refine ⟨_, rfl, ?_⟩
                refine hK.out _ _ ⟨c_of (blk_bel (hV.step hb3_).bel HX3.out) 7 (v := .slice r.A7 x.f1.f1.length r.c7) rfl, c_of (blk_bel (hV.step hb3_).bel HX3.out) 4 (v := .slice r.A4 x.f0.f4.length r.c4) rfl⟩ (fun hHeld => ?_)
                clear hK K
                refine norm_ (a' := ?_) ?_ ?_
                rotate_left
                · show Act.put _ (some 19) _ = _
                  simp only [Act.put, List.setIfInBounds_toArray, List.set_cons_zero, List.set_cons_succ, i64_w, i32_w]
                  rfl
                exact norm_ (by first | (simp only [putAll, Act.put, List.setIfInBounds_toArray, List.set_cons_zero, List.set_cons_succ]; done) | (simp only [putAll, Act.put, List.setIfInBounds_toArray, List.set_cons_zero, List.set_cons_succ]; rfl)) (hJ3_7_8 ⟨a_, b_⟩ _ (hV.step hb3_))
              · skip
                refine value_ (w1 := ?_) (v := ?_) (by rfl) rfl ?_ ?_
                rotate_left 2
                · go_simp
                  constructor
                  · rfl
                  · rfl
                refine hK.out _ _ ⟨c_of (blk_bel hV.new8.bel HX3.out) 7 (v := .slice r.A7 x.f1.f1.length r.c7) rfl, c_of (blk_bel hV.new8.bel HX3.out) 4 (v := .slice r.A4 x.f0.f4.length r.c4) rfl⟩ (fun hHeld => ?_)
                clear hK K
                refine norm_ (a' := ?_) ?_ ?_
                rotate_left
                · show Act.put _ (some 4) _ = _
                  simp only [Act.put, List.setIfInBounds_toArray, List.set_cons_zero, List.set_cons_succ, i64_w, i32_w]
                  rfl
                exact norm_ (by first | (simp only [putAll, Act.put, List.setIfInBounds_toArray, List.set_cons_zero, List.set_cons_succ]; done) | (simp only [putAll, Act.put, List.setIfInBounds_toArray, List.set_cons_zero, List.set_cons_succ]; rfl)) (hJ3_8_9 ⟨a_, wq.heap.size⟩ _ hV.new8)
          · skip
            rintro ⟨a_, b_⟩ wq hV
            have hHeld : wq.cell? ⟨w.heap.size, 7, none⟩ = some (.slice r.A7 x.f1.f1.length r.c7) ∧ wq.cell? ⟨w.heap.size, 4, none⟩ = some (.slice r.A4 x.f0.f4.length r.c4) := ⟨c_of (blk_bel hV.bel HX3.out) 7 (v := .slice r.A7 x.f1.f1.length r.c7) rfl, c_of (blk_bel hV.bel HX3.out) 4 (v := .slice r.A4 x.f0.f4.length r.c4) rfl⟩
            refine norm_ (a' := ?_) ?_ ?_
            rotate_left
            · simp only [putAll, Act.put, List.setIfInBounds_toArray, List.set_cons_zero, List.set_cons_succ]
              rfl
            refine two_ (i := 8) (j := 9) (Ni := some 3) (Nj := some 4) #[true, true, true, true, true, true, true, true, true, false, false, false] #[true, true, true, true, true, true, true, true, false, true, false, false] rfl rfl rfl rfl (by kernel_rfl) (by decide) (by decide) (fun K hK => ?_) (fun K hK => ?_)
            · skip
              refine value_ (w1 := ?_) (v := ?_) (by rfl) rfl ?_ ?_
              rotate_left 2
              · go_simp
                constructor
                · rfl
                · rfl
              refine hK.out _ _ ⟨c_of (blk_bel hV.new7.bel HX3.out) 7 (v := .slice r.A7 x.f1.f1.length r.c7) rfl, c_of (blk_bel hV.new7.bel HX3.out) 4 (v := .slice r.A4 x.f0.f4.length r.c4) rfl⟩ (fun hHeld => ?_)
              clear hK K
              refine norm_ (a' := ?_) ?_ ?_
              rotate_left
              · show Act.put _ (some 3) _ = _
                simp only [Act.put, List.setIfInBounds_toArray, List.set_cons_zero, List.set_cons_succ, i64_w, i32_w]
                rfl
              exact norm_ (by first | (simp only [putAll, Act.put, List.setIfInBounds_toArray, List.set_cons_zero, List.set_cons_succ]; done) | (simp only [putAll, Act.put, List.setIfInBounds_toArray, List.set_cons_zero, List.set_cons_succ]; rfl)) (hJ3_7_8 ⟨wq.heap.size, b_⟩ _ hV.new7)
            · skip
              refine value_ (w1 := ?_) (v := ?_) (by rfl) rfl ?_ ?_
              rotate_left 2
              · go_simp
                constructor
                · rfl
                · rfl
              refine hK.out _ _ ⟨c_of (blk_bel hV.new8.bel HX3.out) 7 (v := .slice r.A7 x.f1.f1.length r.c7) rfl, c_of (blk_bel hV.new8.bel HX3.out) 4 (v := .slice r.A4 x.f0.f4.length r.c4) rfl⟩ (fun hHeld => ?_)
              clear hK K
              refine norm_ (a' := ?_) ?_ ?_
              rotate_left
              · show Act.put _ (some 4) _ = _
                simp only [Act.put, List.setIfInBounds_toArray, List.set_cons_zero, List.set_cons_succ, i64_w, i32_w]
                rfl
              exact norm_ (by first | (simp only [putAll, Act.put, List.setIfInBounds_toArray, List.set_cons_zero, List.set_cons_succ]; done) | (simp only [putAll, Act.put, List.setIfInBounds_toArray, List.set_cons_zero, List.set_cons_succ]; rfl)) (hJ3_7_9 ⟨a_, wq.heap.size⟩ _ hV.new8)
        · skip
          rintro ⟨a_, b_⟩ wq hV
          have hHeld : wq.cell? ⟨w.heap.size, 7, none⟩ = some (.slice r.A7 x.f1.f1.length r.c7) ∧ wq.cell? ⟨w.heap.size, 4, none⟩ = some (.slice r.A4 x.f0.f4.length r.c4) := ⟨c_of (blk_bel hV.bel HX3.out) 7 (v := .slice r.A7 x.f1.f1.length r.c7) rfl, c_of (blk_bel hV.bel HX3.out) 4 (v := .slice r.A4 x.f0.f4.length r.c4) rfl⟩
          refine norm_ (a' := ?_) ?_ ?_
          rotate_left
          · simp only [putAll, Act.put, List.setIfInBounds_toArray, List.set_cons_zero, List.set_cons_succ]
            rfl
          refine one_ (i := 7) (N := some 19) #[true, true, true, true, true, true, true, true, true, true, false, false] rfl rfl (by kernel_rfl) (by decide) (fun K hK => ?_)
          refine goes_ Tryz.func44 (by kernel_rfl) rfl #[.slice r.A4 x.f0.f4.length r.c4] (by rfl) rfl rfl (by simp only [List.map_toArray, List.map_cons, List.map_nil]; rfl) ?_
          with_reducible refine (HR.out _ hV.bel).mono ?_
          rintro e w3_ ⟨rfl, hb3_⟩
          refine ⟨_, rfl, ?_⟩
          refine hK.out _ _ ⟨c_of (blk_bel (hV.step hb3_).bel HX3.out) 7 (v := .slice r.A7 x.f1.f1.length r.c7) rfl, c_of (blk_bel (hV.step hb3_).bel HX3.out) 4 (v := .slice r.A4 x.f0.f4.length r.c4) rfl⟩ (fun hHeld => ?_)
          clear hK K
          refine norm_ (a' := ?_) ?_ ?_
          rotate_left
          · show Act.put _ (some 19) _ = _
            simp only [Act.put, List.setIfInBounds_toArray, List.set_cons_zero, List.set_cons_succ, i64_w, i32_w]
            rfl
          exact norm_ (by first | (simp only [putAll, Act.put, List.setIfInBounds_toArray, List.set_cons_zero, List.set_cons_succ]; done) | (simp only [putAll, Act.put, List.setIfInBounds_toArray, List.set_cons_zero, List.set_cons_succ]; rfl)) (hJ3_7_8_9 ⟨a_, b_⟩ _ (hV.step hb3_))
      · skip
        rintro ⟨a_, b_⟩ wq hV
        have hHeld : wq.cell? ⟨w.heap.size, 7, none⟩ = some (.slice r.A7 x.f1.f1.length r.c7) ∧ wq.cell? ⟨w.heap.size, 4, none⟩ = some (.slice r.A4 x.f0.f4.length r.c4) := ⟨c_of (blk_bel hV.bel HX3.out) 7 (v := .slice r.A7 x.f1.f1.length r.c7) rfl, c_of (blk_bel hV.bel HX3.out) 4 (v := .slice r.A4 x.f0.f4.length r.c4) rfl⟩
        refine norm_ (a' := ?_) ?_ ?_
        rotate_left
        · simp only [putAll, Act.put, List.setIfInBounds_toArray, List.set_cons_zero, List.set_cons_succ]
          rfl
        refine one_ (i := 8) (N := some 3) #[true, true, true, true, true, true, true, true, true, true, false, false] rfl rfl (by kernel_rfl) (by decide) (fun K hK => ?_)
        refine value_ (w1 := ?_) (v := ?_) (by rfl) rfl ?_ ?_
        rotate_left 2
        · go_simp
          constructor
          · rfl
          · rfl
        refine hK.out _ _ ⟨c_of (blk_bel hV.new7.bel HX3.out) 7 (v := .slice r.A7 x.f1.f1.length r.c7) rfl, c_of (blk_bel hV.new7.bel HX3.out) 4 (v := .slice r.A4 x.f0.f4.length r.c4) rfl⟩ (fun hHeld => ?_)
        clear hK K
        refine norm_ (a' := ?_) ?_ ?_
        rotate_left
        · show Act.put _ (some 3) _ = _
          simp only [Act.put, List.setIfInBounds_toArray, List.set_cons_zero, List.set_cons_succ, i64_w, i32_w]
          rfl
        exact norm_ (by first | (simp only [putAll, Act.put, List.setIfInBounds_toArray, List.set_cons_zero, List.set_cons_succ]; done) | (simp only [putAll, Act.put, List.setIfInBounds_toArray, List.set_cons_zero, List.set_cons_succ]; rfl)) (hJ3_7_8_9 ⟨wq.heap.size, b_⟩ _ hV.new7)
    · skip
      rintro ⟨a_, b_⟩ wq hV
      have hHeld : wq.cell? ⟨w.heap.size, 7, none⟩ = some (.slice r.A7 x.f1.f1.length r.c7) ∧ wq.cell? ⟨w.heap.size, 4, none⟩ = some (.slice r.A4 x.f0.f4.length r.c4) := ⟨c_of (blk_bel hV.bel HX3.out) 7 (v := .slice r.A7 x.f1.f1.length r.c7) rfl, c_of (blk_bel hV.bel HX3.out) 4 (v := .slice r.A4 x.f0.f4.length r.c4) rfl⟩
      refine norm_ (a' := ?_) ?_ ?_
      rotate_left
      · simp only [putAll, Act.put, List.setIfInBounds_toArray, List.set_cons_zero, List.set_cons_succ]
        rfl
      refine one_ (i := 9) (N := some 4) #[true, true, true, true, true, true, true, true, true, true, false, false] rfl rfl (by kernel_rfl) (by decide) (fun K hK => ?_)
      refine value_ (w1 := ?_) (v := ?_) (by rfl) rfl ?_ ?_
      rotate_left 2
      · go_simp
        constructor
        · rfl
        · rfl
      refine hK.out _ _ ⟨c_of (blk_bel hV.new8.bel HX3.out) 7 (v := .slice r.A7 x.f1.f1.length r.c7) rfl, c_of (blk_bel hV.new8.bel HX3.out) 4 (v := .slice r.A4 x.f0.f4.length r.c4) rfl⟩ (fun hHeld => ?_)
      clear hK K
      refine norm_ (a' := ?_) ?_ ?_
      rotate_left
      · show Act.put _ (some 4) _ = _
        simp only [Act.put, List.setIfInBounds_toArray, List.set_cons_zero, List.set_cons_succ, i64_w, i32_w]
        rfl
      exact norm_ (by first | (simp only [putAll, Act.put, List.setIfInBounds_toArray, List.set_cons_zero, List.set_cons_succ]; done) | (simp only [putAll, Act.put, List.setIfInBounds_toArray, List.set_cons_zero, List.set_cons_succ]; rfl)) (hJ3_7_8_9 ⟨a_, wq.heap.size⟩ _ hV.new8)
  rintro ⟨a_, b_⟩ wq hV
  have hHeld : wq.cell? ⟨w.heap.size, 7, none⟩ = some (.slice r.A7 x.f1.f1.length r.c7) ∧ wq.cell? ⟨w.heap.size, 4, none⟩ = some (.slice r.A4 x.f0.f4.length r.c4) := ⟨c_of (blk_bel hV.bel HX3.out) 7 (v := .slice r.A7 x.f1.f1.length r.c7) rfl, c_of (blk_bel hV.bel HX3.out) 4 (v := .slice r.A4 x.f0.f4.length r.c4) rfl⟩
  have hZa := hV.h7 rfl
  have hZb := hV.h8 rfl
  have za0 := c_of hZa 0 (v := .bool false) rfl
  have za1 := c_of hZa 1 (v := .bool false) rfl
  have za2 := c_of hZa 2 (v := .bool false) rfl
  have za3 := c_of hZa 3 (v := .bool false) rfl
  have za4 := c_of hZa 4 (v := .bool false) rfl
  have za5 := c_of hZa 5 (v := .bool false) rfl
  have za6 := c_of hZa 6 (v := .int .i64 0) rfl
  have za7 := c_of hZa 7 (v := .int .i64 0) rfl
  have za8 := c_of hZa 8 (v := .int .i64 0) rfl
  have za9 := c_of hZa 9 (v := .int .i64 0) rfl
  have za10 := c_of hZa 10 (v := .int .i64 0) rfl
  have za11 := c_of hZa 11 (v := .int .i64 0) rfl
  have ya0 := fr_of hZa 0
  have ya1 := fr_of hZa 1
  have ya2 := fr_of hZa 2
  have ya3 := fr_of hZa 3
  have ya4 := fr_of hZa 4
  have ya5 := fr_of hZa 5
  have ya6 := fr_of hZa 6
  have ya7 := fr_of hZa 7
  have ya8 := fr_of hZa 8
  have ya9 := fr_of hZa 9
  have ya10 := fr_of hZa 10
  have ya11 := fr_of hZa 11
  refine norm_ (a' := ?_) ?_ ?_
  rotate_left
  · simp only [putAll, Act.put, List.setIfInBounds_toArray, List.set_cons_zero, List.set_cons_succ]
    rfl
  refine last_ (i := 10) (N := none) #[true, true, true, true, true, true, true, true, true, true, true, false] rfl rfl (by kernel_rfl) (by decide) (fun K hK => ?_)
  refine skip_ (w1 := ?_) (by rfl) rfl ?_ ?_
  rotate_left
  · go_simp
    rfl
  obtain ⟨Wa, hWa⟩ : ∃ W, W = ((((((((((((wq.setCell ⟨a_, 0, none⟩ (.bool (C.fl 0))).setCell ⟨a_, 1, none⟩ (.bool (C.fl 1))).setCell ⟨a_, 2, none⟩ (.bool (C.fl 2))).setCell ⟨a_, 3, none⟩ (.bool (C.fl 3))).setCell ⟨a_, 4, none⟩ (.bool (C.fl 4))).setCell ⟨a_, 5, none⟩ (.bool (C.fl 5))).setCell ⟨a_, 6, none⟩ (.int .i64 (C.nm 6))).setCell ⟨a_, 7, none⟩ (.int .i64 (C.nm 7))).setCell ⟨a_, 8, none⟩ (.int .i64 (C.nm 8))).setCell ⟨a_, 9, none⟩ (.int .i64 (C.nm 9))).setCell ⟨a_, 10, none⟩ (.int .i64 (C.nm 10))).setCell ⟨a_, 11, none⟩ (.int .i64 (C.nm 11))) := ⟨_, rfl⟩
  rw [← hWa]
  have HCa : Hid (Wa.heap[a_]? = some (.cells #[.bool (C.fl 0), .bool (C.fl 1), .bool (C.fl 2), .bool (C.fl 3), .bool (C.fl 4), .bool (C.fl 5), .int .i64 (C.nm 6), .int .i64 (C.nm 7), .int .i64 (C.nm 8), .int .i64 (C.nm 9), .int .i64 (C.nm 10), .int .i64 (C.nm 11)] 69 (0, 0))) := Lib.hid (by rw [hWa]; exact Fb.put12 hZa (.bool (C.fl 0)) (.bool (C.fl 1)) (.bool (C.fl 2)) (.bool (C.fl 3)) (.bool (C.fl 4)) (.bool (C.fl 5)) (.int .i64 (C.nm 6)) (.int .i64 (C.nm 7)) (.int .i64 (C.nm 8)) (.int .i64 (C.nm 9)) (.int .i64 (C.nm 10)) (.int .i64 (C.nm 11)))
  have hZb2 : Wa.heap[b_]? = some (.cells Fb.ZZ42 69 (0, 0)) := by rw [hWa]; exact (set_other (set_other (set_other (set_other (set_other (set_other (set_other (set_other (set_other (set_other (set_other (set_other hZb (Ne.symm (hV.ne rfl rfl))) (Ne.symm (hV.ne rfl rfl))) (Ne.symm (hV.ne rfl rfl))) (Ne.symm (hV.ne rfl rfl))) (Ne.symm (hV.ne rfl rfl))) (Ne.symm (hV.ne rfl rfl))) (Ne.symm (hV.ne rfl rfl))) (Ne.symm (hV.ne rfl rfl))) (Ne.symm (hV.ne rfl rfl))) (Ne.symm (hV.ne rfl rfl))) (Ne.symm (hV.ne rfl rfl))) (Ne.symm (hV.ne rfl rfl)))
  have HBa : Hid (Below W1.heap.size W1 Wa) := Lib.hid (by rw [hWa]; exact (Below.setCell (Below.setCell (Below.setCell (Below.setCell (Below.setCell (Below.setCell (Below.setCell (Below.setCell (Below.setCell (Below.setCell (Below.setCell (Below.setCell hV.bel hV.ge7 _) hV.ge7 _) hV.ge7 _) hV.ge7 _) hV.ge7 _) hV.ge7 _) hV.ge7 _) hV.ge7 _) hV.ge7 _) hV.ge7 _) hV.ge7 _) hV.ge7 _))
  have zb0 := c_of hZb2 0 (v := .bool false) rfl
  have zb1 := c_of hZb2 1 (v := .bool false) rfl
  have zb2 := c_of hZb2 2 (v := .bool false) rfl
  have zb3 := c_of hZb2 3 (v := .bool false) rfl
  have zb4 := c_of hZb2 4 (v := .bool false) rfl
  have zb5 := c_of hZb2 5 (v := .bool false) rfl
  have zb6 := c_of hZb2 6 (v := .int .i64 0) rfl
  have zb7 := c_of hZb2 7 (v := .int .i64 0) rfl
  have zb8 := c_of hZb2 8 (v := .int .i64 0) rfl
  have zb9 := c_of hZb2 9 (v := .int .i64 0) rfl
  have zb10 := c_of hZb2 10 (v := .int .i64 0) rfl
  have zb11 := c_of hZb2 11 (v := .int .i64 0) rfl
  have yb0 := fr_of hZb2 0
  have yb1 := fr_of hZb2 1
  have yb2 := fr_of hZb2 2
  have yb3 := fr_of hZb2 3
  have yb4 := fr_of hZb2 4
  have yb5 := fr_of hZb2 5
  have yb6 := fr_of hZb2 6
  have yb7 := fr_of hZb2 7
  have yb8 := fr_of hZb2 8
  have yb9 := fr_of hZb2 9
  have yb10 := fr_of hZb2 10
  have yb11 := fr_of hZb2 11
  clear hWa
  refine hK.out _ _ ?_
  clear hK K
  refine last_ (i := 11) (N := none) #[true, true, true, true, true, true, true, true, true, true, true, true] rfl rfl (by kernel_rfl) (by decide) (fun K hK => ?_)
  refine skip_ (w1 := ?_) (by rfl) rfl ?_ ?_
  rotate_left
  · go_simp
    rfl
  obtain ⟨Wb, hWb⟩ : ∃ W, W = ((((((((((((Wa.setCell ⟨b_, 0, none⟩ (.bool (R.fl 0))).setCell ⟨b_, 1, none⟩ (.bool (R.fl 1))).setCell ⟨b_, 2, none⟩ (.bool (R.fl 2))).setCell ⟨b_, 3, none⟩ (.bool (R.fl 3))).setCell ⟨b_, 4, none⟩ (.bool (R.fl 4))).setCell ⟨b_, 5, none⟩ (.bool (R.fl 5))).setCell ⟨b_, 6, none⟩ (.int .i64 (R.nm 6))).setCell ⟨b_, 7, none⟩ (.int .i64 (R.nm 7))).setCell ⟨b_, 8, none⟩ (.int .i64 (R.nm 8))).setCell ⟨b_, 9, none⟩ (.int .i64 (R.nm 9))).setCell ⟨b_, 10, none⟩ (.int .i64 (R.nm 10))).setCell ⟨b_, 11, none⟩ (.int .i64 (R.nm 11))) := ⟨_, rfl⟩
  rw [← hWb]
  have HRb : Hid (Wb.heap[b_]? = some (.cells #[.bool (R.fl 0), .bool (R.fl 1), .bool (R.fl 2), .bool (R.fl 3), .bool (R.fl 4), .bool (R.fl 5), .int .i64 (R.nm 6), .int .i64 (R.nm 7), .int .i64 (R.nm 8), .int .i64 (R.nm 9), .int .i64 (R.nm 10), .int .i64 (R.nm 11)] 69 (0, 0))) := Lib.hid (by rw [hWb]; exact Fb.put12 hZb2 (.bool (R.fl 0)) (.bool (R.fl 1)) (.bool (R.fl 2)) (.bool (R.fl 3)) (.bool (R.fl 4)) (.bool (R.fl 5)) (.int .i64 (R.nm 6)) (.int .i64 (R.nm 7)) (.int .i64 (R.nm 8)) (.int .i64 (R.nm 9)) (.int .i64 (R.nm 10)) (.int .i64 (R.nm 11)))
  have HCb : Hid (Wb.heap[a_]? = some (.cells #[.bool (C.fl 0), .bool (C.fl 1), .bool (C.fl 2), .bool (C.fl 3), .bool (C.fl 4), .bool (C.fl 5), .int .i64 (C.nm 6), .int .i64 (C.nm 7), .int .i64 (C.nm 8), .int .i64 (C.nm 9), .int .i64 (C.nm 10), .int .i64 (C.nm 11)] 69 (0, 0))) := Lib.hid (by rw [hWb]; exact (set_other (set_other (set_other (set_other (set_other (set_other (set_other (set_other (set_other (set_other (set_other (set_other HCa.out (hV.ne rfl rfl)) (hV.ne rfl rfl)) (hV.ne rfl rfl)) (hV.ne rfl rfl)) (hV.ne rfl rfl)) (hV.ne rfl rfl)) (hV.ne rfl rfl)) (hV.ne rfl rfl)) (hV.ne rfl rfl)) (hV.ne rfl rfl)) (hV.ne rfl rfl)) (hV.ne rfl rfl)))
  have HBb : Hid (Below W1.heap.size W1 Wb) := Lib.hid (by rw [hWb]; exact (Below.setCell (Below.setCell (Below.setCell (Below.setCell (Below.setCell (Below.setCell (Below.setCell (Below.setCell (Below.setCell (Below.setCell (Below.setCell (Below.setCell HBa.out hV.ge8 _) hV.ge8 _) hV.ge8 _) hV.ge8 _) hV.ge8 _) hV.ge8 _) hV.ge8 _) hV.ge8 _) hV.ge8 _) hV.ge8 _) hV.ge8 _) hV.ge8 _))
  clear hWb hZb2 zb0 zb1 zb2 zb3 zb4 zb5 zb6 zb7 zb8 zb9 zb10 zb11 yb0 yb1 yb2 yb3 yb4 yb5 yb6 yb7 yb8 yb9 yb10 yb11
  refine hK.out _ _ ?_
  clear hK K
  refine done_ (by kernel_rfl) ?_
  clear hZa hZb za0 za1 za2 za3 za4 za5 za6 za7 za8 za9 za10 za11 ya0 ya1 ya2 ya3 ya4 ya5 ya6 ya7 ya8 ya9 ya10 ya11
  have HB5 := Lib.hid (below_step HB3.out HBb.out)
  have HX5 := Lib.hid (blk_bel HBb.out HX3.out)
  obtain ⟨l0, l1, l2, l3, l4, l5, l6, l7, l8, l9, l10⟩ := bx_cells HX5.out
  have HC5 := HCb
  have HR5 := HRb
  clear hV
  go_upto_region 4 with (first | (go_at_call 41; refine (HFI.out _ HB6.out).mono ?_; rintro e w7 ⟨rfl, hb7⟩; have HB7 := Lib.hid (below_step HB6.out hb7); have HX7 := Lib.hid (blk_bel hb7 HX6.out); have HC7 := Lib.hid (blk_bel hb7 HC6.out); have HR7 := Lib.hid (blk_bel hb7 HR6.out); obtain ⟨l0, l1, l2, l3, l4, l5, l6, l7, l8, l9, l10⟩ := bx_cells HX7.out; have c2_ := c_of HC7.out 2 (v := .bool (C.fl 2)) rfl; have c3_ := c_of HC7.out 3 (v := .bool (C.fl 3)) rfl; have c7_ := c_of HC7.out 7 (v := .int .i64 (C.nm 7)) rfl; have c0_ := c_of HC7.out 0 (v := .bool (C.fl 0)) rfl; have c4_ := c_of HC7.out 4 (v := .bool (C.fl 4)) rfl; have r0_ := c_of HR7.out 0 (v := .bool (R.fl 0)) rfl; clear hb7) | (go_at_call 51; refine (HV.out _ HB5.out).mono ?_; rintro e w6 ⟨v6, rfl, hR6_, hb6⟩; have HB6 := Lib.hid (below_step HB5.out hb6); have HX6 := Lib.hid (blk_bel hb6 HX5.out); have HC6 := Lib.hid (blk_bel hb6 HC5.out); have HR6 := Lib.hid (blk_bel hb6 HR5.out); obtain ⟨l0, l1, l2, l3, l4, l5, l6, l7, l8, l9, l10⟩ := bx_cells HX6.out; have c2_ := c_of HC6.out 2 (v := .bool (C.fl 2)) rfl; have c3_ := c_of HC6.out 3 (v := .bool (C.fl 3)) rfl; have c7_ := c_of HC6.out 7 (v := .int .i64 (C.nm 7)) rfl; have c0_ := c_of HC6.out 0 (v := .bool (C.fl 0)) rfl; have c4_ := c_of HC6.out 4 (v := .bool (C.fl 4)) rfl; have r0_ := c_of HR6.out 0 (v := .bool (R.fl 0)) rfl; clear hb6 hR6_))
  rename World => wz
  go_cut [9] (fun v wx => v = .bool sh ∧ wx = wz)
  case first =>
    cases au with
    | none =>
      have EQ : Hid (sh = true) := Lib.hid (by rw [HSH.out]; rfl)
      go_wp2
      go_meet
      case rel => exact ⟨by rw [EQ.out], rfl⟩
    | some av =>
      cases e3 : C.fl 3 with
      | true =>
        have EQ : Hid (sh = true) := Lib.hid (by rw [HSH.out, e3]; rfl)
        go_wp2
        go_meet
        case rel => exact ⟨by rw [EQ.out], rfl⟩
      | false =>
        cases e2 : C.fl 2 with
        | true =>
          have EQ : Hid (sh = true) := Lib.hid (by rw [HSH.out, e3, e2]; rfl)
          go_wp2
          go_meet
          case rel => exact ⟨by rw [EQ.out], rfl⟩
        | false =>
          have EQ : Hid (sh = decide (C.nm 7 ≥ 0)) := Lib.hid (by rw [HSH.out, e3, e2]; rfl)
          go_wp2
          go_meet
          case rel => exact ⟨by rw [EQ.out], rfl⟩
  case rest =>
    obtain ⟨rfl, rfl⟩ := hcut
    cases br with
    | false =>
      have HT : Hid (r0 = false) := Lib.hid (by rw [HRR.out]; simp [])
      go_wp2_with (first | (go_at_call 39; refine (HRI.out _ HB7.out).mono ?_; rintro e w8 ⟨rfl, hb8⟩; have HB8 := Lib.hid (below_step HB7.out hb8); have HX8 := Lib.hid (blk_bel hb8 HX7.out); have HC8 := Lib.hid (blk_bel hb8 HC7.out); have HR8 := Lib.hid (blk_bel hb8 HR7.out); obtain ⟨l0, l1, l2, l3, l4, l5, l6, l7, l8, l9, l10⟩ := bx_cells HX8.out; have c2_ := c_of HC8.out 2 (v := .bool (C.fl 2)) rfl; have c3_ := c_of HC8.out 3 (v := .bool (C.fl 3)) rfl; have c7_ := c_of HC8.out 7 (v := .int .i64 (C.nm 7)) rfl; have c0_ := c_of HC8.out 0 (v := .bool (C.fl 0)) rfl; have c4_ := c_of HC8.out 4 (v := .bool (C.fl 4)) rfl; have r0_ := c_of HR8.out 0 (v := .bool (R.fl 0)) rfl; have hlt8 := blk_lt' HX8.out; clear hb8))
      go_ret
      exact ⟨by rw [HT.out]; rfl, HB8.out⟩
    | true =>
      by_cases eg : x.f0.f0.toList = [71, 69, 84]
      · skip
        have tg : (x.f0.f0.toList == [71, 69, 84]) = true := by rw [eg]; rfl
        have tg2 : (x.f0.f0.toList != [71, 69, 84]) = false := by rw [eg]; rfl
        cases e0 : C.fl 0 with
        | true =>
          have HT : Hid (r0 = false) := Lib.hid (by rw [HRR.out]; simp [tg, e0])
          go_wp2_with (first | (go_at_call 39; refine (HRI.out _ HB7.out).mono ?_; rintro e w8 ⟨rfl, hb8⟩; have HB8 := Lib.hid (below_step HB7.out hb8); have HX8 := Lib.hid (blk_bel hb8 HX7.out); have HC8 := Lib.hid (blk_bel hb8 HC7.out); have HR8 := Lib.hid (blk_bel hb8 HR7.out); obtain ⟨l0, l1, l2, l3, l4, l5, l6, l7, l8, l9, l10⟩ := bx_cells HX8.out; have c2_ := c_of HC8.out 2 (v := .bool (C.fl 2)) rfl; have c3_ := c_of HC8.out 3 (v := .bool (C.fl 3)) rfl; have c7_ := c_of HC8.out 7 (v := .int .i64 (C.nm 7)) rfl; have c0_ := c_of HC8.out 0 (v := .bool (C.fl 0)) rfl; have c4_ := c_of HC8.out 4 (v := .bool (C.fl 4)) rfl; have r0_ := c_of HR8.out 0 (v := .bool (R.fl 0)) rfl; have hlt8 := blk_lt' HX8.out; clear hb8))
          go_ret
          exact ⟨by rw [HT.out]; rfl, HB8.out⟩
        | false =>
          cases f0 : R.fl 0 with
          | true =>
            have HT : Hid (r0 = false) := Lib.hid (by rw [HRR.out]; simp [tg, e0, f0])
            go_wp2_with (first | (go_at_call 39; refine (HRI.out _ HB7.out).mono ?_; rintro e w8 ⟨rfl, hb8⟩; have HB8 := Lib.hid (below_step HB7.out hb8); have HX8 := Lib.hid (blk_bel hb8 HX7.out); have HC8 := Lib.hid (blk_bel hb8 HC7.out); have HR8 := Lib.hid (blk_bel hb8 HR7.out); obtain ⟨l0, l1, l2, l3, l4, l5, l6, l7, l8, l9, l10⟩ := bx_cells HX8.out; have c2_ := c_of HC8.out 2 (v := .bool (C.fl 2)) rfl; have c3_ := c_of HC8.out 3 (v := .bool (C.fl 3)) rfl; have c7_ := c_of HC8.out 7 (v := .int .i64 (C.nm 7)) rfl; have c0_ := c_of HC8.out 0 (v := .bool (C.fl 0)) rfl; have c4_ := c_of HC8.out 4 (v := .bool (C.fl 4)) rfl; have r0_ := c_of HR8.out 0 (v := .bool (R.fl 0)) rfl; have hlt8 := blk_lt' HX8.out; clear hb8))
            go_ret
            exact ⟨by rw [HT.out]; rfl, HB8.out⟩
          | false =>
            cases e4 : C.fl 4 with
            | true =>
              have HT : Hid (r0 = false) := Lib.hid (by rw [HRR.out]; simp [tg, e0, f0, e4])
              go_wp2_with (first | (go_at_call 39; refine (HRI.out _ HB7.out).mono ?_; rintro e w8 ⟨rfl, hb8⟩; have HB8 := Lib.hid (below_step HB7.out hb8); have HX8 := Lib.hid (blk_bel hb8 HX7.out); have HC8 := Lib.hid (blk_bel hb8 HC7.out); have HR8 := Lib.hid (blk_bel hb8 HR7.out); obtain ⟨l0, l1, l2, l3, l4, l5, l6, l7, l8, l9, l10⟩ := bx_cells HX8.out; have c2_ := c_of HC8.out 2 (v := .bool (C.fl 2)) rfl; have c3_ := c_of HC8.out 3 (v := .bool (C.fl 3)) rfl; have c7_ := c_of HC8.out 7 (v := .int .i64 (C.nm 7)) rfl; have c0_ := c_of HC8.out 0 (v := .bool (C.fl 0)) rfl; have c4_ := c_of HC8.out 4 (v := .bool (C.fl 4)) rfl; have r0_ := c_of HR8.out 0 (v := .bool (R.fl 0)) rfl; have hlt8 := blk_lt' HX8.out; clear hb8))
              go_ret
              exact ⟨by rw [HT.out]; rfl, HB8.out⟩
            | false =>
              cases star with
              | true =>
                have HT : Hid (r0 = false) := Lib.hid (by rw [HRR.out]; simp [tg, e0, f0, e4])
                go_wp2_with (first | (go_at_call 39; refine (HRI.out _ HB7.out).mono ?_; rintro e w8 ⟨rfl, hb8⟩; have HB8 := Lib.hid (below_step HB7.out hb8); have HX8 := Lib.hid (blk_bel hb8 HX7.out); have HC8 := Lib.hid (blk_bel hb8 HC7.out); have HR8 := Lib.hid (blk_bel hb8 HR7.out); obtain ⟨l0, l1, l2, l3, l4, l5, l6, l7, l8, l9, l10⟩ := bx_cells HX8.out; have c2_ := c_of HC8.out 2 (v := .bool (C.fl 2)) rfl; have c3_ := c_of HC8.out 3 (v := .bool (C.fl 3)) rfl; have c7_ := c_of HC8.out 7 (v := .int .i64 (C.nm 7)) rfl; have c0_ := c_of HC8.out 0 (v := .bool (C.fl 0)) rfl; have c4_ := c_of HC8.out 4 (v := .bool (C.fl 4)) rfl; have r0_ := c_of HR8.out 0 (v := .bool (R.fl 0)) rfl; have hlt8 := blk_lt' HX8.out; clear hb8))
                go_ret
                exact ⟨by rw [HT.out]; rfl, HB8.out⟩
              | false =>
                cases sh with
                | false =>
                  have HT : Hid (r0 = false) := Lib.hid (by rw [HRR.out]; simp [tg, e0, f0, e4])
                  go_wp2_with (first | (go_at_call 39; refine (HRI.out _ HB7.out).mono ?_; rintro e w8 ⟨rfl, hb8⟩; have HB8 := Lib.hid (below_step HB7.out hb8); have HX8 := Lib.hid (blk_bel hb8 HX7.out); have HC8 := Lib.hid (blk_bel hb8 HC7.out); have HR8 := Lib.hid (blk_bel hb8 HR7.out); obtain ⟨l0, l1, l2, l3, l4, l5, l6, l7, l8, l9, l10⟩ := bx_cells HX8.out; have c2_ := c_of HC8.out 2 (v := .bool (C.fl 2)) rfl; have c3_ := c_of HC8.out 3 (v := .bool (C.fl 3)) rfl; have c7_ := c_of HC8.out 7 (v := .int .i64 (C.nm 7)) rfl; have c0_ := c_of HC8.out 0 (v := .bool (C.fl 0)) rfl; have c4_ := c_of HC8.out 4 (v := .bool (C.fl 4)) rfl; have r0_ := c_of HR8.out 0 (v := .bool (R.fl 0)) rfl; have hlt8 := blk_lt' HX8.out; clear hb8))
                  go_ret
                  exact ⟨by rw [HT.out]; rfl, HB8.out⟩
                | true =>
                  cases us with
                  | true =>
                    have HT : Hid (r0 = true) := Lib.hid (by rw [HRR.out]; simp [tg, e0, f0, e4])
                    go_wp2_with (first | (go_at_call 52; refine (HUS.out _ _ (heap_alloc_new _ _)).mono ?_; rintro e w9 ⟨rfl, hb9_⟩; have hb9 := below_step (below_alloc (Below.refl _ w8) _) hb9_; have HB9 := Lib.hid (below_step HB8.out hb9); have HX9 := Lib.hid (blk_bel hb9 HX8.out); obtain ⟨l0, l1, l2, l3, l4, l5, l6, l7, l8, l9, l10⟩ := bx_cells HX9.out; clear hb9 hb9_) | (go_at_call 39; refine (HRI.out _ HB7.out).mono ?_; rintro e w8 ⟨rfl, hb8⟩; have HB8 := Lib.hid (below_step HB7.out hb8); have HX8 := Lib.hid (blk_bel hb8 HX7.out); have HC8 := Lib.hid (blk_bel hb8 HC7.out); have HR8 := Lib.hid (blk_bel hb8 HR7.out); obtain ⟨l0, l1, l2, l3, l4, l5, l6, l7, l8, l9, l10⟩ := bx_cells HX8.out; have c2_ := c_of HC8.out 2 (v := .bool (C.fl 2)) rfl; have c3_ := c_of HC8.out 3 (v := .bool (C.fl 3)) rfl; have c7_ := c_of HC8.out 7 (v := .int .i64 (C.nm 7)) rfl; have c0_ := c_of HC8.out 0 (v := .bool (C.fl 0)) rfl; have c4_ := c_of HC8.out 4 (v := .bool (C.fl 4)) rfl; have r0_ := c_of HR8.out 0 (v := .bool (R.fl 0)) rfl; have hlt8 := blk_lt' HX8.out; clear hb8))
                    go_ret
                    exact ⟨by rw [HT.out]; rfl, HB9.out⟩
                  | false =>
                    cases tq with
                    | none =>
                      have HT : Hid (r0 = false) := Lib.hid (by rw [HRR.out]; simp [tg, e0, f0, e4])
                      go_wp2_with (first | (go_at_call 45; refine (HTO.out (by trivial) _ HB9.out).mono ?_; rintro e w10 ⟨rfl, hb10⟩; have HB10 := Lib.hid (below_step HB9.out hb10); have HX10 := Lib.hid (blk_bel hb10 HX9.out); obtain ⟨l0, l1, l2, l3, l4, l5, l6, l7, l8, l9, l10⟩ := bx_cells HX10.out; clear hb10) | (go_at_call 52; refine (HUS.out _ _ (heap_alloc_new _ _)).mono ?_; rintro e w9 ⟨rfl, hb9_⟩; have hb9 := below_step (below_alloc (Below.refl _ w8) _) hb9_; have HB9 := Lib.hid (below_step HB8.out hb9); have HX9 := Lib.hid (blk_bel hb9 HX8.out); obtain ⟨l0, l1, l2, l3, l4, l5, l6, l7, l8, l9, l10⟩ := bx_cells HX9.out; clear hb9 hb9_) | (go_at_call 39; refine (HRI.out _ HB7.out).mono ?_; rintro e w8 ⟨rfl, hb8⟩; have HB8 := Lib.hid (below_step HB7.out hb8); have HX8 := Lib.hid (blk_bel hb8 HX7.out); have HC8 := Lib.hid (blk_bel hb8 HC7.out); have HR8 := Lib.hid (blk_bel hb8 HR7.out); obtain ⟨l0, l1, l2, l3, l4, l5, l6, l7, l8, l9, l10⟩ := bx_cells HX8.out; have c2_ := c_of HC8.out 2 (v := .bool (C.fl 2)) rfl; have c3_ := c_of HC8.out 3 (v := .bool (C.fl 3)) rfl; have c7_ := c_of HC8.out 7 (v := .int .i64 (C.nm 7)) rfl; have c0_ := c_of HC8.out 0 (v := .bool (C.fl 0)) rfl; have c4_ := c_of HC8.out 4 (v := .bool (C.fl 4)) rfl; have r0_ := c_of HR8.out 0 (v := .bool (R.fl 0)) rfl; have hlt8 := blk_lt' HX8.out; clear hb8))
                      go_ret
                      exact ⟨by rw [HT.out]; rfl, HB10.out⟩
                    | some tv =>
                      by_cases s1 : 200 ≤ x.f1.f0
                      · have u1 : decide (x.f1.f0 ≥ 200) = true := decide_eq_true s1
                        by_cases s2 : x.f1.f0 = 206
                        · have u2 : (x.f1.f0 != 206) = false := by rw [s2]; rfl
                          have HT : Hid (r0 = false) := Lib.hid (by rw [HRR.out]; simp [tg, e0, f0, e4, s1, s2])
                          clear s1 s2
                          go_wp2_with (first | (go_at_call 45; refine (HTO.out (by trivial) _ HB9.out).mono ?_; rintro e w10 ⟨rfl, hb10⟩; have HB10 := Lib.hid (below_step HB9.out hb10); have HX10 := Lib.hid (blk_bel hb10 HX9.out); obtain ⟨l0, l1, l2, l3, l4, l5, l6, l7, l8, l9, l10⟩ := bx_cells HX10.out; clear hb10) | (go_at_call 52; refine (HUS.out _ _ (heap_alloc_new _ _)).mono ?_; rintro e w9 ⟨rfl, hb9_⟩; have hb9 := below_step (below_alloc (Below.refl _ w8) _) hb9_; have HB9 := Lib.hid (below_step HB8.out hb9); have HX9 := Lib.hid (blk_bel hb9 HX8.out); obtain ⟨l0, l1, l2, l3, l4, l5, l6, l7, l8, l9, l10⟩ := bx_cells HX9.out; clear hb9 hb9_) | (go_at_call 39; refine (HRI.out _ HB7.out).mono ?_; rintro e w8 ⟨rfl, hb8⟩; have HB8 := Lib.hid (below_step HB7.out hb8); have HX8 := Lib.hid (blk_bel hb8 HX7.out); have HC8 := Lib.hid (blk_bel hb8 HC7.out); have HR8 := Lib.hid (blk_bel hb8 HR7.out); obtain ⟨l0, l1, l2, l3, l4, l5, l6, l7, l8, l9, l10⟩ := bx_cells HX8.out; have c2_ := c_of HC8.out 2 (v := .bool (C.fl 2)) rfl; have c3_ := c_of HC8.out 3 (v := .bool (C.fl 3)) rfl; have c7_ := c_of HC8.out 7 (v := .int .i64 (C.nm 7)) rfl; have c0_ := c_of HC8.out 0 (v := .bool (C.fl 0)) rfl; have c4_ := c_of HC8.out 4 (v := .bool (C.fl 4)) rfl; have r0_ := c_of HR8.out 0 (v := .bool (R.fl 0)) rfl; have hlt8 := blk_lt' HX8.out; clear hb8))
                          go_ret
                          exact ⟨by rw [HT.out]; rfl, HB10.out⟩
                        · have u2 : (x.f1.f0 != 206) = true := bne_iff_ne.2 s2
                          by_cases s3 : x.f1.f0 = 304
                          · have u3 : (x.f1.f0 != 304) = false := by rw [s3]; rfl
                            have HT : Hid (r0 = false) := Lib.hid (by rw [HRR.out]; simp [tg, e0, f0, e4, s1, s2, s3])
                            clear s1 s2 s3
                            go_wp2_with (first | (go_at_call 45; refine (HTO.out (by trivial) _ HB9.out).mono ?_; rintro e w10 ⟨rfl, hb10⟩; have HB10 := Lib.hid (below_step HB9.out hb10); have HX10 := Lib.hid (blk_bel hb10 HX9.out); obtain ⟨l0, l1, l2, l3, l4, l5, l6, l7, l8, l9, l10⟩ := bx_cells HX10.out; clear hb10) | (go_at_call 52; refine (HUS.out _ _ (heap_alloc_new _ _)).mono ?_; rintro e w9 ⟨rfl, hb9_⟩; have hb9 := below_step (below_alloc (Below.refl _ w8) _) hb9_; have HB9 := Lib.hid (below_step HB8.out hb9); have HX9 := Lib.hid (blk_bel hb9 HX8.out); obtain ⟨l0, l1, l2, l3, l4, l5, l6, l7, l8, l9, l10⟩ := bx_cells HX9.out; clear hb9 hb9_) | (go_at_call 39; refine (HRI.out _ HB7.out).mono ?_; rintro e w8 ⟨rfl, hb8⟩; have HB8 := Lib.hid (below_step HB7.out hb8); have HX8 := Lib.hid (blk_bel hb8 HX7.out); have HC8 := Lib.hid (blk_bel hb8 HC7.out); have HR8 := Lib.hid (blk_bel hb8 HR7.out); obtain ⟨l0, l1, l2, l3, l4, l5, l6, l7, l8, l9, l10⟩ := bx_cells HX8.out; have c2_ := c_of HC8.out 2 (v := .bool (C.fl 2)) rfl; have c3_ := c_of HC8.out 3 (v := .bool (C.fl 3)) rfl; have c7_ := c_of HC8.out 7 (v := .int .i64 (C.nm 7)) rfl; have c0_ := c_of HC8.out 0 (v := .bool (C.fl 0)) rfl; have c4_ := c_of HC8.out 4 (v := .bool (C.fl 4)) rfl; have r0_ := c_of HR8.out 0 (v := .bool (R.fl 0)) rfl; have hlt8 := blk_lt' HX8.out; clear hb8))
                            go_ret
                            exact ⟨by rw [HT.out]; rfl, HB10.out⟩
                          · have u3 : (x.f1.f0 != 304) = true := bne_iff_ne.2 s3
                            have HT : Hid (r0 = true) := Lib.hid (by rw [HRR.out]; simp [tg, e0, f0, e4, s1, s2, s3])
                            clear s1 s2 s3
                            go_wp2_with (first | (go_at_call 45; refine (HTO.out (by trivial) _ HB9.out).mono ?_; rintro e w10 ⟨rfl, hb10⟩; have HB10 := Lib.hid (below_step HB9.out hb10); have HX10 := Lib.hid (blk_bel hb10 HX9.out); obtain ⟨l0, l1, l2, l3, l4, l5, l6, l7, l8, l9, l10⟩ := bx_cells HX10.out; clear hb10) | (go_at_call 52; refine (HUS.out _ _ (heap_alloc_new _ _)).mono ?_; rintro e w9 ⟨rfl, hb9_⟩; have hb9 := below_step (below_alloc (Below.refl _ w8) _) hb9_; have HB9 := Lib.hid (below_step HB8.out hb9); have HX9 := Lib.hid (blk_bel hb9 HX8.out); obtain ⟨l0, l1, l2, l3, l4, l5, l6, l7, l8, l9, l10⟩ := bx_cells HX9.out; clear hb9 hb9_) | (go_at_call 39; refine (HRI.out _ HB7.out).mono ?_; rintro e w8 ⟨rfl, hb8⟩; have HB8 := Lib.hid (below_step HB7.out hb8); have HX8 := Lib.hid (blk_bel hb8 HX7.out); have HC8 := Lib.hid (blk_bel hb8 HC7.out); have HR8 := Lib.hid (blk_bel hb8 HR7.out); obtain ⟨l0, l1, l2, l3, l4, l5, l6, l7, l8, l9, l10⟩ := bx_cells HX8.out; have c2_ := c_of HC8.out 2 (v := .bool (C.fl 2)) rfl; have c3_ := c_of HC8.out 3 (v := .bool (C.fl 3)) rfl; have c7_ := c_of HC8.out 7 (v := .int .i64 (C.nm 7)) rfl; have c0_ := c_of HC8.out 0 (v := .bool (C.fl 0)) rfl; have c4_ := c_of HC8.out 4 (v := .bool (C.fl 4)) rfl; have r0_ := c_of HR8.out 0 (v := .bool (R.fl 0)) rfl; have hlt8 := blk_lt' HX8.out; clear hb8))
                            go_ret
                            exact ⟨by rw [HT.out]; rfl, HB10.out⟩
                      · have u1 : decide (x.f1.f0 ≥ 200) = false := decide_eq_false s1
                        have HT : Hid (r0 = false) := Lib.hid (by rw [HRR.out]; simp [tg, e0, f0, e4, s1])
                        clear s1
                        go_wp2_with (first | (go_at_call 45; refine (HTO.out (by trivial) _ HB9.out).mono ?_; rintro e w10 ⟨rfl, hb10⟩; have HB10 := Lib.hid (below_step HB9.out hb10); have HX10 := Lib.hid (blk_bel hb10 HX9.out); obtain ⟨l0, l1, l2, l3, l4, l5, l6, l7, l8, l9, l10⟩ := bx_cells HX10.out; clear hb10) | (go_at_call 52; refine (HUS.out _ _ (heap_alloc_new _ _)).mono ?_; rintro e w9 ⟨rfl, hb9_⟩; have hb9 := below_step (below_alloc (Below.refl _ w8) _) hb9_; have HB9 := Lib.hid (below_step HB8.out hb9); have HX9 := Lib.hid (blk_bel hb9 HX8.out); obtain ⟨l0, l1, l2, l3, l4, l5, l6, l7, l8, l9, l10⟩ := bx_cells HX9.out; clear hb9 hb9_) | (go_at_call 39; refine (HRI.out _ HB7.out).mono ?_; rintro e w8 ⟨rfl, hb8⟩; have HB8 := Lib.hid (below_step HB7.out hb8); have HX8 := Lib.hid (blk_bel hb8 HX7.out); have HC8 := Lib.hid (blk_bel hb8 HC7.out); have HR8 := Lib.hid (blk_bel hb8 HR7.out); obtain ⟨l0, l1, l2, l3, l4, l5, l6, l7, l8, l9, l10⟩ := bx_cells HX8.out; have c2_ := c_of HC8.out 2 (v := .bool (C.fl 2)) rfl; have c3_ := c_of HC8.out 3 (v := .bool (C.fl 3)) rfl; have c7_ := c_of HC8.out 7 (v := .int .i64 (C.nm 7)) rfl; have c0_ := c_of HC8.out 0 (v := .bool (C.fl 0)) rfl; have c4_ := c_of HC8.out 4 (v := .bool (C.fl 4)) rfl; have r0_ := c_of HR8.out 0 (v := .bool (R.fl 0)) rfl; have hlt8 := blk_lt' HX8.out; clear hb8))
                        go_ret
                        exact ⟨by rw [HT.out]; rfl, HB10.out⟩
      · have tg : (x.f0.f0.toList == [71, 69, 84]) = false := by simpa using eg
        have tg2 : (x.f0.f0.toList != [71, 69, 84]) = true := by simpa using eg
        have HT : Hid (r0 = false) := Lib.hid (by rw [HRR.out]; simp [tg])
        go_wp2_with (first | (go_at_call 39; refine (HRI.out _ HB7.out).mono ?_; rintro e w8 ⟨rfl, hb8⟩; have HB8 := Lib.hid (below_step HB7.out hb8); have HX8 := Lib.hid (blk_bel hb8 HX7.out); have HC8 := Lib.hid (blk_bel hb8 HC7.out); have HR8 := Lib.hid (blk_bel hb8 HR7.out); obtain ⟨l0, l1, l2, l3, l4, l5, l6, l7, l8, l9, l10⟩ := bx_cells HX8.out; have c2_ := c_of HC8.out 2 (v := .bool (C.fl 2)) rfl; have c3_ := c_of HC8.out 3 (v := .bool (C.fl 3)) rfl; have c7_ := c_of HC8.out 7 (v := .int .i64 (C.nm 7)) rfl; have c0_ := c_of HC8.out 0 (v := .bool (C.fl 0)) rfl; have c4_ := c_of HC8.out 4 (v := .bool (C.fl 4)) rfl; have r0_ := c_of HR8.out 0 (v := .bool (R.fl 0)) rfl; have hlt8 := blk_lt' HX8.out; clear hb8))
        go_ret
        exact ⟨by rw [HT.out]; rfl, HB8.out⟩
end Go.Proofs.YtbnhlekehndhkaaGreatDoor.Fr

