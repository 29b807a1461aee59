import Derived.Test.YtbnhlekehndhkaaGreatDoorYFrY

/- Verdict: its walk. -/
namespace Go.Proofs.YtbnhlekehndhkaaGreatDoor.Fr
open Go.RowKit Go.Proofs.YtbnhlekehndhkaaGreatDoorW.PrintWords Go.Proofs.YtbnhlekehndhkaaGreatDoorW.PrintLast Go.Proofs.YtbnhlekehndhkaaGreatDoorW.PrintMore Go.Proofs.YtbnhlekehndhkaaGreatDoor.G Go.Proofs.YtbnhlekehndhkaaGreatDoor.V Go.Proofs.YtbnhlekehndhkaaGreatDoor.S
set_option linter.unusedVariables false
set_option linter.unusedSimpArgs false
theorem fr_of {w : World} {g : Nat} {cs : Array Value} {t : Nat} (h : w.heap[g]? = some (.cells cs t (0, 0))) (j : Nat) : w.frozen? ⟨g, j, none⟩ = false := frozen_of_row w g j cs t h
/-- two variables of directives, made or not -/
structure AtV (W1 : World) (d7 d8 : Bool) (a b : Nat) (w : World) : Prop where
  bel : Below W1.heap.size W1 w
  h7 : d7 = true → w.heap[a]? = some (.cells Fb.ZZ42 69 (0, 0))
  g7 : d7 = true → W1.heap.size ≤ a
  h8 : d8 = true → w.heap[b]? = some (.cells Fb.ZZ42 69 (0, 0))
  g8 : d8 = true → W1.heap.size ≤ b
  ne : d7 = true → d8 = true → a ≠ b
theorem AtV.start (W1 : World) : AtV W1 false false 0 0 W1.drew := ⟨below_drew (Below.refl _ _), (fun h => by cases h), (fun h => by cases h), (fun h => by cases h), (fun h => by cases h), (fun h => by cases h)⟩
theorem AtV.step {W1 : World} {d7 d8 : Bool} {a b : Nat} {w w' : World} (h : AtV W1 d7 d8 a b w) (hb : Below w.heap.size w w') : AtV W1 d7 d8 a b w' :=
  ⟨below_step h.bel hb, fun e => blk_bel hb (h.h7 e), h.g7, fun e => blk_bel hb (h.h8 e), h.g8, h.ne⟩
theorem AtV.new7 {W1 : World} {d8 : Bool} {a b : Nat} {w : World} (h : AtV W1 false d8 a b w) : AtV W1 true d8 w.heap.size b (w.alloc (.cells Fb.ZZ42 69)) :=
  ⟨below_alloc h.bel _, fun _ => heap_alloc_new _ _, fun _ => h.bel.size, fun e => blk_bel (below_alloc (Below.refl _ _) _) (h.h8 e), h.g8, fun _ e => by have := blk_lt' (h.h8 e); omega⟩
theorem AtV.new8 {W1 : World} {d7 : Bool} {a b : Nat} {w : World} (h : AtV W1 d7 false a b w) : AtV W1 d7 true a w.heap.size (w.alloc (.cells Fb.ZZ42 69)) :=
  ⟨below_alloc h.bel _, fun e => blk_bel (below_alloc (Below.refl _ _) _) (h.h7 e), h.g7, fun _ => heap_alloc_new _ _, fun _ => h.bel.size, fun e _ => by have := blk_lt' (h.h7 e); omega⟩
theorem AtV.ge7 {W1 : World} {d8 : Bool} {a b : Nat} {w : World} (h : AtV W1 true d8 a b w) {j : Nat} : W1.heap.size ≤ (⟨a, j, none⟩ : Addr).block := h.g7 rfl
theorem AtV.ge8 {W1 : World} {d7 : Bool} {a b : Nat} {w : World} (h : AtV W1 d7 true a b w) {j : Nat} : W1.heap.size ≤ (⟨b, j, none⟩ : Addr).block := h.g8 rfl
set_option maxRecDepth 100000 in
set_option maxHeartbeats 16000000 in
theorem verd_q (w : World) (P : Nat → Prop) (x : S34) (r : Rf) (h : Ex w P x r) (q : S25) (A4 : Option Addr) (c4 : Nat) (A5 : Option Addr) (c5 : Nat) (hC : Kd.C k59 w A4 q.f4.length q.f4) (hc : q.f4.length ≤ c4) (now : Int)
    (hG : Da.Glob w) (hs : wt x.f1.f1 < 268435456) (hq : wt q.f4 < 268435456) :
    Calls Tryz.prog 18 #[.agg (Vx x r), .agg (Vq q A4 c4 A5 c5), .int .i64 now] w fun e w' => e = .returned (.int .i64 (verdN x q now)) ∧ Below w.heap.size w w' := by
  obtain ⟨W0, hW0⟩ : ∃ W, W = (w.alloc (.cells (Vx x r) 34)).alloc (.cells (Vq q A4 c4 A5 c5) 25) := ⟨_, rfl⟩
  have HB0 : Hid (Below w.heap.size w W0) := Lib.hid (by rw [hW0]; exact below_alloc (below_alloc (Below.refl _ _) _) _)
  have HX0 : Hid (W0.heap[w.heap.size]? = some (Bx x r)) := Lib.hid (by rw [hW0, heap_alloc_old _ _ (by simp)]; exact heap_alloc_new w _)
  have HQ0 : Hid (W0.heap[w.heap.size + 1]? = some (.cells (Vq q A4 c4 A5 c5) 25 (0, 0))) := Lib.hid (by
    have := heap_alloc_new (w.alloc (.cells (Vx x r) 34)) (.cells (Vq q A4 c4 A5 c5) 25)
    rw [World.size_alloc] at this
    rw [hW0]; exact this)
  have HEQ := Lib.hid hW0
  have HRI := Lib.hid (fun W (hb : Below w.heap.size w W) => right_calls W P x r (h.below hb))
  have HIT := Lib.hid (fun W (hb : Below w.heap.size w W) => isTime_q now W)
  have HC0 := Lib.hid (fun W (hb : Below w.heap.size w W) => dirs_q r.A7 r.c7 x.f1.f1 W (Kd.C_below h.g7 hb) h.l7 hs (hG.below hb))
  have HR0 := Lib.hid (fun W (hb : Below w.heap.size w W) => dirs_q A4 c4 q.f4 W (Kd.C_below hC hb) hc hq (hG.below hb))
  have HLI := Lib.hid (fun W (hb : Below w.heap.size w W) => life_q W P x r (h.below hb) (hG.below hb) hs)
  have HAG := Lib.hid (fun W (hb : Below w.heap.size w W) => age_q W P x r (h.below hb) now (hG.below hb) hs)
  obtain ⟨r0, hr0⟩ : ∃ r0, r0 = verdN x q now := ⟨_, rfl⟩
  rw [← hr0]
  unfold verdN at hr0
  obtain ⟨l0, l1, l2, l3, l4, l5, l6, l7, l8, l9, l10⟩ := bx_cells HX0.out
  cases hb : rightB x with
  | false =>
    rw [hb] at HRI hr0
    have HE : Hid (r0 = 0) := Lib.hid (by rw [hr0]; rfl)
    clear hb hr0 h hG hW0
    go_enter Tryz.func18, Tryz.ntmps18
    go_upto_region 1 with fail
    rw [← HEQ.out]
    go_wp2_with (go_at_call 39; refine (HRI.out _ HB0.out).mono ?_; rintro e w2 ⟨rfl, hb2⟩; have HB2 := Lib.hid (below_step HB0.out hb2); clear hb2)
    go_ret
    exact ⟨by rw [HE.out]; rfl, HB2.out⟩
  | true =>
    rw [hb] at HRI hr0
    clear hb
    cases hi : isT now with
    | false =>
      rw [hi] at HIT hr0
      have HE : Hid (r0 = 0) := Lib.hid (by rw [hr0]; rfl)
      clear hi hr0 h hG hW0
      go_enter Tryz.func18, Tryz.ntmps18
      go_upto_region 1 with fail
      rw [← HEQ.out]
      go_wp2_with (first | (go_at_call 40; refine (HIT.out _ HB2.out).mono ?_; rintro e w3 ⟨rfl, hb3⟩; have HB3 := Lib.hid (below_step HB2.out hb3); clear hb3) | (go_at_call 39; refine (HRI.out _ HB0.out).mono ?_; rintro e w2 ⟨rfl, hb2⟩; have HB2 := Lib.hid (below_step HB0.out hb2); clear hb2))
      go_ret
      exact ⟨by rw [HE.out]; rfl, HB3.out⟩
    | true =>
      rw [hi] at HIT hr0
      rw [Bool.and_self, if_pos rfl] at hr0
      obtain ⟨C, hC_⟩ : ∃ C, C = dirsOf x.f1.f1 := ⟨_, rfl⟩
      obtain ⟨R, hR_⟩ : ∃ R, R = dirsOf q.f4 := ⟨_, rfl⟩
      obtain ⟨ag, hag⟩ : ∃ a, a = ageN x now := ⟨_, rfl⟩
      obtain ⟨li, hli⟩ : ∃ a, a = (lifeN x).1 := ⟨_, rfl⟩
      have b1 := age_bd x now
      have b2 := life_bd x
      rw [← hC_] at HC0 hr0
      rw [← hR_] at HR0 hr0
      rw [← hag] at HAG hr0 b1
      rw [← hli] at HLI hr0 b2
      obtain ⟨st, hst⟩ : ∃ s, s = ag - li := ⟨_, rfl⟩
      have HST : Hid (wrap64 (ag - li) = st) := Lib.hid (by rw [hst]; unfold wrap64; omega)
      have HSN : Hid (wrap64 (-st) = li - ag) := Lib.hid (by rw [hst]; unfold wrap64; omega)
      have HSE := Lib.hid hst
      have HRR := Lib.hid hr0
      unfold Fb.Ct.cells at HC0 HR0
      clear hi hr0 h hG hW0 hC_ hR_ hag hli b1 b2 hst
      go_enter Tryz.func18, Tryz.ntmps18
      go_upto_region 1 with fail
      rw [← HEQ.out]
      go_upto_region 3 with (first | (go_at_call 40; refine (HIT.out _ HB2.out).mono ?_; rintro e w3 ⟨rfl, hb3⟩; have HB3 := Lib.hid (below_step HB2.out hb3); have HX3 := Lib.hid (blk_bel hb3 HX2.out); have HQ3 := Lib.hid (blk_bel hb3 HQ2.out); clear hb3) | (go_at_call 39; refine (HRI.out _ HB0.out).mono ?_; rintro e w2 ⟨rfl, hb2⟩; have HB2 := Lib.hid (below_step HB0.out hb2); have HX2 := Lib.hid (blk_bel hb2 HX0.out); have HQ2 := Lib.hid (blk_bel hb2 HQ0.out); clear hb2))
      obtain ⟨W1, hW1⟩ : ∃ W, W = w3 := ⟨_, rfl⟩
      rw [← hW1] at HB3 HX3 HQ3 ⊢
      clear hW1
      have HC := Lib.hid (fun W (hb : Below W1.heap.size W1 W) => HC0.out W (below_step HB3.out hb))
      have HR := Lib.hid (fun W (hb : Below W1.heap.size W1 W) => HR0.out W (below_step HB3.out hb))
      have hV := AtV.start W1
      refine start_ (n := 11) (S := fun w' => w'.cell? ⟨w.heap.size, 7, none⟩ = some (.slice r.A7 x.f1.f1.length r.c7) ∧ w'.cell? ⟨w.heap.size + 1, 4, none⟩ = some (.slice A4 q.f4.length c4)) (ds := [9, 10]) #[false, false, false, false, false, false, false, false, false, false, false] (by kernel_rfl) rfl rfl ⟨c_of (blk_bel hV.bel HX3.out) 7 (v := .slice r.A7 x.f1.f1.length r.c7) rfl, c_of (blk_bel hV.bel HQ3.out) 4 (v := .slice A4 q.f4.length c4) rfl⟩ (fun hHeld => ?_)
      refine pure_ (i := 0) (N := some 21) (v := ?_) (a' := ?_) #[true, false, false, false, false, false, false, false, false, false, false] rfl rfl (by kernel_rfl) (fun _ _ _ h => h) (Or.inl ⟨by rfl, ?_⟩) ?_ ?_
      rotate_left
      · intro w'
        go_simp
        with_reducible rfl
      rotate_left
      · simp only [Act.put, List.setIfInBounds_toArray, List.set_cons_zero, List.set_cons_succ, i64_w, i32_w]
        rfl
      refine pure_ (i := 1) (N := some 22) (v := ?_) (a' := ?_) #[true, true, false, false, false, false, false, false, false, false, false] rfl rfl (by kernel_rfl) (fun _ _ _ h => h) (Or.inl ⟨by rfl, ?_⟩) ?_ ?_
      rotate_left
      · intro w'
        go_simp
        with_reducible rfl
      rotate_left
      · simp only [Act.put, List.setIfInBounds_toArray, List.set_cons_zero, List.set_cons_succ, i64_w, i32_w]
        rfl
      refine pure_ (i := 4) (N := some 25) (v := ?_) (a' := ?_) #[true, true, false, false, true, false, false, false, false, false, false] rfl rfl (by kernel_rfl) (fun _ _ _ h => h) (Or.inl ⟨by rfl, ?_⟩) ?_ ?_
      rotate_left
      · intro w'
        go_simp
        with_reducible rfl
      rotate_left
      · simp only [Act.put, List.setIfInBounds_toArray, List.set_cons_zero, List.set_cons_succ, i64_w, i32_w]
        rfl
      refine take_ (i := 2) (N := some 23) (v := ?_) (a' := ?_) #[true, true, true, false, true, false, false, false, false, false, false] rfl rfl (by kernel_rfl) (fun _ _ _ h => h) (Or.inl ⟨by rfl, ?_⟩) hHeld ?_ ?_
      rotate_left
      · rintro w' ⟨s0, s1⟩
        go_simp
        with_reducible rfl
      rotate_left
      · simp only [Act.put, List.setIfInBounds_toArray, List.set_cons_zero, List.set_cons_succ, i64_w, i32_w]
        rfl
      refine take_ (i := 5) (N := some 26) (v := ?_) (a' := ?_) #[true, true, true, false, true, true, false, false, false, false, false] rfl rfl (by kernel_rfl) (fun _ _ _ h => h) (Or.inl ⟨by rfl, ?_⟩) hHeld ?_ ?_
      rotate_left
      · rintro w' ⟨s0, s1⟩
        go_simp
        with_reducible rfl
      rotate_left
      · simp only [Act.put, List.setIfInBounds_toArray, List.set_cons_zero, List.set_cons_succ, i64_w, i32_w]
        rfl
      refine join_ (σ := Nat × Nat) 2 #[true, true, true, true, true, true, true, true, true, false, false] (fun s_ => [(24, .agg #[.bool (C.fl 0), .bool (C.fl 1), .bool (C.fl 2), .bool (C.fl 3), .bool (C.fl 4), .bool (C.fl 5), .int .i64 (C.nm 6), .int .i64 (C.nm 7), .int .i64 (C.nm 8), .int .i64 (C.nm 9), .int .i64 (C.nm 10), .int .i64 (C.nm 11)]), (27, .agg #[.bool (R.fl 0), .bool (R.fl 1), .bool (R.fl 2), .bool (R.fl 3), .bool (R.fl 4), .bool (R.fl 5), .int .i64 (R.nm 6), .int .i64 (R.nm 7), .int .i64 (R.nm 8), .int .i64 (R.nm 9), .int .i64 (R.nm 10), .int .i64 (R.nm 11)]), (7, .pointer (some ⟨s_.1, 0, none⟩)), (8, .pointer (some ⟨s_.2, 0, none⟩))]) (fun s_ w' => AtV W1 true true s_.1 s_.2 w') ?_ ?_
      rotate_left
      · intro hJ3_6_7_8
        refine join_ (σ := Nat × Nat) 3 #[true, true, true, true, true, true, true, true, false, false, false] (fun s_ => [(24, .agg #[.bool (C.fl 0), .bool (C.fl 1), .bool (C.fl 2), .bool (C.fl 3), .bool (C.fl 4), .bool (C.fl 5), .int .i64 (C.nm 6), .int .i64 (C.nm 7), .int .i64 (C.nm 8), .int .i64 (C.nm 9), .int .i64 (C.nm 10), .int .i64 (C.nm 11)]), (27, .agg #[.bool (R.fl 0), .bool (R.fl 1), .bool (R.fl 2), .bool (R.fl 3), .bool (R.fl 4), .bool (R.fl 5), .int .i64 (R.nm 6), .int .i64 (R.nm 7), .int .i64 (R.nm 8), .int .i64 (R.nm 9), .int .i64 (R.nm 10), .int .i64 (R.nm 11)]), (7, .pointer (some ⟨s_.1, 0, none⟩))]) (fun s_ w' => AtV W1 true false s_.1 s_.2 w') ?_ ?_
        rotate_left
        · intro hJ3_6_7
          refine join_ (σ := Nat × Nat) 3 #[true, true, true, true, true, true, true, false, true, false, false] (fun s_ => [(24, .agg #[.bool (C.fl 0), .bool (C.fl 1), .bool (C.fl 2), .bool (C.fl 3), .bool (C.fl 4), .bool (C.fl 5), .int .i64 (C.nm 6), .int .i64 (C.nm 7), .int .i64 (C.nm 8), .int .i64 (C.nm 9), .int .i64 (C.nm 10), .int .i64 (C.nm 11)]), (27, .agg #[.bool (R.fl 0), .bool (R.fl 1), .bool (R.fl 2), .bool (R.fl 3), .bool (R.fl 4), .bool (R.fl 5), .int .i64 (R.nm 6), .int .i64 (R.nm 7), .int .i64 (R.nm 8), .int .i64 (R.nm 9), .int .i64 (R.nm 10), .int .i64 (R.nm 11)]), (8, .pointer (some ⟨s_.2, 0, none⟩))]) (fun s_ w' => AtV W1 false true s_.1 s_.2 w') ?_ ?_
          rotate_left
          · intro hJ3_6_8
            refine join_ (σ := Nat × Nat) 3 #[true, true, true, true, true, true, false, true, true, false, false] (fun s_ => [(24, .agg #[.bool (C.fl 0), .bool (C.fl 1), .bool (C.fl 2), .bool (C.fl 3), .bool (C.fl 4), .bool (C.fl 5), .int .i64 (C.nm 6), .int .i64 (C.nm 7), .int .i64 (C.nm 8), .int .i64 (C.nm 9), .int .i64 (C.nm 10), .int .i64 (C.nm 11)]), (7, .pointer (some ⟨s_.1, 0, none⟩)), (8, .pointer (some ⟨s_.2, 0, none⟩))]) (fun s_ w' => AtV W1 true true s_.1 s_.2 w') ?_ ?_
            rotate_left
            · intro hJ3_7_8
              refine join_ (σ := Nat × Nat) 4 #[true, true, true, true, true, true, true, false, false, false, false] (fun s_ => [(24, .agg #[.bool (C.fl 0), .bool (C.fl 1), .bool (C.fl 2), .bool (C.fl 3), .bool (C.fl 4), .bool (C.fl 5), .int .i64 (C.nm 6), .int .i64 (C.nm 7), .int .i64 (C.nm 8), .int .i64 (C.nm 9), .int .i64 (C.nm 10), .int .i64 (C.nm 11)]), (27, .agg #[.bool (R.fl 0), .bool (R.fl 1), .bool (R.fl 2), .bool (R.fl 3), .bool (R.fl 4), .bool (R.fl 5), .int .i64 (R.nm 6), .int .i64 (R.nm 7), .int .i64 (R.nm 8), .int .i64 (R.nm 9), .int .i64 (R.nm 10), .int .i64 (R.nm 11)])]) (fun s_ w' => AtV W1 false false s_.1 s_.2 w') ?_ ?_
              rotate_left
              · intro hJ3_6
                refine join_ (σ := Nat × Nat) 4 #[true, true, true, true, true, true, false, true, false, false, false] (fun s_ => [(24, .agg #[.bool (C.fl 0), .bool (C.fl 1), .bool (C.fl 2), .bool (C.fl 3), .bool (C.fl 4), .bool (C.fl 5), .int .i64 (C.nm 6), .int .i64 (C.nm 7), .int .i64 (C.nm 8), .int .i64 (C.nm 9), .int .i64 (C.nm 10), .int .i64 (C.nm 11)]), (7, .pointer (some ⟨s_.1, 0, none⟩))]) (fun s_ w' => AtV W1 true false s_.1 s_.2 w') ?_ ?_
                rotate_left
                · intro hJ3_7
                  refine join_ (σ := Nat × Nat) 4 #[true, true, true, true, true, true, false, false, true, false, false] (fun s_ => [(24, .agg #[.bool (C.fl 0), .bool (C.fl 1), .bool (C.fl 2), .bool (C.fl 3), .bool (C.fl 4), .bool (C.fl 5), .int .i64 (C.nm 6), .int .i64 (C.nm 7), .int .i64 (C.nm 8), .int .i64 (C.nm 9), .int .i64 (C.nm 10), .int .i64 (C.nm 11)]), (8, .pointer (some ⟨s_.2, 0, none⟩))]) (fun s_ w' => AtV W1 false true s_.1 s_.2 w') ?_ ?_
                  rotate_left
                  · intro hJ3_8
                    refine join_ (σ := Nat × Nat) 4 #[true, true, true, false, true, true, false, true, true, false, false] (fun s_ => [(7, .pointer (some ⟨s_.1, 0, none⟩)), (8, .pointer (some ⟨s_.2, 0, none⟩))]) (fun s_ w' => AtV W1 true true s_.1 s_.2 w') ?_ ?_
                    rotate_left
                    · intro hJ7_8
                      refine join_ (σ := Nat × Nat) 5 #[true, true, true, true, true, true, false, false, false, false, false] (fun s_ => [(24, .agg #[.bool (C.fl 0), .bool (C.fl 1), .bool (C.fl 2), .bool (C.fl 3), .bool (C.fl 4), .bool (C.fl 5), .int .i64 (C.nm 6), .int .i64 (C.nm 7), .int .i64 (C.nm 8), .int .i64 (C.nm 9), .int .i64 (C.nm 10), .int .i64 (C.nm 11)])]) (fun s_ w' => AtV W1 false false s_.1 s_.2 w') ?_ ?_
                      rotate_left
                      · intro hJ3
                        refine join_ (σ := Nat × Nat) 5 #[true, true, true, false, true, true, false, true, false, false, false] (fun s_ => [(7, .pointer (some ⟨s_.1, 0, none⟩))]) (fun s_ w' => AtV W1 true false s_.1 s_.2 w') ?_ ?_
                        rotate_left
                        · intro hJ7
                          refine join_ (σ := Nat × Nat) 5 #[true, true, true, false, true, true, false, false, true, false, false] (fun s_ => [(8, .pointer (some ⟨s_.2, 0, none⟩))]) (fun s_ w' => AtV W1 false true s_.1 s_.2 w') ?_ ?_
                          rotate_left
                          · intro hJ8
                            refine three_ (i := 3) (j := 7) (k := 8) (Ni := some 24) (Nj := some 7) (Nk := some 8) #[true, true, true, true, true, true, false, false, false, false, false] #[true, true, true, false, true, true, false, true, false, false, false] #[true, true, true, false, true, true, false, false, true, false, false] rfl rfl rfl rfl rfl rfl (by kernel_rfl) (by decide) (by decide) (by decide) (fun K hK => ?_) (fun K hK => ?_) (fun K hK => ?_)
                            · skip
                              refine goes_ Tryz.func44 (by kernel_rfl) rfl #[.slice r.A7 x.f1.f1.length r.c7] (by rfl) rfl rfl (by simp only [List.map_toArray, List.map_cons, List.map_nil]; rfl) ?_
                              with_reducible refine (HC.out _ hV.bel).mono ?_
                              rintro e w3_ ⟨rfl, hb3_⟩
                              refine ⟨_, rfl, ?_⟩
                              refine hK.out _ _ ⟨c_of (blk_bel (hV.step hb3_).bel HX3.out) 7 (v := .slice r.A7 x.f1.f1.length r.c7) rfl, c_of (blk_bel (hV.step hb3_).bel HQ3.out) 4 (v := .slice A4 q.f4.length c4) rfl⟩ (fun hHeld => ?_)
                              clear hK K
                              refine norm_ (a' := ?_) ?_ ?_
                              rotate_left
                              · show Act.put _ (some 24) _ = _
                                simp only [Act.put, List.setIfInBounds_toArray, List.set_cons_zero, List.set_cons_succ, i64_w, i32_w]
                                rfl
                              exact norm_ (by first | (simp only [putAll, Act.put, List.setIfInBounds_toArray, List.set_cons_zero, List.set_cons_succ]; done) | (simp only [putAll, Act.put, List.setIfInBounds_toArray, List.set_cons_zero, List.set_cons_succ]; rfl)) (hJ3 ⟨0, 0⟩ _ (hV.step hb3_))
                            · skip
                              refine value_ (w1 := ?_) (v := ?_) (by rfl) rfl ?_ ?_
                              rotate_left 2
                              · go_simp
                                constructor
                                · rfl
                                · rfl
                              refine hK.out _ _ ⟨c_of (blk_bel hV.new7.bel HX3.out) 7 (v := .slice r.A7 x.f1.f1.length r.c7) rfl, c_of (blk_bel hV.new7.bel HQ3.out) 4 (v := .slice A4 q.f4.length c4) rfl⟩ (fun hHeld => ?_)
                              clear hK K
                              refine norm_ (a' := ?_) ?_ ?_
                              rotate_left
                              · show Act.put _ (some 7) _ = _
                                simp only [Act.put, List.setIfInBounds_toArray, List.set_cons_zero, List.set_cons_succ, i64_w, i32_w]
                                rfl
                              exact norm_ (by first | (simp only [putAll, Act.put, List.setIfInBounds_toArray, List.set_cons_zero, List.set_cons_succ]; done) | (simp only [putAll, Act.put, List.setIfInBounds_toArray, List.set_cons_zero, List.set_cons_succ]; rfl)) (hJ7 ⟨W1.drew.heap.size, 0⟩ _ hV.new7)
                            · skip
                              refine value_ (w1 := ?_) (v := ?_) (by rfl) rfl ?_ ?_
                              rotate_left 2
                              · go_simp
                                constructor
                                · rfl
                                · rfl
                              refine hK.out _ _ ⟨c_of (blk_bel hV.new8.bel HX3.out) 7 (v := .slice r.A7 x.f1.f1.length r.c7) rfl, c_of (blk_bel hV.new8.bel HQ3.out) 4 (v := .slice A4 q.f4.length c4) rfl⟩ (fun hHeld => ?_)
                              clear hK K
                              refine norm_ (a' := ?_) ?_ ?_
                              rotate_left
                              · show Act.put _ (some 8) _ = _
                                simp only [Act.put, List.setIfInBounds_toArray, List.set_cons_zero, List.set_cons_succ, i64_w, i32_w]
                                rfl
                              exact norm_ (by first | (simp only [putAll, Act.put, List.setIfInBounds_toArray, List.set_cons_zero, List.set_cons_succ]; done) | (simp only [putAll, Act.put, List.setIfInBounds_toArray, List.set_cons_zero, List.set_cons_succ]; rfl)) (hJ8 ⟨0, W1.drew.heap.size⟩ _ hV.new8)
                          · skip
                            rintro ⟨a_, b_⟩ wq hV
                            have hHeld : wq.cell? ⟨w.heap.size, 7, none⟩ = some (.slice r.A7 x.f1.f1.length r.c7) ∧ wq.cell? ⟨w.heap.size + 1, 4, none⟩ = some (.slice A4 q.f4.length c4) := ⟨c_of (blk_bel hV.bel HX3.out) 7 (v := .slice r.A7 x.f1.f1.length r.c7) rfl, c_of (blk_bel hV.bel HQ3.out) 4 (v := .slice A4 q.f4.length c4) rfl⟩
                            refine norm_ (a' := ?_) ?_ ?_
                            rotate_left
                            · simp only [putAll, Act.put, List.setIfInBounds_toArray, List.set_cons_zero, List.set_cons_succ]
                              rfl
                            refine two_ (i := 3) (j := 7) (Ni := some 24) (Nj := some 7) #[true, true, true, true, true, true, false, false, true, false, false] #[true, true, true, false, true, true, false, true, true, false, false] rfl rfl rfl rfl (by kernel_rfl) (by decide) (by decide) (fun K hK => ?_) (fun K hK => ?_)
                            · skip
                              refine goes_ Tryz.func44 (by kernel_rfl) rfl #[.slice r.A7 x.f1.f1.length r.c7] (by rfl) rfl rfl (by simp only [List.map_toArray, List.map_cons, List.map_nil]; rfl) ?_
                              with_reducible refine (HC.out _ hV.bel).mono ?_
                              rintro e w3_ ⟨rfl, hb3_⟩
                              refine ⟨_, rfl, ?_⟩
                              refine hK.out _ _ ⟨c_of (blk_bel (hV.step hb3_).bel HX3.out) 7 (v := .slice r.A7 x.f1.f1.length r.c7) rfl, c_of (blk_bel (hV.step hb3_).bel HQ3.out) 4 (v := .slice A4 q.f4.length c4) rfl⟩ (fun hHeld => ?_)
                              clear hK K
                              refine norm_ (a' := ?_) ?_ ?_
                              rotate_left
                              · show Act.put _ (some 24) _ = _
                                simp only [Act.put, List.setIfInBounds_toArray, List.set_cons_zero, List.set_cons_succ, i64_w, i32_w]
                                rfl
                              exact norm_ (by first | (simp only [putAll, Act.put, List.setIfInBounds_toArray, List.set_cons_zero, List.set_cons_succ]; done) | (simp only [putAll, Act.put, List.setIfInBounds_toArray, List.set_cons_zero, List.set_cons_succ]; rfl)) (hJ3_8 ⟨a_, b_⟩ _ (hV.step hb3_))
                            · skip
                              refine value_ (w1 := ?_) (v := ?_) (by rfl) rfl ?_ ?_
                              rotate_left 2
                              · go_simp
                                constructor
                                · rfl
                                · rfl
                              refine hK.out _ _ ⟨c_of (blk_bel hV.new7.bel HX3.out) 7 (v := .slice r.A7 x.f1.f1.length r.c7) rfl, c_of (blk_bel hV.new7.bel HQ3.out) 4 (v := .slice A4 q.f4.length c4) rfl⟩ (fun hHeld => ?_)
                              clear hK K
                              refine norm_ (a' := ?_) ?_ ?_
                              rotate_left
                              · show Act.put _ (some 7) _ = _
                                simp only [Act.put, List.setIfInBounds_toArray, List.set_cons_zero, List.set_cons_succ, i64_w, i32_w]
                                rfl
                              exact norm_ (by first | (simp only [putAll, Act.put, List.setIfInBounds_toArray, List.set_cons_zero, List.set_cons_succ]; done) | (simp only [putAll, Act.put, List.setIfInBounds_toArray, List.set_cons_zero, List.set_cons_succ]; rfl)) (hJ7_8 ⟨wq.heap.size, b_⟩ _ hV.new7)
                        · skip
                          rintro ⟨a_, b_⟩ wq hV
                          have hHeld : wq.cell? ⟨w.heap.size, 7, none⟩ = some (.slice r.A7 x.f1.f1.length r.c7) ∧ wq.cell? ⟨w.heap.size + 1, 4, none⟩ = some (.slice A4 q.f4.length c4) := ⟨c_of (blk_bel hV.bel HX3.out) 7 (v := .slice r.A7 x.f1.f1.length r.c7) rfl, c_of (blk_bel hV.bel HQ3.out) 4 (v := .slice A4 q.f4.length c4) rfl⟩
                          refine norm_ (a' := ?_) ?_ ?_
                          rotate_left
                          · simp only [putAll, Act.put, List.setIfInBounds_toArray, List.set_cons_zero, List.set_cons_succ]
                            rfl
                          refine two_ (i := 3) (j := 8) (Ni := some 24) (Nj := some 8) #[true, true, true, true, true, true, false, true, false, false, false] #[true, true, true, false, true, true, false, true, true, false, false] rfl rfl rfl rfl (by kernel_rfl) (by decide) (by decide) (fun K hK => ?_) (fun K hK => ?_)
                          · skip
                            refine goes_ Tryz.func44 (by kernel_rfl) rfl #[.slice r.A7 x.f1.f1.length r.c7] (by rfl) rfl rfl (by simp only [List.map_toArray, List.map_cons, List.map_nil]; rfl) ?_
                            with_reducible refine (HC.out _ hV.bel).mono ?_
                            rintro e w3_ ⟨rfl, hb3_⟩
                            refine ⟨_, rfl, ?_⟩
                            refine hK.out _ _ ⟨c_of (blk_bel (hV.step hb3_).bel HX3.out) 7 (v := .slice r.A7 x.f1.f1.length r.c7) rfl, c_of (blk_bel (hV.step hb3_).bel HQ3.out) 4 (v := .slice A4 q.f4.length c4) rfl⟩ (fun hHeld => ?_)
                            clear hK K
                            refine norm_ (a' := ?_) ?_ ?_
                            rotate_left
                            · show Act.put _ (some 24) _ = _
                              simp only [Act.put, List.setIfInBounds_toArray, List.set_cons_zero, List.set_cons_succ, i64_w, i32_w]
                              rfl
                            exact norm_ (by first | (simp only [putAll, Act.put, List.setIfInBounds_toArray, List.set_cons_zero, List.set_cons_succ]; done) | (simp only [putAll, Act.put, List.setIfInBounds_toArray, List.set_cons_zero, List.set_cons_succ]; rfl)) (hJ3_7 ⟨a_, b_⟩ _ (hV.step hb3_))
                          · skip
                            refine value_ (w1 := ?_) (v := ?_) (by rfl) rfl ?_ ?_
                            rotate_left 2
                            · go_simp
                              constructor
                              · rfl
                              · rfl
                            refine hK.out _ _ ⟨c_of (blk_bel hV.new8.bel HX3.out) 7 (v := .slice r.A7 x.f1.f1.length r.c7) rfl, c_of (blk_bel hV.new8.bel HQ3.out) 4 (v := .slice A4 q.f4.length c4) rfl⟩ (fun hHeld => ?_)
                            clear hK K
                            refine norm_ (a' := ?_) ?_ ?_
                            rotate_left
                            · show Act.put _ (some 8) _ = _
                              simp only [Act.put, List.setIfInBounds_toArray, List.set_cons_zero, List.set_cons_succ, i64_w, i32_w]
                              rfl
                            exact norm_ (by first | (simp only [putAll, Act.put, List.setIfInBounds_toArray, List.set_cons_zero, List.set_cons_succ]; done) | (simp only [putAll, Act.put, List.setIfInBounds_toArray, List.set_cons_zero, List.set_cons_succ]; rfl)) (hJ7_8 ⟨a_, wq.heap.size⟩ _ hV.new8)
                      · skip
                        rintro ⟨a_, b_⟩ wq hV
                        have hHeld : wq.cell? ⟨w.heap.size, 7, none⟩ = some (.slice r.A7 x.f1.f1.length r.c7) ∧ wq.cell? ⟨w.heap.size + 1, 4, none⟩ = some (.slice A4 q.f4.length c4) := ⟨c_of (blk_bel hV.bel HX3.out) 7 (v := .slice r.A7 x.f1.f1.length r.c7) rfl, c_of (blk_bel hV.bel HQ3.out) 4 (v := .slice A4 q.f4.length c4) rfl⟩
                        refine norm_ (a' := ?_) ?_ ?_
                        rotate_left
                        · simp only [putAll, Act.put, List.setIfInBounds_toArray, List.set_cons_zero, List.set_cons_succ]
                          rfl
                        refine three_ (i := 6) (j := 7) (k := 8) (Ni := some 27) (Nj := some 7) (Nk := some 8) #[true, true, true, true, true, true, true, false, false, false, false] #[true, true, true, true, true, true, false, true, false, false, false] #[true, true, true, true, true, true, false, false, true, false, false] rfl rfl rfl rfl rfl rfl (by kernel_rfl) (by decide) (by decide) (by decide) (fun K hK => ?_) (fun K hK => ?_) (fun K hK => ?_)
                        · skip
                          refine goes_ Tryz.func44 (by kernel_rfl) rfl #[.slice A4 q.f4.length c4] (by rfl) rfl rfl (by simp only [List.map_toArray, List.map_cons, List.map_nil]; rfl) ?_
                          with_reducible refine (HR.out _ hV.bel).mono ?_
                          rintro e w3_ ⟨rfl, hb3_⟩
                          refine ⟨_, rfl, ?_⟩
                          refine hK.out _ _ ⟨c_of (blk_bel (hV.step hb3_).bel HX3.out) 7 (v := .slice r.A7 x.f1.f1.length r.c7) rfl, c_of (blk_bel (hV.step hb3_).bel HQ3.out) 4 (v := .slice A4 q.f4.length c4) rfl⟩ (fun hHeld => ?_)
                          clear hK K
                          refine norm_ (a' := ?_) ?_ ?_
                          rotate_left
                          · show Act.put _ (some 27) _ = _
                            simp only [Act.put, List.setIfInBounds_toArray, List.set_cons_zero, List.set_cons_succ, i64_w, i32_w]
                            rfl
                          exact norm_ (by first | (simp only [putAll, Act.put, List.setIfInBounds_toArray, List.set_cons_zero, List.set_cons_succ]; done) | (simp only [putAll, Act.put, List.setIfInBounds_toArray, List.set_cons_zero, List.set_cons_succ]; rfl)) (hJ3_6 ⟨a_, b_⟩ _ (hV.step hb3_))
                        · skip
                          refine value_ (w1 := ?_) (v := ?_) (by rfl) rfl ?_ ?_
                          rotate_left 2
                          · go_simp
                            constructor
                            · rfl
                            · rfl
                          refine hK.out _ _ ⟨c_of (blk_bel hV.new7.bel HX3.out) 7 (v := .slice r.A7 x.f1.f1.length r.c7) rfl, c_of (blk_bel hV.new7.bel HQ3.out) 4 (v := .slice A4 q.f4.length c4) rfl⟩ (fun hHeld => ?_)
                          clear hK K
                          refine norm_ (a' := ?_) ?_ ?_
                          rotate_left
                          · show Act.put _ (some 7) _ = _
                            simp only [Act.put, List.setIfInBounds_toArray, List.set_cons_zero, List.set_cons_succ, i64_w, i32_w]
                            rfl
                          exact norm_ (by first | (simp only [putAll, Act.put, List.setIfInBounds_toArray, List.set_cons_zero, List.set_cons_succ]; done) | (simp only [putAll, Act.put, List.setIfInBounds_toArray, List.set_cons_zero, List.set_cons_succ]; rfl)) (hJ3_7 ⟨wq.heap.size, b_⟩ _ hV.new7)
                        · skip
                          refine value_ (w1 := ?_) (v := ?_) (by rfl) rfl ?_ ?_
                          rotate_left 2
                          · go_simp
                            constructor
                            · rfl
                            · rfl
                          refine hK.out _ _ ⟨c_of (blk_bel hV.new8.bel HX3.out) 7 (v := .slice r.A7 x.f1.f1.length r.c7) rfl, c_of (blk_bel hV.new8.bel HQ3.out) 4 (v := .slice A4 q.f4.length c4) rfl⟩ (fun hHeld => ?_)
                          clear hK K
                          refine norm_ (a' := ?_) ?_ ?_
                          rotate_left
                          · show Act.put _ (some 8) _ = _
                            simp only [Act.put, List.setIfInBounds_toArray, List.set_cons_zero, List.set_cons_succ, i64_w, i32_w]
                            rfl
                          exact norm_ (by first | (simp only [putAll, Act.put, List.setIfInBounds_toArray, List.set_cons_zero, List.set_cons_succ]; done) | (simp only [putAll, Act.put, List.setIfInBounds_toArray, List.set_cons_zero, List.set_cons_succ]; rfl)) (hJ3_8 ⟨a_, wq.heap.size⟩ _ hV.new8)
                    · skip
                      rintro ⟨a_, b_⟩ wq hV
                      have hHeld : wq.cell? ⟨w.heap.size, 7, none⟩ = some (.slice r.A7 x.f1.f1.length r.c7) ∧ wq.cell? ⟨w.heap.size + 1, 4, none⟩ = some (.slice A4 q.f4.length c4) := ⟨c_of (blk_bel hV.bel HX3.out) 7 (v := .slice r.A7 x.f1.f1.length r.c7) rfl, c_of (blk_bel hV.bel HQ3.out) 4 (v := .slice A4 q.f4.length c4) rfl⟩
                      refine norm_ (a' := ?_) ?_ ?_
                      rotate_left
                      · simp only [putAll, Act.put, List.setIfInBounds_toArray, List.set_cons_zero, List.set_cons_succ]
                        rfl
                      refine one_ (i := 3) (N := some 24) #[true, true, true, true, true, true, false, true, true, false, false] rfl rfl (by kernel_rfl) (by decide) (fun K hK => ?_)
                      refine goes_ Tryz.func44 (by kernel_rfl) rfl #[.slice r.A7 x.f1.f1.length r.c7] (by rfl) rfl rfl (by simp only [List.map_toArray, List.map_cons, List.map_nil]; rfl) ?_
                      with_reducible refine (HC.out _ hV.bel).mono ?_
                      rintro e w3_ ⟨rfl, hb3_⟩
                      refine ⟨_, rfl, ?_⟩
                      refine hK.out _ _ ⟨c_of (blk_bel (hV.step hb3_).bel HX3.out) 7 (v := .slice r.A7 x.f1.f1.length r.c7) rfl, c_of (blk_bel (hV.step hb3_).bel HQ3.out) 4 (v := .slice A4 q.f4.length c4) rfl⟩ (fun hHeld => ?_)
                      clear hK K
                      refine norm_ (a' := ?_) ?_ ?_
                      rotate_left
                      · show Act.put _ (some 24) _ = _
                        simp only [Act.put, List.setIfInBounds_toArray, List.set_cons_zero, List.set_cons_succ, i64_w, i32_w]
                        rfl
                      exact norm_ (by first | (simp only [putAll, Act.put, List.setIfInBounds_toArray, List.set_cons_zero, List.set_cons_succ]; done) | (simp only [putAll, Act.put, List.setIfInBounds_toArray, List.set_cons_zero, List.set_cons_succ]; rfl)) (hJ3_7_8 ⟨a_, b_⟩ _ (hV.step hb3_))
                  · skip
                    rintro ⟨a_, b_⟩ wq hV
                    have hHeld : wq.cell? ⟨w.heap.size, 7, none⟩ = some (.slice r.A7 x.f1.f1.length r.c7) ∧ wq.cell? ⟨w.heap.size + 1, 4, none⟩ = some (.slice A4 q.f4.length c4) := ⟨c_of (blk_bel hV.bel HX3.out) 7 (v := .slice r.A7 x.f1.f1.length r.c7) rfl, c_of (blk_bel hV.bel HQ3.out) 4 (v := .slice A4 q.f4.length c4) rfl⟩
                    refine norm_ (a' := ?_) ?_ ?_
                    rotate_left
                    · simp only [putAll, Act.put, List.setIfInBounds_toArray, List.set_cons_zero, List.set_cons_succ]
                      rfl
                    refine two_ (i := 6) (j := 7) (Ni := some 27) (Nj := some 7) #[true, true, true, true, true, true, true, false, true, false, false] #[true, true, true, true, true, true, false, true, true, false, false] rfl rfl rfl rfl (by kernel_rfl) (by decide) (by decide) (fun K hK => ?_) (fun K hK => ?_)
                    · skip
                      refine goes_ Tryz.func44 (by kernel_rfl) rfl #[.slice A4 q.f4.length c4] (by rfl) rfl rfl (by simp only [List.map_toArray, List.map_cons, List.map_nil]; rfl) ?_
                      with_reducible refine (HR.out _ hV.bel).mono ?_
                      rintro e w3_ ⟨rfl, hb3_⟩
                      refine ⟨_, rfl, ?_⟩
                      refine hK.out _ _ ⟨c_of (blk_bel (hV.step hb3_).bel HX3.out) 7 (v := .slice r.A7 x.f1.f1.length r.c7) rfl, c_of (blk_bel (hV.step hb3_).bel HQ3.out) 4 (v := .slice A4 q.f4.length c4) rfl⟩ (fun hHeld => ?_)
                      clear hK K
                      refine norm_ (a' := ?_) ?_ ?_
                      rotate_left
                      · show Act.put _ (some 27) _ = _
                        simp only [Act.put, List.setIfInBounds_toArray, List.set_cons_zero, List.set_cons_succ, i64_w, i32_w]
                        rfl
                      exact norm_ (by first | (simp only [putAll, Act.put, List.setIfInBounds_toArray, List.set_cons_zero, List.set_cons_succ]; done) | (simp only [putAll, Act.put, List.setIfInBounds_toArray, List.set_cons_zero, List.set_cons_succ]; rfl)) (hJ3_6_8 ⟨a_, b_⟩ _ (hV.step hb3_))
                    · skip
                      refine value_ (w1 := ?_) (v := ?_) (by rfl) rfl ?_ ?_
                      rotate_left 2
                      · go_simp
                        constructor
                        · rfl
                        · rfl
                      refine hK.out _ _ ⟨c_of (blk_bel hV.new7.bel HX3.out) 7 (v := .slice r.A7 x.f1.f1.length r.c7) rfl, c_of (blk_bel hV.new7.bel HQ3.out) 4 (v := .slice A4 q.f4.length c4) rfl⟩ (fun hHeld => ?_)
                      clear hK K
                      refine norm_ (a' := ?_) ?_ ?_
                      rotate_left
                      · show Act.put _ (some 7) _ = _
                        simp only [Act.put, List.setIfInBounds_toArray, List.set_cons_zero, List.set_cons_succ, i64_w, i32_w]
                        rfl
                      exact norm_ (by first | (simp only [putAll, Act.put, List.setIfInBounds_toArray, List.set_cons_zero, List.set_cons_succ]; done) | (simp only [putAll, Act.put, List.setIfInBounds_toArray, List.set_cons_zero, List.set_cons_succ]; rfl)) (hJ3_7_8 ⟨wq.heap.size, b_⟩ _ hV.new7)
                · skip
                  rintro ⟨a_, b_⟩ wq hV
                  have hHeld : wq.cell? ⟨w.heap.size, 7, none⟩ = some (.slice r.A7 x.f1.f1.length r.c7) ∧ wq.cell? ⟨w.heap.size + 1, 4, none⟩ = some (.slice A4 q.f4.length c4) := ⟨c_of (blk_bel hV.bel HX3.out) 7 (v := .slice r.A7 x.f1.f1.length r.c7) rfl, c_of (blk_bel hV.bel HQ3.out) 4 (v := .slice A4 q.f4.length c4) rfl⟩
                  refine norm_ (a' := ?_) ?_ ?_
                  rotate_left
                  · simp only [putAll, Act.put, List.setIfInBounds_toArray, List.set_cons_zero, List.set_cons_succ]
                    rfl
                  refine two_ (i := 6) (j := 8) (Ni := some 27) (Nj := some 8) #[true, true, true, true, true, true, true, true, false, false, false] #[true, true, true, true, true, true, false, true, true, false, false] rfl rfl rfl rfl (by kernel_rfl) (by decide) (by decide) (fun K hK => ?_) (fun K hK => ?_)
                  · skip
                    refine goes_ Tryz.func44 (by kernel_rfl) rfl #[.slice A4 q.f4.length c4] (by rfl) rfl rfl (by simp only [List.map_toArray, List.map_cons, List.map_nil]; rfl) ?_
                    with_reducible refine (HR.out _ hV.bel).mono ?_
                    rintro e w3_ ⟨rfl, hb3_⟩
                    refine ⟨_, rfl, ?_⟩
                    refine hK.out _ _ ⟨c_of (blk_bel (hV.step hb3_).bel HX3.out) 7 (v := .slice r.A7 x.f1.f1.length r.c7) rfl, c_of (blk_bel (hV.step hb3_).bel HQ3.out) 4 (v := .slice A4 q.f4.length c4) rfl⟩ (fun hHeld => ?_)
                    clear hK K
                    refine norm_ (a' := ?_) ?_ ?_
                    rotate_left
                    · show Act.put _ (some 27) _ = _
                      simp only [Act.put, List.setIfInBounds_toArray, List.set_cons_zero, List.set_cons_succ, i64_w, i32_w]
                      rfl
                    exact norm_ (by first | (simp only [putAll, Act.put, List.setIfInBounds_toArray, List.set_cons_zero, List.set_cons_succ]; done) | (simp only [putAll, Act.put, List.setIfInBounds_toArray, List.set_cons_zero, List.set_cons_succ]; rfl)) (hJ3_6_7 ⟨a_, b_⟩ _ (hV.step hb3_))
                  · skip
                    refine value_ (w1 := ?_) (v := ?_) (by rfl) rfl ?_ ?_
                    rotate_left 2
                    · go_simp
                      constructor
                      · rfl
                      · rfl
                    refine hK.out _ _ ⟨c_of (blk_bel hV.new8.bel HX3.out) 7 (v := .slice r.A7 x.f1.f1.length r.c7) rfl, c_of (blk_bel hV.new8.bel HQ3.out) 4 (v := .slice A4 q.f4.length c4) rfl⟩ (fun hHeld => ?_)
                    clear hK K
                    refine norm_ (a' := ?_) ?_ ?_
                    rotate_left
                    · show Act.put _ (some 8) _ = _
                      simp only [Act.put, List.setIfInBounds_toArray, List.set_cons_zero, List.set_cons_succ, i64_w, i32_w]
                      rfl
                    exact norm_ (by first | (simp only [putAll, Act.put, List.setIfInBounds_toArray, List.set_cons_zero, List.set_cons_succ]; done) | (simp only [putAll, Act.put, List.setIfInBounds_toArray, List.set_cons_zero, List.set_cons_succ]; rfl)) (hJ3_7_8 ⟨a_, wq.heap.size⟩ _ hV.new8)
              · skip
                rintro ⟨a_, b_⟩ wq hV
                have hHeld : wq.cell? ⟨w.heap.size, 7, none⟩ = some (.slice r.A7 x.f1.f1.length r.c7) ∧ wq.cell? ⟨w.heap.size + 1, 4, none⟩ = some (.slice A4 q.f4.length c4) := ⟨c_of (blk_bel hV.bel HX3.out) 7 (v := .slice r.A7 x.f1.f1.length r.c7) rfl, c_of (blk_bel hV.bel HQ3.out) 4 (v := .slice A4 q.f4.length c4) rfl⟩
                refine norm_ (a' := ?_) ?_ ?_
                rotate_left
                · simp only [putAll, Act.put, List.setIfInBounds_toArray, List.set_cons_zero, List.set_cons_succ]
                  rfl
                refine two_ (i := 7) (j := 8) (Ni := some 7) (Nj := some 8) #[true, true, true, true, true, true, true, true, false, false, false] #[true, true, true, true, true, true, true, false, true, false, false] rfl rfl rfl rfl (by kernel_rfl) (by decide) (by decide) (fun K hK => ?_) (fun K hK => ?_)
                · skip
                  refine value_ (w1 := ?_) (v := ?_) (by rfl) rfl ?_ ?_
                  rotate_left 2
                  · go_simp
                    constructor
                    · rfl
                    · rfl
                  refine hK.out _ _ ⟨c_of (blk_bel hV.new7.bel HX3.out) 7 (v := .slice r.A7 x.f1.f1.length r.c7) rfl, c_of (blk_bel hV.new7.bel HQ3.out) 4 (v := .slice A4 q.f4.length c4) rfl⟩ (fun hHeld => ?_)
                  clear hK K
                  refine norm_ (a' := ?_) ?_ ?_
                  rotate_left
                  · show Act.put _ (some 7) _ = _
                    simp only [Act.put, List.setIfInBounds_toArray, List.set_cons_zero, List.set_cons_succ, i64_w, i32_w]
                    rfl
                  exact norm_ (by first | (simp only [putAll, Act.put, List.setIfInBounds_toArray, List.set_cons_zero, List.set_cons_succ]; done) | (simp only [putAll, Act.put, List.setIfInBounds_toArray, List.set_cons_zero, List.set_cons_succ]; rfl)) (hJ3_6_7 ⟨wq.heap.size, b_⟩ _ hV.new7)
                · skip
                  refine value_ (w1 := ?_) (v := ?_) (by rfl) rfl ?_ ?_
                  rotate_left 2
                  · go_simp
                    constructor
                    · rfl
                    · rfl
                  refine hK.out _ _ ⟨c_of (blk_bel hV.new8.bel HX3.out) 7 (v := .slice r.A7 x.f1.f1.length r.c7) rfl, c_of (blk_bel hV.new8.bel HQ3.out) 4 (v := .slice A4 q.f4.length c4) rfl⟩ (fun hHeld => ?_)
                  clear hK K
                  refine norm_ (a' := ?_) ?_ ?_
                  rotate_left
                  · show Act.put _ (some 8) _ = _
                    simp only [Act.put, List.setIfInBounds_toArray, List.set_cons_zero, List.set_cons_succ, i64_w, i32_w]
                    rfl
                  exact norm_ (by first | (simp only [putAll, Act.put, List.setIfInBounds_toArray, List.set_cons_zero, List.set_cons_succ]; done) | (simp only [putAll, Act.put, List.setIfInBounds_toArray, List.set_cons_zero, List.set_cons_succ]; rfl)) (hJ3_6_8 ⟨a_, wq.heap.size⟩ _ hV.new8)
            · skip
              rintro ⟨a_, b_⟩ wq hV
              have hHeld : wq.cell? ⟨w.heap.size, 7, none⟩ = some (.slice r.A7 x.f1.f1.length r.c7) ∧ wq.cell? ⟨w.heap.size + 1, 4, none⟩ = some (.slice A4 q.f4.length c4) := ⟨c_of (blk_bel hV.bel HX3.out) 7 (v := .slice r.A7 x.f1.f1.length r.c7) rfl, c_of (blk_bel hV.bel HQ3.out) 4 (v := .slice A4 q.f4.length c4) rfl⟩
              refine norm_ (a' := ?_) ?_ ?_
              rotate_left
              · simp only [putAll, Act.put, List.setIfInBounds_toArray, List.set_cons_zero, List.set_cons_succ]
                rfl
              refine one_ (i := 6) (N := some 27) #[true, true, true, true, true, true, true, true, true, false, false] rfl rfl (by kernel_rfl) (by decide) (fun K hK => ?_)
              refine goes_ Tryz.func44 (by kernel_rfl) rfl #[.slice A4 q.f4.length c4] (by rfl) rfl rfl (by simp only [List.map_toArray, List.map_cons, List.map_nil]; rfl) ?_
              with_reducible refine (HR.out _ hV.bel).mono ?_
              rintro e w3_ ⟨rfl, hb3_⟩
              refine ⟨_, rfl, ?_⟩
              refine hK.out _ _ ⟨c_of (blk_bel (hV.step hb3_).bel HX3.out) 7 (v := .slice r.A7 x.f1.f1.length r.c7) rfl, c_of (blk_bel (hV.step hb3_).bel HQ3.out) 4 (v := .slice A4 q.f4.length c4) rfl⟩ (fun hHeld => ?_)
              clear hK K
              refine norm_ (a' := ?_) ?_ ?_
              rotate_left
              · show Act.put _ (some 27) _ = _
                simp only [Act.put, List.setIfInBounds_toArray, List.set_cons_zero, List.set_cons_succ, i64_w, i32_w]
                rfl
              exact norm_ (by first | (simp only [putAll, Act.put, List.setIfInBounds_toArray, List.set_cons_zero, List.set_cons_succ]; done) | (simp only [putAll, Act.put, List.setIfInBounds_toArray, List.set_cons_zero, List.set_cons_succ]; rfl)) (hJ3_6_7_8 ⟨a_, b_⟩ _ (hV.step hb3_))
          · skip
            rintro ⟨a_, b_⟩ wq hV
            have hHeld : wq.cell? ⟨w.heap.size, 7, none⟩ = some (.slice r.A7 x.f1.f1.length r.c7) ∧ wq.cell? ⟨w.heap.size + 1, 4, none⟩ = some (.slice A4 q.f4.length c4) := ⟨c_of (blk_bel hV.bel HX3.out) 7 (v := .slice r.A7 x.f1.f1.length r.c7) rfl, c_of (blk_bel hV.bel HQ3.out) 4 (v := .slice A4 q.f4.length c4) rfl⟩
            refine norm_ (a' := ?_) ?_ ?_
            rotate_left
            · simp only [putAll, Act.put, List.setIfInBounds_toArray, List.set_cons_zero, List.set_cons_succ]
              rfl
            refine one_ (i := 7) (N := some 7) #[true, true, true, true, true, true, true, true, true, false, false] rfl rfl (by kernel_rfl) (by decide) (fun K hK => ?_)
            refine value_ (w1 := ?_) (v := ?_) (by rfl) rfl ?_ ?_
            rotate_left 2
            · go_simp
              constructor
              · rfl
              · rfl
            refine hK.out _ _ ⟨c_of (blk_bel hV.new7.bel HX3.out) 7 (v := .slice r.A7 x.f1.f1.length r.c7) rfl, c_of (blk_bel hV.new7.bel HQ3.out) 4 (v := .slice A4 q.f4.length c4) rfl⟩ (fun hHeld => ?_)
            clear hK K
            refine norm_ (a' := ?_) ?_ ?_
            rotate_left
            · show Act.put _ (some 7) _ = _
              simp only [Act.put, List.setIfInBounds_toArray, List.set_cons_zero, List.set_cons_succ, i64_w, i32_w]
              rfl
            exact norm_ (by first | (simp only [putAll, Act.put, List.setIfInBounds_toArray, List.set_cons_zero, List.set_cons_succ]; done) | (simp only [putAll, Act.put, List.setIfInBounds_toArray, List.set_cons_zero, List.set_cons_succ]; rfl)) (hJ3_6_7_8 ⟨wq.heap.size, b_⟩ _ hV.new7)
        · skip
          rintro ⟨a_, b_⟩ wq hV
          have hHeld : wq.cell? ⟨w.heap.size, 7, none⟩ = some (.slice r.A7 x.f1.f1.length r.c7) ∧ wq.cell? ⟨w.heap.size + 1, 4, none⟩ = some (.slice A4 q.f4.length c4) := ⟨c_of (blk_bel hV.bel HX3.out) 7 (v := .slice r.A7 x.f1.f1.length r.c7) rfl, c_of (blk_bel hV.bel HQ3.out) 4 (v := .slice A4 q.f4.length c4) rfl⟩
          refine norm_ (a' := ?_) ?_ ?_
          rotate_left
          · simp only [putAll, Act.put, List.setIfInBounds_toArray, List.set_cons_zero, List.set_cons_succ]
            rfl
          refine one_ (i := 8) (N := some 8) #[true, true, true, true, true, true, true, true, true, false, false] rfl rfl (by kernel_rfl) (by decide) (fun K hK => ?_)
          refine value_ (w1 := ?_) (v := ?_) (by rfl) rfl ?_ ?_
          rotate_left 2
          · go_simp
            constructor
            · rfl
            · rfl
          refine hK.out _ _ ⟨c_of (blk_bel hV.new8.bel HX3.out) 7 (v := .slice r.A7 x.f1.f1.length r.c7) rfl, c_of (blk_bel hV.new8.bel HQ3.out) 4 (v := .slice A4 q.f4.length c4) rfl⟩ (fun hHeld => ?_)
          clear hK K
          refine norm_ (a' := ?_) ?_ ?_
          rotate_left
          · show Act.put _ (some 8) _ = _
            simp only [Act.put, List.setIfInBounds_toArray, List.set_cons_zero, List.set_cons_succ, i64_w, i32_w]
            rfl
          exact norm_ (by first | (simp only [putAll, Act.put, List.setIfInBounds_toArray, List.set_cons_zero, List.set_cons_succ]; done) | (simp only [putAll, Act.put, List.setIfInBounds_toArray, List.set_cons_zero, List.set_cons_succ]; rfl)) (hJ3_6_7_8 ⟨a_, wq.heap.size⟩ _ hV.new8)
      rintro ⟨a_, b_⟩ wq hV
      have hHeld : wq.cell? ⟨w.heap.size, 7, none⟩ = some (.slice r.A7 x.f1.f1.length r.c7) ∧ wq.cell? ⟨w.heap.size + 1, 4, none⟩ = some (.slice A4 q.f4.length c4) := ⟨c_of (blk_bel hV.bel HX3.out) 7 (v := .slice r.A7 x.f1.f1.length r.c7) rfl, c_of (blk_bel hV.bel HQ3.out) 4 (v := .slice A4 q.f4.length c4) rfl⟩
      have hZa := hV.h7 rfl
      have hZb := hV.h8 rfl
      have za0 := c_of hZa 0 (v := .bool false) rfl
      have za1 := c_of hZa 1 (v := .bool false) rfl
      have za2 := c_of hZa 2 (v := .bool false) rfl
      have za3 := c_of hZa 3 (v := .bool false) rfl
      have za4 := c_of hZa 4 (v := .bool false) rfl
      have za5 := c_of hZa 5 (v := .bool false) rfl
      have za6 := c_of hZa 6 (v := .int .i64 0) rfl
      have za7 := c_of hZa 7 (v := .int .i64 0) rfl
      have za8 := c_of hZa 8 (v := .int .i64 0) rfl
      have za9 := c_of hZa 9 (v := .int .i64 0) rfl
      have za10 := c_of hZa 10 (v := .int .i64 0) rfl
      have za11 := c_of hZa 11 (v := .int .i64 0) rfl
      have ya0 := fr_of hZa 0
      have ya1 := fr_of hZa 1
      have ya2 := fr_of hZa 2
      have ya3 := fr_of hZa 3
      have ya4 := fr_of hZa 4
      have ya5 := fr_of hZa 5
      have ya6 := fr_of hZa 6
      have ya7 := fr_of hZa 7
      have ya8 := fr_of hZa 8
      have ya9 := fr_of hZa 9
      have ya10 := fr_of hZa 10
      have ya11 := fr_of hZa 11
      refine norm_ (a' := ?_) ?_ ?_
      rotate_left
      · simp only [putAll, Act.put, List.setIfInBounds_toArray, List.set_cons_zero, List.set_cons_succ]
        rfl
      refine last_ (i := 9) (N := none) #[true, true, true, true, true, true, true, true, true, true, false] rfl rfl (by kernel_rfl) (by decide) (fun K hK => ?_)
      refine skip_ (w1 := ?_) (by rfl) rfl ?_ ?_
      rotate_left
      · go_simp
        rfl
      obtain ⟨Wa, hWa⟩ : ∃ W, W = ((((((((((((wq.setCell ⟨a_, 0, none⟩ (.bool (C.fl 0))).setCell ⟨a_, 1, none⟩ (.bool (C.fl 1))).setCell ⟨a_, 2, none⟩ (.bool (C.fl 2))).setCell ⟨a_, 3, none⟩ (.bool (C.fl 3))).setCell ⟨a_, 4, none⟩ (.bool (C.fl 4))).setCell ⟨a_, 5, none⟩ (.bool (C.fl 5))).setCell ⟨a_, 6, none⟩ (.int .i64 (C.nm 6))).setCell ⟨a_, 7, none⟩ (.int .i64 (C.nm 7))).setCell ⟨a_, 8, none⟩ (.int .i64 (C.nm 8))).setCell ⟨a_, 9, none⟩ (.int .i64 (C.nm 9))).setCell ⟨a_, 10, none⟩ (.int .i64 (C.nm 10))).setCell ⟨a_, 11, none⟩ (.int .i64 (C.nm 11))) := ⟨_, rfl⟩
      rw [← hWa]
      have HCa : Hid (Wa.heap[a_]? = some (.cells #[.bool (C.fl 0), .bool (C.fl 1), .bool (C.fl 2), .bool (C.fl 3), .bool (C.fl 4), .bool (C.fl 5), .int .i64 (C.nm 6), .int .i64 (C.nm 7), .int .i64 (C.nm 8), .int .i64 (C.nm 9), .int .i64 (C.nm 10), .int .i64 (C.nm 11)] 69 (0, 0))) := Lib.hid (by rw [hWa]; exact Fb.put12 hZa (.bool (C.fl 0)) (.bool (C.fl 1)) (.bool (C.fl 2)) (.bool (C.fl 3)) (.bool (C.fl 4)) (.bool (C.fl 5)) (.int .i64 (C.nm 6)) (.int .i64 (C.nm 7)) (.int .i64 (C.nm 8)) (.int .i64 (C.nm 9)) (.int .i64 (C.nm 10)) (.int .i64 (C.nm 11)))
      have hZb2 : Wa.heap[b_]? = some (.cells Fb.ZZ42 69 (0, 0)) := by rw [hWa]; exact (set_other (set_other (set_other (set_other (set_other (set_other (set_other (set_other (set_other (set_other (set_other (set_other hZb (Ne.symm (hV.ne rfl rfl))) (Ne.symm (hV.ne rfl rfl))) (Ne.symm (hV.ne rfl rfl))) (Ne.symm (hV.ne rfl rfl))) (Ne.symm (hV.ne rfl rfl))) (Ne.symm (hV.ne rfl rfl))) (Ne.symm (hV.ne rfl rfl))) (Ne.symm (hV.ne rfl rfl))) (Ne.symm (hV.ne rfl rfl))) (Ne.symm (hV.ne rfl rfl))) (Ne.symm (hV.ne rfl rfl))) (Ne.symm (hV.ne rfl rfl)))
      have HBa : Hid (Below W1.heap.size W1 Wa) := Lib.hid (by rw [hWa]; exact (Below.setCell (Below.setCell (Below.setCell (Below.setCell (Below.setCell (Below.setCell (Below.setCell (Below.setCell (Below.setCell (Below.setCell (Below.setCell (Below.setCell hV.bel hV.ge7 _) hV.ge7 _) hV.ge7 _) hV.ge7 _) hV.ge7 _) hV.ge7 _) hV.ge7 _) hV.ge7 _) hV.ge7 _) hV.ge7 _) hV.ge7 _) hV.ge7 _))
      have zb0 := c_of hZb2 0 (v := .bool false) rfl
      have zb1 := c_of hZb2 1 (v := .bool false) rfl
      have zb2 := c_of hZb2 2 (v := .bool false) rfl
      have zb3 := c_of hZb2 3 (v := .bool false) rfl
      have zb4 := c_of hZb2 4 (v := .bool false) rfl
      have zb5 := c_of hZb2 5 (v := .bool false) rfl
      have zb6 := c_of hZb2 6 (v := .int .i64 0) rfl
      have zb7 := c_of hZb2 7 (v := .int .i64 0) rfl
      have zb8 := c_of hZb2 8 (v := .int .i64 0) rfl
      have zb9 := c_of hZb2 9 (v := .int .i64 0) rfl
      have zb10 := c_of hZb2 10 (v := .int .i64 0) rfl
      have zb11 := c_of hZb2 11 (v := .int .i64 0) rfl
      have yb0 := fr_of hZb2 0
      have yb1 := fr_of hZb2 1
      have yb2 := fr_of hZb2 2
      have yb3 := fr_of hZb2 3
      have yb4 := fr_of hZb2 4
      have yb5 := fr_of hZb2 5
      have yb6 := fr_of hZb2 6
      have yb7 := fr_of hZb2 7
      have yb8 := fr_of hZb2 8
      have yb9 := fr_of hZb2 9
      have yb10 := fr_of hZb2 10
      have yb11 := fr_of hZb2 11
      clear hWa
      refine hK.out _ _ ?_
      clear hK K
      refine last_ (i := 10) (N := none) #[true, true, true, true, true, true, true, true, true, true, true] rfl rfl (by kernel_rfl) (by decide) (fun K hK => ?_)
      refine skip_ (w1 := ?_) (by rfl) rfl ?_ ?_
      rotate_left
      · go_simp
        rfl
      obtain ⟨Wb, hWb⟩ : ∃ W, W = ((((((((((((Wa.setCell ⟨b_, 0, none⟩ (.bool (R.fl 0))).setCell ⟨b_, 1, none⟩ (.bool (R.fl 1))).setCell ⟨b_, 2, none⟩ (.bool (R.fl 2))).setCell ⟨b_, 3, none⟩ (.bool (R.fl 3))).setCell ⟨b_, 4, none⟩ (.bool (R.fl 4))).setCell ⟨b_, 5, none⟩ (.bool (R.fl 5))).setCell ⟨b_, 6, none⟩ (.int .i64 (R.nm 6))).setCell ⟨b_, 7, none⟩ (.int .i64 (R.nm 7))).setCell ⟨b_, 8, none⟩ (.int .i64 (R.nm 8))).setCell ⟨b_, 9, none⟩ (.int .i64 (R.nm 9))).setCell ⟨b_, 10, none⟩ (.int .i64 (R.nm 10))).setCell ⟨b_, 11, none⟩ (.int .i64 (R.nm 11))) := ⟨_, rfl⟩
      rw [← hWb]
      have HRb : Hid (Wb.heap[b_]? = some (.cells #[.bool (R.fl 0), .bool (R.fl 1), .bool (R.fl 2), .bool (R.fl 3), .bool (R.fl 4), .bool (R.fl 5), .int .i64 (R.nm 6), .int .i64 (R.nm 7), .int .i64 (R.nm 8), .int .i64 (R.nm 9), .int .i64 (R.nm 10), .int .i64 (R.nm 11)] 69 (0, 0))) := Lib.hid (by rw [hWb]; exact Fb.put12 hZb2 (.bool (R.fl 0)) (.bool (R.fl 1)) (.bool (R.fl 2)) (.bool (R.fl 3)) (.bool (R.fl 4)) (.bool (R.fl 5)) (.int .i64 (R.nm 6)) (.int .i64 (R.nm 7)) (.int .i64 (R.nm 8)) (.int .i64 (R.nm 9)) (.int .i64 (R.nm 10)) (.int .i64 (R.nm 11)))
      have HCb : Hid (Wb.heap[a_]? = some (.cells #[.bool (C.fl 0), .bool (C.fl 1), .bool (C.fl 2), .bool (C.fl 3), .bool (C.fl 4), .bool (C.fl 5), .int .i64 (C.nm 6), .int .i64 (C.nm 7), .int .i64 (C.nm 8), .int .i64 (C.nm 9), .int .i64 (C.nm 10), .int .i64 (C.nm 11)] 69 (0, 0))) := Lib.hid (by rw [hWb]; exact (set_other (set_other (set_other (set_other (set_other (set_other (set_other (set_other (set_other (set_other (set_other (set_other HCa.out (hV.ne rfl rfl)) (hV.ne rfl rfl)) (hV.ne rfl rfl)) (hV.ne rfl rfl)) (hV.ne rfl rfl)) (hV.ne rfl rfl)) (hV.ne rfl rfl)) (hV.ne rfl rfl)) (hV.ne rfl rfl)) (hV.ne rfl rfl)) (hV.ne rfl rfl)) (hV.ne rfl rfl)))
      have HBb : Hid (Below W1.heap.size W1 Wb) := Lib.hid (by rw [hWb]; exact (Below.setCell (Below.setCell (Below.setCell (Below.setCell (Below.setCell (Below.setCell (Below.setCell (Below.setCell (Below.setCell (Below.setCell (Below.setCell (Below.setCell HBa.out hV.ge8 _) hV.ge8 _) hV.ge8 _) hV.ge8 _) hV.ge8 _) hV.ge8 _) hV.ge8 _) hV.ge8 _) hV.ge8 _) hV.ge8 _) hV.ge8 _) hV.ge8 _))
      clear hWb hZb2 zb0 zb1 zb2 zb3 zb4 zb5 zb6 zb7 zb8 zb9 zb10 zb11 yb0 yb1 yb2 yb3 yb4 yb5 yb6 yb7 yb8 yb9 yb10 yb11
      refine hK.out _ _ ?_
      clear hK K
      refine done_ (by kernel_rfl) ?_
      clear hZa hZb za0 za1 za2 za3 za4 za5 za6 za7 za8 za9 za10 za11 ya0 ya1 ya2 ya3 ya4 ya5 ya6 ya7 ya8 ya9 ya10 ya11
      have HBw := Lib.hid (below_step HB3.out HBb.out)
      have HXb := Lib.hid (blk_bel HBb.out HX3.out)
      obtain ⟨l0, l1, l2, l3, l4, l5, l6, l7, l8, l9, l10⟩ := bx_cells HXb.out
      clear hV
      go_upto_region 6 with (first | (go_at_call 16; refine (HAG.out _ HB6.out).mono ?_; rintro e w7 ⟨rfl, hb7⟩; have HB7 := Lib.hid (below_step HB6.out hb7); have HC7 := Lib.hid (blk_bel hb7 HC6.out); have HR7 := Lib.hid (blk_bel hb7 HR6.out); clear hb7) | (go_at_call 19; refine (HLI.out _ HBw.out).mono ?_; rintro e w6 ⟨rfl, hb6⟩; have HB6 := Lib.hid (below_step HBw.out hb6); have HC6 := Lib.hid (blk_bel hb6 HCb.out); have HR6 := Lib.hid (blk_bel hb6 HRb.out); have HX6 := Lib.hid (blk_bel hb6 HXb.out); obtain ⟨l0, l1, l2, l3, l4, l5, l6, l7, l8, l9, l10⟩ := bx_cells HX6.out; clear hb6))
      rename World => wz
      go_cut [12] (fun v12 wx => v12 = .int .i64 st ∧ wx = wz)
      case first =>
        go_wp2
        go_meet
        case rel => exact ⟨by first | exact congrArg (Value.int .i64) HST.out | (simp only [HST.out]), rfl⟩
      case rest =>
        obtain ⟨rfl, rfl⟩ := hcut
        have c1_ := c_of HC7.out 1 (v := .bool (C.fl 1)) rfl
        have c2_ := c_of HC7.out 2 (v := .bool (C.fl 2)) rfl
        have c7_ := c_of HC7.out 7 (v := .int .i64 (C.nm 7)) rfl
        have c10_ := c_of HC7.out 10 (v := .int .i64 (C.nm 10)) rfl
        have r0_ := c_of HR7.out 0 (v := .bool (R.fl 0)) rfl
        have r1_ := c_of HR7.out 1 (v := .bool (R.fl 1)) rfl
        have r6_ := c_of HR7.out 6 (v := .int .i64 (R.nm 6)) rfl
        have r8_ := c_of HR7.out 8 (v := .int .i64 (R.nm 8)) rfl
        have r9_ := c_of HR7.out 9 (v := .int .i64 (R.nm 9)) rfl
        cases ea : R.fl 0 with
        | true =>
          rw [ea] at r0_
          have HT : Hid (r0 = 0) := Lib.hid (by rw [HRR.out]; unfold verdF; rw [if_pos ea])
          go_wp2
          go_ret
          exact ⟨by rw [HT.out]; rfl, HB7.out⟩
        | false =>
          rw [ea] at r0_
          have na : ¬ R.fl 0 = true := by rw [ea]; decide
          cases eb : R.fl 1 with
          | true =>
            rw [eb] at r1_
            have HT : Hid (r0 = 0) := Lib.hid (by rw [HRR.out]; unfold verdF; rw [if_neg na, if_pos eb])
            go_wp2
            go_ret
            exact ⟨by rw [HT.out]; rfl, HB7.out⟩
          | false =>
            rw [eb] at r1_
            have nb : ¬ R.fl 1 = true := by rw [eb]; decide
            cases ec : C.fl 1 with
            | true =>
              rw [ec] at c1_
              have HT : Hid (r0 = 0) := Lib.hid (by rw [HRR.out]; unfold verdF; rw [if_neg na, if_neg nb, if_pos ec])
              go_wp2
              go_ret
              exact ⟨by rw [HT.out]; rfl, HB7.out⟩
            | false =>
              rw [ec] at c1_
              have nc : ¬ C.fl 1 = true := by rw [ec]; decide
              obtain ⟨bd, hbd⟩ : ∃ b : Bool, b = decide (0 ≤ R.nm 6 ∧ R.nm 6 < ag) := ⟨_, rfl⟩
              have HB_d := Lib.hid hbd
              clear hbd
              go_upto_region 10 with fail
              rename World => wzd
              go_cut [39] (fun v wx => v = .bool bd ∧ wx = wzd)
              case first =>
                by_cases u1 : 0 ≤ R.nm 6
                · have t1 : decide (R.nm 6 ≥ 0) = true := decide_eq_true u1
                  by_cases u2 : R.nm 6 < ag
                  · have t2 : decide (ag > R.nm 6) = true := decide_eq_true (u2)
                    have EQ : Hid (bd = true) := Lib.hid (by rw [HB_d.out]; simp [u1, u2])
                    clear u1 u2
                    go_wp2
                    go_meet
                    case rel => exact ⟨by rw [EQ.out], rfl⟩
                  · have t2 : decide (ag > R.nm 6) = false := decide_eq_false (u2)
                    have EQ : Hid (bd = false) := Lib.hid (by rw [HB_d.out]; simp [u1, u2])
                    clear u1 u2
                    go_wp2
                    go_meet
                    case rel => exact ⟨by rw [EQ.out], rfl⟩
                · have t1 : decide (R.nm 6 ≥ 0) = false := decide_eq_false u1
                  have EQ : Hid (bd = false) := Lib.hid (by rw [HB_d.out]; simp [u1])
                  clear u1
                  go_wp2
                  go_meet
                  case rel => exact ⟨by rw [EQ.out], rfl⟩
              case rest =>
                obtain ⟨rfl, rfl⟩ := hcut
                cases bd with
                | true =>
                  have pd := of_decide_eq_true HB_d.out.symm
                  have HT : Hid (r0 = 0) := Lib.hid (by rw [HRR.out]; unfold verdF; rw [if_neg na, if_neg nb, if_neg nc, if_pos pd])
                  go_wp2
                  go_ret
                  exact ⟨by rw [HT.out]; rfl, HB7.out⟩
                | false =>
                  have nd := of_decide_eq_false HB_d.out.symm
                  obtain ⟨be, hbe⟩ : ∃ b : Bool, b = decide (0 ≤ R.nm 8 ∧ li - ag < R.nm 8) := ⟨_, rfl⟩
                  have HB_e := Lib.hid hbe
                  clear hbe
                  go_upto_region 11 with fail
                  rename World => wze
                  go_cut [39] (fun v wx => v = .bool be ∧ wx = wze)
                  case first =>
                    by_cases u1 : 0 ≤ R.nm 8
                    · have t1 : decide (R.nm 8 ≥ 0) = true := decide_eq_true u1
                      by_cases u2 : li - ag < R.nm 8
                      · have t2 : decide (wrap64 (-st) < R.nm 8) = true := decide_eq_true (by rw [HSN.out]; exact u2)
                        have EQ : Hid (be = true) := Lib.hid (by rw [HB_e.out]; simp [u1, u2])
                        clear u1 u2
                        go_wp2
                        go_meet
                        case rel => exact ⟨by rw [EQ.out], rfl⟩
                      · have t2 : decide (wrap64 (-st) < R.nm 8) = false := decide_eq_false (by rw [HSN.out]; exact u2)
                        have EQ : Hid (be = false) := Lib.hid (by rw [HB_e.out]; simp [u1, u2])
                        clear u1 u2
                        go_wp2
                        go_meet
                        case rel => exact ⟨by rw [EQ.out], rfl⟩
                    · have t1 : decide (R.nm 8 ≥ 0) = false := decide_eq_false u1
                      have EQ : Hid (be = false) := Lib.hid (by rw [HB_e.out]; simp [u1])
                      clear u1
                      go_wp2
                      go_meet
                      case rel => exact ⟨by rw [EQ.out], rfl⟩
                  case rest =>
                    obtain ⟨rfl, rfl⟩ := hcut
                    cases be with
                    | true =>
                      have pe := of_decide_eq_true HB_e.out.symm
                      have HT : Hid (r0 = 0) := Lib.hid (by rw [HRR.out]; unfold verdF; rw [if_neg na, if_neg nb, if_neg nc, if_neg nd, if_pos pe])
                      go_wp2
                      go_ret
                      exact ⟨by rw [HT.out]; rfl, HB7.out⟩
                    | false =>
                      have ne := of_decide_eq_false HB_e.out.symm
                      by_cases df : ag < li
                      · have tf : decide (st < 0) = true := decide_eq_true (by have := HSE.out; omega)
                        have HT : Hid (r0 = 1) := Lib.hid (by rw [HRR.out]; unfold verdF; rw [if_neg na, if_neg nb, if_neg nc, if_neg nd, if_neg ne, if_pos df])
                        go_wp2
                        go_ret
                        exact ⟨by rw [HT.out]; rfl, HB7.out⟩
                      · have tf : decide (st < 0) = false := decide_eq_false (by have := HSE.out; omega)
                        cases eg : C.fl 2 with
                        | true =>
                          rw [eg] at c2_
                          have HT : Hid (r0 = 0) := Lib.hid (by rw [HRR.out]; unfold verdF; rw [if_neg na, if_neg nb, if_neg nc, if_neg nd, if_neg ne, if_neg df, if_pos eg])
                          go_wp2
                          go_ret
                          exact ⟨by rw [HT.out]; rfl, HB7.out⟩
                        | false =>
                          rw [eg] at c2_
                          have ng : ¬ C.fl 2 = true := by rw [eg]; decide
                          by_cases dh : 0 ≤ C.nm 7
                          · have th : decide (C.nm 7 ≥ 0) = true := decide_eq_true (by omega)
                            have HT : Hid (r0 = 0) := Lib.hid (by rw [HRR.out]; unfold verdF; rw [if_neg na, if_neg nb, if_neg nc, if_neg nd, if_neg ne, if_neg df, if_neg ng, if_pos dh])
                            go_wp2
                            go_ret
                            exact ⟨by rw [HT.out]; rfl, HB7.out⟩
                          · have th : decide (C.nm 7 ≥ 0) = false := decide_eq_false (by omega)
                            by_cases dk : ag - li ≤ R.nm 9
                            · have tk : decide (st ≤ R.nm 9) = true := decide_eq_true (by have := HSE.out; omega)
                              have HT : Hid (r0 = 1) := Lib.hid (by rw [HRR.out]; unfold verdF; rw [if_neg na, if_neg nb, if_neg nc, if_neg nd, if_neg ne, if_neg df, if_neg ng, if_neg dh, if_pos dk])
                              go_wp2
                              go_ret
                              exact ⟨by rw [HT.out]; rfl, HB7.out⟩
                            · have tk : decide (st ≤ R.nm 9) = false := decide_eq_false (by have := HSE.out; omega)
                              by_cases dl : ag - li ≤ C.nm 10
                              · have tl : decide (st ≤ C.nm 10) = true := decide_eq_true (by have := HSE.out; omega)
                                have HT : Hid (r0 = 2) := Lib.hid (by rw [HRR.out]; unfold verdF; rw [if_neg na, if_neg nb, if_neg nc, if_neg nd, if_neg ne, if_neg df, if_neg ng, if_neg dh, if_neg dk, if_pos dl])
                                go_wp2
                                go_ret
                                exact ⟨by rw [HT.out]; rfl, HB7.out⟩
                              · have tl : decide (st ≤ C.nm 10) = false := decide_eq_false (by have := HSE.out; omega)
                                have HT : Hid (r0 = 0) := Lib.hid (by rw [HRR.out]; unfold verdF; rw [if_neg na, if_neg nb, if_neg nc, if_neg nd, if_neg ne, if_neg df, if_neg ng, if_neg dh, if_neg dk, if_neg dl])
                                go_wp2
                                go_ret
                                exact ⟨by rw [HT.out]; rfl, HB7.out⟩
end Go.Proofs.YtbnhlekehndhkaaGreatDoor.Fr

