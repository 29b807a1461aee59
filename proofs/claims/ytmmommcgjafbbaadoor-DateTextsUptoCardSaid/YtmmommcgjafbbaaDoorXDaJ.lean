import Derived.Test.YtmmommcgjafbbaaDoorXDaJ0

/- The document's Parse: its walk. -/
namespace Go.Proofs.YtmmommcgjafbbaaDoor.Da
open Go.RowKit Go.Proofs.YtmmommcgjafbbaaDoorW.PrintWords Go.Proofs.YtmmommcgjafbbaaDoorW.PrintLast Go.Proofs.YtmmommcgjafbbaaDoorW.PrintMore Go.Proofs.YtmmommcgjafbbaaDoor.G
set_option linter.unusedVariables false
set_option linter.unusedSimpArgs false
set_option maxHeartbeats 1000000 in
theorem rparse_short (s : ByteArray) (w : World) (h29 : s.size ≠ 29) : Calls Tryd.prog 21 #[.string s] w (PPost s w) := by
  have HNO : Hid (NoText s) := Lib.hid (fun n ⟨y, M, d, h, mi, sc, wd, t⟩ => h29 t.split.1)
  have t0 : ((s.size : Int) != 29) = true := by rw [bne_iff_ne]; omega
  clear h29
  go_enter Tryd.func21, Tryd.ntmps21
  go_wp2
  go_ret2
  exact ⟨Below.refl _ _, .inl ⟨rfl, HNO.out⟩⟩
theorem num_at (P : ByteArray) (z : P.size ≤ 29) : ∃ a, (∀ w, Calls Tryd.prog 36 #[.string P] w fun e w' => e = .returned (.int .i64 a) ∧ Drawn0 w w') ∧ a = numOf P := ⟨_, num_calls P z, rfl⟩
set_option maxRecDepth 100000 in
set_option maxHeartbeats 8000000 in
theorem rparse_29 (s : ByteArray) (w : World) (h29 : s.size = 29) : Calls Tryd.prog 21 #[.string s] w (PPost s w) := by
  obtain ⟨Pa, ha⟩ : ∃ P, P = s.extract 12 16 := ⟨_, rfl⟩
  obtain ⟨Pb, hb⟩ : ∃ P, P = s.extract 5 7 := ⟨_, rfl⟩
  obtain ⟨Pc, hc⟩ : ∃ P, P = s.extract 17 19 := ⟨_, rfl⟩
  obtain ⟨Pd, hd⟩ : ∃ P, P = s.extract 20 22 := ⟨_, rfl⟩
  obtain ⟨Pe, he⟩ : ∃ P, P = s.extract 23 25 := ⟨_, rfl⟩
  obtain ⟨p, hp⟩ : ∃ P, P = s.extract 8 11 := ⟨_, rfl⟩
  have TR : Hid (∀ n y M d h mi sc wd, IsText s n y M d h mi sc wd → numOf Pa = (y : Int) ∧ mo p 12 = (M : Int) + 1 ∧ numOf Pb = (d : Int) ∧ numOf Pc = (h : Int) ∧ numOf Pd = (mi : Int) ∧ numOf Pe = (sc : Int)) := Lib.hid (fun n y M d h mi sc wd t => by rw [ha, hb, hc, hd, he, hp]; exact text_read t)
  have za : Pa.size ≤ 29 := by rw [ha, ByteArray.size_extract]; omega
  have zb : Pb.size ≤ 29 := by rw [hb, ByteArray.size_extract]; omega
  have zc : Pc.size ≤ 29 := by rw [hc, ByteArray.size_extract]; omega
  have zd : Pd.size ≤ 29 := by rw [hd, ByteArray.size_extract]; omega
  have ze : Pe.size ≤ 29 := by rw [he, ByteArray.size_extract]; omega
  have ka := ha.symm; have kb := hb.symm; have kc := hc.symm; have kd := hd.symm; have ke := he.symm; have kp := hp.symm
  have t29 : ((s.size : Int) != 29) = false := by rw [h29]; rfl
  obtain ⟨a, na, ea⟩ := num_at Pa za
  obtain ⟨b, nb, eb⟩ := num_at Pb zb
  obtain ⟨c, nc, ec⟩ := num_at Pc zc
  obtain ⟨d, nd, ed⟩ := num_at Pd zd
  obtain ⟨e, ne, ee⟩ := num_at Pe ze
  rw [← ea, ← eb, ← ec, ← ed, ← ee] at TR
  have Na := Lib.hid na; have Nb := Lib.hid nb; have Nc := Lib.hid nc; have Nd := Lib.hid nd; have Ne := Lib.hid ne
  clear ha hb hc hd he hp ea eb ec ed ee na nb nc nd ne za zb zc zd ze
  go_enter Tryd.func21, Tryd.ntmps21
  go_upto_region 3 with fail
  refine start_ (n := 18) (S := fun w' => True) (ds := []) #[false, false, false, false, false, false, false, false, false, false, false, false, false, false, false, false, false, false] (by kernel_rfl) rfl rfl trivial (fun hHeld => ?_)
  refine pure_ (i := 0) (N := some 13) (v := ?_) (a' := ?_) #[true, false, false, false, false, false, false, false, false, false, false, false, false, false, false, false, false, false] rfl rfl (by kernel_rfl) (fun _ _ _ h => h) (Or.inl ⟨by rfl, ?_⟩) ?_ ?_
  rotate_left
  · intro w'
    go_simp
    with_reducible rfl
  rotate_left
  · simp only [Act.put, List.setIfInBounds_toArray, List.set_cons_zero, List.set_cons_succ, i64_w, i32_w]
    rfl
  refine pure_ (i := 1) (N := some 14) (v := ?_) (a' := ?_) #[true, true, false, false, false, false, false, false, false, false, false, false, false, false, false, false, false, false] rfl rfl (by kernel_rfl) (fun _ _ _ h => h) (Or.inl ⟨by rfl, ?_⟩) ?_ ?_
  rotate_left
  · intro w'
    go_simp
    with_reducible rfl
  rotate_left
  · simp only [Act.put, List.setIfInBounds_toArray, List.set_cons_zero, List.set_cons_succ, i64_w, i32_w]
    rfl
  refine pure_ (i := 3) (N := some 16) (v := ?_) (a' := ?_) #[true, true, false, true, false, false, false, false, false, false, false, false, false, false, false, false, false, false] rfl rfl (by kernel_rfl) (fun _ _ _ h => h) (Or.inl ⟨by rfl, ?_⟩) ?_ ?_
  rotate_left
  · intro w'
    go_simp
    with_reducible rfl
  rotate_left
  · simp only [Act.put, List.setIfInBounds_toArray, List.set_cons_zero, List.set_cons_succ, i64_w, i32_w]
    rfl
  refine pure_ (i := 4) (N := some 17) (v := ?_) (a' := ?_) #[true, true, false, true, true, false, false, false, false, false, false, false, false, false, false, false, false, false] rfl rfl (by kernel_rfl) (fun _ _ _ h => h) (Or.inl ⟨by rfl, ?_⟩) ?_ ?_
  rotate_left
  · intro w'
    go_simp
    with_reducible rfl
  rotate_left
  · simp only [Act.put, List.setIfInBounds_toArray, List.set_cons_zero, List.set_cons_succ, i64_w, i32_w]
    rfl
  refine pure_ (i := 6) (N := some 19) (v := ?_) (a' := ?_) #[true, true, false, true, true, false, true, false, false, false, false, false, false, false, false, false, false, false] rfl rfl (by kernel_rfl) (fun _ _ _ h => h) (Or.inl ⟨by rfl, ?_⟩) ?_ ?_
  rotate_left
  · intro w'
    go_simp
    with_reducible rfl
  rotate_left
  · simp only [Act.put, List.setIfInBounds_toArray, List.set_cons_zero, List.set_cons_succ, i64_w, i32_w]
    rfl
  refine pure_ (i := 7) (N := some 20) (v := ?_) (a' := ?_) #[true, true, false, true, true, false, true, true, false, false, false, false, false, false, false, false, false, false] rfl rfl (by kernel_rfl) (fun _ _ _ h => h) (Or.inl ⟨by rfl, ?_⟩) ?_ ?_
  rotate_left
  · intro w'
    go_simp
    with_reducible rfl
  rotate_left
  · simp only [Act.put, List.setIfInBounds_toArray, List.set_cons_zero, List.set_cons_succ, i64_w, i32_w]
    rfl
  refine pure_ (i := 9) (N := some 22) (v := ?_) (a' := ?_) #[true, true, false, true, true, false, true, true, false, true, false, false, false, false, false, false, false, false] rfl rfl (by kernel_rfl) (fun _ _ _ h => h) (Or.inl ⟨by rfl, ?_⟩) ?_ ?_
  rotate_left
  · intro w'
    go_simp
    with_reducible rfl
  rotate_left
  · simp only [Act.put, List.setIfInBounds_toArray, List.set_cons_zero, List.set_cons_succ, i64_w, i32_w]
    rfl
  refine pure_ (i := 10) (N := some 23) (v := ?_) (a' := ?_) #[true, true, false, true, true, false, true, true, false, true, true, false, false, false, false, false, false, false] rfl rfl (by kernel_rfl) (fun _ _ _ h => h) (Or.inl ⟨by rfl, ?_⟩) ?_ ?_
  rotate_left
  · intro w'
    go_simp
    with_reducible rfl
  rotate_left
  · simp only [Act.put, List.setIfInBounds_toArray, List.set_cons_zero, List.set_cons_succ, i64_w, i32_w]
    rfl
  refine pure_ (i := 12) (N := some 25) (v := ?_) (a' := ?_) #[true, true, false, true, true, false, true, true, false, true, true, false, true, false, false, false, false, false] rfl rfl (by kernel_rfl) (fun _ _ _ h => h) (Or.inl ⟨by rfl, ?_⟩) ?_ ?_
  rotate_left
  · intro w'
    go_simp
    with_reducible rfl
  rotate_left
  · simp only [Act.put, List.setIfInBounds_toArray, List.set_cons_zero, List.set_cons_succ, i64_w, i32_w]
    rfl
  refine pure_ (i := 13) (N := some 26) (v := ?_) (a' := ?_) #[true, true, false, true, true, false, true, true, false, true, true, false, true, true, false, false, false, false] rfl rfl (by kernel_rfl) (fun _ _ _ h => h) (Or.inl ⟨by rfl, ?_⟩) ?_ ?_
  rotate_left
  · intro w'
    go_simp
    with_reducible rfl
  rotate_left
  · simp only [Act.put, List.setIfInBounds_toArray, List.set_cons_zero, List.set_cons_succ, i64_w, i32_w]
    rfl
  refine join_ (σ := Nat) 1 #[true, true, true, true, true, true, true, true, true, true, true, true, true, true, true, true, true, false] (fun s_ => [(15, .int .i64 a), (18, .int .i64 b), (21, .int .i64 c), (24, .int .i64 d), (27, .int .i64 e), (28, .agg #[.int .i64 a, .int .i64 0, .int .i64 b, .int .i64 c, .int .i64 d, .int .i64 e]), (4, .pointer (some ⟨s_, 0, none⟩))]) (fun s_ w' => w'.heap[s_]? = some (.cells #[.int .i64 0, .int .i64 0, .int .i64 0, .int .i64 0, .int .i64 0, .int .i64 0] 23 (0, 0)) ∧ w.heap.size ≤ s_ ∧ Below w.heap.size w w') ?_ ?_
  rotate_left
  · intro hCont
    refine two_ (i := 2) (j := 16) (Ni := some 15) (Nj := some 4) #[true, true, true, true, true, false, true, true, false, true, true, false, true, true, false, false, false, false] #[true, true, false, true, true, false, true, true, false, true, true, false, true, true, false, false, true, false] rfl rfl rfl rfl (by kernel_rfl) (by decide) (by decide) (fun K hK => ?_) (fun K hK => ?_)
    · skip
      refine goes_ Tryd.func36 (by kernel_rfl) rfl #[.string Pa] (by rfl) rfl rfl (by simp only [List.map_toArray, List.map_cons, List.map_nil]; rfl) ?_
      with_reducible refine (Na.out _).mono ?_
      rintro e w2 ⟨rfl, hd2⟩
      refine ⟨_, rfl, ?_⟩
      replace hd2 := hd2.below
      have HB2 : Hid (Below w.heap.size w w2) := Lib.hid (below_step (below_drew (Below.refl _ w)) hd2)
      clear hd2
      refine hK.out _ _ trivial (fun hHeld => ?_)
      clear hK K
      refine norm_ (a' := ?_) ?_ ?_
      rotate_left
      · show Act.put _ (some 15) _ = _
        simp only [Act.put, List.setIfInBounds_toArray, List.set_cons_zero, List.set_cons_succ, i64_w, i32_w]
        rfl
      refine two_ (i := 5) (j := 16) (Ni := some 18) (Nj := some 4) #[true, true, true, true, true, true, true, true, false, true, true, false, true, true, false, false, false, false] #[true, true, true, true, true, false, true, true, false, true, true, false, true, true, false, false, true, false] rfl rfl rfl rfl (by kernel_rfl) (by decide) (by decide) (fun K hK => ?_) (fun K hK => ?_)
      · skip
        refine goes_ Tryd.func36 (by kernel_rfl) rfl #[.string Pb] (by rfl) rfl rfl (by simp only [List.map_toArray, List.map_cons, List.map_nil]; rfl) ?_
        with_reducible refine (Nb.out _).mono ?_
        rintro e w5 ⟨rfl, hd5⟩
        refine ⟨_, rfl, ?_⟩
        replace hd5 := hd5.below
        have HB5 : Hid (Below w.heap.size w w5) := Lib.hid (below_step HB2.out hd5)
        clear hd5
        refine hK.out _ _ trivial (fun hHeld => ?_)
        clear hK K
        refine norm_ (a' := ?_) ?_ ?_
        rotate_left
        · show Act.put _ (some 18) _ = _
          simp only [Act.put, List.setIfInBounds_toArray, List.set_cons_zero, List.set_cons_succ, i64_w, i32_w]
          rfl
        refine two_ (i := 8) (j := 16) (Ni := some 21) (Nj := some 4) #[true, true, true, true, true, true, true, true, true, true, true, false, true, true, false, false, false, false] #[true, true, true, true, true, true, true, true, false, true, true, false, true, true, false, false, true, false] rfl rfl rfl rfl (by kernel_rfl) (by decide) (by decide) (fun K hK => ?_) (fun K hK => ?_)
        · skip
          refine goes_ Tryd.func36 (by kernel_rfl) rfl #[.string Pc] (by rfl) rfl rfl (by simp only [List.map_toArray, List.map_cons, List.map_nil]; rfl) ?_
          with_reducible refine (Nc.out _).mono ?_
          rintro e w8 ⟨rfl, hd8⟩
          refine ⟨_, rfl, ?_⟩
          replace hd8 := hd8.below
          have HB8 : Hid (Below w.heap.size w w8) := Lib.hid (below_step HB5.out hd8)
          clear hd8
          refine hK.out _ _ trivial (fun hHeld => ?_)
          clear hK K
          refine norm_ (a' := ?_) ?_ ?_
          rotate_left
          · show Act.put _ (some 21) _ = _
            simp only [Act.put, List.setIfInBounds_toArray, List.set_cons_zero, List.set_cons_succ, i64_w, i32_w]
            rfl
          refine two_ (i := 11) (j := 16) (Ni := some 24) (Nj := some 4) #[true, true, true, true, true, true, true, true, true, true, true, true, true, true, false, false, false, false] #[true, true, true, true, true, true, true, true, true, true, true, false, true, true, false, false, true, false] rfl rfl rfl rfl (by kernel_rfl) (by decide) (by decide) (fun K hK => ?_) (fun K hK => ?_)
          · skip
            refine goes_ Tryd.func36 (by kernel_rfl) rfl #[.string Pd] (by rfl) rfl rfl (by simp only [List.map_toArray, List.map_cons, List.map_nil]; rfl) ?_
            with_reducible refine (Nd.out _).mono ?_
            rintro e w11 ⟨rfl, hd11⟩
            refine ⟨_, rfl, ?_⟩
            replace hd11 := hd11.below
            have HB11 : Hid (Below w.heap.size w w11) := Lib.hid (below_step HB8.out hd11)
            clear hd11
            refine hK.out _ _ trivial (fun hHeld => ?_)
            clear hK K
            refine norm_ (a' := ?_) ?_ ?_
            rotate_left
            · show Act.put _ (some 24) _ = _
              simp only [Act.put, List.setIfInBounds_toArray, List.set_cons_zero, List.set_cons_succ, i64_w, i32_w]
              rfl
            refine two_ (i := 14) (j := 16) (Ni := some 27) (Nj := some 4) #[true, true, true, true, true, true, true, true, true, true, true, true, true, true, true, false, false, false] #[true, true, true, true, true, true, true, true, true, true, true, true, true, true, false, false, true, false] rfl rfl rfl rfl (by kernel_rfl) (by decide) (by decide) (fun K hK => ?_) (fun K hK => ?_)
            · skip
              refine goes_ Tryd.func36 (by kernel_rfl) rfl #[.string Pe] (by rfl) rfl rfl (by simp only [List.map_toArray, List.map_cons, List.map_nil]; rfl) ?_
              with_reducible refine (Ne.out _).mono ?_
              rintro e w14 ⟨rfl, hd14⟩
              refine ⟨_, rfl, ?_⟩
              replace hd14 := hd14.below
              have HB14 : Hid (Below w.heap.size w w14) := Lib.hid (below_step HB11.out hd14)
              clear hd14
              refine hK.out _ _ trivial (fun hHeld => ?_)
              clear hK K
              refine norm_ (a' := ?_) ?_ ?_
              rotate_left
              · show Act.put _ (some 27) _ = _
                simp only [Act.put, List.setIfInBounds_toArray, List.set_cons_zero, List.set_cons_succ, i64_w, i32_w]
                rfl
              refine pure_ (i := 15) (N := some 28) (v := ?_) (a' := ?_) #[true, true, true, true, true, true, true, true, true, true, true, true, true, true, true, true, false, false] rfl rfl (by kernel_rfl) (fun _ _ _ h => h) (Or.inl ⟨by rfl, ?_⟩) ?_ ?_
              rotate_left
              · intro w'
                go_simp
                with_reducible rfl
              rotate_left
              · simp only [Act.put, List.setIfInBounds_toArray, List.set_cons_zero, List.set_cons_succ, i64_w, i32_w]
                rfl
              refine one_ (i := 16) (N := some 4) #[true, true, true, true, true, true, true, true, true, true, true, true, true, true, true, true, true, false] rfl rfl (by kernel_rfl) (by decide) (fun K hK => ?_)
              refine value_ (w1 := ?_) (v := ?_) (by rfl) rfl ?_ ?_
              rotate_left 2
              · go_simp
                constructor
                · rfl
                · rfl
              obtain ⟨w16, hw16⟩ : ∃ W_, W_ = (w14).alloc (.cells #[.int .i64 0, .int .i64 0, .int .i64 0, .int .i64 0, .int .i64 0, .int .i64 0] 23) := ⟨_, rfl⟩
              rw [← hw16]
              have HA16 : Hid (w16.heap[w14.heap.size]? = some (.cells #[.int .i64 0, .int .i64 0, .int .i64 0, .int .i64 0, .int .i64 0, .int .i64 0] 23 (0, 0))) := Lib.hid (by rw [hw16]; exact heap_alloc_new w14 _)
              have HB16 : Hid (Below w.heap.size w w16) := Lib.hid (by rw [hw16]; exact below_alloc HB14.out _)
              clear hw16
              refine hK.out _ _ trivial (fun hHeld => ?_)
              clear hK K
              refine norm_ (a' := ?_) ?_ ?_
              rotate_left
              · show Act.put _ (some 4) _ = _
                simp only [Act.put, List.setIfInBounds_toArray, List.set_cons_zero, List.set_cons_succ, i64_w, i32_w]
                rfl
              exact norm_ (by simp only [putAll, Act.put, List.setIfInBounds_toArray, List.set_cons_zero, List.set_cons_succ]) (hCont w14.heap.size _ ⟨HA16.out, HB14.out.size, HB16.out⟩)
            · skip
              refine value_ (w1 := ?_) (v := ?_) (by rfl) rfl ?_ ?_
              rotate_left 2
              · go_simp
                constructor
                · rfl
                · rfl
              obtain ⟨w16, hw16⟩ : ∃ W_, W_ = (w11).alloc (.cells #[.int .i64 0, .int .i64 0, .int .i64 0, .int .i64 0, .int .i64 0, .int .i64 0] 23) := ⟨_, rfl⟩
              rw [← hw16]
              have HA16 : Hid (w16.heap[w11.heap.size]? = some (.cells #[.int .i64 0, .int .i64 0, .int .i64 0, .int .i64 0, .int .i64 0, .int .i64 0] 23 (0, 0))) := Lib.hid (by rw [hw16]; exact heap_alloc_new w11 _)
              have HB16 : Hid (Below w.heap.size w w16) := Lib.hid (by rw [hw16]; exact below_alloc HB11.out _)
              clear hw16
              refine hK.out _ _ trivial (fun hHeld => ?_)
              clear hK K
              refine norm_ (a' := ?_) ?_ ?_
              rotate_left
              · show Act.put _ (some 4) _ = _
                simp only [Act.put, List.setIfInBounds_toArray, List.set_cons_zero, List.set_cons_succ, i64_w, i32_w]
                rfl
              refine one_ (i := 14) (N := some 27) #[true, true, true, true, true, true, true, true, true, true, true, true, true, true, true, false, true, false] rfl rfl (by kernel_rfl) (by decide) (fun K hK => ?_)
              refine goes_ Tryd.func36 (by kernel_rfl) rfl #[.string Pe] (by rfl) rfl rfl (by simp only [List.map_toArray, List.map_cons, List.map_nil]; rfl) ?_
              with_reducible refine (Ne.out _).mono ?_
              rintro e w14 ⟨rfl, hd14⟩
              refine ⟨_, rfl, ?_⟩
              replace hd14 := hd14.below
              have HB14 : Hid (Below w.heap.size w w14) := Lib.hid (below_step HB16.out hd14)
              have HA14 : Hid (w14.heap[w11.heap.size]? = some (.cells #[.int .i64 0, .int .i64 0, .int .i64 0, .int .i64 0, .int .i64 0, .int .i64 0] 23 (0, 0))) := Lib.hid (blk_bel hd14 HA16.out)
              clear hd14
              refine hK.out _ _ trivial (fun hHeld => ?_)
              clear hK K
              refine norm_ (a' := ?_) ?_ ?_
              rotate_left
              · show Act.put _ (some 27) _ = _
                simp only [Act.put, List.setIfInBounds_toArray, List.set_cons_zero, List.set_cons_succ, i64_w, i32_w]
                rfl
              refine pure_ (i := 15) (N := some 28) (v := ?_) (a' := ?_) #[true, true, true, true, true, true, true, true, true, true, true, true, true, true, true, true, true, false] rfl rfl (by kernel_rfl) (fun _ _ _ h => h) (Or.inl ⟨by rfl, ?_⟩) ?_ ?_
              rotate_left
              · intro w'
                go_simp
                with_reducible rfl
              rotate_left
              · simp only [Act.put, List.setIfInBounds_toArray, List.set_cons_zero, List.set_cons_succ, i64_w, i32_w]
                rfl
              exact norm_ (by simp only [putAll, Act.put, List.setIfInBounds_toArray, List.set_cons_zero, List.set_cons_succ]) (hCont w11.heap.size _ ⟨HA14.out, HB11.out.size, HB14.out⟩)
          · skip
            refine value_ (w1 := ?_) (v := ?_) (by rfl) rfl ?_ ?_
            rotate_left 2
            · go_simp
              constructor
              · rfl
              · rfl
            obtain ⟨w16, hw16⟩ : ∃ W_, W_ = (w8).alloc (.cells #[.int .i64 0, .int .i64 0, .int .i64 0, .int .i64 0, .int .i64 0, .int .i64 0] 23) := ⟨_, rfl⟩
            rw [← hw16]
            have HA16 : Hid (w16.heap[w8.heap.size]? = some (.cells #[.int .i64 0, .int .i64 0, .int .i64 0, .int .i64 0, .int .i64 0, .int .i64 0] 23 (0, 0))) := Lib.hid (by rw [hw16]; exact heap_alloc_new w8 _)
            have HB16 : Hid (Below w.heap.size w w16) := Lib.hid (by rw [hw16]; exact below_alloc HB8.out _)
            clear hw16
            refine hK.out _ _ trivial (fun hHeld => ?_)
            clear hK K
            refine norm_ (a' := ?_) ?_ ?_
            rotate_left
            · show Act.put _ (some 4) _ = _
              simp only [Act.put, List.setIfInBounds_toArray, List.set_cons_zero, List.set_cons_succ, i64_w, i32_w]
              rfl
            refine one_ (i := 11) (N := some 24) #[true, true, true, true, true, true, true, true, true, true, true, true, true, true, false, false, true, false] rfl rfl (by kernel_rfl) (by decide) (fun K hK => ?_)
            refine goes_ Tryd.func36 (by kernel_rfl) rfl #[.string Pd] (by rfl) rfl rfl (by simp only [List.map_toArray, List.map_cons, List.map_nil]; rfl) ?_
            with_reducible refine (Nd.out _).mono ?_
            rintro e w11 ⟨rfl, hd11⟩
            refine ⟨_, rfl, ?_⟩
            replace hd11 := hd11.below
            have HB11 : Hid (Below w.heap.size w w11) := Lib.hid (below_step HB16.out hd11)
            have HA11 : Hid (w11.heap[w8.heap.size]? = some (.cells #[.int .i64 0, .int .i64 0, .int .i64 0, .int .i64 0, .int .i64 0, .int .i64 0] 23 (0, 0))) := Lib.hid (blk_bel hd11 HA16.out)
            clear hd11
            refine hK.out _ _ trivial (fun hHeld => ?_)
            clear hK K
            refine norm_ (a' := ?_) ?_ ?_
            rotate_left
            · show Act.put _ (some 24) _ = _
              simp only [Act.put, List.setIfInBounds_toArray, List.set_cons_zero, List.set_cons_succ, i64_w, i32_w]
              rfl
            refine one_ (i := 14) (N := some 27) #[true, true, true, true, true, true, true, true, true, true, true, true, true, true, true, false, true, false] rfl rfl (by kernel_rfl) (by decide) (fun K hK => ?_)
            refine goes_ Tryd.func36 (by kernel_rfl) rfl #[.string Pe] (by rfl) rfl rfl (by simp only [List.map_toArray, List.map_cons, List.map_nil]; rfl) ?_
            with_reducible refine (Ne.out _).mono ?_
            rintro e w14 ⟨rfl, hd14⟩
            refine ⟨_, rfl, ?_⟩
            replace hd14 := hd14.below
            have HB14 : Hid (Below w.heap.size w w14) := Lib.hid (below_step HB11.out hd14)
            have HA14 : Hid (w14.heap[w8.heap.size]? = some (.cells #[.int .i64 0, .int .i64 0, .int .i64 0, .int .i64 0, .int .i64 0, .int .i64 0] 23 (0, 0))) := Lib.hid (blk_bel hd14 HA11.out)
            clear hd14
            refine hK.out _ _ trivial (fun hHeld => ?_)
            clear hK K
            refine norm_ (a' := ?_) ?_ ?_
            rotate_left
            · show Act.put _ (some 27) _ = _
              simp only [Act.put, List.setIfInBounds_toArray, List.set_cons_zero, List.set_cons_succ, i64_w, i32_w]
              rfl
            refine pure_ (i := 15) (N := some 28) (v := ?_) (a' := ?_) #[true, true, true, true, true, true, true, true, true, true, true, true, true, true, true, true, true, false] rfl rfl (by kernel_rfl) (fun _ _ _ h => h) (Or.inl ⟨by rfl, ?_⟩) ?_ ?_
            rotate_left
            · intro w'
              go_simp
              with_reducible rfl
            rotate_left
            · simp only [Act.put, List.setIfInBounds_toArray, List.set_cons_zero, List.set_cons_succ, i64_w, i32_w]
              rfl
            exact norm_ (by simp only [putAll, Act.put, List.setIfInBounds_toArray, List.set_cons_zero, List.set_cons_succ]) (hCont w8.heap.size _ ⟨HA14.out, HB8.out.size, HB14.out⟩)
        · skip
          refine value_ (w1 := ?_) (v := ?_) (by rfl) rfl ?_ ?_
          rotate_left 2
          · go_simp
            constructor
            · rfl
            · rfl
          obtain ⟨w16, hw16⟩ : ∃ W_, W_ = (w5).alloc (.cells #[.int .i64 0, .int .i64 0, .int .i64 0, .int .i64 0, .int .i64 0, .int .i64 0] 23) := ⟨_, rfl⟩
          rw [← hw16]
          have HA16 : Hid (w16.heap[w5.heap.size]? = some (.cells #[.int .i64 0, .int .i64 0, .int .i64 0, .int .i64 0, .int .i64 0, .int .i64 0] 23 (0, 0))) := Lib.hid (by rw [hw16]; exact heap_alloc_new w5 _)
          have HB16 : Hid (Below w.heap.size w w16) := Lib.hid (by rw [hw16]; exact below_alloc HB5.out _)
          clear hw16
          refine hK.out _ _ trivial (fun hHeld => ?_)
          clear hK K
          refine norm_ (a' := ?_) ?_ ?_
          rotate_left
          · show Act.put _ (some 4) _ = _
            simp only [Act.put, List.setIfInBounds_toArray, List.set_cons_zero, List.set_cons_succ, i64_w, i32_w]
            rfl
          refine one_ (i := 8) (N := some 21) #[true, true, true, true, true, true, true, true, true, true, true, false, true, true, false, false, true, false] rfl rfl (by kernel_rfl) (by decide) (fun K hK => ?_)
          refine goes_ Tryd.func36 (by kernel_rfl) rfl #[.string Pc] (by rfl) rfl rfl (by simp only [List.map_toArray, List.map_cons, List.map_nil]; rfl) ?_
          with_reducible refine (Nc.out _).mono ?_
          rintro e w8 ⟨rfl, hd8⟩
          refine ⟨_, rfl, ?_⟩
          replace hd8 := hd8.below
          have HB8 : Hid (Below w.heap.size w w8) := Lib.hid (below_step HB16.out hd8)
          have HA8 : Hid (w8.heap[w5.heap.size]? = some (.cells #[.int .i64 0, .int .i64 0, .int .i64 0, .int .i64 0, .int .i64 0, .int .i64 0] 23 (0, 0))) := Lib.hid (blk_bel hd8 HA16.out)
          clear hd8
          refine hK.out _ _ trivial (fun hHeld => ?_)
          clear hK K
          refine norm_ (a' := ?_) ?_ ?_
          rotate_left
          · show Act.put _ (some 21) _ = _
            simp only [Act.put, List.setIfInBounds_toArray, List.set_cons_zero, List.set_cons_succ, i64_w, i32_w]
            rfl
          refine one_ (i := 11) (N := some 24) #[true, true, true, true, true, true, true, true, true, true, true, true, true, true, false, false, true, false] rfl rfl (by kernel_rfl) (by decide) (fun K hK => ?_)
          refine goes_ Tryd.func36 (by kernel_rfl) rfl #[.string Pd] (by rfl) rfl rfl (by simp only [List.map_toArray, List.map_cons, List.map_nil]; rfl) ?_
          with_reducible refine (Nd.out _).mono ?_
          rintro e w11 ⟨rfl, hd11⟩
          refine ⟨_, rfl, ?_⟩
          replace hd11 := hd11.below
          have HB11 : Hid (Below w.heap.size w w11) := Lib.hid (below_step HB8.out hd11)
          have HA11 : Hid (w11.heap[w5.heap.size]? = some (.cells #[.int .i64 0, .int .i64 0, .int .i64 0, .int .i64 0, .int .i64 0, .int .i64 0] 23 (0, 0))) := Lib.hid (blk_bel hd11 HA8.out)
          clear hd11
          refine hK.out _ _ trivial (fun hHeld => ?_)
          clear hK K
          refine norm_ (a' := ?_) ?_ ?_
          rotate_left
          · show Act.put _ (some 24) _ = _
            simp only [Act.put, List.setIfInBounds_toArray, List.set_cons_zero, List.set_cons_succ, i64_w, i32_w]
            rfl
          refine one_ (i := 14) (N := some 27) #[true, true, true, true, true, true, true, true, true, true, true, true, true, true, true, false, true, false] rfl rfl (by kernel_rfl) (by decide) (fun K hK => ?_)
          refine goes_ Tryd.func36 (by kernel_rfl) rfl #[.string Pe] (by rfl) rfl rfl (by simp only [List.map_toArray, List.map_cons, List.map_nil]; rfl) ?_
          with_reducible refine (Ne.out _).mono ?_
          rintro e w14 ⟨rfl, hd14⟩
          refine ⟨_, rfl, ?_⟩
          replace hd14 := hd14.below
          have HB14 : Hid (Below w.heap.size w w14) := Lib.hid (below_step HB11.out hd14)
          have HA14 : Hid (w14.heap[w5.heap.size]? = some (.cells #[.int .i64 0, .int .i64 0, .int .i64 0, .int .i64 0, .int .i64 0, .int .i64 0] 23 (0, 0))) := Lib.hid (blk_bel hd14 HA11.out)
          clear hd14
          refine hK.out _ _ trivial (fun hHeld => ?_)
          clear hK K
          refine norm_ (a' := ?_) ?_ ?_
          rotate_left
          · show Act.put _ (some 27) _ = _
            simp only [Act.put, List.setIfInBounds_toArray, List.set_cons_zero, List.set_cons_succ, i64_w, i32_w]
            rfl
          refine pure_ (i := 15) (N := some 28) (v := ?_) (a' := ?_) #[true, true, true, true, true, true, true, true, true, true, true, true, true, true, true, true, true, false] rfl rfl (by kernel_rfl) (fun _ _ _ h => h) (Or.inl ⟨by rfl, ?_⟩) ?_ ?_
          rotate_left
          · intro w'
            go_simp
            with_reducible rfl
          rotate_left
          · simp only [Act.put, List.setIfInBounds_toArray, List.set_cons_zero, List.set_cons_succ, i64_w, i32_w]
            rfl
          exact norm_ (by simp only [putAll, Act.put, List.setIfInBounds_toArray, List.set_cons_zero, List.set_cons_succ]) (hCont w5.heap.size _ ⟨HA14.out, HB5.out.size, HB14.out⟩)
      · skip
        refine value_ (w1 := ?_) (v := ?_) (by rfl) rfl ?_ ?_
        rotate_left 2
        · go_simp
          constructor
          · rfl
          · rfl
        obtain ⟨w16, hw16⟩ : ∃ W_, W_ = (w2).alloc (.cells #[.int .i64 0, .int .i64 0, .int .i64 0, .int .i64 0, .int .i64 0, .int .i64 0] 23) := ⟨_, rfl⟩
        rw [← hw16]
        have HA16 : Hid (w16.heap[w2.heap.size]? = some (.cells #[.int .i64 0, .int .i64 0, .int .i64 0, .int .i64 0, .int .i64 0, .int .i64 0] 23 (0, 0))) := Lib.hid (by rw [hw16]; exact heap_alloc_new w2 _)
        have HB16 : Hid (Below w.heap.size w w16) := Lib.hid (by rw [hw16]; exact below_alloc HB2.out _)
        clear hw16
        refine hK.out _ _ trivial (fun hHeld => ?_)
        clear hK K
        refine norm_ (a' := ?_) ?_ ?_
        rotate_left
        · show Act.put _ (some 4) _ = _
          simp only [Act.put, List.setIfInBounds_toArray, List.set_cons_zero, List.set_cons_succ, i64_w, i32_w]
          rfl
        refine one_ (i := 5) (N := some 18) #[true, true, true, true, true, true, true, true, false, true, true, false, true, true, false, false, true, false] rfl rfl (by kernel_rfl) (by decide) (fun K hK => ?_)
        refine goes_ Tryd.func36 (by kernel_rfl) rfl #[.string Pb] (by rfl) rfl rfl (by simp only [List.map_toArray, List.map_cons, List.map_nil]; rfl) ?_
        with_reducible refine (Nb.out _).mono ?_
        rintro e w5 ⟨rfl, hd5⟩
        refine ⟨_, rfl, ?_⟩
        replace hd5 := hd5.below
        have HB5 : Hid (Below w.heap.size w w5) := Lib.hid (below_step HB16.out hd5)
        have HA5 : Hid (w5.heap[w2.heap.size]? = some (.cells #[.int .i64 0, .int .i64 0, .int .i64 0, .int .i64 0, .int .i64 0, .int .i64 0] 23 (0, 0))) := Lib.hid (blk_bel hd5 HA16.out)
        clear hd5
        refine hK.out _ _ trivial (fun hHeld => ?_)
        clear hK K
        refine norm_ (a' := ?_) ?_ ?_
        rotate_left
        · show Act.put _ (some 18) _ = _
          simp only [Act.put, List.setIfInBounds_toArray, List.set_cons_zero, List.set_cons_succ, i64_w, i32_w]
          rfl
        refine one_ (i := 8) (N := some 21) #[true, true, true, true, true, true, true, true, true, true, true, false, true, true, false, false, true, false] rfl rfl (by kernel_rfl) (by decide) (fun K hK => ?_)
        refine goes_ Tryd.func36 (by kernel_rfl) rfl #[.string Pc] (by rfl) rfl rfl (by simp only [List.map_toArray, List.map_cons, List.map_nil]; rfl) ?_
        with_reducible refine (Nc.out _).mono ?_
        rintro e w8 ⟨rfl, hd8⟩
        refine ⟨_, rfl, ?_⟩
        replace hd8 := hd8.below
        have HB8 : Hid (Below w.heap.size w w8) := Lib.hid (below_step HB5.out hd8)
        have HA8 : Hid (w8.heap[w2.heap.size]? = some (.cells #[.int .i64 0, .int .i64 0, .int .i64 0, .int .i64 0, .int .i64 0, .int .i64 0] 23 (0, 0))) := Lib.hid (blk_bel hd8 HA5.out)
        clear hd8
        refine hK.out _ _ trivial (fun hHeld => ?_)
        clear hK K
        refine norm_ (a' := ?_) ?_ ?_
        rotate_left
        · show Act.put _ (some 21) _ = _
          simp only [Act.put, List.setIfInBounds_toArray, List.set_cons_zero, List.set_cons_succ, i64_w, i32_w]
          rfl
        refine one_ (i := 11) (N := some 24) #[true, true, true, true, true, true, true, true, true, true, true, true, true, true, false, false, true, false] rfl rfl (by kernel_rfl) (by decide) (fun K hK => ?_)
        refine goes_ Tryd.func36 (by kernel_rfl) rfl #[.string Pd] (by rfl) rfl rfl (by simp only [List.map_toArray, List.map_cons, List.map_nil]; rfl) ?_
        with_reducible refine (Nd.out _).mono ?_
        rintro e w11 ⟨rfl, hd11⟩
        refine ⟨_, rfl, ?_⟩
        replace hd11 := hd11.below
        have HB11 : Hid (Below w.heap.size w w11) := Lib.hid (below_step HB8.out hd11)
        have HA11 : Hid (w11.heap[w2.heap.size]? = some (.cells #[.int .i64 0, .int .i64 0, .int .i64 0, .int .i64 0, .int .i64 0, .int .i64 0] 23 (0, 0))) := Lib.hid (blk_bel hd11 HA8.out)
        clear hd11
        refine hK.out _ _ trivial (fun hHeld => ?_)
        clear hK K
        refine norm_ (a' := ?_) ?_ ?_
        rotate_left
        · show Act.put _ (some 24) _ = _
          simp only [Act.put, List.setIfInBounds_toArray, List.set_cons_zero, List.set_cons_succ, i64_w, i32_w]
          rfl
        refine one_ (i := 14) (N := some 27) #[true, true, true, true, true, true, true, true, true, true, true, true, true, true, true, false, true, false] rfl rfl (by kernel_rfl) (by decide) (fun K hK => ?_)
        refine goes_ Tryd.func36 (by kernel_rfl) rfl #[.string Pe] (by rfl) rfl rfl (by simp only [List.map_toArray, List.map_cons, List.map_nil]; rfl) ?_
        with_reducible refine (Ne.out _).mono ?_
        rintro e w14 ⟨rfl, hd14⟩
        refine ⟨_, rfl, ?_⟩
        replace hd14 := hd14.below
        have HB14 : Hid (Below w.heap.size w w14) := Lib.hid (below_step HB11.out hd14)
        have HA14 : Hid (w14.heap[w2.heap.size]? = some (.cells #[.int .i64 0, .int .i64 0, .int .i64 0, .int .i64 0, .int .i64 0, .int .i64 0] 23 (0, 0))) := Lib.hid (blk_bel hd14 HA11.out)
        clear hd14
        refine hK.out _ _ trivial (fun hHeld => ?_)
        clear hK K
        refine norm_ (a' := ?_) ?_ ?_
        rotate_left
        · show Act.put _ (some 27) _ = _
          simp only [Act.put, List.setIfInBounds_toArray, List.set_cons_zero, List.set_cons_succ, i64_w, i32_w]
          rfl
        refine pure_ (i := 15) (N := some 28) (v := ?_) (a' := ?_) #[true, true, true, true, true, true, true, true, true, true, true, true, true, true, true, true, true, false] rfl rfl (by kernel_rfl) (fun _ _ _ h => h) (Or.inl ⟨by rfl, ?_⟩) ?_ ?_
        rotate_left
        · intro w'
          go_simp
          with_reducible rfl
        rotate_left
        · simp only [Act.put, List.setIfInBounds_toArray, List.set_cons_zero, List.set_cons_succ, i64_w, i32_w]
          rfl
        exact norm_ (by simp only [putAll, Act.put, List.setIfInBounds_toArray, List.set_cons_zero, List.set_cons_succ]) (hCont w2.heap.size _ ⟨HA14.out, HB2.out.size, HB14.out⟩)
    · skip
      refine value_ (w1 := ?_) (v := ?_) (by rfl) rfl ?_ ?_
      rotate_left 2
      · go_simp
        constructor
        · rfl
        · rfl
      obtain ⟨w16, hw16⟩ : ∃ W_, W_ = (w.alloc (.cells #[.int .i64 0, .int .i64 0, .int .i64 0, .int .i64 0, .int .i64 0, .int .i64 0] 23)).drew := ⟨_, rfl⟩
      rw [← hw16]
      have HA16 : Hid (w16.heap[w.heap.size]? = some (.cells #[.int .i64 0, .int .i64 0, .int .i64 0, .int .i64 0, .int .i64 0, .int .i64 0] 23 (0, 0))) := Lib.hid (by rw [hw16]; exact heap_alloc_new w.drew _)
      have HB16 : Hid (Below w.heap.size w w16) := Lib.hid (by rw [hw16]; exact below_drew (below_alloc (Below.refl _ _) _))
      clear hw16
      refine hK.out _ _ trivial (fun hHeld => ?_)
      clear hK K
      refine norm_ (a' := ?_) ?_ ?_
      rotate_left
      · show Act.put _ (some 4) _ = _
        simp only [Act.put, List.setIfInBounds_toArray, List.set_cons_zero, List.set_cons_succ, i64_w, i32_w]
        rfl
      refine one_ (i := 2) (N := some 15) #[true, true, true, true, true, false, true, true, false, true, true, false, true, true, false, false, true, false] rfl rfl (by kernel_rfl) (by decide) (fun K hK => ?_)
      refine goes_ Tryd.func36 (by kernel_rfl) rfl #[.string Pa] (by rfl) rfl rfl (by simp only [List.map_toArray, List.map_cons, List.map_nil]; rfl) ?_
      with_reducible refine (Na.out _).mono ?_
      rintro e w2 ⟨rfl, hd2⟩
      refine ⟨_, rfl, ?_⟩
      replace hd2 := hd2.below
      have HB2 : Hid (Below w.heap.size w w2) := Lib.hid (below_step HB16.out hd2)
      have HA2 : Hid (w2.heap[w.heap.size]? = some (.cells #[.int .i64 0, .int .i64 0, .int .i64 0, .int .i64 0, .int .i64 0, .int .i64 0] 23 (0, 0))) := Lib.hid (blk_bel hd2 HA16.out)
      clear hd2
      refine hK.out _ _ trivial (fun hHeld => ?_)
      clear hK K
      refine norm_ (a' := ?_) ?_ ?_
      rotate_left
      · show Act.put _ (some 15) _ = _
        simp only [Act.put, List.setIfInBounds_toArray, List.set_cons_zero, List.set_cons_succ, i64_w, i32_w]
        rfl
      refine one_ (i := 5) (N := some 18) #[true, true, true, true, true, true, true, true, false, true, true, false, true, true, false, false, true, false] rfl rfl (by kernel_rfl) (by decide) (fun K hK => ?_)
      refine goes_ Tryd.func36 (by kernel_rfl) rfl #[.string Pb] (by rfl) rfl rfl (by simp only [List.map_toArray, List.map_cons, List.map_nil]; rfl) ?_
      with_reducible refine (Nb.out _).mono ?_
      rintro e w5 ⟨rfl, hd5⟩
      refine ⟨_, rfl, ?_⟩
      replace hd5 := hd5.below
      have HB5 : Hid (Below w.heap.size w w5) := Lib.hid (below_step HB2.out hd5)
      have HA5 : Hid (w5.heap[w.heap.size]? = some (.cells #[.int .i64 0, .int .i64 0, .int .i64 0, .int .i64 0, .int .i64 0, .int .i64 0] 23 (0, 0))) := Lib.hid (blk_bel hd5 HA2.out)
      clear hd5
      refine hK.out _ _ trivial (fun hHeld => ?_)
      clear hK K
      refine norm_ (a' := ?_) ?_ ?_
      rotate_left
      · show Act.put _ (some 18) _ = _
        simp only [Act.put, List.setIfInBounds_toArray, List.set_cons_zero, List.set_cons_succ, i64_w, i32_w]
        rfl
      refine one_ (i := 8) (N := some 21) #[true, true, true, true, true, true, true, true, true, true, true, false, true, true, false, false, true, false] rfl rfl (by kernel_rfl) (by decide) (fun K hK => ?_)
      refine goes_ Tryd.func36 (by kernel_rfl) rfl #[.string Pc] (by rfl) rfl rfl (by simp only [List.map_toArray, List.map_cons, List.map_nil]; rfl) ?_
      with_reducible refine (Nc.out _).mono ?_
      rintro e w8 ⟨rfl, hd8⟩
      refine ⟨_, rfl, ?_⟩
      replace hd8 := hd8.below
      have HB8 : Hid (Below w.heap.size w w8) := Lib.hid (below_step HB5.out hd8)
      have HA8 : Hid (w8.heap[w.heap.size]? = some (.cells #[.int .i64 0, .int .i64 0, .int .i64 0, .int .i64 0, .int .i64 0, .int .i64 0] 23 (0, 0))) := Lib.hid (blk_bel hd8 HA5.out)
      clear hd8
      refine hK.out _ _ trivial (fun hHeld => ?_)
      clear hK K
      refine norm_ (a' := ?_) ?_ ?_
      rotate_left
      · show Act.put _ (some 21) _ = _
        simp only [Act.put, List.setIfInBounds_toArray, List.set_cons_zero, List.set_cons_succ, i64_w, i32_w]
        rfl
      refine one_ (i := 11) (N := some 24) #[true, true, true, true, true, true, true, true, true, true, true, true, true, true, false, false, true, false] rfl rfl (by kernel_rfl) (by decide) (fun K hK => ?_)
      refine goes_ Tryd.func36 (by kernel_rfl) rfl #[.string Pd] (by rfl) rfl rfl (by simp only [List.map_toArray, List.map_cons, List.map_nil]; rfl) ?_
      with_reducible refine (Nd.out _).mono ?_
      rintro e w11 ⟨rfl, hd11⟩
      refine ⟨_, rfl, ?_⟩
      replace hd11 := hd11.below
      have HB11 : Hid (Below w.heap.size w w11) := Lib.hid (below_step HB8.out hd11)
      have HA11 : Hid (w11.heap[w.heap.size]? = some (.cells #[.int .i64 0, .int .i64 0, .int .i64 0, .int .i64 0, .int .i64 0, .int .i64 0] 23 (0, 0))) := Lib.hid (blk_bel hd11 HA8.out)
      clear hd11
      refine hK.out _ _ trivial (fun hHeld => ?_)
      clear hK K
      refine norm_ (a' := ?_) ?_ ?_
      rotate_left
      · show Act.put _ (some 24) _ = _
        simp only [Act.put, List.setIfInBounds_toArray, List.set_cons_zero, List.set_cons_succ, i64_w, i32_w]
        rfl
      refine one_ (i := 14) (N := some 27) #[true, true, true, true, true, true, true, true, true, true, true, true, true, true, true, false, true, false] rfl rfl (by kernel_rfl) (by decide) (fun K hK => ?_)
      refine goes_ Tryd.func36 (by kernel_rfl) rfl #[.string Pe] (by rfl) rfl rfl (by simp only [List.map_toArray, List.map_cons, List.map_nil]; rfl) ?_
      with_reducible refine (Ne.out _).mono ?_
      rintro e w14 ⟨rfl, hd14⟩
      refine ⟨_, rfl, ?_⟩
      replace hd14 := hd14.below
      have HB14 : Hid (Below w.heap.size w w14) := Lib.hid (below_step HB11.out hd14)
      have HA14 : Hid (w14.heap[w.heap.size]? = some (.cells #[.int .i64 0, .int .i64 0, .int .i64 0, .int .i64 0, .int .i64 0, .int .i64 0] 23 (0, 0))) := Lib.hid (blk_bel hd14 HA11.out)
      clear hd14
      refine hK.out _ _ trivial (fun hHeld => ?_)
      clear hK K
      refine norm_ (a' := ?_) ?_ ?_
      rotate_left
      · show Act.put _ (some 27) _ = _
        simp only [Act.put, List.setIfInBounds_toArray, List.set_cons_zero, List.set_cons_succ, i64_w, i32_w]
        rfl
      refine pure_ (i := 15) (N := some 28) (v := ?_) (a' := ?_) #[true, true, true, true, true, true, true, true, true, true, true, true, true, true, true, true, true, false] rfl rfl (by kernel_rfl) (fun _ _ _ h => h) (Or.inl ⟨by rfl, ?_⟩) ?_ ?_
      rotate_left
      · intro w'
        go_simp
        with_reducible rfl
      rotate_left
      · simp only [Act.put, List.setIfInBounds_toArray, List.set_cons_zero, List.set_cons_succ, i64_w, i32_w]
        rfl
      exact norm_ (by simp only [putAll, Act.put, List.setIfInBounds_toArray, List.set_cons_zero, List.set_cons_succ]) (hCont w.heap.size _ ⟨HA14.out, Nat.le_refl _, HB14.out⟩)
  rintro g w3 ⟨hg, hgl, hB3⟩
  have hHeld : True := trivial
  have z0 := c_of hg 0 (v := .int .i64 0) rfl
  have z1 := c_of hg 1 (v := .int .i64 0) rfl
  have z2 := c_of hg 2 (v := .int .i64 0) rfl
  have z3 := c_of hg 3 (v := .int .i64 0) rfl
  have z4 := c_of hg 4 (v := .int .i64 0) rfl
  have z5 := c_of hg 5 (v := .int .i64 0) rfl
  have y0 := fr_of hg 0
  have y1 := fr_of hg 1
  have y2 := fr_of hg 2
  have y3 := fr_of hg 3
  have y4 := fr_of hg 4
  have y5 := fr_of hg 5
  refine norm_ (a' := ?_) ?_ ?_
  rotate_left
  · simp only [putAll, Act.put, List.setIfInBounds_toArray, List.set_cons_zero, List.set_cons_succ]
    rfl
  refine one_ (i := 17) (N := none) #[true, true, true, true, true, true, true, true, true, true, true, true, true, true, true, true, true, true] rfl rfl (by kernel_rfl) (by decide) (fun K hK => ?_)
  refine skip_ (w1 := ?_) (by rfl) rfl ?_ ?_
  rotate_left
  · go_simp
    rfl
  refine hK.out _ _ trivial (fun hHeld => ?_)
  clear hK K
  refine done_ (by kernel_rfl) ?_
  obtain ⟨We, hWe⟩ : ∃ W, W = ((((((w3.setCell ⟨g, 0, none⟩ (.int .i64 a)).setCell ⟨g, 1, none⟩ (.int .i64 0)).setCell ⟨g, 2, none⟩ (.int .i64 b)).setCell ⟨g, 3, none⟩ (.int .i64 c)).setCell ⟨g, 4, none⟩ (.int .i64 d)).setCell ⟨g, 5, none⟩ (.int .i64 e)) := ⟨_, rfl⟩
  rw [← hWe]
  have HDe : Hid (We.heap[g]? = some (.cells #[.int .i64 a, .int .i64 (mo p 0), .int .i64 b, .int .i64 c, .int .i64 d, .int .i64 e] 23 (0, 0))) := Lib.hid (by rw [hWe]; exact put6 hg (.int .i64 a) (.int .i64 0) (.int .i64 b) (.int .i64 c) (.int .i64 d) (.int .i64 e))
  have HBe : Hid (Below w.heap.size w We) := Lib.hid (by
    rw [hWe]
    exact Below.setCell (Below.setCell (Below.setCell (Below.setCell (Below.setCell (Below.setCell hB3 (p := ⟨g, 0, none⟩) hgl _) (p := ⟨g, 1, none⟩) hgl _) (p := ⟨g, 2, none⟩) hgl _) (p := ⟨g, 3, none⟩) hgl _) (p := ⟨g, 4, none⟩) hgl _) (p := ⟨g, 5, none⟩) hgl _)
  have HGL := Lib.hid hgl
  clear hWe hg hB3 hgl z0 z1 z2 z3 z4 z5 y0 y1 y2 y3 y4 y5 Na Nb Nc Nd Ne ka kb kc kd ke t29
  go_wp2
  go_loopg [5] 13 (fun k v5 W => ∃ i : Nat, v5 = .int .i64 ((i : Int) + 1) ∧ i ≤ 12 ∧ 13 ≤ k + i ∧ Hid (W.heap[g]? = some (.cells #[.int .i64 a, .int .i64 (mo p i), .int .i64 b, .int .i64 c, .int .i64 d, .int .i64 e] 23 (0, 0))) ∧ Hid (Below w.heap.size w W))
  case atStart => exact ⟨0, rfl, by omega, by omega, HDe, HBe⟩
  case round =>
    obtain ⟨i, rfl, hi, hk, HD, HB⟩ := hrel
    rename World => Wo
    clear HDe HBe
    by_cases hlt : i < 12
    · obtain ⟨ko, rfl⟩ : ∃ ko, gk = ko + 1 := ⟨gk - 1, by omega⟩
      have hk2 : 13 ≤ ko + (i + 1) := by omega
      have hi1 : i + 1 ≤ 12 := hlt
      have t0 : decide ((i : Int) + 1 ≤ 12) = true := decide_eq_true (by omega)
      have hx := mon_ext i hlt
      obtain ⟨j3, hj⟩ : ∃ c, c = 3 * i := ⟨_, rfl⟩
      rw [← hj] at hx
      obtain ⟨NM, hNM⟩ : ∃ N, N = B (mons.getD i []) := ⟨_, rfl⟩
      rw [show (⟨(mons.getD i []).toArray⟩ : ByteArray) = NM from hNM.symm] at hx
      have u0 : (0 ≤ (j3 : Int)) = True := eq_true (by omega)
      have u1 : ((j3 : Int) ≤ (j3 : Int) + 3) = True := eq_true (by omega)
      have u2 : ((j3 : Int) + 3 ≤ 36) = True := eq_true (by omega)
      have u3 : ((j3 : Int) + 3).toNat = j3 + 3 := by omega
      have HW0 : Hid (wrap64 (3 * ((i : Int) + 1)) = (j3 : Int) + 3) := Lib.hid ((wr_id (by omega) (by omega)).trans (by omega))
      have HW1 : Hid (wrap64 (j3 : Int) = (j3 : Int)) := Lib.hid (wr_id (by omega) (by omega))
      have HWX : Hid (wrap64 ((i : Int) + 1 + 1) = ((i + 1 : Nat) : Int) + 1) := Lib.hid ((wr_id (by omega) (by omega)).trans (by omega))
      have hm1 : NM = p → mo p (i + 1) = (i : Int) + 1 := fun h => by show (if B (mons.getD i []) = p then (i : Int) + 1 else mo p i) = _; rw [← hNM, if_pos h]
      have hm0 : NM ≠ p → mo p (i + 1) = mo p i := fun h => by show (if B (mons.getD i []) = p then (i : Int) + 1 else mo p i) = _; rw [← hNM, if_neg h]
      have w0 := HW0.out; have w1 := HW1.out
      have l1 := c_of HD.out 1 (v := .int .i64 (mo p i)) rfl
      have f1 := fr_of HD.out 1
      clear hNM hj hlt
      go_upto_region 7 with fail
      refine start_ (n := 9) (S := fun w' => True) (ds := []) #[false, false, false, false, false, false, false, false, false] (by kernel_rfl) rfl rfl trivial (fun hHeld => ?_)
      refine pure_ (i := 0) (N := some 33) (v := ?_) (a' := ?_) #[true, false, false, false, false, false, false, false, false] rfl rfl (by kernel_rfl) (fun _ _ _ h => h) (Or.inl ⟨by rfl, ?_⟩) ?_ ?_
      rotate_left
      · intro w'
        go_simp
        with_reducible rfl
      rotate_left
      · simp only [Act.put, List.setIfInBounds_toArray, List.set_cons_zero, List.set_cons_succ, i64_w, i32_w]
        rfl
      refine pure_ (i := 1) (N := some 34) (v := ?_) (a' := ?_) #[true, true, false, false, false, false, false, false, false] rfl rfl (by kernel_rfl) (fun _ _ _ h => h) (Or.inl ⟨by rfl, ?_⟩) ?_ ?_
      rotate_left
      · intro w'
        go_simp
        with_reducible rfl
      rotate_left
      · simp only [Act.put, List.setIfInBounds_toArray, List.set_cons_zero, List.set_cons_succ, i64_w, i32_w]
        rfl
      refine pure_ (i := 2) (N := some 35) (v := ?_) (a' := ?_) #[true, true, true, false, false, false, false, false, false] rfl rfl (by kernel_rfl) (fun _ _ _ h => h) (Or.inl ⟨by rfl, ?_⟩) ?_ ?_
      rotate_left
      · intro w'
        go_simp
        with_reducible rfl
      rotate_left
      · simp only [Act.put, List.setIfInBounds_toArray, List.set_cons_zero, List.set_cons_succ, i64_w, i32_w]
        rfl
      refine pure_ (i := 3) (N := some 36) (v := ?_) (a' := ?_) #[true, true, true, true, false, false, false, false, false] rfl rfl (by kernel_rfl) (fun _ _ _ h => h) (Or.inl ⟨by rfl, ?_⟩) ?_ ?_
      rotate_left
      · intro w'
        go_simp
        with_reducible rfl
      rotate_left
      · simp only [Act.put, List.setIfInBounds_toArray, List.set_cons_zero, List.set_cons_succ, i64_w, i32_w]
        rfl
      refine pure_ (i := 4) (N := some 37) (v := ?_) (a' := ?_) #[true, true, true, true, true, false, false, false, false] rfl rfl (by kernel_rfl) (fun _ _ _ h => h) (Or.inl ⟨by rfl, ?_⟩) ?_ ?_
      rotate_left
      · intro w'
        go_simp
        with_reducible rfl
      rotate_left
      · simp only [Act.put, List.setIfInBounds_toArray, List.set_cons_zero, List.set_cons_succ, i64_w, i32_w]
        rfl
      refine pure_ (i := 5) (N := some 38) (v := ?_) (a' := ?_) #[true, true, true, true, true, true, false, false, false] rfl rfl (by kernel_rfl) (fun _ _ _ h => h) (Or.inl ⟨by rfl, ?_⟩) ?_ ?_
      rotate_left
      · intro w'
        go_simp
        with_reducible rfl
      rotate_left
      · simp only [Act.put, List.setIfInBounds_toArray, List.set_cons_zero, List.set_cons_succ, i64_w, i32_w]
        rfl
      refine pure_ (i := 6) (N := some 39) (v := ?_) (a' := ?_) #[true, true, true, true, true, true, true, false, false] rfl rfl (by kernel_rfl) (fun _ _ _ h => h) (Or.inl ⟨by rfl, ?_⟩) ?_ ?_
      rotate_left
      · intro w'
        go_simp
        with_reducible rfl
      rotate_left
      · simp only [Act.put, List.setIfInBounds_toArray, List.set_cons_zero, List.set_cons_succ, i64_w, i32_w]
        rfl
      refine pure_ (i := 7) (N := some 40) (v := ?_) (a' := ?_) #[true, true, true, true, true, true, true, true, false] rfl rfl (by kernel_rfl) (fun _ _ _ h => h) (Or.inl ⟨by rfl, ?_⟩) ?_ ?_
      rotate_left
      · intro w'
        go_simp
        with_reducible rfl
      rotate_left
      · simp only [Act.put, List.setIfInBounds_toArray, List.set_cons_zero, List.set_cons_succ, i64_w, i32_w]
        rfl
      refine pure_ (i := 8) (N := some 41) (v := ?_) (a' := ?_) #[true, true, true, true, true, true, true, true, true] rfl rfl (by kernel_rfl) (fun _ _ _ h => h) (Or.inl ⟨by rfl, ?_⟩) ?_ ?_
      rotate_left
      · intro w'
        go_simp
        with_reducible rfl
      rotate_left
      · simp only [Act.put, List.setIfInBounds_toArray, List.set_cons_zero, List.set_cons_succ, i64_w, i32_w]
        rfl
      refine done_ (by kernel_rfl) ?_
      obtain ⟨tE, hE⟩ : ∃ t, t = (NM.toList == p.toList) := ⟨_, rfl⟩
      rw [← hE]
      cases tE with
      | true =>
        have he : NM = p := (Lib.bytes_beq_iff NM p).1 hE.symm
        have HM := Lib.hid (hm1 he)
        clear hE he hm1 hm0
        go_wp2
        go_roundg ko
        case measure => omega
        case rel => exact ⟨i + 1, by first | rfl | rw [HWX.out] | (simp; done), hi1, hk2, Lib.hid (by rw [HM.out]; exact set_same HD.out rfl), Lib.hid (below_drew (Below.setCell HB.out (p := ⟨g, 1, none⟩) HGL.out _))⟩
      | false =>
        have he : NM ≠ p := (Lib.bytes_beq_false_iff NM p).1 hE.symm
        have HM := Lib.hid (hm0 he)
        clear hE he hm1 hm0
        go_wp2
        go_roundg ko
        case measure => omega
        case rel => exact ⟨i + 1, by first | rfl | rw [HWX.out] | (simp; done), hi1, hk2, Lib.hid (by rw [HM.out]; exact HD.out), Lib.hid (below_drew HB.out)⟩
    · have t0 : decide ((i : Int) + 1 ≤ 12) = false := decide_eq_false (by omega)
      obtain rfl : i = 12 := by omega
      obtain ⟨mm, hmm⟩ : ∃ v, v = mo p 12 := ⟨_, rfl⟩
      rw [← hmm] at HD TR
      have KEY : Hid (∀ n y M d' h mi sc wd, IsText s n y M d' h mi sc wd → a = (y : Int) ∧ mm = (M : Int) + 1 ∧ b = (d' : Int) ∧ c = (h : Int) ∧ d = (mi : Int) ∧ e = (sc : Int)) := TR
      clear hmm kp TR
      have l0 := c_of HD.out 0 (v := .int .i64 a) rfl
      have l1 := c_of HD.out 1 (v := .int .i64 mm) rfl
      have l2 := c_of HD.out 2 (v := .int .i64 b) rfl
      have l3 := c_of HD.out 3 (v := .int .i64 c) rfl
      have l4 := c_of HD.out 4 (v := .int .i64 d) rfl
      have l5 := c_of HD.out 5 (v := .int .i64 e) rfl
      by_cases ho : DateOk a mm b c d e
      · have HNUM := Lib.hid (rnumber_ok a mm b c d e Wo ho)
        obtain ⟨n, hn⟩ : ∃ n, n = num a mm b c d e := ⟨_, rfl⟩
        rw [← hn] at HNUM
        obtain ⟨wd, hwd, hwd7⟩ := wday_nat (n := n) (by rw [hn]; exact num_bd ho)
        obtain ⟨Y, hY⟩ : ∃ Y : Nat, a = (Y : Int) := ⟨a.toNat, by have := ho.1.1; omega⟩
        obtain ⟨M, hM⟩ : ∃ Y : Nat, mm = (Y : Int) + 1 := ⟨(mm - 1).toNat, by have := ho.1.2.2.1; omega⟩
        obtain ⟨D, hD⟩ : ∃ Y : Nat, b = (Y : Int) := ⟨b.toNat, by have := ho.1.2.2.2.2.1; omega⟩
        obtain ⟨H, hH⟩ : ∃ Y : Nat, c = (Y : Int) := ⟨c.toNat, by have := ho.h0; omega⟩
        obtain ⟨MI, hMI⟩ : ∃ Y : Nat, d = (Y : Int) := ⟨d.toNat, by have := ho.mi0; omega⟩
        obtain ⟨SC, hSC⟩ : ∃ Y : Nat, e = (Y : Int) := ⟨e.toNat, by have := ho.s0; omega⟩
        obtain ⟨F, hF⟩ : ∃ F : ByteArray, F = ⟨(fmtL Y M D H MI SC wd).toArray⟩ := ⟨_, rfl⟩
        have HFM : Hid (∀ w', Below Wo.heap.size Wo w' → Calls Tryd.prog 19 #[.int .i64 n] w' fun e w'' => e = .returned (.tuple #[.string F, .int .i64 0]) ∧ Below w'.heap.size w' w'') := Lib.hid (fun w' hb => by
          rw [hF]
          exact rformat_nat n Y M D H MI SC wd w' (by rw [← hY, ← hM, ← hD, ← hH, ← hMI, ← hSC]; exact ho) (by rw [← hY, ← hM, ← hD, ← hH, ← hMI, ← hSC]; exact hn.symm) hwd hwd7)
        have HFN : Hid (F = s → Text s n) := Lib.hid (fun hs => ⟨Y, M, D, H, MI, SC, wd, by rw [← hY, ← hM, ← hD, ← hH, ← hMI, ← hSC]; exact ho, by rw [← hY, ← hM, ← hD, ← hH, ← hMI, ← hSC]; exact hn.symm, hwd, hwd7, hs ▸ hF⟩)
        have HFX : Hid (F ≠ s → NoText s) := Lib.hid (fun hs n' ⟨y, M', d', h, mi, sc, wd', t⟩ => by
          obtain ⟨k1, k2, k3, k4, k5, k6⟩ := KEY.out _ _ _ _ _ _ _ _ t
          have hnn : n' = n := by rw [hn, k1, k2, k3, k4, k5, k6]; exact t.nu.symm
          have e7 := t.day
          rw [hnn, hwd] at e7
          obtain rfl : Y = y := by omega
          obtain rfl : M = M' := by omega
          obtain rfl : D = d' := by omega
          obtain rfl : H = h := by omega
          obtain rfl : MI = mi := by omega
          obtain rfl : SC = sc := by omega
          obtain rfl : wd = wd' := by omega
          exact hs (hF.trans t.text.symm))
        clear ho hn hwd hwd7 hY hM hD hH hMI hSC hF KEY
        by_cases hs : F = s
        · have HT := Lib.hid (HFN.out hs)
          subst hs
          go_wp2_with (first | (go_at_call 11; refine HNUM.out.mono ?_; rintro e_ w4 ⟨rfl, hb4⟩; have HB4 := Lib.hid hb4; clear hb4) | (go_at_call 19; refine (HFM.out _ HB4.out).mono ?_; rintro e_ w5 ⟨rfl, hb5⟩; have HB5 := Lib.hid hb5; clear hb5))
          go_ret2
          exact ⟨below_step HB.out (below_step HB4.out HB5.out), .inr ⟨n, HT.out, rfl⟩⟩
        · have HNO := Lib.hid (HFX.out hs)
          have tF : (F.toList == s.toList) = false := (Lib.bytes_beq_false_iff F s).2 hs
          clear hs
          go_wp2_with (first | (go_at_call 11; refine HNUM.out.mono ?_; rintro e_ w4 ⟨rfl, hb4⟩; have HB4 := Lib.hid hb4; clear hb4) | (go_at_call 19; refine (HFM.out _ HB4.out).mono ?_; rintro e_ w5 ⟨rfl, hb5⟩; have HB5 := Lib.hid hb5; clear hb5))
          go_ret2
          exact ⟨below_step HB.out (below_step HB4.out HB5.out), .inl ⟨rfl, HNO.out⟩⟩
      · have HNUM := Lib.hid (rnumber_no a mm b c d e Wo ho)
        have HNO : Hid (NoText s) := Lib.hid (fun n ⟨y, M, d', h, mi, sc, wd, t⟩ => by
          obtain ⟨k1, k2, k3, k4, k5, k6⟩ := KEY.out _ _ _ _ _ _ _ _ t
          rw [k1, k2, k3, k4, k5, k6] at ho
          exact ho t.ok)
        clear ho KEY
        go_wp2_with (go_at_call 11; refine HNUM.out.mono ?_; rintro e_ w4 ⟨rfl, hb4⟩; have HB4 := Lib.hid hb4; clear hb4)
        go_ret2
        exact ⟨below_step HB.out HB4.out, .inl ⟨rfl, HNO.out⟩⟩
theorem rparse_q (s : ByteArray) (w : World) : Calls Tryd.prog 21 #[.string s] w (PPost s w) := by
  by_cases h : s.size = 29
  · exact rparse_29 s w h
  · exact rparse_short s w h
end Go.Proofs.YtmmommcgjafbbaaDoor.Da

