import Derived.Test.YtkbbjjegpjdpeaaDoorZSx

/- (not yet a claim) what StoreGets needs besides: the row of what was put lies apart from the store -/
namespace Go.Proofs.YtkbbjjegpjdpeaaDoor.S
open Go.RowKit Go.Proofs.YtkbbjjegpjdpeaaDoorW.PrintWords Go.Proofs.YtkbbjjegpjdpeaaDoorW.PrintLast Go.Proofs.YtkbbjjegpjdpeaaDoorW.PrintMore Go.Proofs.YtkbbjjegpjdpeaaDoor.G Go.Proofs.YtkbbjjegpjdpeaaDoor.V
set_option linter.unusedVariables false
set_option linter.unusedSimpArgs false
theorem oneB_refl (a : S35) : oneB a a = true := by simp [oneB, reqB, respB, fsB]
theorem Ex.and {w : World} {P Q : Nat → Prop} {x : S41} {r : Rf} (h : Ex w P x r) (k : Ex w Q x r) : Ex w (fun i => P i ∧ Q i) x r :=
  ⟨h.l4, h.g4, fun n ad e => ⟨h.b4 n ad e, k.b4 n ad e⟩, h.l5, h.g5, fun n ad e => ⟨h.b5 n ad e, k.b5 n ad e⟩, h.l7, h.g7, fun n ad e => ⟨h.b7 n ad e, k.b7 n ad e⟩, h.l8, h.g8, fun n ad e => ⟨h.b8 n ad e, k.b8 n ad e⟩⟩
theorem row_apart {W : World} {base g : Nat} {P : Nat → Prop} {A : Option Addr} {c : Nat} {ps : List (S41 × Rf)} {cap used : Int} {xs : List Nd} (h : L5 W base P A c ps) (hs : StoreAt W g cap used xs) (ad : Addr) (e : A = some ad) (k : Nat) (hk : Mine g xs k) : k ≠ ad.block := by
  subst e
  obtain ⟨inner, ho, -⟩ := h.row
  obtain ⟨_, ⟨h0, _⟩ | ⟨gg, cc, cur, h1, _, h2, _⟩⟩ := ho
  · cases h0
  · simp only [Value.slice.injEq, Option.some.injEq] at h1
    obtain ⟨rfl, -⟩ := h1
    intro e
    simp only at e
    subst e
    rcases hk with rfl | ⟨d, hd, rfl⟩
    · rw [hs.head] at h2; simp at h2
    · obtain ⟨p', n', h3⟩ := hs.mem d hd
      rw [h3] at h2; simp at h2
def New (w w' : World) (xs l' : List Nd) : Prop := ∀ d ∈ l', d ∈ xs ∨ Ex w' (fun k => w.heap.size ≤ k) d.x d.r
/-- the row of what was put, and the store's exchanges, do not meet -/
structure PutAt (W : World) (B : Nat) (xs : List Nd) (A : Option Addr) (c : Nat) (put : List (S41 × Rf)) : Prop where
  row : L5 W B (fun k => k < B) A c put
  far : ∀ ad, A = some ad → ∀ d ∈ xs, Ex W (fun k => k ≠ ad.block) d.x d.r
theorem PutAt.grow {W W' : World} {B : Nat} {xs : List Nd} {A : Option Addr} {c : Nat} {put : List (S41 × Rf)} (h : PutAt W B xs A c put) (hb : Below W.heap.size W W') : PutAt W' B xs A c put :=
  ⟨h.row.grow hb, fun ad e d hd => (h.far ad e d hd).below hb⟩
theorem PutAt.sub {W : World} {B : Nat} {xs l' : List Nd} {A : Option Addr} {c : Nat} {put : List (S41 × Rf)} (h : PutAt W B xs A c put) (hm : ∀ d ∈ l', d ∈ xs) : PutAt W B l' A c put :=
  ⟨h.row, fun ad e d hd => h.far ad e d (hm d hd)⟩
theorem PutAt.turn {W W' : World} {B g : Nat} {cap : Int} {xs l' : List Nd} {A : Option Addr} {c : Nat} {put : List (S41 × Rf)} (h : PutAt W B xs A c put) (hi : Inv W B g cap xs) (ho : Only (Mine g xs) W W') (hn : New W W' xs l') : PutAt W' B l' A c put := by
  refine ⟨⟨own35_move h.row.row (fun k hk => ?_), fun p hp => (h.row.ex p hp).only ho (fun k hk hm => by have := hi.ge k hm; omega), h.row.lo⟩, fun ad e d hd => ?_⟩
  · rcases A with _ | ad
    · simp [Value.ownBlock] at hk
    · have hl := l5_lt h.row ad rfl
      simp only [own_block, Option.some.injEq] at hk
      subst hk
      exact ho.block _ hl.2 (fun hm => row_apart h.row hi.st ad rfl _ hm rfl)
  · rcases hn d hd with hd | hx
    · exact (((hi.ex d hd).and (h.far ad e d hd)).only ho (fun k hk hm => hk.1 hm)).mono (fun k hk => hk.2)
    · subst e
      have hl := l5_lt h.row ad rfl
      exact hx.mono (fun k hk => by omega)
theorem app46_eq2 (w3 : World) (base : Nat) (A : Option Addr) (c : Nat) (ps : List (S41 × Rf)) (x : S41) (r : Rf) (hown : OwnRow RX 35 11 w3 base (.slice A ps.length c) ps) (hb : base ≤ w3.heap.size) (hl : ps.length + 1 ≤ 4000000) :
    ∃ A' c' w', (Builtin.append_ #[46, 46] 46 #[.slice A ps.length c, .slice (some ⟨w3.heap.size, 0, none⟩) 1 1]).run Tryd.prog (w3.alloc (.cells (Vx x r) 35)) = .ok (.slice A' (ps.length + 1) c') w' ∧
      OwnRow RX 35 11 w' base (.slice A' (ps ++ [(x, r)]).length c') (ps ++ [(x, r)]) ∧ (w3.alloc (.cells (Vx x r) 35)).grownBy w' (Value.slice A ps.length c).ownBlock ∧
      (∀ ad, A' = some ad → (∃ ad0, A = some ad0 ∧ ad0.block = ad.block) ∨ w3.heap.size ≤ ad.block) := by
  obtain ⟨inner, ho, hr⟩ := hown.below (below_alloc (Below.refl _ _) (.cells (Vx x r) 35))
  obtain ⟨i, h1, h2, h3, h4⟩ := info35'
  obtain ⟨v', w', hrun, how, hg, -, hwh⟩ := run_append_own_at (P := Tryd.prog) (w3.alloc (.cells (Vx x r) 35)) base 46 46 35 i _ 11 184 Tryd.underlying46 h1 h2 h3 h4 rfl (by omega) (.slice A ps.length c) ps.length inner ho ⟨w3.heap.size, 0, none⟩ 1 1 (Vx x r).toList rfl
    (fun j u hj => by
      rw [show (⟨w3.heap.size, 0, none⟩ : Addr).add j = ⟨w3.heap.size, j, none⟩ by unfold Addr.add; split <;> simp_all]
      rw [cells_of (heap_alloc_new w3 _) j]
      simpa using hj)
    (by simp [Vx, Value.oneCell']) (by simp only [maxLen]; omega) (by omega) (by simp; omega)
  have hor : OwnRow RX 35 11 w' base v' (ps ++ [(x, r)]) := ⟨inner ++ (Vx x r).toList, by simpa using how, hr.snoc rfl rfl⟩
  obtain ⟨A', c', rfl, -⟩ := hor.reads
  refine ⟨A', c', w', by simpa using hrun, hor, hg, fun ad e => ?_⟩
  subst e
  rcases hwh with hwh | hwh
  · rcases A with _ | ad0
    · simp [Value.ownBlock] at hwh
    · simp only [own_block, Option.some.injEq] at hwh
      exact .inl ⟨ad0, rfl, hwh.symm⟩
  · simp only [own_block, Option.some.injEq, World.size_alloc] at hwh
    exact .inr (by omega)
theorem put_snoc {W w3 w5 : World} {B g : Nat} {cap : Int} {xs : List Nd} {A A' : Option Addr} {c c' : Nat} {put : List (S41 × Rf)} {x : S41} {r : Rf} (h : PutAt W B xs A c put) (hi : Inv W B g cap xs) (hB : B ≤ W.heap.size) (h3 : Below W.heap.size W w3) (hE : Ex W (fun k => k < B) x r)
    (hown : OwnRow RX 35 11 w5 B (.slice A' (put ++ [(x, r)]).length c') (put ++ [(x, r)])) (hg : (w3.alloc (.cells (Vx x r) 35)).grownBy w5 (Value.slice A put.length c).ownBlock)
    (hw : ∀ ad, A' = some ad → (∃ ad0, A = some ad0 ∧ ad0.block = ad.block) ∨ w3.heap.size ≤ ad.block) : PutAt w5 B xs A' c' (put ++ [(x, r)]) ∧ Inv w5 B g cap xs := by
  have hs := h3.size
  have keep : ∀ k, k < W.heap.size → (∀ ad, A = some ad → k ≠ ad.block) → w5.heap[k]? = W.heap[k]? := by
    intro k hk hn
    rw [hg.block k (by simp; omega) (by
      rcases A with _ | ad
      · simp [Value.ownBlock]
      · have := hn ad rfl
        simpa [Value.ownBlock] using this), heap_alloc_old _ _ _ (by omega), h3.block k hk]
  have hall : ∀ d ∈ xs, Ex W (fun k => (¬ Mine g xs k ∧ k < W.heap.size) ∧ ∀ ad, A = some ad → k ≠ ad.block) d.x d.r := by
    intro d hd
    rcases A with _ | ad
    · exact (hi.ex d hd).lt.mono (fun k hk => ⟨hk, fun ad e => by cases e⟩)
    · exact ((hi.ex d hd).lt.and (h.far ad rfl d hd)).mono (fun k hk => ⟨hk.1, fun ad' e => by cases e; exact hk.2⟩)
  have hall5 := fun d hd => (hall d hd).keep (w' := w5) (fun k hk => keep k hk.1.2 hk.2)
  refine ⟨⟨h.row.snoc h3 hE hB hown hg, fun ad e d hd => ?_⟩, ⟨hi.st.keep ?_ (fun d hd => ?_), hi.ge, fun d hd => (hall5 d hd).mono (fun k hk => hk.1.1), hi.sm, hi.cap0, hi.cap1, hi.room⟩⟩
  · rcases hw ad e with ⟨ad0, e0, hb⟩ | hb
    · exact (hall5 d hd).mono (fun k hk => by rw [← hb]; exact hk.2 ad0 e0)
    · exact (hall5 d hd).mono (fun k hk => by have := hk.1.2; omega)
  · exact keep _ (blk_lt' hi.st.head) (fun ad e => row_apart h.row hi.st ad e _ (.inl rfl))
  · exact keep _ (hi.st.lt d hd) (fun ad e => row_apart h.row hi.st ad e _ (.inr ⟨d, hd, rfl⟩))

theorem get_sub {q : S31} {xs l' : List Nd} (h : Get q xs l') : ∀ d ∈ l', d ∈ xs := by
  rcases h with ⟨_, rfl⟩ | ⟨l1, e, l2, hs, _, rfl⟩
  · exact fun d hd => hd
  · intro d hd
    rw [hs]
    rcases List.mem_cons.1 hd with rfl | hd
    · simp
    · rcases List.mem_append.1 hd with hd | hd
      · exact List.mem_append_left _ hd
      · exact List.mem_append_right _ (List.mem_cons_of_mem _ hd)
theorem step_sub {k cap : Int} {x : S41} {xs l' : List Nd} (h : Step k cap x xs l') (hk : k = 1 ∨ k = 2 ∨ k = 3) : ∀ d ∈ l', d ∈ xs := by
  obtain ⟨h0, h1, h2, h3⟩ := h
  rcases hk with hk | hk | hk
  · exact get_sub (h1 hk)
  · intro d hd; rw [h2 hk] at hd; exact (List.mem_filter.1 hd).1
  · intro d hd; rw [h3 hk] at hd; exact (List.mem_filter.1 hd).1
theorem inv_put2 {w : World} {B g : Nat} {cap : Int} {xs : List Nd} {x : S41} {r : Rf} (h : Inv w B g cap xs) (hB : B ≤ w.heap.size) (hx : Ex w (fun k => ¬ Mine g xs k) x r) (hs : Sm x) :
    Calls Tryd.prog 21 #[.pointer (some (at0 g)), .agg (Vx x r)] w fun e w' => Only (Mine g xs) w w' ∧ ∃ l' c, e = .returned (.int .i64 c) ∧ Inv w' B g cap l' ∧ Put cap x xs l' ∧ New w w' xs l' := by
  refine (put_made w g cap xs _ x r h.st (fun d hd => ⟨h.ex d hd, (h.sm d hd).1⟩) (fun k hk => hk) (fun d hd => by have := h.z64 d hd; omega) h.room (by have := h.len; omega) h.cap0 h.cap1 hx hs).mono ?_
  rintro e w' ⟨ho, h1 | h1 | h1⟩
  · obtain ⟨h1, rfl, h3⟩ := h1
    exact ⟨ho, xs, 1, rfl, h.same h3 ho, .inl ⟨h1, rfl⟩, fun d hd => .inl hd⟩
  · obtain ⟨h1, h2, rfl, h3⟩ := h1
    exact ⟨ho, _, 6, rfl, h.sub h3 ho (fun d hd => (List.mem_filter.1 hd).1) (zs_filter_le _ _ (fun d hd => by have := h.z64 d hd; omega)), .inr (.inl ⟨h1, h2, rfl⟩), fun d hd => .inl (List.mem_filter.1 hd).1⟩
  · obtain ⟨h1, h2, rfl, kept, gone, d, hk, hd, hz, hb, hE, hr, ht, h3⟩ := h1
    refine ⟨ho, _, 0, rfl, h.more h3 ho (ys_mem hk) (by rw [hd]; exact hr) (by rw [hd]; exact hz) (by rw [hd]; exact hs) hB hb hE, .inr (.inr ⟨h1, h2, kept, gone, d, hk, hd, hr, ht, rfl⟩), fun e he => ?_⟩
    rcases List.mem_cons.1 he with rfl | he
    · exact .inr (hE.mono (fun k hk => hk.1))
    · exact .inl (ys_mem hk e he)
set_option maxRecDepth 100000 in
set_option maxHeartbeats 4000000 in
theorem does2_0 (w : World) (B g : Nat) (cap k : Int) (xs : List Nd) (x : S41) (r : Rf) (h : Inv w B g cap xs) (hB : B ≤ w.heap.size) (hx : Ex w (fun k => ¬ Mine g xs k) x r) (hs : Sm x) (hk0 : 0 ≤ k) (hk1 : k ≤ 255) (hk : k % 4 = 0) :
    Calls Tryd.prog 10 #[.pointer (some (at0 g)), .agg #[.int .u8 k, .string x.f0.f0, .string x.f0.f1, .string x.f0.f2, .string x.f0.f3, .slice r.A4 x.f0.f4.length r.c4, .slice r.A5 x.f0.f5.length r.c5, .int .i64 x.f1.f0, .slice r.A7 x.f1.f1.length r.c7, .slice r.A8 x.f1.f2.length r.c8, .int .i64 x.f2, .int .i64 x.f3]] w
      fun e w' => (∃ v, e = .returned v) ∧ Only (Mine g xs) w w' ∧ ∃ l', Inv w' B g cap l' ∧ Step (k % 4) cap x xs l' ∧ New w w' xs l' := by
  have hr : IntKind.u8.wrap (Int.tmod k 4) = k % 4 := by rw [Int.tmod_eq_emod_of_nonneg hk0, IntKind.wrap_u8]; omega
  have t0 : (k % 4 == 0) = true := beq_iff_eq.2 hk
  have HK : Hid (k % 4 = 0) := Lib.hid hk
  have HI := Lib.hid h
  have HX := Lib.hid hx
  clear h hx hk
  go_enter Tryd.func10, Tryd.ntmps10
  go_upto_region 2 with fail
  obtain ⟨W2, hW2⟩ : ∃ W, W = ((w.alloc (.cells #[.int .u8 k, .string x.f0.f0, .string x.f0.f1, .string x.f0.f2, .string x.f0.f3, .slice r.A4 x.f0.f4.length r.c4, .slice r.A5 x.f0.f5.length r.c5, .int .i64 x.f1.f0, .slice r.A7 x.f1.f1.length r.c7, .slice r.A8 x.f1.f2.length r.c8, .int .i64 x.f2, .int .i64 x.f3] 37)).alloc (.cells #[.string x.f0.f0, .string x.f0.f1, .string x.f0.f2, .string x.f0.f3, .slice r.A4 x.f0.f4.length r.c4, .slice r.A5 x.f0.f5.length r.c5] 31)) := ⟨_, rfl⟩
  rw [← hW2]
  have hN : W2.heap[w.heap.size + 1]? = some (.cells #[.string x.f0.f0, .string x.f0.f1, .string x.f0.f2, .string x.f0.f3, .slice r.A4 x.f0.f4.length r.c4, .slice r.A5 x.f0.f5.length r.c5] 31 (0, 0)) := by
    have h1 := heap_alloc_new (w.alloc (.cells #[.int .u8 k, .string x.f0.f0, .string x.f0.f1, .string x.f0.f2, .string x.f0.f3, .slice r.A4 x.f0.f4.length r.c4, .slice r.A5 x.f0.f5.length r.c5, .int .i64 x.f1.f0, .slice r.A7 x.f1.f1.length r.c7, .slice r.A8 x.f1.f2.length r.c8, .int .i64 x.f2, .int .i64 x.f3] 37)) (.cells #[.string x.f0.f0, .string x.f0.f1, .string x.f0.f2, .string x.f0.f3, .slice r.A4 x.f0.f4.length r.c4, .slice r.A5 x.f0.f5.length r.c5] 31)
    rw [World.size_alloc] at h1
    rw [hW2]
    exact h1
  have hA : W2.heap[w.heap.size]? = some (.cells #[.int .u8 k, .string x.f0.f0, .string x.f0.f1, .string x.f0.f2, .string x.f0.f3, .slice r.A4 x.f0.f4.length r.c4, .slice r.A5 x.f0.f5.length r.c5, .int .i64 x.f1.f0, .slice r.A7 x.f1.f1.length r.c7, .slice r.A8 x.f1.f2.length r.c8, .int .i64 x.f2, .int .i64 x.f3] 37 (0, 0)) := by
    rw [hW2, heap_alloc_old _ _ _ (by simp)]
    exact heap_alloc_new w _
  have hBe : Below w.heap.size w W2 := by
    rw [hW2]
    exact below_alloc (below_alloc (Below.refl _ _) _) _
  have BE := Lib.hid hBe
  clear hW2 hBe
  have ak := c_of hA 0 (v := .int .u8 k) rfl
  have l0 := c_of hA 1 (v := .string x.f0.f0) rfl
  have l1 := c_of hA 2 (v := .string x.f0.f1) rfl
  have l2 := c_of hA 3 (v := .string x.f0.f2) rfl
  have l3 := c_of hA 4 (v := .string x.f0.f3) rfl
  have l4 := c_of hA 5 (v := .slice r.A4 x.f0.f4.length r.c4) rfl
  have l5 := c_of hA 6 (v := .slice r.A5 x.f0.f5.length r.c5) rfl
  have l6 := c_of hA 7 (v := .int .i64 x.f1.f0) rfl
  have l7 := c_of hA 8 (v := .slice r.A7 x.f1.f1.length r.c7) rfl
  have l8 := c_of hA 9 (v := .slice r.A8 x.f1.f2.length r.c8) rfl
  have l9 := c_of hA 10 (v := .int .i64 x.f2) rfl
  have l10 := c_of hA 11 (v := .int .i64 x.f3) rfl
  have q0 := c_of hN 0 (v := .string x.f0.f0) rfl
  have q1 := c_of hN 1 (v := .string x.f0.f1) rfl
  have q2 := c_of hN 2 (v := .string x.f0.f2) rfl
  have q3 := c_of hN 3 (v := .string x.f0.f3) rfl
  have q4 := c_of hN 4 (v := .slice r.A4 x.f0.f4.length r.c4) rfl
  have q5 := c_of hN 5 (v := .slice r.A5 x.f0.f5.length r.c5) rfl
  clear hN hA
  go_wp2_with (first | (go_at_call 22; refine (theirs_calls _ x r).mono ?_; rintro e w3 ⟨rfl, hb3⟩; have HB3 := Lib.hid (below_step BE.out hb3); clear hb3) | (go_at_call 21; refine (inv_put2 (HI.out.grow HB3.out) (by have := HB3.out.size; omega) (HX.out.below HB3.out) hs).mono ?_; rintro e w5 ⟨ho5, l', c5, rfl, hi5, hp5, hn5⟩; have HO := Lib.hid ((Only.below HB3.out).trans ho5); have HI5 := Lib.hid hi5; have HP5 := Lib.hid hp5; have HN5 : Hid (New w w5 xs l') := Lib.hid (fun d hd => (hn5 d hd).imp id (fun h => h.mono (fun k hk => by have := HB3.out.size; omega))); clear ho5 hi5 hp5 hn5))
  go_end0
  exact ⟨⟨_, rfl⟩, HO.out, _, HI5.out, (by rw [HK.out]; exact ⟨fun _ => HP5.out, (fun e => absurd e (by decide)), (fun e => absurd e (by decide)), (fun e => absurd e (by decide))⟩), HN5.out⟩
theorem does2_calls (w : World) (B g : Nat) (cap k : Int) (xs : List Nd) (x : S41) (r : Rf) (h : Inv w B g cap xs) (hB : B ≤ w.heap.size) (hx : Ex w (fun k => ¬ Mine g xs k) x r) (hs : Sm x) (hk0 : 0 ≤ k) (hk1 : k ≤ 255) :
    Calls Tryd.prog 10 #[.pointer (some (at0 g)), .agg #[.int .u8 k, .string x.f0.f0, .string x.f0.f1, .string x.f0.f2, .string x.f0.f3, .slice r.A4 x.f0.f4.length r.c4, .slice r.A5 x.f0.f5.length r.c5, .int .i64 x.f1.f0, .slice r.A7 x.f1.f1.length r.c7, .slice r.A8 x.f1.f2.length r.c8, .int .i64 x.f2, .int .i64 x.f3]] w
      fun e w' => (∃ v, e = .returned v) ∧ Only (Mine g xs) w w' ∧ ∃ l', Inv w' B g cap l' ∧ Step (k % 4) cap x xs l' ∧ New w w' xs l' := by
  by_cases hk : k % 4 = 0
  · exact does2_0 w B g cap k xs x r h hB hx hs hk0 hk1 hk
  · refine (does_calls w B g cap k xs x r h hB hx hs hk0 hk1).mono ?_
    rintro e w' ⟨hv, ho, l', hi, hst⟩
    exact ⟨hv, ho, l', hi, hst, fun d hd => .inl (step_sub hst (by omega) d hd)⟩
def anyB (x : S41) (ps : List (S41 × Rf)) : Bool := ps.any (fun p => oneB (to35 x) (to35 p.1))
theorem any_snoc {x y : S41} {s : Rf} {ps : List (S41 × Rf)} {j : Nat} (h : ps[j]? = some (y, s)) : anyB x (ps.take (j + 1)) = (anyB x (ps.take j) || oneB (to35 x) (to35 y)) := by
  unfold anyB; rw [List.take_add_one, h, Option.toList_some, List.any_append]; simp
def From (xs : List Nd) (ps : List (S41 × Rf)) : Prop := ∀ d ∈ xs, ∃ p ∈ ps, p.1 = d.x
theorem any_of {xs : List Nd} {ps : List (S41 × Rf)} (h : From xs ps) (d : Nd) (hd : d ∈ xs) : anyB d.x ps = true := by
  obtain ⟨p, hp, e⟩ := h d hd
  exact List.any_eq_true.2 ⟨p, hp, by rw [e]; exact oneB_refl _⟩
theorem From.sub {xs l' : List Nd} {ps : List (S41 × Rf)} (h : From xs ps) (hm : ∀ d ∈ l', d ∈ xs) : From l' ps := fun d hd => h d (hm d hd)
theorem from_put {cap : Int} {x : S41} {r : Rf} {xs l' : List Nd} {ps : List (S41 × Rf)} (h : From xs ps) (hp : Put cap x xs l') : From l' (ps ++ [(x, r)]) := by
  have h0 : ∀ d ∈ xs, ∃ p ∈ ps ++ [(x, r)], p.1 = d.x := fun d hd => by
    obtain ⟨p, hp, e⟩ := h d hd
    exact ⟨p, List.mem_append_left _ hp, e⟩
  rcases hp with ⟨_, rfl⟩ | ⟨_, _, rfl⟩ | ⟨_, _, kept, gone, d, hy, hd, _, _, rfl⟩
  · exact h0
  · exact fun d hd => h0 d (List.mem_filter.1 hd).1
  · intro e he
    rcases List.mem_cons.1 he with rfl | he
    · exact ⟨(x, r), by simp, hd.symm⟩
    · exact h0 e (ys_mem hy e he)
theorem best_match {q : S31} {xs : List Nd} {d : Nd} (h : best q xs = some d) : matchB d.x q = true := by
  have : ∀ (l : List Nd) (o : Option Nd), (∀ b, o = some b → matchB b.x q = true) → l.foldl (pick q) o = some d → matchB d.x q = true := by
    intro l
    induction l with
    | nil => intro o ho h; exact ho d h
    | cons a t ih =>
      intro o ho h
      refine ih _ ?_ h
      intro b hb
      cases o with
      | none =>
        simp only [pick] at hb
        split at hb
        · rename_i hm; obtain rfl := Option.some.inj hb; exact hm
        · cases hb
      | some c =>
        simp only [pick] at hb
        split at hb
        · rename_i hm; obtain rfl := Option.some.inj hb; exact (Bool.and_eq_true _ _ ▸ hm).1
        · exact ho b hb
  exact this xs none (fun b hb => by cases hb) h
theorem put_head {cap : Int} {x : S41} {xs l' : List Nd} (h : Put cap x xs l') (hr : rightB x = true) (hc : sizeI x ≤ cap) : ∃ d t, l' = d :: t ∧ d.x = x := by
  rcases h with ⟨h, _⟩ | ⟨_, h, _⟩ | ⟨_, _, kept, gone, d, hy, hd, _, _, rfl⟩
  · rw [hr] at h; cases h
  · omega
  · exact ⟨d, kept, rfl, hd⟩
end Go.Proofs.YtkbbjjegpjdpeaaDoor.S

