import Derived.Test.YtakdfjehjnhikaaQm
namespace Go.Proofs.Ytakdfjehjnhikaa.Q
open Go.RowKit Go.Shelf Go.Proofs.YtakdfjehjnhikaaW.PrintWords Go.Proofs.YtakdfjehjnhikaaW.PrintLast Go.Proofs.YtakdfjehjnhikaaW.PrintMore Go.Proofs.Ytakdfjehjnhikaa.G
set_option linter.unusedVariables false
set_option linter.unusedSimpArgs false

/-- a call of a function value in a region that draws its order -/
theorem goesV_ {ops : Array Oper} {Q : Exit → Act → World → Prop} {oi : Oper} {N : Option Tmp} {a : Act} {w : World} {K : Act → World → Prop} {f : FuncId} {fn : Func} {t : Operand} {cs : Array Value} {aas : Array Operand} {ts : Array TypeId} (hf : Try.prog.funcs[f]? = some fn) (hname : (fn.name == "runtime.NumGoroutine") = false) (hb : fn.body.isSome = true) (args : Array Value)
    (hw : Region.wanted oi (yielded ops a.tmps) = true) (hN : oi.dst = N) (hop : oi.op = .call { callee := .value t, args := aas, argTypes := ts }) (ht : a.eval t = .func (.func f) #[] cs) (hargs : aas.map a.eval ++ cs = args)
    (h : Calls Try.prog f args w fun e w' => ∃ v, e = .returned v ∧ K (a.put N v) w') : if Region.wanted oi (yielded ops a.tmps) = true then Oper.wp Try.prog oi a w K Q else K (a.put N undef) w := by
  refine call_ f args hw hN ?_ h
  have he := enters_ hf hname hb args w
  unfold execOp
  subst hargs
  simp [hop, resolve, Deferred.ofValue, invoke, ht, he]

theorem mknamed_at (w : World) (n : ByteArray) : Calls Try.prog 38 #[.string n] w fun e w' => ∃ P, e = .returned (.func (.func 45) #[] #[.pointer (some ⟨P, 0, none⟩)]) ∧ (w'.cell? ⟨P, 0, none⟩ = some (.string n) ∧ P < w'.heap.size) ∧ Below w.heap.size w w' := by
  refine (mknamed_calls w n).mono ?_
  rintro e w' ⟨rfl, rfl⟩
  exact ⟨_, rfl, ⟨(Boxed.new w 9 _).cell, (Boxed.new w 9 (.string n)).lt⟩, below_alloc (Below.refl _ _) _⟩

theorem find_made (w : World) (g : Nat) (s : TS) (x : S29) (h : TabAt w g s) (hlen : s.l.length ≤ 140737488351232) : Calls Try.prog 23 #[.pointer (some ⟨g, 0, none⟩), .agg #[.string x.f0, .string x.f1]] w fun e w' => e = .returned (.tuple #[.int .i64 (s.last (sameAs x)), .int .i64 (s.last (namedAs x.f0))]) ∧ Below w.heap.size w w' := by
  have HT := Lib.hid h
  have hgl : g < w.heap.size := by obtain ⟨A, c, hh, -⟩ := h; exact blk_lt' hh
  clear h
  go_enter Try.func23, Try.ntmps23
  go_upto_region 4 with (first | (go_at_call 33; refine (ok_made _ g s (HT.out.below (below_alloc (below_alloc (Below.refl _ _) _) _))).mono ?_; rintro e w' ⟨rfl, h_⟩; obtain rfl := h_.symm))
  have bT := (Boxed.new w 23 (.pointer (some ⟨g, 0, none⟩))).alloc (.cells #[.string x.f0, .string x.f1] 29)
  have bX := World.alloc_heap_new (w.alloc (.cells #[.pointer (some ⟨g, 0, none⟩)] 23)) (.cells #[.string x.f0, .string x.f1] 29)
  rw [World.size_alloc] at bX
  have hBA : Below w.heap.size w ((w.alloc (.cells #[.pointer (some ⟨g, 0, none⟩)] 23)).alloc (.cells #[.string x.f0, .string x.f1] 29)) := below_alloc (below_alloc (Below.refl _ _) _) _
  have hsz : ((w.alloc (.cells #[.pointer (some ⟨g, 0, none⟩)] 23)).alloc (.cells #[.string x.f0, .string x.f1] 29)).heap.size = w.heap.size + 2 := by simp
  generalize ((w.alloc (.cells #[.pointer (some ⟨g, 0, none⟩)] 23)).alloc (.cells #[.string x.f0, .string x.f1] 29)) = WA at bT bX hBA hsz ⊢
  have S2 : Hid (∀ W', Below WA.heap.size WA W' → Calls Try.prog 39 #[.func (.func 41) #[] #[.pointer (some ⟨w.heap.size + 1, 0, none⟩)], .pointer (some ⟨w.heap.size, 0, none⟩)] W' fun e w' => e = .returned (.int .i64 (s.last (sameAs x))) ∧ Below W'.heap.size W' w') := Lib.hid (fun W' hb =>
    last_same W' (sameAs x) (w.heap.size + 1) w.heap.size g s (HT.out.below (below_step hBA hb)) (by have := hb.size; omega) (pw_cell_below hb bT.cell) (by have := hb.size; omega) hlen
      (fun W z hW => same_calls W _ x z ((hW.block _ (by have := hb.size; omega)).trans ((hb.block _ (by omega)).trans bX))))
  have S7 : Hid (∀ W' P, Below WA.heap.size WA W' → (W'.cell? ⟨P, 0, none⟩ = some (.string x.f0) ∧ P < W'.heap.size) → Calls Try.prog 39 #[.func (.func 45) #[] #[.pointer (some ⟨P, 0, none⟩)], .pointer (some ⟨w.heap.size, 0, none⟩)] W' fun e w' => e = .returned (.int .i64 (s.last (namedAs x.f0))) ∧ Below W'.heap.size W' w') := Lib.hid (fun W' P hb hP =>
    last_named W' (namedAs x.f0) P w.heap.size g s (HT.out.below (below_step hBA hb)) hP.2 (pw_cell_below hb bT.cell) (by have := hb.size; omega) hlen
      (fun W z hW => named_calls W _ x.f0 z (pw_cell_below hW hP.1) (Nat.lt_of_lt_of_le hP.2 hW.size)))
  have HX0 := Lib.hid (box0 bX)
  have HBA := Lib.hid hBA
  clear bT bX hBA hsz HT hgl
  refine start_ (n := 10) (S := fun w' => w'.cell? ⟨w.heap.size + 1, 0, none⟩ = some (.string x.f0)) (ds := []) #[false, false, false, false, false, false, false, false, false, false] (by kernel_rfl) rfl rfl (HX0.out) (fun hHeld => ?_)
  refine pure_ (i := 0) (N := some 11) (v := ?_) (a' := ?_) #[true, false, false, false, false, false, false, false, false, false] rfl rfl (by kernel_rfl) (fun _ _ _ h => h) (Or.inl ⟨by rfl, ?_⟩) ?_ ?_
  rotate_left
  · intro w'
    go_simp
    with_reducible rfl
  rotate_left
  · simp only [Act.put, List.setIfInBounds_toArray, List.set_cons_zero, List.set_cons_succ, i64_w, i32_w]
    rfl
  refine pure_ (i := 1) (N := some 12) (v := ?_) (a' := ?_) #[true, true, false, false, false, false, false, false, false, false] rfl rfl (by kernel_rfl) (fun _ _ _ h => h) (Or.inl ⟨by rfl, ?_⟩) ?_ ?_
  rotate_left
  · intro w'
    go_simp
    with_reducible rfl
  rotate_left
  · simp only [Act.put, List.setIfInBounds_toArray, List.set_cons_zero, List.set_cons_succ, i64_w, i32_w]
    rfl
  refine pure_ (i := 3) (N := some 14) (v := ?_) (a' := ?_) #[true, true, false, true, false, false, false, false, false, false] rfl rfl (by kernel_rfl) (fun _ _ _ h => h) (Or.inl ⟨by rfl, ?_⟩) ?_ ?_
  rotate_left
  · intro w'
    go_simp
    with_reducible rfl
  rotate_left
  · simp only [Act.put, List.setIfInBounds_toArray, List.set_cons_zero, List.set_cons_succ, i64_w, i32_w]
    rfl
  refine pure_ (i := 4) (N := some 15) (v := ?_) (a' := ?_) #[true, true, false, true, true, false, false, false, false, false] rfl rfl (by kernel_rfl) (fun _ _ _ h => h) (Or.inl ⟨by rfl, ?_⟩) ?_ ?_
  rotate_left
  · intro w'
    go_simp
    with_reducible rfl
  rotate_left
  · simp only [Act.put, List.setIfInBounds_toArray, List.set_cons_zero, List.set_cons_succ, i64_w, i32_w]
    rfl
  refine take_ (i := 5) (N := some 16) (v := ?_) (a' := ?_) #[true, true, false, true, true, true, false, false, false, false] rfl rfl (by kernel_rfl) (fun _ _ _ h => h) (Or.inl ⟨by rfl, ?_⟩) hHeld ?_ ?_
  rotate_left
  · intro w' s0
    go_simp
    with_reducible rfl
  rotate_left
  · simp only [Act.put, List.setIfInBounds_toArray, List.set_cons_zero, List.set_cons_succ, i64_w, i32_w]
    rfl
  refine one_ (i := 2) (N := some 13) #[true, true, true, true, true, true, false, false, false, false] rfl rfl (by kernel_rfl) (by decide) (fun K hK => ?_)
  refine goesV_ Try.func39 (by kernel_rfl) rfl #[.func (.func 41) #[] #[.pointer (some ⟨w.heap.size + 1, 0, none⟩)], .pointer (some ⟨w.heap.size, 0, none⟩)] (by rfl) rfl rfl (by rfl) (by simp only [List.map_toArray, List.map_cons, List.map_nil, List.append_toArray, List.cons_append, List.nil_append]; rfl) ?_
  with_reducible refine (S2.out _ (below_drew (Below.refl _ WA))).mono ?_
  rintro e w2 ⟨rfl, hb2⟩
  refine ⟨_, rfl, ?_⟩
  refine hK.out _ _ (pw_cell_below (below_step (below_drew (Below.refl _ WA)) hb2) HX0.out) (fun hHeld => ?_)
  clear hK K
  refine norm_ (a' := ?_) ?_ ?_
  rotate_left
  · show Act.put _ (some 13) _ = _
    simp only [Act.put, List.setIfInBounds_toArray, List.set_cons_zero, List.set_cons_succ, i64_w, i32_w]
    rfl
  refine one_ (i := 6) (N := some 17) #[true, true, true, true, true, true, true, false, false, false] rfl rfl (by kernel_rfl) (by decide) (fun K hK => ?_)
  refine goes_ Try.func38 (by kernel_rfl) rfl #[.string x.f0] (by rfl) rfl rfl (by simp only [List.map_toArray, List.map_cons, List.map_nil]; rfl) ?_
  with_reducible refine (mknamed_at _ x.f0).mono ?_
  rintro e w6 ⟨P6, rfl, hP6, hb6⟩
  refine ⟨_, rfl, ?_⟩
  refine hK.out _ _ (pw_cell_below (below_step (below_step (below_drew (Below.refl _ WA)) hb2) hb6) HX0.out) (fun hHeld => ?_)
  clear hK K
  refine norm_ (a' := ?_) ?_ ?_
  rotate_left
  · show Act.put _ (some 17) _ = _
    simp only [Act.put, List.setIfInBounds_toArray, List.set_cons_zero, List.set_cons_succ, i64_w, i32_w]
    rfl
  refine one_ (i := 7) (N := some 18) #[true, true, true, true, true, true, true, true, false, false] rfl rfl (by kernel_rfl) (by decide) (fun K hK => ?_)
  refine goesV_ Try.func39 (by kernel_rfl) rfl #[.func (.func 45) #[] #[.pointer (some ⟨P6, 0, none⟩)], .pointer (some ⟨w.heap.size, 0, none⟩)] (by rfl) rfl rfl (by rfl) (by simp only [List.map_toArray, List.map_cons, List.map_nil, List.append_toArray, List.cons_append, List.nil_append]; rfl) ?_
  with_reducible refine (S7.out _ P6 (below_step (below_step (below_drew (Below.refl _ WA)) hb2) hb6) hP6).mono ?_
  rintro e w7 ⟨rfl, hb7⟩
  refine ⟨_, rfl, ?_⟩
  refine hK.out _ _ (pw_cell_below (below_step (below_step (below_step (below_drew (Below.refl _ WA)) hb2) hb6) hb7) HX0.out) (fun hHeld => ?_)
  clear hK K
  refine norm_ (a' := ?_) ?_ ?_
  rotate_left
  · show Act.put _ (some 18) _ = _
    simp only [Act.put, List.setIfInBounds_toArray, List.set_cons_zero, List.set_cons_succ, i64_w, i32_w]
    rfl
  refine pure_ (i := 8) (N := some 4) (v := ?_) (a' := ?_) #[true, true, true, true, true, true, true, true, true, false] rfl rfl (by kernel_rfl) (fun _ _ _ h => h) (Or.inl ⟨by rfl, ?_⟩) ?_ ?_
  rotate_left
  · intro w'
    go_simp
    with_reducible rfl
  rotate_left
  · simp only [Act.put, List.setIfInBounds_toArray, List.set_cons_zero, List.set_cons_succ, i64_w, i32_w]
    rfl
  refine pure_ (i := 9) (N := some 5) (v := ?_) (a' := ?_) #[true, true, true, true, true, true, true, true, true, true] rfl rfl (by kernel_rfl) (fun _ _ _ h => h) (Or.inl ⟨by rfl, ?_⟩) ?_ ?_
  rotate_left
  · intro w'
    go_simp
    with_reducible rfl
  rotate_left
  · simp only [Act.put, List.setIfInBounds_toArray, List.set_cons_zero, List.set_cons_succ, i64_w, i32_w]
    rfl
  refine done_ (by kernel_rfl) ?_
  have HB9 : Hid (Below WA.heap.size WA w7) := Lib.hid (below_step (below_step (below_step (below_drew (Below.refl _ WA)) hb2) hb6) hb7)
  clear hb2 hb6 hb7 hP6
  go_wp2
  go_ret2
  exact ⟨rfl, below_step HBA.out HB9.out⟩

/-- on a table that nobody made -/
theorem find_no (w : World) (p : Option Addr) (x : S29) (hno : ∀ W, Below w.heap.size w W → Calls Try.prog 33 #[.pointer p] W fun e w' => e = .returned (.bool false) ∧ w' = W) : Calls Try.prog 23 #[.pointer p, .agg #[.string x.f0, .string x.f1]] w fun e w' => e = .returned (.tuple #[.int .i64 (-1), .int .i64 (-1)]) ∧ Below w.heap.size w w' := by
  have Hno := Lib.hid hno
  clear hno
  go_enter Try.func23, Try.ntmps23
  go_wp2_with (first | (go_at_call 33; refine (Hno.out _ (by exact below_alloc (below_alloc (Below.refl _ _) _) _)).mono ?_; rintro e w' ⟨rfl, h_⟩; obtain rfl := h_.symm))
  go_ret2
  exact ⟨rfl, below_alloc (below_alloc (Below.refl _ _) _) _⟩
end Go.Proofs.Ytakdfjehjnhikaa.Q
