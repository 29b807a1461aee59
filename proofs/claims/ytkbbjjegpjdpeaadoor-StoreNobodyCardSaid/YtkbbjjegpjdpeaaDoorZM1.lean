import Derived.Test.YtkbbjjegpjdpeaaDoorZGx0
import Derived.Lib.Hide


/- (not yet a claim) the store's links: out and in -/
namespace Go.Proofs.YtkbbjjegpjdpeaaDoor.S
open Go.RowKit Go.Proofs.YtkbbjjegpjdpeaaDoorW.PrintWords Go.Proofs.YtkbbjjegpjdpeaaDoorW.PrintLast Go.Proofs.YtkbbjjegpjdpeaaDoorW.PrintMore Go.Proofs.YtkbbjjegpjdpeaaDoor.G
set_option linter.unusedVariables false
set_option linter.unusedSimpArgs false

/-- what a step may turn -/
structure Only (S : Nat → Prop) (w w' : World) : Prop where
  os : w'.os = w.os
  tape : w'.tape = w.tape
  output : w'.output = w.output
  size : w.heap.size ≤ w'.heap.size
  block : ∀ k, k < w.heap.size → ¬ S k → w'.heap[k]? = w.heap[k]?
theorem Only.refl (S : Nat → Prop) (w : World) : Only S w w := ⟨rfl, rfl, rfl, Nat.le_refl _, fun _ _ _ => rfl⟩
theorem Only.trans {S : Nat → Prop} {a b c : World} (h : Only S a b) (k : Only S b c) : Only S a c :=
  ⟨k.os.trans h.os, k.tape.trans h.tape, k.output.trans h.output, Nat.le_trans h.size k.size, fun i hi hs => (k.block i (Nat.lt_of_lt_of_le hi h.size) hs).trans (h.block i hi hs)⟩
theorem Only.mono {S T : Nat → Prop} {a b : World} (h : Only S a b) (hs : ∀ k, S k → T k) : Only T a b := ⟨h.os, h.tape, h.output, h.size, fun i hi ht => h.block i hi (fun e => ht (hs i e))⟩
theorem Only.setCell {S : Nat → Prop} {a w : World} (h : Only S a w) {p : Addr} (hp : S p.block) (u : Value) : Only S a (w.setCell p u) :=
  h.trans ⟨rfl, rfl, rfl, by simp, fun k hk hs => heap_setCell_other w p k u (fun e => hs (e ▸ hp))⟩
theorem Only.drew {S : Nat → Prop} {a w : World} (h : Only S a w) : Only S a w.drew := h.trans ⟨rfl, rfl, rfl, Nat.le_refl _, fun _ _ _ => rfl⟩
theorem Only.drewN {S : Nat → Prop} {a w : World} (h : Only S a w) (n : Nat) : Only S a (w.drewN n) := h.trans ⟨rfl, rfl, rfl, Nat.le_refl _, fun _ _ _ => rfl⟩
theorem Only.below {S : Nat → Prop} {a b : World} (h : Below a.heap.size a b) : Only S a b := ⟨h.os, h.tape, h.output, h.size, fun k hk _ => h.block k hk⟩

/-- where an exchange's four slices lie -/
structure Rf where
  A4 : Option Addr
  c4 : Nat
  A5 : Option Addr
  c5 : Nat
  A7 : Option Addr
  c7 : Nat
  A8 : Option Addr
  c8 : Nat
abbrev Vx (x : S41) (r : Rf) : Array Value := #[.string x.f0.f0, .string x.f0.f1, .string x.f0.f2, .string x.f0.f3, .slice r.A4 x.f0.f4.length r.c4, .slice r.A5 x.f0.f5.length r.c5, .int .i64 x.f1.f0, .slice r.A7 x.f1.f1.length r.c7, .slice r.A8 x.f1.f2.length r.c8, .int .i64 x.f2, .int .i64 x.f3]
abbrev Lc (x : S41) (r : Rf) (sz : Int) (p n : Option Addr) : Obj := .cells #[.string x.f0.f0, .string x.f0.f1, .string x.f0.f2, .string x.f0.f3, .slice r.A4 x.f0.f4.length r.c4, .slice r.A5 x.f0.f5.length r.c5, .int .i64 x.f1.f0, .slice r.A7 x.f1.f1.length r.c7, .slice r.A8 x.f1.f2.length r.c8, .int .i64 x.f2, .int .i64 x.f3, .int .i64 sz, .pointer p, .pointer n] 71 (0, 0)
abbrev Sc (cap used : Int) (f l : Option Addr) : Obj := .cells #[.bool true, .int .i64 cap, .int .i64 used, .pointer f, .pointer l] 56 (0, 0)
abbrev at0 (b : Nat) : Addr := ⟨b, 0, none⟩

theorem cells_of {w : World} {g : Nat} {cs : Array Value} {t : Nat} {m : Nat × Nat} (h : w.heap[g]? = some (.cells cs t m)) (j : Nat) : w.cell? ⟨g, j, none⟩ = cs[j]? := by
  simp [World.cell?, h]
theorem fr_of {w : World} {g : Nat} {cs : Array Value} {t : Nat} (h : w.heap[g]? = some (.cells cs t (0, 0))) (j : Nat) : w.frozen? ⟨g, j, none⟩ = false := frozen_of_row w g j cs t h
theorem blk_lt' {w : World} {g : Nat} {o : Obj} (h : w.heap[g]? = some o) : g < w.heap.size := (Array.getElem?_eq_some_iff.1 h).1

theorem set_same {w : World} {g i : Nat} {cs cs' : Array Value} {t : Nat} {v : Value} (hg : w.heap[g]? = some (.cells cs t (0, 0))) (e : cs.setIfInBounds i v = cs') : (w.setCell ⟨g, i, none⟩ v).heap[g]? = some (.cells cs' t (0, 0)) := e ▸ heap_setCell_same w g i cs t v hg
theorem set_other {w : World} {g i k : Nat} {o : Obj} {v : Value} (hk : w.heap[k]? = some o) (h : k ≠ g) : (w.setCell ⟨g, i, none⟩ v).heap[k]? = some o := (heap_setCell_other w ⟨g, i, none⟩ k v h).trans hk
theorem drew_heap {w : World} {k : Nat} {o : Obj} (h : w.heap[k]? = some o) : w.drew.heap[k]? = some o := h

theorem c_of {w : World} {g : Nat} {cs : Array Value} {t : Nat} {m : Nat × Nat} {v : Value} (h : w.heap[g]? = some (.cells cs t m)) (j : Nat) (e : cs[j]? = some v) : w.cell? ⟨g, j, none⟩ = some v := (cells_of h j).trans e
set_option maxRecDepth 100000 in
set_option maxHeartbeats 1000000 in
theorem out_00 (w : World) (g b : Nat) (x : S41) (r : Rf) (sz cap used : Int) (f l : Option Addr)
    (hg : w.heap[g]? = some (Sc cap used f l))
    (hb : w.heap[b]? = some (Lc x r sz none none))
    (e_g_b : g ≠ b)
    : Calls Tryd.prog 32 #[.pointer (some (at0 g)), .pointer (some (at0 b))] w fun e w' => (∃ v, e = .returned v) ∧ w'.heap[g]? = some (Sc cap (wrap64 (used - sz)) none none) ∧ w'.heap[b]? = some (Lc x r sz none none) ∧ Only (fun k => k = g ∨ k = b) w w' := by
  have NE_g_b := Lib.hid e_g_b
  have NE_b_g := Lib.hid e_g_b.symm
  clear e_g_b
  have Hg := Lib.hid hg
  have Hb := Lib.hid hb
  clear hg hb
  have HO0 : Hid (Only (fun k => k = g ∨ k = b) w w) := Lib.hid (Only.refl _ _)
  have cb12 := c_of Hb.out 12 (v := .pointer none) rfl
  have fb12 := fr_of Hb.out 12
  have cb13 := c_of Hb.out 13 (v := .pointer none) rfl
  have fb13 := fr_of Hb.out 13
  have cg3 := c_of Hg.out 3 (v := .pointer f) rfl
  have fg3 := fr_of Hg.out 3
  go_enter Tryd.func32, Tryd.ntmps32
  go_upto_region 3 with fail
  clear cb12 fb12 cb13 fb13 cg3 fg3
  obtain ⟨W1, hW1⟩ : ∃ W, W = (w.setCell ⟨g, 3, none⟩ (.pointer none)) := ⟨_, rfl⟩
  rw [← hW1]
  have Gg : Hid (W1.heap[g]? = some (Sc cap used none l)) := Lib.hid (by rw [hW1]; exact (set_same Hg.out rfl))
  have Gb : Hid (W1.heap[b]? = some (Lc x r sz none none)) := Lib.hid (by rw [hW1]; exact (set_other Hb.out NE_b_g.out))
  have HO1 : Hid (Only (fun k => k = g ∨ k = b) w W1) := Lib.hid (by rw [hW1]; exact (Only.setCell HO0.out (p := ⟨g, 3, none⟩) (by simp) _))
  clear Hg Hb hW1
  have Hg := Gg
  have Hb := Gb
  clear Gg Gb
  have cb12 := c_of Hb.out 12 (v := .pointer none) rfl
  have fb12 := fr_of Hb.out 12
  have cb13 := c_of Hb.out 13 (v := .pointer none) rfl
  have fb13 := fr_of Hb.out 13
  have cg4 := c_of Hg.out 4 (v := .pointer l) rfl
  have fg4 := fr_of Hg.out 4
  go_upto_region 6 with fail
  clear cb12 fb12 cb13 fb13 cg4 fg4
  obtain ⟨W2, hW2⟩ : ∃ W, W = (W1.setCell ⟨g, 4, none⟩ (.pointer none)) := ⟨_, rfl⟩
  rw [← hW2]
  have Gg : Hid (W2.heap[g]? = some (Sc cap used none none)) := Lib.hid (by rw [hW2]; exact (set_same Hg.out rfl))
  have Gb : Hid (W2.heap[b]? = some (Lc x r sz none none)) := Lib.hid (by rw [hW2]; exact (set_other Hb.out NE_b_g.out))
  have HO2 : Hid (Only (fun k => k = g ∨ k = b) w W2) := Lib.hid (by rw [hW2]; exact (Only.setCell HO1.out (p := ⟨g, 4, none⟩) (by simp) _))
  clear Hg Hb hW2
  have Hg := Gg
  have Hb := Gb
  clear Gg Gb
  have cb12 := c_of Hb.out 12 (v := .pointer none) rfl
  have fb12 := fr_of Hb.out 12
  have cb13 := c_of Hb.out 13 (v := .pointer none) rfl
  have fb13 := fr_of Hb.out 13
  go_upto_region 7 with fail
  clear cb12 fb12 cb13 fb13
  obtain ⟨W3, hW3⟩ : ∃ W, W = ((W2.setCell ⟨b, 12, none⟩ (.pointer none)).setCell ⟨b, 13, none⟩ (.pointer none)) := ⟨_, rfl⟩
  rw [← hW3]
  have Gg : Hid (W3.heap[g]? = some (Sc cap used none none)) := Lib.hid (by rw [hW3]; exact (set_other (set_other Hg.out NE_g_b.out) NE_g_b.out))
  have Gb : Hid (W3.heap[b]? = some (Lc x r sz none none)) := Lib.hid (by rw [hW3]; exact (set_same (set_same Hb.out rfl) rfl))
  have HO3 : Hid (Only (fun k => k = g ∨ k = b) w W3) := Lib.hid (by rw [hW3]; exact (Only.setCell (Only.setCell HO2.out (p := ⟨b, 12, none⟩) (by simp) _) (p := ⟨b, 13, none⟩) (by simp) _))
  clear Hg Hb hW3
  have Hg := Gg
  have Hb := Gb
  clear Gg Gb
  have cg2 := c_of Hg.out 2 (v := .int .i64 used) rfl
  have fg2 := fr_of Hg.out 2
  have cb11 := c_of Hb.out 11 (v := .int .i64 sz) rfl
  have fb11 := fr_of Hb.out 11
  refine start_ (n := 12) (S := fun w' => w'.cell? ⟨g, 2, none⟩ = some (.int .i64 used) ∧ w'.cell? ⟨b, 11, none⟩ = some (.int .i64 sz)) (ds := [11]) #[false, false, false, false, false, false, false, false, false, false, false, false] (by kernel_rfl) rfl rfl ⟨cg2, cb11⟩ (fun hHeld => ?_)
  refine pure_ (i := 0) (N := some 54) (v := ?_) (a' := ?_) #[true, false, false, false, false, false, false, false, false, false, false, false] rfl rfl (by kernel_rfl) (fun _ _ _ h => h) (Or.inl ⟨by rfl, ?_⟩) ?_ ?_
  rotate_left
  · intro w'
    go_simp
    with_reducible rfl
  rotate_left
  · simp only [Act.put, List.setIfInBounds_toArray, List.set_cons_zero, List.set_cons_succ, i64_w, i32_w]
    rfl
  refine pure_ (i := 1) (N := some 55) (v := ?_) (a' := ?_) #[true, true, false, false, false, false, false, false, false, false, false, false] rfl rfl (by kernel_rfl) (fun _ _ _ h => h) (Or.inl ⟨by rfl, ?_⟩) ?_ ?_
  rotate_left
  · intro w'
    go_simp
    with_reducible rfl
  rotate_left
  · simp only [Act.put, List.setIfInBounds_toArray, List.set_cons_zero, List.set_cons_succ, i64_w, i32_w]
    rfl
  refine pure_ (i := 2) (N := some 56) (v := ?_) (a' := ?_) #[true, true, true, false, false, false, false, false, false, false, false, false] rfl rfl (by kernel_rfl) (fun _ _ _ h => h) (Or.inl ⟨by rfl, ?_⟩) ?_ ?_
  rotate_left
  · intro w'
    go_simp
    with_reducible rfl
  rotate_left
  · simp only [Act.put, List.setIfInBounds_toArray, List.set_cons_zero, List.set_cons_succ, i64_w, i32_w]
    rfl
  refine pure_ (i := 4) (N := some 58) (v := ?_) (a' := ?_) #[true, true, true, false, true, false, false, false, false, false, false, false] rfl rfl (by kernel_rfl) (fun _ _ _ h => h) (Or.inl ⟨by rfl, ?_⟩) ?_ ?_
  rotate_left
  · intro w'
    go_simp
    with_reducible rfl
  rotate_left
  · simp only [Act.put, List.setIfInBounds_toArray, List.set_cons_zero, List.set_cons_succ, i64_w, i32_w]
    rfl
  refine pure_ (i := 5) (N := some 59) (v := ?_) (a' := ?_) #[true, true, true, false, true, true, false, false, false, false, false, false] rfl rfl (by kernel_rfl) (fun _ _ _ h => h) (Or.inl ⟨by rfl, ?_⟩) ?_ ?_
  rotate_left
  · intro w'
    go_simp
    with_reducible rfl
  rotate_left
  · simp only [Act.put, List.setIfInBounds_toArray, List.set_cons_zero, List.set_cons_succ, i64_w, i32_w]
    rfl
  refine pure_ (i := 6) (N := some 60) (v := ?_) (a' := ?_) #[true, true, true, false, true, true, true, false, false, false, false, false] rfl rfl (by kernel_rfl) (fun _ _ _ h => h) (Or.inl ⟨by rfl, ?_⟩) ?_ ?_
  rotate_left
  · intro w'
    go_simp
    with_reducible rfl
  rotate_left
  · simp only [Act.put, List.setIfInBounds_toArray, List.set_cons_zero, List.set_cons_succ, i64_w, i32_w]
    rfl
  refine take_ (i := 3) (N := some 57) (v := ?_) (a' := ?_) #[true, true, true, true, true, true, true, false, false, false, false, false] rfl rfl (by kernel_rfl) (fun _ _ _ h => h) (Or.inl ⟨by rfl, ?_⟩) hHeld ?_ ?_
  rotate_left
  · rintro w' ⟨s0, s1⟩
    go_simp
    with_reducible rfl
  rotate_left
  · simp only [Act.put, List.setIfInBounds_toArray, List.set_cons_zero, List.set_cons_succ, i64_w, i32_w]
    rfl
  refine take_ (i := 7) (N := some 61) (v := ?_) (a' := ?_) #[true, true, true, true, true, true, true, true, false, false, false, false] rfl rfl (by kernel_rfl) (fun _ _ _ h => h) (Or.inl ⟨by rfl, ?_⟩) hHeld ?_ ?_
  rotate_left
  · rintro w' ⟨s0, s1⟩
    go_simp
    with_reducible rfl
  rotate_left
  · simp only [Act.put, List.setIfInBounds_toArray, List.set_cons_zero, List.set_cons_succ, i64_w, i32_w]
    rfl
  refine pure_ (i := 8) (N := some 62) (v := ?_) (a' := ?_) #[true, true, true, true, true, true, true, true, true, false, false, false] rfl rfl (by kernel_rfl) (fun _ _ _ h => h) (Or.inl ⟨by rfl, ?_⟩) ?_ ?_
  rotate_left
  · intro w'
    go_simp
    with_reducible rfl
  rotate_left
  · simp only [Act.put, List.setIfInBounds_toArray, List.set_cons_zero, List.set_cons_succ, i64_w, i32_w]
    rfl
  refine pure_ (i := 9) (N := some 63) (v := ?_) (a' := ?_) #[true, true, true, true, true, true, true, true, true, true, false, false] rfl rfl (by kernel_rfl) (fun _ _ _ h => h) (Or.inl ⟨by rfl, ?_⟩) ?_ ?_
  rotate_left
  · intro w'
    go_simp
    with_reducible rfl
  rotate_left
  · simp only [Act.put, List.setIfInBounds_toArray, List.set_cons_zero, List.set_cons_succ, i64_w, i32_w]
    rfl
  refine pure_ (i := 10) (N := some 64) (v := ?_) (a' := ?_) #[true, true, true, true, true, true, true, true, true, true, true, false] rfl rfl (by kernel_rfl) (fun _ _ _ h => h) (Or.inl ⟨by rfl, ?_⟩) ?_ ?_
  rotate_left
  · intro w'
    go_simp
    with_reducible rfl
  rotate_left
  · simp only [Act.put, List.setIfInBounds_toArray, List.set_cons_zero, List.set_cons_succ, i64_w, i32_w]
    rfl
  refine last_ (i := 11) (N := none) #[true, true, true, true, true, true, true, true, true, true, true, true] rfl rfl (by kernel_rfl) (by decide) (fun K hK => ?_)
  refine skip_ (w1 := ?_) (by rfl) rfl ?_ ?_
  rotate_left
  · go_simp
    rfl
  refine hK.out _ _ ?_
  clear hK K
  refine done_ (by kernel_rfl) ?_
  clear hHeld
  clear cg2 fg2 cb11 fb11
  obtain ⟨W4, hW4⟩ : ∃ W, W = (W3.setCell ⟨g, 2, none⟩ (.int .i64 (wrap64 (used - sz)))).drew := ⟨_, rfl⟩
  rw [← hW4]
  have Gg : Hid (W4.heap[g]? = some (Sc cap (wrap64 (used - sz)) none none)) := Lib.hid (by rw [hW4]; exact (drew_heap (set_same Hg.out rfl)))
  have Gb : Hid (W4.heap[b]? = some (Lc x r sz none none)) := Lib.hid (by rw [hW4]; exact (drew_heap (set_other Hb.out NE_b_g.out)))
  have HO4 : Hid (Only (fun k => k = g ∨ k = b) w W4) := Lib.hid (by rw [hW4]; exact (Only.setCell HO3.out (p := ⟨g, 2, none⟩) (by simp) _).drew)
  clear Hg Hb hW4
  have Hg := Gg
  have Hb := Gb
  clear Gg Gb
  go_wp2
  go_end0
  exact ⟨⟨_, rfl⟩, Hg.out, Hb.out, HO4.out⟩
set_option maxRecDepth 100000 in
set_option maxHeartbeats 1000000 in
theorem out_01 (w : World) (g b nb : Nat) (x xn : S41) (r rn : Rf) (sz sn cap used : Int) (f l qn : Option Addr)
    (hg : w.heap[g]? = some (Sc cap used f l))
    (hb : w.heap[b]? = some (Lc x r sz none (some (at0 nb))))
    (hn : w.heap[nb]? = some (Lc xn rn sn (some (at0 b)) qn))
    (e_g_b : g ≠ b)
    (e_g_n : g ≠ nb)
    (e_b_n : b ≠ nb)
    : Calls Tryd.prog 32 #[.pointer (some (at0 g)), .pointer (some (at0 b))] w fun e w' => (∃ v, e = .returned v) ∧ w'.heap[g]? = some (Sc cap (wrap64 (used - sz)) (some (at0 nb)) l) ∧ w'.heap[b]? = some (Lc x r sz none none) ∧ w'.heap[nb]? = some (Lc xn rn sn none qn) ∧ Only (fun k => k = g ∨ k = b ∨ k = nb) w w' := by
  have NE_g_b := Lib.hid e_g_b
  have NE_b_g := Lib.hid e_g_b.symm
  have NE_g_n := Lib.hid e_g_n
  have NE_n_g := Lib.hid e_g_n.symm
  have NE_b_n := Lib.hid e_b_n
  have NE_n_b := Lib.hid e_b_n.symm
  clear e_g_b e_g_n e_b_n
  have Hg := Lib.hid hg
  have Hb := Lib.hid hb
  have Hn := Lib.hid hn
  clear hg hb hn
  have HO0 : Hid (Only (fun k => k = g ∨ k = b ∨ k = nb) w w) := Lib.hid (Only.refl _ _)
  have cb12 := c_of Hb.out 12 (v := .pointer none) rfl
  have fb12 := fr_of Hb.out 12
  have cb13 := c_of Hb.out 13 (v := .pointer (some (at0 nb))) rfl
  have fb13 := fr_of Hb.out 13
  have cg3 := c_of Hg.out 3 (v := .pointer f) rfl
  have fg3 := fr_of Hg.out 3
  go_enter Tryd.func32, Tryd.ntmps32
  go_upto_region 3 with fail
  clear cb12 fb12 cb13 fb13 cg3 fg3
  obtain ⟨W1, hW1⟩ : ∃ W, W = (w.setCell ⟨g, 3, none⟩ (.pointer (some (at0 nb)))) := ⟨_, rfl⟩
  rw [← hW1]
  have Gg : Hid (W1.heap[g]? = some (Sc cap used (some (at0 nb)) l)) := Lib.hid (by rw [hW1]; exact (set_same Hg.out rfl))
  have Gb : Hid (W1.heap[b]? = some (Lc x r sz none (some (at0 nb)))) := Lib.hid (by rw [hW1]; exact (set_other Hb.out NE_b_g.out))
  have Gn : Hid (W1.heap[nb]? = some (Lc xn rn sn (some (at0 b)) qn)) := Lib.hid (by rw [hW1]; exact (set_other Hn.out NE_n_g.out))
  have HO1 : Hid (Only (fun k => k = g ∨ k = b ∨ k = nb) w W1) := Lib.hid (by rw [hW1]; exact (Only.setCell HO0.out (p := ⟨g, 3, none⟩) (by simp) _))
  clear Hg Hb Hn hW1
  have Hg := Gg
  have Hb := Gb
  have Hn := Gn
  clear Gg Gb Gn
  have cb12 := c_of Hb.out 12 (v := .pointer none) rfl
  have fb12 := fr_of Hb.out 12
  have cb13 := c_of Hb.out 13 (v := .pointer (some (at0 nb))) rfl
  have fb13 := fr_of Hb.out 13
  have cn12 := c_of Hn.out 12 (v := .pointer (some (at0 b))) rfl
  have fn12 := fr_of Hn.out 12
  go_upto_region 4 with fail
  refine start_ (n := 11) (S := fun w' => w'.cell? ⟨b, 12, none⟩ = some (.pointer none) ∧ w'.cell? ⟨b, 13, none⟩ = some (.pointer (some (at0 nb)))) (ds := [10]) #[false, false, false, false, false, false, false, false, false, false, false] (by kernel_rfl) rfl rfl ⟨cb12, cb13⟩ (fun hHeld => ?_)
  refine pure_ (i := 0) (N := some 31) (v := ?_) (a' := ?_) #[true, false, false, false, false, false, false, false, false, false, false] rfl rfl (by kernel_rfl) (fun _ _ _ h => h) (Or.inl ⟨by rfl, ?_⟩) ?_ ?_
  rotate_left
  · intro w'
    go_simp
    with_reducible rfl
  rotate_left
  · simp only [Act.put, List.setIfInBounds_toArray, List.set_cons_zero, List.set_cons_succ, i64_w, i32_w]
    rfl
  refine pure_ (i := 1) (N := some 32) (v := ?_) (a' := ?_) #[true, true, false, false, false, false, false, false, false, false, false] rfl rfl (by kernel_rfl) (fun _ _ _ h => h) (Or.inl ⟨by rfl, ?_⟩) ?_ ?_
  rotate_left
  · intro w'
    go_simp
    with_reducible rfl
  rotate_left
  · simp only [Act.put, List.setIfInBounds_toArray, List.set_cons_zero, List.set_cons_succ, i64_w, i32_w]
    rfl
  refine pure_ (i := 2) (N := some 33) (v := ?_) (a' := ?_) #[true, true, true, false, false, false, false, false, false, false, false] rfl rfl (by kernel_rfl) (fun _ _ _ h => h) (Or.inl ⟨by rfl, ?_⟩) ?_ ?_
  rotate_left
  · intro w'
    go_simp
    with_reducible rfl
  rotate_left
  · simp only [Act.put, List.setIfInBounds_toArray, List.set_cons_zero, List.set_cons_succ, i64_w, i32_w]
    rfl
  refine pure_ (i := 4) (N := some 35) (v := ?_) (a' := ?_) #[true, true, true, false, true, false, false, false, false, false, false] rfl rfl (by kernel_rfl) (fun _ _ _ h => h) (Or.inl ⟨by rfl, ?_⟩) ?_ ?_
  rotate_left
  · intro w'
    go_simp
    with_reducible rfl
  rotate_left
  · simp only [Act.put, List.setIfInBounds_toArray, List.set_cons_zero, List.set_cons_succ, i64_w, i32_w]
    rfl
  refine pure_ (i := 5) (N := some 36) (v := ?_) (a' := ?_) #[true, true, true, false, true, true, false, false, false, false, false] rfl rfl (by kernel_rfl) (fun _ _ _ h => h) (Or.inl ⟨by rfl, ?_⟩) ?_ ?_
  rotate_left
  · intro w'
    go_simp
    with_reducible rfl
  rotate_left
  · simp only [Act.put, List.setIfInBounds_toArray, List.set_cons_zero, List.set_cons_succ, i64_w, i32_w]
    rfl
  refine pure_ (i := 6) (N := some 37) (v := ?_) (a' := ?_) #[true, true, true, false, true, true, true, false, false, false, false] rfl rfl (by kernel_rfl) (fun _ _ _ h => h) (Or.inl ⟨by rfl, ?_⟩) ?_ ?_
  rotate_left
  · intro w'
    go_simp
    with_reducible rfl
  rotate_left
  · simp only [Act.put, List.setIfInBounds_toArray, List.set_cons_zero, List.set_cons_succ, i64_w, i32_w]
    rfl
  refine take_ (i := 3) (N := some 34) (v := ?_) (a' := ?_) #[true, true, true, true, true, true, true, false, false, false, false] rfl rfl (by kernel_rfl) (fun _ _ _ h => h) (Or.inl ⟨by rfl, ?_⟩) hHeld ?_ ?_
  rotate_left
  · rintro w' ⟨s0, s1⟩
    go_simp
    with_reducible rfl
  rotate_left
  · simp only [Act.put, List.setIfInBounds_toArray, List.set_cons_zero, List.set_cons_succ, i64_w, i32_w]
    rfl
  refine take_ (i := 7) (N := some 38) (v := ?_) (a' := ?_) #[true, true, true, true, true, true, true, true, false, false, false] rfl rfl (by kernel_rfl) (fun _ _ _ h => h) (Or.inl ⟨by rfl, ?_⟩) hHeld ?_ ?_
  rotate_left
  · rintro w' ⟨s0, s1⟩
    go_simp
    with_reducible rfl
  rotate_left
  · simp only [Act.put, List.setIfInBounds_toArray, List.set_cons_zero, List.set_cons_succ, i64_w, i32_w]
    rfl
  refine pure_ (i := 8) (N := some 39) (v := ?_) (a' := ?_) #[true, true, true, true, true, true, true, true, true, false, false] rfl rfl (by kernel_rfl) (fun _ _ _ h => h) (Or.inl ⟨by rfl, ?_⟩) ?_ ?_
  rotate_left
  · intro w'
    go_simp
    with_reducible rfl
  rotate_left
  · simp only [Act.put, List.setIfInBounds_toArray, List.set_cons_zero, List.set_cons_succ, i64_w, i32_w]
    rfl
  refine pure_ (i := 9) (N := some 40) (v := ?_) (a' := ?_) #[true, true, true, true, true, true, true, true, true, true, false] rfl rfl (by kernel_rfl) (fun _ _ _ h => h) (Or.inl ⟨by rfl, ?_⟩) ?_ ?_
  rotate_left
  · intro w'
    go_simp
    with_reducible rfl
  rotate_left
  · simp only [Act.put, List.setIfInBounds_toArray, List.set_cons_zero, List.set_cons_succ, i64_w, i32_w]
    rfl
  refine last_ (i := 10) (N := none) #[true, true, true, true, true, true, true, true, true, true, true] rfl rfl (by kernel_rfl) (by decide) (fun K hK => ?_)
  refine skip_ (w1 := ?_) (by rfl) rfl ?_ ?_
  rotate_left
  · go_simp
    rfl
  refine hK.out _ _ ?_
  clear hK K
  refine done_ (by kernel_rfl) ?_
  clear hHeld
  clear cb12 fb12 cb13 fb13 cn12 fn12
  obtain ⟨W2, hW2⟩ : ∃ W, W = (W1.setCell ⟨nb, 12, none⟩ (.pointer none)).drew := ⟨_, rfl⟩
  rw [← hW2]
  have Gg : Hid (W2.heap[g]? = some (Sc cap used (some (at0 nb)) l)) := Lib.hid (by rw [hW2]; exact (drew_heap (set_other Hg.out NE_g_n.out)))
  have Gb : Hid (W2.heap[b]? = some (Lc x r sz none (some (at0 nb)))) := Lib.hid (by rw [hW2]; exact (drew_heap (set_other Hb.out NE_b_n.out)))
  have Gn : Hid (W2.heap[nb]? = some (Lc xn rn sn none qn)) := Lib.hid (by rw [hW2]; exact (drew_heap (set_same Hn.out rfl)))
  have HO2 : Hid (Only (fun k => k = g ∨ k = b ∨ k = nb) w W2) := Lib.hid (by rw [hW2]; exact (Only.setCell HO1.out (p := ⟨nb, 12, none⟩) (by simp) _).drew)
  clear Hg Hb Hn hW2
  have Hg := Gg
  have Hb := Gb
  have Hn := Gn
  clear Gg Gb Gn
  have cb12 := c_of Hb.out 12 (v := .pointer none) rfl
  have fb12 := fr_of Hb.out 12
  have cb13 := c_of Hb.out 13 (v := .pointer (some (at0 nb))) rfl
  have fb13 := fr_of Hb.out 13
  go_upto_region 7 with fail
  clear cb12 fb12 cb13 fb13
  obtain ⟨W3, hW3⟩ : ∃ W, W = ((W2.setCell ⟨b, 12, none⟩ (.pointer none)).setCell ⟨b, 13, none⟩ (.pointer none)) := ⟨_, rfl⟩
  rw [← hW3]
  have Gg : Hid (W3.heap[g]? = some (Sc cap used (some (at0 nb)) l)) := Lib.hid (by rw [hW3]; exact (set_other (set_other Hg.out NE_g_b.out) NE_g_b.out))
  have Gb : Hid (W3.heap[b]? = some (Lc x r sz none none)) := Lib.hid (by rw [hW3]; exact (set_same (set_same Hb.out rfl) rfl))
  have Gn : Hid (W3.heap[nb]? = some (Lc xn rn sn none qn)) := Lib.hid (by rw [hW3]; exact (set_other (set_other Hn.out NE_n_b.out) NE_n_b.out))
  have HO3 : Hid (Only (fun k => k = g ∨ k = b ∨ k = nb) w W3) := Lib.hid (by rw [hW3]; exact (Only.setCell (Only.setCell HO2.out (p := ⟨b, 12, none⟩) (by simp) _) (p := ⟨b, 13, none⟩) (by simp) _))
  clear Hg Hb Hn hW3
  have Hg := Gg
  have Hb := Gb
  have Hn := Gn
  clear Gg Gb Gn
  have cg2 := c_of Hg.out 2 (v := .int .i64 used) rfl
  have fg2 := fr_of Hg.out 2
  have cb11 := c_of Hb.out 11 (v := .int .i64 sz) rfl
  have fb11 := fr_of Hb.out 11
  refine start_ (n := 12) (S := fun w' => w'.cell? ⟨g, 2, none⟩ = some (.int .i64 used) ∧ w'.cell? ⟨b, 11, none⟩ = some (.int .i64 sz)) (ds := [11]) #[false, false, false, false, false, false, false, false, false, false, false, false] (by kernel_rfl) rfl rfl ⟨cg2, cb11⟩ (fun hHeld => ?_)
  refine pure_ (i := 0) (N := some 54) (v := ?_) (a' := ?_) #[true, false, false, false, false, false, false, false, false, false, false, false] rfl rfl (by kernel_rfl) (fun _ _ _ h => h) (Or.inl ⟨by rfl, ?_⟩) ?_ ?_
  rotate_left
  · intro w'
    go_simp
    with_reducible rfl
  rotate_left
  · simp only [Act.put, List.setIfInBounds_toArray, List.set_cons_zero, List.set_cons_succ, i64_w, i32_w]
    rfl
  refine pure_ (i := 1) (N := some 55) (v := ?_) (a' := ?_) #[true, true, false, false, false, false, false, false, false, false, false, false] rfl rfl (by kernel_rfl) (fun _ _ _ h => h) (Or.inl ⟨by rfl, ?_⟩) ?_ ?_
  rotate_left
  · intro w'
    go_simp
    with_reducible rfl
  rotate_left
  · simp only [Act.put, List.setIfInBounds_toArray, List.set_cons_zero, List.set_cons_succ, i64_w, i32_w]
    rfl
  refine pure_ (i := 2) (N := some 56) (v := ?_) (a' := ?_) #[true, true, true, false, false, false, false, false, false, false, false, false] rfl rfl (by kernel_rfl) (fun _ _ _ h => h) (Or.inl ⟨by rfl, ?_⟩) ?_ ?_
  rotate_left
  · intro w'
    go_simp
    with_reducible rfl
  rotate_left
  · simp only [Act.put, List.setIfInBounds_toArray, List.set_cons_zero, List.set_cons_succ, i64_w, i32_w]
    rfl
  refine pure_ (i := 4) (N := some 58) (v := ?_) (a' := ?_) #[true, true, true, false, true, false, false, false, false, false, false, false] rfl rfl (by kernel_rfl) (fun _ _ _ h => h) (Or.inl ⟨by rfl, ?_⟩) ?_ ?_
  rotate_left
  · intro w'
    go_simp
    with_reducible rfl
  rotate_left
  · simp only [Act.put, List.setIfInBounds_toArray, List.set_cons_zero, List.set_cons_succ, i64_w, i32_w]
    rfl
  refine pure_ (i := 5) (N := some 59) (v := ?_) (a' := ?_) #[true, true, true, false, true, true, false, false, false, false, false, false] rfl rfl (by kernel_rfl) (fun _ _ _ h => h) (Or.inl ⟨by rfl, ?_⟩) ?_ ?_
  rotate_left
  · intro w'
    go_simp
    with_reducible rfl
  rotate_left
  · simp only [Act.put, List.setIfInBounds_toArray, List.set_cons_zero, List.set_cons_succ, i64_w, i32_w]
    rfl
  refine pure_ (i := 6) (N := some 60) (v := ?_) (a' := ?_) #[true, true, true, false, true, true, true, false, false, false, false, false] rfl rfl (by kernel_rfl) (fun _ _ _ h => h) (Or.inl ⟨by rfl, ?_⟩) ?_ ?_
  rotate_left
  · intro w'
    go_simp
    with_reducible rfl
  rotate_left
  · simp only [Act.put, List.setIfInBounds_toArray, List.set_cons_zero, List.set_cons_succ, i64_w, i32_w]
    rfl
  refine take_ (i := 3) (N := some 57) (v := ?_) (a' := ?_) #[true, true, true, true, true, true, true, false, false, false, false, false] rfl rfl (by kernel_rfl) (fun _ _ _ h => h) (Or.inl ⟨by rfl, ?_⟩) hHeld ?_ ?_
  rotate_left
  · rintro w' ⟨s0, s1⟩
    go_simp
    with_reducible rfl
  rotate_left
  · simp only [Act.put, List.setIfInBounds_toArray, List.set_cons_zero, List.set_cons_succ, i64_w, i32_w]
    rfl
  refine take_ (i := 7) (N := some 61) (v := ?_) (a' := ?_) #[true, true, true, true, true, true, true, true, false, false, false, false] rfl rfl (by kernel_rfl) (fun _ _ _ h => h) (Or.inl ⟨by rfl, ?_⟩) hHeld ?_ ?_
  rotate_left
  · rintro w' ⟨s0, s1⟩
    go_simp
    with_reducible rfl
  rotate_left
  · simp only [Act.put, List.setIfInBounds_toArray, List.set_cons_zero, List.set_cons_succ, i64_w, i32_w]
    rfl
  refine pure_ (i := 8) (N := some 62) (v := ?_) (a' := ?_) #[true, true, true, true, true, true, true, true, true, false, false, false] rfl rfl (by kernel_rfl) (fun _ _ _ h => h) (Or.inl ⟨by rfl, ?_⟩) ?_ ?_
  rotate_left
  · intro w'
    go_simp
    with_reducible rfl
  rotate_left
  · simp only [Act.put, List.setIfInBounds_toArray, List.set_cons_zero, List.set_cons_succ, i64_w, i32_w]
    rfl
  refine pure_ (i := 9) (N := some 63) (v := ?_) (a' := ?_) #[true, true, true, true, true, true, true, true, true, true, false, false] rfl rfl (by kernel_rfl) (fun _ _ _ h => h) (Or.inl ⟨by rfl, ?_⟩) ?_ ?_
  rotate_left
  · intro w'
    go_simp
    with_reducible rfl
  rotate_left
  · simp only [Act.put, List.setIfInBounds_toArray, List.set_cons_zero, List.set_cons_succ, i64_w, i32_w]
    rfl
  refine pure_ (i := 10) (N := some 64) (v := ?_) (a' := ?_) #[true, true, true, true, true, true, true, true, true, true, true, false] rfl rfl (by kernel_rfl) (fun _ _ _ h => h) (Or.inl ⟨by rfl, ?_⟩) ?_ ?_
  rotate_left
  · intro w'
    go_simp
    with_reducible rfl
  rotate_left
  · simp only [Act.put, List.setIfInBounds_toArray, List.set_cons_zero, List.set_cons_succ, i64_w, i32_w]
    rfl
  refine last_ (i := 11) (N := none) #[true, true, true, true, true, true, true, true, true, true, true, true] rfl rfl (by kernel_rfl) (by decide) (fun K hK => ?_)
  refine skip_ (w1 := ?_) (by rfl) rfl ?_ ?_
  rotate_left
  · go_simp
    rfl
  refine hK.out _ _ ?_
  clear hK K
  refine done_ (by kernel_rfl) ?_
  clear hHeld
  clear cg2 fg2 cb11 fb11
  obtain ⟨W4, hW4⟩ : ∃ W, W = (W3.setCell ⟨g, 2, none⟩ (.int .i64 (wrap64 (used - sz)))).drew := ⟨_, rfl⟩
  rw [← hW4]
  have Gg : Hid (W4.heap[g]? = some (Sc cap (wrap64 (used - sz)) (some (at0 nb)) l)) := Lib.hid (by rw [hW4]; exact (drew_heap (set_same Hg.out rfl)))
  have Gb : Hid (W4.heap[b]? = some (Lc x r sz none none)) := Lib.hid (by rw [hW4]; exact (drew_heap (set_other Hb.out NE_b_g.out)))
  have Gn : Hid (W4.heap[nb]? = some (Lc xn rn sn none qn)) := Lib.hid (by rw [hW4]; exact (drew_heap (set_other Hn.out NE_n_g.out)))
  have HO4 : Hid (Only (fun k => k = g ∨ k = b ∨ k = nb) w W4) := Lib.hid (by rw [hW4]; exact (Only.setCell HO3.out (p := ⟨g, 2, none⟩) (by simp) _).drew)
  clear Hg Hb Hn hW4
  have Hg := Gg
  have Hb := Gb
  have Hn := Gn
  clear Gg Gb Gn
  go_wp2
  go_end0
  exact ⟨⟨_, rfl⟩, Hg.out, Hb.out, Hn.out, HO4.out⟩
set_option maxRecDepth 100000 in
set_option maxHeartbeats 1000000 in
theorem out_10 (w : World) (g b pb : Nat) (x xp : S41) (r rp : Rf) (sz sp cap used : Int) (f l qp : Option Addr)
    (hg : w.heap[g]? = some (Sc cap used f l))
    (hb : w.heap[b]? = some (Lc x r sz (some (at0 pb)) none))
    (hp : w.heap[pb]? = some (Lc xp rp sp qp (some (at0 b))))
    (e_g_b : g ≠ b)
    (e_g_p : g ≠ pb)
    (e_b_p : b ≠ pb)
    : Calls Tryd.prog 32 #[.pointer (some (at0 g)), .pointer (some (at0 b))] w fun e w' => (∃ v, e = .returned v) ∧ w'.heap[g]? = some (Sc cap (wrap64 (used - sz)) f (some (at0 pb))) ∧ w'.heap[b]? = some (Lc x r sz none none) ∧ w'.heap[pb]? = some (Lc xp rp sp qp none) ∧ Only (fun k => k = g ∨ k = b ∨ k = pb) w w' := by
  have NE_g_b := Lib.hid e_g_b
  have NE_b_g := Lib.hid e_g_b.symm
  have NE_g_p := Lib.hid e_g_p
  have NE_p_g := Lib.hid e_g_p.symm
  have NE_b_p := Lib.hid e_b_p
  have NE_p_b := Lib.hid e_b_p.symm
  clear e_g_b e_g_p e_b_p
  have Hg := Lib.hid hg
  have Hb := Lib.hid hb
  have Hp := Lib.hid hp
  clear hg hb hp
  have HO0 : Hid (Only (fun k => k = g ∨ k = b ∨ k = pb) w w) := Lib.hid (Only.refl _ _)
  have cb12 := c_of Hb.out 12 (v := .pointer (some (at0 pb))) rfl
  have fb12 := fr_of Hb.out 12
  have cb13 := c_of Hb.out 13 (v := .pointer none) rfl
  have fb13 := fr_of Hb.out 13
  have cp13 := c_of Hp.out 13 (v := .pointer (some (at0 b))) rfl
  have fp13 := fr_of Hp.out 13
  go_enter Tryd.func32, Tryd.ntmps32
  go_upto_region 1 with fail
  refine start_ (n := 11) (S := fun w' => w'.cell? ⟨b, 12, none⟩ = some (.pointer (some (at0 pb))) ∧ w'.cell? ⟨b, 13, none⟩ = some (.pointer none)) (ds := [10]) #[false, false, false, false, false, false, false, false, false, false, false] (by kernel_rfl) rfl rfl ⟨cb12, cb13⟩ (fun hHeld => ?_)
  refine pure_ (i := 0) (N := some 9) (v := ?_) (a' := ?_) #[true, false, false, false, false, false, false, false, false, false, false] rfl rfl (by kernel_rfl) (fun _ _ _ h => h) (Or.inl ⟨by rfl, ?_⟩) ?_ ?_
  rotate_left
  · intro w'
    go_simp
    with_reducible rfl
  rotate_left
  · simp only [Act.put, List.setIfInBounds_toArray, List.set_cons_zero, List.set_cons_succ, i64_w, i32_w]
    rfl
  refine pure_ (i := 1) (N := some 10) (v := ?_) (a' := ?_) #[true, true, false, false, false, false, false, false, false, false, false] rfl rfl (by kernel_rfl) (fun _ _ _ h => h) (Or.inl ⟨by rfl, ?_⟩) ?_ ?_
  rotate_left
  · intro w'
    go_simp
    with_reducible rfl
  rotate_left
  · simp only [Act.put, List.setIfInBounds_toArray, List.set_cons_zero, List.set_cons_succ, i64_w, i32_w]
    rfl
  refine pure_ (i := 2) (N := some 11) (v := ?_) (a' := ?_) #[true, true, true, false, false, false, false, false, false, false, false] rfl rfl (by kernel_rfl) (fun _ _ _ h => h) (Or.inl ⟨by rfl, ?_⟩) ?_ ?_
  rotate_left
  · intro w'
    go_simp
    with_reducible rfl
  rotate_left
  · simp only [Act.put, List.setIfInBounds_toArray, List.set_cons_zero, List.set_cons_succ, i64_w, i32_w]
    rfl
  refine pure_ (i := 4) (N := some 13) (v := ?_) (a' := ?_) #[true, true, true, false, true, false, false, false, false, false, false] rfl rfl (by kernel_rfl) (fun _ _ _ h => h) (Or.inl ⟨by rfl, ?_⟩) ?_ ?_
  rotate_left
  · intro w'
    go_simp
    with_reducible rfl
  rotate_left
  · simp only [Act.put, List.setIfInBounds_toArray, List.set_cons_zero, List.set_cons_succ, i64_w, i32_w]
    rfl
  refine pure_ (i := 5) (N := some 14) (v := ?_) (a' := ?_) #[true, true, true, false, true, true, false, false, false, false, false] rfl rfl (by kernel_rfl) (fun _ _ _ h => h) (Or.inl ⟨by rfl, ?_⟩) ?_ ?_
  rotate_left
  · intro w'
    go_simp
    with_reducible rfl
  rotate_left
  · simp only [Act.put, List.setIfInBounds_toArray, List.set_cons_zero, List.set_cons_succ, i64_w, i32_w]
    rfl
  refine pure_ (i := 6) (N := some 15) (v := ?_) (a' := ?_) #[true, true, true, false, true, true, true, false, false, false, false] rfl rfl (by kernel_rfl) (fun _ _ _ h => h) (Or.inl ⟨by rfl, ?_⟩) ?_ ?_
  rotate_left
  · intro w'
    go_simp
    with_reducible rfl
  rotate_left
  · simp only [Act.put, List.setIfInBounds_toArray, List.set_cons_zero, List.set_cons_succ, i64_w, i32_w]
    rfl
  refine take_ (i := 3) (N := some 12) (v := ?_) (a' := ?_) #[true, true, true, true, true, true, true, false, false, false, false] rfl rfl (by kernel_rfl) (fun _ _ _ h => h) (Or.inl ⟨by rfl, ?_⟩) hHeld ?_ ?_
  rotate_left
  · rintro w' ⟨s0, s1⟩
    go_simp
    with_reducible rfl
  rotate_left
  · simp only [Act.put, List.setIfInBounds_toArray, List.set_cons_zero, List.set_cons_succ, i64_w, i32_w]
    rfl
  refine take_ (i := 7) (N := some 16) (v := ?_) (a' := ?_) #[true, true, true, true, true, true, true, true, false, false, false] rfl rfl (by kernel_rfl) (fun _ _ _ h => h) (Or.inl ⟨by rfl, ?_⟩) hHeld ?_ ?_
  rotate_left
  · rintro w' ⟨s0, s1⟩
    go_simp
    with_reducible rfl
  rotate_left
  · simp only [Act.put, List.setIfInBounds_toArray, List.set_cons_zero, List.set_cons_succ, i64_w, i32_w]
    rfl
  refine pure_ (i := 8) (N := some 17) (v := ?_) (a' := ?_) #[true, true, true, true, true, true, true, true, true, false, false] rfl rfl (by kernel_rfl) (fun _ _ _ h => h) (Or.inl ⟨by rfl, ?_⟩) ?_ ?_
  rotate_left
  · intro w'
    go_simp
    with_reducible rfl
  rotate_left
  · simp only [Act.put, List.setIfInBounds_toArray, List.set_cons_zero, List.set_cons_succ, i64_w, i32_w]
    rfl
  refine pure_ (i := 9) (N := some 18) (v := ?_) (a' := ?_) #[true, true, true, true, true, true, true, true, true, true, false] rfl rfl (by kernel_rfl) (fun _ _ _ h => h) (Or.inl ⟨by rfl, ?_⟩) ?_ ?_
  rotate_left
  · intro w'
    go_simp
    with_reducible rfl
  rotate_left
  · simp only [Act.put, List.setIfInBounds_toArray, List.set_cons_zero, List.set_cons_succ, i64_w, i32_w]
    rfl
  refine last_ (i := 10) (N := none) #[true, true, true, true, true, true, true, true, true, true, true] rfl rfl (by kernel_rfl) (by decide) (fun K hK => ?_)
  refine skip_ (w1 := ?_) (by rfl) rfl ?_ ?_
  rotate_left
  · go_simp
    rfl
  refine hK.out _ _ ?_
  clear hK K
  refine done_ (by kernel_rfl) ?_
  clear hHeld
  clear cb12 fb12 cb13 fb13 cp13 fp13
  obtain ⟨W1, hW1⟩ : ∃ W, W = (w.setCell ⟨pb, 13, none⟩ (.pointer none)).drew := ⟨_, rfl⟩
  rw [← hW1]
  have Gg : Hid (W1.heap[g]? = some (Sc cap used f l)) := Lib.hid (by rw [hW1]; exact (drew_heap (set_other Hg.out NE_g_p.out)))
  have Gb : Hid (W1.heap[b]? = some (Lc x r sz (some (at0 pb)) none)) := Lib.hid (by rw [hW1]; exact (drew_heap (set_other Hb.out NE_b_p.out)))
  have Gp : Hid (W1.heap[pb]? = some (Lc xp rp sp qp none)) := Lib.hid (by rw [hW1]; exact (drew_heap (set_same Hp.out rfl)))
  have HO1 : Hid (Only (fun k => k = g ∨ k = b ∨ k = pb) w W1) := Lib.hid (by rw [hW1]; exact (Only.setCell HO0.out (p := ⟨pb, 13, none⟩) (by simp) _).drew)
  clear Hg Hb Hp hW1
  have Hg := Gg
  have Hb := Gb
  have Hp := Gp
  clear Gg Gb Gp
  have cb12 := c_of Hb.out 12 (v := .pointer (some (at0 pb))) rfl
  have fb12 := fr_of Hb.out 12
  have cb13 := c_of Hb.out 13 (v := .pointer none) rfl
  have fb13 := fr_of Hb.out 13
  have cg4 := c_of Hg.out 4 (v := .pointer l) rfl
  have fg4 := fr_of Hg.out 4
  go_upto_region 6 with fail
  clear cb12 fb12 cb13 fb13 cg4 fg4
  obtain ⟨W2, hW2⟩ : ∃ W, W = (W1.setCell ⟨g, 4, none⟩ (.pointer (some (at0 pb)))) := ⟨_, rfl⟩
  rw [← hW2]
  have Gg : Hid (W2.heap[g]? = some (Sc cap used f (some (at0 pb)))) := Lib.hid (by rw [hW2]; exact (set_same Hg.out rfl))
  have Gb : Hid (W2.heap[b]? = some (Lc x r sz (some (at0 pb)) none)) := Lib.hid (by rw [hW2]; exact (set_other Hb.out NE_b_g.out))
  have Gp : Hid (W2.heap[pb]? = some (Lc xp rp sp qp none)) := Lib.hid (by rw [hW2]; exact (set_other Hp.out NE_p_g.out))
  have HO2 : Hid (Only (fun k => k = g ∨ k = b ∨ k = pb) w W2) := Lib.hid (by rw [hW2]; exact (Only.setCell HO1.out (p := ⟨g, 4, none⟩) (by simp) _))
  clear Hg Hb Hp hW2
  have Hg := Gg
  have Hb := Gb
  have Hp := Gp
  clear Gg Gb Gp
  have cb12 := c_of Hb.out 12 (v := .pointer (some (at0 pb))) rfl
  have fb12 := fr_of Hb.out 12
  have cb13 := c_of Hb.out 13 (v := .pointer none) rfl
  have fb13 := fr_of Hb.out 13
  go_upto_region 7 with fail
  clear cb12 fb12 cb13 fb13
  obtain ⟨W3, hW3⟩ : ∃ W, W = ((W2.setCell ⟨b, 12, none⟩ (.pointer none)).setCell ⟨b, 13, none⟩ (.pointer none)) := ⟨_, rfl⟩
  rw [← hW3]
  have Gg : Hid (W3.heap[g]? = some (Sc cap used f (some (at0 pb)))) := Lib.hid (by rw [hW3]; exact (set_other (set_other Hg.out NE_g_b.out) NE_g_b.out))
  have Gb : Hid (W3.heap[b]? = some (Lc x r sz none none)) := Lib.hid (by rw [hW3]; exact (set_same (set_same Hb.out rfl) rfl))
  have Gp : Hid (W3.heap[pb]? = some (Lc xp rp sp qp none)) := Lib.hid (by rw [hW3]; exact (set_other (set_other Hp.out NE_p_b.out) NE_p_b.out))
  have HO3 : Hid (Only (fun k => k = g ∨ k = b ∨ k = pb) w W3) := Lib.hid (by rw [hW3]; exact (Only.setCell (Only.setCell HO2.out (p := ⟨b, 12, none⟩) (by simp) _) (p := ⟨b, 13, none⟩) (by simp) _))
  clear Hg Hb Hp hW3
  have Hg := Gg
  have Hb := Gb
  have Hp := Gp
  clear Gg Gb Gp
  have cg2 := c_of Hg.out 2 (v := .int .i64 used) rfl
  have fg2 := fr_of Hg.out 2
  have cb11 := c_of Hb.out 11 (v := .int .i64 sz) rfl
  have fb11 := fr_of Hb.out 11
  refine start_ (n := 12) (S := fun w' => w'.cell? ⟨g, 2, none⟩ = some (.int .i64 used) ∧ w'.cell? ⟨b, 11, none⟩ = some (.int .i64 sz)) (ds := [11]) #[false, false, false, false, false, false, false, false, false, false, false, false] (by kernel_rfl) rfl rfl ⟨cg2, cb11⟩ (fun hHeld => ?_)
  refine pure_ (i := 0) (N := some 54) (v := ?_) (a' := ?_) #[true, false, false, false, false, false, false, false, false, false, false, false] rfl rfl (by kernel_rfl) (fun _ _ _ h => h) (Or.inl ⟨by rfl, ?_⟩) ?_ ?_
  rotate_left
  · intro w'
    go_simp
    with_reducible rfl
  rotate_left
  · simp only [Act.put, List.setIfInBounds_toArray, List.set_cons_zero, List.set_cons_succ, i64_w, i32_w]
    rfl
  refine pure_ (i := 1) (N := some 55) (v := ?_) (a' := ?_) #[true, true, false, false, false, false, false, false, false, false, false, false] rfl rfl (by kernel_rfl) (fun _ _ _ h => h) (Or.inl ⟨by rfl, ?_⟩) ?_ ?_
  rotate_left
  · intro w'
    go_simp
    with_reducible rfl
  rotate_left
  · simp only [Act.put, List.setIfInBounds_toArray, List.set_cons_zero, List.set_cons_succ, i64_w, i32_w]
    rfl
  refine pure_ (i := 2) (N := some 56) (v := ?_) (a' := ?_) #[true, true, true, false, false, false, false, false, false, false, false, false] rfl rfl (by kernel_rfl) (fun _ _ _ h => h) (Or.inl ⟨by rfl, ?_⟩) ?_ ?_
  rotate_left
  · intro w'
    go_simp
    with_reducible rfl
  rotate_left
  · simp only [Act.put, List.setIfInBounds_toArray, List.set_cons_zero, List.set_cons_succ, i64_w, i32_w]
    rfl
  refine pure_ (i := 4) (N := some 58) (v := ?_) (a' := ?_) #[true, true, true, false, true, false, false, false, false, false, false, false] rfl rfl (by kernel_rfl) (fun _ _ _ h => h) (Or.inl ⟨by rfl, ?_⟩) ?_ ?_
  rotate_left
  · intro w'
    go_simp
    with_reducible rfl
  rotate_left
  · simp only [Act.put, List.setIfInBounds_toArray, List.set_cons_zero, List.set_cons_succ, i64_w, i32_w]
    rfl
  refine pure_ (i := 5) (N := some 59) (v := ?_) (a' := ?_) #[true, true, true, false, true, true, false, false, false, false, false, false] rfl rfl (by kernel_rfl) (fun _ _ _ h => h) (Or.inl ⟨by rfl, ?_⟩) ?_ ?_
  rotate_left
  · intro w'
    go_simp
    with_reducible rfl
  rotate_left
  · simp only [Act.put, List.setIfInBounds_toArray, List.set_cons_zero, List.set_cons_succ, i64_w, i32_w]
    rfl
  refine pure_ (i := 6) (N := some 60) (v := ?_) (a' := ?_) #[true, true, true, false, true, true, true, false, false, false, false, false] rfl rfl (by kernel_rfl) (fun _ _ _ h => h) (Or.inl ⟨by rfl, ?_⟩) ?_ ?_
  rotate_left
  · intro w'
    go_simp
    with_reducible rfl
  rotate_left
  · simp only [Act.put, List.setIfInBounds_toArray, List.set_cons_zero, List.set_cons_succ, i64_w, i32_w]
    rfl
  refine take_ (i := 3) (N := some 57) (v := ?_) (a' := ?_) #[true, true, true, true, true, true, true, false, false, false, false, false] rfl rfl (by kernel_rfl) (fun _ _ _ h => h) (Or.inl ⟨by rfl, ?_⟩) hHeld ?_ ?_
  rotate_left
  · rintro w' ⟨s0, s1⟩
    go_simp
    with_reducible rfl
  rotate_left
  · simp only [Act.put, List.setIfInBounds_toArray, List.set_cons_zero, List.set_cons_succ, i64_w, i32_w]
    rfl
  refine take_ (i := 7) (N := some 61) (v := ?_) (a' := ?_) #[true, true, true, true, true, true, true, true, false, false, false, false] rfl rfl (by kernel_rfl) (fun _ _ _ h => h) (Or.inl ⟨by rfl, ?_⟩) hHeld ?_ ?_
  rotate_left
  · rintro w' ⟨s0, s1⟩
    go_simp
    with_reducible rfl
  rotate_left
  · simp only [Act.put, List.setIfInBounds_toArray, List.set_cons_zero, List.set_cons_succ, i64_w, i32_w]
    rfl
  refine pure_ (i := 8) (N := some 62) (v := ?_) (a' := ?_) #[true, true, true, true, true, true, true, true, true, false, false, false] rfl rfl (by kernel_rfl) (fun _ _ _ h => h) (Or.inl ⟨by rfl, ?_⟩) ?_ ?_
  rotate_left
  · intro w'
    go_simp
    with_reducible rfl
  rotate_left
  · simp only [Act.put, List.setIfInBounds_toArray, List.set_cons_zero, List.set_cons_succ, i64_w, i32_w]
    rfl
  refine pure_ (i := 9) (N := some 63) (v := ?_) (a' := ?_) #[true, true, true, true, true, true, true, true, true, true, false, false] rfl rfl (by kernel_rfl) (fun _ _ _ h => h) (Or.inl ⟨by rfl, ?_⟩) ?_ ?_
  rotate_left
  · intro w'
    go_simp
    with_reducible rfl
  rotate_left
  · simp only [Act.put, List.setIfInBounds_toArray, List.set_cons_zero, List.set_cons_succ, i64_w, i32_w]
    rfl
  refine pure_ (i := 10) (N := some 64) (v := ?_) (a' := ?_) #[true, true, true, true, true, true, true, true, true, true, true, false] rfl rfl (by kernel_rfl) (fun _ _ _ h => h) (Or.inl ⟨by rfl, ?_⟩) ?_ ?_
  rotate_left
  · intro w'
    go_simp
    with_reducible rfl
  rotate_left
  · simp only [Act.put, List.setIfInBounds_toArray, List.set_cons_zero, List.set_cons_succ, i64_w, i32_w]
    rfl
  refine last_ (i := 11) (N := none) #[true, true, true, true, true, true, true, true, true, true, true, true] rfl rfl (by kernel_rfl) (by decide) (fun K hK => ?_)
  refine skip_ (w1 := ?_) (by rfl) rfl ?_ ?_
  rotate_left
  · go_simp
    rfl
  refine hK.out _ _ ?_
  clear hK K
  refine done_ (by kernel_rfl) ?_
  clear hHeld
  clear cg2 fg2 cb11 fb11
  obtain ⟨W4, hW4⟩ : ∃ W, W = (W3.setCell ⟨g, 2, none⟩ (.int .i64 (wrap64 (used - sz)))).drew := ⟨_, rfl⟩
  rw [← hW4]
  have Gg : Hid (W4.heap[g]? = some (Sc cap (wrap64 (used - sz)) f (some (at0 pb)))) := Lib.hid (by rw [hW4]; exact (drew_heap (set_same Hg.out rfl)))
  have Gb : Hid (W4.heap[b]? = some (Lc x r sz none none)) := Lib.hid (by rw [hW4]; exact (drew_heap (set_other Hb.out NE_b_g.out)))
  have Gp : Hid (W4.heap[pb]? = some (Lc xp rp sp qp none)) := Lib.hid (by rw [hW4]; exact (drew_heap (set_other Hp.out NE_p_g.out)))
  have HO4 : Hid (Only (fun k => k = g ∨ k = b ∨ k = pb) w W4) := Lib.hid (by rw [hW4]; exact (Only.setCell HO3.out (p := ⟨g, 2, none⟩) (by simp) _).drew)
  clear Hg Hb Hp hW4
  have Hg := Gg
  have Hb := Gb
  have Hp := Gp
  clear Gg Gb Gp
  go_wp2
  go_end0
  exact ⟨⟨_, rfl⟩, Hg.out, Hb.out, Hp.out, HO4.out⟩
set_option maxRecDepth 100000 in
set_option maxHeartbeats 1000000 in
theorem out_11 (w : World) (g b pb nb : Nat) (x xp xn : S41) (r rp rn : Rf) (sz sp sn cap used : Int) (f l qp qn : Option Addr)
    (hg : w.heap[g]? = some (Sc cap used f l))
    (hb : w.heap[b]? = some (Lc x r sz (some (at0 pb)) (some (at0 nb))))
    (hp : w.heap[pb]? = some (Lc xp rp sp qp (some (at0 b))))
    (hn : w.heap[nb]? = some (Lc xn rn sn (some (at0 b)) qn))
    (e_g_b : g ≠ b)
    (e_g_p : g ≠ pb)
    (e_g_n : g ≠ nb)
    (e_b_p : b ≠ pb)
    (e_b_n : b ≠ nb)
    (e_p_n : pb ≠ nb)
    : Calls Tryd.prog 32 #[.pointer (some (at0 g)), .pointer (some (at0 b))] w fun e w' => (∃ v, e = .returned v) ∧ w'.heap[g]? = some (Sc cap (wrap64 (used - sz)) f l) ∧ w'.heap[b]? = some (Lc x r sz none none) ∧ w'.heap[pb]? = some (Lc xp rp sp qp (some (at0 nb))) ∧ w'.heap[nb]? = some (Lc xn rn sn (some (at0 pb)) qn) ∧ Only (fun k => k = g ∨ k = b ∨ k = pb ∨ k = nb) w w' := by
  have NE_g_b := Lib.hid e_g_b
  have NE_b_g := Lib.hid e_g_b.symm
  have NE_g_p := Lib.hid e_g_p
  have NE_p_g := Lib.hid e_g_p.symm
  have NE_g_n := Lib.hid e_g_n
  have NE_n_g := Lib.hid e_g_n.symm
  have NE_b_p := Lib.hid e_b_p
  have NE_p_b := Lib.hid e_b_p.symm
  have NE_b_n := Lib.hid e_b_n
  have NE_n_b := Lib.hid e_b_n.symm
  have NE_p_n := Lib.hid e_p_n
  have NE_n_p := Lib.hid e_p_n.symm
  clear e_g_b e_g_p e_g_n e_b_p e_b_n e_p_n
  have Hg := Lib.hid hg
  have Hb := Lib.hid hb
  have Hp := Lib.hid hp
  have Hn := Lib.hid hn
  clear hg hb hp hn
  have HO0 : Hid (Only (fun k => k = g ∨ k = b ∨ k = pb ∨ k = nb) w w) := Lib.hid (Only.refl _ _)
  have cb12 := c_of Hb.out 12 (v := .pointer (some (at0 pb))) rfl
  have fb12 := fr_of Hb.out 12
  have cb13 := c_of Hb.out 13 (v := .pointer (some (at0 nb))) rfl
  have fb13 := fr_of Hb.out 13
  have cp13 := c_of Hp.out 13 (v := .pointer (some (at0 b))) rfl
  have fp13 := fr_of Hp.out 13
  go_enter Tryd.func32, Tryd.ntmps32
  go_upto_region 1 with fail
  refine start_ (n := 11) (S := fun w' => w'.cell? ⟨b, 12, none⟩ = some (.pointer (some (at0 pb))) ∧ w'.cell? ⟨b, 13, none⟩ = some (.pointer (some (at0 nb)))) (ds := [10]) #[false, false, false, false, false, false, false, false, false, false, false] (by kernel_rfl) rfl rfl ⟨cb12, cb13⟩ (fun hHeld => ?_)
  refine pure_ (i := 0) (N := some 9) (v := ?_) (a' := ?_) #[true, false, false, false, false, false, false, false, false, false, false] rfl rfl (by kernel_rfl) (fun _ _ _ h => h) (Or.inl ⟨by rfl, ?_⟩) ?_ ?_
  rotate_left
  · intro w'
    go_simp
    with_reducible rfl
  rotate_left
  · simp only [Act.put, List.setIfInBounds_toArray, List.set_cons_zero, List.set_cons_succ, i64_w, i32_w]
    rfl
  refine pure_ (i := 1) (N := some 10) (v := ?_) (a' := ?_) #[true, true, false, false, false, false, false, false, false, false, false] rfl rfl (by kernel_rfl) (fun _ _ _ h => h) (Or.inl ⟨by rfl, ?_⟩) ?_ ?_
  rotate_left
  · intro w'
    go_simp
    with_reducible rfl
  rotate_left
  · simp only [Act.put, List.setIfInBounds_toArray, List.set_cons_zero, List.set_cons_succ, i64_w, i32_w]
    rfl
  refine pure_ (i := 2) (N := some 11) (v := ?_) (a' := ?_) #[true, true, true, false, false, false, false, false, false, false, false] rfl rfl (by kernel_rfl) (fun _ _ _ h => h) (Or.inl ⟨by rfl, ?_⟩) ?_ ?_
  rotate_left
  · intro w'
    go_simp
    with_reducible rfl
  rotate_left
  · simp only [Act.put, List.setIfInBounds_toArray, List.set_cons_zero, List.set_cons_succ, i64_w, i32_w]
    rfl
  refine pure_ (i := 4) (N := some 13) (v := ?_) (a' := ?_) #[true, true, true, false, true, false, false, false, false, false, false] rfl rfl (by kernel_rfl) (fun _ _ _ h => h) (Or.inl ⟨by rfl, ?_⟩) ?_ ?_
  rotate_left
  · intro w'
    go_simp
    with_reducible rfl
  rotate_left
  · simp only [Act.put, List.setIfInBounds_toArray, List.set_cons_zero, List.set_cons_succ, i64_w, i32_w]
    rfl
  refine pure_ (i := 5) (N := some 14) (v := ?_) (a' := ?_) #[true, true, true, false, true, true, false, false, false, false, false] rfl rfl (by kernel_rfl) (fun _ _ _ h => h) (Or.inl ⟨by rfl, ?_⟩) ?_ ?_
  rotate_left
  · intro w'
    go_simp
    with_reducible rfl
  rotate_left
  · simp only [Act.put, List.setIfInBounds_toArray, List.set_cons_zero, List.set_cons_succ, i64_w, i32_w]
    rfl
  refine pure_ (i := 6) (N := some 15) (v := ?_) (a' := ?_) #[true, true, true, false, true, true, true, false, false, false, false] rfl rfl (by kernel_rfl) (fun _ _ _ h => h) (Or.inl ⟨by rfl, ?_⟩) ?_ ?_
  rotate_left
  · intro w'
    go_simp
    with_reducible rfl
  rotate_left
  · simp only [Act.put, List.setIfInBounds_toArray, List.set_cons_zero, List.set_cons_succ, i64_w, i32_w]
    rfl
  refine take_ (i := 3) (N := some 12) (v := ?_) (a' := ?_) #[true, true, true, true, true, true, true, false, false, false, false] rfl rfl (by kernel_rfl) (fun _ _ _ h => h) (Or.inl ⟨by rfl, ?_⟩) hHeld ?_ ?_
  rotate_left
  · rintro w' ⟨s0, s1⟩
    go_simp
    with_reducible rfl
  rotate_left
  · simp only [Act.put, List.setIfInBounds_toArray, List.set_cons_zero, List.set_cons_succ, i64_w, i32_w]
    rfl
  refine take_ (i := 7) (N := some 16) (v := ?_) (a' := ?_) #[true, true, true, true, true, true, true, true, false, false, false] rfl rfl (by kernel_rfl) (fun _ _ _ h => h) (Or.inl ⟨by rfl, ?_⟩) hHeld ?_ ?_
  rotate_left
  · rintro w' ⟨s0, s1⟩
    go_simp
    with_reducible rfl
  rotate_left
  · simp only [Act.put, List.setIfInBounds_toArray, List.set_cons_zero, List.set_cons_succ, i64_w, i32_w]
    rfl
  refine pure_ (i := 8) (N := some 17) (v := ?_) (a' := ?_) #[true, true, true, true, true, true, true, true, true, false, false] rfl rfl (by kernel_rfl) (fun _ _ _ h => h) (Or.inl ⟨by rfl, ?_⟩) ?_ ?_
  rotate_left
  · intro w'
    go_simp
    with_reducible rfl
  rotate_left
  · simp only [Act.put, List.setIfInBounds_toArray, List.set_cons_zero, List.set_cons_succ, i64_w, i32_w]
    rfl
  refine pure_ (i := 9) (N := some 18) (v := ?_) (a' := ?_) #[true, true, true, true, true, true, true, true, true, true, false] rfl rfl (by kernel_rfl) (fun _ _ _ h => h) (Or.inl ⟨by rfl, ?_⟩) ?_ ?_
  rotate_left
  · intro w'
    go_simp
    with_reducible rfl
  rotate_left
  · simp only [Act.put, List.setIfInBounds_toArray, List.set_cons_zero, List.set_cons_succ, i64_w, i32_w]
    rfl
  refine last_ (i := 10) (N := none) #[true, true, true, true, true, true, true, true, true, true, true] rfl rfl (by kernel_rfl) (by decide) (fun K hK => ?_)
  refine skip_ (w1 := ?_) (by rfl) rfl ?_ ?_
  rotate_left
  · go_simp
    rfl
  refine hK.out _ _ ?_
  clear hK K
  refine done_ (by kernel_rfl) ?_
  clear hHeld
  clear cb12 fb12 cb13 fb13 cp13 fp13
  obtain ⟨W1, hW1⟩ : ∃ W, W = (w.setCell ⟨pb, 13, none⟩ (.pointer (some (at0 nb)))).drew := ⟨_, rfl⟩
  rw [← hW1]
  have Gg : Hid (W1.heap[g]? = some (Sc cap used f l)) := Lib.hid (by rw [hW1]; exact (drew_heap (set_other Hg.out NE_g_p.out)))
  have Gb : Hid (W1.heap[b]? = some (Lc x r sz (some (at0 pb)) (some (at0 nb)))) := Lib.hid (by rw [hW1]; exact (drew_heap (set_other Hb.out NE_b_p.out)))
  have Gp : Hid (W1.heap[pb]? = some (Lc xp rp sp qp (some (at0 nb)))) := Lib.hid (by rw [hW1]; exact (drew_heap (set_same Hp.out rfl)))
  have Gn : Hid (W1.heap[nb]? = some (Lc xn rn sn (some (at0 b)) qn)) := Lib.hid (by rw [hW1]; exact (drew_heap (set_other Hn.out NE_n_p.out)))
  have HO1 : Hid (Only (fun k => k = g ∨ k = b ∨ k = pb ∨ k = nb) w W1) := Lib.hid (by rw [hW1]; exact (Only.setCell HO0.out (p := ⟨pb, 13, none⟩) (by simp) _).drew)
  clear Hg Hb Hp Hn hW1
  have Hg := Gg
  have Hb := Gb
  have Hp := Gp
  have Hn := Gn
  clear Gg Gb Gp Gn
  have cb12 := c_of Hb.out 12 (v := .pointer (some (at0 pb))) rfl
  have fb12 := fr_of Hb.out 12
  have cb13 := c_of Hb.out 13 (v := .pointer (some (at0 nb))) rfl
  have fb13 := fr_of Hb.out 13
  have cn12 := c_of Hn.out 12 (v := .pointer (some (at0 b))) rfl
  have fn12 := fr_of Hn.out 12
  go_upto_region 4 with fail
  refine start_ (n := 11) (S := fun w' => w'.cell? ⟨b, 12, none⟩ = some (.pointer (some (at0 pb))) ∧ w'.cell? ⟨b, 13, none⟩ = some (.pointer (some (at0 nb)))) (ds := [10]) #[false, false, false, false, false, false, false, false, false, false, false] (by kernel_rfl) rfl rfl ⟨cb12, cb13⟩ (fun hHeld => ?_)
  refine pure_ (i := 0) (N := some 31) (v := ?_) (a' := ?_) #[true, false, false, false, false, false, false, false, false, false, false] rfl rfl (by kernel_rfl) (fun _ _ _ h => h) (Or.inl ⟨by rfl, ?_⟩) ?_ ?_
  rotate_left
  · intro w'
    go_simp
    with_reducible rfl
  rotate_left
  · simp only [Act.put, List.setIfInBounds_toArray, List.set_cons_zero, List.set_cons_succ, i64_w, i32_w]
    rfl
  refine pure_ (i := 1) (N := some 32) (v := ?_) (a' := ?_) #[true, true, false, false, false, false, false, false, false, false, false] rfl rfl (by kernel_rfl) (fun _ _ _ h => h) (Or.inl ⟨by rfl, ?_⟩) ?_ ?_
  rotate_left
  · intro w'
    go_simp
    with_reducible rfl
  rotate_left
  · simp only [Act.put, List.setIfInBounds_toArray, List.set_cons_zero, List.set_cons_succ, i64_w, i32_w]
    rfl
  refine pure_ (i := 2) (N := some 33) (v := ?_) (a' := ?_) #[true, true, true, false, false, false, false, false, false, false, false] rfl rfl (by kernel_rfl) (fun _ _ _ h => h) (Or.inl ⟨by rfl, ?_⟩) ?_ ?_
  rotate_left
  · intro w'
    go_simp
    with_reducible rfl
  rotate_left
  · simp only [Act.put, List.setIfInBounds_toArray, List.set_cons_zero, List.set_cons_succ, i64_w, i32_w]
    rfl
  refine pure_ (i := 4) (N := some 35) (v := ?_) (a' := ?_) #[true, true, true, false, true, false, false, false, false, false, false] rfl rfl (by kernel_rfl) (fun _ _ _ h => h) (Or.inl ⟨by rfl, ?_⟩) ?_ ?_
  rotate_left
  · intro w'
    go_simp
    with_reducible rfl
  rotate_left
  · simp only [Act.put, List.setIfInBounds_toArray, List.set_cons_zero, List.set_cons_succ, i64_w, i32_w]
    rfl
  refine pure_ (i := 5) (N := some 36) (v := ?_) (a' := ?_) #[true, true, true, false, true, true, false, false, false, false, false] rfl rfl (by kernel_rfl) (fun _ _ _ h => h) (Or.inl ⟨by rfl, ?_⟩) ?_ ?_
  rotate_left
  · intro w'
    go_simp
    with_reducible rfl
  rotate_left
  · simp only [Act.put, List.setIfInBounds_toArray, List.set_cons_zero, List.set_cons_succ, i64_w, i32_w]
    rfl
  refine pure_ (i := 6) (N := some 37) (v := ?_) (a' := ?_) #[true, true, true, false, true, true, true, false, false, false, false] rfl rfl (by kernel_rfl) (fun _ _ _ h => h) (Or.inl ⟨by rfl, ?_⟩) ?_ ?_
  rotate_left
  · intro w'
    go_simp
    with_reducible rfl
  rotate_left
  · simp only [Act.put, List.setIfInBounds_toArray, List.set_cons_zero, List.set_cons_succ, i64_w, i32_w]
    rfl
  refine take_ (i := 3) (N := some 34) (v := ?_) (a' := ?_) #[true, true, true, true, true, true, true, false, false, false, false] rfl rfl (by kernel_rfl) (fun _ _ _ h => h) (Or.inl ⟨by rfl, ?_⟩) hHeld ?_ ?_
  rotate_left
  · rintro w' ⟨s0, s1⟩
    go_simp
    with_reducible rfl
  rotate_left
  · simp only [Act.put, List.setIfInBounds_toArray, List.set_cons_zero, List.set_cons_succ, i64_w, i32_w]
    rfl
  refine take_ (i := 7) (N := some 38) (v := ?_) (a' := ?_) #[true, true, true, true, true, true, true, true, false, false, false] rfl rfl (by kernel_rfl) (fun _ _ _ h => h) (Or.inl ⟨by rfl, ?_⟩) hHeld ?_ ?_
  rotate_left
  · rintro w' ⟨s0, s1⟩
    go_simp
    with_reducible rfl
  rotate_left
  · simp only [Act.put, List.setIfInBounds_toArray, List.set_cons_zero, List.set_cons_succ, i64_w, i32_w]
    rfl
  refine pure_ (i := 8) (N := some 39) (v := ?_) (a' := ?_) #[true, true, true, true, true, true, true, true, true, false, false] rfl rfl (by kernel_rfl) (fun _ _ _ h => h) (Or.inl ⟨by rfl, ?_⟩) ?_ ?_
  rotate_left
  · intro w'
    go_simp
    with_reducible rfl
  rotate_left
  · simp only [Act.put, List.setIfInBounds_toArray, List.set_cons_zero, List.set_cons_succ, i64_w, i32_w]
    rfl
  refine pure_ (i := 9) (N := some 40) (v := ?_) (a' := ?_) #[true, true, true, true, true, true, true, true, true, true, false] rfl rfl (by kernel_rfl) (fun _ _ _ h => h) (Or.inl ⟨by rfl, ?_⟩) ?_ ?_
  rotate_left
  · intro w'
    go_simp
    with_reducible rfl
  rotate_left
  · simp only [Act.put, List.setIfInBounds_toArray, List.set_cons_zero, List.set_cons_succ, i64_w, i32_w]
    rfl
  refine last_ (i := 10) (N := none) #[true, true, true, true, true, true, true, true, true, true, true] rfl rfl (by kernel_rfl) (by decide) (fun K hK => ?_)
  refine skip_ (w1 := ?_) (by rfl) rfl ?_ ?_
  rotate_left
  · go_simp
    rfl
  refine hK.out _ _ ?_
  clear hK K
  refine done_ (by kernel_rfl) ?_
  clear hHeld
  clear cb12 fb12 cb13 fb13 cn12 fn12
  obtain ⟨W2, hW2⟩ : ∃ W, W = (W1.setCell ⟨nb, 12, none⟩ (.pointer (some (at0 pb)))).drew := ⟨_, rfl⟩
  rw [← hW2]
  have Gg : Hid (W2.heap[g]? = some (Sc cap used f l)) := Lib.hid (by rw [hW2]; exact (drew_heap (set_other Hg.out NE_g_n.out)))
  have Gb : Hid (W2.heap[b]? = some (Lc x r sz (some (at0 pb)) (some (at0 nb)))) := Lib.hid (by rw [hW2]; exact (drew_heap (set_other Hb.out NE_b_n.out)))
  have Gp : Hid (W2.heap[pb]? = some (Lc xp rp sp qp (some (at0 nb)))) := Lib.hid (by rw [hW2]; exact (drew_heap (set_other Hp.out NE_p_n.out)))
  have Gn : Hid (W2.heap[nb]? = some (Lc xn rn sn (some (at0 pb)) qn)) := Lib.hid (by rw [hW2]; exact (drew_heap (set_same Hn.out rfl)))
  have HO2 : Hid (Only (fun k => k = g ∨ k = b ∨ k = pb ∨ k = nb) w W2) := Lib.hid (by rw [hW2]; exact (Only.setCell HO1.out (p := ⟨nb, 12, none⟩) (by simp) _).drew)
  clear Hg Hb Hp Hn hW2
  have Hg := Gg
  have Hb := Gb
  have Hp := Gp
  have Hn := Gn
  clear Gg Gb Gp Gn
  have cb12 := c_of Hb.out 12 (v := .pointer (some (at0 pb))) rfl
  have fb12 := fr_of Hb.out 12
  have cb13 := c_of Hb.out 13 (v := .pointer (some (at0 nb))) rfl
  have fb13 := fr_of Hb.out 13
  go_upto_region 7 with fail
  clear cb12 fb12 cb13 fb13
  obtain ⟨W3, hW3⟩ : ∃ W, W = ((W2.setCell ⟨b, 12, none⟩ (.pointer none)).setCell ⟨b, 13, none⟩ (.pointer none)) := ⟨_, rfl⟩
  rw [← hW3]
  have Gg : Hid (W3.heap[g]? = some (Sc cap used f l)) := Lib.hid (by rw [hW3]; exact (set_other (set_other Hg.out NE_g_b.out) NE_g_b.out))
  have Gb : Hid (W3.heap[b]? = some (Lc x r sz none none)) := Lib.hid (by rw [hW3]; exact (set_same (set_same Hb.out rfl) rfl))
  have Gp : Hid (W3.heap[pb]? = some (Lc xp rp sp qp (some (at0 nb)))) := Lib.hid (by rw [hW3]; exact (set_other (set_other Hp.out NE_p_b.out) NE_p_b.out))
  have Gn : Hid (W3.heap[nb]? = some (Lc xn rn sn (some (at0 pb)) qn)) := Lib.hid (by rw [hW3]; exact (set_other (set_other Hn.out NE_n_b.out) NE_n_b.out))
  have HO3 : Hid (Only (fun k => k = g ∨ k = b ∨ k = pb ∨ k = nb) w W3) := Lib.hid (by rw [hW3]; exact (Only.setCell (Only.setCell HO2.out (p := ⟨b, 12, none⟩) (by simp) _) (p := ⟨b, 13, none⟩) (by simp) _))
  clear Hg Hb Hp Hn hW3
  have Hg := Gg
  have Hb := Gb
  have Hp := Gp
  have Hn := Gn
  clear Gg Gb Gp Gn
  have cg2 := c_of Hg.out 2 (v := .int .i64 used) rfl
  have fg2 := fr_of Hg.out 2
  have cb11 := c_of Hb.out 11 (v := .int .i64 sz) rfl
  have fb11 := fr_of Hb.out 11
  refine start_ (n := 12) (S := fun w' => w'.cell? ⟨g, 2, none⟩ = some (.int .i64 used) ∧ w'.cell? ⟨b, 11, none⟩ = some (.int .i64 sz)) (ds := [11]) #[false, false, false, false, false, false, false, false, false, false, false, false] (by kernel_rfl) rfl rfl ⟨cg2, cb11⟩ (fun hHeld => ?_)
  refine pure_ (i := 0) (N := some 54) (v := ?_) (a' := ?_) #[true, false, false, false, false, false, false, false, false, false, false, false] rfl rfl (by kernel_rfl) (fun _ _ _ h => h) (Or.inl ⟨by rfl, ?_⟩) ?_ ?_
  rotate_left
  · intro w'
    go_simp
    with_reducible rfl
  rotate_left
  · simp only [Act.put, List.setIfInBounds_toArray, List.set_cons_zero, List.set_cons_succ, i64_w, i32_w]
    rfl
  refine pure_ (i := 1) (N := some 55) (v := ?_) (a' := ?_) #[true, true, false, false, false, false, false, false, false, false, false, false] rfl rfl (by kernel_rfl) (fun _ _ _ h => h) (Or.inl ⟨by rfl, ?_⟩) ?_ ?_
  rotate_left
  · intro w'
    go_simp
    with_reducible rfl
  rotate_left
  · simp only [Act.put, List.setIfInBounds_toArray, List.set_cons_zero, List.set_cons_succ, i64_w, i32_w]
    rfl
  refine pure_ (i := 2) (N := some 56) (v := ?_) (a' := ?_) #[true, true, true, false, false, false, false, false, false, false, false, false] rfl rfl (by kernel_rfl) (fun _ _ _ h => h) (Or.inl ⟨by rfl, ?_⟩) ?_ ?_
  rotate_left
  · intro w'
    go_simp
    with_reducible rfl
  rotate_left
  · simp only [Act.put, List.setIfInBounds_toArray, List.set_cons_zero, List.set_cons_succ, i64_w, i32_w]
    rfl
  refine pure_ (i := 4) (N := some 58) (v := ?_) (a' := ?_) #[true, true, true, false, true, false, false, false, false, false, false, false] rfl rfl (by kernel_rfl) (fun _ _ _ h => h) (Or.inl ⟨by rfl, ?_⟩) ?_ ?_
  rotate_left
  · intro w'
    go_simp
    with_reducible rfl
  rotate_left
  · simp only [Act.put, List.setIfInBounds_toArray, List.set_cons_zero, List.set_cons_succ, i64_w, i32_w]
    rfl
  refine pure_ (i := 5) (N := some 59) (v := ?_) (a' := ?_) #[true, true, true, false, true, true, false, false, false, false, false, false] rfl rfl (by kernel_rfl) (fun _ _ _ h => h) (Or.inl ⟨by rfl, ?_⟩) ?_ ?_
  rotate_left
  · intro w'
    go_simp
    with_reducible rfl
  rotate_left
  · simp only [Act.put, List.setIfInBounds_toArray, List.set_cons_zero, List.set_cons_succ, i64_w, i32_w]
    rfl
  refine pure_ (i := 6) (N := some 60) (v := ?_) (a' := ?_) #[true, true, true, false, true, true, true, false, false, false, false, false] rfl rfl (by kernel_rfl) (fun _ _ _ h => h) (Or.inl ⟨by rfl, ?_⟩) ?_ ?_
  rotate_left
  · intro w'
    go_simp
    with_reducible rfl
  rotate_left
  · simp only [Act.put, List.setIfInBounds_toArray, List.set_cons_zero, List.set_cons_succ, i64_w, i32_w]
    rfl
  refine take_ (i := 3) (N := some 57) (v := ?_) (a' := ?_) #[true, true, true, true, true, true, true, false, false, false, false, false] rfl rfl (by kernel_rfl) (fun _ _ _ h => h) (Or.inl ⟨by rfl, ?_⟩) hHeld ?_ ?_
  rotate_left
  · rintro w' ⟨s0, s1⟩
    go_simp
    with_reducible rfl
  rotate_left
  · simp only [Act.put, List.setIfInBounds_toArray, List.set_cons_zero, List.set_cons_succ, i64_w, i32_w]
    rfl
  refine take_ (i := 7) (N := some 61) (v := ?_) (a' := ?_) #[true, true, true, true, true, true, true, true, false, false, false, false] rfl rfl (by kernel_rfl) (fun _ _ _ h => h) (Or.inl ⟨by rfl, ?_⟩) hHeld ?_ ?_
  rotate_left
  · rintro w' ⟨s0, s1⟩
    go_simp
    with_reducible rfl
  rotate_left
  · simp only [Act.put, List.setIfInBounds_toArray, List.set_cons_zero, List.set_cons_succ, i64_w, i32_w]
    rfl
  refine pure_ (i := 8) (N := some 62) (v := ?_) (a' := ?_) #[true, true, true, true, true, true, true, true, true, false, false, false] rfl rfl (by kernel_rfl) (fun _ _ _ h => h) (Or.inl ⟨by rfl, ?_⟩) ?_ ?_
  rotate_left
  · intro w'
    go_simp
    with_reducible rfl
  rotate_left
  · simp only [Act.put, List.setIfInBounds_toArray, List.set_cons_zero, List.set_cons_succ, i64_w, i32_w]
    rfl
  refine pure_ (i := 9) (N := some 63) (v := ?_) (a' := ?_) #[true, true, true, true, true, true, true, true, true, true, false, false] rfl rfl (by kernel_rfl) (fun _ _ _ h => h) (Or.inl ⟨by rfl, ?_⟩) ?_ ?_
  rotate_left
  · intro w'
    go_simp
    with_reducible rfl
  rotate_left
  · simp only [Act.put, List.setIfInBounds_toArray, List.set_cons_zero, List.set_cons_succ, i64_w, i32_w]
    rfl
  refine pure_ (i := 10) (N := some 64) (v := ?_) (a' := ?_) #[true, true, true, true, true, true, true, true, true, true, true, false] rfl rfl (by kernel_rfl) (fun _ _ _ h => h) (Or.inl ⟨by rfl, ?_⟩) ?_ ?_
  rotate_left
  · intro w'
    go_simp
    with_reducible rfl
  rotate_left
  · simp only [Act.put, List.setIfInBounds_toArray, List.set_cons_zero, List.set_cons_succ, i64_w, i32_w]
    rfl
  refine last_ (i := 11) (N := none) #[true, true, true, true, true, true, true, true, true, true, true, true] rfl rfl (by kernel_rfl) (by decide) (fun K hK => ?_)
  refine skip_ (w1 := ?_) (by rfl) rfl ?_ ?_
  rotate_left
  · go_simp
    rfl
  refine hK.out _ _ ?_
  clear hK K
  refine done_ (by kernel_rfl) ?_
  clear hHeld
  clear cg2 fg2 cb11 fb11
  obtain ⟨W4, hW4⟩ : ∃ W, W = (W3.setCell ⟨g, 2, none⟩ (.int .i64 (wrap64 (used - sz)))).drew := ⟨_, rfl⟩
  rw [← hW4]
  have Gg : Hid (W4.heap[g]? = some (Sc cap (wrap64 (used - sz)) f l)) := Lib.hid (by rw [hW4]; exact (drew_heap (set_same Hg.out rfl)))
  have Gb : Hid (W4.heap[b]? = some (Lc x r sz none none)) := Lib.hid (by rw [hW4]; exact (drew_heap (set_other Hb.out NE_b_g.out)))
  have Gp : Hid (W4.heap[pb]? = some (Lc xp rp sp qp (some (at0 nb)))) := Lib.hid (by rw [hW4]; exact (drew_heap (set_other Hp.out NE_p_g.out)))
  have Gn : Hid (W4.heap[nb]? = some (Lc xn rn sn (some (at0 pb)) qn)) := Lib.hid (by rw [hW4]; exact (drew_heap (set_other Hn.out NE_n_g.out)))
  have HO4 : Hid (Only (fun k => k = g ∨ k = b ∨ k = pb ∨ k = nb) w W4) := Lib.hid (by rw [hW4]; exact (Only.setCell HO3.out (p := ⟨g, 2, none⟩) (by simp) _).drew)
  clear Hg Hb Hp Hn hW4
  have Hg := Gg
  have Hb := Gb
  have Hp := Gp
  have Hn := Gn
  clear Gg Gb Gp Gn
  go_wp2
  go_end0
  exact ⟨⟨_, rfl⟩, Hg.out, Hb.out, Hp.out, Hn.out, HO4.out⟩
set_option maxRecDepth 100000 in
set_option maxHeartbeats 1000000 in
theorem in_0 (w : World) (g b : Nat) (x : S41) (r : Rf) (sz cap used : Int) (l n : Option Addr)
    (hg : w.heap[g]? = some (Sc cap used none l))
    (hb : w.heap[b]? = some (Lc x r sz none n))
    (e_g_b : g ≠ b)
    : Calls Tryd.prog 33 #[.pointer (some (at0 g)), .pointer (some (at0 b))] w fun e w' => (∃ v, e = .returned v) ∧ w'.heap[g]? = some (Sc cap (wrap64 (used + sz)) (some (at0 b)) (some (at0 b))) ∧ w'.heap[b]? = some (Lc x r sz none none) ∧ Only (fun k => k = g ∨ k = b) w w' := by
  have NE_g_b := Lib.hid e_g_b
  have NE_b_g := Lib.hid e_g_b.symm
  clear e_g_b
  have Hg := Lib.hid hg
  have Hb := Lib.hid hb
  clear hg hb
  have HO0 : Hid (Only (fun k => k = g ∨ k = b) w w) := Lib.hid (Only.refl _ _)
  have cg3 := c_of Hg.out 3 (v := .pointer none) rfl
  have fg3 := fr_of Hg.out 3
  have cb13 := c_of Hb.out 13 (v := .pointer n) rfl
  have fb13 := fr_of Hb.out 13
  go_enter Tryd.func33, Tryd.ntmps33
  go_upto_region 1 with fail
  clear cg3 fg3 cb13 fb13
  obtain ⟨W1, hW1⟩ : ∃ W, W = (w.setCell ⟨b, 13, none⟩ (.pointer none)) := ⟨_, rfl⟩
  rw [← hW1]
  have Gg : Hid (W1.heap[g]? = some (Sc cap used none l)) := Lib.hid (by rw [hW1]; exact (set_other Hg.out NE_g_b.out))
  have Gb : Hid (W1.heap[b]? = some (Lc x r sz none none)) := Lib.hid (by rw [hW1]; exact (set_same Hb.out rfl))
  have HO1 : Hid (Only (fun k => k = g ∨ k = b) w W1) := Lib.hid (by rw [hW1]; exact (Only.setCell HO0.out (p := ⟨b, 13, none⟩) (by simp) _))
  clear Hg Hb hW1
  have Hg := Gg
  have Hb := Gb
  clear Gg Gb
  have cg3 := c_of Hg.out 3 (v := .pointer none) rfl
  have fg3 := fr_of Hg.out 3
  have cg4 := c_of Hg.out 4 (v := .pointer l) rfl
  have fg4 := fr_of Hg.out 4
  go_upto_region 4 with fail
  clear cg3 fg3 cg4 fg4
  obtain ⟨W2, hW2⟩ : ∃ W, W = (W1.setCell ⟨g, 4, none⟩ (.pointer (some (at0 b)))) := ⟨_, rfl⟩
  rw [← hW2]
  have Gg : Hid (W2.heap[g]? = some (Sc cap used none (some (at0 b)))) := Lib.hid (by rw [hW2]; exact (set_same Hg.out rfl))
  have Gb : Hid (W2.heap[b]? = some (Lc x r sz none none)) := Lib.hid (by rw [hW2]; exact (set_other Hb.out NE_b_g.out))
  have HO2 : Hid (Only (fun k => k = g ∨ k = b) w W2) := Lib.hid (by rw [hW2]; exact (Only.setCell HO1.out (p := ⟨g, 4, none⟩) (by simp) _))
  clear Hg Hb hW2
  have Hg := Gg
  have Hb := Gb
  clear Gg Gb
  have cg3 := c_of Hg.out 3 (v := .pointer none) rfl
  have fg3 := fr_of Hg.out 3
  go_upto_region 5 with fail
  clear cg3 fg3
  obtain ⟨W3, hW3⟩ : ∃ W, W = (W2.setCell ⟨g, 3, none⟩ (.pointer (some (at0 b)))) := ⟨_, rfl⟩
  rw [← hW3]
  have Gg : Hid (W3.heap[g]? = some (Sc cap used (some (at0 b)) (some (at0 b)))) := Lib.hid (by rw [hW3]; exact (set_same Hg.out rfl))
  have Gb : Hid (W3.heap[b]? = some (Lc x r sz none none)) := Lib.hid (by rw [hW3]; exact (set_other Hb.out NE_b_g.out))
  have HO3 : Hid (Only (fun k => k = g ∨ k = b) w W3) := Lib.hid (by rw [hW3]; exact (Only.setCell HO2.out (p := ⟨g, 3, none⟩) (by simp) _))
  clear Hg Hb hW3
  have Hg := Gg
  have Hb := Gb
  clear Gg Gb
  have cg2 := c_of Hg.out 2 (v := .int .i64 used) rfl
  have fg2 := fr_of Hg.out 2
  have cb11 := c_of Hb.out 11 (v := .int .i64 sz) rfl
  have fb11 := fr_of Hb.out 11
  refine start_ (n := 12) (S := fun w' => w'.cell? ⟨g, 2, none⟩ = some (.int .i64 used) ∧ w'.cell? ⟨b, 11, none⟩ = some (.int .i64 sz)) (ds := [11]) #[false, false, false, false, false, false, false, false, false, false, false, false] (by kernel_rfl) rfl rfl ⟨cg2, cb11⟩ (fun hHeld => ?_)
  refine pure_ (i := 0) (N := some 31) (v := ?_) (a' := ?_) #[true, false, false, false, false, false, false, false, false, false, false, false] rfl rfl (by kernel_rfl) (fun _ _ _ h => h) (Or.inl ⟨by rfl, ?_⟩) ?_ ?_
  rotate_left
  · intro w'
    go_simp
    with_reducible rfl
  rotate_left
  · simp only [Act.put, List.setIfInBounds_toArray, List.set_cons_zero, List.set_cons_succ, i64_w, i32_w]
    rfl
  refine pure_ (i := 1) (N := some 32) (v := ?_) (a' := ?_) #[true, true, false, false, false, false, false, false, false, false, false, false] rfl rfl (by kernel_rfl) (fun _ _ _ h => h) (Or.inl ⟨by rfl, ?_⟩) ?_ ?_
  rotate_left
  · intro w'
    go_simp
    with_reducible rfl
  rotate_left
  · simp only [Act.put, List.setIfInBounds_toArray, List.set_cons_zero, List.set_cons_succ, i64_w, i32_w]
    rfl
  refine pure_ (i := 2) (N := some 33) (v := ?_) (a' := ?_) #[true, true, true, false, false, false, false, false, false, false, false, false] rfl rfl (by kernel_rfl) (fun _ _ _ h => h) (Or.inl ⟨by rfl, ?_⟩) ?_ ?_
  rotate_left
  · intro w'
    go_simp
    with_reducible rfl
  rotate_left
  · simp only [Act.put, List.setIfInBounds_toArray, List.set_cons_zero, List.set_cons_succ, i64_w, i32_w]
    rfl
  refine pure_ (i := 4) (N := some 35) (v := ?_) (a' := ?_) #[true, true, true, false, true, false, false, false, false, false, false, false] rfl rfl (by kernel_rfl) (fun _ _ _ h => h) (Or.inl ⟨by rfl, ?_⟩) ?_ ?_
  rotate_left
  · intro w'
    go_simp
    with_reducible rfl
  rotate_left
  · simp only [Act.put, List.setIfInBounds_toArray, List.set_cons_zero, List.set_cons_succ, i64_w, i32_w]
    rfl
  refine pure_ (i := 5) (N := some 36) (v := ?_) (a' := ?_) #[true, true, true, false, true, true, false, false, false, false, false, false] rfl rfl (by kernel_rfl) (fun _ _ _ h => h) (Or.inl ⟨by rfl, ?_⟩) ?_ ?_
  rotate_left
  · intro w'
    go_simp
    with_reducible rfl
  rotate_left
  · simp only [Act.put, List.setIfInBounds_toArray, List.set_cons_zero, List.set_cons_succ, i64_w, i32_w]
    rfl
  refine pure_ (i := 6) (N := some 37) (v := ?_) (a' := ?_) #[true, true, true, false, true, true, true, false, false, false, false, false] rfl rfl (by kernel_rfl) (fun _ _ _ h => h) (Or.inl ⟨by rfl, ?_⟩) ?_ ?_
  rotate_left
  · intro w'
    go_simp
    with_reducible rfl
  rotate_left
  · simp only [Act.put, List.setIfInBounds_toArray, List.set_cons_zero, List.set_cons_succ, i64_w, i32_w]
    rfl
  refine take_ (i := 3) (N := some 34) (v := ?_) (a' := ?_) #[true, true, true, true, true, true, true, false, false, false, false, false] rfl rfl (by kernel_rfl) (fun _ _ _ h => h) (Or.inl ⟨by rfl, ?_⟩) hHeld ?_ ?_
  rotate_left
  · rintro w' ⟨s0, s1⟩
    go_simp
    with_reducible rfl
  rotate_left
  · simp only [Act.put, List.setIfInBounds_toArray, List.set_cons_zero, List.set_cons_succ, i64_w, i32_w]
    rfl
  refine take_ (i := 7) (N := some 38) (v := ?_) (a' := ?_) #[true, true, true, true, true, true, true, true, false, false, false, false] rfl rfl (by kernel_rfl) (fun _ _ _ h => h) (Or.inl ⟨by rfl, ?_⟩) hHeld ?_ ?_
  rotate_left
  · rintro w' ⟨s0, s1⟩
    go_simp
    with_reducible rfl
  rotate_left
  · simp only [Act.put, List.setIfInBounds_toArray, List.set_cons_zero, List.set_cons_succ, i64_w, i32_w]
    rfl
  refine pure_ (i := 8) (N := some 39) (v := ?_) (a' := ?_) #[true, true, true, true, true, true, true, true, true, false, false, false] rfl rfl (by kernel_rfl) (fun _ _ _ h => h) (Or.inl ⟨by rfl, ?_⟩) ?_ ?_
  rotate_left
  · intro w'
    go_simp
    with_reducible rfl
  rotate_left
  · simp only [Act.put, List.setIfInBounds_toArray, List.set_cons_zero, List.set_cons_succ, i64_w, i32_w]
    rfl
  refine pure_ (i := 9) (N := some 40) (v := ?_) (a' := ?_) #[true, true, true, true, true, true, true, true, true, true, false, false] rfl rfl (by kernel_rfl) (fun _ _ _ h => h) (Or.inl ⟨by rfl, ?_⟩) ?_ ?_
  rotate_left
  · intro w'
    go_simp
    with_reducible rfl
  rotate_left
  · simp only [Act.put, List.setIfInBounds_toArray, List.set_cons_zero, List.set_cons_succ, i64_w, i32_w]
    rfl
  refine pure_ (i := 10) (N := some 41) (v := ?_) (a' := ?_) #[true, true, true, true, true, true, true, true, true, true, true, false] rfl rfl (by kernel_rfl) (fun _ _ _ h => h) (Or.inl ⟨by rfl, ?_⟩) ?_ ?_
  rotate_left
  · intro w'
    go_simp
    with_reducible rfl
  rotate_left
  · simp only [Act.put, List.setIfInBounds_toArray, List.set_cons_zero, List.set_cons_succ, i64_w, i32_w]
    rfl
  refine last_ (i := 11) (N := none) #[true, true, true, true, true, true, true, true, true, true, true, true] rfl rfl (by kernel_rfl) (by decide) (fun K hK => ?_)
  refine skip_ (w1 := ?_) (by rfl) rfl ?_ ?_
  rotate_left
  · go_simp
    rfl
  refine hK.out _ _ ?_
  clear hK K
  refine done_ (by kernel_rfl) ?_
  clear hHeld
  clear cg2 fg2 cb11 fb11
  obtain ⟨W4, hW4⟩ : ∃ W, W = (W3.setCell ⟨g, 2, none⟩ (.int .i64 (wrap64 (used + sz)))).drew := ⟨_, rfl⟩
  rw [← hW4]
  have Gg : Hid (W4.heap[g]? = some (Sc cap (wrap64 (used + sz)) (some (at0 b)) (some (at0 b)))) := Lib.hid (by rw [hW4]; exact (drew_heap (set_same Hg.out rfl)))
  have Gb : Hid (W4.heap[b]? = some (Lc x r sz none none)) := Lib.hid (by rw [hW4]; exact (drew_heap (set_other Hb.out NE_b_g.out)))
  have HO4 : Hid (Only (fun k => k = g ∨ k = b) w W4) := Lib.hid (by rw [hW4]; exact (Only.setCell HO3.out (p := ⟨g, 2, none⟩) (by simp) _).drew)
  clear Hg Hb hW4
  have Hg := Gg
  have Hb := Gb
  clear Gg Gb
  go_wp2
  go_end0
  exact ⟨⟨_, rfl⟩, Hg.out, Hb.out, HO4.out⟩
set_option maxRecDepth 100000 in
set_option maxHeartbeats 1000000 in
theorem in_1 (w : World) (g b fb : Nat) (x xp : S41) (r rp : Rf) (sz sp cap used : Int) (l n qp : Option Addr)
    (hg : w.heap[g]? = some (Sc cap used (some (at0 fb)) l))
    (hb : w.heap[b]? = some (Lc x r sz none n))
    (hp : w.heap[fb]? = some (Lc xp rp sp none qp))
    (e_g_b : g ≠ b)
    (e_g_p : g ≠ fb)
    (e_b_p : b ≠ fb)
    : Calls Tryd.prog 33 #[.pointer (some (at0 g)), .pointer (some (at0 b))] w fun e w' => (∃ v, e = .returned v) ∧ w'.heap[g]? = some (Sc cap (wrap64 (used + sz)) (some (at0 b)) l) ∧ w'.heap[b]? = some (Lc x r sz none (some (at0 fb))) ∧ w'.heap[fb]? = some (Lc xp rp sp (some (at0 b)) qp) ∧ Only (fun k => k = g ∨ k = b ∨ k = fb) w w' := by
  have NE_g_b := Lib.hid e_g_b
  have NE_b_g := Lib.hid e_g_b.symm
  have NE_g_p := Lib.hid e_g_p
  have NE_p_g := Lib.hid e_g_p.symm
  have NE_b_p := Lib.hid e_b_p
  have NE_p_b := Lib.hid e_b_p.symm
  clear e_g_b e_g_p e_b_p
  have Hg := Lib.hid hg
  have Hb := Lib.hid hb
  have Hp := Lib.hid hp
  clear hg hb hp
  have HO0 : Hid (Only (fun k => k = g ∨ k = b ∨ k = fb) w w) := Lib.hid (Only.refl _ _)
  have cg3 := c_of Hg.out 3 (v := .pointer (some (at0 fb))) rfl
  have fg3 := fr_of Hg.out 3
  have cb13 := c_of Hb.out 13 (v := .pointer n) rfl
  have fb13 := fr_of Hb.out 13
  go_enter Tryd.func33, Tryd.ntmps33
  go_upto_region 1 with fail
  clear cg3 fg3 cb13 fb13
  obtain ⟨W1, hW1⟩ : ∃ W, W = (w.setCell ⟨b, 13, none⟩ (.pointer (some (at0 fb)))) := ⟨_, rfl⟩
  rw [← hW1]
  have Gg : Hid (W1.heap[g]? = some (Sc cap used (some (at0 fb)) l)) := Lib.hid (by rw [hW1]; exact (set_other Hg.out NE_g_b.out))
  have Gb : Hid (W1.heap[b]? = some (Lc x r sz none (some (at0 fb)))) := Lib.hid (by rw [hW1]; exact (set_same Hb.out rfl))
  have Gp : Hid (W1.heap[fb]? = some (Lc xp rp sp none qp)) := Lib.hid (by rw [hW1]; exact (set_other Hp.out NE_p_b.out))
  have HO1 : Hid (Only (fun k => k = g ∨ k = b ∨ k = fb) w W1) := Lib.hid (by rw [hW1]; exact (Only.setCell HO0.out (p := ⟨b, 13, none⟩) (by simp) _))
  clear Hg Hb Hp hW1
  have Hg := Gg
  have Hb := Gb
  have Hp := Gp
  clear Gg Gb Gp
  have cg3 := c_of Hg.out 3 (v := .pointer (some (at0 fb))) rfl
  have fg3 := fr_of Hg.out 3
  have cp12 := c_of Hp.out 12 (v := .pointer none) rfl
  have fp12 := fr_of Hp.out 12
  go_upto_region 4 with fail
  clear cg3 fg3 cp12 fp12
  obtain ⟨W2, hW2⟩ : ∃ W, W = (W1.setCell ⟨fb, 12, none⟩ (.pointer (some (at0 b)))) := ⟨_, rfl⟩
  rw [← hW2]
  have Gg : Hid (W2.heap[g]? = some (Sc cap used (some (at0 fb)) l)) := Lib.hid (by rw [hW2]; exact (set_other Hg.out NE_g_p.out))
  have Gb : Hid (W2.heap[b]? = some (Lc x r sz none (some (at0 fb)))) := Lib.hid (by rw [hW2]; exact (set_other Hb.out NE_b_p.out))
  have Gp : Hid (W2.heap[fb]? = some (Lc xp rp sp (some (at0 b)) qp)) := Lib.hid (by rw [hW2]; exact (set_same Hp.out rfl))
  have HO2 : Hid (Only (fun k => k = g ∨ k = b ∨ k = fb) w W2) := Lib.hid (by rw [hW2]; exact (Only.setCell HO1.out (p := ⟨fb, 12, none⟩) (by simp) _))
  clear Hg Hb Hp hW2
  have Hg := Gg
  have Hb := Gb
  have Hp := Gp
  clear Gg Gb Gp
  have cg3 := c_of Hg.out 3 (v := .pointer (some (at0 fb))) rfl
  have fg3 := fr_of Hg.out 3
  go_upto_region 5 with fail
  clear cg3 fg3
  obtain ⟨W3, hW3⟩ : ∃ W, W = (W2.setCell ⟨g, 3, none⟩ (.pointer (some (at0 b)))) := ⟨_, rfl⟩
  rw [← hW3]
  have Gg : Hid (W3.heap[g]? = some (Sc cap used (some (at0 b)) l)) := Lib.hid (by rw [hW3]; exact (set_same Hg.out rfl))
  have Gb : Hid (W3.heap[b]? = some (Lc x r sz none (some (at0 fb)))) := Lib.hid (by rw [hW3]; exact (set_other Hb.out NE_b_g.out))
  have Gp : Hid (W3.heap[fb]? = some (Lc xp rp sp (some (at0 b)) qp)) := Lib.hid (by rw [hW3]; exact (set_other Hp.out NE_p_g.out))
  have HO3 : Hid (Only (fun k => k = g ∨ k = b ∨ k = fb) w W3) := Lib.hid (by rw [hW3]; exact (Only.setCell HO2.out (p := ⟨g, 3, none⟩) (by simp) _))
  clear Hg Hb Hp hW3
  have Hg := Gg
  have Hb := Gb
  have Hp := Gp
  clear Gg Gb Gp
  have cg2 := c_of Hg.out 2 (v := .int .i64 used) rfl
  have fg2 := fr_of Hg.out 2
  have cb11 := c_of Hb.out 11 (v := .int .i64 sz) rfl
  have fb11 := fr_of Hb.out 11
  refine start_ (n := 12) (S := fun w' => w'.cell? ⟨g, 2, none⟩ = some (.int .i64 used) ∧ w'.cell? ⟨b, 11, none⟩ = some (.int .i64 sz)) (ds := [11]) #[false, false, false, false, false, false, false, false, false, false, false, false] (by kernel_rfl) rfl rfl ⟨cg2, cb11⟩ (fun hHeld => ?_)
  refine pure_ (i := 0) (N := some 31) (v := ?_) (a' := ?_) #[true, false, false, false, false, false, false, false, false, false, false, false] rfl rfl (by kernel_rfl) (fun _ _ _ h => h) (Or.inl ⟨by rfl, ?_⟩) ?_ ?_
  rotate_left
  · intro w'
    go_simp
    with_reducible rfl
  rotate_left
  · simp only [Act.put, List.setIfInBounds_toArray, List.set_cons_zero, List.set_cons_succ, i64_w, i32_w]
    rfl
  refine pure_ (i := 1) (N := some 32) (v := ?_) (a' := ?_) #[true, true, false, false, false, false, false, false, false, false, false, false] rfl rfl (by kernel_rfl) (fun _ _ _ h => h) (Or.inl ⟨by rfl, ?_⟩) ?_ ?_
  rotate_left
  · intro w'
    go_simp
    with_reducible rfl
  rotate_left
  · simp only [Act.put, List.setIfInBounds_toArray, List.set_cons_zero, List.set_cons_succ, i64_w, i32_w]
    rfl
  refine pure_ (i := 2) (N := some 33) (v := ?_) (a' := ?_) #[true, true, true, false, false, false, false, false, false, false, false, false] rfl rfl (by kernel_rfl) (fun _ _ _ h => h) (Or.inl ⟨by rfl, ?_⟩) ?_ ?_
  rotate_left
  · intro w'
    go_simp
    with_reducible rfl
  rotate_left
  · simp only [Act.put, List.setIfInBounds_toArray, List.set_cons_zero, List.set_cons_succ, i64_w, i32_w]
    rfl
  refine pure_ (i := 4) (N := some 35) (v := ?_) (a' := ?_) #[true, true, true, false, true, false, false, false, false, false, false, false] rfl rfl (by kernel_rfl) (fun _ _ _ h => h) (Or.inl ⟨by rfl, ?_⟩) ?_ ?_
  rotate_left
  · intro w'
    go_simp
    with_reducible rfl
  rotate_left
  · simp only [Act.put, List.setIfInBounds_toArray, List.set_cons_zero, List.set_cons_succ, i64_w, i32_w]
    rfl
  refine pure_ (i := 5) (N := some 36) (v := ?_) (a' := ?_) #[true, true, true, false, true, true, false, false, false, false, false, false] rfl rfl (by kernel_rfl) (fun _ _ _ h => h) (Or.inl ⟨by rfl, ?_⟩) ?_ ?_
  rotate_left
  · intro w'
    go_simp
    with_reducible rfl
  rotate_left
  · simp only [Act.put, List.setIfInBounds_toArray, List.set_cons_zero, List.set_cons_succ, i64_w, i32_w]
    rfl
  refine pure_ (i := 6) (N := some 37) (v := ?_) (a' := ?_) #[true, true, true, false, true, true, true, false, false, false, false, false] rfl rfl (by kernel_rfl) (fun _ _ _ h => h) (Or.inl ⟨by rfl, ?_⟩) ?_ ?_
  rotate_left
  · intro w'
    go_simp
    with_reducible rfl
  rotate_left
  · simp only [Act.put, List.setIfInBounds_toArray, List.set_cons_zero, List.set_cons_succ, i64_w, i32_w]
    rfl
  refine take_ (i := 3) (N := some 34) (v := ?_) (a' := ?_) #[true, true, true, true, true, true, true, false, false, false, false, false] rfl rfl (by kernel_rfl) (fun _ _ _ h => h) (Or.inl ⟨by rfl, ?_⟩) hHeld ?_ ?_
  rotate_left
  · rintro w' ⟨s0, s1⟩
    go_simp
    with_reducible rfl
  rotate_left
  · simp only [Act.put, List.setIfInBounds_toArray, List.set_cons_zero, List.set_cons_succ, i64_w, i32_w]
    rfl
  refine take_ (i := 7) (N := some 38) (v := ?_) (a' := ?_) #[true, true, true, true, true, true, true, true, false, false, false, false] rfl rfl (by kernel_rfl) (fun _ _ _ h => h) (Or.inl ⟨by rfl, ?_⟩) hHeld ?_ ?_
  rotate_left
  · rintro w' ⟨s0, s1⟩
    go_simp
    with_reducible rfl
  rotate_left
  · simp only [Act.put, List.setIfInBounds_toArray, List.set_cons_zero, List.set_cons_succ, i64_w, i32_w]
    rfl
  refine pure_ (i := 8) (N := some 39) (v := ?_) (a' := ?_) #[true, true, true, true, true, true, true, true, true, false, false, false] rfl rfl (by kernel_rfl) (fun _ _ _ h => h) (Or.inl ⟨by rfl, ?_⟩) ?_ ?_
  rotate_left
  · intro w'
    go_simp
    with_reducible rfl
  rotate_left
  · simp only [Act.put, List.setIfInBounds_toArray, List.set_cons_zero, List.set_cons_succ, i64_w, i32_w]
    rfl
  refine pure_ (i := 9) (N := some 40) (v := ?_) (a' := ?_) #[true, true, true, true, true, true, true, true, true, true, false, false] rfl rfl (by kernel_rfl) (fun _ _ _ h => h) (Or.inl ⟨by rfl, ?_⟩) ?_ ?_
  rotate_left
  · intro w'
    go_simp
    with_reducible rfl
  rotate_left
  · simp only [Act.put, List.setIfInBounds_toArray, List.set_cons_zero, List.set_cons_succ, i64_w, i32_w]
    rfl
  refine pure_ (i := 10) (N := some 41) (v := ?_) (a' := ?_) #[true, true, true, true, true, true, true, true, true, true, true, false] rfl rfl (by kernel_rfl) (fun _ _ _ h => h) (Or.inl ⟨by rfl, ?_⟩) ?_ ?_
  rotate_left
  · intro w'
    go_simp
    with_reducible rfl
  rotate_left
  · simp only [Act.put, List.setIfInBounds_toArray, List.set_cons_zero, List.set_cons_succ, i64_w, i32_w]
    rfl
  refine last_ (i := 11) (N := none) #[true, true, true, true, true, true, true, true, true, true, true, true] rfl rfl (by kernel_rfl) (by decide) (fun K hK => ?_)
  refine skip_ (w1 := ?_) (by rfl) rfl ?_ ?_
  rotate_left
  · go_simp
    rfl
  refine hK.out _ _ ?_
  clear hK K
  refine done_ (by kernel_rfl) ?_
  clear hHeld
  clear cg2 fg2 cb11 fb11
  obtain ⟨W4, hW4⟩ : ∃ W, W = (W3.setCell ⟨g, 2, none⟩ (.int .i64 (wrap64 (used + sz)))).drew := ⟨_, rfl⟩
  rw [← hW4]
  have Gg : Hid (W4.heap[g]? = some (Sc cap (wrap64 (used + sz)) (some (at0 b)) l)) := Lib.hid (by rw [hW4]; exact (drew_heap (set_same Hg.out rfl)))
  have Gb : Hid (W4.heap[b]? = some (Lc x r sz none (some (at0 fb)))) := Lib.hid (by rw [hW4]; exact (drew_heap (set_other Hb.out NE_b_g.out)))
  have Gp : Hid (W4.heap[fb]? = some (Lc xp rp sp (some (at0 b)) qp)) := Lib.hid (by rw [hW4]; exact (drew_heap (set_other Hp.out NE_p_g.out)))
  have HO4 : Hid (Only (fun k => k = g ∨ k = b ∨ k = fb) w W4) := Lib.hid (by rw [hW4]; exact (Only.setCell HO3.out (p := ⟨g, 2, none⟩) (by simp) _).drew)
  clear Hg Hb Hp hW4
  have Hg := Gg
  have Hb := Gb
  have Hp := Gp
  clear Gg Gb Gp
  go_wp2
  go_end0
  exact ⟨⟨_, rfl⟩, Hg.out, Hb.out, Hp.out, HO4.out⟩

theorem ok_nil (w : World) : Calls Tryd.prog 27 #[.pointer none] w fun e w' => e = .returned (.bool false) ∧ w' = w := by
  go_enter Tryd.func27, Tryd.ntmps27
  go_wp2
  go_ret
  exact ⟨rfl, rfl⟩
theorem ok_made (w : World) (g : Nat) (cap used : Int) (f l : Option Addr) (hg : w.heap[g]? = some (Sc cap used f l)) : Calls Tryd.prog 27 #[.pointer (some (at0 g))] w fun e w' => e = .returned (.bool true) ∧ w' = w := by
  have h0 := c_of hg 0 (v := .bool true) rfl
  clear hg
  go_enter Tryd.func27, Tryd.ntmps27
  go_wp2
  go_ret
  exact ⟨rfl, rfl⟩
theorem ok_zero (w : World) (g : Nat) (h0 : w.cell? ⟨g, 0, none⟩ = some (.bool false)) : Calls Tryd.prog 27 #[.pointer (some (at0 g))] w fun e w' => e = .returned (.bool false) ∧ w' = w := by
  go_enter Tryd.func27, Tryd.ntmps27
  go_wp2
  go_ret
  exact ⟨rfl, rfl⟩
theorem used_made (w : World) (g : Nat) (cap used : Int) (f l : Option Addr) (hg : w.heap[g]? = some (Sc cap used f l)) : Calls Tryd.prog 14 #[.pointer (some (at0 g))] w fun e w' => e = .returned (.int .i64 used) ∧ w' = w := by
  have Hok := Lib.hid (ok_made w g cap used f l hg)
  have h2 := c_of hg 2 (v := .int .i64 used) rfl
  clear hg
  go_enter Tryd.func14, Tryd.ntmps14
  go_wp2_with (go_at_call 27; refine Hok.out.mono ?_; rintro e w' ⟨rfl, rfl⟩)
  go_ret
  exact ⟨rfl, rfl⟩
theorem used_no (w : World) (p : Option Addr) (hno : Calls Tryd.prog 27 #[.pointer p] w fun e w' => e = .returned (.bool false) ∧ w' = w) : Calls Tryd.prog 14 #[.pointer p] w fun e w' => e = .returned (.int .i64 0) ∧ w' = w := by
  have Hok := Lib.hid hno
  clear hno
  go_enter Tryd.func14, Tryd.ntmps14
  go_wp2_with (go_at_call 27; refine Hok.out.mono ?_; rintro e w' ⟨rfl, rfl⟩)
  go_ret
  exact ⟨rfl, rfl⟩
theorem new_yes (w : World) (n : Int) (h0 : 0 ≤ n) (h1 : n ≤ 65536) : Calls Tryd.prog 8 #[.int .i64 n] w fun e w' => e = .returned (.tuple #[.pointer (some (at0 w.heap.size)), .int .i64 0]) ∧ w' = w.alloc (Sc n 0 none none) := by
  have h1' : decide (n < 0) = false := decide_eq_false (by omega)
  have h2 : decide (65536 < n) = false := decide_eq_false (by omega)
  go_enter Tryd.func8, Tryd.ntmps8
  go_wp2
  go_ret2
  exact ⟨rfl, rfl⟩
end Go.Proofs.YtkbbjjegpjdpeaaDoor.S
/- (not yet a claim) the store's row of links -/
namespace Go.Proofs.YtkbbjjegpjdpeaaDoor.S
open Go.RowKit Go.Proofs.YtkbbjjegpjdpeaaDoorW.PrintWords Go.Proofs.YtkbbjjegpjdpeaaDoorW.PrintLast Go.Proofs.YtkbbjjegpjdpeaaDoorW.PrintMore Go.Proofs.YtkbbjjegpjdpeaaDoor.G
set_option linter.unusedVariables false
set_option linter.unusedSimpArgs false

/-- a link: its block, its exchange, its size -/
structure Nd where
  b : Nat
  x : S41
  r : Rf
  z : Int
def first : List Nd → Option Addr → Option Addr
  | [], n => n
  | d :: _, _ => some (at0 d.b)
def last : Option Addr → List Nd → Option Addr
  | p, [] => p
  | _, d :: t => last (some (at0 d.b)) t
def Seg (w : World) : Option Addr → List Nd → Option Addr → Prop
  | _, [], _ => True
  | p, d :: t, n => w.heap[d.b]? = some (Lc d.x d.r d.z p (first t n)) ∧ Seg w (some (at0 d.b)) t n

theorem last_snoc : ∀ (p : Option Addr) (l : List Nd) (d : Nd), last p (l ++ [d]) = some (at0 d.b)
  | _, [], _ => rfl
  | _, e :: t, d => last_snoc (some (at0 e.b)) t d
theorem first_append : ∀ (l m : List Nd) (n : Option Addr), first (l ++ m) n = first l (first m n)
  | [], _, _ => rfl
  | _ :: _, _, _ => rfl
theorem last_append : ∀ (p : Option Addr) (l m : List Nd), last p (l ++ m) = last (last p l) m
  | _, [], _ => rfl
  | _, e :: t, m => last_append (some (at0 e.b)) t m
theorem seg_append (w : World) (n : Option Addr) (m : List Nd) : ∀ (p : Option Addr) (l : List Nd), Seg w p (l ++ m) n ↔ Seg w p l (first m n) ∧ Seg w (last p l) m n
  | p, [] => by simp [Seg, last]
  | p, d :: t => by
    simp only [List.cons_append, Seg, last, first_append, seg_append w n m (some (at0 d.b)) t, and_assoc]
theorem seg_mem {w : World} {n : Option Addr} : ∀ {p : Option Addr} {l : List Nd}, Seg w p l n → ∀ d ∈ l, ∃ p' n', w.heap[d.b]? = some (Lc d.x d.r d.z p' n')
  | p, [], _, d, hd => by cases hd
  | p, e :: t, h, d, hd => by
    rcases List.mem_cons.1 hd with rfl | hd
    · exact ⟨_, _, h.1⟩
    · exact seg_mem h.2 d hd
theorem seg_keep {w w' : World} {n : Option Addr} : ∀ {p : Option Addr} {l : List Nd}, Seg w p l n → (∀ d ∈ l, w'.heap[d.b]? = w.heap[d.b]?) → Seg w' p l n
  | p, [], _, _ => trivial
  | p, d :: t, h, hk => ⟨(hk d (List.mem_cons_self ..)).trans h.1, seg_keep h.2 (fun e he => hk e (List.mem_cons_of_mem _ he))⟩

structure StoreAt (w : World) (g : Nat) (cap used : Int) (l : List Nd) : Prop where
  head : w.heap[g]? = some (Sc cap used (first l none) (last none l))
  seg : Seg w none l none
  nd : (g :: l.map Nd.b).Nodup
theorem StoreAt.keep {w w' : World} {g : Nat} {cap used : Int} {l : List Nd} (h : StoreAt w g cap used l) (hg : w'.heap[g]? = w.heap[g]?) (hk : ∀ d ∈ l, w'.heap[d.b]? = w.heap[d.b]?) : StoreAt w' g cap used l :=
  ⟨hg.trans h.head, seg_keep h.seg hk, h.nd⟩
theorem StoreAt.mem {w : World} {g : Nat} {cap used : Int} {l : List Nd} (h : StoreAt w g cap used l) (d : Nd) (hd : d ∈ l) : ∃ p' n', w.heap[d.b]? = some (Lc d.x d.r d.z p' n') := seg_mem h.seg d hd
theorem StoreAt.lt {w : World} {g : Nat} {cap used : Int} {l : List Nd} (h : StoreAt w g cap used l) (d : Nd) (hd : d ∈ l) : d.b < w.heap.size := by
  obtain ⟨p', n', e⟩ := h.mem d hd
  exact blk_lt' e
def Mine (g : Nat) (l : List Nd) (k : Nat) : Prop := k = g ∨ ∃ d ∈ l, k = d.b
theorem StoreAt.only {w w' : World} {g : Nat} {cap used : Int} {l : List Nd} {S : Nat → Prop} (h : StoreAt w g cap used l) (ho : Only S w w') (hs : ∀ k, Mine g l k → ¬ S k) : StoreAt w' g cap used l :=
  h.keep (ho.block _ (blk_lt' h.head) (hs _ (.inl rfl))) (fun d hd => ho.block _ (h.lt d hd) (hs _ (.inr ⟨d, hd, rfl⟩)))

theorem snoc_cases {α : Type} (l : List α) : l = [] ∨ ∃ t d, l = t ++ [d] := by
  rcases List.eq_nil_or_concat l with h | ⟨t, d, h⟩
  · exact .inl h
  · exact .inr ⟨t, d, by simpa using h⟩

theorem out_at (w : World) (g : Nat) (cap used : Int) (l1 l2 : List Nd) (d : Nd) (h : StoreAt w g cap used (l1 ++ d :: l2)) :
    Calls Tryd.prog 32 #[.pointer (some (at0 g)), .pointer (some (at0 d.b))] w fun e w' => (∃ v, e = .returned v) ∧ StoreAt w' g cap (wrap64 (used - d.z)) (l1 ++ l2) ∧ w'.heap[d.b]? = some (Lc d.x d.r d.z none none) ∧ Only (Mine g (l1 ++ d :: l2)) w w' := by
  obtain ⟨hg, hs, hn⟩ := h
  rw [seg_append] at hs
  obtain ⟨hs1, hb, hs2⟩ := hs
  rw [first_append, last_append] at hg
  have hn' : (g :: (l1 ++ l2).map Nd.b).Nodup := by
    refine hn.sublist (List.Sublist.cons_cons _ (List.Sublist.map _ (List.Sublist.append (List.Sublist.refl _) (List.sublist_cons_self _ _))))
  have hnb : g ≠ d.b := fun e => (List.nodup_cons.1 hn).1 (by rw [e]; simp)
  rcases snoc_cases l1 with rfl | ⟨t1, p, rfl⟩
  · simp only [first, last, List.nil_append] at hg hb hs2 ⊢
    rcases l2 with _ | ⟨n, t2⟩
    · refine (out_00 w g d.b d.x d.r d.z cap used _ _ hg hb hnb).mono ?_
      rintro e w' ⟨hv, q1, q2, ho⟩
      exact ⟨hv, ⟨q1, trivial, hn'⟩, q2, ho.mono (fun k hk => by rcases hk with rfl | rfl; exact .inl rfl; exact .inr ⟨d, by simp, rfl⟩)⟩
    · have hn2 := hs2.1
      have e1 : g ≠ n.b := fun e => (List.nodup_cons.1 hn).1 (by rw [e]; simp)
      have hdm : d.b ∉ (n :: t2).map Nd.b := (List.nodup_cons.1 (List.nodup_cons.1 hn).2).1
      have e2 : d.b ≠ n.b := fun e => hdm (by rw [e]; simp)
      refine (out_01 w g d.b n.b d.x n.x d.r n.r d.z n.z cap used _ _ _ hg hb hn2 hnb e1 e2).mono ?_
      rintro e w' ⟨hv, q1, q2, q3, ho⟩
      refine ⟨hv, ⟨?_, ⟨q3, seg_keep hs2.2 (fun f hf => ho.block _ ?_ ?_)⟩, hn'⟩, q2, ho.mono (fun k hk => by rcases hk with rfl | rfl | rfl; exact .inl rfl; exact .inr ⟨d, by simp, rfl⟩; exact .inr ⟨n, by simp, rfl⟩)⟩
      · exact q1
      · obtain ⟨_, _, z⟩ := seg_mem hs2.2 f hf; exact blk_lt' z
      · rintro (e | e | e)
        · exact (List.nodup_cons.1 hn').1 (by rw [← e]; exact List.mem_map.2 ⟨f, by simp [hf], rfl⟩)
        · exact hdm (by rw [← e]; exact List.mem_map.2 ⟨f, by simp [hf], rfl⟩)
        · exact (List.nodup_cons.1 (List.nodup_cons.1 hn').2).1 (by rw [← e]; exact List.mem_map.2 ⟨f, hf, rfl⟩)
  · rw [last_snoc] at hb
    have hs1' := (seg_append w (some (at0 d.b)) [p] none t1).1 hs1
    have hp := hs1'.2.1
    simp only [first] at hp
    have hall : (t1.map Nd.b ++ p.b :: d.b :: l2.map Nd.b).Nodup := by
      have := (List.nodup_cons.1 hn).2
      simpa using this
    have hgall : g ∉ t1.map Nd.b ++ p.b :: d.b :: l2.map Nd.b := by
      have := (List.nodup_cons.1 hn).1
      simpa using this
    have ht1 : ∀ f ∈ t1, f.b ≠ g ∧ f.b ≠ p.b ∧ f.b ≠ d.b ∧ ∀ n ∈ l2, f.b ≠ n.b := by
      intro f hf
      have hm : f.b ∈ t1.map Nd.b := List.mem_map.2 ⟨f, hf, rfl⟩
      have hdj := (List.nodup_append.1 hall).2.2
      refine ⟨fun e => hgall (by rw [← e]; simp [hm]), fun e => hdj _ hm _ (by rw [e]; simp) rfl, fun e => hdj _ hm _ (by rw [e]; simp) rfl, fun n hn e => hdj _ hm _ (by rw [e]; simp only [List.mem_cons, List.mem_map]; exact .inr (.inr ⟨n, hn, rfl⟩)) rfl⟩
    have hpd := (List.nodup_append.1 hall).2.1
    have epd : p.b ≠ d.b := fun e => (List.nodup_cons.1 hpd).1 (by rw [e]; simp)
    have epl : ∀ n ∈ l2, p.b ≠ n.b := fun n hn e => (List.nodup_cons.1 hpd).1 (by rw [e]; simp only [List.mem_cons, List.mem_map]; exact .inr ⟨n, hn, rfl⟩)
    have edl : ∀ n ∈ l2, d.b ≠ n.b := fun n hn e => (List.nodup_cons.1 (List.nodup_cons.1 hpd).2).1 (by rw [e]; simp only [List.mem_map]; exact ⟨n, hn, rfl⟩)
    have egp : g ≠ p.b := fun e => hgall (by rw [e]; simp)
    have egl : ∀ n ∈ l2, g ≠ n.b := fun n hn e => hgall (by rw [e]; simp only [List.mem_append, List.mem_cons, List.mem_map]; exact .inr (.inr (.inr ⟨n, hn, rfl⟩)))
    have hf1 : first (t1 ++ [p]) (first (d :: l2) none) = first (t1 ++ [p]) (first l2 none) := by
      cases t1 <;> rfl
    rcases l2 with _ | ⟨n, t2⟩
    · refine (out_10 w g d.b p.b d.x p.x d.r p.r d.z p.z cap used _ _ _ hg hb hp hnb egp (fun e => epd e.symm)).mono ?_
      rintro e w' ⟨hv, q1, q2, q3, ho⟩
      refine ⟨hv, ⟨?_, ?_, hn'⟩, q2, ho.mono (fun k hk => by rcases hk with rfl | rfl | rfl; exact .inl rfl; exact .inr ⟨d, by simp, rfl⟩; exact .inr ⟨p, by simp, rfl⟩)⟩
      · rw [q1, List.append_nil, last_snoc]
        rw [hf1]; rfl
      · rw [List.append_nil, seg_append]
        refine ⟨seg_keep hs1'.1 (fun f hf => ho.block _ ?_ ?_), q3, trivial⟩
        · obtain ⟨_, _, z⟩ := seg_mem hs1'.1 f hf; exact blk_lt' z
        · have := ht1 f hf
          rintro (e | e | e)
          · exact this.1 e
          · exact this.2.2.1 e
          · exact this.2.1 e
    · have hn2 := hs2.1
      refine (out_11 w g d.b p.b n.b d.x p.x n.x d.r p.r n.r d.z p.z n.z cap used _ _ _ _ hg hb hp hn2 hnb egp (egl n (by simp)) (fun e => epd e.symm) (edl n (by simp)) (epl n (by simp))).mono ?_
      rintro e w' ⟨hv, q1, q2, q3, q4, ho⟩
      refine ⟨hv, ⟨?_, ?_, hn'⟩, q2, ho.mono (fun k hk => by rcases hk with rfl | rfl | rfl | rfl; exact .inl rfl; exact .inr ⟨d, by simp, rfl⟩; exact .inr ⟨p, by simp, rfl⟩; exact .inr ⟨n, by simp, rfl⟩)⟩
      · rw [q1, hf1, ← first_append, last_append none (t1 ++ [p]) (n :: t2)]; rfl
      · rw [seg_append, last_snoc]
        refine ⟨(seg_append _ _ _ _ _).2 ⟨seg_keep hs1'.1 (fun f hf => ho.block _ ?_ ?_), q3, trivial⟩, q4, seg_keep hs2.2 (fun f hf => ho.block _ ?_ ?_)⟩
        · obtain ⟨_, _, z⟩ := seg_mem hs1'.1 f hf; exact blk_lt' z
        · have := ht1 f hf
          rintro (e | e | e | e)
          · exact this.1 e
          · exact this.2.2.1 e
          · exact this.2.1 e
          · exact this.2.2.2 n (by simp) e
        · obtain ⟨_, _, z⟩ := seg_mem hs2.2 f hf; exact blk_lt' z
        · rintro (e | e | e | e)
          · exact egl f (by simp [hf]) e.symm
          · exact edl f (by simp [hf]) e.symm
          · exact epl f (by simp [hf]) e.symm
          · have := (List.nodup_cons.1 (List.nodup_cons.1 (List.nodup_cons.1 hpd).2).2).1
            exact this (by rw [← e]; exact List.mem_map.2 ⟨f, hf, rfl⟩)

theorem in_at (w : World) (g : Nat) (cap used : Int) (l : List Nd) (d : Nd) (n : Option Addr) (h : StoreAt w g cap used l) (hb : w.heap[d.b]? = some (Lc d.x d.r d.z none n)) (hd : ¬ Mine g l d.b) :
    Calls Tryd.prog 33 #[.pointer (some (at0 g)), .pointer (some (at0 d.b))] w fun e w' => (∃ v, e = .returned v) ∧ StoreAt w' g cap (wrap64 (used + d.z)) (d :: l) ∧ Only (Mine g (d :: l)) w w' := by
  obtain ⟨hg, hs, hn⟩ := h
  have hgd : g ≠ d.b := fun e => hd (.inl e.symm)
  have hn' : (g :: (d :: l).map Nd.b).Nodup := by
    rw [List.map_cons, List.nodup_cons, List.nodup_cons]
    refine ⟨?_, ?_, (List.nodup_cons.1 hn).2⟩
    · rw [List.mem_cons]
      rintro (e | e)
      · exact hgd e
      · exact (List.nodup_cons.1 hn).1 e
    · intro e
      obtain ⟨f, hf, e⟩ := List.mem_map.1 e
      exact hd (.inr ⟨f, hf, e.symm⟩)
  rcases l with _ | ⟨p, t⟩
  · refine (in_0 w g d.b d.x d.r d.z cap used _ _ hg hb hgd).mono ?_
    rintro e w' ⟨hv, q1, q2, ho⟩
    exact ⟨hv, ⟨q1, ⟨q2, trivial⟩, hn'⟩, ho.mono (fun k hk => by rcases hk with rfl | rfl; exact .inl rfl; exact .inr ⟨d, by simp, rfl⟩)⟩
  · have hp := hs.1
    have e1 : g ≠ p.b := fun e => (List.nodup_cons.1 hn).1 (by rw [e]; simp)
    have e2 : d.b ≠ p.b := fun e => hd (.inr ⟨p, by simp, e⟩)
    refine (in_1 w g d.b p.b d.x p.x d.r p.r d.z p.z cap used _ _ _ hg hb hp hgd e1 e2).mono ?_
    rintro e w' ⟨hv, q1, q2, q3, ho⟩
    refine ⟨hv, ⟨q1, ⟨q2, q3, seg_keep hs.2 (fun f hf => ho.block _ ?_ ?_)⟩, hn'⟩, ho.mono (fun k hk => by rcases hk with rfl | rfl | rfl; exact .inl rfl; exact .inr ⟨d, by simp, rfl⟩; exact .inr ⟨p, by simp, rfl⟩)⟩
    · obtain ⟨_, _, z⟩ := seg_mem hs.2 f hf; exact blk_lt' z
    · rintro (e | e | e)
      · exact (List.nodup_cons.1 hn).1 (by rw [← e]; exact List.mem_map.2 ⟨f, by simp [hf], rfl⟩)
      · exact hd (.inr ⟨f, by simp [hf], e.symm⟩)
      · exact (List.nodup_cons.1 (List.nodup_cons.1 hn).2).1 (by rw [← e]; exact List.mem_map.2 ⟨f, hf, rfl⟩)
theorem new_store (w : World) (n : Int) : StoreAt (w.alloc (Sc n 0 none none)) w.heap.size n 0 [] :=
  ⟨heap_alloc_new w _, trivial, by simp⟩
end Go.Proofs.YtkbbjjegpjdpeaaDoor.S

