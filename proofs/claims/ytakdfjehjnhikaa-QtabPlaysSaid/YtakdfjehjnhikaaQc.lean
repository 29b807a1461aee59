import Derived.Test.YtakdfjehjnhikaaQb
import Derived.Deep.RegionLaw
namespace Go.Proofs.Ytakdfjehjnhikaa.Q
open Go.RowKit Go.Proofs.YtakdfjehjnhikaaW.PrintWords Go.Proofs.YtakdfjehjnhikaaW.PrintLast Go.Proofs.YtakdfjehjnhikaaW.PrintMore Go.Proofs.Ytakdfjehjnhikaa.G
set_option linter.unusedVariables false
set_option linter.unusedSimpArgs false

/-- a field's room, and that of several -/
def rm (x : S29) : Int := (x.f0.size : Int) + (x.f1.size : Int) + 32
def rms : List S29 → Int
  | [] => 0
  | x :: l => rm x + rms l
theorem rm_lo (x : S29) : 32 ≤ rm x := by unfold rm; omega
theorem rms_lo : ∀ l, 32 * (l.length : Int) ≤ rms l
  | [] => by simp [rms]
  | x :: l => by
    have h1 := rm_lo x
    have h2 := rms_lo l
    simp only [rms, List.length_cons]
    omega
theorem rms_append (a b : List S29) : rms (a ++ b) = rms a + rms b := by
  induction a with
  | nil => simp [rms]
  | cons x a ih => simp only [List.cons_append, rms, ih]; omega

theorem room_of (x : S29) (h : rm x ≤ 4611686018427387904) : qtab_Room.f x.f0 x.f1 = some (rm x) := by
  unfold qtab_Room.f rm at *
  have e1 : wrap64 ((x.f0.size : Int) + (x.f1.size : Int)) = (x.f0.size : Int) + (x.f1.size : Int) := by unfold wrap64; omega
  rw [e1]
  have e2 : wrap64 ((x.f0.size : Int) + (x.f1.size : Int) + 32) = (x.f0.size : Int) + (x.f1.size : Int) + 32 := by unfold wrap64; omega
  rw [e2]

theorem room_calls (x : S29) (w : World) (h : rm x ≤ 4611686018427387904) : Calls Try.prog 17 #[.agg #[.string x.f0, .string x.f1]] w fun e w' => e = .returned (.int .i64 (rm x)) ∧ Below w.heap.size w w' :=
  qtab_Room.calls x.f0 x.f1 (rm x) w (room_of x h)

/-- fields go, until at most 'most' bytes are used -/
def shr (most : Int) (first : Int) : List S29 → Int × List S29
  | [] => (first, [])
  | x :: l => if most < rms (x :: l) then shr most (first + 1) l else (first, x :: l)

theorem shr_yes (most f : Int) (x : S29) (l : List S29) (h : most < rms (x :: l)) : shr most f (x :: l) = shr most (f + 1) l := by
  rw [shr, if_pos h]
theorem shr_no (most f : Int) (l : List S29) (h : ¬ most < rms l) : shr most f l = (f, l) := by
  cases l with
  | nil => rfl
  | cons x l => rw [shr, if_neg h]
theorem shr_spec (most : Int) (h0 : 0 ≤ most) : ∀ (l : List S29) (f : Int), rms (shr most f l).2 ≤ most ∧ (shr most f l).1 + (shr most f l).2.length = f + l.length ∧ f ≤ (shr most f l).1 ∧ ∃ d, l = d ++ (shr most f l).2 ∧ (d.length : Int) = (shr most f l).1 - f
  | [], f => by simp [shr, rms]; exact h0
  | x :: l, f => by
    by_cases h : most < rms (x :: l)
    · rw [shr_yes _ _ _ _ h]
      obtain ⟨h1, h2, h3, d, h4, h5⟩ := shr_spec most h0 l (f + 1)
      refine ⟨h1, by simp only [List.length_cons]; omega, by omega, x :: d, ?_, ?_⟩
      · rw [List.cons_append, ← h4]
      · simp only [List.length_cons]; omega
    · rw [shr_no _ _ _ h]
      exact ⟨by simp only []; omega, rfl, by simp only []; omega, [], rfl, by simp⟩

theorem add_block (a : Addr) (n : Nat) : (a.add n).block = a.block := by unfold Addr.add; split <;> rfl

theorem C29_move {w w' : World} {A : Option Addr} {n : Nat} {l : List S29} (h : Kd.C k29 w A n l) (hm : ∀ ad, A = some ad → ad.block < w.heap.size → w'.heap[ad.block]? = w.heap[ad.block]?) : Kd.C k29 w' A n l := by
  refine ⟨h.1, h.2.1, fun hn => ?_⟩
  obtain ⟨ad, e, hc⟩ := h.2.2 hn
  refine ⟨ad, e, fun j p hj => ?_⟩
  obtain ⟨c, h1, h2, h3⟩ := hc j p hj
  refine ⟨c, h1, ?_, fun i u hu => ?_⟩
  · obtain rfl := k29_open h2
    exact k29_mk w' p
  · have := h3 i u hu
    have hb := World.block_lt_of_cell? w _ this
    rw [add_block] at hb
    rw [World.cell?_of_block (w := w) (by rw [add_block]; exact hm ad e hb)]
    exact this

theorem heap_set_ne (w : World) (p : Addr) (u : Value) (k : Nat) (h : k ≠ p.block) : (w.setCell p u).heap[k]? = w.heap[k]? := Below.heap_setCell w p u k h

theorem size_set (w : World) (p : Addr) (u : Value) : (w.setCell p u).heap.size = w.heap.size := by simp [World.setCell]

/-- a cell of the table is written -/
theorem TabK.set_used {ok : Nat → Prop} {w : World} {g : Nat} {s : TS} (h : TabK ok w g s) (n : Int) : TabK ok (w.setCell ⟨g, 3, none⟩ (.int .i64 n)) g { s with used := n } := by
  obtain ⟨A, c, hh, hl, hc, hne⟩ := h
  exact ⟨A, c, blk_put hh 3 _ rfl, hl, C29_move hc (fun ad e _ => heap_set_ne _ _ _ _ (hne ad e).1), fun ad e => ⟨(hne ad e).1, by rw [size_set]; exact (hne ad e).2.1, (hne ad e).2.2⟩⟩
theorem TabK.set_first {ok : Nat → Prop} {w : World} {g : Nat} {s : TS} (h : TabK ok w g s) (n : Int) : TabK ok (w.setCell ⟨g, 4, none⟩ (.int .i64 n)) g { s with first := n } := by
  obtain ⟨A, c, hh, hl, hc, hne⟩ := h
  exact ⟨A, c, blk_put hh 4 _ rfl, hl, C29_move hc (fun ad e _ => heap_set_ne _ _ _ _ (hne ad e).1), fun ad e => ⟨(hne ad e).1, by rw [size_set]; exact (hne ad e).2.1, (hne ad e).2.2⟩⟩
theorem TabK.set_cap {ok : Nat → Prop} {w : World} {g : Nat} {s : TS} (h : TabK ok w g s) (n : Int) : TabK ok (w.setCell ⟨g, 2, none⟩ (.int .i64 n)) g { s with cap := n } := by
  obtain ⟨A, c, hh, hl, hc, hne⟩ := h
  exact ⟨A, c, blk_put hh 2 _ rfl, hl, C29_move hc (fun ad e _ => heap_set_ne _ _ _ _ (hne ad e).1), fun ad e => ⟨(hne ad e).1, by rw [size_set]; exact (hne ad e).2.1, (hne ad e).2.2⟩⟩
theorem TabK.set_l {ok : Nat → Prop} {w : World} {g : Nat} {s : TS} (h : TabK ok w g s) (A : Option Addr) (c : Nat) (l : List S29) (hl : l.length ≤ c) (hC : Kd.C k29 w A l.length l) (hne : ∀ ad, A = some ad → ad.block ≠ g ∧ ad.block < w.heap.size ∧ ok ad.block) : TabK ok (w.setCell ⟨g, 5, none⟩ (.slice A l.length c)) g { s with l := l } := by
  obtain ⟨A', c', hh, -⟩ := h
  exact ⟨A, c, blk_put hh 5 _ rfl, hl, C29_move hC (fun ad e _ => heap_set_ne _ _ _ _ (hne ad e).1), fun ad e => ⟨(hne ad e).1, by rw [size_set]; exact (hne ad e).2.1, (hne ad e).2.2⟩⟩

theorem grownBy_set (w : World) (g j : Nat) (u : Value) : w.grownBy (w.setCell ⟨g, j, none⟩ u) (some g) :=
  ⟨rfl, rfl, rfl, by simp [World.setCell], fun i hi hne => heap_set_ne _ _ _ _ (fun e => hne (by rw [e]))⟩
theorem grownBy_below {w w' : World} (h : Below w.heap.size w w') (row : Option Nat) : w.grownBy w' row := grown_of_below h row

theorem cut1 (ad : Addr) (x : S29) (l : List S29) (c : Nat) (hc : l.length + 1 ≤ c) : ∃ A' : Option Addr, (∀ W : World, (Instr.slice 39 (.slice (some ad) (l.length + 1) c) (some (.int .i64 1)) none none).run Try.prog W = .ok (.slice A' l.length (c - 1)) W) ∧
    (∀ ad', A' = some ad' → ad'.block = ad.block) ∧ ∀ w, Kd.C k29 w (some ad) (x :: l).length (x :: l) → Kd.C k29 w A' l.length l := by
  obtain ⟨i, hi, hz⟩ := Option.map_eq_some_iff.1 info29
  simp only [Prod.mk.injEq] at hz
  refine ⟨if c = 1 then some ad else some (ad.add 2), fun W => ?_, fun ad' h => ?_, fun w h => ?_⟩
  · have := cut_from 39 29 .i64 Try.underlying39 hi 2 hz.2.1 (some ad) (l.length + 1) c 1 (by omega) (by omega) W
    simpa using this
  · split at h <;> (injection h with h; subst h)
    · rfl
    · exact add_block _ _
  · exact Kd.C_drop (m := 1) h (by simp) (by simpa using hc)

theorem shrink_calls {ok : Nat → Prop} (w : World) (g : Nat) (s : TS) (room : Int) (h : TabK ok w g s) (hs : s.used = rms s.l) (hu : s.used ≤ 1000000) (hr : 0 ≤ s.cap - room) (hc : s.cap ≤ 1000000) (hr0 : 0 ≤ room) (hf : 0 ≤ s.first) (hf1 : s.first + s.l.length ≤ 4611686018427387904) :
    Calls Try.prog 42 #[.pointer (some ⟨g, 0, none⟩), .int .i64 room] w fun e w' => e = .returned (.tuple #[]) ∧ TabK ok w' g { s with used := rms (shr (s.cap - room) s.first s.l).2, first := (shr (s.cap - room) s.first s.l).1, l := (shr (s.cap - room) s.first s.l).2 } ∧ w.grownBy w' (some g) := by
  go_enter Try.func42, Try.ntmps42
  go_wp2
  go_loopg [] s.l.length (fun k W => ∃ (f : Int) (l : List S29), TabK ok W g { s with used := rms l, first := f, l := l } ∧ shr (s.cap - room) f l = shr (s.cap - room) s.first s.l ∧ w.grownBy W (some g) ∧ rms l ≤ 1000000 ∧ 0 ≤ f ∧ f + l.length = s.first + s.l.length ∧ l.length ≤ k)
  case atStart => exact ⟨s.first, s.l, by rw [← hs]; exact h, rfl, World.grownBy.refl w _, by omega, hf, rfl, Nat.le_refl _⟩
  case round =>
    obtain ⟨f, l, hT, hsh, hg, hb, hf0, hfl, hk⟩ := hrel
    have HT := Lib.hid hT
    obtain ⟨A, c, hh, hl, hC, hne⟩ := hT
    have h2 := cells_of hh 2
    have h3 := cells_of hh 3
    have h4 := cells_of hh 4
    have h5 := cells_of hh 5
    simp at h2 h3 h4 h5
    have hgl := blk_lt' hh
    have z2 := blk_frozen hh
    clear hh
    have hw1 : wrap64 (s.cap - room) = s.cap - room := by unfold wrap64; omega
    have hlo := rms_lo l
    by_cases hlt : s.cap - room < rms l
    · have hlt' : decide (s.cap - room < rms l) = true := decide_eq_true hlt
      obtain ⟨x, l, rfl⟩ : ∃ x l', l = x :: l' := by
        rcases l with _ | ⟨x, l⟩
        · simp only [rms] at hlt; omega
        · exact ⟨x, l, rfl⟩
      have hlo' := rms_lo l
      have hx := rm_lo x
      simp only [rms] at hb hlt
      have hxl : rms (x :: l) = rm x + rms l := rfl
      have hw2 : wrap64 (rms (x :: l) - rm x) = rms l := by rw [hxl]; unfold wrap64; omega
      obtain ⟨ad, rfl, hx0, hx1⟩ := at_T29 hC 0 (by omega) (by simp)
      simp at hx0 hx1
      rw [show ad.add 0 = ad from rfl] at hx0 hx1
      have hal := World.block_lt_of_cell? wr _ hx0
      have hz3 := z2 3
      have p1 : (0 : Int) < ((x :: l).length : Int) := by simp
      have hrd : rd_T29 (x :: l) 0 = x := rfl
      rw [hrd] at hx0 hx1
      have HTg := Lib.hid HT.out
      have Hsh := Lib.hid hsh
      have Hw2 := Lib.hid hw2
      have Hxl := Lib.hid hxl
      clear hsh hxl
      go_wp2_with fail
      go_quiet (fail)
      go_wp2_with fail
      refine start_ (n := 15) (S := fun w' => w'.cell? ⟨g, 3, none⟩ = some (.int .i64 (rms (x :: l))) ∧ w'.cell? ⟨g, 5, none⟩ = some (.slice (some ad) (x :: l).length c) ∧ w'.cell? ad = some (.string x.f0) ∧ w'.cell? ⟨ad.block, ad.off + 1, none⟩ = some (.string x.f1)) (ds := [14]) #[false, false, false, false, false, false, false, false, false, false, false, false, false, false, false] (by kernel_rfl) rfl rfl ⟨h3, h5, hx0, hx1⟩ (fun hHeld => ?_)
      refine pure_ (i := 0) (N := some 15) (v := ?_) (a' := ?_) #[true, false, false, false, false, false, false, false, false, false, false, false, false, false, false] rfl rfl (by kernel_rfl) (fun _ _ _ h => h) (Or.inl ⟨by rfl, ?_⟩) ?_ ?_
      rotate_left
      · intro w'
        go_simp
        with_reducible rfl
      rotate_left
      · simp only [Act.put, List.setIfInBounds_toArray, List.set_cons_zero, List.set_cons_succ, i64_w, i32_w]
        rfl
      refine pure_ (i := 1) (N := some 16) (v := ?_) (a' := ?_) #[true, true, false, false, false, false, false, false, false, false, false, false, false, false, false] rfl rfl (by kernel_rfl) (fun _ _ _ h => h) (Or.inl ⟨by rfl, ?_⟩) ?_ ?_
      rotate_left
      · intro w'
        go_simp
        with_reducible rfl
      rotate_left
      · simp only [Act.put, List.setIfInBounds_toArray, List.set_cons_zero, List.set_cons_succ, i64_w, i32_w]
        rfl
      refine pure_ (i := 2) (N := some 17) (v := ?_) (a' := ?_) #[true, true, true, false, false, false, false, false, false, false, false, false, false, false, false] rfl rfl (by kernel_rfl) (fun _ _ _ h => h) (Or.inl ⟨by rfl, ?_⟩) ?_ ?_
      rotate_left
      · intro w'
        go_simp
        with_reducible rfl
      rotate_left
      · simp only [Act.put, List.setIfInBounds_toArray, List.set_cons_zero, List.set_cons_succ, i64_w, i32_w]
        rfl
      refine pure_ (i := 4) (N := some 19) (v := ?_) (a' := ?_) #[true, true, true, false, true, false, false, false, false, false, false, false, false, false, false] rfl rfl (by kernel_rfl) (fun _ _ _ h => h) (Or.inl ⟨by rfl, ?_⟩) ?_ ?_
      rotate_left
      · intro w'
        go_simp
        with_reducible rfl
      rotate_left
      · simp only [Act.put, List.setIfInBounds_toArray, List.set_cons_zero, List.set_cons_succ, i64_w, i32_w]
        rfl
      refine pure_ (i := 5) (N := some 20) (v := ?_) (a' := ?_) #[true, true, true, false, true, true, false, false, false, false, false, false, false, false, false] rfl rfl (by kernel_rfl) (fun _ _ _ h => h) (Or.inl ⟨by rfl, ?_⟩) ?_ ?_
      rotate_left
      · intro w'
        go_simp
        with_reducible rfl
      rotate_left
      · simp only [Act.put, List.setIfInBounds_toArray, List.set_cons_zero, List.set_cons_succ, i64_w, i32_w]
        rfl
      refine pure_ (i := 6) (N := some 21) (v := ?_) (a' := ?_) #[true, true, true, false, true, true, true, false, false, false, false, false, false, false, false] rfl rfl (by kernel_rfl) (fun _ _ _ h => h) (Or.inl ⟨by rfl, ?_⟩) ?_ ?_
      rotate_left
      · intro w'
        go_simp
        with_reducible rfl
      rotate_left
      · simp only [Act.put, List.setIfInBounds_toArray, List.set_cons_zero, List.set_cons_succ, i64_w, i32_w]
        rfl
      refine take_ (i := 3) (N := some 18) (v := ?_) (a' := ?_) #[true, true, true, true, true, true, true, false, false, false, false, false, false, false, false] rfl rfl (by kernel_rfl) (fun _ _ _ h => h) (Or.inl ⟨by rfl, ?_⟩) hHeld ?_ ?_
      rotate_left
      · rintro w' ⟨s0, s1, s2, s3⟩
        go_simp
        with_reducible rfl
      rotate_left
      · simp only [Act.put, List.setIfInBounds_toArray, List.set_cons_zero, List.set_cons_succ, i64_w, i32_w]
        rfl
      refine take_ (i := 7) (N := some 22) (v := ?_) (a' := ?_) #[true, true, true, true, true, true, true, true, false, false, false, false, false, false, false] rfl rfl (by kernel_rfl) (fun _ _ _ h => h) (Or.inl ⟨by rfl, ?_⟩) hHeld ?_ ?_
      rotate_left
      · rintro w' ⟨s0, s1, s2, s3⟩
        go_simp
        with_reducible rfl
      rotate_left
      · simp only [Act.put, List.setIfInBounds_toArray, List.set_cons_zero, List.set_cons_succ, i64_w, i32_w]
        rfl
      refine pure_ (i := 8) (N := some 23) (v := ?_) (a' := ?_) #[true, true, true, true, true, true, true, true, true, false, false, false, false, false, false] rfl rfl (by kernel_rfl) (fun _ _ _ h => h) (Or.inl ⟨by rfl, ?_⟩) ?_ ?_
      rotate_left
      · intro w'
        go_simp
        with_reducible rfl
      rotate_left
      · simp only [Act.put, List.setIfInBounds_toArray, List.set_cons_zero, List.set_cons_succ, i64_w, i32_w]
        rfl
      refine take_ (i := 9) (N := some 24) (v := ?_) (a' := ?_) #[true, true, true, true, true, true, true, true, true, true, false, false, false, false, false] rfl rfl (by kernel_rfl) (fun _ _ _ h => h) (Or.inl ⟨by rfl, ?_⟩) hHeld ?_ ?_
      rotate_left
      · rintro w' ⟨s0, s1, s2, s3⟩
        go_simp
        with_reducible rfl
      rotate_left
      · simp only [Act.put, List.setIfInBounds_toArray, List.set_cons_zero, List.set_cons_succ, i64_w, i32_w]
        rfl
      refine one_ (i := 10) (N := some 25) #[true, true, true, true, true, true, true, true, true, true, true, false, false, false, false] rfl rfl (by kernel_rfl) (by decide) (fun K hK => ?_)
      refine goes_ Try.func17 (by kernel_rfl) rfl #[.agg #[.string x.f0, .string x.f1]] (by rfl) rfl rfl (by simp only [List.map_toArray, List.map_cons, List.map_nil]; rfl) ?_
      with_reducible refine (room_calls x _ (by omega)).mono ?_
      rintro e w3 ⟨rfl, hb1⟩
      refine ⟨_, rfl, ?_⟩
      have hzz : ∀ i, w3.frozen? ⟨g, i, none⟩ = false := fun i => (hb1.frozen (p := ⟨g, i, none⟩) hgl).trans (z2 i)
      have hz33 := hzz 3
      refine hK.out _ _ ⟨pw_cell_below hb1 h3, pw_cell_below hb1 h5, pw_cell_below hb1 hx0, pw_cell_below hb1 hx1⟩ (fun hHeld => ?_)
      clear hK K
      refine norm_ (a' := ?_) ?_ ?_
      rotate_left
      · show Act.put _ (some 25) _ = _
        simp only [Act.put, List.setIfInBounds_toArray, List.set_cons_zero, List.set_cons_succ, i64_w, i32_w]
        rfl
      refine pure_ (i := 11) (N := some 26) (v := ?_) (a' := ?_) #[true, true, true, true, true, true, true, true, true, true, true, true, false, false, false] rfl rfl (by kernel_rfl) (fun _ _ _ h => h) (Or.inl ⟨by rfl, ?_⟩) ?_ ?_
      rotate_left
      · intro w'
        go_simp
        with_reducible rfl
      rotate_left
      · simp only [Act.put, List.setIfInBounds_toArray, List.set_cons_zero, List.set_cons_succ, i64_w, i32_w]
        rfl
      refine pure_ (i := 12) (N := some 27) (v := ?_) (a' := ?_) #[true, true, true, true, true, true, true, true, true, true, true, true, true, false, false] rfl rfl (by kernel_rfl) (fun _ _ _ h => h) (Or.inl ⟨by rfl, ?_⟩) ?_ ?_
      rotate_left
      · intro w'
        go_simp
        with_reducible rfl
      rotate_left
      · simp only [Act.put, List.setIfInBounds_toArray, List.set_cons_zero, List.set_cons_succ, i64_w, i32_w]
        rfl
      refine pure_ (i := 13) (N := some 28) (v := ?_) (a' := ?_) #[true, true, true, true, true, true, true, true, true, true, true, true, true, true, false] rfl rfl (by kernel_rfl) (fun _ _ _ h => h) (Or.inl ⟨by rfl, ?_⟩) ?_ ?_
      rotate_left
      · intro w'
        go_simp
        with_reducible rfl
      rotate_left
      · simp only [Act.put, List.setIfInBounds_toArray, List.set_cons_zero, List.set_cons_succ, i64_w, i32_w]
        rfl
      refine last_ (i := 14) (N := none) #[true, true, true, true, true, true, true, true, true, true, true, true, true, true, true] rfl rfl (by kernel_rfl) (by decide) (fun K hK => ?_)
      refine skip_ (w1 := ?_) (by rfl) rfl ?_ ?_
      rotate_left
      · go_simp
        rfl
      refine hK.out _ _ ?_
      clear hK K
      refine done_ (by kernel_rfl) ?_
      have hz34 := hzz 4
      have hz35 := hzz 5
      have q4 : w3.cell? ⟨g, 4, none⟩ = some (.int .i64 f) := pw_cell_below hb1 h4
      have q5 : w3.cell? ⟨g, 5, none⟩ = some (.slice (some ad) (x :: l).length c) := pw_cell_below hb1 h5
      have HB1 := Lib.hid (show Below wr.heap.size wr w3 from below_step (below_drew (pw_below_drewN (Below.refl _ _) _)) hb1)
      clear hb1 hzz
      obtain ⟨A', hcut, hA1, hA2⟩ := cut1 ad x l c (by simpa using hl)
      go_wp2
      have hT1 : TabK ok ((((w3.setCell ⟨g, 3, none⟩ (.int .i64 (rms l))).setCell ⟨g, 5, none⟩ (.slice A' l.length (c - 1))).setCell ⟨g, 4, none⟩ (.int .i64 (f + 1)))) g { s with used := rms l, first := f + 1, l := l } := by
        refine TabK.set_first (TabK.set_l (TabK.set_used (HT.out.below HB1.out) _) A' _ _ ?_ ?_ ?_) _
        · have := hl; simp only [List.length_cons] at this; omega
        · refine C29_move (w := w3) (hA2 _ (Kd.C_below hC HB1.out)) (fun ad' h _ => heap_set_ne _ _ _ _ ?_)
          rw [hA1 ad' h]; exact (hne ad rfl).1
        · intro ad' h; rw [hA1 ad' h, size_set]; exact ⟨(hne ad rfl).1, Nat.lt_of_lt_of_le (hne ad rfl).2.1 HB1.out.size, (hne ad rfl).2.2⟩
      have hg1 : w.grownBy ((((w3.setCell ⟨g, 3, none⟩ (.int .i64 (rms l))).setCell ⟨g, 5, none⟩ (.slice A' l.length (c - 1))).setCell ⟨g, 4, none⟩ (.int .i64 (f + 1)))) (some g) :=
        World.grownBy.trans (World.grownBy.trans (World.grownBy.trans (World.grownBy.trans hg (grown_of_below HB1.out _)) (grownBy_set _ _ _ _)) (grownBy_set _ _ _ _)) (grownBy_set _ _ _ _)
      obtain ⟨k1, rfl⟩ : ∃ k1, gk = k1 + 1 := ⟨gk - 1, by simp only [List.length_cons] at hk; omega⟩
      go_roundg k1
      case measure => omega
      case rel =>
        refine ⟨f + 1, l, ?_, ?_, ?_, ?_, ?_, ?_, ?_⟩
        · exact hT1
        · rw [← Hsh.out, shr_yes _ _ _ _ (show s.cap - room < rms (x :: l) from hlt)]
        · exact hg1
        · have := rm_lo x; omega
        · omega
        · simp only [List.length_cons] at hfl; omega
        · simp only [List.length_cons] at hk; omega
    · have hlt' : decide (s.cap - room < rms l) = false := decide_eq_false hlt
      have Hsh := Lib.hid hsh
      clear hsh
      go_wp2_with fail
      go_quiet (fail)
      go_wp2
      go_end0
      exact ⟨rfl, by
        have hd : shr (s.cap - room) f l = (f, l) := by
          cases l with
          | nil => rfl
          | cons x l => unfold shr; rw [if_neg (by omega)]
        rw [← Hsh.out, hd]
        exact HT.out.below (pw_below_drewN (Below.refl _ _) _), World.grownBy.trans hg (grown_of_below (pw_below_drewN (Below.refl _ _) _) _)⟩
end Go.Proofs.Ytakdfjehjnhikaa.Q
