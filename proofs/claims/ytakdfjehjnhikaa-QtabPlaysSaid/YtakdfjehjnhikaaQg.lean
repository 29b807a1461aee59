import Derived.Test.YtakdfjehjnhikaaQf
namespace Go.Proofs.Ytakdfjehjnhikaa.Q
open Go.RowKit Go.Proofs.YtakdfjehjnhikaaW.PrintWords Go.Proofs.YtakdfjehjnhikaaW.PrintLast Go.Proofs.YtakdfjehjnhikaaW.PrintMore Go.Proofs.Ytakdfjehjnhikaa.G
set_option linter.unusedVariables false
set_option linter.unusedSimpArgs false

/-- Insert: the table behind it, the number, the error -/
def TS.ins (s : TS) (x : S29) : TS × Int × Int :=
  if x.f0.size ≤ 64 ∧ x.f1.size ≤ 512 then (if s.cap < rm x then (s, 0, 6) else (s.insert x, (s.insert x).first + (s.insert x).l.length - 1, 0)) else (s, 0, 13)
def TS.scap (s : TS) (n : Int) : TS × Int := if n < 0 ∨ s.most < n then (s, 1) else (s.setCap n, 0)

theorem insert_any {ok : Nat → Prop} (w : World) (g : Nat) (s : TS) (x : S29) (hnew : ∀ k, w.heap.size ≤ k → ok k) (h : TabK ok w g s) (hs : s.Ok) :
    Calls Try.prog 25 #[.pointer (some ⟨g, 0, none⟩), .agg #[.string x.f0, .string x.f1]] w fun e w' => e = .returned (.tuple #[.int .i64 (s.ins x).2.1, .int .i64 (s.ins x).2.2]) ∧ TabK ok w' g (s.ins x).1 ∧ w.grownBy w' (some g) := by
  unfold TS.ins
  by_cases h1 : x.f0.size ≤ 64 ∧ x.f1.size ≤ 512
  · rw [if_pos h1]
    by_cases h2 : s.cap < rm x
    · rw [if_pos h2]
      exact (insert_many w g s x h.at h1 h2).mono fun e w' ⟨he, hb⟩ => ⟨he, h.below hb, grown_of_below hb _⟩
    · rw [if_neg h2]
      exact insert_yes w g s x hnew h hs h1 (by omega)
  · rw [if_neg h1]
    exact (insert_big w g s x h.at h1).mono fun e w' ⟨he, hb⟩ => ⟨he, h.below hb, grown_of_below hb _⟩
theorem setcap_any {ok : Nat → Prop} (w : World) (g : Nat) (s : TS) (n : Int) (h : TabK ok w g s) (hs : s.Ok) :
    Calls Try.prog 27 #[.pointer (some ⟨g, 0, none⟩), .int .i64 n] w fun e w' => e = .returned (.int .i64 (s.scap n).2) ∧ TabK ok w' g (s.scap n).1 ∧ w.grownBy w' (some g) := by
  unfold TS.scap
  by_cases h1 : n < 0 ∨ s.most < n
  · rw [if_pos h1]
    exact (setcap_no w g s n h.at h1).mono fun e w' ⟨he, hw⟩ => ⟨he, hw ▸ h, hw ▸ World.grownBy.refl w _⟩
  · rw [if_neg h1]
    exact setcap_yes w g s n h hs (by omega) (by omega)

theorem insert_ok (s : TS) (x : S29) (hs : s.Ok) (hr : rm x ≤ s.cap) (hc : s.first + s.l.length < 4611686018427387000) : (s.insert x).Ok := by
  have hx := rm_lo x
  obtain ⟨h1, h2, h3, d, h4, h5⟩ := shr_spec (s.cap - rm x) (by omega) s.l s.first
  refine ⟨?_, ?_, hs.cap0, hs.cap1, hs.most, ?_, ?_⟩
  · show rms (shr _ _ _).2 + rm x = rms ((shr _ _ _).2 ++ [x])
    rw [rms_append]; simp [rms]
  · show rms (shr _ _ _).2 + rm x ≤ s.cap
    omega
  · have := hs.first; show 0 ≤ (shr _ s.first s.l).1; omega
  · have : (s.insert x).l.length = (shr (s.cap - rm x) s.first s.l).2.length + 1 := by
      show ((shr (s.cap - rm x) s.first s.l).2 ++ [x]).length = _
      simp
    show (shr (s.cap - rm x) s.first s.l).1 + _ ≤ _
    omega
theorem ins_ok (s : TS) (x : S29) (hs : s.Ok) (hc : s.first + s.l.length < 4611686018427387000) : (s.ins x).1.Ok := by
  unfold TS.ins
  split
  · split
    · exact hs
    · exact insert_ok s x hs (by omega) hc
  · exact hs
theorem ins_count (s : TS) (x : S29) (hs : s.Ok) : (s.ins x).1.first + (s.ins x).1.l.length ≤ s.first + s.l.length + 1 := by
  unfold TS.ins
  split
  · split
    · simp only []; omega
    · rename_i hr
      obtain ⟨h1, h2, h3, d, h4, h5⟩ := shr_spec (s.cap - rm x) (by omega) s.l s.first
      show (shr (s.cap - rm x) s.first s.l).1 + ((shr (s.cap - rm x) s.first s.l).2 ++ [x]).length ≤ _
      simp only [List.length_append, List.length_singleton]
      omega
  · simp only []; omega
theorem scap_ok (s : TS) (n : Int) (hs : s.Ok) : (s.scap n).1.Ok := by
  unfold TS.scap
  split
  · exact hs
  · exact setCap_ok s n (by omega) (by omega) hs
theorem scap_count (s : TS) (n : Int) (hs : s.Ok) : (s.scap n).1.first + (s.scap n).1.l.length = s.first + s.l.length := by
  unfold TS.scap
  split
  · rfl
  · obtain ⟨h1, h2, h3, d, h4, h5⟩ := shr_spec n (by omega) s.l s.first
    exact h2

/-- plays -/
def TS.play (s : TS) (k n : Int) (x : S29) : TS × Int × Bool :=
  if k % 4 = 0 then ((s.ins x).1, (s.ins x).2.1, (s.ins x).2.2 == 0) else if k % 4 = 1 then ((s.scap n).1, 0, false) else (s, 0, false)

theorem rem4 (k : Int) (h0 : 0 ≤ k) (h1 : k ≤ 255) : IntKind.u8.wrap (Int.tmod k 4) = k % 4 := by
  rw [Int.tmod_eq_emod_of_nonneg h0, IntKind.wrap_u8]; omega

theorem plays_0 {ok : Nat → Prop} (w : World) (g : Nat) (s : TS) (k n : Int) (x : S29) (h0 : 0 ≤ k) (h1 : k ≤ 255) (hnew : ∀ k, w.heap.size ≤ k → ok k) (h : TabK ok w g s) (hs : s.Ok) (hk : k % 4 = 0) :
    Calls Try.prog 11 #[.pointer (some ⟨g, 0, none⟩), .agg #[.int .u8 k, .int .i64 n, .string x.f0, .string x.f1]] w fun e w' => e = .returned (.tuple #[.int .i64 (s.ins x).2.1, .bool ((s.ins x).2.2 == 0)]) ∧ TabK ok w' g (s.ins x).1 ∧ w.grownBy w' (some g) := by
  have hr := rem4 k h0 h1
  have hk' : (k % 4 == 0) = true := beq_iff_eq.2 hk
  have Hc := Lib.hid (insert_any (w.alloc (.cells #[.int .u8 k, .int .i64 n, .string x.f0, .string x.f1] 31)) g s x (fun k_ hk_ => hnew k_ (by simp at hk_; omega)) (h.below (below_alloc (Below.refl _ _) _)) hs)
  have hgl : g < w.heap.size := by obtain ⟨A, c, hh, -⟩ := h; exact blk_lt' hh
  clear h hs hk
  go_enter Try.func11, Try.ntmps11
  go_wp2_with (first | (go_at_call 25; refine Hc.out.mono ?_; rintro e w3 ⟨rfl, hT, hg⟩; have HT := Lib.hid hT; have HG := Lib.hid hg; clear hT hg))
  go_ret2
  exact ⟨rfl, HT.out, World.grownBy.trans (grown_of_below (below_alloc (Below.refl _ _) _) _) HG.out⟩

theorem plays_1 {ok : Nat → Prop} (w : World) (g : Nat) (s : TS) (k n : Int) (x : S29) (h0 : 0 ≤ k) (h1 : k ≤ 255) (h : TabK ok w g s) (hs : s.Ok) (hk : k % 4 = 1) :
    Calls Try.prog 11 #[.pointer (some ⟨g, 0, none⟩), .agg #[.int .u8 k, .int .i64 n, .string x.f0, .string x.f1]] w fun e w' => e = .returned (.tuple #[.int .i64 0, .bool false]) ∧ TabK ok w' g (s.scap n).1 ∧ w.grownBy w' (some g) := by
  have hr := rem4 k h0 h1
  have hk' : (k % 4 == 0) = false := beq_eq_false_iff_ne.2 (by omega)
  have hk2 : (k % 4 == 1) = true := beq_iff_eq.2 hk
  have Hc := Lib.hid (setcap_any (w.alloc (.cells #[.int .u8 k, .int .i64 n, .string x.f0, .string x.f1] 31)) g s n (h.below (below_alloc (Below.refl _ _) _)) hs)
  have hgl : g < w.heap.size := by obtain ⟨A, c, hh, -⟩ := h; exact blk_lt' hh
  clear h hs hk
  go_enter Try.func11, Try.ntmps11
  go_wp2_with (first | (go_at_call 27; refine Hc.out.mono ?_; rintro e w3 ⟨rfl, hT, hg⟩; have HT := Lib.hid hT; have HG := Lib.hid hg; clear hT hg))
  go_ret2
  exact ⟨rfl, HT.out, World.grownBy.trans (grown_of_below (below_alloc (Below.refl _ _) _) _) HG.out⟩

theorem plays_2 {ok : Nat → Prop} (w : World) (g : Nat) (s : TS) (k n : Int) (x : S29) (h0 : 0 ≤ k) (h1 : k ≤ 255) (h : TabK ok w g s) (hk : ¬ k % 4 = 0) (hk1 : ¬ k % 4 = 1) :
    Calls Try.prog 11 #[.pointer (some ⟨g, 0, none⟩), .agg #[.int .u8 k, .int .i64 n, .string x.f0, .string x.f1]] w fun e w' => e = .returned (.tuple #[.int .i64 0, .bool false]) ∧ TabK ok w' g s ∧ w.grownBy w' (some g) := by
  have hr := rem4 k h0 h1
  have hk' : (k % 4 == 0) = false := beq_eq_false_iff_ne.2 (by omega)
  have hk2 : (k % 4 == 1) = false := beq_eq_false_iff_ne.2 (by omega)
  have HT := Lib.hid h
  clear h hk hk1
  go_enter Try.func11, Try.ntmps11
  go_wp2
  go_ret2
  exact ⟨rfl, HT.out.below (below_alloc (Below.refl _ _) _), grown_of_below (below_alloc (Below.refl _ _) _) _⟩

theorem plays_any {ok : Nat → Prop} (w : World) (g : Nat) (s : TS) (k n : Int) (x : S29) (h0 : 0 ≤ k) (h1 : k ≤ 255) (hnew : ∀ k, w.heap.size ≤ k → ok k) (h : TabK ok w g s) (hs : s.Ok) :
    Calls Try.prog 11 #[.pointer (some ⟨g, 0, none⟩), .agg #[.int .u8 k, .int .i64 n, .string x.f0, .string x.f1]] w fun e w' => e = .returned (.tuple #[.int .i64 (s.play k n x).2.1, .bool (s.play k n x).2.2]) ∧ TabK ok w' g (s.play k n x).1 ∧ w.grownBy w' (some g) := by
  unfold TS.play
  by_cases k0 : k % 4 = 0
  · rw [if_pos k0]; exact plays_0 w g s k n x h0 h1 hnew h hs k0
  · rw [if_neg k0]
    by_cases k1 : k % 4 = 1
    · rw [if_pos k1]; exact plays_1 w g s k n x h0 h1 h hs k1
    · rw [if_neg k1]; exact plays_2 w g s k n x h0 h1 h k0 k1
theorem play_ok (s : TS) (k n : Int) (x : S29) (hs : s.Ok) (hc : s.first + s.l.length < 4611686018427387000) : (s.play k n x).1.Ok := by
  unfold TS.play
  split
  · exact ins_ok s x hs hc
  · split
    · exact scap_ok s n hs
    · exact hs
theorem play_count (s : TS) (k n : Int) (x : S29) (hs : s.Ok) : (s.play k n x).1.first + (s.play k n x).1.l.length ≤ s.first + s.l.length + 1 := by
  unfold TS.play
  split
  · exact ins_count s x hs
  · split
    · have := scap_count s n hs; simp only []; omega
    · simp only []; omega
theorem play_most (s : TS) (k n : Int) (x : S29) : (s.play k n x).1.most = s.most := by
  unfold TS.play TS.ins TS.scap
  (repeat' split) <;> rfl

/-! alive -/
def t0 : TS := ⟨100, 0, 0, 0, []⟩
theorem t0_ok : t0.Ok := ⟨rfl, by decide, by decide, by decide, by decide, by decide, by decide⟩
def fa : S29 := ⟨⟨#[97]⟩, ⟨#[98]⟩⟩
def fc : S29 := ⟨⟨#[99]⟩, ⟨#[100]⟩⟩
def fe : S29 := ⟨⟨#[101]⟩, ⟨#[102]⟩⟩
def t1 : TS := ⟨100, 70, 0, 0, []⟩
def t2 : TS := ⟨100, 70, 34, 0, [fa]⟩
def t3 : TS := ⟨100, 70, 68, 0, [fa, fc]⟩
def t4 : TS := ⟨100, 70, 68, 1, [fc, fe]⟩
theorem t1_eq : t0.scap 70 = (t1, 0) := by rfl
theorem t2_eq : t1.ins fa = (t2, 0, 0) := by rfl
theorem t3_eq : t2.ins fc = (t3, 1, 0) := by rfl
theorem t4_eq : t3.ins fe = (t4, 2, 0) := by rfl
theorem t1_ok : t1.Ok := by have := scap_ok t0 70 t0_ok; rw [t1_eq] at this; exact this
theorem t2_ok : t2.Ok := by have := ins_ok t1 fa t1_ok (by decide); rw [t2_eq] at this; exact this
theorem t3_ok : t3.Ok := by have := ins_ok t2 fc t2_ok (by decide); rw [t3_eq] at this; exact this
theorem t4_ok : t4.Ok := by have := ins_ok t3 fe t3_ok (by decide); rw [t4_eq] at this; exact this

theorem fixed1 : qtab_Fixed.f 1 = some (⟨#[58, 112, 97, 116, 104]⟩, ⟨#[47]⟩, 0) := by rfl

end Go.Proofs.Ytakdfjehjnhikaa.Q
