import Derived.Test.YtakdfjehjnhikaaQi
namespace Go.Proofs.Ytakdfjehjnhikaa.Q
open Go.RowKit Go.Proofs.YtakdfjehjnhikaaW.PrintWords Go.Proofs.YtakdfjehjnhikaaW.PrintLast Go.Proofs.YtakdfjehjnhikaaW.PrintMore Go.Proofs.Ytakdfjehjnhikaa.G
set_option linter.unusedVariables false
set_option linter.unusedSimpArgs false

theorem shr_last (m : Int) : ∀ (l : List S29) (f : Int) (d : List S29), l = d ++ (shr m f l).2 → d ≠ [] → ∃ d3 y, d = d3 ++ [y] ∧ m < rms (shr m f l).2 + rm y
  | [], f, d, h, hd => by
    simp [shr] at h
    exact absurd h hd
  | x :: l, f, d, h, hd => by
    by_cases hx : m < rms (x :: l)
    · rw [shr_yes _ _ _ _ hx] at h ⊢
      obtain ⟨z, d', rfl⟩ := List.exists_cons_of_ne_nil hd
      rw [List.cons_append] at h
      obtain ⟨rfl, h2⟩ := List.cons.inj h
      by_cases hd' : d' = []
      · subst hd'
        refine ⟨[], x, rfl, ?_⟩
        have : (shr m (f + 1) l).2 = l := by simpa using h2.symm
        rw [this]
        have h3 : rms (x :: l) = rm x + rms l := rfl
        omega
      · obtain ⟨d3, y, h3, h4⟩ := shr_last m l (f + 1) d' h2 hd'
        exact ⟨x :: d3, y, by rw [h3, List.cons_append], h4⟩
    · rw [shr_no _ _ _ hx] at h
      have := congrArg List.length h
      rw [List.length_append] at this
      exact absurd (List.eq_nil_of_length_eq_zero (by simp only [] at this; omega)) hd

/-- what has come, and what of it is there -/
def Ord (all : List S29) (s : TS) : Prop := ∃ d, all = d ++ s.l ∧ (d.length : Int) = s.first
/-- what went in a call, in which so much was added -/
def Went (all : List S29) (s s' : TS) (add : Int) : Prop :=
  ∃ d d2, all = d ++ d2 ++ s'.l ∧ (d.length : Int) = s.first ∧ (d.length : Int) + d2.length = s'.first ∧ (d2 ≠ [] → ∃ d3 y, d2 = d3 ++ [y] ∧ s'.cap < s.used + add - rms d2 + rm y) ∧ rms d2 ≤ s.used + add
theorem Went.ord {all : List S29} {s s' : TS} {add : Int} (h : Went all s s' add) : Ord all s' := by
  obtain ⟨d, d2, h1, h2, h3, -, -⟩ := h
  exact ⟨d ++ d2, h1, by simp; omega⟩
theorem Went.none {all : List S29} {s : TS} (h : Ord all s) (hs : s.Ok) : Went all s s 0 := by
  obtain ⟨d, h1, h2⟩ := h
  refine ⟨d, [], by simpa using h1, h2, by simpa using h2, fun h => absurd rfl h, ?_⟩
  have h3 := hs.used
  have h4 := rms_nonneg s.l
  have h5 : rms ([] : List S29) = 0 := rfl
  omega

theorem went_insert {all : List S29} {s : TS} (h : Ord all s) (hs : s.Ok) (x : S29) (hr : rm x ≤ s.cap) : Went (all ++ [x]) s (s.insert x) (rm x) := by
  obtain ⟨d, h1, h2⟩ := h
  obtain ⟨g1, g2, g3, d2, g4, g5⟩ := shr_spec (s.cap - rm x) (by omega) s.l s.first
  refine ⟨d, d2, ?_, h2, ?_, fun hd => ?_, ?_⟩
  · show all ++ [x] = d ++ d2 ++ ((shr (s.cap - rm x) s.first s.l).2 ++ [x])
    rw [h1]
    conv => lhs; rw [g4]
    simp [List.append_assoc]
  · show _ = (shr (s.cap - rm x) s.first s.l).1
    omega
  · obtain ⟨d3, y, e, h3⟩ := shr_last _ s.l s.first d2 g4 hd
    refine ⟨d3, y, e, ?_⟩
    show s.cap < _
    have h4 : rms s.l = rms d2 + rms (shr (s.cap - rm x) s.first s.l).2 := by rw [← rms_append, ← g4]
    have := hs.used
    omega
  · have h4 : rms s.l = rms d2 + rms (shr (s.cap - rm x) s.first s.l).2 := by rw [← rms_append, ← g4]
    have h5 := rms_nonneg (shr (s.cap - rm x) s.first s.l).2
    have := hs.used
    have := rm_lo x
    omega
theorem went_setCap {all : List S29} {s : TS} (h : Ord all s) (hs : s.Ok) (n : Int) (h0 : 0 ≤ n) : Went all s (s.setCap n) 0 := by
  obtain ⟨d, h1, h2⟩ := h
  obtain ⟨g1, g2, g3, d2, g4, g5⟩ := shr_spec n h0 s.l s.first
  refine ⟨d, d2, ?_, h2, ?_, fun hd => ?_, ?_⟩
  · show all = d ++ d2 ++ (shr n s.first s.l).2
    rw [h1]
    conv => lhs; rw [g4]
    simp [List.append_assoc]
  · show _ = (shr n s.first s.l).1
    omega
  · obtain ⟨d3, y, e, h3⟩ := shr_last _ s.l s.first d2 g4 hd
    refine ⟨d3, y, e, ?_⟩
    show n < _
    have h4 : rms s.l = rms d2 + rms (shr n s.first s.l).2 := by rw [← rms_append, ← g4]
    have := hs.used
    omega
  · have h4 : rms s.l = rms d2 + rms (shr n s.first s.l).2 := by rw [← rms_append, ← g4]
    have h5 := rms_nonneg (shr n s.first s.l).2
    have := hs.used
    omega
theorem play_went {all : List S29} {s : TS} (h : Ord all s) (hs : s.Ok) (k n : Int) (x : S29) :
    ((s.play k n x).2.2 = true → Went (all ++ [x]) s (s.play k n x).1 (rm x) ∧ rm x ≤ 4096) ∧ ((s.play k n x).2.2 = false → Went all s (s.play k n x).1 0) := by
  unfold TS.play
  split
  · unfold TS.ins
    split
    · split
      · exact ⟨fun e => by simp at e, fun _ => Went.none h hs⟩
      · refine ⟨fun _ => ⟨went_insert h hs x (by omega), ?_⟩, fun e => by simp at e⟩
        have := hs.cap1; have := hs.most; omega
    · exact ⟨fun e => by simp at e, fun _ => Went.none h hs⟩
  · split
    · unfold TS.scap
      split
      · exact ⟨fun e => by simp at e, fun _ => Went.none h hs⟩
      · exact ⟨fun e => by simp at e, fun _ => went_setCap h hs n (by omega)⟩
    · exact ⟨fun e => by simp at e, fun _ => Went.none h hs⟩

/-- the fields that went, as they are gone over -/
theorem Went.gone {all : List S29} {s s' : TS} {add : Int} (h : Went all s s' add) (hf : 0 ≤ s.first) : s.first ≤ s'.first ∧ s'.first ≤ all.length ∧ (s'.first + s'.l.length = all.length) ∧
    rms ((all.drop s.first.toNat).take (s'.first.toNat - s.first.toNat)) ≤ s.used + add ∧
    (s.first < s'.first → s'.cap < s.used + add - rms ((all.drop s.first.toNat).take (s'.first.toNat - s.first.toNat)) + rm (rd_T29 all (s'.first - 1)) ∧ rm (rd_T29 all (s'.first - 1)) ≤ s.used + add) := by
  obtain ⟨d, d2, h1, h2, h3, h4, h6⟩ := h
  have hl : (all.length : Int) = d.length + d2.length + s'.l.length := by rw [h1]; simp; omega
  have e1 : (all.drop s.first.toNat).take (s'.first.toNat - s.first.toNat) = d2 := by
    rw [show s.first.toNat = d.length by omega, show s'.first.toNat - d.length = d2.length by omega, h1, List.append_assoc, List.drop_left, List.take_left]
  rw [e1]
  refine ⟨by omega, by omega, by omega, h6, fun hlt => ?_⟩
  obtain ⟨d3, y, e, h5⟩ := h4 (by rintro rfl; simp at h3; omega)
  have e2 : rd_T29 all (s'.first - 1) = y := by
    unfold rd_T29
    have : (s'.first - 1).toNat = d.length + d3.length := by
      have : d2.length = d3.length + 1 := by rw [e]; simp
      omega
    rw [this, h1, e, List.getD_eq_getElem?_getD]
    simp [List.append_assoc]
  rw [e2]
  refine ⟨h5, ?_⟩
  have h7 : rms d2 = rms d3 + rms [y] := by rw [e, rms_append]
  have h8 : rms [y] = rm y + 0 := rfl
  have := rms_nonneg d3
  omega
/-- what is there, in the order in which it came -/
theorem Ord.at {all : List S29} {s : TS} (h : Ord all s) (j : Nat) (hj : j < s.l.length) : rd_T29 all (s.first + j) = rd_T29 s.l j := by
  obtain ⟨d, h1, h2⟩ := h
  unfold rd_T29
  rw [show (s.first + (j : Int)).toNat = d.length + j by omega, h1, List.getD_eq_getElem?_getD, List.getD_eq_getElem?_getD, List.getElem?_append_right (by omega)]
  simp
end Go.Proofs.Ytakdfjehjnhikaa.Q
