import Derived.Test.YtbnhlekehndhkaaGreatDoorYDaF
import Derived.Lib.SplitLaws
import Derived.Lib.AtoiAll



/- The text of a date, cut at its gaps: plainly. -/
namespace Go.Proofs.YtbnhlekehndhkaaGreatDoor.Da
open Go.RowKit
set_option linter.unusedVariables false
theorem index_cut {c : UInt8} : ∀ (p r : List UInt8), c ∉ p → Lib.index (p ++ c :: r) [c] = (p.length : Int)
  | [], r, _ => by simp [Lib.index]
  | b :: p, r, h => by
    have hb : (c == b) = false := by
      rw [beq_eq_false_iff_ne]
      rintro rfl
      exact h (List.mem_cons_self ..)
    have ih := index_cut p r (fun q => h (List.mem_cons_of_mem _ q))
    show (if ([c] : List UInt8).isPrefixOf (b :: (p ++ c :: r)) then 0 else if Lib.index (p ++ c :: r) [c] == -1 then -1 else Lib.index (p ++ c :: r) [c] + 1) = _
    rw [ih]
    have h1 : ([c] : List UInt8).isPrefixOf (b :: (p ++ c :: r)) = false := by simp [List.isPrefixOf, hb]
    have h2 : ((p.length : Int) == -1) = false := by rw [beq_eq_false_iff_ne]; omega
    rw [h1, h2]
    simp
theorem index_no {c : UInt8} : ∀ (p : List UInt8), c ∉ p → Lib.index p [c] = -1
  | [], _ => by simp [Lib.index]
  | b :: p, h => by
    have hb : (c == b) = false := by
      rw [beq_eq_false_iff_ne]
      rintro rfl
      exact h (List.mem_cons_self ..)
    have ih := index_no p (fun q => h (List.mem_cons_of_mem _ q))
    show (if ([c] : List UInt8).isPrefixOf (b :: p) then 0 else if Lib.index p [c] == -1 then -1 else Lib.index p [c] + 1) = _
    rw [ih]
    have h1 : ([c] : List UInt8).isPrefixOf (b :: p) = false := by simp [List.isPrefixOf, hb]
    rw [h1]
    rfl
/-- pieces without the sign, joined by it, are cut into themselves -/
theorem split_join {c : UInt8} : ∀ (ps : List (List UInt8)), ps ≠ [] → (∀ p ∈ ps, c ∉ p) → Lib.count (Lib.join ps [c]) [c] = ps.length - 1 ∧ Lib.splitK [c] 0 (ps.length - 1) (Lib.join ps [c]) = ps
  | [], h, _ => absurd rfl h
  | [p], _, h => by
    have hp := h p (by simp)
    have e : Lib.join [p] [c] = p := Lib.join_one p [c]
    rw [e]
    exact ⟨Lib.count_miss (index_no p hp), rfl⟩
  | p :: q :: t, _, h => by
    have hp := h p (by simp)
    have ih := split_join (q :: t) (by simp) (fun x hx => h x (by simp at hx ⊢; right; exact hx))
    have e : Lib.join (p :: q :: t) [c] = p ++ c :: Lib.join (q :: t) [c] := by simp [Lib.join, List.intercalate]
    have hi := index_cut p (Lib.join (q :: t) [c]) hp
    have hd : (p ++ c :: Lib.join (q :: t) [c]).drop (p.length + 1) = Lib.join (q :: t) [c] := by
      simp [List.drop_append]
    rw [e]
    refine ⟨?_, ?_⟩
    · rw [Lib.count_hit (by simp) hi]
      show 1 + Lib.count ((p ++ c :: Lib.join (q :: t) [c]).drop (p.length + 1)) [c] = _
      rw [hd, ih.1]
      simp; omega
    · show Lib.splitK [c] 0 (t.length + 1) (p ++ c :: Lib.join (q :: t) [c]) = _
      unfold Lib.splitK
      have h2 : ((p.length : Int) == -1) = false := by rw [beq_eq_false_iff_ne]; omega
      rw [hi, h2]
      simp only [Bool.false_eq_true, if_false, Int.toNat_natCast, Nat.add_zero, List.length_singleton]
      rw [hd]
      have h3 := ih.2
      simp only [List.length_cons, Nat.add_sub_cancel] at h3
      rw [h3]
      simp
theorem atoi_two : ∀ n : Nat, n < 100 → Lib.atoiAll (two n) = .ok (n : Int) := by decide +kernel
theorem two_no : ∀ n : Nat, n < 100 → (32 : UInt8) ∉ two n ∧ (58 : UInt8) ∉ two n := by decide +kernel
theorem four_two (n : Nat) : four n = two (n / 100) ++ two (n % 100) := by
  unfold four two
  rw [show n / 100 / 10 = n / 1000 by omega, show n % 100 / 10 = n / 10 % 10 by omega, show n % 100 % 10 = n % 10 by omega]
  rfl
theorem four_no (n : Nat) (h : n < 10000) : (32 : UInt8) ∉ four n := by
  rw [four_two]
  intro hm
  rcases List.mem_append.1 hm with hm | hm
  · exact (two_no (n / 100) (by omega)).1 hm
  · exact (two_no (n % 100) (by omega)).1 hm
theorem atoi_twos : ∀ a : Nat, a < 100 → ∀ b : Nat, b < 100 → Lib.atoiAll (two a ++ two b) = .ok ((100 * a + b : Nat) : Int) := by decide +kernel
theorem atoi_four (n : Nat) (h : n < 10000) : Lib.atoiAll (four n) = .ok (n : Int) := by
  rw [four_two, atoi_twos _ (by omega) _ (by omega)]
  congr 2
  omega
theorem wd_no : ∀ n : Nat, n < 7 → (32 : UInt8) ∉ wdays.getD n [] ++ [44] := by decide +kernel
theorem mon_no : ∀ n : Nat, n < 12 → (32 : UInt8) ∉ mons.getD n [] := by decide +kernel
/-- a text of a date -/
structure IsText (s : ByteArray) (n : Int) (y M d h mi sc wd : Nat) : Prop where
  ok : DateOk (y : Int) ((M : Int) + 1) (d : Int) (h : Int) (mi : Int) (sc : Int)
  nu : num (y : Int) ((M : Int) + 1) (d : Int) (h : Int) (mi : Int) (sc : Int) = n
  day : wday n = (wd : Int)
  wd7 : wd < 7
  text : s = ⟨(fmtL y M d h mi sc wd).toArray⟩
abbrev B (l : List UInt8) : ByteArray := ⟨l.toArray⟩
theorem B_map {l : List ByteArray} {m : List (List UInt8)} (h : l.map (·.data.toList) = m) : l = m.map B := by
  subst h
  rw [List.map_map]
  conv => lhs; rw [← List.map_id l]
  refine List.map_congr_left (fun x _ => ?_)
  rcases x with ⟨⟨x⟩⟩
  rfl
theorem splitB_of {s : ByteArray} {c : UInt8} {ps : List (List UInt8)} (h0 : ps ≠ []) (hp : ∀ p ∈ ps, c ∉ p) (hs : s.data.toList = Lib.join ps [c]) : Lib.countB s ⟨#[c]⟩ = ps.length - 1 ∧ Lib.splitB ⟨#[c]⟩ 0 (Lib.countB s ⟨#[c]⟩) s = ps.map B := by
  obtain ⟨h1, h2⟩ := split_join ps h0 hp
  have e : Lib.countB s ⟨#[c]⟩ = ps.length - 1 := by show Lib.count s.data.toList [c] = _; rw [hs]; exact h1
  refine ⟨e, B_map ?_⟩
  rw [e, Lib.splitB_data]
  show Lib.splitK [c] 0 (ps.length - 1) s.data.toList = ps
  rw [hs]; exact h2
def pieces (y M d wd : Nat) (ck : List UInt8) : List (List UInt8) := [wdays.getD wd [] ++ [44], two d, mons.getD M [], four y, ck, [71, 77, 84]]
theorem clock_no (h mi s : Nat) (h1 : h < 100) (h2 : mi < 100) (h3 : s < 100) : (32 : UInt8) ∉ clockL h mi s := by
  have e1 := (two_no h h1).1
  have e2 := (two_no mi h2).1
  have e3 := (two_no s h3).1
  simp only [clockL, Lib.join, List.intercalate]
  simp [e1, e2, e3]
theorem IsText.split {s : ByteArray} {n : Int} {y M d h mi sc wd : Nat} (t : IsText s n y M d h mi sc wd) :
    s.size = 29 ∧ Lib.countB s ⟨#[32]⟩ = 5 ∧ Lib.splitB ⟨#[32]⟩ 0 (Lib.countB s ⟨#[32]⟩) s = (pieces y M d wd (clockL h mi sc)).map B := by
  obtain ⟨⟨⟨y0, y1, m0, m1, d0, d1⟩, h0, h1, mi0, mi1, s0, s1⟩, -, -, w7, rfl⟩ := t
  have hd := dim_lo (y : Int) ((M : Int) + 1)
  have hs := splitB_of (s := ⟨(fmtL y M d h mi sc wd).toArray⟩) (c := 32) (ps := pieces y M d wd (clockL h mi sc)) (by simp [pieces]) (fun p hp => by
    simp only [pieces, List.mem_cons, List.not_mem_nil, or_false] at hp
    rcases hp with rfl | rfl | rfl | rfl | rfl | rfl
    · exact wd_no wd w7
    · exact (two_no d (by omega)).1
    · exact mon_no M (by omega)
    · exact four_no y (by omega)
    · exact clock_no h mi sc (by omega) (by omega) (by omega)
    · decide) rfl
  refine ⟨?_, hs.1, hs.2⟩
  show (fmtL y M d h mi sc wd).length = 29
  have e1 : (wdays.getD wd []).length = 3 := (by decide : ∀ k : Nat, k < 7 → (wdays.getD k []).length = 3) wd w7
  have e2 : (mons.getD M []).length = 3 := (by decide : ∀ k : Nat, k < 12 → (mons.getD k []).length = 3) M (by omega)
  have e3 := clock_len h mi sc
  simp only [fmtL, Lib.join, List.intercalate, List.intersperse, List.flatten_cons, List.flatten_nil, List.length_append, List.length_cons, List.length_nil, e1, e2, e3, two, four]
theorem IsText.clock {s : ByteArray} {n : Int} {y M d h mi sc wd : Nat} (t : IsText s n y M d h mi sc wd) : Lib.splitB ⟨#[58]⟩ 0 (Lib.countB (B (clockL h mi sc)) ⟨#[58]⟩) (B (clockL h mi sc)) = [B (two h), B (two mi), B (two sc)] := by
  obtain ⟨⟨⟨y0, y1, m0, m1, d0, d1⟩, h0, h1, mi0, mi1, s0, s1⟩, -, -, w7, rfl⟩ := t
  refine (splitB_of (s := B (clockL h mi sc)) (c := 58) (ps := [two h, two mi, two sc]) (by simp) (fun p hp => ?_) rfl).2
  simp only [List.mem_cons, List.not_mem_nil, or_false] at hp
  rcases hp with rfl | rfl | rfl
  · exact (two_no _ (by omega)).2
  · exact (two_no _ (by omega)).2
  · exact (two_no _ (by omega)).2
theorem idx_mons : ∀ M : Nat, M < 12 → Lib.idxOfS (mons.map B) (B (mons.getD M [])) = (M : Int) := by decide +kernel
end Go.Proofs.YtbnhlekehndhkaaGreatDoor.Da

