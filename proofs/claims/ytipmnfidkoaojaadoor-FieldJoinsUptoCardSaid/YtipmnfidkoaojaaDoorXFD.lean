import Derived.Test.YtipmnfidkoaojaaDoorXFC
import Derived.Test.YtipmnfidkoaojaaDoorXPTm17
import Derived.Test.YtipmnfidkoaojaaDoorXPSm17



/- The spans of a range: Ranges. -/
namespace Go.Proofs.YtipmnfidkoaojaaDoor.Fb
open Go.RowKit Go.Proofs.YtipmnfidkoaojaaDoorW.PrintWords Go.Proofs.YtipmnfidkoaojaaDoorW.PrintLast Go.Proofs.YtipmnfidkoaojaaDoorW.PrintMore Go.Proofs.YtipmnfidkoaojaaDoor.G
set_option linter.unusedVariables false
set_option linter.unusedSimpArgs false
theorem info31 : (Tryd.prog.info? 31).map (fun i => (i.zero, i.size, i.bytes)) = some (some (.agg #[.int .i64 0, .int .i64 0]), 2, 16) := by kernel_rfl
/-- the spans of the parts, if all are spans -/
def rl (n : Int) : List ByteArray → List S31 → Option (List S31)
  | [], acc => some acc
  | p :: r, acc => if (partV (Lib.trimS p.data.toList [32, 9]) n).2.2 = false then none
    else rl n r (if (partV (Lib.trimS p.data.toList [32, 9]) n).1 ≤ (partV (Lib.trimS p.data.toList [32, 9]) n).2.1 then acc ++ [⟨(partV (Lib.trimS p.data.toList [32, 9]) n).1, (partV (Lib.trimS p.data.toList [32, 9]) n).2.1⟩] else acc)
def BYTES : ByteArray := ⟨#[98, 121, 116, 101, 115]⟩
def partsOf (r : ByteArray) : List ByteArray := Lib.splitB ⟨#[44]⟩ 0 (Lib.countB r ⟨#[44]⟩) r
def resR (n : Int) (P : List ByteArray) : List S31 × Int :=
  match rl n P [] with
  | none => ([], 5)
  | some out => if 16 < P.length then ([], 6) else if out.isEmpty then ([], 16) else (out, 0)
def rangesV (s : ByteArray) (n : Int) : List S31 × Int :=
  if Pl.lowS ⟨(Lib.cut s.data.toList [61]).1.toArray⟩ ≠ BYTES ∨ (⟨(Lib.cut s.data.toList [61]).1.toArray⟩ : ByteArray) = s ∨ n < 0 ∨ 1099511627776 < n then ([], 5)
  else resR n (partsOf ⟨(Lib.cut s.data.toList [61]).2.1.toArray⟩)
def RPost (B : Nat) (l : List S31) (er : Int) (w : World) (e : Ending) (w' : World) : Prop :=
  (∃ A c, e = .returned (.tuple #[.slice A l.length c, .int .i64 er]) ∧ Kd.C k31 w' A l.length l ∧ l.length ≤ c) ∧ Below w.heap.size w w'
theorem nil_C (w : World) : Kd.C k31 w none 0 [] := ⟨rfl, by decide, fun h => absurd h (by decide)⟩
theorem bytes_of {s : ByteArray} (h : s.toList = [98, 121, 116, 101, 115]) : s = BYTES := by
  rw [toL] at h
  obtain ⟨⟨l⟩⟩ := s
  simp only at h
  rw [h]; rfl
theorem drawn_below {w w' : World} (h : ∃ k, w' = w.drewN k) : Below w.heap.size w w' := (Drawn0.mk h).below
set_option maxHeartbeats 2000000 in
theorem ranges_bad1 (s U R LU : ByteArray) (ct : Bool) (n : Int) (w : World) (h0 : LU ≠ BYTES)
    (hC : Calls Tryd.prog 16 #[.string s, .string ⟨#[61]⟩] w fun e w' => e = .returned (.tuple #[.string U, .string R, .bool ct]) ∧ ∃ k, w' = w.drewN k)
    (hS : ∀ W, Calls Tryd.prog 17 #[.string U] W fun e w' => e = .returned (.string LU) ∧ Below W.heap.size W w') :
    Calls Tryd.prog 9 #[.string s, .int .i64 n] w (RPost w.heap.size [] 5 w) := by
  have HC := Lib.hid hC
  have HS := Lib.hid hS
  have t0 : ¬ LU.toList = [98, 121, 116, 101, 115] := fun e => h0 (bytes_of e)
  have t0b : (LU.toList == [98, 121, 116, 101, 115]) = false := by rw [beq_eq_false_iff_ne]; exact t0
  clear hC hS h0
  go_enter Tryd.func9, Tryd.ntmps9
  go_upto_region 2 with (go_at_call 16; refine HC.out.mono ?_; rintro e_ w1 ⟨rfl, hd⟩; have HB1 : Hid (Below w.heap.size w w1) := Lib.hid (drawn_below hd); clear hd)
  go_wp2_with (go_at_call 17; refine (HS.out _).mono ?_; rintro e_ w2 ⟨rfl, hb⟩; have HB2 : Hid (Below w.heap.size w w2) := Lib.hid (below_step HB1.out hb); clear hb)
  go_ret2
  exact ⟨⟨none, 0, rfl, nil_C _, Nat.le_refl _⟩, HB2.out⟩
set_option maxHeartbeats 2000000 in
theorem ranges_bad2 (s U R LU : ByteArray) (ct : Bool) (n : Int) (w : World) (h0 : LU = BYTES) (h1 : U = s)
    (hC : Calls Tryd.prog 16 #[.string s, .string ⟨#[61]⟩] w fun e w' => e = .returned (.tuple #[.string U, .string R, .bool ct]) ∧ ∃ k, w' = w.drewN k)
    (hS : ∀ W, Calls Tryd.prog 17 #[.string U] W fun e w' => e = .returned (.string LU) ∧ Below W.heap.size W w') :
    Calls Tryd.prog 9 #[.string s, .int .i64 n] w (RPost w.heap.size [] 5 w) := by
  have HC := Lib.hid hC
  have HS := Lib.hid hS
  have t0 : LU.toList = [98, 121, 116, 101, 115] := by rw [h0]; unfold BYTES; rw [toL]
  have t1 : (U.toList == s.toList) = true := (Lib.bytes_beq_iff U s).2 h1
  clear hC hS h0 h1
  go_enter Tryd.func9, Tryd.ntmps9
  go_upto_region 2 with (go_at_call 16; refine HC.out.mono ?_; rintro e_ w1 ⟨rfl, hd⟩; have HB1 : Hid (Below w.heap.size w w1) := Lib.hid (drawn_below hd); clear hd)
  go_wp2_with (go_at_call 17; refine (HS.out _).mono ?_; rintro e_ w2 ⟨rfl, hb⟩; have HB2 : Hid (Below w.heap.size w w2) := Lib.hid (below_step HB1.out hb); clear hb)
  go_ret2
  exact ⟨⟨none, 0, rfl, nil_C _, Nat.le_refl _⟩, HB2.out⟩
set_option maxHeartbeats 2000000 in
theorem ranges_bad3 (s U R LU : ByteArray) (ct : Bool) (n : Int) (w : World) (h0 : LU = BYTES) (h1 : U ≠ s) (h2 : n < 0)
    (hC : Calls Tryd.prog 16 #[.string s, .string ⟨#[61]⟩] w fun e w' => e = .returned (.tuple #[.string U, .string R, .bool ct]) ∧ ∃ k, w' = w.drewN k)
    (hS : ∀ W, Calls Tryd.prog 17 #[.string U] W fun e w' => e = .returned (.string LU) ∧ Below W.heap.size W w') :
    Calls Tryd.prog 9 #[.string s, .int .i64 n] w (RPost w.heap.size [] 5 w) := by
  have HC := Lib.hid hC
  have HS := Lib.hid hS
  have t0 : LU.toList = [98, 121, 116, 101, 115] := by rw [h0]; unfold BYTES; rw [toL]
  have t1 : (U.toList == s.toList) = false := (Lib.bytes_beq_false_iff U s).2 h1
  have t2 : decide (n < 0) = true := decide_eq_true h2
  clear hC hS h0 h1 h2
  go_enter Tryd.func9, Tryd.ntmps9
  go_upto_region 2 with (go_at_call 16; refine HC.out.mono ?_; rintro e_ w1 ⟨rfl, hd⟩; have HB1 : Hid (Below w.heap.size w w1) := Lib.hid (drawn_below hd); clear hd)
  go_wp2_with (go_at_call 17; refine (HS.out _).mono ?_; rintro e_ w2 ⟨rfl, hb⟩; have HB2 : Hid (Below w.heap.size w w2) := Lib.hid (below_step HB1.out hb); clear hb)
  go_ret2
  exact ⟨⟨none, 0, rfl, nil_C _, Nat.le_refl _⟩, HB2.out⟩
set_option maxHeartbeats 2000000 in
theorem ranges_bad4 (s U R LU : ByteArray) (ct : Bool) (n : Int) (w : World) (h0 : LU = BYTES) (h1 : U ≠ s) (h2 : ¬ n < 0) (h3 : 1099511627776 < n)
    (hC : Calls Tryd.prog 16 #[.string s, .string ⟨#[61]⟩] w fun e w' => e = .returned (.tuple #[.string U, .string R, .bool ct]) ∧ ∃ k, w' = w.drewN k)
    (hS : ∀ W, Calls Tryd.prog 17 #[.string U] W fun e w' => e = .returned (.string LU) ∧ Below W.heap.size W w') :
    Calls Tryd.prog 9 #[.string s, .int .i64 n] w (RPost w.heap.size [] 5 w) := by
  have HC := Lib.hid hC
  have HS := Lib.hid hS
  have t0 : LU.toList = [98, 121, 116, 101, 115] := by rw [h0]; unfold BYTES; rw [toL]
  have t1 : (U.toList == s.toList) = false := (Lib.bytes_beq_false_iff U s).2 h1
  have t2 : decide (n < 0) = false := decide_eq_false h2
  have t3 : decide (n > 1099511627776) = true := decide_eq_true h3
  clear hC hS h0 h1 h2 h3
  go_enter Tryd.func9, Tryd.ntmps9
  go_upto_region 2 with (go_at_call 16; refine HC.out.mono ?_; rintro e_ w1 ⟨rfl, hd⟩; have HB1 : Hid (Below w.heap.size w w1) := Lib.hid (drawn_below hd); clear hd)
  go_wp2_with (go_at_call 17; refine (HS.out _).mono ?_; rintro e_ w2 ⟨rfl, hb⟩; have HB2 : Hid (Below w.heap.size w w2) := Lib.hid (below_step HB1.out hb); clear hb)
  go_ret2
  exact ⟨⟨none, 0, rfl, nil_C _, Nat.le_refl _⟩, HB2.out⟩
theorem extract_size (s : ByteArray) (a b : Nat) : (s.extract a b).size ≤ s.size := by rw [ByteArray.size_extract]; omega
theorem split_len (s : ByteArray) (c : UInt8) : (Lib.splitB ⟨#[c]⟩ 0 (Lib.countB s ⟨#[c]⟩) s).length = Lib.countB s ⟨#[c]⟩ + 1 := Lib.splitB_all ⟨#[c]⟩ (Nat.le_refl 1) 0 _ s rfl
theorem split_small (sep : ByteArray) : ∀ (k : Nat) (s p : ByteArray), p ∈ Lib.splitB sep 0 k s → p.size ≤ s.size
  | 0, s, p, h => by
    rw [Lib.splitB_zero] at h
    simp only [List.mem_singleton] at h
    rw [h]; exact Nat.le_refl _
  | k + 1, s, p, h => by
    unfold Lib.splitB at h
    split at h
    · simp only [List.mem_singleton] at h
      rw [h]; exact Nat.le_refl _
    · rcases List.mem_cons.1 h with rfl | h
      · exact extract_size _ _ _
      · exact Nat.le_trans (split_small sep k _ p h) (extract_size _ _ _)
theorem parts_len (r : ByteArray) : (partsOf r).length ≤ r.size + 2 ∧ (partsOf r).length = Lib.countB r ⟨#[44]⟩ + 1 := by
  unfold partsOf
  rw [split_len]
  have h1 : Lib.countB r ⟨#[44]⟩ ≤ r.data.toList.length + 1 := Lib.count_le r.data.toList (⟨#[44]⟩ : ByteArray).data.toList
  have e : r.data.toList.length = r.size := by simp
  exact ⟨by omega, rfl⟩
theorem split_q (R : ByteArray) (m : Int) (w : World) (hm : w.cell? ⟨0, 0, none⟩ = some (.int .i64 m)) (hR : R.size < 4294967281) : Calls Tryd.prog 18 #[.string R, .string ⟨#[44]⟩] w fun e w' =>
    e = .returned (.slice (some ⟨w.heap.size, 0, none⟩) (partsOf R).length (partsOf R).length) ∧ w'.heap[w.heap.size]? = some (.cells ((partsOf R).map Value.string).toArray 9 (0, 0)) ∧ Below w.heap.size w w' :=
  (Tryd.strings_Split R ⟨#[44]⟩ m w hR hm (by decide)).mono fun e w' h => ⟨by rw [h.1, (parts_len R).2], by rw [h.2]; exact heap_alloc_new _ _, by rw [h.2]; exact below_alloc (Below.refl _ _) _⟩
theorem trim_le (l : List UInt8) (c : List UInt8) : (Lib.trimS l c).length ≤ l.length := by
  unfold Lib.trimS Lib.trimLeftS Lib.trimRightS
  refine Nat.le_trans (List.Sublist.length_le (List.IsSuffix.sublist (List.dropWhile_suffix _))) ?_
  rw [List.length_reverse]
  refine Nat.le_trans (List.Sublist.length_le (List.IsSuffix.sublist (List.dropWhile_suffix _))) ?_
  rw [List.length_reverse]; exact Nat.le_refl _
theorem rl_step {n : Int} {P : List ByteArray} {i : Nat} {p : ByteArray} (h : P[i]? = some p) (acc : List S31) : rl n (P.drop i) acc = if (partV (Lib.trimS p.data.toList [32, 9]) n).2.2 = false then none
    else rl n (P.drop (i + 1)) (if (partV (Lib.trimS p.data.toList [32, 9]) n).1 ≤ (partV (Lib.trimS p.data.toList [32, 9]) n).2.1 then acc ++ [⟨(partV (Lib.trimS p.data.toList [32, 9]) n).1, (partV (Lib.trimS p.data.toList [32, 9]) n).2.1⟩] else acc) := by
  obtain ⟨hi, rfl⟩ := List.getElem?_eq_some_iff.1 h
  rw [List.drop_eq_getElem_cons hi]
  rfl
end Go.Proofs.YtipmnfidkoaojaaDoor.Fb

