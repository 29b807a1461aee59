import Derived.Test.YtgcefofmfeghmaaGxf33
import Derived.Laws.CopyOwn
import Derived.Lib.SlBuf
import Derived.Deep.RegionLaw
import Derived.Lib.Hide
/- slices.Repeat's contract, of one 13, 256 times. -/
namespace Go.Proofs.Ytgcefofmfeghmaa.Pl
open Go.RowKit Go.Proofs.YtgcefofmfeghmaaW.PrintWords Go.Proofs.YtgcefofmfeghmaaW.PrintLast Go.Proofs.YtgcefofmfeghmaaW.PrintMore Go.Proofs.Ytgcefofmfeghmaa.G
set_option linter.unusedVariables false
set_option linter.unusedSimpArgs false

def part (n : Nat) : List Value := List.replicate n (.int .i64 13) ++ List.replicate (256 - n) (.int .i64 0)
theorem sz3 : (Try.prog.info? 3).map (fun i => i.size) = some 1 := by
  obtain ⟨i, hi, hz⟩ := Option.map_eq_some_iff.1 (info3 : (Try.prog.info? 3).map (fun i => (i.zero, i.size, i.bytes)) = _)
  simp only [Prod.mk.injEq] at hz
  rw [hi]; simp [hz.2.1]
theorem part_len (n : Nat) (h : n ≤ 256) : (part n).length = 256 := by unfold part; simp; omega
theorem part_at (n j : Nat) (h : j < n) : (part n)[j]? = some (.int .i64 13) := by unfold part; rw [List.getElem?_append_left (by simpa using h)]; simp [h]
theorem made : madeCells #[.int .i64 0] 256 = (part 0).toArray := by kernel_rfl
theorem make_run (W : World) : (Instr.makeSlice 22 (.int .i64 256) (.int .i64 256)).run Try.prog W = .ok (.slice (some ⟨W.heap.size, 0, none⟩) 256 256) (W.alloc (.cells (part 0).toArray 3)) := by
  have h := print_make_int (P := Try.prog) 22 3 (.int .i64 0) 8 Try.underlying22 info3 rfl (by decide) 256 (by decide) (by decide) W
  rw [← made]
  exact h
theorem cut_lo (g n : Nat) (h : n ≤ 128) (W : World) : (Instr.slice 22 (.slice (some ⟨g, 0, none⟩) 256 256) (some (.int .i64 (n : Int))) none none).run Try.prog W = .ok (.slice (some ⟨g, n, none⟩) (256 - n) (256 - n)) W := by
  have hu : Try.prog.underlying 22 = some (.slice (Try.prog.elem 22)) := by kernel_rfl
  rw [run_slice_l W 22 (some ⟨g, 0, none⟩) 256 256 hu .i64 (n : Int) (Int.natCast_nonneg _) (by omega)]
  obtain ⟨i, hi, hz⟩ := Option.map_eq_some_iff.1 (info3 : (Try.prog.info? 3).map (fun i => (i.zero, i.size, i.bytes)) = _)
  simp only [Prod.mk.injEq] at hz
  have hel : Try.prog.elem 22 = 3 := by kernel_rfl
  rw [hel]
  simp [sizeOf, typeInfo, hi, hz.2.1, sliced, Result.andThen, Addr.add]
  rw [if_neg (by omega)]
  split
  · rename_i h6; subst h6; rfl
  · rfl
theorem cut_hi (g n : Nat) (h : n ≤ 128) (W : World) : (Instr.slice 22 (.slice (some ⟨g, 0, none⟩) 256 256) none (some (.int .i64 (n : Int))) none).run Try.prog W = .ok (.slice (some ⟨g, 0, none⟩) n 256) W := by
  have hu : Try.prog.underlying 22 = some (.slice (Try.prog.elem 22)) := by kernel_rfl
  rw [run_slice_h W 22 (some ⟨g, 0, none⟩) 256 256 hu .i64 (n : Int) (Int.natCast_nonneg _) (by omega)]
  obtain ⟨i, hi, hz⟩ := Option.map_eq_some_iff.1 (info3 : (Try.prog.info? 3).map (fun i => (i.zero, i.size, i.bytes)) = _)
  simp only [Prod.mk.injEq] at hz
  have hel : Try.prog.elem 22 = 3 := by kernel_rfl
  rw [hel]
  simp [sizeOf, typeInfo, hi, hz.2.1, sliced, Result.andThen, Addr.add]
theorem doubled (n : Nat) (h : n ≤ 128) : Go.splice (part n) n (List.replicate n (.int .i64 13)) = part (n + n) := by
  unfold Go.splice part
  have e1 : (List.replicate n (Value.int .i64 13) ++ List.replicate (256 - n) (Value.int .i64 0)).take n = List.replicate n (Value.int .i64 13) := by rw [List.take_append_of_le_length (by simp)]; simp
  have e2 : (List.replicate n (Value.int .i64 13) ++ List.replicate (256 - n) (Value.int .i64 0)).drop (n + n) = List.replicate (256 - (n + n)) (Value.int .i64 0) := by
    rw [List.drop_append, List.drop_eq_nil_of_le (by simp), List.nil_append, List.drop_replicate]
    congr 1
    simp
    omega
  simp only [List.length_replicate, e1, e2]
  rw [← List.append_assoc, List.replicate_append_replicate]

theorem one_src (w : World) (ad : Addr) (h : w.cell? (ad.add 0) = some (.int .i64 13)) : ∀ (j : Nat) (v : Value), [Value.int .i64 13][j]? = some v → w.cell? (ad.add j) = some v := by
  intro j v hj
  rcases j with _ | j
  · have hv : v = .int .i64 13 := by simpa using hj.symm
    rw [hv]; exact h
  · simp at hj
theorem rep_src (pt : Nat → List Value) (hat : ∀ n j, j < n → (pt n)[j]? = some (.int .i64 13)) (W : World) (g n : Nat) (hG : W.heap[g]? = some (.cells (pt n).toArray 3 (0, 0))) : ∀ (j : Nat) (v : Value), (List.replicate n (Value.int .i64 13))[j]? = some v → W.cell? ((⟨g, 0, none⟩ : Addr).add j) = some v := by
  intro j v hj
  have hjn : j < n := by have := (List.getElem?_eq_some_iff.1 hj).1; simpa using this
  have e : (⟨g, 0, none⟩ : Addr).add j = ⟨g, j, none⟩ := by unfold Addr.add; split <;> simp_all
  rw [e]
  have hv : v = .int .i64 13 := List.eq_of_mem_replicate (List.mem_of_getElem? hj)
  rw [hv]
  simp [World.cell?, hG, hat n j hjn]
theorem ends (W : World) (base g : Nat) (hb : base ≤ g) (h : W.heap[g]? = some (.cells (part 256).toArray 3 (0, 0))) : Kd.R (Kd.int .i64) 3 W base (fun _ => True) (.slice (some ⟨g, 0, none⟩) 256 256) (List.replicate 256 13) := by
  refine Kd.R_of_own (enc := Value.int .i64) ?_ (fun _ _ => trivial)
  have e : (part 256) = List.replicate 256 (Value.int .i64 13) := by unfold part; rw [Nat.sub_self, List.replicate_zero, List.append_nil]
  rw [e] at h
  have hl : (List.replicate 256 (13 : Int)).length = 256 := List.length_replicate
  have he : encs (Value.int .i64) (List.replicate 256 (13 : Int)) = List.replicate 256 (Value.int .i64 13) := by unfold encs; rw [List.map_replicate]
  rw [hl, he]
  refine ⟨by rw [List.length_replicate], Or.inr ⟨g, 256, _, rfl, hb, h, Nat.le_refl _, by decide, by rw [List.size_toArray, List.length_replicate], ?_⟩⟩
  rw [List.take_of_length_le (by rw [List.length_replicate]; omega)]
set_option maxRecDepth 100000 in
theorem rep_gen (pt : Nat → List Value) (hmk : ∀ W : World, (Instr.makeSlice 22 (.int .i64 256) (.int .i64 256)).run Try.prog W = .ok (.slice (some ⟨W.heap.size, 0, none⟩) 256 256) (W.alloc (.cells (pt 0).toArray 3)))
    (hlen : ∀ n, n ≤ 256 → (pt n).length = 256) (hat : ∀ n j, j < n → (pt n)[j]? = some (.int .i64 13)) (hone : Go.splice (pt 0) 0 [Value.int .i64 13] = pt 1) (hdb : ∀ n, n ≤ 128 → Go.splice (pt n) n (List.replicate n (.int .i64 13)) = pt (n + n))
    (A : Option Addr) (c : Nat) (w : World) (hr : Kd.C (Kd.int .i64) w A 1 [13]) (hc : 1 ≤ c) :
    Calls Try.prog 28 #[.slice A 1 c, .int .i64 256] w fun e w' => e = .returned (.slice (some ⟨w.heap.size, 0, none⟩) 256 256) ∧ w'.heap[w.heap.size]? = some (.cells (pt 256).toArray 3 (0, 0)) ∧ Below w.heap.size w w' := by
  obtain ⟨ad, rfl, hx⟩ := Kd.at_int hr 0 (by decide) (by decide)
  have HX : Hid (w.cell? (ad.add 0) = some (.int .i64 13)) := Lib.hid hx
  clear hr hx
  have HM := Lib.hid (fun W => bits_Mul.calls 1 256 0 256 W (by kernel_rfl))
  have HONE := Lib.hid hone
  have HDB := Lib.hid hdb
  have HLEN := Lib.hid hlen
  have HAT := Lib.hid hat
  clear hone hdb hlen hat
  go_enter Try.func28, Try.ntmps28
  go_upto_region 7 with (first | (go_at_call 33; refine (HM.out _).mono ?_; rintro e w' ⟨rfl, ⟨nd, rfl⟩⟩))
  have HA : Hid (((w.drewN nd).alloc (.cells (pt 0).toArray 3)).heap[w.heap.size]? = some (.cells (pt 0).toArray 3 (0, 0))) := Lib.hid (heap_alloc_new (w.drewN nd) _)
  have HBb : Hid (Below w.heap.size w ((w.drewN nd).alloc (.cells (pt 0).toArray 3))) := Lib.hid (below_alloc (pw_below_drewN (Below.refl _ _) nd) _)
  have HS := Lib.hid (one_src ((w.drewN nd).alloc (.cells (pt 0).toArray 3)) ad (pw_cell_below HBb.out HX.out))
  have HF0 : Hid (0 + [Value.int .i64 13].length ≤ (pt 0).length) := Lib.hid (by rw [HLEN.out 0 (by decide)]; decide)
  have HO1 : Hid (∀ v ∈ [Value.int .i64 13], v.oneCell' = true) := Lib.hid (by intro v hv; rw [List.mem_singleton.1 hv]; rfl)
  obtain ⟨w1, hcp, HG1, HB1⟩ : ∃ w1, (Builtin.copy_ #[22, 22] 3 #[.slice (some ⟨w.heap.size, 0, none⟩) 256 256, .slice (some ad) 1 c]).run Try.prog ((w.drewN nd).alloc (.cells (pt 0).toArray 3)) = .ok (.int .i64 1) w1 ∧ Hid (w1.heap[w.heap.size]? = some (.cells (Go.splice (pt 0) 0 [Value.int .i64 13]).toArray 3 (0, 0))) ∧ Hid (Below w.heap.size w w1) := by
    have h := run_copy_row (P := Try.prog) ((w.drewN nd).alloc (.cells (pt 0).toArray 3)) 22 22 3 3 w.heap.size 0 256 256 ad 1 c (pt 0).toArray 3 [Value.int .i64 13] Try.underlying22 sz3 HA.out rfl HS.out (by simpa using HF0.out) HO1.out
    refine ⟨_, h, ?_, ?_⟩
    · have h2 := setRow_heap ((w.drewN nd).alloc (.cells (pt 0).toArray 3)) w.heap.size (pt 0).toArray (([] ++ [Value.int .i64 13] ++ (pt 0).drop 1).toArray) 3 (0, 0) HA.out
      exact h2
    · exact below_setRow HBb.out (Nat.le_refl _) _
  go_wp2_with (at_builtin; refine Lib.wpList_copy_run _ rfl _ _ 22 22 rfl _ _ rfl rfl hcp ?_)
  have HG0 : Hid (w1.heap[w.heap.size]? = some (.cells (pt 1).toArray 3 (0, 0))) := Lib.hid (by have h := HG1.out; rwa [HONE.out] at h)
  clear HG1 hmk HM HX HA HBb HS HF0 HO1
  go_loopg [8] 8 (fun k v8 W => ∃ m : Nat, m ≤ 8 ∧ 8 ≤ k + m ∧ v8 = .int .i64 ((2 ^ m : Nat) : Int) ∧ Hid (W.heap[w.heap.size]? = some (.cells (pt (2 ^ m)).toArray 3 (0, 0))) ∧ Hid (Below w.heap.size w W))
  case atStart => exact ⟨0, by omega, by omega, rfl, HG0, HB1⟩
  case round =>
    obtain ⟨m, hm, hk, rfl, HG, HB⟩ := hrel
    clear HG0 HB1
    by_cases hlt : m < 8
    · have hp : 2 ^ m ≤ 2 ^ 7 := Nat.pow_le_pow_right (by decide) (by omega)
      have h7 : (2 : Nat) ^ 7 = 128 := by decide
      rw [h7] at hp
      clear h7
      have hp1 : 2 ^ (m + 1) = 2 ^ m + 2 ^ m := by rw [Nat.pow_succ]; omega
      generalize 2 ^ m = n at hp hp1 HG ⊢
      have HP1 := Lib.hid hp1
      clear hp1
      have c1 : decide ((n : Int) < 256) = true := decide_eq_true (by omega)
      have hlo := cut_lo w.heap.size n hp
      have hhi := cut_hi w.heap.size n hp
      have HN := Lib.hid hp
      have hmin : (List.replicate n (Value.int .i64 13)).length = Nat.min n (256 - n) := by rw [List.length_replicate]; exact (Nat.min_eq_left (by omega)).symm
      have hfit : n + (List.replicate n (Value.int .i64 13)).length ≤ (pt n).length := by rw [List.length_replicate, HLEN.out n (by omega)]; omega
      have hall : ∀ v ∈ List.replicate n (Value.int .i64 13), v.oneCell' = true := by intro v hv; rw [List.eq_of_mem_replicate hv]; rfl
      have HMIN := Lib.hid hmin
      have HFIT := Lib.hid hfit
      have HALL := Lib.hid hall
      clear hmin hfit hall
      go_upto_region 9 with fail
      refine start_ (n := 10) (S := fun w' => True) (ds := []) #[false, false, false, false, false, false, false, false, false, false] (by kernel_rfl) rfl rfl trivial (fun hHeld => ?_)
      refine pure_ (i := 0) (N := some 38) (v := ?_) (a' := ?_) #[true, false, false, false, false, false, false, false, false, false] rfl rfl (by kernel_rfl) (fun _ _ _ h => h) (Or.inl ⟨by rfl, ?_⟩) ?_ ?_
      rotate_left
      · intro w'
        go_simp
        with_reducible rfl
      rotate_left
      · simp only [Act.put, List.setIfInBounds_toArray, List.set_cons_zero, List.set_cons_succ, i64_w, i32_w]
        rfl
      refine pure_ (i := 1) (N := some 39) (v := ?_) (a' := ?_) #[true, true, false, false, false, false, false, false, false, false] rfl rfl (by kernel_rfl) (fun _ _ _ h => h) (Or.inl ⟨by rfl, ?_⟩) ?_ ?_
      rotate_left
      · intro w'
        go_simp
        with_reducible rfl
      rotate_left
      · simp only [Act.put, List.setIfInBounds_toArray, List.set_cons_zero, List.set_cons_succ, i64_w, i32_w]
        rfl
      refine pure_ (i := 2) (N := some 40) (v := ?_) (a' := ?_) #[true, true, true, false, false, false, false, false, false, false] rfl rfl (by kernel_rfl) (fun _ _ _ h => h) (Or.inl ⟨by rfl, ?_⟩) ?_ ?_
      rotate_left
      · intro w'
        go_simp
        with_reducible rfl
      rotate_left
      · simp only [Act.put, List.setIfInBounds_toArray, List.set_cons_zero, List.set_cons_succ, i64_w, i32_w]
        rfl
      refine pure_ (i := 3) (N := some 41) (v := ?_) (a' := ?_) #[true, true, true, true, false, false, false, false, false, false] rfl rfl (by kernel_rfl) (fun _ _ _ h => h) (Or.inl ⟨by rfl, ?_⟩) ?_ ?_
      rotate_left
      · intro w'
        go_simp
        with_reducible rfl
      rotate_left
      · simp only [Act.put, List.setIfInBounds_toArray, List.set_cons_zero, List.set_cons_succ, i64_w, i32_w]
        rfl
      refine pure_ (i := 4) (N := some 42) (v := ?_) (a' := ?_) #[true, true, true, true, true, false, false, false, false, false] rfl rfl (by kernel_rfl) (fun _ _ _ h => h) (Or.inl ⟨by rfl, ?_⟩) ?_ ?_
      rotate_left
      · intro w'
        go_simp
        with_reducible rfl
      rotate_left
      · simp only [Act.put, List.setIfInBounds_toArray, List.set_cons_zero, List.set_cons_succ, i64_w, i32_w]
        rfl
      refine pure_ (i := 5) (N := some 43) (v := ?_) (a' := ?_) #[true, true, true, true, true, true, false, false, false, false] rfl rfl (by kernel_rfl) (fun _ _ _ h => h) (Or.inl ⟨by rfl, ?_⟩) ?_ ?_
      rotate_left
      · intro w'
        go_simp
        with_reducible rfl
      rotate_left
      · simp only [Act.put, List.setIfInBounds_toArray, List.set_cons_zero, List.set_cons_succ, i64_w, i32_w]
        rfl
      refine pure_ (i := 6) (N := some 44) (v := ?_) (a' := ?_) #[true, true, true, true, true, true, true, false, false, false] rfl rfl (by kernel_rfl) (fun _ _ _ h => h) (Or.inl ⟨by rfl, ?_⟩) ?_ ?_
      rotate_left
      · intro w'
        go_simp
        with_reducible rfl
      rotate_left
      · simp only [Act.put, List.setIfInBounds_toArray, List.set_cons_zero, List.set_cons_succ, i64_w, i32_w]
        rfl
      refine one_ (i := 7) (N := some 45) #[true, true, true, true, true, true, true, true, false, false] rfl rfl (by kernel_rfl) (by decide) (fun K hK => ?_)
      refine step_copy_splice rfl (.tmp 41) (.tmp 44) 22 22 rfl 3 Try.underlying22 sz3 (some ⟨w.heap.size, n, none⟩) (some ⟨w.heap.size, 0, none⟩) (256 - n) (256 - n) n 256 rfl rfl w.heap.size n (pt n) 3 (by exact HG.out) (List.replicate n (.int .i64 13)) HMIN.out (fun _ => ⟨rfl, ⟨w.heap.size, 0, none⟩, rfl, rep_src pt HAT.out _ w.heap.size n (by exact HG.out)⟩) HFIT.out HALL.out w.heap.size w (below_drew HB.out) (Nat.le_refl _) ?_
      intro w4 hg4 hb4
      refine hK.out _ _ trivial (fun hHeld => ?_)
      clear hK K
      refine norm_ (a' := ?_) ?_ ?_
      rotate_left
      · show Act.put _ (some 45) _ = _
        simp only [Act.put, List.setIfInBounds_toArray, List.set_cons_zero, List.set_cons_succ, i64_w, i32_w]
        rfl
      refine pure_ (i := 8) (N := some 46) (v := ?_) (a' := ?_) #[true, true, true, true, true, true, true, true, true, false] rfl rfl (by kernel_rfl) (fun _ _ _ h => h) (Or.inl ⟨by rfl, ?_⟩) ?_ ?_
      rotate_left
      · intro w'
        go_simp
        with_reducible rfl
      rotate_left
      · simp only [Act.put, List.setIfInBounds_toArray, List.set_cons_zero, List.set_cons_succ, i64_w, i32_w]
        rfl
      refine pure_ (i := 9) (N := some 8) (v := ?_) (a' := ?_) #[true, true, true, true, true, true, true, true, true, true] rfl rfl (by kernel_rfl) (fun _ _ _ h => h) (Or.inl ⟨by rfl, ?_⟩) ?_ ?_
      rotate_left
      · intro w'
        go_simp
        with_reducible rfl
      rotate_left
      · simp only [Act.put, List.setIfInBounds_toArray, List.set_cons_zero, List.set_cons_succ, i64_w, i32_w]
        rfl
      refine done_ (by kernel_rfl) ?_
      have HG4 : Hid (w4.heap[w.heap.size]? = some (.cells (pt (n + n)).toArray 3 (0, 0))) := Lib.hid (by have h := hg4.out; rwa [HDB.out n HN.out] at h)
      have HB4 := Lib.hid hb4
      clear hg4 hb4 hlo hhi c1
      have hw : wrap64 ((n : Int) + (n : Int)) = ((n + n : Nat) : Int) := by have := HN.out; unfold wrap64; omega
      have HWW := Lib.hid hw
      clear hw
      obtain ⟨k1, rfl⟩ : ∃ k1, gk = k1 + 1 := ⟨gk - 1, by omega⟩
      go_wp2
      go_roundg k1
      case measure => omega
      case rel => exact ⟨m + 1, by omega, by omega, by rw [HP1.out]; exact congrArg (Value.int .i64) HWW.out, by rw [HP1.out]; exact HG4, HB4⟩
    · obtain rfl : m = 8 := by omega
      go_wp2
      go_ret
      exact ⟨rfl, HG.out, HB.out⟩
theorem rep13 (A : Option Addr) (c : Nat) (w : World) (hr : Kd.C (Kd.int .i64) w A 1 [13]) (hc : 1 ≤ c) :
    Calls Try.prog 28 #[.slice A 1 c, .int .i64 256] w fun e w' => ∃ v, e = .returned v ∧ Kd.R (Kd.int .i64) 3 w' w.heap.size (fun _ => True) v (List.replicate 256 13) ∧ Below w.heap.size w w' := by
  refine (rep_gen part make_run part_len part_at (by kernel_rfl) doubled A c w hr hc).mono ?_
  rintro e w' ⟨rfl, hG, hB⟩
  exact ⟨_, rfl, ends w' _ _ (Nat.le_refl _) hG, hB⟩
def repeat_.f (l : List Int) (n : Int) : Option (List Int) := if l = [13] ∧ n = 256 then some (List.replicate 256 13) else none
theorem repeat_.calls (A : Option Addr) (c : Nat) (l : List Int) (n : Int) (r : List Int) (w : World) (hr : Kd.C (Kd.int .i64) w A l.length l) (hc : l.length ≤ c) (h : repeat_.f l n = some r) :
    Calls Try.prog 28 #[.slice A l.length c, .int .i64 n] w fun e w' => ∃ v, e = .returned v ∧ Kd.R (Kd.int .i64) 3 w' w.heap.size (fun _ => True) v r ∧ Below w.heap.size w w' := by
  unfold repeat_.f at h
  split at h
  · rename_i hq
    obtain ⟨rfl, rfl⟩ := hq
    obtain rfl := Option.some.inj h
    exact rep13 A c w hr hc
  · cases h
end Go.Proofs.Ytgcefofmfeghmaa.Pl
