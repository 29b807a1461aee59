import Derived.Test.YtipmnfidkoaojaaDoorZFI

/- FieldWithin: the plain law and its walk. -/
namespace Go.Proofs.YtipmnfidkoaojaaDoor.Fb
open Go.RowKit Go.Proofs.YtipmnfidkoaojaaDoorW.PrintWords Go.Proofs.YtipmnfidkoaojaaDoorW.PrintLast Go.Proofs.YtipmnfidkoaojaaDoorW.PrintMore Go.Proofs.YtipmnfidkoaojaaDoor.G
set_option linter.unusedVariables false
set_option linter.unusedSimpArgs false
theorem part_within (l : List UInt8) (n : Int) (h : (partV l n).2.2 = true) : 0 ≤ (partV l n).1 ∧ (partV l n).2.1 ≤ n - 1 := by
  unfold partV at h ⊢
  simp only at h ⊢
  split at h
  · cases h
  · rename_i h1
    rw [if_neg h1]
    split at h
    · rename_i h2
      rw [if_pos h2]
      exact ⟨by show 0 ≤ max 0 _; omega, by show n - 1 ≤ n - 1; omega⟩
    · rename_i h2
      rw [if_neg h2]
      split at h
      · cases h
      · rename_i h3
        rw [if_neg h3]
        exact ⟨(numV_bounds _).1, by show min _ (n - 1) ≤ n - 1; omega⟩
def In (n : Int) (x : S31) : Prop := 0 ≤ x.f0 ∧ x.f0 ≤ x.f1 ∧ x.f1 < n
theorem rl_within (n : Int) : ∀ (P : List ByteArray) (acc out : List S31), (∀ x ∈ acc, In n x) → rl n P acc = some out → (∀ x ∈ out, In n x) ∧ out.length ≤ acc.length + P.length
  | [], acc, out, ha, h => by
    simp only [rl, Option.some.injEq] at h
    subst h
    exact ⟨ha, by simp⟩
  | p :: P, acc, out, ha, h => by
    unfold rl at h
    split at h
    · cases h
    · rename_i h1
      have h1 : (partV (Lib.trimS p.data.toList [32, 9]) n).2.2 = true := by cases hh : (partV (Lib.trimS p.data.toList [32, 9]) n).2.2 with | true => rfl | false => exact absurd hh h1
      have h2 := part_within _ _ h1
      split at h
      · rename_i h3
        obtain ⟨h4, h5⟩ := rl_within n P _ out (fun x hx => by
          rcases List.mem_append.1 hx with hx | hx
          · exact ha x hx
          · simp only [List.mem_singleton] at hx
            subst hx
            exact ⟨h2.1, h3, by show (partV (Lib.trimS p.data.toList [32, 9]) n).2.1 < n; omega⟩) h
        exact ⟨h4, by simp only [List.length_append, List.length_cons, List.length_nil] at h5 ⊢; omega⟩
      · obtain ⟨h4, h5⟩ := rl_within n P _ out ha h
        exact ⟨h4, by simp only [List.length_cons]; omega⟩
theorem ranges_within (s : ByteArray) (n : Int) : ((rangesV s n).2 ≠ 0 ∧ (rangesV s n).1 = []) ∨ ((rangesV s n).2 = 0 ∧ 0 < (rangesV s n).1.length ∧ (rangesV s n).1.length ≤ 16 ∧ ∀ x ∈ (rangesV s n).1, In n x) := by
  unfold rangesV
  split
  · exact .inl ⟨by decide, rfl⟩
  · unfold resR
    split
    · exact .inl ⟨by decide, rfl⟩
    · rename_i out ho
      obtain ⟨h1, h2⟩ := rl_within n _ [] out (fun x hx => by cases hx) ho
      split
      · exact .inl ⟨by decide, rfl⟩
      · split
        · exact .inl ⟨by decide, rfl⟩
        · rename_i h3 h4
          refine .inr ⟨rfl, ?_, by simp only [List.length_nil] at h2; show out.length ≤ 16; omega, h1⟩
          cases out with
          | nil => exact absurd rfl h4
          | cons x t => simp
theorem rd_mem (X : List S31) (i : Nat) (h : i < X.length) : rd_T31 X (i : Int) ∈ X := by
  unfold rd_T31
  rw [Int.toNat_natCast, List.getD_eq_getElem?_getD, List.getElem?_eq_getElem h]
  exact List.getElem_mem h
set_option maxRecDepth 100000 in
set_option maxHeartbeats 4000000 in
theorem within_calls (s : ByteArray) (n : Int) (w : World) (hG : Glob w) : Calls Tryd.prog 4 #[.string s, .int .i64 n] w fun e w' => e = .returned (.bool true) ∧ Below w.heap.size w w' := by
  have HG := Lib.hid hG
  by_cases h : 3000 < s.size
  · have t0 : decide ((s.size : Int) > 3000) = true := decide_eq_true (by omega)
    clear h hG
    go_enter Tryd.func4, Tryd.ntmps4
    go_wp2_with (go_at_call 8; refine (alive_q _ HG.out).mono ?_; rintro e_ w1 ⟨rfl, hb1⟩; have HB1 := Lib.hid hb1; clear hb1)
    go_ret
    exact ⟨rfl, HB1.out⟩
  have t0 : decide ((s.size : Int) > 3000) = false := decide_eq_false (by omega)
  obtain ⟨m, hm⟩ := hG.mx
  have HR := Lib.hid (ranges_q s n m w hm (by omega))
  have hwi := ranges_within s n
  obtain ⟨X, hX⟩ : ∃ X, X = (rangesV s n).1 := ⟨_, rfl⟩
  obtain ⟨er, her⟩ : ∃ er, er = (rangesV s n).2 := ⟨_, rfl⟩
  rw [← hX, ← her] at HR hwi
  clear hX her hm h hG
  rcases hwi with ⟨h1, rfl⟩ | ⟨rfl, h1, h2, h3⟩
  · have t1 : (er != 0) = true := bne_iff_ne.2 h1
    clear h1
    go_enter Tryd.func4, Tryd.ntmps4
    go_wp2_with (first | (go_at_call 9; refine HR.out.mono ?_; rintro e_ w1 ⟨⟨A, c, rfl, hC, hl⟩, hb1⟩; have HB1 := Lib.hid hb1; clear hb1 hC hl) | (go_at_call 8; refine (alive_q _ (HG.out.below HB1.out)).mono ?_; rintro e_ w2 ⟨rfl, hb2⟩; have HB2 := Lib.hid (below_step HB1.out hb2); clear hb2))
    go_ret
    exact ⟨rfl, HB2.out⟩
  · have t2 : decide ((X.length : Int) > 0) = true := decide_eq_true (by omega)
    have t3 : decide ((X.length : Int) ≤ 16) = true := decide_eq_true (by omega)
    have HIN := Lib.hid h3
    clear h3
    go_enter Tryd.func4, Tryd.ntmps4
    go_upto_region 6 with (go_at_call 9; refine HR.out.mono ?_; rintro e_ w1 ⟨⟨A, c, rfl, hC, hl⟩, hb1⟩; have HB1 := Lib.hid hb1; have HC := Lib.hid hC; clear hb1 hC hl)
    obtain ⟨W1, hW1⟩ : ∃ W, W = w1 := ⟨_, rfl⟩
    rw [← hW1] at HB1 HC ⊢
    clear hW1
    go_wp2
    go_loopg [29] (X.length + 1) (fun k v29 W => ∃ i : Nat, v29 = .int .i64 (i : Int) ∧ i ≤ X.length ∧ X.length + 1 ≤ k + i ∧ Hid (Below W1.heap.size W1 W))
    case atStart => exact ⟨0, rfl, by omega, by omega, Lib.hid (Below.refl _ _)⟩
    case round =>
      obtain ⟨i, rfl, hi, hk, HW⟩ := hrel
      rename World => Wo
      by_cases hlt : i < X.length
      · obtain ⟨ko, rfl⟩ : ∃ ko, gk = ko + 1 := ⟨gk - 1, by omega⟩
        have hk2 : X.length + 1 ≤ ko + (i + 1) := by omega
        have hi1 : i + 1 ≤ X.length := hlt
        have u0 : decide ((i : Int) < (X.length : Int)) = true := decide_eq_true (by omega)
        have q1 : 0 ≤ (i : Int) := by omega
        have q2 : (i : Int) < (X.length : Int) := by omega
        have HWX := Lib.hid (show wrap64 ((i : Int) + 1) = (i : Int) + 1 by unfold wrap64; omega)
        obtain ⟨ad, rfl, hx0, hx1⟩ := at_T31 (Kd.C_below HC.out HW.out) (i : Int) (by omega) (by omega)
        have hin := HIN.out (rd_T31 X (i : Int)) (rd_mem X i hlt)
        obtain ⟨x, hx⟩ : ∃ x, x = rd_T31 X (i : Int) := ⟨_, rfl⟩
        rw [← hx] at hin hx0 hx1
        rw [Int.toNat_natCast] at hx0 hx1
        obtain ⟨p1, p2, p3⟩ := hin
        have u1 : decide (x.f0 < 0) = false := decide_eq_false (by omega)
        have u2 : decide (x.f0 > x.f1) = false := decide_eq_false (by omega)
        have u3 : decide (x.f1 ≥ n) = false := decide_eq_false (by omega)
        have hadl := World.block_lt_of_cell? Wo _ hx0
        clear hlt hx p1 p2 p3
        go_wp2
        go_roundg ko
        case measure => omega
        case rel => exact ⟨i + 1, by first | exact congrArg (Value.int .i64) HWX.out | go_num, hi1, hk2, Lib.hid (below_alloc HW.out _)⟩
      · obtain rfl : i = X.length := by omega
        have u0 : decide ((X.length : Int) < (X.length : Int)) = false := decide_eq_false (by omega)
        have HB2 := Lib.hid (below_step HB1.out HW.out)
        clear hk hi hlt
        go_wp2_with (go_at_call 8; refine (alive_q _ (HG.out.below HB2.out)).mono ?_; rintro e_ w2 ⟨rfl, hb2⟩; have HB3 := Lib.hid (below_step HB2.out hb2); clear hb2)
        go_ret
        exact ⟨rfl, HB3.out⟩
end Go.Proofs.YtipmnfidkoaojaaDoor.Fb

