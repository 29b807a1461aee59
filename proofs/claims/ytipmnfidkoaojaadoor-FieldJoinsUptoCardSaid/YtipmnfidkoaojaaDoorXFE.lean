import Derived.Test.YtipmnfidkoaojaaDoorXFD

/- Ranges: its walk. -/
namespace Go.Proofs.YtipmnfidkoaojaaDoor.Fb
open Go.RowKit Go.Proofs.YtipmnfidkoaojaaDoorW.PrintWords Go.Proofs.YtipmnfidkoaojaaDoorW.PrintLast Go.Proofs.YtipmnfidkoaojaaDoorW.PrintMore Go.Proofs.YtipmnfidkoaojaaDoor.G
set_option linter.unusedVariables false
set_option linter.unusedSimpArgs false
set_option maxRecDepth 100000 in
set_option maxHeartbeats 4000000 in
theorem ranges_good (s U R : ByteArray) (ct : Bool) (n m : Int) (w : World) (hm : w.cell? ⟨0, 0, none⟩ = some (.int .i64 m)) (hR : R.size < 4294967281) (h1 : U ≠ s) (h2 : ¬ n < 0) (h3 : ¬ 1099511627776 < n)
    (hC : Calls Tryd.prog 16 #[.string s, .string ⟨#[61]⟩] w fun e w' => e = .returned (.tuple #[.string U, .string R, .bool ct]) ∧ ∃ k, w' = w.drewN k)
    (hS : ∀ W, Calls Tryd.prog 17 #[.string U] W fun e w' => e = .returned (.string BYTES) ∧ Below W.heap.size W w') (l : List S31) (er : Int) (hres : resR n (partsOf R) = (l, er)) :
    Calls Tryd.prog 9 #[.string s, .int .i64 n] w (RPost w.heap.size l er w) := by
  have HC := Lib.hid hC; have HS := Lib.hid hS; have HM := Lib.hid hm
  have HSP := Lib.hid (fun W h => split_q R m W h hR)
  have t0 : BYTES.toList = [98, 121, 116, 101, 115] := by unfold BYTES; rw [toL]
  have t1 : (U.toList == s.toList) = false := (Lib.bytes_beq_false_iff U s).2 h1
  have t2 : decide (n < 0) = false := decide_eq_false h2
  have t3 : decide (n > 1099511627776) = false := decide_eq_false h3
  have hPl := parts_len R
  obtain ⟨P, hP⟩ : ∃ P, P = partsOf R := ⟨_, rfl⟩
  have HPS : Hid (∀ p ∈ P, p.size < 4294967281) := Lib.hid (fun p hp => by rw [hP] at hp; have := split_small _ _ _ _ hp; omega)
  rw [← hP] at HSP hres hPl
  have hP33 : P.length ≤ 4294967290 := by omega
  have HRES := Lib.hid hres
  clear hC hS hm h1 hP hres hPl hR
  go_enter Tryd.func9, Tryd.ntmps9
  go_upto_region 2 with (go_at_call 16; refine HC.out.mono ?_; rintro e_ w1 ⟨rfl, hd⟩; have HB1 : Hid (Below w.heap.size w w1) := Lib.hid (drawn_below hd); clear hd)
  go_upto_region 4 with (go_at_call 17; refine (HS.out _).mono ?_; rintro e_ w2 ⟨rfl, hb⟩; have HB2 : Hid (Below w.heap.size w w2) := Lib.hid (below_step HB1.out hb); clear hb)
  go_upto_region 5 with (go_at_call 18; refine (HSP.out _ (pw_cell_below HB2.out HM.out)).mono ?_; rintro e_ w3 ⟨rfl, hc3, hb⟩; have HPk := Lib.hid hc3; have HB3 : Hid (Below w.heap.size w w3) := Lib.hid (below_step HB2.out hb); clear hb hc3)
  obtain ⟨G, hG⟩ : ∃ G, G = w2.heap.size := ⟨_, rfl⟩
  obtain ⟨Wk, hWk⟩ : ∃ W, W = w3 := ⟨_, rfl⟩
  rw [← hG] at HPk
  rw [← hWk] at HPk HB3
  rw [← hG, ← hWk]
  have HMk := Lib.hid (pw_cell_below HB3.out HM.out)
  clear hG hWk HB1 HB2 HC HS HSP HM t0 t1 t2 t3
  go_wp2
  go_loopg [10, 41] (P.length + 1) (fun k v10 v41 W => ∃ (i : Nat) (A10 : Option Addr) (c10 : Nat) (acc : List S31), v41 = .int .i64 (i : Int) ∧ v10 = .slice A10 acc.length c10 ∧ i ≤ P.length ∧ P.length + 1 ≤ k + i ∧ Hid (acc.length ≤ i) ∧ Hid (rl n (P.drop i) acc = rl n P []) ∧ Hid (Kd.R k31 31 W Wk.heap.size (fun k_ => Wk.heap.size ≤ k_) (.slice A10 acc.length c10) acc) ∧ Hid (Below Wk.heap.size Wk W))
  case atStart => exact ⟨0, none, 0, [], rfl, rfl, by omega, by omega, Lib.hid (Nat.le_refl _), Lib.hid rfl, Lib.hid (Kd.R_nil _ _ _ _ _), Lib.hid (Below.refl _ _)⟩
  case round =>
    obtain ⟨i, A10, c10, acc, rfl, rfl, hi, hk, HAL, HRL, HR, HW⟩ := hrel
    rename World => Wo
    by_cases hlt : i < P.length
    · obtain ⟨ko, rfl⟩ : ∃ ko, gk = ko + 1 := ⟨gk - 1, by omega⟩
      have hk2 : P.length + 1 ≤ ko + (i + 1) := by omega
      have hi1 : i + 1 ≤ P.length := hlt
      have t0 : decide ((i : Int) < (P.length : Int)) = true := decide_eq_true (by omega)
      have q1 : 0 ≤ (i : Int) := by omega
      have q2 : (i : Int) < (P.length : Int) := by omega
      have HWX := Lib.hid (show wrap64 ((i : Int) + 1) = (i : Int) + 1 by unfold wrap64; omega)
      obtain ⟨p, hp⟩ : ∃ p, P[i]? = some p := ⟨_, List.getElem?_eq_getElem hlt⟩
      have hcell : Wo.cell? ⟨G, i, none⟩ = some (.string p) := c_of (blk_bel HW.out HPk.out) i (by simp [hp])
      have hps := HPS.out p (List.mem_of_getElem? hp)
      have HST := Lib.hid (rl_step (n := n) hp acc)
      obtain ⟨T, hT⟩ : ∃ T : ByteArray, T = ⟨(Lib.trimS p.data.toList [32, 9]).toArray⟩ := ⟨_, rfl⟩
      have hTs : T.size < 4294967281 := by
        have h1 := trim_le p.data.toList [32, 9]
        have h2 : p.data.toList.length = p.size := by simp
        rw [hT]; show (Lib.trimS p.data.toList [32, 9]).toArray.size < _; rw [List.size_toArray]; omega
      have HTR : Hid (∀ W, Calls Tryd.prog 13 #[.string p, .string ⟨#[32, 9]⟩] W fun e w' => e = .returned (.string T) ∧ Below W.heap.size W w') := Lib.hid (fun W => by rw [hT]; exact Tryd.strings_Trim_gaps p W (by omega))
      have HPT := Lib.hid (fun (W : World) h => part_q T n W m h hTs (by omega) (by omega))
      have eT : T.data.toList = Lib.trimS p.data.toList [32, 9] := by rw [hT]
      rw [← eT] at HST
      obtain ⟨⟨f, t, ok⟩, hx⟩ : ∃ x, x = partV T.data.toList n := ⟨_, rfl⟩
      rw [← hx] at HST HPT
      simp only at HST HPT
      clear hlt hp hps hT hTs eT hx
      have HB0 := Lib.hid (below_step HB3.out HW.out)
      have HMo := Lib.hid (pw_cell_below HW.out HMk.out)
      cases ok with
      | false =>
        obtain ⟨rfl, rfl⟩ : l = [] ∧ er = 5 := by
          have h1 := HST.out
          rw [if_pos rfl, HRL.out] at h1
          have h2 := HRES.out
          unfold resR at h2
          rw [h1] at h2
          simp only [Prod.mk.injEq] at h2
          exact ⟨h2.1.symm, h2.2.symm⟩
        go_wp2_with (first | (go_at_call 13; refine (HTR.out _).mono ?_; rintro e_ w4 ⟨rfl, hb4⟩; have HB4 := Lib.hid (below_step HB0.out hb4); have HM4 := Lib.hid (pw_cell_below hb4 HMo.out); clear hb4) | (go_at_call 19; refine (HPT.out _ HM4.out).mono ?_; rintro e_ w5 ⟨rfl, hb5⟩; have HB5 := Lib.hid (below_step HB4.out hb5); clear hb5))
        go_ret2
        exact ⟨⟨none, 0, rfl, nil_C _, Nat.le_refl _⟩, below_alloc HB5.out _⟩
      | true =>
        replace HST := Lib.hid (HST.out.symm.trans HRL.out)
        have HST : Hid (rl n (P.drop (i + 1)) (if f ≤ t then acc ++ [⟨f, t⟩] else acc) = rl n P []) := Lib.hid (by have h1 := HST.out; rw [if_neg (by simp)] at h1; exact h1)
        go_upto_region 10 with (first | (go_at_call 13; refine (HTR.out _).mono ?_; rintro e_ w4 ⟨rfl, hb4⟩; have HB4 : Hid (Below Wo.heap.size Wo w4) := Lib.hid hb4; have HM4 := Lib.hid (pw_cell_below hb4 HMo.out); clear hb4) | (go_at_call 19; refine (HPT.out _ HM4.out).mono ?_; rintro e_ w5 ⟨rfl, hb5⟩; have HB5 := Lib.hid (below_step HB4.out hb5); clear hb5))
        obtain ⟨W6, hW6⟩ : ∃ W, W = w5.alloc (.cells #[.int .i64 f, .int .i64 t] 31) := ⟨_, rfl⟩
        rw [← hW6]
        have HD : Hid (W6.heap[w5.heap.size]? = some (.cells #[.int .i64 f, .int .i64 t] 31 (0, 0))) := Lib.hid (by rw [hW6]; exact heap_alloc_new _ _)
        have HB6 : Hid (Below Wo.heap.size Wo W6) := Lib.hid (by rw [hW6]; exact below_alloc HB5.out _)
        have l0 := c_of HD.out 0 (v := .int .i64 f) rfl
        have l1 := c_of HD.out 1 (v := .int .i64 t) rfl
        clear hW6 HB5 HB4 HM4 HD
        by_cases hft : f ≤ t
        · have t1 : decide (f ≤ t) = true := decide_eq_true hft
          have HST2 : Hid (rl n (P.drop (i + 1)) (acc ++ [⟨f, t⟩]) = rl n P []) := Lib.hid (by have h1 := HST.out; rw [if_pos hft] at h1; exact h1)
          have hln : (acc.length + 1) * 16 ≤ 140737488355328 := by have := HAL.out; omega
          clear hft HST
          go_wp2_with (at_builtin; refine Kd.R_append k31 (w0 := Wk) Wk.heap.size rfl (.tmp 59) (.tmp 61) 26 31 (.agg #[.int .i64 0, .int .i64 0]) 16 rfl Tryd.underlying26 info31 rfl (by decide) (by decide) (.slice A10 acc.length c10) acc ⟨f, t⟩ [.int .i64 f, .int .i64 t] (fun k_ => Wk.heap.size ≤ k_) (fun _ => False) rfl rfl (k31_mkM _ _ _ _) (fun _ h_ => h_.elim) (fun k_ hk_ => by have := HW.out.size; have := HB6.out.size; omega) (Kd.R_below HR.out HB6.out) (HW.out.trans (HB6.out.mono HW.out.size)) (by have := HW.out.size; have := HB6.out.size; omega) hln ?_; intro v7 w7 hR7 hB7 hg7 ha7; obtain ⟨A7, c7, rfl, hl7, -⟩ := Kd.R_reads hR7; have HR7 := Lib.hid hR7; have HB7 := Lib.hid hB7; clear hR7 hB7 hg7 ha7 hl7)
          go_roundg ko
          case measure => omega
          case rel => exact ⟨i + 1, A7, c7, acc ++ [⟨f, t⟩], by first | exact congrArg (Value.int .i64) HWX.out | go_num, by simp, hi1, hk2, Lib.hid (by have := HAL.out; simp; omega), HST2, HR7, HB7⟩
        · have t1 : decide (f ≤ t) = false := decide_eq_false hft
          have HST2 : Hid (rl n (P.drop (i + 1)) acc = rl n P []) := Lib.hid (by have h1 := HST.out; rw [if_neg hft] at h1; exact h1)
          clear hft HST
          go_wp2
          go_roundg ko
          case measure => omega
          case rel => exact ⟨i + 1, A10, c10, acc, by first | exact congrArg (Value.int .i64) HWX.out | go_num, rfl, hi1, hk2, Lib.hid (by have := HAL.out; omega), HST2, Lib.hid (Kd.R_below HR.out HB6.out), Lib.hid (HW.out.trans (HB6.out.mono HW.out.size))⟩
    · obtain rfl : i = P.length := by omega
      have t0 : decide ((P.length : Int) < (P.length : Int)) = false := decide_eq_false (by omega)
      have hrl : rl n P [] = some acc := by rw [← HRL.out, List.drop_length]; rfl
      have hres := HRES.out
      unfold resR at hres
      rw [hrl] at hres
      have HB0 := Lib.hid (below_step HB3.out HW.out)
      clear hk hi HRES HRL hrl
      by_cases h16 : 16 < P.length
      · simp only [if_pos h16, Prod.mk.injEq] at hres
        obtain ⟨rfl, rfl⟩ := hres
        have t1 : decide ((P.length : Int) > 16) = true := decide_eq_true (by omega)
        clear h16
        go_wp2
        go_ret2
        exact ⟨⟨none, 0, rfl, nil_C _, Nat.le_refl _⟩, HB0.out⟩
      · simp only [if_neg h16] at hres
        have t1 : decide ((P.length : Int) > 16) = false := decide_eq_false (by omega)
        clear h16
        by_cases he : acc.isEmpty
        · simp only [if_pos he, Prod.mk.injEq] at hres
          obtain ⟨rfl, rfl⟩ := hres
          obtain rfl : acc = [] := List.isEmpty_iff.1 he
          clear he
          go_wp2
          go_ret2
          exact ⟨⟨none, 0, rfl, nil_C _, Nat.le_refl _⟩, HB0.out⟩
        · simp only [he, Prod.mk.injEq] at hres
          obtain ⟨rfl, rfl⟩ := hres
          have t2 : ((l.length : Int) == 0) = false := by
            rw [beq_eq_false_iff_ne]
            intro h
            exact he (by rw [List.isEmpty_iff]; exact List.length_eq_zero_iff.1 (by omega))
          obtain ⟨A, c, e, hl, hC⟩ := Kd.R_reads HR.out
          simp only [Value.slice.injEq] at e
          obtain ⟨rfl, -, rfl⟩ := e
          have HC := Lib.hid hC
          clear he hC
          go_wp2
          go_ret2
          exact ⟨⟨_, _, rfl, HC.out, hl⟩, HB0.out⟩
theorem ranges_q (s : ByteArray) (n m : Int) (w : World) (hm : w.cell? ⟨0, 0, none⟩ = some (.int .i64 m)) (hs : s.size < 4294967281) : Calls Tryd.prog 9 #[.string s, .int .i64 n] w (RPost w.heap.size (rangesV s n).1 (rangesV s n).2 w) := by
  have hsz : s.data.toList.length = s.size := by simp
  have hC := Tryd.strings_Cut s ⟨#[61]⟩ m w hs hm
  rw [show (⟨#[61]⟩ : ByteArray).data.toList = [61] from rfl] at hC
  have hl := cut_len s.data.toList [61]
  unfold rangesV
  obtain ⟨⟨F, L, ct⟩, hc⟩ : ∃ c, c = Lib.cut s.data.toList [61] := ⟨_, rfl⟩
  rw [← hc] at hC hl ⊢
  simp only at hC hl ⊢
  have hFs : (⟨F.toArray⟩ : ByteArray).data.toList.length ≤ 140737488355328 := by have := hl.1; simp; omega
  have hS := fun W => Pl.small_at ⟨F.toArray⟩ W hFs
  have hR : (⟨L.toArray⟩ : ByteArray).size < 4294967281 := by show L.toArray.size < _; rw [List.size_toArray]; have := hl.2; omega
  by_cases h0 : Pl.lowS ⟨F.toArray⟩ ≠ BYTES
  · rw [if_pos (.inl h0)]; exact ranges_bad1 s _ _ _ ct n w h0 hC hS
  · have h0' : Pl.lowS ⟨F.toArray⟩ = BYTES := by by_cases e : Pl.lowS ⟨F.toArray⟩ = BYTES; exact e; exact absurd e h0
    by_cases h1 : (⟨F.toArray⟩ : ByteArray) = s
    · rw [if_pos (.inr (.inl h1))]; exact ranges_bad2 s _ _ _ ct n w h0' h1 hC hS
    · by_cases h2 : n < 0
      · rw [if_pos (.inr (.inr (.inl h2)))]; exact ranges_bad3 s _ _ _ ct n w h0' h1 h2 hC hS
      · by_cases h3 : 1099511627776 < n
        · rw [if_pos (.inr (.inr (.inr h3)))]; exact ranges_bad4 s _ _ _ ct n w h0' h1 h2 h3 hC hS
        · rw [if_neg (by rintro (h | h | h | h); exact h0 h; exact h1 h; exact h2 h; exact h3 h)]
          rw [h0'] at hS
          exact ranges_good s _ _ ct n m w hm hR h1 h2 h3 hC hS _ _ rfl
end Go.Proofs.YtipmnfidkoaojaaDoor.Fb

