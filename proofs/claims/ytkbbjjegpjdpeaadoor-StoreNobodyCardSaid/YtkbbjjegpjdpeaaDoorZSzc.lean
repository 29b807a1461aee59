import Derived.Test.YtkbbjjegpjdpeaaDoorZSzb
import Derived.Lib.SlBytesConst


/- (not yet a claim) StoreNobody's walk -/
namespace Go.Proofs.YtkbbjjegpjdpeaaDoor.S
open Go.RowKit Go.Proofs.YtkbbjjegpjdpeaaDoorW.PrintWords Go.Proofs.YtkbbjjegpjdpeaaDoorW.PrintLast Go.Proofs.YtkbbjjegpjdpeaaDoorW.PrintMore Go.Proofs.YtkbbjjegpjdpeaaDoor.G Go.Proofs.YtkbbjjegpjdpeaaDoor.V
set_option linter.unusedVariables false
set_option linter.unusedSimpArgs false
abbrev Zx : S41 := ⟨⟨⟨#[]⟩, ⟨#[]⟩, ⟨#[]⟩, ⟨#[]⟩, [], []⟩, ⟨0, [], []⟩, 0, 0⟩
theorem Zx_ex (w : World) (P : Nat → Prop) : Ex w P Zx R0 :=
  ⟨Nat.le_refl _, C_none _ _, fun h => absurd h (by simp), Nat.le_refl _, C_none _ _, fun h => absurd h (by simp), Nat.le_refl _, C_none _ _, fun h => absurd h (by simp), Nat.le_refl _, C_none _ _, fun h => absurd h (by simp)⟩
theorem Zx_sm : Sm Zx := ⟨(by show 0 < 268435456; decide), (by show 0 < 268435456; decide), (by show 0 < 268435456; decide), (by show wt ([] : List S63) < 268435456; decide), (by show 0 < 268435456; decide), (by show wt ([] : List S63) < 268435456; decide), (by show 0 < 268435456; decide)⟩
theorem one_zero (w : World) : Calls Tryd.prog 16 #[.agg (Vx Zx R0), .agg (Vx Zx R0)] w fun e w' => e = .returned (.bool true) ∧ Below w.heap.size w w' := by
  have h := one_calls w (fun _ => True) (fun _ => True) Zx Zx R0 R0 (Zx_ex _ _) (Zx_ex _ _) Zx_sm
  rwa [oneB_refl] at h

structure W0 (w : World) (k : Int) (x : S41) (r : Rf) (W : World) : Prop where
  below : Below w.heap.size w W
  act : W.heap[w.heap.size]? = some (.cells #[.int .u8 k, .string x.f0.f0, .string x.f0.f1, .string x.f0.f2, .string x.f0.f3, .slice r.A4 x.f0.f4.length r.c4, .slice r.A5 x.f0.f5.length r.c5, .int .i64 x.f1.f0, .slice r.A7 x.f1.f1.length r.c7, .slice r.A8 x.f1.f2.length r.c8, .int .i64 x.f2, .int .i64 x.f3] 37 (0, 0))
  zero : W.heap[w.heap.size + 1]? = some (.cells #[.bool false, .int .i64 0, .int .i64 0, .pointer none, .pointer none] 56 (0, 0))
  two : W.heap[w.heap.size + 2]? = some (.cells #[.pointer none, .pointer (some ⟨w.heap.size + 1, 0, none⟩)] 23 (0, 0))
theorem W0.grow {w W W' : World} {k : Int} {x : S41} {r : Rf} (h : W0 w k x r W) (hb : Below W.heap.size W W') : W0 w k x r W' :=
  ⟨below_step h.below hb, blk_bel hb h.act, blk_bel hb h.zero, blk_bel hb h.two⟩
set_option maxRecDepth 100000 in
set_option maxHeartbeats 8000000 in
theorem nobody_calls (w : World) (k : Int) (x : S41) (r : Rf) (hx : Ex w (fun k => k < w.heap.size) x r) :
    Calls Tryd.prog 7 #[.agg #[.int .u8 k, .string x.f0.f0, .string x.f0.f1, .string x.f0.f2, .string x.f0.f3, .slice r.A4 x.f0.f4.length r.c4, .slice r.A5 x.f0.f5.length r.c5, .int .i64 x.f1.f0, .slice r.A7 x.f1.f1.length r.c7, .slice r.A8 x.f1.f2.length r.c8, .int .i64 x.f2, .int .i64 x.f3]] w fun e w' => e = .returned (.bool true) ∧ Below w.heap.size w w' := by
  have HX := Lib.hid hx
  have HAL := Lib.hid alive_calls
  clear hx
  go_enter Tryd.func7, Tryd.ntmps7
  go_wp2
  obtain ⟨W0_, hW0⟩ : ∃ W, W = (((w.alloc (.cells #[.int .u8 k, .string x.f0.f0, .string x.f0.f1, .string x.f0.f2, .string x.f0.f3, .slice r.A4 x.f0.f4.length r.c4, .slice r.A5 x.f0.f5.length r.c5, .int .i64 x.f1.f0, .slice r.A7 x.f1.f1.length r.c7, .slice r.A8 x.f1.f2.length r.c8, .int .i64 x.f2, .int .i64 x.f3] 37)).alloc (.cells #[.bool false, .int .i64 0, .int .i64 0, .pointer none, .pointer none] 56)).alloc (.cells #[.pointer none, .pointer (some ⟨w.heap.size + 1, 0, none⟩)] 23)) := ⟨_, rfl⟩
  rw [← hW0]
  have HW0 : Hid (W0 w k x r W0_) := Lib.hid (by
    rw [hW0]
    refine ⟨below_alloc (below_alloc (below_alloc (Below.refl _ _) _) _) _, ?_, ?_, ?_⟩
    · rw [heap_alloc_old _ _ _ (by simp <;> omega), heap_alloc_old _ _ _ (by simp <;> omega)]; exact heap_alloc_new _ _
    · rw [heap_alloc_old _ _ _ (by simp <;> omega)]
      have := heap_alloc_new (w.alloc (.cells #[.int .u8 k, .string x.f0.f0, .string x.f0.f1, .string x.f0.f2, .string x.f0.f3, .slice r.A4 x.f0.f4.length r.c4, .slice r.A5 x.f0.f5.length r.c5, .int .i64 x.f1.f0, .slice r.A7 x.f1.f1.length r.c7, .slice r.A8 x.f1.f2.length r.c8, .int .i64 x.f2, .int .i64 x.f3] 37)) (.cells #[.bool false, .int .i64 0, .int .i64 0, .pointer none, .pointer none] 56)
      rwa [World.size_alloc] at this
    · have := heap_alloc_new ((w.alloc (.cells #[.int .u8 k, .string x.f0.f0, .string x.f0.f1, .string x.f0.f2, .string x.f0.f3, .slice r.A4 x.f0.f4.length r.c4, .slice r.A5 x.f0.f5.length r.c5, .int .i64 x.f1.f0, .slice r.A7 x.f1.f1.length r.c7, .slice r.A8 x.f1.f2.length r.c8, .int .i64 x.f2, .int .i64 x.f3] 37)).alloc (.cells #[.bool false, .int .i64 0, .int .i64 0, .pointer none, .pointer none] 56)) (.cells #[.pointer none, .pointer (some ⟨w.heap.size + 1, 0, none⟩)] 23)
      rwa [World.size_alloc, World.size_alloc] at this)
  clear hW0
  go_loopg [17] 3 (fun kk v17 W => ∃ i : Int, (i = 0 ∧ 2 ≤ kk ∨ i = 1 ∧ 1 ≤ kk ∨ i = 2) ∧ v17 = .int .i64 i ∧ Hid (W0 w k x r W))
  case atStart => exact ⟨0, by omega, rfl, HW0⟩
  case round =>
    obtain ⟨i, hi, rfl, HW⟩ := hrel
    rename World => Wo
    rcases hi with hi | hi | rfl
    · obtain ⟨rfl, hgk⟩ := hi
      obtain ⟨ko, rfl⟩ : ∃ ko, gk = ko + 1 := ⟨gk - 1, by omega⟩
      have hp := c_of HW.out.two 0 (v := .pointer none) rfl
      have HNo : Hid (∀ W, Below Wo.heap.size Wo W → No W none) := Lib.hid (fun W hb W2 hb2 => ok_nil W2)
      have HXo := Lib.hid ((HX.out.keep (fun k hk => HW.out.below.block k hk)))
      have a0 := c_of HW.out.act 1 (v := .string x.f0.f0) rfl; have a1 := c_of HW.out.act 2 (v := .string x.f0.f1) rfl; have a2 := c_of HW.out.act 3 (v := .string x.f0.f2) rfl; have a3 := c_of HW.out.act 4 (v := .string x.f0.f3) rfl; have a4 := c_of HW.out.act 5 (v := .slice r.A4 x.f0.f4.length r.c4) rfl; have a5 := c_of HW.out.act 6 (v := .slice r.A5 x.f0.f5.length r.c5) rfl; have a6 := c_of HW.out.act 7 (v := .int .i64 x.f1.f0) rfl; have a7 := c_of HW.out.act 8 (v := .slice r.A7 x.f1.f1.length r.c7) rfl; have a8 := c_of HW.out.act 9 (v := .slice r.A8 x.f1.f2.length r.c8) rfl; have a9 := c_of HW.out.act 10 (v := .int .i64 x.f2) rfl; have a10 := c_of HW.out.act 11 (v := .int .i64 x.f3) rfl
      go_wp2_with (first
        | (go_at_call 15; refine (nget Wo none x.f0 r.A4 r.c4 r.A5 r.c5 (HNo.out _ (Below.refl _ _))).mono ?_; rintro e w5 ⟨rfl, hb5⟩; have HB5 := Lib.hid hb5; have HA5 := Lib.hid (blk_bel hb5 HW.out.act); have hlt5 := blk_lt' HA5.out; clear hb5 a0 a1 a2 a3 a4 a5 a6 a7 a8 a9 a10; have a0 := c_of HA5.out 1 (v := .string x.f0.f0) rfl; have a1 := c_of HA5.out 2 (v := .string x.f0.f1) rfl; have a2 := c_of HA5.out 3 (v := .string x.f0.f2) rfl; have a3 := c_of HA5.out 4 (v := .string x.f0.f3) rfl; have a4 := c_of HA5.out 5 (v := .slice r.A4 x.f0.f4.length r.c4) rfl; have a5 := c_of HA5.out 6 (v := .slice r.A5 x.f0.f5.length r.c5) rfl; have a6 := c_of HA5.out 7 (v := .int .i64 x.f1.f0) rfl; have a7 := c_of HA5.out 8 (v := .slice r.A7 x.f1.f1.length r.c7) rfl; have a8 := c_of HA5.out 9 (v := .slice r.A8 x.f1.f2.length r.c8) rfl; have a9 := c_of HA5.out 10 (v := .int .i64 x.f2) rfl; have a10 := c_of HA5.out 11 (v := .int .i64 x.f3) rfl)
        | (go_at_call 22; refine (theirs_calls _ x r).mono ?_; rintro e w6 ⟨rfl, hb6⟩; have HB6 : Hid (Below w5.heap.size w5 w6) := Lib.hid (below_step (below_alloc (Below.refl _ _) _) hb6); have HZ6 : Hid (w6.heap[w5.heap.size]? = some (.cells #[.string ⟨#[]⟩, .string ⟨#[]⟩, .string ⟨#[]⟩, .string ⟨#[]⟩, .slice none 0 0, .slice none 0 0, .int .i64 0, .slice none 0 0, .slice none 0 0, .int .i64 0, .int .i64 0] 41 (0, 0))) := Lib.hid (blk_bel hb6 (heap_alloc_new w5 _)); clear hb6)
        | (go_at_call 21; refine (nput w6 none x r (HNo.out _ (below_step HB5.out HB6.out))).mono ?_; rintro e w7 ⟨rfl, hb7⟩; have HB7 := Lib.hid hb7; have HZ7 := Lib.hid (blk_bel hb7 HZ6.out); clear hb7; have z0 := c_of HZ7.out 0 (v := .string ⟨#[]⟩) rfl; have z1 := c_of HZ7.out 1 (v := .string ⟨#[]⟩) rfl; have z2 := c_of HZ7.out 2 (v := .string ⟨#[]⟩) rfl; have z3 := c_of HZ7.out 3 (v := .string ⟨#[]⟩) rfl; have z4 := c_of HZ7.out 4 (v := .slice none 0 0) rfl; have z5 := c_of HZ7.out 5 (v := .slice none 0 0) rfl; have z6 := c_of HZ7.out 6 (v := .int .i64 0) rfl; have z7 := c_of HZ7.out 7 (v := .slice none 0 0) rfl; have z8 := c_of HZ7.out 8 (v := .slice none 0 0) rfl; have z9 := c_of HZ7.out 9 (v := .int .i64 0) rfl; have z10 := c_of HZ7.out 10 (v := .int .i64 0) rfl)
        | (go_at_call 13; refine (ours_calls _ Zx R0).mono ?_; rintro e w8 ⟨rfl, hb8⟩; have HB8 := Lib.hid hb8; clear hb8)
        | (go_at_call 16; refine (one_zero _).mono ?_; rintro e w9 ⟨rfl, hb9⟩; have HB9 : Hid (Below Wo.heap.size Wo w9) := Lib.hid (below_step (below_step (below_step (below_step HB5.out HB6.out) HB7.out) HB8.out) hb9); clear hb9)
        | (go_at_call 23; refine (purge_no w9 none _ _ _ (HNo.out _ HB9.out)).mono ?_; rintro e wa ⟨rfl, hba⟩; have HBa : Hid (Below Wo.heap.size Wo wa) := Lib.hid (below_step HB9.out hba); clear hba)
        | (go_at_call 24; refine (prefix__no wa none _ _ _ (HNo.out _ HBa.out)).mono ?_; rintro e wb ⟨rfl, hbb⟩; have HBb : Hid (Below Wo.heap.size Wo wb) := Lib.hid (below_step HBa.out hbb); clear hbb)
        | (go_at_call 14; refine (used_no wb none (HNo.out _ HBb.out _ (Below.refl _ _))).mono ?_; rintro e w' ⟨rfl, h_⟩; obtain rfl := h_.symm)
        | (go_at_call 11; refine (nlist wb none (HNo.out _ HBb.out)).mono ?_; rintro e wc ⟨rfl, hbc⟩; have HBc : Hid (Below Wo.heap.size Wo wc) := Lib.hid (below_step HBb.out hbc); clear hbc))
      go_roundg ko
      case measure => omega
      case rel => exact ⟨1, by omega, by first | rfl | go_num, Lib.hid (HW.out.grow HBc.out)⟩
    · obtain ⟨rfl, hgk⟩ := hi
      obtain ⟨ko, rfl⟩ : ∃ ko, gk = ko + 1 := ⟨gk - 1, by omega⟩
      have hp := c_of HW.out.two 1 (v := .pointer (some ⟨w.heap.size + 1, 0, none⟩)) rfl
      have HNo : Hid (∀ W, Below Wo.heap.size Wo W → No W (some ⟨w.heap.size + 1, 0, none⟩)) := Lib.hid (fun W hb W2 hb2 => ok_zero W2 _ (c_of (blk_bel hb2 (blk_bel hb HW.out.zero)) 0 (v := .bool false) rfl))
      have HXo := Lib.hid ((HX.out.keep (fun k hk => HW.out.below.block k hk)))
      have a0 := c_of HW.out.act 1 (v := .string x.f0.f0) rfl; have a1 := c_of HW.out.act 2 (v := .string x.f0.f1) rfl; have a2 := c_of HW.out.act 3 (v := .string x.f0.f2) rfl; have a3 := c_of HW.out.act 4 (v := .string x.f0.f3) rfl; have a4 := c_of HW.out.act 5 (v := .slice r.A4 x.f0.f4.length r.c4) rfl; have a5 := c_of HW.out.act 6 (v := .slice r.A5 x.f0.f5.length r.c5) rfl; have a6 := c_of HW.out.act 7 (v := .int .i64 x.f1.f0) rfl; have a7 := c_of HW.out.act 8 (v := .slice r.A7 x.f1.f1.length r.c7) rfl; have a8 := c_of HW.out.act 9 (v := .slice r.A8 x.f1.f2.length r.c8) rfl; have a9 := c_of HW.out.act 10 (v := .int .i64 x.f2) rfl; have a10 := c_of HW.out.act 11 (v := .int .i64 x.f3) rfl
      go_wp2_with (first
        | (go_at_call 15; refine (nget Wo (some ⟨w.heap.size + 1, 0, none⟩) x.f0 r.A4 r.c4 r.A5 r.c5 (HNo.out _ (Below.refl _ _))).mono ?_; rintro e w5 ⟨rfl, hb5⟩; have HB5 := Lib.hid hb5; have HA5 := Lib.hid (blk_bel hb5 HW.out.act); have hlt5 := blk_lt' HA5.out; clear hb5 a0 a1 a2 a3 a4 a5 a6 a7 a8 a9 a10; have a0 := c_of HA5.out 1 (v := .string x.f0.f0) rfl; have a1 := c_of HA5.out 2 (v := .string x.f0.f1) rfl; have a2 := c_of HA5.out 3 (v := .string x.f0.f2) rfl; have a3 := c_of HA5.out 4 (v := .string x.f0.f3) rfl; have a4 := c_of HA5.out 5 (v := .slice r.A4 x.f0.f4.length r.c4) rfl; have a5 := c_of HA5.out 6 (v := .slice r.A5 x.f0.f5.length r.c5) rfl; have a6 := c_of HA5.out 7 (v := .int .i64 x.f1.f0) rfl; have a7 := c_of HA5.out 8 (v := .slice r.A7 x.f1.f1.length r.c7) rfl; have a8 := c_of HA5.out 9 (v := .slice r.A8 x.f1.f2.length r.c8) rfl; have a9 := c_of HA5.out 10 (v := .int .i64 x.f2) rfl; have a10 := c_of HA5.out 11 (v := .int .i64 x.f3) rfl)
        | (go_at_call 22; refine (theirs_calls _ x r).mono ?_; rintro e w6 ⟨rfl, hb6⟩; have HB6 : Hid (Below w5.heap.size w5 w6) := Lib.hid (below_step (below_alloc (Below.refl _ _) _) hb6); have HZ6 : Hid (w6.heap[w5.heap.size]? = some (.cells #[.string ⟨#[]⟩, .string ⟨#[]⟩, .string ⟨#[]⟩, .string ⟨#[]⟩, .slice none 0 0, .slice none 0 0, .int .i64 0, .slice none 0 0, .slice none 0 0, .int .i64 0, .int .i64 0] 41 (0, 0))) := Lib.hid (blk_bel hb6 (heap_alloc_new w5 _)); clear hb6)
        | (go_at_call 21; refine (nput w6 (some ⟨w.heap.size + 1, 0, none⟩) x r (HNo.out _ (below_step HB5.out HB6.out))).mono ?_; rintro e w7 ⟨rfl, hb7⟩; have HB7 := Lib.hid hb7; have HZ7 := Lib.hid (blk_bel hb7 HZ6.out); clear hb7; have z0 := c_of HZ7.out 0 (v := .string ⟨#[]⟩) rfl; have z1 := c_of HZ7.out 1 (v := .string ⟨#[]⟩) rfl; have z2 := c_of HZ7.out 2 (v := .string ⟨#[]⟩) rfl; have z3 := c_of HZ7.out 3 (v := .string ⟨#[]⟩) rfl; have z4 := c_of HZ7.out 4 (v := .slice none 0 0) rfl; have z5 := c_of HZ7.out 5 (v := .slice none 0 0) rfl; have z6 := c_of HZ7.out 6 (v := .int .i64 0) rfl; have z7 := c_of HZ7.out 7 (v := .slice none 0 0) rfl; have z8 := c_of HZ7.out 8 (v := .slice none 0 0) rfl; have z9 := c_of HZ7.out 9 (v := .int .i64 0) rfl; have z10 := c_of HZ7.out 10 (v := .int .i64 0) rfl)
        | (go_at_call 13; refine (ours_calls _ Zx R0).mono ?_; rintro e w8 ⟨rfl, hb8⟩; have HB8 := Lib.hid hb8; clear hb8)
        | (go_at_call 16; refine (one_zero _).mono ?_; rintro e w9 ⟨rfl, hb9⟩; have HB9 : Hid (Below Wo.heap.size Wo w9) := Lib.hid (below_step (below_step (below_step (below_step HB5.out HB6.out) HB7.out) HB8.out) hb9); clear hb9)
        | (go_at_call 23; refine (purge_no w9 (some ⟨w.heap.size + 1, 0, none⟩) _ _ _ (HNo.out _ HB9.out)).mono ?_; rintro e wa ⟨rfl, hba⟩; have HBa : Hid (Below Wo.heap.size Wo wa) := Lib.hid (below_step HB9.out hba); clear hba)
        | (go_at_call 24; refine (prefix__no wa (some ⟨w.heap.size + 1, 0, none⟩) _ _ _ (HNo.out _ HBa.out)).mono ?_; rintro e wb ⟨rfl, hbb⟩; have HBb : Hid (Below Wo.heap.size Wo wb) := Lib.hid (below_step HBa.out hbb); clear hbb)
        | (go_at_call 14; refine (used_no wb (some ⟨w.heap.size + 1, 0, none⟩) (HNo.out _ HBb.out _ (Below.refl _ _))).mono ?_; rintro e w' ⟨rfl, h_⟩; obtain rfl := h_.symm)
        | (go_at_call 11; refine (nlist wb (some ⟨w.heap.size + 1, 0, none⟩) (HNo.out _ HBb.out)).mono ?_; rintro e wc ⟨rfl, hbc⟩; have HBc : Hid (Below Wo.heap.size Wo wc) := Lib.hid (below_step HBb.out hbc); clear hbc))
      go_roundg ko
      case measure => omega
      case rel => exact ⟨2, by omega, by first | rfl | go_num, Lib.hid (HW.out.grow HBc.out)⟩
    · clear HW0
      have HNW := Lib.hid (new_yes Wo 65536 (by decide) (by decide))
      go_upto_region 12 with (first
        | (go_at_call 8; refine HNW.out.mono ?_; rintro e w' ⟨rfl, h_⟩; obtain rfl := h_.symm)
        | (go_at_call 25; refine (of_calls _ _).mono ?_; rintro e w1 ⟨rfl, hb1⟩; have HB1 := Lib.hid hb1; clear hb1))
      obtain ⟨W2, hW2⟩ : ∃ W, W = w1.alloc (.cells (Vx (ofX ⟨#[47]⟩) R0) 35) := ⟨_, rfl⟩
      rw [← hW2]
      have h2 : W2.heap[w1.heap.size]? = some (.cells (Vx (ofX ⟨#[47]⟩) R0) 35 (0, 0)) := by rw [hW2]; exact heap_alloc_new _ _
      have hlt2 := blk_lt' h2
      have HB2 : Hid (Below w1.heap.size w1 W2) := Lib.hid (by rw [hW2]; exact below_alloc (Below.refl _ _) _)
      clear hW2
      have H2 := Lib.hid h2
      have d8 := c_of h2 8 (v := .slice none 0 0) rfl
      have d7 := c_of h2 7 (v := .slice none 0 0) rfl
      have d4 := c_of h2 4 (v := .slice none 0 0) rfl
      have f8 := fr_of h2 8
      have f7 := fr_of h2 7
      have f4 := fr_of h2 4
      clear h2
      have kc := fun (C : Array Value) (n c : Nat) => Lib.run_convert_bytes_const (P := Tryd.prog) W2 29 5 C n c Tryd.underlying29 Tryd.underlying5
      clear d7 f7 d4 f4
      go_upto_region 13 with fail
      clear d8 f8 kc
      obtain ⟨W3, hW3⟩ : ∃ W, W = ((W2.setCell ⟨w1.heap.size, 8, none⟩ (.slice (some ⟨W2.heap.size, 0, none⟩) 4 4)).alloc (.cells #[.int .u8 98, .int .u8 111, .int .u8 100, .int .u8 121] 5 (4, 5))) := ⟨_, rfl⟩
      rw [← hW3]
      have HS3 : Hid (W3.heap.size = W2.heap.size + 1) := Lib.hid (by rw [hW3]; simp)
      have H3 : Hid (W3.heap[w1.heap.size]? = some (.cells #[.string ⟨#[71, 69, 84]⟩, .string ⟨#[104, 116, 116, 112, 115]⟩, .string ⟨#[97]⟩, .string ⟨#[47]⟩, .slice none 0 0, .slice none 0 0, .int .i64 200, .slice none 0 0, .slice (some ⟨W2.heap.size, 0, none⟩) 4 4, .int .i64 0, .int .i64 0] 35 (0, 0))) := Lib.hid (by rw [hW3, heap_alloc_old _ _ _ (by simp; omega)]; exact set_same H2.out rfl)
      have HB3_3 : Hid (W3.heap[W2.heap.size]? = some (.cells #[.int .u8 98, .int .u8 111, .int .u8 100, .int .u8 121] 5 (4, 5))) := Lib.hid (by rw [hW3]; have := heap_alloc_new (W2.setCell ⟨w1.heap.size, 8, none⟩ (.slice (some ⟨W2.heap.size, 0, none⟩) 4 4)) (.cells #[.int .u8 98, .int .u8 111, .int .u8 100, .int .u8 121] 5 (4, 5)); rwa [World.size_setCell] at this)
      have HB3 : Hid (Below w1.heap.size w1 W3) := Lib.hid (by rw [hW3]; exact below_alloc (HB2.out.setCell (p := ⟨w1.heap.size, 8, none⟩) (Nat.le_refl _) _) _)
      clear hW3
      have d7 := c_of H3.out 7 (v := .slice none 0 0) rfl
      have f7 := fr_of H3.out 7
      have hlt3 := blk_lt' H3.out
      go_upto_region 14 with fail
      clear d7 f7
      obtain ⟨W4, hW4⟩ : ∃ W, W = ((W3.setCell ⟨w1.heap.size, 7, none⟩ (.slice (some ⟨W3.heap.size, 0, none⟩) 1 1)).alloc (.cells #[.string ⟨#[97]⟩, .string ⟨#[98]⟩] 63)) := ⟨_, rfl⟩
      rw [← hW4]
      have HS4 : Hid (W4.heap.size = W3.heap.size + 1) := Lib.hid (by rw [hW4]; simp)
      have H4 : Hid (W4.heap[w1.heap.size]? = some (.cells #[.string ⟨#[71, 69, 84]⟩, .string ⟨#[104, 116, 116, 112, 115]⟩, .string ⟨#[97]⟩, .string ⟨#[47]⟩, .slice none 0 0, .slice none 0 0, .int .i64 200, .slice (some ⟨W3.heap.size, 0, none⟩) 1 1, .slice (some ⟨W2.heap.size, 0, none⟩) 4 4, .int .i64 0, .int .i64 0] 35 (0, 0))) := Lib.hid (by rw [hW4, heap_alloc_old _ _ _ (by simp; omega)]; exact set_same H3.out rfl)
      have HB4_4 : Hid (W4.heap[W3.heap.size]? = some (.cells #[.string ⟨#[97]⟩, .string ⟨#[98]⟩] 63 (0, 0))) := Lib.hid (by rw [hW4]; have := heap_alloc_new (W3.setCell ⟨w1.heap.size, 7, none⟩ (.slice (some ⟨W3.heap.size, 0, none⟩) 1 1)) (.cells #[.string ⟨#[97]⟩, .string ⟨#[98]⟩] 63); rwa [World.size_setCell] at this)
      have HB3_4 : Hid (W4.heap[W2.heap.size]? = some (.cells #[.int .u8 98, .int .u8 111, .int .u8 100, .int .u8 121] 5 (4, 5))) := Lib.hid (by have hl := blk_lt' HB3_3.out; rw [hW4, heap_alloc_old _ _ _ (by simp; omega)]; exact set_other HB3_3.out (by omega))
      have HB4 : Hid (Below w1.heap.size w1 W4) := Lib.hid (by rw [hW4]; exact below_alloc (HB3.out.setCell (p := ⟨w1.heap.size, 7, none⟩) (Nat.le_refl _) _) _)
      clear hW4
      have d4 := c_of H4.out 4 (v := .slice none 0 0) rfl
      have f4 := fr_of H4.out 4
      have hlt4 := blk_lt' H4.out
      go_upto_region 15 with fail
      clear d4 f4
      obtain ⟨W5, hW5⟩ : ∃ W, W = ((W4.setCell ⟨w1.heap.size, 4, none⟩ (.slice (some ⟨W4.heap.size, 0, none⟩) 1 1)).alloc (.cells #[.string ⟨#[99]⟩, .string ⟨#[100]⟩] 63)) := ⟨_, rfl⟩
      rw [← hW5]
      have HS5 : Hid (W5.heap.size = W4.heap.size + 1) := Lib.hid (by rw [hW5]; simp)
      have H5 : Hid (W5.heap[w1.heap.size]? = some (.cells #[.string ⟨#[71, 69, 84]⟩, .string ⟨#[104, 116, 116, 112, 115]⟩, .string ⟨#[97]⟩, .string ⟨#[47]⟩, .slice (some ⟨W4.heap.size, 0, none⟩) 1 1, .slice none 0 0, .int .i64 200, .slice (some ⟨W3.heap.size, 0, none⟩) 1 1, .slice (some ⟨W2.heap.size, 0, none⟩) 4 4, .int .i64 0, .int .i64 0] 35 (0, 0))) := Lib.hid (by rw [hW5, heap_alloc_old _ _ _ (by simp; omega)]; exact set_same H4.out rfl)
      have HB5_5 : Hid (W5.heap[W4.heap.size]? = some (.cells #[.string ⟨#[99]⟩, .string ⟨#[100]⟩] 63 (0, 0))) := Lib.hid (by rw [hW5]; have := heap_alloc_new (W4.setCell ⟨w1.heap.size, 4, none⟩ (.slice (some ⟨W4.heap.size, 0, none⟩) 1 1)) (.cells #[.string ⟨#[99]⟩, .string ⟨#[100]⟩] 63); rwa [World.size_setCell] at this)
      have HB4_5 : Hid (W5.heap[W3.heap.size]? = some (.cells #[.string ⟨#[97]⟩, .string ⟨#[98]⟩] 63 (0, 0))) := Lib.hid (by have hl := blk_lt' HB4_4.out; rw [hW5, heap_alloc_old _ _ _ (by simp; omega)]; exact set_other HB4_4.out (by omega))
      have HB3_5 : Hid (W5.heap[W2.heap.size]? = some (.cells #[.int .u8 98, .int .u8 111, .int .u8 100, .int .u8 121] 5 (4, 5))) := Lib.hid (by have hl := blk_lt' HB3_4.out; rw [hW5, heap_alloc_old _ _ _ (by simp; omega)]; exact set_other HB3_4.out (by omega))
      have HB5 : Hid (Below w1.heap.size w1 W5) := Lib.hid (by rw [hW5]; exact below_alloc (HB4.out.setCell (p := ⟨w1.heap.size, 4, none⟩) (Nat.le_refl _) _) _)
      clear hW5
      have hg0 : Wo.heap.size < w1.heap.size := by have := HB1.out.size; simp at this; omega
      have hlt5 : W2.heap.size < W3.heap.size := by have := HS3.out; omega
      have hlt6 : W3.heap.size < W4.heap.size := by have := HS4.out; omega
      have hlt7 : W4.heap.size < W5.heap.size := by have := HS5.out; omega
      have HI5 : Hid (Inv W5 Wo.heap.size Wo.heap.size 65536 []) := Lib.hid (((inv_new Wo 65536 (by decide) (by decide)).grow HB1.out).grow HB5.out)
      have mn : ∀ k, k ≠ Wo.heap.size → ¬ Mine Wo.heap.size [] k := by
        rintro k hk (h | ⟨d, hd, _⟩)
        · exact hk h
        · cases hd
      have MN := Lib.hid mn
      clear mn
      have HE5 : Hid (Ex W5 (fun k => ¬ Mine Wo.heap.size [] k) yx (yr W2.heap.size W3.heap.size W4.heap.size)) := Lib.hid (yx_ex HB3_5.out HB4_5.out HB5_5.out (MN.out _ (by omega)) (MN.out _ (by omega)) (MN.out _ (by omega)))
      have hq5 : w1.heap.size < W5.heap.size := by omega
      have e0 := c_of H5.out 0 (v := .string ⟨#[71, 69, 84]⟩) rfl
      have e1 := c_of H5.out 1 (v := .string ⟨#[104, 116, 116, 112, 115]⟩) rfl
      have e2 := c_of H5.out 2 (v := .string ⟨#[97]⟩) rfl
      have e3 := c_of H5.out 3 (v := .string ⟨#[47]⟩) rfl
      have e4 := c_of H5.out 4 (v := .slice (some ⟨W4.heap.size, 0, none⟩) 1 1) rfl
      have e5 := c_of H5.out 5 (v := .slice none 0 0) rfl
      have e6 := c_of H5.out 6 (v := .int .i64 200) rfl
      have e7 := c_of H5.out 7 (v := .slice (some ⟨W3.heap.size, 0, none⟩) 1 1) rfl
      have e8 := c_of H5.out 8 (v := .slice (some ⟨W2.heap.size, 0, none⟩) 4 4) rfl
      have e9 := c_of H5.out 9 (v := .int .i64 0) rfl
      have e10 := c_of H5.out 10 (v := .int .i64 0) rfl
      go_upto_region 16 with (first
        | (go_at_call 22; refine (theirs_calls _ yx (yr W2.heap.size W3.heap.size W4.heap.size)).mono ?_; rintro e w6 ⟨rfl, hb6⟩; have HB6 := Lib.hid hb6; clear hb6)
        | (go_at_call 21; refine (inv_put2 (HI5.out.grow HB6.out) (by have := HB6.out.size; omega) (HE5.out.below HB6.out) yx_sm).mono ?_; rintro e w7 ⟨ho7, l', c7, rfl, hi7, hp7, hn7⟩; obtain ⟨d, rfl, hdx⟩ := put_yx hp7; have HO7 := Lib.hid ho7; have HI7 := Lib.hid hi7; have HDX := Lib.hid hdx; have HN7 := Lib.hid hn7; clear ho7 hi7 hp7 hdx hn7))
      clear e0 e1 e2 e3 e4 e5 e6 e7 e8 e9 e10
      have hs6 := HB6.out.size
      have k7 : ∀ (b : Nat) (o : Obj), W5.heap[b]? = some o → b ≠ Wo.heap.size → w7.heap[b]? = some o := fun b o h hb => (HO7.out.block b (by have := blk_lt' h; omega) (MN.out b hb)).trans (blk_bel HB6.out h)
      have H7 := Lib.hid (k7 _ _ H5.out (by omega))
      have HB3_7 := Lib.hid (k7 _ _ HB3_5.out (by omega))
      have HB4_7 := Lib.hid (k7 _ _ HB4_5.out (by omega))
      have HB5_7 := Lib.hid (k7 _ _ HB5_5.out (by omega))
      have HE7 : Hid (Ex w7 (fun k => w6.heap.size ≤ k) d.x d.r) := Lib.hid ((HN7.out d (by simp)).resolve_left (by simp))
      have hs7 := HO7.out.size
      clear k7
      have x1 := c_of HB3_7.out 0 (v := .int .u8 98) rfl
      have x2 := c_of HB4_7.out 1 (v := .string ⟨#[98]⟩) rfl
      have x3 := c_of HB5_7.out 1 (v := .string ⟨#[100]⟩) rfl
      have y1 : w7.frozen? ⟨W2.heap.size, 0, none⟩ = false := by simp [World.frozen?, HB3_7.out]
      have y2 := fr_of HB4_7.out 1
      have y3 := fr_of HB5_7.out 1
      refine start_ (n := 17) (S := fun w' => w'.cell? ⟨w1.heap.size, 8, none⟩ = some (.slice (some ⟨W2.heap.size, 0, none⟩) 4 4) ∧ w'.cell? ⟨w1.heap.size, 7, none⟩ = some (.slice (some ⟨W3.heap.size, 0, none⟩) 1 1) ∧ w'.cell? ⟨w1.heap.size, 4, none⟩ = some (.slice (some ⟨W4.heap.size, 0, none⟩) 1 1)) (ds := []) #[false, false, false, false, false, false, false, false, false, false, false, false, false, false, false, false, false] (by kernel_rfl) rfl rfl ⟨c_of H7.out 8 rfl, c_of H7.out 7 rfl, c_of H7.out 4 rfl⟩ (fun hHeld => ?_)
      refine pure_ (i := 0) (N := some 94) (v := ?_) (a' := ?_) #[true, false, false, false, false, false, false, false, false, false, false, false, false, false, false, false, false] rfl rfl (by kernel_rfl) (fun _ _ _ h => h) (Or.inl ⟨by rfl, ?_⟩) ?_ ?_
      rotate_left
      · intro w'
        go_simp
        with_reducible rfl
      rotate_left
      · simp only [Act.put, List.setIfInBounds_toArray, List.set_cons_zero, List.set_cons_succ, i64_w, i32_w]
        rfl
      refine pure_ (i := 1) (N := some 95) (v := ?_) (a' := ?_) #[true, true, false, false, false, false, false, false, false, false, false, false, false, false, false, false, false] rfl rfl (by kernel_rfl) (fun _ _ _ h => h) (Or.inl ⟨by rfl, ?_⟩) ?_ ?_
      rotate_left
      · intro w'
        go_simp
        with_reducible rfl
      rotate_left
      · simp only [Act.put, List.setIfInBounds_toArray, List.set_cons_zero, List.set_cons_succ, i64_w, i32_w]
        rfl
      refine pure_ (i := 3) (N := some 97) (v := ?_) (a' := ?_) #[true, true, false, true, false, false, false, false, false, false, false, false, false, false, false, false, false] rfl rfl (by kernel_rfl) (fun _ _ _ h => h) (Or.inl ⟨by rfl, ?_⟩) ?_ ?_
      rotate_left
      · intro w'
        go_simp
        with_reducible rfl
      rotate_left
      · simp only [Act.put, List.setIfInBounds_toArray, List.set_cons_zero, List.set_cons_succ, i64_w, i32_w]
        rfl
      refine pure_ (i := 4) (N := some 98) (v := ?_) (a' := ?_) #[true, true, false, true, true, false, false, false, false, false, false, false, false, false, false, false, false] rfl rfl (by kernel_rfl) (fun _ _ _ h => h) (Or.inl ⟨by rfl, ?_⟩) ?_ ?_
      rotate_left
      · intro w'
        go_simp
        with_reducible rfl
      rotate_left
      · simp only [Act.put, List.setIfInBounds_toArray, List.set_cons_zero, List.set_cons_succ, i64_w, i32_w]
        rfl
      refine pure_ (i := 6) (N := some 100) (v := ?_) (a' := ?_) #[true, true, false, true, true, false, true, false, false, false, false, false, false, false, false, false, false] rfl rfl (by kernel_rfl) (fun _ _ _ h => h) (Or.inl ⟨by rfl, ?_⟩) ?_ ?_
      rotate_left
      · intro w'
        go_simp
        with_reducible rfl
      rotate_left
      · simp only [Act.put, List.setIfInBounds_toArray, List.set_cons_zero, List.set_cons_succ, i64_w, i32_w]
        rfl
      refine pure_ (i := 7) (N := some 101) (v := ?_) (a' := ?_) #[true, true, false, true, true, false, true, true, false, false, false, false, false, false, false, false, false] rfl rfl (by kernel_rfl) (fun _ _ _ h => h) (Or.inl ⟨by rfl, ?_⟩) ?_ ?_
      rotate_left
      · intro w'
        go_simp
        with_reducible rfl
      rotate_left
      · simp only [Act.put, List.setIfInBounds_toArray, List.set_cons_zero, List.set_cons_succ, i64_w, i32_w]
        rfl
      refine take_ (i := 2) (N := some 96) (v := ?_) (a' := ?_) #[true, true, true, true, true, false, true, true, false, false, false, false, false, false, false, false, false] rfl rfl (by kernel_rfl) (fun _ _ _ h => h) (Or.inl ⟨by rfl, ?_⟩) hHeld ?_ ?_
      rotate_left
      · rintro w' ⟨s0, s1, s2⟩
        go_simp
        with_reducible rfl
      rotate_left
      · simp only [Act.put, List.setIfInBounds_toArray, List.set_cons_zero, List.set_cons_succ, i64_w, i32_w]
        rfl
      refine pure_ (i := 9) (N := some 103) (v := ?_) (a' := ?_) #[true, true, true, true, true, false, true, true, false, true, false, false, false, false, false, false, false] rfl rfl (by kernel_rfl) (fun _ _ _ h => h) (Or.inl ⟨by rfl, ?_⟩) ?_ ?_
      rotate_left
      · intro w'
        go_simp
        with_reducible rfl
      rotate_left
      · simp only [Act.put, List.setIfInBounds_toArray, List.set_cons_zero, List.set_cons_succ, i64_w, i32_w]
        rfl
      refine take_ (i := 5) (N := some 99) (v := ?_) (a' := ?_) #[true, true, true, true, true, true, true, true, false, true, false, false, false, false, false, false, false] rfl rfl (by kernel_rfl) (fun _ _ _ h => h) (Or.inl ⟨by rfl, ?_⟩) hHeld ?_ ?_
      rotate_left
      · rintro w' ⟨s0, s1, s2⟩
        go_simp
        with_reducible rfl
      rotate_left
      · simp only [Act.put, List.setIfInBounds_toArray, List.set_cons_zero, List.set_cons_succ, i64_w, i32_w]
        rfl
      refine take_ (i := 8) (N := some 102) (v := ?_) (a' := ?_) #[true, true, true, true, true, true, true, true, true, true, false, false, false, false, false, false, false] rfl rfl (by kernel_rfl) (fun _ _ _ h => h) (Or.inl ⟨by rfl, ?_⟩) hHeld ?_ ?_
      rotate_left
      · rintro w' ⟨s0, s1, s2⟩
        go_simp
        with_reducible rfl
      rotate_left
      · simp only [Act.put, List.setIfInBounds_toArray, List.set_cons_zero, List.set_cons_succ, i64_w, i32_w]
        rfl
      refine one_ (i := 10) (N := none) #[true, true, true, true, true, true, true, true, true, true, true, false, false, false, false, false, false] rfl rfl (by kernel_rfl) (by decide) (fun K hK => ?_)
      refine skip_ (w1 := ?_) (by rfl) rfl ?_ ?_
      rotate_left
      · go_simp
        rfl
      refine hK.out _ _ ⟨c_of (set_other (drew_heap H7.out) (by omega)) 8 rfl, c_of (set_other (drew_heap H7.out) (by omega)) 7 rfl, c_of (set_other (drew_heap H7.out) (by omega)) 4 rfl⟩ (fun hHeld => ?_)
      clear hK K
      refine pure_ (i := 11) (N := some 104) (v := ?_) (a' := ?_) #[true, true, true, true, true, true, true, true, true, true, true, true, false, false, false, false, false] rfl rfl (by kernel_rfl) (fun _ _ _ h => h) (Or.inl ⟨by rfl, ?_⟩) ?_ ?_
      rotate_left
      · intro w'
        go_simp
        with_reducible rfl
      rotate_left
      · simp only [Act.put, List.setIfInBounds_toArray, List.set_cons_zero, List.set_cons_succ, i64_w, i32_w]
        rfl
      refine pure_ (i := 12) (N := some 105) (v := ?_) (a' := ?_) #[true, true, true, true, true, true, true, true, true, true, true, true, true, false, false, false, false] rfl rfl (by kernel_rfl) (fun _ _ _ h => h) (Or.inl ⟨by rfl, ?_⟩) ?_ ?_
      rotate_left
      · intro w'
        go_simp
        with_reducible rfl
      rotate_left
      · simp only [Act.put, List.setIfInBounds_toArray, List.set_cons_zero, List.set_cons_succ, i64_w, i32_w]
        rfl
      refine one_ (i := 13) (N := none) #[true, true, true, true, true, true, true, true, true, true, true, true, true, true, false, false, false] rfl rfl (by kernel_rfl) (by decide) (fun K hK => ?_)
      refine skip_ (w1 := ?_) (by rfl) rfl ?_ ?_
      rotate_left
      · go_simp
        rfl
      refine hK.out _ _ ⟨c_of (set_other (set_other (drew_heap H7.out) (by omega)) (by omega)) 8 rfl, c_of (set_other (set_other (drew_heap H7.out) (by omega)) (by omega)) 7 rfl, c_of (set_other (set_other (drew_heap H7.out) (by omega)) (by omega)) 4 rfl⟩ (fun hHeld => ?_)
      clear hK K
      refine pure_ (i := 14) (N := some 106) (v := ?_) (a' := ?_) #[true, true, true, true, true, true, true, true, true, true, true, true, true, true, true, false, false] rfl rfl (by kernel_rfl) (fun _ _ _ h => h) (Or.inl ⟨by rfl, ?_⟩) ?_ ?_
      rotate_left
      · intro w'
        go_simp
        with_reducible rfl
      rotate_left
      · simp only [Act.put, List.setIfInBounds_toArray, List.set_cons_zero, List.set_cons_succ, i64_w, i32_w]
        rfl
      refine pure_ (i := 15) (N := some 107) (v := ?_) (a' := ?_) #[true, true, true, true, true, true, true, true, true, true, true, true, true, true, true, true, false] rfl rfl (by kernel_rfl) (fun _ _ _ h => h) (Or.inl ⟨by rfl, ?_⟩) ?_ ?_
      rotate_left
      · intro w'
        go_simp
        with_reducible rfl
      rotate_left
      · simp only [Act.put, List.setIfInBounds_toArray, List.set_cons_zero, List.set_cons_succ, i64_w, i32_w]
        rfl
      refine one_ (i := 16) (N := none) #[true, true, true, true, true, true, true, true, true, true, true, true, true, true, true, true, true] rfl rfl (by kernel_rfl) (by decide) (fun K hK => ?_)
      refine skip_ (w1 := ?_) (by rfl) rfl ?_ ?_
      rotate_left
      · go_simp
        rfl
      refine hK.out _ _ ⟨c_of (set_other (set_other (set_other (drew_heap H7.out) (by omega)) (by omega)) (by omega)) 8 rfl, c_of (set_other (set_other (set_other (drew_heap H7.out) (by omega)) (by omega)) (by omega)) 7 rfl, c_of (set_other (set_other (set_other (drew_heap H7.out) (by omega)) (by omega)) (by omega)) 4 rfl⟩ (fun hHeld => ?_)
      clear hK K
      refine done_ (by kernel_rfl) ?_
      clear hHeld
      obtain ⟨W8, hW8⟩ : ∃ W, W = (((w7.setCell ⟨W2.heap.size, 0, none⟩ (.int .u8 120)).setCell ⟨W3.heap.size, 1, none⟩ (.string ⟨#[120]⟩)).setCell ⟨W4.heap.size, 1, none⟩ (.string ⟨#[120]⟩)).drew := ⟨_, rfl⟩
      rw [← hW8]
      clear x1 x2 x3 y1 y2 y3
      have HO8 : Hid (Only (fun k => k = W2.heap.size ∨ k = W3.heap.size ∨ k = W4.heap.size) w7 W8) := Lib.hid (by
        rw [hW8]
        exact ((((Only.refl _ _).setCell (p := ⟨W2.heap.size, 0, none⟩) (.inl rfl) _).setCell (p := ⟨W3.heap.size, 1, none⟩) (.inr (.inl rfl)) _).setCell (p := ⟨W4.heap.size, 1, none⟩) (.inr (.inr rfl)) _).drew)
      clear hW8
      have HI8 : Hid (Inv W8 Wo.heap.size Wo.heap.size 65536 [d]) := Lib.hid (by
        refine HI7.out.far HO8.out (fun k hk => ?_) (fun e he => ?_)
        · rcases hk with rfl | ⟨e, he, rfl⟩
          · omega
          · obtain ⟨p', n', hl⟩ := HI7.out.st.mem e he
            rintro (h | h | h)
            · rw [h, HB3_7.out] at hl; simp at hl
            · rw [h, HB4_7.out] at hl; simp at hl
            · rw [h, HB5_7.out] at hl; simp at hl
        · obtain rfl : e = d := by simpa using he
          exact HE7.out.mono (fun k hk => by omega))
      have hwo := HW.out.below.size
      have HB8 : Hid (Below w.heap.size w W8) := Lib.hid (by
        have h1 := below_step (below_step (below_step HW.out.below (below_alloc (Below.refl _ _) _)) HB1.out) HB5.out
        have h2 := below_step h1 HB6.out
        have h3 := h2.trans (below_only (B := w.heap.size) (by omega) HO7.out (fun k hk => by
          rcases hk with rfl | ⟨e, he, _⟩
          · omega
          · cases he))
        exact h3.trans (below_only (B := w.heap.size) (by omega) HO8.out (fun k hk => by omega)))
      have hs8 := HO8.out.size
      have HF1 := field_of ⟨#[47]⟩
      go_wp2_with fail
      go_at_call 25
      refine (of_calls _ _).mono ?_
      rintro e w9 ⟨rfl, hb9⟩
      have HB9 := Lib.hid hb9
      clear hb9
      go_wp2_with fail
      go_at_call 15
      refine (inv_get2 (HI8.out.grow HB9.out) (q := (ofX ⟨#[47]⟩).f0) (A4 := none) (c4 := 0) (A5 := none) (c5 := 0) (C_none _ _) (Nat.le_refl _) (by decide)).mono ?_
      rintro e w10 ⟨ho10, l', hi10, hg10, h10⟩
      obtain rfl := get_one hg10
      rcases h10 with ⟨hb10, -⟩ | ⟨d', r', hb10, rfl, hE10⟩
      · rw [best_yx HDX.out] at hb10; cases hb10
      rw [best_yx HDX.out] at hb10
      obtain rfl := Option.some.inj hb10
      have HO10 := Lib.hid ho10
      have HI10 := Lib.hid hi10
      rw [HDX.out] at hE10
      have HE10 := Lib.hid hE10
      obtain ⟨A4, c4, A5, c5, A7, c7, A8, c8⟩ := r'
      obtain ⟨a4, rfl, -⟩ := hE10.g4.2.2 (by decide)
      obtain ⟨a7, rfl, -⟩ := hE10.g7.2.2 (by decide)
      obtain ⟨a8, rfl, -⟩ := hE10.g8.2.2 (by decide)
      clear ho10 hi10 hg10 hb10 hE10
      rw [HDX.out]
      go_upto_region 18 with fail
      obtain ⟨W11, hW11⟩ : ∃ W, W = (w10.alloc (.cells #[.string ⟨#[71, 69, 84]⟩, .string ⟨#[104, 116, 116, 112, 115]⟩, .string ⟨#[97]⟩, .string ⟨#[47]⟩, .slice (some a4) 1 c4, .slice A5 0 c5, .int .i64 200, .slice (some a7) 1 c7, .slice (some a8) 4 c8, .int .i64 0, .int .i64 0] 41)) := ⟨_, rfl⟩
      rw [← hW11]
      have H11 : Hid (W11.heap[w10.heap.size]? = some (.cells #[.string ⟨#[71, 69, 84]⟩, .string ⟨#[104, 116, 116, 112, 115]⟩, .string ⟨#[97]⟩, .string ⟨#[47]⟩, .slice (some a4) 1 c4, .slice A5 0 c5, .int .i64 200, .slice (some a7) 1 c7, .slice (some a8) 4 c8, .int .i64 0, .int .i64 0] 41 (0, 0))) := Lib.hid (by rw [hW11]; exact heap_alloc_new _ _)
      have HB11 : Hid (Below w10.heap.size w10 W11) := Lib.hid (by rw [hW11]; exact below_alloc (Below.refl _ _) _)
      clear hW11
      have HE11 := Lib.hid (HE10.out.below HB11.out)
      have T8 := Lib.hid (HE10.out.b8 (by decide) a8 rfl)
      have T7 := Lib.hid (HE10.out.b7 (by decide) a7 rfl)
      have T4 := Lib.hid (HE10.out.b4 (by decide) a4 rfl)
      have HF10 : Hid (Ex w10 (fun k => k < W8.heap.size) d.x d.r) := Lib.hid ((((HI8.out.ex d (by simp)).lt.below HB9.out).only HO10.out (fun k hk hm => hk.1 hm)).mono (fun k hk => hk.2))
      have hcv : Sem.run Tryd.prog (convert 29 9 (.slice (some a8) 4 c8)) W11 = .ok (.string ⟨#[98, 111, 100, 121]⟩) W11 := Kd.C_string Tryd.underlying29 Tryd.underlying5 Tryd.underlying9 HE11.out.g8
      have z8 := c_of H11.out 8 (v := .slice (some a8) 4 c8) rfl
      have z7 := c_of H11.out 7 (v := .slice (some a7) 1 c7) rfl
      have z4 := c_of H11.out 4 (v := .slice (some a4) 1 c4) rfl
      go_upto_region 20 with fail
      clear hcv z8 z7 z4
      have x8 := C8_at HE11.out.g8
      have x7 := C63_at HE11.out.g7
      have x4 := C63_at HE11.out.g4
      have y8 := (T8.out.2.below HB11.out).fr a8 rfl
      have y7 := (T7.out.2.below HB11.out).fr ⟨a7.block, a7.off + 1, none⟩ rfl
      have y4 := (T4.out.2.below HB11.out).fr ⟨a4.block, a4.off + 1, none⟩ rfl
      have n87 := addr_ne x8 x7 (by simp)
      have n84 := addr_ne x8 x4 (by simp)
      have n74 := addr_ne x7 x4 (by simp)
      have t8 := T8.out.2.lt
      have t7 := T7.out.2.lt
      have t4 := T4.out.2.lt
      refine start_ (n := 17) (S := fun w' => w'.cell? ⟨w10.heap.size, 8, none⟩ = some (.slice (some a8) 4 c8) ∧ w'.cell? ⟨w10.heap.size, 7, none⟩ = some (.slice (some a7) 1 c7) ∧ w'.cell? ⟨w10.heap.size, 4, none⟩ = some (.slice (some a4) 1 c4)) (ds := []) #[false, false, false, false, false, false, false, false, false, false, false, false, false, false, false, false, false] (by kernel_rfl) rfl rfl ⟨c_of H11.out 8 rfl, c_of H11.out 7 rfl, c_of H11.out 4 rfl⟩ (fun hHeld => ?_)
      refine pure_ (i := 0) (N := some 134) (v := ?_) (a' := ?_) #[true, false, false, false, false, false, false, false, false, false, false, false, false, false, false, false, false] rfl rfl (by kernel_rfl) (fun _ _ _ h => h) (Or.inl ⟨by rfl, ?_⟩) ?_ ?_
      rotate_left
      · intro w'
        go_simp
        with_reducible rfl
      rotate_left
      · simp only [Act.put, List.setIfInBounds_toArray, List.set_cons_zero, List.set_cons_succ, i64_w, i32_w]
        rfl
      refine pure_ (i := 1) (N := some 135) (v := ?_) (a' := ?_) #[true, true, false, false, false, false, false, false, false, false, false, false, false, false, false, false, false] rfl rfl (by kernel_rfl) (fun _ _ _ h => h) (Or.inl ⟨by rfl, ?_⟩) ?_ ?_
      rotate_left
      · intro w'
        go_simp
        with_reducible rfl
      rotate_left
      · simp only [Act.put, List.setIfInBounds_toArray, List.set_cons_zero, List.set_cons_succ, i64_w, i32_w]
        rfl
      refine pure_ (i := 3) (N := some 137) (v := ?_) (a' := ?_) #[true, true, false, true, false, false, false, false, false, false, false, false, false, false, false, false, false] rfl rfl (by kernel_rfl) (fun _ _ _ h => h) (Or.inl ⟨by rfl, ?_⟩) ?_ ?_
      rotate_left
      · intro w'
        go_simp
        with_reducible rfl
      rotate_left
      · simp only [Act.put, List.setIfInBounds_toArray, List.set_cons_zero, List.set_cons_succ, i64_w, i32_w]
        rfl
      refine pure_ (i := 4) (N := some 138) (v := ?_) (a' := ?_) #[true, true, false, true, true, false, false, false, false, false, false, false, false, false, false, false, false] rfl rfl (by kernel_rfl) (fun _ _ _ h => h) (Or.inl ⟨by rfl, ?_⟩) ?_ ?_
      rotate_left
      · intro w'
        go_simp
        with_reducible rfl
      rotate_left
      · simp only [Act.put, List.setIfInBounds_toArray, List.set_cons_zero, List.set_cons_succ, i64_w, i32_w]
        rfl
      refine pure_ (i := 6) (N := some 140) (v := ?_) (a' := ?_) #[true, true, false, true, true, false, true, false, false, false, false, false, false, false, false, false, false] rfl rfl (by kernel_rfl) (fun _ _ _ h => h) (Or.inl ⟨by rfl, ?_⟩) ?_ ?_
      rotate_left
      · intro w'
        go_simp
        with_reducible rfl
      rotate_left
      · simp only [Act.put, List.setIfInBounds_toArray, List.set_cons_zero, List.set_cons_succ, i64_w, i32_w]
        rfl
      refine pure_ (i := 7) (N := some 141) (v := ?_) (a' := ?_) #[true, true, false, true, true, false, true, true, false, false, false, false, false, false, false, false, false] rfl rfl (by kernel_rfl) (fun _ _ _ h => h) (Or.inl ⟨by rfl, ?_⟩) ?_ ?_
      rotate_left
      · intro w'
        go_simp
        with_reducible rfl
      rotate_left
      · simp only [Act.put, List.setIfInBounds_toArray, List.set_cons_zero, List.set_cons_succ, i64_w, i32_w]
        rfl
      refine take_ (i := 2) (N := some 136) (v := ?_) (a' := ?_) #[true, true, true, true, true, false, true, true, false, false, false, false, false, false, false, false, false] rfl rfl (by kernel_rfl) (fun _ _ _ h => h) (Or.inl ⟨by rfl, ?_⟩) hHeld ?_ ?_
      rotate_left
      · rintro w' ⟨s0, s1, s2⟩
        go_simp
        with_reducible rfl
      rotate_left
      · simp only [Act.put, List.setIfInBounds_toArray, List.set_cons_zero, List.set_cons_succ, i64_w, i32_w]
        rfl
      refine pure_ (i := 9) (N := some 143) (v := ?_) (a' := ?_) #[true, true, true, true, true, false, true, true, false, true, false, false, false, false, false, false, false] rfl rfl (by kernel_rfl) (fun _ _ _ h => h) (Or.inl ⟨by rfl, ?_⟩) ?_ ?_
      rotate_left
      · intro w'
        go_simp
        with_reducible rfl
      rotate_left
      · simp only [Act.put, List.setIfInBounds_toArray, List.set_cons_zero, List.set_cons_succ, i64_w, i32_w]
        rfl
      refine take_ (i := 5) (N := some 139) (v := ?_) (a' := ?_) #[true, true, true, true, true, true, true, true, false, true, false, false, false, false, false, false, false] rfl rfl (by kernel_rfl) (fun _ _ _ h => h) (Or.inl ⟨by rfl, ?_⟩) hHeld ?_ ?_
      rotate_left
      · rintro w' ⟨s0, s1, s2⟩
        go_simp
        with_reducible rfl
      rotate_left
      · simp only [Act.put, List.setIfInBounds_toArray, List.set_cons_zero, List.set_cons_succ, i64_w, i32_w]
        rfl
      refine take_ (i := 8) (N := some 142) (v := ?_) (a' := ?_) #[true, true, true, true, true, true, true, true, true, true, false, false, false, false, false, false, false] rfl rfl (by kernel_rfl) (fun _ _ _ h => h) (Or.inl ⟨by rfl, ?_⟩) hHeld ?_ ?_
      rotate_left
      · rintro w' ⟨s0, s1, s2⟩
        go_simp
        with_reducible rfl
      rotate_left
      · simp only [Act.put, List.setIfInBounds_toArray, List.set_cons_zero, List.set_cons_succ, i64_w, i32_w]
        rfl
      refine one_ (i := 10) (N := none) #[true, true, true, true, true, true, true, true, true, true, true, false, false, false, false, false, false] rfl rfl (by kernel_rfl) (by decide) (fun K hK => ?_)
      refine skip_ (w1 := ?_) (by rfl) rfl ?_ ?_
      rotate_left
      · go_simp
        rfl
      refine hK.out _ _ ⟨(cell_far (c_of (drew_heap H11.out) 8 rfl) (by show a8.block ≠ _; simp only; omega)), (cell_far (c_of (drew_heap H11.out) 7 rfl) (by show a8.block ≠ _; simp only; omega)), (cell_far (c_of (drew_heap H11.out) 4 rfl) (by show a8.block ≠ _; simp only; omega))⟩ (fun hHeld => ?_)
      clear hK K
      refine pure_ (i := 11) (N := some 144) (v := ?_) (a' := ?_) #[true, true, true, true, true, true, true, true, true, true, true, true, false, false, false, false, false] rfl rfl (by kernel_rfl) (fun _ _ _ h => h) (Or.inl ⟨by rfl, ?_⟩) ?_ ?_
      rotate_left
      · intro w'
        go_simp
        with_reducible rfl
      rotate_left
      · simp only [Act.put, List.setIfInBounds_toArray, List.set_cons_zero, List.set_cons_succ, i64_w, i32_w]
        rfl
      refine pure_ (i := 12) (N := some 145) (v := ?_) (a' := ?_) #[true, true, true, true, true, true, true, true, true, true, true, true, true, false, false, false, false] rfl rfl (by kernel_rfl) (fun _ _ _ h => h) (Or.inl ⟨by rfl, ?_⟩) ?_ ?_
      rotate_left
      · intro w'
        go_simp
        with_reducible rfl
      rotate_left
      · simp only [Act.put, List.setIfInBounds_toArray, List.set_cons_zero, List.set_cons_succ, i64_w, i32_w]
        rfl
      refine one_ (i := 13) (N := none) #[true, true, true, true, true, true, true, true, true, true, true, true, true, true, false, false, false] rfl rfl (by kernel_rfl) (by decide) (fun K hK => ?_)
      refine skip_ (w1 := ?_) (by rfl) rfl ?_ ?_
      rotate_left
      · go_simp
        rfl
      refine hK.out _ _ ⟨(cell_far (cell_far (c_of (drew_heap H11.out) 8 rfl) (by show a8.block ≠ _; simp only; omega)) (by show a7.block ≠ _; simp only; omega)), (cell_far (cell_far (c_of (drew_heap H11.out) 7 rfl) (by show a8.block ≠ _; simp only; omega)) (by show a7.block ≠ _; simp only; omega)), (cell_far (cell_far (c_of (drew_heap H11.out) 4 rfl) (by show a8.block ≠ _; simp only; omega)) (by show a7.block ≠ _; simp only; omega))⟩ (fun hHeld => ?_)
      clear hK K
      refine pure_ (i := 14) (N := some 146) (v := ?_) (a' := ?_) #[true, true, true, true, true, true, true, true, true, true, true, true, true, true, true, false, false] rfl rfl (by kernel_rfl) (fun _ _ _ h => h) (Or.inl ⟨by rfl, ?_⟩) ?_ ?_
      rotate_left
      · intro w'
        go_simp
        with_reducible rfl
      rotate_left
      · simp only [Act.put, List.setIfInBounds_toArray, List.set_cons_zero, List.set_cons_succ, i64_w, i32_w]
        rfl
      refine pure_ (i := 15) (N := some 147) (v := ?_) (a' := ?_) #[true, true, true, true, true, true, true, true, true, true, true, true, true, true, true, true, false] rfl rfl (by kernel_rfl) (fun _ _ _ h => h) (Or.inl ⟨by rfl, ?_⟩) ?_ ?_
      rotate_left
      · intro w'
        go_simp
        with_reducible rfl
      rotate_left
      · simp only [Act.put, List.setIfInBounds_toArray, List.set_cons_zero, List.set_cons_succ, i64_w, i32_w]
        rfl
      refine one_ (i := 16) (N := none) #[true, true, true, true, true, true, true, true, true, true, true, true, true, true, true, true, true] rfl rfl (by kernel_rfl) (by decide) (fun K hK => ?_)
      refine skip_ (w1 := ?_) (by rfl) rfl ?_ ?_
      rotate_left
      · go_simp
        rfl
      refine hK.out _ _ ⟨(cell_far (cell_far (cell_far (c_of (drew_heap H11.out) 8 rfl) (by show a8.block ≠ _; simp only; omega)) (by show a7.block ≠ _; simp only; omega)) (by show a4.block ≠ _; simp only; omega)), (cell_far (cell_far (cell_far (c_of (drew_heap H11.out) 7 rfl) (by show a8.block ≠ _; simp only; omega)) (by show a7.block ≠ _; simp only; omega)) (by show a4.block ≠ _; simp only; omega)), (cell_far (cell_far (cell_far (c_of (drew_heap H11.out) 4 rfl) (by show a8.block ≠ _; simp only; omega)) (by show a7.block ≠ _; simp only; omega)) (by show a4.block ≠ _; simp only; omega))⟩ (fun hHeld => ?_)
      clear hK K
      refine done_ (by kernel_rfl) ?_
      clear hHeld
      obtain ⟨W12, hW12⟩ : ∃ W, W = (((W11.setCell a8 (.int .u8 120)).setCell ⟨a7.block, a7.off + 1, none⟩ (.string ⟨#[120]⟩)).setCell ⟨a4.block, a4.off + 1, none⟩ (.string ⟨#[120]⟩)).drew := ⟨_, rfl⟩
      rw [← hW12]
      have HO12 : Hid (Only (fun k => k = a8.block ∨ k = a7.block ∨ k = a4.block) W11 W12) := Lib.hid (by
        rw [hW12]
        exact ((((Only.refl _ _).setCell (p := a8) (.inl rfl) _).setCell (p := ⟨a7.block, a7.off + 1, none⟩) (.inr (.inl rfl)) _).setCell (p := ⟨a4.block, a4.off + 1, none⟩) (.inr (.inr rfl)) _).drew)
      clear hW12 x8 x7 x4 y8 y7 y4 n87 n84 n74
      have l8 : w9.heap.size ≤ a8.block := T8.out.1
      have l7 : w9.heap.size ≤ a7.block := T7.out.1
      have l4 : w9.heap.size ≤ a4.block := T4.out.1
      have hs9 := HB9.out.size
      have hs10 := HO10.out.size
      have hs11 := HB11.out.size
      have HI12 : Hid (Inv W12 Wo.heap.size Wo.heap.size 65536 [d]) := Lib.hid (by
        refine (HI10.out.grow HB11.out).far HO12.out (fun k hk => ?_) (fun e he => ?_)
        · have := mine_lt HI8.out.st hk
          omega
        · obtain rfl : e = d := by simpa using he
          exact (HF10.out.below HB11.out).mono (fun k hk => by omega))
      have HB12 : Hid (Below w.heap.size w W12) := Lib.hid (by
        have h1 := below_step HB8.out HB9.out
        have h2 := below_step (h1.trans (below_only (B := w.heap.size) (by omega) HO10.out (fun k hk => by have := HI8.out.ge k hk; omega))) HB11.out
        exact h2.trans (below_only (B := w.heap.size) (by omega) HO12.out (fun k hk => by omega)))
      have HL := Lib.hid (list_made W12 Wo.heap.size 65536 (zs [d]) [d] _ HI12.out.st (fun e he => ⟨HI12.out.ex e he, sm_fits (HI12.out.sm e he).1⟩) (by simp))
      have hs12 := HO12.out.size
      clear t8 t7 t4 l8 l7 l4
      go_wp2_with fail
      go_at_call 11
      refine HL.out.mono ?_
      rintro e w13 ⟨A13, c13, ps, rfl, hmap, hls, hb13⟩
      obtain ⟨s, rfl⟩ : ∃ s, ps = [(yx, s)] := by
        rcases ps with _ | ⟨⟨y, s⟩, t⟩
        · simp at hmap
        · have h0 : t = [] := by simpa using congrArg List.length hmap
          subst h0
          simp only [List.map_cons, List.map_nil, List.cons.injEq] at hmap
          exact ⟨s, by rw [hmap.1, HDX.out]⟩
      obtain ⟨ad, y, s', rfl, hqs, g0, g1, g2, g3, g4, g5, g6, g7, g8, g9, g10, hE13⟩ := ls_at hls 0 (by simp)
      simp only [List.getElem?_cons_zero, Option.some.injEq, Prod.mk.injEq] at hqs
      obtain ⟨rfl, rfl⟩ := hqs
      have hz : ad.add (0 * 11) = ad := by simp [Addr.add]
      rw [hz] at g0 g1 g2 g3 g4 g5 g6 g7 g8 g9 g10
      have HB13 := Lib.hid hb13
      obtain ⟨A4, c4_, A5, c5_, A7, c7_, A8, c8_⟩ := s
      obtain ⟨q4, rfl, -⟩ := hE13.g4.2.2 (by decide)
      obtain ⟨q7, rfl, -⟩ := hE13.g7.2.2 (by decide)
      obtain ⟨q8, rfl, -⟩ := hE13.g8.2.2 (by decide)
      have hcv : Sem.run Tryd.prog (convert 29 9 (.slice (some q8) 4 c8_)) w13 = .ok (.string ⟨#[98, 111, 100, 121]⟩) w13 := Kd.C_string Tryd.underlying29 Tryd.underlying5 Tryd.underlying9 hE13.g8
      have x7 := C63_at hE13.g7
      have x4 := C63_at hE13.g4
      clear hE13 hls hmap hb13 hz g0 g1 g2 g3 g5 g6 g9 g10 HL
      go_wp2_with (go_at_call 9; refine (HAL.out _).mono ?_; rintro e w14 ⟨rfl, hb14⟩; have HB14 := Lib.hid hb14; clear hb14)
      go_ret
      exact ⟨rfl, below_step (below_step HB12.out HB13.out) HB14.out⟩
end Go.Proofs.YtkbbjjegpjdpeaaDoor.S

