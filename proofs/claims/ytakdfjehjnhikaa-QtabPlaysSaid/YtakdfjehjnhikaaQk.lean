import Derived.Test.YtakdfjehjnhikaaQj
namespace Go.Proofs.Ytakdfjehjnhikaa.Q
open Go.RowKit Go.Proofs.YtakdfjehjnhikaaW.PrintWords Go.Proofs.YtakdfjehjnhikaaW.PrintLast Go.Proofs.YtakdfjehjnhikaaW.PrintMore Go.Proofs.Ytakdfjehjnhikaa.G
set_option linter.unusedVariables false
set_option linter.unusedSimpArgs false

theorem TabK.grown {ok : Nat → Prop} {W W1 : World} {g : Nat} {s : TS} {row : Option Nat} (h : TabK ok W g s) (hg : W.grownBy W1 row) (hgr : some g ≠ row) (hok : ∀ k, ok k → some k ≠ row) : TabK ok W1 g s := by
  obtain ⟨A, c, hh, hl, hC, hne⟩ := h
  exact ⟨A, c, (hg.block g (blk_lt' hh) hgr).trans hh, hl, C29_move hC (fun ad e hlt => hg.block _ hlt (hok _ (hne ad e).2.2)), fun ad e => ⟨(hne ad e).1, Nat.lt_of_lt_of_le (hne ad e).2.1 hg.size, (hne ad e).2.2⟩⟩

theorem cutmid (A : Option Addr) (c : Nat) (all : List S29) (lo hi : Int) (h0 : 0 ≤ lo) (h1 : lo ≤ hi) (h2 : hi ≤ all.length) (hc : all.length ≤ c) :
    ∃ (A' : Option Addr) (c' : Nat), (∀ W : World, (Instr.slice 39 (.slice A all.length c) (some (.int .i64 lo)) (some (.int .i64 hi)) none).run Try.prog W = .ok (.slice A' (hi.toNat - lo.toNat) c') W) ∧
      ((all.drop lo.toNat).take (hi.toNat - lo.toNat)).length = hi.toNat - lo.toNat ∧ ∀ w, Kd.C k29 w A all.length all → Kd.C k29 w A' ((all.drop lo.toNat).take (hi.toNat - lo.toNat)).length ((all.drop lo.toNat).take (hi.toNat - lo.toNat)) := by
  obtain ⟨i, hi', hz⟩ := Option.map_eq_some_iff.1 info29
  simp only [Prod.mk.injEq] at hz
  refine ⟨if c = lo.toNat then A else A.map (·.add (lo.toNat * 2)), c - lo.toNat, fun W => cut_mid 39 29 .i64 .i64 Try.underlying39 hi' 2 hz.2.1 A all.length c lo hi h0 h1 h2 hc W, ?_, fun w h => ?_⟩
  · rw [List.length_take, List.length_drop]; omega
  · exact Kd.C_take (Kd.C_drop (m := lo.toNat) h (by omega) hc) (by rw [List.length_drop]; omega)

attribute [local go_sem high] eqA29
set_option maxHeartbeats 4000000 in
set_option maxRecDepth 100000 in
theorem order_yes (w : World) (most : Int) (A : Option Addr) (c : Nat) (l : List S31) (h0 : 0 ≤ most) (h1 : most ≤ 4096) (hC : Kd.C k31 w A l.length l) (hl : l.length * 48 ≤ 140737488351232) (ha : ActsOk l) :
    Calls Try.prog 4 #[.int .i64 most, .slice A l.length c] w fun e w' => e = .returned (.bool true) ∧ Below w.heap.size w w' := by
  have Hn := Lib.hid (new_yes w most h0 h1)
  have HC := Lib.hid hC
  clear hC
  go_enter Try.func4, Try.ntmps4
  go_wp2_with (first | (go_at_call 9; refine Hn.out.mono ?_; rintro e w1 ⟨rfl, hT, hb⟩; have HT1 := Lib.hid hT; have HB1 := Lib.hid hb; clear hT hb) | (go_at_call 10; refine (alive_calls _).mono ?_; rintro e w2 ⟨rfl, hb⟩; have HT2 := Lib.hid (HT1.out.below hb); have HB2 := Lib.hid (below_step HB1.out hb); clear hb))
  go_loopg [7, 39] l.length (fun k v7 v39 W => ∃ (i : Nat) (s : TS) (all : List S29) (A7 : Option Addr) (c7 : Nat), v39 = .int .i64 i ∧ v7 = .slice A7 all.length c7 ∧ i ≤ l.length ∧ l.length ≤ k + i ∧ Hid (TabK (fun b => some b ≠ (Value.slice A7 all.length c7).ownBlock) W w.heap.size s) ∧ s.Ok ∧ all.length ≤ i ∧ Hid (Ord all s) ∧ Hid (Kd.R k29 29 W w.heap.size (fun b => b ≠ w.heap.size) (.slice A7 all.length c7) all) ∧ Hid (Below w.heap.size w W))
  case atStart => exact ⟨0, ⟨most, 0, 0, 0, []⟩, [], none, 0, rfl, rfl, Nat.zero_le _, Nat.le_refl _, Lib.hid (HT2.out.imp (fun k _ _ => by simp [Value.ownBlock])), new_ok most h0 h1, Nat.le_refl _, Lib.hid ⟨[], rfl, rfl⟩, Lib.hid (Kd.R_nil _ _ _ _ _), HB2⟩
  case round =>
    obtain ⟨i, s, all, A7, c7, rfl, rfl, hi, hk, HT, hs, hal, HO, HR, HB⟩ := hrel
    clear HT1 HB1 HT2 HB2 Hn
    by_cases hlt : i < l.length
    · obtain ⟨ad, rfl, hx0, hx1, hx2, hx3⟩ := at_T31 (Kd.C_below HC.out HB.out) i (by omega) (by omega)
      obtain ⟨hk0, hk1⟩ := acts_rd ha i (by omega) (by omega)
      rw [show (i : Int).toNat = i from Int.toNat_natCast i] at hx0 hx1 hx2 hx3
      have hadl := World.block_lt_of_cell? wr _ hx0
      have Hs := Lib.hid hs
      have hfirst := hs.first
      obtain ⟨x, hx⟩ : ∃ x, x = rd_T31 l i := ⟨_, rfl⟩
      rw [← hx] at hx0 hx1 hx2 hx3 hk0 hk1
      have HX := Lib.hid hx
      have hi1 : i + 1 ≤ l.length := hlt
      obtain ⟨ko, rfl⟩ : ∃ ko, gk = ko + 1 := ⟨gk - 1, by omega⟩
      have hk2 : l.length ≤ ko + (i + 1) := by omega
      have hs3 := play_ok s x.f0 x.f1 x.f2 hs (by have := hs.count; have := HO.out; obtain ⟨d, e1, e2⟩ := this; have e3 := congrArg List.length e1; rw [List.length_append] at e3; omega)
      have hwent := play_went HO.out hs x.f0 x.f1 x.f2
      have hsz : w.heap.size < wr.heap.size := by obtain ⟨A, c, hh, -⟩ := HT.out; exact blk_lt' hh
      have Hp := Lib.hid (fun W hT hnew => plays_any (ok := fun b => some b ≠ (Value.slice A7 all.length c7).ownBlock) W w.heap.size s x.f0 x.f1 x.f2 hk0 hk1 hnew hT hs)
      obtain ⟨b, hbe⟩ : ∃ t, t = (s.play x.f0 x.f1 x.f2).2.2 := ⟨_, rfl⟩
      obtain ⟨s3, hs3e⟩ : ∃ t, t = (s.play x.f0 x.f1 x.f2).1 := ⟨_, rfl⟩
      rw [← hs3e] at hs3 hwent Hp
      rw [← hbe] at hwent Hp
      have Hwent := Lib.hid hwent
      have Hs3 := Lib.hid hs3
      have hoth : all.length + 1 ≤ i + 1 := by omega
      have hallb : (all.length + 1) * 32 ≤ 140737488355328 := by omega
      have Hnew : Hid (∀ k, wr.heap.size ≤ k → some k ≠ (Value.slice A7 all.length c7).ownBlock) := Lib.hid (fun k hk e => by
        obtain ⟨inn, hown⟩ := Kd.R_own HR.out
        have := own_lt hown k e.symm
        omega)
      have Hg7 : Hid (some w.heap.size ≠ (Value.slice A7 all.length c7).ownBlock) := Lib.hid (fun e => HR.out.1 _ e.symm rfl)
      have Hb7 : Hid (∀ k, (Value.slice A7 all.length c7).ownBlock = some k → w.heap.size < k) := Lib.hid (fun k e => by
        obtain ⟨inn, hown⟩ := Kd.R_own HR.out
        have := own_base hown k e
        have h2 := HR.out.1 k e
        omega)
      clear hs hx hs3 hwent hs3e hlt hbe
      go_upto_if 53 with (first | (go_at_call 14; refine (first_made _ _ s (HT.out.at.below (below_alloc (Below.refl _ _) _))).mono ?_; rintro e w' ⟨rfl, h_⟩; obtain rfl := h_.symm) | (go_at_call 13; refine (used_made _ _ s (HT.out.at.below (below_alloc (Below.refl _ _) _))).mono ?_; rintro e w' ⟨rfl, h_⟩; obtain rfl := h_.symm) | (go_at_call 11; refine (Hp.out _ (HT.out.below (below_alloc (Below.refl _ _) _)) (fun k hk => Hnew.out k (by simp at hk; omega))).mono ?_; rintro e w3 ⟨rfl, hT3, hg3⟩; have HT3 := Lib.hid hT3; have HG3 := Lib.hid hg3; clear hT3 hg3))
      have hsz3 : w.heap.size < w3.heap.size := by obtain ⟨A, c, hh, -⟩ := HT3.out; exact blk_lt' hh
      have HB3 := Lib.hid (below_of_grown (below_alloc HB.out (.cells #[.int .u8 x.f0, .int .i64 x.f1, .string x.f2.f0, .string x.f2.f1] 31)) HG3.out (Nat.le_refl _))
      have HR3 : Hid (Kd.R k29 29 w3 w.heap.size (fun b => b ≠ w.heap.size) (.slice A7 all.length c7) all) := Lib.hid (Kd.R_grown (Kd.R_below HR.out (below_alloc (Below.refl _ _) _)) HG3.out (fun k hk e => hk (Option.some.inj e)))
      have BX3 := Lib.hid (blk_grown HG3.out (heap_alloc_new wr _) (by omega))
      have y2 : w3.cell? ⟨wr.heap.size, 2, none⟩ = some (.string x.f2.f0) := cells_of (blk_grown HG3.out (heap_alloc_new wr _) (by omega)) 2
      have y3 : w3.cell? ⟨wr.heap.size, 3, none⟩ = some (.string x.f2.f1) := cells_of (blk_grown HG3.out (heap_alloc_new wr _) (by omega)) 3
      have huw : 0 ≤ s.used ∧ s.used ≤ 4096 := by have := Hs.out.used; have := rms_nonneg s.l; have := Hs.out.fits; have := Hs.out.cap1; have := Hs.out.most; omega
      go_cut [7, 11] (fun v7 v11 wc => ∃ (all' : List S29) (A8 : Option Addr) (c8 : Nat) (add : Int), v7 = .slice A8 all'.length c8 ∧ v11 = .int .i64 (s.used + add) ∧ 0 ≤ add ∧ add ≤ 4096 ∧ all'.length ≤ i + 1 ∧ Hid (Went all' s s3 add) ∧ Hid (TabK (fun b => some b ≠ (Value.slice A8 all'.length c8).ownBlock) wc w.heap.size s3) ∧ Hid (Kd.R k29 29 wc w.heap.size (fun b => b ≠ w.heap.size) (.slice A8 all'.length c8) all') ∧ Hid (Below w.heap.size w wc))
      case first =>
        cases b with
        | false =>
          have hw := Lib.hid (Hwent.out.2 rfl)
          go_wp2
          go_meet
          case rel => exact ⟨all, A7, c7, 0, rfl, by rw [Int.add_zero], by omega, by omega, by omega, hw, HT3, HR3, HB3⟩
        | true =>
          obtain ⟨hw, hrm⟩ := Hwent.out.1 rfl
          have Hw := Lib.hid hw
          clear hw
          go_wp2_with (first | (at_builtin; refine Kd.R_append k29 (w0 := w) w.heap.size rfl (.tmp 54) (.tmp 57) 39 29 (.agg #[.string ⟨#[]⟩, .string ⟨#[]⟩]) 32 rfl Try.underlying39 info29 rfl (by decide) (by decide) (.slice A7 all.length c7) all x.f2 [.string x.f2.f0, .string x.f2.f1] (fun b => b ≠ w.heap.size) (fun _ => False) rfl rfl (k29_mkM _ _ _ _) (fun _ h_ => h_.elim) (fun k_ hk_ => by omega) HR3.out HB3.out (by omega) hallb ?_; intro v8 w8 hR8 hB8 hg8 hat8; obtain ⟨A8, c8, rfl, hl8, hC8⟩ := Kd.R_reads hR8; have HR8 := Lib.hid hR8; have HB8 := Lib.hid hB8; have HG8 := Lib.hid hg8; have HAT8 := Lib.hid hat8; have BX8 := (hg8.block _ (blk_lt' BX3.out) (Hnew.out _ (Nat.le_refl _))).trans BX3.out; have z2 : w8.cell? ⟨wr.heap.size, 2, none⟩ = some (.string x.f2.f0) := cells_of BX8 2; have z3 : w8.cell? ⟨wr.heap.size, 3, none⟩ = some (.string x.f2.f1) := cells_of BX8 3; clear BX8; clear hR8 hB8 hg8 hat8 hC8 hl8) | (go_at_call 17; refine (room_calls x.f2 _ (by omega)).mono ?_; rintro e w9 ⟨rfl, hb9⟩; have HB9 := Lib.hid hb9; clear hb9))
          have hwu : wrap64 (s.used + rm x.f2) = s.used + rm x.f2 := by have := rm_lo x.f2; unfold wrap64; omega
          have hT9 : TabK (fun b => some b ≠ (Value.slice A8 (all ++ [x.f2]).length c8).ownBlock) w9 w.heap.size s3 := by
            have e1 : TabK (fun k => some k ≠ (Value.slice A7 all.length c7).ownBlock ∧ some k ≠ (Value.slice A8 (all ++ [x.f2]).length c8).ownBlock) w3 w.heap.size s3 := HT3.out.imp (fun k hk ho => ⟨ho, fun e => by
              rcases HAT8.out with h | ⟨b', h, hb'⟩
              · exact ho (by rw [← h]; exact e)
              · rw [h] at e; injection e with e; omega⟩)
            exact ((e1.grown HG8.out Hg7.out (fun k hk => hk.1)).imp (fun k _ hk => hk.2)).below HB9.out
          have HT9 := Lib.hid hT9
          have hlen9 : (all ++ [x.f2]).length ≤ i + 1 := by rw [List.length_append]; exact hoth
          have hv9 : Value.slice A8 (all.length + 1) c8 = Value.slice A8 (all ++ [x.f2]).length c8 := by rw [List.length_append]; rfl
          clear hT9
          go_meet
          case rel => exact ⟨all ++ [x.f2], A8, c8, rm x.f2, hv9, congrArg (Value.int .i64) hwu, by have := rm_lo x.f2; omega, hrm, hlen9, Hw, HT9, Lib.hid (Kd.R_below HR8.out HB9.out), Lib.hid (below_step HB8.out HB9.out)⟩
      case rest =>
        obtain ⟨all', A8, c8, add, rfl, rfl, ha0, ha1, hlen', HW', HT', HR', HB'⟩ := hcut
        obtain ⟨hg1, hg2, hg3, hg4, hg5⟩ := HW'.out.gone hfirst
        clear HT HO HR HB Hp Hwent hoth hallb Hnew Hg7 Hb7 HT3 HG3 HB3 HR3 BX3 y2 y3 hx0 hx1 hx2 hx3 hadl hsz3
        have Hg := Lib.hid hg5
        have hs3 := Hs3.out
        have hwn : wrap64 (s3.first + (s3.l.length : Int)) = (all'.length : Int) := by rw [hg3]; unfold wrap64; omega
        have Hcount : Hid (∀ W, TabK (fun b => some b ≠ (Value.slice A8 all'.length c8).ownBlock) W w.heap.size s3 → Calls Try.prog 15 #[.pointer (some ⟨w.heap.size, 0, none⟩)] W fun e w' => e = .returned (.int .i64 all'.length) ∧ Drawn0 W w') := Lib.hid (fun W hW => by
          have := count_made W _ s3 hW.at
          rw [hwn] at this
          exact this)
        clear hwn
        have hb1 : decide (s3.first < s.first) = false := decide_eq_false (by omega)
        have hlb : all'.length ≤ l.length := by omega
        go_upto_region 16 with (first | (go_at_call 15; refine (Hcount.out _ HT'.out).mono ?_; rintro e w' ⟨rfl, ⟨⟨m, rfl⟩⟩⟩; have HBm := Lib.hid (below_step HB'.out (pw_below_drewN (Below.refl _ _) m)); have HTm := Lib.hid (HT'.out.below (pw_below_drewN (Below.refl _ _) m)); have HRm := Lib.hid (Kd.R_below HR'.out (pw_below_drewN (Below.refl _ _) m))) | (go_at_call 14; refine (first_made _ _ s3 HTm.out.at).mono ?_; rintro e w' ⟨rfl, h_⟩; obtain rfl := h_.symm))
        generalize wc.drewN m = w4 at HBm HTm HRm ⊢
        clear HT' HR' HB' hb1
        have hw1 : wrap64 (s3.first - 1) = s3.first - 1 := by unfold wrap64; omega
        have hb2 : decide (s3.first - 1 < (all'.length : Int)) = true := decide_eq_true (by omega)
        have hc8 : all'.length ≤ c8 := by
          obtain ⟨A, c, e, h1, h2⟩ := Kd.R_reads HRm.out
          injection e with e1 e2 e3
          omega
        obtain ⟨A9, c9, hcut9, hlen9, hC9⟩ := cutmid A8 c8 all' s.first s3.first hfirst hg1 hg2 hc8
        have Hcut9 := Lib.hid hcut9
        have HC9 := Lib.hid (fun w h => hC9 w h)
        clear hcut9 hC9 hg5
        go_cut [86] (fun v86 wx => v86 = .bool (decide (s.first < s3.first)) ∧ wx = w4)
        case first =>
          by_cases hlt : s.first < s3.first
          · have hb3 : decide (s.first < s3.first) = true := decide_eq_true hlt
            go_wp2
            go_meet
            case rel => exact ⟨congrArg Value.bool hb3.symm, rfl⟩
          · have hb3 : decide (s.first < s3.first) = false := decide_eq_false hlt
            go_wp2
            go_meet
            case rel => exact ⟨congrArg Value.bool hb3.symm, rfl⟩
        case rest =>
          obtain ⟨rfl, e4⟩ := hcut
          obtain rfl := e4.symm
          clear hw1 hb2
          have HW4 : Hid (Below w4.heap.size w4 w4) := Lib.hid (Below.refl _ _)
          go_upto_if 86 with fail
          go_cut [] (fun wc => Hid (Below w4.heap.size w4 wc))
          case first =>
            by_cases hlt : s.first < s3.first
            · have hb3 : decide (s.first < s3.first) = true := decide_eq_true hlt
              obtain ⟨hq1, hq2⟩ := Hg.out hlt
              have hc9' := Hcut9.out
              obtain ⟨G, hG⟩ : ∃ t, t = (all'.drop s.first.toNat).take (s3.first.toNat - s.first.toNat) := ⟨_, rfl⟩
              rw [← hG] at hq1 hg4 HC9 hlen9
              obtain ⟨q, hq⟩ : ∃ q, q = s3.first - 1 := ⟨_, rfl⟩
              have hp1 : 0 ≤ q := by omega
              have hp2 : q < (all'.length : Int) := by omega
              have hqn : q.toNat = s3.first.toNat - 1 := by omega
              rw [← hq] at hq1 hq2
              clear hq
              obtain ⟨y, hy⟩ : ∃ t, t = rd_T29 all' q := ⟨_, rfl⟩
              rw [← hy] at hq1 hq2
              have HCG : Hid (Kd.C k29 w4 A9 G.length G) := Lib.hid (by
                obtain ⟨A, c, e, h1, h2⟩ := Kd.R_reads HRm.out
                injection e with e1 e2 e3
                subst e1
                exact HC9.out _ h2)
              obtain ⟨A8', c8', e8, -, hC8⟩ := Kd.R_reads HRm.out
              injection e8 with e81 e82 e83
              subst e81
              obtain ⟨ad8, rfl, hz0, hz1⟩ := at_T29 hC8 q hp1 hp2
              rw [← hy, hqn] at hz0 hz1
              have HZ0 := Lib.hid hz0
              have HZ1 := Lib.hid hz1
              have hgb := rms_nonneg G
              rw [hlen9.symm] at hc9'
              have hGb : G.length ≤ 140737488351232 := by rw [hlen9]; omega
              clear hG hy hC8 hz0 hz1 hlen9 e82 e83 HC9
              go_wp2
              clear hc9'
              go_loopg [15, 92] G.length (fun k v15 v92 W => ∃ (j : Nat), v15 = .int .i64 (rms (G.take j)) ∧ v92 = .int .i64 (j : Int) ∧ j ≤ G.length ∧ G.length ≤ k + j ∧ Hid (Below w4.heap.size w4 W))
              case atStart => exact ⟨0, by simp [rms], by simp, Nat.zero_le _, by omega, HW4⟩
              case round =>
                obtain ⟨j, rfl, rfl, hj, hkj, HBj⟩ := hrel
                have hr0 := rms_nonneg (G.take j)
                have hrl := rms_take_le G j
                by_cases hjl : j < G.length
                · obtain ⟨ad9, rfl, hx0, hx1⟩ := at_T29 (Kd.C_below HCG.out HBj.out) (j : Int) (by omega) (by omega)
                  rw [show (j : Int).toNat = j from Int.toNat_natCast j] at hx0 hx1
                  have hrt := rms_take_succ G j hjl
                  have hrl2 := rms_take_le G (j + 1)
                  have hrm := rm_lo (rd_T29 G j)
                  have hadl := World.block_lt_of_cell? wr _ hx0
                  obtain ⟨z, hz⟩ : ∃ t, t = rd_T29 G j := ⟨_, rfl⟩
                  rw [← hz] at hx0 hx1 hrt hrm
                  have hrmb : rm z ≤ 4611686018427387904 := by omega
                  obtain ⟨k1, rfl⟩ : ∃ k1, gk = k1 + 1 := ⟨gk - 1, by omega⟩
                  have hj1 : j + 1 ≤ G.length := hjl
                  have hk1' : G.length ≤ k1 + (j + 1) := by omega
                  have c1 : decide ((j : Int) < (G.length : Int)) = true := decide_eq_true (by omega)
                  have p1 : 0 ≤ (j : Int) := by omega
                  have p2 : (j : Int) < (G.length : Int) := by omega
                  have hwb : wrap64 ((j : Int) + 1) = (j : Int) + 1 := by clear hrt hrl2 hrm; unfold wrap64; omega
                  have hwa : wrap64 (rms (G.take j) + rm z) = rms (G.take (j + 1)) := by rw [hrt]; unfold wrap64; omega
                  have HWA := Lib.hid hwa
                  have HWB := Lib.hid hwb
                  clear hrt hrl2 hr0 hrl hz hlt hgb hwa hwb
                  go_wp2_with (first | (go_at_call 17; refine (room_calls z _ hrmb).mono ?_; rintro e w6 ⟨rfl, hb6⟩; have HB6 := Lib.hid (below_step (below_alloc HBj.out _) hb6); clear hb6))
                  go_roundg k1
                  case measure => omega
                  case rel => exact ⟨j + 1, congrArg (Value.int .i64) HWA.out, by first | exact congrArg (Value.int .i64) HWB.out | go_num, hj1, hk1', HB6⟩
                · have hjq : rms (G.take j) = rms G := by rw [show j = G.length by omega, List.take_length]
                  have hym := rm_lo y
                  have hb9 : decide (s.used + add - rms G + rm y ≤ s3.cap) = false := decide_eq_false (by omega)
                  have hymb : rm y ≤ 4611686018427387904 := by omega
                  have c1 : decide ((j : Int) < (G.length : Int)) = false := decide_eq_false (by omega)
                  have hw1 : wrap64 (s.used + add - rms (G.take j)) = s.used + add - rms G := by rw [hjq]; unfold wrap64; omega
                  have hw3 : wrap64 (s.used + add - rms G + rm y) = s.used + add - rms G + rm y := by unfold wrap64; omega
                  have hz0 := pw_cell_below HBj.out HZ0.out
                  have hz1 := pw_cell_below HBj.out HZ1.out
                  have HTj := Lib.hid (HTm.out.below HBj.out)
                  clear hr0 hrl hjq hlt hgb
                  go_wp2_with (first | (go_at_call 17; refine (room_calls y _ hymb).mono ?_; rintro e w6 ⟨rfl, hb6⟩; have HB6 := Lib.hid (below_step HBj.out hb6); have HT6 := Lib.hid (HTj.out.below hb6); clear hb6) | (go_at_call 12; refine (cap_made _ _ s3 HT6.out.at).mono ?_; rintro e w' ⟨rfl, h_⟩; obtain rfl := h_.symm))
                  go_meet
                  case rel => exact HB6
            · have hb3 : decide (s.first < s3.first) = false := decide_eq_false hlt
              go_wp2
              go_meet
              case rel => exact HW4
          case rest =>
            have HB4 := hcut
            have HBB := Lib.hid (below_step HBm.out HB4.out)
            have HTT := Lib.hid (HTm.out.below HB4.out)
            have HRR := Lib.hid (Kd.R_below HRm.out HB4.out)
            have HO3 := Lib.hid HW'.out.ord
            clear Hcut9 HC9 Hg hlen9
            have hlb2 : all'.length ≤ 140737488351232 := by omega
            have hfe : (s3.first : Int) = ((s3.first.toNat : Nat) : Int) := by omega
            have hf2 : s3.first.toNat ≤ all'.length := by omega
            have hf0 : 0 ≤ s3.first := by omega
            have HFE := Lib.hid hfe
            clear hfe hcut hg1 hg2 hg4
            go_wp2_with (first | (go_at_call 14; refine (first_made _ _ s3 HTT.out.at).mono ?_; rintro e w' ⟨rfl, h_⟩; obtain rfl := h_.symm))
            have HW5 : Hid (Below wc.heap.size wc wc) := Lib.hid (Below.refl _ _)
            go_loopg [18] all'.length (fun k v18 W => ∃ (m : Nat), v18 = .int .i64 (m : Int) ∧ s3.first.toNat ≤ m ∧ m ≤ all'.length ∧ all'.length ≤ k + m ∧ Hid (Below wc.heap.size wc W))
            case atStart => exact ⟨s3.first.toNat, congrArg (Value.int .i64) HFE.out, Nat.le_refl _, hf2, Nat.le_add_right _ _, HW5⟩
            case round =>
              obtain ⟨m, rfl, hm1, hm2, hkm, HBj⟩ := hrel
              have HBx := Lib.hid (show Below w.heap.size w wr from below_step HBB.out HBj.out)
              have HTj := Lib.hid (HTT.out.below HBj.out)
              have HRj := Lib.hid (Kd.R_below HRR.out HBj.out)
              have Hcj := Lib.hid (Hcount.out _ HTj.out)
              by_cases hml : m < all'.length
              · obtain ⟨A8', c8', e8, -, hC8⟩ := Kd.R_reads HRj.out
                injection e8 with e81 e82 e83
                subst e81
                obtain ⟨ad8, rfl, hz0, hz1⟩ := at_T29 hC8 (m : Int) (by omega) (by omega)
                rw [show (m : Int).toNat = m from Int.toNat_natCast m] at hz0 hz1
                have hyg : rd_T29 all' (m : Int) = rd_T29 s3.l ((m - s3.first.toNat : Nat) : Int) := by
                  have := HO3.out.at (m - s3.first.toNat) (by omega)
                  rw [← this]
                  congr 1
                  omega
                have hge : s3.get (m : Int) = (rd_T29 all' (m : Int), 0) := by
                  have := get_at s3 (m - s3.first.toNat) (by omega)
                  rw [hyg, ← this]
                  congr 1
                  omega
                have Hget : Hid (∀ W, TabAt W w.heap.size s3 → Calls Try.prog 16 #[.pointer (some ⟨w.heap.size, 0, none⟩), .int .i64 (m : Int)] W fun e w' => e = .returned (.tuple #[.agg #[.string (rd_T29 all' (m : Int)).f0, .string (rd_T29 all' (m : Int)).f1], .int .i64 0]) ∧ Below W.heap.size W w') := Lib.hid (fun W hW => by
                  have := get_made W _ s3 (m : Int) hW (by omega) (by omega)
                  rw [hge] at this
                  exact this)
                obtain ⟨y, hy⟩ : ∃ t, t = rd_T29 all' (m : Int) := ⟨_, rfl⟩
                rw [← hy] at hz0 hz1 Hget
                obtain ⟨k1, rfl⟩ : ∃ k1, gk = k1 + 1 := ⟨gk - 1, by omega⟩
                have hk1' : all'.length ≤ k1 + (m + 1) := by omega
                have c1 : decide ((m : Int) < (all'.length : Int)) = true := decide_eq_true (by omega)
                have hm3 : m + 1 ≤ all'.length := hml
                have hm4 : s3.first.toNat ≤ m + 1 := by omega
                have p1 : 0 ≤ (m : Int) := by omega
                have p2 : (m : Int) < (all'.length : Int) := by omega
                have HWB := Lib.hid (show wrap64 ((m : Int) + 1) = (m : Int) + 1 by unfold wrap64; omega)
                have HZ0 := Lib.hid hz0
                have HZ1 := Lib.hid hz1
                clear hyg hge hC8 e82 e83 hy hs3 hg3 hz0 hz1
                go_upto_region 29 with (first | (go_at_call 15; refine (Hcj.out).mono ?_; rintro e w' ⟨rfl, ⟨⟨n9, rfl⟩⟩⟩; have HBn := Lib.hid (pw_below_drewN (Below.refl wr.heap.size wr) n9); have HTn := Lib.hid (HTj.out.below HBn.out)) | (go_at_call 16; refine (Hget.out _ HTn.out.at).mono ?_; rintro e w6 ⟨rfl, hb6⟩; have HB6 := Lib.hid (below_step HBn.out hb6); have hz0 := pw_cell_below hb6 (pw_cell_below HBn.out HZ0.out); have hz1 := pw_cell_below hb6 (pw_cell_below HBn.out HZ1.out); clear hb6))
                have hadl6 := World.block_lt_of_cell? w6 _ hz0
                go_quiet (fail)
                go_wp2
                go_roundg k1
                case measure => omega
                case rel => exact ⟨m + 1, by first | exact congrArg (Value.int .i64) HWB.out | go_num, hm4, hm3, hk1', Lib.hid (below_step HBj.out (pw_below_drewN (below_alloc HB6.out _) _))⟩
              · have c1 : decide ((m : Int) < (all'.length : Int)) = false := decide_eq_false (by omega)
                clear hs3 hg3
                have hi3 : (i : Int) + 1 ≤ 140737488351232 := by omega
                go_wp2_with (first | (go_at_call 15; refine (Hcj.out).mono ?_; rintro e w' ⟨rfl, ⟨⟨n9, rfl⟩⟩⟩; have HBn := Lib.hid (below_step HBx.out (pw_below_drewN (Below.refl _ _) n9)); have HTn := Lib.hid (HTj.out.below (pw_below_drewN (Below.refl _ _) n9)); have HRn := Lib.hid (Kd.R_below HRj.out (pw_below_drewN (Below.refl _ _) n9))))
                have hwi : wrap64 ((i : Int) + 1) = (i : Int) + 1 := by unfold wrap64; omega
                go_roundg ko
                case measure => omega
                case rel => exact ⟨i + 1, s3, all', A8, c8, by go_num, rfl, hi1, hk2, HTn, Hs3.out, hlen', HO3, HRn, HBn⟩
    · have c0 : decide ((i : Int) < (l.length : Int)) = false := decide_eq_false (by omega)
      go_wp2
      go_ret
      exact ⟨rfl, HB.out⟩

theorem order_no (w : World) (most : Int) (A : Option Addr) (c : Nat) (l : List S31) (h : most < 0 ∨ 4096 < most) :
    Calls Try.prog 4 #[.int .i64 most, .slice A l.length c] w fun e w' => e = .returned (.bool true) ∧ Below w.heap.size w w' := by
  have Hn := Lib.hid (new_no w most h)
  go_enter Try.func4, Try.ntmps4
  go_wp2_with (first | (go_at_call 9; refine Hn.out.mono ?_; rintro e w' ⟨rfl, rfl⟩) | (go_at_call 10; refine (alive_calls _).mono ?_; rintro e w' ⟨rfl, hb⟩; have HB := Lib.hid hb; clear hb))
  go_ret
  exact ⟨rfl, HB.out⟩

theorem order_any (w : World) (most : Int) (A : Option Addr) (c : Nat) (l : List S31) (hC : Kd.C k31 w A l.length l) (hl : l.length * 48 ≤ 140737488351232) (ha : ActsOk l) :
    Calls Try.prog 4 #[.int .i64 most, .slice A l.length c] w fun e w' => e = .returned (.bool true) ∧ Below w.heap.size w w' := by
  by_cases h : most < 0 ∨ 4096 < most
  · exact order_no w most A c l h
  · exact order_yes w most A c l (by omega) (by omega) hC hl ha
end Go.Proofs.Ytakdfjehjnhikaa.Q
