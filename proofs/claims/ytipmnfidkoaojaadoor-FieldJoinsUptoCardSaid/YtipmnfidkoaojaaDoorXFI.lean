import Derived.Test.YtipmnfidkoaojaaDoorXFH
import Derived.Test.YtipmnfidkoaojaaDoorXGxf15


/- alive. -/
namespace Go.Proofs.YtipmnfidkoaojaaDoor.Fb
open Go.RowKit Go.Proofs.YtipmnfidkoaojaaDoorW.PrintWords Go.Proofs.YtipmnfidkoaojaaDoorW.PrintLast Go.Proofs.YtipmnfidkoaojaaDoorW.PrintMore Go.Proofs.YtipmnfidkoaojaaDoor.G
set_option linter.unusedVariables false
set_option linter.unusedSimpArgs false
theorem C_one45 {w : World} {g : Nat} {a b : ByteArray} (h : w.heap[g]? = some (.cells #[.string a, .string b] 45 (0, 0))) : Kd.C k45 w (some ⟨g, 0, none⟩) [(⟨a, b⟩ : S45)].length [⟨a, b⟩] := by
  refine ⟨rfl, by simp only [List.length_cons, List.length_nil]; decide, fun _ => ⟨⟨g, 0, none⟩, rfl, fun j p hj => ?_⟩⟩
  rcases j with _ | j
  · obtain rfl := Option.some.inj hj
    refine ⟨[.string a, .string b], rfl, ⟨[.string a], [.string b], rfl, rfl, rfl⟩, fun i v hi => ?_⟩
    rcases i with _ | _ | i
    · obtain rfl := Option.some.inj hi; exact c_of h 0 rfl
    · obtain rfl := Option.some.inj hi; exact c_of h 1 rfl
    · simp at hi
  · simp at hj
theorem C_two31 {w : World} {g : Nat} {a b c d : Int} (h : w.heap[g]? = some (.cells #[.int .i64 a, .int .i64 b, .int .i64 c, .int .i64 d] 31 (0, 0))) : Kd.C k31 w (some ⟨g, 0, none⟩) [(⟨a, b⟩ : S31), ⟨c, d⟩].length [⟨a, b⟩, ⟨c, d⟩] := by
  refine ⟨rfl, by simp only [List.length_cons, List.length_nil]; decide, fun _ => ⟨⟨g, 0, none⟩, rfl, fun j p hj => ?_⟩⟩
  rcases j with _ | _ | j
  · obtain rfl := Option.some.inj hj
    refine ⟨[.int .i64 a, .int .i64 b], rfl, k31_mk w ⟨a, b⟩, fun i v hi => ?_⟩
    rcases i with _ | _ | i
    · obtain rfl := Option.some.inj hi; exact c_of h 0 rfl
    · obtain rfl := Option.some.inj hi; exact c_of h 1 rfl
    · simp at hi
  · obtain rfl := Option.some.inj hj
    refine ⟨[.int .i64 c, .int .i64 d], rfl, k31_mk w ⟨c, d⟩, fun i v hi => ?_⟩
    rcases i with _ | _ | i
    · obtain rfl := Option.some.inj hi; exact c_of h 2 rfl
    · obtain rfl := Option.some.inj hi; exact c_of h 3 rfl
    · simp at hi
  · simp at hj
def AF : S45 := ⟨CACHE, ⟨#[109, 97, 120, 45, 97, 103, 101, 61, 34, 54, 48, 34, 44, 32, 78, 111, 45, 83, 116, 111, 114, 101]⟩⟩
def AC : Ct := dirs (V.elements (V.allL [AF] CACHE))
theorem ac_6 : AC.nm 6 = 60 := by decide +kernel
theorem ac_7 : AC.nm 7 = -1 := by decide +kernel
theorem ac_0 : AC.fl 0 = true := by decide +kernel
theorem ac_wt : V.wt [AF] < 268435456 := by decide +kernel
def AR : ByteArray := ⟨#[98, 121, 116, 101, 115, 61, 48, 45, 49, 44, 32, 45, 49]⟩
theorem ar_v : (rangesV AR 10).1.map (fun x => (x.f0, x.f1)) = [(0, 1), (9, 9)] ∧ (rangesV AR 10).2 = 0 := by decide +kernel
theorem same_y : turnbuckleref05_Same.f 10 [⟨0, 1⟩, ⟨9, 9⟩] [⟨0, 1⟩, ⟨9, 9⟩] = some true := by decide +kernel
set_option maxRecDepth 100000 in
set_option maxHeartbeats 4000000 in
theorem alive_q (w : World) (hG : Glob w) : Calls Tryd.prog 8 #[] w fun e w' => e = .returned (.bool true) ∧ Below w.heap.size w w' := by
  have HG := Lib.hid hG
  have HD := Lib.hid (fun W c h1 h2 h3 => directives_q (some ⟨W, 0, none⟩) 1 [AF] c h1 h2 ac_wt h3)
  have e0 := ac_0; have e6 := ac_6; have e7 := ac_7
  unfold AC at e0 e6 e7
  obtain ⟨C, hC⟩ : ∃ C, C = dirs (V.elements (V.allL [AF] CACHE)) := ⟨_, rfl⟩
  rw [← hC] at HD e0 e6 e7
  have HRG := Lib.hid (fun W m h => ranges_q AR 10 m W h (by decide))
  obtain ⟨X, hX⟩ : ∃ X, X = (rangesV AR 10).1 := ⟨_, rfl⟩
  obtain ⟨er, her⟩ : ∃ er, er = (rangesV AR 10).2 := ⟨_, rfl⟩
  have h1 := ar_v
  rw [← hX, ← her] at h1
  rw [← hX, ← her] at HRG
  obtain ⟨h1, rfl⟩ := h1
  have eX : X = [⟨0, 1⟩, ⟨9, 9⟩] := by
    rcases X with _ | ⟨⟨a, b⟩, _ | ⟨⟨c, d⟩, _ | ⟨x, t⟩⟩⟩ <;> simp at h1
    obtain ⟨⟨rfl, rfl⟩, rfl, rfl⟩ := h1
    rfl
  subst eX
  clear hC hX her h1 hG
  unfold Ct.cells at HD
  rw [e0, e6, e7] at HD
  clear e0 e6 e7
  go_enter Tryd.func8, Tryd.ntmps8
  go_upto_region 2 with (go_at_call 14; refine (HD.out w.heap.size _ (C_one45 (heap_alloc_new _ _)) (Nat.le_refl _) (HG.out.below (below_alloc (Below.refl _ _) _))).mono ?_; rintro e_ w1 ⟨rfl, hb1⟩; have HB1 : Hid (Below w.heap.size w w1) := Lib.hid (below_step (below_alloc (Below.refl _ _) _) hb1); clear hb1)
  obtain ⟨W1, hW1⟩ : ∃ W, W = w1.alloc (.cells #[.bool true, .bool (C.fl 1), .bool (C.fl 2), .bool (C.fl 3), .bool (C.fl 4), .bool (C.fl 5), .int .i64 60, .int .i64 (-1), .int .i64 (C.nm 8), .int .i64 (C.nm 9), .int .i64 (C.nm 10), .int .i64 (C.nm 11)] 42) := ⟨_, rfl⟩
  rw [← hW1]
  have HX : Hid (W1.heap[w1.heap.size]? = some (.cells #[.bool true, .bool (C.fl 1), .bool (C.fl 2), .bool (C.fl 3), .bool (C.fl 4), .bool (C.fl 5), .int .i64 60, .int .i64 (-1), .int .i64 (C.nm 8), .int .i64 (C.nm 9), .int .i64 (C.nm 10), .int .i64 (C.nm 11)] 42 (0, 0))) := Lib.hid (by rw [hW1]; exact heap_alloc_new _ _)
  have HB2 : Hid (Below w.heap.size w W1) := Lib.hid (by rw [hW1]; exact below_alloc HB1.out _)
  clear hW1
  obtain ⟨m, hm⟩ := (HG.out.below HB2.out).mx
  have HM := Lib.hid hm
  clear hm
  go_upto_region 3 with (go_at_call 9; refine (HRG.out _ m HM.out).mono ?_; rintro e_ w2 ⟨⟨A, c, rfl, hC, hl⟩, hb2⟩; have HX2 := Lib.hid (blk_bel hb2 HX.out); have HB3 := Lib.hid (below_step HB2.out hb2); have HC := Lib.hid hC; have HCl := Lib.hid hl; have l6 := c_of HX2.out 6 (v := .int .i64 60) rfl; have l0 := c_of HX2.out 0 (v := .bool true) rfl; have l7 := c_of HX2.out 7 (v := .int .i64 (-1)) rfl; clear hb2 hC hl)
  have hlt := blk_lt HX2.out
  go_wp2_with (go_at_call 15; refine (turnbuckleref05_Same.calls 10 A c [⟨0, 1⟩, ⟨9, 9⟩] (some ⟨w2.heap.size, 0, none⟩) 2 [⟨0, 1⟩, ⟨9, 9⟩] true _ (Kd.C_below HC.out (below_alloc (Below.refl _ _) _)) HCl.out (C_two31 (heap_alloc_new _ _)) (Nat.le_refl _) same_y).mono ?_; rintro e_ w3 ⟨rfl, hd3⟩; have HB4 := Lib.hid (below_step (below_alloc HB3.out _) hd3.below); clear hd3)
  go_ret
  exact ⟨rfl, HB4.out⟩
end Go.Proofs.YtipmnfidkoaojaaDoor.Fb

