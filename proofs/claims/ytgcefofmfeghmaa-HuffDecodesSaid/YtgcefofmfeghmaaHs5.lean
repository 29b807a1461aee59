import Derived.Test.YtgcefofmfeghmaaHs4
import Derived.Outline
/- sort.symMerge_func, at one element on one side -/
namespace Go.Proofs.Ytgcefofmfeghmaa.St
open Go.Shelf Go.RowKit Go.Lib Go.Sort
set_option linter.unusedVariables false
set_option linter.unusedSimpArgs false
variable {enc : Int → Value}

set_option maxRecDepth 100000 in
set_option maxHeartbeats 4000000 in
theorem sm_first (K : Int → Int) (g : Nat) (lb : Array Value) (sf : Nat) (sb : Array Value) (blk off : Nat) (d : Array Int) (W : World) (hH : Holds enc W blk off d) (hblk : blk < W.heap.size)
    (eg : ∀ args w, (callFunc g args).run Try.prog w = .ok (.enter g args) w) (hless : LessReads Try.prog g lb enc (ltK K) blk off d.size W) (hswap : SwapSwaps Try.prog sf sb enc blk off d.size) (hsz : d.size < 4611686018427387904)
    (a m b : Nat) (hm : m = a + 1) (hab : a + 1 < b) (hb : b ≤ d.size) (h2 : Sorted K (a + 1) b d) (hx : Cross a (a + 1) b d) :
    Calls Try.prog 52 #[dat g lb sf sb, .int .i64 (a : Int), .int .i64 (m : Int), .int .i64 (b : Int)] W fun e w' => e = .returned (.tuple #[]) ∧ ∃ d', SW enc W blk off d' w' ∧ PermIn a b d d' ∧ Sorted K a b d' := by
  have HH := Lib.hid hH
  have HL := Lib.hid (fun (x : Array Int) (w : World) (hx : SW enc W blk off x w) (hxs : x.size = d.size) (p q : Nat) (h1 : p < d.size) (h2 : q < d.size) => SW.less hx hless hxs p q h1 h2)
  have HSW := Lib.hid hswap
  have H2 := Lib.hid h2
  have HX := Lib.hid hx
  have HM := Lib.hid hm
  have hm1 : m ≤ a + 1 := by omega
  have hm2 : a + 1 ≤ m := by omega
  have hc : ((m : Int) - (a : Int) == 1) = true := beq_iff_eq.2 (by omega)
  clear hH hswap hless h2 hx hm
  go_enter Try.func52, Try.ntmps52
  go_wp2
  obtain ⟨W1, hW1⟩ : ∃ W1, W1 = W.alloc (.cells #[.func (.func g) #[] lb, .func (.func sf) #[] sb] 70) := ⟨_, rfl⟩
  have H1 : Hid (SW enc W blk off d W1) := Lib.hid (by rw [hW1]; exact (SW.start HH.out).alloc _)
  have hc1 : W1.cell? ⟨W.heap.size, 1, none⟩ = some (.func (.func sf) #[] sb) := by rw [hW1]; simp
  have hc0 : W1.cell? ⟨W.heap.size, 0, none⟩ = some (.func (.func g) #[] lb) := by rw [hW1]; simp
  have hz1 : W1.heap.size = W.heap.size + 1 := by rw [hW1]; simp
  rw [← hW1]
  clear hW1
  go_loopg [8, 9, 10] (b - m) (fun k v8 v9 v10 wr => ∃ (i j : Nat), v8 = .int .i64 (i : Int) ∧ v9 = .int .i64 (j : Int) ∧ m ≤ i ∧ i ≤ j ∧ j ≤ b ∧ j - i ≤ k ∧ Hid (SW enc W blk off d wr) ∧ wr.cell? ⟨W.heap.size, 0, none⟩ = some (.func (.func g) #[] lb) ∧ wr.cell? ⟨W.heap.size, 1, none⟩ = some (.func (.func sf) #[] sb) ∧ Hid ((∀ k, m ≤ k → k < i → K d[k]! < K d[a]!) ∧ (∀ k, j ≤ k → k < b → ¬ K d[k]! < K d[a]!)))
  case atStart => exact ⟨m, b, rfl, rfl, by omega, by omega, by omega, by omega, H1, hc0, hc1, Lib.hid ⟨fun k _ _ => by omega, fun k _ _ => by omega⟩⟩
  case round =>
    obtain ⟨i, j, rfl, rfl, hi, hij, hj, hk, HS, c0, c1, HB⟩ := hrel
    by_cases hlt : i < j
    · have t1 : decide ((i : Int) < (j : Int)) = true := decide_eq_true (by omega)
      obtain ⟨h, hh⟩ : ∃ h : Nat, (h : Int) = ((i : Int) + (j : Int)) / 2 := ⟨(i + j) / 2, by omega⟩
      have hh1 : i ≤ h := by omega
      have hh2 : h < j := by omega
      have HHH := Lib.hid hh
      clear hh
      obtain ⟨ko, rfl⟩ : ∃ ko, gk = ko + 1 := ⟨gk - 1, by omega⟩
      have HC := Lib.hid (HL.out d wr HS.out rfl h a (by omega) (by omega))
      by_cases hb' : K d[h]! < K d[a]!
      · rw [show ltK K d[h]! d[a]! = true from decide_eq_true hb'] at HC
        have HB2 : Hid _ := Lib.hid hb'
        clear hb'
        go_wp2_with fail
        rw [← HHH.out]
        refine HC.out.mono ?_
        rintro e w2 ⟨rfl, q, rfl⟩
        go_wp2
        go_roundg ko
        case measure => omega
        case rel => exact ⟨h + 1, j, by go_num, rfl, by omega, by omega, hj, by omega, Lib.hid (HS.out.drewN q), by simpa using c0, by simpa using c1, Lib.hid ⟨fun k h1 h2' => by
            rcases Nat.lt_or_ge k i with c | c
            · exact HB.out.1 k h1 c
            · have := H2.out.le_of (i := k) (j := h) (by omega) (by omega) (by omega)
              have := HB2.out
              unfold le at *; omega, HB.out.2⟩⟩
      · rw [show ltK K d[h]! d[a]! = false from decide_eq_false hb'] at HC
        have HB2 : Hid _ := Lib.hid hb'
        clear hb'
        go_wp2_with fail
        rw [← HHH.out]
        refine HC.out.mono ?_
        rintro e w2 ⟨rfl, q, rfl⟩
        go_wp2
        go_roundg ko
        case measure => omega
        case rel => exact ⟨i, h, rfl, rfl, by omega, by omega, by omega, by omega, Lib.hid (HS.out.drewN q), by simpa using c0, by simpa using c1, Lib.hid ⟨HB.out.1, fun k h1 h2' => by
            rcases Nat.lt_or_ge k j with c | c
            · have := H2.out.le_of (i := h) (j := k) (by omega) (by omega) (by omega)
              have := HB2.out
              unfold le at *; omega
            · exact HB.out.2 k c h2'⟩⟩
    · have t0 : decide ((i : Int) < (j : Int)) = false := decide_eq_false (by omega)
      obtain rfl : i = j := by omega
      go_wp2
      go_loopg [11] (i - 1 - a) (fun k v11 wr2 => ∃ (r : Nat) (x : Array Int), v11 = .int .i64 (r : Int) ∧ a ≤ r ∧ r ≤ i - 1 ∧ i - 1 - r ≤ k ∧ Hid (SW enc W blk off x wr2) ∧ wr2.cell? ⟨W.heap.size, 1, none⟩ = some (.func (.func sf) #[] sb) ∧ Hid (PermIn a b d x) ∧ Hid (∀ k, x[k]! = if a ≤ k ∧ k < r then d[k + 1]! else if k = r then d[a]! else d[k]!))
      case atStart => exact ⟨a, d, rfl, by omega, by omega, by omega, HS, c1, Lib.hid (permIn_refl _ _ _), Lib.hid (fun k => by
          rw [if_neg (by omega)]
          by_cases e : k = a
          · rw [if_pos e, e]
          · rw [if_neg e])⟩
      case round =>
        obtain ⟨r, x, rfl, hr1, hr2, hrk, HSX, c1', HP, HV⟩ := hrel
        have hxs : x.size = d.size := HP.out.1
        have HXS := Lib.hid hxs
        clear hxs
        by_cases hrl : r < i - 1
        · have t2 : decide ((r : Int) < (i : Int) - 1) = true := decide_eq_true (by omega)
          have hsw := HSW.out wr x (HSX.out.holds hblk HH.out HXS.out) HXS.out r (r + 1) (by omega) (by omega)
          rw [show (((r + 1 : Nat) : Int)) = (r : Int) + 1 by omega] at hsw
          have HSW1 := Lib.hid hsw
          have HX2 := Lib.hid (HSX.out.swap hblk r (r + 1) (by rw [HXS.out]; omega) (by rw [HXS.out]; omega))
          obtain ⟨ko, rfl⟩ : ∃ ko, gk = ko + 1 := ⟨gk - 1, by omega⟩
          clear hsw
          go_wp2_with fail
          rw [HSW1.out, Oper.upon_value]
          have hcn : ((wr.setCell ⟨blk, off + r, none⟩ (enc x[r + 1]!)).setCell ⟨blk, off + (r + 1), none⟩ (enc x[r]!)).cell? ⟨W.heap.size, 1, none⟩ = some (.func (.func sf) #[] sb) := by
            rw [World.cell?_setCell_other _ _ _ _ (by intro e; injection e with e1; omega), World.cell?_setCell_other _ _ _ _ (by intro e; injection e with e1; omega)]
            exact c1'
          go_wp2
          go_roundg ko
          case measure => omega
          case rel => exact ⟨r + 1, swp x r (r + 1), by go_num, by omega, by omega, by omega, HX2, hcn, Lib.hid (permIn_trans _ _ _ _ _ HP.out (swp_permIn _ _ _ _ _ (by omega) (by omega) (by omega) (by omega) (by rw [HXS.out]; exact hb))), Lib.hid (fun k => by
              rw [swp_view _ _ _ (by rw [HXS.out]; omega) (by rw [HXS.out]; omega) (by omega), HV.out, HV.out, HV.out]
              repeat' split
              all_goals first | (exfalso; omega) | (congr 1; omega) | rfl)⟩
        · have t2 : decide ((r : Int) < (i : Int) - 1) = false := decide_eq_false (by omega)
          obtain rfl : r = i - 1 := by omega
          go_wp2
          (try simp only [Exit.inBlock, Exit.then])
          refine bodyPost_ret (results_none rfl _ _ _) rfl ?_
          exact ⟨rfl, x, HSX.out, HP.out, merge_first (i := i) hab H2.out HX.out (by omega) hj (fun k h1 h2' => HB.out.1 k (by omega) h2') (fun k h1 h2' => Int.not_lt.2 (HB.out.2 k h1 h2')) HP.out HV.out⟩

set_option maxRecDepth 100000 in
set_option maxHeartbeats 4000000 in
theorem sm_last (K : Int → Int) (g : Nat) (lb : Array Value) (sf : Nat) (sb : Array Value) (blk off : Nat) (d : Array Int) (W : World) (hH : Holds enc W blk off d) (hblk : blk < W.heap.size)
    (eg : ∀ args w, (callFunc g args).run Try.prog w = .ok (.enter g args) w) (hless : LessReads Try.prog g lb enc (ltK K) blk off d.size W) (hswap : SwapSwaps Try.prog sf sb enc blk off d.size) (hsz : d.size < 4611686018427387904)
    (a m b : Nat) (hm : b = m + 1) (hab : a + 1 < m) (hb : m + 1 ≤ d.size) (h2 : Sorted K a m d) (hx : Cross a m (m + 1) d) :
    Calls Try.prog 52 #[dat g lb sf sb, .int .i64 (a : Int), .int .i64 (m : Int), .int .i64 (b : Int)] W fun e w' => e = .returned (.tuple #[]) ∧ ∃ d', SW enc W blk off d' w' ∧ PermIn a (m + 1) d d' ∧ Sorted K a (m + 1) d' := by
  have HH := Lib.hid hH
  have HL := Lib.hid (fun (x : Array Int) (w : World) (hx : SW enc W blk off x w) (hxs : x.size = d.size) (p q : Nat) (h1 : p < d.size) (h2 : q < d.size) => SW.less hx hless hxs p q h1 h2)
  have HSW := Lib.hid hswap
  have H2 := Lib.hid h2
  have HX := Lib.hid hx
  have HM := Lib.hid hm
  have hm1 : b ≤ m + 1 := by omega
  have hm2 : m + 1 ≤ b := by omega
  have hc0 : ((m : Int) - (a : Int) == 1) = false := beq_eq_false_iff_ne.2 (by omega)
  have hc : ((b : Int) - (m : Int) == 1) = true := beq_iff_eq.2 (by omega)
  clear hH hswap hless h2 hx hm
  go_enter Try.func52, Try.ntmps52
  go_wp2
  obtain ⟨W1, hW1⟩ : ∃ W1, W1 = W.alloc (.cells #[.func (.func g) #[] lb, .func (.func sf) #[] sb] 70) := ⟨_, rfl⟩
  have H1 : Hid (SW enc W blk off d W1) := Lib.hid (by rw [hW1]; exact (SW.start HH.out).alloc _)
  have hc1 : W1.cell? ⟨W.heap.size, 1, none⟩ = some (.func (.func sf) #[] sb) := by rw [hW1]; simp
  have hc0 : W1.cell? ⟨W.heap.size, 0, none⟩ = some (.func (.func g) #[] lb) := by rw [hW1]; simp
  have hz1 : W1.heap.size = W.heap.size + 1 := by rw [hW1]; simp
  rw [← hW1]
  clear hW1
  go_loopg [12, 13, 14] (m - a) (fun k v8 v9 v10 wr => ∃ (i j : Nat), v8 = .int .i64 (i : Int) ∧ v9 = .int .i64 (j : Int) ∧ a ≤ i ∧ i ≤ j ∧ j ≤ m ∧ j - i ≤ k ∧ Hid (SW enc W blk off d wr) ∧ wr.cell? ⟨W.heap.size, 0, none⟩ = some (.func (.func g) #[] lb) ∧ wr.cell? ⟨W.heap.size, 1, none⟩ = some (.func (.func sf) #[] sb) ∧ Hid ((∀ k, a ≤ k → k < i → ¬ K d[m]! < K d[k]!) ∧ (∀ k, j ≤ k → k < m → K d[m]! < K d[k]!)))
  case atStart => exact ⟨a, m, rfl, rfl, by omega, by omega, by omega, by omega, H1, hc0, hc1, Lib.hid ⟨fun k _ _ => by omega, fun k _ _ => by omega⟩⟩
  case round =>
    obtain ⟨i, j, rfl, rfl, hi, hij, hj, hk, HS, c0, c1, HB⟩ := hrel
    by_cases hlt : i < j
    · have t1 : decide ((i : Int) < (j : Int)) = true := decide_eq_true (by omega)
      obtain ⟨h, hh⟩ : ∃ h : Nat, (h : Int) = ((i : Int) + (j : Int)) / 2 := ⟨(i + j) / 2, by omega⟩
      have hh1 : i ≤ h := by omega
      have hh2 : h < j := by omega
      have HHH := Lib.hid hh
      clear hh
      obtain ⟨ko, rfl⟩ : ∃ ko, gk = ko + 1 := ⟨gk - 1, by omega⟩
      have HC := Lib.hid (HL.out d wr HS.out rfl m h (by omega) (by omega))
      by_cases hb' : K d[m]! < K d[h]!
      · rw [show ltK K d[m]! d[h]! = true from decide_eq_true hb'] at HC
        have HB2 : Hid _ := Lib.hid hb'
        clear hb'
        go_wp2_with fail
        rw [← HHH.out]
        refine HC.out.mono ?_
        rintro e w2 ⟨rfl, q, rfl⟩
        go_wp2
        go_roundg ko
        case measure => omega
        case rel => exact ⟨i, h, rfl, rfl, by omega, by omega, by omega, by omega, Lib.hid (HS.out.drewN q), by simpa using c0, by simpa using c1, Lib.hid ⟨HB.out.1, fun k h1 h2' => by
            rcases Nat.lt_or_ge k j with c | c
            · have := H2.out.le_of (i := h) (j := k) (by omega) (by omega) (by omega)
              have := HB2.out
              unfold le at *; omega
            · exact HB.out.2 k c h2'⟩⟩
      · rw [show ltK K d[m]! d[h]! = false from decide_eq_false hb'] at HC
        have HB2 : Hid _ := Lib.hid hb'
        clear hb'
        go_wp2_with fail
        rw [← HHH.out]
        refine HC.out.mono ?_
        rintro e w2 ⟨rfl, q, rfl⟩
        go_wp2
        go_roundg ko
        case measure => omega
        case rel => exact ⟨h + 1, j, by go_num, rfl, by omega, by omega, hj, by omega, Lib.hid (HS.out.drewN q), by simpa using c0, by simpa using c1, Lib.hid ⟨fun k h1 h2' => by
            rcases Nat.lt_or_ge k i with c | c
            · exact HB.out.1 k h1 c
            · have := H2.out.le_of (i := k) (j := h) (by omega) (by omega) (by omega)
              have := HB2.out
              unfold le at *; omega, HB.out.2⟩⟩
    · have t0 : decide ((i : Int) < (j : Int)) = false := decide_eq_false (by omega)
      obtain rfl : i = j := by omega
      go_wp2
      go_loopg [15] (m - i) (fun k v11 wr2 => ∃ (r : Nat) (x : Array Int), v11 = .int .i64 (r : Int) ∧ i ≤ r ∧ r ≤ m ∧ r - i ≤ k ∧ Hid (SW enc W blk off x wr2) ∧ wr2.cell? ⟨W.heap.size, 1, none⟩ = some (.func (.func sf) #[] sb) ∧ Hid (PermIn a (m + 1) d x) ∧ Hid (∀ k, x[k]! = if r < k ∧ k ≤ m then d[k - 1]! else if k = r then d[m]! else d[k]!))
      case atStart => exact ⟨m, d, rfl, by omega, by omega, by omega, HS, c1, Lib.hid (permIn_refl _ _ _), Lib.hid (fun k => by
          rw [if_neg (by omega)]
          by_cases e : k = m
          · rw [if_pos e, e]
          · rw [if_neg e])⟩
      case round =>
        obtain ⟨r, x, rfl, hr1, hr2, hrk, HSX, c1', HP, HV⟩ := hrel
        have hxs : x.size = d.size := HP.out.1
        have HXS := Lib.hid hxs
        clear hxs
        by_cases hrl : i < r
        · have t2 : decide ((i : Int) < (r : Int)) = true := decide_eq_true (by omega)
          have hsw := HSW.out wr x (HSX.out.holds hblk HH.out HXS.out) HXS.out r (r - 1) (by omega) (by omega)
          rw [show (((r - 1 : Nat) : Int)) = (r : Int) - 1 by omega] at hsw
          have HSW1 := Lib.hid hsw
          have HX2 := Lib.hid (HSX.out.swap hblk r (r - 1) (by rw [HXS.out]; omega) (by rw [HXS.out]; omega))
          obtain ⟨ko, rfl⟩ : ∃ ko, gk = ko + 1 := ⟨gk - 1, by omega⟩
          clear hsw
          go_wp2_with fail
          rw [HSW1.out, Oper.upon_value]
          have hcn : ((wr.setCell ⟨blk, off + r, none⟩ (enc x[r - 1]!)).setCell ⟨blk, off + (r - 1), none⟩ (enc x[r]!)).cell? ⟨W.heap.size, 1, none⟩ = some (.func (.func sf) #[] sb) := by
            rw [World.cell?_setCell_other _ _ _ _ (by intro e; injection e with e1; omega), World.cell?_setCell_other _ _ _ _ (by intro e; injection e with e1; omega)]
            exact c1'
          go_wp2
          go_roundg ko
          case measure => omega
          case rel => exact ⟨r - 1, swp x r (r - 1), by go_num, by omega, by omega, by omega, HX2, hcn, Lib.hid (permIn_trans _ _ _ _ _ HP.out (swp_permIn _ _ _ _ _ (by omega) (by omega) (by omega) (by omega) (by rw [HXS.out]; exact hb))), Lib.hid (fun k => by
              rw [swp_view _ _ _ (by rw [HXS.out]; omega) (by rw [HXS.out]; omega) (by omega), HV.out, HV.out, HV.out]
              repeat' split
              all_goals first | (exfalso; omega) | (congr 1; omega) | rfl)⟩
        · have t2 : decide ((i : Int) < (r : Int)) = false := decide_eq_false (by omega)
          obtain rfl : r = i := by omega
          go_wp2
          (try simp only [Exit.inBlock, Exit.then])
          refine bodyPost_ret (results_none rfl _ _ _) rfl ?_
          exact ⟨rfl, x, HSX.out, HP.out, merge_last (i := r) (by omega) H2.out HX.out (by omega) hj (fun k h1 h2' => Int.not_lt.2 (HB.out.1 k h1 h2')) HB.out.2 HV.out⟩
end Go.Proofs.Ytgcefofmfeghmaa.St
