import Derived.Test.YtgcefofmfeghmaaHs3
/- sort.rotate_func -/
namespace Go.Proofs.Ytgcefofmfeghmaa.St
open Go.Shelf Go.RowKit Go.Lib Go.Sort
set_option linter.unusedVariables false
set_option linter.unusedSimpArgs false
variable {enc : Int → Value}

theorem hold_on {w0 W : World} {blk off : Nat} {d d' : Array Int} (h : SW enc w0 blk off d' W) (hblk : blk < w0.heap.size) (hH : Holds enc w0 blk off d) (hs : d'.size = d.size) : Holds enc W blk off d' := h.holds hblk hH hs

set_option maxRecDepth 100000 in
set_option maxHeartbeats 4000000 in
theorem rotate_calls (g : Nat) (lb : Array Value) (sf : Nat) (sb : Array Value) (blk off : Nat) (d : Array Int) (W : World) (hH : Holds enc W blk off d) (hblk : blk < W.heap.size)
    (hswap : SwapSwaps Try.prog sf sb enc blk off d.size) (hsz : d.size < 4611686018427387904)
    (a m b : Nat) (ham : a < m) (hmb : m < b) (hb : b ≤ d.size) :
    Calls Try.prog 53 #[dat g lb sf sb, .int .i64 (a : Int), .int .i64 (m : Int), .int .i64 (b : Int)] W fun e w' => e = .returned (.tuple #[]) ∧ ∃ d', SW enc W blk off d' w' ∧ PermIn a b d d' ∧ ∀ k, d'[k]! = RotV (fun k => d[k]!) a m b k := by
  have HH := Lib.hid hH
  have HC := Lib.hid (fun (x : Array Int) (w : World) (hx : SW enc W blk off x w) (hxs : x.size = d.size) (p q n : Nat) (h1 : p + n ≤ q) (h2 : q + n ≤ d.size) => swapRange_calls g lb sf sb blk off x w (hx.holds hblk hH hxs) (hx.lt hblk) (by rw [hxs]; exact hswap) (by omega) p q n h1 (by omega))
  clear hH hswap
  go_enter Try.func53, Try.ntmps53
  go_wp2
  obtain ⟨W1, hW1⟩ : ∃ W1, W1 = W.alloc (.cells #[.func (.func g) #[] lb, .func (.func sf) #[] sb] 70) := ⟨_, rfl⟩
  have H1 : Hid (SW enc W blk off d W1) := Lib.hid (by rw [hW1]; exact (SW.start HH.out).alloc _)
  have hc1 : W1.cell? ⟨W.heap.size, 1, none⟩ = some (.func (.func sf) #[] sb) := by rw [hW1]; simp
  have hc0 : W1.cell? ⟨W.heap.size, 0, none⟩ = some (.func (.func g) #[] lb) := by rw [hW1]; simp
  have hz1 : W1.heap.size = W.heap.size + 1 := by rw [hW1]; simp
  rw [← hW1]
  clear hW1
  go_loopg [8, 9] (m - a + (b - m)) (fun k v8 v9 wr => ∃ (i j : Nat) (x : Array Int), v8 = .int .i64 (i : Int) ∧ v9 = .int .i64 (j : Int) ∧ 0 < i ∧ 0 < j ∧ a + i ≤ m ∧ m + j ≤ b ∧ i + j ≤ k ∧ Hid (SW enc W blk off x wr) ∧ Hid (wr.cell? ⟨W.heap.size, 0, none⟩ = some (.func (.func g) #[] lb) ∧ wr.cell? ⟨W.heap.size, 1, none⟩ = some (.func (.func sf) #[] sb)) ∧ W.heap.size < wr.heap.size ∧ Hid (PermIn a b d x) ∧ Hid (∀ k, RotV (fun k => x[k]!) (m - i) m (m + j) k = RotV (fun k => d[k]!) a m b k))
  case atStart => exact ⟨m - a, b - m, d, by go_num, by go_num, by omega, by omega, by omega, by omega, by omega, H1, Lib.hid ⟨hc0, hc1⟩, by omega, Lib.hid (permIn_refl _ _ _), Lib.hid (fun k => by rw [show m - (m - a) = a by omega, show m + (b - m) = b by omega])⟩
  case round =>
    obtain ⟨i, j, x, rfl, rfl, hi, hj, hai, hjb, hk, HX, HCC, hwz, HP, HV⟩ := hrel
    have c0 := HCC.out.1
    have c1 := HCC.out.2
    have HCX := Lib.hid (fun p q n h1 h2 => HC.out x wr HX.out HP.out.1 p q n h1 h2)
    by_cases hij : i = j
    · subst hij
      have hb0 : ((i : Int) != (i : Int)) = false := by simp
      have Hc := Lib.hid (HCX.out (m - i) m i (by omega) (by omega))
      rw [show ((m - i : Nat) : Int) = (m : Int) - (i : Int) by omega] at Hc
      go_wp2_with (first | (go_at_call 54; refine Hc.out.mono ?_; rintro e w2 ⟨rfl, x2, hx2, hp2, hv2⟩; have HX2 := Lib.hid hx2; have HP2 := Lib.hid hp2; have HV2 := Lib.hid hv2; clear hx2 hp2 hv2))
      go_end0
      refine ⟨rfl, x2, SW.trans HX.out HX2.out hblk HP2.out.1, permIn_trans _ _ _ _ _ HP.out (permIn_mono _ _ _ _ _ _ (by omega) (by omega) (by rw [HP.out.1]; exact hb) HP2.out), fun k => ?_⟩
      rw [rot_eq (fun k => x[k]!) (fun k => x2[k]!) m i (by omega) HV2.out k]
      exact HV.out k
    · have hb1 : ((i : Int) != (j : Int)) = true := by rw [bne_iff_ne]; omega
      by_cases hgt : j < i
      · have hc' : decide ((j : Int) < (i : Int)) = true := decide_eq_true (by omega)
        have Hc := Lib.hid (HCX.out (m - i) m j (by omega) (by omega))
        rw [show ((m - i : Nat) : Int) = (m : Int) - (i : Int) by omega] at Hc
        obtain ⟨ko, rfl⟩ : ∃ ko, gk = ko + 1 := ⟨gk - 1, by omega⟩
        go_wp2_with (first | (go_at_call 54; refine Hc.out.mono ?_; rintro e w2 ⟨rfl, x2, hx2, hp2, hv2⟩; have HX2 := Lib.hid hx2; have HP2 := Lib.hid hp2; have HV2 := Lib.hid hv2; clear hx2 hp2 hv2))
        have hw2 := HX2.out.le
        have HC2 : Hid (w2.cell? ⟨W.heap.size, 0, none⟩ = some (.func (.func g) #[] lb) ∧ w2.cell? ⟨W.heap.size, 1, none⟩ = some (.func (.func sf) #[] sb)) := Lib.hid ⟨by rw [SW.cell HX2.out (by show W.heap.size ≠ blk; omega) (by show W.heap.size < wr.heap.size; omega)]; exact c0, by rw [SW.cell HX2.out (by show W.heap.size ≠ blk; omega) (by show W.heap.size < wr.heap.size; omega)]; exact c1⟩
        go_roundg ko
        case measure => omega
        case rel => exact ⟨i - j, j, x2, by go_num, rfl, by omega, hj, by omega, hjb, by omega, Lib.hid (SW.trans HX.out HX2.out hblk HP2.out.1), HC2, by omega, Lib.hid (permIn_trans _ _ _ _ _ HP.out (permIn_mono _ _ _ _ _ _ (by omega) (by omega) (by rw [HP.out.1]; exact hb) HP2.out)), Lib.hid (fun k => by
            rw [show m - (i - j) = m - i + j by omega, rot_gt (fun k => x[k]!) (fun k => x2[k]!) m i j (by omega) hj hgt HV2.out k]
            exact HV.out k)⟩
      · have hc' : decide ((j : Int) < (i : Int)) = false := decide_eq_false (by omega)
        have Hc := Lib.hid (HCX.out (m - i) (m + j - i) i (by omega) (by omega))
        rw [show ((m - i : Nat) : Int) = (m : Int) - (i : Int) by omega, show ((m + j - i : Nat) : Int) = (m : Int) + (j : Int) - (i : Int) by omega] at Hc
        obtain ⟨ko, rfl⟩ : ∃ ko, gk = ko + 1 := ⟨gk - 1, by omega⟩
        go_wp2_with (first | (go_at_call 54; refine Hc.out.mono ?_; rintro e w2 ⟨rfl, x2, hx2, hp2, hv2⟩; have HX2 := Lib.hid hx2; have HP2 := Lib.hid hp2; have HV2 := Lib.hid hv2; clear hx2 hp2 hv2))
        have hw2 := HX2.out.le
        have HC2 : Hid (w2.cell? ⟨W.heap.size, 0, none⟩ = some (.func (.func g) #[] lb) ∧ w2.cell? ⟨W.heap.size, 1, none⟩ = some (.func (.func sf) #[] sb)) := Lib.hid ⟨by rw [SW.cell HX2.out (by show W.heap.size ≠ blk; omega) (by show W.heap.size < wr.heap.size; omega)]; exact c0, by rw [SW.cell HX2.out (by show W.heap.size ≠ blk; omega) (by show W.heap.size < wr.heap.size; omega)]; exact c1⟩
        go_roundg ko
        case measure => omega
        case rel => exact ⟨i, j - i, x2, rfl, by go_num, hi, by omega, hai, by omega, by omega, Lib.hid (SW.trans HX.out HX2.out hblk HP2.out.1), HC2, by omega, Lib.hid (permIn_trans _ _ _ _ _ HP.out (permIn_mono _ _ _ _ _ _ (by omega) (by omega) (by rw [HP.out.1]; exact hb) HP2.out)), Lib.hid (fun k => by
            rw [rot_lt (fun k => x[k]!) (fun k => x2[k]!) m i j (by omega) hi (by omega) HV2.out k]
            exact HV.out k)⟩
end Go.Proofs.Ytgcefofmfeghmaa.St
