import Derived.Test.YtgcefofmfeghmaaHs6
/- sort.insertionSort_func, sort.stable_func -/
namespace Go.Proofs.Ytgcefofmfeghmaa.St
open Go.Shelf Go.RowKit Go.Lib Go.Sort
set_option linter.unusedVariables false
set_option linter.unusedSimpArgs false
variable {enc : Int → Value}

set_option maxRecDepth 100000 in
set_option maxHeartbeats 4000000 in
theorem ins_calls (K : Int → Int) (g : Nat) (lb : Array Value) (sf : Nat) (sb : Array Value) (blk off : Nat) (d : Array Int) (W : World) (hH : Holds enc W blk off d) (hblk : blk < W.heap.size)
    (eg : ∀ args w, (callFunc g args).run Try.prog w = .ok (.enter g args) w) (hless : LessReads Try.prog g lb enc (ltK K) blk off d.size W) (hswap : SwapSwaps Try.prog sf sb enc blk off d.size) (hsz : d.size < 4611686018427387904)
    (a b : Nat) (hab : a ≤ b) (hb : b ≤ d.size) :
    Calls Try.prog 51 #[dat g lb sf sb, .int .i64 (a : Int), .int .i64 (b : Int)] W fun e w' => e = .returned (.tuple #[]) ∧ SW enc W blk off (insertionSort (ltK K) d a b) w' := by
  have HH := Lib.hid hH
  have HL := Lib.hid (fun (x : Array Int) (w : World) (hx : SW enc W blk off x w) (hxs : x.size = d.size) (p q : Nat) (h1 : p < d.size) (h2 : q < d.size) => SW.less hx hless hxs p q h1 h2)
  have HSW := Lib.hid hswap
  clear hH hswap hless
  go_enter Try.func51, Try.ntmps51
  go_wp2
  obtain ⟨W1, hW1⟩ : ∃ W1, W1 = W.alloc (.cells #[.func (.func g) #[] lb, .func (.func sf) #[] sb] 70) := ⟨_, rfl⟩
  have H1 : Hid (SW enc W blk off d W1) := Lib.hid (by rw [hW1]; exact (SW.start HH.out).alloc _)
  have hc1 : W1.cell? ⟨W.heap.size, 1, none⟩ = some (.func (.func sf) #[] sb) := by rw [hW1]; simp
  have hc0 : W1.cell? ⟨W.heap.size, 0, none⟩ = some (.func (.func g) #[] lb) := by rw [hW1]; simp
  have hz1 : W.heap.size < W1.heap.size := by rw [hW1]; simp
  rw [← hW1]
  clear hW1
  go_loopg [6] (b - a) (fun k v6 wr => ∃ (i : Nat) (x : Array Int), v6 = .int .i64 (i : Int) ∧ a < i ∧ b + 1 ≤ k + i ∧ i ≤ b + 1 ∧ Hid (SW enc W blk off x wr) ∧ wr.cell? ⟨W.heap.size, 0, none⟩ = some (.func (.func g) #[] lb) ∧ wr.cell? ⟨W.heap.size, 1, none⟩ = some (.func (.func sf) #[] sb) ∧ Hid (x.size = d.size) ∧ Hid (insOuter (ltK K) a b i x = insOuter (ltK K) a b (a + 1) d))
  case atStart => exact ⟨a + 1, d, by go_num, by omega, by omega, by omega, H1, hc0, hc1, Lib.hid rfl, Lib.hid rfl⟩
  case round =>
    obtain ⟨i, x, rfl, hi, hk, hib, HX, c0, c1, HS, HO⟩ := hrel
    by_cases hlt : i < b
    · have t1 : decide ((i : Int) < (b : Int)) = true := decide_eq_true (by omega)
      obtain ⟨ko, rfl⟩ : ∃ ko, gk = ko + 1 := ⟨gk - 1, by omega⟩
      go_wp2
      go_loopg [7] (i - a) (fun k v7 wr => ∃ (j : Nat) (y : Array Int), v7 = .int .i64 (j : Int) ∧ a ≤ j ∧ j ≤ i ∧ j ≤ k + a ∧ Hid (SW enc W blk off y wr) ∧ wr.cell? ⟨W.heap.size, 0, none⟩ = some (.func (.func g) #[] lb) ∧ wr.cell? ⟨W.heap.size, 1, none⟩ = some (.func (.func sf) #[] sb) ∧ Hid (y.size = d.size) ∧ Hid (insInner (ltK K) a j y = insInner (ltK K) a i x))
      case atStart => exact ⟨i, x, rfl, by omega, by omega, by omega, HX, c0, c1, HS, Lib.hid rfl⟩
      case round =>
        rename_i gko
        obtain ⟨j, y, rfl, haj, hji, hjk, HY, c0', c1', HSY, HI⟩ := hrel
        by_cases hja : a < j
        · have t2 : decide ((a : Int) < (j : Int)) = true := decide_eq_true (by omega)
          have HC := Lib.hid (HL.out y wr HY.out HSY.out j (j - 1) (by omega) (by omega))
          rw [show ((j - 1 : Nat) : Int) = (j : Int) - 1 by omega] at HC
          have hsw := fun q => HSW.out (wr.drewN q) y ((HY.out.drewN q).holds hblk HH.out HSY.out) HSY.out j (j - 1) (by omega) (by omega)
          rw [show (((j - 1 : Nat) : Int)) = (j : Int) - 1 by omega] at hsw
          have HSW1 := Lib.hid hsw
          clear hsw
          obtain ⟨bv, hbv⟩ : ∃ bv, ltK K y[j]! y[j - 1]! = bv := ⟨_, rfl⟩
          rw [hbv] at HC
          have HBV := Lib.hid hbv
          clear hbv
          cases bv with
          | true =>
            obtain ⟨kj, rfl⟩ : ∃ kj, gk = kj + 1 := ⟨gk - 1, by omega⟩
            go_wp2_with fail
            refine HC.out.mono ?_
            rintro e w2 ⟨rfl, q, rfl⟩
            go_wp2_with fail
            have c1q : (wr.drewN q).cell? ⟨W.heap.size, 1, none⟩ = some (.func (.func sf) #[] sb) := by simpa using c1'
            go_wp2_with fail
            rw [HSW1.out q, Oper.upon_value]
            have HX2 := Lib.hid ((HY.out.drewN q).swap hblk j (j - 1) (by rw [HSY.out]; omega) (by rw [HSY.out]; omega))
            have hcn : ∀ (c : Nat) (v : Value), wr.cell? ⟨W.heap.size, c, none⟩ = some v → (((wr.drewN q).setCell ⟨blk, off + j, none⟩ (enc y[j - 1]!)).setCell ⟨blk, off + (j - 1), none⟩ (enc y[j]!)).cell? ⟨W.heap.size, c, none⟩ = some v := fun c v h => by
              rw [World.cell?_setCell_other _ _ _ _ (by intro e; injection e with e1; omega), World.cell?_setCell_other _ _ _ _ (by intro e; injection e with e1; omega)]
              simpa using h
            have hc1n := hcn 1 _ c1'
            have hc0n := hcn 0 _ c0'
            clear hcn
            go_wp2
            go_roundg kj
            case measure => omega
            case rel => exact ⟨j - 1, swp y j (j - 1), by go_num, by omega, by omega, by omega, HX2, hc0n, hc1n, Lib.hid (by rw [size_swp]; exact HSY.out), Lib.hid (by rw [← HI.out, insInner_go (ltK K) a j y hja HBV.out])⟩
          | false =>
            go_wp2_with fail
            refine HC.out.mono ?_
            rintro e w2 ⟨rfl, q, rfl⟩
            go_wp2
            go_roundg ko
            case measure => omega
            case rel => exact ⟨i + 1, y, by go_num, by omega, by omega, by omega, Lib.hid (HY.out.drewN q), by simpa using c0', by simpa using c1', HSY, Lib.hid (by rw [← HO.out, insOuter_go _ _ _ _ _ hlt, ← HI.out, insInner_stop _ _ _ _ (.inr HBV.out)])⟩
        · have t2 : decide ((a : Int) < (j : Int)) = false := decide_eq_false (by omega)
          go_wp2
          go_roundg ko
          case measure => omega
          case rel => exact ⟨i + 1, y, by go_num, by omega, by omega, by omega, HY, c0', c1', HSY, Lib.hid (by rw [← HO.out, insOuter_go _ _ _ _ _ hlt, ← HI.out, insInner_stop _ _ _ _ (.inl (by omega))])⟩
    · have t1 : decide ((i : Int) < (b : Int)) = false := decide_eq_false (by omega)
      go_wp2
      go_end0
      have e1 : insertionSort (ltK K) d a b = x := by unfold insertionSort; rw [← HO.out, insOuter_stop _ _ _ _ _ hlt]
      rw [e1]
      exact ⟨rfl, HX.out⟩
end Go.Proofs.Ytgcefofmfeghmaa.St
