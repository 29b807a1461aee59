import Derived.Test.YtgcefofmfeghmaaHs2
import Derived.Test.YtgcefofmfeghmaaProg
import Derived.Shelf.GgSortFunc.SW
import Derived.WalkKit
import Derived.KernelRfl
import Derived.Lib.Hide
import Derived.Below
/- sort's own loops over a row of whole numbers: swapRange_func, rotate_func. -/
namespace Go.Proofs.Ytgcefofmfeghmaa.St
open Go.Shelf Go.RowKit Go.Lib Go.Sort
set_option linter.unusedVariables false
set_option linter.unusedSimpArgs false
variable {enc : Int → Value}

theorem swp_view (d : Array Int) (i j : Nat) (hi : i < d.size) (hj : j < d.size) (hij : i ≠ j) (k : Nat) : (swp d i j)[k]! = if k = i then d[j]! else if k = j then d[i]! else d[k]! := by
  by_cases h1 : k = i
  · subst h1; rw [if_pos rfl]; exact swp_left _ _ _ hi hij
  · rw [if_neg h1]
    by_cases h2 : k = j
    · subst h2; rw [if_pos rfl]; exact swp_right _ _ _ hj
    · rw [if_neg h2]; exact swp_other _ _ _ _ h1 h2

/-- the parameter 'data' -/
abbrev dat (g : Nat) (lb : Array Value) (sf : Nat) (sb : Array Value) : Value := .agg #[.func (.func g) #[] lb, .func (.func sf) #[] sb]

theorem SW.cell {w0 W : World} {blk off : Nat} {d : Array Int} (h : SW enc w0 blk off d W) {a : Addr} (h1 : a.block ≠ blk) (h2 : a.block < w0.heap.size) : W.cell? a = w0.cell? a := by
  obtain ⟨n, os, rfl⟩ := h
  unfold sortWorld
  rw [cell?_grow _ _ _ (by rw [size_putRow]; exact h2), cell?_putRow_other enc _ blk off _ _ (Or.inl h1)]
  rfl
theorem SW.trans {w0 w1 w2 : World} {blk off : Nat} {d d' : Array Int} (h : SW enc w0 blk off d w1) (h2 : SW enc w1 blk off d' w2) (hblk : blk < w0.heap.size) (hs : d'.size = d.size) : SW enc w0 blk off d' w2 := by
  obtain ⟨n, os, rfl⟩ := h2
  exact h.on hblk n d' os hs

set_option maxRecDepth 100000 in
set_option maxHeartbeats 2000000 in
theorem swapRange_calls (g : Nat) (lb : Array Value) (sf : Nat) (sb : Array Value) (blk off : Nat) (d : Array Int) (W : World) (hH : Holds enc W blk off d) (hblk : blk < W.heap.size)
    (hswap : SwapSwaps Try.prog sf sb enc blk off d.size) (hsz : d.size < 4611686018427387904)
    (a b n : Nat) (hab : a + n ≤ b) (hb : b + n ≤ d.size) :
    Calls Try.prog 54 #[dat g lb sf sb, .int .i64 (a : Int), .int .i64 (b : Int), .int .i64 (n : Int)] W fun e w' => e = .returned (.tuple #[]) ∧ ∃ d', SW enc W blk off d' w' ∧ PermIn a (b + n) d d' ∧ ∀ k, d'[k]! = SwapV (fun k => d[k]!) a b n k := by
  have HH := Lib.hid hH
  have HSW := Lib.hid hswap
  clear hH hswap
  go_enter Try.func54, Try.ntmps54
  go_wp2
  obtain ⟨W1, hW1⟩ : ∃ W1, W1 = W.alloc (.cells #[.func (.func g) #[] lb, .func (.func sf) #[] sb] 70) := ⟨_, rfl⟩
  have H1 : Hid (SW enc W blk off d W1) := Lib.hid (by rw [hW1]; exact (SW.start HH.out).alloc _)
  have hc1 : W1.cell? ⟨W.heap.size, 1, none⟩ = some (.func (.func sf) #[] sb) := by rw [hW1]; simp
  have hz1 : W1.heap.size = W.heap.size + 1 := by rw [hW1]; simp
  rw [← hW1]
  clear hW1
  go_loopg [8] n (fun k v8 wr => ∃ (j : Nat) (x : Array Int), v8 = .int .i64 (j : Int) ∧ j ≤ n ∧ n ≤ k + j ∧ Hid (SW enc W blk off x wr) ∧ wr.cell? ⟨W.heap.size, 1, none⟩ = some (.func (.func sf) #[] sb) ∧ Hid (PermIn a (b + n) d x) ∧ Hid (∀ k, x[k]! = SwapV (fun k => d[k]!) a b j k))
  case atStart => exact ⟨0, d, rfl, by omega, by omega, H1, hc1, Lib.hid (permIn_refl _ _ _), Lib.hid (fun k => by unfold SwapV; rw [if_neg (by omega), if_neg (by omega)])⟩
  case round =>
    obtain ⟨j, x, rfl, hj, hk, HX, hc, HP, HV⟩ := hrel
    by_cases hlt : j < n
    · have c1 : decide ((j : Int) < (n : Int)) = true := decide_eq_true (by omega)
      have hxs : x.size = d.size := HP.out.1
      have hsw := HSW.out wr x (HX.out.holds hblk HH.out hxs) hxs (a + j) (b + j) (by omega) (by omega)
      rw [show (((a + j : Nat) : Int)) = (a : Int) + (j : Int) by omega, show (((b + j : Nat) : Int)) = (b : Int) + (j : Int) by omega] at hsw
      have HSW1 := Lib.hid hsw
      have HX2 := Lib.hid (HX.out.swap hblk (a + j) (b + j) (by omega) (by omega))
      obtain ⟨ko, rfl⟩ : ∃ ko, gk = ko + 1 := ⟨gk - 1, by omega⟩
      have hxs1 := Lib.hid hxs
      clear hsw hxs
      go_wp2_with fail
      rw [HSW1.out, Oper.upon_value]
      have hcn : ((wr.setCell ⟨blk, off + (a + j), none⟩ (enc x[b + j]!)).setCell ⟨blk, off + (b + j), none⟩ (enc x[a + j]!)).cell? ⟨W.heap.size, 1, none⟩ = some (.func (.func sf) #[] sb) := by
        rw [World.cell?_setCell_other _ _ _ _ (by intro e; injection e with e1; omega), World.cell?_setCell_other _ _ _ _ (by intro e; injection e with e1; omega)]
        exact hc
      go_wp2
      go_roundg ko
      case measure => omega
      case rel => exact ⟨j + 1, swp x (a + j) (b + j), by go_num, hlt, by omega, HX2, hcn, Lib.hid (permIn_trans _ _ _ _ _ HP.out (swp_permIn _ _ _ _ _ (by omega) (by omega) (by omega) (by omega) (by rw [hxs1.out]; exact hb))), Lib.hid (fun k => by
          rw [swp_view _ _ _ (by rw [hxs1.out]; omega) (by rw [hxs1.out]; omega) (by omega), HV.out, HV.out, HV.out]
          unfold SwapV
          repeat' split
          all_goals first | (exfalso; omega) | (congr 1; omega) | rfl)⟩
    · have c0 : decide ((j : Int) < (n : Int)) = false := decide_eq_false (by omega)
      obtain rfl : n = j := by omega
      go_wp2
      go_end0
      exact ⟨rfl, x, HX.out, HP.out, HV.out⟩
end Go.Proofs.Ytgcefofmfeghmaa.St
