import Derived.RangeFuncNested
import Derived.RangeFuncBound
import Derived.RangeFuncCalls
import Derived.RangeFuncLeaves
import Derived.RangeFuncBox
import Derived.Shelf.Abstract
import Derived.Shelf.RegionOpen
import Derived.WalkKit
import Derived.OwnWalkIn
import Derived.TacticsInMore
import Derived.LoopNIn
import Derived.LoopIn
import Derived.Test.YtakdfjehjnhikaaQi
namespace Go.Proofs.Ytakdfjehjnhikaa.Q
open Go.RowKit Go.Shelf Go.Proofs.YtakdfjehjnhikaaW.PrintWords Go.Proofs.YtakdfjehjnhikaaW.PrintLast Go.Proofs.YtakdfjehjnhikaaW.PrintMore Go.Proofs.Ytakdfjehjnhikaa.G
set_option linter.unusedVariables false
set_option linter.unusedSimpArgs false
attribute [local go_sem] Oper.semAt_some

/-- what has come when k rounds are over -/
def upto {α : Type} (f : Nat → α) (k : Nat) : List α := (List.range k).map f
theorem upto_succ {α : Type} (f : Nat → α) (k : Nat) : upto f (k + 1) = upto f k ++ [f k] := by simp [upto, List.range_succ]
theorem upto_length {α : Type} (f : Nat → α) (k : Nat) : (upto f k).length = k := by simp [upto]
/-- from the last one on -/
def bk (l : List S29) (k : Nat) : Nat × S29 := (l.length - 1 - k, rd_T29 l ((l.length - 1 - k : Nat) : Int))
theorem bk_at (l : List S29) (j : Nat) (h : j + 1 ≤ l.length) : bk l (l.length - (j + 1)) = (j, rd_T29 l (j : Int)) := by
  unfold bk
  rw [show l.length - 1 - (l.length - (j + 1)) = j by omega]

set_option maxRecDepth 100000 in
set_option maxHeartbeats 2000000 in
theorem back1_in (F : Fence) (n : Nat) (h46 : F.fn 46) (hro : F.round = none) (hn : 1 ≤ n) (lp Bs : Nat) (A : Option Addr) (c : Nat) (l : List S29) (w0 : World) (hb : Bs < w0.heap.size) (hC : Kd.C k29 w0 A l.length l) (hlen : l.length ≤ 140737488351232) (J Jx : List (Nat × S29) → World → Prop)
    (hY : ∀ pre x W, J pre W → pre.length < l.length → YieldAt F (n - 1) Try.prog lp #[.int .i64 (x.1 : Int), .agg #[.string x.2.f0, .string x.2.f1]] W fun e W' =>
      (e = .returned (.bool true) ∧ J (pre ++ [x]) W' ∧ Below w0.heap.size W W') ∨ (e = .returned (.bool false) ∧ Jx (pre ++ [x]) W'))
    (hBs : w0.cell? ⟨Bs, 0, none⟩ = some (.slice A l.length c)) (W : World) (hW : Below w0.heap.size w0 W) (h0 : J [] W) :
    CallsIn F n Try.prog 46 #[.func (.yield lp) #[] #[], .pointer (some ⟨Bs, 0, none⟩)] W fun e W' => (∃ v, e = .returned v) ∧
      ((∃ ys, ys = upto (bk l) l.length ∧ J ys W') ∨ (∃ pre, (∃ k, k ≤ l.length ∧ pre = upto (bk l) k) ∧ Jx pre W')) := by
  have HC := Lib.hid hC
  have HB := Lib.hid hBs
  have hBW := pw_cell_below hW hBs
  clear hC hBs
  refine callsIn_of_wp Try.func46 rfl h46 ?_ hro
  simp only [Try.ntmps46, List.size_toArray, List.length_cons, List.length_nil, Nat.reduceAdd, Nat.reduceSub, Array.replicate_succ, Array.replicate_zero, List.push_toArray, List.append_toArray, List.nil_append, List.cons_append]
  gi_wp2
  clear hBW
  gi_loopw [3] (fun v wr => ∃ j : Nat, j ≤ l.length ∧ v = .int .i64 ((j : Int) - 1) ∧ J (upto (bk l) (l.length - j)) wr ∧ Below w0.heap.size w0 wr)
    (fun v _ => (intOf v + 1).toNat)
  case atStart => exact ⟨l.length, Nat.le_refl _, rfl, by simpa [upto] using h0, hW⟩
  case round =>
    obtain ⟨j, hj, rfl, hJs, hnx⟩ := hrel
    cases j with
    | zero =>
      rw [Nat.sub_zero] at hJs
      gi_wp2
      go_end0
      exact ⟨⟨_, rfl⟩, .inl ⟨_, rfl, hJs⟩⟩
    | succ j =>
      obtain ⟨ad, rfl, hx0, hx1⟩ := at_T29 (Kd.C_below HC.out hnx) (j : Int) (by omega) (by omega)
      rw [show (j : Int).toNat = j from Int.toNat_natCast j] at hx0 hx1
      have hBx := pw_cell_below hnx HB.out
      obtain ⟨fn, tmps, assign, body, hy, hR⟩ := hY _ (j, rd_T29 l (j : Int)) wr hJs (by rw [upto_length]; omega)
      dsimp only at hy
      have hjj : (((j + 1 : Nat) : Int) - 1) = (j : Int) := by omega
      rw [hjj]
      have hj2 : (j : Int) < (l.length : Int) := by omega
      have hj3 : 0 ≤ (j : Int) := by omega
      clear hjj
      gi_wp2
      refine hR.mono ?_
      rintro e W3 (⟨rfl, hJ3, hk3⟩ | ⟨rfl, hJx3⟩)
      · gi_wp2
        go_roundw
        case rel =>
          refine ⟨j, by omega, rfl, ?_, hnx.trans hk3⟩
          rw [show l.length - j = (l.length - (j + 1)) + 1 by omega, upto_succ, bk_at l j hj]
          exact hJ3
        case measure => simp [intOf]
      · gi_wp2
        refine bodyPost_ret (results_none rfl _ _ _) rfl ?_
        refine ⟨⟨_, rfl⟩, .inr ⟨_, ⟨l.length - (j + 1) + 1, by omega, ?_⟩, hJx3⟩⟩
        rw [upto_succ, bk_at l j hj]

/-- **slices.Backward(s)**: the slice value is boxed; the function value captures the box. -/
theorem back_calls (A : Option Addr) (len c : Nat) (w : World) :
    Calls Try.prog 40 #[.slice A len c] w fun e w' => e = .returned (.func (.func 46) #[] #[.pointer (some ⟨w.heap.size, 0, none⟩)]) ∧ w' = w.alloc (.cells #[.slice A len c] 39) := by
  go_enter Try.func40, Try.ntmps40
  go_wp2
  go_ret
  exact ⟨rfl, rfl⟩

theorem back_stops (F : Fence) (n : Nat) (h46 : F.fn 46) (hro : F.round = none) (hn : 1 ≤ n) (Bs : Nat) (A : Option Addr) (c : Nat) (l : List S29) (hlen : l.length ≤ 140737488351232) (w : World) (hBs : Bs < w.heap.size)
    (hc : w.cell? ⟨Bs, 0, none⟩ = some (.slice A l.length c)) (hC : Kd.C k29 w A l.length l) :
    SeqStopsK F n Try.prog 46 #[.pointer (some ⟨Bs, 0, none⟩)] (fun x : Nat × S29 => #[Value.int .i64 (x.1 : Int), .agg #[.string x.2.f0, .string x.2.f1]]) (Below w.heap.size) (fun ys => ys = upto (bk l) l.length)
      (fun pre => ∃ k, k ≤ l.length ∧ pre = upto (bk l) k) l.length w := fun lp J Jx W hW _ _ hY h0 =>
  back1_in F n h46 hro hn lp Bs A c l w hBs hC hlen J Jx hY hc W hW h0
end Go.Proofs.Ytakdfjehjnhikaa.Q
