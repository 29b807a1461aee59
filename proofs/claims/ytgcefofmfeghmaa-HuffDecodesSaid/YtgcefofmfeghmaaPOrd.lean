import Derived.Test.YtgcefofmfeghmaaOrd2
/- huff.order's contract, for its callers. -/
namespace Go.Proofs.Ytgcefofmfeghmaa.Pl
open Go.RowKit Go.Proofs.YtgcefofmfeghmaaW.PrintWords Go.Proofs.YtgcefofmfeghmaaW.PrintLast Go.Proofs.YtgcefofmfeghmaaW.PrintMore Go.Proofs.Ytgcefofmfeghmaa.G

def order.f (l0 : List Int) : Option (List Int) := if l0.length ≤ 256 then some (St.ordered l0) else none
theorem order.calls (A0 : Option Addr) (c0 : Nat) (l0 : List Int) (r : List Int) (w : World) (hr0 : Kd.C (Kd.int .i64) w A0 l0.length l0) (hc0 : l0.length ≤ c0) (h : order.f l0 = some r) :
    Calls Try.prog 27 #[.slice A0 l0.length c0] w fun e w' => ∃ v0_ : Value, e = .returned v0_ ∧ Kd.R (Kd.int .i64) 3 w' w.heap.size (fun _ => True) v0_ r ∧ Below w.heap.size w w' := by
  unfold order.f at h
  split at h
  · cases h
    exact St.order_loop A0 c0 l0 w hr0 hc0 (by assumption)
  · cases h
end Go.Proofs.Ytgcefofmfeghmaa.Pl
