import Derived.Test.YtbnhlekehndhkaaGreatDoorZFrA
import Derived.Test.YtbnhlekehndhkaaGreatDoorZPv
import Derived.Test.YtbnhlekehndhkaaGreatDoorZOpenU



/- Exchanges, requests and responses as they come in, of bounded measure. -/
namespace Go.Proofs.YtbnhlekehndhkaaGreatDoor.Fr
open Go.RowKit Go.Proofs.YtbnhlekehndhkaaGreatDoorW.PrintWords Go.Proofs.YtbnhlekehndhkaaGreatDoor.OpnU Go.Proofs.YtbnhlekehndhkaaGreatDoor.G Go.Proofs.YtbnhlekehndhkaaGreatDoor.V Go.Proofs.YtbnhlekehndhkaaGreatDoor.S
set_option linter.unusedVariables false
set_option linter.unusedSimpArgs false
def m59 (x : S59) : Nat := (x.f0.size + 1) + (x.f1.size + 1)
def m25 (x : S25) : Nat := (x.f0.size + 1) + ((x.f1.size + 1) + ((x.f2.size + 1) + ((x.f3.size + 1) + ((1 + msum m59 x.f4) + (1 + msum (fun _ => 1) x.f5)))))
def m27 (x : S27) : Nat := 1 + ((1 + msum m59 x.f1) + (1 + msum (fun _ => 1) x.f2))
def m29 (x : S29) : Nat := m25 x.f0 + (m27 x.f1 + (1 + 1))
theorem opens59 : OpensU Tryz.prog 59 k59 m59 (fun _ => True) :=
  opensU_mono (opensU_iso (opensU_struct Tryz.underlying59 (by kernel_rfl) (opensUFs_cons rfl (by kernel_rfl) (opensU_string Tryz.underlying9) (opensUFs_last rfl (by kernel_rfl) (opensU_string Tryz.underlying9)))) _ (fun p => (⟨p.1, p.2⟩ : S59)) (fun _ => rfl)) (fun _ => Nat.le_refl _) (fun _ _ => trivial)
theorem opens22 : OpensU Tryz.prog 22 (Kd.slice 59 k59) (fun l => 1 + msum m59 l) (fun _ => True) :=
  opensU_mono (opensU_slice Tryz.underlying22 opens59 (by kernel_rfl)) (fun _ => Nat.le_refl _) (fun _ _ => trivial)
theorem opens23 : OpensU Tryz.prog 23 (Kd.slice 5 (Kd.int .u8)) (fun l => 1 + msum (fun _ => 1) l) (fun l => ∀ x ∈ l, (Lit.int .u8 x).wf = true) :=
  opensU_mono (opensU_slice Tryz.underlying23 (opensU_int Tryz.underlying5) (by kernel_rfl)) (fun _ => Nat.le_refl _) (fun _ h => h)
theorem opens25 : OpensU Tryz.prog 25 k25 m25 (fun x => ∀ b ∈ x.f5, (Lit.int .u8 b).wf = true) :=
  opensU_mono (opensU_iso (opensU_struct Tryz.underlying25 (by kernel_rfl) (opensUFs_cons rfl (by kernel_rfl) (opensU_string Tryz.underlying9) (opensUFs_cons rfl (by kernel_rfl) (opensU_string Tryz.underlying9) (opensUFs_cons rfl (by kernel_rfl) (opensU_string Tryz.underlying9) (opensUFs_cons rfl (by kernel_rfl) (opensU_string Tryz.underlying9) (opensUFs_cons rfl (by kernel_rfl) opens22 (opensUFs_last rfl (by kernel_rfl) opens23)))))))
    _ (fun p => (⟨p.1, p.2.1, p.2.2.1, p.2.2.2.1, p.2.2.2.2.1, p.2.2.2.2.2⟩ : S25)) (fun _ => rfl)) (fun _ => Nat.le_refl _) (fun _ h => h.2.2.2.2.2)
theorem opens27 : OpensU Tryz.prog 27 k27 m27 (fun x => ((Lit.int .i64 x.f0).wf = true) ∧ ∀ b ∈ x.f2, (Lit.int .u8 b).wf = true) :=
  opensU_mono (opensU_iso (opensU_struct Tryz.underlying27 (by kernel_rfl) (opensUFs_cons rfl (by kernel_rfl) (opensU_int Tryz.underlying3) (opensUFs_cons rfl (by kernel_rfl) opens22 (opensUFs_last rfl (by kernel_rfl) opens23))))
    _ (fun p => (⟨p.1, p.2.1, p.2.2⟩ : S27)) (fun _ => rfl)) (fun _ => Nat.le_refl _) (fun _ h => ⟨h.1, h.2.2⟩)
theorem opens29 : OpensU Tryz.prog 29 k29 m29 (fun _ => True) :=
  opensU_mono (opensU_iso (opensU_struct Tryz.underlying29 (by kernel_rfl) (opensUFs_cons rfl (by kernel_rfl) opens25 (opensUFs_cons rfl (by kernel_rfl) opens27 (opensUFs_cons rfl (by kernel_rfl) (opensU_int Tryz.underlying3) (opensUFs_last rfl (by kernel_rfl) (opensU_int Tryz.underlying3))))))
    _ (fun p => (⟨p.1, p.2.1, p.2.2.1, p.2.2.2⟩ : S29)) (fun _ => rfl)) (fun _ => Nat.le_refl _) (fun _ _ => trivial)
theorem wt_msum : ∀ l : List S59, wt l ≤ 64 * msum m59 l
  | [] => by simp [wt]
  | f :: t => by
    have := wt_msum t
    have e : wt (f :: t) = (f.f0.size + f.f1.size + 1) + wt t := by simp [wt]
    rw [e]
    simp only [msum, m59] at this ⊢
    omega
def to34 (y : S29) : S34 := ⟨y.f0, y.f1, y.f2, y.f3⟩
theorem small29 (x : S29) (h : m29 x ≤ 1048576) : wt (to34 x).f1.f1 < 268435456 ∧ wt (to34 x).f0.f4 < 268435456 := by
  simp only [m29, m25, m27] at h
  have h1 := wt_msum x.f0.f4
  have h2 := wt_msum x.f1.f1
  exact ⟨by show wt x.f1.f1 < _; omega, by show wt x.f0.f4 < _; omega⟩
theorem open_ex {w : World} {x : S29} {cs : List Value} (h : k29.K w x cs) : ∃ r : Rf, cs = [.string (to34 x).f0.f0, .string (to34 x).f0.f1, .string (to34 x).f0.f2, .string (to34 x).f0.f3, .slice r.A4 (to34 x).f0.f4.length r.c4, .slice r.A5 (to34 x).f0.f5.length r.c5, .int .i64 (to34 x).f1.f0, .slice r.A7 (to34 x).f1.f1.length r.c7, .slice r.A8 (to34 x).f1.f2.length r.c8, .int .i64 (to34 x).f2, .int .i64 (to34 x).f3] ∧ Ex w (fun k => k < w.heap.size) (to34 x) r := by
  obtain ⟨A5, c5, A6, c6, A8, c8, A9, c9, rfl, q1, q2, q3, q4, q5, q6, q7, q8⟩ := k29_open h
  have hE : Ex w (fun _ => True) (to34 x) ⟨A5, c5, A6, c6, A8, c8, A9, c9⟩ := ⟨q1, q2, fun _ _ _ => trivial, q3, q4, fun _ _ _ => trivial, q5, q6, fun _ _ _ => trivial, q7, q8, fun _ _ _ => trivial⟩
  exact ⟨⟨A5, c5, A6, c6, A8, c8, A9, c9⟩, rfl, hE.lt.mono (fun k hk => hk.2)⟩
/-- where a request's slices lie -/
structure Rq where
  A4 : Option Addr
  c4 : Nat
  A5 : Option Addr
  c5 : Nat
structure Eq (w : World) (q : S25) (r : Rq) : Prop where
  l4 : q.f4.length ≤ r.c4
  g4 : Kd.C k59 w r.A4 q.f4.length q.f4
  l5 : q.f5.length ≤ r.c5
  g5 : Kd.C (Kd.int .u8) w r.A5 q.f5.length q.f5
end Go.Proofs.YtbnhlekehndhkaaGreatDoor.Fr

