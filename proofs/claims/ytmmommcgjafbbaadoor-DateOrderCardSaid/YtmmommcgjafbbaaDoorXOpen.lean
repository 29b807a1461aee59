import Derived.Test.YtmmommcgjafbbaaDoorXWWords
import Derived.ChangeArms
import Derived.ChangeSlices
import Derived.SizedLaws




/- What reads as data is of a kind: integers, strings, structs, slices, in each other. -/
namespace Go.Proofs.YtmmommcgjafbbaaDoor.Opn
open Go.RowKit Go.Proofs.YtmmommcgjafbbaaDoorW.PrintWords
set_option linter.unusedVariables false

/-- Whatever reads as data of type t is of kind k; wf is what the reading tells of it. -/
def Opens {α : Type} (P : Program) (t : TypeId) (k : Kd α) (wf : α → Prop) : Prop :=
  ∀ {H : Type} {enc : TypeId × Value → H} {w : World} {base : Nat} {spare : Nat → Bool} {held : Bool} {fuel : Nat} {cs : List Value} {d : DataW H} {ps : List MemPlace},
    DataW.trod enc P w base spare held fuel t cs = some (d, ps) → (∀ n ∈ d.weights P t, n ≤ reachBytes) → ∃ a, k.K w a cs ∧ wf a

theorem opens_int {P : Program} {t : TypeId} {k : IntKind} (hu : P.underlying t = some (.int k)) : Opens P t (Kd.int k) (fun n => (Lit.int k n).wf = true) := by
  intro H enc w base spare held fuel cs d ps h _
  obtain ⟨n, rfl, hx, hw⟩ := DataW.trod_int hu h
  exact ⟨n, rfl, hw⟩
theorem opens_mono {α : Type} {P : Program} {t : TypeId} {k : Kd α} {wf wf' : α → Prop} (h : Opens P t k wf) (hw : ∀ a, wf a → wf' a) : Opens P t k wf' := by
  intro H enc w base spare held fuel cs d ps ht hz
  obtain ⟨a, hk, hwa⟩ := h ht hz
  exact ⟨a, hk, hw a hwa⟩

/-- The fields of a struct from a place on. -/
def OpensFs {α : Type} (P : Program) (fs : List Field) (off : Nat) (k : Kd α) (wf : α → Prop) : Prop :=
  ∀ {H : Type} {enc : TypeId × Value → H} {w : World} {base : Nat} {spare : Nat → Bool} {held : Bool} {fuel : Nat} {cs : List Value} {xs : List (DataW H × List MemPlace)},
    xs.length = fs.length → (∀ (i : Nat) (f : Field), fs[i]? = some f → DataW.trod enc P w base spare held fuel f.type ((cs.drop f.offset).take (P.cellsOf f.type)) = xs[i]?) →
    (∀ n ∈ DataW.weightsEach P (fs.map (·.type)) (xs.map (·.1)), n ≤ reachBytes) → ∃ a, k.K w a ((cs.drop off).take k.sz) ∧ wf a

theorem opensFs_last {α : Type} {P : Program} {f : Field} {off : Nat} {k : Kd α} {wf : α → Prop} (ho : f.offset = off) (hs : P.cellsOf f.type = k.sz) (h : Opens P f.type k wf) : OpensFs P [f] off k wf := by
  intro H enc w base spare held fuel cs xs hl hx hz
  obtain ⟨x, rfl⟩ : ∃ x, xs = [x] := by
    rcases xs with _ | ⟨x, _ | ⟨y, xs⟩⟩
    · simp at hl
    · exact ⟨x, rfl⟩
    · simp at hl
  obtain ⟨d, ps⟩ := x
  have h1 := hx 0 f rfl
  rw [ho, hs] at h1
  exact h h1 (fun n hn => hz n (by simp [DataW.weightsEach, hn]))
theorem opensFs_cons {α β : Type} {P : Program} {f : Field} {fs : List Field} {off : Nat} {k : Kd α} {k2 : Kd β} {wf : α → Prop} {wf2 : β → Prop} (ho : f.offset = off) (hs : P.cellsOf f.type = k.sz) (h : Opens P f.type k wf) (h2 : OpensFs P fs (off + k.sz) k2 wf2) :
    OpensFs P (f :: fs) off (Kd.pair k k2) (fun x => wf x.1 ∧ wf2 x.2) := by
  intro H enc w base spare held fuel cs xs hl hx hz
  obtain ⟨x, xs, rfl⟩ : ∃ x r, xs = x :: r := by
    rcases xs with _ | ⟨x, xs⟩
    · simp at hl
    · exact ⟨x, xs, rfl⟩
  obtain ⟨d, ps⟩ := x
  have h1 := hx 0 f rfl
  rw [ho, hs] at h1
  obtain ⟨a, ha, hwa⟩ := h h1 (fun n hn => hz n (by simp [DataW.weightsEach, hn]))
  obtain ⟨b, hb, hwb⟩ := h2 (cs := cs) (xs := xs) (by simpa using hl) (fun i g hg => by simpa using hx (i + 1) g (by simpa using hg)) (fun n hn => hz n (by simp only [List.map_cons, DataW.weightsEach, List.mem_append]; exact .inr hn))
  refine ⟨(a, b), ⟨_, _, ?_, ha, hb⟩, hwa, hwb⟩
  show (cs.drop off).take (k.sz + k2.sz) = _
  rw [List.take_add, List.drop_drop]
theorem opens_struct {α : Type} {P : Program} {t : TypeId} {fs : Array Field} {k : Kd α} {wf : α → Prop} (hu : P.underlying t = some (.struct fs)) (hs : P.cellsOf t = k.sz) (h : OpensFs P fs.toList 0 k wf) : Opens P t k wf := by
  intro H enc w base spare held fuel cs d ps ht hz
  obtain ⟨xs, n, rfl, hx, hl, hn, hf⟩ := DataW.trod_struct hu ht
  injection hx with hd _
  subst hd
  obtain ⟨a, ha, hw⟩ := h (cs := cs) (xs := xs) (by simpa using hn) (fun i f hi => hf i f (by simpa using hi)) (fun n hn => hz n (by simpa [DataW.weights, hu] using hn))
  refine ⟨a, ?_, hw⟩
  rwa [List.drop_zero, List.take_of_length_le (by rw [hl, hs]; exact Nat.le_refl _)] at ha

end Go.Proofs.YtmmommcgjafbbaaDoor.Opn

