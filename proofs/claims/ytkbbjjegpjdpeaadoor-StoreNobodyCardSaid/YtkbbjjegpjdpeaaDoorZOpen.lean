import Derived.Test.YtkbbjjegpjdpeaaDoorZWWords
import Derived.ChangeArms
import Derived.ChangeSlices
import Derived.SizedLaws




/- What reads as data is of a kind: integers, strings, structs, slices, in each other. -/
namespace Go.Proofs.YtkbbjjegpjdpeaaDoor.Opn
open Go.RowKit Go.Proofs.YtkbbjjegpjdpeaaDoorW.PrintWords
set_option linter.unusedVariables false

/-- Whatever reads as data of type t is of kind k; wf is what the reading tells of it. -/
def Opens {α : Type} (P : Program) (t : TypeId) (k : Kd α) (wf : α → Prop) : Prop :=
  ∀ {H : Type} {enc : TypeId × Value → H} {w : World} {base : Nat} {spare : Nat → Bool} {held : Bool} {fuel : Nat} {cs : List Value} {d : DataW H} {ps : List MemPlace},
    DataW.trod enc P w base spare held fuel t cs = some (d, ps) → (∀ n ∈ d.weights P t, n ≤ reachBytes) → ∃ a, k.K w a cs ∧ wf a

theorem opens_int {P : Program} {t : TypeId} {k : IntKind} (hu : P.underlying t = some (.int k)) : Opens P t (Kd.int k) (fun n => (Lit.int k n).wf = true) := by
  intro H enc w base spare held fuel cs d ps h _
  obtain ⟨n, rfl, hx, hw⟩ := DataW.trod_int hu h
  exact ⟨n, rfl, hw⟩
theorem opens_string {P : Program} {t : TypeId} (hu : P.underlying t = some .string) : Opens P t Kd.string (fun s => s.size ≤ 140737488351232) := by
  intro H enc w base spare held fuel cs d ps h hz
  obtain ⟨s, rfl, hx, hw⟩ := DataW.trod_string hu h
  injection hx with hd _
  subst hd
  have := hz s.data.toList.length (by simp [DataW.weights])
  rw [data_length] at this
  exact ⟨s, rfl, this⟩
theorem opens_iso {α β : Type} {P : Program} {t : TypeId} {k : Kd α} {wf : α → Prop} (h : Opens P t k wf) (f : β → α) (g : α → β) (hfg : ∀ a, f (g a) = a) : Opens P t (Kd.iso k f) (fun x => wf (f x)) := by
  intro H enc w base spare held fuel cs d ps ht hz
  obtain ⟨a, hk, hw⟩ := h ht hz
  exact ⟨g a, by show k.K w (f (g a)) cs; rw [hfg]; exact hk, by show wf (f (g a)); rw [hfg]; exact hw⟩
theorem opens_mono {α : Type} {P : Program} {t : TypeId} {k : Kd α} {wf wf' : α → Prop} (h : Opens P t k wf) (hw : ∀ a, wf a → wf' a) : Opens P t k wf' := by
  intro H enc w base spare held fuel cs d ps ht hz
  obtain ⟨a, hk, hwa⟩ := h ht hz
  exact ⟨a, hk, hw a hwa⟩

/-- The fields of a struct from a place on. -/
def OpensFs {α : Type} (P : Program) (fs : List Field) (off : Nat) (k : Kd α) (wf : α → Prop) : Prop :=
  ∀ {H : Type} {enc : TypeId × Value → H} {w : World} {base : Nat} {spare : Nat → Bool} {held : Bool} {fuel : Nat} {cs : List Value} {xs : List (DataW H × List MemPlace)},
    xs.length = fs.length → (∀ (i : Nat) (f : Field), fs[i]? = some f → DataW.trod enc P w base spare held fuel f.type ((cs.drop f.offset).take (P.cellsOf f.type)) = xs[i]?) →
    (∀ n ∈ DataW.weightsEach P (fs.map (·.type)) (xs.map (·.1)), n ≤ reachBytes) → ∃ a, k.K w a ((cs.drop off).take k.sz) ∧ wf a

theorem opensFs_last {α : Type} {P : Program} {f : Field} {off : Nat} {k : Kd α} {wf : α → Prop} (ho : f.offset = off) (hs : P.cellsOf f.type = k.sz) (h : Opens P f.type k wf) : OpensFs P [f] off k wf := by
  intro H enc w base spare held fuel cs xs hl hx hz
  obtain ⟨x, rfl⟩ : ∃ x, xs = [x] := by
    rcases xs with _ | ⟨x, _ | ⟨y, xs⟩⟩
    · simp at hl
    · exact ⟨x, rfl⟩
    · simp at hl
  obtain ⟨d, ps⟩ := x
  have h1 := hx 0 f rfl
  rw [ho, hs] at h1
  exact h h1 (fun n hn => hz n (by simp [DataW.weightsEach, hn]))
theorem opensFs_cons {α β : Type} {P : Program} {f : Field} {fs : List Field} {off : Nat} {k : Kd α} {k2 : Kd β} {wf : α → Prop} {wf2 : β → Prop} (ho : f.offset = off) (hs : P.cellsOf f.type = k.sz) (h : Opens P f.type k wf) (h2 : OpensFs P fs (off + k.sz) k2 wf2) :
    OpensFs P (f :: fs) off (Kd.pair k k2) (fun x => wf x.1 ∧ wf2 x.2) := by
  intro H enc w base spare held fuel cs xs hl hx hz
  obtain ⟨x, xs, rfl⟩ : ∃ x r, xs = x :: r := by
    rcases xs with _ | ⟨x, xs⟩
    · simp at hl
    · exact ⟨x, xs, rfl⟩
  obtain ⟨d, ps⟩ := x
  have h1 := hx 0 f rfl
  rw [ho, hs] at h1
  obtain ⟨a, ha, hwa⟩ := h h1 (fun n hn => hz n (by simp [DataW.weightsEach, hn]))
  obtain ⟨b, hb, hwb⟩ := h2 (cs := cs) (xs := xs) (by simpa using hl) (fun i g hg => by simpa using hx (i + 1) g (by simpa using hg)) (fun n hn => hz n (by simp only [List.map_cons, DataW.weightsEach, List.mem_append]; exact .inr hn))
  refine ⟨(a, b), ⟨_, _, ?_, ha, hb⟩, hwa, hwb⟩
  show (cs.drop off).take (k.sz + k2.sz) = _
  rw [List.take_add, List.drop_drop]
theorem opens_struct {α : Type} {P : Program} {t : TypeId} {fs : Array Field} {k : Kd α} {wf : α → Prop} (hu : P.underlying t = some (.struct fs)) (hs : P.cellsOf t = k.sz) (h : OpensFs P fs.toList 0 k wf) : Opens P t k wf := by
  intro H enc w base spare held fuel cs d ps ht hz
  obtain ⟨xs, n, rfl, hx, hl, hn, hf⟩ := DataW.trod_struct hu ht
  injection hx with hd _
  subst hd
  obtain ⟨a, ha, hw⟩ := h (cs := cs) (xs := xs) (by simpa using hn) (fun i f hi => hf i f (by simpa using hi)) (fun n hn => hz n (by simpa [DataW.weights, hu] using hn))
  refine ⟨a, ?_, hw⟩
  rwa [List.drop_zero, List.take_of_length_le (by rw [hl, hs]; exact Nat.le_refl _)] at ha

theorem mapM_get {α β : Type} {f : α → Option β} : ∀ {l : List α} {r : List β}, l.mapM f = some r → r.length = l.length ∧ ∀ (i : Nat) (x : α), l[i]? = some x → f x = r[i]?
  | [], r, h => by
    simp at h
    subst h
    exact ⟨rfl, fun i x hx => by simp at hx⟩
  | a :: l, r, h => by
    rw [List.mapM_cons] at h
    simp only [Option.bind_eq_bind, Option.bind_eq_some_iff, Option.pure_def, Option.some.injEq] at h
    obtain ⟨b, hb, r', hr', rfl⟩ := h
    obtain ⟨h1, h2⟩ := mapM_get hr'
    refine ⟨by simp [h1], fun i x hx => ?_⟩
    rcases i with _ | i
    · simp only [List.getElem?_cons_zero, Option.some.injEq] at hx
      subst hx
      simpa using hb
    · simp only [List.getElem?_cons_succ] at hx ⊢
      exact h2 i x hx

theorem add_add' (a : Addr) (i j : Nat) : (a.add i).add j = a.add (i + j) := by
  unfold Addr.add
  by_cases hi : i = 0 <;> by_cases hj : j = 0 <;> simp [hi, hj, Nat.add_assoc]

theorem choose_list {α : Type} {n : Nat} {p : Nat → α → Prop} (h : ∀ i, i < n → ∃ x, p i x) : ∃ l : List α, l.length = n ∧ ∀ i x, l[i]? = some x → p i x := by
  induction n with
  | zero => exact ⟨[], rfl, fun i x hx => by simp at hx⟩
  | succ n ih =>
    obtain ⟨l, hl, hp⟩ := ih (fun i hi => h i (by omega))
    obtain ⟨x, hx⟩ := h n (by omega)
    refine ⟨l ++ [x], by simp [hl], fun i y hy => ?_⟩
    rcases Nat.lt_or_ge i l.length with hi | hi
    · rw [List.getElem?_append_left hi] at hy
      exact hp i y hy
    · have hi' : i = l.length := by
        have := (List.getElem?_eq_some_iff.1 hy).1
        simp at this
        omega
      subst hi'
      rw [hl]
      simp at hy
      subst hy
      exact hx

theorem weights_all {H : Type} {P : Program} {e : TypeId} {l : List (DataW H)} {d : DataW H} (h : d ∈ l) : ∀ n ∈ d.weights P e, n ∈ DataW.weightsAll P e l := by
  intro n hn
  induction l with
  | nil => cases h
  | cons x l ih =>
    simp only [DataW.weightsAll, List.mem_append]
    rcases List.mem_cons.1 h with rfl | h
    · exact .inl hn
    · exact .inr (ih h)

theorem opens_slice {α : Type} {P : Program} {t e : TypeId} {k : Kd α} {wf : α → Prop} {B : Nat} (hu : P.underlying t = some (.slice e)) (he : Opens P e k wf) (hs : P.cellsOf e = k.sz) (hB : P.bytesOf e = B) :
    Opens P t (Kd.slice e k) (fun l => l.length * B ≤ 140737488351232 ∧ ∀ x ∈ l, wf x) := by
  intro H enc w base spare held fuel cs d ps ht hz
  rcases DataW.trod_slice hu ht with ⟨rfl, hx⟩ | ⟨a, len, cap, elems, rest, n, rfl, rfl, hx, hb, hl, hm, hlen, hel, _⟩
  · exact ⟨[], ⟨none, 0, rfl, Nat.le_refl _, ⟨rfl, by simp, fun h => absurd h (by simp)⟩⟩, by simp, fun x hx => by cases hx⟩
  · injection hx with hd _
    subst hd
    have hone : ∀ i, i < len → ∃ x : α, (∃ c : List Value, c.length = k.sz ∧ k.K w x c ∧ ∀ j u, c[j]? = some u → w.cell? (a.add (i * k.sz + j)) = some u) ∧ wf x := by
      intro i hi
      have h1 := hel i hi
      rw [List.getElem?_eq_getElem (by omega), hs] at h1
      simp only [Option.bind_eq_some_iff] at h1
      obtain ⟨c, hc, htr⟩ := h1
      have hmem : (elems[i]'(by omega)).1 ∈ elems.map (·.1) := List.mem_map.2 ⟨_, List.getElem_mem _, rfl⟩
      obtain ⟨x, hx, hwx⟩ := he (d := (elems[i]'(by omega)).1) (ps := (elems[i]'(by omega)).2) htr (fun n hn => hz n (by
        simp only [DataW.weights, hu, List.mem_cons, List.mem_append]
        exact .inr (.inl (weights_all hmem n hn))))
      refine ⟨x, ⟨c, k.K_len hx, hx, fun j u hu' => ?_⟩, hwx⟩
      unfold World.cells? at hc
      split at hc
      · obtain ⟨h2, h3⟩ := mapM_get hc
        have hj : j < k.sz := by
          have := (List.getElem?_eq_some_iff.1 hu').1
          rw [k.K_len hx] at this
          exact this
        have h4 := h3 j j (by simp [hj])
        rw [add_add'] at h4
        rw [h4]
        exact hu'
      · cases hc
    obtain ⟨l, hll, hp⟩ := choose_list hone
    refine ⟨l, ⟨some a, cap, by rw [hll], by omega, ⟨rfl, by rw [hll]; simp only [maxLen] at hm; omega, fun _ => ⟨a, rfl, fun j p hj => (hp j p hj).1⟩⟩⟩, ?_, fun x hx => ?_⟩
    · have := hz ((elems.map (·.1)).length + (rest.map (·.1)).length |>.mul (P.bytesOf e)) (by simp [DataW.weights, hu])
      rw [hB] at this
      have h2 : l.length * B ≤ ((elems.map (·.1)).length + (rest.map (·.1)).length) * B := Nat.mul_le_mul_right _ (by simp; omega)
      exact Nat.le_trans h2 this
    · obtain ⟨i, hi, rfl⟩ := List.getElem_of_mem hx
      exact (hp i _ (List.getElem?_eq_getElem hi)).2
end Go.Proofs.YtkbbjjegpjdpeaaDoor.Opn

