import Derived.Test.YtbnhlekehndhkaaGreatDoorYWWords
import Derived.Test.YtbnhlekehndhkaaGreatDoorRows
import Derived.ChangeArms
import Derived.ChangeSlices
import Derived.ChangeOld
import Derived.SizedLaws
import Derived.Test.YtbnhlekehndhkaaGreatDoorYFrA
import Derived.Test.YtbnhlekehndhkaaGreatDoorYPv






/- What reads as data is of a kind: integers, strings, structs, slices, in each other; and its measure is at most the reading's bulk. -/
namespace Go.Proofs.YtbnhlekehndhkaaGreatDoor.OpnU
open Go.RowKit Go.Proofs.YtbnhlekehndhkaaGreatDoorW.PrintWords
set_option linter.unusedVariables false

theorem one_le {H : Type} (d : DataW H) : 1 ≤ Rows.uptoBulk d := by
  cases d with
  | lit l => cases l <;> simp [Rows.uptoBulk]
  | nil => simp [Rows.uptoBulk]
  | ptr d => simp [Rows.uptoBulk]
  | slice elems spare => simp [Rows.uptoBulk]
  | agg parts => simp [Rows.uptoBulk]
  | iface t d => simp [Rows.uptoBulk]
  | map entries => simp [Rows.uptoBulk]
  | held h => simp [Rows.uptoBulk]
theorem at_le {H : Type} {d : DataW H} : ∀ {l : List (DataW H)} {j : Nat}, l[j]? = some d → Rows.uptoBulk d ≤ Rows.uptoBulkAll l
  | [], j, h => by simp at h
  | x :: r, 0, h => by
    simp at h; subst h
    simp only [Rows.uptoBulkAll]; omega
  | x :: r, j + 1, h => by
    have := at_le (l := r) (j := j) (by simpa using h)
    simp only [Rows.uptoBulkAll]; omega
def msum {α : Type} (m : α → Nat) : List α → Nat
  | [] => 0
  | a :: l => m a + msum m l
theorem msum_le {H α : Type} {m : α → Nat} : ∀ (l : List α) (ds : List (DataW H)), l.length ≤ ds.length → (∀ (i : Nat) x d, l[i]? = some x → ds[i]? = some d → m x ≤ Rows.uptoBulk d) → msum m l ≤ Rows.uptoBulkAll ds
  | [], ds, _, _ => by simp [msum]
  | a :: l, [], h, _ => by simp at h
  | a :: l, d :: ds, h, hi => by
    have h1 := hi 0 a d rfl rfl
    have h2 := msum_le l ds (by simpa using h) (fun i x e hx he => hi (i + 1) x e (by simpa using hx) (by simpa using he))
    simp only [msum, Rows.uptoBulkAll]; omega
/-- Whatever reads as data of type t is of kind k, of measure at most the reading's bulk; wf is what the reading tells of it. -/
def OpensU {α : Type} (P : Program) (t : TypeId) (k : Kd α) (m : α → Nat) (wf : α → Prop) : Prop :=
  ∀ {H : Type} {enc : TypeId × Value → H} {w : World} {base : Nat} {spare : Nat → Bool} {held : Bool} {fuel : Nat} {cs : List Value} {d : DataW H} {ps : List MemPlace},
    DataW.trod enc P w base spare held fuel t cs = some (d, ps) → ∃ a, k.K w a cs ∧ m a ≤ Rows.uptoBulk d ∧ wf a

theorem opensU_int {P : Program} {t : TypeId} {k : IntKind} (hu : P.underlying t = some (.int k)) : OpensU P t (Kd.int k) (fun _ => 1) (fun n => (Lit.int k n).wf = true) := by
  intro H enc w base spare held fuel cs d ps h
  obtain ⟨n, rfl, hx, hw⟩ := DataW.trod_int hu h
  exact ⟨n, rfl, one_le _, hw⟩
theorem opensU_string {P : Program} {t : TypeId} (hu : P.underlying t = some .string) : OpensU P t Kd.string (fun s => s.size + 1) (fun _ => True) := by
  intro H enc w base spare held fuel cs d ps h
  obtain ⟨s, rfl, hx, hw⟩ := DataW.trod_string hu h
  injection hx with hd _
  subst hd
  exact ⟨s, rfl, by simp only [Rows.uptoBulk]; rw [data_length]; exact Nat.le_refl _, trivial⟩
theorem opensU_iso {α β : Type} {P : Program} {t : TypeId} {k : Kd α} {m : α → Nat} {wf : α → Prop} (h : OpensU P t k m wf) (f : β → α) (g : α → β) (hfg : ∀ a, f (g a) = a) : OpensU P t (Kd.iso k f) (fun x => m (f x)) (fun x => wf (f x)) := by
  intro H enc w base spare held fuel cs d ps ht
  obtain ⟨a, hk, hm, hw⟩ := h ht
  exact ⟨g a, by show k.K w (f (g a)) cs; rw [hfg]; exact hk, by show m (f (g a)) ≤ _; rw [hfg]; exact hm, by show wf (f (g a)); rw [hfg]; exact hw⟩
theorem opensU_mono {α : Type} {P : Program} {t : TypeId} {k : Kd α} {m m' : α → Nat} {wf wf' : α → Prop} (h : OpensU P t k m wf) (hm : ∀ a, m' a ≤ m a) (hw : ∀ a, wf a → wf' a) : OpensU P t k m' wf' := by
  intro H enc w base spare held fuel cs d ps ht
  obtain ⟨a, hk, hma, hwa⟩ := h ht
  exact ⟨a, hk, Nat.le_trans (hm a) hma, hw a hwa⟩

/-- The fields of a struct from a place on. -/
def OpensUFs {α : Type} (P : Program) (fs : List Field) (off : Nat) (k : Kd α) (m : α → Nat) (wf : α → Prop) : Prop :=
  ∀ {H : Type} {enc : TypeId × Value → H} {w : World} {base : Nat} {spare : Nat → Bool} {held : Bool} {fuel : Nat} {cs : List Value} {xs : List (DataW H × List MemPlace)},
    xs.length = fs.length → (∀ (i : Nat) (f : Field), fs[i]? = some f → DataW.trod enc P w base spare held fuel f.type ((cs.drop f.offset).take (P.cellsOf f.type)) = xs[i]?) →
    ∃ a, k.K w a ((cs.drop off).take k.sz) ∧ m a ≤ Rows.uptoBulkAll (xs.map (·.1)) ∧ wf a

theorem opensUFs_last {α : Type} {P : Program} {f : Field} {off : Nat} {k : Kd α} {m : α → Nat} {wf : α → Prop} (ho : f.offset = off) (hs : P.cellsOf f.type = k.sz) (h : OpensU P f.type k m wf) : OpensUFs P [f] off k m wf := by
  intro H enc w base spare held fuel cs xs hl hx
  obtain ⟨x, rfl⟩ : ∃ x, xs = [x] := by
    rcases xs with _ | ⟨x, _ | ⟨y, xs⟩⟩
    · simp at hl
    · exact ⟨x, rfl⟩
    · simp at hl
  obtain ⟨d, ps⟩ := x
  have h1 := hx 0 f rfl
  rw [ho, hs] at h1
  obtain ⟨a, ha, hm, hw⟩ := h h1
  exact ⟨a, ha, by simp only [List.map_cons, List.map_nil, Rows.uptoBulkAll]; omega, hw⟩
theorem opensUFs_cons {α β : Type} {P : Program} {f : Field} {fs : List Field} {off : Nat} {k : Kd α} {k2 : Kd β} {m : α → Nat} {m2 : β → Nat} {wf : α → Prop} {wf2 : β → Prop} (ho : f.offset = off) (hs : P.cellsOf f.type = k.sz) (h : OpensU P f.type k m wf) (h2 : OpensUFs P fs (off + k.sz) k2 m2 wf2) :
    OpensUFs P (f :: fs) off (Kd.pair k k2) (fun x => m x.1 + m2 x.2) (fun x => wf x.1 ∧ wf2 x.2) := by
  intro H enc w base spare held fuel cs xs hl hx
  obtain ⟨x, xs, rfl⟩ : ∃ x r, xs = x :: r := by
    rcases xs with _ | ⟨x, xs⟩
    · simp at hl
    · exact ⟨x, xs, rfl⟩
  obtain ⟨d, ps⟩ := x
  have h1 := hx 0 f rfl
  rw [ho, hs] at h1
  obtain ⟨a, ha, hma, hwa⟩ := h h1
  obtain ⟨b, hb, hmb, hwb⟩ := h2 (cs := cs) (xs := xs) (by simpa using hl) (fun i g hg => by simpa using hx (i + 1) g (by simpa using hg))
  refine ⟨(a, b), ⟨_, _, ?_, ha, hb⟩, by simp only [List.map_cons, Rows.uptoBulkAll]; omega, hwa, hwb⟩
  show (cs.drop off).take (k.sz + k2.sz) = _
  rw [List.take_add, List.drop_drop]
theorem opensU_struct {α : Type} {P : Program} {t : TypeId} {fs : Array Field} {k : Kd α} {m : α → Nat} {wf : α → Prop} (hu : P.underlying t = some (.struct fs)) (hs : P.cellsOf t = k.sz) (h : OpensUFs P fs.toList 0 k m wf) : OpensU P t k m wf := by
  intro H enc w base spare held fuel cs d ps ht
  obtain ⟨xs, n, rfl, hx, hl, hn, hf⟩ := DataW.trod_struct hu ht
  injection hx with hd _
  subst hd
  obtain ⟨a, ha, hm, hw⟩ := h (cs := cs) (xs := xs) (by simpa using hn) (fun i f hi => hf i f (by simpa using hi))
  refine ⟨a, ?_, by simp only [Rows.uptoBulk]; omega, hw⟩
  rwa [List.drop_zero, List.take_of_length_le (by rw [hl, hs]; exact Nat.le_refl _)] at ha

theorem mapM_get {α β : Type} {f : α → Option β} : ∀ {l : List α} {r : List β}, l.mapM f = some r → r.length = l.length ∧ ∀ (i : Nat) (x : α), l[i]? = some x → f x = r[i]?
  | [], r, h => by
    simp at h
    subst h
    exact ⟨rfl, fun i x hx => by simp at hx⟩
  | a :: l, r, h => by
    rw [List.mapM_cons] at h
    simp only [Option.bind_eq_bind, Option.bind_eq_some_iff, Option.pure_def, Option.some.injEq] at h
    obtain ⟨b, hb, r', hr', rfl⟩ := h
    obtain ⟨h1, h2⟩ := mapM_get hr'
    refine ⟨by simp [h1], fun i x hx => ?_⟩
    rcases i with _ | i
    · simp only [List.getElem?_cons_zero, Option.some.injEq] at hx
      subst hx
      simpa using hb
    · simp only [List.getElem?_cons_succ] at hx ⊢
      exact h2 i x hx

theorem add_add' (a : Addr) (i j : Nat) : (a.add i).add j = a.add (i + j) := by
  unfold Addr.add
  by_cases hi : i = 0 <;> by_cases hj : j = 0 <;> simp [hi, hj, Nat.add_assoc]

theorem choose_list {α : Type} {n : Nat} {p : Nat → α → Prop} (h : ∀ i, i < n → ∃ x, p i x) : ∃ l : List α, l.length = n ∧ ∀ i x, l[i]? = some x → p i x := by
  induction n with
  | zero => exact ⟨[], rfl, fun i x hx => by simp at hx⟩
  | succ n ih =>
    obtain ⟨l, hl, hp⟩ := ih (fun i hi => h i (by omega))
    obtain ⟨x, hx⟩ := h n (by omega)
    refine ⟨l ++ [x], by simp [hl], fun i y hy => ?_⟩
    rcases Nat.lt_or_ge i l.length with hi | hi
    · rw [List.getElem?_append_left hi] at hy
      exact hp i y hy
    · have hi' : i = l.length := by
        have := (List.getElem?_eq_some_iff.1 hy).1
        simp at this
        omega
      subst hi'
      rw [hl]
      simp at hy
      subst hy
      exact hx

theorem opensU_slice {α : Type} {P : Program} {t e : TypeId} {k : Kd α} {m : α → Nat} {wf : α → Prop} (hu : P.underlying t = some (.slice e)) (he : OpensU P e k m wf) (hs : P.cellsOf e = k.sz) :
    OpensU P t (Kd.slice e k) (fun l => 1 + msum m l) (fun l => ∀ x ∈ l, wf x) := by
  intro H enc w base spare held fuel cs d ps ht
  rcases DataW.trod_slice hu ht with ⟨rfl, hx⟩ | ⟨a, len, cap, elems, rest, n, rfl, rfl, hx, hb, hl, hm, hlen, hel, _⟩
  · injection hx with hd _
    subst hd
    exact ⟨[], ⟨none, 0, rfl, Nat.le_refl _, ⟨rfl, by simp, fun h => absurd h (by simp)⟩⟩, by simp [msum, Rows.uptoBulk], fun x hx => by cases hx⟩
  · injection hx with hd _
    subst hd
    have hone : ∀ i, i < len → ∃ x : α, (∃ c : List Value, c.length = k.sz ∧ k.K w x c ∧ ∀ j u, c[j]? = some u → w.cell? (a.add (i * k.sz + j)) = some u) ∧ (∀ d, (elems.map (·.1))[i]? = some d → m x ≤ Rows.uptoBulk d) ∧ wf x := by
      intro i hi
      have h1 := hel i hi
      rw [List.getElem?_eq_getElem (by omega), hs] at h1
      simp only [Option.bind_eq_some_iff] at h1
      obtain ⟨c, hc, htr⟩ := h1
      obtain ⟨x, hx, hmx, hwx⟩ := he (d := (elems[i]'(by omega)).1) (ps := (elems[i]'(by omega)).2) htr
      refine ⟨x, ⟨c, k.K_len hx, hx, fun j u hu' => ?_⟩, fun d hd => ?_, hwx⟩
      · unfold World.cells? at hc
        split at hc
        · obtain ⟨h2, h3⟩ := mapM_get hc
          have hj : j < k.sz := by
            have := (List.getElem?_eq_some_iff.1 hu').1
            rw [k.K_len hx] at this
            exact this
          have h4 := h3 j j (by simp [hj])
          rw [add_add'] at h4
          rw [h4]
          exact hu'
        · cases hc
      · rw [List.getElem?_map, List.getElem?_eq_getElem (by omega)] at hd
        simp only [Option.map_some, Option.some.injEq] at hd
        subst hd
        exact hmx
    obtain ⟨l, hll, hp⟩ := choose_list hone
    refine ⟨l, ⟨some a, cap, by rw [hll], by omega, ⟨rfl, by rw [hll]; simp only [maxLen] at hm; omega, fun _ => ⟨a, rfl, fun j p hj => (hp j p hj).1⟩⟩⟩, ?_, fun x hx => ?_⟩
    · have := msum_le (m := m) l (elems.map (·.1)) (by simp; omega) (fun i x d hx hd => (hp i x hx).2.1 d hd)
      simp only [Rows.uptoBulk]
      omega
    · obtain ⟨i, hi, rfl⟩ := List.getElem_of_mem hx
      exact (hp i _ (List.getElem?_eq_getElem hi)).2.2
end Go.Proofs.YtbnhlekehndhkaaGreatDoor.OpnU




/- Exchanges, requests and responses as they come in, of bounded measure. -/
namespace Go.Proofs.YtbnhlekehndhkaaGreatDoor.Fr
open Go.RowKit Go.Proofs.YtbnhlekehndhkaaGreatDoorW.PrintWords Go.Proofs.YtbnhlekehndhkaaGreatDoor.OpnU Go.Proofs.YtbnhlekehndhkaaGreatDoor.G Go.Proofs.YtbnhlekehndhkaaGreatDoor.V Go.Proofs.YtbnhlekehndhkaaGreatDoor.S
set_option linter.unusedVariables false
set_option linter.unusedSimpArgs false
def m59 (x : S59) : Nat := (x.f0.size + 1) + (x.f1.size + 1)
def m25 (x : S25) : Nat := (x.f0.size + 1) + ((x.f1.size + 1) + ((x.f2.size + 1) + ((x.f3.size + 1) + ((1 + msum m59 x.f4) + (1 + msum (fun _ => 1) x.f5)))))
def m27 (x : S27) : Nat := 1 + ((1 + msum m59 x.f1) + (1 + msum (fun _ => 1) x.f2))
def m29 (x : S29) : Nat := m25 x.f0 + (m27 x.f1 + (1 + 1))
theorem opens59 : OpensU Tryz.prog 59 k59 m59 (fun _ => True) :=
  opensU_mono (opensU_iso (opensU_struct Tryz.underlying59 (by kernel_rfl) (opensUFs_cons rfl (by kernel_rfl) (opensU_string Tryz.underlying9) (opensUFs_last rfl (by kernel_rfl) (opensU_string Tryz.underlying9)))) _ (fun p => (⟨p.1, p.2⟩ : S59)) (fun _ => rfl)) (fun _ => Nat.le_refl _) (fun _ _ => trivial)
theorem opens22 : OpensU Tryz.prog 22 (Kd.slice 59 k59) (fun l => 1 + msum m59 l) (fun _ => True) :=
  opensU_mono (opensU_slice Tryz.underlying22 opens59 (by kernel_rfl)) (fun _ => Nat.le_refl _) (fun _ _ => trivial)
theorem opens23 : OpensU Tryz.prog 23 (Kd.slice 5 (Kd.int .u8)) (fun l => 1 + msum (fun _ => 1) l) (fun l => ∀ x ∈ l, (Lit.int .u8 x).wf = true) :=
  opensU_mono (opensU_slice Tryz.underlying23 (opensU_int Tryz.underlying5) (by kernel_rfl)) (fun _ => Nat.le_refl _) (fun _ h => h)
theorem opens25 : OpensU Tryz.prog 25 k25 m25 (fun x => ∀ b ∈ x.f5, (Lit.int .u8 b).wf = true) :=
  opensU_mono (opensU_iso (opensU_struct Tryz.underlying25 (by kernel_rfl) (opensUFs_cons rfl (by kernel_rfl) (opensU_string Tryz.underlying9) (opensUFs_cons rfl (by kernel_rfl) (opensU_string Tryz.underlying9) (opensUFs_cons rfl (by kernel_rfl) (opensU_string Tryz.underlying9) (opensUFs_cons rfl (by kernel_rfl) (opensU_string Tryz.underlying9) (opensUFs_cons rfl (by kernel_rfl) opens22 (opensUFs_last rfl (by kernel_rfl) opens23)))))))
    _ (fun p => (⟨p.1, p.2.1, p.2.2.1, p.2.2.2.1, p.2.2.2.2.1, p.2.2.2.2.2⟩ : S25)) (fun _ => rfl)) (fun _ => Nat.le_refl _) (fun _ h => h.2.2.2.2.2)
theorem opens27 : OpensU Tryz.prog 27 k27 m27 (fun x => ((Lit.int .i64 x.f0).wf = true) ∧ ∀ b ∈ x.f2, (Lit.int .u8 b).wf = true) :=
  opensU_mono (opensU_iso (opensU_struct Tryz.underlying27 (by kernel_rfl) (opensUFs_cons rfl (by kernel_rfl) (opensU_int Tryz.underlying3) (opensUFs_cons rfl (by kernel_rfl) opens22 (opensUFs_last rfl (by kernel_rfl) opens23))))
    _ (fun p => (⟨p.1, p.2.1, p.2.2⟩ : S27)) (fun _ => rfl)) (fun _ => Nat.le_refl _) (fun _ h => ⟨h.1, h.2.2⟩)
theorem opens29 : OpensU Tryz.prog 29 k29 m29 (fun _ => True) :=
  opensU_mono (opensU_iso (opensU_struct Tryz.underlying29 (by kernel_rfl) (opensUFs_cons rfl (by kernel_rfl) opens25 (opensUFs_cons rfl (by kernel_rfl) opens27 (opensUFs_cons rfl (by kernel_rfl) (opensU_int Tryz.underlying3) (opensUFs_last rfl (by kernel_rfl) (opensU_int Tryz.underlying3))))))
    _ (fun p => (⟨p.1, p.2.1, p.2.2.1, p.2.2.2⟩ : S29)) (fun _ => rfl)) (fun _ => Nat.le_refl _) (fun _ _ => trivial)
theorem wt_msum : ∀ l : List S59, wt l ≤ 64 * msum m59 l
  | [] => by simp [wt]
  | f :: t => by
    have := wt_msum t
    have e : wt (f :: t) = (f.f0.size + f.f1.size + 1) + wt t := by simp [wt]
    rw [e]
    simp only [msum, m59] at this ⊢
    omega
def to34 (y : S29) : S34 := ⟨y.f0, y.f1, y.f2, y.f3⟩
theorem small29 (x : S29) (h : m29 x ≤ 1048576) : wt (to34 x).f1.f1 < 268435456 ∧ wt (to34 x).f0.f4 < 268435456 := by
  simp only [m29, m25, m27] at h
  have h1 := wt_msum x.f0.f4
  have h2 := wt_msum x.f1.f1
  exact ⟨by show wt x.f1.f1 < _; omega, by show wt x.f0.f4 < _; omega⟩
theorem small25 (x : S25) (h : m25 x ≤ 1048576) : wt x.f4 < 268435456 := by
  simp only [m25] at h
  have h1 := wt_msum x.f4
  omega
theorem open_ex {w : World} {x : S29} {cs : List Value} (h : k29.K w x cs) : ∃ r : Rf, cs = [.string (to34 x).f0.f0, .string (to34 x).f0.f1, .string (to34 x).f0.f2, .string (to34 x).f0.f3, .slice r.A4 (to34 x).f0.f4.length r.c4, .slice r.A5 (to34 x).f0.f5.length r.c5, .int .i64 (to34 x).f1.f0, .slice r.A7 (to34 x).f1.f1.length r.c7, .slice r.A8 (to34 x).f1.f2.length r.c8, .int .i64 (to34 x).f2, .int .i64 (to34 x).f3] ∧ Ex w (fun k => k < w.heap.size) (to34 x) r := by
  obtain ⟨A5, c5, A6, c6, A8, c8, A9, c9, rfl, q1, q2, q3, q4, q5, q6, q7, q8⟩ := k29_open h
  have hE : Ex w (fun _ => True) (to34 x) ⟨A5, c5, A6, c6, A8, c8, A9, c9⟩ := ⟨q1, q2, fun _ _ _ => trivial, q3, q4, fun _ _ _ => trivial, q5, q6, fun _ _ _ => trivial, q7, q8, fun _ _ _ => trivial⟩
  exact ⟨⟨A5, c5, A6, c6, A8, c8, A9, c9⟩, rfl, hE.lt.mono (fun k hk => hk.2)⟩
/-- where a request's slices lie -/
structure Rq where
  A4 : Option Addr
  c4 : Nat
  A5 : Option Addr
  c5 : Nat
structure Eq (w : World) (q : S25) (r : Rq) : Prop where
  l4 : q.f4.length ≤ r.c4
  g4 : Kd.C k59 w r.A4 q.f4.length q.f4
  l5 : q.f5.length ≤ r.c5
  g5 : Kd.C (Kd.int .u8) w r.A5 q.f5.length q.f5
theorem open_rq {w : World} {x : S25} {cs : List Value} (h : k25.K w x cs) : ∃ r : Rq, cs = [.string x.f0, .string x.f1, .string x.f2, .string x.f3, .slice r.A4 x.f4.length r.c4, .slice r.A5 x.f5.length r.c5] ∧ Eq w x r := by
  obtain ⟨A5, c5, A6, c6, rfl, q1, q2, q3, q4⟩ := k25_open h
  exact ⟨⟨A5, c5, A6, c6⟩, rfl, q1, q2, q3, q4⟩
end Go.Proofs.YtbnhlekehndhkaaGreatDoor.Fr

