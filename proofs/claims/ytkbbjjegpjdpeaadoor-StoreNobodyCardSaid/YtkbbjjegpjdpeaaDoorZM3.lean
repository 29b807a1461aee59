import Derived.Test.YtkbbjjegpjdpeaaDoorZM2
import Derived.Deep.LoopGhost
import Derived.Test.YtkbbjjegpjdpeaaDoorZWWords
import Derived.Test.YtkbbjjegpjdpeaaDoorRows
import Derived.ChangeArms
import Derived.ChangeSlices
import Derived.ChangeOld
import Derived.SizedLaws








/- (not yet a claim) reading acts and exchanges out of rows -/
namespace Go.Proofs.YtkbbjjegpjdpeaaDoor.S
open Go.RowKit Go.Proofs.YtkbbjjegpjdpeaaDoorW.PrintWords Go.Proofs.YtkbbjjegpjdpeaaDoorW.PrintLast Go.Proofs.YtkbbjjegpjdpeaaDoorW.PrintMore Go.Proofs.YtkbbjjegpjdpeaaDoor.G Go.Proofs.YtkbbjjegpjdpeaaDoor.V
set_option linter.unusedVariables false
set_option linter.unusedSimpArgs false

def to41 (y : S35) : S41 := ⟨y.f0, y.f1, y.f2, y.f3⟩
/-- an exchange of a row -/
theorem ls_at {w : World} {base : Nat} {P : Nat → Prop} {A : Option Addr} {c : Nat} {ps : List (S41 × Rf)} (h : Ls w base P A c ps) (i : Nat) (hi : i < ps.length) : ∃ ad x r, A = some ad ∧ ps[i]? = some (x, r) ∧ w.cell? (ad.add (i * 11)) = some (.string x.f0.f0) ∧ w.cell? ⟨(ad.add (i * 11)).block, (ad.add (i * 11)).off + 1, none⟩ = some (.string x.f0.f1) ∧ w.cell? ⟨(ad.add (i * 11)).block, (ad.add (i * 11)).off + 2, none⟩ = some (.string x.f0.f2) ∧ w.cell? ⟨(ad.add (i * 11)).block, (ad.add (i * 11)).off + 3, none⟩ = some (.string x.f0.f3) ∧ w.cell? ⟨(ad.add (i * 11)).block, (ad.add (i * 11)).off + 4, none⟩ = some (.slice r.A4 x.f0.f4.length r.c4) ∧ w.cell? ⟨(ad.add (i * 11)).block, (ad.add (i * 11)).off + 5, none⟩ = some (.slice r.A5 x.f0.f5.length r.c5) ∧ w.cell? ⟨(ad.add (i * 11)).block, (ad.add (i * 11)).off + 6, none⟩ = some (.int .i64 x.f1.f0) ∧ w.cell? ⟨(ad.add (i * 11)).block, (ad.add (i * 11)).off + 7, none⟩ = some (.slice r.A7 x.f1.f1.length r.c7) ∧ w.cell? ⟨(ad.add (i * 11)).block, (ad.add (i * 11)).off + 8, none⟩ = some (.slice r.A8 x.f1.f2.length r.c8) ∧ w.cell? ⟨(ad.add (i * 11)).block, (ad.add (i * 11)).off + 9, none⟩ = some (.int .i64 x.f2) ∧ w.cell? ⟨(ad.add (i * 11)).block, (ad.add (i * 11)).off + 10, none⟩ = some (.int .i64 x.f3) ∧ Ex w P x r := by
  obtain ⟨A', c', e, _, hr⟩ := OwnRow.reads h.row
  cases e
  obtain ⟨ad, e, hc⟩ := hr.2.2 (by omega)
  obtain ⟨cs, hs, hR, hcell⟩ := hc i ps[i] (List.getElem?_eq_getElem hi)
  have hR' : cs = (Vx ps[i].1 ps[i].2).toList := hR
  subst hR'
  have hf : ∀ j, 0 < j → (⟨(ad.add (i * 11)).block, (ad.add (i * 11)).off + j, none⟩ : Addr) = ad.add (i * 11 + j) := fun j hj => (add_field ad (i * 11) j hj).symm
  exact ⟨ad, ps[i].1, ps[i].2, e, List.getElem?_eq_getElem hi, hcell 0 _ rfl, (by rw [hf 1 (by omega)]; exact hcell 1 _ rfl), (by rw [hf 2 (by omega)]; exact hcell 2 _ rfl), (by rw [hf 3 (by omega)]; exact hcell 3 _ rfl), (by rw [hf 4 (by omega)]; exact hcell 4 _ rfl), (by rw [hf 5 (by omega)]; exact hcell 5 _ rfl), (by rw [hf 6 (by omega)]; exact hcell 6 _ rfl), (by rw [hf 7 (by omega)]; exact hcell 7 _ rfl), (by rw [hf 8 (by omega)]; exact hcell 8 _ rfl), (by rw [hf 9 (by omega)]; exact hcell 9 _ rfl), (by rw [hf 10 (by omega)]; exact hcell 10 _ rfl), h.ex _ (List.getElem_mem hi)⟩
theorem Ls.grow {w w' : World} {base : Nat} {P : Nat → Prop} {A : Option Addr} {c : Nat} {ps : List (S41 × Rf)} (h : Ls w base P A c ps) (hb : Below w.heap.size w w') : Ls w' base P A c ps :=
  ⟨h.row.below hb, fun p hp => (h.ex p hp).below hb, h.far⟩

theorem below_only {w w' : World} {B : Nat} {S : Nat → Prop} (hB : B ≤ w.heap.size) (ho : Only S w w') (hS : ∀ k, S k → B ≤ k) : Below B w w' := Inv.below (g := 0) (cap := 0) (l := []) hB ho hS
theorem inv_new (w : World) (cap : Int) (h0 : 0 ≤ cap) (h1 : cap ≤ 65536) : Inv (w.alloc (Sc cap 0 none none)) w.heap.size w.heap.size cap [] := by
  refine ⟨by simpa [zs] using new_store w cap, fun k hk => ?_, fun d hd => ?_, fun d hd => ?_, h0, h1, by simpa [zs] using h0⟩
  · rcases hk with rfl | ⟨d, hd, _⟩
    · exact Nat.le_refl _
    · cases hd
  · cases hd
  · cases hd
end Go.Proofs.YtkbbjjegpjdpeaaDoor.S
/- (not yet a claim) alive -/
namespace Go.Proofs.YtkbbjjegpjdpeaaDoor.S
open Go.RowKit Go.Proofs.YtkbbjjegpjdpeaaDoorW.PrintWords Go.Proofs.YtkbbjjegpjdpeaaDoorW.PrintLast Go.Proofs.YtkbbjjegpjdpeaaDoorW.PrintMore Go.Proofs.YtkbbjjegpjdpeaaDoor.G Go.Proofs.YtkbbjjegpjdpeaaDoor.V
set_option linter.unusedVariables false
set_option linter.unusedSimpArgs false

def ofX (p : ByteArray) : S41 := ⟨⟨⟨#[71, 69, 84]⟩, ⟨#[104, 116, 116, 112, 115]⟩, ⟨#[97]⟩, p, [], []⟩, ⟨200, [], []⟩, 0, 0⟩
def R0 : Rf := ⟨none, 0, none, 0, none, 0, none, 0⟩
theorem of_calls (w : World) (p : ByteArray) : Calls Tryd.prog 25 #[.string p] w fun e w' => e = .returned (.agg (Vx (ofX p) R0)) ∧ Below w.heap.size w w' := by
  go_enter Tryd.func25, Tryd.ntmps25
  go_wp2
  refine bodyPost_ret (v := .agg (Vx (ofX p) R0)) (by simp [results, Tryd.results25, go_sem, ofX, R0]) rfl ⟨rfl, ?_⟩
  repeat (first | exact Below.refl _ _ | apply below_alloc | (refine Below.setCell ?_ (by simp) _))
set_option maxRecDepth 100000 in
theorem field_of (p : ByteArray) (W : World) : Sem.run Tryd.prog (Instr.field 35 (.agg (Vx (ofX p) R0)) 0) W = .ok (.agg (Vq (ofX p).f0 none 0 none 0)) W := by
  rfl
theorem C_none {α : Type} (k : Kd α) (w : World) : Kd.C k w none 0 [] := ⟨rfl, by simp, fun h => absurd h (by simp)⟩
theorem ofX_ex (w : World) (P : Nat → Prop) (p : ByteArray) : Ex w P (ofX p) R0 :=
  ⟨Nat.le_refl _, C_none _ _, fun h => absurd h (by simp [ofX]), Nat.le_refl _, C_none _ _, fun h => absurd h (by simp [ofX]), Nat.le_refl _, C_none _ _, fun h => absurd h (by simp [ofX]), Nat.le_refl _, C_none _ _, fun h => absurd h (by simp [ofX])⟩
theorem ofX_sm (p : ByteArray) (h : p.size < 80) : Sm (ofX p) := ⟨(by show 5 < 268435456; decide), (by show 1 < 268435456; decide), (by show p.size < _; omega), (by show wt ([] : List S63) < 268435456; decide), (by show 0 < 268435456; decide), (by show wt ([] : List S63) < 268435456; decide), (by show 0 < 268435456; decide)⟩
theorem ofX_size (p : ByteArray) : sizeI (ofX p) = 70 + (p.size : Int) := by
  show 64 + 5 + 1 + (p.size : Int) + 0 + 0 + 0 = _
  omega
theorem ofX_right (p : ByteArray) : rightB (ofX p) = true := rfl
theorem ofX_match (p q : ByteArray) : matchB (ofX p) (ofX q).f0 = (D p == D q) := by
  have h1 : vary (ofX p).f1.f1 = ([], false) := rfl
  unfold matchB
  rw [h1, ofX_right]
  show (true && !false && true && true && (D p == D q) && !(([] : List ByteArray).any _)) = _
  simp

structure Now (w : World) (l : List Nd) (W : World) : Prop where
  inv : Inv W w.heap.size w.heap.size 150 l
  bel : Below w.heap.size w W
theorem Now.grow {w W W' : World} {l : List Nd} (h : Now w l W) (hb : Below W.heap.size W W') : Now w l W' := ⟨h.inv.grow hb, below_step h.bel hb⟩
theorem now_new (w : World) : Now w [] (w.alloc (Sc 150 0 none none)) := ⟨inv_new w 150 (by decide) (by decide), below_alloc (Below.refl _ _) _⟩
theorem now_put {w W : World} {l : List Nd} (h : Now w l W) (p : ByteArray) (hp : p.size < 80) : Calls Tryd.prog 21 #[.pointer (some (at0 w.heap.size)), .agg (Vx (ofX p) R0)] W fun e W' => e = .returned (.int .i64 0) ∧ ∃ l', Now w l' W' ∧ Put 150 (ofX p) l l' := by
  refine (inv_put h.inv h.bel.size (ofX_ex _ _ _) (ofX_sm p hp)).mono ?_
  rintro e W' ⟨ho, l', c, rfl, hi, hpp, hc⟩
  have : c = 0 := by
    rw [hc, if_pos (ofX_right p), if_neg (by rw [ofX_size]; omega)]
  subst this
  exact ⟨rfl, l', ⟨hi, h.bel.trans (below_only h.bel.size ho h.inv.ge)⟩, hpp⟩
theorem now_get {w W : World} {l : List Nd} (h : Now w l W) (p : ByteArray) : Calls Tryd.prog 15 #[.pointer (some (at0 w.heap.size)), .agg (Vq (ofX p).f0 none 0 none 0)] W fun e W' => ∃ l', Now w l' W' ∧ Get (ofX p).f0 l l' ∧
    ((best (ofX p).f0 l = none ∧ e = .returned (.tuple #[.agg #[.string ⟨#[]⟩, .string ⟨#[]⟩, .string ⟨#[]⟩, .string ⟨#[]⟩, .slice none 0 0, .slice none 0 0, .int .i64 0, .slice none 0 0, .slice none 0 0, .int .i64 0, .int .i64 0], .bool false])) ∨
     (∃ d r', best (ofX p).f0 l = some d ∧ e = .returned (.tuple #[.agg (Vx d.x r'), .bool true]))) := by
  refine (inv_get (A4 := none) (c4 := 0) (A5 := none) (c5 := 0) h.inv (C_none _ _) (Nat.le_refl _) (by show 0 < 1099511627776; decide)).mono ?_
  rintro e W' ⟨ho, l', hi, hg, hc⟩
  refine ⟨l', ⟨hi, h.bel.trans (below_only h.bel.size ho h.inv.ge)⟩, hg, ?_⟩
  rcases hc with hc | ⟨d, r', h1, h2, _⟩
  · exact .inl hc
  · exact .inr ⟨d, r', h1, h2⟩
theorem Now.z {w W : World} {l : List Nd} (h : Now w l W) (d : Nd) (hd : d ∈ l) (p : ByteArray) (hx : d.x = ofX p) : d.z = 70 + (p.size : Int) := by
  rw [(h.inv.sm d hd).2, hx, ofX_size]

def P1 : ByteArray := ⟨#[47, 49]⟩
def P2 : ByteArray := ⟨#[47, 50]⟩
def P3 : ByteArray := ⟨#[47, 51]⟩
theorem put_0 {l : List Nd} (h : Put 150 (ofX P1) [] l) : ∃ d, l = [d] ∧ d.x = ofX P1 := by
  rcases h with ⟨h, _⟩ | ⟨_, h, _⟩ | ⟨_, _, kept, gone, d, hy, hd, _, _, rfl⟩
  · cases h
  · exact absurd h (by decide)
  · have : kept = [] := by
      have h2 : ([] : List Nd) = kept ++ gone := hy
      exact (List.append_eq_nil_iff.1 h2.symm).1
    subst this
    exact ⟨d, rfl, hd⟩
theorem ys_no (l : List Nd) (p : ByteArray) (h : ∀ d ∈ l, ∃ q, d.x = ofX q ∧ D q ≠ D p) : ys l (ofX p) = l := by
  unfold ys
  rw [List.filter_eq_self]
  intro d hd
  obtain ⟨q, h1, h2⟩ := h d hd
  rw [h1, ofX_match]
  simp [h2]
theorem put_1 {l : List Nd} {a : Nd} (ha : a.x = ofX P1) (hz : a.z = 72) (h : Put 150 (ofX P2) [a] l) : ∃ d, l = [d, a] ∧ d.x = ofX P2 := by
  rcases h with ⟨h, _⟩ | ⟨_, h, _⟩ | ⟨_, _, kept, gone, d, hy, hd, hr, ht, rfl⟩
  · cases h
  · exact absurd h (by decide)
  · rw [ys_no [a] P2 (by simp; exact ⟨P1, ha, by decide⟩)] at hy
    rw [ofX_size, show P2.size = 2 from rfl] at hr ht
    rcases kept with _ | ⟨b, t⟩
    · have := ht a [] hy.symm
      simp only [zs] at this
      omega
    · rw [List.cons_append, List.cons.injEq] at hy
      obtain ⟨rfl, h2⟩ := hy
      have := List.append_eq_nil_iff.1 h2.symm
      rw [this.1]
      exact ⟨d, rfl, hd⟩
theorem put_2 {l : List Nd} {a b : Nd} (ha : a.x = ofX P1) (hz : a.z = 72) (hb : b.x = ofX P2) (hzb : b.z = 72) (h : Put 150 (ofX P3) [a, b] l) : ∃ d, l = [d, a] ∧ d.x = ofX P3 := by
  rcases h with ⟨h, _⟩ | ⟨_, h, _⟩ | ⟨_, _, kept, gone, d, hy, hd, hr, ht, rfl⟩
  · cases h
  · exact absurd h (by decide)
  · rw [ys_no [a, b] P3 (by
      intro e he
      simp at he
      rcases he with rfl | rfl
      · exact ⟨P1, ha, by decide⟩
      · exact ⟨P2, hb, by decide⟩)] at hy
    rw [ofX_size, show P3.size = 2 from rfl] at hr ht
    rcases kept with _ | ⟨c, _ | ⟨c', t⟩⟩
    · have := ht a [b] hy.symm
      simp only [zs] at this
      omega
    · rw [List.cons_append, List.cons.injEq] at hy
      obtain ⟨rfl, h2⟩ := hy
      exact ⟨d, rfl, hd⟩
    · simp only [List.cons_append, List.cons.injEq] at hy
      obtain ⟨rfl, rfl, h2⟩ := hy
      simp only [zs] at hr
      have : 0 ≤ zs t := by
        have := (List.append_eq_nil_iff.1 h2.symm).1
        subst this
        simp [zs]
      omega
theorem best_two {a b : Nd} {q p1 p2 : ByteArray} (ha : a.x = ofX p1) (hb : b.x = ofX p2) : best (ofX q).f0 [a, b] = if D p1 == D q then some a else if D p2 == D q then some b else none := by
  have e1 : pick (ofX q).f0 none a = if D p1 == D q then some a else none := by
    show (if matchB a.x (ofX q).f0 = true then some a else none) = _
    rw [ha, ofX_match]
  have e2 : pick (ofX q).f0 none b = if D p2 == D q then some b else none := by
    show (if matchB b.x (ofX q).f0 = true then some b else none) = _
    rw [hb, ofX_match]
  have e3 : pick (ofX q).f0 (some a) b = some a := by
    show (if (matchB b.x (ofX q).f0 && decide (a.x.f3 < b.x.f3)) = true then some b else some a) = _
    rw [ha, hb, show decide ((ofX p1).f3 < (ofX p2).f3) = false from rfl, Bool.and_false]
    rfl
  show pick (ofX q).f0 (pick (ofX q).f0 none a) b = _
  rw [e1]
  by_cases h1 : (D p1 == D q) = true
  · rw [if_pos h1, if_pos h1, e3]
  · rw [if_neg h1, if_neg h1, e2]
theorem get_two {a b : Nd} {l : List Nd} {q : S31} (hne : a.x ≠ b.x) (h : Get q [a, b] l) (hb : best q [a, b] = some b) : l = [b, a] := by
  rcases h with ⟨h, _⟩ | ⟨l1, e, l2, hs, he, rfl⟩
  · rw [hb] at h; cases h
  · rw [hb] at he
    obtain rfl := Option.some.inj he
    rcases l1 with _ | ⟨c, _ | ⟨c', t⟩⟩
    · simp at hs
      exact absurd (congrArg Nd.x hs.1) hne
    · simp at hs
      obtain ⟨rfl, rfl⟩ := hs
      rfl
    · simp at hs
theorem get_no {l l' : List Nd} {q : S31} (h : Get q l l') (hb : best q l = none) : l' = l := by
  rcases h with ⟨_, h⟩ | ⟨l1, e, l2, hs, he, rfl⟩
  · exact h
  · rw [hb] at he; cases he

theorem now_yes {w W : World} {l : List Nd} {d : Nd} (h : Now w l W) (p : ByteArray) (hb : best (ofX p).f0 l = some d) : Calls Tryd.prog 15 #[.pointer (some (at0 w.heap.size)), .agg (Vq (ofX p).f0 none 0 none 0)] W fun e W' => ∃ l' r', e = .returned (.tuple #[.agg (Vx d.x r'), .bool true]) ∧ Now w l' W' ∧ Get (ofX p).f0 l l' := by
  refine (now_get h p).mono ?_
  rintro e W' ⟨l', hn, hg, ⟨h1, _⟩ | ⟨d', r', h1, rfl⟩⟩
  · rw [hb] at h1; cases h1
  · rw [hb] at h1
    obtain rfl := Option.some.inj h1
    exact ⟨l', r', rfl, hn, hg⟩
theorem now_no {w W : World} {l : List Nd} (h : Now w l W) (p : ByteArray) (hb : best (ofX p).f0 l = none) : Calls Tryd.prog 15 #[.pointer (some (at0 w.heap.size)), .agg (Vq (ofX p).f0 none 0 none 0)] W fun e W' => e = .returned (.tuple #[.agg #[.string ⟨#[]⟩, .string ⟨#[]⟩, .string ⟨#[]⟩, .string ⟨#[]⟩, .slice none 0 0, .slice none 0 0, .int .i64 0, .slice none 0 0, .slice none 0 0, .int .i64 0, .int .i64 0], .bool false]) ∧ Now w l W' := by
  refine (now_get h p).mono ?_
  rintro e W' ⟨l', hn, hg, ⟨h1, rfl⟩ | ⟨d', r', h1, rfl⟩⟩
  · obtain rfl := get_no hg hb
    exact ⟨rfl, hn⟩
  · rw [hb] at h1; cases h1

set_option maxRecDepth 100000 in
set_option maxHeartbeats 8000000 in
theorem alive_calls (w : World) : Calls Tryd.prog 9 #[] w fun e w' => e = .returned (.bool true) ∧ Below w.heap.size w w' := by
  have HF1 := field_of ⟨#[47, 49]⟩
  have HF2 := field_of ⟨#[47, 50]⟩
  have HN := Lib.hid (new_yes w 150 (by decide) (by decide))
  go_enter Tryd.func9, Tryd.ntmps9
  go_upto_region 2 with (go_at_call 8; refine HN.out.mono ?_; rintro e w' ⟨rfl, h_⟩; obtain rfl := h_.symm)
  have H0 := Lib.hid (now_new w)
  generalize (w.alloc (Sc 150 0 none none)) = V0 at H0 ⊢
  clear HN
  go_upto_region 4 with (first
    | (go_at_call 25; refine (of_calls _ _).mono ?_; rintro e V4 ⟨rfl, hb⟩; have H4 := Lib.hid (H3.out.grow hb); clear hb)
    | (go_at_call 25; refine (of_calls _ _).mono ?_; rintro e V1 ⟨rfl, hb⟩; have H1 := Lib.hid (H0.out.grow hb); clear hb)
    | (go_at_call 22; refine (theirs_calls _ _ _).mono ?_; rintro e V5 ⟨rfl, hb⟩; have H5 := Lib.hid (H4.out.grow hb); clear hb)
    | (go_at_call 22; refine (theirs_calls _ _ _).mono ?_; rintro e V2 ⟨rfl, hb⟩; have H2 := Lib.hid (H1.out.grow hb); clear hb)
    | (go_at_call 21; refine (now_put H5.out P2 (by decide)).mono ?_; rintro e V6 ⟨rfl, l6, hn, hp⟩; have H6 := Lib.hid hn; have HP6 := Lib.hid hp; clear hn hp)
    | (go_at_call 21; refine (now_put H2.out P1 (by decide)).mono ?_; rintro e V3 ⟨rfl, l3, hn, hp⟩; have H3 := Lib.hid hn; have HP3 := Lib.hid hp; clear hn hp))
  obtain ⟨a, rfl, ha⟩ := put_0 HP3.out
  have hza : a.z = 72 := H3.out.z a (by simp) P1 ha
  obtain ⟨b, rfl, hb⟩ := put_1 ha hza HP6.out
  have hzb : b.z = 72 := H6.out.z b (by simp) P2 hb
  have HB1 : Hid (best (ofX P1).f0 [b, a] = some a) := Lib.hid (by rw [best_two hb ha]; rfl)
  have HNE : Hid (b.x ≠ a.x) := Lib.hid (by
    rw [ha, hb]
    intro h
    have := congrArg (fun y : S41 => D y.f0.f3) h
    exact absurd this (by decide))
  have HA := Lib.hid ha
  have HB := Lib.hid hb
  have HZ := Lib.hid (And.intro hza hzb)
  clear ha hb hza hzb HP3 HP6
  go_upto_region 5 with (first
    | (go_at_call 25; refine (of_calls _ _).mono ?_; rintro e V7 ⟨rfl, hb⟩; have H7 := Lib.hid (H6.out.grow hb); clear hb)
    | (go_at_call 15; refine (now_yes H7.out P1 HB1.out).mono ?_; rintro e V8 ⟨l8, r8, rfl, hn, hg⟩; have H8 := Lib.hid (hn.grow (below_alloc (Below.refl _ V8) (.cells (Vx a.x r8) 41))); have HG8 := Lib.hid hg; clear hn hg))
  obtain rfl := get_two HNE.out HG8.out HB1.out
  go_upto_region 6 with (first
    | (go_at_call 25; refine (of_calls _ _).mono ?_; rintro e V9 ⟨rfl, hb⟩; have H9 := Lib.hid (H8.out.grow hb); clear hb)
    | (go_at_call 22; refine (theirs_calls _ _ _).mono ?_; rintro e V10 ⟨rfl, hb⟩; have H10 := Lib.hid (H9.out.grow hb); clear hb)
    | (go_at_call 21; refine (now_put H10.out P3 (by decide)).mono ?_; rintro e V11 ⟨rfl, l11, hn, hp⟩; have H11 := Lib.hid hn; have HP11 := Lib.hid hp; clear hn hp))
  obtain ⟨c, rfl, hc⟩ := put_2 HA.out HZ.out.1 HB.out HZ.out.2 HP11.out
  have HB2 : Hid (best (ofX P2).f0 [c, a] = none) := Lib.hid (by rw [best_two hc HA.out]; rfl)
  have HB3 : Hid (best (ofX P1).f0 [c, a] = some a) := Lib.hid (by rw [best_two hc HA.out]; rfl)
  have HNE2 : Hid (c.x ≠ a.x) := Lib.hid (by
    rw [hc, HA.out]
    intro h
    have := congrArg (fun y : S41 => D y.f0.f3) h
    exact absurd this (by decide))
  have HC := Lib.hid hc
  clear hc HP11 HG8
  go_upto_region 7 with (first
    | (go_at_call 25; refine (of_calls _ _).mono ?_; rintro e V12 ⟨rfl, hb⟩; have H12 := Lib.hid (H11.out.grow hb); clear hb)
    | (go_at_call 15; refine (now_no H12.out P2 HB2.out).mono ?_; rintro e V13 ⟨rfl, hn⟩; have H13 := Lib.hid (hn.grow (below_alloc (Below.refl _ V13) Z41)); clear hn))
  go_upto_region 8 with (first
    | (go_at_call 25; refine (of_calls _ _).mono ?_; rintro e V14 ⟨rfl, hb⟩; have H14 := Lib.hid (H13.out.grow hb); clear hb)
    | (go_at_call 15; refine (now_yes H14.out P1 HB3.out).mono ?_; rintro e V15 ⟨l15, r15, rfl, hn, hg⟩; have H15 := Lib.hid (hn.grow (below_alloc (Below.refl _ V15) (.cells (Vx a.x r15) 41))); have HG15 := Lib.hid hg; clear hn hg))
  obtain rfl := get_two HNE2.out HG15.out HB3.out
  have hu : zs [a, c] = 144 := by
    have h1 := HZ.out.1
    have h2 : c.z = 72 := H11.out.z c (by simp) P3 HC.out
    simp only [zs]
    omega
  have HU := Lib.hid (hu ▸ used_made _ w.heap.size 150 (zs [a, c]) _ _ H15.out.inv.st.head)
  have HSZ := Lib.hid (fun W => size_calls W (fun _ => True) (ofX P1) R0 (ofX_ex W _ P1) (ofX_sm P1 (by decide)))
  have h72 : sizeI (ofX P1) = 72 := by rw [ofX_size]; rfl
  rw [h72] at HSZ
  clear hu h72
  go_wp2_with (first
    | (go_at_call 14; refine HU.out.mono ?_; rintro e w' ⟨rfl, h_⟩; obtain rfl := h_.symm)
    | (go_at_call 25; refine (of_calls _ _).mono ?_; rintro e V16 ⟨rfl, hb⟩; have H16 := Lib.hid (H15.out.grow hb); clear hb)
    | (go_at_call 22; refine (theirs_calls _ _ _).mono ?_; rintro e V17 ⟨rfl, hb⟩; have H17 := Lib.hid (H16.out.grow hb); clear hb)
    | (go_at_call 26; refine (HSZ.out _).mono ?_; rintro e V18 ⟨rfl, hb⟩; have H18 := Lib.hid (H17.out.grow hb); clear hb))
  go_ret
  exact ⟨rfl, H18.out.bel⟩
end Go.Proofs.YtkbbjjegpjdpeaaDoor.S
/- What reads as data is of a kind: integers, strings, structs, slices, in each other; and its measure is at most the reading's bulk. -/
namespace Go.Proofs.YtkbbjjegpjdpeaaDoor.OpnU
open Go.RowKit Go.Proofs.YtkbbjjegpjdpeaaDoorW.PrintWords
set_option linter.unusedVariables false

theorem mapM_get {α β : Type} {f : α → Option β} : ∀ {l : List α} {r : List β}, l.mapM f = some r → r.length = l.length ∧ ∀ (i : Nat) (x : α), l[i]? = some x → f x = r[i]?
  | [], r, h => by
    simp at h
    subst h
    exact ⟨rfl, fun i x hx => by simp at hx⟩
  | a :: l, r, h => by
    rw [List.mapM_cons] at h
    simp only [Option.bind_eq_bind, Option.bind_eq_some_iff, Option.pure_def, Option.some.injEq] at h
    obtain ⟨b, hb, r', hr', rfl⟩ := h
    obtain ⟨h1, h2⟩ := mapM_get hr'
    refine ⟨by simp [h1], fun i x hx => ?_⟩
    rcases i with _ | i
    · simp only [List.getElem?_cons_zero, Option.some.injEq] at hx
      subst hx
      simpa using hb
    · simp only [List.getElem?_cons_succ] at hx ⊢
      exact h2 i x hx

theorem add_add' (a : Addr) (i j : Nat) : (a.add i).add j = a.add (i + j) := by
  unfold Addr.add
  by_cases hi : i = 0 <;> by_cases hj : j = 0 <;> simp [hi, hj, Nat.add_assoc]

theorem choose_list {α : Type} {n : Nat} {p : Nat → α → Prop} (h : ∀ i, i < n → ∃ x, p i x) : ∃ l : List α, l.length = n ∧ ∀ i x, l[i]? = some x → p i x := by
  induction n with
  | zero => exact ⟨[], rfl, fun i x hx => by simp at hx⟩
  | succ n ih =>
    obtain ⟨l, hl, hp⟩ := ih (fun i hi => h i (by omega))
    obtain ⟨x, hx⟩ := h n (by omega)
    refine ⟨l ++ [x], by simp [hl], fun i y hy => ?_⟩
    rcases Nat.lt_or_ge i l.length with hi | hi
    · rw [List.getElem?_append_left hi] at hy
      exact hp i y hy
    · have hi' : i = l.length := by
        have := (List.getElem?_eq_some_iff.1 hy).1
        simp at this
        omega
      subst hi'
      rw [hl]
      simp at hy
      subst hy
      exact hx

end Go.Proofs.YtkbbjjegpjdpeaaDoor.OpnU
/- (not yet a claim) what the bound gives of a script -/
namespace Go.Proofs.YtkbbjjegpjdpeaaDoor.S
open Go.RowKit Go.Proofs.YtkbbjjegpjdpeaaDoorW.PrintWords Go.Proofs.YtkbbjjegpjdpeaaDoor.OpnU Go.Proofs.YtkbbjjegpjdpeaaDoor.G Go.Proofs.YtkbbjjegpjdpeaaDoor.V
set_option linter.unusedVariables false
set_option linter.unusedSimpArgs false
end Go.Proofs.YtkbbjjegpjdpeaaDoor.S

