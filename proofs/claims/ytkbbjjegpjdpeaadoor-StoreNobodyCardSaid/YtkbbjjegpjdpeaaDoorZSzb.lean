import Derived.Test.YtkbbjjegpjdpeaaDoorZSz

/- (not yet a claim) a store that nobody made -/
namespace Go.Proofs.YtkbbjjegpjdpeaaDoor.S
open Go.RowKit Go.Proofs.YtkbbjjegpjdpeaaDoorW.PrintWords Go.Proofs.YtkbbjjegpjdpeaaDoorW.PrintLast Go.Proofs.YtkbbjjegpjdpeaaDoorW.PrintMore Go.Proofs.YtkbbjjegpjdpeaaDoor.G Go.Proofs.YtkbbjjegpjdpeaaDoor.V
set_option linter.unusedVariables false
set_option linter.unusedSimpArgs false
abbrev No (w : World) (p : Option Addr) : Prop := ∀ W, Below w.heap.size w W → Calls Tryd.prog 27 #[.pointer p] W fun e w' => e = .returned (.bool false) ∧ w' = W
set_option maxRecDepth 100000 in
set_option maxHeartbeats 1000000 in
theorem nget (w : World) (p : Option Addr) (q : S31) (A4 : Option Addr) (c4 : Nat) (A5 : Option Addr) (c5 : Nat) (hno : No w p) :
    Calls Tryd.prog 15 #[.pointer p, .agg (Vq q A4 c4 A5 c5)] w fun e w' => e = .returned (.tuple #[.agg #[.string ⟨#[]⟩, .string ⟨#[]⟩, .string ⟨#[]⟩, .string ⟨#[]⟩, .slice none 0 0, .slice none 0 0, .int .i64 0, .slice none 0 0, .slice none 0 0, .int .i64 0, .int .i64 0], .bool false]) ∧ Below w.heap.size w w' := by
  have HN := Lib.hid hno
  clear hno
  refine (callsIn_wide (n := 8)).1 ?_
  have hro : Fence.wide.round = none := rfl
  refine callsIn_of_wp_marks Tryd.func15 rfl trivial ?_ hro
  simp only [Tryd.ntmps15, List.size_toArray, List.length_cons, List.length_nil, Nat.reduceAdd, Nat.reduceSub, Array.replicate_succ, Array.replicate_zero, List.push_toArray, List.append_toArray, List.nil_append, List.cons_append]
  gi_wp2_with (refine ⟨trivial, ?_⟩; gi_at_call 27; refine (callsIn_wide.2 (HN.out _ (by exact below_alloc (below_alloc (Below.refl _ _) _) _))).mono ?_; rintro e w' ⟨rfl, h_⟩; obtain rfl := h_.symm)
  have hn := heap_alloc_new (w.alloc (.cells (Vq q A4 c4 A5 c5) 31)) (.cells #[.string ⟨#[]⟩, .string ⟨#[]⟩, .string ⟨#[]⟩, .string ⟨#[]⟩, .slice none 0 0, .slice none 0 0, .int .i64 0, .slice none 0 0, .slice none 0 0, .int .i64 0, .int .i64 0] 41)
  rw [World.size_alloc] at hn
  refine ⟨.tuple #[.agg #[.string ⟨#[]⟩, .string ⟨#[]⟩, .string ⟨#[]⟩, .string ⟨#[]⟩, .slice none 0 0, .slice none 0 0, .int .i64 0, .slice none 0 0, .slice none 0 0, .int .i64 0, .int .i64 0], .bool false], by simp [results, Tryd.f15, go_sem, c_of hn 0 (v := .string ⟨#[]⟩) rfl, c_of hn 1 (v := .string ⟨#[]⟩) rfl, c_of hn 2 (v := .string ⟨#[]⟩) rfl, c_of hn 3 (v := .string ⟨#[]⟩) rfl, c_of hn 4 (v := .slice none 0 0) rfl, c_of hn 5 (v := .slice none 0 0) rfl, c_of hn 6 (v := .int .i64 0) rfl, c_of hn 7 (v := .slice none 0 0) rfl, c_of hn 8 (v := .slice none 0 0) rfl, c_of hn 9 (v := .int .i64 0) rfl, c_of hn 10 (v := .int .i64 0) rfl], rfl, below_alloc (below_alloc (Below.refl _ _) _) _⟩
set_option maxRecDepth 100000 in
set_option maxHeartbeats 1000000 in
theorem nlist (w : World) (p : Option Addr) (hno : No w p) : Calls Tryd.prog 11 #[.pointer p] w fun e w' => e = .returned (.slice none 0 0) ∧ Below w.heap.size w w' := by
  have HN := Lib.hid hno
  clear hno
  refine (callsIn_wide (n := 8)).1 ?_
  have hro : Fence.wide.round = none := rfl
  refine callsIn_of_wp_marks Tryd.func11 rfl trivial ?_ hro
  simp only [Tryd.ntmps11, List.size_toArray, List.length_cons, List.length_nil, Nat.reduceAdd, Nat.reduceSub, Array.replicate_succ, Array.replicate_zero, List.push_toArray, List.append_toArray, List.nil_append, List.cons_append]
  gi_wp2_with (refine ⟨trivial, ?_⟩; gi_at_call 27; refine (callsIn_wide.2 (HN.out _ (Below.refl _ _))).mono ?_; rintro e w' ⟨rfl, h_⟩; obtain rfl := h_.symm)
  exact ⟨.slice none 0 0, by simp [results, Tryd.f11, go_sem], rfl, Below.refl _ _⟩
set_option maxRecDepth 100000 in
set_option maxHeartbeats 1000000 in
theorem nput (w : World) (p : Option Addr) (x : S41) (r : Rf) (hno : No w p) : Calls Tryd.prog 21 #[.pointer p, .agg (Vx x r)] w fun e w' => e = .returned (.int .i64 2) ∧ Below w.heap.size w w' := by
  have HN := Lib.hid (hno _ (below_alloc (Below.refl _ _) (.cells (Vx x r) 41)))
  clear hno
  go_enter Tryd.func21, Tryd.ntmps21
  go_wp2_with (go_at_call 27; refine HN.out.mono ?_; rintro e w' ⟨rfl, h_⟩; obtain rfl := h_.symm)
  go_ret
  exact ⟨rfl, below_alloc (Below.refl _ _) _⟩
theorem inv_get2 {w : World} {B g : Nat} {cap : Int} {xs : List Nd} {q : S31} {A4 A5 : Option Addr} {c4 c5 : Nat} (h : Inv w B g cap xs) (hC : Kd.C k63 w A4 q.f4.length q.f4) (hc : q.f4.length ≤ c4) (hq : q.f4.length < 1099511627776) :
    Calls Tryd.prog 15 #[.pointer (some (at0 g)), .agg (Vq q A4 c4 A5 c5)] w fun e w' => Only (Mine g xs) w w' ∧ ∃ l', Inv w' B g cap l' ∧ Get q xs l' ∧
      ((best q xs = none ∧ e = .returned (.tuple #[.agg #[.string ⟨#[]⟩, .string ⟨#[]⟩, .string ⟨#[]⟩, .string ⟨#[]⟩, .slice none 0 0, .slice none 0 0, .int .i64 0, .slice none 0 0, .slice none 0 0, .int .i64 0, .int .i64 0], .bool false])) ∨
       (∃ d r', best q xs = some d ∧ e = .returned (.tuple #[.agg (Vx d.x r'), .bool true]) ∧ Ex w' (fun k => w.heap.size ≤ k ∧ Typed w' k) d.x r')) := by
  have hz : ∀ d ∈ xs, 0 ≤ d.z := fun d hd => by have := h.z64 d hd; omega
  refine (get_made2 w g cap xs _ q A4 c4 A5 c5 h.st (fun d hd => ⟨h.ex d hd, sm_fits (h.sm d hd).1, sm_len4 (h.sm d hd).1, (h.sm d hd).1.a7⟩) (fun k hk => hk) hz (by have := h.room; have := h.cap1; omega) hC hc hq).mono ?_
  rintro e w' ⟨ho, ⟨h1, h2, h3⟩ | ⟨l1, d, l2, r', h1, h2, h3, h4, h5⟩⟩
  · exact ⟨ho, xs, h.same h3 ho, .inl ⟨h1, rfl⟩, .inl ⟨h1, h2⟩⟩
  · have hzz : zs (d :: (l1 ++ l2)) = zs xs := by rw [h1, zs_append]; simp only [zs, zs_append]; omega
    refine ⟨ho, _, h.sub (hzz ▸ h5) ho (fun e he => ?_) (by rw [hzz]; exact Int.le_refl _), .inr ⟨l1, d, l2, h1, h2, rfl⟩, .inr ⟨d, r', h2, h3, h4⟩⟩
    rw [h1]
    rcases List.mem_cons.1 he with rfl | he
    · simp
    · rcases List.mem_append.1 he with he | he <;> simp [he]
theorem Inv.far {w w' : World} {B g : Nat} {cap : Int} {l : List Nd} {S : Nat → Prop} (h : Inv w B g cap l) (ho : Only S w w') (h1 : ∀ k, Mine g l k → ¬ S k) (h2 : ∀ d ∈ l, Ex w (fun k => ¬ S k) d.x d.r) : Inv w' B g cap l :=
  ⟨h.st.only ho h1, h.ge, fun d hd => (((h.ex d hd).and (h2 d hd)).only ho (fun k hk => hk.2)).mono (fun k hk => hk.1), h.sm, h.cap0, h.cap1, h.room⟩
/-- the exchange that is put, and read again -/
abbrev yx : S41 := ⟨⟨⟨#[71, 69, 84]⟩, ⟨#[104, 116, 116, 112, 115]⟩, ⟨#[97]⟩, ⟨#[47]⟩, [⟨⟨#[99]⟩, ⟨#[100]⟩⟩], []⟩, ⟨200, [⟨⟨#[97]⟩, ⟨#[98]⟩⟩], [98, 111, 100, 121]⟩, 0, 0⟩
abbrev yr (b1 b2 b3 : Nat) : Rf := ⟨some ⟨b3, 0, none⟩, 1, none, 0, some ⟨b2, 0, none⟩, 1, some ⟨b1, 0, none⟩, 4⟩
theorem C63_one {w : World} {b : Nat} {m n : ByteArray} {t : Nat} {fr : Nat × Nat} (h : w.heap[b]? = some (.cells #[.string m, .string n] t fr)) : Kd.C k63 w (some ⟨b, 0, none⟩) 1 [⟨m, n⟩] := by
  refine ⟨rfl, by decide, fun _ => ⟨_, rfl, fun j p hj => ?_⟩⟩
  rcases j with _ | j
  · obtain rfl := Option.some.inj hj
    refine ⟨[.string m, .string n], rfl, ⟨[.string m], [.string n], rfl, rfl, rfl⟩, fun i u hu => ?_⟩
    rw [add_plain]
    rcases i with _ | _ | i
    · obtain rfl := Option.some.inj hu; exact c_of h _ rfl
    · obtain rfl := Option.some.inj hu; exact c_of h _ rfl
    · simp at hu
  · simp at hj
theorem C8_four {w : World} {b : Nat} {t : Nat} {fr : Nat × Nat} (h : w.heap[b]? = some (.cells #[.int .u8 98, .int .u8 111, .int .u8 100, .int .u8 121] t fr)) : Kd.C (Kd.int .u8) w (some ⟨b, 0, none⟩) 4 [98, 111, 100, 121] := by
  refine ⟨rfl, by decide, fun _ => ⟨_, rfl, fun j p hj => ?_⟩⟩
  refine ⟨[.int .u8 p], rfl, rfl, fun i u hu => ?_⟩
  rcases i with _ | i
  · obtain rfl := Option.some.inj hu
    rw [add_plain]
    rcases j with _ | _ | _ | _ | j
    · obtain rfl := Option.some.inj hj; exact c_of h _ rfl
    · obtain rfl := Option.some.inj hj; exact c_of h _ rfl
    · obtain rfl := Option.some.inj hj; exact c_of h _ rfl
    · obtain rfl := Option.some.inj hj; exact c_of h _ rfl
    · simp at hj
  · simp at hu
theorem yx_ex {w : World} {P : Nat → Prop} {b1 b2 b3 t1 t2 t3 : Nat} {f1 f2 f3 : Nat × Nat} (h1 : w.heap[b1]? = some (.cells #[.int .u8 98, .int .u8 111, .int .u8 100, .int .u8 121] t1 f1)) (h2 : w.heap[b2]? = some (.cells #[.string ⟨#[97]⟩, .string ⟨#[98]⟩] t2 f2)) (h3 : w.heap[b3]? = some (.cells #[.string ⟨#[99]⟩, .string ⟨#[100]⟩] t3 f3))
    (p1 : P b1) (p2 : P b2) (p3 : P b3) : Ex w P yx (yr b1 b2 b3) :=
  ⟨Nat.le_refl _, C63_one h3, (fun _ ad e => by cases e; exact p3), Nat.le_refl _, C_none _ _, (fun h => absurd h (by simp)), Nat.le_refl _, C63_one h2, (fun _ ad e => by cases e; exact p2), Nat.le_refl _, C8_four h1, (fun _ ad e => by cases e; exact p1)⟩
theorem yx_sm : Sm yx := ⟨(by show 5 < 268435456; decide), (by show 1 < 268435456; decide), (by show 1 < 268435456; decide), (by show wt [⟨⟨#[99]⟩, ⟨#[100]⟩⟩] < 268435456; decide), (by show 0 < 268435456; decide), (by show wt [⟨⟨#[97]⟩, ⟨#[98]⟩⟩] < 268435456; decide), (by show 4 < 268435456; decide)⟩
theorem put_yx {l : List Nd} (h : Put 65536 yx [] l) : ∃ d, l = [d] ∧ d.x = yx := by
  rcases h with ⟨h, _⟩ | ⟨_, h, _⟩ | ⟨_, _, kept, gone, d, hy, hd, _, _, rfl⟩
  · exact absurd h (by decide)
  · exact absurd h (by decide)
  · have : kept = [] := by
      have h2 : ([] : List Nd) = kept ++ gone := hy
      exact (List.append_eq_nil_iff.1 h2.symm).1
    subst this
    exact ⟨d, rfl, hd⟩
theorem yx_match : matchB yx (ofX ⟨#[47]⟩).f0 = true := by
  have h0 : allL yx.f1.f1 VARY = [] := by decide
  have h1 : vary yx.f1.f1 = ([], false) := by unfold vary; rw [h0]; rfl
  unfold matchB
  rw [h1]
  decide
theorem best_yx {d : Nd} (hd : d.x = yx) : best (ofX ⟨#[47]⟩).f0 [d] = some d := by
  show (if matchB d.x (ofX ⟨#[47]⟩).f0 = true then some d else none) = _
  rw [hd, if_pos yx_match]
theorem get_one {d : Nd} {q : S31} {l : List Nd} (h : Get q [d] l) : l = [d] := by
  rcases h with ⟨_, h⟩ | ⟨l1, e, l2, hs, _, rfl⟩
  · exact h
  · rcases l1 with _ | ⟨a, t⟩
    · simp only [List.nil_append, List.cons.injEq] at hs
      rw [← hs.2, hs.1]; rfl
    · have := congrArg List.length hs
      simp at this
theorem C8_at {w : World} {ad : Addr} {x : Int} {l : List Int} (h : Kd.C (Kd.int .u8) w (some ad) (x :: l).length (x :: l)) : w.cell? ad = some (.int .u8 x) := by
  obtain ⟨ad', e, hc⟩ := h.2.2 (by simp)
  cases e
  obtain ⟨cs, h1, h2, h3⟩ := hc 0 x rfl
  obtain rfl : cs = [.int .u8 x] := h2
  have := h3 0 _ rfl
  simpa [Addr.add] using this
theorem C63_at {w : World} {ad : Addr} {x : S63} {l : List S63} (h : Kd.C k63 w (some ad) (x :: l).length (x :: l)) : w.cell? ⟨ad.block, ad.off + 1, none⟩ = some (.string x.f1) := by
  obtain ⟨ad', e, hc⟩ := h.2.2 (by simp)
  cases e
  obtain ⟨cs, h1, h2, h3⟩ := hc 0 x rfl
  obtain rfl := k63_open h2
  have := h3 1 _ rfl
  rw [Nat.zero_mul, Nat.zero_add] at this
  rwa [show (ad.add 1) = (⟨ad.block, ad.off + 1, none⟩ : Addr) from (add_field ad 0 1 (by omega)).trans (by simp [Addr.add])] at this
theorem Typed.fr {w : World} {k : Nat} (h : Typed w k) (a : Addr) (e : a.block = k) : w.frozen? a = false := by
  obtain ⟨cs, t, h⟩ := h
  subst e
  simp [World.frozen?, h]
theorem cell_far {W : World} {p q : Addr} {v u : Value} (h : W.cell? q = some u) (hb : p.block ≠ q.block) : (W.setCell p v).cell? q = some u := (World.cell?_setCell_far W p q v hb).trans h
theorem addr_ne {W : World} {p q : Addr} {v u : Value} (h : W.cell? p = some v) (h' : W.cell? q = some u) (hn : v ≠ u) : p ≠ q := by
  rintro rfl
  rw [h] at h'
  exact hn (Option.some.inj h')
end Go.Proofs.YtkbbjjegpjdpeaaDoor.S

