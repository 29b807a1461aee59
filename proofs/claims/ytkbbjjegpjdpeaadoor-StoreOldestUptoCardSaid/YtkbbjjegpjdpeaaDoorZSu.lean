import Derived.Test.YtkbbjjegpjdpeaaDoorZM3

/- (not yet a claim) the law's own rows of exchanges: all -/
namespace Go.Proofs.YtkbbjjegpjdpeaaDoor.S
open Go.RowKit Go.Proofs.YtkbbjjegpjdpeaaDoorW.PrintWords Go.Proofs.YtkbbjjegpjdpeaaDoorW.PrintLast Go.Proofs.YtkbbjjegpjdpeaaDoorW.PrintMore Go.Proofs.YtkbbjjegpjdpeaaDoor.G Go.Proofs.YtkbbjjegpjdpeaaDoor.V
set_option linter.unusedVariables false
set_option linter.unusedSimpArgs false
theorem info35 : (Tryd.prog.info? 35).map (fun i => (i.zero, i.size, i.bytes)) = some (some (.agg #[.string ⟨#[]⟩, .string ⟨#[]⟩, .string ⟨#[]⟩, .string ⟨#[]⟩, .slice none 0 0, .slice none 0 0, .int .i64 0, .slice none 0 0, .slice none 0 0, .int .i64 0, .int .i64 0]), 11, 184) := by kernel_rfl
theorem info35' : ∃ i, Tryd.prog.info? 35 = some i ∧ i.zero = some (.agg #[.string ⟨#[]⟩, .string ⟨#[]⟩, .string ⟨#[]⟩, .string ⟨#[]⟩, .slice none 0 0, .slice none 0 0, .int .i64 0, .slice none 0 0, .slice none 0 0, .int .i64 0, .int .i64 0]) ∧ i.size = 11 ∧ i.bytes = 184 := by
  have h := info35
  rcases hi : Tryd.prog.info? 35 with _ | i
  · rw [hi] at h; cases h
  · rw [hi] at h
    simp only [Option.map_some, Option.some.injEq, Prod.mk.injEq] at h
    exact ⟨i, rfl, h.1, h.2.1, h.2.2⟩
theorem app46_eq (w3 : World) (base : Nat) (A : Option Addr) (c : Nat) (ps : List (S41 × Rf)) (x : S41) (r : Rf) (hown : OwnRow RX 35 11 w3 base (.slice A ps.length c) ps) (hb : base ≤ w3.heap.size) (hl : ps.length + 1 ≤ 1000000) :
    ∃ A' c' w', (Builtin.append_ #[46, 46] 46 #[.slice A ps.length c, .slice (some ⟨w3.heap.size, 0, none⟩) 1 1]).run Tryd.prog (w3.alloc (.cells #[.string x.f0.f0, .string x.f0.f1, .string x.f0.f2, .string x.f0.f3, .slice r.A4 x.f0.f4.length r.c4, .slice r.A5 x.f0.f5.length r.c5, .int .i64 x.f1.f0, .slice r.A7 x.f1.f1.length r.c7, .slice r.A8 x.f1.f2.length r.c8, .int .i64 x.f2, .int .i64 x.f3] 35)) = .ok (.slice A' (ps.length + 1) c') w' ∧
      OwnRow RX 35 11 w' base (.slice A' (ps ++ [(x, r)]).length c') (ps ++ [(x, r)]) ∧ (w3.alloc (.cells (Vx x r) 35)).grownBy w' (Value.slice A ps.length c).ownBlock := by
  obtain ⟨inner, ho, hr⟩ := hown.below (below_alloc (Below.refl _ _) (.cells (Vx x r) 35))
  obtain ⟨i, h1, h2, h3, h4⟩ := info35'
  obtain ⟨v', w', hrun, how, hg, -, hk⟩ := run_append_own_at (P := Tryd.prog) (w3.alloc (.cells (Vx x r) 35)) base 46 46 35 i _ 11 184 Tryd.underlying46 h1 h2 h3 h4 rfl (by omega) (.slice A ps.length c) ps.length inner ho ⟨w3.heap.size, 0, none⟩ 1 1 (Vx x r).toList rfl
    (fun j u hj => by
      rw [show (⟨w3.heap.size, 0, none⟩ : Addr).add j = ⟨w3.heap.size, j, none⟩ by unfold Addr.add; split <;> simp_all]
      rw [cells_of (heap_alloc_new w3 _) j]
      simpa using hj)
    (by simp [Vx, Value.oneCell']) (by simp only [maxLen]; omega) (by omega) (by simp; omega)
  have hor : OwnRow RX 35 11 w' base v' (ps ++ [(x, r)]) := ⟨inner ++ (Vx x r).toList, by simpa using how, hr.snoc rfl rfl⟩
  obtain ⟨A', c', rfl, -⟩ := hor.reads
  exact ⟨A', c', w', by simpa using hrun, hor, hg⟩
/-- a row of the document's exchanges, from base on; where its elements' slices lie is of P, below base -/
structure L5 (w : World) (base : Nat) (P : Nat → Prop) (A : Option Addr) (c : Nat) (ps : List (S41 × Rf)) : Prop where
  row : OwnRow RX 35 11 w base (.slice A ps.length c) ps
  ex : ∀ p ∈ ps, Ex w P p.1 p.2
  lo : ∀ k, P k → k < base
theorem own35_move {w w1 : World} {base : Nat} {v : Value} {ps : List (S41 × Rf)} (h : OwnRow RX 35 11 w base v ps) (hm : ∀ k, v.ownBlock = some k → w1.heap[k]? = w.heap[k]?) : OwnRow RX 35 11 w1 base v ps := by
  obtain ⟨inner, ho, hr⟩ := h
  exact ⟨inner, own_move ho hm, hr⟩
theorem L5.grow {w w' : World} {base : Nat} {P : Nat → Prop} {A : Option Addr} {c : Nat} {ps : List (S41 × Rf)} (h : L5 w base P A c ps) (hb : Below w.heap.size w w') : L5 w' base P A c ps :=
  ⟨h.row.below hb, fun p hp => (h.ex p hp).below hb, h.lo⟩
theorem l5_lt {w : World} {base : Nat} {P : Nat → Prop} {A : Option Addr} {c : Nat} {ps : List (S41 × Rf)} (h : L5 w base P A c ps) (ad : Addr) (e : A = some ad) : base ≤ ad.block ∧ ad.block < w.heap.size := by
  obtain ⟨inner, ho, -⟩ := h.row
  subst e
  exact ⟨own_base ho _ rfl, own_lt ho _ rfl⟩
theorem L5.none_ (w : World) (base : Nat) (P : Nat → Prop) (lo : ∀ k, P k → k < base) : L5 w base P none 0 [] := ⟨OwnRow.none_ _ _ _ _ _, (fun p hp => by cases hp), lo⟩
theorem L5.only {w w' : World} {base : Nat} {P S : Nat → Prop} {A : Option Addr} {c : Nat} {ps : List (S41 × Rf)} (h : L5 w base P A c ps) (ho : Only S w w') (h1 : ∀ k, base ≤ k → ¬ S k) (h2 : ∀ k, P k → ¬ S k) : L5 w' base P A c ps :=
  ⟨own35_move h.row (fun k hk => by
    rcases A with _ | ad
    · simp [Value.ownBlock] at hk
    · have hl := l5_lt h ad rfl
      simp only [own_block, Option.some.injEq] at hk
      subst hk
      exact ho.block _ hl.2 (h1 _ hl.1)), fun p hp => (h.ex p hp).only ho h2, h.lo⟩
theorem L5.snoc {w w3 w5 : World} {base : Nat} {P : Nat → Prop} {A A' : Option Addr} {c c' : Nat} {ps : List (S41 × Rf)} {x : S41} {r : Rf} (h : L5 w base P A c ps) (h3 : Below w.heap.size w w3) (hE : Ex w P x r) (hb : base ≤ w.heap.size)
    (hown : OwnRow RX 35 11 w5 base (.slice A' (ps ++ [(x, r)]).length c') (ps ++ [(x, r)])) (hg : (w3.alloc (.cells (Vx x r) 35)).grownBy w5 (Value.slice A ps.length c).ownBlock) : L5 w5 base P A' c' (ps ++ [(x, r)]) := by
  have hs := h3.size
  have keep : ∀ k, k < base → w5.heap[k]? = w.heap[k]? := by
    intro k hk
    rw [hg.block k (by simp; omega) (by
      rcases A with _ | ad
      · simp [Value.ownBlock]
      · have := (l5_lt h ad rfl).1
        simp [Value.ownBlock]; omega), heap_alloc_old _ _ _ (by omega), h3.block k (by omega)]
  refine ⟨hown, fun p hp => ?_, h.lo⟩
  rcases List.mem_append.1 hp with hp | hp
  · exact (h.ex p hp).keep (fun k hk => keep k (h.lo k hk))
  · obtain rfl : p = (x, r) := by simpa using hp
    exact hE.keep (fun k hk => keep k (h.lo k hk))
theorem below_snoc {w w3 w5 : World} {base : Nat} {A : Option Addr} {n c : Nat} {x : S41} {r : Rf} (h3 : Below base w w3) (hb : base ≤ w.heap.size) (hA : ∀ ad, A = some ad → base ≤ ad.block) (hg : (w3.alloc (.cells (Vx x r) 35)).grownBy w5 (Value.slice A n c).ownBlock) : Below base w w5 := by
  have hs := h3.size
  have hz := hg.size
  refine ⟨hg.os.trans h3.os, hg.tape.trans h3.tape, hg.output.trans h3.output, by simp at hz; omega, fun k hk => ?_⟩
  rw [hg.block k (by simp; omega) (by
    rcases A with _ | ad
    · simp [Value.ownBlock]
    · have := hA ad rfl
      simp [Value.ownBlock]; omega), heap_alloc_old _ _ _ (by omega), h3.block k hk]

theorem app46_at {ops : Array Oper} {rest : List Oper} {o : Oper} {a : Act} {Q : Exit → Act → World → Prop} {w : World} (hgd : o.guard = none) (s x : Operand)
    (ho : o.op = .call { callee := .builtin .append, args := #[s, x], argTypes := #[46, 46] }) (hty : o.type = 46) {v xv v' : Value} {w' : World} (hs : a.eval s = v) (hx : a.eval x = xv)
    (hr : (Builtin.append_ #[46, 46] 46 #[v, xv]).run Tryd.prog w = .ok v' w') (h : wpList Tryd.prog ops Q rest (a.put o.dst v') w') : wpList Tryd.prog ops Q (o :: rest) a w := by
  refine wpList_plain hgd fun K hK => ?_
  unfold Oper.wp execOp
  simp only [ho, hty, resolve, invoke, builtin, Sem.run_bind, Sem.run_pure, Result.andThen_ok, List.map_toArray, List.map_cons, List.map_nil, hs, hx, hr]
  exact hK _ _ h

set_option maxRecDepth 100000 in
set_option maxHeartbeats 4000000 in
theorem lall_calls (w : World) (b0 : Nat) (P : Nat → Prop) (A : Option Addr) (c : Nat) (ps : List (S41 × Rf)) (h : Ls w b0 P A c ps) (hn : ps.length ≤ 65536) :
    Calls Tryd.prog 19 #[.slice A ps.length c] w fun e w' => ∃ A' c', e = .returned (.slice A' ps.length c') ∧ L5 w' w.heap.size (fun k => P k ∧ k < w.heap.size) A' c' ps ∧ Below w.heap.size w w' := by
  have HL := Lib.hid h
  clear h
  go_enter Tryd.func19, Tryd.ntmps19
  go_wp2
  go_loopg [3, 8] ps.length (fun k v3 v8 W => ∃ (j : Nat) (A' : Option Addr) (c' : Nat) (pre : List (S41 × Rf)), v8 = .int .i64 (j : Int) ∧ v3 = .slice A' pre.length c' ∧ j ≤ ps.length ∧ ps.length ≤ k + j ∧ Hid (pre = ps.take j) ∧ Hid (Below w.heap.size w W) ∧ Hid (L5 W w.heap.size (fun k => P k ∧ k < w.heap.size) A' c' pre))
  case atStart => exact ⟨0, none, 0, [], rfl, rfl, by omega, by omega, Lib.hid rfl, Lib.hid (Below.refl _ _), Lib.hid (L5.none_ _ _ _ (fun k hk => hk.2))⟩
  case round =>
    obtain ⟨j, A', c', pre, rfl, rfl, hj, hjk, HP, HW, H5⟩ := hrel
    by_cases hlt : j < ps.length
    · obtain ⟨k2, rfl⟩ : ∃ k2, gk = k2 + 1 := ⟨gk - 1, by omega⟩
      have hk3 : ps.length ≤ k2 + (j + 1) := by omega
      have hj1 : j + 1 ≤ ps.length := hlt
      have c1 : decide ((j : Int) < (ps.length : Int)) = true := decide_eq_true (by omega)
      have p1 : 0 ≤ (j : Int) := by omega
      have p2 : (j : Int) < (ps.length : Int) := by omega
      obtain ⟨ad, x, r, rfl, hps, g0, g1, g2, g3, g4, g5, g6, g7, g8, g9, g10, hE⟩ := ls_at (HL.out.grow HW.out) j hlt
      have HPS := Lib.hid hps
      have HE : Hid (Ex wr (fun k => P k ∧ k < w.heap.size) x r) := Lib.hid (by
        obtain ⟨ad', x', r', e', hps', -, -, -, -, -, -, -, -, -, -, -, hE'⟩ := ls_at HL.out j hlt
        rw [hps] at hps'
        cases hps'
        exact hE'.lt.below HW.out)
      have HPL : Hid (pre.length = j) := Lib.hid (by rw [HP.out, List.length_take]; omega)
      have HWJ := Lib.hid (show wrap64 ((j : Int) + 1) = (j : Int) + 1 by unfold wrap64; omega)
      have hws := HW.out.size
      have HAP := Lib.hid (fun W' (hb : Below wr.heap.size wr W') => app46_eq W' w.heap.size A' c' pre x r (H5.out.grow hb).row (by have := hb.size; omega) (by rw [HPL.out]; omega))
      clear hE hps hlt
      go_wp2_with (first | (go_at_call 13; refine (ours_calls _ x r).mono ?_; rintro e w8 ⟨rfl, hb8⟩; have HB8 := Lib.hid (below_step (below_alloc (Below.refl _ wr) _) hb8); clear hb8; obtain ⟨A9, c9, w9, hrun, hown, hgr⟩ := HAP.out _ HB8.out; have HO9 := Lib.hid hown; have HG9 := Lib.hid hgr; have HR9 := Lib.hid hrun; clear hown hgr hrun) | (at_builtin; refine app46_at rfl _ _ rfl rfl rfl rfl HR9.out ?_))
      go_roundg k2
      case measure => omega
      case rel =>
        refine ⟨j + 1, A9, c9, pre ++ [(x, r)], by first | exact congrArg (Value.int .i64) HWJ.out | go_num, by simp, hj1, hk3, Lib.hid ?_, Lib.hid ?_, Lib.hid ?_⟩
        · rw [List.take_add_one, HPS.out, HP.out]; rfl
        · exact below_snoc (HW.out.trans (HB8.out.mono hws)) (Nat.le_refl _) (fun ad e => (l5_lt H5.out ad e).1) HG9.out
        · exact H5.out.snoc HB8.out HE.out hws HO9.out HG9.out
    · have c0 : decide ((j : Int) < (ps.length : Int)) = false := decide_eq_false (by omega)
      obtain rfl : j = ps.length := by omega
      obtain rfl : pre = ps := by rw [HP.out, List.take_length]
      go_wp2
      go_ret
      exact ⟨A', c', rfl, H5.out, HW.out⟩
end Go.Proofs.YtkbbjjegpjdpeaaDoor.S

