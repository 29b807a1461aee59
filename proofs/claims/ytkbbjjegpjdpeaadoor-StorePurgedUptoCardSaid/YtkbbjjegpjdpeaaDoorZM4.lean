import Derived.Test.YtkbbjjegpjdpeaaDoorZM3
import Derived.Test.YtkbbjjegpjdpeaaDoorZGxf20
/- (not yet a claim) the law's own rows of exchanges: all -/
namespace Go.Proofs.YtkbbjjegpjdpeaaDoor.S
open Go.RowKit Go.Proofs.YtkbbjjegpjdpeaaDoorW.PrintWords Go.Proofs.YtkbbjjegpjdpeaaDoorW.PrintLast Go.Proofs.YtkbbjjegpjdpeaaDoorW.PrintMore Go.Proofs.YtkbbjjegpjdpeaaDoor.G Go.Proofs.YtkbbjjegpjdpeaaDoor.V
set_option linter.unusedVariables false
set_option linter.unusedSimpArgs false
theorem info35 : (Tryd.prog.info? 35).map (fun i => (i.zero, i.size, i.bytes)) = some (some (.agg #[.string ⟨#[]⟩, .string ⟨#[]⟩, .string ⟨#[]⟩, .string ⟨#[]⟩, .slice none 0 0, .slice none 0 0, .int .i64 0, .slice none 0 0, .slice none 0 0, .int .i64 0, .int .i64 0]), 11, 184) := by kernel_rfl
theorem info35' : ∃ i, Tryd.prog.info? 35 = some i ∧ i.zero = some (.agg #[.string ⟨#[]⟩, .string ⟨#[]⟩, .string ⟨#[]⟩, .string ⟨#[]⟩, .slice none 0 0, .slice none 0 0, .int .i64 0, .slice none 0 0, .slice none 0 0, .int .i64 0, .int .i64 0]) ∧ i.size = 11 ∧ i.bytes = 184 := by
  have h := info35
  rcases hi : Tryd.prog.info? 35 with _ | i
  · rw [hi] at h; cases h
  · rw [hi] at h
    simp only [Option.map_some, Option.some.injEq, Prod.mk.injEq] at h
    exact ⟨i, rfl, h.1, h.2.1, h.2.2⟩
theorem app46_eq (w3 : World) (base : Nat) (A : Option Addr) (c : Nat) (ps : List (S41 × Rf)) (x : S41) (r : Rf) (hown : OwnRow RX 35 11 w3 base (.slice A ps.length c) ps) (hb : base ≤ w3.heap.size) (hl : ps.length + 1 ≤ 1000000) :
    ∃ A' c' w', (Builtin.append_ #[46, 46] 46 #[.slice A ps.length c, .slice (some ⟨w3.heap.size, 0, none⟩) 1 1]).run Tryd.prog (w3.alloc (.cells #[.string x.f0.f0, .string x.f0.f1, .string x.f0.f2, .string x.f0.f3, .slice r.A4 x.f0.f4.length r.c4, .slice r.A5 x.f0.f5.length r.c5, .int .i64 x.f1.f0, .slice r.A7 x.f1.f1.length r.c7, .slice r.A8 x.f1.f2.length r.c8, .int .i64 x.f2, .int .i64 x.f3] 35)) = .ok (.slice A' (ps.length + 1) c') w' ∧
      OwnRow RX 35 11 w' base (.slice A' (ps ++ [(x, r)]).length c') (ps ++ [(x, r)]) ∧ (w3.alloc (.cells (Vx x r) 35)).grownBy w' (Value.slice A ps.length c).ownBlock := by
  obtain ⟨inner, ho, hr⟩ := hown.below (below_alloc (Below.refl _ _) (.cells (Vx x r) 35))
  obtain ⟨i, h1, h2, h3, h4⟩ := info35'
  obtain ⟨v', w', hrun, how, hg, -, hk⟩ := run_append_own_at (P := Tryd.prog) (w3.alloc (.cells (Vx x r) 35)) base 46 46 35 i _ 11 184 Tryd.underlying46 h1 h2 h3 h4 rfl (by omega) (.slice A ps.length c) ps.length inner ho ⟨w3.heap.size, 0, none⟩ 1 1 (Vx x r).toList rfl
    (fun j u hj => by
      rw [show (⟨w3.heap.size, 0, none⟩ : Addr).add j = ⟨w3.heap.size, j, none⟩ by unfold Addr.add; split <;> simp_all]
      rw [cells_of (heap_alloc_new w3 _) j]
      simpa using hj)
    (by simp [Vx, Value.oneCell']) (by simp only [maxLen]; omega) (by omega) (by simp; omega)
  have hor : OwnRow RX 35 11 w' base v' (ps ++ [(x, r)]) := ⟨inner ++ (Vx x r).toList, by simpa using how, hr.snoc rfl rfl⟩
  obtain ⟨A', c', rfl, -⟩ := hor.reads
  exact ⟨A', c', w', by simpa using hrun, hor, hg⟩
/-- a row of the document's exchanges, from base on; where its elements' slices lie is of P, below base -/
structure L5 (w : World) (base : Nat) (P : Nat → Prop) (A : Option Addr) (c : Nat) (ps : List (S41 × Rf)) : Prop where
  row : OwnRow RX 35 11 w base (.slice A ps.length c) ps
  ex : ∀ p ∈ ps, Ex w P p.1 p.2
  lo : ∀ k, P k → k < base
theorem own35_move {w w1 : World} {base : Nat} {v : Value} {ps : List (S41 × Rf)} (h : OwnRow RX 35 11 w base v ps) (hm : ∀ k, v.ownBlock = some k → w1.heap[k]? = w.heap[k]?) : OwnRow RX 35 11 w1 base v ps := by
  obtain ⟨inner, ho, hr⟩ := h
  exact ⟨inner, own_move ho hm, hr⟩
theorem L5.grow {w w' : World} {base : Nat} {P : Nat → Prop} {A : Option Addr} {c : Nat} {ps : List (S41 × Rf)} (h : L5 w base P A c ps) (hb : Below w.heap.size w w') : L5 w' base P A c ps :=
  ⟨h.row.below hb, fun p hp => (h.ex p hp).below hb, h.lo⟩
theorem l5_lt {w : World} {base : Nat} {P : Nat → Prop} {A : Option Addr} {c : Nat} {ps : List (S41 × Rf)} (h : L5 w base P A c ps) (ad : Addr) (e : A = some ad) : base ≤ ad.block ∧ ad.block < w.heap.size := by
  obtain ⟨inner, ho, -⟩ := h.row
  subst e
  exact ⟨own_base ho _ rfl, own_lt ho _ rfl⟩
theorem L5.none_ (w : World) (base : Nat) (P : Nat → Prop) (lo : ∀ k, P k → k < base) : L5 w base P none 0 [] := ⟨OwnRow.none_ _ _ _ _ _, (fun p hp => by cases hp), lo⟩
theorem L5.only {w w' : World} {base : Nat} {P S : Nat → Prop} {A : Option Addr} {c : Nat} {ps : List (S41 × Rf)} (h : L5 w base P A c ps) (ho : Only S w w') (h1 : ∀ k, base ≤ k → ¬ S k) (h2 : ∀ k, P k → ¬ S k) : L5 w' base P A c ps :=
  ⟨own35_move h.row (fun k hk => by
    rcases A with _ | ad
    · simp [Value.ownBlock] at hk
    · have hl := l5_lt h ad rfl
      simp only [own_block, Option.some.injEq] at hk
      subst hk
      exact ho.block _ hl.2 (h1 _ hl.1)), fun p hp => (h.ex p hp).only ho h2, h.lo⟩
theorem L5.snoc {w w3 w5 : World} {base : Nat} {P : Nat → Prop} {A A' : Option Addr} {c c' : Nat} {ps : List (S41 × Rf)} {x : S41} {r : Rf} (h : L5 w base P A c ps) (h3 : Below w.heap.size w w3) (hE : Ex w P x r) (hb : base ≤ w.heap.size)
    (hown : OwnRow RX 35 11 w5 base (.slice A' (ps ++ [(x, r)]).length c') (ps ++ [(x, r)])) (hg : (w3.alloc (.cells (Vx x r) 35)).grownBy w5 (Value.slice A ps.length c).ownBlock) : L5 w5 base P A' c' (ps ++ [(x, r)]) := by
  have hs := h3.size
  have keep : ∀ k, k < base → w5.heap[k]? = w.heap[k]? := by
    intro k hk
    rw [hg.block k (by simp; omega) (by
      rcases A with _ | ad
      · simp [Value.ownBlock]
      · have := (l5_lt h ad rfl).1
        simp [Value.ownBlock]; omega), heap_alloc_old _ _ _ (by omega), h3.block k (by omega)]
  refine ⟨hown, fun p hp => ?_, h.lo⟩
  rcases List.mem_append.1 hp with hp | hp
  · exact (h.ex p hp).keep (fun k hk => keep k (h.lo k hk))
  · obtain rfl : p = (x, r) := by simpa using hp
    exact hE.keep (fun k hk => keep k (h.lo k hk))
theorem below_snoc {w w3 w5 : World} {base : Nat} {A : Option Addr} {n c : Nat} {x : S41} {r : Rf} (h3 : Below base w w3) (hb : base ≤ w.heap.size) (hA : ∀ ad, A = some ad → base ≤ ad.block) (hg : (w3.alloc (.cells (Vx x r) 35)).grownBy w5 (Value.slice A n c).ownBlock) : Below base w w5 := by
  have hs := h3.size
  have hz := hg.size
  refine ⟨hg.os.trans h3.os, hg.tape.trans h3.tape, hg.output.trans h3.output, by simp at hz; omega, fun k hk => ?_⟩
  rw [hg.block k (by simp; omega) (by
    rcases A with _ | ad
    · simp [Value.ownBlock]
    · have := hA ad rfl
      simp [Value.ownBlock]; omega), heap_alloc_old _ _ _ (by omega), h3.block k hk]

theorem app46_at {ops : Array Oper} {rest : List Oper} {o : Oper} {a : Act} {Q : Exit → Act → World → Prop} {w : World} (hgd : o.guard = none) (s x : Operand)
    (ho : o.op = .call { callee := .builtin .append, args := #[s, x], argTypes := #[46, 46] }) (hty : o.type = 46) {v xv v' : Value} {w' : World} (hs : a.eval s = v) (hx : a.eval x = xv)
    (hr : (Builtin.append_ #[46, 46] 46 #[v, xv]).run Tryd.prog w = .ok v' w') (h : wpList Tryd.prog ops Q rest (a.put o.dst v') w') : wpList Tryd.prog ops Q (o :: rest) a w := by
  refine wpList_plain hgd fun K hK => ?_
  unfold Oper.wp execOp
  simp only [ho, hty, resolve, invoke, builtin, Sem.run_bind, Sem.run_pure, Result.andThen_ok, List.map_toArray, List.map_cons, List.map_nil, hs, hx, hr]
  exact hK _ _ h

set_option maxRecDepth 100000 in
set_option maxHeartbeats 4000000 in
theorem lall_calls (w : World) (b0 : Nat) (P : Nat → Prop) (A : Option Addr) (c : Nat) (ps : List (S41 × Rf)) (h : Ls w b0 P A c ps) (hn : ps.length ≤ 65536) :
    Calls Tryd.prog 19 #[.slice A ps.length c] w fun e w' => ∃ A' c', e = .returned (.slice A' ps.length c') ∧ L5 w' w.heap.size (fun k => P k ∧ k < w.heap.size) A' c' ps ∧ Below w.heap.size w w' := by
  have HL := Lib.hid h
  clear h
  go_enter Tryd.func19, Tryd.ntmps19
  go_wp2
  go_loopg [3, 8] ps.length (fun k v3 v8 W => ∃ (j : Nat) (A' : Option Addr) (c' : Nat) (pre : List (S41 × Rf)), v8 = .int .i64 (j : Int) ∧ v3 = .slice A' pre.length c' ∧ j ≤ ps.length ∧ ps.length ≤ k + j ∧ Hid (pre = ps.take j) ∧ Hid (Below w.heap.size w W) ∧ Hid (L5 W w.heap.size (fun k => P k ∧ k < w.heap.size) A' c' pre))
  case atStart => exact ⟨0, none, 0, [], rfl, rfl, by omega, by omega, Lib.hid rfl, Lib.hid (Below.refl _ _), Lib.hid (L5.none_ _ _ _ (fun k hk => hk.2))⟩
  case round =>
    obtain ⟨j, A', c', pre, rfl, rfl, hj, hjk, HP, HW, H5⟩ := hrel
    by_cases hlt : j < ps.length
    · obtain ⟨k2, rfl⟩ : ∃ k2, gk = k2 + 1 := ⟨gk - 1, by omega⟩
      have hk3 : ps.length ≤ k2 + (j + 1) := by omega
      have hj1 : j + 1 ≤ ps.length := hlt
      have c1 : decide ((j : Int) < (ps.length : Int)) = true := decide_eq_true (by omega)
      have p1 : 0 ≤ (j : Int) := by omega
      have p2 : (j : Int) < (ps.length : Int) := by omega
      obtain ⟨ad, x, r, rfl, hps, g0, g1, g2, g3, g4, g5, g6, g7, g8, g9, g10, hE⟩ := ls_at (HL.out.grow HW.out) j hlt
      have HPS := Lib.hid hps
      have HE : Hid (Ex wr (fun k => P k ∧ k < w.heap.size) x r) := Lib.hid (by
        obtain ⟨ad', x', r', e', hps', -, -, -, -, -, -, -, -, -, -, -, hE'⟩ := ls_at HL.out j hlt
        rw [hps] at hps'
        cases hps'
        exact hE'.lt.below HW.out)
      have HPL : Hid (pre.length = j) := Lib.hid (by rw [HP.out, List.length_take]; omega)
      have HWJ := Lib.hid (show wrap64 ((j : Int) + 1) = (j : Int) + 1 by unfold wrap64; omega)
      have hws := HW.out.size
      have HAP := Lib.hid (fun W' (hb : Below wr.heap.size wr W') => app46_eq W' w.heap.size A' c' pre x r (H5.out.grow hb).row (by have := hb.size; omega) (by rw [HPL.out]; omega))
      clear hE hps hlt
      go_wp2_with (first | (go_at_call 13; refine (ours_calls _ x r).mono ?_; rintro e w8 ⟨rfl, hb8⟩; have HB8 := Lib.hid (below_step (below_alloc (Below.refl _ wr) _) hb8); clear hb8; obtain ⟨A9, c9, w9, hrun, hown, hgr⟩ := HAP.out _ HB8.out; have HO9 := Lib.hid hown; have HG9 := Lib.hid hgr; have HR9 := Lib.hid hrun; clear hown hgr hrun) | (at_builtin; refine app46_at rfl _ _ rfl rfl rfl rfl HR9.out ?_))
      go_roundg k2
      case measure => omega
      case rel =>
        refine ⟨j + 1, A9, c9, pre ++ [(x, r)], by first | exact congrArg (Value.int .i64) HWJ.out | go_num, by simp, hj1, hk3, Lib.hid ?_, Lib.hid ?_, Lib.hid ?_⟩
        · rw [List.take_add_one, HPS.out, HP.out]; rfl
        · exact below_snoc (HW.out.trans (HB8.out.mono hws)) (Nat.le_refl _) (fun ad e => (l5_lt H5.out ad e).1) HG9.out
        · exact H5.out.snoc HB8.out HE.out hws HO9.out HG9.out
    · have c0 : decide ((j : Int) < (ps.length : Int)) = false := decide_eq_false (by omega)
      obtain rfl : j = ps.length := by omega
      obtain rfl : pre = ps := by rw [HP.out, List.take_length]
      go_wp2
      go_ret
      exact ⟨A', c', rfl, H5.out, HW.out⟩
end Go.Proofs.YtkbbjjegpjdpeaaDoor.S
/- (not yet a claim) the document's One and Same -/
namespace Go.Proofs.YtkbbjjegpjdpeaaDoor.V
open Go.RowKit Go.Proofs.YtkbbjjegpjdpeaaDoorW.PrintWords Go.Proofs.YtkbbjjegpjdpeaaDoor.G
set_option linter.unusedVariables false
set_option linter.unusedSimpArgs false
def fd (f : S63) : List UInt8 × List UInt8 := (D f.f0, D f.f1)
def fsB (a b : List S63) : Bool := a.map fd == b.map fd
def reqB (x y : S31) : Bool := (D x.f0 == D y.f0) && (D x.f1 == D y.f1) && (D x.f2 == D y.f2) && (D x.f3 == D y.f3) && fsB x.f4 y.f4 && (D (strOfNums x.f5) == D (strOfNums y.f5))
def respB (x y : S33) : Bool := decide (x.f0 = y.f0) && fsB x.f1 y.f1 && (D (strOfNums x.f2) == D (strOfNums y.f2))
def oneB (x y : S35) : Bool := decide (x.f2 = y.f2) && decide (x.f3 = y.f3) && reqB x.f0 y.f0 && respB x.f1 y.f1
def sameB : List S35 → List S35 → Bool
  | [], [] => true
  | a :: s, b :: t => oneB a b && sameB s t
  | _, _ => false
theorem sameB_refl : ∀ l, sameB l l = true
  | [] => rfl
  | a :: s => by simp [sameB, sameB_refl s, oneB, reqB, respB, fsB]
theorem sameB_len : ∀ {a b : List S35}, sameB a b = true → a.length = b.length
  | [], [], _ => rfl
  | a :: s, b :: t, h => by
    simp only [sameB, Bool.and_eq_true] at h
    simp [sameB_len h.2]
  | [], _ :: _, h => by simp [sameB] at h
  | _ :: _, [], h => by simp [sameB] at h
theorem sameB_ne : ∀ {a b : List S35}, a.length ≠ b.length → sameB a b = false := fun h => by
  rw [Bool.eq_false_iff]
  exact fun e => h (sameB_len e)
theorem fsB_ne {a b : List S63} (h : a.length ≠ b.length) : fsB a b = false := by
  unfold fsB
  rw [beq_eq_false_iff_ne]
  intro e
  exact h (by simpa using congrArg List.length e)

theorem drop_cons {α : Type} (l : List α) (z : α) (i : Nat) (h : i < l.length) : l.drop i = l.getD i z :: l.drop (i + 1) := by
  rw [List.drop_eq_getElem_cons h]
  simp [h]
theorem wr (n : Nat) (h : n < 1099511627776) : wrap64 ((n : Int) + 1) = ((n + 1 : Nat) : Int) := by unfold wrap64; omega
theorem fs_l (a b : List S63) (hl : a.length = b.length) (hs : a.length < 1099511627776) : ∀ (n i k : Nat), a.length - i = n → i ≤ a.length → n + 1 ≤ k → turnbuckleref13_Same.l0 k a b (i : Int) = some (fsB (a.drop i) (b.drop i))
  | n, i, 0, hn, hi, hk => by omega
  | 0, i, k + 1, hn, hi, hk => by
    unfold turnbuckleref13_Same.l0
    rw [if_neg (by omega), List.drop_of_length_le (by omega), List.drop_of_length_le (by omega)]
    rfl
  | n + 1, i, k + 1, hn, hi, hk => by
    unfold turnbuckleref13_Same.l0
    rw [if_pos (by omega), if_pos (by omega), if_pos (by omega), wr i (by omega), fs_l a b hl hs n (i + 1) k (by omega) (by omega) (by omega)]
    rw [drop_cons a z63 i (by omega), drop_cons b z63 i (by omega)]
    unfold rd_T63 fsB
    simp only [Int.toNat_natCast, List.map_cons, toL]
    generalize a.getD i z63 = x
    generalize b.getD i z63 = y
    by_cases h1 : D x.f0 = D y.f0 <;> by_cases h2 : D x.f1 = D y.f1 <;> simp [h1, h2, fd]
theorem fs_f (a b : List S63) (hs : a.length < 1099511627776) : ∃ K, ∀ k, K ≤ k → turnbuckleref13_Same.f k a b = some (fsB a b) := by
  by_cases hl : a.length = b.length
  · refine ⟨a.length + 1, fun k hk => ?_⟩
    unfold turnbuckleref13_Same.f
    rw [if_pos (by omega)]
    have := fs_l a b hl hs a.length 0 k (by omega) (by omega) (by omega)
    simpa using this
  · refine ⟨0, fun k _ => ?_⟩
    unfold turnbuckleref13_Same.f
    rw [if_neg (by omega), fsB_ne hl]
theorem nums_f (a b : List Int) : turnbuckleref01_Same.f a b = some (D (strOfNums a) == D (strOfNums b)) := by
  unfold turnbuckleref01_Same.f
  rw [toL, toL]
theorem req_f (x y : S31) (h : x.f4.length < 1099511627776) : ∃ K, ∀ k, K ≤ k → turnbuckleref15_SameRequest.f k x.f0 x.f1 x.f2 x.f3 x.f4 x.f5 y.f0 y.f1 y.f2 y.f3 y.f4 y.f5 = some (reqB x y) := by
  obtain ⟨K, hK⟩ := fs_f x.f4 y.f4 h
  refine ⟨K, fun k hk => ?_⟩
  unfold turnbuckleref15_SameRequest.f reqB
  rw [hK k hk, nums_f]
  simp only [toL]
  by_cases h0 : D x.f0 = D y.f0 <;> by_cases h1 : D x.f1 = D y.f1 <;> by_cases h2 : D x.f2 = D y.f2 <;> by_cases h3 : D x.f3 = D y.f3 <;> cases h4 : fsB x.f4 y.f4 <;> simp [h0, h1, h2, h3]
theorem resp_f (x y : S33) (h : x.f1.length < 1099511627776) : ∃ K, ∀ k, K ≤ k → turnbuckleref15_SameResponse.f k x.f0 x.f1 x.f2 y.f0 y.f1 y.f2 = some (respB x y) := by
  obtain ⟨K, hK⟩ := fs_f x.f1 y.f1 h
  refine ⟨K, fun k hk => ?_⟩
  unfold turnbuckleref15_SameResponse.f respB
  rw [hK k hk, nums_f]
  by_cases h0 : x.f0 = y.f0 <;> cases h4 : fsB x.f1 y.f1 <;> simp [h0]
theorem one_f (x y : S35) (h : x.f0.f4.length < 1099511627776) (h' : x.f1.f1.length < 1099511627776) : ∃ K, ∀ k, K ≤ k → turnbuckleref20_One.f k x.f0.f0 x.f0.f1 x.f0.f2 x.f0.f3 x.f0.f4 x.f0.f5 x.f1.f0 x.f1.f1 x.f1.f2 x.f2 x.f3 y.f0.f0 y.f0.f1 y.f0.f2 y.f0.f3 y.f0.f4 y.f0.f5 y.f1.f0 y.f1.f1 y.f1.f2 y.f2 y.f3 = some (oneB x y) := by
  obtain ⟨K, hK⟩ := req_f x.f0 y.f0 h
  obtain ⟨K2, hK2⟩ := resp_f x.f1 y.f1 h'
  refine ⟨max K K2, fun k hk => ?_⟩
  unfold turnbuckleref20_One.f oneB
  rw [hK k (by omega), hK2 k (by omega)]
  by_cases h0 : x.f2 = y.f2 <;> by_cases h1 : x.f3 = y.f3 <;> cases h4 : reqB x.f0 y.f0 <;> simp [h0, h1]
def Few (l : List S35) : Prop := ∀ x ∈ l, x.f0.f4.length < 1099511627776 ∧ x.f1.f1.length < 1099511627776
theorem same_l (a b : List S35) (hl : a.length = b.length) (hs : a.length < 1099511627776) (hf : Few a) : ∀ (n i : Nat), a.length - i = n → i ≤ a.length → ∃ K, ∀ k, K ≤ k → turnbuckleref20_Same.l0 k a b (i : Int) = some (sameB (a.drop i) (b.drop i))
  | 0, i, hn, hi => by
    refine ⟨1, fun k hk => ?_⟩
    obtain ⟨k, rfl⟩ : ∃ j, k = j + 1 := ⟨k - 1, by omega⟩
    unfold turnbuckleref20_Same.l0
    rw [if_neg (by omega), List.drop_of_length_le (by omega), List.drop_of_length_le (by omega)]
    rfl
  | n + 1, i, hn, hi => by
    obtain ⟨K, hK⟩ := same_l a b hl hs hf n (i + 1) (by omega) (by omega)
    have hx := hf (a.getD i z35) (by
      have : i < a.length := by omega
      simp [this])
    obtain ⟨K2, hK2⟩ := one_f (a.getD i z35) (b.getD i z35) hx.1 hx.2
    refine ⟨max K K2 + 1, fun k hk => ?_⟩
    obtain ⟨k, rfl⟩ : ∃ j, k = j + 1 := ⟨k - 1, by omega⟩
    unfold turnbuckleref20_Same.l0
    rw [if_pos (by omega), if_pos (by omega), if_pos (by omega), wr i (by omega), hK k (by omega)]
    unfold rd_T35
    simp only [Int.toNat_natCast]
    rw [hK2 k (by omega), drop_cons a z35 i (by omega), drop_cons b z35 i (by omega)]
    simp only [sameB]
    cases oneB (a.getD i z35) (b.getD i z35) <;> simp
theorem same_f (a b : List S35) (hs : a.length < 1099511627776) (hf : Few a) : ∃ K, ∀ k, K ≤ k → turnbuckleref20_Same.f k a b = some (sameB a b) := by
  by_cases hl : a.length = b.length
  · obtain ⟨K, hK⟩ := same_l a b hl hs hf a.length 0 (by omega) (by omega)
    refine ⟨K, fun k hk => ?_⟩
    unfold turnbuckleref20_Same.f
    rw [if_pos (by omega)]
    simpa using hK k hk
  · refine ⟨0, fun k _ => ?_⟩
    unfold turnbuckleref20_Same.f
    rw [if_neg (by omega), sameB_ne hl]
end Go.Proofs.YtkbbjjegpjdpeaaDoor.V
/- (not yet a claim) StorePurged's walk -/
namespace Go.Proofs.YtkbbjjegpjdpeaaDoor.S
open Go.RowKit Go.Proofs.YtkbbjjegpjdpeaaDoorW.PrintWords Go.Proofs.YtkbbjjegpjdpeaaDoorW.PrintLast Go.Proofs.YtkbbjjegpjdpeaaDoorW.PrintMore Go.Proofs.YtkbbjjegpjdpeaaDoor.G Go.Proofs.YtkbbjjegpjdpeaaDoor.V
set_option linter.unusedVariables false
set_option linter.unusedSimpArgs false
/-- an exchange of a row -/
theorem l5_at {w : World} {base : Nat} {P : Nat → Prop} {A : Option Addr} {c : Nat} {ps : List (S41 × Rf)} (h : L5 w base P A c ps) (i : Nat) (hi : i < ps.length) : ∃ ad x r, A = some ad ∧ ps[i]? = some (x, r) ∧ w.cell? (ad.add (i * 11)) = some (.string x.f0.f0) ∧ w.cell? ⟨(ad.add (i * 11)).block, (ad.add (i * 11)).off + 1, none⟩ = some (.string x.f0.f1) ∧ w.cell? ⟨(ad.add (i * 11)).block, (ad.add (i * 11)).off + 2, none⟩ = some (.string x.f0.f2) ∧ w.cell? ⟨(ad.add (i * 11)).block, (ad.add (i * 11)).off + 3, none⟩ = some (.string x.f0.f3) ∧ w.cell? ⟨(ad.add (i * 11)).block, (ad.add (i * 11)).off + 4, none⟩ = some (.slice r.A4 x.f0.f4.length r.c4) ∧ w.cell? ⟨(ad.add (i * 11)).block, (ad.add (i * 11)).off + 5, none⟩ = some (.slice r.A5 x.f0.f5.length r.c5) ∧ w.cell? ⟨(ad.add (i * 11)).block, (ad.add (i * 11)).off + 6, none⟩ = some (.int .i64 x.f1.f0) ∧ w.cell? ⟨(ad.add (i * 11)).block, (ad.add (i * 11)).off + 7, none⟩ = some (.slice r.A7 x.f1.f1.length r.c7) ∧ w.cell? ⟨(ad.add (i * 11)).block, (ad.add (i * 11)).off + 8, none⟩ = some (.slice r.A8 x.f1.f2.length r.c8) ∧ w.cell? ⟨(ad.add (i * 11)).block, (ad.add (i * 11)).off + 9, none⟩ = some (.int .i64 x.f2) ∧ w.cell? ⟨(ad.add (i * 11)).block, (ad.add (i * 11)).off + 10, none⟩ = some (.int .i64 x.f3) ∧ Ex w P x r := by
  obtain ⟨A', c', e, _, hr⟩ := OwnRow.reads h.row
  cases e
  obtain ⟨ad, e, hc⟩ := hr.2.2 (by omega)
  obtain ⟨cs, hs, hR, hcell⟩ := hc i ps[i] (List.getElem?_eq_getElem hi)
  have hR' : cs = (Vx ps[i].1 ps[i].2).toList := hR
  subst hR'
  have hf : ∀ j, 0 < j → (⟨(ad.add (i * 11)).block, (ad.add (i * 11)).off + j, none⟩ : Addr) = ad.add (i * 11 + j) := fun j hj => (add_field ad (i * 11) j hj).symm
  exact ⟨ad, ps[i].1, ps[i].2, e, List.getElem?_eq_getElem hi, hcell 0 _ rfl, (by rw [hf 1 (by omega)]; exact hcell 1 _ rfl), (by rw [hf 2 (by omega)]; exact hcell 2 _ rfl), (by rw [hf 3 (by omega)]; exact hcell 3 _ rfl), (by rw [hf 4 (by omega)]; exact hcell 4 _ rfl), (by rw [hf 5 (by omega)]; exact hcell 5 _ rfl), (by rw [hf 6 (by omega)]; exact hcell 6 _ rfl), (by rw [hf 7 (by omega)]; exact hcell 7 _ rfl), (by rw [hf 8 (by omega)]; exact hcell 8 _ rfl), (by rw [hf 9 (by omega)]; exact hcell 9 _ rfl), (by rw [hf 10 (by omega)]; exact hcell 10 _ rfl), h.ex _ (List.getElem_mem hi)⟩
theorem blk_bel {W W' : World} {b : Nat} {o : Obj} (hg : Below W.heap.size W W') (hb : W.heap[b]? = some o) : W'.heap[b]? = some o := (hg.block _ (blk_lt' hb)).trans hb
def to35 (y : S41) : S35 := ⟨y.f0, y.f1, y.f2, y.f3⟩
def xs5 (ps : List (S41 × Rf)) : List S35 := ps.map fun p => to35 p.1
theorem L5.C {w : World} {base : Nat} {P : Nat → Prop} {A : Option Addr} {c : Nat} {ps : List (S41 × Rf)} (h : L5 w base P A c ps) : Kd.C k35 w A (xs5 ps).length (xs5 ps) ∧ (xs5 ps).length ≤ c := by
  obtain ⟨A', c', e, hle, hr⟩ := OwnRow.reads h.row
  cases e
  have hl : (xs5 ps).length = ps.length := by simp [xs5]
  refine ⟨⟨rfl, by rw [hl]; exact hr.2.1, fun hp => ?_⟩, by rw [hl]; exact hle⟩
  obtain ⟨ad, e, hc⟩ := hr.2.2 (by omega)
  refine ⟨ad, e, fun j p hj => ?_⟩
  have hj' : j < ps.length := by
    have := (List.getElem?_eq_some_iff.1 hj).1
    omega
  obtain ⟨cs, hs, hR, hcell⟩ := hc j ps[j] (List.getElem?_eq_getElem hj')
  have hR' : cs = (Vx ps[j].1 ps[j].2).toList := hR
  subst hR'
  have hp' : p = to35 ps[j].1 := by
    simp [xs5, List.getElem?_eq_getElem hj'] at hj
    exact hj.symm
  subst hp'
  have hE := h.ex _ (List.getElem_mem hj')
  exact ⟨_, rfl, k35_mk w (to35 ps[j].1) hE.l4 hE.g4 hE.l5 hE.g5 hE.l7 hE.g7 hE.l8 hE.g8, hcell⟩
theorem same_calls (w : World) {b1 b2 : Nat} {P Q : Nat → Prop} {A B : Option Addr} {c d : Nat} {ps qs : List (S41 × Rf)} (h1 : L5 w b1 P A c ps) (h2 : L5 w b2 Q B d qs) (hs : ps.length < 1099511627776) (hsm : ∀ p ∈ ps, Sm p.1) :
    Calls Tryd.prog 20 #[.slice A ps.length c, .slice B qs.length d] w fun e w' => e = .returned (.bool (sameB (xs5 ps) (xs5 qs))) ∧ Below w.heap.size w w' := by
  have hl : (xs5 ps).length = ps.length := by simp [xs5]
  have hl2 : (xs5 qs).length = qs.length := by simp [xs5]
  obtain ⟨K, hK⟩ := same_f (xs5 ps) (xs5 qs) (by omega) (fun y hy => by
    obtain ⟨p, hp, rfl⟩ := List.mem_map.1 hy
    have hp := hsm p hp
    exact ⟨by have := sm_len4 hp; exact this, by have := wt_len p.1.f1.f1; have := hp.a7; show p.1.f1.f1.length < _; omega⟩)
  have := turnbuckleref20_Same.calls K A c (xs5 ps) B d (xs5 qs) _ w h1.C.1 h1.C.2 h2.C.1 h2.C.2 (hK K (Nat.le_refl _))
  rwa [hl, hl2] at this
/-- what the law keeps -/
def belowB (q : S31) (y : S41) : Bool := decide (q.f3.size ≤ y.f0.f3.size) && ((y.f0.f3.extract 0 q.f3.size).toList == q.f3.toList)
def keepB (k : Int) (q : S31) (y : S41) : Bool := !(D y.f0.f1 == D q.f1) || !(D y.f0.f2 == D q.f2) || (!(D y.f0.f3 == D q.f3) && (decide (k = 2) || !belowB q y))
theorem take_snoc {ps : List (S41 × Rf)} {j : Nat} {y : S41} {s : Rf} (hps : ps[j]? = some (y, s)) : xs5 (ps.take (j + 1)) = xs5 (ps.take j) ++ [to35 y] := by
  unfold xs5
  rw [List.take_add_one, hps]
  simp
theorem keep_snoc {ps pre : List (S41 × Rf)} {j : Nat} {y : S41} {s : Rf} {k : Int} {q : S31} (h : xs5 pre = (xs5 (ps.take j)).filter (fun y => keepB k q (to41 y))) (hps : ps[j]? = some (y, s)) (hk : keepB k q y = true) :
    xs5 (pre ++ [(y, s)]) = (xs5 (ps.take (j + 1))).filter (fun y => keepB k q (to41 y)) := by
  rw [take_snoc hps, List.filter_append, ← h]
  have : keepB k q (to41 (to35 y)) = true := hk
  simp [xs5, this]
theorem keep_drop {ps pre : List (S41 × Rf)} {j : Nat} {y : S41} {s : Rf} {k : Int} {q : S31} (h : xs5 pre = (xs5 (ps.take j)).filter (fun y => keepB k q (to41 y))) (hps : ps[j]? = some (y, s)) (hk : keepB k q y = false) :
    xs5 pre = (xs5 (ps.take (j + 1))).filter (fun y => keepB k q (to41 y)) := by
  rw [take_snoc hps, List.filter_append, ← h]
  have : keepB k q (to41 (to35 y)) = false := hk
  simp [this]
theorem xs5_map {ps : List (S41 × Rf)} {l : List Nd} (h : ps.map Prod.fst = l.map Nd.x) : xs5 ps = l.map (fun d => to35 d.x) := by
  have h1 : xs5 ps = (ps.map Prod.fst).map to35 := by simp [xs5]
  rw [h1, h]
  simp
theorem sm_of_map {ps : List (S41 × Rf)} {l : List Nd} (h : ps.map Prod.fst = l.map Nd.x) (hs : ∀ d ∈ l, Sm d.x) : ∀ p ∈ ps, Sm p.1 := by
  intro p hp
  have : p.1 ∈ l.map Nd.x := by rw [← h]; exact List.mem_map.2 ⟨p, hp, rfl⟩
  obtain ⟨d, hd, e⟩ := List.mem_map.1 this
  rw [← e]
  exact hs d hd
theorem same_end {xs l' : List Nd} {ps ps2 pre : List (S41 × Rf)} {k : Int} {q : S31} (h1 : ps.map Prod.fst = xs.map Nd.x) (h2 : ps2.map Prod.fst = l'.map Nd.x) (hl : l' = xs.filter (fun d => keepB k q d.x)) (hp : xs5 pre = (xs5 (ps.take ps.length)).filter (fun y => keepB k q (to41 y))) :
    sameB (xs5 ps2) (xs5 pre) = true := by
  have : xs5 ps2 = xs5 pre := by
    rw [hp, List.take_length, xs5_map h1, xs5_map h2, hl, List.filter_map]
    rfl
  rw [this]
  exact sameB_refl _
theorem belowB_eq (q : S31) (y : S41) : belowB q y = (D q.f3).isPrefixOf (D y.f0.f3) := by
  unfold belowB
  rw [toL, toL, ext_D, D_mk, List.drop_zero]
  by_cases h : q.f3.size ≤ y.f0.f3.size
  · rw [decide_eq_true (by omega), Bool.true_and, Bool.eq_iff_iff, List.isPrefixOf_iff_prefix, beq_iff_eq, List.prefix_iff_eq_take, D_len]
    exact eq_comm
  · rw [decide_eq_false (by omega), Bool.false_and]
    symm
    rw [Bool.eq_false_iff]
    intro hp
    have := (List.isPrefixOf_iff_prefix.1 hp).length_le
    rw [D_len, D_len] at this
    omega
theorem keep2 (q : S31) (y : S41) : keepB 2 q y = !purgeB q.f1 q.f2 q.f3 y := by
  unfold keepB purgeB
  cases D y.f0.f1 == D q.f1 <;> cases D y.f0.f2 == D q.f2 <;> cases D y.f0.f3 == D q.f3 <;> simp
theorem keep3 (q : S31) (y : S41) : keepB 3 q y = !prefB q.f1 q.f2 q.f3 y := by
  unfold keepB prefB
  rw [belowB_eq]
  have h : D y.f0.f3 = D q.f3 → (D q.f3).isPrefixOf (D y.f0.f3) = true := fun h => by rw [h]; simp
  cases h1 : D y.f0.f1 == D q.f1 <;> cases h2 : D y.f0.f2 == D q.f2 <;> cases h3 : D y.f0.f3 == D q.f3 <;> simp
  exact List.isPrefixOf_iff_prefix.1 (h (beq_iff_eq.1 h3))


set_option maxRecDepth 100000 in
set_option maxHeartbeats 16000000 in
theorem purged_calls (w : World) (cap : Int) (A : Option Addr) (c : Nat) (l : List S37) (hC : Kd.C k37 w A l.length l) (hs : Small l) (hl : l.length < 1099511627776) :
    Calls Tryd.prog 6 #[.int .i64 cap, .slice A l.length c] w fun e w' => e = .returned (.bool true) ∧ Below w.heap.size w w' := by
  have HC := Lib.hid hC
  have HSM := Lib.hid hs
  have HAL := Lib.hid alive_calls
  clear hC hs
  by_cases hbad : cap < 0 ∨ 65536 < cap
  · have HN := Lib.hid (new_no w cap hbad)
    clear hbad
    go_enter Tryd.func6, Tryd.ntmps6
    go_wp2_with (first | (go_at_call 8; refine HN.out.mono ?_; rintro e w' ⟨rfl, h_⟩; obtain rfl := h_.symm) | (go_at_call 9; refine (HAL.out _).mono ?_; rintro e w3 ⟨rfl, hb3⟩; have HB3 := Lib.hid hb3; clear hb3))
    go_ret
    exact ⟨rfl, HB3.out⟩
  · have HN := Lib.hid (new_yes w cap (by omega) (by omega))
    have HCAP : Hid (0 ≤ cap ∧ cap ≤ 65536) := Lib.hid (by omega)
    clear hbad
    go_enter Tryd.func6, Tryd.ntmps6
    go_upto_region 4 with (first | (go_at_call 8; refine HN.out.mono ?_; rintro e w' ⟨rfl, h_⟩; obtain rfl := h_.symm) | (go_at_call 9; refine (HAL.out _).mono ?_; rintro e w3 ⟨rfl, hb3⟩; have HB3 := Lib.hid hb3; clear hb3))
    have hInv0 : Hid (Inv w3 w.heap.size w.heap.size cap []) := Lib.hid ((inv_new w cap HCAP.out.1 HCAP.out.2).grow HB3.out)
    have hBw : Hid (Below w.heap.size w w3) := Lib.hid (below_step (below_alloc (Below.refl _ _) _) HB3.out)
    clear HB3 HN
    go_wp2
    go_loopg [33] l.length (fun k v33 W => ∃ (i : Nat) (xs : List Nd), v33 = .int .i64 (i : Int) ∧ i ≤ l.length ∧ l.length ≤ k + i ∧ Hid (Inv W w.heap.size w.heap.size cap xs) ∧ Hid (Below w.heap.size w W))
    case atStart => exact ⟨0, [], rfl, by omega, by omega, hInv0, hBw⟩
    case round =>
      obtain ⟨i, xs, rfl, hi, hk, HI, HW⟩ := hrel
      rename World => Wo
      by_cases hlt : i < l.length
      · obtain ⟨ko, rfl⟩ : ∃ ko, gk = ko + 1 := ⟨gk - 1, by omega⟩
        have hk2 : l.length ≤ ko + (i + 1) := by omega
        have hi1 : i + 1 ≤ l.length := hlt
        have c1 : decide ((i : Int) < (l.length : Int)) = true := decide_eq_true (by omega)
        have p1 : 0 ≤ (i : Int) := by omega
        have p2 : (i : Int) < (l.length : Int) := by omega
        obtain ⟨ad, r, rfl, h0, h1, h2, h3, h4, h5, h6, h7, h8, h9, h10, h11, hE⟩ := act_at HC.out i hlt
        have hsm := HSM.out _ (rd37_mem hlt)
        obtain ⟨k, hk'⟩ : ∃ k, k = (rd_T37 l (i : Int)).f0 := ⟨_, rfl⟩
        obtain ⟨x, hx'⟩ : ∃ x, x = to41 (rd_T37 l (i : Int)).f1 := ⟨_, rfl⟩
        rw [← hk'] at h0 hsm
        rw [← hx'] at h1 h2 h3 h4 h5 h6 h7 h8 h9 h10 h11 hE hsm
        have HWI := Lib.hid (show wrap64 ((i : Int) + 1) = (i : Int) + 1 by unfold wrap64; omega)
        clear hk' hx' hlt
        have hws := HW.out.size
        have hlen0 := HI.out.len
        have HML : Hid (∀ k, Mine w.heap.size xs k → k < Wo.heap.size) := Lib.hid (fun k hk => mine_lt HI.out.st hk)
        have hEW := (hE.lt.below HW.out).mono (P' := fun k => k < w.heap.size) (fun k hk => hk.2)
        have HX := Lib.hid hEW
        have HSX := Lib.hid hsm
        have HL := Lib.hid (fun W' (hb : Below Wo.heap.size Wo W') => list_made W' w.heap.size cap (zs xs) xs _ (HI.out.grow hb).st (fun d hd => ⟨(HI.out.grow hb).ex d hd, sm_fits (HI.out.sm d hd).1⟩) (by omega))
        have HD := Lib.hid (fun W' (hb : Below Wo.heap.size Wo W') => does_calls W' w.heap.size w.heap.size cap k xs x r (HI.out.grow hb) (by have := hb.size; omega) ((HX.out.below hb).mono (fun k hk hm => by have := HI.out.ge k hm; omega)) hsm.1 hsm.2.1 hsm.2.2)
        replace h0 := pw_cell_below HW.out h0
        replace h1 := pw_cell_below HW.out h1
        replace h2 := pw_cell_below HW.out h2
        replace h3 := pw_cell_below HW.out h3
        replace h4 := pw_cell_below HW.out h4
        replace h5 := pw_cell_below HW.out h5
        replace h6 := pw_cell_below HW.out h6
        replace h7 := pw_cell_below HW.out h7
        replace h8 := pw_cell_below HW.out h8
        replace h9 := pw_cell_below HW.out h9
        replace h10 := pw_cell_below HW.out h10
        replace h11 := pw_cell_below HW.out h11
        clear hE hEW hsm hlen0
        go_upto_region 7 with fail
        obtain ⟨W4, hW4⟩ : ∃ W, W = Wo.alloc (.cells #[.int .u8 k, .string x.f0.f0, .string x.f0.f1, .string x.f0.f2, .string x.f0.f3, .slice r.A4 x.f0.f4.length r.c4, .slice r.A5 x.f0.f5.length r.c5, .int .i64 x.f1.f0, .slice r.A7 x.f1.f1.length r.c7, .slice r.A8 x.f1.f2.length r.c8, .int .i64 x.f2, .int .i64 x.f3] 37) := ⟨_, rfl⟩
        rw [← hW4]
        have HA4 : Hid (W4.heap[Wo.heap.size]? = some (.cells #[.int .u8 k, .string x.f0.f0, .string x.f0.f1, .string x.f0.f2, .string x.f0.f3, .slice r.A4 x.f0.f4.length r.c4, .slice r.A5 x.f0.f5.length r.c5, .int .i64 x.f1.f0, .slice r.A7 x.f1.f1.length r.c7, .slice r.A8 x.f1.f2.length r.c8, .int .i64 x.f2, .int .i64 x.f3] 37 (0, 0))) := Lib.hid (by rw [hW4]; exact heap_alloc_new _ _)
        have HB4 : Hid (Below Wo.heap.size Wo W4) := Lib.hid (by rw [hW4]; exact below_alloc (Below.refl _ _) _)
        have hs4 : W4.heap.size = Wo.heap.size + 1 := by rw [hW4]; simp
        have HS4 := Lib.hid hs4
        clear hW4 hs4 h0 h1 h2 h3 h4 h5 h6 h7 h8 h9 h10 h11
        go_upto_region 9 with (first
          | (go_at_call 11; refine (HL.out _ HB4.out).mono ?_; rintro e w7 ⟨A7, c7, ps, rfl, hmap, hls, hb7⟩; have HLS := Lib.hid hls; have HB7 := Lib.hid hb7; have HMAP := Lib.hid hmap; clear hmap hls hb7)
          | (go_at_call 19; refine (lall_calls _ _ _ _ _ ps HLS.out (by have := HI.out.len; have := congrArg List.length HMAP.out; simp at this; omega)).mono ?_; rintro e w8 ⟨A8, c8, rfl, h5, hb8⟩; have H5 := Lib.hid h5; have HB8 := Lib.hid hb8; have HA8 := Lib.hid (blk_bel hb8 (blk_bel HB7.out HA4.out)); clear h5 hb8; have ak := c_of HA8.out 0 (v := .int .u8 k) rfl; have a0 := c_of HA8.out 1 (v := .string x.f0.f0) rfl; have a1 := c_of HA8.out 2 (v := .string x.f0.f1) rfl; have a2 := c_of HA8.out 3 (v := .string x.f0.f2) rfl; have a3 := c_of HA8.out 4 (v := .string x.f0.f3) rfl; have a4 := c_of HA8.out 5 (v := .slice r.A4 x.f0.f4.length r.c4) rfl; have a5 := c_of HA8.out 6 (v := .slice r.A5 x.f0.f5.length r.c5) rfl; have a6 := c_of HA8.out 7 (v := .int .i64 x.f1.f0) rfl; have a7 := c_of HA8.out 8 (v := .slice r.A7 x.f1.f1.length r.c7) rfl; have a8 := c_of HA8.out 9 (v := .slice r.A8 x.f1.f2.length r.c8) rfl; have a9 := c_of HA8.out 10 (v := .int .i64 x.f2) rfl; have a10 := c_of HA8.out 11 (v := .int .i64 x.f3) rfl)
          | (go_at_call 10; refine (HD.out _ ((HB4.out.trans (HB7.out.mono (by have := HS4.out; omega))).trans (HB8.out.mono (by have := HS4.out; have := HB7.out.size; omega)))).mono ?_; rintro e w9 ⟨⟨v9, rfl⟩, ho9, l', hi9, hst⟩; have HI9 := Lib.hid hi9; have HO9 := Lib.hid ho9; have HST := Lib.hid hst; clear ho9 hi9 hst))
        have HA9 : Hid (w9.heap[Wo.heap.size]? = some (.cells #[.int .u8 k, .string x.f0.f0, .string x.f0.f1, .string x.f0.f2, .string x.f0.f3, .slice r.A4 x.f0.f4.length r.c4, .slice r.A5 x.f0.f5.length r.c5, .int .i64 x.f1.f0, .slice r.A7 x.f1.f1.length r.c7, .slice r.A8 x.f1.f2.length r.c8, .int .i64 x.f2, .int .i64 x.f3] 37 (0, 0))) := Lib.hid ((HO9.out.block _ (blk_lt' HA8.out) (fun hm => by have := HML.out _ hm; omega)).trans HA8.out)
        clear ak a0 a1 a2 a3 a4 a5 a6 a7 a8 a9 a10
        have ak := c_of HA9.out 0 (v := .int .u8 k) rfl
        have hk0 : 0 ≤ k := HSX.out.2.1
        have hk255 : k ≤ 255 := HSX.out.2.2
        have hr4 : IntKind.u8.wrap (Int.tmod k 4) = k % 4 := by rw [Int.tmod_eq_emod_of_nonneg hk0, IntKind.wrap_u8]; omega
        have HBx : Hid (Below Wo.heap.size Wo w8) := Lib.hid ((HB4.out.trans (HB7.out.mono (by have := HS4.out; omega))).trans (HB8.out.mono (by have := HS4.out; have := HB7.out.size; omega)))
        have HB9 : Hid (Below w.heap.size w w9) := Lib.hid ((HW.out.trans (HBx.out.mono hws)).trans (below_only (by have := HBx.out.size; omega) HO9.out HI.out.ge))
        by_cases hk4 : k % 4 < 2
        · have d4 : decide (k % 4 < 2) = true := decide_eq_true hk4
          clear hk4
          go_wp2
          go_roundg ko
          case measure => omega
          case rel => exact ⟨i + 1, l', by first | exact congrArg (Value.int .i64) HWI.out | go_num, hi1, hk2, HI9, HB9⟩
        · have d4 : decide (k % 4 < 2) = false := decide_eq_false hk4
          have HKK : Hid (k % 4 = 2 ∨ k % 4 = 3) := Lib.hid (by omega)
          have HLF : Hid (l' = xs.filter (fun d => keepB (k % 4) x.f0 d.x)) := Lib.hid (by
            rcases HKK.out with e | e
            · rw [e, HST.out.2.2.1 e]; simp only [keep2]
            · rw [e, HST.out.2.2.2 e]; simp only [keep3])
          have H9 : Hid (L5 w9 w7.heap.size (fun k => (W4.heap.size ≤ k ∧ ∀ ad, A7 = some ad → k ≠ ad.block) ∧ k < w7.heap.size) A8 c8 ps) := Lib.hid (H5.out.only HO9.out (fun k hk hm => by have := HML.out _ hm; have := HS4.out; have := HB7.out.size; omega) (fun k hk hm => by have := HML.out _ hm; have := HS4.out; have := hk.1.1; omega))
          clear hk4
          have a0 := c_of HA9.out 1 (v := .string x.f0.f0) rfl
          have a1 := c_of HA9.out 2 (v := .string x.f0.f1) rfl
          have a2 := c_of HA9.out 3 (v := .string x.f0.f2) rfl
          have a3 := c_of HA9.out 4 (v := .string x.f0.f3) rfl
          have a4 := c_of HA9.out 5 (v := .slice r.A4 x.f0.f4.length r.c4) rfl
          have a5 := c_of HA9.out 6 (v := .slice r.A5 x.f0.f5.length r.c5) rfl
          go_upto_region 11 with fail
          obtain ⟨W10, hW10⟩ : ∃ W, W = w9.alloc (.cells #[.string x.f0.f0, .string x.f0.f1, .string x.f0.f2, .string x.f0.f3, .slice r.A4 x.f0.f4.length r.c4, .slice r.A5 x.f0.f5.length r.c5] 31) := ⟨_, rfl⟩
          rw [← hW10]
          have HB10 : Hid (Below w9.heap.size w9 W10) := Lib.hid (by rw [hW10]; exact below_alloc (Below.refl _ _) _)
          have HQ10 : Hid (W10.heap[w9.heap.size]? = some (.cells #[.string x.f0.f0, .string x.f0.f1, .string x.f0.f2, .string x.f0.f3, .slice r.A4 x.f0.f4.length r.c4, .slice r.A5 x.f0.f5.length r.c5] 31 (0, 0))) := Lib.hid (by rw [hW10]; exact heap_alloc_new _ _)
          have HA10 := Lib.hid (blk_bel HB10.out HA9.out)
          clear hW10 ak a0 a1 a2 a3 a4 a5
          have HPK : Hid (ps.length ≤ 1024) := Lib.hid (by have := HI.out.len; have := congrArg List.length HMAP.out; simp at this; omega)
          have hs7 := HB7.out.size
          have hs8 := HB8.out.size
          have hs9 := HO9.out.size
          have hs10 := HB10.out.size
          have hs4' := HS4.out
          have hsq := blk_lt' HQ10.out
          have hp10 : ps.length < 9223372036854775807 := by have := HPK.out; omega
          go_wp2
          go_loopg [11, 52] ps.length (fun kk v11 v52 W => ∃ (j : Nat) (A2 : Option Addr) (c2 : Nat) (pre : List (S41 × Rf)), v52 = .int .i64 (j : Int) ∧ v11 = .slice A2 pre.length c2 ∧ j ≤ ps.length ∧ ps.length ≤ kk + j ∧ Hid (xs5 pre = (xs5 (ps.take j)).filter (fun y => keepB (k % 4) x.f0 (to41 y))) ∧ Hid (pre.length ≤ j) ∧ Hid (Below W10.heap.size W10 W) ∧ Hid (L5 W W10.heap.size (fun k => (W4.heap.size ≤ k ∧ ∀ ad, A7 = some ad → k ≠ ad.block) ∧ k < w7.heap.size) A2 c2 pre))
          case atStart => exact ⟨0, none, 0, [], rfl, rfl, by omega, by omega, Lib.hid rfl, Lib.hid (Nat.le_refl _), Lib.hid (Below.refl _ _), Lib.hid (L5.none_ _ _ _ (fun k hk => by have := hk.2; omega))⟩
          case round =>
            obtain ⟨j, A2, c2, pre, rfl, rfl, hj, hjk, HP, HPL, HWJ, H52⟩ := hrel
            rename World => Wj
            by_cases hlt : j < ps.length
            · obtain ⟨k2, rfl⟩ : ∃ k2, gk = k2 + 1 := ⟨gk - 1, by omega⟩
              have hk3 : ps.length ≤ k2 + (j + 1) := by omega
              have hj1 : j + 1 ≤ ps.length := hlt
              have c1 : decide ((j : Int) < (ps.length : Int)) = true := decide_eq_true (by omega)
              have p1 : 0 ≤ (j : Int) := by omega
              have p2 : (j : Int) < (ps.length : Int) := by omega
              have HB9j : Hid (Below w9.heap.size w9 Wj) := Lib.hid (below_step HB10.out HWJ.out)
              obtain ⟨ad2, y, s, rfl, hps, g0, g1, g2, g3, g4, g5, g6, g7, g8, g9, g10, hE⟩ := l5_at (H9.out.grow HB9j.out) j hlt
              have HPS := Lib.hid hps
              have HE := Lib.hid hE
              have hsj := HWJ.out.size
              have hsj9 := HB9j.out.size
              have HWX := Lib.hid (show wrap64 ((j : Int) + 1) = (j : Int) + 1 by unfold wrap64; omega)
              clear hE hps hlt
              go_upto_region 15 with fail
              obtain ⟨W14, hW14⟩ : ∃ W, W = Wj.alloc (.cells (Vx y s) 35) := ⟨_, rfl⟩
              rw [show Wj.alloc (.cells #[.string y.f0.f0, .string y.f0.f1, .string y.f0.f2, .string y.f0.f3, .slice s.A4 y.f0.f4.length s.c4, .slice s.A5 y.f0.f5.length s.c5, .int .i64 y.f1.f0, .slice s.A7 y.f1.f1.length s.c7, .slice s.A8 y.f1.f2.length s.c8, .int .i64 y.f2, .int .i64 y.f3] 35) = W14 from hW14.symm]
              have HB14 : Hid (Below Wj.heap.size Wj W14) := Lib.hid (by rw [hW14]; exact below_alloc (Below.refl _ _) _)
              have HY14 : Hid (W14.heap[Wj.heap.size]? = some (.cells (Vx y s) 35 (0, 0))) := Lib.hid (by rw [hW14]; exact heap_alloc_new _ _)
              have HQ14 := Lib.hid (blk_bel HB14.out (blk_bel HWJ.out HQ10.out))
              have HA14 := Lib.hid (blk_bel HB14.out (blk_bel HWJ.out HA10.out))
              clear hW14 g0 g1 g2 g3 g4 g5 g6 g7 g8 g9 g10
              by_cases hle : x.f0.f3.size ≤ y.f0.f3.size
              · have e1 : decide ((x.f0.f3.size : Int) ≤ (y.f0.f3.size : Int)) = true := decide_eq_true (by omega)
                have e2 : (x.f0.f3.size : Int) ≤ (y.f0.f3.size : Int) := by omega
                refine start_ (n := 21) (S := fun w' => w'.cell? ⟨Wj.heap.size, 3, none⟩ = some (.string y.f0.f3) ∧ w'.cell? ⟨w9.heap.size, 3, none⟩ = some (.string x.f0.f3)) (ds := []) #[false, false, false, false, false, false, false, false, false, false, false, false, false, false, false, false, false, false, false, false, false] (by kernel_rfl) rfl rfl ⟨c_of HY14.out 3 (v := .string y.f0.f3) rfl, c_of HQ14.out 3 (v := .string x.f0.f3) rfl⟩ (fun hHeld => ?_)
                refine pure_ (i := 0) (N := some 56) (v := ?_) (a' := ?_) #[true, false, false, false, false, false, false, false, false, false, false, false, false, false, false, false, false, false, false, false, false] rfl rfl (by kernel_rfl) (fun _ _ _ h => h) (Or.inl ⟨by rfl, ?_⟩) ?_ ?_
                rotate_left
                · intro w'
                  go_simp
                  with_reducible rfl
                rotate_left
                · simp only [Act.put, List.setIfInBounds_toArray, List.set_cons_zero, List.set_cons_succ, i64_w, i32_w]
                  rfl
                refine pure_ (i := 1) (N := some 57) (v := ?_) (a' := ?_) #[true, true, false, false, false, false, false, false, false, false, false, false, false, false, false, false, false, false, false, false, false] rfl rfl (by kernel_rfl) (fun _ _ _ h => h) (Or.inl ⟨by rfl, ?_⟩) ?_ ?_
                rotate_left
                · intro w'
                  go_simp
                  with_reducible rfl
                rotate_left
                · simp only [Act.put, List.setIfInBounds_toArray, List.set_cons_zero, List.set_cons_succ, i64_w, i32_w]
                  rfl
                refine pure_ (i := 4) (N := some 60) (v := ?_) (a' := ?_) #[true, true, false, false, true, false, false, false, false, false, false, false, false, false, false, false, false, false, false, false, false] rfl rfl (by kernel_rfl) (fun _ _ _ h => h) (Or.inl ⟨by rfl, ?_⟩) ?_ ?_
                rotate_left
                · intro w'
                  go_simp
                  with_reducible rfl
                rotate_left
                · simp only [Act.put, List.setIfInBounds_toArray, List.set_cons_zero, List.set_cons_succ, i64_w, i32_w]
                  rfl
                refine take_ (i := 2) (N := some 58) (v := ?_) (a' := ?_) #[true, true, true, false, true, false, false, false, false, false, false, false, false, false, false, false, false, false, false, false, false] rfl rfl (by kernel_rfl) (fun _ _ _ h => h) (Or.inl ⟨by rfl, ?_⟩) hHeld ?_ ?_
                rotate_left
                · rintro w' ⟨s0, s1⟩
                  go_simp
                  with_reducible rfl
                rotate_left
                · simp only [Act.put, List.setIfInBounds_toArray, List.set_cons_zero, List.set_cons_succ, i64_w, i32_w]
                  rfl
                refine pure_ (i := 3) (N := some 59) (v := ?_) (a' := ?_) #[true, true, true, true, true, false, false, false, false, false, false, false, false, false, false, false, false, false, false, false, false] rfl rfl (by kernel_rfl) (fun _ _ _ h => h) (Or.inl ⟨by rfl, ?_⟩) ?_ ?_
                rotate_left
                · intro w'
                  go_simp
                  with_reducible rfl
                rotate_left
                · simp only [Act.put, List.setIfInBounds_toArray, List.set_cons_zero, List.set_cons_succ, i64_w, i32_w]
                  rfl
                refine take_ (i := 5) (N := some 61) (v := ?_) (a' := ?_) #[true, true, true, true, true, true, false, false, false, false, false, false, false, false, false, false, false, false, false, false, false] rfl rfl (by kernel_rfl) (fun _ _ _ h => h) (Or.inl ⟨by rfl, ?_⟩) hHeld ?_ ?_
                rotate_left
                · rintro w' ⟨s0, s1⟩
                  go_simp
                  with_reducible rfl
                rotate_left
                · simp only [Act.put, List.setIfInBounds_toArray, List.set_cons_zero, List.set_cons_succ, i64_w, i32_w]
                  rfl
                refine pure_ (i := 6) (N := some 62) (v := ?_) (a' := ?_) #[true, true, true, true, true, true, true, false, false, false, false, false, false, false, false, false, false, false, false, false, false] rfl rfl (by kernel_rfl) (fun _ _ _ h => h) (Or.inl ⟨by rfl, ?_⟩) ?_ ?_
                rotate_left
                · intro w'
                  go_simp
                  with_reducible rfl
                rotate_left
                · simp only [Act.put, List.setIfInBounds_toArray, List.set_cons_zero, List.set_cons_succ, i64_w, i32_w]
                  rfl
                refine pure_ (i := 7) (N := some 63) (v := ?_) (a' := ?_) #[true, true, true, true, true, true, true, true, false, false, false, false, false, false, false, false, false, false, false, false, false] rfl rfl (by kernel_rfl) (fun _ _ _ h => h) (Or.inl ⟨by rfl, ?_⟩) ?_ ?_
                rotate_left
                · intro w'
                  go_simp
                  with_reducible rfl
                rotate_left
                · simp only [Act.put, List.setIfInBounds_toArray, List.set_cons_zero, List.set_cons_succ, i64_w, i32_w]
                  rfl
                refine pure_ (i := 8) (N := some 64) (v := ?_) (a' := ?_) #[true, true, true, true, true, true, true, true, true, false, false, false, false, false, false, false, false, false, false, false, false] rfl rfl (by kernel_rfl) (fun _ _ _ h => h) (Or.inl ⟨by rfl, ?_⟩) ?_ ?_
                rotate_left
                · intro w'
                  go_simp
                  with_reducible rfl
                rotate_left
                · simp only [Act.put, List.setIfInBounds_toArray, List.set_cons_zero, List.set_cons_succ, i64_w, i32_w]
                  rfl
                refine pure_ (i := 9) (N := some 65) (v := ?_) (a' := ?_) #[true, true, true, true, true, true, true, true, true, true, false, false, false, false, false, false, false, false, false, false, false] rfl rfl (by kernel_rfl) (fun _ _ _ h => h) (Or.inl ⟨by rfl, ?_⟩) ?_ ?_
                rotate_left
                · intro w'
                  go_simp
                  with_reducible rfl
                rotate_left
                · simp only [Act.put, List.setIfInBounds_toArray, List.set_cons_zero, List.set_cons_succ, i64_w, i32_w]
                  rfl
                refine pure_ (i := 10) (N := some 66) (v := ?_) (a' := ?_) #[true, true, true, true, true, true, true, true, true, true, true, false, false, false, false, false, false, false, false, false, false] rfl rfl (by kernel_rfl) (fun _ _ _ h => h) (Or.inl ⟨by rfl, ?_⟩) ?_ ?_
                rotate_left
                · intro w'
                  go_simp
                  with_reducible rfl
                rotate_left
                · simp only [Act.put, List.setIfInBounds_toArray, List.set_cons_zero, List.set_cons_succ, i64_w, i32_w]
                  rfl
                refine pure_ (i := 12) (N := some 68) (v := ?_) (a' := ?_) #[true, true, true, true, true, true, true, true, true, true, true, false, true, false, false, false, false, false, false, false, false] rfl rfl (by kernel_rfl) (fun _ _ _ h => h) (Or.inl ⟨by rfl, ?_⟩) ?_ ?_
                rotate_left
                · intro w'
                  go_simp
                  with_reducible rfl
                rotate_left
                · simp only [Act.put, List.setIfInBounds_toArray, List.set_cons_zero, List.set_cons_succ, i64_w, i32_w]
                  rfl
                refine pure_ (i := 16) (N := some 72) (v := ?_) (a' := ?_) #[true, true, true, true, true, true, true, true, true, true, true, false, true, false, false, false, true, false, false, false, false] rfl rfl (by kernel_rfl) (fun _ _ _ h => h) (Or.inl ⟨by rfl, ?_⟩) ?_ ?_
                rotate_left
                · intro w'
                  go_simp
                  with_reducible rfl
                rotate_left
                · simp only [Act.put, List.setIfInBounds_toArray, List.set_cons_zero, List.set_cons_succ, i64_w, i32_w]
                  rfl
                refine take_ (i := 11) (N := some 67) (v := ?_) (a' := ?_) #[true, true, true, true, true, true, true, true, true, true, true, true, true, false, false, false, true, false, false, false, false] rfl rfl (by kernel_rfl) (fun _ _ _ h => h) (Or.inl ⟨by rfl, ?_⟩) hHeld ?_ ?_
                rotate_left
                · rintro w' ⟨s0, s1⟩
                  go_simp
                  with_reducible rfl
                rotate_left
                · simp only [Act.put, List.setIfInBounds_toArray, List.set_cons_zero, List.set_cons_succ, i64_w, i32_w]
                  rfl
                refine take_ (i := 13) (N := some 69) (v := ?_) (a' := ?_) #[true, true, true, true, true, true, true, true, true, true, true, true, true, true, false, false, true, false, false, false, false] rfl rfl (by kernel_rfl) (fun _ _ _ h => h) (Or.inl ⟨by rfl, ?_⟩) hHeld ?_ ?_
                rotate_left
                · rintro w' ⟨s0, s1⟩
                  go_simp
                  with_reducible rfl
                rotate_left
                · simp only [Act.put, List.setIfInBounds_toArray, List.set_cons_zero, List.set_cons_succ, i64_w, i32_w]
                  rfl
                refine pure_ (i := 14) (N := some 70) (v := ?_) (a' := ?_) #[true, true, true, true, true, true, true, true, true, true, true, true, true, true, true, false, true, false, false, false, false] rfl rfl (by kernel_rfl) (fun _ _ _ h => h) (Or.inl ⟨by rfl, ?_⟩) ?_ ?_
                rotate_left
                · intro w'
                  go_simp
                  with_reducible rfl
                rotate_left
                · simp only [Act.put, List.setIfInBounds_toArray, List.set_cons_zero, List.set_cons_succ, i64_w, i32_w]
                  rfl
                refine pure_ (i := 15) (N := some 71) (v := ?_) (a' := ?_) #[true, true, true, true, true, true, true, true, true, true, true, true, true, true, true, true, true, false, false, false, false] rfl rfl (by kernel_rfl) (fun _ _ _ h => h) (Or.inl ⟨by rfl, ?_⟩) ?_ ?_
                rotate_left
                · intro w'
                  go_simp
                  with_reducible rfl
                rotate_left
                · simp only [Act.put, List.setIfInBounds_toArray, List.set_cons_zero, List.set_cons_succ, i64_w, i32_w]
                  rfl
                refine take_ (i := 17) (N := some 73) (v := ?_) (a' := ?_) #[true, true, true, true, true, true, true, true, true, true, true, true, true, true, true, true, true, true, false, false, false] rfl rfl (by kernel_rfl) (fun _ _ _ h => h) (Or.inl ⟨by rfl, ?_⟩) hHeld ?_ ?_
                rotate_left
                · rintro w' ⟨s0, s1⟩
                  go_simp
                  with_reducible rfl
                rotate_left
                · simp only [Act.put, List.setIfInBounds_toArray, List.set_cons_zero, List.set_cons_succ, i64_w, i32_w]
                  rfl
                refine pure_ (i := 18) (N := some 74) (v := ?_) (a' := ?_) #[true, true, true, true, true, true, true, true, true, true, true, true, true, true, true, true, true, true, true, false, false] rfl rfl (by kernel_rfl) (fun _ _ _ h => h) (Or.inl ⟨by rfl, ?_⟩) ?_ ?_
                rotate_left
                · intro w'
                  go_simp
                  with_reducible rfl
                rotate_left
                · simp only [Act.put, List.setIfInBounds_toArray, List.set_cons_zero, List.set_cons_succ, i64_w, i32_w]
                  rfl
                refine pure_ (i := 19) (N := some 75) (v := ?_) (a' := ?_) #[true, true, true, true, true, true, true, true, true, true, true, true, true, true, true, true, true, true, true, true, false] rfl rfl (by kernel_rfl) (fun _ _ _ h => h) (Or.inl ⟨by rfl, ?_⟩) ?_ ?_
                rotate_left
                · intro w'
                  go_simp
                  with_reducible rfl
                rotate_left
                · simp only [Act.put, List.setIfInBounds_toArray, List.set_cons_zero, List.set_cons_succ, i64_w, i32_w]
                  rfl
                refine pure_ (i := 20) (N := some 14) (v := ?_) (a' := ?_) #[true, true, true, true, true, true, true, true, true, true, true, true, true, true, true, true, true, true, true, true, true] rfl rfl (by kernel_rfl) (fun _ _ _ h => h) (Or.inl ⟨by rfl, ?_⟩) ?_ ?_
                rotate_left
                · intro w'
                  go_simp
                  with_reducible rfl
                rotate_left
                · simp only [Act.put, List.setIfInBounds_toArray, List.set_cons_zero, List.set_cons_succ, i64_w, i32_w]
                  rfl
                refine done_ (by kernel_rfl) ?_
                obtain ⟨b, hb⟩ : ∃ b, b = ((y.f0.f3.extract 0 x.f0.f3.size).toList == x.f0.f3.toList) := ⟨_, rfl⟩
                rw [← hb]
                have HBB : Hid (belowB x.f0 y = b) := Lib.hid (by unfold belowB; rw [decide_eq_true hle, Bool.true_and]; exact hb.symm)
                clear hb e1 e2 hle hHeld
                obtain ⟨W15, hW15⟩ : ∃ W, W = W14.drew := ⟨_, rfl⟩
                rw [← hW15]
                have HB15 : Hid (Below W14.heap.size W14 W15) := Lib.hid (by rw [hW15]; exact below_drew (Below.refl _ _))
                have HBJ : Hid (Below Wj.heap.size Wj W15) := Lib.hid (below_step HB14.out HB15.out)
                have HY := Lib.hid (blk_bel HB15.out HY14.out)
                have HQ := Lib.hid (blk_bel HB15.out HQ14.out)
                have HA := Lib.hid (blk_bel HB15.out HA14.out)
                clear hW15
                have y0 := c_of HY.out 0 (v := .string y.f0.f0) rfl
                have y1 := c_of HY.out 1 (v := .string y.f0.f1) rfl
                have y2 := c_of HY.out 2 (v := .string y.f0.f2) rfl
                have y3 := c_of HY.out 3 (v := .string y.f0.f3) rfl
                have y4 := c_of HY.out 4 (v := .slice s.A4 y.f0.f4.length s.c4) rfl
                have y5 := c_of HY.out 5 (v := .slice s.A5 y.f0.f5.length s.c5) rfl
                have y6 := c_of HY.out 6 (v := .int .i64 y.f1.f0) rfl
                have y7 := c_of HY.out 7 (v := .slice s.A7 y.f1.f1.length s.c7) rfl
                have y8 := c_of HY.out 8 (v := .slice s.A8 y.f1.f2.length s.c8) rfl
                have y9 := c_of HY.out 9 (v := .int .i64 y.f2) rfl
                have y10 := c_of HY.out 10 (v := .int .i64 y.f3) rfl
                have q1 := c_of HQ.out 1 (v := .string x.f0.f1) rfl
                have q2 := c_of HQ.out 2 (v := .string x.f0.f2) rfl
                have q3 := c_of HQ.out 3 (v := .string x.f0.f3) rfl
                have ak := c_of HA.out 0 (v := .int .u8 k) rfl
                obtain ⟨A9, c9, w99, hrun, hown, hgr⟩ := app46_eq W15 W10.heap.size A2 c2 pre y s (H52.out.grow HBJ.out).row (by have := HBJ.out.size; omega) (by have := HPL.out; have := HPK.out; omega)
                have HR9 := Lib.hid hrun
                have HO99 := Lib.hid hown
                have HG9 := Lib.hid hgr
                clear hrun hown hgr
                by_cases s1 : y.f0.f1.toList = x.f0.f1.toList
                · by_cases s2 : y.f0.f2.toList = x.f0.f2.toList
                  · by_cases s3 : y.f0.f3.toList = x.f0.f3.toList
                    · skip
                      have HKB : Hid (keepB (k % 4) x.f0 y = false) := Lib.hid (by unfold keepB; simp only [← toL]; simp [s1, s2, s3])
                      go_wp2
                      go_roundg k2
                      case measure => omega
                      case rel => exact ⟨j + 1, A2, c2, pre, by first | exact congrArg (Value.int .i64) HWX.out | go_num, rfl, hj1, hk3, Lib.hid (keep_drop HP.out HPS.out HKB.out), Lib.hid (by have := HPL.out; omega), Lib.hid (HWJ.out.trans (HBJ.out.mono hsj)), Lib.hid (H52.out.grow HBJ.out)⟩
                    · have s3b : (y.f0.f3.toList == x.f0.f3.toList) = false := beq_eq_false_iff_ne.2 s3
                      rcases HKK.out with hkk | hkk
                      · have t2 : (k % 4 == 2) = true := beq_iff_eq.2 hkk
                        have HKK2 := Lib.hid hkk
                        clear hkk
                        have HKB : Hid (keepB (k % 4) x.f0 y = true) := Lib.hid (by unfold keepB; simp only [← toL]; simp [s1, s2, s3, HKK2.out])
                        go_wp2_with (at_builtin; refine app46_at rfl _ _ rfl rfl rfl rfl HR9.out ?_)
                        go_roundg k2
                        case measure => omega
                        case rel => exact ⟨j + 1, A9, c9, pre ++ [(y, s)], by first | exact congrArg (Value.int .i64) HWX.out | go_num, by simp, hj1, hk3, Lib.hid (keep_snoc HP.out HPS.out HKB.out), Lib.hid (by have := HPL.out; simp; omega), Lib.hid (below_snoc (HWJ.out.trans (HBJ.out.mono hsj)) (Nat.le_refl _) (fun ad e => (l5_lt H52.out ad e).1) HG9.out), Lib.hid (H52.out.snoc HBJ.out HE.out hsj HO99.out HG9.out)⟩
                      · have t2 : (k % 4 == 2) = false := beq_eq_false_iff_ne.2 (by omega)
                        have HKK2 := Lib.hid hkk
                        clear hkk
                        cases b
                        · skip
                          have HKB : Hid (keepB (k % 4) x.f0 y = true) := Lib.hid (by unfold keepB; simp only [← toL]; simp [s1, s2, s3, HKK2.out, HBB.out])
                          go_wp2_with (at_builtin; refine app46_at rfl _ _ rfl rfl rfl rfl HR9.out ?_)
                          go_roundg k2
                          case measure => omega
                          case rel => exact ⟨j + 1, A9, c9, pre ++ [(y, s)], by first | exact congrArg (Value.int .i64) HWX.out | go_num, by simp, hj1, hk3, Lib.hid (keep_snoc HP.out HPS.out HKB.out), Lib.hid (by have := HPL.out; simp; omega), Lib.hid (below_snoc (HWJ.out.trans (HBJ.out.mono hsj)) (Nat.le_refl _) (fun ad e => (l5_lt H52.out ad e).1) HG9.out), Lib.hid (H52.out.snoc HBJ.out HE.out hsj HO99.out HG9.out)⟩
                        · skip
                          have HKB : Hid (keepB (k % 4) x.f0 y = false) := Lib.hid (by unfold keepB; simp only [← toL]; simp [s1, s2, s3, HKK2.out, HBB.out])
                          go_wp2
                          go_roundg k2
                          case measure => omega
                          case rel => exact ⟨j + 1, A2, c2, pre, by first | exact congrArg (Value.int .i64) HWX.out | go_num, rfl, hj1, hk3, Lib.hid (keep_drop HP.out HPS.out HKB.out), Lib.hid (by have := HPL.out; omega), Lib.hid (HWJ.out.trans (HBJ.out.mono hsj)), Lib.hid (H52.out.grow HBJ.out)⟩
                  · skip
                    have HKB : Hid (keepB (k % 4) x.f0 y = true) := Lib.hid (by unfold keepB; simp only [← toL]; simp [s1, s2])
                    go_wp2_with (at_builtin; refine app46_at rfl _ _ rfl rfl rfl rfl HR9.out ?_)
                    go_roundg k2
                    case measure => omega
                    case rel => exact ⟨j + 1, A9, c9, pre ++ [(y, s)], by first | exact congrArg (Value.int .i64) HWX.out | go_num, by simp, hj1, hk3, Lib.hid (keep_snoc HP.out HPS.out HKB.out), Lib.hid (by have := HPL.out; simp; omega), Lib.hid (below_snoc (HWJ.out.trans (HBJ.out.mono hsj)) (Nat.le_refl _) (fun ad e => (l5_lt H52.out ad e).1) HG9.out), Lib.hid (H52.out.snoc HBJ.out HE.out hsj HO99.out HG9.out)⟩
                · skip
                  have HKB : Hid (keepB (k % 4) x.f0 y = true) := Lib.hid (by unfold keepB; simp only [← toL]; simp [s1])
                  go_wp2_with (at_builtin; refine app46_at rfl _ _ rfl rfl rfl rfl HR9.out ?_)
                  go_roundg k2
                  case measure => omega
                  case rel => exact ⟨j + 1, A9, c9, pre ++ [(y, s)], by first | exact congrArg (Value.int .i64) HWX.out | go_num, by simp, hj1, hk3, Lib.hid (keep_snoc HP.out HPS.out HKB.out), Lib.hid (by have := HPL.out; simp; omega), Lib.hid (below_snoc (HWJ.out.trans (HBJ.out.mono hsj)) (Nat.le_refl _) (fun ad e => (l5_lt H52.out ad e).1) HG9.out), Lib.hid (H52.out.snoc HBJ.out HE.out hsj HO99.out HG9.out)⟩
              · have e1 : decide ((x.f0.f3.size : Int) ≤ (y.f0.f3.size : Int)) = false := decide_eq_false (by omega)
                refine start_ (n := 21) (S := fun w' => w'.cell? ⟨Wj.heap.size, 3, none⟩ = some (.string y.f0.f3) ∧ w'.cell? ⟨w9.heap.size, 3, none⟩ = some (.string x.f0.f3)) (ds := []) #[false, false, false, false, false, false, false, false, false, false, false, false, false, false, false, false, false, false, false, false, false] (by kernel_rfl) rfl rfl ⟨c_of HY14.out 3 (v := .string y.f0.f3) rfl, c_of HQ14.out 3 (v := .string x.f0.f3) rfl⟩ (fun hHeld => ?_)
                refine pure_ (i := 0) (N := some 56) (v := ?_) (a' := ?_) #[true, false, false, false, false, false, false, false, false, false, false, false, false, false, false, false, false, false, false, false, false] rfl rfl (by kernel_rfl) (fun _ _ _ h => h) (Or.inl ⟨by rfl, ?_⟩) ?_ ?_
                rotate_left
                · intro w'
                  go_simp
                  with_reducible rfl
                rotate_left
                · simp only [Act.put, List.setIfInBounds_toArray, List.set_cons_zero, List.set_cons_succ, i64_w, i32_w]
                  rfl
                refine pure_ (i := 1) (N := some 57) (v := ?_) (a' := ?_) #[true, true, false, false, false, false, false, false, false, false, false, false, false, false, false, false, false, false, false, false, false] rfl rfl (by kernel_rfl) (fun _ _ _ h => h) (Or.inl ⟨by rfl, ?_⟩) ?_ ?_
                rotate_left
                · intro w'
                  go_simp
                  with_reducible rfl
                rotate_left
                · simp only [Act.put, List.setIfInBounds_toArray, List.set_cons_zero, List.set_cons_succ, i64_w, i32_w]
                  rfl
                refine pure_ (i := 4) (N := some 60) (v := ?_) (a' := ?_) #[true, true, false, false, true, false, false, false, false, false, false, false, false, false, false, false, false, false, false, false, false] rfl rfl (by kernel_rfl) (fun _ _ _ h => h) (Or.inl ⟨by rfl, ?_⟩) ?_ ?_
                rotate_left
                · intro w'
                  go_simp
                  with_reducible rfl
                rotate_left
                · simp only [Act.put, List.setIfInBounds_toArray, List.set_cons_zero, List.set_cons_succ, i64_w, i32_w]
                  rfl
                refine take_ (i := 2) (N := some 58) (v := ?_) (a' := ?_) #[true, true, true, false, true, false, false, false, false, false, false, false, false, false, false, false, false, false, false, false, false] rfl rfl (by kernel_rfl) (fun _ _ _ h => h) (Or.inl ⟨by rfl, ?_⟩) hHeld ?_ ?_
                rotate_left
                · rintro w' ⟨s0, s1⟩
                  go_simp
                  with_reducible rfl
                rotate_left
                · simp only [Act.put, List.setIfInBounds_toArray, List.set_cons_zero, List.set_cons_succ, i64_w, i32_w]
                  rfl
                refine pure_ (i := 3) (N := some 59) (v := ?_) (a' := ?_) #[true, true, true, true, true, false, false, false, false, false, false, false, false, false, false, false, false, false, false, false, false] rfl rfl (by kernel_rfl) (fun _ _ _ h => h) (Or.inl ⟨by rfl, ?_⟩) ?_ ?_
                rotate_left
                · intro w'
                  go_simp
                  with_reducible rfl
                rotate_left
                · simp only [Act.put, List.setIfInBounds_toArray, List.set_cons_zero, List.set_cons_succ, i64_w, i32_w]
                  rfl
                refine take_ (i := 5) (N := some 61) (v := ?_) (a' := ?_) #[true, true, true, true, true, true, false, false, false, false, false, false, false, false, false, false, false, false, false, false, false] rfl rfl (by kernel_rfl) (fun _ _ _ h => h) (Or.inl ⟨by rfl, ?_⟩) hHeld ?_ ?_
                rotate_left
                · rintro w' ⟨s0, s1⟩
                  go_simp
                  with_reducible rfl
                rotate_left
                · simp only [Act.put, List.setIfInBounds_toArray, List.set_cons_zero, List.set_cons_succ, i64_w, i32_w]
                  rfl
                refine pure_ (i := 6) (N := some 62) (v := ?_) (a' := ?_) #[true, true, true, true, true, true, true, false, false, false, false, false, false, false, false, false, false, false, false, false, false] rfl rfl (by kernel_rfl) (fun _ _ _ h => h) (Or.inl ⟨by rfl, ?_⟩) ?_ ?_
                rotate_left
                · intro w'
                  go_simp
                  with_reducible rfl
                rotate_left
                · simp only [Act.put, List.setIfInBounds_toArray, List.set_cons_zero, List.set_cons_succ, i64_w, i32_w]
                  rfl
                refine pure_ (i := 7) (N := some 63) (v := ?_) (a' := ?_) #[true, true, true, true, true, true, true, true, false, false, false, false, false, false, false, false, false, false, false, false, false] rfl rfl (by kernel_rfl) (fun _ _ _ h => h) (Or.inl ⟨by rfl, ?_⟩) ?_ ?_
                rotate_left
                · intro w'
                  go_simp
                  with_reducible rfl
                rotate_left
                · simp only [Act.put, List.setIfInBounds_toArray, List.set_cons_zero, List.set_cons_succ, i64_w, i32_w]
                  rfl
                refine pure_ (i := 8) (N := some 64) (v := ?_) (a' := ?_) #[true, true, true, true, true, true, true, true, true, false, false, false, false, false, false, false, false, false, false, false, false] rfl rfl (by kernel_rfl) (fun _ _ _ h => h) (Or.inl ⟨by rfl, ?_⟩) ?_ ?_
                rotate_left
                · intro w'
                  go_simp
                  with_reducible rfl
                rotate_left
                · simp only [Act.put, List.setIfInBounds_toArray, List.set_cons_zero, List.set_cons_succ, i64_w, i32_w]
                  rfl
                refine pure_ (i := 9) (N := some 65) (v := undef) (a' := ?_) #[true, true, true, true, true, true, true, true, true, true, false, false, false, false, false, false, false, false, false, false, false] rfl rfl (by kernel_rfl) (fun _ _ _ h => h) (Or.inr ⟨by rfl, rfl⟩) ?_ ?_
                rotate_left
                · simp only [Act.put, List.setIfInBounds_toArray, List.set_cons_zero, List.set_cons_succ, i64_w, i32_w]
                  rfl
                refine pure_ (i := 10) (N := some 66) (v := undef) (a' := ?_) #[true, true, true, true, true, true, true, true, true, true, true, false, false, false, false, false, false, false, false, false, false] rfl rfl (by kernel_rfl) (fun _ _ _ h => h) (Or.inr ⟨by rfl, rfl⟩) ?_ ?_
                rotate_left
                · simp only [Act.put, List.setIfInBounds_toArray, List.set_cons_zero, List.set_cons_succ, i64_w, i32_w]
                  rfl
                refine pure_ (i := 11) (N := some 67) (v := undef) (a' := ?_) #[true, true, true, true, true, true, true, true, true, true, true, true, false, false, false, false, false, false, false, false, false] rfl rfl (by kernel_rfl) (fun _ _ _ h => h) (Or.inr ⟨by rfl, rfl⟩) ?_ ?_
                rotate_left
                · simp only [Act.put, List.setIfInBounds_toArray, List.set_cons_zero, List.set_cons_succ, i64_w, i32_w]
                  rfl
                refine pure_ (i := 12) (N := some 68) (v := undef) (a' := ?_) #[true, true, true, true, true, true, true, true, true, true, true, true, true, false, false, false, false, false, false, false, false] rfl rfl (by kernel_rfl) (fun _ _ _ h => h) (Or.inr ⟨by rfl, rfl⟩) ?_ ?_
                rotate_left
                · simp only [Act.put, List.setIfInBounds_toArray, List.set_cons_zero, List.set_cons_succ, i64_w, i32_w]
                  rfl
                refine pure_ (i := 13) (N := some 69) (v := undef) (a' := ?_) #[true, true, true, true, true, true, true, true, true, true, true, true, true, true, false, false, false, false, false, false, false] rfl rfl (by kernel_rfl) (fun _ _ _ h => h) (Or.inr ⟨by rfl, rfl⟩) ?_ ?_
                rotate_left
                · simp only [Act.put, List.setIfInBounds_toArray, List.set_cons_zero, List.set_cons_succ, i64_w, i32_w]
                  rfl
                refine pure_ (i := 14) (N := some 70) (v := undef) (a' := ?_) #[true, true, true, true, true, true, true, true, true, true, true, true, true, true, true, false, false, false, false, false, false] rfl rfl (by kernel_rfl) (fun _ _ _ h => h) (Or.inr ⟨by rfl, rfl⟩) ?_ ?_
                rotate_left
                · simp only [Act.put, List.setIfInBounds_toArray, List.set_cons_zero, List.set_cons_succ, i64_w, i32_w]
                  rfl
                refine pure_ (i := 15) (N := some 71) (v := undef) (a' := ?_) #[true, true, true, true, true, true, true, true, true, true, true, true, true, true, true, true, false, false, false, false, false] rfl rfl (by kernel_rfl) (fun _ _ _ h => h) (Or.inr ⟨by rfl, rfl⟩) ?_ ?_
                rotate_left
                · simp only [Act.put, List.setIfInBounds_toArray, List.set_cons_zero, List.set_cons_succ, i64_w, i32_w]
                  rfl
                refine pure_ (i := 16) (N := some 72) (v := undef) (a' := ?_) #[true, true, true, true, true, true, true, true, true, true, true, true, true, true, true, true, true, false, false, false, false] rfl rfl (by kernel_rfl) (fun _ _ _ h => h) (Or.inr ⟨by rfl, rfl⟩) ?_ ?_
                rotate_left
                · simp only [Act.put, List.setIfInBounds_toArray, List.set_cons_zero, List.set_cons_succ, i64_w, i32_w]
                  rfl
                refine pure_ (i := 17) (N := some 73) (v := undef) (a' := ?_) #[true, true, true, true, true, true, true, true, true, true, true, true, true, true, true, true, true, true, false, false, false] rfl rfl (by kernel_rfl) (fun _ _ _ h => h) (Or.inr ⟨by rfl, rfl⟩) ?_ ?_
                rotate_left
                · simp only [Act.put, List.setIfInBounds_toArray, List.set_cons_zero, List.set_cons_succ, i64_w, i32_w]
                  rfl
                refine pure_ (i := 18) (N := some 74) (v := undef) (a' := ?_) #[true, true, true, true, true, true, true, true, true, true, true, true, true, true, true, true, true, true, true, false, false] rfl rfl (by kernel_rfl) (fun _ _ _ h => h) (Or.inr ⟨by rfl, rfl⟩) ?_ ?_
                rotate_left
                · simp only [Act.put, List.setIfInBounds_toArray, List.set_cons_zero, List.set_cons_succ, i64_w, i32_w]
                  rfl
                refine pure_ (i := 19) (N := some 75) (v := ?_) (a' := ?_) #[true, true, true, true, true, true, true, true, true, true, true, true, true, true, true, true, true, true, true, true, false] rfl rfl (by kernel_rfl) (fun _ _ _ h => h) (Or.inl ⟨by rfl, ?_⟩) ?_ ?_
                rotate_left
                · intro w'
                  go_simp
                  with_reducible rfl
                rotate_left
                · simp only [Act.put, List.setIfInBounds_toArray, List.set_cons_zero, List.set_cons_succ, i64_w, i32_w]
                  rfl
                refine pure_ (i := 20) (N := some 14) (v := ?_) (a' := ?_) #[true, true, true, true, true, true, true, true, true, true, true, true, true, true, true, true, true, true, true, true, true] rfl rfl (by kernel_rfl) (fun _ _ _ h => h) (Or.inl ⟨by rfl, ?_⟩) ?_ ?_
                rotate_left
                · intro w'
                  go_simp
                  with_reducible rfl
                rotate_left
                · simp only [Act.put, List.setIfInBounds_toArray, List.set_cons_zero, List.set_cons_succ, i64_w, i32_w]
                  rfl
                refine done_ (by kernel_rfl) ?_
                have HBB : Hid (belowB x.f0 y = false) := Lib.hid (by unfold belowB; rw [decide_eq_false hle, Bool.false_and])
                clear e1 hle hHeld
                obtain ⟨W15, hW15⟩ : ∃ W, W = W14.drew := ⟨_, rfl⟩
                rw [← hW15]
                have HB15 : Hid (Below W14.heap.size W14 W15) := Lib.hid (by rw [hW15]; exact below_drew (Below.refl _ _))
                have HBJ : Hid (Below Wj.heap.size Wj W15) := Lib.hid (below_step HB14.out HB15.out)
                have HY := Lib.hid (blk_bel HB15.out HY14.out)
                have HQ := Lib.hid (blk_bel HB15.out HQ14.out)
                have HA := Lib.hid (blk_bel HB15.out HA14.out)
                clear hW15
                have y0 := c_of HY.out 0 (v := .string y.f0.f0) rfl
                have y1 := c_of HY.out 1 (v := .string y.f0.f1) rfl
                have y2 := c_of HY.out 2 (v := .string y.f0.f2) rfl
                have y3 := c_of HY.out 3 (v := .string y.f0.f3) rfl
                have y4 := c_of HY.out 4 (v := .slice s.A4 y.f0.f4.length s.c4) rfl
                have y5 := c_of HY.out 5 (v := .slice s.A5 y.f0.f5.length s.c5) rfl
                have y6 := c_of HY.out 6 (v := .int .i64 y.f1.f0) rfl
                have y7 := c_of HY.out 7 (v := .slice s.A7 y.f1.f1.length s.c7) rfl
                have y8 := c_of HY.out 8 (v := .slice s.A8 y.f1.f2.length s.c8) rfl
                have y9 := c_of HY.out 9 (v := .int .i64 y.f2) rfl
                have y10 := c_of HY.out 10 (v := .int .i64 y.f3) rfl
                have q1 := c_of HQ.out 1 (v := .string x.f0.f1) rfl
                have q2 := c_of HQ.out 2 (v := .string x.f0.f2) rfl
                have q3 := c_of HQ.out 3 (v := .string x.f0.f3) rfl
                have ak := c_of HA.out 0 (v := .int .u8 k) rfl
                obtain ⟨A9, c9, w99, hrun, hown, hgr⟩ := app46_eq W15 W10.heap.size A2 c2 pre y s (H52.out.grow HBJ.out).row (by have := HBJ.out.size; omega) (by have := HPL.out; have := HPK.out; omega)
                have HR9 := Lib.hid hrun
                have HO99 := Lib.hid hown
                have HG9 := Lib.hid hgr
                clear hrun hown hgr
                by_cases s1 : y.f0.f1.toList = x.f0.f1.toList
                · by_cases s2 : y.f0.f2.toList = x.f0.f2.toList
                  · by_cases s3 : y.f0.f3.toList = x.f0.f3.toList
                    · skip
                      have HKB : Hid (keepB (k % 4) x.f0 y = false) := Lib.hid (by unfold keepB; simp only [← toL]; simp [s1, s2, s3])
                      go_wp2
                      go_roundg k2
                      case measure => omega
                      case rel => exact ⟨j + 1, A2, c2, pre, by first | exact congrArg (Value.int .i64) HWX.out | go_num, rfl, hj1, hk3, Lib.hid (keep_drop HP.out HPS.out HKB.out), Lib.hid (by have := HPL.out; omega), Lib.hid (HWJ.out.trans (HBJ.out.mono hsj)), Lib.hid (H52.out.grow HBJ.out)⟩
                    · have s3b : (y.f0.f3.toList == x.f0.f3.toList) = false := beq_eq_false_iff_ne.2 s3
                      rcases HKK.out with hkk | hkk
                      · have t2 : (k % 4 == 2) = true := beq_iff_eq.2 hkk
                        have HKK2 := Lib.hid hkk
                        clear hkk
                        have HKB : Hid (keepB (k % 4) x.f0 y = true) := Lib.hid (by unfold keepB; simp only [← toL]; simp [s1, s2, s3, HKK2.out])
                        go_wp2_with (at_builtin; refine app46_at rfl _ _ rfl rfl rfl rfl HR9.out ?_)
                        go_roundg k2
                        case measure => omega
                        case rel => exact ⟨j + 1, A9, c9, pre ++ [(y, s)], by first | exact congrArg (Value.int .i64) HWX.out | go_num, by simp, hj1, hk3, Lib.hid (keep_snoc HP.out HPS.out HKB.out), Lib.hid (by have := HPL.out; simp; omega), Lib.hid (below_snoc (HWJ.out.trans (HBJ.out.mono hsj)) (Nat.le_refl _) (fun ad e => (l5_lt H52.out ad e).1) HG9.out), Lib.hid (H52.out.snoc HBJ.out HE.out hsj HO99.out HG9.out)⟩
                      · have t2 : (k % 4 == 2) = false := beq_eq_false_iff_ne.2 (by omega)
                        have HKK2 := Lib.hid hkk
                        clear hkk
                        have HKB : Hid (keepB (k % 4) x.f0 y = true) := Lib.hid (by unfold keepB; simp only [← toL]; simp [s1, s2, s3, HKK2.out, HBB.out])
                        go_wp2_with (at_builtin; refine app46_at rfl _ _ rfl rfl rfl rfl HR9.out ?_)
                        go_roundg k2
                        case measure => omega
                        case rel => exact ⟨j + 1, A9, c9, pre ++ [(y, s)], by first | exact congrArg (Value.int .i64) HWX.out | go_num, by simp, hj1, hk3, Lib.hid (keep_snoc HP.out HPS.out HKB.out), Lib.hid (by have := HPL.out; simp; omega), Lib.hid (below_snoc (HWJ.out.trans (HBJ.out.mono hsj)) (Nat.le_refl _) (fun ad e => (l5_lt H52.out ad e).1) HG9.out), Lib.hid (H52.out.snoc HBJ.out HE.out hsj HO99.out HG9.out)⟩
                  · skip
                    have HKB : Hid (keepB (k % 4) x.f0 y = true) := Lib.hid (by unfold keepB; simp only [← toL]; simp [s1, s2])
                    go_wp2_with (at_builtin; refine app46_at rfl _ _ rfl rfl rfl rfl HR9.out ?_)
                    go_roundg k2
                    case measure => omega
                    case rel => exact ⟨j + 1, A9, c9, pre ++ [(y, s)], by first | exact congrArg (Value.int .i64) HWX.out | go_num, by simp, hj1, hk3, Lib.hid (keep_snoc HP.out HPS.out HKB.out), Lib.hid (by have := HPL.out; simp; omega), Lib.hid (below_snoc (HWJ.out.trans (HBJ.out.mono hsj)) (Nat.le_refl _) (fun ad e => (l5_lt H52.out ad e).1) HG9.out), Lib.hid (H52.out.snoc HBJ.out HE.out hsj HO99.out HG9.out)⟩
                · skip
                  have HKB : Hid (keepB (k % 4) x.f0 y = true) := Lib.hid (by unfold keepB; simp only [← toL]; simp [s1])
                  go_wp2_with (at_builtin; refine app46_at rfl _ _ rfl rfl rfl rfl HR9.out ?_)
                  go_roundg k2
                  case measure => omega
                  case rel => exact ⟨j + 1, A9, c9, pre ++ [(y, s)], by first | exact congrArg (Value.int .i64) HWX.out | go_num, by simp, hj1, hk3, Lib.hid (keep_snoc HP.out HPS.out HKB.out), Lib.hid (by have := HPL.out; simp; omega), Lib.hid (below_snoc (HWJ.out.trans (HBJ.out.mono hsj)) (Nat.le_refl _) (fun ad e => (l5_lt H52.out ad e).1) HG9.out), Lib.hid (H52.out.snoc HBJ.out HE.out hsj HO99.out HG9.out)⟩
            · have c0 : decide ((j : Int) < (ps.length : Int)) = false := decide_eq_false (by omega)
              obtain rfl : j = ps.length := by omega
              have HB9j : Hid (Below w9.heap.size w9 Wj) := Lib.hid (below_step HB10.out HWJ.out)
              have HIJ : Hid (Inv Wj w.heap.size w.heap.size cap l') := Lib.hid (HI9.out.grow HB9j.out)
              have hlenJ := HIJ.out.len
              have HL2 := Lib.hid (list_made Wj w.heap.size cap (zs l') l' _ HIJ.out.st (fun d hd => ⟨HIJ.out.ex d hd, sm_fits (HIJ.out.sm d hd).1⟩) (by omega))
              clear hlenJ
              go_wp2_with (first
                | (go_at_call 11; refine HL2.out.mono ?_; rintro e w20 ⟨A20, c20, ps2, rfl, hmap, hls, hb20⟩; have HLS2 := Lib.hid hls; have HB20 := Lib.hid hb20; have HMAP2 := Lib.hid hmap; clear hmap hls hb20)
                | (go_at_call 19; refine (lall_calls _ _ _ _ _ ps2 HLS2.out (by have := HIJ.out.len; have := congrArg List.length HMAP2.out; simp at this; omega)).mono ?_; rintro e w21 ⟨A21, c21, rfl, h21, hb21⟩; have H21 := Lib.hid h21; have HB21 := Lib.hid hb21; clear h21 hb21)
                | (go_at_call 20; refine (same_calls w21 H21.out (H52.out.grow (below_step HB20.out HB21.out)) (by have := HIJ.out.len; have := congrArg List.length HMAP2.out; simp at this; omega) (sm_of_map HMAP2.out (fun d hd => (HIJ.out.sm d hd).1))).mono ?_; rintro e w22 ⟨rfl, hb22⟩; have HB22 := Lib.hid hb22; clear hb22; rw [same_end HMAP.out HMAP2.out HLF.out HP.out]))
              go_roundg ko
              case measure => omega
              case rel => exact ⟨i + 1, l', by first | exact congrArg (Value.int .i64) HWI.out | go_num, hi1, hk2, Lib.hid (HIJ.out.grow (below_step (below_step HB20.out HB21.out) HB22.out)), Lib.hid (below_step (below_step HB9.out HB9j.out) (below_step (below_step HB20.out HB21.out) HB22.out))⟩
      · have c0 : decide ((i : Int) < (l.length : Int)) = false := decide_eq_false (by omega)
        go_wp2
        go_ret
        exact ⟨rfl, HW.out⟩
end Go.Proofs.YtkbbjjegpjdpeaaDoor.S

