import Derived.Test.YtbnhlekehndhkaaGreatDoorYFG
import Derived.Lib.AppendIntMem


/- The directives of fields: the walk. -/
namespace Go.Proofs.YtbnhlekehndhkaaGreatDoor.Fb
open Go.RowKit Go.Proofs.YtbnhlekehndhkaaGreatDoorW.PrintWords Go.Proofs.YtbnhlekehndhkaaGreatDoorW.PrintLast Go.Proofs.YtbnhlekehndhkaaGreatDoorW.PrintMore Go.Proofs.YtbnhlekehndhkaaGreatDoor.G
set_option linter.unusedVariables false
set_option linter.unusedSimpArgs false
structure Glob (w : World) : Prop where
  mx : ∃ m, w.cell? ⟨4, 0, none⟩ = some (.int .i64 m)
  p10 : Lib.TabIs Tryz.prog w "internal/strconv.uint64pow10" .u64 Lib.pow10Tab
theorem var_below {P : Program} {w w' : World} {n : String} {cs : Array Value} (h : w.var? P n = some cs) (hb : Below w.heap.size w w') : w'.var? P n = some cs := by
  unfold World.var? at *
  cases hg : P.globalNamed n with
  | none => simp [hg] at h
  | some g =>
    simp only [hg, Option.bind_some] at h ⊢
    have hlt : g < w.heap.size := by
      rcases Nat.lt_or_ge g w.heap.size with h' | h'
      · exact h'
      · rw [Array.getElem?_eq_none h'] at h; simp at h
    rw [hb.block g hlt]
    exact h
theorem Glob.below {w w' : World} (h : Glob w) (hb : Below w.heap.size w w') : Glob w' := by
  obtain ⟨⟨m, h1⟩, h2⟩ := h
  exact ⟨⟨m, pw_cell_below hb h1⟩, var_below h2 hb⟩
theorem itoa_far (w : World) (hG : Glob w) : Calls Tryz.prog 58 #[.int .i64 2147483648] w fun e w' => e = .returned (.string ⟨(Lib.itoa 2147483648).toArray⟩) ∧ Below w.heap.size w w' :=
  (Tryz.strconv_Itoa 2147483648 (by decide) (by decide) w hG.p10).mono fun e w' ⟨he, k, os, hw⟩ => ⟨he, by rw [hw]; exact Lib.below_grow _ _ (Nat.le_refl _) _ _⟩
theorem kept_by {w w' : World} {b g : Nat} {o : Obj} (hg : w.grownBy w' (some b)) (h : w.heap[g]? = some o) (hne : g ≠ b) : w'.heap[g]? = some o := (hg.block g (blk_lt h) (by simp [hne])).trans h
def ZZ42 : Array Value := #[.bool false, .bool false, .bool false, .bool false, .bool false, .bool false, .int .i64 0, .int .i64 0, .int .i64 0, .int .i64 0, .int .i64 0, .int .i64 0]
/-- what the loop keeps -/
structure Keeps (w : World) (g r b1 b2 B : Nat) (v : Value) (L : List ByteArray) (c : Ct) (W : World) : Prop where
  d : W.heap[g]? = some (.cells c.cells 69 (0, 0))
  z : W.heap[r]? = some (.cells ZZ42 69 (0, 0))
  m1 : MapS W b1 (ptrs g flagsN)
  m2 : MapS W b2 (ptrs g numsN)
  row : Kd.R Kd.string 9 W B (fun k => k ≠ g) v L
  b : Below w.heap.size w W
theorem Keeps.below {w : World} {g r b1 b2 B : Nat} {v : Value} {L : List ByteArray} {c : Ct} {W W' : World} (h : Keeps w g r b1 b2 B v L c W) (hb : Below W.heap.size W W') : Keeps w g r b1 b2 B v L c W' :=
  ⟨blk_bel hb h.d, blk_bel hb h.z, h.m1.below hb, h.m2.below hb, Kd.R_below h.row hb, below_step h.b hb⟩
theorem Keeps.set {w : World} {g r b1 b2 B : Nat} {v : Value} {L : List ByteArray} {c c' : Ct} {W : World} (h : Keeps w g r b1 b2 B v L c W) (j : Nat) (u : Value) (hc : c.cells.setIfInBounds j u = c'.cells) (hr : r ≠ g) (h1 : b1 ≠ g) (h2 : b2 ≠ g) (hg : w.heap.size ≤ g) :
    Keeps w g r b1 b2 B v L c' (W.setCell ⟨g, j, none⟩ u) :=
  ⟨set_same h.d hc, (heap_setCell_other W ⟨g, j, none⟩ r u hr).trans h.z, h.m1.set g j u h1, h.m2.set g j u h2, Kd.R_far h.row (p := ⟨g, j, none⟩) (fun k hk => hk) u, Below.setCell h.b (p := ⟨g, j, none⟩) hg u⟩
theorem put12 {W : World} {g t : Nat} (h : W.heap[g]? = some (.cells ZZ42 t (0, 0))) (v0 v1 v2 v3 v4 v5 v6 v7 v8 v9 v10 v11 : Value) :
    (((((((((((((W.setCell ⟨g, 0, none⟩ v0).setCell ⟨g, 1, none⟩ v1).setCell ⟨g, 2, none⟩ v2).setCell ⟨g, 3, none⟩ v3).setCell ⟨g, 4, none⟩ v4).setCell ⟨g, 5, none⟩ v5).setCell ⟨g, 6, none⟩ v6).setCell ⟨g, 7, none⟩ v7).setCell ⟨g, 8, none⟩ v8).setCell ⟨g, 9, none⟩ v9).setCell ⟨g, 10, none⟩ v10).setCell ⟨g, 11, none⟩ v11)).heap[g]? = some (.cells #[v0, v1, v2, v3, v4, v5, v6, v7, v8, v9, v10, v11] t (0, 0)) :=
  set_same (cs' := #[v0, v1, v2, v3, v4, v5, v6, v7, v8, v9, v10, v11]) (set_same (cs' := #[v0, v1, v2, v3, v4, v5, v6, v7, v8, v9, v10, .int .i64 0]) (set_same (cs' := #[v0, v1, v2, v3, v4, v5, v6, v7, v8, v9, .int .i64 0, .int .i64 0]) (set_same (cs' := #[v0, v1, v2, v3, v4, v5, v6, v7, v8, .int .i64 0, .int .i64 0, .int .i64 0]) (set_same (cs' := #[v0, v1, v2, v3, v4, v5, v6, v7, .int .i64 0, .int .i64 0, .int .i64 0, .int .i64 0]) (set_same (cs' := #[v0, v1, v2, v3, v4, v5, v6, .int .i64 0, .int .i64 0, .int .i64 0, .int .i64 0, .int .i64 0]) (set_same (cs' := #[v0, v1, v2, v3, v4, v5, .int .i64 0, .int .i64 0, .int .i64 0, .int .i64 0, .int .i64 0, .int .i64 0]) (set_same (cs' := #[v0, v1, v2, v3, v4, .bool false, .int .i64 0, .int .i64 0, .int .i64 0, .int .i64 0, .int .i64 0, .int .i64 0]) (set_same (cs' := #[v0, v1, v2, v3, .bool false, .bool false, .int .i64 0, .int .i64 0, .int .i64 0, .int .i64 0, .int .i64 0, .int .i64 0]) (set_same (cs' := #[v0, v1, v2, .bool false, .bool false, .bool false, .int .i64 0, .int .i64 0, .int .i64 0, .int .i64 0, .int .i64 0, .int .i64 0]) (set_same (cs' := #[v0, v1, .bool false, .bool false, .bool false, .bool false, .int .i64 0, .int .i64 0, .int .i64 0, .int .i64 0, .int .i64 0, .int .i64 0]) (set_same (cs' := #[v0, .bool false, .bool false, .bool false, .bool false, .bool false, .int .i64 0, .int .i64 0, .int .i64 0, .int .i64 0, .int .i64 0, .int .i64 0]) (h) rfl) rfl) rfl) rfl) rfl) rfl) rfl) rfl) rfl) rfl) rfl) rfl
theorem Keeps.arg {w : World} {g r b1 b2 B : Nat} {v : Value} {L : List ByteArray} {c : Ct} {W W' : World} (h : Keeps w g r b1 b2 B v L c W) (j : Nat) (x : Int) (hw : W' = if c.nm j < 0 then W.setCell ⟨g, j, none⟩ (.int .i64 x) else W) (hj : 6 ≤ j ∧ j < 12) (hr : r ≠ g) (h1 : b1 ≠ g) (h2 : b2 ≠ g) (hg : w.heap.size ≤ g) :
    Keeps w g r b1 b2 B v L (if c.nm j < 0 then c.num j x else c) W' := by
  by_cases hn : c.nm j < 0
  · rw [if_pos hn] at hw ⊢
    rw [hw]
    exact h.set j _ (c.set_num j x hj) hr h1 h2 hg
  · rw [if_neg hn] at hw ⊢
    rw [hw]
    exact h
theorem bare_ext {AR : ByteArray} (h : 1 < AR.data.toList.length ∧ Lib.hasPrefix AR.data.toList [34] = true ∧ Lib.hasSuffix AR.data.toList [34] = true) : AR.extract 1 (AR.size - 1) = ⟨(bare AR.data.toList).toArray⟩ := by
  have e := V.ext_D AR 1 (AR.size - 1)
  rw [e]
  unfold bare
  rw [if_pos h]
  unfold V.mk V.D
  rw [show AR.data.toList.length = AR.size by simp]
theorem bare_no {AR : ByteArray} (h : decide (1 < AR.data.toList.length ∧ Lib.hasPrefix AR.data.toList [34] = true ∧ Lib.hasSuffix AR.data.toList [34] = true) = false) : (⟨(bare AR.data.toList).toArray⟩ : ByteArray) = AR := by
  unfold bare
  rw [if_neg (of_decide_eq_false h)]
theorem bare_len (l : List UInt8) : (bare l).length ≤ l.length := by
  unfold bare
  split
  · simp only [List.length_drop, List.length_take]; omega
  · exact Nat.le_refl _
theorem arg_len (n : ByteArray) (t : Bool) (l : List UInt8) : (argOf n t l).length ≤ l.length + 20 := by
  unfold argOf
  split
  · have : (Lib.itoa 2147483648).length ≤ 20 := by decide +kernel
    omega
  · have := bare_len l; omega
theorem elem_at {W : World} {B : Nat} {ok : Nat → Prop} {A : Option Addr} {c : Nat} {L : List ByteArray} (h : Kd.R Kd.string 9 W B ok (.slice A L.length c) L) (i : Nat) (x : ByteArray) (hx : L[i]? = some x) : ∃ ad, A = some ad ∧ W.cell? (ad.add i) = some (.string x) := by
  obtain ⟨A', c', e, _, hC⟩ := Kd.R_reads h
  simp only [Value.slice.injEq] at e
  obtain ⟨rfl, -, rfl⟩ := e
  have hi := (List.getElem?_eq_some_iff.1 hx).1
  obtain ⟨_, _, h⟩ := hC
  obtain ⟨ad, e, hc⟩ := h (by omega)
  obtain ⟨cs, h1, h2, h3⟩ := hc i x hx
  obtain rfl : cs = [.string x] := h2
  have := h3 0 _ rfl
  rw [show i * Kd.string.sz + 0 = i by show i * 1 + 0 = i; omega] at this
  exact ⟨ad, e, this⟩
set_option maxRecDepth 100000 in
set_option maxHeartbeats 8000000 in
theorem directives_q (A0 : Option Addr) (c0 : Nat) (l0 : List S59) (w : World) (hr0 : Kd.C k59 w A0 l0.length l0) (hc0 : l0.length ≤ c0) (hw : V.wt l0 < 268435456) (hG : Glob w) :
    Calls Tryz.prog 44 #[.slice A0 l0.length c0] w fun e w' => e = .returned (.agg (dirs (V.elements (V.allL l0 CACHE))).cells) ∧ Below w.heap.size w w' := by
  have hwl := V.wt_len l0
  have hta := V.tot_all l0 CACHE
  obtain ⟨K, hK⟩ := V.elements_ev (V.allL l0 CACHE) (by omega)
  have HEL := Lib.hid (hK K (Nat.le_refl _))
  have HAL := Lib.hid (V.all_f l0 CACHE (l0.length + 1) (by omega) (Nat.le_refl _))
  have hes := V.elements_sizes (V.allL l0 CACHE)
  have hel := V.elements_len (V.allL l0 CACHE)
  have HC0 := Lib.hid hr0
  have HG := Lib.hid hG
  obtain ⟨LA, hLA⟩ : ∃ x, x = V.allL l0 CACHE := ⟨_, rfl⟩
  rw [← hLA] at HEL HAL hes hel hta ⊢
  obtain ⟨L, hL⟩ : ∃ x, x = V.elements LA := ⟨_, rfl⟩
  rw [← hL] at HEL hes hel ⊢
  have hLl : L.length < 268435456 := by omega
  have HLS : Hid (∀ e ∈ L, e.size < 268435456) := Lib.hid (fun e he => by have := hes e he; omega)
  clear hr0 hG hLA hL hw hwl hta hes hel hK
  have hmm := @run_makeMap Tryz.prog
  go_enter Tryz.func44, Tryz.ntmps44
  go_upto_region 2 with fail
  obtain ⟨W0, hW0⟩ : ∃ W, W = (w.alloc (.cells #[.bool false, .bool false, .bool false, .bool false, .bool false, .bool false, .int .i64 0, .int .i64 0, .int .i64 0, .int .i64 0, .int .i64 0, .int .i64 0] 69)).alloc (.cells #[.bool false, .bool false, .bool false, .bool false, .bool false, .bool false, .int .i64 (-1), .int .i64 (-1), .int .i64 (-1), .int .i64 (-1), .int .i64 (-1), .int .i64 (-1)] 69) := ⟨_, rfl⟩
  rw [← hW0]
  have HD : Hid (W0.heap[w.heap.size + 1]? = some (.cells Ct.new.cells 69 (0, 0))) := Lib.hid (by rw [hW0]; have := heap_alloc_new (w.alloc (.cells #[.bool false, .bool false, .bool false, .bool false, .bool false, .bool false, .int .i64 0, .int .i64 0, .int .i64 0, .int .i64 0, .int .i64 0, .int .i64 0] 69)) (.cells #[.bool false, .bool false, .bool false, .bool false, .bool false, .bool false, .int .i64 (-1), .int .i64 (-1), .int .i64 (-1), .int .i64 (-1), .int .i64 (-1), .int .i64 (-1)] 69); rw [World.size_alloc] at this; exact this)
  have HR : Hid (W0.heap[w.heap.size]? = some (.cells #[.bool false, .bool false, .bool false, .bool false, .bool false, .bool false, .int .i64 0, .int .i64 0, .int .i64 0, .int .i64 0, .int .i64 0, .int .i64 0] 69 (0, 0))) := Lib.hid (by rw [hW0]; exact blk_bel (below_alloc (Below.refl _ _) _) (heap_alloc_new w (.cells #[.bool false, .bool false, .bool false, .bool false, .bool false, .bool false, .int .i64 0, .int .i64 0, .int .i64 0, .int .i64 0, .int .i64 0, .int .i64 0] 69)))
  have HB : Hid (Below w.heap.size w W0) := Lib.hid (by rw [hW0]; exact below_alloc (below_alloc (Below.refl _ _) _) _)
  have hz0 : W0.heap.size = w.heap.size + 2 := by rw [hW0]; simp
  have HZ0 := Lib.hid hz0
  have HZ : Hid (w.heap.size + 1 < W0.heap.size) := Lib.hid (by omega)
  clear hW0 hz0
  go_upto_region 3 with (first | (have HD_ := Lib.hid (blk_bel (below_alloc (Below.refl _ _) (.map #[] 0)) HD.out); have HR_ := Lib.hid (blk_bel (below_alloc (Below.refl _ _) (.map #[] 0)) HR.out); have HB_ := Lib.hid (below_alloc HB.out (.map #[] 0)); refine wp_ins 109 108 Tryz.underlying109 _ rfl (.tmp 14) (.const (.string ⟨#[110, 111, 45, 115, 116, 111, 114, 101]⟩)) (.tmp 15) rfl W0.heap.size _ rfl (MapS.fresh _) ⟨#[110, 111, 45, 115, 116, 111, 114, 101]⟩ (.pointer (some ⟨w.heap.size + 1, 0, none⟩)) rfl rfl rfl ?_; intro w_ hM hG; replace HD := Lib.hid (kept_by hG HD_.out (by have := HZ.out; omega)); replace HR := Lib.hid (kept_by hG HR_.out (by have := HZ.out; omega)); replace HB := Lib.hid (HB_.out.grown hG (by have := HB_.out.size; omega) (fun k hk => by cases hk; have := HZ.out; omega)); clear HD_ HR_ HB_; have HM1 := Lib.hid hM; clear hM hG) | (have HD_ := HD; have HR_ := HR; have HB_ := HB; refine wp_ins 109 108 Tryz.underlying109 _ rfl (.tmp 14) (.const (.string ⟨#[110, 111, 45, 99, 97, 99, 104, 101]⟩)) (.tmp 16) rfl W0.heap.size _ rfl HM1.out ⟨#[110, 111, 45, 99, 97, 99, 104, 101]⟩ (.pointer (some ⟨w.heap.size + 1, 1, none⟩)) rfl rfl rfl ?_; intro w_ hM hG; replace HD := Lib.hid (kept_by hG HD_.out (by have := HZ.out; omega)); replace HR := Lib.hid (kept_by hG HR_.out (by have := HZ.out; omega)); replace HB := Lib.hid (HB_.out.grown hG (by have := HB_.out.size; omega) (fun k hk => by cases hk; have := HZ.out; omega)); clear HD_ HR_ HB_; have HM1 := Lib.hid hM; clear hM hG) | (have HD_ := HD; have HR_ := HR; have HB_ := HB; refine wp_ins 109 108 Tryz.underlying109 _ rfl (.tmp 14) (.const (.string ⟨#[109, 117, 115, 116, 45, 114, 101, 118, 97, 108, 105, 100, 97, 116, 101]⟩)) (.tmp 17) rfl W0.heap.size _ rfl HM1.out ⟨#[109, 117, 115, 116, 45, 114, 101, 118, 97, 108, 105, 100, 97, 116, 101]⟩ (.pointer (some ⟨w.heap.size + 1, 2, none⟩)) rfl rfl rfl ?_; intro w_ hM hG; replace HD := Lib.hid (kept_by hG HD_.out (by have := HZ.out; omega)); replace HR := Lib.hid (kept_by hG HR_.out (by have := HZ.out; omega)); replace HB := Lib.hid (HB_.out.grown hG (by have := HB_.out.size; omega) (fun k hk => by cases hk; have := HZ.out; omega)); clear HD_ HR_ HB_; have HM1 := Lib.hid hM; clear hM hG) | (have HD_ := HD; have HR_ := HR; have HB_ := HB; refine wp_ins 109 108 Tryz.underlying109 _ rfl (.tmp 14) (.const (.string ⟨#[112, 114, 111, 120, 121, 45, 114, 101, 118, 97, 108, 105, 100, 97, 116, 101]⟩)) (.tmp 18) rfl W0.heap.size _ rfl HM1.out ⟨#[112, 114, 111, 120, 121, 45, 114, 101, 118, 97, 108, 105, 100, 97, 116, 101]⟩ (.pointer (some ⟨w.heap.size + 1, 2, none⟩)) rfl rfl rfl ?_; intro w_ hM hG; replace HD := Lib.hid (kept_by hG HD_.out (by have := HZ.out; omega)); replace HR := Lib.hid (kept_by hG HR_.out (by have := HZ.out; omega)); replace HB := Lib.hid (HB_.out.grown hG (by have := HB_.out.size; omega) (fun k hk => by cases hk; have := HZ.out; omega)); clear HD_ HR_ HB_; have HM1 := Lib.hid hM; clear hM hG) | (have HD_ := HD; have HR_ := HR; have HB_ := HB; refine wp_ins 109 108 Tryz.underlying109 _ rfl (.tmp 14) (.const (.string ⟨#[112, 117, 98, 108, 105, 99]⟩)) (.tmp 19) rfl W0.heap.size _ rfl HM1.out ⟨#[112, 117, 98, 108, 105, 99]⟩ (.pointer (some ⟨w.heap.size + 1, 3, none⟩)) rfl rfl rfl ?_; intro w_ hM hG; replace HD := Lib.hid (kept_by hG HD_.out (by have := HZ.out; omega)); replace HR := Lib.hid (kept_by hG HR_.out (by have := HZ.out; omega)); replace HB := Lib.hid (HB_.out.grown hG (by have := HB_.out.size; omega) (fun k hk => by cases hk; have := HZ.out; omega)); clear HD_ HR_ HB_; have HM1 := Lib.hid hM; clear hM hG) | (have HD_ := HD; have HR_ := HR; have HB_ := HB; refine wp_ins 109 108 Tryz.underlying109 _ rfl (.tmp 14) (.const (.string ⟨#[112, 114, 105, 118, 97, 116, 101]⟩)) (.tmp 20) rfl W0.heap.size _ rfl HM1.out ⟨#[112, 114, 105, 118, 97, 116, 101]⟩ (.pointer (some ⟨w.heap.size + 1, 4, none⟩)) rfl rfl rfl ?_; intro w_ hM hG; replace HD := Lib.hid (kept_by hG HD_.out (by have := HZ.out; omega)); replace HR := Lib.hid (kept_by hG HR_.out (by have := HZ.out; omega)); replace HB := Lib.hid (HB_.out.grown hG (by have := HB_.out.size; omega) (fun k hk => by cases hk; have := HZ.out; omega)); clear HD_ HR_ HB_; have HM1 := Lib.hid hM; clear hM hG) | (have HD_ := HD; have HR_ := HR; have HB_ := HB; refine wp_ins 109 108 Tryz.underlying109 _ rfl (.tmp 14) (.const (.string ⟨#[111, 110, 108, 121, 45, 105, 102, 45, 99, 97, 99, 104, 101, 100]⟩)) (.tmp 21) rfl W0.heap.size _ rfl HM1.out ⟨#[111, 110, 108, 121, 45, 105, 102, 45, 99, 97, 99, 104, 101, 100]⟩ (.pointer (some ⟨w.heap.size + 1, 5, none⟩)) rfl rfl rfl ?_; intro w_ hM hG; replace HD := Lib.hid (kept_by hG HD_.out (by have := HZ.out; omega)); replace HR := Lib.hid (kept_by hG HR_.out (by have := HZ.out; omega)); replace HB := Lib.hid (HB_.out.grown hG (by have := HB_.out.size; omega) (fun k hk => by cases hk; have := HZ.out; omega)); clear HD_ HR_ HB_; have HM1 := Lib.hid hM; clear hM hG))

  obtain ⟨W3, hW3⟩ : ∃ W, W = w_ := ⟨_, rfl⟩
  rw [← hW3] at HD HR HB HM1
  rw [← hW3]
  clear hW3
  replace HZ : Hid (w.heap.size + 1 < W3.heap.size ∧ W0.heap.size < W3.heap.size) := Lib.hid ⟨by have := HM1.out.lt; have := HZ0.out; omega, HM1.out.lt⟩
  go_upto_region 4 with (first | (have HD_ := Lib.hid (blk_bel (below_alloc (Below.refl _ _) (.map #[] 0)) HD.out); have HR_ := Lib.hid (blk_bel (below_alloc (Below.refl _ _) (.map #[] 0)) HR.out); have HB_ := Lib.hid (below_alloc HB.out (.map #[] 0)); have HM1_ := Lib.hid (HM1.out.below (below_alloc (Below.refl _ _) (.map #[] 0))); refine wp_ins 110 77 Tryz.underlying110 _ rfl (.tmp 23) (.const (.string ⟨#[109, 97, 120, 45, 97, 103, 101]⟩)) (.tmp 24) rfl W3.heap.size _ rfl (MapS.fresh _) ⟨#[109, 97, 120, 45, 97, 103, 101]⟩ (.pointer (some ⟨w.heap.size + 1, 6, none⟩)) rfl rfl rfl ?_; intro w_ hM hG; replace HD := Lib.hid (kept_by hG HD_.out (by have := HZ.out; omega)); replace HR := Lib.hid (kept_by hG HR_.out (by have := HZ.out; omega)); replace HB := Lib.hid (HB_.out.grown hG (by have := HB_.out.size; omega) (fun k hk => by cases hk; have := HZ.out; omega)); replace HM1 := Lib.hid (HM1_.out.same (hG.block _ HM1_.out.lt (by simp only [ne_eq, Option.some.injEq]; have := HZ.out; have := HZ0.out; omega))); clear HD_ HR_ HB_; have HM2 := Lib.hid hM; clear hM hG) | (have HD_ := HD; have HR_ := HR; have HB_ := HB; have HM1_ := HM1; refine wp_ins 110 77 Tryz.underlying110 _ rfl (.tmp 23) (.const (.string ⟨#[115, 45, 109, 97, 120, 97, 103, 101]⟩)) (.tmp 25) rfl W3.heap.size _ rfl HM2.out ⟨#[115, 45, 109, 97, 120, 97, 103, 101]⟩ (.pointer (some ⟨w.heap.size + 1, 7, none⟩)) rfl rfl rfl ?_; intro w_ hM hG; replace HD := Lib.hid (kept_by hG HD_.out (by have := HZ.out; omega)); replace HR := Lib.hid (kept_by hG HR_.out (by have := HZ.out; omega)); replace HB := Lib.hid (HB_.out.grown hG (by have := HB_.out.size; omega) (fun k hk => by cases hk; have := HZ.out; omega)); replace HM1 := Lib.hid (HM1_.out.same (hG.block _ HM1_.out.lt (by simp only [ne_eq, Option.some.injEq]; have := HZ.out; have := HZ0.out; omega))); clear HD_ HR_ HB_; have HM2 := Lib.hid hM; clear hM hG) | (have HD_ := HD; have HR_ := HR; have HB_ := HB; have HM1_ := HM1; refine wp_ins 110 77 Tryz.underlying110 _ rfl (.tmp 23) (.const (.string ⟨#[109, 105, 110, 45, 102, 114, 101, 115, 104]⟩)) (.tmp 26) rfl W3.heap.size _ rfl HM2.out ⟨#[109, 105, 110, 45, 102, 114, 101, 115, 104]⟩ (.pointer (some ⟨w.heap.size + 1, 8, none⟩)) rfl rfl rfl ?_; intro w_ hM hG; replace HD := Lib.hid (kept_by hG HD_.out (by have := HZ.out; omega)); replace HR := Lib.hid (kept_by hG HR_.out (by have := HZ.out; omega)); replace HB := Lib.hid (HB_.out.grown hG (by have := HB_.out.size; omega) (fun k hk => by cases hk; have := HZ.out; omega)); replace HM1 := Lib.hid (HM1_.out.same (hG.block _ HM1_.out.lt (by simp only [ne_eq, Option.some.injEq]; have := HZ.out; have := HZ0.out; omega))); clear HD_ HR_ HB_; have HM2 := Lib.hid hM; clear hM hG) | (have HD_ := HD; have HR_ := HR; have HB_ := HB; have HM1_ := HM1; refine wp_ins 110 77 Tryz.underlying110 _ rfl (.tmp 23) (.const (.string ⟨#[109, 97, 120, 45, 115, 116, 97, 108, 101]⟩)) (.tmp 27) rfl W3.heap.size _ rfl HM2.out ⟨#[109, 97, 120, 45, 115, 116, 97, 108, 101]⟩ (.pointer (some ⟨w.heap.size + 1, 9, none⟩)) rfl rfl rfl ?_; intro w_ hM hG; replace HD := Lib.hid (kept_by hG HD_.out (by have := HZ.out; omega)); replace HR := Lib.hid (kept_by hG HR_.out (by have := HZ.out; omega)); replace HB := Lib.hid (HB_.out.grown hG (by have := HB_.out.size; omega) (fun k hk => by cases hk; have := HZ.out; omega)); replace HM1 := Lib.hid (HM1_.out.same (hG.block _ HM1_.out.lt (by simp only [ne_eq, Option.some.injEq]; have := HZ.out; have := HZ0.out; omega))); clear HD_ HR_ HB_; have HM2 := Lib.hid hM; clear hM hG) | (have HD_ := HD; have HR_ := HR; have HB_ := HB; have HM1_ := HM1; refine wp_ins 110 77 Tryz.underlying110 _ rfl (.tmp 23) (.const (.string ⟨#[115, 116, 97, 108, 101, 45, 119, 104, 105, 108, 101, 45, 114, 101, 118, 97, 108, 105, 100, 97, 116, 101]⟩)) (.tmp 28) rfl W3.heap.size _ rfl HM2.out ⟨#[115, 116, 97, 108, 101, 45, 119, 104, 105, 108, 101, 45, 114, 101, 118, 97, 108, 105, 100, 97, 116, 101]⟩ (.pointer (some ⟨w.heap.size + 1, 10, none⟩)) rfl rfl rfl ?_; intro w_ hM hG; replace HD := Lib.hid (kept_by hG HD_.out (by have := HZ.out; omega)); replace HR := Lib.hid (kept_by hG HR_.out (by have := HZ.out; omega)); replace HB := Lib.hid (HB_.out.grown hG (by have := HB_.out.size; omega) (fun k hk => by cases hk; have := HZ.out; omega)); replace HM1 := Lib.hid (HM1_.out.same (hG.block _ HM1_.out.lt (by simp only [ne_eq, Option.some.injEq]; have := HZ.out; have := HZ0.out; omega))); clear HD_ HR_ HB_; have HM2 := Lib.hid hM; clear hM hG) | (have HD_ := HD; have HR_ := HR; have HB_ := HB; have HM1_ := HM1; refine wp_ins 110 77 Tryz.underlying110 _ rfl (.tmp 23) (.const (.string ⟨#[115, 116, 97, 108, 101, 45, 105, 102, 45, 101, 114, 114, 111, 114]⟩)) (.tmp 29) rfl W3.heap.size _ rfl HM2.out ⟨#[115, 116, 97, 108, 101, 45, 105, 102, 45, 101, 114, 114, 111, 114]⟩ (.pointer (some ⟨w.heap.size + 1, 11, none⟩)) rfl rfl rfl ?_; intro w_ hM hG; replace HD := Lib.hid (kept_by hG HD_.out (by have := HZ.out; omega)); replace HR := Lib.hid (kept_by hG HR_.out (by have := HZ.out; omega)); replace HB := Lib.hid (HB_.out.grown hG (by have := HB_.out.size; omega) (fun k hk => by cases hk; have := HZ.out; omega)); replace HM1 := Lib.hid (HM1_.out.same (hG.block _ HM1_.out.lt (by simp only [ne_eq, Option.some.injEq]; have := HZ.out; have := HZ0.out; omega))); clear HD_ HR_ HB_; have HM2 := Lib.hid hM; clear hM hG))
  obtain ⟨W4, hW4⟩ : ∃ W, W = w_ := ⟨_, rfl⟩
  rw [← hW4] at HD HR HB HM1 HM2
  rw [← hW4]
  clear hW4 hmm
  have hne : w.heap.size + 1 ≠ W0.heap.size ∧ w.heap.size + 1 ≠ W3.heap.size := ⟨by have := HZ0.out; omega, by have := HZ.out; omega⟩
  obtain ⟨b1, hb1⟩ : ∃ b, b = W0.heap.size := ⟨_, rfl⟩
  obtain ⟨b2, hb2⟩ : ∃ b, b = W3.heap.size := ⟨_, rfl⟩
  obtain ⟨g, hg⟩ : ∃ g, g = w.heap.size + 1 := ⟨_, rfl⟩
  obtain ⟨r, hr⟩ : ∃ r, r = w.heap.size := ⟨_, rfl⟩
  rw [← hb1, ← hg] at HM1
  rw [← hb2, ← hg] at HM2
  rw [← hg] at HD
  rw [← hb1, ← hb2, ← hg] at hne
  rw [← hb1, ← hb2, ← hg]
  have HNE : Hid (r ≠ g ∧ b1 ≠ g ∧ b2 ≠ g ∧ w.heap.size ≤ g) := Lib.hid ⟨by omega, fun h => hne.1 h.symm, fun h => hne.2 h.symm, by omega⟩
  have hgl := blk_lt HD.out
  have HCX := Lib.hid (Kd.C_below HC0.out HB.out)
  clear hne HZ HZ0 hb1 hb2 hg
  go_upto_region 5 with (first | (go_at_call 65; refine (field_All.calls (l0.length + 1) A0 c0 l0 CACHE LA _ HCX.out hc0 HAL.out).mono ?_; rintro e_ w5 ⟨v5, rfl, hR5, hb5⟩; obtain ⟨A5, c5, rfl, hl5, hC5⟩ := Kd.R_reads hR5; have HC5 := Lib.hid hC5; have HB5 := Lib.hid hb5; clear hR5 hb5 hC5) | (go_at_call 80; refine (field_Elements.calls K A5 c5 LA L _ HC5.out hl5 HEL.out).mono ?_; rintro e_ w6 ⟨v6, rfl, hR6, hb6⟩; obtain ⟨A6, c6, rfl, hl6, -⟩ := Kd.R_reads hR6; have HR6 := Lib.hid hR6; have HB6 := Lib.hid hb6; clear hR6 hb6))
  obtain ⟨W6, hW6⟩ : ∃ W, W = w6 := ⟨_, rfl⟩
  rw [← hW6] at HR6 HB6
  rw [← hW6]
  obtain ⟨B6, hB6⟩ : ∃ B, B = w5.heap.size := ⟨_, rfl⟩
  rw [← hB6] at HR6
  have HB46 : Hid (Below W4.heap.size W4 W6) := Lib.hid (below_step HB5.out HB6.out)
  have hB6g : g < B6 := by have := HB5.out.size; omega
  have HR6' : Hid (Kd.R Kd.string 9 W6 B6 (fun k => k ≠ g) (.slice A6 L.length c6) L) := Lib.hid (Kd.R_mono (Kd.R_bound HR6.out) (fun k hk e => by have := hk.2.1; omega))
  have HK6 : Hid (Keeps w g r b1 b2 B6 (.slice A6 L.length c6) L (dirs (L.take 0)) W6) := Lib.hid ⟨blk_bel HB46.out HD.out, blk_bel HB46.out (by rw [hr]; exact HR.out), HM1.out.below HB46.out, HM2.out.below HB46.out, HR6'.out, below_step HB.out HB46.out⟩
  have HR0 := Lib.hid hr
  clear hW6 hB6 hB6g HB46 HR6 HR6' HB5 HB6 HC5 HD HR HM1 HM2 HB HCX HC0 HAL HEL hc0 hgl hr hl5 hl6
  go_wp2
  go_loopg [35] (L.length + 1) (fun k v35 W => ∃ i : Nat, v35 = .int .i64 (i : Int) ∧ i ≤ L.length ∧ L.length + 1 ≤ k + i ∧ Hid (Keeps w g r b1 b2 B6 (.slice A6 L.length c6) L (dirs (L.take i)) W))
  case atStart => exact ⟨0, rfl, by omega, by omega, HK6⟩
  case round =>
    obtain ⟨i, rfl, hi, hk, HK⟩ := hrel
    rename World => Wo
    clear HK6
    by_cases hlt : i < L.length
    · obtain ⟨ko, rfl⟩ : ∃ ko, gk = ko + 1 := ⟨gk - 1, by omega⟩
      have hk2 : L.length + 1 ≤ ko + (i + 1) := by omega
      have hi1 : i + 1 ≤ L.length := hlt
      have t0 : decide ((i : Int) < (L.length : Int)) = true := decide_eq_true (by omega)
      have q1 : 0 ≤ (i : Int) := by omega
      have q2 : (i : Int) < (L.length : Int) := by omega
      have HWX := Lib.hid (show wrap64 ((i : Int) + 1) = (i : Int) + 1 by unfold wrap64; omega)
      obtain ⟨el, hel⟩ : ∃ el, L[i]? = some el := ⟨_, List.getElem?_eq_getElem hlt⟩
      have hes := HLS.out el (List.mem_of_getElem? hel)
      have HST := Lib.hid (dirs_snoc L i el hel)
      obtain ⟨ad, rfl, hcell⟩ := elem_at HK.out.row i el hel
      obtain ⟨m, hm⟩ := (HG.out.below HK.out.b).mx
      obtain ⟨C, hC⟩ : ∃ c, c = dirs (L.take i) := ⟨_, rfl⟩
      rw [← hC] at HK HST
      have hcl := cut_len el.data.toList [61]
      have hdl : el.data.toList.length = el.size := by simp
      have hcut := Tryz.strings_Cut el ⟨#[61]⟩ m Wo (by omega) hm
      rw [show (⟨#[61]⟩ : ByteArray).data.toList = [61] from rfl] at hcut
      unfold Ct.step nameOf at HST
      obtain ⟨⟨F, R, told⟩, hc⟩ : ∃ c, c = Lib.cut el.data.toList [61] := ⟨_, rfl⟩
      rw [← hc] at hcut hcl HST
      simp only at hcut hcl HST
      have HCUT := Lib.hid hcut
      have hFs : (⟨F.toArray⟩ : ByteArray).data.toList.length ≤ 140737488355328 := by have := hcl.1; simp; omega
      have HSM := Lib.hid (fun W => Pl.small_at ⟨F.toArray⟩ W hFs)
      obtain ⟨NM, hNM⟩ : ∃ x, x = Pl.lowS ⟨F.toArray⟩ := ⟨_, rfl⟩
      rw [← hNM] at HSM HST
      obtain ⟨AR, hAR⟩ : ∃ x : ByteArray, x = ⟨R.toArray⟩ := ⟨_, rfl⟩
      have eAR : AR.data.toList = R := by rw [hAR]
      rw [← hAR] at HCUT
      rw [← eAR] at HST hcl
      have hARl : AR.data.toList.length = AR.size := by simp
      have hARs : AR.size < 268435456 := by omega
      clear hlt hel hC hcut hc hFs hNM hAR eAR hcl hdl hes hm
      go_upto_region 9 with (first | (go_at_call 81; refine HCUT.out.mono ?_; rintro e_ w7 ⟨rfl, hd⟩; replace HK := Lib.hid (HK.out.below (drawn_below hd)); clear hd) | (go_at_call 82; refine (HSM.out _).mono ?_; rintro e_ w8 ⟨rfl, hb8⟩; replace HK := Lib.hid (HK.out.below hb8); clear hb8))
      clear hcell
      obtain ⟨qd, hqd⟩ : ∃ q : Bool, q = decide (1 < AR.data.toList.length ∧ Lib.hasPrefix AR.data.toList [34] = true ∧ Lib.hasSuffix AR.data.toList [34] = true) := ⟨_, rfl⟩
      have HQD := Lib.hid hqd
      clear hqd
      have HPR := Lib.hid (fun W => Tryz.strings_HasPrefix AR ⟨#[34]⟩ W)
      have HSU := Lib.hid (fun W => Tryz.strings_HasSuffix AR ⟨#[34]⟩ W (by omega))
      go_cut [57] (fun v57 wx => v57 = .bool qd ∧ Hid (Keeps w g r b1 b2 B6 (.slice (some ad) L.length c6) L C wx))
      case first =>
        by_cases h1 : 1 < AR.size
        · have t1 : decide ((AR.size : Int) > 1) = true := decide_eq_true (by omega)
          obtain ⟨x1, hx1⟩ : ∃ x, x = Lib.hasPrefix AR.data.toList [34] := ⟨_, rfl⟩
          obtain ⟨x2, hx2⟩ : ∃ x, x = Lib.hasSuffix AR.data.toList [34] := ⟨_, rfl⟩
          have eq : qd = (x1 && x2) := by rw [HQD.out, ← hx1, ← hx2, hARl]; cases x1 <;> cases x2 <;> simp [h1]
          have HPR2 : Hid (∀ W, Calls Tryz.prog 83 #[.string AR, .string ⟨#[34]⟩] W fun e w' => e = .returned (.bool x1) ∧ w' = W) := Lib.hid (by rw [hx1]; exact HPR.out)
          have HSU2 : Hid (∀ W, Calls Tryz.prog 84 #[.string AR, .string ⟨#[34]⟩] W fun e w' => e = .returned (.bool x2) ∧ w' = W) := Lib.hid (by rw [hx2]; exact HSU.out)
          have EQ := Lib.hid eq
          clear h1 hx1 hx2 eq
          cases x1 with
          | false =>
            go_wp2_with (first | (go_at_call 83; refine (HPR2.out _).mono ?_; rintro e_ w9 ⟨rfl, h_⟩; obtain rfl := h_))
            go_meet
            case rel => exact ⟨by rw [EQ.out]; rfl, HK⟩
          | true =>
            go_wp2_with (first | (go_at_call 83; refine (HPR2.out _).mono ?_; rintro e_ w9 ⟨rfl, h_⟩; obtain rfl := h_) | (go_at_call 84; refine (HSU2.out _).mono ?_; rintro e_ w9 ⟨rfl, h_⟩; obtain rfl := h_))
            go_meet
            case rel => exact ⟨by rw [EQ.out]; cases x2 <;> rfl, HK⟩
        · have t1 : decide ((AR.size : Int) > 1) = false := decide_eq_false (by omega)
          have EQ : Hid (qd = false) := Lib.hid (by rw [HQD.out, hARl]; simp [h1])
          clear h1
          go_wp2
          go_meet
          case rel => exact ⟨by rw [EQ.out], HK⟩
      case rest =>
        obtain ⟨rfl, HK⟩ := hcut
        obtain ⟨A1, hA1⟩ : ∃ x : ByteArray, x = ⟨(bare AR.data.toList).toArray⟩ := ⟨_, rfl⟩
        have HA1 := Lib.hid hA1
        clear hA1
        go_upto_if 57 with fail
        go_cut [9] (fun v9 wx => v9 = .string A1 ∧ Hid (Keeps w g r b1 b2 B6 (.slice (some ad) L.length c6) L C wx))
        case first =>
          cases qd with
          | true =>
            have h := of_decide_eq_true HQD.out.symm
            have h2 : 2 ≤ AR.size := by have := h.1; omega
            have hx : AR.extract 1 (AR.size - 1) = A1 := by rw [HA1.out]; exact bare_ext h
            have u1 : (1 ≤ (AR.size : Int) - 1) = True := eq_true (by omega)
            have u2 : ((AR.size : Int) - 1 ≤ (AR.size : Int)) = True := eq_true (by omega)
            have u3 : (2 ≤ (AR.size : Int)) = True := eq_true (by omega)
            have u5 : ((AR.size : Int) - 1).toNat = AR.size - 1 := by omega
            have u6 : (1 ≤ AR.size - 1) = True := eq_true (by omega)
            clear h
            go_wp2
            go_meet
            case rel => exact ⟨rfl, HK⟩
          | false =>
            have hx : A1 = AR := by rw [HA1.out]; exact bare_no HQD.out.symm
            subst hx
            go_wp2
            go_meet
            case rel => exact ⟨rfl, HK⟩
        case rest =>
          obtain ⟨rfl, HK⟩ := hcut
          obtain ⟨qm, hqm⟩ : ∃ q : Bool, q = decide (NM = MAXSTALE ∧ told = false) := ⟨_, rfl⟩
          have HQM := Lib.hid hqm
          clear hqm
          go_upto_region 11 with fail
          go_cut [68] (fun v68 wx => v68 = .bool qm ∧ Hid (Keeps w g r b1 b2 B6 (.slice (some ad) L.length c6) L C wx))
          case first =>
            by_cases hn : NM = MAXSTALE
            · have e1 : NM.toList = [109, 97, 120, 45, 115, 116, 97, 108, 101] := by rw [hn]; unfold MAXSTALE; rw [toL]
              have EQ : Hid (qm = !told) := Lib.hid (by rw [HQM.out]; cases told <;> simp [hn])
              clear hn
              cases told with
              | true =>
                go_wp2
                go_meet
                case rel => exact ⟨by rw [EQ.out]; rfl, HK⟩
              | false =>
                go_wp2
                go_meet
                case rel => exact ⟨by rw [EQ.out]; rfl, HK⟩
            · have e1 : ¬ NM.toList = [109, 97, 120, 45, 115, 116, 97, 108, 101] := fun e => hn (by rw [toL] at e; obtain ⟨⟨l⟩⟩ := NM; simp only at e; rw [e]; rfl)
              have e2 : (NM.toList == [109, 97, 120, 45, 115, 116, 97, 108, 101]) = false := by rw [beq_eq_false_iff_ne]; exact e1
              have EQ : Hid (qm = false) := Lib.hid (by rw [HQM.out]; simp [hn])
              clear hn
              go_wp2
              go_meet
              case rel => exact ⟨by rw [EQ.out], HK⟩
          case rest =>
            obtain ⟨rfl, HK⟩ := hcut
            obtain ⟨A2, hA2⟩ : ∃ x : ByteArray, x = ⟨(argOf NM told AR.data.toList).toArray⟩ := ⟨_, rfl⟩
            have HA2 := Lib.hid hA2
            have hA2s : A2.size ≤ 281474976710656 := by
              have h1 := arg_len NM told AR.data.toList
              rw [hA2]; show (argOf NM told AR.data.toList).toArray.size ≤ _; rw [List.size_toArray]; omega
            clear hA2
            go_upto_if 68 with fail
            go_cut [9] (fun v9 wx => v9 = .string A2 ∧ Hid (Keeps w g r b1 b2 B6 (.slice (some ad) L.length c6) L C wx))
            case first =>
              cases qm with
              | true =>
                have h := of_decide_eq_true HQM.out.symm
                have hx : (⟨(Lib.itoa 2147483648).toArray⟩ : ByteArray) = A2 := by rw [HA2.out]; unfold argOf; rw [if_pos h]
                have HIT := Lib.hid (fun W hG => itoa_far W hG)
                rw [hx] at HIT
                clear h hx
                go_wp2_with (go_at_call 58; refine (HIT.out _ (HG.out.below HK.out.b)).mono ?_; rintro e_ w9 ⟨rfl, hb9⟩; replace HK := Lib.hid (HK.out.below hb9); clear hb9)
                go_meet
                case rel => exact ⟨rfl, HK⟩
              | false =>
                have hx : A2 = A1 := by rw [HA2.out, HA1.out]; unfold argOf; rw [if_neg (of_decide_eq_false HQM.out.symm)]
                subst hx
                go_wp2
                go_meet
                case rel => exact ⟨rfl, HK⟩
            case rest =>
              obtain ⟨rfl, HK⟩ := hcut
              rename World => Wx
              have eA2 : A2.data.toList = argOf NM told AR.data.toList := by rw [HA2.out]
              rw [← eA2] at HST
              clear eA2 HA2 HA1 HQM HQD HPR HSU HCUT HSM
              unfold Ct.told at HST
              cases hf : lookN flagsN NM with
              | none =>
                have HF := Lib.hid hf
                rw [hf] at HST
                clear hf
                go_upto_region 16 with (at_lookup; refine wp_look 109 108 Tryz.underlying109 zero66 _ rfl (.tmp 70) (.tmp 71) rfl b1 (ptrs g flagsN) rfl HK.out.m1 NM rfl ?_; rw [look_ptrs, HF.out]; simp only [Option.map_none, Option.getD_none])
                simp only at HST
                cases hn : lookN numsN NM with
                | none =>
                  have HN := Lib.hid hn
                  rw [hn] at HST
                  clear hn
                  go_wp2_with (at_lookup; refine wp_look 110 77 Tryz.underlying110 zero68 _ rfl (.tmp 77) (.tmp 78) rfl b2 (ptrs g numsN) rfl HK.out.m2 NM rfl ?_; rw [look_ptrs, HN.out]; simp only [Option.map_none, Option.getD_none])
                  go_roundg ko
                  case measure => omega
                  case rel => exact ⟨i + 1, by first | exact congrArg (Value.int .i64) HWX.out | go_num, hi1, hk2, Lib.hid (by rw [HST.out]; exact HK.out)⟩
                | some j2 =>
                  have HN := Lib.hid hn
                  rw [hn] at HST
                  have HJ := Lib.hid (num_in hn)
                  clear hn
                  go_wp2_with (first | (at_lookup; refine wp_look 110 77 Tryz.underlying110 zero68 _ rfl (.tmp 77) (.tmp 78) rfl b2 (ptrs g numsN) rfl HK.out.m2 NM rfl ?_; rw [look_ptrs, HN.out]; simp only [Option.map_some, Option.getD_some]) | (go_at_call 85; refine (argument_q g j2 C.cells 69 (C.nm j2) A2 hA2s _ HK.out.d (C.at_num j2 HJ.out)).mono ?_; rintro e_ w11 ⟨rfl, w12, hb12, hw⟩; have HK12 := Lib.hid ((HK.out.below hb12).arg j2 _ hw HJ.out HNE.out.1 HNE.out.2.1 HNE.out.2.2.1 HNE.out.2.2.2); clear hb12 hw))
                  go_roundg ko
                  case measure => omega
                  case rel => exact ⟨i + 1, by first | exact congrArg (Value.int .i64) HWX.out | go_num, hi1, hk2, Lib.hid (by rw [HST.out]; exact HK12.out)⟩
              | some j =>
                have HF := Lib.hid hf
                rw [hf] at HST
                have hj6 := flag_lt hf
                have k0 := c_of HK.out.d j (C.at_flag j hj6)
                have k1 := fr_of HK.out.d j
                clear hf
                go_upto_region 16 with (at_lookup; refine wp_look 109 108 Tryz.underlying109 zero66 _ rfl (.tmp 70) (.tmp 71) rfl b1 (ptrs g flagsN) rfl HK.out.m1 NM rfl ?_; rw [look_ptrs, HF.out]; simp only [Option.map_some, Option.getD_some])
                replace HK := Lib.hid (HK.out.set j (.bool true) (C.set_flag j hj6) HNE.out.1 HNE.out.2.1 HNE.out.2.2.1 HNE.out.2.2.2)
                simp only at HST
                obtain ⟨C', hC'⟩ : ∃ c, c = C.flag j := ⟨_, rfl⟩
                rw [← hC'] at HK HST
                clear k0 k1 hC' HF hj6
                obtain ⟨Wy, hWy⟩ : ∃ W, W = Wx.setCell ⟨g, j, none⟩ (.bool true) := ⟨_, rfl⟩
                rw [← hWy] at HK ⊢
                clear hWy
                cases hn : lookN numsN NM with
                | none =>
                  have HN := Lib.hid hn
                  rw [hn] at HST
                  clear hn
                  go_wp2_with (at_lookup; refine wp_look 110 77 Tryz.underlying110 zero68 _ rfl (.tmp 77) (.tmp 78) rfl b2 (ptrs g numsN) rfl HK.out.m2 NM rfl ?_; rw [look_ptrs, HN.out]; simp only [Option.map_none, Option.getD_none])
                  go_roundg ko
                  case measure => omega
                  case rel => exact ⟨i + 1, by first | exact congrArg (Value.int .i64) HWX.out | go_num, hi1, hk2, Lib.hid (by rw [HST.out]; exact HK.out)⟩
                | some j2 =>
                  have HN := Lib.hid hn
                  rw [hn] at HST
                  have HJ := Lib.hid (num_in hn)
                  clear hn
                  go_wp2_with (first | (at_lookup; refine wp_look 110 77 Tryz.underlying110 zero68 _ rfl (.tmp 77) (.tmp 78) rfl b2 (ptrs g numsN) rfl HK.out.m2 NM rfl ?_; rw [look_ptrs, HN.out]; simp only [Option.map_some, Option.getD_some]) | (go_at_call 85; refine (argument_q g j2 C'.cells 69 (C'.nm j2) A2 hA2s _ HK.out.d (C'.at_num j2 HJ.out)).mono ?_; rintro e_ w11 ⟨rfl, w12, hb12, hw⟩; have HK12 := Lib.hid ((HK.out.below hb12).arg j2 _ hw HJ.out HNE.out.1 HNE.out.2.1 HNE.out.2.2.1 HNE.out.2.2.2); clear hb12 hw))
                  go_roundg ko
                  case measure => omega
                  case rel => exact ⟨i + 1, by first | exact congrArg (Value.int .i64) HWX.out | go_num, hi1, hk2, Lib.hid (by rw [HST.out]; exact HK12.out)⟩
    · obtain rfl : i = L.length := by omega
      have t0 : decide ((L.length : Int) < (L.length : Int)) = false := decide_eq_false (by omega)
      rw [List.take_length] at HK
      obtain ⟨C, hC⟩ : ∃ c, c = dirs L := ⟨_, rfl⟩
      rw [← hC] at HK
      have HCd := Lib.hid hC
      obtain rfl := HR0.out
      clear hk hi hlt hC HR0
      have l0 := c_of HK.out.d 0 (v := .bool (C.fl 0)) rfl
      have l1 := c_of HK.out.d 1 (v := .bool (C.fl 1)) rfl
      have l2 := c_of HK.out.d 2 (v := .bool (C.fl 2)) rfl
      have l3 := c_of HK.out.d 3 (v := .bool (C.fl 3)) rfl
      have l4 := c_of HK.out.d 4 (v := .bool (C.fl 4)) rfl
      have l5 := c_of HK.out.d 5 (v := .bool (C.fl 5)) rfl
      have l6 := c_of HK.out.d 6 (v := .int .i64 (C.nm 6)) rfl
      have l7 := c_of HK.out.d 7 (v := .int .i64 (C.nm 7)) rfl
      have l8 := c_of HK.out.d 8 (v := .int .i64 (C.nm 8)) rfl
      have l9 := c_of HK.out.d 9 (v := .int .i64 (C.nm 9)) rfl
      have l10 := c_of HK.out.d 10 (v := .int .i64 (C.nm 10)) rfl
      have l11 := c_of HK.out.d 11 (v := .int .i64 (C.nm 11)) rfl
      have z0 := c_of HK.out.z 0 (v := .bool false) rfl
      have z1 := c_of HK.out.z 1 (v := .bool false) rfl
      have z2 := c_of HK.out.z 2 (v := .bool false) rfl
      have z3 := c_of HK.out.z 3 (v := .bool false) rfl
      have z4 := c_of HK.out.z 4 (v := .bool false) rfl
      have z5 := c_of HK.out.z 5 (v := .bool false) rfl
      have z6 := c_of HK.out.z 6 (v := .int .i64 0) rfl
      have z7 := c_of HK.out.z 7 (v := .int .i64 0) rfl
      have z8 := c_of HK.out.z 8 (v := .int .i64 0) rfl
      have z9 := c_of HK.out.z 9 (v := .int .i64 0) rfl
      have z10 := c_of HK.out.z 10 (v := .int .i64 0) rfl
      have z11 := c_of HK.out.z 11 (v := .int .i64 0) rfl
      have y0 := fr_of HK.out.z 0
      have y1 := fr_of HK.out.z 1
      have y2 := fr_of HK.out.z 2
      have y3 := fr_of HK.out.z 3
      have y4 := fr_of HK.out.z 4
      have y5 := fr_of HK.out.z 5
      have y6 := fr_of HK.out.z 6
      have y7 := fr_of HK.out.z 7
      have y8 := fr_of HK.out.z 8
      have y9 := fr_of HK.out.z 9
      have y10 := fr_of HK.out.z 10
      have y11 := fr_of HK.out.z 11
      go_wp2
      have hp := put12 HK.out.z (.bool (C.fl 0)) (.bool (C.fl 1)) (.bool (C.fl 2)) (.bool (C.fl 3)) (.bool (C.fl 4)) (.bool (C.fl 5)) (.int .i64 (C.nm 6)) (.int .i64 (C.nm 7)) (.int .i64 (C.nm 8)) (.int .i64 (C.nm 9)) (.int .i64 (C.nm 10)) (.int .i64 (C.nm 11))
      obtain ⟨W9, hW9⟩ : ∃ W, W = ((((((((((((Wo.setCell ⟨w.heap.size, 0, none⟩ (.bool (C.fl 0))).setCell ⟨w.heap.size, 1, none⟩ (.bool (C.fl 1))).setCell ⟨w.heap.size, 2, none⟩ (.bool (C.fl 2))).setCell ⟨w.heap.size, 3, none⟩ (.bool (C.fl 3))).setCell ⟨w.heap.size, 4, none⟩ (.bool (C.fl 4))).setCell ⟨w.heap.size, 5, none⟩ (.bool (C.fl 5))).setCell ⟨w.heap.size, 6, none⟩ (.int .i64 (C.nm 6))).setCell ⟨w.heap.size, 7, none⟩ (.int .i64 (C.nm 7))).setCell ⟨w.heap.size, 8, none⟩ (.int .i64 (C.nm 8))).setCell ⟨w.heap.size, 9, none⟩ (.int .i64 (C.nm 9))).setCell ⟨w.heap.size, 10, none⟩ (.int .i64 (C.nm 10))).setCell ⟨w.heap.size, 11, none⟩ (.int .i64 (C.nm 11))) := ⟨_, rfl⟩
      rw [← hW9] at hp ⊢
      have hb : Below w.heap.size w W9 := by
        rw [hW9]
        repeat (refine Below.setCell ?_ (by simp) _)
        exact HK.out.b
      exact bodyPost_ret (v := .agg #[.bool (C.fl 0), .bool (C.fl 1), .bool (C.fl 2), .bool (C.fl 3), .bool (C.fl 4), .bool (C.fl 5), .int .i64 (C.nm 6), .int .i64 (C.nm 7), .int .i64 (C.nm 8), .int .i64 (C.nm 9), .int .i64 (C.nm 10), .int .i64 (C.nm 11)]) (by simp [results, Tryz.results44, go_sem, c_of hp 0 (v := .bool (C.fl 0)) rfl, c_of hp 1 (v := .bool (C.fl 1)) rfl, c_of hp 2 (v := .bool (C.fl 2)) rfl, c_of hp 3 (v := .bool (C.fl 3)) rfl, c_of hp 4 (v := .bool (C.fl 4)) rfl, c_of hp 5 (v := .bool (C.fl 5)) rfl, c_of hp 6 (v := .int .i64 (C.nm 6)) rfl, c_of hp 7 (v := .int .i64 (C.nm 7)) rfl, c_of hp 8 (v := .int .i64 (C.nm 8)) rfl, c_of hp 9 (v := .int .i64 (C.nm 9)) rfl, c_of hp 10 (v := .int .i64 (C.nm 10)) rfl, c_of hp 11 (v := .int .i64 (C.nm 11)) rfl]) rfl ⟨by rw [← HCd.out]; rfl, hb⟩
end Go.Proofs.YtbnhlekehndhkaaGreatDoor.Fb

