import Derived.Test.YtipmnfidkoaojaaDoorXFB

/- One span of a range: part. -/
namespace Go.Proofs.YtipmnfidkoaojaaDoor.Fb
open Go.RowKit Go.Proofs.YtipmnfidkoaojaaDoorW.PrintWords Go.Proofs.YtipmnfidkoaojaaDoorW.PrintLast Go.Proofs.YtipmnfidkoaojaaDoorW.PrintMore Go.Proofs.YtipmnfidkoaojaaDoor.G
set_option linter.unusedVariables false
set_option linter.unusedSimpArgs false
theorem cells_of {w : World} {g : Nat} {cs : Array Value} {t : Nat} {m : Nat × Nat} (h : w.heap[g]? = some (.cells cs t m)) (j : Nat) : w.cell? ⟨g, j, none⟩ = cs[j]? := by simp [World.cell?, h]
theorem c_of {w : World} {g : Nat} {cs : Array Value} {t : Nat} {m : Nat × Nat} {v : Value} (h : w.heap[g]? = some (.cells cs t m)) (j : Nat) (e : cs[j]? = some v) : w.cell? ⟨g, j, none⟩ = some v := (cells_of h j).trans e
theorem fr_of {w : World} {g : Nat} {cs : Array Value} {t : Nat} (h : w.heap[g]? = some (.cells cs t (0, 0))) (j : Nat) : w.frozen? ⟨g, j, none⟩ = false := frozen_of_row w g j cs t h
theorem blk_lt {w : World} {g : Nat} {o : Obj} (h : w.heap[g]? = some o) : g < w.heap.size := (Array.getElem?_eq_some_iff.1 h).1
theorem blk_bel {W W' : World} {b : Nat} {o : Obj} (hg : Below W.heap.size W W') (hb : W.heap[b]? = some o) : W'.heap[b]? = some o := (hg.block _ (blk_lt hb)).trans hb
theorem set_same {w : World} {g i : Nat} {cs cs' : Array Value} {t : Nat} {v : Value} (hg : w.heap[g]? = some (.cells cs t (0, 0))) (e : cs.setIfInBounds i v = cs') : (w.setCell ⟨g, i, none⟩ v).heap[g]? = some (.cells cs' t (0, 0)) := e ▸ heap_setCell_same w g i cs t v hg
theorem put2 {W : World} {g t : Nat} {z0 z1 : Value} (h : W.heap[g]? = some (.cells #[z0, z1] t (0, 0))) (v0 v1 : Value) :
    ((W.setCell ⟨g, 0, none⟩ v0).setCell ⟨g, 1, none⟩ v1).heap[g]? = some (.cells #[v0, v1] t (0, 0)) := set_same (set_same h rfl) rfl
def partV (l : List UInt8) (n : Int) : Int × Int × Bool :=
  let c := Lib.cut l [45]
  if c.2.2 = false ∨ (c.1 = [] ∧ (numV c.2.1).2 = false) then (0, 0, false)
  else if c.1 = [] then (max 0 (n - (numV c.2.1).1), n - 1, true)
  else if (numV c.1).2 = false ∨ (c.2.1 ≠ [] ∧ ((numV c.2.1).2 = false ∨ (numV c.2.1).1 < (numV c.1).1)) then (0, 0, false)
  else ((numV c.1).1, min (if c.2.1 = [] then n else (numV c.2.1).1) (n - 1), true)
theorem numV_bounds (l : List UInt8) : 0 ≤ (numV l).1 ∧ (numV l).1 < 1000000000000000000 := by
  unfold numV
  split
  · exact ⟨by decide, by decide⟩
  · rename_i h
    have h0 : l ≠ [] := fun e => h (.inl e)
    have h1 : l.length ≤ 18 := by
      rcases Nat.lt_or_ge 18 l.length with h' | h'
      · exact absurd (.inr (.inl h')) h
      · exact h'
    have h2 : Lib.trimS l digs = [] := by
      by_cases e : Lib.trimS l digs = []
      · exact e
      · exact absurd (.inr (.inr e)) h
    obtain ⟨m, hm, hlt⟩ := atoi_digits l h0 h1 (trim_digits h2)
    rw [hm]
    exact ⟨by show 0 ≤ (m : Int); omega, by show (m : Int) < _; omega⟩
set_option maxRecDepth 100000 in
set_option maxHeartbeats 2000000 in
theorem part_1 (s F L : ByteArray) (ct ka kb : Bool) (a b n : Int) (w : World) (m : Int) (hm : w.cell? ⟨0, 0, none⟩ = some (.int .i64 m)) (n0 : 0 ≤ n) (n1 : n ≤ 1099511627776) (b0 : 0 ≤ b) (b1 : b < 1000000000000000000)
    (hC : ∀ W, W.cell? ⟨0, 0, none⟩ = some (.int .i64 m) → Calls Tryd.prog 16 #[.string s, .string ⟨#[45]⟩] W fun e w' => e = .returned (.tuple #[.string F, .string L, .bool ct]) ∧ ∃ k, w' = W.drewN k)
    (hA : ∀ W, Calls Tryd.prog 37 #[.string F] W fun e w' => e = .returned (.tuple #[.int .i64 a, .bool ka]) ∧ Below W.heap.size W w')
    (hB : ∀ W, Calls Tryd.prog 37 #[.string L] W fun e w' => e = .returned (.tuple #[.int .i64 b, .bool kb]) ∧ Below W.heap.size W w')
    (hct : ct = false) : Calls Tryd.prog 19 #[.string s, .int .i64 n] w fun e w' => e = .returned (.tuple #[.agg #[.int .i64 (0), .int .i64 (0)], .bool false]) ∧ Below w.heap.size w w' := by
  have HM := Lib.hid hm
  have HC := Lib.hid hC
  have HA := Lib.hid hA
  have HBB := Lib.hid hB
  subst hct
  have tE : (⟨#[]⟩ : ByteArray).toList = [] := by rw [toL]
  have HW0 : Hid (wrap64 (n - b) = n - b) := Lib.hid (by unfold wrap64; omega)
  have HW1 : Hid (wrap64 (n - 1) = n - 1) := Lib.hid (by unfold wrap64; omega)
  clear hm hC hA hB n0 n1 b0 b1
  go_enter Tryd.func19, Tryd.ntmps19
  go_upto_region 2 with (go_at_call 16; go_loud (refine (HC.out _ (pw_cell_below (below_alloc (Below.refl _ _) _) HM.out)).mono ?_; rintro e_ w1 ⟨rfl, hd⟩; have HB : Hid (Below w.heap.size w w1) := Lib.hid (below_step (below_alloc (Below.refl _ _) _) (Drawn0.mk hd).below); have HR : Hid (w1.heap[w.heap.size]? = some (.cells #[.int .i64 0, .int .i64 0] 31 (0, 0))) := Lib.hid (blk_bel (Drawn0.mk hd).below (heap_alloc_new _ _)); clear hd))
  go_upto_region 3 with (go_at_call 37; refine (HA.out _).mono ?_; rintro e_ w2 ⟨rfl, hb⟩; replace HR := Lib.hid (blk_bel hb HR.out); replace HB := Lib.hid (below_step HB.out hb); clear hb)
  go_upto_region 4 with (go_at_call 37; refine (HBB.out _).mono ?_; rintro e_ w3 ⟨rfl, hb⟩; replace HR := Lib.hid (blk_bel hb HR.out); replace HB := Lib.hid (below_step HB.out hb); clear hb)
  have z0 := c_of HR.out 0 (v := .int .i64 0) rfl
  have z1 := c_of HR.out 1 (v := .int .i64 0) rfl
  have y0 := fr_of HR.out 0
  have y1 := fr_of HR.out 1
  have t0 := HW0.out
  have t1 := HW1.out
  go_wp2
  skip
  have hp := put2 HR.out (.int .i64 (0)) (.int .i64 (0))
  obtain ⟨W4, hW⟩ : ∃ W, W = ((w3.setCell ⟨w.heap.size, 0, none⟩ (.int .i64 (0))).setCell ⟨w.heap.size, 1, none⟩ (.int .i64 (0))) := ⟨_, rfl⟩
  rw [← hW] at hp ⊢
  have hb : Below w.heap.size w W4 := by
    rw [hW]
    repeat (refine Below.setCell ?_ (by simp) _)
    exact HB.out
  exact bodyPost_ret (v := .tuple #[.agg #[.int .i64 (0), .int .i64 (0)], .bool false]) (by simp [results, Tryd.results19, go_sem, c_of hp 0 (v := .int .i64 (0)) rfl, c_of hp 1 (v := .int .i64 (0)) rfl]) rfl ⟨rfl, hb⟩
set_option maxRecDepth 100000 in
set_option maxHeartbeats 2000000 in
theorem part_2 (s F L : ByteArray) (ct ka kb : Bool) (a b n : Int) (w : World) (m : Int) (hm : w.cell? ⟨0, 0, none⟩ = some (.int .i64 m)) (n0 : 0 ≤ n) (n1 : n ≤ 1099511627776) (b0 : 0 ≤ b) (b1 : b < 1000000000000000000)
    (hC : ∀ W, W.cell? ⟨0, 0, none⟩ = some (.int .i64 m) → Calls Tryd.prog 16 #[.string s, .string ⟨#[45]⟩] W fun e w' => e = .returned (.tuple #[.string F, .string L, .bool ct]) ∧ ∃ k, w' = W.drewN k)
    (hA : ∀ W, Calls Tryd.prog 37 #[.string F] W fun e w' => e = .returned (.tuple #[.int .i64 a, .bool ka]) ∧ Below W.heap.size W w')
    (hB : ∀ W, Calls Tryd.prog 37 #[.string L] W fun e w' => e = .returned (.tuple #[.int .i64 b, .bool kb]) ∧ Below W.heap.size W w')
    (hct : ct = true) (hF : F = ⟨#[]⟩) (hkb : kb = false) : Calls Tryd.prog 19 #[.string s, .int .i64 n] w fun e w' => e = .returned (.tuple #[.agg #[.int .i64 (0), .int .i64 (0)], .bool false]) ∧ Below w.heap.size w w' := by
  have HM := Lib.hid hm
  have HC := Lib.hid hC
  have HA := Lib.hid hA
  have HBB := Lib.hid hB
  subst hct
  subst hkb
  subst hF
  have tE : (⟨#[]⟩ : ByteArray).toList = [] := by rw [toL]
  have HW0 : Hid (wrap64 (n - b) = n - b) := Lib.hid (by unfold wrap64; omega)
  have HW1 : Hid (wrap64 (n - 1) = n - 1) := Lib.hid (by unfold wrap64; omega)
  clear hm hC hA hB n0 n1 b0 b1
  go_enter Tryd.func19, Tryd.ntmps19
  go_upto_region 2 with (go_at_call 16; go_loud (refine (HC.out _ (pw_cell_below (below_alloc (Below.refl _ _) _) HM.out)).mono ?_; rintro e_ w1 ⟨rfl, hd⟩; have HB : Hid (Below w.heap.size w w1) := Lib.hid (below_step (below_alloc (Below.refl _ _) _) (Drawn0.mk hd).below); have HR : Hid (w1.heap[w.heap.size]? = some (.cells #[.int .i64 0, .int .i64 0] 31 (0, 0))) := Lib.hid (blk_bel (Drawn0.mk hd).below (heap_alloc_new _ _)); clear hd))
  go_upto_region 3 with (go_at_call 37; refine (HA.out _).mono ?_; rintro e_ w2 ⟨rfl, hb⟩; replace HR := Lib.hid (blk_bel hb HR.out); replace HB := Lib.hid (below_step HB.out hb); clear hb)
  go_upto_region 4 with (go_at_call 37; refine (HBB.out _).mono ?_; rintro e_ w3 ⟨rfl, hb⟩; replace HR := Lib.hid (blk_bel hb HR.out); replace HB := Lib.hid (below_step HB.out hb); clear hb)
  have z0 := c_of HR.out 0 (v := .int .i64 0) rfl
  have z1 := c_of HR.out 1 (v := .int .i64 0) rfl
  have y0 := fr_of HR.out 0
  have y1 := fr_of HR.out 1
  have t0 := HW0.out
  have t1 := HW1.out
  go_wp2
  skip
  have hp := put2 HR.out (.int .i64 (0)) (.int .i64 (0))
  obtain ⟨W4, hW⟩ : ∃ W, W = ((w3.setCell ⟨w.heap.size, 0, none⟩ (.int .i64 (0))).setCell ⟨w.heap.size, 1, none⟩ (.int .i64 (0))) := ⟨_, rfl⟩
  rw [← hW] at hp ⊢
  have hb : Below w.heap.size w W4 := by
    rw [hW]
    repeat (refine Below.setCell ?_ (by simp) _)
    exact HB.out
  exact bodyPost_ret (v := .tuple #[.agg #[.int .i64 (0), .int .i64 (0)], .bool false]) (by simp [results, Tryd.results19, go_sem, c_of hp 0 (v := .int .i64 (0)) rfl, c_of hp 1 (v := .int .i64 (0)) rfl]) rfl ⟨rfl, hb⟩
set_option maxRecDepth 100000 in
set_option maxHeartbeats 2000000 in
theorem part_3 (s F L : ByteArray) (ct ka kb : Bool) (a b n : Int) (w : World) (m : Int) (hm : w.cell? ⟨0, 0, none⟩ = some (.int .i64 m)) (n0 : 0 ≤ n) (n1 : n ≤ 1099511627776) (b0 : 0 ≤ b) (b1 : b < 1000000000000000000)
    (hC : ∀ W, W.cell? ⟨0, 0, none⟩ = some (.int .i64 m) → Calls Tryd.prog 16 #[.string s, .string ⟨#[45]⟩] W fun e w' => e = .returned (.tuple #[.string F, .string L, .bool ct]) ∧ ∃ k, w' = W.drewN k)
    (hA : ∀ W, Calls Tryd.prog 37 #[.string F] W fun e w' => e = .returned (.tuple #[.int .i64 a, .bool ka]) ∧ Below W.heap.size W w')
    (hB : ∀ W, Calls Tryd.prog 37 #[.string L] W fun e w' => e = .returned (.tuple #[.int .i64 b, .bool kb]) ∧ Below W.heap.size W w')
    (hct : ct = true) (hF : F = ⟨#[]⟩) (hkb : kb = true) : Calls Tryd.prog 19 #[.string s, .int .i64 n] w fun e w' => e = .returned (.tuple #[.agg #[.int .i64 (max 0 (n - b)), .int .i64 (n - 1)], .bool true]) ∧ Below w.heap.size w w' := by
  have HM := Lib.hid hm
  have HC := Lib.hid hC
  have HA := Lib.hid hA
  have HBB := Lib.hid hB
  subst hct
  subst hkb
  subst hF
  have tE : (⟨#[]⟩ : ByteArray).toList = [] := by rw [toL]
  have HW0 : Hid (wrap64 (n - b) = n - b) := Lib.hid (by unfold wrap64; omega)
  have HW1 : Hid (wrap64 (n - 1) = n - 1) := Lib.hid (by unfold wrap64; omega)
  clear hm hC hA hB n0 n1 b0 b1
  go_enter Tryd.func19, Tryd.ntmps19
  go_upto_region 2 with (go_at_call 16; go_loud (refine (HC.out _ (pw_cell_below (below_alloc (Below.refl _ _) _) HM.out)).mono ?_; rintro e_ w1 ⟨rfl, hd⟩; have HB : Hid (Below w.heap.size w w1) := Lib.hid (below_step (below_alloc (Below.refl _ _) _) (Drawn0.mk hd).below); have HR : Hid (w1.heap[w.heap.size]? = some (.cells #[.int .i64 0, .int .i64 0] 31 (0, 0))) := Lib.hid (blk_bel (Drawn0.mk hd).below (heap_alloc_new _ _)); clear hd))
  go_upto_region 3 with (go_at_call 37; refine (HA.out _).mono ?_; rintro e_ w2 ⟨rfl, hb⟩; replace HR := Lib.hid (blk_bel hb HR.out); replace HB := Lib.hid (below_step HB.out hb); clear hb)
  go_upto_region 4 with (go_at_call 37; refine (HBB.out _).mono ?_; rintro e_ w3 ⟨rfl, hb⟩; replace HR := Lib.hid (blk_bel hb HR.out); replace HB := Lib.hid (below_step HB.out hb); clear hb)
  have z0 := c_of HR.out 0 (v := .int .i64 0) rfl
  have z1 := c_of HR.out 1 (v := .int .i64 0) rfl
  have y0 := fr_of HR.out 0
  have y1 := fr_of HR.out 1
  have t0 := HW0.out
  have t1 := HW1.out
  go_wp2
  skip
  have hp := put2 HR.out (.int .i64 (max 0 (n - b))) (.int .i64 (n - 1))
  obtain ⟨W4, hW⟩ : ∃ W, W = ((w3.setCell ⟨w.heap.size, 0, none⟩ (.int .i64 (max 0 (n - b)))).setCell ⟨w.heap.size, 1, none⟩ (.int .i64 (n - 1))) := ⟨_, rfl⟩
  rw [← hW] at hp ⊢
  have hb : Below w.heap.size w W4 := by
    rw [hW]
    repeat (refine Below.setCell ?_ (by simp) _)
    exact HB.out
  exact bodyPost_ret (v := .tuple #[.agg #[.int .i64 (max 0 (n - b)), .int .i64 (n - 1)], .bool true]) (by simp [results, Tryd.results19, go_sem, c_of hp 0 (v := .int .i64 (max 0 (n - b))) rfl, c_of hp 1 (v := .int .i64 (n - 1)) rfl]) rfl ⟨rfl, hb⟩
set_option maxRecDepth 100000 in
set_option maxHeartbeats 2000000 in
theorem part_4 (s F L : ByteArray) (ct ka kb : Bool) (a b n : Int) (w : World) (m : Int) (hm : w.cell? ⟨0, 0, none⟩ = some (.int .i64 m)) (n0 : 0 ≤ n) (n1 : n ≤ 1099511627776) (b0 : 0 ≤ b) (b1 : b < 1000000000000000000)
    (hC : ∀ W, W.cell? ⟨0, 0, none⟩ = some (.int .i64 m) → Calls Tryd.prog 16 #[.string s, .string ⟨#[45]⟩] W fun e w' => e = .returned (.tuple #[.string F, .string L, .bool ct]) ∧ ∃ k, w' = W.drewN k)
    (hA : ∀ W, Calls Tryd.prog 37 #[.string F] W fun e w' => e = .returned (.tuple #[.int .i64 a, .bool ka]) ∧ Below W.heap.size W w')
    (hB : ∀ W, Calls Tryd.prog 37 #[.string L] W fun e w' => e = .returned (.tuple #[.int .i64 b, .bool kb]) ∧ Below W.heap.size W w')
    (hct : ct = true) (hF : F ≠ ⟨#[]⟩) (hka : ka = false) : Calls Tryd.prog 19 #[.string s, .int .i64 n] w fun e w' => e = .returned (.tuple #[.agg #[.int .i64 (0), .int .i64 (0)], .bool false]) ∧ Below w.heap.size w w' := by
  have HM := Lib.hid hm
  have HC := Lib.hid hC
  have HA := Lib.hid hA
  have HBB := Lib.hid hB
  subst hct
  subst hka
  have tF := ne_false hF
  have tFb : F.toList.isEmpty = false := by rw [List.isEmpty_eq_false_iff]; exact tF
  have tE : (⟨#[]⟩ : ByteArray).toList = [] := by rw [toL]
  have HW0 : Hid (wrap64 (n - b) = n - b) := Lib.hid (by unfold wrap64; omega)
  have HW1 : Hid (wrap64 (n - 1) = n - 1) := Lib.hid (by unfold wrap64; omega)
  clear hm hC hA hB n0 n1 b0 b1 hF
  go_enter Tryd.func19, Tryd.ntmps19
  go_upto_region 2 with (go_at_call 16; go_loud (refine (HC.out _ (pw_cell_below (below_alloc (Below.refl _ _) _) HM.out)).mono ?_; rintro e_ w1 ⟨rfl, hd⟩; have HB : Hid (Below w.heap.size w w1) := Lib.hid (below_step (below_alloc (Below.refl _ _) _) (Drawn0.mk hd).below); have HR : Hid (w1.heap[w.heap.size]? = some (.cells #[.int .i64 0, .int .i64 0] 31 (0, 0))) := Lib.hid (blk_bel (Drawn0.mk hd).below (heap_alloc_new _ _)); clear hd))
  go_upto_region 3 with (go_at_call 37; refine (HA.out _).mono ?_; rintro e_ w2 ⟨rfl, hb⟩; replace HR := Lib.hid (blk_bel hb HR.out); replace HB := Lib.hid (below_step HB.out hb); clear hb)
  go_upto_region 4 with (go_at_call 37; refine (HBB.out _).mono ?_; rintro e_ w3 ⟨rfl, hb⟩; replace HR := Lib.hid (blk_bel hb HR.out); replace HB := Lib.hid (below_step HB.out hb); clear hb)
  have z0 := c_of HR.out 0 (v := .int .i64 0) rfl
  have z1 := c_of HR.out 1 (v := .int .i64 0) rfl
  have y0 := fr_of HR.out 0
  have y1 := fr_of HR.out 1
  have t0 := HW0.out
  have t1 := HW1.out
  go_wp2
  skip
  have hp := put2 HR.out (.int .i64 (0)) (.int .i64 (0))
  obtain ⟨W4, hW⟩ : ∃ W, W = ((w3.setCell ⟨w.heap.size, 0, none⟩ (.int .i64 (0))).setCell ⟨w.heap.size, 1, none⟩ (.int .i64 (0))) := ⟨_, rfl⟩
  rw [← hW] at hp ⊢
  have hb : Below w.heap.size w W4 := by
    rw [hW]
    repeat (refine Below.setCell ?_ (by simp) _)
    exact HB.out
  exact bodyPost_ret (v := .tuple #[.agg #[.int .i64 (0), .int .i64 (0)], .bool false]) (by simp [results, Tryd.results19, go_sem, c_of hp 0 (v := .int .i64 (0)) rfl, c_of hp 1 (v := .int .i64 (0)) rfl]) rfl ⟨rfl, hb⟩
set_option maxRecDepth 100000 in
set_option maxHeartbeats 2000000 in
theorem part_5 (s F L : ByteArray) (ct ka kb : Bool) (a b n : Int) (w : World) (m : Int) (hm : w.cell? ⟨0, 0, none⟩ = some (.int .i64 m)) (n0 : 0 ≤ n) (n1 : n ≤ 1099511627776) (b0 : 0 ≤ b) (b1 : b < 1000000000000000000)
    (hC : ∀ W, W.cell? ⟨0, 0, none⟩ = some (.int .i64 m) → Calls Tryd.prog 16 #[.string s, .string ⟨#[45]⟩] W fun e w' => e = .returned (.tuple #[.string F, .string L, .bool ct]) ∧ ∃ k, w' = W.drewN k)
    (hA : ∀ W, Calls Tryd.prog 37 #[.string F] W fun e w' => e = .returned (.tuple #[.int .i64 a, .bool ka]) ∧ Below W.heap.size W w')
    (hB : ∀ W, Calls Tryd.prog 37 #[.string L] W fun e w' => e = .returned (.tuple #[.int .i64 b, .bool kb]) ∧ Below W.heap.size W w')
    (hct : ct = true) (hF : F ≠ ⟨#[]⟩) (hka : ka = true) (hL : L ≠ ⟨#[]⟩) (hkb : kb = false) : Calls Tryd.prog 19 #[.string s, .int .i64 n] w fun e w' => e = .returned (.tuple #[.agg #[.int .i64 (0), .int .i64 (0)], .bool false]) ∧ Below w.heap.size w w' := by
  have HM := Lib.hid hm
  have HC := Lib.hid hC
  have HA := Lib.hid hA
  have HBB := Lib.hid hB
  subst hct
  subst hka
  subst hkb
  have tF := ne_false hF
  have tFb : F.toList.isEmpty = false := by rw [List.isEmpty_eq_false_iff]; exact tF
  have tL := ne_false hL
  have tLb : L.toList.isEmpty = false := by rw [List.isEmpty_eq_false_iff]; exact tL
  have tE : (⟨#[]⟩ : ByteArray).toList = [] := by rw [toL]
  have HW0 : Hid (wrap64 (n - b) = n - b) := Lib.hid (by unfold wrap64; omega)
  have HW1 : Hid (wrap64 (n - 1) = n - 1) := Lib.hid (by unfold wrap64; omega)
  clear hm hC hA hB n0 n1 b0 b1 hF hL
  go_enter Tryd.func19, Tryd.ntmps19
  go_upto_region 2 with (go_at_call 16; go_loud (refine (HC.out _ (pw_cell_below (below_alloc (Below.refl _ _) _) HM.out)).mono ?_; rintro e_ w1 ⟨rfl, hd⟩; have HB : Hid (Below w.heap.size w w1) := Lib.hid (below_step (below_alloc (Below.refl _ _) _) (Drawn0.mk hd).below); have HR : Hid (w1.heap[w.heap.size]? = some (.cells #[.int .i64 0, .int .i64 0] 31 (0, 0))) := Lib.hid (blk_bel (Drawn0.mk hd).below (heap_alloc_new _ _)); clear hd))
  go_upto_region 3 with (go_at_call 37; refine (HA.out _).mono ?_; rintro e_ w2 ⟨rfl, hb⟩; replace HR := Lib.hid (blk_bel hb HR.out); replace HB := Lib.hid (below_step HB.out hb); clear hb)
  go_upto_region 4 with (go_at_call 37; refine (HBB.out _).mono ?_; rintro e_ w3 ⟨rfl, hb⟩; replace HR := Lib.hid (blk_bel hb HR.out); replace HB := Lib.hid (below_step HB.out hb); clear hb)
  have z0 := c_of HR.out 0 (v := .int .i64 0) rfl
  have z1 := c_of HR.out 1 (v := .int .i64 0) rfl
  have y0 := fr_of HR.out 0
  have y1 := fr_of HR.out 1
  have t0 := HW0.out
  have t1 := HW1.out
  go_wp2
  skip
  have hp := put2 HR.out (.int .i64 (0)) (.int .i64 (0))
  obtain ⟨W4, hW⟩ : ∃ W, W = ((w3.setCell ⟨w.heap.size, 0, none⟩ (.int .i64 (0))).setCell ⟨w.heap.size, 1, none⟩ (.int .i64 (0))) := ⟨_, rfl⟩
  rw [← hW] at hp ⊢
  have hb : Below w.heap.size w W4 := by
    rw [hW]
    repeat (refine Below.setCell ?_ (by simp) _)
    exact HB.out
  exact bodyPost_ret (v := .tuple #[.agg #[.int .i64 (0), .int .i64 (0)], .bool false]) (by simp [results, Tryd.results19, go_sem, c_of hp 0 (v := .int .i64 (0)) rfl, c_of hp 1 (v := .int .i64 (0)) rfl]) rfl ⟨rfl, hb⟩
set_option maxRecDepth 100000 in
set_option maxHeartbeats 2000000 in
theorem part_6 (s F L : ByteArray) (ct ka kb : Bool) (a b n : Int) (w : World) (m : Int) (hm : w.cell? ⟨0, 0, none⟩ = some (.int .i64 m)) (n0 : 0 ≤ n) (n1 : n ≤ 1099511627776) (b0 : 0 ≤ b) (b1 : b < 1000000000000000000)
    (hC : ∀ W, W.cell? ⟨0, 0, none⟩ = some (.int .i64 m) → Calls Tryd.prog 16 #[.string s, .string ⟨#[45]⟩] W fun e w' => e = .returned (.tuple #[.string F, .string L, .bool ct]) ∧ ∃ k, w' = W.drewN k)
    (hA : ∀ W, Calls Tryd.prog 37 #[.string F] W fun e w' => e = .returned (.tuple #[.int .i64 a, .bool ka]) ∧ Below W.heap.size W w')
    (hB : ∀ W, Calls Tryd.prog 37 #[.string L] W fun e w' => e = .returned (.tuple #[.int .i64 b, .bool kb]) ∧ Below W.heap.size W w')
    (hct : ct = true) (hF : F ≠ ⟨#[]⟩) (hka : ka = true) (hL : L ≠ ⟨#[]⟩) (hkb : kb = true) (hba : b < a) : Calls Tryd.prog 19 #[.string s, .int .i64 n] w fun e w' => e = .returned (.tuple #[.agg #[.int .i64 (0), .int .i64 (0)], .bool false]) ∧ Below w.heap.size w w' := by
  have HM := Lib.hid hm
  have HC := Lib.hid hC
  have HA := Lib.hid hA
  have HBB := Lib.hid hB
  subst hct
  subst hka
  subst hkb
  have tF := ne_false hF
  have tFb : F.toList.isEmpty = false := by rw [List.isEmpty_eq_false_iff]; exact tF
  have tL := ne_false hL
  have tLb : L.toList.isEmpty = false := by rw [List.isEmpty_eq_false_iff]; exact tL
  have tE : (⟨#[]⟩ : ByteArray).toList = [] := by rw [toL]
  have tb : decide (b < a) = true := decide_eq_true hba
  have HW0 : Hid (wrap64 (n - b) = n - b) := Lib.hid (by unfold wrap64; omega)
  have HW1 : Hid (wrap64 (n - 1) = n - 1) := Lib.hid (by unfold wrap64; omega)
  clear hm hC hA hB n0 n1 b0 b1 hF hL hba
  go_enter Tryd.func19, Tryd.ntmps19
  go_upto_region 2 with (go_at_call 16; go_loud (refine (HC.out _ (pw_cell_below (below_alloc (Below.refl _ _) _) HM.out)).mono ?_; rintro e_ w1 ⟨rfl, hd⟩; have HB : Hid (Below w.heap.size w w1) := Lib.hid (below_step (below_alloc (Below.refl _ _) _) (Drawn0.mk hd).below); have HR : Hid (w1.heap[w.heap.size]? = some (.cells #[.int .i64 0, .int .i64 0] 31 (0, 0))) := Lib.hid (blk_bel (Drawn0.mk hd).below (heap_alloc_new _ _)); clear hd))
  go_upto_region 3 with (go_at_call 37; refine (HA.out _).mono ?_; rintro e_ w2 ⟨rfl, hb⟩; replace HR := Lib.hid (blk_bel hb HR.out); replace HB := Lib.hid (below_step HB.out hb); clear hb)
  go_upto_region 4 with (go_at_call 37; refine (HBB.out _).mono ?_; rintro e_ w3 ⟨rfl, hb⟩; replace HR := Lib.hid (blk_bel hb HR.out); replace HB := Lib.hid (below_step HB.out hb); clear hb)
  have z0 := c_of HR.out 0 (v := .int .i64 0) rfl
  have z1 := c_of HR.out 1 (v := .int .i64 0) rfl
  have y0 := fr_of HR.out 0
  have y1 := fr_of HR.out 1
  have t0 := HW0.out
  have t1 := HW1.out
  go_wp2
  skip
  have hp := put2 HR.out (.int .i64 (0)) (.int .i64 (0))
  obtain ⟨W4, hW⟩ : ∃ W, W = ((w3.setCell ⟨w.heap.size, 0, none⟩ (.int .i64 (0))).setCell ⟨w.heap.size, 1, none⟩ (.int .i64 (0))) := ⟨_, rfl⟩
  rw [← hW] at hp ⊢
  have hb : Below w.heap.size w W4 := by
    rw [hW]
    repeat (refine Below.setCell ?_ (by simp) _)
    exact HB.out
  exact bodyPost_ret (v := .tuple #[.agg #[.int .i64 (0), .int .i64 (0)], .bool false]) (by simp [results, Tryd.results19, go_sem, c_of hp 0 (v := .int .i64 (0)) rfl, c_of hp 1 (v := .int .i64 (0)) rfl]) rfl ⟨rfl, hb⟩
set_option maxRecDepth 100000 in
set_option maxHeartbeats 2000000 in
theorem part_7 (s F L : ByteArray) (ct ka kb : Bool) (a b n : Int) (w : World) (m : Int) (hm : w.cell? ⟨0, 0, none⟩ = some (.int .i64 m)) (n0 : 0 ≤ n) (n1 : n ≤ 1099511627776) (b0 : 0 ≤ b) (b1 : b < 1000000000000000000)
    (hC : ∀ W, W.cell? ⟨0, 0, none⟩ = some (.int .i64 m) → Calls Tryd.prog 16 #[.string s, .string ⟨#[45]⟩] W fun e w' => e = .returned (.tuple #[.string F, .string L, .bool ct]) ∧ ∃ k, w' = W.drewN k)
    (hA : ∀ W, Calls Tryd.prog 37 #[.string F] W fun e w' => e = .returned (.tuple #[.int .i64 a, .bool ka]) ∧ Below W.heap.size W w')
    (hB : ∀ W, Calls Tryd.prog 37 #[.string L] W fun e w' => e = .returned (.tuple #[.int .i64 b, .bool kb]) ∧ Below W.heap.size W w')
    (hct : ct = true) (hF : F ≠ ⟨#[]⟩) (hka : ka = true) (hL : L ≠ ⟨#[]⟩) (hkb : kb = true) (hba : ¬ b < a) : Calls Tryd.prog 19 #[.string s, .int .i64 n] w fun e w' => e = .returned (.tuple #[.agg #[.int .i64 (a), .int .i64 (min b (n - 1))], .bool true]) ∧ Below w.heap.size w w' := by
  have HM := Lib.hid hm
  have HC := Lib.hid hC
  have HA := Lib.hid hA
  have HBB := Lib.hid hB
  subst hct
  subst hka
  subst hkb
  have tF := ne_false hF
  have tFb : F.toList.isEmpty = false := by rw [List.isEmpty_eq_false_iff]; exact tF
  have tL := ne_false hL
  have tLb : L.toList.isEmpty = false := by rw [List.isEmpty_eq_false_iff]; exact tL
  have tE : (⟨#[]⟩ : ByteArray).toList = [] := by rw [toL]
  have tb : decide (b < a) = false := decide_eq_false hba
  have HW0 : Hid (wrap64 (n - b) = n - b) := Lib.hid (by unfold wrap64; omega)
  have HW1 : Hid (wrap64 (n - 1) = n - 1) := Lib.hid (by unfold wrap64; omega)
  clear hm hC hA hB n0 n1 b0 b1 hF hL hba
  go_enter Tryd.func19, Tryd.ntmps19
  go_upto_region 2 with (go_at_call 16; go_loud (refine (HC.out _ (pw_cell_below (below_alloc (Below.refl _ _) _) HM.out)).mono ?_; rintro e_ w1 ⟨rfl, hd⟩; have HB : Hid (Below w.heap.size w w1) := Lib.hid (below_step (below_alloc (Below.refl _ _) _) (Drawn0.mk hd).below); have HR : Hid (w1.heap[w.heap.size]? = some (.cells #[.int .i64 0, .int .i64 0] 31 (0, 0))) := Lib.hid (blk_bel (Drawn0.mk hd).below (heap_alloc_new _ _)); clear hd))
  go_upto_region 3 with (go_at_call 37; refine (HA.out _).mono ?_; rintro e_ w2 ⟨rfl, hb⟩; replace HR := Lib.hid (blk_bel hb HR.out); replace HB := Lib.hid (below_step HB.out hb); clear hb)
  go_upto_region 4 with (go_at_call 37; refine (HBB.out _).mono ?_; rintro e_ w3 ⟨rfl, hb⟩; replace HR := Lib.hid (blk_bel hb HR.out); replace HB := Lib.hid (below_step HB.out hb); clear hb)
  have z0 := c_of HR.out 0 (v := .int .i64 0) rfl
  have z1 := c_of HR.out 1 (v := .int .i64 0) rfl
  have y0 := fr_of HR.out 0
  have y1 := fr_of HR.out 1
  have t0 := HW0.out
  have t1 := HW1.out
  go_wp2
  skip
  have hp := put2 HR.out (.int .i64 (a)) (.int .i64 (min b (n - 1)))
  obtain ⟨W4, hW⟩ : ∃ W, W = ((w3.setCell ⟨w.heap.size, 0, none⟩ (.int .i64 (a))).setCell ⟨w.heap.size, 1, none⟩ (.int .i64 (min b (n - 1)))) := ⟨_, rfl⟩
  rw [← hW] at hp ⊢
  have hb : Below w.heap.size w W4 := by
    rw [hW]
    repeat (refine Below.setCell ?_ (by simp) _)
    exact HB.out
  exact bodyPost_ret (v := .tuple #[.agg #[.int .i64 (a), .int .i64 (min b (n - 1))], .bool true]) (by simp [results, Tryd.results19, go_sem, c_of hp 0 (v := .int .i64 (a)) rfl, c_of hp 1 (v := .int .i64 (min b (n - 1))) rfl]) rfl ⟨rfl, hb⟩
set_option maxRecDepth 100000 in
set_option maxHeartbeats 2000000 in
theorem part_8 (s F L : ByteArray) (ct ka kb : Bool) (a b n : Int) (w : World) (m : Int) (hm : w.cell? ⟨0, 0, none⟩ = some (.int .i64 m)) (n0 : 0 ≤ n) (n1 : n ≤ 1099511627776) (b0 : 0 ≤ b) (b1 : b < 1000000000000000000)
    (hC : ∀ W, W.cell? ⟨0, 0, none⟩ = some (.int .i64 m) → Calls Tryd.prog 16 #[.string s, .string ⟨#[45]⟩] W fun e w' => e = .returned (.tuple #[.string F, .string L, .bool ct]) ∧ ∃ k, w' = W.drewN k)
    (hA : ∀ W, Calls Tryd.prog 37 #[.string F] W fun e w' => e = .returned (.tuple #[.int .i64 a, .bool ka]) ∧ Below W.heap.size W w')
    (hB : ∀ W, Calls Tryd.prog 37 #[.string L] W fun e w' => e = .returned (.tuple #[.int .i64 b, .bool kb]) ∧ Below W.heap.size W w')
    (hct : ct = true) (hF : F ≠ ⟨#[]⟩) (hka : ka = true) (hL : L = ⟨#[]⟩) : Calls Tryd.prog 19 #[.string s, .int .i64 n] w fun e w' => e = .returned (.tuple #[.agg #[.int .i64 (a), .int .i64 (min n (n - 1))], .bool true]) ∧ Below w.heap.size w w' := by
  have HM := Lib.hid hm
  have HC := Lib.hid hC
  have HA := Lib.hid hA
  have HBB := Lib.hid hB
  subst hct
  subst hka
  have tF := ne_false hF
  have tFb : F.toList.isEmpty = false := by rw [List.isEmpty_eq_false_iff]; exact tF
  subst hL
  have tE : (⟨#[]⟩ : ByteArray).toList = [] := by rw [toL]
  have HW0 : Hid (wrap64 (n - b) = n - b) := Lib.hid (by unfold wrap64; omega)
  have HW1 : Hid (wrap64 (n - 1) = n - 1) := Lib.hid (by unfold wrap64; omega)
  clear hm hC hA hB n0 n1 b0 b1 hF
  go_enter Tryd.func19, Tryd.ntmps19
  go_upto_region 2 with (go_at_call 16; go_loud (refine (HC.out _ (pw_cell_below (below_alloc (Below.refl _ _) _) HM.out)).mono ?_; rintro e_ w1 ⟨rfl, hd⟩; have HB : Hid (Below w.heap.size w w1) := Lib.hid (below_step (below_alloc (Below.refl _ _) _) (Drawn0.mk hd).below); have HR : Hid (w1.heap[w.heap.size]? = some (.cells #[.int .i64 0, .int .i64 0] 31 (0, 0))) := Lib.hid (blk_bel (Drawn0.mk hd).below (heap_alloc_new _ _)); clear hd))
  go_upto_region 3 with (go_at_call 37; refine (HA.out _).mono ?_; rintro e_ w2 ⟨rfl, hb⟩; replace HR := Lib.hid (blk_bel hb HR.out); replace HB := Lib.hid (below_step HB.out hb); clear hb)
  go_upto_region 4 with (go_at_call 37; refine (HBB.out _).mono ?_; rintro e_ w3 ⟨rfl, hb⟩; replace HR := Lib.hid (blk_bel hb HR.out); replace HB := Lib.hid (below_step HB.out hb); clear hb)
  have z0 := c_of HR.out 0 (v := .int .i64 0) rfl
  have z1 := c_of HR.out 1 (v := .int .i64 0) rfl
  have y0 := fr_of HR.out 0
  have y1 := fr_of HR.out 1
  have t0 := HW0.out
  have t1 := HW1.out
  go_wp2
  skip
  have hp := put2 HR.out (.int .i64 (a)) (.int .i64 (min n (n - 1)))
  obtain ⟨W4, hW⟩ : ∃ W, W = ((w3.setCell ⟨w.heap.size, 0, none⟩ (.int .i64 (a))).setCell ⟨w.heap.size, 1, none⟩ (.int .i64 (min n (n - 1)))) := ⟨_, rfl⟩
  rw [← hW] at hp ⊢
  have hb : Below w.heap.size w W4 := by
    rw [hW]
    repeat (refine Below.setCell ?_ (by simp) _)
    exact HB.out
  exact bodyPost_ret (v := .tuple #[.agg #[.int .i64 (a), .int .i64 (min n (n - 1))], .bool true]) (by simp [results, Tryd.results19, go_sem, c_of hp 0 (v := .int .i64 (a)) rfl, c_of hp 1 (v := .int .i64 (min n (n - 1))) rfl]) rfl ⟨rfl, hb⟩
theorem mk_ne {l : List UInt8} (h : l ≠ []) : (⟨l.toArray⟩ : ByteArray) ≠ ⟨#[]⟩ := fun e => h (by have e := congrArg (·.data.toList) e; simpa using e)
theorem cut_len (l : List UInt8) (c : List UInt8) : (Lib.cut l c).1.length ≤ l.length ∧ (Lib.cut l c).2.1.length ≤ l.length := by
  unfold Lib.cut
  split
  · exact ⟨by simp only [List.length_take]; omega, by simp only [List.length_drop]; omega⟩
  · exact ⟨Nat.le_refl _, by simp⟩
theorem part_q (s : ByteArray) (n : Int) (w : World) (m : Int) (hm : w.cell? ⟨0, 0, none⟩ = some (.int .i64 m)) (hs : s.size < 4294967281) (n0 : 0 ≤ n) (n1 : n ≤ 1099511627776) :
    Calls Tryd.prog 19 #[.string s, .int .i64 n] w fun e w' => e = .returned (.tuple #[.agg #[.int .i64 (partV s.data.toList n).1, .int .i64 (partV s.data.toList n).2.1], .bool (partV s.data.toList n).2.2]) ∧ Below w.heap.size w w' := by
  have hsz : s.data.toList.length = s.size := by simp
  have hC : ∀ W : World, W.cell? ⟨0, 0, none⟩ = some (.int .i64 m) → _ := fun W h => Tryd.strings_Cut s ⟨#[45]⟩ m W hs h
  have hl := cut_len s.data.toList [45]
  obtain ⟨c, hc⟩ : ∃ c, c = Lib.cut s.data.toList [45] := ⟨_, rfl⟩
  rw [show (⟨#[45]⟩ : ByteArray).data.toList = [45] from rfl, ← hc] at hC
  unfold partV
  rw [← hc] at hl ⊢
  obtain ⟨F, L, ct⟩ := c
  simp only at hl
  have hA := number_q ⟨F.toArray⟩ (by show F.toArray.size ≤ _; have := hl.1; simp only [List.size_toArray]; omega)
  have hB := number_q ⟨L.toArray⟩ (by show L.toArray.size ≤ _; have := hl.2; simp only [List.size_toArray]; omega)
  rw [show (⟨F.toArray⟩ : ByteArray).data.toList = F by simp] at hA
  rw [show (⟨L.toArray⟩ : ByteArray).data.toList = L by simp] at hB
  obtain ⟨b0, b1⟩ := numV_bounds L
  obtain ⟨⟨a, ka⟩, ha⟩ : ∃ x, x = numV F := ⟨_, rfl⟩
  obtain ⟨⟨b, kb⟩, hb⟩ : ∃ x, x = numV L := ⟨_, rfl⟩
  rw [← hb] at hB b0 b1
  rw [← ha] at hA
  simp only at hC ⊢
  rw [← ha, ← hb]
  simp only at hA hB b0 b1 ⊢
  cases ct with
  | false => rw [if_pos (.inl rfl)]; exact part_1 s _ _ _ ka kb a b n w m hm n0 n1 b0 b1 hC hA hB rfl
  | true =>
    by_cases hF : F = []
    · subst hF
      cases kb with
      | false => rw [if_pos (.inr ⟨rfl, rfl⟩)]; exact part_2 s _ _ _ ka _ a b n w m hm n0 n1 b0 b1 hC hA hB rfl rfl rfl
      | true => rw [if_neg (by simp), if_pos rfl]; exact part_3 s _ _ _ ka _ a b n w m hm n0 n1 b0 b1 hC hA hB rfl rfl rfl
    · rw [if_neg (by simp [hF]), if_neg hF]
      have hF' := mk_ne hF
      cases ka with
      | false => rw [if_pos (.inl rfl)]; exact part_4 s _ _ _ _ kb a b n w m hm n0 n1 b0 b1 hC hA hB rfl hF' rfl
      | true =>
        by_cases hL : L = []
        · subst hL
          rw [if_neg (by simp), if_pos rfl]
          exact part_8 s _ _ _ _ kb a b n w m hm n0 n1 b0 b1 hC hA hB rfl hF' rfl rfl
        · have hL' := mk_ne hL
          cases kb with
          | false => rw [if_pos (.inr ⟨hL, .inl rfl⟩)]; exact part_5 s _ _ _ _ _ a b n w m hm n0 n1 b0 b1 hC hA hB rfl hF' rfl hL' rfl
          | true =>
            by_cases hba : b < a
            · rw [if_pos (.inr ⟨hL, .inr hba⟩)]; exact part_6 s _ _ _ _ _ a b n w m hm n0 n1 b0 b1 hC hA hB rfl hF' rfl hL' rfl hba
            · rw [if_neg (by simp [hba]), if_neg hL]; exact part_7 s _ _ _ _ _ a b n w m hm n0 n1 b0 b1 hC hA hB rfl hF' rfl hL' rfl hba
end Go.Proofs.YtipmnfidkoaojaaDoor.Fb

