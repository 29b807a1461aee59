import Derived.Test.YtgcefofmfeghmaaGx0
import Derived.Test.YtgcefofmfeghmaaHsA
import Derived.Deep.QuietTactic
import Derived.BigQuiet
import Derived.Deep.LoopGhost
/- huff.order: the symbols that have words, by the words' lengths. -/
namespace Go.Proofs.Ytgcefofmfeghmaa.St
open Go.Shelf Go.RowKit Go.Lib Go.Sort Go.Proofs.YtgcefofmfeghmaaW.PrintWords Go.Proofs.YtgcefofmfeghmaaW.PrintLast Go.Proofs.YtgcefofmfeghmaaW.PrintMore Go.Proofs.Ytgcefofmfeghmaa.G
set_option linter.unusedVariables false
set_option linter.unusedSimpArgs false

/-- the places below j of what is above 0 -/
def pos (l : List Int) (j : Nat) : List Int := ((List.range j).filter (fun i : Nat => decide (0 < rd l (i : Int)))).map Int.ofNat
theorem pos_succ (l : List Int) (j : Nat) : pos l (j + 1) = if 0 < rd l (j : Int) then pos l j ++ [(j : Int)] else pos l j := by
  unfold pos
  rw [List.range_succ, List.filter_append]
  by_cases h : 0 < rd l (j : Int)
  · simp [h]
  · simp [h]
theorem pos_len (l : List Int) (j : Nat) : (pos l j).length ≤ j := by
  unfold pos
  rw [List.length_map]
  exact Nat.le_trans (List.length_filter_le _ _) (by simp)
theorem pos_mem (l : List Int) (j : Nat) (x : Int) : x ∈ pos l j ↔ 0 ≤ x ∧ x < j ∧ 0 < rd l x := by
  unfold pos
  simp only [List.mem_map, List.mem_filter, List.mem_range, decide_eq_true_eq]
  constructor
  · rintro ⟨i, ⟨h1, h2⟩, rfl⟩
    exact ⟨Int.natCast_nonneg i, by show (i : Int) < j; omega, h2⟩
  · rintro ⟨h1, h2, h3⟩
    refine ⟨x.toNat, ⟨by omega, ?_⟩, Int.toNat_of_nonneg h1⟩
    rw [Int.toNat_of_nonneg h1]
    exact h3
theorem pos_asc (l : List Int) : ∀ j, (pos l j).Pairwise (· < ·)
  | 0 => by simp [pos]
  | j + 1 => by
    rw [pos_succ]
    split
    · rw [List.pairwise_append]
      refine ⟨pos_asc l j, by simp, fun a ha b hb => ?_⟩
      simp only [List.mem_singleton] at hb
      subst hb
      exact ((pos_mem l j a).1 ha).2.1
    · exact pos_asc l j

/-- a place of l, whatever x is -/
def clampN (l : List Int) (x : Int) : Int := if 0 ≤ x ∧ x < l.length then x else 0
def keyN (l : List Int) (x : Int) : Int := rd l (clampN l x)
def encN (l : List Int) (x : Int) : Value := .int .i64 (clampN l x)
/-- the symbols in their order -/
def ordered (l : List Int) : List Int := (pos l l.length).mergeSort (fun x y => !ltX (keyN l) y x)

theorem less_calls (w : World) (l : List Int) (A : Option Addr) (c : Nat) (B1 B3 blk : Nat) (vn vc : Nat) (hl0 : 0 < l.length) (hC : Kd.C (Kd.int .i64) w A l.length l) (hh1 : w.heap[B1]? = some (.cells #[.slice A l.length c] 22 (0, 0))) (hh3 : w.heap[B3]? = some (.cells #[.slice (some ⟨blk, 0, none⟩) vn vc] 22 (0, 0)))
    (dk : Array Int) (hdk : dk.size = vn) (hrow : ∀ k, k < vn → w.cell? ⟨blk, k, none⟩ = some (encN l dk[k]!)) (i j : Nat) (hi : i < vn) (hj : j < vn) :
    Calls Try.prog 32 #[.int .i64 (i : Int), .int .i64 (j : Int), .pointer (some ⟨B1, 0, none⟩), .pointer (some ⟨B3, 0, none⟩)] w fun e w' => e = .returned (.bool (ltK (keyN l) dk[i]! dk[j]!)) ∧ ∃ q, w' = w.drewN q := by
  have c1 : w.cell? ⟨B1, 0, none⟩ = some (.slice A l.length c) := by simp [World.cell?, hh1]
  have c3 : w.cell? ⟨B3, 0, none⟩ = some (.slice (some ⟨blk, 0, none⟩) vn vc) := by simp [World.cell?, hh3]
  have ri := hrow i hi
  have rj := hrow j hj
  have bd : ∀ x, 0 ≤ clampN l x ∧ clampN l x < l.length := fun x => by unfold clampN; split <;> omega
  obtain ⟨bi1, bi2⟩ := bd dk[i]!
  obtain ⟨bj1, bj2⟩ := bd dk[j]!
  obtain ⟨ad, rfl, hxi⟩ := Kd.at_int hC (clampN l dk[i]!) bi1 bi2
  obtain ⟨ad', e', hxj⟩ := Kd.at_int hC (clampN l dk[j]!) bj1 bj2
  cases e'
  unfold encN at ri rj
  obtain ⟨xi, hxi'⟩ : ∃ xi, xi = clampN l dk[i]! := ⟨_, rfl⟩
  obtain ⟨xj, hxj'⟩ : ∃ xj, xj = clampN l dk[j]! := ⟨_, rfl⟩
  have K : Hid (ltK (keyN l) dk[i]! dk[j]! = decide (rd l xi < rd l xj)) := Lib.hid (by rw [hxi', hxj']; rfl)
  rw [← hxi'] at ri hxi bi1 bi2
  rw [← hxj'] at rj hxj bj1 bj2
  clear hxi' hxj' hh1 hh3 hC hrow bd hdk
  have t1 : (i : Int) < (vn : Int) := by omega
  have t2 : (j : Int) < (vn : Int) := by omega
  rw [K.out]
  go_enter Try.func32, Try.ntmps32
  go_wp2
  go_quiet (fail)
  go_wp2
  go_ret
  exact ⟨rfl, ⟨_, rfl⟩⟩

theorem asc_pos (l : List Int) : Asc (pos l l.length).toArray := by
  intro i j hij hj
  have h := List.pairwise_iff_getElem.1 (pos_asc l l.length)
  have hj' : j < (pos l l.length).length := by simpa using hj
  have := h i j (by omega) hj' hij
  have e : ∀ k, (hk : k < (pos l l.length).length) → (pos l l.length).toArray[k]! = (pos l l.length)[k] := fun k hk => by
    rw [getElem!_pos _ _ (by simpa using hk)]
    simp
  rw [e i (by omega), e j hj']
  exact this

/-- the row that sorting leaves is the ordered one -/
theorem sorted_is (l : List Int) (d' : Array Int) (hp : PermIn 0 (pos l l.length).toArray.size (pos l l.length).toArray d') (hs : Sorted (keyN l) 0 (pos l l.length).toArray.size d') : d'.toList = ordered l := by
  have h := sorted_unique_holds (lt := ltX (keyN l)) (swo_ltX _) (fun x y h1 h2 => by
    simp only [ltX, decide_eq_false_iff_not] at h1 h2
    omega) (pos l l.length).toArray d' hp (fun i j a1 a2 a3 => by
    have := hs i j a1 a2 a3
    unfold le at this
    simp only [ltX, decide_eq_false_iff_not]
    omega)
  rw [h]
  rfl

theorem clamp_pos (l : List Int) (x : Int) (h : x ∈ pos l l.length) : clampN l x = x := by
  have := (pos_mem l _ x).1 h
  unfold clampN
  rw [if_pos (by omega)]

theorem ordered_perm (l : List Int) : (ordered l).Perm (pos l l.length) := List.mergeSort_perm _ _

theorem heap_putRow_other (enc : Int → Value) (w : World) (blk off : Nat) (d : Array Int) (b : Nat) (h : b ≠ blk) : (putRow enc w blk off d).heap[b]? = w.heap[b]? := by
  unfold putRow mapBlock
  simp only [Array.getElem?_modify]
  rw [if_neg (fun e => h e.symm)]
theorem sort_heap (enc : Int → Value) (w : World) (blk off m : Nat) (dk : Array Int) (os : Array Obj) (b : Nat) (h1 : b ≠ blk) (h2 : b < w.heap.size) : (sortWorld enc w blk off m dk os).heap[b]? = w.heap[b]? := by
  unfold sortWorld
  rw [heap_grow_old _ _ (by rw [size_putRow]; exact h2), heap_putRow_other _ _ _ _ _ _ h1]
  rfl
theorem below_sort {B : Nat} {w wr : World} (enc : Int → Value) {blk off m : Nat} {dk : Array Int} {os : Array Obj} (h : Below B w wr) (hB : B ≤ blk) (hb : B ≤ wr.heap.size) : Below B w (sortWorld enc wr blk off m dk os) :=
  ⟨h.os, h.tape, h.output, by unfold sortWorld; rw [size_grow, size_putRow]; have := h.size; show w.heap.size ≤ wr.heap.size + _; omega,
    fun k hk => (sort_heap enc wr blk off m dk os k (by omega) (by omega)).trans (h.block k hk)⟩

theorem rd_toArray (l : List Int) (k : Nat) (hk : k < l.length) : l.toArray[k]! = rd l (k : Int) ∧ l.toArray[k]! ∈ l := by
  rw [getElem!_pos l.toArray k (by simpa using hk)]
  simp only [List.getElem_toArray, rd, Int.toNat_natCast]
  refine ⟨?_, List.getElem_mem _⟩
  simp [List.getD, hk]
end Go.Proofs.Ytgcefofmfeghmaa.St
namespace Go.Proofs.Ytgcefofmfeghmaa.St
open Go.Shelf Go.RowKit Go.Lib Go.Sort Go.Proofs.YtgcefofmfeghmaaW.PrintWords Go.Proofs.YtgcefofmfeghmaaW.PrintLast Go.Proofs.YtgcefofmfeghmaaW.PrintMore Go.Proofs.Ytgcefofmfeghmaa.G
set_option linter.unusedVariables false
set_option linter.unusedSimpArgs false

theorem info3 : (Try.prog.info? 3).map (fun i => (i.zero, i.size, i.bytes)) = some (some (.int .i64 0), 1, 8) := by kernel_rfl
theorem cell1 {w : World} {g : Nat} {v : Value} {t : Nat} {m : Nat × Nat} (h : w.heap[g]? = some (.cells #[v] t m)) : w.cell? ⟨g, 0, none⟩ = some v := by simp [World.cell?, h]
theorem frz1 {w : World} {g : Nat} {v : Value} {t : Nat} (h : w.heap[g]? = some (.cells #[v] t (0, 0))) : w.frozen? ⟨g, 0, none⟩ = false := blk_frozen h 0
theorem blt {w : World} {g : Nat} {o : Obj} (h : w.heap[g]? = some o) : g < w.heap.size := (Array.getElem?_eq_some_iff.1 h).1
theorem set1 {w : World} {g : Nat} {v u : Value} {t : Nat} (h : w.heap[g]? = some (.cells #[v] t (0, 0))) : (w.setCell ⟨g, 0, none⟩ u).heap[g]? = some (.cells #[u] t (0, 0)) := blk_put h 0 u rfl

theorem own_sorted (l : List Int) (wr : World) (base blk vc m : Nat) (d' D : Array Int) (os : Array Obj) (hblk : blk < wr.heap.size) (h : Kd.R (Kd.int .i64) 3 wr base (fun _ => True) (.slice (some ⟨blk, 0, none⟩) (pos l l.length).length vc) (pos l l.length)) (hn : 0 < (pos l l.length).length)
    (hH : Holds (encN l) wr blk 0 D) (hs : d'.size = D.size) (hd : d'.toList = ordered l) : Kd.R (Kd.int .i64) 3 (sortWorld (encN l) wr blk 0 m d' os) base (fun _ => True) (.slice (some ⟨blk, 0, none⟩) (pos l l.length).length vc) (ordered l) := by
  obtain ⟨-, h2⟩ := Kd.own_of_R h
  rcases h2 with ⟨h2, -⟩ | ⟨g, cap, cur, hv, hg, hh, hn1, hc, hsz, htk⟩
  · cases h2
  injection hv with hv1 hv2 hv3
  injection hv1 with hv1
  injection hv1 with hv1
  subst hv1 hv3
  have hlen : (ordered l).length = (pos l l.length).length := (ordered_perm l).length_eq
  have hdl : d'.size = (ordered l).length := by rw [← hd]; simp
  have hHS := holds_sortWorld (encN l) wr blk 0 m D d' os hblk hH hs
  have hheap : (sortWorld (encN l) wr blk 0 m d' os).heap[blk]? = some (.cells (putCells (encN l) 0 d' cur) 3 (0, 0)) := by
    unfold sortWorld
    rw [heap_grow_old _ _ (by rw [size_putRow]; exact hblk)]
    unfold putRow mapBlock
    simp only [Array.getElem?_modify, if_true]
    show (wr.heap[blk]?).map _ = _
    rw [hh]
    rfl
  have hsize : (putCells (encN l) 0 d' cur).size = cur.size := by simp [putCells]
  rw [← hlen]
  refine Kd.R_of_own ⟨by simp [encs], .inr ⟨blk, vc, _, rfl, hg, hheap, by omega, hc, by rw [hsize, hsz], ?_⟩⟩ (fun _ _ => trivial)
  apply List.ext_getElem?
  intro j
  rcases Nat.lt_or_ge j (ordered l).length with hj | hj
  · have hcell := (hHS j (by omega)).1
    rw [Nat.zero_add] at hcell
    simp only [World.cell?, hheap] at hcell
    rw [Nat.mul_one, List.getElem?_take_of_lt hj, Array.getElem?_toList]
    rw [show (putCells (encN l) 0 d' cur)[j]? = some (encN l d'[j]!) from by simpa using hcell]
    have e1 : d'[j]! = (ordered l)[j] := by
      rw [getElem!_pos d' j (by omega)]
      have : d'.toList[j]'(by simpa using (show j < d'.size by omega)) = (ordered l)[j] := by simp only [hd]
      simpa using this
    have e2 : clampN l d'[j]! = d'[j]! := clamp_pos l _ ((ordered_perm l).mem_iff.1 (by rw [e1]; exact List.getElem_mem _))
    unfold encN encs
    rw [e2, e1, List.getElem?_map, List.getElem?_eq_getElem hj]
    rfl
  · rw [List.getElem?_eq_none (by simp; omega), List.getElem?_eq_none (by simp [encs]; omega)]

set_option maxHeartbeats 4000000 in
theorem order_loop (A0 : Option Addr) (c0 : Nat) (l0 : List Int) (w : World) (hr0 : Kd.C (Kd.int .i64) w A0 l0.length l0) (hc0 : l0.length ≤ c0) (hlen : l0.length ≤ 256) :
    Calls Try.prog 27 #[.slice A0 l0.length c0] w fun e w' => ∃ v0_ : Value, e = .returned v0_ ∧ Kd.R (Kd.int .i64) 3 w' w.heap.size (fun _ => True) v0_ (ordered l0) ∧ Below w.heap.size w w' := by
  have HC := Lib.hid hr0
  have hcl := hc0
  clear hr0 hc0
  go_enter Try.func27, Try.ntmps27
  go_wp2
  obtain ⟨W1, hW1⟩ : ∃ W1, W1 = (w.alloc (.cells #[.slice A0 l0.length c0] 22)).alloc (.cells #[.slice none 0 0] 22) := ⟨_, rfl⟩
  have BA : Hid (W1.heap[w.heap.size]? = some (.cells #[.slice A0 l0.length c0] 22 (0, 0))) := Lib.hid (by rw [hW1]; exact ((below_alloc (Below.refl (w.alloc (.cells #[.slice A0 l0.length c0] 22)).heap.size _) _).block _ (by simp)).trans (heap_alloc_new w _))
  have BL : Hid (W1.heap[w.heap.size + 1]? = some (.cells #[.slice none 0 0] 22 (0, 0))) := Lib.hid (by rw [hW1]; have := heap_alloc_new (w.alloc (.cells #[.slice A0 l0.length c0] 22)) (.cells #[.slice none 0 0] 22); rwa [World.size_alloc] at this)
  have HB : Hid (Below w.heap.size w W1) := Lib.hid (by rw [hW1]; exact below_alloc (below_alloc (Below.refl _ _) _) _)
  have hz1 : W1.heap.size = w.heap.size + 2 := by rw [hW1]; simp
  rw [← hW1]
  clear hW1
  go_loopg [4, 5, 8] l0.length (fun k v4 v5 v8 wr => ∃ (j : Nat), v8 = .int .i64 (j : Int) ∧ j ≤ l0.length ∧ l0.length ≤ k + j ∧ w.heap.size + 2 ≤ wr.heap.size ∧ Hid (wr.heap[w.heap.size]? = some (.cells #[.slice A0 l0.length c0] 22 (0, 0))) ∧ Hid (Below w.heap.size w wr) ∧ Hid (∃ v, wr.heap[w.heap.size + 1]? = some (.cells #[v] 22 (0, 0)) ∧ Kd.R (Kd.int .i64) 3 wr (w.heap.size + 2) (fun _ => True) v (pos l0 j)))
  case atStart => exact ⟨0, rfl, by omega, by omega, by omega, BA, HB, Lib.hid ⟨_, BL.out, Kd.R_nil _ _ _ _ _⟩⟩
  case round =>
    obtain ⟨j, rfl, hj, hk, hwz, HA, HBW, HV⟩ := hrel
    obtain ⟨v, hv1, hv2⟩ := HV.out
    have HV1 := Lib.hid hv1
    have HV2 := Lib.hid hv2
    have c3 := cell1 hv1
    have z3 := frz1 hv1
    have hl3 := blt hv1
    clear hv1 hv2 HV
    by_cases hlt : j < l0.length
    · obtain ⟨ad, rfl, hx⟩ := Kd.at_int (Kd.C_below HC.out HBW.out) (j : Int) (by omega) (by omega)
      rw [Int.toNat_natCast] at hx
      have hadl := World.block_lt_of_cell? wr _ hx
      have t1 : decide ((j : Int) < (l0.length : Int)) = true := decide_eq_true (by omega)
      have p1 : 0 ≤ (j : Int) := by omega
      have p2 : (j : Int) < (l0.length : Int) := by omega
      obtain ⟨ko, rfl⟩ : ∃ ko, gk = ko + 1 := ⟨gk - 1, by omega⟩
      have HPS := Lib.hid (pos_succ l0 j)
      have hpl := pos_len l0 j
      by_cases hx0 : 0 < rd l0 (j : Int)
      · have t2 : decide (0 < rd l0 (j : Int)) = true := decide_eq_true hx0
        have HX0 := Lib.hid hx0
        clear hx0
        go_wp2_with (first | (at_builtin; refine Kd.R_append (Kd.int .i64) (w0 := wr) (w.heap.size + 2) rfl (.tmp 15) (.tmp 17) 22 3 (.int .i64 0) 8 rfl Try.underlying22 info3 rfl (by decide) (by decide) v (pos l0 j) (j : Int) [.int .i64 (j : Int)] (fun _ => True) (fun _ => False) rfl rfl ?aP (fun _ hk => hk.elim) ?aF ?aO ?aB ?aS ?aL ?_))
        case aP => exact rfl
        case aF => exact fun _ _ => trivial
        case aO => exact HV2.out
        case aB => exact Below.refl _ _
        case aS => exact hwz
        case aL => omega
        intro v1 w1 hR hB hg hat
        obtain ⟨A1, c1', rfl⟩ := Kd.R_slice hR
        rw [show (pos l0 j ++ [(j : Int)]).length = (pos l0 j).length + 1 by simp] at hR
        have HR1 := Lib.hid hR
        have HB1 := Lib.hid hB
        have HG1 := Lib.hid hg
        have hz2 := hg.size
        have HV1' := Lib.hid ((hB.block (w.heap.size + 1) (by omega)).trans HV1.out)
        have HA' := Lib.hid ((hB.block w.heap.size (by omega)).trans HA.out)
        have z3' := frz1 HV1'.out
        have c3' := cell1 HV1'.out
        have hl3' := blt HV1'.out
        clear hR hB hg hat
        go_wp2
        have hz4 : ∀ u, (w1.setCell ⟨w.heap.size + 1, 0, none⟩ u).heap.size = w1.heap.size := fun u => by simp [World.setCell]
        go_roundg ko
        case measure => omega
        case rel => exact ⟨j + 1, by go_num, hlt, by omega, by rw [hz4]; omega, Lib.hid (by rw [Below.heap_setCell _ _ _ _ (by show w.heap.size ≠ w.heap.size + 1; omega)]; exact HA'.out), Lib.hid ((Below.trans HBW.out (HB1.out.mono (by omega))).setCell (p := ⟨w.heap.size + 1, 0, none⟩) (by simp) _), Lib.hid ⟨_, set1 HV1'.out, by
            rw [HPS.out, if_pos HX0.out]
            exact Kd.R_mono (Kd.R_far (p := ⟨w.heap.size + 1, 0, none⟩) (Kd.R_bound HR1.out) (fun k hk => by have := hk.2.1; show k ≠ w.heap.size + 1; omega) _) (fun _ _ => trivial)⟩⟩
      · have t2 : decide (0 < rd l0 (j : Int)) = false := decide_eq_false hx0
        have HX0 := Lib.hid hx0
        clear hx0
        go_wp2
        go_roundg ko
        case measure => omega
        case rel => exact ⟨j + 1, by go_num, hlt, by omega, hwz, HA, HBW, Lib.hid ⟨v, HV1.out, by rw [HPS.out, if_neg (by have := HX0.out; omega)]; exact HV2.out⟩⟩
    · have t1 : decide ((j : Int) < (l0.length : Int)) = false := decide_eq_false (by omega)
      obtain rfl : l0.length = j := by omega
      have hz := HBW.out.size
      by_cases hn : pos l0 l0.length = []
      · have hord : ordered l0 = [] := by unfold ordered; rw [hn]; simp
        have HORD := Lib.hid hord
        obtain ⟨A1, c1, hv0, hv0', hvc⟩ := Kd.R_reads HV2.out
        rw [hn] at hv0 hv0' hvc
        have hv2 := HV2.out
        rw [hn] at hv2
        subst hv0
        have HV2' := Lib.hid hv2
        have HN := Lib.hid hn
        clear hord hv2 hn hvc
        go_wp2_with (first | (go_at_call 31; refine (ss_nil _ _ _ _ _ _).mono ?_; rintro e w2 ⟨rfl, hb2⟩; have HB2 := Lib.hid hb2; have c3' := cell1 ((hb2.block _ (blt HV1.out)).trans HV1.out); clear hb2))
        go_ret
        refine ⟨_, rfl, ?_, below_step HBW.out HB2.out⟩
        rw [HORD.out]
        exact Kd.R_below (Kd.R_lower HV2'.out (by omega)) HB2.out
      · have hpos : 0 < (pos l0 l0.length).length := List.length_pos_iff.2 hn
        have hpl := pos_len l0 l0.length
        obtain ⟨blk, vc, hv0, hb1, hb2, cells, hcells⟩ := Kd.R_form HV2.out hpos
        have hv2 := HV2.out
        have hv1 := HV1.out
        subst hv0
        obtain ⟨D, hD⟩ : ∃ D, D = (pos l0 l0.length).toArray := ⟨_, rfl⟩
        have hds : D.size = (pos l0 l0.length).length := by rw [hD]; simp
        have hDi : ∀ k, k < D.size → D[k]! = rd (pos l0 l0.length) (k : Int) ∧ D[k]! ∈ pos l0 l0.length := fun k hk => by
          rw [hD]
          exact rd_toArray _ k (by omega)
        have hH : Holds (encN l0) wr blk 0 D := fun k hk => by
          obtain ⟨q1, q2⟩ := Kd.R_cell (0 : Int) hv2 (k : Int) (by omega) (by omega)
          rw [Int.toNat_natCast] at q1 q2
          obtain ⟨e1, e2⟩ := hDi k hk
          refine ⟨?_, by rw [Nat.zero_add]; exact q2⟩
          rw [Nat.zero_add, q1]
          unfold encN
          rw [clamp_pos l0 _ e2, e1]
          rfl
        have hlr : LessReads Try.prog 32 #[.pointer (some ⟨w.heap.size, 0, none⟩), .pointer (some ⟨w.heap.size + 1, 0, none⟩)] (encN l0) (ltK (keyN l0)) blk 0 D.size wr := by
          intro m os dk hs i j hi hj
          exact less_calls _ l0 A0 c0 _ _ blk D.size vc (by omega) (Kd.C_below HC.out (below_sort _ HBW.out (by omega) hz)) ((sort_heap _ _ _ _ _ _ _ _ (by omega) (by omega)).trans HA.out) ((sort_heap _ _ _ _ _ _ _ _ (by omega) (by omega)).trans (by rw [hds]; exact hv1)) dk hs (fun k hk => by
            have := (holds_sortWorld (encN l0) wr blk 0 m D dk os (by omega) hH hs) k (by omega)
            simpa using this.1) i j hi hj
        have HSS := Lib.hid (ss_calls (fun _ => rfl) (keyN l0) 32 #[.pointer (some ⟨w.heap.size, 0, none⟩), .pointer (some ⟨w.heap.size + 1, 0, none⟩)] wr blk 0 vc D hH (by omega) (enters_of Try.func32 (by kernel_rfl) rfl) hlr (by omega) (by omega) (by rw [hD]; exact asc_pos l0))
        rw [hds] at HSS
        have FIN : Hid (∀ d', PermIn 0 D.size D d' → Sorted (keyN l0) 0 D.size d' → d'.toList = ordered l0) := Lib.hid (fun d' q1 q2 => sorted_is l0 d' (by rw [hD] at q1; exact q1) (by rw [hD] at q2; exact q2))
        have RES : Hid (∀ d' w', SW (encN l0) wr blk 0 d' w' → d'.toList = ordered l0 → w'.heap[w.heap.size + 1]? = some (.cells #[.slice (some ⟨blk, 0, none⟩) (pos l0 l0.length).length vc] 22 (0, 0)) ∧ Kd.R (Kd.int .i64) 3 w' w.heap.size (fun _ => True) (.slice (some ⟨blk, 0, none⟩) (pos l0 l0.length).length vc) (ordered l0) ∧ Below w.heap.size w w') := Lib.hid (fun d' w' hsw hd' => by
          obtain ⟨m, os, rfl⟩ := hsw
          refine ⟨(sort_heap _ _ _ _ _ _ _ _ (by omega) (by omega)).trans hv1, Kd.R_lower (own_sorted l0 wr _ blk vc m d' D os (by omega) hv2 hpos hH (by
            have h1 : d'.toList.length = (ordered l0).length := by rw [hd']
            rw [Array.length_toList, (ordered_perm l0).length_eq] at h1
            omega) hd') (by omega), below_sort _ HBW.out (by omega) hz⟩)
        clear hH hlr hDi hv2 hcells
        go_wp2_with (first | (go_at_call 31; refine HSS.out.mono ?_; rintro e w2 ⟨rfl, d', hsw, hp, hs⟩; have RS := Lib.hid (RES.out d' w2 hsw (FIN.out d' (by rw [hds]; exact hp) (by rw [hds]; exact hs))); have c3' := cell1 RS.out.1; clear hsw hp hs))
        go_ret
        exact ⟨_, rfl, RS.out.2.1, RS.out.2.2⟩
end Go.Proofs.Ytgcefofmfeghmaa.St
/- huff.order's contract, for its callers. -/
namespace Go.Proofs.Ytgcefofmfeghmaa.Pl
open Go.RowKit Go.Proofs.YtgcefofmfeghmaaW.PrintWords Go.Proofs.YtgcefofmfeghmaaW.PrintLast Go.Proofs.YtgcefofmfeghmaaW.PrintMore Go.Proofs.Ytgcefofmfeghmaa.G

def order.f (l0 : List Int) : Option (List Int) := if l0.length ≤ 256 then some (St.ordered l0) else none
theorem order.calls (A0 : Option Addr) (c0 : Nat) (l0 : List Int) (r : List Int) (w : World) (hr0 : Kd.C (Kd.int .i64) w A0 l0.length l0) (hc0 : l0.length ≤ c0) (h : order.f l0 = some r) :
    Calls Try.prog 27 #[.slice A0 l0.length c0] w fun e w' => ∃ v0_ : Value, e = .returned v0_ ∧ Kd.R (Kd.int .i64) 3 w' w.heap.size (fun _ => True) v0_ r ∧ Below w.heap.size w w' := by
  unfold order.f at h
  split at h
  · cases h
    exact St.order_loop A0 c0 l0 w hr0 hc0 (by assumption)
  · cases h
end Go.Proofs.Ytgcefofmfeghmaa.Pl
