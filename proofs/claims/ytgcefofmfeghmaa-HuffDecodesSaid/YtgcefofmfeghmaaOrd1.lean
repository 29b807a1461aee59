import Derived.Test.YtgcefofmfeghmaaGx0
import Derived.Test.YtgcefofmfeghmaaHs9
import Derived.Deep.QuietTactic
import Derived.BigQuiet
/- huff.order: the symbols that have words, by the words' lengths. -/
namespace Go.Proofs.Ytgcefofmfeghmaa.St
open Go.Shelf Go.RowKit Go.Lib Go.Sort Go.Proofs.YtgcefofmfeghmaaW.PrintWords Go.Proofs.YtgcefofmfeghmaaW.PrintLast Go.Proofs.YtgcefofmfeghmaaW.PrintMore Go.Proofs.Ytgcefofmfeghmaa.G
set_option linter.unusedVariables false
set_option linter.unusedSimpArgs false

/-- the places below j of what is above 0 -/
def pos (l : List Int) (j : Nat) : List Int := ((List.range j).filter (fun i : Nat => decide (0 < rd l (i : Int)))).map Int.ofNat
theorem pos_succ (l : List Int) (j : Nat) : pos l (j + 1) = if 0 < rd l (j : Int) then pos l j ++ [(j : Int)] else pos l j := by
  unfold pos
  rw [List.range_succ, List.filter_append]
  by_cases h : 0 < rd l (j : Int)
  · simp [h]
  · simp [h]
theorem pos_len (l : List Int) (j : Nat) : (pos l j).length ≤ j := by
  unfold pos
  rw [List.length_map]
  exact Nat.le_trans (List.length_filter_le _ _) (by simp)
theorem pos_mem (l : List Int) (j : Nat) (x : Int) : x ∈ pos l j ↔ 0 ≤ x ∧ x < j ∧ 0 < rd l x := by
  unfold pos
  simp only [List.mem_map, List.mem_filter, List.mem_range, decide_eq_true_eq]
  constructor
  · rintro ⟨i, ⟨h1, h2⟩, rfl⟩
    exact ⟨Int.natCast_nonneg i, by show (i : Int) < j; omega, h2⟩
  · rintro ⟨h1, h2, h3⟩
    refine ⟨x.toNat, ⟨by omega, ?_⟩, Int.toNat_of_nonneg h1⟩
    rw [Int.toNat_of_nonneg h1]
    exact h3
theorem pos_asc (l : List Int) : ∀ j, (pos l j).Pairwise (· < ·)
  | 0 => by simp [pos]
  | j + 1 => by
    rw [pos_succ]
    split
    · rw [List.pairwise_append]
      refine ⟨pos_asc l j, by simp, fun a ha b hb => ?_⟩
      simp only [List.mem_singleton] at hb
      subst hb
      exact ((pos_mem l j a).1 ha).2.1
    · exact pos_asc l j

/-- a place of l, whatever x is -/
def clampN (l : List Int) (x : Int) : Int := if 0 ≤ x ∧ x < l.length then x else 0
def keyN (l : List Int) (x : Int) : Int := rd l (clampN l x)
def encN (l : List Int) (x : Int) : Value := .int .i64 (clampN l x)
/-- the symbols in their order -/
def ordered (l : List Int) : List Int := (pos l l.length).mergeSort (fun x y => !ltX (keyN l) y x)

theorem less_calls (w : World) (l : List Int) (A : Option Addr) (c : Nat) (B1 B3 blk : Nat) (vn vc : Nat) (hl0 : 0 < l.length) (hC : Kd.C (Kd.int .i64) w A l.length l) (hh1 : w.heap[B1]? = some (.cells #[.slice A l.length c] 22 (0, 0))) (hh3 : w.heap[B3]? = some (.cells #[.slice (some ⟨blk, 0, none⟩) vn vc] 22 (0, 0)))
    (dk : Array Int) (hdk : dk.size = vn) (hrow : ∀ k, k < vn → w.cell? ⟨blk, k, none⟩ = some (encN l dk[k]!)) (i j : Nat) (hi : i < vn) (hj : j < vn) :
    Calls Try.prog 32 #[.int .i64 (i : Int), .int .i64 (j : Int), .pointer (some ⟨B1, 0, none⟩), .pointer (some ⟨B3, 0, none⟩)] w fun e w' => e = .returned (.bool (ltK (keyN l) dk[i]! dk[j]!)) ∧ ∃ q, w' = w.drewN q := by
  have c1 : w.cell? ⟨B1, 0, none⟩ = some (.slice A l.length c) := by simp [World.cell?, hh1]
  have c3 : w.cell? ⟨B3, 0, none⟩ = some (.slice (some ⟨blk, 0, none⟩) vn vc) := by simp [World.cell?, hh3]
  have ri := hrow i hi
  have rj := hrow j hj
  have bd : ∀ x, 0 ≤ clampN l x ∧ clampN l x < l.length := fun x => by unfold clampN; split <;> omega
  obtain ⟨bi1, bi2⟩ := bd dk[i]!
  obtain ⟨bj1, bj2⟩ := bd dk[j]!
  obtain ⟨ad, rfl, hxi⟩ := Kd.at_int hC (clampN l dk[i]!) bi1 bi2
  obtain ⟨ad', e', hxj⟩ := Kd.at_int hC (clampN l dk[j]!) bj1 bj2
  cases e'
  unfold encN at ri rj
  obtain ⟨xi, hxi'⟩ : ∃ xi, xi = clampN l dk[i]! := ⟨_, rfl⟩
  obtain ⟨xj, hxj'⟩ : ∃ xj, xj = clampN l dk[j]! := ⟨_, rfl⟩
  have K : Hid (ltK (keyN l) dk[i]! dk[j]! = decide (rd l xi < rd l xj)) := Lib.hid (by rw [hxi', hxj']; rfl)
  rw [← hxi'] at ri hxi bi1 bi2
  rw [← hxj'] at rj hxj bj1 bj2
  clear hxi' hxj' hh1 hh3 hC hrow bd hdk
  have t1 : (i : Int) < (vn : Int) := by omega
  have t2 : (j : Int) < (vn : Int) := by omega
  rw [K.out]
  go_enter Try.func32, Try.ntmps32
  go_wp2
  go_quiet (fail)
  go_wp2
  go_ret
  exact ⟨rfl, ⟨_, rfl⟩⟩

theorem asc_pos (l : List Int) : Asc (pos l l.length).toArray := by
  intro i j hij hj
  have h := List.pairwise_iff_getElem.1 (pos_asc l l.length)
  have hj' : j < (pos l l.length).length := by simpa using hj
  have := h i j (by omega) hj' hij
  have e : ∀ k, (hk : k < (pos l l.length).length) → (pos l l.length).toArray[k]! = (pos l l.length)[k] := fun k hk => by
    rw [getElem!_pos _ _ (by simpa using hk)]
    simp
  rw [e i (by omega), e j hj']
  exact this

/-- the row that sorting leaves is the ordered one -/
theorem sorted_is (l : List Int) (d' : Array Int) (hp : PermIn 0 (pos l l.length).toArray.size (pos l l.length).toArray d') (hs : Sorted (keyN l) 0 (pos l l.length).toArray.size d') : d'.toList = ordered l := by
  have h := sorted_unique_holds (lt := ltX (keyN l)) (swo_ltX _) (fun x y h1 h2 => by
    simp only [ltX, decide_eq_false_iff_not] at h1 h2
    omega) (pos l l.length).toArray d' hp (fun i j a1 a2 a3 => by
    have := hs i j a1 a2 a3
    unfold le at this
    simp only [ltX, decide_eq_false_iff_not]
    omega)
  rw [h]
  rfl

theorem clamp_pos (l : List Int) (x : Int) (h : x ∈ pos l l.length) : clampN l x = x := by
  have := (pos_mem l _ x).1 h
  unfold clampN
  rw [if_pos (by omega)]

theorem ordered_perm (l : List Int) : (ordered l).Perm (pos l l.length) := List.mergeSort_perm _ _

theorem heap_putRow_other (enc : Int → Value) (w : World) (blk off : Nat) (d : Array Int) (b : Nat) (h : b ≠ blk) : (putRow enc w blk off d).heap[b]? = w.heap[b]? := by
  unfold putRow mapBlock
  simp only [Array.getElem?_modify]
  rw [if_neg (fun e => h e.symm)]
theorem sort_heap (enc : Int → Value) (w : World) (blk off m : Nat) (dk : Array Int) (os : Array Obj) (b : Nat) (h1 : b ≠ blk) (h2 : b < w.heap.size) : (sortWorld enc w blk off m dk os).heap[b]? = w.heap[b]? := by
  unfold sortWorld
  rw [heap_grow_old _ _ (by rw [size_putRow]; exact h2), heap_putRow_other _ _ _ _ _ _ h1]
  rfl
theorem below_sort {B : Nat} {w wr : World} (enc : Int → Value) {blk off m : Nat} {dk : Array Int} {os : Array Obj} (h : Below B w wr) (hB : B ≤ blk) (hb : B ≤ wr.heap.size) : Below B w (sortWorld enc wr blk off m dk os) :=
  ⟨h.os, h.tape, h.output, by unfold sortWorld; rw [size_grow, size_putRow]; have := h.size; show w.heap.size ≤ wr.heap.size + _; omega,
    fun k hk => (sort_heap enc wr blk off m dk os k (by omega) (by omega)).trans (h.block k hk)⟩

theorem rd_toArray (l : List Int) (k : Nat) (hk : k < l.length) : l.toArray[k]! = rd l (k : Int) ∧ l.toArray[k]! ∈ l := by
  rw [getElem!_pos l.toArray k (by simpa using hk)]
  simp only [List.getElem_toArray, rd, Int.toNat_natCast]
  refine ⟨?_, List.getElem_mem _⟩
  simp [List.getD, hk]
end Go.Proofs.Ytgcefofmfeghmaa.St
