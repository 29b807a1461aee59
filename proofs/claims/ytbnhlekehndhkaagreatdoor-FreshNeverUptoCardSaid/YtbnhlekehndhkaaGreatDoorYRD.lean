import Derived.Test.YtbnhlekehndhkaaGreatDoorYRB
import Derived.Test.YtbnhlekehndhkaaGreatDoorYGxf46


/- The document's Directives: its contract is the program's. -/
namespace Go.Proofs.YtbnhlekehndhkaaGreatDoor.Rb
open Go.RowKit Go.Proofs.YtbnhlekehndhkaaGreatDoorW.PrintWords Go.Proofs.YtbnhlekehndhkaaGreatDoorW.PrintLast Go.Proofs.YtbnhlekehndhkaaGreatDoorW.PrintMore Go.Proofs.YtbnhlekehndhkaaGreatDoor.G
set_option linter.unusedVariables false
set_option linter.unusedSimpArgs false
open Fb (Ct ZZ42 dirs bare argOf nameOf CACHE MAXSTALE secV c_of fr_of blk_bel set_same put12 elem_at dirs_snoc lookN flagsN numsN)
/-- what the loop keeps -/
structure Kr (w : World) (g r B : Nat) (v : Value) (L : List ByteArray) (c : Ct) (W : World) : Prop where
  d : W.heap[g]? = some (.cells c.cells 41 (0, 0))
  z : W.heap[r]? = some (.cells ZZ42 41 (0, 0))
  row : Kd.R Kd.string 9 W B (fun k => k ≠ g) v L
  b : Below w.heap.size w W
theorem Kr.below {w : World} {g r B : Nat} {v : Value} {L : List ByteArray} {c : Ct} {W W' : World} (h : Kr w g r B v L c W) (hb : Below W.heap.size W W') : Kr w g r B v L c W' :=
  ⟨blk_bel hb h.d, blk_bel hb h.z, Kd.R_below h.row hb, below_step h.b hb⟩
theorem Kr.set {w : World} {g r B : Nat} {v : Value} {L : List ByteArray} {c c' : Ct} {W : World} (h : Kr w g r B v L c W) (j : Nat) (u : Value) (hc : c.cells.setIfInBounds j u = c'.cells) (hr : r ≠ g) (hg : w.heap.size ≤ g) :
    Kr w g r B v L c' (W.setCell ⟨g, j, none⟩ u) :=
  ⟨set_same h.d hc, (heap_setCell_other W ⟨g, j, none⟩ r u hr).trans h.z, Kd.R_far h.row (p := ⟨g, j, none⟩) (fun k hk => hk) u, Below.setCell h.b (p := ⟨g, j, none⟩) hg u⟩
theorem Kr.arg {w : World} {g r B : Nat} {v : Value} {L : List ByteArray} {c : Ct} {W W' : World} (h : Kr w g r B v L c W) (j : Nat) (x : Int) (hw : W' = if c.nm j < 0 then W.setCell ⟨g, j, none⟩ (.int .i64 x) else W) (hj : 6 ≤ j ∧ j < 12) (hr : r ≠ g) (hg : w.heap.size ≤ g) :
    Kr w g r B v L (if c.nm j < 0 then c.num j x else c) W' := by
  by_cases hn : c.nm j < 0
  · rw [if_pos hn] at hw ⊢
    rw [hw]
    exact h.set j _ (c.set_num j x hj) hr hg
  · rw [if_neg hn] at hw ⊢
    rw [hw]
    exact h
theorem pre34 (l : List UInt8) : Lib.hasPrefix l [34] = true ↔ l[0]? = some 34 := by
  cases l with
  | nil => simp [Lib.hasPrefix]
  | cons c t => simp [Lib.hasPrefix, List.isPrefixOf]; exact eq_comm
theorem suf34 (l : List UInt8) : Lib.hasSuffix l [34] = true ↔ l[l.length - 1]? = some 34 := by
  unfold Lib.hasSuffix
  rw [List.isSuffixOf_iff_suffix]
  constructor
  · rintro ⟨t, rfl⟩
    simp
  · intro h
    have hne : l ≠ [] := by rintro rfl; simp at h
    refine ⟨l.dropLast, ?_⟩
    have hlast : l.getLast hne = 34 := by
      rw [List.getLast_eq_getElem]
      have hlen : l.length - 1 < l.length := by have := List.length_pos_iff.2 hne; omega
      rw [List.getElem?_eq_getElem hlen] at h
      exact Option.some.inj h
    rw [← hlast]
    exact List.dropLast_concat_getLast hne
theorem told_flag (c : Ct) (n : ByteArray) (a : List UInt8) (j : Nat) (h1 : lookN flagsN n = some j) (h2 : lookN numsN n = none) : c.told n a = c.flag j := by
  unfold Ct.told; rw [h1, h2]
theorem told_num (c : Ct) (n : ByteArray) (a : List UInt8) (j : Nat) (h1 : lookN flagsN n = none) (h2 : lookN numsN n = some j) : c.told n a = if c.nm j < 0 then c.num j (secV a).1 else c := by
  unfold Ct.told; rw [h1, h2]
theorem told_none (c : Ct) (n : ByteArray) (a : List UInt8) (h1 : lookN flagsN n = none) (h2 : lookN numsN n = none) : c.told n a = c := by
  unfold Ct.told; rw [h1, h2]
theorem far_sec : (secV (Lib.itoa 2147483648)).1 = 2147483648 := by decide +kernel
theorem arg_bare (n : ByteArray) (t : Bool) (a : List UInt8) (h : ¬ (n = MAXSTALE ∧ t = false)) : argOf n t a = bare a := by unfold argOf; rw [if_neg h]
theorem arg_far (a : List UInt8) : argOf MAXSTALE false a = Lib.itoa 2147483648 := by unfold argOf; rw [if_pos ⟨rfl, rfl⟩]
theorem of_toList {s : ByteArray} {l : List UInt8} (h : s.toList = l) : s = ⟨l.toArray⟩ := by
  rw [Fb.toL] at h
  obtain ⟨⟨a⟩⟩ := s
  simp only at h
  rw [h]
theorem beq_no {a b : ByteArray} (h : ¬ a = b) : (a == b) = false := by
  cases hb : (a == b) with
  | false => rfl
  | true =>
    obtain ⟨da⟩ := a
    obtain ⟨db⟩ := b
    have h2 : (da == db) = true := hb
    exact absurd (by rw [eq_of_beq h2]) h
theorem byte_at (s : ByteArray) (i : Nat) (b : UInt8) (h : s.data.toList[i]? = some b) : ∀ h' : i < s.size, ((s[i]'h').toNat : Int) = (b.toNat : Int) := by
  intro h'
  have e : s.data.toList[i]? = some (s[i]'h') := by
    rw [Array.getElem?_toList, Array.getElem?_eq_getElem h']
    rfl
  rw [e] at h
  injection h with h
  rw [h]
theorem lf0 : lookN flagsN ⟨#[110, 111, 45, 115, 116, 111, 114, 101]⟩ = some 0 := by decide +kernel
theorem ln0 : lookN numsN ⟨#[110, 111, 45, 115, 116, 111, 114, 101]⟩ = none := by decide +kernel
theorem lf1 : lookN flagsN ⟨#[110, 111, 45, 99, 97, 99, 104, 101]⟩ = some 1 := by decide +kernel
theorem ln1 : lookN numsN ⟨#[110, 111, 45, 99, 97, 99, 104, 101]⟩ = none := by decide +kernel
theorem lf2 : lookN flagsN ⟨#[109, 117, 115, 116, 45, 114, 101, 118, 97, 108, 105, 100, 97, 116, 101]⟩ = some 2 := by decide +kernel
theorem ln2 : lookN numsN ⟨#[109, 117, 115, 116, 45, 114, 101, 118, 97, 108, 105, 100, 97, 116, 101]⟩ = none := by decide +kernel
theorem lf3 : lookN flagsN ⟨#[112, 114, 111, 120, 121, 45, 114, 101, 118, 97, 108, 105, 100, 97, 116, 101]⟩ = some 2 := by decide +kernel
theorem ln3 : lookN numsN ⟨#[112, 114, 111, 120, 121, 45, 114, 101, 118, 97, 108, 105, 100, 97, 116, 101]⟩ = none := by decide +kernel
theorem lf4 : lookN flagsN ⟨#[112, 117, 98, 108, 105, 99]⟩ = some 3 := by decide +kernel
theorem ln4 : lookN numsN ⟨#[112, 117, 98, 108, 105, 99]⟩ = none := by decide +kernel
theorem lf5 : lookN flagsN ⟨#[112, 114, 105, 118, 97, 116, 101]⟩ = some 4 := by decide +kernel
theorem ln5 : lookN numsN ⟨#[112, 114, 105, 118, 97, 116, 101]⟩ = none := by decide +kernel
theorem lf6 : lookN flagsN ⟨#[111, 110, 108, 121, 45, 105, 102, 45, 99, 97, 99, 104, 101, 100]⟩ = some 5 := by decide +kernel
theorem ln6 : lookN numsN ⟨#[111, 110, 108, 121, 45, 105, 102, 45, 99, 97, 99, 104, 101, 100]⟩ = none := by decide +kernel
theorem lf7 : lookN flagsN ⟨#[109, 97, 120, 45, 97, 103, 101]⟩ = none := by decide +kernel
theorem ln7 : lookN numsN ⟨#[109, 97, 120, 45, 97, 103, 101]⟩ = some 6 := by decide +kernel
theorem nm7 : ⟨#[109, 97, 120, 45, 97, 103, 101]⟩ ≠ MAXSTALE := by decide +kernel
theorem lf8 : lookN flagsN ⟨#[115, 45, 109, 97, 120, 97, 103, 101]⟩ = none := by decide +kernel
theorem ln8 : lookN numsN ⟨#[115, 45, 109, 97, 120, 97, 103, 101]⟩ = some 7 := by decide +kernel
theorem nm8 : ⟨#[115, 45, 109, 97, 120, 97, 103, 101]⟩ ≠ MAXSTALE := by decide +kernel
theorem lf9 : lookN flagsN ⟨#[109, 105, 110, 45, 102, 114, 101, 115, 104]⟩ = none := by decide +kernel
theorem ln9 : lookN numsN ⟨#[109, 105, 110, 45, 102, 114, 101, 115, 104]⟩ = some 8 := by decide +kernel
theorem nm9 : ⟨#[109, 105, 110, 45, 102, 114, 101, 115, 104]⟩ ≠ MAXSTALE := by decide +kernel
theorem lf10 : lookN flagsN ⟨#[109, 97, 120, 45, 115, 116, 97, 108, 101]⟩ = none := by decide +kernel
theorem ln10 : lookN numsN ⟨#[109, 97, 120, 45, 115, 116, 97, 108, 101]⟩ = some 9 := by decide +kernel
theorem lf11 : lookN flagsN ⟨#[115, 116, 97, 108, 101, 45, 119, 104, 105, 108, 101, 45, 114, 101, 118, 97, 108, 105, 100, 97, 116, 101]⟩ = none := by decide +kernel
theorem ln11 : lookN numsN ⟨#[115, 116, 97, 108, 101, 45, 119, 104, 105, 108, 101, 45, 114, 101, 118, 97, 108, 105, 100, 97, 116, 101]⟩ = some 10 := by decide +kernel
theorem nm11 : ⟨#[115, 116, 97, 108, 101, 45, 119, 104, 105, 108, 101, 45, 114, 101, 118, 97, 108, 105, 100, 97, 116, 101]⟩ ≠ MAXSTALE := by decide +kernel
theorem lf12 : lookN flagsN ⟨#[115, 116, 97, 108, 101, 45, 105, 102, 45, 101, 114, 114, 111, 114]⟩ = none := by decide +kernel
theorem ln12 : lookN numsN ⟨#[115, 116, 97, 108, 101, 45, 105, 102, 45, 101, 114, 114, 111, 114]⟩ = some 11 := by decide +kernel
theorem nm12 : ⟨#[115, 116, 97, 108, 101, 45, 105, 102, 45, 101, 114, 114, 111, 114]⟩ ≠ MAXSTALE := by decide +kernel
theorem look_no (n : ByteArray) (h0 : ¬ n.toList = [110, 111, 45, 115, 116, 111, 114, 101]) (h1 : ¬ n.toList = [110, 111, 45, 99, 97, 99, 104, 101]) (h2 : ¬ n.toList = [109, 117, 115, 116, 45, 114, 101, 118, 97, 108, 105, 100, 97, 116, 101]) (h3 : ¬ n.toList = [112, 114, 111, 120, 121, 45, 114, 101, 118, 97, 108, 105, 100, 97, 116, 101]) (h4 : ¬ n.toList = [112, 117, 98, 108, 105, 99]) (h5 : ¬ n.toList = [112, 114, 105, 118, 97, 116, 101]) (h6 : ¬ n.toList = [111, 110, 108, 121, 45, 105, 102, 45, 99, 97, 99, 104, 101, 100]) (h7 : ¬ n.toList = [109, 97, 120, 45, 97, 103, 101]) (h8 : ¬ n.toList = [115, 45, 109, 97, 120, 97, 103, 101]) (h9 : ¬ n.toList = [109, 105, 110, 45, 102, 114, 101, 115, 104]) (h10 : ¬ n.toList = [109, 97, 120, 45, 115, 116, 97, 108, 101]) (h11 : ¬ n.toList = [115, 116, 97, 108, 101, 45, 119, 104, 105, 108, 101, 45, 114, 101, 118, 97, 108, 105, 100, 97, 116, 101]) (h12 : ¬ n.toList = [115, 116, 97, 108, 101, 45, 105, 102, 45, 101, 114, 114, 111, 114]) : lookN flagsN n = none ∧ lookN numsN n = none ∧ n ≠ MAXSTALE := by
  have e : ∀ l : List UInt8, ¬ n.toList = l → (n == (⟨l.toArray⟩ : ByteArray)) = false := fun l h => by have h2 : ¬ n = (⟨l.toArray⟩ : ByteArray) := fun e => h (by rw [e, Fb.toL]); exact beq_no h2
  have e0 : (n == (⟨#[110, 111, 45, 115, 116, 111, 114, 101]⟩ : ByteArray)) = false := e _ h0
  have e1 : (n == (⟨#[110, 111, 45, 99, 97, 99, 104, 101]⟩ : ByteArray)) = false := e _ h1
  have e2 : (n == (⟨#[109, 117, 115, 116, 45, 114, 101, 118, 97, 108, 105, 100, 97, 116, 101]⟩ : ByteArray)) = false := e _ h2
  have e3 : (n == (⟨#[112, 114, 111, 120, 121, 45, 114, 101, 118, 97, 108, 105, 100, 97, 116, 101]⟩ : ByteArray)) = false := e _ h3
  have e4 : (n == (⟨#[112, 117, 98, 108, 105, 99]⟩ : ByteArray)) = false := e _ h4
  have e5 : (n == (⟨#[112, 114, 105, 118, 97, 116, 101]⟩ : ByteArray)) = false := e _ h5
  have e6 : (n == (⟨#[111, 110, 108, 121, 45, 105, 102, 45, 99, 97, 99, 104, 101, 100]⟩ : ByteArray)) = false := e _ h6
  have e7 : (n == (⟨#[109, 97, 120, 45, 97, 103, 101]⟩ : ByteArray)) = false := e _ h7
  have e8 : (n == (⟨#[115, 45, 109, 97, 120, 97, 103, 101]⟩ : ByteArray)) = false := e _ h8
  have e9 : (n == (⟨#[109, 105, 110, 45, 102, 114, 101, 115, 104]⟩ : ByteArray)) = false := e _ h9
  have e10 : (n == (⟨#[109, 97, 120, 45, 115, 116, 97, 108, 101]⟩ : ByteArray)) = false := e _ h10
  have e11 : (n == (⟨#[115, 116, 97, 108, 101, 45, 119, 104, 105, 108, 101, 45, 114, 101, 118, 97, 108, 105, 100, 97, 116, 101]⟩ : ByteArray)) = false := e _ h11
  have e12 : (n == (⟨#[115, 116, 97, 108, 101, 45, 105, 102, 45, 101, 114, 114, 111, 114]⟩ : ByteArray)) = false := e _ h12
  refine ⟨by simp only [flagsN, lookN, e0, e1, e2, e3, e4, e5, e6]; rfl, by simp only [numsN, lookN, e7, e8, e9, e10, e11, e12]; rfl, fun e => h10 (by rw [e]; unfold MAXSTALE; rw [Fb.toL])⟩
set_option maxRecDepth 100000 in
set_option maxHeartbeats 16000000 in
theorem rdirs_q (A0 : Option Addr) (c0 : Nat) (l0 : List S59) (w : World) (hr0 : Kd.C k59 w A0 l0.length l0) (hc0 : l0.length ≤ c0) (hw : V.wt l0 < 268435456) :
    Calls Tryz.prog 20 #[.slice A0 l0.length c0] w fun e w' => e = .returned (.agg (dirs (V.elements (V.allL l0 CACHE))).cells) ∧ Below w.heap.size w w' := by
  have hwl := V.wt_len l0
  have hta := V.tot_all l0 CACHE
  have HEL := Lib.hid (V.relems_f (V.allL l0 CACHE) (5 * V.tot (V.allL l0 CACHE) + 12) (by omega) (Nat.le_refl _))
  have HAL := Lib.hid (V.rall_f l0 CACHE (l0.length + 1) (by omega) (Nat.le_refl _))
  have hes := V.elements_sizes (V.allL l0 CACHE)
  have hel := V.elements_len (V.allL l0 CACHE)
  have HC0 := Lib.hid hr0
  obtain ⟨K, hK⟩ : ∃ K, K = 5 * V.tot (V.allL l0 CACHE) + 12 := ⟨_, rfl⟩
  rw [← hK] at HEL
  obtain ⟨LA, hLA⟩ : ∃ x, x = V.allL l0 CACHE := ⟨_, rfl⟩
  rw [← hLA] at HEL HAL hes hel hta ⊢
  obtain ⟨L, hL⟩ : ∃ x, x = V.elements LA := ⟨_, rfl⟩
  rw [← hL] at HEL hes hel ⊢
  have hLl : L.length < 268435456 := by omega
  have HLS : Hid (∀ e ∈ L, e.size < 268435456) := Lib.hid (fun e he => by have := hes e he; omega)
  clear hr0 hLA hL hw hwl hta hes hel hK
  obtain ⟨W0, hW0⟩ : ∃ W, W = (w.alloc (.cells #[.bool false, .bool false, .bool false, .bool false, .bool false, .bool false, .int .i64 0, .int .i64 0, .int .i64 0, .int .i64 0, .int .i64 0, .int .i64 0] 41)).alloc (.cells #[.bool false, .bool false, .bool false, .bool false, .bool false, .bool false, .int .i64 (-1), .int .i64 (-1), .int .i64 (-1), .int .i64 (-1), .int .i64 (-1), .int .i64 (-1)] 41) := ⟨_, rfl⟩
  have HEQ := Lib.hid hW0
  have HD : Hid (W0.heap[w.heap.size + 1]? = some (.cells Ct.new.cells 41 (0, 0))) := Lib.hid (by rw [hW0]; have := heap_alloc_new (w.alloc (.cells #[.bool false, .bool false, .bool false, .bool false, .bool false, .bool false, .int .i64 0, .int .i64 0, .int .i64 0, .int .i64 0, .int .i64 0, .int .i64 0] 41)) (.cells #[.bool false, .bool false, .bool false, .bool false, .bool false, .bool false, .int .i64 (-1), .int .i64 (-1), .int .i64 (-1), .int .i64 (-1), .int .i64 (-1), .int .i64 (-1)] 41); rw [World.size_alloc] at this; exact this)
  have HR : Hid (W0.heap[w.heap.size]? = some (.cells ZZ42 41 (0, 0))) := Lib.hid (by rw [hW0]; exact blk_bel (below_alloc (Below.refl _ _) _) (heap_alloc_new w (.cells #[.bool false, .bool false, .bool false, .bool false, .bool false, .bool false, .int .i64 0, .int .i64 0, .int .i64 0, .int .i64 0, .int .i64 0, .int .i64 0] 41)))
  have HB : Hid (Below w.heap.size w W0) := Lib.hid (by rw [hW0]; exact below_alloc (below_alloc (Below.refl _ _) _) _)
  clear hW0
  go_enter Tryz.func20, Tryz.ntmps20
  go_upto_region 2 with fail
  rw [← HEQ.out]
  obtain ⟨g, hg⟩ : ∃ g, g = w.heap.size + 1 := ⟨_, rfl⟩
  obtain ⟨r, hr⟩ : ∃ r, r = w.heap.size := ⟨_, rfl⟩
  rw [← hg] at HD
  rw [← hg]
  have HNE : Hid (r ≠ g ∧ w.heap.size ≤ g) := Lib.hid ⟨by omega, by omega⟩
  have hgl := Fb.blk_lt HD.out
  have HCX := Lib.hid (Kd.C_below HC0.out HB.out)
  clear hg
  go_upto_region 3 with (first | (go_at_call 23; refine (turnbuckleref17_All.calls (l0.length + 1) A0 c0 l0 CACHE LA _ HCX.out hc0 HAL.out).mono ?_; rintro e_ w5 ⟨v5, rfl, hR5, hb5⟩; obtain ⟨A5, c5, rfl, hl5, hC5⟩ := Kd.R_reads hR5; have HC5 := Lib.hid hC5; have HB5 := Lib.hid hb5; clear hR5 hb5 hC5) | (go_at_call 46; refine (turnbuckleref17_Elements.calls K A5 c5 LA L _ HC5.out hl5 HEL.out).mono ?_; rintro e_ w6 ⟨v6, rfl, hR6, hb6⟩; obtain ⟨A6, c6, rfl, hl6, hC6⟩ := Kd.R_reads hR6; have HR6 := Lib.hid hR6; have HB6 := Lib.hid hb6; clear hR6 hb6 hC6))
  obtain ⟨W6, hW6⟩ : ∃ W, W = w6 := ⟨_, rfl⟩
  rw [← hW6] at HR6 HB6
  rw [← hW6]
  obtain ⟨B6, hB6⟩ : ∃ B, B = w5.heap.size := ⟨_, rfl⟩
  rw [← hB6] at HR6
  have HB46 : Hid (Below W0.heap.size W0 W6) := Lib.hid (below_step HB5.out HB6.out)
  have hB6g : g < B6 := by have := HB5.out.size; omega
  have HR6' : Hid (Kd.R Kd.string 9 W6 B6 (fun k => k ≠ g) (.slice A6 L.length c6) L) := Lib.hid (Kd.R_mono (Kd.R_bound HR6.out) (fun k hk e => by have := hk.2.1; omega))
  have HK6 : Hid (Kr w g r B6 (.slice A6 L.length c6) L (dirs (L.take 0)) W6) := Lib.hid ⟨blk_bel HB46.out HD.out, blk_bel HB46.out (by rw [hr]; exact HR.out), HR6'.out, below_step HB.out HB46.out⟩
  have HRr := Lib.hid hr
  clear hW6 hB6 hB6g HB46 HR6 HR6' HB5 HB6 HC5 HD HR HB HCX HC0 HAL HEL hc0 hgl hr hl5 hl6 HEQ
  go_wp2
  go_loopg [5] (L.length + 1) (fun k v5 W => ∃ i : Nat, v5 = .int .i64 (i : Int) ∧ i ≤ L.length ∧ L.length + 1 ≤ k + i ∧ Hid (Kr w g r B6 (.slice A6 L.length c6) L (dirs (L.take i)) W))
  case atStart => exact ⟨0, rfl, by omega, by omega, HK6⟩
  case round =>
    obtain ⟨i, rfl, hi, hk, HK⟩ := hrel
    rename World => Wo
    clear HK6
    by_cases hlt : i < L.length
    · obtain ⟨ko, rfl⟩ : ∃ ko, gk = ko + 1 := ⟨gk - 1, by omega⟩
      have hk2 : L.length + 1 ≤ ko + (i + 1) := by omega
      have hi1 : i + 1 ≤ L.length := hlt
      have t0 : decide ((i : Int) < (L.length : Int)) = true := decide_eq_true (by omega)
      have q1 : 0 ≤ (i : Int) := by omega
      have q2 : (i : Int) < (L.length : Int) := by omega
      have HWX := Lib.hid (show wrap64 ((i : Int) + 1) = (i : Int) + 1 by unfold wrap64; omega)
      obtain ⟨el, hel⟩ : ∃ el, L[i]? = some el := ⟨_, List.getElem?_eq_getElem hlt⟩
      have hes := HLS.out el (List.mem_of_getElem? hel)
      have HST := Lib.hid (dirs_snoc L i el hel)
      obtain ⟨ad, rfl, hcell⟩ := elem_at HK.out.row i el hel
      obtain ⟨C, hC⟩ : ∃ c, c = dirs (L.take i) := ⟨_, rfl⟩
      rw [← hC] at HK HST
      have hcl := Fb.cut_len el.data.toList [61]
      have hdl : el.data.toList.length = el.size := by simp
      have hcut := cut_q el (by omega)
      unfold Ct.step nameOf at HST
      obtain ⟨⟨F, R, told⟩, hc⟩ : ∃ c, c = Lib.cut el.data.toList [61] := ⟨_, rfl⟩
      rw [← hc] at hcut hcl HST
      simp only at hcut hcl HST
      have HCUT := Lib.hid hcut
      have hFs : (⟨F.toArray⟩ : ByteArray).data.toList.length ≤ 140737488355328 := by have := hcl.1; simp; omega
      have HSM := Lib.hid (fun W => Pl.rsmall_at ⟨F.toArray⟩ W hFs)
      obtain ⟨NM, hNM⟩ : ∃ x, x = Pl.lowS ⟨F.toArray⟩ := ⟨_, rfl⟩
      rw [← hNM] at HSM HST
      obtain ⟨AR, hAR⟩ : ∃ x : ByteArray, x = ⟨R.toArray⟩ := ⟨_, rfl⟩
      have eAR : AR.data.toList = R := by rw [hAR]
      rw [← hAR] at HCUT
      rw [← eAR] at HST hcl
      have hARl : AR.data.toList.length = AR.size := by simp
      have hARs : AR.size < 268435456 := by omega
      have hadl := World.block_lt_of_cell? Wo _ hcell
      obtain ⟨qd, hqd⟩ : ∃ q : Bool, q = decide (1 < AR.data.toList.length ∧ Lib.hasPrefix AR.data.toList [34] = true ∧ Lib.hasSuffix AR.data.toList [34] = true) := ⟨_, rfl⟩
      have HQD := Lib.hid hqd
      clear hqd hc hcut hFs hNM hAR eAR hel hlt hC
      go_upto_region 7 with (go_at_call 47; refine (HCUT.out _).mono ?_; rintro e_ w7 ⟨rfl, hb7⟩; replace HK := Lib.hid (HK.out.below hb7); clear hb7)
      rename_i Wdead
      go_cut [43] (fun v43 wx => v43 = .bool qd ∧ Hid (Kr w g r B6 (.slice (some ad) L.length c6) L C wx))
      case first =>
        by_cases h1 : 1 < AR.size
        · have t1 : decide ((AR.size : Int) ≥ 2) = true := decide_eq_true (by omega)
          obtain ⟨b0, hb0⟩ : ∃ b, AR.data.toList[0]? = some b := ⟨_, List.getElem?_eq_getElem (by omega)⟩
          obtain ⟨b1, hb1⟩ : ∃ b, AR.data.toList[AR.size - 1]? = some b := ⟨_, List.getElem?_eq_getElem (by omega)⟩
          have x0 := byte_at AR 0 b0 hb0
          have x1 := byte_at AR (AR.size - 1) b1 hb1
          have q0 : 0 < AR.size := by omega
          have q3 : AR.size - 1 < AR.size := by omega
          have u0 : (0 ≤ (AR.size : Int) - 1) = True := eq_true (by omega)
          have u1 : ((AR.size : Int) - 1).toNat = AR.size - 1 := by omega
          have u2 : ((AR.size : Int) - 1 < (AR.size : Int)) = True := eq_true (by omega)
          have hq : qd = (decide (b0 = 34) && decide (b1 = 34)) := by
            have hP : Lib.hasPrefix AR.data.toList [34] = decide (b0 = 34) := by rw [Bool.eq_iff_iff, pre34, hb0]; simp
            have hS : Lib.hasSuffix AR.data.toList [34] = decide (b1 = 34) := by rw [Bool.eq_iff_iff, suf34, hARl, hb1]; simp
            have hL : (1 < AR.data.toList.length) = True := eq_true (by omega)
            rw [HQD.out]
            simp only [hP, hS, hL]
            by_cases e0 : b0 = 34 <;> by_cases e1 : b1 = 34 <;> simp [e0, e1]
          by_cases e0 : b0 = 34
          · have y0 : ((b0.toNat : Int) == 34) = true := by rw [e0]; rfl
            have z0 : (b0.toNat : Int) = 34 := by rw [e0]; rfl
            by_cases e1 : b1 = 34
            · have y1 : ((b1.toNat : Int) == 34) = true := by rw [e1]; rfl
              have EQ := Lib.hid (show qd = true by rw [hq]; simp [e0, e1])
              clear h1 hb0 hb1 hq e0 e1 z0
              go_wp2
              go_meet
              case rel => exact ⟨by rw [EQ.out], HK⟩
            · have y1 : ((b1.toNat : Int) == 34) = false := by rw [beq_eq_false_iff_ne]; intro e; exact e1 (UInt8.toNat_inj.1 (by show b1.toNat = 34; omega))
              have EQ := Lib.hid (show qd = false by rw [hq]; simp [e1])
              clear h1 hb0 hb1 hq e0 e1 z0
              go_wp2
              go_meet
              case rel => exact ⟨by rw [EQ.out], HK⟩
          · have y0 : ((b0.toNat : Int) == 34) = false := by rw [beq_eq_false_iff_ne]; intro e; exact e0 (UInt8.toNat_inj.1 (by show b0.toNat = 34; omega))
            have EQ := Lib.hid (show qd = false by rw [hq]; simp [e0])
            clear h1 hb0 hb1 hq e0
            go_wp2
            go_meet
            case rel => exact ⟨by rw [EQ.out], HK⟩
        · have t1 : decide ((AR.size : Int) ≥ 2) = false := decide_eq_false (by omega)
          have EQ : Hid (qd = false) := Lib.hid (by rw [HQD.out, hARl]; simp [h1])
          clear h1
          go_wp2
          go_meet
          case rel => exact ⟨by rw [EQ.out], HK⟩
      case rest =>
        obtain ⟨rfl, HK⟩ := hcut
        obtain ⟨A1, hA1⟩ : ∃ x : ByteArray, x = ⟨(bare AR.data.toList).toArray⟩ := ⟨_, rfl⟩
        have HA1 := Lib.hid hA1
        have hA1s : A1.size ≤ 281474976710656 := by
          have h1 := Fb.bare_len AR.data.toList
          rw [hA1]; show (bare AR.data.toList).toArray.size ≤ _; rw [List.size_toArray]; omega
        clear hA1
        go_upto_if 43 with fail
        go_cut [7] (fun v7 wx => v7 = .string A1 ∧ Hid (Kr w g r B6 (.slice (some ad) L.length c6) L C wx))
        case first =>
          cases qd with
          | true =>
            have h := of_decide_eq_true HQD.out.symm
            have h2 : 2 ≤ AR.size := by have := h.1; omega
            have hx : AR.extract 1 (AR.size - 1) = A1 := by rw [HA1.out]; exact Fb.bare_ext h
            have u1 : (1 ≤ (AR.size : Int) - 1) = True := eq_true (by omega)
            have u2 : ((AR.size : Int) - 1 ≤ (AR.size : Int)) = True := eq_true (by omega)
            have u3 : (2 ≤ (AR.size : Int)) = True := eq_true (by omega)
            have u5 : ((AR.size : Int) - 1).toNat = AR.size - 1 := by omega
            have u6 : (1 ≤ AR.size - 1) = True := eq_true (by omega)
            clear h
            go_wp2
            go_meet
            case rel => exact ⟨rfl, HK⟩
          | false =>
            have hx : A1 = AR := by rw [HA1.out]; exact Fb.bare_no HQD.out.symm
            subst hx
            go_wp2
            go_meet
            case rel => exact ⟨rfl, HK⟩
        case rest =>
          obtain ⟨rfl, HK⟩ := hcut
          have eA1 : A1.data.toList = bare AR.data.toList := by rw [HA1.out]
          have EA1 := Lib.hid eA1
          clear eA1 HA1 HQD HCUT
          rename World => Wx
          go_upto_block 2 with (go_at_call 48; refine (HSM.out _).mono ?_; rintro e_ w8 ⟨rfl, hb8⟩; replace HK := Lib.hid (HK.out.below hb8); clear hb8)
          by_cases e0 : NM.toList = [110, 111, 45, 115, 116, 111, 114, 101]
          · have NE0 := of_toList e0
            have EN := Lib.hid NE0
            clear NE0
            have HST2 : Hid (dirs (L.take (i + 1)) = C.flag 0) := Lib.hid (by rw [HST.out]; exact told_flag _ _ _ _ (by rw [EN.out]; exact lf0) (by rw [EN.out]; exact ln0))
            have k0 := c_of HK.out.d 0 (v := .bool (C.fl 0)) rfl
            have k1 := fr_of HK.out.d 0
            have HKf := Lib.hid (HK.out.set 0 (.bool true) (C.set_flag 0 (by omega)) HNE.out.1 HNE.out.2)
            go_wp2
            go_roundg ko
            case measure => omega
            case rel => exact ⟨i + 1, by first | exact congrArg (Value.int .i64) HWX.out | go_num, hi1, hk2, Lib.hid (by rw [HST2.out]; exact HKf.out)⟩
          have f0 : (NM.toList == [110, 111, 45, 115, 116, 111, 114, 101]) = false := by rw [beq_eq_false_iff_ne]; exact e0
          by_cases e1 : NM.toList = [110, 111, 45, 99, 97, 99, 104, 101]
          · have NE1 := of_toList e1
            have EN := Lib.hid NE1
            clear NE1
            have HST2 : Hid (dirs (L.take (i + 1)) = C.flag 1) := Lib.hid (by rw [HST.out]; exact told_flag _ _ _ _ (by rw [EN.out]; exact lf1) (by rw [EN.out]; exact ln1))
            have k0 := c_of HK.out.d 1 (v := .bool (C.fl 1)) rfl
            have k1 := fr_of HK.out.d 1
            have HKf := Lib.hid (HK.out.set 1 (.bool true) (C.set_flag 1 (by omega)) HNE.out.1 HNE.out.2)
            go_wp2
            go_roundg ko
            case measure => omega
            case rel => exact ⟨i + 1, by first | exact congrArg (Value.int .i64) HWX.out | go_num, hi1, hk2, Lib.hid (by rw [HST2.out]; exact HKf.out)⟩
          have f1 : (NM.toList == [110, 111, 45, 99, 97, 99, 104, 101]) = false := by rw [beq_eq_false_iff_ne]; exact e1
          by_cases e2 : NM.toList = [109, 117, 115, 116, 45, 114, 101, 118, 97, 108, 105, 100, 97, 116, 101]
          · have NE2 := of_toList e2
            have EN := Lib.hid NE2
            clear NE2
            have HST2 : Hid (dirs (L.take (i + 1)) = C.flag 2) := Lib.hid (by rw [HST.out]; exact told_flag _ _ _ _ (by rw [EN.out]; exact lf2) (by rw [EN.out]; exact ln2))
            have k0 := c_of HK.out.d 2 (v := .bool (C.fl 2)) rfl
            have k1 := fr_of HK.out.d 2
            have HKf := Lib.hid (HK.out.set 2 (.bool true) (C.set_flag 2 (by omega)) HNE.out.1 HNE.out.2)
            go_wp2
            go_roundg ko
            case measure => omega
            case rel => exact ⟨i + 1, by first | exact congrArg (Value.int .i64) HWX.out | go_num, hi1, hk2, Lib.hid (by rw [HST2.out]; exact HKf.out)⟩
          have f2 : (NM.toList == [109, 117, 115, 116, 45, 114, 101, 118, 97, 108, 105, 100, 97, 116, 101]) = false := by rw [beq_eq_false_iff_ne]; exact e2
          by_cases e3 : NM.toList = [112, 114, 111, 120, 121, 45, 114, 101, 118, 97, 108, 105, 100, 97, 116, 101]
          · have NE3 := of_toList e3
            have EN := Lib.hid NE3
            clear NE3
            have HST2 : Hid (dirs (L.take (i + 1)) = C.flag 2) := Lib.hid (by rw [HST.out]; exact told_flag _ _ _ _ (by rw [EN.out]; exact lf3) (by rw [EN.out]; exact ln3))
            have k0 := c_of HK.out.d 2 (v := .bool (C.fl 2)) rfl
            have k1 := fr_of HK.out.d 2
            have HKf := Lib.hid (HK.out.set 2 (.bool true) (C.set_flag 2 (by omega)) HNE.out.1 HNE.out.2)
            go_wp2
            go_roundg ko
            case measure => omega
            case rel => exact ⟨i + 1, by first | exact congrArg (Value.int .i64) HWX.out | go_num, hi1, hk2, Lib.hid (by rw [HST2.out]; exact HKf.out)⟩
          have f3 : (NM.toList == [112, 114, 111, 120, 121, 45, 114, 101, 118, 97, 108, 105, 100, 97, 116, 101]) = false := by rw [beq_eq_false_iff_ne]; exact e3
          by_cases e4 : NM.toList = [112, 117, 98, 108, 105, 99]
          · have NE4 := of_toList e4
            have EN := Lib.hid NE4
            clear NE4
            have HST2 : Hid (dirs (L.take (i + 1)) = C.flag 3) := Lib.hid (by rw [HST.out]; exact told_flag _ _ _ _ (by rw [EN.out]; exact lf4) (by rw [EN.out]; exact ln4))
            have k0 := c_of HK.out.d 3 (v := .bool (C.fl 3)) rfl
            have k1 := fr_of HK.out.d 3
            have HKf := Lib.hid (HK.out.set 3 (.bool true) (C.set_flag 3 (by omega)) HNE.out.1 HNE.out.2)
            go_wp2
            go_roundg ko
            case measure => omega
            case rel => exact ⟨i + 1, by first | exact congrArg (Value.int .i64) HWX.out | go_num, hi1, hk2, Lib.hid (by rw [HST2.out]; exact HKf.out)⟩
          have f4 : (NM.toList == [112, 117, 98, 108, 105, 99]) = false := by rw [beq_eq_false_iff_ne]; exact e4
          by_cases e5 : NM.toList = [112, 114, 105, 118, 97, 116, 101]
          · have NE5 := of_toList e5
            have EN := Lib.hid NE5
            clear NE5
            have HST2 : Hid (dirs (L.take (i + 1)) = C.flag 4) := Lib.hid (by rw [HST.out]; exact told_flag _ _ _ _ (by rw [EN.out]; exact lf5) (by rw [EN.out]; exact ln5))
            have k0 := c_of HK.out.d 4 (v := .bool (C.fl 4)) rfl
            have k1 := fr_of HK.out.d 4
            have HKf := Lib.hid (HK.out.set 4 (.bool true) (C.set_flag 4 (by omega)) HNE.out.1 HNE.out.2)
            go_wp2
            go_roundg ko
            case measure => omega
            case rel => exact ⟨i + 1, by first | exact congrArg (Value.int .i64) HWX.out | go_num, hi1, hk2, Lib.hid (by rw [HST2.out]; exact HKf.out)⟩
          have f5 : (NM.toList == [112, 114, 105, 118, 97, 116, 101]) = false := by rw [beq_eq_false_iff_ne]; exact e5
          by_cases e6 : NM.toList = [111, 110, 108, 121, 45, 105, 102, 45, 99, 97, 99, 104, 101, 100]
          · have NE6 := of_toList e6
            have EN := Lib.hid NE6
            clear NE6
            have HST2 : Hid (dirs (L.take (i + 1)) = C.flag 5) := Lib.hid (by rw [HST.out]; exact told_flag _ _ _ _ (by rw [EN.out]; exact lf6) (by rw [EN.out]; exact ln6))
            have k0 := c_of HK.out.d 5 (v := .bool (C.fl 5)) rfl
            have k1 := fr_of HK.out.d 5
            have HKf := Lib.hid (HK.out.set 5 (.bool true) (C.set_flag 5 (by omega)) HNE.out.1 HNE.out.2)
            go_wp2
            go_roundg ko
            case measure => omega
            case rel => exact ⟨i + 1, by first | exact congrArg (Value.int .i64) HWX.out | go_num, hi1, hk2, Lib.hid (by rw [HST2.out]; exact HKf.out)⟩
          have f6 : (NM.toList == [111, 110, 108, 121, 45, 105, 102, 45, 99, 97, 99, 104, 101, 100]) = false := by rw [beq_eq_false_iff_ne]; exact e6
          by_cases e7 : NM.toList = [109, 97, 120, 45, 97, 103, 101]
          · have NE7 := of_toList e7
            have EN := Lib.hid NE7
            clear NE7
            have HST2 : Hid (dirs (L.take (i + 1)) = if C.nm 6 < 0 then C.num 6 (secV A1.data.toList).1 else C) := Lib.hid (by rw [HST.out, EA1.out]; rw [arg_bare _ _ _ (by rw [EN.out]; exact fun h => nm7 h.1)]; exact told_num _ _ _ _ (by rw [EN.out]; exact lf7) (by rw [EN.out]; exact ln7))
            have HKs := HK
            go_wp2_with (go_at_call 49; refine (set_q g 6 C.cells 41 (C.nm 6) A1 hA1s _ HKs.out.d (C.at_num 6 (by omega))).mono ?_; rintro e_ w11 ⟨rfl, w12, hb12, hw⟩; have HK12 := Lib.hid ((HKs.out.below hb12).arg 6 _ hw (by omega) HNE.out.1 HNE.out.2); clear hb12 hw)
            go_roundg ko
            case measure => omega
            case rel => exact ⟨i + 1, by first | exact congrArg (Value.int .i64) HWX.out | go_num, hi1, hk2, Lib.hid (by rw [HST2.out]; exact HK12.out)⟩
          have f7 : (NM.toList == [109, 97, 120, 45, 97, 103, 101]) = false := by rw [beq_eq_false_iff_ne]; exact e7
          by_cases e8 : NM.toList = [115, 45, 109, 97, 120, 97, 103, 101]
          · have NE8 := of_toList e8
            have EN := Lib.hid NE8
            clear NE8
            have HST2 : Hid (dirs (L.take (i + 1)) = if C.nm 7 < 0 then C.num 7 (secV A1.data.toList).1 else C) := Lib.hid (by rw [HST.out, EA1.out]; rw [arg_bare _ _ _ (by rw [EN.out]; exact fun h => nm8 h.1)]; exact told_num _ _ _ _ (by rw [EN.out]; exact lf8) (by rw [EN.out]; exact ln8))
            have HKs := HK
            go_wp2_with (go_at_call 49; refine (set_q g 7 C.cells 41 (C.nm 7) A1 hA1s _ HKs.out.d (C.at_num 7 (by omega))).mono ?_; rintro e_ w11 ⟨rfl, w12, hb12, hw⟩; have HK12 := Lib.hid ((HKs.out.below hb12).arg 7 _ hw (by omega) HNE.out.1 HNE.out.2); clear hb12 hw)
            go_roundg ko
            case measure => omega
            case rel => exact ⟨i + 1, by first | exact congrArg (Value.int .i64) HWX.out | go_num, hi1, hk2, Lib.hid (by rw [HST2.out]; exact HK12.out)⟩
          have f8 : (NM.toList == [115, 45, 109, 97, 120, 97, 103, 101]) = false := by rw [beq_eq_false_iff_ne]; exact e8
          by_cases e9 : NM.toList = [109, 105, 110, 45, 102, 114, 101, 115, 104]
          · have NE9 := of_toList e9
            have EN := Lib.hid NE9
            clear NE9
            have HST2 : Hid (dirs (L.take (i + 1)) = if C.nm 8 < 0 then C.num 8 (secV A1.data.toList).1 else C) := Lib.hid (by rw [HST.out, EA1.out]; rw [arg_bare _ _ _ (by rw [EN.out]; exact fun h => nm9 h.1)]; exact told_num _ _ _ _ (by rw [EN.out]; exact lf9) (by rw [EN.out]; exact ln9))
            have HKs := HK
            go_wp2_with (go_at_call 49; refine (set_q g 8 C.cells 41 (C.nm 8) A1 hA1s _ HKs.out.d (C.at_num 8 (by omega))).mono ?_; rintro e_ w11 ⟨rfl, w12, hb12, hw⟩; have HK12 := Lib.hid ((HKs.out.below hb12).arg 8 _ hw (by omega) HNE.out.1 HNE.out.2); clear hb12 hw)
            go_roundg ko
            case measure => omega
            case rel => exact ⟨i + 1, by first | exact congrArg (Value.int .i64) HWX.out | go_num, hi1, hk2, Lib.hid (by rw [HST2.out]; exact HK12.out)⟩
          have f9 : (NM.toList == [109, 105, 110, 45, 102, 114, 101, 115, 104]) = false := by rw [beq_eq_false_iff_ne]; exact e9
          by_cases e10 : NM.toList = [109, 97, 120, 45, 115, 116, 97, 108, 101]
          · have NE10 := of_toList e10
            have EN := Lib.hid NE10
            clear NE10
            have k0 := c_of HK.out.d 9 (v := .int .i64 (C.nm 9)) rfl
            have k1 := fr_of HK.out.d 9
            cases told with
            | true =>
              have HST2 : Hid (dirs (L.take (i + 1)) = if C.nm 9 < 0 then C.num 9 (secV A1.data.toList).1 else C) := Lib.hid (by rw [HST.out, EA1.out]; rw [arg_bare _ _ _ (fun h => by cases h.2)]; exact told_num _ _ _ _ (by rw [EN.out]; exact lf10) (by rw [EN.out]; exact ln10))
              have HKs := HK
              go_wp2_with (go_at_call 49; refine (set_q g 9 C.cells 41 (C.nm 9) A1 hA1s _ HKs.out.d (C.at_num 9 (by omega))).mono ?_; rintro e_ w11 ⟨rfl, w12, hb12, hw⟩; have HK12 := Lib.hid ((HKs.out.below hb12).arg 9 _ hw (by omega) HNE.out.1 HNE.out.2); clear hb12 hw)
              go_roundg ko
              case measure => omega
              case rel => exact ⟨i + 1, by first | exact congrArg (Value.int .i64) HWX.out | go_num, hi1, hk2, Lib.hid (by rw [HST2.out]; exact HK12.out)⟩
            | false =>
              have HSTf : Hid (dirs (L.take (i + 1)) = if C.nm 9 < 0 then C.num 9 2147483648 else C) := Lib.hid (by rw [HST.out, EN.out]; rw [show (⟨#[109, 97, 120, 45, 115, 116, 97, 108, 101]⟩ : ByteArray) = MAXSTALE from rfl, arg_far]; have h := told_num C MAXSTALE (Lib.itoa 2147483648) 9 lf10 ln10; rw [far_sec] at h; exact h)
              by_cases hn : C.nm 9 < 0
              · have tn : decide (C.nm 9 < 0) = true := decide_eq_true hn
                have HST2 : Hid (dirs (L.take (i + 1)) = if (C.num 9 2147483648).nm 9 < 0 then (C.num 9 2147483648).num 9 (secV A1.data.toList).1 else C.num 9 2147483648) := Lib.hid (by rw [HSTf.out, if_pos hn]; rfl)
                have HKs := Lib.hid (HK.out.set 9 (.int .i64 2147483648) (C.set_num 9 2147483648 (by omega)) HNE.out.1 HNE.out.2)
                clear hn
                go_wp2_with (go_at_call 49; refine (set_q g 9 (C.num 9 2147483648).cells 41 ((C.num 9 2147483648).nm 9) A1 hA1s _ HKs.out.d ((C.num 9 2147483648).at_num 9 (by omega))).mono ?_; rintro e_ w11 ⟨rfl, w12, hb12, hw⟩; have HK12 := Lib.hid ((HKs.out.below hb12).arg 9 _ hw (by omega) HNE.out.1 HNE.out.2); clear hb12 hw)
                go_roundg ko
                case measure => omega
                case rel => exact ⟨i + 1, by first | exact congrArg (Value.int .i64) HWX.out | go_num, hi1, hk2, Lib.hid (by rw [HST2.out]; exact HK12.out)⟩
              · have tn : decide (C.nm 9 < 0) = false := decide_eq_false hn
                have HST2 : Hid (dirs (L.take (i + 1)) = if C.nm 9 < 0 then C.num 9 (secV A1.data.toList).1 else C) := Lib.hid (by rw [HSTf.out, if_neg hn, if_neg hn])
                have HKs := HK
                clear hn
                go_wp2_with (go_at_call 49; refine (set_q g 9 C.cells 41 (C.nm 9) A1 hA1s _ HKs.out.d (C.at_num 9 (by omega))).mono ?_; rintro e_ w11 ⟨rfl, w12, hb12, hw⟩; have HK12 := Lib.hid ((HKs.out.below hb12).arg 9 _ hw (by omega) HNE.out.1 HNE.out.2); clear hb12 hw)
                go_roundg ko
                case measure => omega
                case rel => exact ⟨i + 1, by first | exact congrArg (Value.int .i64) HWX.out | go_num, hi1, hk2, Lib.hid (by rw [HST2.out]; exact HK12.out)⟩
          have f10 : (NM.toList == [109, 97, 120, 45, 115, 116, 97, 108, 101]) = false := by rw [beq_eq_false_iff_ne]; exact e10
          by_cases e11 : NM.toList = [115, 116, 97, 108, 101, 45, 119, 104, 105, 108, 101, 45, 114, 101, 118, 97, 108, 105, 100, 97, 116, 101]
          · have NE11 := of_toList e11
            have EN := Lib.hid NE11
            clear NE11
            have HST2 : Hid (dirs (L.take (i + 1)) = if C.nm 10 < 0 then C.num 10 (secV A1.data.toList).1 else C) := Lib.hid (by rw [HST.out, EA1.out]; rw [arg_bare _ _ _ (by rw [EN.out]; exact fun h => nm11 h.1)]; exact told_num _ _ _ _ (by rw [EN.out]; exact lf11) (by rw [EN.out]; exact ln11))
            have HKs := HK
            go_wp2_with (go_at_call 49; refine (set_q g 10 C.cells 41 (C.nm 10) A1 hA1s _ HKs.out.d (C.at_num 10 (by omega))).mono ?_; rintro e_ w11 ⟨rfl, w12, hb12, hw⟩; have HK12 := Lib.hid ((HKs.out.below hb12).arg 10 _ hw (by omega) HNE.out.1 HNE.out.2); clear hb12 hw)
            go_roundg ko
            case measure => omega
            case rel => exact ⟨i + 1, by first | exact congrArg (Value.int .i64) HWX.out | go_num, hi1, hk2, Lib.hid (by rw [HST2.out]; exact HK12.out)⟩
          have f11 : (NM.toList == [115, 116, 97, 108, 101, 45, 119, 104, 105, 108, 101, 45, 114, 101, 118, 97, 108, 105, 100, 97, 116, 101]) = false := by rw [beq_eq_false_iff_ne]; exact e11
          by_cases e12 : NM.toList = [115, 116, 97, 108, 101, 45, 105, 102, 45, 101, 114, 114, 111, 114]
          · have NE12 := of_toList e12
            have EN := Lib.hid NE12
            clear NE12
            have HST2 : Hid (dirs (L.take (i + 1)) = if C.nm 11 < 0 then C.num 11 (secV A1.data.toList).1 else C) := Lib.hid (by rw [HST.out, EA1.out]; rw [arg_bare _ _ _ (by rw [EN.out]; exact fun h => nm12 h.1)]; exact told_num _ _ _ _ (by rw [EN.out]; exact lf12) (by rw [EN.out]; exact ln12))
            have HKs := HK
            go_wp2_with (go_at_call 49; refine (set_q g 11 C.cells 41 (C.nm 11) A1 hA1s _ HKs.out.d (C.at_num 11 (by omega))).mono ?_; rintro e_ w11 ⟨rfl, w12, hb12, hw⟩; have HK12 := Lib.hid ((HKs.out.below hb12).arg 11 _ hw (by omega) HNE.out.1 HNE.out.2); clear hb12 hw)
            go_roundg ko
            case measure => omega
            case rel => exact ⟨i + 1, by first | exact congrArg (Value.int .i64) HWX.out | go_num, hi1, hk2, Lib.hid (by rw [HST2.out]; exact HK12.out)⟩
          have f12 : (NM.toList == [115, 116, 97, 108, 101, 45, 105, 102, 45, 101, 114, 114, 111, 114]) = false := by rw [beq_eq_false_iff_ne]; exact e12
          obtain ⟨x1, x2, x3⟩ := look_no NM e0 e1 e2 e3 e4 e5 e6 e7 e8 e9 e10 e11 e12
          have HST2 : Hid (dirs (L.take (i + 1)) = C) := Lib.hid (by rw [HST.out]; exact told_none _ _ _ x1 x2)
          have HKf := HK
          clear x1 x2 x3
          go_wp2
          go_roundg ko
          case measure => omega
          case rel => exact ⟨i + 1, by first | exact congrArg (Value.int .i64) HWX.out | go_num, hi1, hk2, Lib.hid (by rw [HST2.out]; exact HKf.out)⟩
    · obtain rfl : i = L.length := by omega
      have t0 : decide ((L.length : Int) < (L.length : Int)) = false := decide_eq_false (by omega)
      rw [List.take_length] at HK
      obtain ⟨C, hC⟩ : ∃ c, c = dirs L := ⟨_, rfl⟩
      rw [← hC] at HK
      have HCd := Lib.hid hC
      obtain rfl := HRr.out
      clear hk hi hlt hC HRr
      have l0 := c_of HK.out.d 0 (v := .bool (C.fl 0)) rfl
      have l1 := c_of HK.out.d 1 (v := .bool (C.fl 1)) rfl
      have l2 := c_of HK.out.d 2 (v := .bool (C.fl 2)) rfl
      have l3 := c_of HK.out.d 3 (v := .bool (C.fl 3)) rfl
      have l4 := c_of HK.out.d 4 (v := .bool (C.fl 4)) rfl
      have l5 := c_of HK.out.d 5 (v := .bool (C.fl 5)) rfl
      have l6 := c_of HK.out.d 6 (v := .int .i64 (C.nm 6)) rfl
      have l7 := c_of HK.out.d 7 (v := .int .i64 (C.nm 7)) rfl
      have l8 := c_of HK.out.d 8 (v := .int .i64 (C.nm 8)) rfl
      have l9 := c_of HK.out.d 9 (v := .int .i64 (C.nm 9)) rfl
      have l10 := c_of HK.out.d 10 (v := .int .i64 (C.nm 10)) rfl
      have l11 := c_of HK.out.d 11 (v := .int .i64 (C.nm 11)) rfl
      have z0 := c_of HK.out.z 0 (v := .bool false) rfl
      have z1 := c_of HK.out.z 1 (v := .bool false) rfl
      have z2 := c_of HK.out.z 2 (v := .bool false) rfl
      have z3 := c_of HK.out.z 3 (v := .bool false) rfl
      have z4 := c_of HK.out.z 4 (v := .bool false) rfl
      have z5 := c_of HK.out.z 5 (v := .bool false) rfl
      have z6 := c_of HK.out.z 6 (v := .int .i64 0) rfl
      have z7 := c_of HK.out.z 7 (v := .int .i64 0) rfl
      have z8 := c_of HK.out.z 8 (v := .int .i64 0) rfl
      have z9 := c_of HK.out.z 9 (v := .int .i64 0) rfl
      have z10 := c_of HK.out.z 10 (v := .int .i64 0) rfl
      have z11 := c_of HK.out.z 11 (v := .int .i64 0) rfl
      have y0 := fr_of HK.out.z 0
      have y1 := fr_of HK.out.z 1
      have y2 := fr_of HK.out.z 2
      have y3 := fr_of HK.out.z 3
      have y4 := fr_of HK.out.z 4
      have y5 := fr_of HK.out.z 5
      have y6 := fr_of HK.out.z 6
      have y7 := fr_of HK.out.z 7
      have y8 := fr_of HK.out.z 8
      have y9 := fr_of HK.out.z 9
      have y10 := fr_of HK.out.z 10
      have y11 := fr_of HK.out.z 11
      go_wp2
      have hp := put12 HK.out.z (.bool (C.fl 0)) (.bool (C.fl 1)) (.bool (C.fl 2)) (.bool (C.fl 3)) (.bool (C.fl 4)) (.bool (C.fl 5)) (.int .i64 (C.nm 6)) (.int .i64 (C.nm 7)) (.int .i64 (C.nm 8)) (.int .i64 (C.nm 9)) (.int .i64 (C.nm 10)) (.int .i64 (C.nm 11))
      obtain ⟨W9, hW9⟩ : ∃ W, W = ((((((((((((Wo.setCell ⟨w.heap.size, 0, none⟩ (.bool (C.fl 0))).setCell ⟨w.heap.size, 1, none⟩ (.bool (C.fl 1))).setCell ⟨w.heap.size, 2, none⟩ (.bool (C.fl 2))).setCell ⟨w.heap.size, 3, none⟩ (.bool (C.fl 3))).setCell ⟨w.heap.size, 4, none⟩ (.bool (C.fl 4))).setCell ⟨w.heap.size, 5, none⟩ (.bool (C.fl 5))).setCell ⟨w.heap.size, 6, none⟩ (.int .i64 (C.nm 6))).setCell ⟨w.heap.size, 7, none⟩ (.int .i64 (C.nm 7))).setCell ⟨w.heap.size, 8, none⟩ (.int .i64 (C.nm 8))).setCell ⟨w.heap.size, 9, none⟩ (.int .i64 (C.nm 9))).setCell ⟨w.heap.size, 10, none⟩ (.int .i64 (C.nm 10))).setCell ⟨w.heap.size, 11, none⟩ (.int .i64 (C.nm 11))) := ⟨_, rfl⟩
      rw [← hW9] at hp ⊢
      have hb : Below w.heap.size w W9 := by
        rw [hW9]
        exact (Below.setCell (Below.setCell (Below.setCell (Below.setCell (Below.setCell (Below.setCell (Below.setCell (Below.setCell (Below.setCell (Below.setCell (Below.setCell (Below.setCell HK.out.b (p := ⟨w.heap.size, 0, none⟩) (Nat.le_refl _) _) (p := ⟨w.heap.size, 1, none⟩) (Nat.le_refl _) _) (p := ⟨w.heap.size, 2, none⟩) (Nat.le_refl _) _) (p := ⟨w.heap.size, 3, none⟩) (Nat.le_refl _) _) (p := ⟨w.heap.size, 4, none⟩) (Nat.le_refl _) _) (p := ⟨w.heap.size, 5, none⟩) (Nat.le_refl _) _) (p := ⟨w.heap.size, 6, none⟩) (Nat.le_refl _) _) (p := ⟨w.heap.size, 7, none⟩) (Nat.le_refl _) _) (p := ⟨w.heap.size, 8, none⟩) (Nat.le_refl _) _) (p := ⟨w.heap.size, 9, none⟩) (Nat.le_refl _) _) (p := ⟨w.heap.size, 10, none⟩) (Nat.le_refl _) _) (p := ⟨w.heap.size, 11, none⟩) (Nat.le_refl _) _)
      exact bodyPost_ret (v := .agg #[.bool (C.fl 0), .bool (C.fl 1), .bool (C.fl 2), .bool (C.fl 3), .bool (C.fl 4), .bool (C.fl 5), .int .i64 (C.nm 6), .int .i64 (C.nm 7), .int .i64 (C.nm 8), .int .i64 (C.nm 9), .int .i64 (C.nm 10), .int .i64 (C.nm 11)]) (by simp [results, Tryz.results20, go_sem, c_of hp 0 (v := .bool (C.fl 0)) rfl, c_of hp 1 (v := .bool (C.fl 1)) rfl, c_of hp 2 (v := .bool (C.fl 2)) rfl, c_of hp 3 (v := .bool (C.fl 3)) rfl, c_of hp 4 (v := .bool (C.fl 4)) rfl, c_of hp 5 (v := .bool (C.fl 5)) rfl, c_of hp 6 (v := .int .i64 (C.nm 6)) rfl, c_of hp 7 (v := .int .i64 (C.nm 7)) rfl, c_of hp 8 (v := .int .i64 (C.nm 8)) rfl, c_of hp 9 (v := .int .i64 (C.nm 9)) rfl, c_of hp 10 (v := .int .i64 (C.nm 10)) rfl, c_of hp 11 (v := .int .i64 (C.nm 11)) rfl]) rfl ⟨by rw [← HCd.out]; rfl, hb⟩
end Go.Proofs.YtbnhlekehndhkaaGreatDoor.Rb

