import Derived.Test.YtbnhlekehndhkaaGreatDoorYDaT

/- date.Parse: its contract. -/
namespace Go.Proofs.YtbnhlekehndhkaaGreatDoor.Da
open Go.RowKit Go.Proofs.YtbnhlekehndhkaaGreatDoorW.PrintWords Go.Proofs.YtbnhlekehndhkaaGreatDoorW.PrintLast Go.Proofs.YtbnhlekehndhkaaGreatDoorW.PrintMore Go.Proofs.YtbnhlekehndhkaaGreatDoor.G
set_option linter.unusedVariables false
set_option linter.unusedSimpArgs false
theorem atoi_ok (s : ByteArray) (v : Int) (h : Lib.atoiAll s.data.toList = .ok v) (hs : s.size ≤ 1000) (w : World) : Calls Tryz.prog 78 #[.string s] w fun e w' => e = .returned (.tuple #[.int .i64 v, .nilIface]) ∧ Below w.heap.size w w' :=
  (Tryz.strconv_Atoi_ok s (by omega) v h w).mono fun e w' ⟨he, hw⟩ => ⟨he, by
    rcases hw with rfl | ⟨t, rfl⟩
    · exact Below.refl _ _
    · exact Lib.bytesWorld_below _ _ _⟩
theorem atoi_bad (s : ByteArray) (h : ∀ v, Lib.atoiAll s.data.toList ≠ .ok v) (hs : s.size ≤ 1000) (w : World) (hG : Glob w) : Calls Tryz.prog 78 #[.string s] w fun e w' => (∃ v N, e = .returned (.tuple #[.int .i64 v, .iface 172 (.pointer (some ⟨N, 0, none⟩))])) ∧ Below w.heap.size w w' := by
  cases ha : Lib.atoiAll s.data.toList with
  | ok v => exact absurd ha (h v)
  | «syntax» =>
    obtain ⟨tp, p, hv⟩ := hG.sy
    exact (Tryz.strconv_Atoi_syntax_var s (by omega) ha tp p w hv).mono fun e w' ⟨N, he, _, _, hb⟩ => ⟨⟨_, N, he⟩, hb⟩
  | range =>
    obtain ⟨tp, p, hv⟩ := hG.rg
    exact (Tryz.strconv_Atoi_range_var s (by omega) ha tp p w hv).mono fun e w' ⟨N, he, _, _, hb⟩ => ⟨⟨_, N, he⟩, hb⟩
def Text (s : ByteArray) (n : Int) : Prop := ∃ y M d h mi sc wd, IsText s n y M d h mi sc wd
def NoText (s : ByteArray) : Prop := ∀ n, ¬ Text s n
def PPost (s : ByteArray) (w : World) (e : Ending) (w' : World) : Prop :=
  Below w.heap.size w w' ∧ ((e = .returned (.tuple #[.int .i64 0, .int .i64 15]) ∧ NoText s) ∨ ∃ n, Text s n ∧ e = .returned (.tuple #[.int .i64 n, .int .i64 0]))
theorem rlit2 {w : World} {g base : Nat} {a b : ByteArray} (h : w.heap[g]? = some (.cells #[.string a, .string b] 9 (0, 0))) (hb : base ≤ g) : Kd.R Kd.string 9 w base (fun k => base ≤ k) (.slice (some ⟨g, 0, none⟩) 2 2) [a, b] := by
  refine ⟨fun k hk => ?_, [.string a, .string b], ⟨rfl, .inr ⟨g, 2, #[.string a, .string b], rfl, hb, h, by simp, by decide, rfl, rfl⟩⟩, ⟨rfl, fun j p hj => ?_⟩⟩
  · simp only [Value.ownBlock, Option.some.injEq] at hk
    omega
  · rcases j with _ | _ | j
    · obtain rfl := Option.some.inj hj; exact rfl
    · obtain rfl := Option.some.inj hj; exact rfl
    · simp at hj
theorem reads_of {w : World} {g t : Nat} {m : Nat × Nat} {Q : List ByteArray} (h : w.heap[g]? = some (.cells (Q.map Value.string).toArray t m)) (hl : Q.length ≤ 9223372036854775807) : Kd.C Kd.string w (some ⟨g, 0, none⟩) Q.length Q := by
  refine ⟨rfl, hl, fun _ => ⟨_, rfl, fun j p hj => ⟨[.string p], rfl, rfl, fun i u hu => ?_⟩⟩⟩
  rcases i with _ | i
  · obtain rfl := Option.some.inj hu
    rw [add_plain]
    exact c_of h _ (by simp [hj, show Kd.string.sz = 1 from rfl])
  · simp at hu
theorem split_len (s : ByteArray) (c : UInt8) : (Lib.splitB ⟨#[c]⟩ 0 (Lib.countB s ⟨#[c]⟩) s).length = Lib.countB s ⟨#[c]⟩ + 1 := Lib.splitB_all ⟨#[c]⟩ (Nat.le_refl 1) 0 _ s rfl
theorem info9 : (Tryz.prog.info? 9).map (fun i => (i.zero, i.size, i.bytes)) = some (some (.string ⟨#[]⟩), 1, 16) := by kernel_rfl
theorem info3 : (Tryz.prog.info? 3).map (fun i => (i.zero, i.size, i.bytes)) = some (some (.int .i64 0), 1, 8) := by kernel_rfl
set_option maxRecDepth 100000 in
set_option maxHeartbeats 4000000 in
theorem parse_bad (s : ByteArray) (w : World) (hG : Glob w) (hs : s.size < 4294967281) (hb : Lib.countB s ⟨#[32]⟩ ≠ 5 ∨ s.size ≠ 29) : Calls Tryz.prog 79 #[.string s] w (PPost s w) := by
  obtain ⟨m, hm⟩ := hG.mx
  have HS := Lib.hid (Tryz.strings_Split s ⟨#[32]⟩ m w hs hm (by decide))
  have HNO : Hid (NoText s) := Lib.hid (fun n ⟨y, M, d, h, mi, sc, wd, t⟩ => by
    have := t.split
    omega)
  obtain ⟨k, hk⟩ : ∃ k, k = Lib.countB s ⟨#[32]⟩ := ⟨_, rfl⟩
  rw [← hk] at HS hb
  have hkl : k ≤ 9223372036854775800 := by
    have h1 : Lib.countB s ⟨#[32]⟩ ≤ s.data.toList.length + 1 := Lib.count_le s.data.toList (⟨#[32]⟩ : ByteArray).data.toList
    have e : s.data.toList.length = s.size := rfl
    omega
  clear hk hm hG
  rcases Classical.em (k = 5) with h5 | h5
  · subst h5
    have t0 : ((s.size : Int) != 29) = true := by rw [bne_iff_ne]; omega
    clear hb
    go_enter Tryz.func79, Tryz.ntmps79
    go_wp2_with (go_at_call 111; refine HS.out.mono ?_; rintro e w1 ⟨rfl, hw1⟩; have HW1 := Lib.hid hw1; clear hw1)
    go_ret2
    exact ⟨by rw [HW1.out]; exact below_alloc (Below.refl _ _) _, .inl ⟨rfl, HNO.out⟩⟩
  · have t0 : (((k + 1 : Nat) : Int) != 6) = true := by rw [bne_iff_ne]; omega
    have t1 : (((k : Int) + 1) != 6) = true := by rw [bne_iff_ne]; omega
    clear hb
    go_enter Tryz.func79, Tryz.ntmps79
    go_wp2_with (go_at_call 111; refine HS.out.mono ?_; rintro e w1 ⟨rfl, hw1⟩; have HW1 := Lib.hid hw1; clear hw1)
    go_ret2
    exact ⟨by rw [HW1.out]; exact below_alloc (Below.refl _ _) _, .inl ⟨rfl, HNO.out⟩⟩
theorem extract_size (s : ByteArray) (a b : Nat) : (s.extract a b).size ≤ s.size := by
  rw [ByteArray.size_extract]; omega
theorem split_small (sep : ByteArray) : ∀ (k : Nat) (s p : ByteArray), p ∈ Lib.splitB sep 0 k s → p.size ≤ s.size
  | 0, s, p, h => by
    rw [Lib.splitB_zero] at h
    simp only [List.mem_singleton] at h
    rw [h]; exact Nat.le_refl _
  | k + 1, s, p, h => by
    unfold Lib.splitB at h
    split at h
    · simp only [List.mem_singleton] at h
      rw [h]; exact Nat.le_refl _
    · rcases List.mem_cons.1 h with rfl | h
      · exact extract_size _ _ _
      · exact Nat.le_trans (split_small sep k _ p h) (extract_size _ _ _)
theorem Text.pieces {s : ByteArray} {n : Int} {y M d h mi sc wd : Nat} (t : IsText s n y M d h mi sc wd) {p0 p1 p2 p3 p4 p5 : ByteArray} (hP : Lib.splitB ⟨#[32]⟩ 0 (Lib.countB s ⟨#[32]⟩) s = [p0, p1, p2, p3, p4, p5]) :
    p1 = B (two d) ∧ p2 = B (mons.getD M []) ∧ p3 = B (four y) ∧ p4 = B (clockL h mi sc) := by
  have h1 := t.split.2.2
  rw [hP] at h1
  simp only [Da.pieces, List.map_cons, List.map_nil, List.cons.injEq] at h1
  exact ⟨h1.2.1, h1.2.2.1, h1.2.2.2.1, h1.2.2.2.2.1⟩
/-- the numbers of a text -/
theorem Text.list {s : ByteArray} {n : Int} {y M d h mi sc wd : Nat} (t : IsText s n y M d h mi sc wd) {p0 p1 p2 p3 p4 p5 : ByteArray} (hP : Lib.splitB ⟨#[32]⟩ 0 (Lib.countB s ⟨#[32]⟩) s = [p0, p1, p2, p3, p4, p5]) :
    [p3, p1] ++ Lib.splitB ⟨#[58]⟩ 0 (Lib.countB p4 ⟨#[58]⟩) p4 = [B (four y), B (two d), B (two h), B (two mi), B (two sc)] := by
  obtain ⟨e1, e2, e3, e4⟩ := Text.pieces t hP
  rw [e1, e3, e4, t.clock]
  rfl
theorem Text.vals {s : ByteArray} {n : Int} {y M d h mi sc wd : Nat} (t : IsText s n y M d h mi sc wd) : ([B (four y), B (two d), B (two h), B (two mi), B (two sc)].map fun p => Lib.atoiAll p.data.toList) = [.ok (y : Int), .ok (d : Int), .ok (h : Int), .ok (mi : Int), .ok (sc : Int)] := by
  obtain ⟨⟨⟨y0, y1, m0, m1, d0, d1⟩, h0, h1, mi0, mi1, s0, s1⟩, -, -, w7, rfl⟩ := t
  have hd := dim_lo (y : Int) ((M : Int) + 1)
  simp only [List.map_cons, List.map_nil]
  rw [atoi_four y (by omega), atoi_two d (by omega), atoi_two h (by omega), atoi_two mi (by omega), atoi_two sc (by omega)]
/-- the values read so far -/
def Vals (L : List ByteArray) (k : Nat) (nums : List Int) : Prop := nums.map Lib.NumEnd.ok = (L.take k).map fun p => Lib.atoiAll p.data.toList
theorem vals_snoc {L : List ByteArray} {i : Nat} {nums : List Int} {li : ByteArray} {v : Int} (h : Vals L i nums) (hl : L[i]? = some li) (hv : Lib.atoiAll li.data.toList = .ok v) : Vals L (i + 1) (nums ++ [v]) := by
  unfold Vals at *
  rw [List.take_add_one, hl, Option.toList_some, List.map_append, List.map_append, h]
  simp [hv]
theorem monsA {W w9 : World} {a o : Obj} (h : w9 = (W.alloc a).drew.alloc o) : w9.heap[W.heap.size + 1]? = some o := by
  subst h
  have := heap_alloc_new (W.alloc a).drew o
  rwa [show (W.alloc a).drew.heap.size = W.heap.size + 1 from World.size_alloc _ _] at this
theorem monsB {W w9 : World} {o : Obj} (h : w9 = W.drew.alloc o) : w9.heap[W.heap.size]? = some o := by
  subst h; exact heap_alloc_new W.drew o
theorem monsC {W w9 : World} {a o : Obj} (h : w9 = W.drew.alloc o) : (w9.alloc a).heap[W.heap.size]? = some o := by
  subst h; exact blk_bel (below_alloc (Below.refl _ _) _) (heap_alloc_new W.drew o)
theorem index_at (g : Nat) (x : ByteArray) (w : World) (h : w.heap[g]? = some (.cells (nameCells mons) 9 (0, 0))) : Calls Tryz.prog 99 #[.slice (some ⟨g, 0, none⟩) 12 12, .string x] w fun e w' => e = .returned (.int .i64 (Lib.idxOfS (mons.map B) x)) ∧ w' = w := by
  have := Tryz.slices_Index_string g 0 12 12 (mons.map B) x w (by decide) (by decide) (fun j hj => by
    rw [Nat.zero_add]
    refine c_of h j ?_
    have hj' : j < mons.length := by simpa using hj
    rw [name_at mons j hj']
    simp [List.getD_eq_getElem?_getD, List.getElem?_map, List.getElem?_eq_getElem hj', B])
  exact this
end Go.Proofs.YtbnhlekehndhkaaGreatDoor.Da

