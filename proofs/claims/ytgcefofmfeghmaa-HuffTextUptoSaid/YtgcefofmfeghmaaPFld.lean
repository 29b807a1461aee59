import Derived.Test.YtgcefofmfeghmaaPRep
import Derived.Test.YtgcefofmfeghmaaPIb
import Derived.Lib.SlBytesConst
import Derived.Deep.CutBlock
/- huff.Fields's contract, for its callers. -/
namespace Go.Proofs.Ytgcefofmfeghmaa.Pl
open Go.RowKit Go.Proofs.YtgcefofmfeghmaaW.PrintWords Go.Proofs.YtgcefofmfeghmaaW.PrintLast Go.Proofs.YtgcefofmfeghmaaW.PrintMore Go.Proofs.Ytgcefofmfeghmaa.G
set_option linter.unusedVariables false
set_option linter.unusedSimpArgs false

def LET : List Int := [97, 98, 99, 100, 101, 102, 103, 104, 105, 106, 107, 108, 109, 110, 111, 112, 113, 114, 115, 116, 117, 118, 119, 120, 121, 122, 48, 49, 50, 51, 52, 53, 54, 55, 56, 57, 32, 58, 59, 61, 44, 37, 95, 42, 34, 63, 38, 43]
def TRE : List Int := [47, 45, 46]
def FIV : ByteArray := ⟨#[97, 99, 101, 105, 110, 111, 114, 115, 116, 47, 45, 46, 48, 49, 50]⟩
def st1 : Nat → List Int
  | 0 => List.replicate 256 13
  | j + 1 => (st1 j).set (33 + j) 9
def up2 (t : List Int) (c : Int) : List Int := if 0 ≤ Lib.indexByte FIV.data.toList c.toNat.toUInt8 then (t.set c.toNat 7).set c.toNat 5 else t.set c.toNat 7
def st2 : Nat → List Int
  | 0 => st1 94
  | j + 1 => up2 (st2 j) (rd LET (j : Int))
def st3 : Nat → List Int
  | 0 => st2 48
  | j + 1 => (st3 j).set (rd TRE (j : Int)).toNat 5
theorem st1_len : ∀ j, (st1 j).length = 256
  | 0 => by rw [st1, List.length_replicate]
  | j + 1 => by rw [st1, List.length_set, st1_len j]
theorem up2_len (t : List Int) (c : Int) : (up2 t c).length = t.length := by unfold up2; split <;> simp
theorem st2_len : ∀ j, (st2 j).length = 256
  | 0 => st1_len 94
  | j + 1 => by rw [st2, up2_len, st2_len j]
theorem st3_len : ∀ j, (st3 j).length = 256
  | 0 => st2_len 48
  | j + 1 => by rw [st3, List.length_set, st3_len j]
def Tb (W : World) (g : Nat) (xs : List Int) : Prop := W.heap[g]? = some (.cells (nums .i64 xs).toArray 3 (0, 0))
theorem tb_lt {W : World} {g : Nat} {xs : List Int} (h : Tb W g xs) : g < W.heap.size := (Array.getElem?_eq_some_iff.1 h).1
theorem tb_cell {W : World} {g : Nat} {xs : List Int} (h : Tb W g xs) (j : Nat) (hj : j < xs.length) : W.cell? ⟨g, j, none⟩ = some (.int .i64 (rd xs (j : Int))) := by
  have h' : W.heap[g]? = some (.cells (nums .i64 xs).toArray 3 (0, 0)) := h
  simp [World.cell?, h', nums, rd, hj, List.getD]
theorem tb_frozen {W : World} {g : Nat} {xs : List Int} (h : Tb W g xs) (j : Nat) : W.frozen? ⟨g, j, none⟩ = false := by
  have h' : W.heap[g]? = some (.cells (nums .i64 xs).toArray 3 (0, 0)) := h
  simp [World.frozen?, h']
theorem tb_put {W : World} {g : Nat} {xs : List Int} (h : Tb W g xs) (j : Nat) (v : Int) : Tb (W.setCell ⟨g, j, none⟩ (.int .i64 v)) g (xs.set j v) := by
  have h' : W.heap[g]? = some (.cells (nums .i64 xs).toArray 3 (0, 0)) := h
  unfold Tb
  rw [setCell_eq_setRow W g j _ 3 (0, 0) _ h', setRow_heap W g _ _ 3 _ h']
  simp [nums, List.map_set]
theorem tb_below {W W' : World} {g : Nat} {xs : List Int} (h : Tb W g xs) (hb : Below W.heap.size W W') : Tb W' g xs := (hb.block g (tb_lt h)).trans h
def Row (W : World) (b : Nat) (L : List Int) : Prop := ∀ j : Nat, j < L.length → W.cell? ⟨b, j, none⟩ = some (.int .u8 (rd L (j : Int)))
theorem row_set {W : World} {b g j : Nat} {L : List Int} {v : Value} (h : Row W b L) (hne : b ≠ g) : Row (W.setCell ⟨g, j, none⟩ v) b L := fun i hi => by
  have := World.cell?_setCell_other (w := W) (a := ⟨g, j, none⟩) (b := ⟨b, i, none⟩) (v := v) (by intro e; injection e with e1 e2 e3; exact hne e1.symm)
  rw [this]; exact h i hi
theorem let_ok : ∀ j : Nat, j < 48 → 0 ≤ rd LET (j : Int) ∧ rd LET (j : Int) < 256 := by decide +kernel
theorem tre_ok : ∀ j : Nat, j < 3 → 0 ≤ rd TRE (j : Int) ∧ rd TRE (j : Int) < 256 := by decide +kernel
theorem below_put {w W : World} {g j : Nat} {v : Value} (h : Below w.heap.size w W) (hg : w.heap.size ≤ g) : Below w.heap.size w (W.setCell ⟨g, j, none⟩ v) := Below.setCell h (by exact hg) _

theorem c13 (w : World) : Kd.C (Kd.int .i64) (w.alloc (.cells #[.int .i64 13] 3)) (some ⟨w.heap.size, 0, none⟩) 1 [13] := by
  have h := own_lit w w.heap.size 3 .i64 [13] (Nat.le_refl _) (by decide)
  have hR : Kd.R (Kd.int .i64) 3 (w.alloc (.cells #[.int .i64 13] 3)) w.heap.size (fun _ => True) (.slice (some ⟨w.heap.size, 0, none⟩) 1 1) [13] := Kd.R_of_own (enc := Value.int .i64) h (fun _ _ => trivial)
  obtain ⟨A, c, e, hl, hC⟩ := Kd.R_reads hR
  injection e with e1 e2 e3
  rw [e1]
  exact hC
theorem tb0 {W : World} {g : Nat} (h : W.heap[g]? = some (.cells (part 256).toArray 3 (0, 0))) : Tb W g (st1 0) := by
  have e : part 256 = nums .i64 (List.replicate 256 13) := by unfold part nums; rw [Nat.sub_self, List.replicate_zero, List.append_nil, List.map_replicate]
  rw [e] at h
  exact h
theorem row_let (W : World) (o : Obj) (ho : o = .cells (nums .u8 LET).toArray 5 (48, 49)) : Row (W.alloc o) W.heap.size LET := by
  intro j hj
  subst ho
  have hh : (W.alloc (.cells (nums .u8 LET).toArray 5 (48, 49))).heap[W.heap.size]? = some (.cells (nums .u8 LET).toArray 5 (48, 49)) := heap_alloc_new W _
  simp only [World.cell?, hh]
  simp [nums, rd, hj, List.getD]
theorem row_tre (W : World) (o : Obj) (ho : o = .cells (nums .u8 TRE).toArray 5 (3, 4)) : Row (W.alloc o) W.heap.size TRE := by
  intro j hj
  subst ho
  have hh : (W.alloc (.cells (nums .u8 TRE).toArray 5 (3, 4))).heap[W.heap.size]? = some (.cells (nums .u8 TRE).toArray 5 (3, 4)) := heap_alloc_new W _
  simp only [World.cell?, hh]
  simp [nums, rd, hj, List.getD]

set_option maxHeartbeats 4000000 in
set_option maxRecDepth 100000 in
theorem fields_calls (w : World) : Calls Try.prog 23 #[] w fun e w' => e = .returned (.slice (some ⟨w.heap.size + 1, 0, none⟩) 256 256) ∧ Tb w' (w.heap.size + 1) (st3 3) ∧ Below w.heap.size w w' := by
  have HR := Lib.hid (rep_gen part make_run part_len part_at (by kernel_rfl) doubled _ 1 _ (c13 w) (Nat.le_refl _))
  have hcv := fun (W : World) (C : Array Value) (n c : Nat) => Lib.run_convert_bytes_const (P := Try.prog) W 23 5 C n c Try.underlying23 Try.underlying5
  have HSZ : Hid ((w.alloc (.cells #[.int .i64 13] 3)).heap.size = w.heap.size + 1) := Lib.hid (by simp)
  have HI := Lib.hid (fun (c : Int) W => indexByte.calls FIV c _ W rfl)
  go_enter Try.func23, Try.ntmps23
  go_upto_region 2 with (go_at_call 28; refine HR.out.mono ?_; rintro e w2 ⟨rfl, hG, hb⟩; have HG : Hid (Tb w2 (w.heap.size + 1) (st1 0)) := Lib.hid (tb0 (by rw [HSZ.out] at hG; exact hG)); have HB2 := Lib.hid (below_step (below_alloc (Below.refl w.heap.size w) _) hb); clear hG hb)
  go_wp2
  go_loopg [2] 94 (fun k v2 W => ∃ x : Nat, x ≤ 94 ∧ 94 ≤ k + x ∧ v2 = .int .u8 ((33 + x : Nat) : Int) ∧ Hid (Tb W (w.heap.size + 1) (st1 x)) ∧ Hid (Below w.heap.size w W))
  case atStart => exact ⟨0, by omega, by omega, rfl, HG, HB2⟩
  case round =>
    obtain ⟨x, hx, hk, rfl, HT, HB⟩ := hrel
    clear HG HB2 HR
    have hgl := tb_lt HT.out
    by_cases hlt : x < 94
    · have c1 : decide (((33 + x : Nat) : Int) ≤ 126) = true := decide_eq_true (by omega)
      have hc := tb_cell HT.out (33 + x) (by rw [st1_len]; omega)
      have hz := tb_frozen HT.out (33 + x)
      have hx0 : 0 ≤ ((33 + x : Nat) : Int) := by omega
      have hx1 : ((33 + x : Nat) : Int) < 256 := by omega
      have hw : IntKind.u8.wrap (((33 + x : Nat) : Int) + 1) = ((33 + (x + 1) : Nat) : Int) := by rw [IntKind.wrap_u8]; omega
      have HW := Lib.hid hw
      have HP := Lib.hid (tb_put HT.out (33 + x) 9)
      have HBP := Lib.hid (below_put (j := 33 + x) (v := .int .i64 9) HB.out (Nat.le_succ _))
      obtain ⟨k1, rfl⟩ : ∃ k1, gk = k1 + 1 := ⟨gk - 1, by omega⟩
      clear hw
      go_wp2
      go_roundg k1
      case measure => omega
      case rel => exact ⟨x + 1, by omega, by omega, congrArg (Value.int .u8) (by omega), HP, HBP⟩
    · obtain rfl : x = 94 := by omega
      have c1 : decide (((33 + 94 : Nat) : Int) ≤ 126) = false := by decide
      have HRL := Lib.hid (row_let wr _ rfl)
      have HT0 := Lib.hid (tb_below HT.out (below_alloc (Below.refl _ _) (.cells (nums .u8 LET).toArray 5 (48, 49))))
      have HB0 := Lib.hid (below_alloc HB.out (.cells (nums .u8 LET).toArray 5 (48, 49)))
      go_wp2
      obtain ⟨b, hb⟩ : ∃ b, b = wr.heap.size := ⟨_, rfl⟩
      have hbg : b ≠ w.heap.size + 1 := by omega
      have hbl0 : b < (wr.alloc (.cells (nums .u8 LET).toArray 5 (48, 49))).heap.size := by rw [hb]; simp
      rw [← hb] at HRL ⊢
      clear c1 hb
      go_loopg [19] 48 (fun k v19 W => ∃ j : Nat, j ≤ 48 ∧ 48 ≤ k + j ∧ v19 = .int .i64 (j : Int) ∧ Hid (Row W b LET) ∧ Hid (Tb W (w.heap.size + 1) (st2 j)) ∧ Hid (Below w.heap.size w W) ∧ b < W.heap.size)
      case atStart => exact ⟨0, by omega, by omega, rfl, HRL, HT0, HB0, hbl0⟩
      case round =>
        obtain ⟨j, hj, hkj, rfl, HR2, HT2, HBB, hbl⟩ := hrel
        clear HRL HT0 HB0 HT HB
        by_cases hj48 : j < 48
        · obtain ⟨q0, q1⟩ := let_ok j hj48
          have hrow := HR2.out j (by exact hj48)
          have hst : st2 (j + 1) = up2 (st2 j) (rd LET (j : Int)) := by rw [st2]
          obtain ⟨n, hn⟩ : ∃ n : Nat, rd LET (j : Int) = (n : Int) := ⟨_, (Int.toNat_of_nonneg q0).symm⟩
          rw [hn] at hrow hst q1
          have hn256 : n < 256 := by omega
          obtain ⟨I, hI⟩ : ∃ I, I = Lib.indexByte FIV.data.toList ((n : Int)).toNat.toUInt8 := ⟨_, rfl⟩
          have HIn : Hid (∀ W, Calls Try.prog 29 #[.string FIV, .int .u8 (n : Int)] W fun e w' => e = .returned (.int .i64 I) ∧ Drawn0 W w') := Lib.hid (fun W => by have := HI.out (n : Int) W; rw [← hI] at this; exact this)
          have hup : up2 (st2 j) (n : Int) = if 0 ≤ I then ((st2 j).set n 7).set n 5 else (st2 j).set n 7 := by unfold up2; rw [← hI, Int.toNat_natCast]
          have HST := Lib.hid (hst.trans hup)
          clear hst hup hI hn q0
          have hc := tb_cell HT2.out n (by rw [st2_len]; exact hn256)
          have hz := tb_frozen HT2.out n
          have hx0 : 0 ≤ ((n : Nat) : Int) := by omega
          have hj0 : (j : Int) < 48 := by omega
          have cj : decide ((j : Int) < 48) = true := decide_eq_true hj0
          have HP := Lib.hid (tb_put HT2.out n 7)
          have HBP := Lib.hid (below_put (j := n) (v := .int .i64 7) HBB.out (Nat.le_succ w.heap.size))
          have HRP := Lib.hid (row_set (j := n) (v := .int .i64 7) HR2.out hbg)
          have hgl2 := tb_lt HT2.out
          obtain ⟨k1, rfl⟩ : ∃ k1, gk = k1 + 1 := ⟨gk - 1, by omega⟩
          have hw : wrap64 ((j : Int) + 1) = ((j + 1 : Nat) : Int) := by unfold wrap64; omega
          have HW := Lib.hid hw
          clear hw
          by_cases hI0 : 0 ≤ I
          · have cI : decide (0 ≤ I) = true := decide_eq_true hI0
            rw [if_pos hI0] at HST
            clear hI0
            go_wp2_with (first | (go_at_call 29; refine (HIn.out _).mono ?_; rintro e w' ⟨rfl, ⟨⟨m, rfl⟩⟩⟩; have HP1 := Lib.hid (tb_below HP.out (pw_below_drewN (Below.refl _ _) m)); have hc2 := tb_cell HP1.out n (by rw [List.length_set, st2_len]; exact hn256); have hz2 := tb_frozen HP1.out n))
            go_roundg k1
            case measure => omega
            case rel => exact ⟨j + 1, by omega, by omega, congrArg (Value.int .i64) (by omega), Lib.hid (row_set (fun i hi => HRP.out i hi) hbg), Lib.hid (by rw [HST.out]; exact tb_put HP1.out n 5), Lib.hid (below_put (below_step HBP.out (pw_below_drewN (Below.refl _ _) m)) (Nat.le_succ _)), by simpa using hbl⟩
          · have cI : decide (0 ≤ I) = false := decide_eq_false hI0
            rw [if_neg hI0] at HST
            clear hI0
            go_wp2_with (first | (go_at_call 29; refine (HIn.out _).mono ?_; rintro e w' ⟨rfl, ⟨⟨m, rfl⟩⟩⟩; have HP1 := Lib.hid (tb_below HP.out (pw_below_drewN (Below.refl _ _) m))))
            go_roundg k1
            case measure => omega
            case rel => exact ⟨j + 1, by omega, by omega, congrArg (Value.int .i64) (by omega), Lib.hid (fun i hi => HRP.out i hi), Lib.hid (by rw [HST.out]; exact HP1.out), Lib.hid (below_step HBP.out (pw_below_drewN (Below.refl _ _) m)), by simpa using hbl⟩
        · obtain rfl : j = 48 := by omega
          have cj : decide (((48 : Nat) : Int) < 48) = false := by decide
          have HRL := Lib.hid (row_tre wr _ rfl)
          have HT0 := Lib.hid (tb_below HT2.out (below_alloc (Below.refl _ _) (.cells (nums .u8 TRE).toArray 5 (3, 4))))
          have HB0 := Lib.hid (below_alloc HBB.out (.cells (nums .u8 TRE).toArray 5 (3, 4)))
          have hgl3 := tb_lt HT2.out
          clear HR2 hbl hbl0 hbg HI
          go_wp2
          obtain ⟨d, hd⟩ : ∃ d, d = wr.heap.size := ⟨_, rfl⟩
          have hdg : d ≠ w.heap.size + 1 := by omega
          have hdl0 : d < (wr.alloc (.cells (nums .u8 TRE).toArray 5 (3, 4))).heap.size := by rw [hd]; simp
          rw [← hd] at HRL ⊢
          clear cj hd
          go_loopg [36] 3 (fun k v36 W => ∃ i : Nat, i ≤ 3 ∧ 3 ≤ k + i ∧ v36 = .int .i64 (i : Int) ∧ Hid (Row W d TRE) ∧ Hid (Tb W (w.heap.size + 1) (st3 i)) ∧ Hid (Below w.heap.size w W) ∧ d < W.heap.size)
          case atStart => exact ⟨0, by omega, by omega, rfl, HRL, HT0, HB0, hdl0⟩
          case round =>
            obtain ⟨i, hi, hki, rfl, HR3, HT3, HB3, hdl⟩ := hrel
            clear HRL HT0 HB0 HT2 HBB
            have hgl4 := tb_lt HT3.out
            by_cases hi3 : i < 3
            · obtain ⟨q0, q1⟩ := tre_ok i hi3
              have hrow := HR3.out i (by exact hi3)
              have hst : st3 (i + 1) = (st3 i).set (rd TRE (i : Int)).toNat 5 := by rw [st3]
              obtain ⟨n, hn⟩ : ∃ n : Nat, rd TRE (i : Int) = (n : Int) := ⟨_, (Int.toNat_of_nonneg q0).symm⟩
              rw [hn] at hrow hst q1
              rw [Int.toNat_natCast] at hst
              have hn256 : n < 256 := by omega
              have HST := Lib.hid hst
              clear hst hn q0
              have hc := tb_cell HT3.out n (by rw [st3_len]; exact hn256)
              have hz := tb_frozen HT3.out n
              have hx0 : 0 ≤ ((n : Nat) : Int) := by omega
              have hi0 : (i : Int) < 3 := by omega
              have ci : decide ((i : Int) < 3) = true := decide_eq_true hi0
              have HP := Lib.hid (tb_put HT3.out n 5)
              have HBP := Lib.hid (below_put (j := n) (v := .int .i64 5) HB3.out (Nat.le_succ w.heap.size))
              have HRP := Lib.hid (row_set (j := n) (v := .int .i64 5) HR3.out hdg)
              obtain ⟨k1, rfl⟩ : ∃ k1, gk = k1 + 1 := ⟨gk - 1, by omega⟩
              go_wp2
              go_roundg k1
              case measure => omega
              case rel => exact ⟨i + 1, by omega, by omega, congrArg (Value.int .i64) (by omega), HRP, Lib.hid (by rw [HST.out]; exact HP.out), HBP, by simpa using hdl⟩
            · obtain rfl : i = 3 := by omega
              have ci : decide (((3 : Nat) : Int) < 3) = false := by decide
              go_wp2
              go_ret
              exact ⟨rfl, HT3.out, HB3.out⟩
theorem tb_R (W : World) (base g : Nat) (xs : List Int) (hl : xs.length = 256) (hb : base ≤ g) (h : Tb W g xs) : Kd.R (Kd.int .i64) 3 W base (fun _ => True) (.slice (some ⟨g, 0, none⟩) 256 256) xs := by
  refine Kd.R_of_own (enc := Value.int .i64) ?_ (fun _ _ => trivial)
  have he : encs (Value.int .i64) xs = nums .i64 xs := rfl
  have hn : (nums .i64 xs).length = 256 := by unfold nums; rw [List.length_map, hl]
  rw [hl, he]
  refine ⟨by rw [hn], Or.inr ⟨g, 256, _, rfl, hb, h, Nat.le_refl _, by decide, by rw [List.size_toArray, hn], ?_⟩⟩
  rw [List.take_of_length_le (by rw [hn]; omega)]
def fields.f : Option (List Int) := some (st3 3)
theorem fields.calls (r : List Int) (w : World) (h : fields.f = some r) : Calls Try.prog 23 #[] w fun e w' => ∃ v0_ : Value, e = .returned v0_ ∧ Kd.R (Kd.int .i64) 3 w' w.heap.size (fun _ => True) v0_ r ∧ Below w.heap.size w w' := by
  obtain rfl := Option.some.inj h
  refine (fields_calls w).mono ?_
  rintro e w' ⟨rfl, hT, hB⟩
  exact ⟨_, rfl, tb_R w' _ _ _ (st3_len 3) (Nat.le_succ _) hT, hB⟩
end Go.Proofs.Ytgcefofmfeghmaa.Pl
