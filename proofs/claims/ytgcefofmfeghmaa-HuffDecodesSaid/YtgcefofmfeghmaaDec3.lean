import Derived.Test.YtgcefofmfeghmaaDec2
import Derived.Test.YtgcefofmfeghmaaGxf16
import Derived.Test.YtgcefofmfeghmaaWLast
import Derived.Deep.QuietTactic
import Derived.BigQuiet
import Derived.Outline
/- huff.Decode -/
namespace Go.Proofs.Ytgcefofmfeghmaa.Mp
open Go.RowKit Go.Proofs.YtgcefofmfeghmaaW.PrintWords Go.Proofs.YtgcefofmfeghmaaW.PrintLast Go.Proofs.YtgcefofmfeghmaaW.PrintMore Go.Proofs.Ytgcefofmfeghmaa.G
set_option linter.unusedVariables false
set_option linter.unusedSimpArgs false

theorem alloc_at (w : World) (o : Obj) (b : Nat) (m : List (S36 × Int)) (h : MapAt w b m) : MapAt (w.alloc o) b m := h.same ((below_alloc (Below.refl w.heap.size w) o).block b h.lt)
theorem cells_of {w : World} {g : Nat} {cs : Array Value} {t : Nat} {m : Nat × Nat} (h : w.heap[g]? = some (.cells cs t m)) (j : Nat) : w.cell? ⟨g, j, none⟩ = cs[j]? := by simp [World.cell?, h]
theorem blt {w : World} {g : Nat} {o : Obj} (h : w.heap[g]? = some o) : g < w.heap.size := (Array.getElem?_eq_some_iff.1 h).1

theorem shift_run (x : Int) (q : Nat) (hq : q < 8) (w : World) : (Op.shift BinOp.shr IntKind.u8 x IntKind.i64 (wrap64 (7 - (q : Int)))).run Try.prog w = .ok (.int .u8 (x / 2 ^ (7 - q))) w := by
  have e : wrap64 (7 - (q : Int)) = ((7 - q : Nat) : Int) := by unfold wrap64; omega
  rw [e]
  unfold Op.shift
  rw [if_neg (by omega)]
  have h2 : min (7 - q) IntKind.u8.bits = 7 - q := by simp [IntKind.bits]; omega
  simp only [Int.toNat_natCast, h2, Sem.run_pure]
  rw [Int.fdiv_eq_ediv_of_nonneg _ (Int.pow_nonneg (by decide))]

theorem below_drewN {B : Nat} {a w : World} (h : Below B a w) (n : Nat) : Below B a (w.drewN n) := pw_below_drewN h n

set_option maxRecDepth 100000 in
set_option maxHeartbeats 8000000 in
theorem decode_yes (k : Nat) (A0 : Option Addr) (c0 : Nat) (l0 : List Int) (A1 : Option Addr) (c1 : Nat) (l1 : List Int) (ws : List S36) (w : World) (hr0 : Kd.C (Kd.int .i64) w A0 l0.length l0) (hc0 : l0.length ≤ c0) (hr1 : Kd.C (Kd.int .u8) w A1 l1.length l1) (hc1 : l1.length ≤ c1)
    (hw : huff_Words.f k l0 = some (ws, 0)) (hd : distB ws = true) (hlen : l1.length ≤ 1000000000000) (hby : ∀ x ∈ l1, 0 ≤ x ∧ x < 256) :
    Calls Try.prog 14 #[.slice A0 l0.length c0, .slice A1 l1.length c1] w fun e w' => ∃ v0_ : Value, e = .returned (.tuple #[v0_, .int .i64 (decodeF ws l1).2]) ∧ Kd.R (Kd.int .u8) 5 w' w.heap.size (fun _ => True) v0_ (decodeF ws l1).1 ∧ Below w.heap.size w w' := by
  have HW := Lib.hid (huff_Words.calls k A0 c0 l0 ws 0 w hr0 hc0 hw)
  have HC1 := Lib.hid hr1
  have HD := Lib.hid hd
  have HBY := Lib.hid hby
  clear hr0 hw hd hr1 hby hc0
  have hmm := @run_makeMap Try.prog
  go_enter Try.func14, Try.ntmps14
  go_wp2_with (first | (go_at_call 16; refine HW.out.mono ?_; rintro e w1 ⟨v1, rfl, hR1, hb1⟩; obtain ⟨A, c, rfl, hl1, hC1⟩ := Kd.R_reads hR1; have HCW := Lib.hid hC1; have HB1 := Lib.hid hb1; clear hR1 hb1 hC1))
  have hz1 := HB1.out.size
  have hwm : ws.length ≤ 9223372036854775807 := Kd.C_max HCW.out
  obtain ⟨W2, hW2⟩ : ∃ W2, W2 = w1.alloc (.map #[] 0) := ⟨_, rfl⟩
  have M2 : Hid (MapAt W2 w1.heap.size []) := Lib.hid ⟨#[], 0, by rw [hW2]; exact heap_alloc_new w1 _, rfl⟩
  have B2 : Hid (Below w1.heap.size w1 W2) := Lib.hid (by rw [hW2]; exact below_alloc (Below.refl _ _) _)
  have hz2 : W2.heap.size = w1.heap.size + 1 := by rw [hW2]; simp
  (try rw [← hW2])
  clear hW2
  go_loopg [9, 10, 29] ws.length (fun k v9 v10 v29 wr => ∃ j : Nat, v29 = .int .i64 (j : Int) ∧ j ≤ ws.length ∧ ws.length ≤ k + j ∧ w1.heap.size < wr.heap.size ∧ Hid (Below w1.heap.size w1 wr) ∧ Hid (MapAt wr w1.heap.size (symMap ws j)))
  case atStart => exact ⟨0, rfl, by omega, by omega, by omega, B2, M2⟩
  case round =>
    obtain ⟨j, rfl, hj, hk, hwz, HBW, HM⟩ := hrel
    by_cases hlt : j < ws.length
    · have t1 : decide ((j : Int) < (ws.length : Int)) = true := decide_eq_true (by omega)
      have p1 : 0 ≤ (j : Int) := by omega
      have p2 : (j : Int) < (ws.length : Int) := by omega
      obtain ⟨ko, rfl⟩ : ∃ ko, gk = ko + 1 := ⟨gk - 1, by omega⟩
      obtain ⟨ad, rfl, hx0, hx1⟩ := at_T36 (Kd.C_below HCW.out HBW.out) (j : Int) (by omega) (by omega)
      rw [Int.toNat_natCast] at hx0 hx1
      have hadl := World.block_lt_of_cell? wr _ hx0
      have HSS := Lib.hid (symMap_succ ws j)
      have HDJ := Lib.hid (distB_at HD.out j hlt)
      obtain ⟨x, hx⟩ : ∃ x, x = rd_T36 ws (j : Int) := ⟨_, rfl⟩
      rw [← hx] at hx0 hx1 HSS HDJ
      clear hx
      have BA : Hid (Below w1.heap.size w1 (wr.alloc (.cells #[.int .i64 x.f0, .int .i64 x.f1] 36))) := Lib.hid (below_alloc HBW.out _)
      have HMA : Hid (MapAt (wr.alloc (.cells #[.int .i64 x.f0, .int .i64 x.f1] 36)) w1.heap.size (symMap ws j)) := Lib.hid (alloc_at _ _ _ _ HM.out)
      by_cases hx0' : 0 < x.f1
      · have t2 : decide (0 < x.f1) = true := decide_eq_true hx0'
        have HP := Lib.hid hx0'
        clear hx0'
        go_wp2_with (first | (at_mapUpdate; refine wp_upd _ rfl (.tmp 37) (.tmp 38) (.tmp 40) rfl w1.heap.size (symMap ws j) rfl HMA.out x _ rfl rfl (HDJ.out HP.out) ?_; intro w3 hM3 hG3; have HM3 := Lib.hid hM3; have HG3 := Lib.hid hG3; clear hM3 hG3))
        have hz3 := HG3.out.size
        go_roundg ko
        case measure => omega
        case rel => exact ⟨j + 1, by go_num, hlt, by omega, by simp at hz3; omega, Lib.hid (BA.out.grown HG3.out (by simp; omega) (fun k hk => by cases hk; exact Nat.le_refl _)), Lib.hid (by rw [HSS.out, if_pos HP.out]; exact HM3.out)⟩
      · have t2 : decide (0 < x.f1) = false := decide_eq_false hx0'
        have HP := Lib.hid hx0'
        clear hx0'
        go_wp2
        go_roundg ko
        case measure => omega
        case rel => exact ⟨j + 1, by go_num, hlt, by omega, by simp; omega, BA, Lib.hid (by rw [HSS.out, if_neg (by have := HP.out; omega)]; exact HMA.out)⟩
    · have t1 : decide ((j : Int) < (ws.length : Int)) = false := decide_eq_false (by omega)
      obtain rfl : ws.length = j := by omega
      obtain ⟨w5, rfl⟩ : ∃ w5 : World, w5 = wr := ⟨_, rfl⟩
      obtain ⟨m, hm⟩ : ∃ m, m = symMap ws ws.length := ⟨_, rfl⟩
      rw [← hm] at HM
      have HMD := Lib.hid hm
      clear hm t1 hlt hk hj
      have HA1 : Hid (∀ W, Below w5.heap.size w5 W → Kd.C (Kd.int .u8) W A1 l1.length l1) := Lib.hid (fun W hW => Kd.C_below HC1.out (below_step HB1.out (below_step HBW.out hW)))
      have HMW : Hid (∀ W, Below w5.heap.size w5 W → MapAt W w1.heap.size m) := Lib.hid (fun W hW => HM.out.same (hW.block _ HM.out.lt))
      have HBF : Hid (∀ W, Below w5.heap.size w5 W → Below w.heap.size w W) := Lib.hid (fun W hW => below_step HB1.out (below_step HBW.out hW))
      have hzw : w.heap.size ≤ w5.heap.size := by have := HBW.out.size; omega
      clear HM HBW M2 B2 HD HCW hz2
      go_wp2
      obtain ⟨W4, hW4⟩ : ∃ W4, W4 = w5.alloc (.cells #[.int .i64 0, .int .i64 0] 36) := ⟨_, rfl⟩
      have S4 : Hid (W4.heap[w5.heap.size]? = some (.cells #[.int .i64 0, .int .i64 0] 36 (0, 0))) := Lib.hid (by rw [hW4]; exact heap_alloc_new w5 _)
      have B4 : Hid (Below w5.heap.size w5 W4) := Lib.hid (by rw [hW4]; exact below_alloc (Below.refl _ _) _)
      (try rw [← hW4])
      clear hW4
      obtain ⟨sb, hsb⟩ : ∃ sb, sb = w5.heap.size := ⟨_, rfl⟩
      rw [← hsb] at S4
      rw [← hsb]
      have HSB := Lib.hid hsb
      have hsb1 : sb ≤ w5.heap.size := by omega
      have hsb2 : w5.heap.size ≤ sb := by omega
      clear hsb
      go_loopg [11, 14, 15, 16, 17, 44] l1.length (fun k v11 v14 v15 v16 v17 v44 W => ∃ (i : Nat) (s : DS), v44 = .int .i64 (i : Int) ∧ i ≤ l1.length ∧ l1.length ≤ k + i ∧ sb < W.heap.size ∧ Hid (Below w5.heap.size w5 W) ∧ Hid (W.heap[sb]? = some (.cells #[.int .i64 s.2.1, .int .i64 s.2.2] 36 (0, 0))) ∧ Hid (Kd.R (Kd.int .u8) 5 W (sb + 1) (fun _ => True) v11 s.1) ∧ Hid (drun m ([], 0, 0) (bitsOf (l1.take i)) = some s))
      case atStart => exact ⟨0, ([], 0, 0), rfl, by omega, by omega, blt S4.out, B4, S4, Lib.hid (Kd.R_nil _ _ _ _ _), Lib.hid rfl⟩
      case round =>
        obtain ⟨i, s, rfl, hi, hk, hwz2, HBW, HS, HV, HDR⟩ := hrel
        by_cases hlt : i < l1.length
        · have t1 : decide ((i : Int) < (l1.length : Int)) = true := decide_eq_true (by omega)
          have p1 : 0 ≤ (i : Int) := by omega
          have p2 : (i : Int) < (l1.length : Int) := by omega
          obtain ⟨ko, rfl⟩ : ∃ ko, gk = ko + 1 := ⟨gk - 1, by omega⟩
          obtain ⟨ad, rfl, hx0⟩ := Kd.at_int (HA1.out _ HBW.out) (i : Int) (by omega) (by omega)
          rw [Int.toNat_natCast] at hx0
          have hadl := World.block_lt_of_cell? wr _ hx0
          obtain ⟨x, hx⟩ : ∃ x, x = rd l1 (i : Int) := ⟨_, rfl⟩
          rw [← hx] at hx0
          have HX : Hid (l1.take (i + 1) = l1.take i ++ [x]) := Lib.hid (by
            rw [List.take_succ_eq_append_getElem hlt, hx]
            simp [rd, hlt])
          have hxb : 0 ≤ x ∧ x < 256 := by
            refine HBY.out x ?_
            rw [hx]
            simp [rd, hlt]
          obtain ⟨hxb1, hxb2⟩ := hxb
          have HXR := Lib.hid hx
          clear hx
          go_wp2
          go_loopg [11, 15, 16, 17, 48] 8 (fun k v11 v15 v16 v17 v48 W => ∃ (q : Nat) (t : DS), v48 = .int .i64 (q : Int) ∧ q ≤ 8 ∧ 8 ≤ k + q ∧ sb < W.heap.size ∧ Hid (Below w5.heap.size w5 W) ∧ Hid (W.heap[sb]? = some (.cells #[.int .i64 t.2.1, .int .i64 t.2.2] 36 (0, 0))) ∧ Hid (Kd.R (Kd.int .u8) 5 W (sb + 1) (fun _ => True) v11 t.1) ∧ Hid (drun m ([], 0, 0) (bitsOf (l1.take i) ++ bits8 x q) = some t))
          case atStart => exact ⟨0, s, rfl, by omega, by omega, hwz2, HBW, HS, HV, Lib.hid (by rw [show bits8 x 0 = [] from rfl, List.append_nil]; exact HDR.out)⟩
          case round =>
            obtain ⟨q, t, rfl, hq, hqk, hwz3, HBW3, HS3, HV3, HDR3⟩ := hrel
            have hok := dok_at hq HDR3.out
            rw [List.length_take, Nat.min_eq_left (by omega)] at hok
            have o1 := hok.lo
            have o2 := hok.small
            have o3 := hok.l0
            have o4 := hok.l1
            have o5 := hok.len
            clear hok
            obtain ⟨out, B, L⟩ := t
            simp only at o1 o2 o3 o4 o5
            by_cases hq8 : q < 8
            · have t2 : decide ((q : Int) < 8) = true := decide_eq_true (by omega)
              obtain ⟨kq, rfl⟩ : ∃ kq, gk = kq + 1 := ⟨gk - 1, by omega⟩
              have s0 := cells_of HS3.out 0
              have s1 := cells_of HS3.out 1
              simp only [List.getElem?_toArray, List.getElem?_cons_succ, List.getElem?_cons_zero] at s0 s1
              have hz3 := blk_frozen HS3.out
              have hsh := shift_run x q hq8
              go_upto_region 19 with fail
              refine start_ (n := 15) (S := fun w' => w'.cell? ⟨sb, 0, none⟩ = some (.int .i64 B) ∧ w'.cell? ⟨sb, 1, none⟩ = some (.int .i64 L)) (ds := [14]) #[false, false, false, false, false, false, false, false, false, false, false, false, false, false, false] (by kernel_rfl) rfl rfl ⟨s0, s1⟩ (fun hHeld => ?_)
              refine pure_ (i := 0) (N := some 51) (v := ?_) (a' := ?_) #[true, false, false, false, false, false, false, false, false, false, false, false, false, false, false] rfl rfl (by kernel_rfl) (fun _ _ _ h => h) (Or.inl ⟨by rfl, ?_⟩) ?_ ?_
              rotate_left
              · intro w'
                go_simp
                with_reducible rfl
              rotate_left
              · simp only [Act.put, List.setIfInBounds_toArray, List.set_cons_zero, List.set_cons_succ, i64_w, i32_w]
                rfl
              refine pure_ (i := 3) (N := some 54) (v := ?_) (a' := ?_) #[true, false, false, true, false, false, false, false, false, false, false, false, false, false, false] rfl rfl (by kernel_rfl) (fun _ _ _ h => h) (Or.inl ⟨by rfl, ?_⟩) ?_ ?_
              rotate_left
              · intro w'
                go_simp
                with_reducible rfl
              rotate_left
              · simp only [Act.put, List.setIfInBounds_toArray, List.set_cons_zero, List.set_cons_succ, i64_w, i32_w]
                rfl
              refine pure_ (i := 4) (N := some 55) (v := ?_) (a' := ?_) #[true, false, false, true, true, false, false, false, false, false, false, false, false, false, false] rfl rfl (by kernel_rfl) (fun _ _ _ h => h) (Or.inl ⟨by rfl, ?_⟩) ?_ ?_
              rotate_left
              · intro w'
                go_simp
                with_reducible rfl
              rotate_left
              · simp only [Act.put, List.setIfInBounds_toArray, List.set_cons_zero, List.set_cons_succ, i64_w, i32_w]
                rfl
              refine pure_ (i := 5) (N := some 56) (v := ?_) (a' := ?_) #[true, false, false, true, true, true, false, false, false, false, false, false, false, false, false] rfl rfl (by kernel_rfl) (fun _ _ _ h => h) (Or.inl ⟨by rfl, ?_⟩) ?_ ?_
              rotate_left
              · intro w'
                go_simp
                with_reducible rfl
              rotate_left
              · simp only [Act.put, List.setIfInBounds_toArray, List.set_cons_zero, List.set_cons_succ, i64_w, i32_w]
                rfl
              refine pure_ (i := 6) (N := some 57) (v := ?_) (a' := ?_) #[true, false, false, true, true, true, true, false, false, false, false, false, false, false, false] rfl rfl (by kernel_rfl) (fun _ _ _ h => h) (Or.inl ⟨by rfl, ?_⟩) ?_ ?_
              rotate_left
              · intro w'
                go_simp
                with_reducible rfl
              rotate_left
              · simp only [Act.put, List.setIfInBounds_toArray, List.set_cons_zero, List.set_cons_succ, i64_w, i32_w]
                rfl
              refine pure_ (i := 7) (N := some 58) (v := ?_) (a' := ?_) #[true, false, false, true, true, true, true, true, false, false, false, false, false, false, false] rfl rfl (by kernel_rfl) (fun _ _ _ h => h) (Or.inl ⟨by rfl, ?_⟩) ?_ ?_
              rotate_left
              · intro w'
                go_simp
                with_reducible rfl
              rotate_left
              · simp only [Act.put, List.setIfInBounds_toArray, List.set_cons_zero, List.set_cons_succ, i64_w, i32_w]
                rfl
              refine pure_ (i := 8) (N := some 59) (v := ?_) (a' := ?_) #[true, false, false, true, true, true, true, true, true, false, false, false, false, false, false] rfl rfl (by kernel_rfl) (fun _ _ _ h => h) (Or.inl ⟨by rfl, ?_⟩) ?_ ?_
              rotate_left
              · intro w'
                go_simp
                with_reducible rfl
              rotate_left
              · simp only [Act.put, List.setIfInBounds_toArray, List.set_cons_zero, List.set_cons_succ, i64_w, i32_w]
                rfl
              refine pure_ (i := 10) (N := some 61) (v := ?_) (a' := ?_) #[true, false, false, true, true, true, true, true, true, false, true, false, false, false, false] rfl rfl (by kernel_rfl) (fun _ _ _ h => h) (Or.inl ⟨by rfl, ?_⟩) ?_ ?_
              rotate_left
              · intro w'
                go_simp
                with_reducible rfl
              rotate_left
              · simp only [Act.put, List.setIfInBounds_toArray, List.set_cons_zero, List.set_cons_succ, i64_w, i32_w]
                rfl
              refine take_ (i := 1) (N := some 52) (v := ?_) (a' := ?_) #[true, true, false, true, true, true, true, true, true, false, true, false, false, false, false] rfl rfl (by kernel_rfl) (fun _ _ _ h => h) (Or.inl ⟨by rfl, ?_⟩) hHeld ?_ ?_
              rotate_left
              · rintro w' ⟨s0, s1⟩
                go_simp
                with_reducible rfl
              rotate_left
              · simp only [Act.put, List.setIfInBounds_toArray, List.set_cons_zero, List.set_cons_succ, i64_w, i32_w]
                rfl
              refine pure_ (i := 2) (N := some 53) (v := ?_) (a' := ?_) #[true, true, true, true, true, true, true, true, true, false, true, false, false, false, false] rfl rfl (by kernel_rfl) (fun _ _ _ h => h) (Or.inl ⟨by rfl, ?_⟩) ?_ ?_
              rotate_left
              · intro w'
                go_simp
                with_reducible rfl
              rotate_left
              · simp only [Act.put, List.setIfInBounds_toArray, List.set_cons_zero, List.set_cons_succ, i64_w, i32_w]
                rfl
              refine pure_ (i := 9) (N := some 60) (v := ?_) (a' := ?_) #[true, true, true, true, true, true, true, true, true, true, true, false, false, false, false] rfl rfl (by kernel_rfl) (fun _ _ _ h => h) (Or.inl ⟨by rfl, ?_⟩) ?_ ?_
              rotate_left
              · intro w'
                go_simp
                with_reducible rfl
              rotate_left
              · simp only [Act.put, List.setIfInBounds_toArray, List.set_cons_zero, List.set_cons_succ, i64_w, i32_w]
                rfl
              refine take_ (i := 11) (N := some 62) (v := ?_) (a' := ?_) #[true, true, true, true, true, true, true, true, true, true, true, true, false, false, false] rfl rfl (by kernel_rfl) (fun _ _ _ h => h) (Or.inl ⟨by rfl, ?_⟩) hHeld ?_ ?_
              rotate_left
              · rintro w' ⟨s0, s1⟩
                go_simp
                with_reducible rfl
              rotate_left
              · simp only [Act.put, List.setIfInBounds_toArray, List.set_cons_zero, List.set_cons_succ, i64_w, i32_w]
                rfl
              refine pure_ (i := 12) (N := some 63) (v := ?_) (a' := ?_) #[true, true, true, true, true, true, true, true, true, true, true, true, true, false, false] rfl rfl (by kernel_rfl) (fun _ _ _ h => h) (Or.inl ⟨by rfl, ?_⟩) ?_ ?_
              rotate_left
              · intro w'
                go_simp
                with_reducible rfl
              rotate_left
              · simp only [Act.put, List.setIfInBounds_toArray, List.set_cons_zero, List.set_cons_succ, i64_w, i32_w]
                rfl
              refine pure_ (i := 13) (N := some 64) (v := ?_) (a' := ?_) #[true, true, true, true, true, true, true, true, true, true, true, true, true, true, false] rfl rfl (by kernel_rfl) (fun _ _ _ h => h) (Or.inl ⟨by rfl, ?_⟩) ?_ ?_
              rotate_left
              · intro w'
                go_simp
                with_reducible rfl
              rotate_left
              · simp only [Act.put, List.setIfInBounds_toArray, List.set_cons_zero, List.set_cons_succ, i64_w, i32_w]
                rfl
              refine last_ (i := 14) (N := none) #[true, true, true, true, true, true, true, true, true, true, true, true, true, true, true] rfl rfl (by kernel_rfl) (by decide) (fun K hK => ?_)
              refine skip_ (w1 := ?_) (by rfl) rfl ?_ ?_
              rotate_left
              · go_simp
                rfl
              refine hK.out _ _ ?_
              clear hK K
              refine done_ (by kernel_rfl) ?_
              rw [and_bit x q hxb1 hxb2, or_bit B (bit x q) o1 o2 (bit_cases x q), show wrap64 (L + 1) = L + 1 by unfold wrap64; omega]
              have hbc := bit_cases x q
              obtain ⟨b, hb⟩ : ∃ b, b = bit x q := ⟨_, rfl⟩
              rw [← hb] at hbc ⊢
              have HBB := Lib.hid hb
              clear hb
              have hbl := blt HS3.out
              obtain ⟨W6, hW6⟩ : ∃ W6, W6 = ((wr.setCell ⟨sb, 0, none⟩ (.int .i64 (2 * B + b))).setCell ⟨sb, 1, none⟩ (.int .i64 (L + 1))).drew := ⟨_, rfl⟩
              rw [← hW6]
              have S6 : Hid (W6.heap[sb]? = some (.cells #[.int .i64 (2 * B + b), .int .i64 (L + 1)] 36 (0, 0))) := Lib.hid (by
                rw [hW6]
                exact blk_put (blk_put HS3.out 0 (.int .i64 (2 * B + b)) rfl) 1 (.int .i64 (L + 1)) rfl)
              have B6 : Hid (Below w5.heap.size w5 W6) := Lib.hid (by
                rw [hW6]
                exact ((HBW3.out.setCell (p := ⟨sb, 0, none⟩) hsb2 _).setCell (p := ⟨sb, 1, none⟩) hsb2 _).drew)
              have R6 : Hid (Kd.R (Kd.int .u8) 5 W6 (sb + 1) (fun _ => True) u11 out) := Lib.hid (by
                rw [hW6]
                have h0 := Kd.R_bound HV3.out
                have h1 := Kd.R_far (p := ⟨sb, 0, none⟩) h0 (fun k hk => by have := hk.2.1; show k ≠ sb; omega) (.int .i64 (2 * B + b))
                have h2 := Kd.R_far (p := ⟨sb, 1, none⟩) h1 (fun k hk => by have := hk.2.1; show k ≠ sb; omega) (.int .i64 (L + 1))
                exact Kd.R_drew (Kd.R_mono h2 (fun _ _ => trivial)))
              have hz6 : wr.heap.size ≤ W6.heap.size := by rw [hW6]; simp [World.setCell]
              have HM6 := Lib.hid (HMW.out W6 B6.out)
              have HST : Hid (dstep m (out, B, L) b = (match look m (2 * B + b) (L + 1) with | some y => some (out ++ [y], 0, 0) | none => if 24 < L + 1 then none else some (out, 2 * B + b, L + 1))) := Lib.hid rfl
              have HDR4 : Hid (drun m ([], 0, 0) (bitsOf (l1.take i) ++ bits8 x (q + 1)) = dstep m (out, B, L) b) := Lib.hid (by
                rw [bits8_succ, ← List.append_assoc, drun_snoc, HDR3.out, ← HBB.out]
                rfl)
              have c6 := cells_of S6.out 0
              have c7 := cells_of S6.out 1
              simp only [List.getElem?_toArray, List.getElem?_cons_succ, List.getElem?_cons_zero] at c6 c7
              have f6 := blk_frozen S6.out
              have hbl6 : sb < W6.heap.size := by omega
              clear hW6 s0 s1 hz3 hsh HV3 HS3 HBW3
              cases hlk : look m (2 * B + b) (L + 1) with
              | some y =>
                have HLK := Lib.hid hlk
                clear hlk
                rw [HLK.out] at HST
                go_wp2_with (first | (at_lookup; refine wp_look _ rfl (.tmp 66) (.tmp 67) rfl w1.heap.size m rfl HM6.out (2 * B + b) (L + 1) rfl ?_; rw [HLK.out]; simp only [Option.getD_some, Option.isSome_some]) | (at_builtin; refine Kd.R_append (Kd.int .u8) (w0 := W6) (sb + 1) rfl (.tmp 72) (.tmp 74) 23 5 (.int .u8 0) 1 rfl Try.underlying23 info5 rfl (by decide) (by decide) u11 out y [.int .u8 y] (fun _ => True) (fun _ => False) rfl rfl ?aP (fun _ hk => hk.elim) ?aF ?aO ?aB ?aS ?aL ?_))
                case aP => exact rfl
                case aO => exact R6.out
                case aB => exact Below.refl _ _
                case aS => omega
                case aL => omega
                intro v7 W7 hR7 hB7 hg7 hat7
                have HR7 := Lib.hid hR7
                have HB7 := Lib.hid hB7
                have hz7 := hg7.size
                have S7 := Lib.hid ((hB7.block sb (by omega)).trans S6.out)
                have c8 := cells_of S7.out 0
                have c9 := cells_of S7.out 1
                simp only [List.getElem?_toArray, List.getElem?_cons_succ, List.getElem?_cons_zero] at c8 c9
                have f7 := blk_frozen S7.out
                have hbl7 := blt S7.out
                clear hR7 hB7 hg7 hat7
                go_wp2
                go_roundg kq
                case measure => omega
                case rel => exact ⟨q + 1, (out ++ [y], 0, 0), by go_num, hq8, by omega, by simp [World.setCell]; omega, Lib.hid (((B6.out.trans (HB7.out.mono (by omega))).setCell (p := ⟨sb, 0, none⟩) hsb2 _).setCell (p := ⟨sb, 1, none⟩) hsb2 _), Lib.hid (blk_put (blk_put S7.out 0 (.int .i64 0) rfl) 1 (.int .i64 0) rfl), Lib.hid (by
                    have h0 := Kd.R_bound HR7.out
                    have h1 := Kd.R_far (p := ⟨sb, 0, none⟩) h0 (fun k hk => by have := hk.2.1; show k ≠ sb; omega) (.int .i64 0)
                    have h2 := Kd.R_far (p := ⟨sb, 1, none⟩) h1 (fun k hk => by have := hk.2.1; show k ≠ sb; omega) (.int .i64 0)
                    exact Kd.R_mono h2 (fun _ _ => trivial)), Lib.hid (by rw [HDR4.out, HST.out])⟩
              | none =>
                have HLK := Lib.hid hlk
                clear hlk
                rw [HLK.out] at HST
                by_cases h24 : 24 < L + 1
                · have t3 : decide (24 < L + 1) = true := decide_eq_true h24
                  have DN : Hid (decodeF ws l1 = ([], 12)) := Lib.hid (decode_none ws l1 i q (out, B, L) hlt hq8 (by rw [← HMD.out, ← HXR.out]; exact HDR3.out) (by rw [← HMD.out, ← HXR.out, ← HBB.out, HST.out]; exact if_pos h24))
                  go_wp2_with (first | (at_lookup; refine wp_look _ rfl (.tmp 66) (.tmp 67) rfl w1.heap.size m rfl HM6.out (2 * B + b) (L + 1) rfl ?_; rw [HLK.out]; simp only [Option.getD_none, Option.isSome_none]))
                  go_ret2
                  rw [DN.out]
                  exact ⟨_, rfl, Kd.R_nil _ _ _ _ _, HBF.out _ B6.out⟩
                · have t3 : decide (24 < L + 1) = false := decide_eq_false h24
                  have H24 := Lib.hid h24
                  go_wp2_with (first | (at_lookup; refine wp_look _ rfl (.tmp 66) (.tmp 67) rfl w1.heap.size m rfl HM6.out (2 * B + b) (L + 1) rfl ?_; rw [HLK.out]; simp only [Option.getD_none, Option.isSome_none]))
                  go_roundg kq
                  case measure => omega
                  case rel => exact ⟨q + 1, (out, 2 * B + b, L + 1), by go_num, hq8, by omega, by omega, B6, S6, R6, Lib.hid (by rw [HDR4.out, HST.out]; exact if_neg (by have := H24.out; omega))⟩
            · have t2 : decide ((q : Int) < 8) = false := decide_eq_false (by omega)
              obtain rfl : q = 8 := by omega
              go_wp2
              go_roundg ko
              case measure => omega
              case rel => exact ⟨i + 1, (out, B, L), by go_num, hlt, by omega, hwz3, HBW3, HS3, HV3, Lib.hid (by rw [HX.out, bitsOf_snoc]; exact HDR3.out)⟩
        · have t1 : decide ((i : Int) < (l1.length : Int)) = false := decide_eq_false (by omega)
          obtain rfl : i = l1.length := by omega
          have hdr := HDR.out
          rw [List.take_length] at hdr
          obtain ⟨out, B, L⟩ := s
          have hok := dok_at (l := l1) (c := 0) (k := 0) (by omega) (by rw [show bits8 0 0 = [] from rfl, List.append_nil]; exact hdr)
          have o1 := hok.lo
          have o2 := hok.small
          have o3 := hok.l0
          have o4 := hok.l1
          simp only at o1 o2 o3 o4
          have HF : Hid (decodeF ws l1 = if 7 < L then ([], 12) else if B = 2 ^ L.toNat - 1 then (out, 0) else ([], 12)) := Lib.hid (by
            unfold decodeF
            rw [← HMD.out, hdr])
          have s0 := cells_of HS.out 0
          have s1 := cells_of HS.out 1
          simp only [List.getElem?_toArray, List.getElem?_cons_succ, List.getElem?_cons_zero] at s0 s1
          clear hok hdr HDR
          by_cases h7 : 7 < L
          · have t3 : decide (7 < L) = true := decide_eq_true h7
            have HF2 : Hid (decodeF ws l1 = ([], 12)) := Lib.hid (by rw [HF.out, if_pos h7])
            clear h7
            go_wp2
            go_quiet (fail)
            go_wp2
            go_ret2
            rw [HF2.out]
            exact ⟨_, rfl, Kd.R_nil _ _ _ _ _, HBF.out _ (below_drewN HBW.out _)⟩
          · have t3 : decide (7 < L) = false := decide_eq_false h7
            obtain ⟨P, hP⟩ : ∃ P : Int, P = 2 ^ L.toNat := ⟨_, rfl⟩
            have hP1 : 1 ≤ P ∧ P ≤ 128 := by
              rw [hP]
              have : L.toNat = 0 ∨ L.toNat = 1 ∨ L.toNat = 2 ∨ L.toNat = 3 ∨ L.toNat = 4 ∨ L.toNat = 5 ∨ L.toNat = 6 ∨ L.toNat = 7 := by omega
              rcases this with h | h | h | h | h | h | h | h <;> rw [h] <;> decide
            obtain ⟨hP2, hP3⟩ := hP1
            have HF2 : Hid (decodeF ws l1 = if B = P - 1 then (out, 0) else ([], 12)) := Lib.hid (by rw [HF.out, if_neg h7, hP])
            have HE := Lib.hid (show wrap64 (wrap64 (2 ^ L.toNat) - 1) = P - 1 by rw [← hP]; unfold wrap64; omega)
            clear h7 hP HF
            by_cases hB : B = P - 1
            · have t4 : (B != wrap64 (wrap64 (2 ^ L.toNat) - 1)) = false := by rw [HE.out, bne_eq_false_iff_eq]; exact hB
              have HF3 : Hid (decodeF ws l1 = (out, 0)) := Lib.hid (by rw [HF2.out, if_pos hB])
              clear hB
              go_wp2
              go_quiet (fail)
              go_wp2
              go_ret2
              rw [HF3.out]
              exact ⟨_, rfl, Kd.R_lower (Kd.R_drewN HV.out _) (by omega), HBF.out _ (below_drewN HBW.out _)⟩
            · have t4 : (B != wrap64 (wrap64 (2 ^ L.toNat) - 1)) = true := by rw [HE.out, bne_iff_ne]; exact hB
              have HF3 : Hid (decodeF ws l1 = ([], 12)) := Lib.hid (by rw [HF2.out, if_neg hB])
              clear hB
              go_wp2
              go_quiet (fail)
              go_wp2
              go_ret2
              rw [HF3.out]
              exact ⟨_, rfl, Kd.R_nil _ _ _ _ _, HBF.out _ (below_drewN HBW.out _)⟩
end Go.Proofs.Ytgcefofmfeghmaa.Mp
