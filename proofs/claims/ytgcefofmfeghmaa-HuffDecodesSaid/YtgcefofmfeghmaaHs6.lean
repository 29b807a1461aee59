import Derived.Test.YtgcefofmfeghmaaHs5
import Derived.Deep.DeepCutAuto
import Derived.Deep.CutBlock
import Derived.Deep.LoopGhost
/- sort.symMerge_func -/
namespace Go.Proofs.Ytgcefofmfeghmaa.St
open Go.Shelf Go.RowKit Go.Lib Go.Sort
set_option linter.unusedVariables false
set_option linter.unusedSimpArgs false
variable {enc : Int → Value}

def SMOk (enc : Int → Value) (K : Int → Int) (g : Nat) (lb : Array Value) (sf : Nat) (sb : Array Value) (blk off : Nat) (n : Nat) : Prop :=
  ∀ (d : Array Int) (W : World), Holds enc W blk off d → blk < W.heap.size → LessReads Try.prog g lb enc (ltK K) blk off d.size W → SwapSwaps Try.prog sf sb enc blk off d.size → d.size < 4611686018427387904 →
    ∀ (a m b : Nat), a < m → m < b → b ≤ d.size → b - a ≤ n → Sorted K a m d → Sorted K m b d → Cross a m b d →
    Calls Try.prog 52 #[dat g lb sf sb, .int .i64 (a : Int), .int .i64 (m : Int), .int .i64 (b : Int)] W fun e w' => e = .returned (.tuple #[]) ∧ ∃ d', SW enc W blk off d' w' ∧ PermIn a b d d' ∧ Sorted K a b d'

/-- the halves behind the turn are merges of their own -/
theorem merge_pre {K : Int → Int} {a m b mid s e : Nat} {d d1 : Array Int} (hse : s + e = mid + m) (has : a ≤ s) (hsm : s ≤ m) (hmid : s ≤ mid ∧ mid ≤ e) (hme : m ≤ e) (heb : e ≤ b) (h1 : Sorted K a m d) (h2 : Sorted K m b d) (hx : Cross a m b d) (hr : ∀ k, d1[k]! = RotV (fun k => d[k]!) s m e k) :
    Sorted K a s d1 ∧ Sorted K s mid d1 ∧ Cross a s mid d1 ∧ Sorted K mid e d1 ∧ Sorted K e b d1 ∧ Cross mid e b d1 := by
  have q1 : ∀ k, a ≤ k → k < s → d1[k]! = d[k]! := fun k h h' => by rw [hr]; unfold RotV; rw [if_neg (by omega), if_neg (by omega)]
  have q2 : ∀ k, s ≤ k → k < mid → d1[k]! = d[m + (k - s)]! := fun k h h' => by rw [hr]; unfold RotV; rw [if_pos (by omega)]
  have q3 : ∀ k, mid ≤ k → k < e → d1[k]! = d[s + (k - mid)]! := fun k h h' => by rw [hr]; unfold RotV; rw [if_neg (by omega), if_pos (by omega)]; congr 1; omega
  have q4 : ∀ k, e ≤ k → d1[k]! = d[k]! := fun k h => by rw [hr]; unfold RotV; rw [if_neg (by omega), if_neg (by omega)]
  refine ⟨?_, ?_, ?_, ?_, ?_, ?_⟩
  · intro i j hi hij hj
    rw [q1 i hi (by omega), q1 j (by omega) hj]
    exact h1 i j hi hij (by omega)
  · intro i j hi hij hj
    rw [q2 i hi (by omega), q2 j (by omega) hj]
    exact h2 _ _ (by omega) (by omega) (by omega)
  · intro i j hi hi' hj hj'
    rw [q1 i hi hi', q2 j hj hj']
    exact hx _ _ hi (by omega) (by omega) (by omega)
  · intro i j hi hij hj
    rw [q3 i hi (by omega), q3 j (by omega) hj]
    exact h1 _ _ (by omega) (by omega) (by omega)
  · intro i j hi hij hj
    rw [q4 i hi, q4 j (by omega)]
    exact h2 _ _ (by omega) (by omega) (by omega)
  · intro i j hi hi' hj hj'
    rw [q3 i hi hi', q4 j hj]
    exact hx _ _ (by omega) (by omega) (by omega) hj'

theorem perm_same {a b : Nat} {d d' : Array Int} (h : PermIn a b d d') (k : Nat) (hk : k < a ∨ b ≤ k) : d'[k]! = d[k]! := h.2.1 k hk

set_option maxRecDepth 100000 in
set_option maxHeartbeats 8000000 in
theorem sm_step (K : Int → Int) (g : Nat) (lb : Array Value) (sf : Nat) (sb : Array Value) (blk off n : Nat) (eg : ∀ args w, (callFunc g args).run Try.prog w = .ok (.enter g args) w)
    (ih : SMOk enc K g lb sf sb blk off n) (d : Array Int) (W : World) (hH : Holds enc W blk off d) (hblk : blk < W.heap.size)
    (hless : LessReads Try.prog g lb enc (ltK K) blk off d.size W) (hswap : SwapSwaps Try.prog sf sb enc blk off d.size) (hsz : d.size < 4611686018427387904)
    (a m b : Nat) (ham : a + 1 < m) (hmb : m + 1 < b) (hb : b ≤ d.size) (hn : b - a ≤ n + 1) (h1 : Sorted K a m d) (h2 : Sorted K m b d) (hx : Cross a m b d) :
    Calls Try.prog 52 #[dat g lb sf sb, .int .i64 (a : Int), .int .i64 (m : Int), .int .i64 (b : Int)] W fun e w' => e = .returned (.tuple #[]) ∧ ∃ d', SW enc W blk off d' w' ∧ PermIn a b d d' ∧ Sorted K a b d' := by
  have HH := Lib.hid hH
  have HL := Lib.hid (fun (x : Array Int) (w : World) (hx : SW enc W blk off x w) (hxs : x.size = d.size) (p q : Nat) (h1 : p < d.size) (h2 : q < d.size) => SW.less hx hless hxs p q h1 h2)
  have HLR := Lib.hid (fun (x : Array Int) (w : World) (hx : SW enc W blk off x w) (hxs : x.size = d.size) => SW.lessReads hx hless hblk hxs)
  have HSW := Lib.hid hswap
  have H1' := Lib.hid h1
  have H2' := Lib.hid h2
  have HX := Lib.hid hx
  have IH := Lib.hid ih
  have hc0 : ((m : Int) - (a : Int) == 1) = false := beq_eq_false_iff_ne.2 (by omega)
  have hc : ((b : Int) - (m : Int) == 1) = false := beq_eq_false_iff_ne.2 (by omega)
  clear hH hswap hless h1 h2 hx ih
  obtain ⟨mid, hmid⟩ : ∃ h : Nat, (h : Int) = ((a : Int) + (b : Int)) / 2 := ⟨(a + b) / 2, by omega⟩
  have hm1 : a < mid := by omega
  have hm2 : mid < b := by omega
  have hm3 : 2 * mid ≤ a + b := by omega
  have hm4 : a + b ≤ 2 * mid + 1 := by omega
  have HMID := Lib.hid hmid
  clear hmid
  obtain ⟨s0, r0, hs0, hr0, hsr⟩ : ∃ s0 r0 : Nat, (mid < m → s0 + b = mid + m ∧ r0 = mid) ∧ (m ≤ mid → s0 = a ∧ r0 = m) ∧ s0 ≤ r0 := by
    rcases Nat.lt_or_ge mid m with c | c
    · exact ⟨mid + m - b, mid, fun _ => ⟨by omega, rfl⟩, fun h => by omega, by omega⟩
    · exact ⟨a, m, fun h => by omega, fun _ => ⟨rfl, rfl⟩, by omega⟩
  have hs1 : a ≤ s0 := by rcases Nat.lt_or_ge mid m with c | c; (have := hs0 c; omega); (have := hr0 c; omega)
  have hr1 : r0 ≤ m := by rcases Nat.lt_or_ge mid m with c | c; (have := hs0 c; omega); (have := hr0 c; omega)
  have hr2 : r0 ≤ mid := by rcases Nat.lt_or_ge mid m with c | c; (have := hs0 c; omega); (have := hr0 c; omega)
  have hs2 : mid + m ≤ s0 + b := by rcases Nat.lt_or_ge mid m with c | c; (have := hs0 c; omega); (have := hr0 c; omega)
  have HR := Lib.hid (⟨hs0, hr0⟩ : _ ∧ _)
  clear hs0 hr0
  go_enter Try.func52, Try.ntmps52
  go_upto_if 106 with fail
  obtain ⟨W1, hW1⟩ : ∃ W1, W1 = W.alloc (.cells #[.func (.func g) #[] lb, .func (.func sf) #[] sb] 70) := ⟨_, rfl⟩
  have H1 : Hid (SW enc W blk off d W1) := Lib.hid (by rw [hW1]; exact (SW.start HH.out).alloc _)
  have hc1 : W1.cell? ⟨W.heap.size, 1, none⟩ = some (.func (.func sf) #[] sb) := by rw [hW1]; simp
  have hc0 : W1.cell? ⟨W.heap.size, 0, none⟩ = some (.func (.func g) #[] lb) := by rw [hW1]; simp
  have hz1 : W.heap.size < W1.heap.size := by rw [hW1]; simp
  rw [← hW1]
  clear hW1
  rw [← HMID.out]
  go_cut [18, 19] (fun v18 v19 wx => v18 = .int .i64 (s0 : Int) ∧ v19 = .int .i64 (r0 : Int) ∧ wx = W1)
  case first =>
    by_cases hmm : mid < m
    · have hb3 : decide ((mid : Int) < (m : Int)) = true := decide_eq_true (by omega)
      obtain ⟨e1, e2⟩ := HR.out.1 hmm
      have E1 := Lib.hid e1
      have E2 := Lib.hid e2
      clear e1 e2
      go_wp2
      go_meet
      case rel => exact ⟨by have := E1.out; congr 1; omega, by rw [E2.out], rfl⟩
    · have hb3 : decide ((mid : Int) < (m : Int)) = false := decide_eq_false (by omega)
      obtain ⟨e1, e2⟩ := HR.out.2 (by omega)
      have E1 := Lib.hid e1
      have E2 := Lib.hid e2
      clear e1 e2
      go_wp2
      go_meet
      case rel => exact ⟨by rw [E1.out], by rw [E2.out], rfl⟩
  case rest =>
    obtain ⟨rfl, rfl, e4⟩ := hcut
    obtain rfl := e4.symm
    go_wp2
    go_loopg [18, 19, 21] (r0 - s0) (fun k v18 v19 v21 wr => ∃ (s r : Nat), v18 = .int .i64 (s : Int) ∧ v19 = .int .i64 (r : Int) ∧ s0 ≤ s ∧ s ≤ r ∧ r ≤ r0 ∧ r - s ≤ k ∧ Hid (SW enc W blk off d wr) ∧ wr.cell? ⟨W.heap.size, 0, none⟩ = some (.func (.func g) #[] lb) ∧ wr.cell? ⟨W.heap.size, 1, none⟩ = some (.func (.func sf) #[] sb) ∧ W.heap.size < wr.heap.size ∧ Hid (∀ c, s0 ≤ c → c < s → ¬ K d[mid + m - 1 - c]! < K d[c]!) ∧ Hid (∀ c, r ≤ c → c < r0 → K d[mid + m - 1 - c]! < K d[c]!))
    case atStart => exact ⟨s0, r0, rfl, rfl, by omega, by omega, by omega, by omega, H1, hc0, hc1, hz1, Lib.hid (fun c _ _ => by omega), Lib.hid (fun c _ _ => by omega)⟩
    case round =>
      obtain ⟨s, r, rfl, rfl, hs3, hsr2, hr3, hk, HS, c0, c1, hwz, HB1, HB2⟩ := hrel
      by_cases hlt : s < r
      · have t1 : decide ((s : Int) < (r : Int)) = true := decide_eq_true (by omega)
        obtain ⟨c, hh⟩ : ∃ h : Nat, (h : Int) = ((s : Int) + (r : Int)) / 2 := ⟨(s + r) / 2, by omega⟩
        have hh1 : s ≤ c := by omega
        have hh2 : c < r := by omega
        have HHH := Lib.hid hh
        clear hh
        obtain ⟨ko, rfl⟩ : ∃ ko, gk = ko + 1 := ⟨gk - 1, by omega⟩
        have HC := Lib.hid (HL.out d wr HS.out rfl (mid + m - 1 - c) c (by omega) (by omega))
        rw [show ((mid + m - 1 - c : Nat) : Int) = (mid : Int) + (m : Int) - 1 - (c : Int) by omega] at HC
        by_cases hb' : K d[mid + m - 1 - c]! < K d[c]!
        · rw [show ltK K d[mid + m - 1 - c]! d[c]! = true from decide_eq_true hb'] at HC
          have HB3 : Hid _ := Lib.hid hb'
          clear hb'
          go_wp2_with fail
          rw [← HHH.out]
          refine HC.out.mono ?_
          rintro e w2 ⟨rfl, q, rfl⟩
          go_wp2
          go_roundg ko
          case measure => omega
          case rel => exact ⟨s, c, rfl, rfl, by omega, by omega, by omega, by omega, Lib.hid (HS.out.drewN q), by simpa using c0, by simpa using c1, by simpa using hwz, HB1, Lib.hid (fun k h1 h2 => by
              rcases Nat.lt_or_ge k r with c' | c'
              · have := H1'.out.le_of (i := c) (j := k) (by omega) (by omega) (by omega)
                have := H2'.out.le_of (i := mid + m - 1 - k) (j := mid + m - 1 - c) (by omega) (by omega) (by omega)
                have := HB3.out
                unfold le at *; omega
              · exact HB2.out k c' h2)⟩
        · rw [show ltK K d[mid + m - 1 - c]! d[c]! = false from decide_eq_false hb'] at HC
          have HB3 : Hid _ := Lib.hid hb'
          clear hb'
          go_wp2_with fail
          rw [← HHH.out]
          refine HC.out.mono ?_
          rintro e w2 ⟨rfl, q, rfl⟩
          go_wp2
          go_roundg ko
          case measure => omega
          case rel => exact ⟨c + 1, r, by go_num, rfl, by omega, by omega, by omega, by omega, Lib.hid (HS.out.drewN q), by simpa using c0, by simpa using c1, by simpa using hwz, Lib.hid (fun k h1 h2 => by
              rcases Nat.lt_or_ge k s with c' | c'
              · exact HB1.out k h1 c'
              · have := H1'.out.le_of (i := k) (j := c) (by omega) (by omega) (by omega)
                have := H2'.out.le_of (i := mid + m - 1 - c) (j := mid + m - 1 - k) (by omega) (by omega) (by omega)
                have := HB3.out
                unfold le at *; omega), HB2⟩
      · have t0 : decide ((s : Int) < (r : Int)) = false := decide_eq_false (by omega)
        obtain rfl : s = r := by omega
        obtain ⟨e, he⟩ : ∃ e, e = mid + m - s := ⟨_, rfl⟩
        have he1 : m ≤ e := by omega
        have he2 : e ≤ b := by omega
        have he3 : s + e = mid + m := by omega
        have he4 : (mid : Int) + (m : Int) - (s : Int) = (e : Int) := by omega
        have HE4 := Lib.hid he4
        clear he he4
        have HRO := Lib.hid (rotate_calls g lb sf sb blk off d wr (HS.out.holds hblk HH.out rfl) (HS.out.lt hblk) HSW.out hsz s m e)
        have LO : Hid (∀ c, a ≤ c → c < s → s + e - 1 - c < b → ¬ K d[s + e - 1 - c]! < K d[c]!) := Lib.hid (fun c q1 q2 q3 => by
          have := HB1.out c (by rcases Nat.lt_or_ge mid m with c' | c'; (have := HR.out.1 c'; omega); (have := HR.out.2 c'; omega)) q2
          rwa [show mid + m - 1 - c = s + e - 1 - c by omega] at this)
        have HI : Hid (s < m → m < e → K d[e - 1]! < K d[s]!) := Lib.hid (fun q1 q2 => by
          have := HB2.out s (Nat.le_refl _) (by rcases Nat.lt_or_ge mid m with c' | c'; (have := HR.out.1 c'; omega); (have := HR.out.2 c'; omega))
          rwa [show mid + m - 1 - s = e - 1 by omega] at this)
        clear HB1 HB2
        go_upto_region 40 with fail
        rw [HE4.out]
        go_cut [145] (fun v wx => v = .bool (decide (s < m ∧ m < e)) ∧ wx = wr)
        case first =>
          by_cases q1 : s < m
          · have b1 : decide ((s : Int) < (m : Int)) = true := decide_eq_true (by omega)
            by_cases q2 : m < e
            · have b2 : decide ((m : Int) < (e : Int)) = true := decide_eq_true (by omega)
              go_wp2
              go_meet
              case rel => exact ⟨by rw [decide_eq_true (show s < m ∧ m < e from ⟨q1, q2⟩)], rfl⟩
            · have b2 : decide ((m : Int) < (e : Int)) = false := decide_eq_false (by omega)
              go_wp2
              go_meet
              case rel => exact ⟨by rw [decide_eq_false (show ¬ (s < m ∧ m < e) by omega)], rfl⟩
          · have b1 : decide ((s : Int) < (m : Int)) = false := decide_eq_false (by omega)
            go_wp2
            go_meet
            case rel => exact ⟨by rw [decide_eq_false (show ¬ (s < m ∧ m < e) by omega)], rfl⟩
        case rest =>
          obtain ⟨rfl, e4⟩ := hcut
          obtain rfl := e4.symm
          go_upto_if 145 with fail
          go_cut [] (fun wx => ∃ d1, Hid (SW enc W blk off d1 wx) ∧ wx.cell? ⟨W.heap.size, 0, none⟩ = some (.func (.func g) #[] lb) ∧ wx.cell? ⟨W.heap.size, 1, none⟩ = some (.func (.func sf) #[] sb) ∧ W.heap.size < wx.heap.size ∧ Hid (PermIn a b d d1) ∧ Hid (∀ k, d1[k]! = RotV (fun k => d[k]!) s m e k))
          case first =>
            by_cases q : s < m ∧ m < e
            · obtain ⟨q1, q2⟩ := q
              have b3 : decide (s < m ∧ m < e) = true := decide_eq_true ⟨q1, q2⟩
              rw [b3]
              have HRO2 := Lib.hid (HRO.out q1 q2 (by omega))
              clear b3
              go_wp2_with (first | (go_at_call 53; refine HRO2.out.mono ?_; rintro e_ w2 ⟨rfl, x2, hx2, hp2, hv2⟩; have HX2 := Lib.hid hx2; have HP2 := Lib.hid hp2; have HV2 := Lib.hid hv2; clear hx2 hp2 hv2))
              have hw2 := HX2.out.le
              go_meet
              case rel => exact ⟨x2, Lib.hid (SW.trans HS.out HX2.out hblk HP2.out.1), by rw [SW.cell HX2.out (by show W.heap.size ≠ blk; omega) (by show W.heap.size < wr.heap.size; omega)]; exact c0, by rw [SW.cell HX2.out (by show W.heap.size ≠ blk; omega) (by show W.heap.size < wr.heap.size; omega)]; exact c1, by omega, Lib.hid (permIn_mono _ _ _ _ _ _ (by omega) he2 hb HP2.out), HV2⟩
            · have b3 : decide (s < m ∧ m < e) = false := decide_eq_false q
              rw [b3]
              clear b3
              go_wp2
              go_meet
              case rel => exact ⟨d, HS, c0, c1, hwz, Lib.hid (permIn_refl _ _ _), Lib.hid (fun k => by
                unfold RotV
                rcases Nat.lt_or_ge s m with c' | c'
                · rw [if_neg (by omega)]
                  split
                  · congr 1; omega
                  · rfl
                · split
                  · congr 1; omega
                  · rw [if_neg (by omega)])⟩
          case rest =>
            obtain ⟨d1, HS1, c0', c1', hwz', HP1, HV1⟩ := hcut
            have HD1 := Lib.hid HP1.out.1
            -- what the two halves bring
            have ST := Lib.hid (fun (d2 d3 : Array Int) hp2 hs2 hp3 hs3 => merge_step (K := K) (a := a) (m := m) (b := b) (mid := mid) (s := s) (e := e) (d := d) (d1 := d1) (d2 := d2) (d3 := d3) (by omega) (by omega) hb H1'.out H2'.out HX.out (by omega) he3 (by omega) (by omega) he1 he2 LO.out HI.out HP1.out HV1.out hp2 hs2 hp3 hs3)
            go_upto_region 42 with fail
            go_cut [158] (fun v wx => v = .bool (decide (a < s ∧ s < mid)) ∧ wx = wc)
            case first =>
              by_cases q1 : a < s
              · have b1 : decide ((a : Int) < (s : Int)) = true := decide_eq_true (by omega)
                by_cases q2 : s < mid
                · have b2 : decide ((s : Int) < (mid : Int)) = true := decide_eq_true (by omega)
                  go_wp2
                  go_meet
                  case rel => exact ⟨by rw [decide_eq_true (show a < s ∧ s < mid from ⟨q1, q2⟩)], rfl⟩
                · have b2 : decide ((s : Int) < (mid : Int)) = false := decide_eq_false (by omega)
                  go_wp2
                  go_meet
                  case rel => exact ⟨by rw [decide_eq_false (show ¬ (a < s ∧ s < mid) by omega)], rfl⟩
              · have b1 : decide ((a : Int) < (s : Int)) = false := decide_eq_false (by omega)
                go_wp2
                go_meet
                case rel => exact ⟨by rw [decide_eq_false (show ¬ (a < s ∧ s < mid) by omega)], rfl⟩
            case rest =>
              obtain ⟨rfl, e4⟩ := hcut
              obtain rfl := e4.symm
              go_upto_if 158 with fail
              go_cut [] (fun wx => ∃ d2, Hid (SW enc W blk off d2 wx) ∧ wx.cell? ⟨W.heap.size, 0, none⟩ = some (.func (.func g) #[] lb) ∧ wx.cell? ⟨W.heap.size, 1, none⟩ = some (.func (.func sf) #[] sb) ∧ W.heap.size < wx.heap.size ∧ Hid (PermIn a mid d1 d2) ∧ Hid (Sorted K a s d1 → Sorted K s mid d1 → Cross a s mid d1 → Sorted K a mid d2))
              case first =>
                by_cases q : a < s ∧ s < mid
                · obtain ⟨q1, q2⟩ := q
                  have b3 : decide (a < s ∧ s < mid) = true := decide_eq_true ⟨q1, q2⟩
                  rw [b3]
                  clear b3
                  have S1 := Lib.hid (merge_pre (K := K) (d1 := d1) he3 (by omega) (by omega) (by omega) he1 he2 H1'.out H2'.out HX.out HV1.out)
                  have HRO2 := Lib.hid (IH.out d1 wc (HS1.out.holds hblk HH.out HD1.out) (HS1.out.lt hblk) (by rw [HD1.out]; exact HLR.out d1 wc HS1.out HD1.out) (by rw [HD1.out]; exact HSW.out) (by rw [HD1.out]; exact hsz) a s mid q1 q2 (by rw [HD1.out]; omega) (by omega) S1.out.1 S1.out.2.1 S1.out.2.2.1)
                  go_wp2_with (first | (go_at_call 52; refine HRO2.out.mono ?_; rintro e_ w2 ⟨rfl, x2, hx2, hp2, hv2⟩; have HX2 := Lib.hid hx2; have HP2 := Lib.hid hp2; have HV2 := Lib.hid hv2; clear hx2 hp2 hv2))
                  have hw2 := HX2.out.le
                  go_meet
                  case rel => exact ⟨x2, Lib.hid (SW.trans HS1.out HX2.out hblk HP2.out.1), by rw [SW.cell HX2.out (by show W.heap.size ≠ blk; omega) (by show W.heap.size < wc.heap.size; omega)]; exact c0', by rw [SW.cell HX2.out (by show W.heap.size ≠ blk; omega) (by show W.heap.size < wc.heap.size; omega)]; exact c1', by omega, HP2, Lib.hid (fun _ _ _ => HV2.out)⟩
                · have b3 : decide (a < s ∧ s < mid) = false := decide_eq_false q
                  rw [b3]
                  clear b3
                  go_wp2
                  go_meet
                  case rel => exact ⟨d1, HS1, c0', c1', hwz', Lib.hid (permIn_refl _ _ _), Lib.hid (fun q1 q2 q3 => by
                    rcases Nat.lt_or_ge a s with c' | c'
                    · obtain rfl : s = mid := by omega
                      exact q1
                    · obtain rfl : s = a := by omega
                      exact q2)⟩
              case rest =>
                obtain ⟨d2, HS2, c0'', c1'', hwz'', HP2, HV2⟩ := hcut
                have HD2 : Hid (d2.size = d.size) := Lib.hid (by rw [HP2.out.1, HD1.out])
                go_upto_region 44 with fail
                go_cut [171] (fun v wx => v = .bool (decide (mid < e ∧ e < b)) ∧ wx = wc)
                case first =>
                  by_cases q1 : mid < e
                  · have b1 : decide ((mid : Int) < (e : Int)) = true := decide_eq_true (by omega)
                    by_cases q2 : e < b
                    · have b2 : decide ((e : Int) < (b : Int)) = true := decide_eq_true (by omega)
                      go_wp2
                      go_meet
                      case rel => exact ⟨by rw [decide_eq_true (show mid < e ∧ e < b from ⟨q1, q2⟩)], rfl⟩
                    · have b2 : decide ((e : Int) < (b : Int)) = false := decide_eq_false (by omega)
                      go_wp2
                      go_meet
                      case rel => exact ⟨by rw [decide_eq_false (show ¬ (mid < e ∧ e < b) by omega)], rfl⟩
                  · have b1 : decide ((mid : Int) < (e : Int)) = false := decide_eq_false (by omega)
                    go_wp2
                    go_meet
                    case rel => exact ⟨by rw [decide_eq_false (show ¬ (mid < e ∧ e < b) by omega)], rfl⟩
                case rest =>
                  obtain ⟨rfl, e4⟩ := hcut
                  obtain rfl := e4.symm
                  by_cases q : mid < e ∧ e < b
                  · obtain ⟨q1, q2⟩ := q
                    have b3 : decide (mid < e ∧ e < b) = true := decide_eq_true ⟨q1, q2⟩
                    rw [b3]
                    clear b3
                    have S1 := Lib.hid (merge_pre (K := K) (d1 := d1) he3 (by omega) (by omega) (by omega) he1 he2 H1'.out H2'.out HX.out HV1.out)
                    have R2 : Hid (∀ k, mid ≤ k → d2[k]! = d1[k]!) := Lib.hid (fun k h => HP2.out.2.1 k (.inr h))
                    have HRO2 := Lib.hid (IH.out d2 wc (HS2.out.holds hblk HH.out HD2.out) (HS2.out.lt hblk) (by rw [HD2.out]; exact HLR.out d2 wc HS2.out HD2.out) (by rw [HD2.out]; exact HSW.out) (by rw [HD2.out]; exact hsz) mid e b q1 q2 (by rw [HD2.out]; exact hb) (by omega)
                      (fun i j a1 a2 a3 => by rw [R2.out i a1, R2.out j (by omega)]; exact S1.out.2.2.2.1 i j a1 a2 a3) (fun i j a1 a2 a3 => by rw [R2.out i (by omega), R2.out j (by omega)]; exact S1.out.2.2.2.2.1 i j a1 a2 a3) (fun i j a1 a2 a3 a4 => by rw [R2.out i a1, R2.out j (by omega)]; exact S1.out.2.2.2.2.2 i j a1 a2 a3 a4))
                    go_wp2_with (first | (go_at_call 52; refine HRO2.out.mono ?_; rintro e_ w2 ⟨rfl, x2, hx2, hp2, hv2⟩; have HX2 := Lib.hid hx2; have HP3 := Lib.hid hp2; have HV3 := Lib.hid hv2; clear hx2 hp2 hv2))
                    go_end0
                    exact ⟨rfl, x2, SW.trans HS2.out HX2.out hblk HP3.out.1, ST.out d2 x2 HP2.out HV2.out HP3.out (fun _ _ _ => HV3.out)⟩
                  · have b3 : decide (mid < e ∧ e < b) = false := decide_eq_false q
                    rw [b3]
                    clear b3
                    go_wp2
                    go_end0
                    exact ⟨rfl, d2, HS2.out, ST.out d2 d2 HP2.out HV2.out (permIn_refl _ _ _) (fun q1 q2 q3 => by
                      rcases Nat.lt_or_ge mid e with c' | c'
                      · obtain rfl : e = b := by omega
                        exact q1
                      · obtain rfl : mid = e := by omega
                        exact q2)⟩

theorem sm_any (K : Int → Int) (g : Nat) (lb : Array Value) (sf : Nat) (sb : Array Value) (blk off : Nat) (eg : ∀ args w, (callFunc g args).run Try.prog w = .ok (.enter g args) w) : ∀ n, SMOk enc K g lb sf sb blk off n
  | 0 => fun d W _ _ _ _ _ a m b h1 h2 _ h3 => by omega
  | n + 1 => fun d W hH hblk hless hswap hsz a m b h1 h2 hb h3 s1 s2 hx => by
    by_cases c1 : m = a + 1
    · exact sm_first K g lb sf sb blk off d W hH hblk eg hless hswap hsz a m b c1 (by omega) hb (by rw [← c1]; exact s2) (by rw [← c1]; exact hx)
    · by_cases c2 : b = m + 1
      · have := sm_last K g lb sf sb blk off d W hH hblk eg hless hswap hsz a m b c2 (by omega) (by omega) s1 (by rw [← c2]; exact hx)
        rw [← c2] at this
        exact this
      · exact sm_step K g lb sf sb blk off n eg (sm_any K g lb sf sb blk off eg n) d W hH hblk hless hswap hsz a m b (by omega) (by omega) hb h3 s1 s2 hx
end Go.Proofs.Ytgcefofmfeghmaa.St
