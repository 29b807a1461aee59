import Derived.Test.YtgcefofmfeghmaaHs7
/- sort.stable_func: blocks of 20, merged two and two. -/
namespace Go.Proofs.Ytgcefofmfeghmaa.St
open Go.Shelf Go.RowKit Go.Lib Go.Sort
set_option linter.unusedVariables false
set_option linter.unusedSimpArgs false
variable {enc : Int → Value}

def Asc (d : Array Int) : Prop := ∀ i j, i < j → j < d.size → d[i]! < d[j]!
/-- a part is in order, and has what lay there at first -/
def Good (K : Int → Int) (d y : Array Int) (lo hi : Nat) : Prop := Sorted K lo hi y ∧ ∀ k, lo ≤ k → k < hi → ∃ k', lo ≤ k' ∧ k' < hi ∧ y[k]! = d[k']!

theorem Good.congr {K : Int → Int} {d y y' : Array Int} {lo hi : Nat} (h : Good K d y lo hi) (he : ∀ k, lo ≤ k → k < hi → y'[k]! = y[k]!) : Good K d y' lo hi :=
  ⟨fun i j h1 h2 h3 => by rw [he i h1 (by omega), he j (by omega) h3]; exact h.1 i j h1 h2 h3, fun k h1 h2 => by rw [he k h1 h2]; exact h.2 k h1 h2⟩
theorem Good.empty {K : Int → Int} {d y : Array Int} {lo hi : Nat} (h : hi ≤ lo) : Good K d y lo hi := ⟨fun i j h1 h2 h3 => by omega, fun k h1 h2 => by omega⟩

theorem ins_good (K : Int → Int) (d y : Array Int) (a b : Nat) (hd : Asc d) (hs : y.size = d.size) (hab : a ≤ b) (hb : b ≤ d.size) (he : ∀ k, a ≤ k → k < b → y[k]! = d[k]!) :
    PermIn a b y (insertionSort (ltK K) y a b) ∧ Good K d (insertionSort (ltK K) y a b) a b := by
  obtain ⟨h1, h2⟩ := ins_sorted K y a b hab (by omega) (fun p q q1 q2 q3 => by rw [he p q1 (by omega), he q (by omega) q3]; exact hd p q q2 (by omega))
  refine ⟨h1, h2, fun k q1 q2 => ?_⟩
  obtain ⟨j, e1, e2, e3⟩ := PermIn.from h1 (by omega) q1 q2
  exact ⟨j, e1, e2, by rw [← e3, he j e1 e2]⟩

theorem good_cross {K : Int → Int} {d y : Array Int} {a m b : Nat} (hd : Asc d) (hb : b ≤ d.size) (h1 : Good K d y a m) (h2 : Good K d y m b) : Cross a m b y := by
  intro i j q1 q2 q3 q4
  obtain ⟨i', a1, a2, a3⟩ := h1.2 i q1 q2
  obtain ⟨j', b1, b2, b3⟩ := h2.2 j q3 q4
  rw [a3, b3]
  have := hd i' j' (by omega) (by omega)
  omega
theorem good_merge {K : Int → Int} {d y y' : Array Int} {a m b : Nat} (ham : a ≤ m) (hmb : m ≤ b) (hb : b ≤ y.size) (h1 : Good K d y a m) (h2 : Good K d y m b) (hp : PermIn a b y y') (hs : Sorted K a b y') : Good K d y' a b := by
  refine ⟨hs, fun k q1 q2 => ?_⟩
  obtain ⟨j, e1, e2, e3⟩ := PermIn.from hp hb q1 q2
  rcases Nat.lt_or_ge j m with c | c
  · obtain ⟨k', f1, f2, f3⟩ := h1.2 j e1 c
    exact ⟨k', f1, by omega, by rw [← e3, f3]⟩
  · obtain ⟨k', f1, f2, f3⟩ := h2.2 j c e2
    exact ⟨k', by omega, f2, by rw [← e3, f3]⟩

/-- a block of so many from p on -/
def Lv (K : Int → Int) (d y : Array Int) (bs p : Nat) : Prop := Good K d y p (min (p + bs) d.size)
theorem dvd_step {n p q : Nat} (h1 : n ∣ p) (h2 : n ∣ q) (h : p < q) : p + n ≤ q := by
  obtain ⟨x, rfl⟩ := h1
  obtain ⟨y, rfl⟩ := h2
  have : x < y := by
    rcases Nat.lt_or_ge x y with c | c
    · exact c
    · have := Nat.mul_le_mul_left n c; omega
  have := Nat.mul_le_mul_left n (Nat.succ_le_of_lt this)
  rw [Nat.mul_succ] at this
  exact this

set_option maxRecDepth 100000 in
set_option maxHeartbeats 8000000 in
theorem stable_calls (K : Int → Int) (g : Nat) (lb : Array Value) (sf : Nat) (sb : Array Value) (blk off : Nat) (d : Array Int) (W : World) (hH : Holds enc W blk off d) (hblk : blk < W.heap.size)
    (eg : ∀ args w, (callFunc g args).run Try.prog w = .ok (.enter g args) w) (hless : LessReads Try.prog g lb enc (ltK K) blk off d.size W) (hswap : SwapSwaps Try.prog sf sb enc blk off d.size) (hsz : d.size < 1000000) (hd : Asc d) :
    Calls Try.prog 37 #[dat g lb sf sb, .int .i64 (d.size : Int)] W fun e w' => e = .returned (.tuple #[]) ∧ ∃ d', SW enc W blk off d' w' ∧ PermIn 0 d.size d d' ∧ Sorted K 0 d.size d' := by
  have HH := Lib.hid hH
  have HD := Lib.hid hd
  have HIN := Lib.hid (fun (x : Array Int) (w : World) (hx : SW enc W blk off x w) (hxs : x.size = d.size) (a b : Nat) (h1 : a ≤ b) (h2 : b ≤ d.size) => ins_calls K g lb sf sb blk off x w (hx.holds hblk hH hxs) (hx.lt hblk) eg (by rw [hxs]; exact SW.lessReads hx hless hblk hxs) (by rw [hxs]; exact hswap) (by omega) a b h1 (by omega))
  have HSM := Lib.hid (fun (x : Array Int) (w : World) (hx : SW enc W blk off x w) (hxs : x.size = d.size) (a m b : Nat) (h1 : a < m) (h2 : m < b) (h3 : b ≤ d.size) (s1 : Sorted K a m x) (s2 : Sorted K m b x) (s3 : Cross a m b x) => sm_any K g lb sf sb blk off eg (b - a) x w (hx.holds hblk hH hxs) (hx.lt hblk) (by rw [hxs]; exact SW.lessReads hx hless hblk hxs) (by rw [hxs]; exact hswap) (by omega) a m b h1 h2 (by omega) (Nat.le_refl _) s1 s2 s3)
  clear hH hswap hless hd eg
  obtain ⟨n, hn⟩ : ∃ n, n = d.size := ⟨_, rfl⟩
  have HN := Lib.hid hn
  have hnb : n < 1000000 := by omega
  rw [← hn]
  have hn1 : n ≤ d.size := by omega
  have hn2 : d.size ≤ n := by omega
  clear hn
  go_enter Try.func37, Try.ntmps37
  go_wp2
  obtain ⟨W1, hW1⟩ : ∃ W1, W1 = W.alloc (.cells #[.func (.func g) #[] lb, .func (.func sf) #[] sb] 70) := ⟨_, rfl⟩
  have H1 : Hid (SW enc W blk off d W1) := Lib.hid (by rw [hW1]; exact (SW.start HH.out).alloc _)
  have hc1 : W1.cell? ⟨W.heap.size, 1, none⟩ = some (.func (.func sf) #[] sb) := by rw [hW1]; simp
  have hc0 : W1.cell? ⟨W.heap.size, 0, none⟩ = some (.func (.func g) #[] lb) := by rw [hW1]; simp
  have hz1 : W.heap.size < W1.heap.size := by rw [hW1]; simp
  rw [← hW1]
  clear hW1
  go_loopg [5, 6] (n + 1) (fun k v5 v6 wr => ∃ (a b : Nat) (x : Array Int), v5 = .int .i64 (a : Int) ∧ v6 = .int .i64 (b : Int) ∧ b = a + 20 ∧ a ≤ n ∧ n + 1 ≤ k + a ∧ 20 ∣ a ∧ Hid (SW enc W blk off x wr) ∧ wr.cell? ⟨W.heap.size, 0, none⟩ = some (.func (.func g) #[] lb) ∧ wr.cell? ⟨W.heap.size, 1, none⟩ = some (.func (.func sf) #[] sb) ∧ W.heap.size < wr.heap.size ∧ Hid (PermIn 0 d.size d x) ∧ Hid (∀ p, 20 ∣ p → p + 20 ≤ a → Lv K d x 20 p) ∧ Hid (∀ k, a ≤ k → x[k]! = d[k]!))
  case atStart => exact ⟨0, 20, d, rfl, rfl, rfl, by omega, by omega, by omega, H1, hc0, hc1, hz1, Lib.hid (permIn_refl _ _ _), Lib.hid (fun p _ _ => by omega), Lib.hid (fun _ _ => rfl)⟩
  case round =>
    obtain ⟨a, b, x, rfl, rfl, hb, han, hk, hda, HX, c0, c1, hwz, HP, HG, HE⟩ := hrel
    have HDA := Lib.hid hda
    have HBE := Lib.hid hb
    have hb1 : b ≤ a + 20 := by omega
    have hb2 : a + 20 ≤ b := by omega
    clear hda hb
    by_cases hlt : b ≤ n
    · have t1 : decide ((b : Int) ≤ (n : Int)) = true := decide_eq_true (by omega)
      have HC := Lib.hid (HIN.out x wr HX.out HP.out.1 a b (by omega) (by omega))
      obtain ⟨ko, rfl⟩ : ∃ ko, gk = ko + 1 := ⟨gk - 1, by omega⟩
      obtain ⟨g1, g2⟩ := ins_good K d x a b HD.out HP.out.1 (by omega) (by omega) (fun k h1 h2 => HE.out k h1)
      have G1 := Lib.hid g1
      have G2 := Lib.hid g2
      clear g1 g2
      go_wp2_with (first | (go_at_call 51; refine HC.out.mono ?_; rintro e_ w2 ⟨rfl, hx2⟩; have HX2 := Lib.hid hx2; clear hx2))
      have hw2 := HX2.out.le
      have hc0n : w2.cell? ⟨W.heap.size, 0, none⟩ = some (.func (.func g) #[] lb) := by rw [SW.cell HX2.out (by show W.heap.size ≠ blk; omega) (by show W.heap.size < wr.heap.size; omega)]; exact c0
      have hc1n : w2.cell? ⟨W.heap.size, 1, none⟩ = some (.func (.func sf) #[] sb) := by rw [SW.cell HX2.out (by show W.heap.size ≠ blk; omega) (by show W.heap.size < wr.heap.size; omega)]; exact c1
      go_roundg ko
      case measure => omega
      case rel => exact ⟨b, b + 20, insertionSort (ltK K) x a b, rfl, by go_num, rfl, hlt, by omega, by have := HDA.out; omega, Lib.hid (SW.trans HX.out HX2.out hblk G1.out.1), hc0n, hc1n, by omega, Lib.hid (permIn_trans _ _ _ _ _ HP.out (permIn_mono _ _ _ _ _ _ (Nat.zero_le _) (by omega) (by rw [HP.out.1]; exact Nat.le_refl _) G1.out)), Lib.hid (fun p hp1 hp2 => by
          have hda := HDA.out
          unfold Lv
          rw [Nat.min_eq_left (by omega)]
          rcases Nat.lt_or_ge p a with c | c
          · have := HG.out p hp1 (by omega)
            unfold Lv at this
            rw [Nat.min_eq_left (by omega)] at this
            exact this.congr (fun k h1 h2 => G1.out.2.1 k (.inl (by omega)))
          · obtain rfl : p = a := by omega
            rw [← HBE.out]
            exact G2.out), Lib.hid (fun k h1 => by rw [G1.out.2.1 k (.inr h1)]; exact HE.out k (by omega))⟩
    · have t1 : decide ((b : Int) ≤ (n : Int)) = false := decide_eq_false (by omega)
      have HC := Lib.hid (HIN.out x wr HX.out HP.out.1 a n han hn1)
      obtain ⟨g1, g2⟩ := ins_good K d x a n HD.out HP.out.1 han hn1 (fun k h1 h2 => HE.out k h1)
      have G1 := Lib.hid g1
      have LV : Hid (∀ p, 20 ∣ p → Lv K d (insertionSort (ltK K) x a n) 20 p) := Lib.hid (fun p hp1 => by
        have hda := HDA.out
        unfold Lv
        rcases Nat.lt_or_ge p a with c | c
        · rw [Nat.min_eq_left (by omega)]
          have := HG.out p hp1 (by omega)
          unfold Lv at this
          rw [Nat.min_eq_left (by omega)] at this
          exact this.congr (fun k h1 h2 => g1.2.1 k (.inl (by omega)))
        · rcases Nat.lt_or_ge a p with c' | c'
          · exact Good.empty (by omega)
          · obtain rfl : p = a := by omega
            rw [show min (p + 20) d.size = n by omega]
            exact g2)
      have HP2 : Hid (PermIn 0 d.size d (insertionSort (ltK K) x a n)) := Lib.hid (permIn_trans _ _ _ _ _ HP.out (permIn_mono _ _ _ _ _ _ (Nat.zero_le _) (by omega) (by rw [HP.out.1]; exact Nat.le_refl _) g1))
      clear g1 g2 HG HE
      obtain ⟨y0, hy0⟩ : ∃ y0, y0 = insertionSort (ltK K) x a n := ⟨_, rfl⟩
      rw [← hy0] at LV HP2 HC G1
      clear hy0
      go_wp2_with (first | (go_at_call 51; refine HC.out.mono ?_; rintro e_ w2 ⟨rfl, hx2⟩; have HX2 := Lib.hid hx2; clear hx2))
      have hw2 := HX2.out.le
      have hc0n : w2.cell? ⟨W.heap.size, 0, none⟩ = some (.func (.func g) #[] lb) := by rw [SW.cell HX2.out (by show W.heap.size ≠ blk; omega) (by show W.heap.size < wr.heap.size; omega)]; exact c0
      have hc1n : w2.cell? ⟨W.heap.size, 1, none⟩ = some (.func (.func sf) #[] sb) := by rw [SW.cell HX2.out (by show W.heap.size ≠ blk; omega) (by show W.heap.size < wr.heap.size; omega)]; exact c1
      have HXT := Lib.hid (SW.trans HX.out HX2.out hblk G1.out.1)
      have hwz2 : W.heap.size < w2.heap.size := by omega
      clear HX HX2 HC G1 hw2 c0 c1 hwz HP HDA t1 hlt
      go_loopg [4, 5, 6, 7] n (fun k v4 v5 v6 v7 wr => ∃ (bs : Nat) (y : Array Int), v4 = .int .i64 (bs : Int) ∧ 20 ≤ bs ∧ bs ≤ 2000000 ∧ n ≤ k + bs ∧ Hid (SW enc W blk off y wr) ∧ wr.cell? ⟨W.heap.size, 0, none⟩ = some (.func (.func g) #[] lb) ∧ wr.cell? ⟨W.heap.size, 1, none⟩ = some (.func (.func sf) #[] sb) ∧ W.heap.size < wr.heap.size ∧ Hid (PermIn 0 d.size d y) ∧ Hid (∀ p, bs ∣ p → Lv K d y bs p))
      case atStart => exact ⟨20, y0, rfl, by omega, by omega, by omega, HXT, hc0n, hc1n, hwz2, HP2, LV⟩
      case round =>
        obtain ⟨bs, y, rfl, hbs1, hbs2, hk2, HY, c0, c1, hwz, HP, HL⟩ := hrel
        by_cases hlt : bs < n
        · have t1 : decide ((bs : Int) < (n : Int)) = true := decide_eq_true (by omega)
          obtain ⟨ko, rfl⟩ : ∃ ko, gk = ko + 1 := ⟨gk - 1, by omega⟩
          go_wp2
          go_loopg [5, 6] (n + 1) (fun k v5 v6 wr => ∃ (a b : Nat) (z : Array Int), v5 = .int .i64 (a : Int) ∧ v6 = .int .i64 (b : Int) ∧ a + 2 * bs ≤ b ∧ b ≤ a + 2 * bs ∧ a ≤ n ∧ n + 1 ≤ k + a ∧ Hid (2 * bs ∣ a) ∧ Hid (SW enc W blk off z wr) ∧ wr.cell? ⟨W.heap.size, 0, none⟩ = some (.func (.func g) #[] lb) ∧ wr.cell? ⟨W.heap.size, 1, none⟩ = some (.func (.func sf) #[] sb) ∧ W.heap.size < wr.heap.size ∧ Hid (PermIn 0 d.size d z) ∧ Hid (∀ p, 2 * bs ∣ p → p + 2 * bs ≤ a → Lv K d z (2 * bs) p) ∧ Hid (∀ p, bs ∣ p → a ≤ p → Lv K d z bs p))
          case atStart => exact ⟨0, 2 * bs, y, rfl, by go_num, by omega, by omega, by omega, by omega, Lib.hid ⟨0, rfl⟩, HY, c0, c1, hwz, HP, Lib.hid (fun p _ _ => by omega), Lib.hid (fun p h _ => HL.out p h)⟩
          case round =>
            obtain ⟨a, b, z, rfl, rfl, hb1, hb2, han, hk3, HDA, HZ, c0', c1', hwz', HPZ, HG2, HG1⟩ := hrel
            have DV := Lib.hid (show bs ∣ a ∧ bs ∣ a + bs from by
              have h0 : bs ∣ a := Nat.dvd_trans (Nat.dvd_mul_left bs 2) HDA.out
              exact ⟨h0, Nat.dvd_add h0 (Nat.dvd_refl _)⟩)
            have GA := Lib.hid (HG1.out a DV.out.1 (Nat.le_refl _))
            have GB := Lib.hid (HG1.out (a + bs) DV.out.2 (by omega))
            by_cases hlt2 : b ≤ n
            · have t2 : decide ((b : Int) ≤ (n : Int)) = true := decide_eq_true (by omega)
              obtain ⟨ka, rfl⟩ : ∃ ka, gk = ka + 1 := ⟨gk - 1, by omega⟩
              have ga : Good K d z a (a + bs) := by have := GA.out; unfold Lv at this; rwa [Nat.min_eq_left (by omega)] at this
              have gb : Good K d z (a + bs) b := by have := GB.out; unfold Lv at this; rwa [show min (a + bs + bs) d.size = b by omega] at this
              have HC := Lib.hid (HSM.out z wr HZ.out HPZ.out.1 a (a + bs) b (by omega) (by omega) (by omega) ga.1 gb.1 (good_cross HD.out (by omega) ga gb))
              rw [show ((a + bs : Nat) : Int) = (a : Int) + (bs : Int) by omega] at HC
              have GA' := Lib.hid ga
              have GB' := Lib.hid gb
              clear ga gb
              go_wp2_with (first | (go_at_call 52; refine HC.out.mono ?_; rintro e_ w2 ⟨rfl, z2, hz2, hp2, hs2⟩; have HZ2 := Lib.hid hz2; have HPZ2 := Lib.hid hp2; have HS2 := Lib.hid hs2; clear hz2 hp2 hs2))
              have hw2 := HZ2.out.le
              have hc0n : w2.cell? ⟨W.heap.size, 0, none⟩ = some (.func (.func g) #[] lb) := by rw [SW.cell HZ2.out (by show W.heap.size ≠ blk; omega) (by show W.heap.size < wr.heap.size; omega)]; exact c0'
              have hc1n : w2.cell? ⟨W.heap.size, 1, none⟩ = some (.func (.func sf) #[] sb) := by rw [SW.cell HZ2.out (by show W.heap.size ≠ blk; omega) (by show W.heap.size < wr.heap.size; omega)]; exact c1'
              go_roundg ka
              case measure => omega
              case rel => exact ⟨b, b + 2 * bs, z2, rfl, by go_num, by omega, by omega, hlt2, by omega, Lib.hid (by rw [show b = a + 2 * bs by omega]; exact Nat.dvd_add HDA.out (Nat.dvd_refl _)), Lib.hid (SW.trans HZ.out HZ2.out hblk HPZ2.out.1), hc0n, hc1n, by omega, Lib.hid (permIn_trans _ _ _ _ _ HPZ.out (permIn_mono _ _ _ _ _ _ (Nat.zero_le _) (by omega) (by rw [HPZ.out.1]; exact Nat.le_refl _) HPZ2.out)), Lib.hid (fun p hp1 hp2 => by
                  unfold Lv
                  rw [Nat.min_eq_left (by omega)]
                  rcases Nat.lt_or_ge p a with c | c
                  · have h5 := dvd_step hp1 HDA.out c
                    have := HG2.out p hp1 h5
                    unfold Lv at this
                    rw [Nat.min_eq_left (by omega)] at this
                    exact this.congr (fun k h1 h2 => HPZ2.out.2.1 k (.inl (by omega)))
                  · obtain rfl : p = a := by omega
                    rw [show p + 2 * bs = b by omega]
                    exact good_merge (by omega) (by omega) (by rw [HPZ.out.1]; omega) GA'.out GB'.out HPZ2.out HS2.out), Lib.hid (fun p hp1 hp2 => by
                  have := HG1.out p hp1 (by omega)
                  unfold Lv at *
                  exact this.congr (fun k h1 h2 => HPZ2.out.2.1 k (.inr (by omega))))⟩
            · have t2 : decide ((b : Int) ≤ (n : Int)) = false := decide_eq_false (by omega)
              by_cases hm : a + bs < n
              · have t3 : decide ((a : Int) + (bs : Int) < (n : Int)) = true := decide_eq_true (by omega)
                have ga : Good K d z a (a + bs) := by have := GA.out; unfold Lv at this; rwa [Nat.min_eq_left (by omega)] at this
                have gb : Good K d z (a + bs) n := by have := GB.out; unfold Lv at this; rwa [show min (a + bs + bs) d.size = n by omega] at this
                have HC := Lib.hid (HSM.out z wr HZ.out HPZ.out.1 a (a + bs) n (by omega) hm hn1 ga.1 gb.1 (good_cross HD.out hn1 ga gb))
                rw [show ((a + bs : Nat) : Int) = (a : Int) + (bs : Int) by omega] at HC
                have GA' := Lib.hid ga
                have GB' := Lib.hid gb
                clear ga gb
                go_wp2_with (first | (go_at_call 52; refine HC.out.mono ?_; rintro e_ w2 ⟨rfl, z2, hz2, hp2, hs2⟩; have HZ2 := Lib.hid hz2; have HPZ2 := Lib.hid hp2; have HS2 := Lib.hid hs2; clear hz2 hp2 hs2))
                have hw2 := HZ2.out.le
                have hc0n : w2.cell? ⟨W.heap.size, 0, none⟩ = some (.func (.func g) #[] lb) := by rw [SW.cell HZ2.out (by show W.heap.size ≠ blk; omega) (by show W.heap.size < wr.heap.size; omega)]; exact c0'
                have hc1n : w2.cell? ⟨W.heap.size, 1, none⟩ = some (.func (.func sf) #[] sb) := by rw [SW.cell HZ2.out (by show W.heap.size ≠ blk; omega) (by show W.heap.size < wr.heap.size; omega)]; exact c1'
                go_roundg ko
                case measure => omega
                case rel => exact ⟨2 * bs, z2, by go_num, by omega, by omega, by omega, Lib.hid (SW.trans HZ.out HZ2.out hblk HPZ2.out.1), hc0n, hc1n, by omega, Lib.hid (permIn_trans _ _ _ _ _ HPZ.out (permIn_mono _ _ _ _ _ _ (Nat.zero_le _) hn1 (by rw [HPZ.out.1]; exact Nat.le_refl _) HPZ2.out)), Lib.hid (fun p hp1 => by
                    rcases Nat.lt_or_ge p a with c | c
                    · have h5 := dvd_step hp1 HDA.out c
                      have := HG2.out p hp1 h5
                      unfold Lv at *
                      exact this.congr (fun k h1 h2 => HPZ2.out.2.1 k (.inl (by omega)))
                    · unfold Lv
                      rcases Nat.lt_or_ge a p with c' | c'
                      · have h5 := dvd_step HDA.out hp1 c'
                        exact Good.empty (by omega)
                      · obtain rfl : p = a := by omega
                        rw [show min (p + 2 * bs) d.size = n by omega]
                        exact good_merge (by omega) (by omega) (by rw [HPZ.out.1]; exact hn1) GA'.out GB'.out HPZ2.out HS2.out)⟩
              · have t3 : decide ((a : Int) + (bs : Int) < (n : Int)) = false := decide_eq_false (by omega)
                go_wp2
                go_roundg ko
                case measure => omega
                case rel => exact ⟨2 * bs, z, by go_num, by omega, by omega, by omega, HZ, c0', c1', hwz', HPZ, Lib.hid (fun p hp1 => by
                    rcases Nat.lt_or_ge p a with c | c
                    · have h5 := dvd_step hp1 HDA.out c
                      exact HG2.out p hp1 h5
                    · unfold Lv
                      rcases Nat.lt_or_ge a p with c' | c'
                      · have h5 := dvd_step HDA.out hp1 c'
                        exact Good.empty (by omega)
                      · obtain rfl : p = a := by omega
                        have := GA.out
                        unfold Lv at this
                        rwa [show min (p + 2 * bs) d.size = min (p + bs) d.size by omega])⟩
        · have t1 : decide ((bs : Int) < (n : Int)) = false := decide_eq_false (by omega)
          have FIN := Lib.hid (show Sorted K 0 n y from by
            have := (HL.out 0 ⟨0, rfl⟩)
            unfold Lv at this
            rw [show min (0 + bs) d.size = n by omega] at this
            exact this.1)
          go_wp2
          go_end0
          refine ⟨rfl, y, HY.out, ?_, ?_⟩
          · rw [HN.out]; exact HP.out
          · first | exact FIN.out | (rw [HN.out] at FIN; exact FIN.out)
end Go.Proofs.Ytgcefofmfeghmaa.St
