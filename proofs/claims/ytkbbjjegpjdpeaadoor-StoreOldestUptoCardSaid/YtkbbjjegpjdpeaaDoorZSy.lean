import Derived.Test.YtkbbjjegpjdpeaaDoorZSx

/- (not yet a claim) StoreOldest's walk -/
namespace Go.Proofs.YtkbbjjegpjdpeaaDoor.S
open Go.RowKit Go.Proofs.YtkbbjjegpjdpeaaDoorW.PrintWords Go.Proofs.YtkbbjjegpjdpeaaDoorW.PrintLast Go.Proofs.YtkbbjjegpjdpeaaDoorW.PrintMore Go.Proofs.YtkbbjjegpjdpeaaDoor.G Go.Proofs.YtkbbjjegpjdpeaaDoor.V
set_option linter.unusedVariables false
set_option linter.unusedSimpArgs false
theorem step_right {k cap : Int} {x : S41} {xs l' : List Nd} (h : Step k cap x xs l') (hk : k = 0 ∨ k = 1 ∨ k = 2 ∨ k = 3) (hr : ∀ d ∈ xs, rightB d.x = true) : ∀ d ∈ l', rightB d.x = true := by
  obtain ⟨h0, h1, h2, h3⟩ := h
  intro d hd
  rcases hk with hk | hk | hk | hk
  · rcases h0 hk with ⟨_, rfl⟩ | ⟨_, _, rfl⟩ | ⟨hx, _, kept, gone, e, hy, he, _, _, rfl⟩
    · exact hr d hd
    · exact hr d (List.mem_filter.1 hd).1
    · rcases List.mem_cons.1 hd with rfl | hd
      · rw [he]; exact hx
      · have : d ∈ ys xs x := by rw [hy]; exact List.mem_append_left _ hd
        exact hr d (List.mem_filter.1 this).1
  · rcases h1 hk with ⟨_, rfl⟩ | ⟨l1, e, l2, hs, _, rfl⟩
    · exact hr d hd
    · refine hr d ?_
      rw [hs]
      rcases List.mem_cons.1 hd with rfl | hd
      · simp
      · rcases List.mem_append.1 hd with hd | hd
        · exact List.mem_append_left _ hd
        · exact List.mem_append_right _ (List.mem_cons_of_mem _ hd)
  · rw [h2 hk] at hd; exact hr d (List.mem_filter.1 hd).1
  · rw [h3 hk] at hd; exact hr d (List.mem_filter.1 hd).1
theorem oldest {cap : Int} {x : S41} {xs l' : List Nd} (h : Put cap x xs l') (hr : ∀ d ∈ xs, rightB d.x = true) (hz : ∀ d ∈ l', d.z = sizeI d.x) (h0 : ∀ d ∈ l', 0 ≤ d.z) (room : zs l' ≤ cap) {d0 : Nd} {rest : List Nd} (e : l' = d0 :: rest) (ho : oneB (to35 d0.x) (to35 x) = true) :
    ∃ gone, ys xs x = rest ++ gone ∧ zs l' = sizeI x + zs rest ∧ (∀ h t, gone = h :: t → cap - sizeI x < zs rest + h.z) := by
  subst e
  have hm : d0 ∈ d0 :: rest := by simp
  rcases h with ⟨hx, rfl⟩ | ⟨_, hc, hy⟩ | ⟨_, _, kept, gone, d, hy, hd, _, ht, hl⟩
  · have := hr d0 (by simp)
    rw [one_right ho, hx] at this
    cases this
  · have h1 := hz d0 hm
    rw [one_size ho] at h1
    have h2 := zs_nonneg rest (fun d hd => h0 d (by simp [hd]))
    simp only [zs] at room
    omega
  · injection hl with h1 h2
    subst h1 h2
    refine ⟨gone, hy, ?_, ht⟩
    have := hz d0 hm
    rw [hd] at this
    simp only [zs]
    omega
/-- a part of a row, as what reads it sees it -/
theorem C_tail {w : World} {y : S35} {l : List S35} {ad : Addr} (h : Kd.C k35 w (some ad) (y :: l).length (y :: l)) (n : Nat) (hn : n = l.length) : Kd.C k35 w (some (ad.add 11)) n l := by
  subst hn
  obtain ⟨_, hm, hp⟩ := h
  obtain ⟨ad', e, hc⟩ := hp (by simp)
  cases e
  refine ⟨rfl, by simp only [List.length_cons] at hm; omega, fun _ => ⟨_, rfl, fun j p hj => ?_⟩⟩
  obtain ⟨cs, h1, h2, h3⟩ := hc (j + 1) p (by simpa using hj)
  refine ⟨cs, h1, h2, fun i u hu => ?_⟩
  have := h3 i u hu
  rw [OpnU.add_add']
  rw [show 11 + (j * k35.sz + i) = (j + 1) * k35.sz + i by have : k35.sz = 11 := rfl; rw [this]; omega]
  exact this
theorem C_take {w : World} {A : Option Addr} {l : List S35} {n : Nat} (h : Kd.C k35 w A l.length l) (hn : n ≤ l.length) : Kd.C k35 w A n (l.take n) := by
  obtain ⟨_, hm, hp⟩ := h
  have hl : (l.take n).length = n := by rw [List.length_take]; omega
  refine ⟨hl, by omega, fun h0 => ?_⟩
  obtain ⟨ad, e, hc⟩ := hp (by omega)
  refine ⟨ad, e, fun j p hj => hc j p ?_⟩
  have hj' : j < n := by have := (List.getElem?_eq_some_iff.1 hj).1; omega
  rwa [List.getElem?_take_of_lt hj'] at hj

theorem keepM_snoc {ps pre : List (S41 × Rf)} {j : Nat} {y : S41} {s : Rf} {p : S41 → Bool} (h : xs5 pre = (xs5 (ps.take j)).filter (fun y => p (to41 y))) (hps : ps[j]? = some (y, s)) (hk : p y = true) :
    xs5 (pre ++ [(y, s)]) = (xs5 (ps.take (j + 1))).filter (fun y => p (to41 y)) := by
  rw [take_snoc hps, List.filter_append, ← h]
  have : p (to41 (to35 y)) = true := hk
  simp [xs5, this]
theorem keepM_drop {ps pre : List (S41 × Rf)} {j : Nat} {y : S41} {s : Rf} {p : S41 → Bool} (h : xs5 pre = (xs5 (ps.take j)).filter (fun y => p (to41 y))) (hps : ps[j]? = some (y, s)) (hk : p y = false) :
    xs5 pre = (xs5 (ps.take (j + 1))).filter (fun y => p (to41 y)) := by
  rw [take_snoc hps, List.filter_append, ← h]
  have : p (to41 (to35 y)) = false := hk
  simp [this]
theorem stay_end {xs : List Nd} {ps pre : List (S41 × Rf)} {x : S41} (h1 : ps.map Prod.fst = xs.map Nd.x) (hp : xs5 pre = (xs5 (ps.take ps.length)).filter (fun y => !matchB (to41 y) x.f0)) : xs5 pre = (ys xs x).map (fun d => to35 d.x) := by
  rw [hp, List.take_length, xs5_map h1, List.filter_map]
  rfl

theorem part_calls (w : World) {b1 b2 : Nat} {P Q : Nat → Prop} {ad : Addr} {B : Option Addr} {c d : Nat} {y : S41} {s : Rf} {qs qt pre : List (S41 × Rf)} (h1 : L5 w b1 P (some ad) c qs) (hq : qs = (y, s) :: qt) (h2 : L5 w b2 Q B d pre) (n : Nat) (hn : n = qt.length) (hp : n ≤ pre.length)
    (hs : n < 1099511627776) (hsm : ∀ p ∈ qt, Sm p.1) :
    Calls Tryd.prog 20 #[.slice (if c = 1 then some ad else some { block := ad.block, off := ad.off + 11 }) (qs.length - 1) (c - 1), .slice B n d] w fun e w' => e = .returned (.bool (sameB (xs5 qt) ((xs5 pre).take n))) ∧ Below w.heap.size w w' := by
  have hle : qs.length ≤ c := by have := h1.C.2; simpa [xs5] using this
  have hql : qs.length = n + 1 := by rw [hq, hn]; rfl
  have hd : pre.length ≤ d := by have := h2.C.2; simpa [xs5] using this
  have hl : (xs5 qt).length = n := by simp [xs5, hn]
  have hl2 : ((xs5 pre).take n).length = n := by rw [List.length_take]; simp [xs5]; omega
  obtain ⟨K, hK⟩ := same_f (xs5 qt) ((xs5 pre).take n) (by omega) (fun y hy => by
    obtain ⟨p, hp, rfl⟩ := List.mem_map.1 hy
    have hp := hsm p hp
    exact ⟨by have := sm_len4 hp; exact this, by have := wt_len p.1.f1.f1; have := hp.a7; show p.1.f1.f1.length < _; omega⟩)
  have e1 : Kd.C k35 w (if c = 1 then some ad else some { block := ad.block, off := ad.off + 11 }) (xs5 qt).length (xs5 qt) := by
    by_cases hc : c = 1
    · refine ⟨rfl, by omega, fun h0 => by omega⟩
    · rw [if_neg hc, show ({ block := ad.block, off := ad.off + 11 } : Addr) = ad.add 11 from (add_field ad 0 11 (by omega)).symm.trans (by rw [Nat.zero_add])]
      have h3 := h1.C.1
      rw [hq] at h3
      exact C_tail (y := to35 y) h3 _ rfl
  have e2 : Kd.C k35 w B ((xs5 pre).take n).length ((xs5 pre).take n) := by rw [hl2]; exact C_take h2.C.1 (by simp [xs5]; omega)
  have := turnbuckleref20_Same.calls K (if c = 1 then some ad else some { block := ad.block, off := ad.off + 11 }) (c - 1) (xs5 qt) B d ((xs5 pre).take n) _ w e1 (by omega) e2 (by omega) (hK K (Nat.le_refl _))
  rw [hl, hl2] at this
  rw [show qs.length - 1 = n by omega]
  exact this
theorem part_same {l' xs : List Nd} {rest gone : List Nd} {d0 : Nd} {y : S41} {s : Rf} {qs qt pre : List (S41 × Rf)} {x : S41} (h1 : qs.map Prod.fst = l'.map Nd.x) (hq : qs = (y, s) :: qt) (hl : l' = d0 :: rest) (hp : xs5 pre = (ys xs x).map (fun d => to35 d.x)) (hy : ys xs x = rest ++ gone) : sameB (xs5 qt) ((xs5 pre).take rest.length) = true := by
  have : xs5 qt = (xs5 pre).take rest.length := by
    rw [hp, hy, List.map_append, List.take_left' (by simp)]
    rw [hq, hl] at h1
    simp only [List.map_cons, List.cons.injEq] at h1
    exact xs5_map h1.2
  rw [this]
  exact sameB_refl _

theorem to35_inj {x y : S41} (h : to35 x = to35 y) : x = y := congrArg to41 h
theorem next_gone {xs rest gone : List Nd} {x h : S41} {s : Rf} {pre : List (S41 × Rf)} (hp : xs5 pre = (ys xs x).map (fun d => to35 d.x)) (hy : ys xs x = rest ++ gone) (hh : pre[rest.length]? = some (h, s)) : ∃ g t, gone = g :: t ∧ g.x = h ∧ g ∈ xs := by
  have h1 := congrArg (fun l => l[rest.length]?) hp
  simp only [xs5, List.getElem?_map, hh, hy, Option.map_some] at h1
  rw [List.getElem?_append_right (Nat.le_refl _), Nat.sub_self] at h1
  rcases gone with _ | ⟨g, t⟩
  · cases h1
  · refine ⟨g, t, rfl, ?_, ?_⟩
    · simp only [List.getElem?_cons_zero, Option.map_some, Option.some.injEq] at h1
      exact (to35_inj h1).symm
    · have : g ∈ ys xs x := by rw [hy]; simp
      exact (List.mem_filter.1 this).1

set_option maxRecDepth 100000 in
set_option maxHeartbeats 16000000 in
theorem oldest_calls (w : World) (cap : Int) (A : Option Addr) (c : Nat) (l : List S37) (hC : Kd.C k37 w A l.length l) (hs : Small l) (hl : l.length < 1099511627776) :
    Calls Tryd.prog 5 #[.int .i64 cap, .slice A l.length c] w fun e w' => e = .returned (.bool true) ∧ Below w.heap.size w w' := by
  have HC := Lib.hid hC
  have HSM := Lib.hid hs
  have HAL := Lib.hid alive_calls
  clear hC hs
  by_cases hbad : cap < 0 ∨ 65536 < cap
  · have HN := Lib.hid (new_no w cap hbad)
    clear hbad
    go_enter Tryd.func5, Tryd.ntmps5
    go_wp2_with (first | (go_at_call 8; refine HN.out.mono ?_; rintro e w' ⟨rfl, h_⟩; obtain rfl := h_.symm) | (go_at_call 9; refine (HAL.out _).mono ?_; rintro e w3 ⟨rfl, hb3⟩; have HB3 := Lib.hid hb3; clear hb3))
    go_ret
    exact ⟨rfl, HB3.out⟩
  · have HN := Lib.hid (new_yes w cap (by omega) (by omega))
    have HCAP : Hid (0 ≤ cap ∧ cap ≤ 65536) := Lib.hid (by omega)
    clear hbad
    go_enter Tryd.func5, Tryd.ntmps5
    go_upto_region 4 with (first | (go_at_call 8; refine HN.out.mono ?_; rintro e w' ⟨rfl, h_⟩; obtain rfl := h_.symm) | (go_at_call 9; refine (HAL.out _).mono ?_; rintro e w3 ⟨rfl, hb3⟩; have HB3 := Lib.hid hb3; clear hb3))
    have hInv0 : Hid (Inv w3 w.heap.size w.heap.size cap []) := Lib.hid ((inv_new w cap HCAP.out.1 HCAP.out.2).grow HB3.out)
    have hBw : Hid (Below w.heap.size w w3) := Lib.hid (below_step (below_alloc (Below.refl _ _) _) HB3.out)
    clear HB3 HN
    go_wp2
    go_loopg [33] l.length (fun k v33 W => ∃ (i : Nat) (xs : List Nd), v33 = .int .i64 (i : Int) ∧ i ≤ l.length ∧ l.length ≤ k + i ∧ Hid (Inv W w.heap.size w.heap.size cap xs) ∧ Hid (Below w.heap.size w W) ∧ Hid (∀ d ∈ xs, rightB d.x = true))
    case atStart => exact ⟨0, [], rfl, by omega, by omega, hInv0, hBw, Lib.hid (fun d hd => by cases hd)⟩
    case round =>
      obtain ⟨i, xs, rfl, hi, hk, HI, HW, HR⟩ := hrel
      rename World => Wo
      by_cases hlt : i < l.length
      · obtain ⟨ko, rfl⟩ : ∃ ko, gk = ko + 1 := ⟨gk - 1, by omega⟩
        have hk2 : l.length ≤ ko + (i + 1) := by omega
        have hi1 : i + 1 ≤ l.length := hlt
        have c1 : decide ((i : Int) < (l.length : Int)) = true := decide_eq_true (by omega)
        have p1 : 0 ≤ (i : Int) := by omega
        have p2 : (i : Int) < (l.length : Int) := by omega
        obtain ⟨ad, r, rfl, h0, h1, h2, h3, h4, h5, h6, h7, h8, h9, h10, h11, hE⟩ := act_at HC.out i hlt
        have hsm := HSM.out _ (rd37_mem hlt)
        obtain ⟨k, hk'⟩ : ∃ k, k = (rd_T37 l (i : Int)).f0 := ⟨_, rfl⟩
        obtain ⟨x, hx'⟩ : ∃ x, x = to41 (rd_T37 l (i : Int)).f1 := ⟨_, rfl⟩
        rw [← hk'] at h0 hsm
        rw [← hx'] at h1 h2 h3 h4 h5 h6 h7 h8 h9 h10 h11 hE hsm
        have HWI := Lib.hid (show wrap64 ((i : Int) + 1) = (i : Int) + 1 by unfold wrap64; omega)
        clear hk' hx' hlt
        have hws := HW.out.size
        have hlen0 := HI.out.len
        have HML : Hid (∀ k, Mine w.heap.size xs k → k < Wo.heap.size) := Lib.hid (fun k hk => mine_lt HI.out.st hk)
        have hEW := (hE.lt.below HW.out).mono (P' := fun k => k < w.heap.size) (fun k hk => hk.2)
        have HX := Lib.hid hEW
        have HSX := Lib.hid hsm
        have HL := Lib.hid (fun W' (hb : Below Wo.heap.size Wo W') => list_made W' w.heap.size cap (zs xs) xs _ (HI.out.grow hb).st (fun d hd => ⟨(HI.out.grow hb).ex d hd, sm_fits (HI.out.sm d hd).1⟩) (by omega))
        have HD := Lib.hid (fun W' (hb : Below Wo.heap.size Wo W') => does_calls W' w.heap.size w.heap.size cap k xs x r (HI.out.grow hb) (by have := hb.size; omega) ((HX.out.below hb).mono (fun k hk hm => by have := HI.out.ge k hm; omega)) hsm.1 hsm.2.1 hsm.2.2)
        replace h0 := pw_cell_below HW.out h0
        replace h1 := pw_cell_below HW.out h1
        replace h2 := pw_cell_below HW.out h2
        replace h3 := pw_cell_below HW.out h3
        replace h4 := pw_cell_below HW.out h4
        replace h5 := pw_cell_below HW.out h5
        replace h6 := pw_cell_below HW.out h6
        replace h7 := pw_cell_below HW.out h7
        replace h8 := pw_cell_below HW.out h8
        replace h9 := pw_cell_below HW.out h9
        replace h10 := pw_cell_below HW.out h10
        replace h11 := pw_cell_below HW.out h11
        clear hE hEW hsm hlen0
        go_upto_region 7 with fail
        obtain ⟨W4, hW4⟩ : ∃ W, W = Wo.alloc (.cells #[.int .u8 k, .string x.f0.f0, .string x.f0.f1, .string x.f0.f2, .string x.f0.f3, .slice r.A4 x.f0.f4.length r.c4, .slice r.A5 x.f0.f5.length r.c5, .int .i64 x.f1.f0, .slice r.A7 x.f1.f1.length r.c7, .slice r.A8 x.f1.f2.length r.c8, .int .i64 x.f2, .int .i64 x.f3] 37) := ⟨_, rfl⟩
        rw [← hW4]
        have HA4 : Hid (W4.heap[Wo.heap.size]? = some (.cells #[.int .u8 k, .string x.f0.f0, .string x.f0.f1, .string x.f0.f2, .string x.f0.f3, .slice r.A4 x.f0.f4.length r.c4, .slice r.A5 x.f0.f5.length r.c5, .int .i64 x.f1.f0, .slice r.A7 x.f1.f1.length r.c7, .slice r.A8 x.f1.f2.length r.c8, .int .i64 x.f2, .int .i64 x.f3] 37 (0, 0))) := Lib.hid (by rw [hW4]; exact heap_alloc_new _ _)
        have HB4 : Hid (Below Wo.heap.size Wo W4) := Lib.hid (by rw [hW4]; exact below_alloc (Below.refl _ _) _)
        have hs4 : W4.heap.size = Wo.heap.size + 1 := by rw [hW4]; simp
        have HS4 := Lib.hid hs4
        clear hW4 hs4 h0 h1 h2 h3 h4 h5 h6 h7 h8 h9 h10 h11
        go_upto_region 9 with (first
          | (go_at_call 11; refine (HL.out _ HB4.out).mono ?_; rintro e w7 ⟨A7, c7, ps, rfl, hmap, hls, hb7⟩; have HLS := Lib.hid hls; have HB7 := Lib.hid hb7; have HMAP := Lib.hid hmap; clear hmap hls hb7)
          | (go_at_call 19; refine (lall_calls _ _ _ _ _ ps HLS.out (by have := HI.out.len; have := congrArg List.length HMAP.out; simp at this; omega)).mono ?_; rintro e w8 ⟨A8, c8, rfl, h5, hb8⟩; have H5 := Lib.hid h5; have HB8 := Lib.hid hb8; have HA8 := Lib.hid (blk_bel hb8 (blk_bel HB7.out HA4.out)); clear h5 hb8; have ak := c_of HA8.out 0 (v := .int .u8 k) rfl; have a0 := c_of HA8.out 1 (v := .string x.f0.f0) rfl; have a1 := c_of HA8.out 2 (v := .string x.f0.f1) rfl; have a2 := c_of HA8.out 3 (v := .string x.f0.f2) rfl; have a3 := c_of HA8.out 4 (v := .string x.f0.f3) rfl; have a4 := c_of HA8.out 5 (v := .slice r.A4 x.f0.f4.length r.c4) rfl; have a5 := c_of HA8.out 6 (v := .slice r.A5 x.f0.f5.length r.c5) rfl; have a6 := c_of HA8.out 7 (v := .int .i64 x.f1.f0) rfl; have a7 := c_of HA8.out 8 (v := .slice r.A7 x.f1.f1.length r.c7) rfl; have a8 := c_of HA8.out 9 (v := .slice r.A8 x.f1.f2.length r.c8) rfl; have a9 := c_of HA8.out 10 (v := .int .i64 x.f2) rfl; have a10 := c_of HA8.out 11 (v := .int .i64 x.f3) rfl)
          | (go_at_call 10; refine (HD.out _ ((HB4.out.trans (HB7.out.mono (by have := HS4.out; omega))).trans (HB8.out.mono (by have := HS4.out; have := HB7.out.size; omega)))).mono ?_; rintro e w9 ⟨⟨v9, rfl⟩, ho9, l', hi9, hst⟩; have HI9 := Lib.hid hi9; have HO9 := Lib.hid ho9; have HST := Lib.hid hst; clear ho9 hi9 hst))
        have HA9 : Hid (w9.heap[Wo.heap.size]? = some (.cells #[.int .u8 k, .string x.f0.f0, .string x.f0.f1, .string x.f0.f2, .string x.f0.f3, .slice r.A4 x.f0.f4.length r.c4, .slice r.A5 x.f0.f5.length r.c5, .int .i64 x.f1.f0, .slice r.A7 x.f1.f1.length r.c7, .slice r.A8 x.f1.f2.length r.c8, .int .i64 x.f2, .int .i64 x.f3] 37 (0, 0))) := Lib.hid ((HO9.out.block _ (blk_lt' HA8.out) (fun hm => by have := HML.out _ hm; omega)).trans HA8.out)
        clear ak a0 a1 a2 a3 a4 a5 a6 a7 a8 a9 a10
        have hk0 : 0 ≤ k := HSX.out.2.1
        have hk255 : k ≤ 255 := HSX.out.2.2
        have hr4 : IntKind.u8.wrap (Int.tmod k 4) = k % 4 := by rw [Int.tmod_eq_emod_of_nonneg hk0, IntKind.wrap_u8]; omega
        have HBx : Hid (Below Wo.heap.size Wo w8) := Lib.hid ((HB4.out.trans (HB7.out.mono (by have := HS4.out; omega))).trans (HB8.out.mono (by have := HS4.out; have := HB7.out.size; omega)))
        have HB9 : Hid (Below w.heap.size w w9) := Lib.hid ((HW.out.trans (HBx.out.mono hws)).trans (below_only (by have := HBx.out.size; omega) HO9.out HI.out.ge))
        have HR9 : Hid (∀ d ∈ l', rightB d.x = true) := Lib.hid (step_right HST.out (by omega) HR.out)
        have H9 : Hid (L5 w9 w7.heap.size (fun k => (W4.heap.size ≤ k ∧ ∀ ad, A7 = some ad → k ≠ ad.block) ∧ k < w7.heap.size) A8 c8 ps) := Lib.hid (H5.out.only HO9.out (fun k hk hm => by have := HML.out _ hm; have := HS4.out; have := HB7.out.size; omega) (fun k hk hm => by have := HML.out _ hm; have := HS4.out; have := hk.1.1; omega))
        have hlen9 := HI9.out.len
        have HL2 := Lib.hid (list_made w9 w.heap.size cap (zs l') l' _ HI9.out.st (fun d hd => ⟨HI9.out.ex d hd, sm_fits (HI9.out.sm d hd).1⟩) (by omega))
        have HQK : Hid (l'.length ≤ 1024) := Lib.hid hlen9
        clear hlen9
        go_upto_region 10 with (first
          | (go_at_call 11; refine HL2.out.mono ?_; rintro e w20 ⟨A20, c20, qs, rfl, hmap, hls, hb20⟩; have HLS2 := Lib.hid hls; have HB20 := Lib.hid hb20; have HMAP2 := Lib.hid hmap; clear hmap hls hb20)
          | (go_at_call 19; refine (lall_calls _ _ _ _ _ qs HLS2.out (by have := HQK.out; have := congrArg List.length HMAP2.out; simp at this; omega)).mono ?_; rintro e w21 ⟨A21, c21, rfl, h21, hb21⟩; have H21 := Lib.hid h21; have HB21 := Lib.hid hb21; clear h21 hb21))
        have HQL : Hid (qs.length = l'.length) := Lib.hid (by have := congrArg List.length HMAP2.out; simpa using this)
        have HB921 : Hid (Below w9.heap.size w9 w21) := Lib.hid (below_step HB20.out HB21.out)
        have HA21 := Lib.hid (blk_bel HB921.out HA9.out)
        have HI21 : Hid (Inv w21 w.heap.size w.heap.size cap l') := Lib.hid (HI9.out.grow HB921.out)
        have HB21w : Hid (Below w.heap.size w w21) := Lib.hid (below_step HB9.out HB921.out)
        have H521 := Lib.hid (H9.out.grow HB921.out)
        clear HL HD HL2 HLS HLS2 HB4 HA4 H5 HA8 HBx HA9
        by_cases hk4 : k % 4 = 0
        · by_cases hq0 : qs.length = 0
          · have t0 : (k % 4 == 0) = true := beq_iff_eq.2 hk4
            have t0b : (k.tmod 4 != 0) = false := by rw [Int.tmod_eq_emod_of_nonneg hk0]; simp [hk4]
            have e0 : ((qs.length : Int) == 0) = true := beq_iff_eq.2 (by omega)
            clear hk4 hq0
            refine start_ (n := 18) (S := fun w' => w'.cell? ⟨Wo.heap.size, 0, none⟩ = some (.int .u8 k)) (ds := []) #[false, false, false, false, false, false, false, false, false, false, false, false, false, false, false, false, false, false] (by kernel_rfl) rfl rfl (c_of HA21.out 0 (v := .int .u8 k) rfl) (fun hHeld => ?_)
            refine pure_ (i := 0) (N := some 46) (v := ?_) (a' := ?_) #[true, false, false, false, false, false, false, false, false, false, false, false, false, false, false, false, false, false] rfl rfl (by kernel_rfl) (fun _ _ _ h => h) (Or.inl ⟨by rfl, ?_⟩) ?_ ?_
            rotate_left
            · intro w'
              go_simp
              with_reducible rfl
            rotate_left
            · simp only [Act.put, List.setIfInBounds_toArray, List.set_cons_zero, List.set_cons_succ, i64_w, i32_w]
              rfl
            refine take_ (i := 1) (N := some 47) (v := ?_) (a' := ?_) #[true, true, false, false, false, false, false, false, false, false, false, false, false, false, false, false, false, false] rfl rfl (by kernel_rfl) (fun _ _ _ h => h) (Or.inl ⟨by rfl, ?_⟩) hHeld ?_ ?_
            rotate_left
            · intro w' s0
              go_simp
              with_reducible rfl
            rotate_left
            · simp only [Act.put, List.setIfInBounds_toArray, List.set_cons_zero, List.set_cons_succ, i64_w, i32_w]
              rfl
            refine pure_ (i := 2) (N := some 48) (v := ?_) (a' := ?_) #[true, true, true, false, false, false, false, false, false, false, false, false, false, false, false, false, false, false] rfl rfl (by kernel_rfl) (fun _ _ _ h => h) (Or.inl ⟨by rfl, ?_⟩) ?_ ?_
            rotate_left
            · intro w'
              go_simp
              with_reducible rfl
            rotate_left
            · simp only [Act.put, List.setIfInBounds_toArray, List.set_cons_zero, List.set_cons_succ, i64_w, i32_w]
              rfl
            refine pure_ (i := 3) (N := some 49) (v := ?_) (a' := ?_) #[true, true, true, true, false, false, false, false, false, false, false, false, false, false, false, false, false, false] rfl rfl (by kernel_rfl) (fun _ _ _ h => h) (Or.inl ⟨by rfl, ?_⟩) ?_ ?_
            rotate_left
            · intro w'
              go_simp
              with_reducible rfl
            rotate_left
            · simp only [Act.put, List.setIfInBounds_toArray, List.set_cons_zero, List.set_cons_succ, i64_w, i32_w]
              rfl
            refine pure_ (i := 4) (N := some 50) (v := ?_) (a' := ?_) #[true, true, true, true, true, false, false, false, false, false, false, false, false, false, false, false, false, false] rfl rfl (by kernel_rfl) (fun _ _ _ h => h) (Or.inl ⟨by rfl, ?_⟩) ?_ ?_
            rotate_left
            · intro w'
              go_simp
              with_reducible rfl
            rotate_left
            · simp only [Act.put, List.setIfInBounds_toArray, List.set_cons_zero, List.set_cons_succ, i64_w, i32_w]
              rfl
            refine pure_ (i := 5) (N := some 51) (v := ?_) (a' := ?_) #[true, true, true, true, true, true, false, false, false, false, false, false, false, false, false, false, false, false] rfl rfl (by kernel_rfl) (fun _ _ _ h => h) (Or.inl ⟨by rfl, ?_⟩) ?_ ?_
            rotate_left
            · intro w'
              go_simp
              with_reducible rfl
            rotate_left
            · simp only [Act.put, List.setIfInBounds_toArray, List.set_cons_zero, List.set_cons_succ, i64_w, i32_w]
              rfl
            refine pure_ (i := 6) (N := some 52) (v := ?_) (a' := ?_) #[true, true, true, true, true, true, true, false, false, false, false, false, false, false, false, false, false, false] rfl rfl (by kernel_rfl) (fun _ _ _ h => h) (Or.inl ⟨by rfl, ?_⟩) ?_ ?_
            rotate_left
            · intro w'
              go_simp
              with_reducible rfl
            rotate_left
            · simp only [Act.put, List.setIfInBounds_toArray, List.set_cons_zero, List.set_cons_succ, i64_w, i32_w]
              rfl
            refine pure_ (i := 7) (N := some 53) (v := ?_) (a' := ?_) #[true, true, true, true, true, true, true, true, false, false, false, false, false, false, false, false, false, false] rfl rfl (by kernel_rfl) (fun _ _ _ h => h) (Or.inl ⟨by rfl, ?_⟩) ?_ ?_
            rotate_left
            · intro w'
              go_simp
              with_reducible rfl
            rotate_left
            · simp only [Act.put, List.setIfInBounds_toArray, List.set_cons_zero, List.set_cons_succ, i64_w, i32_w]
              rfl
            refine pure_ (i := 8) (N := some 54) (v := ?_) (a' := ?_) #[true, true, true, true, true, true, true, true, true, false, false, false, false, false, false, false, false, false] rfl rfl (by kernel_rfl) (fun _ _ _ h => h) (Or.inl ⟨by rfl, ?_⟩) ?_ ?_
            rotate_left
            · intro w'
              go_simp
              with_reducible rfl
            rotate_left
            · simp only [Act.put, List.setIfInBounds_toArray, List.set_cons_zero, List.set_cons_succ, i64_w, i32_w]
              rfl
            refine pure_ (i := 9) (N := some 55) (v := ?_) (a' := ?_) #[true, true, true, true, true, true, true, true, true, true, false, false, false, false, false, false, false, false] rfl rfl (by kernel_rfl) (fun _ _ _ h => h) (Or.inl ⟨by rfl, ?_⟩) ?_ ?_
            rotate_left
            · intro w'
              go_simp
              with_reducible rfl
            rotate_left
            · simp only [Act.put, List.setIfInBounds_toArray, List.set_cons_zero, List.set_cons_succ, i64_w, i32_w]
              rfl
            refine pure_ (i := 10) (N := some 56) (v := undef) (a' := ?_) #[true, true, true, true, true, true, true, true, true, true, true, false, false, false, false, false, false, false] rfl rfl (by kernel_rfl) (fun _ _ _ h => h) (Or.inr ⟨by rfl, rfl⟩) ?_ ?_
            rotate_left
            · simp only [Act.put, List.setIfInBounds_toArray, List.set_cons_zero, List.set_cons_succ, i64_w, i32_w]
              rfl
            refine pure_ (i := 11) (N := some 57) (v := undef) (a' := ?_) #[true, true, true, true, true, true, true, true, true, true, true, true, false, false, false, false, false, false] rfl rfl (by kernel_rfl) (fun _ _ _ h => h) (Or.inr ⟨by rfl, rfl⟩) ?_ ?_
            rotate_left
            · simp only [Act.put, List.setIfInBounds_toArray, List.set_cons_zero, List.set_cons_succ, i64_w, i32_w]
              rfl
            refine pure_ (i := 12) (N := some 58) (v := undef) (a' := ?_) #[true, true, true, true, true, true, true, true, true, true, true, true, true, false, false, false, false, false] rfl rfl (by kernel_rfl) (fun _ _ _ h => h) (Or.inr ⟨by rfl, rfl⟩) ?_ ?_
            rotate_left
            · simp only [Act.put, List.setIfInBounds_toArray, List.set_cons_zero, List.set_cons_succ, i64_w, i32_w]
              rfl
            refine pure_ (i := 13) (N := some 59) (v := undef) (a' := ?_) #[true, true, true, true, true, true, true, true, true, true, true, true, true, true, false, false, false, false] rfl rfl (by kernel_rfl) (fun _ _ _ h => h) (Or.inr ⟨by rfl, rfl⟩) ?_ ?_
            rotate_left
            · simp only [Act.put, List.setIfInBounds_toArray, List.set_cons_zero, List.set_cons_succ, i64_w, i32_w]
              rfl
            refine pure_ (i := 14) (N := some 60) (v := undef) (a' := ?_) #[true, true, true, true, true, true, true, true, true, true, true, true, true, true, true, false, false, false] rfl rfl (by kernel_rfl) (fun _ _ _ h => h) (Or.inr ⟨by rfl, rfl⟩) ?_ ?_
            rotate_left
            · simp only [Act.put, List.setIfInBounds_toArray, List.set_cons_zero, List.set_cons_succ, i64_w, i32_w]
              rfl
            refine pure_ (i := 15) (N := some 61) (v := undef) (a' := ?_) #[true, true, true, true, true, true, true, true, true, true, true, true, true, true, true, true, false, false] rfl rfl (by kernel_rfl) (fun _ _ _ h => h) (Or.inr ⟨by rfl, rfl⟩) ?_ ?_
            rotate_left
            · simp only [Act.put, List.setIfInBounds_toArray, List.set_cons_zero, List.set_cons_succ, i64_w, i32_w]
              rfl
            refine pure_ (i := 16) (N := some 62) (v := undef) (a' := ?_) #[true, true, true, true, true, true, true, true, true, true, true, true, true, true, true, true, true, false] rfl rfl (by kernel_rfl) (fun _ _ _ h => h) (Or.inr ⟨by rfl, rfl⟩) ?_ ?_
            rotate_left
            · simp only [Act.put, List.setIfInBounds_toArray, List.set_cons_zero, List.set_cons_succ, i64_w, i32_w]
              rfl
            refine pure_ (i := 17) (N := some 63) (v := ?_) (a' := ?_) #[true, true, true, true, true, true, true, true, true, true, true, true, true, true, true, true, true, true] rfl rfl (by kernel_rfl) (fun _ _ _ h => h) (Or.inl ⟨by rfl, ?_⟩) ?_ ?_
            rotate_left
            · intro w'
              go_simp
              with_reducible rfl
            rotate_left
            · simp only [Act.put, List.setIfInBounds_toArray, List.set_cons_zero, List.set_cons_succ, i64_w, i32_w]
              rfl
            refine done_ (by kernel_rfl) ?_
            go_wp2
            go_roundg ko
            case measure => omega
            case rel => exact ⟨i + 1, l', by first | exact congrArg (Value.int .i64) HWI.out | go_num, hi1, hk2, Lib.hid (HI21.out.grow (below_drew (Below.refl _ _))), Lib.hid (below_step HB21w.out (below_drew (Below.refl _ _))), HR9⟩
          · have t0 : (k % 4 == 0) = true := beq_iff_eq.2 hk4
            have t0b : (k.tmod 4 != 0) = false := by rw [Int.tmod_eq_emod_of_nonneg hk0]; simp [hk4]
            have e0 : ((qs.length : Int) == 0) = false := beq_eq_false_iff_ne.2 (by omega)
            have HK0 := Lib.hid hk4
            obtain ⟨ad3, y, s, rfl, hqs, g0, g1, g2, g3, g4, g5, g6, g7, g8, g9, g10, hE⟩ := l5_at H21.out 0 (by omega)
            have hq1 : 0 < qs.length := by omega
            have HQS := Lib.hid hqs
            have HE := Lib.hid hE
            have HSY : Hid (Sm y) := Lib.hid (sm_of_map HMAP2.out (fun d hd => (HI9.out.sm d hd).1) (y, s) (List.mem_of_getElem? hqs))
            have HX21 : Hid (Ex w21 (fun k => k < w.heap.size) x r) := Lib.hid (HX.out.keep (fun k hk => (HB21w.out.block k hk).trans (HW.out.block k hk).symm))
            clear hk4 hq0 hqs hE
            have hz : ad3.add (0 * 11) = ad3 := by simp [Addr.add]
            rw [hz] at g0 g1 g2 g3 g4 g5 g6 g7 g8 g9 g10
            clear hz
            obtain ⟨b, hb⟩ : ∃ b, b = oneB (to35 y) (to35 x) := ⟨_, rfl⟩
            have HBB := Lib.hid hb
            have HONE := Lib.hid (fun W' (hw : Below w21.heap.size w21 W') => one_calls W' _ _ y x s r (HE.out.below hw) (HX21.out.below hw) HSY.out)
            rw [← hb] at HONE
            clear hb
            refine start_ (n := 18) (S := fun w' => w'.cell? ⟨Wo.heap.size, 0, none⟩ = some (.int .u8 k) ∧ w'.cell? ⟨Wo.heap.size, 1, none⟩ = some (.string x.f0.f0) ∧ w'.cell? ⟨Wo.heap.size, 2, none⟩ = some (.string x.f0.f1) ∧ w'.cell? ⟨Wo.heap.size, 3, none⟩ = some (.string x.f0.f2) ∧ w'.cell? ⟨Wo.heap.size, 4, none⟩ = some (.string x.f0.f3) ∧ w'.cell? ⟨Wo.heap.size, 5, none⟩ = some (.slice r.A4 x.f0.f4.length r.c4) ∧ w'.cell? ⟨Wo.heap.size, 6, none⟩ = some (.slice r.A5 x.f0.f5.length r.c5) ∧ w'.cell? ⟨Wo.heap.size, 7, none⟩ = some (.int .i64 x.f1.f0) ∧ w'.cell? ⟨Wo.heap.size, 8, none⟩ = some (.slice r.A7 x.f1.f1.length r.c7) ∧ w'.cell? ⟨Wo.heap.size, 9, none⟩ = some (.slice r.A8 x.f1.f2.length r.c8) ∧ w'.cell? ⟨Wo.heap.size, 10, none⟩ = some (.int .i64 x.f2) ∧ w'.cell? ⟨Wo.heap.size, 11, none⟩ = some (.int .i64 x.f3) ∧ w'.cell? ad3 = some (.string y.f0.f0) ∧ w'.cell? ⟨ad3.block, ad3.off + 1, none⟩ = some (.string y.f0.f1) ∧ w'.cell? ⟨ad3.block, ad3.off + 2, none⟩ = some (.string y.f0.f2) ∧ w'.cell? ⟨ad3.block, ad3.off + 3, none⟩ = some (.string y.f0.f3) ∧ w'.cell? ⟨ad3.block, ad3.off + 4, none⟩ = some (.slice s.A4 y.f0.f4.length s.c4) ∧ w'.cell? ⟨ad3.block, ad3.off + 5, none⟩ = some (.slice s.A5 y.f0.f5.length s.c5) ∧ w'.cell? ⟨ad3.block, ad3.off + 6, none⟩ = some (.int .i64 y.f1.f0) ∧ w'.cell? ⟨ad3.block, ad3.off + 7, none⟩ = some (.slice s.A7 y.f1.f1.length s.c7) ∧ w'.cell? ⟨ad3.block, ad3.off + 8, none⟩ = some (.slice s.A8 y.f1.f2.length s.c8) ∧ w'.cell? ⟨ad3.block, ad3.off + 9, none⟩ = some (.int .i64 y.f2) ∧ w'.cell? ⟨ad3.block, ad3.off + 10, none⟩ = some (.int .i64 y.f3)) (ds := []) #[false, false, false, false, false, false, false, false, false, false, false, false, false, false, false, false, false, false] (by kernel_rfl) rfl rfl ⟨c_of HA21.out 0 (v := .int .u8 k) rfl, c_of HA21.out 1 (v := .string x.f0.f0) rfl, c_of HA21.out 2 (v := .string x.f0.f1) rfl, c_of HA21.out 3 (v := .string x.f0.f2) rfl, c_of HA21.out 4 (v := .string x.f0.f3) rfl, c_of HA21.out 5 (v := .slice r.A4 x.f0.f4.length r.c4) rfl, c_of HA21.out 6 (v := .slice r.A5 x.f0.f5.length r.c5) rfl, c_of HA21.out 7 (v := .int .i64 x.f1.f0) rfl, c_of HA21.out 8 (v := .slice r.A7 x.f1.f1.length r.c7) rfl, c_of HA21.out 9 (v := .slice r.A8 x.f1.f2.length r.c8) rfl, c_of HA21.out 10 (v := .int .i64 x.f2) rfl, c_of HA21.out 11 (v := .int .i64 x.f3) rfl, g0, g1, g2, g3, g4, g5, g6, g7, g8, g9, g10⟩ (fun hHeld => ?_)
            refine pure_ (i := 0) (N := some 46) (v := ?_) (a' := ?_) #[true, false, false, false, false, false, false, false, false, false, false, false, false, false, false, false, false, false] rfl rfl (by kernel_rfl) (fun _ _ _ h => h) (Or.inl ⟨by rfl, ?_⟩) ?_ ?_
            rotate_left
            · intro w'
              go_simp
              with_reducible rfl
            rotate_left
            · simp only [Act.put, List.setIfInBounds_toArray, List.set_cons_zero, List.set_cons_succ, i64_w, i32_w]
              rfl
            refine take_ (i := 1) (N := some 47) (v := ?_) (a' := ?_) #[true, true, false, false, false, false, false, false, false, false, false, false, false, false, false, false, false, false] rfl rfl (by kernel_rfl) (fun _ _ _ h => h) (Or.inl ⟨by rfl, ?_⟩) hHeld ?_ ?_
            rotate_left
            · rintro w' ⟨s0, s1, s2, s3, s4, s5, s6, s7, s8, s9, s10, s11, s12, s13, s14, s15, s16, s17, s18, s19, s20, s21, s22⟩
              go_simp
              with_reducible rfl
            rotate_left
            · simp only [Act.put, List.setIfInBounds_toArray, List.set_cons_zero, List.set_cons_succ, i64_w, i32_w]
              rfl
            refine pure_ (i := 2) (N := some 48) (v := ?_) (a' := ?_) #[true, true, true, false, false, false, false, false, false, false, false, false, false, false, false, false, false, false] rfl rfl (by kernel_rfl) (fun _ _ _ h => h) (Or.inl ⟨by rfl, ?_⟩) ?_ ?_
            rotate_left
            · intro w'
              go_simp
              with_reducible rfl
            rotate_left
            · simp only [Act.put, List.setIfInBounds_toArray, List.set_cons_zero, List.set_cons_succ, i64_w, i32_w]
              rfl
            refine pure_ (i := 3) (N := some 49) (v := ?_) (a' := ?_) #[true, true, true, true, false, false, false, false, false, false, false, false, false, false, false, false, false, false] rfl rfl (by kernel_rfl) (fun _ _ _ h => h) (Or.inl ⟨by rfl, ?_⟩) ?_ ?_
            rotate_left
            · intro w'
              go_simp
              with_reducible rfl
            rotate_left
            · simp only [Act.put, List.setIfInBounds_toArray, List.set_cons_zero, List.set_cons_succ, i64_w, i32_w]
              rfl
            refine pure_ (i := 4) (N := some 50) (v := ?_) (a' := ?_) #[true, true, true, true, true, false, false, false, false, false, false, false, false, false, false, false, false, false] rfl rfl (by kernel_rfl) (fun _ _ _ h => h) (Or.inl ⟨by rfl, ?_⟩) ?_ ?_
            rotate_left
            · intro w'
              go_simp
              with_reducible rfl
            rotate_left
            · simp only [Act.put, List.setIfInBounds_toArray, List.set_cons_zero, List.set_cons_succ, i64_w, i32_w]
              rfl
            refine pure_ (i := 5) (N := some 51) (v := ?_) (a' := ?_) #[true, true, true, true, true, true, false, false, false, false, false, false, false, false, false, false, false, false] rfl rfl (by kernel_rfl) (fun _ _ _ h => h) (Or.inl ⟨by rfl, ?_⟩) ?_ ?_
            rotate_left
            · intro w'
              go_simp
              with_reducible rfl
            rotate_left
            · simp only [Act.put, List.setIfInBounds_toArray, List.set_cons_zero, List.set_cons_succ, i64_w, i32_w]
              rfl
            refine pure_ (i := 6) (N := some 52) (v := ?_) (a' := ?_) #[true, true, true, true, true, true, true, false, false, false, false, false, false, false, false, false, false, false] rfl rfl (by kernel_rfl) (fun _ _ _ h => h) (Or.inl ⟨by rfl, ?_⟩) ?_ ?_
            rotate_left
            · intro w'
              go_simp
              with_reducible rfl
            rotate_left
            · simp only [Act.put, List.setIfInBounds_toArray, List.set_cons_zero, List.set_cons_succ, i64_w, i32_w]
              rfl
            refine pure_ (i := 7) (N := some 53) (v := ?_) (a' := ?_) #[true, true, true, true, true, true, true, true, false, false, false, false, false, false, false, false, false, false] rfl rfl (by kernel_rfl) (fun _ _ _ h => h) (Or.inl ⟨by rfl, ?_⟩) ?_ ?_
            rotate_left
            · intro w'
              go_simp
              with_reducible rfl
            rotate_left
            · simp only [Act.put, List.setIfInBounds_toArray, List.set_cons_zero, List.set_cons_succ, i64_w, i32_w]
              rfl
            refine pure_ (i := 8) (N := some 54) (v := ?_) (a' := ?_) #[true, true, true, true, true, true, true, true, true, false, false, false, false, false, false, false, false, false] rfl rfl (by kernel_rfl) (fun _ _ _ h => h) (Or.inl ⟨by rfl, ?_⟩) ?_ ?_
            rotate_left
            · intro w'
              go_simp
              with_reducible rfl
            rotate_left
            · simp only [Act.put, List.setIfInBounds_toArray, List.set_cons_zero, List.set_cons_succ, i64_w, i32_w]
              rfl
            refine pure_ (i := 9) (N := some 55) (v := ?_) (a' := ?_) #[true, true, true, true, true, true, true, true, true, true, false, false, false, false, false, false, false, false] rfl rfl (by kernel_rfl) (fun _ _ _ h => h) (Or.inl ⟨by rfl, ?_⟩) ?_ ?_
            rotate_left
            · intro w'
              go_simp
              with_reducible rfl
            rotate_left
            · simp only [Act.put, List.setIfInBounds_toArray, List.set_cons_zero, List.set_cons_succ, i64_w, i32_w]
              rfl
            refine pure_ (i := 10) (N := some 56) (v := ?_) (a' := ?_) #[true, true, true, true, true, true, true, true, true, true, true, false, false, false, false, false, false, false] rfl rfl (by kernel_rfl) (fun _ _ _ h => h) (Or.inl ⟨by rfl, ?_⟩) ?_ ?_
            rotate_left
            · intro w'
              go_simp
              with_reducible rfl
            rotate_left
            · simp only [Act.put, List.setIfInBounds_toArray, List.set_cons_zero, List.set_cons_succ, i64_w, i32_w]
              rfl
            refine pure_ (i := 11) (N := some 57) (v := ?_) (a' := ?_) #[true, true, true, true, true, true, true, true, true, true, true, true, false, false, false, false, false, false] rfl rfl (by kernel_rfl) (fun _ _ _ h => h) (Or.inl ⟨by rfl, ?_⟩) ?_ ?_
            rotate_left
            · intro w'
              go_simp
              with_reducible rfl
            rotate_left
            · simp only [Act.put, List.setIfInBounds_toArray, List.set_cons_zero, List.set_cons_succ, i64_w, i32_w]
              rfl
            refine pure_ (i := 13) (N := some 59) (v := ?_) (a' := ?_) #[true, true, true, true, true, true, true, true, true, true, true, true, false, true, false, false, false, false] rfl rfl (by kernel_rfl) (fun _ _ _ h => h) (Or.inl ⟨by rfl, ?_⟩) ?_ ?_
            rotate_left
            · intro w'
              go_simp
              with_reducible rfl
            rotate_left
            · simp only [Act.put, List.setIfInBounds_toArray, List.set_cons_zero, List.set_cons_succ, i64_w, i32_w]
              rfl
            refine take_ (i := 12) (N := some 58) (v := ?_) (a' := ?_) #[true, true, true, true, true, true, true, true, true, true, true, true, true, true, false, false, false, false] rfl rfl (by kernel_rfl) (fun _ _ _ h => h) (Or.inl ⟨by rfl, ?_⟩) hHeld ?_ ?_
            rotate_left
            · rintro w' ⟨s0, s1, s2, s3, s4, s5, s6, s7, s8, s9, s10, s11, s12, s13, s14, s15, s16, s17, s18, s19, s20, s21, s22⟩
              go_simp
              with_reducible rfl
            rotate_left
            · simp only [Act.put, List.setIfInBounds_toArray, List.set_cons_zero, List.set_cons_succ, i64_w, i32_w]
              rfl
            refine take_ (i := 14) (N := some 60) (v := ?_) (a' := ?_) #[true, true, true, true, true, true, true, true, true, true, true, true, true, true, true, false, false, false] rfl rfl (by kernel_rfl) (fun _ _ _ h => h) (Or.inl ⟨by rfl, ?_⟩) hHeld ?_ ?_
            rotate_left
            · rintro w' ⟨s0, s1, s2, s3, s4, s5, s6, s7, s8, s9, s10, s11, s12, s13, s14, s15, s16, s17, s18, s19, s20, s21, s22⟩
              go_simp
              with_reducible rfl
            rotate_left
            · simp only [Act.put, List.setIfInBounds_toArray, List.set_cons_zero, List.set_cons_succ, i64_w, i32_w]
              rfl
            refine one_ (i := 15) (N := some 61) #[true, true, true, true, true, true, true, true, true, true, true, true, true, true, true, true, false, false] rfl rfl (by kernel_rfl) (by decide) (fun K hK => ?_)
            refine goes_ Tryd.func16 (by kernel_rfl) rfl #[.agg #[.string y.f0.f0, .string y.f0.f1, .string y.f0.f2, .string y.f0.f3, .slice s.A4 y.f0.f4.length s.c4, .slice s.A5 y.f0.f5.length s.c5, .int .i64 y.f1.f0, .slice s.A7 y.f1.f1.length s.c7, .slice s.A8 y.f1.f2.length s.c8, .int .i64 y.f2, .int .i64 y.f3], .agg #[.string x.f0.f0, .string x.f0.f1, .string x.f0.f2, .string x.f0.f3, .slice r.A4 x.f0.f4.length r.c4, .slice r.A5 x.f0.f5.length r.c5, .int .i64 x.f1.f0, .slice r.A7 x.f1.f1.length r.c7, .slice r.A8 x.f1.f2.length r.c8, .int .i64 x.f2, .int .i64 x.f3]] (by rfl) rfl rfl (by simp only [List.map_toArray, List.map_cons, List.map_nil]; rfl) ?_
            with_reducible refine (HONE.out _ (below_drew (Below.refl _ _))).mono ?_
            rintro e w22 ⟨rfl, hb22⟩
            refine ⟨_, rfl, ?_⟩
            have HB22 : Hid (Below w21.heap.size w21 w22) := Lib.hid (below_step (below_drew (Below.refl _ _)) hb22)
            refine hK.out _ _ ⟨c_of (blk_bel HB22.out HA21.out) 0 (v := .int .u8 k) rfl, c_of (blk_bel HB22.out HA21.out) 1 (v := .string x.f0.f0) rfl, c_of (blk_bel HB22.out HA21.out) 2 (v := .string x.f0.f1) rfl, c_of (blk_bel HB22.out HA21.out) 3 (v := .string x.f0.f2) rfl, c_of (blk_bel HB22.out HA21.out) 4 (v := .string x.f0.f3) rfl, c_of (blk_bel HB22.out HA21.out) 5 (v := .slice r.A4 x.f0.f4.length r.c4) rfl, c_of (blk_bel HB22.out HA21.out) 6 (v := .slice r.A5 x.f0.f5.length r.c5) rfl, c_of (blk_bel HB22.out HA21.out) 7 (v := .int .i64 x.f1.f0) rfl, c_of (blk_bel HB22.out HA21.out) 8 (v := .slice r.A7 x.f1.f1.length r.c7) rfl, c_of (blk_bel HB22.out HA21.out) 9 (v := .slice r.A8 x.f1.f2.length r.c8) rfl, c_of (blk_bel HB22.out HA21.out) 10 (v := .int .i64 x.f2) rfl, c_of (blk_bel HB22.out HA21.out) 11 (v := .int .i64 x.f3) rfl, pw_cell_below HB22.out g0, pw_cell_below HB22.out g1, pw_cell_below HB22.out g2, pw_cell_below HB22.out g3, pw_cell_below HB22.out g4, pw_cell_below HB22.out g5, pw_cell_below HB22.out g6, pw_cell_below HB22.out g7, pw_cell_below HB22.out g8, pw_cell_below HB22.out g9, pw_cell_below HB22.out g10⟩ (fun hHeld => ?_)
            clear hK K
            refine norm_ (a' := ?_) ?_ ?_
            rotate_left
            · show Act.put _ (some 61) _ = _
              simp only [Act.put, List.setIfInBounds_toArray, List.set_cons_zero, List.set_cons_succ, i64_w, i32_w]
              rfl
            refine pure_ (i := 16) (N := some 62) (v := ?_) (a' := ?_) #[true, true, true, true, true, true, true, true, true, true, true, true, true, true, true, true, true, false] rfl rfl (by kernel_rfl) (fun _ _ _ h => h) (Or.inl ⟨by rfl, ?_⟩) ?_ ?_
            rotate_left
            · intro w'
              go_simp
              with_reducible rfl
            rotate_left
            · simp only [Act.put, List.setIfInBounds_toArray, List.set_cons_zero, List.set_cons_succ, i64_w, i32_w]
              rfl
            refine pure_ (i := 17) (N := some 63) (v := ?_) (a' := ?_) #[true, true, true, true, true, true, true, true, true, true, true, true, true, true, true, true, true, true] rfl rfl (by kernel_rfl) (fun _ _ _ h => h) (Or.inl ⟨by rfl, ?_⟩) ?_ ?_
            rotate_left
            · intro w'
              go_simp
              with_reducible rfl
            rotate_left
            · simp only [Act.put, List.setIfInBounds_toArray, List.set_cons_zero, List.set_cons_succ, i64_w, i32_w]
              rfl
            refine done_ (by kernel_rfl) ?_
            clear hHeld
            obtain ⟨W22, hW22⟩ : ∃ W, W = w22 := ⟨_, rfl⟩
            have HB22 : Hid (Below w21.heap.size w21 w22) := HB22
            clear hW22
            cases b with
            | false =>
              go_wp2
              go_roundg ko
              case measure => omega
              case rel => exact ⟨i + 1, l', by first | exact congrArg (Value.int .i64) HWI.out | go_num, hi1, hk2, Lib.hid (HI21.out.grow HB22.out), Lib.hid (below_step HB21w.out HB22.out), HR9⟩
            | true =>
              simp only [Bool.not_true]
              rw [Int.tmod_eq_emod_of_nonneg hk0]
              obtain ⟨d0, rest, HLC⟩ : ∃ d0 rest, Hid (l' = d0 :: rest ∧ d0.x = y) := by
                rcases hl' : l' with _ | ⟨d0, rest⟩
                · have := HQL.out; rw [hl'] at this; simp only [List.length_nil] at this; omega
                · refine ⟨d0, rest, Lib.hid ⟨rfl, ?_⟩⟩
                  have h1 := congrArg (fun l => l[0]?) HMAP2.out
                  rw [hl'] at h1
                  simp only [List.getElem?_map, HQS.out] at h1
                  simpa using h1.symm
              obtain ⟨gone, HOLD⟩ : ∃ gone, Hid (ys xs x = rest ++ gone ∧ zs l' = sizeI x + zs rest ∧ ∀ h t, gone = h :: t → cap - sizeI x < zs rest + h.z) := by
                obtain ⟨gone, hg⟩ := oldest (HST.out.1 HK0.out) HR.out (fun d hd => (HI9.out.sm d hd).2) (fun d hd => by have := HI9.out.z64 d hd; omega) HI9.out.room HLC.out.1 (by rw [HLC.out.2]; exact HBB.out.symm)
                exact ⟨gone, Lib.hid hg⟩
              have HA22 := Lib.hid (blk_bel HB22.out HA21.out)
              have H522 := Lib.hid (H521.out.grow HB22.out)
              have H2122 := Lib.hid (H21.out.grow HB22.out)
              have HX22 : Hid (Ex w22 (fun k => k < w.heap.size) x r) := Lib.hid (HX21.out.below HB22.out)
              have HI22 : Hid (Inv w22 w.heap.size w.heap.size cap l') := Lib.hid (HI21.out.grow HB22.out)
              have HB22w : Hid (Below w.heap.size w w22) := Lib.hid (below_step HB21w.out HB22.out)
              have HPK : Hid (ps.length ≤ 1024) := Lib.hid (by have := HI.out.len; have := congrArg List.length HMAP.out; simp at this; omega)
              have hs7 := HB7.out.size
              have hs8 := HB8.out.size
              have hs9 := HO9.out.size
              have hs921 := HB921.out.size
              have hs22 := HB22.out.size
              have hp10 : ps.length < 9223372036854775807 := by have := HPK.out; omega
              clear g0 g1 g2 g3 g4 g5 g6 g7 g8 g9 g10 HONE
              go_wp2
              go_loopg [11, 66] ps.length (fun kk v11 v66 W => ∃ (j : Nat) (A2 : Option Addr) (c2 : Nat) (pre : List (S41 × Rf)), v66 = .int .i64 (j : Int) ∧ v11 = .slice A2 pre.length c2 ∧ j ≤ ps.length ∧ ps.length ≤ kk + j ∧ Hid (xs5 pre = (xs5 (ps.take j)).filter (fun y => !matchB (to41 y) x.f0)) ∧ Hid (pre.length ≤ j) ∧ Hid (Below w22.heap.size w22 W) ∧ Hid (L5 W w22.heap.size (fun k => (W4.heap.size ≤ k ∧ ∀ ad, A7 = some ad → k ≠ ad.block) ∧ k < w7.heap.size) A2 c2 pre))
              case atStart => exact ⟨0, none, 0, [], rfl, rfl, by omega, by omega, Lib.hid rfl, Lib.hid (Nat.le_refl _), Lib.hid (Below.refl _ _), Lib.hid (L5.none_ _ _ _ (fun k hk => by have := hk.2; omega))⟩
              case round =>
                obtain ⟨j, A2, c2, pre, rfl, rfl, hj, hjk, HP, HPL, HWJ, H52⟩ := hrel
                rename World => Wj
                by_cases hlt : j < ps.length
                · obtain ⟨k2, rfl⟩ : ∃ k2, gk = k2 + 1 := ⟨gk - 1, by omega⟩
                  have hk3 : ps.length ≤ k2 + (j + 1) := by omega
                  have hj1 : j + 1 ≤ ps.length := hlt
                  have c1 : decide ((j : Int) < (ps.length : Int)) = true := decide_eq_true (by omega)
                  have p1 : 0 ≤ (j : Int) := by omega
                  have p2 : (j : Int) < (ps.length : Int) := by omega
                  obtain ⟨ad2, z, s2, rfl, hps, g0, g1, g2, g3, g4, g5, g6, g7, g8, g9, g10, hE⟩ := l5_at (H522.out.grow HWJ.out) j hlt
                  have HPS := Lib.hid hps
                  have HE2 := Lib.hid hE
                  have HSZ : Hid (Sm z) := Lib.hid (sm_of_map HMAP.out (fun d hd => (HI.out.sm d hd).1) (z, s2) (List.mem_of_getElem? hps))
                  have hsj := HWJ.out.size
                  have HWX := Lib.hid (show wrap64 ((j : Int) + 1) = (j : Int) + 1 by unfold wrap64; omega)
                  clear hE hps hlt
                  go_upto_region 15 with fail
                  obtain ⟨W14, hW14⟩ : ∃ W, W = Wj.alloc (.cells (Vx z s2) 35) := ⟨_, rfl⟩
                  rw [show Wj.alloc (.cells #[.string z.f0.f0, .string z.f0.f1, .string z.f0.f2, .string z.f0.f3, .slice s2.A4 z.f0.f4.length s2.c4, .slice s2.A5 z.f0.f5.length s2.c5, .int .i64 z.f1.f0, .slice s2.A7 z.f1.f1.length s2.c7, .slice s2.A8 z.f1.f2.length s2.c8, .int .i64 z.f2, .int .i64 z.f3] 35) = W14 from hW14.symm]
                  have HB14 : Hid (Below Wj.heap.size Wj W14) := Lib.hid (by rw [hW14]; exact below_alloc (Below.refl _ _) _)
                  have HY14 : Hid (W14.heap[Wj.heap.size]? = some (.cells (Vx z s2) 35 (0, 0))) := Lib.hid (by rw [hW14]; exact heap_alloc_new _ _)
                  have HA14 := Lib.hid (blk_bel HB14.out (blk_bel HWJ.out HA22.out))
                  clear hW14 g0 g1 g2 g3 g4 g5 g6 g7 g8 g9 g10
                  obtain ⟨m, hm⟩ : ∃ m, m = matchB z x.f0 := ⟨_, rfl⟩
                  have HMM := Lib.hid hm
                  have HMC := Lib.hid (rmatches_calls W14 _ z s2 x.f0 r.A4 r.c4 r.A5 r.c5 (HE2.out.below HB14.out) (HX22.out.below (below_step HWJ.out HB14.out)).g4 HX22.out.l4 (HX22.out.below (below_step HWJ.out HB14.out)).g5 HX22.out.l5 HSZ.out (sm_len4 HSX.out.1))
                  rw [← hm] at HMC
                  clear hm
                  have z0 := c_of HY14.out 0 (v := .string z.f0.f0) rfl
                  have z1 := c_of HY14.out 1 (v := .string z.f0.f1) rfl
                  have z2 := c_of HY14.out 2 (v := .string z.f0.f2) rfl
                  have z3 := c_of HY14.out 3 (v := .string z.f0.f3) rfl
                  have z4 := c_of HY14.out 4 (v := .slice s2.A4 z.f0.f4.length s2.c4) rfl
                  have z5 := c_of HY14.out 5 (v := .slice s2.A5 z.f0.f5.length s2.c5) rfl
                  have z6 := c_of HY14.out 6 (v := .int .i64 z.f1.f0) rfl
                  have z7 := c_of HY14.out 7 (v := .slice s2.A7 z.f1.f1.length s2.c7) rfl
                  have z8 := c_of HY14.out 8 (v := .slice s2.A8 z.f1.f2.length s2.c8) rfl
                  have z9 := c_of HY14.out 9 (v := .int .i64 z.f2) rfl
                  have z10 := c_of HY14.out 10 (v := .int .i64 z.f3) rfl
                  have a0 := c_of HA14.out 1 (v := .string x.f0.f0) rfl
                  have a1 := c_of HA14.out 2 (v := .string x.f0.f1) rfl
                  have a2 := c_of HA14.out 3 (v := .string x.f0.f2) rfl
                  have a3 := c_of HA14.out 4 (v := .string x.f0.f3) rfl
                  have a4 := c_of HA14.out 5 (v := .slice r.A4 x.f0.f4.length r.c4) rfl
                  have a5 := c_of HA14.out 6 (v := .slice r.A5 x.f0.f5.length r.c5) rfl
                  cases m with
                  | true =>
                    go_wp2_with (go_at_call 17; refine HMC.out.mono ?_; rintro e w15 ⟨rfl, hb15⟩; have HB15 := Lib.hid hb15; clear hb15)
                    have HBJ : Hid (Below Wj.heap.size Wj w15) := Lib.hid (below_step HB14.out HB15.out)
                    go_roundg k2
                    case measure => omega
                    case rel => exact ⟨j + 1, A2, c2, pre, by first | exact congrArg (Value.int .i64) HWX.out | go_num, rfl, hj1, hk3, Lib.hid (keepM_drop (p := fun y => !matchB y x.f0) HP.out HPS.out (by simp [← HMM.out])), Lib.hid (by have := HPL.out; omega), Lib.hid (HWJ.out.trans (HBJ.out.mono hsj)), Lib.hid (H52.out.grow HBJ.out)⟩
                  | false =>
                    go_wp2_with (first
                      | (go_at_call 17; refine HMC.out.mono ?_; rintro e w15 ⟨rfl, hb15⟩; have HB15 := Lib.hid hb15; clear hb15; have HBJ : Hid (Below Wj.heap.size Wj w15) := Lib.hid (below_step HB14.out HB15.out); have HY := Lib.hid (blk_bel HB15.out HY14.out); have z0 := c_of HY.out 0 (v := .string z.f0.f0) rfl; have z1 := c_of HY.out 1 (v := .string z.f0.f1) rfl; have z2 := c_of HY.out 2 (v := .string z.f0.f2) rfl; have z3 := c_of HY.out 3 (v := .string z.f0.f3) rfl; have z4 := c_of HY.out 4 (v := .slice s2.A4 z.f0.f4.length s2.c4) rfl; have z5 := c_of HY.out 5 (v := .slice s2.A5 z.f0.f5.length s2.c5) rfl; have z6 := c_of HY.out 6 (v := .int .i64 z.f1.f0) rfl; have z7 := c_of HY.out 7 (v := .slice s2.A7 z.f1.f1.length s2.c7) rfl; have z8 := c_of HY.out 8 (v := .slice s2.A8 z.f1.f2.length s2.c8) rfl; have z9 := c_of HY.out 9 (v := .int .i64 z.f2) rfl; have z10 := c_of HY.out 10 (v := .int .i64 z.f3) rfl; obtain ⟨A9, c9, w99, hrun, hown, hgr⟩ := app46_eq w15 w22.heap.size A2 c2 pre z s2 (H52.out.grow HBJ.out).row (by have := HBJ.out.size; omega) (by have := HPL.out; have := HPK.out; omega); have HR99 := Lib.hid hrun; have HO99 := Lib.hid hown; have HG99 := Lib.hid hgr; clear hrun hown hgr)
                      | (at_builtin; refine app46_at rfl _ _ rfl rfl rfl rfl HR99.out ?_))
                    go_roundg k2
                    case measure => omega
                    case rel => exact ⟨j + 1, A9, c9, pre ++ [(z, s2)], by first | exact congrArg (Value.int .i64) HWX.out | go_num, by simp, hj1, hk3, Lib.hid (keepM_snoc (p := fun y => !matchB y x.f0) HP.out HPS.out (by simp [← HMM.out])), Lib.hid (by have := HPL.out; simp; omega), Lib.hid (below_snoc (HWJ.out.trans (HBJ.out.mono hsj)) (Nat.le_refl _) (fun ad e => (l5_lt H52.out ad e).1) HG99.out), Lib.hid (H52.out.snoc HBJ.out HE2.out hsj HO99.out HG99.out)⟩
                · have c0 : decide ((j : Int) < (ps.length : Int)) = false := decide_eq_false (by omega)
                  obtain rfl : j = ps.length := by omega
                  have HSE := Lib.hid (stay_end HMAP.out HP.out)
                  obtain ⟨qt, HQC⟩ : ∃ qt, Hid (qs = (y, s) :: qt) := by
                    rcases hqs : qs with _ | ⟨a, qt⟩
                    · have := HQS.out; rw [hqs] at this; cases this
                    · have := HQS.out; rw [hqs] at this; simp at this; exact ⟨qt, Lib.hid (by rw [this])⟩
                  obtain ⟨n, HN⟩ : ∃ n, Hid (n = rest.length) := ⟨_, Lib.hid rfl⟩
                  have hqn : qs.length = n + 1 := by have h1 := HQL.out; rw [HLC.out.1] at h1; simp only [List.length_cons] at h1; have h2 := HN.out; omega
                  have hqt : n = qt.length := by have := hqn; rw [HQC.out] at this; simp only [List.length_cons] at this; omega
                  have hpn : pre.length = n + gone.length := by
                    have h1 := congrArg List.length HSE.out
                    rw [HOLD.out.1] at h1
                    have h2 := HN.out
                    simp only [xs5, List.length_map, List.length_append] at h1
                    omega
                  have hcap2 : pre.length ≤ c2 := by have := H52.out.C.2; simpa [xs5] using this
                  have hcap21 : qs.length ≤ c21 := by have := H2122.out.C.2; simpa [xs5] using this
                  have HW18 : wrap64 ((qs.length : Int) - 1) = (n : Int) := by unfold wrap64; have := HQL.out; have := HQK.out; omega
                  have hgt : decide ((pre.length : Int) < (n : Int)) = false := decide_eq_false (by omega)
                  have hgtN : decide (pre.length < n) = false := decide_eq_false (by omega)
                  have q1n : 1 ≤ qs.length := by omega
                  have q3n : n ≤ c2 := by omega
                  have q1 : (1 : Int) ≤ (qs.length : Int) := by omega
                  have q2 : (qs.length : Int) ≤ (c21 : Int) := by omega
                  have q3 : (n : Int) ≤ (c2 : Int) := by omega
                  have q4 : (0 : Int) ≤ (n : Int) := by omega
                  have HPT := Lib.hid (fun W' (hw : Below Wj.heap.size Wj W') => part_calls W' (H2122.out.grow (below_step HWJ.out hw)) HQC.out (H52.out.grow hw) n hqt (by omega) (by have := HQK.out; have := HQL.out; omega) (fun p hp => sm_of_map HMAP2.out (fun d hd => (HI9.out.sm d hd).1) p (by rw [HQC.out]; exact List.mem_cons_of_mem _ hp)))
                  have HPS2 : Hid (sameB (xs5 qt) ((xs5 pre).take n) = true) := Lib.hid (by rw [HN.out]; exact part_same HMAP2.out HQC.out HLC.out.1 HSE.out HOLD.out.1)
                  rw [HPS2.out] at HPT
                  have HQN := Lib.hid hqn
                  have HPN := Lib.hid hpn
                  have HC21 := Lib.hid hcap21
                  have HC2 := Lib.hid hcap2
                  clear hqn hqt hpn hcap21 hcap2
                  go_upto_region 19 with fail
                  refine start_ (n := 13) (S := fun w' => True) (ds := []) #[false, false, false, false, false, false, false, false, false, false, false, false, false] (by kernel_rfl) rfl rfl trivial (fun hHeld => ?_)
                  refine pure_ (i := 0) (N := some 84) (v := ?_) (a' := ?_) #[true, false, false, false, false, false, false, false, false, false, false, false, false] rfl rfl (by kernel_rfl) (fun _ _ _ h => h) (Or.inl ⟨by rfl, ?_⟩) ?_ ?_
                  rotate_left
                  · intro w'
                    go_simp
                    with_reducible rfl
                  rotate_left
                  · simp only [Act.put, List.setIfInBounds_toArray, List.set_cons_zero, List.set_cons_succ, i64_w, i32_w]
                    rfl
                  refine pure_ (i := 1) (N := some 85) (v := ?_) (a' := ?_) #[true, true, false, false, false, false, false, false, false, false, false, false, false] rfl rfl (by kernel_rfl) (fun _ _ _ h => h) (Or.inl ⟨by rfl, ?_⟩) ?_ ?_
                  rotate_left
                  · intro w'
                    go_simp
                    with_reducible rfl
                  rotate_left
                  · simp only [Act.put, List.setIfInBounds_toArray, List.set_cons_zero, List.set_cons_succ, i64_w, i32_w]
                    rfl
                  refine pure_ (i := 2) (N := some 86) (v := ?_) (a' := ?_) #[true, true, true, false, false, false, false, false, false, false, false, false, false] rfl rfl (by kernel_rfl) (fun _ _ _ h => h) (Or.inl ⟨by rfl, ?_⟩) ?_ ?_
                  rotate_left
                  · intro w'
                    go_simp
                    with_reducible rfl
                  rotate_left
                  · simp only [Act.put, List.setIfInBounds_toArray, List.set_cons_zero, List.set_cons_succ, i64_w, i32_w]
                    rfl
                  refine pure_ (i := 3) (N := some 87) (v := ?_) (a' := ?_) #[true, true, true, true, false, false, false, false, false, false, false, false, false] rfl rfl (by kernel_rfl) (fun _ _ _ h => h) (Or.inl ⟨by rfl, ?_⟩) ?_ ?_
                  rotate_left
                  · intro w'
                    go_simp
                    with_reducible rfl
                  rotate_left
                  · simp only [Act.put, List.setIfInBounds_toArray, List.set_cons_zero, List.set_cons_succ, i64_w, i32_w]
                    rfl
                  refine pure_ (i := 4) (N := some 88) (v := ?_) (a' := ?_) #[true, true, true, true, true, false, false, false, false, false, false, false, false] rfl rfl (by kernel_rfl) (fun _ _ _ h => h) (Or.inl ⟨by rfl, ?_⟩) ?_ ?_
                  rotate_left
                  · intro w'
                    go_simp
                    with_reducible rfl
                  rotate_left
                  · simp only [Act.put, List.setIfInBounds_toArray, List.set_cons_zero, List.set_cons_succ, i64_w, i32_w]
                    rfl
                  refine pure_ (i := 5) (N := some 89) (v := ?_) (a' := ?_) #[true, true, true, true, true, true, false, false, false, false, false, false, false] rfl rfl (by kernel_rfl) (fun _ _ _ h => h) (Or.inl ⟨by rfl, ?_⟩) ?_ ?_
                  rotate_left
                  · intro w'
                    go_simp
                    with_reducible rfl
                  rotate_left
                  · simp only [Act.put, List.setIfInBounds_toArray, List.set_cons_zero, List.set_cons_succ, i64_w, i32_w]
                    rfl
                  refine pure_ (i := 6) (N := some 90) (v := ?_) (a' := ?_) #[true, true, true, true, true, true, true, false, false, false, false, false, false] rfl rfl (by kernel_rfl) (fun _ _ _ h => h) (Or.inl ⟨by rfl, ?_⟩) ?_ ?_
                  rotate_left
                  · intro w'
                    go_simp
                    with_reducible rfl
                  rotate_left
                  · simp only [Act.put, List.setIfInBounds_toArray, List.set_cons_zero, List.set_cons_succ, i64_w, i32_w]
                    rfl
                  refine pure_ (i := 7) (N := some 91) (v := ?_) (a' := ?_) #[true, true, true, true, true, true, true, true, false, false, false, false, false] rfl rfl (by kernel_rfl) (fun _ _ _ h => h) (Or.inl ⟨by rfl, ?_⟩) ?_ ?_
                  rotate_left
                  · intro w'
                    go_simp
                    with_reducible rfl
                  rotate_left
                  · simp only [Act.put, List.setIfInBounds_toArray, List.set_cons_zero, List.set_cons_succ, i64_w, i32_w]
                    rfl
                  refine pure_ (i := 8) (N := some 92) (v := ?_) (a' := ?_) #[true, true, true, true, true, true, true, true, true, false, false, false, false] rfl rfl (by kernel_rfl) (fun _ _ _ h => h) (Or.inl ⟨by rfl, ?_⟩) ?_ ?_
                  rotate_left
                  · intro w'
                    go_simp
                    with_reducible rfl
                  rotate_left
                  · simp only [Act.put, List.setIfInBounds_toArray, List.set_cons_zero, List.set_cons_succ, i64_w, i32_w]
                    rfl
                  refine pure_ (i := 9) (N := some 93) (v := ?_) (a' := ?_) #[true, true, true, true, true, true, true, true, true, true, false, false, false] rfl rfl (by kernel_rfl) (fun _ _ _ h => h) (Or.inl ⟨by rfl, ?_⟩) ?_ ?_
                  rotate_left
                  · intro w'
                    go_simp
                    with_reducible rfl
                  rotate_left
                  · simp only [Act.put, List.setIfInBounds_toArray, List.set_cons_zero, List.set_cons_succ, i64_w, i32_w]
                    rfl
                  refine one_ (i := 10) (N := some 94) #[true, true, true, true, true, true, true, true, true, true, true, false, false] rfl rfl (by kernel_rfl) (by decide) (fun K hK => ?_)
                  refine goes_ Tryd.func20 (by kernel_rfl) rfl #[.slice (if c21 = 1 then some ad3 else some { block := ad3.block, off := ad3.off + 11 }) (qs.length - 1) (c21 - 1), .slice A2 n c2] (by rfl) rfl rfl (by simp only [List.map_toArray, List.map_cons, List.map_nil]; rfl) ?_
                  with_reducible refine (HPT.out _ (below_drew (Below.refl _ _))).mono ?_
                  rintro e w30 ⟨rfl, hb30⟩
                  refine ⟨_, rfl, ?_⟩
                  have HB30 : Hid (Below Wj.heap.size Wj w30) := Lib.hid (below_step (below_drew (Below.refl _ _)) hb30)
                  refine hK.out _ _ trivial (fun hHeld => ?_)
                  clear hK K
                  refine norm_ (a' := ?_) ?_ ?_
                  rotate_left
                  · show Act.put _ (some 94) _ = _
                    simp only [Act.put, List.setIfInBounds_toArray, List.set_cons_zero, List.set_cons_succ, i64_w, i32_w]
                    rfl
                  refine pure_ (i := 11) (N := some 95) (v := ?_) (a' := ?_) #[true, true, true, true, true, true, true, true, true, true, true, true, false] rfl rfl (by kernel_rfl) (fun _ _ _ h => h) (Or.inl ⟨by rfl, ?_⟩) ?_ ?_
                  rotate_left
                  · intro w'
                    go_simp
                    with_reducible rfl
                  rotate_left
                  · simp only [Act.put, List.setIfInBounds_toArray, List.set_cons_zero, List.set_cons_succ, i64_w, i32_w]
                    rfl
                  refine pure_ (i := 12) (N := some 96) (v := ?_) (a' := ?_) #[true, true, true, true, true, true, true, true, true, true, true, true, true] rfl rfl (by kernel_rfl) (fun _ _ _ h => h) (Or.inl ⟨by rfl, ?_⟩) ?_ ?_
                  rotate_left
                  · intro w'
                    go_simp
                    with_reducible rfl
                  rotate_left
                  · simp only [Act.put, List.setIfInBounds_toArray, List.set_cons_zero, List.set_cons_succ, i64_w, i32_w]
                    rfl
                  refine done_ (by kernel_rfl) ?_
                  have HIW : Hid (Inv w30 w.heap.size w.heap.size cap l') := Lib.hid (HI22.out.grow (below_step HWJ.out HB30.out))
                  have HBW : Hid (Below w.heap.size w w30) := Lib.hid (below_step HB22w.out (below_step HWJ.out HB30.out))
                  have H53 := Lib.hid (H52.out.grow HB30.out)
                  obtain ⟨T90, hT⟩ : ∃ T, T = (if c21 = 1 then some ad3 else some { block := ad3.block, off := ad3.off + 11 }) := ⟨_, rfl⟩
                  rw [← hT]
                  clear hT
                  clear hHeld HPT q1 q2 q3 q4 q1n q3n hgt hgtN
                  go_upto_region 21 with fail
                  by_cases hnl : n < pre.length
                  · have l1 : decide ((n : Int) < (pre.length : Int)) = true := decide_eq_true (by omega)
                    have l2 : decide (n < pre.length) = true := decide_eq_true hnl
                    have p3 : 0 ≤ (n : Int) := by omega
                    have p4 : (n : Int) < (pre.length : Int) := by omega
                    obtain ⟨ad4, h', s4, rfl, hps, f0, f1, f2, f3, f4, f5, f6, f7, f8, f9, f10, hE⟩ := l5_at H53.out n hnl
                    have hng := hps
                    rw [HN.out] at hng
                    obtain ⟨g0, gt, hg, hgx, hgm⟩ := next_gone HSE.out HOLD.out.1 hng
                    have hgz := (HI.out.sm g0 hgm).2
                    have hsz := HOLD.out.2.2 g0 gt hg
                    rw [hgz, hgx] at hsz
                    have HSH : Hid (Sm h') := Lib.hid (by rw [← hgx]; exact (HI.out.sm g0 hgm).1)
                    have hzl := HOLD.out.2.1
                    have hup := sizeI_hi h' HSH.out
                    have hlo := sizeI_lo h'
                    have hroom := HI9.out.room
                    have hzn : 0 ≤ zs l' := zs_nonneg l' (fun d hd => by have := HI9.out.z64 d hd; omega)
                    have hcp := HCAP.out
                    have hle : decide (zs l' + sizeI h' ≤ cap) = false := decide_eq_false (by omega)
                    have hws2 : wrap64 (zs l' + sizeI h') = zs l' + sizeI h' := wid _ (by omega) (by omega)
                    have HEH := Lib.hid hE
                    have HUS := Lib.hid (fun W' (hw : Below w30.heap.size w30 W') => (used_made W' w.heap.size cap (zs l') _ _ (HIW.out.grow hw).st.head).mono (R' := fun e w' => e = .returned (.int .i64 (zs l')) ∧ Below W'.heap.size W' w') (fun e w' h => ⟨h.1, by rw [h.2]; exact Below.refl _ _⟩))
                    have HSI := Lib.hid (fun W' (hw : Below w30.heap.size w30 W') => rsize_calls W' _ h' s4 (HEH.out.below hw) HSH.out)
                    clear hE hng hg hgx hgm hgz hsz hzl hup hlo hroom hzn hcp hps hnl
                    refine start_ (n := 16) (S := fun w' => w'.cell? (ad4.add (n * 11)) = some (.string h'.f0.f0) ∧ w'.cell? ⟨(ad4.add (n * 11)).block, (ad4.add (n * 11)).off + 1, none⟩ = some (.string h'.f0.f1) ∧ w'.cell? ⟨(ad4.add (n * 11)).block, (ad4.add (n * 11)).off + 2, none⟩ = some (.string h'.f0.f2) ∧ w'.cell? ⟨(ad4.add (n * 11)).block, (ad4.add (n * 11)).off + 3, none⟩ = some (.string h'.f0.f3) ∧ w'.cell? ⟨(ad4.add (n * 11)).block, (ad4.add (n * 11)).off + 4, none⟩ = some (.slice s4.A4 h'.f0.f4.length s4.c4) ∧ w'.cell? ⟨(ad4.add (n * 11)).block, (ad4.add (n * 11)).off + 5, none⟩ = some (.slice s4.A5 h'.f0.f5.length s4.c5) ∧ w'.cell? ⟨(ad4.add (n * 11)).block, (ad4.add (n * 11)).off + 6, none⟩ = some (.int .i64 h'.f1.f0) ∧ w'.cell? ⟨(ad4.add (n * 11)).block, (ad4.add (n * 11)).off + 7, none⟩ = some (.slice s4.A7 h'.f1.f1.length s4.c7) ∧ w'.cell? ⟨(ad4.add (n * 11)).block, (ad4.add (n * 11)).off + 8, none⟩ = some (.slice s4.A8 h'.f1.f2.length s4.c8) ∧ w'.cell? ⟨(ad4.add (n * 11)).block, (ad4.add (n * 11)).off + 9, none⟩ = some (.int .i64 h'.f2) ∧ w'.cell? ⟨(ad4.add (n * 11)).block, (ad4.add (n * 11)).off + 10, none⟩ = some (.int .i64 h'.f3)) (ds := []) #[false, false, false, false, false, false, false, false, false, false, false, false, false, false, false, false] (by kernel_rfl) rfl rfl ⟨f0, f1, f2, f3, f4, f5, f6, f7, f8, f9, f10⟩ (fun hHeld => ?_)
                    refine pure_ (i := 0) (N := some 97) (v := ?_) (a' := ?_) #[true, false, false, false, false, false, false, false, false, false, false, false, false, false, false, false] rfl rfl (by kernel_rfl) (fun _ _ _ h => h) (Or.inl ⟨by rfl, ?_⟩) ?_ ?_
                    rotate_left
                    · intro w'
                      go_simp
                      with_reducible rfl
                    rotate_left
                    · simp only [Act.put, List.setIfInBounds_toArray, List.set_cons_zero, List.set_cons_succ, i64_w, i32_w]
                      rfl
                    refine pure_ (i := 1) (N := some 98) (v := ?_) (a' := ?_) #[true, true, false, false, false, false, false, false, false, false, false, false, false, false, false, false] rfl rfl (by kernel_rfl) (fun _ _ _ h => h) (Or.inl ⟨by rfl, ?_⟩) ?_ ?_
                    rotate_left
                    · intro w'
                      go_simp
                      with_reducible rfl
                    rotate_left
                    · simp only [Act.put, List.setIfInBounds_toArray, List.set_cons_zero, List.set_cons_succ, i64_w, i32_w]
                      rfl
                    refine pure_ (i := 2) (N := some 99) (v := ?_) (a' := ?_) #[true, true, true, false, false, false, false, false, false, false, false, false, false, false, false, false] rfl rfl (by kernel_rfl) (fun _ _ _ h => h) (Or.inl ⟨by rfl, ?_⟩) ?_ ?_
                    rotate_left
                    · intro w'
                      go_simp
                      with_reducible rfl
                    rotate_left
                    · simp only [Act.put, List.setIfInBounds_toArray, List.set_cons_zero, List.set_cons_succ, i64_w, i32_w]
                      rfl
                    refine pure_ (i := 3) (N := some 100) (v := ?_) (a' := ?_) #[true, true, true, true, false, false, false, false, false, false, false, false, false, false, false, false] rfl rfl (by kernel_rfl) (fun _ _ _ h => h) (Or.inl ⟨by rfl, ?_⟩) ?_ ?_
                    rotate_left
                    · intro w'
                      go_simp
                      with_reducible rfl
                    rotate_left
                    · simp only [Act.put, List.setIfInBounds_toArray, List.set_cons_zero, List.set_cons_succ, i64_w, i32_w]
                      rfl
                    refine pure_ (i := 4) (N := some 101) (v := ?_) (a' := ?_) #[true, true, true, true, true, false, false, false, false, false, false, false, false, false, false, false] rfl rfl (by kernel_rfl) (fun _ _ _ h => h) (Or.inl ⟨by rfl, ?_⟩) ?_ ?_
                    rotate_left
                    · intro w'
                      go_simp
                      with_reducible rfl
                    rotate_left
                    · simp only [Act.put, List.setIfInBounds_toArray, List.set_cons_zero, List.set_cons_succ, i64_w, i32_w]
                      rfl
                    refine pure_ (i := 5) (N := some 102) (v := ?_) (a' := ?_) #[true, true, true, true, true, true, false, false, false, false, false, false, false, false, false, false] rfl rfl (by kernel_rfl) (fun _ _ _ h => h) (Or.inl ⟨by rfl, ?_⟩) ?_ ?_
                    rotate_left
                    · intro w'
                      go_simp
                      with_reducible rfl
                    rotate_left
                    · simp only [Act.put, List.setIfInBounds_toArray, List.set_cons_zero, List.set_cons_succ, i64_w, i32_w]
                      rfl
                    refine pure_ (i := 7) (N := some 104) (v := ?_) (a' := ?_) #[true, true, true, true, true, true, false, true, false, false, false, false, false, false, false, false] rfl rfl (by kernel_rfl) (fun _ _ _ h => h) (Or.inl ⟨by rfl, ?_⟩) ?_ ?_
                    rotate_left
                    · intro w'
                      go_simp
                      with_reducible rfl
                    rotate_left
                    · simp only [Act.put, List.setIfInBounds_toArray, List.set_cons_zero, List.set_cons_succ, i64_w, i32_w]
                      rfl
                    refine pure_ (i := 8) (N := some 105) (v := ?_) (a' := ?_) #[true, true, true, true, true, true, false, true, true, false, false, false, false, false, false, false] rfl rfl (by kernel_rfl) (fun _ _ _ h => h) (Or.inl ⟨by rfl, ?_⟩) ?_ ?_
                    rotate_left
                    · intro w'
                      go_simp
                      with_reducible rfl
                    rotate_left
                    · simp only [Act.put, List.setIfInBounds_toArray, List.set_cons_zero, List.set_cons_succ, i64_w, i32_w]
                      rfl
                    refine pure_ (i := 9) (N := some 106) (v := ?_) (a' := ?_) #[true, true, true, true, true, true, false, true, true, true, false, false, false, false, false, false] rfl rfl (by kernel_rfl) (fun _ _ _ h => h) (Or.inl ⟨by rfl, ?_⟩) ?_ ?_
                    rotate_left
                    · intro w'
                      go_simp
                      with_reducible rfl
                    rotate_left
                    · simp only [Act.put, List.setIfInBounds_toArray, List.set_cons_zero, List.set_cons_succ, i64_w, i32_w]
                      rfl
                    refine pure_ (i := 13) (N := some 110) (v := ?_) (a' := ?_) #[true, true, true, true, true, true, false, true, true, true, false, false, false, true, false, false] rfl rfl (by kernel_rfl) (fun _ _ _ h => h) (Or.inl ⟨by rfl, ?_⟩) ?_ ?_
                    rotate_left
                    · intro w'
                      go_simp
                      with_reducible rfl
                    rotate_left
                    · simp only [Act.put, List.setIfInBounds_toArray, List.set_cons_zero, List.set_cons_succ, i64_w, i32_w]
                      rfl
                    refine take_ (i := 10) (N := some 107) (v := ?_) (a' := ?_) #[true, true, true, true, true, true, false, true, true, true, true, false, false, true, false, false] rfl rfl (by kernel_rfl) (fun _ _ _ h => h) (Or.inl ⟨by rfl, ?_⟩) hHeld ?_ ?_
                    rotate_left
                    · rintro w' ⟨s0, s1, s2, s3, s4, s5, s6, s7, s8, s9, s10⟩
                      go_simp
                      with_reducible rfl
                    rotate_left
                    · simp only [Act.put, List.setIfInBounds_toArray, List.set_cons_zero, List.set_cons_succ, i64_w, i32_w]
                      rfl
                    refine one_ (i := 6) (N := some 103) #[true, true, true, true, true, true, true, true, true, true, true, false, false, true, false, false] rfl rfl (by kernel_rfl) (by decide) (fun K hK => ?_)
                    refine goes_ Tryd.func14 (by kernel_rfl) rfl #[.pointer (some (at0 w.heap.size))] (by rfl) rfl rfl (by simp only [List.map_toArray, List.map_cons, List.map_nil]; rfl) ?_
                    with_reducible refine (HUS.out _ (below_drew (Below.refl _ _))).mono ?_
                    rintro e w31 ⟨rfl, hb31⟩
                    refine ⟨_, rfl, ?_⟩
                    have HB31 : Hid (Below w30.heap.size w30 w31) := Lib.hid (below_step (below_drew (Below.refl _ _)) hb31)
                    refine hK.out _ _ ⟨pw_cell_below HB31.out f0, pw_cell_below HB31.out f1, pw_cell_below HB31.out f2, pw_cell_below HB31.out f3, pw_cell_below HB31.out f4, pw_cell_below HB31.out f5, pw_cell_below HB31.out f6, pw_cell_below HB31.out f7, pw_cell_below HB31.out f8, pw_cell_below HB31.out f9, pw_cell_below HB31.out f10⟩ (fun hHeld => ?_)
                    clear hK K
                    refine norm_ (a' := ?_) ?_ ?_
                    rotate_left
                    · show Act.put _ (some 103) _ = _
                      simp only [Act.put, List.setIfInBounds_toArray, List.set_cons_zero, List.set_cons_succ, i64_w, i32_w]
                      rfl
                    refine one_ (i := 11) (N := some 108) #[true, true, true, true, true, true, true, true, true, true, true, true, false, true, false, false] rfl rfl (by kernel_rfl) (by decide) (fun K hK => ?_)
                    refine goes_ Tryd.func12 (by kernel_rfl) rfl #[.agg #[.string h'.f0.f0, .string h'.f0.f1, .string h'.f0.f2, .string h'.f0.f3, .slice s4.A4 h'.f0.f4.length s4.c4, .slice s4.A5 h'.f0.f5.length s4.c5, .int .i64 h'.f1.f0, .slice s4.A7 h'.f1.f1.length s4.c7, .slice s4.A8 h'.f1.f2.length s4.c8, .int .i64 h'.f2, .int .i64 h'.f3]] (by rfl) rfl rfl (by simp only [List.map_toArray, List.map_cons, List.map_nil]; rfl) ?_
                    with_reducible refine (HSI.out _ HB31.out).mono ?_
                    rintro e w32 ⟨rfl, hb32⟩
                    refine ⟨_, rfl, ?_⟩
                    have HB32 : Hid (Below w30.heap.size w30 w32) := Lib.hid (below_step HB31.out hb32)
                    refine hK.out _ _ ⟨pw_cell_below HB32.out f0, pw_cell_below HB32.out f1, pw_cell_below HB32.out f2, pw_cell_below HB32.out f3, pw_cell_below HB32.out f4, pw_cell_below HB32.out f5, pw_cell_below HB32.out f6, pw_cell_below HB32.out f7, pw_cell_below HB32.out f8, pw_cell_below HB32.out f9, pw_cell_below HB32.out f10⟩ (fun hHeld => ?_)
                    clear hK K
                    refine norm_ (a' := ?_) ?_ ?_
                    rotate_left
                    · show Act.put _ (some 108) _ = _
                      simp only [Act.put, List.setIfInBounds_toArray, List.set_cons_zero, List.set_cons_succ, i64_w, i32_w]
                      rfl
                    refine pure_ (i := 12) (N := some 109) (v := ?_) (a' := ?_) #[true, true, true, true, true, true, true, true, true, true, true, true, true, true, false, false] rfl rfl (by kernel_rfl) (fun _ _ _ h => h) (Or.inl ⟨by rfl, ?_⟩) ?_ ?_
                    rotate_left
                    · intro w'
                      go_simp
                      with_reducible rfl
                    rotate_left
                    · simp only [Act.put, List.setIfInBounds_toArray, List.set_cons_zero, List.set_cons_succ, i64_w, i32_w]
                      rfl
                    refine pure_ (i := 14) (N := some 111) (v := ?_) (a' := ?_) #[true, true, true, true, true, true, true, true, true, true, true, true, true, true, true, false] rfl rfl (by kernel_rfl) (fun _ _ _ h => h) (Or.inl ⟨by rfl, ?_⟩) ?_ ?_
                    rotate_left
                    · intro w'
                      go_simp
                      with_reducible rfl
                    rotate_left
                    · simp only [Act.put, List.setIfInBounds_toArray, List.set_cons_zero, List.set_cons_succ, i64_w, i32_w]
                      rfl
                    refine pure_ (i := 15) (N := some 112) (v := ?_) (a' := ?_) #[true, true, true, true, true, true, true, true, true, true, true, true, true, true, true, true] rfl rfl (by kernel_rfl) (fun _ _ _ h => h) (Or.inl ⟨by rfl, ?_⟩) ?_ ?_
                    rotate_left
                    · intro w'
                      go_simp
                      with_reducible rfl
                    rotate_left
                    · simp only [Act.put, List.setIfInBounds_toArray, List.set_cons_zero, List.set_cons_succ, i64_w, i32_w]
                      rfl
                    refine done_ (by kernel_rfl) ?_
                    clear hHeld
                    go_wp2
                    go_roundg ko
                    case measure => omega
                    case rel => exact ⟨i + 1, l', by first | exact congrArg (Value.int .i64) HWI.out | go_num, hi1, hk2, Lib.hid (HIW.out.grow HB32.out), Lib.hid (below_step HBW.out HB32.out), HR9⟩
                  · have l1 : decide ((n : Int) < (pre.length : Int)) = false := decide_eq_false (by omega)
                    have l2 : decide (n < pre.length) = false := decide_eq_false hnl
                    clear hnl
                    refine start_ (n := 16) (S := fun w' => True) (ds := []) #[false, false, false, false, false, false, false, false, false, false, false, false, false, false, false, false] (by kernel_rfl) rfl rfl trivial (fun hHeld => ?_)
                    refine pure_ (i := 0) (N := some 97) (v := ?_) (a' := ?_) #[true, false, false, false, false, false, false, false, false, false, false, false, false, false, false, false] rfl rfl (by kernel_rfl) (fun _ _ _ h => h) (Or.inl ⟨by rfl, ?_⟩) ?_ ?_
                    rotate_left
                    · intro w'
                      go_simp
                      with_reducible rfl
                    rotate_left
                    · simp only [Act.put, List.setIfInBounds_toArray, List.set_cons_zero, List.set_cons_succ, i64_w, i32_w]
                      rfl
                    refine pure_ (i := 1) (N := some 98) (v := ?_) (a' := ?_) #[true, true, false, false, false, false, false, false, false, false, false, false, false, false, false, false] rfl rfl (by kernel_rfl) (fun _ _ _ h => h) (Or.inl ⟨by rfl, ?_⟩) ?_ ?_
                    rotate_left
                    · intro w'
                      go_simp
                      with_reducible rfl
                    rotate_left
                    · simp only [Act.put, List.setIfInBounds_toArray, List.set_cons_zero, List.set_cons_succ, i64_w, i32_w]
                      rfl
                    refine pure_ (i := 2) (N := some 99) (v := ?_) (a' := ?_) #[true, true, true, false, false, false, false, false, false, false, false, false, false, false, false, false] rfl rfl (by kernel_rfl) (fun _ _ _ h => h) (Or.inl ⟨by rfl, ?_⟩) ?_ ?_
                    rotate_left
                    · intro w'
                      go_simp
                      with_reducible rfl
                    rotate_left
                    · simp only [Act.put, List.setIfInBounds_toArray, List.set_cons_zero, List.set_cons_succ, i64_w, i32_w]
                      rfl
                    refine pure_ (i := 3) (N := some 100) (v := ?_) (a' := ?_) #[true, true, true, true, false, false, false, false, false, false, false, false, false, false, false, false] rfl rfl (by kernel_rfl) (fun _ _ _ h => h) (Or.inl ⟨by rfl, ?_⟩) ?_ ?_
                    rotate_left
                    · intro w'
                      go_simp
                      with_reducible rfl
                    rotate_left
                    · simp only [Act.put, List.setIfInBounds_toArray, List.set_cons_zero, List.set_cons_succ, i64_w, i32_w]
                      rfl
                    refine pure_ (i := 4) (N := some 101) (v := ?_) (a' := ?_) #[true, true, true, true, true, false, false, false, false, false, false, false, false, false, false, false] rfl rfl (by kernel_rfl) (fun _ _ _ h => h) (Or.inl ⟨by rfl, ?_⟩) ?_ ?_
                    rotate_left
                    · intro w'
                      go_simp
                      with_reducible rfl
                    rotate_left
                    · simp only [Act.put, List.setIfInBounds_toArray, List.set_cons_zero, List.set_cons_succ, i64_w, i32_w]
                      rfl
                    refine pure_ (i := 5) (N := some 102) (v := undef) (a' := ?_) #[true, true, true, true, true, true, false, false, false, false, false, false, false, false, false, false] rfl rfl (by kernel_rfl) (fun _ _ _ h => h) (Or.inr ⟨by rfl, rfl⟩) ?_ ?_
                    rotate_left
                    · simp only [Act.put, List.setIfInBounds_toArray, List.set_cons_zero, List.set_cons_succ, i64_w, i32_w]
                      rfl
                    refine pure_ (i := 6) (N := some 103) (v := undef) (a' := ?_) #[true, true, true, true, true, true, true, false, false, false, false, false, false, false, false, false] rfl rfl (by kernel_rfl) (fun _ _ _ h => h) (Or.inr ⟨by rfl, rfl⟩) ?_ ?_
                    rotate_left
                    · simp only [Act.put, List.setIfInBounds_toArray, List.set_cons_zero, List.set_cons_succ, i64_w, i32_w]
                      rfl
                    refine pure_ (i := 7) (N := some 104) (v := undef) (a' := ?_) #[true, true, true, true, true, true, true, true, false, false, false, false, false, false, false, false] rfl rfl (by kernel_rfl) (fun _ _ _ h => h) (Or.inr ⟨by rfl, rfl⟩) ?_ ?_
                    rotate_left
                    · simp only [Act.put, List.setIfInBounds_toArray, List.set_cons_zero, List.set_cons_succ, i64_w, i32_w]
                      rfl
                    refine pure_ (i := 8) (N := some 105) (v := undef) (a' := ?_) #[true, true, true, true, true, true, true, true, true, false, false, false, false, false, false, false] rfl rfl (by kernel_rfl) (fun _ _ _ h => h) (Or.inr ⟨by rfl, rfl⟩) ?_ ?_
                    rotate_left
                    · simp only [Act.put, List.setIfInBounds_toArray, List.set_cons_zero, List.set_cons_succ, i64_w, i32_w]
                      rfl
                    refine pure_ (i := 9) (N := some 106) (v := undef) (a' := ?_) #[true, true, true, true, true, true, true, true, true, true, false, false, false, false, false, false] rfl rfl (by kernel_rfl) (fun _ _ _ h => h) (Or.inr ⟨by rfl, rfl⟩) ?_ ?_
                    rotate_left
                    · simp only [Act.put, List.setIfInBounds_toArray, List.set_cons_zero, List.set_cons_succ, i64_w, i32_w]
                      rfl
                    refine pure_ (i := 10) (N := some 107) (v := undef) (a' := ?_) #[true, true, true, true, true, true, true, true, true, true, true, false, false, false, false, false] rfl rfl (by kernel_rfl) (fun _ _ _ h => h) (Or.inr ⟨by rfl, rfl⟩) ?_ ?_
                    rotate_left
                    · simp only [Act.put, List.setIfInBounds_toArray, List.set_cons_zero, List.set_cons_succ, i64_w, i32_w]
                      rfl
                    refine pure_ (i := 11) (N := some 108) (v := undef) (a' := ?_) #[true, true, true, true, true, true, true, true, true, true, true, true, false, false, false, false] rfl rfl (by kernel_rfl) (fun _ _ _ h => h) (Or.inr ⟨by rfl, rfl⟩) ?_ ?_
                    rotate_left
                    · simp only [Act.put, List.setIfInBounds_toArray, List.set_cons_zero, List.set_cons_succ, i64_w, i32_w]
                      rfl
                    refine pure_ (i := 12) (N := some 109) (v := undef) (a' := ?_) #[true, true, true, true, true, true, true, true, true, true, true, true, true, false, false, false] rfl rfl (by kernel_rfl) (fun _ _ _ h => h) (Or.inr ⟨by rfl, rfl⟩) ?_ ?_
                    rotate_left
                    · simp only [Act.put, List.setIfInBounds_toArray, List.set_cons_zero, List.set_cons_succ, i64_w, i32_w]
                      rfl
                    refine pure_ (i := 13) (N := some 110) (v := undef) (a' := ?_) #[true, true, true, true, true, true, true, true, true, true, true, true, true, true, false, false] rfl rfl (by kernel_rfl) (fun _ _ _ h => h) (Or.inr ⟨by rfl, rfl⟩) ?_ ?_
                    rotate_left
                    · simp only [Act.put, List.setIfInBounds_toArray, List.set_cons_zero, List.set_cons_succ, i64_w, i32_w]
                      rfl
                    refine pure_ (i := 14) (N := some 111) (v := undef) (a' := ?_) #[true, true, true, true, true, true, true, true, true, true, true, true, true, true, true, false] rfl rfl (by kernel_rfl) (fun _ _ _ h => h) (Or.inr ⟨by rfl, rfl⟩) ?_ ?_
                    rotate_left
                    · simp only [Act.put, List.setIfInBounds_toArray, List.set_cons_zero, List.set_cons_succ, i64_w, i32_w]
                      rfl
                    refine pure_ (i := 15) (N := some 112) (v := ?_) (a' := ?_) #[true, true, true, true, true, true, true, true, true, true, true, true, true, true, true, true] rfl rfl (by kernel_rfl) (fun _ _ _ h => h) (Or.inl ⟨by rfl, ?_⟩) ?_ ?_
                    rotate_left
                    · intro w'
                      go_simp
                      with_reducible rfl
                    rotate_left
                    · simp only [Act.put, List.setIfInBounds_toArray, List.set_cons_zero, List.set_cons_succ, i64_w, i32_w]
                      rfl
                    refine done_ (by kernel_rfl) ?_
                    clear hHeld
                    go_wp2
                    go_roundg ko
                    case measure => omega
                    case rel => exact ⟨i + 1, l', by first | exact congrArg (Value.int .i64) HWI.out | go_num, hi1, hk2, Lib.hid (HIW.out.grow (below_drew (Below.refl _ _))), Lib.hid (below_step HBW.out (below_drew (Below.refl _ _))), HR9⟩
        · have t0 : (k % 4 == 0) = false := beq_eq_false_iff_ne.2 hk4
          have t0b : (k.tmod 4 != 0) = true := by rw [Int.tmod_eq_emod_of_nonneg hk0]; simp [hk4]
          clear hk4
          refine start_ (n := 18) (S := fun w' => w'.cell? ⟨Wo.heap.size, 0, none⟩ = some (.int .u8 k)) (ds := []) #[false, false, false, false, false, false, false, false, false, false, false, false, false, false, false, false, false, false] (by kernel_rfl) rfl rfl (c_of HA21.out 0 (v := .int .u8 k) rfl) (fun hHeld => ?_)
          refine pure_ (i := 0) (N := some 46) (v := ?_) (a' := ?_) #[true, false, false, false, false, false, false, false, false, false, false, false, false, false, false, false, false, false] rfl rfl (by kernel_rfl) (fun _ _ _ h => h) (Or.inl ⟨by rfl, ?_⟩) ?_ ?_
          rotate_left
          · intro w'
            go_simp
            with_reducible rfl
          rotate_left
          · simp only [Act.put, List.setIfInBounds_toArray, List.set_cons_zero, List.set_cons_succ, i64_w, i32_w]
            rfl
          refine take_ (i := 1) (N := some 47) (v := ?_) (a' := ?_) #[true, true, false, false, false, false, false, false, false, false, false, false, false, false, false, false, false, false] rfl rfl (by kernel_rfl) (fun _ _ _ h => h) (Or.inl ⟨by rfl, ?_⟩) hHeld ?_ ?_
          rotate_left
          · intro w' s0
            go_simp
            with_reducible rfl
          rotate_left
          · simp only [Act.put, List.setIfInBounds_toArray, List.set_cons_zero, List.set_cons_succ, i64_w, i32_w]
            rfl
          refine pure_ (i := 2) (N := some 48) (v := ?_) (a' := ?_) #[true, true, true, false, false, false, false, false, false, false, false, false, false, false, false, false, false, false] rfl rfl (by kernel_rfl) (fun _ _ _ h => h) (Or.inl ⟨by rfl, ?_⟩) ?_ ?_
          rotate_left
          · intro w'
            go_simp
            with_reducible rfl
          rotate_left
          · simp only [Act.put, List.setIfInBounds_toArray, List.set_cons_zero, List.set_cons_succ, i64_w, i32_w]
            rfl
          refine pure_ (i := 3) (N := some 49) (v := ?_) (a' := ?_) #[true, true, true, true, false, false, false, false, false, false, false, false, false, false, false, false, false, false] rfl rfl (by kernel_rfl) (fun _ _ _ h => h) (Or.inl ⟨by rfl, ?_⟩) ?_ ?_
          rotate_left
          · intro w'
            go_simp
            with_reducible rfl
          rotate_left
          · simp only [Act.put, List.setIfInBounds_toArray, List.set_cons_zero, List.set_cons_succ, i64_w, i32_w]
            rfl
          refine pure_ (i := 4) (N := some 50) (v := ?_) (a' := ?_) #[true, true, true, true, true, false, false, false, false, false, false, false, false, false, false, false, false, false] rfl rfl (by kernel_rfl) (fun _ _ _ h => h) (Or.inl ⟨by rfl, ?_⟩) ?_ ?_
          rotate_left
          · intro w'
            go_simp
            with_reducible rfl
          rotate_left
          · simp only [Act.put, List.setIfInBounds_toArray, List.set_cons_zero, List.set_cons_succ, i64_w, i32_w]
            rfl
          refine pure_ (i := 5) (N := some 51) (v := undef) (a' := ?_) #[true, true, true, true, true, true, false, false, false, false, false, false, false, false, false, false, false, false] rfl rfl (by kernel_rfl) (fun _ _ _ h => h) (Or.inr ⟨by rfl, rfl⟩) ?_ ?_
          rotate_left
          · simp only [Act.put, List.setIfInBounds_toArray, List.set_cons_zero, List.set_cons_succ, i64_w, i32_w]
            rfl
          refine pure_ (i := 6) (N := some 52) (v := undef) (a' := ?_) #[true, true, true, true, true, true, true, false, false, false, false, false, false, false, false, false, false, false] rfl rfl (by kernel_rfl) (fun _ _ _ h => h) (Or.inr ⟨by rfl, rfl⟩) ?_ ?_
          rotate_left
          · simp only [Act.put, List.setIfInBounds_toArray, List.set_cons_zero, List.set_cons_succ, i64_w, i32_w]
            rfl
          refine pure_ (i := 7) (N := some 53) (v := undef) (a' := ?_) #[true, true, true, true, true, true, true, true, false, false, false, false, false, false, false, false, false, false] rfl rfl (by kernel_rfl) (fun _ _ _ h => h) (Or.inr ⟨by rfl, rfl⟩) ?_ ?_
          rotate_left
          · simp only [Act.put, List.setIfInBounds_toArray, List.set_cons_zero, List.set_cons_succ, i64_w, i32_w]
            rfl
          refine pure_ (i := 8) (N := some 54) (v := ?_) (a' := ?_) #[true, true, true, true, true, true, true, true, true, false, false, false, false, false, false, false, false, false] rfl rfl (by kernel_rfl) (fun _ _ _ h => h) (Or.inl ⟨by rfl, ?_⟩) ?_ ?_
          rotate_left
          · intro w'
            go_simp
            with_reducible rfl
          rotate_left
          · simp only [Act.put, List.setIfInBounds_toArray, List.set_cons_zero, List.set_cons_succ, i64_w, i32_w]
            rfl
          refine pure_ (i := 9) (N := some 55) (v := ?_) (a' := ?_) #[true, true, true, true, true, true, true, true, true, true, false, false, false, false, false, false, false, false] rfl rfl (by kernel_rfl) (fun _ _ _ h => h) (Or.inl ⟨by rfl, ?_⟩) ?_ ?_
          rotate_left
          · intro w'
            go_simp
            with_reducible rfl
          rotate_left
          · simp only [Act.put, List.setIfInBounds_toArray, List.set_cons_zero, List.set_cons_succ, i64_w, i32_w]
            rfl
          refine pure_ (i := 10) (N := some 56) (v := undef) (a' := ?_) #[true, true, true, true, true, true, true, true, true, true, true, false, false, false, false, false, false, false] rfl rfl (by kernel_rfl) (fun _ _ _ h => h) (Or.inr ⟨by rfl, rfl⟩) ?_ ?_
          rotate_left
          · simp only [Act.put, List.setIfInBounds_toArray, List.set_cons_zero, List.set_cons_succ, i64_w, i32_w]
            rfl
          refine pure_ (i := 11) (N := some 57) (v := undef) (a' := ?_) #[true, true, true, true, true, true, true, true, true, true, true, true, false, false, false, false, false, false] rfl rfl (by kernel_rfl) (fun _ _ _ h => h) (Or.inr ⟨by rfl, rfl⟩) ?_ ?_
          rotate_left
          · simp only [Act.put, List.setIfInBounds_toArray, List.set_cons_zero, List.set_cons_succ, i64_w, i32_w]
            rfl
          refine pure_ (i := 12) (N := some 58) (v := undef) (a' := ?_) #[true, true, true, true, true, true, true, true, true, true, true, true, true, false, false, false, false, false] rfl rfl (by kernel_rfl) (fun _ _ _ h => h) (Or.inr ⟨by rfl, rfl⟩) ?_ ?_
          rotate_left
          · simp only [Act.put, List.setIfInBounds_toArray, List.set_cons_zero, List.set_cons_succ, i64_w, i32_w]
            rfl
          refine pure_ (i := 13) (N := some 59) (v := undef) (a' := ?_) #[true, true, true, true, true, true, true, true, true, true, true, true, true, true, false, false, false, false] rfl rfl (by kernel_rfl) (fun _ _ _ h => h) (Or.inr ⟨by rfl, rfl⟩) ?_ ?_
          rotate_left
          · simp only [Act.put, List.setIfInBounds_toArray, List.set_cons_zero, List.set_cons_succ, i64_w, i32_w]
            rfl
          refine pure_ (i := 14) (N := some 60) (v := undef) (a' := ?_) #[true, true, true, true, true, true, true, true, true, true, true, true, true, true, true, false, false, false] rfl rfl (by kernel_rfl) (fun _ _ _ h => h) (Or.inr ⟨by rfl, rfl⟩) ?_ ?_
          rotate_left
          · simp only [Act.put, List.setIfInBounds_toArray, List.set_cons_zero, List.set_cons_succ, i64_w, i32_w]
            rfl
          refine pure_ (i := 15) (N := some 61) (v := undef) (a' := ?_) #[true, true, true, true, true, true, true, true, true, true, true, true, true, true, true, true, false, false] rfl rfl (by kernel_rfl) (fun _ _ _ h => h) (Or.inr ⟨by rfl, rfl⟩) ?_ ?_
          rotate_left
          · simp only [Act.put, List.setIfInBounds_toArray, List.set_cons_zero, List.set_cons_succ, i64_w, i32_w]
            rfl
          refine pure_ (i := 16) (N := some 62) (v := undef) (a' := ?_) #[true, true, true, true, true, true, true, true, true, true, true, true, true, true, true, true, true, false] rfl rfl (by kernel_rfl) (fun _ _ _ h => h) (Or.inr ⟨by rfl, rfl⟩) ?_ ?_
          rotate_left
          · simp only [Act.put, List.setIfInBounds_toArray, List.set_cons_zero, List.set_cons_succ, i64_w, i32_w]
            rfl
          refine pure_ (i := 17) (N := some 63) (v := ?_) (a' := ?_) #[true, true, true, true, true, true, true, true, true, true, true, true, true, true, true, true, true, true] rfl rfl (by kernel_rfl) (fun _ _ _ h => h) (Or.inl ⟨by rfl, ?_⟩) ?_ ?_
          rotate_left
          · intro w'
            go_simp
            with_reducible rfl
          rotate_left
          · simp only [Act.put, List.setIfInBounds_toArray, List.set_cons_zero, List.set_cons_succ, i64_w, i32_w]
            rfl
          refine done_ (by kernel_rfl) ?_
          go_wp2
          go_roundg ko
          case measure => omega
          case rel => exact ⟨i + 1, l', by first | exact congrArg (Value.int .i64) HWI.out | go_num, hi1, hk2, Lib.hid (HI21.out.grow (below_drew (Below.refl _ _))), Lib.hid (below_step HB21w.out (below_drew (Below.refl _ _))), HR9⟩
      · have c0 : decide ((i : Int) < (l.length : Int)) = false := decide_eq_false (by omega)
        go_wp2
        go_ret
        exact ⟨rfl, HW.out⟩
end Go.Proofs.YtkbbjjegpjdpeaaDoor.S

