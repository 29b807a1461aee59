import Derived.Test.YtbnhlekehndhkaaGreatDoorYGx0
import Derived.Lib.Hide
import Derived.Laws.IdiomStrings
import Derived.Laws.BytesArg
import Derived.Laws.AppendOwn
import Derived.Deep.LoopGhost






/- A text in small letters: the program's and the document's. -/
namespace Go.Proofs.YtbnhlekehndhkaaGreatDoor.Pl
open Go.RowKit Go.Proofs.YtbnhlekehndhkaaGreatDoorW.PrintWords Go.Proofs.YtbnhlekehndhkaaGreatDoorW.PrintLast Go.Proofs.YtbnhlekehndhkaaGreatDoorW.PrintMore Go.Proofs.YtbnhlekehndhkaaGreatDoor.G
set_option linter.unusedVariables false
set_option linter.unusedSimpArgs false

/-- a byte in small letters -/
def low (b : UInt8) : UInt8 := if 65 ≤ b.toNat ∧ b.toNat ≤ 90 then b + 32 else b
theorem low_in (b : UInt8) (h1 : 65 ≤ b.toNat) (h2 : b.toNat ≤ 90) : (low b).toNat = b.toNat + 32 := by
  unfold low
  rw [if_pos ⟨h1, h2⟩, UInt8.toNat_add]
  show (b.toNat + 32) % 256 = _
  omega
theorem low_out (b : UInt8) (h : ¬ (65 ≤ b.toNat ∧ b.toNat ≤ 90)) : low b = b := by unfold low; rw [if_neg h]
def lowS (s : ByteArray) : ByteArray := ⟨(s.data.toList.map low).toArray⟩

def cap5 (W : World) (s : ByteArray) : Nat := grownCap W s.size 0 5
def after5 (W : World) (s : ByteArray) : World := W.drew.alloc (.cells (bytesRow s (cap5 W s)) 5 ((bytesRow s (cap5 W s)).size, (bytesRow s (cap5 W s)).size + 1))
theorem to_bytes (s : ByteArray) (W : World) : (convert 9 23 (.string s)).run Tryz.prog W = .ok (.slice (some ⟨W.heap.size, 0, none⟩) s.data.toList.length (cap5 W s)) (after5 W s) := by
  have h := run_bytes_of_string (P := Tryz.prog) W 9 23 5 s Tryz.underlying9 Tryz.underlying23 Tryz.underlying5
  rw [show s.data.toList.length = s.size by simp]
  exact h
theorem after_below (W : World) (s : ByteArray) : Below W.heap.size W (after5 W s) := below_alloc (below_drew (Below.refl _ _)) _

/-- the row of bytes, the first i of them small -/
def SmAt (W : World) (g : Nat) (bs : List UInt8) (i : Nat) : Prop := ∀ (j : Nat) (h : j < bs.length), W.cell? ⟨g, j, none⟩ = some (.int .u8 ((if j < i then low bs[j] else bs[j]).toNat : Int)) ∧ W.frozen? ⟨g, j, none⟩ = false
theorem smAt_0 (W : World) (s : ByteArray) : SmAt (after5 W s) W.heap.size s.data.toList 0 := by
  intro j hj
  have hj2 : j < s.data.size := by simpa using hj
  refine ⟨?_, ?_⟩
  · rw [if_neg (by omega)]
    have := World.cell?_alloc_mark W.drew (bytesRow s (cap5 W s)) 5 ((bytesRow s (cap5 W s)).size, (bytesRow s (cap5 W s)).size + 1) j
    refine this.trans ?_
    rw [bytesRow_at s _ j hj2]
    simp
  · have hbl : (bytesRow s (cap5 W s)).size = cap5 W s ∨ j < (bytesRow s (cap5 W s)).size := by
      right
      have := bytesRow_at s (cap5 W s) j hj2
      exact (Array.getElem?_eq_some_iff.1 this).1
    have hl : j < (bytesRow s (cap5 W s)).size := by
      have := bytesRow_at s (cap5 W s) j hj2
      exact (Array.getElem?_eq_some_iff.1 this).1
    have hh : (after5 W s).heap[W.heap.size]? = some (.cells (bytesRow s (cap5 W s)) 5 ((bytesRow s (cap5 W s)).size, (bytesRow s (cap5 W s)).size + 1)) := heap_alloc_new W.drew _
    simp [World.frozen?, hh]
    omega
theorem smAt_step {W : World} {g : Nat} {bs : List UInt8} {i : Nat} (h : SmAt W g bs i) (hi : i < bs.length) : SmAt (W.setCell ⟨g, i, none⟩ (.int .u8 ((low bs[i]).toNat : Int))) g bs (i + 1) := by
  intro j hj
  refine ⟨?_, by rw [World.frozen?_setCell]; exact (h j hj).2⟩
  by_cases e : j = i
  · subst e
    rw [if_pos (by omega)]
    exact World.cell?_setCell_same' _ _ _ (by rw [(h j hj).1]; rfl)
  · rw [World.cell?_setCell_other _ _ _ _ (by intro q; injection q with _ q _; exact e q.symm)]
    rw [(h j hj).1]
    by_cases hji : j < i
    · rw [if_pos hji, if_pos (by omega)]
    · rw [if_neg hji, if_neg (by omega)]
theorem smAt_skip {W : World} {g : Nat} {bs : List UInt8} {i : Nat} (h : SmAt W g bs i) (hi : i < bs.length) (hl : low bs[i] = bs[i]) : SmAt W g bs (i + 1) := by
  intro j hj
  refine ⟨?_, (h j hj).2⟩
  rw [(h j hj).1]
  by_cases e : j = i
  · subst e; rw [if_neg (by omega), if_pos (by omega), hl]
  · by_cases hji : j < i
    · rw [if_pos hji, if_pos (by omega)]
    · rw [if_neg hji, if_neg (by omega)]
theorem of_small (s : ByteArray) (g c : Nat) (W : World) (h : SmAt W g s.data.toList s.data.toList.length) : (convert 23 9 (.slice (some ⟨g, 0, none⟩) s.data.toList.length c)).run Tryz.prog W = .ok (.string (lowS s)) W := by
  have := run_convert_bytes_back (P := Tryz.prog) W 23 9 5 ⟨g, 0, none⟩ c (s.data.toList.map low) Tryz.underlying23 Tryz.underlying5 Tryz.underlying9 (fun j hj => by
    have hj2 : j < s.data.toList.length := by simpa using hj
    have hx := (h j hj2).1
    rw [if_pos hj2] at hx
    rw [show (⟨g, 0, none⟩ : Addr).add j = ⟨g, j, none⟩ by unfold Addr.add; split <;> simp_all, hx]
    simp)
  rw [List.length_map] at this
  exact this

theorem blk_of {w : World} {g j : Nat} {v : Value} (h : w.cell? ⟨g, j, none⟩ = some v) : g < w.heap.size := block_lt_of_cell h
theorem smAt_put {W : World} {g : Nat} {bs : List UInt8} {i : Nat} (h : SmAt W g bs i) (hi : i < bs.length) (v : Int) (hv : ((low bs[i]).toNat : Int) = v) : SmAt (W.setCell ⟨g, i, none⟩ (.int .u8 v)) g bs (i + 1) := hv ▸ smAt_step h hi

set_option maxRecDepth 100000 in
set_option maxHeartbeats 2000000 in
theorem small_at (s : ByteArray) (w : World) (hs : s.data.toList.length ≤ 140737488355328) :
    Calls Tryz.prog 82 #[.string s] w fun e w' => e = .returned (.string (lowS s)) ∧ Below w.heap.size w w' := by
  have hcv := to_bytes s
  have hback := Lib.hid (of_small s)
  go_enter Tryz.func82, Tryz.ntmps82
  go_upto_region 2 with fail
  have HB0 := Lib.hid (after_below w s)
  have HS0 := Lib.hid (smAt_0 w s)
  have hgl : w.heap.size < (after5 w s).heap.size := by unfold after5; simp
  obtain ⟨C, hC⟩ : ∃ C, C = cap5 w s := ⟨_, rfl⟩
  rw [← hC]
  obtain ⟨w1, hw1⟩ : ∃ w1, w1 = after5 w s := ⟨_, rfl⟩
  rw [← hw1] at HB0 HS0 hgl ⊢
  obtain ⟨bs, hbs⟩ : ∃ bs, bs = s.data.toList := ⟨_, rfl⟩
  have hbk : Hid (∀ W, SmAt W w.heap.size bs bs.length → (convert 23 9 (.slice (some ⟨w.heap.size, 0, none⟩) bs.length C)).run Tryz.prog W = .ok (.string (lowS s)) W) := Lib.hid (by rw [hbs]; exact fun W h => hback.out _ _ _ h)
  rw [← hbs] at HS0 hs
  rw [show s.size = bs.length by rw [hbs]; simp]
  clear hC hw1 hback hcv hbs
  go_wp2
  go_loopg [4, 5, 10] bs.length (fun k v4 v5 v10 W => ∃ i : Nat, v10 = .int .i64 (i : Int) ∧ i ≤ bs.length ∧ bs.length ≤ k + i ∧ Hid (SmAt W w.heap.size bs i) ∧ Hid (Below w.heap.size w W))
  case atStart => exact ⟨0, rfl, by omega, by omega, HS0, HB0⟩
  case round =>
    obtain ⟨i, rfl, hi, hk, HS, HW⟩ := hrel
    by_cases hlt : i < bs.length
    · obtain ⟨ko, rfl⟩ : ∃ ko, gk = ko + 1 := ⟨gk - 1, by omega⟩
      have hk2 : bs.length ≤ ko + (i + 1) := by omega
      have hi1 : i + 1 ≤ bs.length := hlt
      have c1 : decide ((i : Int) < (bs.length : Int)) = true := decide_eq_true (by omega)
      have p1 : 0 ≤ (i : Int) := by omega
      have p2 : (i : Int) < (bs.length : Int) := by omega
      have hx := (HS.out i hlt).1
      have hfz := (HS.out i hlt).2
      rw [if_neg (by omega)] at hx
      have hlow := Lib.hid (low_in bs[i])
      have hout := Lib.hid (low_out bs[i])
      have hput := Lib.hid (smAt_put HS.out hlt)
      have hskip := Lib.hid (smAt_skip HS.out hlt)
      have hwl := blk_of hx
      obtain ⟨b, hb⟩ : ∃ b, b = bs[i] := ⟨_, rfl⟩
      rw [← hb] at hx hlow hout hput hskip
      clear hlt hb
      obtain ⟨c, hc⟩ : ∃ c, c = b.toNat := ⟨_, rfl⟩
      rw [← hc] at hx hlow hout
      by_cases h1 : 65 ≤ c
      · have d1 : decide (65 ≤ (c : Int)) = true := decide_eq_true (by omega)
        by_cases h2 : c ≤ 90
        · have d2 : decide ((c : Int) ≤ 90) = true := decide_eq_true (by omega)
          have hp := Lib.hid (hput.out ((c : Int) + 97 - 65) (by rw [hlow.out h1 h2]; omega))
          clear hlow hout hput hskip hc
          go_wp2
          go_roundg ko
          case measure => omega
          case rel => exact ⟨i + 1, by first | rfl | simp | go_num, hi1, hk2, hp, Lib.hid (HW.out.setCell (p := ⟨w.heap.size, i, none⟩) (by simp) _)⟩
        · have d2 : decide ((c : Int) ≤ 90) = false := decide_eq_false (by omega)
          have hp := Lib.hid (hskip.out (hout.out (fun q => h2 q.2)))
          clear hlow hout hput hskip hc
          go_wp2
          go_roundg ko
          case measure => omega
          case rel => exact ⟨i + 1, by first | rfl | simp | go_num, hi1, hk2, hp, HW⟩
      · have d1 : decide (65 ≤ (c : Int)) = false := decide_eq_false (by omega)
        have hp := Lib.hid (hskip.out (hout.out (fun q => h1 q.1)))
        clear hlow hout hput hskip hc
        go_wp2
        go_roundg ko
        case measure => omega
        case rel => exact ⟨i + 1, by first | rfl | simp | go_num, hi1, hk2, hp, HW⟩
    · have c1 : decide ((i : Int) < (bs.length : Int)) = false := decide_eq_false (by omega)
      obtain rfl : i = bs.length := by omega
      have hbk2 := hbk.out wr HS.out
      go_wp2
      go_ret
      exact ⟨rfl, HW.out⟩
def small.f (s : ByteArray) : Option ByteArray := if s.data.toList.length ≤ 140737488355328 then some (lowS s) else none
theorem small.calls (s r : ByteArray) (w : World) (h : small.f s = some r) : Calls Tryz.prog 82 #[.string s] w fun e w' => e = .returned (.string r) ∧ Below w.heap.size w w' := by
  unfold small.f at h
  split at h
  · rename_i hs
    obtain rfl := Option.some.inj h
    exact small_at s w hs
  · cases h

set_option maxRecDepth 100000 in
set_option maxHeartbeats 2000000 in
theorem rsmall_at (s : ByteArray) (w : World) (hs : s.data.toList.length ≤ 140737488355328) :
    Calls Tryz.prog 48 #[.string s] w fun e w' => e = .returned (.string (lowS s)) ∧ Below w.heap.size w w' := by
  have hcv := to_bytes s
  have hback := Lib.hid (of_small s)
  go_enter Tryz.func48, Tryz.ntmps48
  go_upto_region 2 with fail
  have HB0 := Lib.hid (after_below w s)
  have HS0 := Lib.hid (smAt_0 w s)
  have hgl : w.heap.size < (after5 w s).heap.size := by unfold after5; simp
  obtain ⟨C, hC⟩ : ∃ C, C = cap5 w s := ⟨_, rfl⟩
  rw [← hC]
  obtain ⟨w1, hw1⟩ : ∃ w1, w1 = after5 w s := ⟨_, rfl⟩
  rw [← hw1] at HB0 HS0 hgl ⊢
  obtain ⟨bs, hbs⟩ : ∃ bs, bs = s.data.toList := ⟨_, rfl⟩
  have hbk : Hid (∀ W, SmAt W w.heap.size bs bs.length → (convert 23 9 (.slice (some ⟨w.heap.size, 0, none⟩) bs.length C)).run Tryz.prog W = .ok (.string (lowS s)) W) := Lib.hid (by rw [hbs]; exact fun W h => hback.out _ _ _ h)
  rw [← hbs] at HS0 hs
  rw [show s.size = bs.length by rw [hbs]; simp]
  clear hC hw1 hback hcv hbs
  go_wp2
  go_loopg [4] bs.length (fun k v4 W => ∃ i : Nat, v4 = .int .i64 (i : Int) ∧ i ≤ bs.length ∧ bs.length ≤ k + i ∧ Hid (SmAt W w.heap.size bs i) ∧ Hid (Below w.heap.size w W))
  case atStart => exact ⟨0, rfl, by omega, by omega, HS0, HB0⟩
  case round =>
    obtain ⟨i, rfl, hi, hk, HS, HW⟩ := hrel
    by_cases hlt : i < bs.length
    · obtain ⟨ko, rfl⟩ : ∃ ko, gk = ko + 1 := ⟨gk - 1, by omega⟩
      have hk2 : bs.length ≤ ko + (i + 1) := by omega
      have hi1 : i + 1 ≤ bs.length := hlt
      have c1 : decide ((i : Int) < (bs.length : Int)) = true := decide_eq_true (by omega)
      have p1 : 0 ≤ (i : Int) := by omega
      have p2 : (i : Int) < (bs.length : Int) := by omega
      have hx := (HS.out i hlt).1
      have hfz := (HS.out i hlt).2
      rw [if_neg (by omega)] at hx
      have hlow := Lib.hid (low_in bs[i])
      have hout := Lib.hid (low_out bs[i])
      have hput := Lib.hid (smAt_put HS.out hlt)
      have hskip := Lib.hid (smAt_skip HS.out hlt)
      have hwl := blk_of hx
      obtain ⟨b, hb⟩ : ∃ b, b = bs[i] := ⟨_, rfl⟩
      rw [← hb] at hx hlow hout hput hskip
      clear hlt hb
      obtain ⟨c, hc⟩ : ∃ c, c = b.toNat := ⟨_, rfl⟩
      rw [← hc] at hx hlow hout
      by_cases h1 : 65 ≤ c
      · have d1 : decide (65 ≤ (c : Int)) = true := decide_eq_true (by omega)
        by_cases h2 : c ≤ 90
        · have d2 : decide ((c : Int) ≤ 90) = true := decide_eq_true (by omega)
          have hp := Lib.hid (hput.out ((c : Int) + 32) (by rw [hlow.out h1 h2]; omega))
          clear hlow hout hput hskip hc
          go_wp2
          go_roundg ko
          case measure => omega
          case rel => exact ⟨i + 1, by first | rfl | simp | go_num, hi1, hk2, hp, Lib.hid (HW.out.setCell (p := ⟨w.heap.size, i, none⟩) (by simp) _)⟩
        · have d2 : decide ((c : Int) ≤ 90) = false := decide_eq_false (by omega)
          have hp := Lib.hid (hskip.out (hout.out (fun q => h2 q.2)))
          clear hlow hout hput hskip hc
          go_wp2
          go_roundg ko
          case measure => omega
          case rel => exact ⟨i + 1, by first | rfl | simp | go_num, hi1, hk2, hp, HW⟩
      · have d1 : decide (65 ≤ (c : Int)) = false := decide_eq_false (by omega)
        have hp := Lib.hid (hskip.out (hout.out (fun q => h1 q.1)))
        clear hlow hout hput hskip hc
        go_wp2
        go_roundg ko
        case measure => omega
        case rel => exact ⟨i + 1, by first | rfl | simp | go_num, hi1, hk2, hp, HW⟩
    · have c1 : decide ((i : Int) < (bs.length : Int)) = false := decide_eq_false (by omega)
      obtain rfl : i = bs.length := by omega
      have hbk2 := hbk.out wr HS.out
      go_wp2
      go_ret
      exact ⟨rfl, HW.out⟩
def rsmall.f (s : ByteArray) : Option ByteArray := if s.data.toList.length ≤ 140737488355328 then some (lowS s) else none
theorem rsmall.calls (s r : ByteArray) (w : World) (h : rsmall.f s = some r) : Calls Tryz.prog 48 #[.string s] w fun e w' => e = .returned (.string r) ∧ Below w.heap.size w w' := by
  unfold rsmall.f at h
  split at h
  · rename_i hs
    obtain rfl := Option.some.inj h
    exact rsmall_at s w hs
  · cases h
end Go.Proofs.YtbnhlekehndhkaaGreatDoor.Pl

