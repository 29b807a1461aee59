import Derived.Test.YtgcefofmfeghmaaHs8
import Derived.Shelf.GgSortFunc.Small
import Derived.Shelf.GgSortFunc.Slice
/- sort.SliceStable, over whole numbers that ascend -/
namespace Go.Proofs.Ytgcefofmfeghmaa.St
open Go.Shelf Go.RowKit Go.Lib Go.Sort
set_option linter.unusedVariables false
set_option linter.unusedSimpArgs false
variable {enc : Int → Value}

theorem inf22 : ∃ i, Try.prog.info? 22 = some i ∧ i.desc = .slice 3 := Option.map_eq_some_iff.1 (show (Try.prog.info? 22).map (·.desc) = some (.slice 3) by kernel_rfl)
theorem inf3 : ∃ i, Try.prog.info? 3 = some i ∧ i.size = 1 ∧ i.bytes = 8 ∧ i.hasPointers = false := by
  obtain ⟨i, h1, h2⟩ := Option.map_eq_some_iff.1 (show (Try.prog.info? 3).map (fun i => (i.size, i.bytes, i.hasPointers)) = some (1, 8, false) by kernel_rfl)
  simp only [Prod.mk.injEq] at h2
  exact ⟨i, h1, h2.1, h2.2.1, h2.2.2⟩
theorem kd3 : ∀ w, (Extern.Rtype.kind 3).run Try.prog w = .ok 2 w := fun w => by kernel_rfl
theorem agg3 : ∀ w, (isAgg 3).run Try.prog w = .ok false w := fun w => by kernel_rfl
theorem sw5 : Try.prog.funcs.findIdx? (·.name == "internal/reflectlite" ++ ".Swapper$" ++ toString 5) = some 46 := by kernel_rfl
theorem sw1 : Try.prog.funcs.findIdx? (·.name == "internal/reflectlite" ++ ".Swapper$" ++ toString 1) = some 42 := by kernel_rfl
theorem sw2 : Try.prog.funcs.findIdx? (·.name == "internal/reflectlite" ++ ".Swapper$" ++ toString 2) = some 43 := by kernel_rfl
theorem sw_ext : ∀ args W, (callFunc 46 args).run Try.prog W = ((Extern.ReflectliteSwapper.swap true args).run Try.prog W).andThen fun v w' => .ok (.value v) w' :=
  run_callFunc_extern Try.func46 (by kernel_rfl) (by kernel_rfl) (by kernel_rfl) (e := Extern.ReflectliteSwapper.swap true) (by kernel_rfl)

def stWorld (gs : Nat) (p : Option Addr) (n c : Nat) (w : World) : World :=
  (w.alloc (.cells #[.slice p n c] 22)).alloc (.cells #[.pointer (some ⟨gs, 22, none⟩), .pointer (some ⟨w.heap.size, 0, none⟩), .int .u64 151] 64)

set_option maxHeartbeats 4000000 in
set_option maxRecDepth 100000 in
theorem ss_of (p : Option Addr) (n c : Nat) (k f : Nat) (hk : ∀ ie, Try.prog.info? 3 = some ie → swapperK n ie 2 = k) (hf : Try.prog.funcs.findIdx? (·.name == "internal/reflectlite" ++ ".Swapper$" ++ toString k) = some f) (lf : Fn) (la lb : Array Value) (w : World) (R : World → Prop)
    (hp : Calls Try.prog 37 #[.agg #[.func lf la lb, .func (.func f) #[] (if k ≤ 2 then #[] else #[.slice p n c, typeHandle Try.prog 3])], .int .i64 n] (stWorld 1 p n c w) fun e w' => e = .returned (.tuple #[]) ∧ R w') :
    Calls Try.prog 31 #[.iface 22 (.slice p n c), .func lf la lb] w fun e w' => e = .returned (.tuple #[]) ∧ R w' := by
  obtain ⟨i, hi, hd⟩ := inf22
  obtain ⟨ie, hie, -⟩ := inf3
  have hk' := hk ie hie
  have hv := run_valueOf_slice (P := Try.prog) 22 3 i hi hd p n c w
  have hs := fun w => run_swapper_slice (P := Try.prog) 22 3 i ie hi hd hie 2 kd3 p n c f (by rw [hk']; exact hf) w
  have hl := fun a w ha => run_valueLen_slice (P := Try.prog) 22 3 i hi hd (by kernel_rfl) a p n c w ha
  rw [hk'] at hs
  unfold stWorld at hp
  generalize (if k ≤ 2 then (#[] : Array Value) else #[.slice p n c, typeHandle Try.prog 3]) = B at hs hp
  have hgs : Try.prog.globals.size = 1 := by kernel_rfl
  simp only [typeHandle, hgs] at hv hl
  clear hgs
  have HP := Lib.hid hp
  have HV := Lib.hid hv
  have HS := Lib.hid hs
  have HLn := Lib.hid hl
  clear hk hk' hp hv hs hl hi hd hie hf
  go_enter Try.func31, Try.ntmps31
  go_wp2
  rw [run_callFunc_extern Try.func35 (by kernel_rfl) (by kernel_rfl) (by kernel_rfl) (e := fun args => Extern.ReflectliteValue.unpack (args.getD 0 (.tuple #[]))) (by kernel_rfl),
    show Sem.run Try.prog ((fun args : Array Value => Extern.ReflectliteValue.unpack (args.getD 0 (.tuple #[]))) #[.iface 22 (.slice p n c)]) w = _ from HV.out]
  simp only [Result.andThen]
  rw [Oper.upon_value]
  go_wp2
  rw [run_callFunc_extern Try.func36 (by kernel_rfl) (by kernel_rfl) (by kernel_rfl) (e := Extern.ReflectliteSwapper.swapper "internal/reflectlite" (Extern.ReflectliteValue.valueError "Swapper")) (by kernel_rfl), HS.out]
  simp only [Result.andThen]
  rw [Oper.upon_value]
  go_wp2
  rw [run_callFunc_extern Try.func38 (by kernel_rfl) (by kernel_rfl) (by kernel_rfl) (e := Extern.ReflectliteValue.method (Extern.ReflectliteValue.valueError "reflectlite.Value.Len" 0) Extern.ReflectliteValue.len) (by kernel_rfl),
    HLn.out _ _ (by simp)]
  simp only [Result.andThen]
  rw [Oper.upon_value]
  go_wp2_with (go_at_call 37; refine HP.out.mono ?_; rintro e w' ⟨rfl, hR⟩; have HR := Lib.hid hR; clear hR)
  go_end0
  exact ⟨rfl, HR.out⟩

theorem ins_none (lf : Fn) (la lb : Array Value) (f : Nat) (sb : Array Value) (n : Nat) (hn : n ≤ 1) (w : World) : Calls Try.prog 51 #[.agg #[.func lf la lb, .func (.func f) #[] sb], .int .i64 0, .int .i64 n] w fun e w' => e = .returned (.tuple #[]) ∧ w' = w.alloc (.cells #[.func lf la lb, .func (.func f) #[] sb] 70) := by
  have t : decide ((1 : Int) < (n : Int)) = false := decide_eq_false (by omega)
  go_enter Try.func51, Try.ntmps51
  go_wp2
  refine wp_loop_rounds 1 ?_
  rw [rounds_succ]
  go_wp2
  go_end0
  exact ⟨rfl, rfl⟩
set_option maxRecDepth 100000 in
theorem stable_tiny (lf : Fn) (la lb : Array Value) (f : Nat) (sb : Array Value) (n : Nat) (hn : n ≤ 1) (w : World) : Calls Try.prog 37 #[.agg #[.func lf la lb, .func (.func f) #[] sb], .int .i64 n] w fun e w' => e = .returned (.tuple #[]) ∧ ∃ o1 o2, w' = (w.alloc o1).alloc o2 := by
  have t : decide ((20 : Int) ≤ (n : Int)) = false := decide_eq_false (by omega)
  have t2 : decide ((20 : Int) < (n : Int)) = false := decide_eq_false (by omega)
  have HI := Lib.hid (ins_none lf la lb f sb n hn)
  go_enter Try.func37, Try.ntmps37
  go_wp2
  refine wp_loop_rounds 1 ?_
  rw [rounds_succ]
  go_wp2_with (go_at_call 51; refine (HI.out _).mono ?_; rintro e w1 ⟨rfl, rfl⟩)
  refine wp_loop_rounds 1 ?_
  rw [rounds_succ]
  go_wp2
  go_end0
  exact ⟨rfl, _, _, rfl⟩

theorem kd_of (n k : Nat) (h : (if n = 0 then 1 else if n = 1 then 2 else 5) = k) : ∀ ie, Try.prog.info? 3 = some ie → swapperK n ie 2 = k := by
  intro ie hie
  obtain ⟨ie', hie', h1, h2, h3⟩ := inf3
  rw [hie'] at hie
  cases hie
  unfold swapperK
  rw [h3, h2]
  rw [← h]
  by_cases c : n = 0
  · simp [c]
  · by_cases c1 : n = 1
    · simp [c1]
    · simp [c, c1]

theorem ss_nil (w : World) (p : Option Addr) (c : Nat) (lf : Fn) (la lb : Array Value) : Calls Try.prog 31 #[.iface 22 (.slice p 0 c), .func lf la lb] w fun e w' => e = .returned (.tuple #[]) ∧ Below w.heap.size w w' := by
  refine ss_of p 0 c 1 42 (kd_of 0 1 rfl) sw1 lf la lb w _ ?_
  refine (stable_tiny lf la lb 42 _ 0 (by omega) _).mono ?_
  rintro e w' ⟨rfl, o1, o2, rfl⟩
  refine ⟨rfl, ?_⟩
  unfold stWorld
  exact ((((Below.refl _ _).alloc (Nat.le_refl _) _).alloc (by simp) _).alloc (by simp; omega) _).alloc (by simp; omega) _

theorem ss_calls (h1' : ∀ x, (enc x).oneCell' = true) (K : Int → Int) (g : Nat) (lb : Array Value) (w : World) (blk off c : Nat) (d : Array Int) (hH : Holds enc w blk off d) (hblk : blk < w.heap.size)
    (eg : ∀ args w, (callFunc g args).run Try.prog w = .ok (.enter g args) w) (hless : LessReads Try.prog g lb enc (ltK K) blk off d.size w) (h0 : 0 < d.size) (hsz : d.size < 1000000) (hd : Asc d) :
    Calls Try.prog 31 #[.iface 22 (.slice (some ⟨blk, off, none⟩) d.size c), .func (.func g) #[] lb] w fun e w' => e = .returned (.tuple #[]) ∧ ∃ d', SW enc w blk off d' w' ∧ PermIn 0 d.size d d' ∧ Sorted K 0 d.size d' := by
  have hS : SW enc w blk off d (stWorld 1 (some ⟨blk, off, none⟩) d.size c w) := by unfold stWorld; exact ((SW.start hH).alloc _).alloc _
  by_cases h1 : d.size = 1
  · refine ss_of _ d.size c 2 43 (kd_of _ 2 (by rw [h1]; rfl)) sw2 (.func g) #[] lb w _ ?_
    refine (stable_tiny (.func g) #[] lb 43 _ d.size (by omega) _).mono ?_
    rintro e w' ⟨rfl, o1, o2, rfl⟩
    exact ⟨rfl, d, (hS.alloc _).alloc _, permIn_refl _ _ _, fun i j a1 a2 a3 => by omega⟩
  · refine ss_of _ d.size c 5 46 (kd_of _ 5 (by rw [if_neg (by omega), if_neg h1])) sw5 (.func g) #[] lb w _ ?_
    obtain ⟨ie, hie, hs1, -⟩ := inf3
    refine (stable_calls K g lb 46 _ blk off d _ (hS.holds hblk hH rfl) (hS.lt hblk) eg (SW.lessReads hS hless hblk rfl)
      (swapSwaps_of_literal true 46 sw_ext 3 ie hie hs1 agg3 enc h1' blk off d.size c) hsz hd).mono ?_
    rintro e w' ⟨rfl, d', h2, h3, h4⟩
    exact ⟨rfl, d', SW.trans hS h2 hblk h3.1, h3, h4⟩
end Go.Proofs.Ytgcefofmfeghmaa.St
