import Derived.Test.YtkbbjjegpjdpeaaDoorCards
import Derived.Test.YtkbbjjegpjdpeaaDoorTie
import Derived.Test.YtkbbjjegpjdpeaaDoorZSzc
import Derived.Test.YtkbbjjegpjdpeaaDoorZOpen
import Derived.WalkKit
import Derived.ProofKit
import Derived.OpenShut
import Derived.ShutString
import Derived.ChangeOld
import Derived.Below
import Derived.SizedLaws
import Derived.Deep.DeepHandedRow
import Derived.Lib.LaidTab
/- A store that nobody made answers an error to every call, and has nothing, and exchanges that were handed in, or got, may be written over: for every act, no condition. The row lists two variables ('laid'); the card ties them to the text. -/













namespace Go.Proofs.YtkbbjjegpjdpeaaDoor.S
open Go.RowKit Go.Proofs.YtkbbjjegpjdpeaaDoorW.PrintWords Go.Proofs.YtkbbjjegpjdpeaaDoor.Opn Go.Proofs.YtkbbjjegpjdpeaaDoor.G
theorem opn63 : Opens Tryd.prog 63 k63 (fun _ => True) :=
  opens_mono (opens_iso (opens_struct Tryd.underlying63 (by kernel_rfl) (opensFs_cons rfl (by kernel_rfl) (opens_string Tryd.underlying9) (opensFs_last rfl (by kernel_rfl) (opens_string Tryd.underlying9)))) _ (fun p => (⟨p.1, p.2⟩ : S63)) (fun _ => rfl)) (fun _ _ => trivial)
theorem opn28 : Opens Tryd.prog 28 (Kd.slice 63 k63) (fun _ => True) :=
  opens_mono (opens_slice (B := 32) Tryd.underlying28 opn63 (by kernel_rfl) (by kernel_rfl)) (fun _ _ => trivial)
theorem opn29 : Opens Tryd.prog 29 (Kd.slice 5 (Kd.int .u8)) (fun _ => True) :=
  opens_mono (opens_slice (B := 1) Tryd.underlying29 (opens_int Tryd.underlying5) (by kernel_rfl) (by kernel_rfl)) (fun _ _ => trivial)
theorem opn31 : Opens Tryd.prog 31 k31 (fun _ => True) :=
  opens_mono (opens_iso (opens_struct Tryd.underlying31 (by kernel_rfl) (opensFs_cons rfl (by kernel_rfl) (opens_string Tryd.underlying9) (opensFs_cons rfl (by kernel_rfl) (opens_string Tryd.underlying9) (opensFs_cons rfl (by kernel_rfl) (opens_string Tryd.underlying9) (opensFs_cons rfl (by kernel_rfl) (opens_string Tryd.underlying9) (opensFs_cons rfl (by kernel_rfl) opn28 (opensFs_last rfl (by kernel_rfl) opn29)))))))
    _ (fun p => (⟨p.1, p.2.1, p.2.2.1, p.2.2.2.1, p.2.2.2.2.1, p.2.2.2.2.2⟩ : S31)) (fun _ => rfl)) (fun _ _ => trivial)
theorem opn33 : Opens Tryd.prog 33 k33 (fun _ => True) :=
  opens_mono (opens_iso (opens_struct Tryd.underlying33 (by kernel_rfl) (opensFs_cons rfl (by kernel_rfl) (opens_int Tryd.underlying3) (opensFs_cons rfl (by kernel_rfl) opn28 (opensFs_last rfl (by kernel_rfl) opn29))))
    _ (fun p => (⟨p.1, p.2.1, p.2.2⟩ : S33)) (fun _ => rfl)) (fun _ _ => trivial)
theorem opn35 : Opens Tryd.prog 35 k35 (fun _ => True) :=
  opens_mono (opens_iso (opens_struct Tryd.underlying35 (by kernel_rfl) (opensFs_cons rfl (by kernel_rfl) opn31 (opensFs_cons rfl (by kernel_rfl) opn33 (opensFs_cons rfl (by kernel_rfl) (opens_int Tryd.underlying3) (opensFs_last rfl (by kernel_rfl) (opens_int Tryd.underlying3))))))
    _ (fun p => (⟨p.1, p.2.1, p.2.2.1, p.2.2.2⟩ : S35)) (fun _ => rfl)) (fun _ _ => trivial)
theorem opn37 : Opens Tryd.prog 37 k37 (fun _ => True) :=
  opens_mono (opens_iso (opens_struct Tryd.underlying37 (by kernel_rfl) (opensFs_cons rfl (by kernel_rfl) (opens_int Tryd.underlying5) (opensFs_last rfl (by kernel_rfl) opn35)))
    _ (fun p => (⟨p.1, p.2⟩ : S37)) (fun _ => rfl)) (fun _ _ => trivial)
theorem open_act {w : World} {x : S37} {cs : List Value} (h : k37.K w x cs) : ∃ r : Rf, cs = [.int .u8 x.f0, .string (to41 x.f1).f0.f0, .string (to41 x.f1).f0.f1, .string (to41 x.f1).f0.f2, .string (to41 x.f1).f0.f3, .slice r.A4 (to41 x.f1).f0.f4.length r.c4, .slice r.A5 (to41 x.f1).f0.f5.length r.c5, .int .i64 (to41 x.f1).f1.f0, .slice r.A7 (to41 x.f1).f1.f1.length r.c7, .slice r.A8 (to41 x.f1).f1.f2.length r.c8, .int .i64 (to41 x.f1).f2, .int .i64 (to41 x.f1).f3] ∧ Ex w (fun k => k < w.heap.size) (to41 x.f1) r := by
  obtain ⟨A5, c5, A6, c6, A8, c8, A9, c9, rfl, q1, q2, q3, q4, q5, q6, q7, q8⟩ := k37_open h
  have hE : Ex w (fun _ => True) (to41 x.f1) ⟨A5, c5, A6, c6, A8, c8, A9, c9⟩ := ⟨q1, q2, fun _ _ _ => trivial, q3, q4, fun _ _ _ => trivial, q5, q6, fun _ _ _ => trivial, q7, q8, fun _ _ _ => trivial⟩
  exact ⟨⟨A5, c5, A6, c6, A8, c8, A9, c9⟩, rfl, hE.lt.mono (fun k hk => hk.2)⟩
theorem nobody_any (w : World) (x : S37) (r : Rf) (hE : Ex w (fun k => k < w.heap.size) (to41 x.f1) r) :
    Calls Tryd.prog 7 #[.agg #[.int .u8 x.f0, .string (to41 x.f1).f0.f0, .string (to41 x.f1).f0.f1, .string (to41 x.f1).f0.f2, .string (to41 x.f1).f0.f3, .slice r.A4 (to41 x.f1).f0.f4.length r.c4, .slice r.A5 (to41 x.f1).f0.f5.length r.c5, .int .i64 (to41 x.f1).f1.f0, .slice r.A7 (to41 x.f1).f1.f1.length r.c7, .slice r.A8 (to41 x.f1).f1.f2.length r.c8, .int .i64 (to41 x.f1).f2, .int .i64 (to41 x.f1).f3]] w fun e w' => e = .returned (.bool true) ∧ Below w.heap.size w w' :=
  nobody_calls w x.f0 (to41 x.f1) r hE
end Go.Proofs.YtkbbjjegpjdpeaaDoor.S
namespace Go.Proofs.YtkbbjjegpjdpeaaDoor.storeNobody
open Go.ChangeShapes Go.WideShapes Go.ChangeAt Go.RowKit
open Go.ChangeMaps (open_string shut_string)
set_option linter.unusedVariables false
theorem own : ownKnob Tryd.prog.godebug = none := by kernel_rfl
theorem laidOut : laidOutB Tryd.prog = true := by kernel_rfl
theorem weights_of {H : Type} {ts : List TypeId} {ds : List (DataW H)} {j : Nat} {t : TypeId} {d : DataW H} (h : (DataW.weightsEach Tryd.prog ts ds).all (· ≤ reachBytes) = true) (ht : ts[j]? = some t) (hd : ds[j]? = some d) : ∀ n ∈ d.weights Tryd.prog t, n ≤ reachBytes :=
  fun n hn => by simpa using List.all_eq_true.1 h n (DataW.weights_mem_each ht hd n hn)
noncomputable def laidWorld (os : Os) : World :=
  { World.holding Tryd.prog os ⟨#[], #[], []⟩ with heap := (((World.holding Tryd.prog os ⟨#[], #[], []⟩).heap.modify 0 fun | .cells _ t frozen => .cells ((Go.Pinned.utf8FirstZ.map fun (n : Nat) => Value.int .u8 n).toArray) t frozen | o => o).modify 1 fun | .cells _ t frozen => .cells (#[.int .u8 128, .int .u8 191, .int .u8 160, .int .u8 191, .int .u8 128, .int .u8 159, .int .u8 144, .int .u8 191, .int .u8 128, .int .u8 143, .int .u8 0, .int .u8 0, .int .u8 0, .int .u8 0, .int .u8 0, .int .u8 0, .int .u8 0, .int .u8 0, .int .u8 0, .int .u8 0, .int .u8 0, .int .u8 0, .int .u8 0, .int .u8 0, .int .u8 0, .int .u8 0, .int .u8 0, .int .u8 0, .int .u8 0, .int .u8 0, .int .u8 0, .int .u8 0]) t frozen | o => o) }
theorem laid_met (os : Os) : laidMet Tryd.prog Rows.storeNobodyRow.laid ((laidWorld os).forCall (fun _ _ => 0) ⟨#[], #[.agg #[.int .u8 0, .string ByteArray.empty, .string ByteArray.empty, .string ByteArray.empty, .string ByteArray.empty, .slice none 0 0, .slice none 0 0, .int .i64 0, .slice none 0 0, .slice none 0 0, .int .i64 0, .int .i64 0]], []⟩).memory :=
  laidMet_of_run' 8 (by kernel_rfl) (by kernel_rfl)
theorem reads (os : Os) {H : Type} (enc : TypeId × Value → H) : ∃ places, DataW.whole enc Tryd.prog ((laidWorld os).forCall (fun _ _ => 0) ⟨#[], #[.agg #[.int .u8 0, .string ByteArray.empty, .string ByteArray.empty, .string ByteArray.empty, .string ByteArray.empty, .slice none 0 0, .slice none 0 0, .int .i64 0, .slice none 0 0, .slice none 0 0, .int .i64 0, .int .i64 0]], []⟩).memory Tryd.f7.params.toList Rows.storeNobodySpec.vars false (#[.agg #[.int .u8 0, .string ByteArray.empty, .string ByteArray.empty, .string ByteArray.empty, .string ByteArray.empty, .slice none 0 0, .slice none 0 0, .int .i64 0, .slice none 0 0, .slice none 0 0, .int .i64 0, .int .i64 0]] : Array Value).toList 8 = some ([.agg [.lit (.int .u8 0), .agg [.agg [.lit (.string []), .lit (.string []), .lit (.string []), .lit (.string []), .nil, .nil], .agg [.lit (.int .i64 0), .nil, .nil], .lit (.int .i64 0), .lit (.int .i64 0)]]], [], places) :=
  ⟨[], by kernel_rfl⟩
theorem w_os (os : Os) : (laidWorld os).os = os := rfl
theorem w_v (os : Os) : ((laidWorld os).forCall (fun _ _ => 0) ⟨#[], #[.agg #[.int .u8 0, .string ByteArray.empty, .string ByteArray.empty, .string ByteArray.empty, .string ByteArray.empty, .slice none 0 0, .slice none 0 0, .int .i64 0, .slice none 0 0, .slice none 0 0, .int .i64 0, .int .i64 0]], []⟩).variablesB Tryd.prog = true := by kernel_rfl
theorem w_r (os : Os) : (((laidWorld os).forCall (fun _ _ => 0) ⟨#[], #[.agg #[.int .u8 0, .string ByteArray.empty, .string ByteArray.empty, .string ByteArray.empty, .string ByteArray.empty, .slice none 0 0, .slice none 0 0, .int .i64 0, .slice none 0 0, .slice none 0 0, .int .i64 0, .int .i64 0]], []⟩).heap.toList.drop Tryd.prog.globals.size).take ((begin Tryd.prog (fun _ _ => 0) default).world.heap.size - Tryd.prog.globals.size) = (begin Tryd.prog (fun _ _ => 0) default).world.heap.toList.drop Tryd.prog.globals.size := by kernel_rfl
theorem w_ok (os : Os) : Input.okWideB Tryd.prog ((laidWorld os).forCall (fun _ _ => 0) ⟨#[], #[.agg #[.int .u8 0, .string ByteArray.empty, .string ByteArray.empty, .string ByteArray.empty, .string ByteArray.empty, .slice none 0 0, .slice none 0 0, .int .i64 0, .slice none 0 0, .slice none 0 0, .int .i64 0, .int .i64 0]], []⟩) 7 ⟨#[], #[.agg #[.int .u8 0, .string ByteArray.empty, .string ByteArray.empty, .string ByteArray.empty, .string ByteArray.empty, .slice none 0 0, .slice none 0 0, .int .i64 0, .slice none 0 0, .slice none 0 0, .int .i64 0, .int .i64 0]], []⟩ = true := by kernel_rfl
set_option maxRecDepth 100000 in
set_option maxHeartbeats 4000000 in
theorem lifted (os : Os) (started : os.Started) (H : Type) (enc : TypeId × Value → H) (F : Stop.Interp) :
    ReturnsInHanded {} Tryd.checked os 7 .any ((OpenSpec.ofChange Rows.storeNobodySpec).preRow enc Tryd.prog Tryd.f7 Rows.storeNobodyRow.domain false Rows.storeNobodyRow.laid) (((OpenSpec.ofChange Rows.storeNobodySpec).at F).post enc Tryd.prog Tryd.f7 false true false false) := by
  obtain ⟨places, hx⟩ := reads os enc
  refine returnsInHanded_of_row (C := Tryd.checked) (s := (OpenSpec.ofChange Rows.storeNobodySpec)) own started (by kernel_rfl) Tryd.func7
    (witness_row_at (enc := enc) (C := Tryd.checked) false (laidWorld os) #[.agg #[.int .u8 0, .string ByteArray.empty, .string ByteArray.empty, .string ByteArray.empty, .string ByteArray.empty, .slice none 0 0, .slice none 0 0, .int .i64 0, .slice none 0 0, .slice none 0 0, .int .i64 0, .int .i64 0]] (w_os os) (w_v os) (w_r os) (w_ok os)
      (OpenSpec.preRow_of_cond 8 hx (by kernel_rfl) (fun k hk => by cases hk) (by kernel_rfl) (laid_met os))) ?_
  intro W base args ds gs before hval0 hW _ hk0 hsz0 hL _ _
  have hval : ∀ (j : Nat) t v, Tryd.f7.params[j]? = some t → args[j]? = some v → Value.okWide Tryd.prog W .any base t v := hval0
  have hsz : (DataW.weightsEach Tryd.prog (Tryd.f7.params.toList ++ Rows.storeNobodySpec.plain.varTypes Tryd.prog) (ds ++ gs)).all (· ≤ reachBytes) = true := hsz0
  have hW' : DataW.Whole enc Tryd.prog Tryd.f7.params.toList Rows.storeNobodySpec.vars false W args.toList ds gs before := hW
  have hW2 := hW'
  obtain ⟨p, q, hA0, hV, rfl, hfz, hnd⟩ := hW2
  have hA : DataW.TrodAll enc Tryd.prog W 0 (fun _ => true) true Tryd.f7.params.toList args.toList ds p := hA0
  rw [Tryd.params7] at hA hval hsz
  obtain ⟨v0, vs0, d0, ds0, p0, q0, hargs, rfl, rfl, h0, r0⟩ := trodAll_cons hA
  obtain ⟨rfl, rfl, rfl⟩ := trodAll_nil r0
  obtain rfl : args = #[v0] := by cases args; simp_all
  obtain ⟨rfl, rfl⟩ := trodVars_none hV
  obtain ⟨cs0, rfl, -⟩ := okWide_struct Tryd.underlying37 (hval 0 37 v0 rfl rfl)
  have k0 := h0
  have lt0 : ∀ x ∈ p0, x.block < W.heap.size := by obtain ⟨m, hm⟩ := k0; exact DataW.trod_lt m _ _ _ hm
  obtain ⟨fuel0, hf0⟩ := h0
  obtain ⟨x0, hK0, hw0⟩ := S.opn37 hf0 (weights_of hsz (j := 0) (t := 37) rfl rfl)
  obtain ⟨r0_, e0, hE0⟩ := S.open_act hK0
  obtain rfl : cs0 = #[.int .u8 x0.f0, .string (S.to41 x0.f1).f0.f0, .string (S.to41 x0.f1).f0.f1, .string (S.to41 x0.f1).f0.f2, .string (S.to41 x0.f1).f0.f3, .slice r0_.A4 (S.to41 x0.f1).f0.f4.length r0_.c4, .slice r0_.A5 (S.to41 x0.f1).f0.f5.length r0_.c5, .int .i64 (S.to41 x0.f1).f1.f0, .slice r0_.A7 (S.to41 x0.f1).f1.f1.length r0_.c7, .slice r0_.A8 (S.to41 x0.f1).f1.f2.length r0_.c8, .int .i64 (S.to41 x0.f1).f2, .int .i64 (S.to41 x0.f1).f3] := by cases cs0; simpa [Value.cells] using e0
  clear e0
  clear hA0 hval0 hsz0
  refine (S.nobody_any W x0 r0_ hE0).mono fun e W' ⟨he, bel⟩ => ?_
  subst he
  exact ⟨_, rfl, _, _, _, [], _, [], hW', trodAll_mk1 (shut_bool Tryd.underlying4 _), (trodAll_cons_mk (Below.trod laidOut (by kernel_rfl) (of_decide_eq_true (by kernel_rfl)) k0 bel lt0) trodAll_mk0), rfl, bel.frame _, fun h => by cases h⟩
theorem over : Rows.StoreNobodySaid :=
  OpenClaim.holds_of_cond 7 Tryd.f7 rfl rfl rfl rfl rfl rfl rfl ⟨rfl, rfl, rfl, rfl, rfl⟩ rfl rfl rfl rfl rfl (by kernel_rfl) Tryd.func7 (by kernel_rfl)
    (of_decide_eq_true (by kernel_rfl)) (by unfold Func.isWrapper; first | (rw [if_pos (by decide +kernel)]; kernel_rfl) | (rw [if_neg (by decide +kernel)]; exact ⟨rfl, rfl⟩))
    (fun os started H enc _ F => by rw [OpenClaim.pre_eq_preRow]; exact lifted os started H enc F)
theorem plain (f : FuncId) (fn : Func) (hf : Tryd.pinned.checked.prog.funcNamed "turnbuckle/turnbucklelaw20.StoreNobody" = some f) (hfn : Tryd.pinned.checked.prog.funcs[f]? = some fn) :
    false = Tryd.pinned.checked.prog.looks [] ∧ ∀ (j : Nat) t, fn.params[j]? = some t → Tryd.pinned.checked.prog.wantsStandIn t = false := by
  obtain rfl : f = 7 := Option.some.inj ((show Tryd.prog.funcNamed "turnbuckle/turnbucklelaw20.StoreNobody" = some 7 by kernel_rfl).symm.trans hf) |>.symm
  obtain rfl : fn = Tryd.f7 := (Option.some.inj (Tryd.func7.symm.trans hfn)).symm
  refine ⟨by kernel_rfl, fun j t ht => ?_⟩
  rw [Tryd.params7] at ht
  have ht2 := Array.mem_of_getElem? ht
  simp only [List.mem_toArray, List.mem_cons, List.not_mem_nil, or_false] at ht2
  rcases ht2 with rfl
  · exact (show Tryd.prog.wantsStandIn 37 = false by kernel_rfl)
theorem proved : Rows.StoreNobodyCardSaid :=
  Claim7.holds_tied_plain_at .later [] _ _ _ _ over (fun _ h => by cases h) (by kernel_rfl) (fun _ h => by cases h) storeNobody_row_tie rfl ⟨rfl, rfl⟩ (by kernel_rfl) rfl plain (by kernel_rfl)
end Go.Proofs.YtkbbjjegpjdpeaaDoor.storeNobody
namespace Go.Proofs.YtkbbjjegpjdpeaaDoor
theorem storeNobodyCard_holds : Rows.StoreNobodyCardSaid := storeNobody.proved
#print axioms storeNobodyCard_holds
end Go.Proofs.YtkbbjjegpjdpeaaDoor

