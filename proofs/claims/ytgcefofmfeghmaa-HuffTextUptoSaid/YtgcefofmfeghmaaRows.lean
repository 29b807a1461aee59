/-
  No cell of these rows narrows 'for every input' (looked for: loops, veiled, ifaces, maps, wideKeys, modest, calm, conditions, laid).
  DERIVED. THE GIVEN ROWS OF THIS SEAT. 7 by the template 'for every input the law returns true; each argument reads behind the call as it read before'; 0 by the template 'total and deterministic' (their statements: YtgcefofmfeghmaaTotals.lean).
  GIVEN WITH THE SEED: the statements are not yours to turn. If you find one false, say at which input.
  Laid BY PROGRAM, IN A SANDBOX (cutbox-rows.mjs): the forced cells as the released guide's own fill.sh prints them over the translation bf38c82a65dd46d3… (all of the seat's roots in one cut). By AI agents, Wed Nov 11 2026. No macro, syntax, notation, axiom, sorry.
-/
import Derived.Test.YtgcefofmfeghmaaChecked
import GoSem.Claim
import GoSem.ClaimJoined
import GoSem.ClaimMapViews
import Derived.JoinedTies
import Derived.KernelRfl
namespace Go.Proofs.Ytgcefofmfeghmaa
/- THE CELL 'sum', in the pinned program and in every row, IS THE sha256 OF THE DUMP (.gsa) THAT YtgcefofmfeghmaaProg.lean LOADS. Nothing in Lean hashes anything: it is a label: what it is worth is what the hold of that sum in a sandbox is worth. -/
noncomputable def Try.pinned : Pinned := { name := "ytgcefofmfeghmaa", sum := "bf38c82a65dd46d361ec92aee62b80954f697f60b51d0d7e55b7556a8fd42c5c", checked := Try.checked }
namespace Rows
def none {H : Type} : Left H := { results := [], args := [] }

/-- 'turnbucklelaw12.HuffEncodes': WHATEVER THE INPUT: true; the input reads as it did. -/
def huffEncodesSpec : ChangeSpec := { name := "huffEncodes", fn := fun _ => fun
  | [d1, d2] => { results := [.lit (.bool true)], args := [d1, d2] }
  | _ => none }
def huffEncodesRow : OpenClaim := { program := "ytgcefofmfeghmaa", sum := "bf38c82a65dd46d361ec92aee62b80954f697f60b51d0d7e55b7556a8fd42c5c", func := "turnbuckle/turnbucklelaw12.HuffEncodes", spec := "huffEncodes", inPlace := ["internal/reflectlite.ValueOf", "internal/reflectlite.Swapper", "(internal/reflectlite.Value).Len"], unfollowed := true, recurses := true, plainKeys := false, apart := false }
def HuffEncodesSaid : Prop := huffEncodesRow.holds Try.pinned (OpenSpec.ofChange huffEncodesSpec)

/-- ITS FALSE NEIGHBOUR: 'it returns false'. Refute it at one input. -/
def huffEncodesWrong : ChangeSpec := { name := "huffEncodes", fn := fun _ => fun
  | [d1, d2] => { results := [.lit (.bool false)], args := [d1, d2] }
  | _ => none }
def HuffEncodesWrongFalsely : Prop := huffEncodesRow.holds Try.pinned (OpenSpec.ofChange huffEncodesWrong)

/-- 'turnbucklelaw12.HuffDecodes': WHATEVER THE INPUT: true; the input reads as it did. -/
def huffDecodesSpec : ChangeSpec := { name := "huffDecodes", fn := fun _ => fun
  | [d1, d2] => { results := [.lit (.bool true)], args := [d1, d2] }
  | _ => none }
def huffDecodesRow : OpenClaim := { program := "ytgcefofmfeghmaa", sum := "bf38c82a65dd46d361ec92aee62b80954f697f60b51d0d7e55b7556a8fd42c5c", func := "turnbuckle/turnbucklelaw12.HuffDecodes", spec := "huffDecodes", inPlace := ["internal/reflectlite.ValueOf", "internal/reflectlite.Swapper", "(internal/reflectlite.Value).Len"], unfollowed := true, recurses := true, plainKeys := false, apart := false }
def HuffDecodesSaid : Prop := huffDecodesRow.holds Try.pinned (OpenSpec.ofChange huffDecodesSpec)

/-- ITS FALSE NEIGHBOUR: 'it returns false'. Refute it at one input. -/
def huffDecodesWrong : ChangeSpec := { name := "huffDecodes", fn := fun _ => fun
  | [d1, d2] => { results := [.lit (.bool false)], args := [d1, d2] }
  | _ => none }
def HuffDecodesWrongFalsely : Prop := huffDecodesRow.holds Try.pinned (OpenSpec.ofChange huffDecodesWrong)

/-- 'turnbucklelaw12.HuffBack': WHATEVER THE INPUT: true; the input reads as it did. -/
def huffBackSpec : ChangeSpec := { name := "huffBack", fn := fun _ => fun
  | [d1, d2] => { results := [.lit (.bool true)], args := [d1, d2] }
  | _ => none }
def huffBackRow : OpenClaim := { program := "ytgcefofmfeghmaa", sum := "bf38c82a65dd46d361ec92aee62b80954f697f60b51d0d7e55b7556a8fd42c5c", func := "turnbuckle/turnbucklelaw12.HuffBack", spec := "huffBack", inPlace := ["internal/reflectlite.ValueOf", "internal/reflectlite.Swapper", "(internal/reflectlite.Value).Len"], unfollowed := true, recurses := true, plainKeys := false, apart := false }
def HuffBackSaid : Prop := huffBackRow.holds Try.pinned (OpenSpec.ofChange huffBackSpec)

/-- ITS FALSE NEIGHBOUR: 'it returns false'. Refute it at one input. -/
def huffBackWrong : ChangeSpec := { name := "huffBack", fn := fun _ => fun
  | [d1, d2] => { results := [.lit (.bool false)], args := [d1, d2] }
  | _ => none }
def HuffBackWrongFalsely : Prop := huffBackRow.holds Try.pinned (OpenSpec.ofChange huffBackWrong)

/-- 'turnbucklelaw12.HuffOne': WHATEVER THE INPUT: true; the input reads as it did. -/
def huffOneSpec : ChangeSpec := { name := "huffOne", fn := fun _ => fun
  | [d1, d2] => { results := [.lit (.bool true)], args := [d1, d2] }
  | _ => none }
def huffOneRow : OpenClaim := { program := "ytgcefofmfeghmaa", sum := "bf38c82a65dd46d361ec92aee62b80954f697f60b51d0d7e55b7556a8fd42c5c", func := "turnbuckle/turnbucklelaw12.HuffOne", spec := "huffOne", inPlace := ["internal/reflectlite.ValueOf", "internal/reflectlite.Swapper", "(internal/reflectlite.Value).Len"], unfollowed := true, recurses := true, plainKeys := false, apart := false }
def HuffOneSaid : Prop := huffOneRow.holds Try.pinned (OpenSpec.ofChange huffOneSpec)

/-- ITS FALSE NEIGHBOUR: 'it returns false'. Refute it at one input. -/
def huffOneWrong : ChangeSpec := { name := "huffOne", fn := fun _ => fun
  | [d1, d2] => { results := [.lit (.bool false)], args := [d1, d2] }
  | _ => none }
def HuffOneWrongFalsely : Prop := huffOneRow.holds Try.pinned (OpenSpec.ofChange huffOneWrong)

/-- 'turnbucklelaw12.HuffFree': WHATEVER THE INPUT: true; the input reads as it did. -/
def huffFreeSpec : ChangeSpec := { name := "huffFree", fn := fun _ => fun
  | [d] => { results := [.lit (.bool true)], args := [d] }
  | _ => none }
def huffFreeRow : OpenClaim := { program := "ytgcefofmfeghmaa", sum := "bf38c82a65dd46d361ec92aee62b80954f697f60b51d0d7e55b7556a8fd42c5c", func := "turnbuckle/turnbucklelaw12.HuffFree", spec := "huffFree", inPlace := ["internal/reflectlite.ValueOf", "internal/reflectlite.Swapper", "(internal/reflectlite.Value).Len"], unfollowed := true, recurses := true, plainKeys := false, apart := false }
def HuffFreeSaid : Prop := huffFreeRow.holds Try.pinned (OpenSpec.ofChange huffFreeSpec)

/-- ITS FALSE NEIGHBOUR: 'it returns false'. Refute it at one input. -/
def huffFreeWrong : ChangeSpec := { name := "huffFree", fn := fun _ => fun
  | [d] => { results := [.lit (.bool false)], args := [d] }
  | _ => none }
def HuffFreeWrongFalsely : Prop := huffFreeRow.holds Try.pinned (OpenSpec.ofChange huffFreeWrong)

/-- 'turnbucklelaw12.HuffWords': WHATEVER THE INPUT: true; the input reads as it did. -/
def huffWordsSpec : ChangeSpec := { name := "huffWords", fn := fun _ => fun
  | [d] => { results := [.lit (.bool true)], args := [d] }
  | _ => none }
def huffWordsRow : OpenClaim := { program := "ytgcefofmfeghmaa", sum := "bf38c82a65dd46d361ec92aee62b80954f697f60b51d0d7e55b7556a8fd42c5c", func := "turnbuckle/turnbucklelaw12.HuffWords", spec := "huffWords", inPlace := ["internal/reflectlite.ValueOf", "internal/reflectlite.Swapper", "(internal/reflectlite.Value).Len", "internal/bytealg.IndexByteString"], unfollowed := true, recurses := true, plainKeys := false, apart := false }
def HuffWordsSaid : Prop := huffWordsRow.holds Try.pinned (OpenSpec.ofChange huffWordsSpec)

/-- ITS FALSE NEIGHBOUR: 'it returns false'. Refute it at one input. -/
def huffWordsWrong : ChangeSpec := { name := "huffWords", fn := fun _ => fun
  | [d] => { results := [.lit (.bool false)], args := [d] }
  | _ => none }
def HuffWordsWrongFalsely : Prop := huffWordsRow.holds Try.pinned (OpenSpec.ofChange huffWordsWrong)

/-- 'turnbucklelaw12.HuffText': WHATEVER THE INPUT: true; the input reads as it did. -/
def huffTextSpec : ChangeSpec := { name := "huffText", fn := fun _ => fun
  | [d] => { results := [.lit (.bool true)], args := [d] }
  | _ => none }
def huffTextRow : OpenClaim := { program := "ytgcefofmfeghmaa", sum := "bf38c82a65dd46d361ec92aee62b80954f697f60b51d0d7e55b7556a8fd42c5c", func := "turnbuckle/turnbucklelaw12.HuffText", spec := "huffText", inPlace := ["internal/bytealg.IndexByteString", "internal/reflectlite.ValueOf", "internal/reflectlite.Swapper", "(internal/reflectlite.Value).Len"], unfollowed := true, recurses := true, plainKeys := false, apart := false }
def HuffTextSaid : Prop := huffTextRow.holds Try.pinned (OpenSpec.ofChange huffTextSpec)

/-- ITS FALSE NEIGHBOUR: 'it returns false'. Refute it at one input. -/
def huffTextWrong : ChangeSpec := { name := "huffText", fn := fun _ => fun
  | [d] => { results := [.lit (.bool false)], args := [d] }
  | _ => none }
def HuffTextWrongFalsely : Prop := huffTextRow.holds Try.pinned (OpenSpec.ofChange huffTextWrong)

/- THE SECOND FORM. 'bulk': how many values and letters a reading holds, each counted each time it is reached (what is shared counts as often as it is met; a slice's spare places count too). A statement '..UptoSaid' is the law's where the arguments, and the package variables that the reading takes, are together of bulk at most 1048576: NARROWER than '..Said'. Prove '..Said' where nothing that the law and all that it calls make is longer than what came in: it says more and counts as full. Else prove '..UptoSaid'. A law counts once. -/
mutual
def uptoBulk {H : Type} : DataW H → Nat
  | .lit (.string bytes) => bytes.length + 1
  | .lit _ => 1
  | .nil => 1
  | .ptr d => uptoBulk d + 1
  | .slice elems spare => uptoBulkAll elems + uptoBulkAll spare + 1
  | .agg parts => uptoBulkAll parts + 1
  | .iface _ d => uptoBulk d + 1
  | .map entries => uptoBulkEntries entries + 1
  | .held _ => 1
def uptoBulkAll {H : Type} : List (DataW H) → Nat
  | [] => 0
  | d :: r => uptoBulk d + uptoBulkAll r
def uptoBulkEntries {H : Type} : List (Lit × DataW H) → Nat
  | [] => 0
  | x :: r => uptoBulkEntry x + uptoBulkEntries r
def uptoBulkEntry {H : Type} : Lit × DataW H → Nat
  | (.string bytes, d) => bytes.length + uptoBulk d + 1
  | (_, d) => uptoBulk d + 1
 end
def uptoSmall : (H : Type) → List (DataW H) → Bool := fun _ ds => decide (uptoBulkAll ds ≤ 1048576)
def OpenSpec.upto (s : _root_.Go.ChangeSpec) : _root_.Go.OpenSpec := { _root_.Go.OpenSpec.ofChange s with cond := some uptoSmall }

/-- 'turnbucklelaw12.HuffEncodes', WHERE WHAT IT READS IS OF BULK AT MOST 1048576: true; the input reads as it did. -/
def huffEncodesUptoRow : OpenClaim := { program := "ytgcefofmfeghmaa", sum := "bf38c82a65dd46d361ec92aee62b80954f697f60b51d0d7e55b7556a8fd42c5c", func := "turnbuckle/turnbucklelaw12.HuffEncodes", spec := "huffEncodes", inPlace := ["internal/reflectlite.ValueOf", "internal/reflectlite.Swapper", "(internal/reflectlite.Value).Len"], unfollowed := true, recurses := true, plainKeys := false, apart := false, narrowed := true }
def HuffEncodesUptoSaid : Prop := huffEncodesUptoRow.holds Try.pinned (OpenSpec.upto huffEncodesSpec)

/-- 'turnbucklelaw12.HuffDecodes', WHERE WHAT IT READS IS OF BULK AT MOST 1048576: true; the input reads as it did. -/
def huffDecodesUptoRow : OpenClaim := { program := "ytgcefofmfeghmaa", sum := "bf38c82a65dd46d361ec92aee62b80954f697f60b51d0d7e55b7556a8fd42c5c", func := "turnbuckle/turnbucklelaw12.HuffDecodes", spec := "huffDecodes", inPlace := ["internal/reflectlite.ValueOf", "internal/reflectlite.Swapper", "(internal/reflectlite.Value).Len"], unfollowed := true, recurses := true, plainKeys := false, apart := false, narrowed := true }
def HuffDecodesUptoSaid : Prop := huffDecodesUptoRow.holds Try.pinned (OpenSpec.upto huffDecodesSpec)

/-- 'turnbucklelaw12.HuffBack', WHERE WHAT IT READS IS OF BULK AT MOST 1048576: true; the input reads as it did. -/
def huffBackUptoRow : OpenClaim := { program := "ytgcefofmfeghmaa", sum := "bf38c82a65dd46d361ec92aee62b80954f697f60b51d0d7e55b7556a8fd42c5c", func := "turnbuckle/turnbucklelaw12.HuffBack", spec := "huffBack", inPlace := ["internal/reflectlite.ValueOf", "internal/reflectlite.Swapper", "(internal/reflectlite.Value).Len"], unfollowed := true, recurses := true, plainKeys := false, apart := false, narrowed := true }
def HuffBackUptoSaid : Prop := huffBackUptoRow.holds Try.pinned (OpenSpec.upto huffBackSpec)

/-- 'turnbucklelaw12.HuffOne', WHERE WHAT IT READS IS OF BULK AT MOST 1048576: true; the input reads as it did. -/
def huffOneUptoRow : OpenClaim := { program := "ytgcefofmfeghmaa", sum := "bf38c82a65dd46d361ec92aee62b80954f697f60b51d0d7e55b7556a8fd42c5c", func := "turnbuckle/turnbucklelaw12.HuffOne", spec := "huffOne", inPlace := ["internal/reflectlite.ValueOf", "internal/reflectlite.Swapper", "(internal/reflectlite.Value).Len"], unfollowed := true, recurses := true, plainKeys := false, apart := false, narrowed := true }
def HuffOneUptoSaid : Prop := huffOneUptoRow.holds Try.pinned (OpenSpec.upto huffOneSpec)

/-- 'turnbucklelaw12.HuffFree', WHERE WHAT IT READS IS OF BULK AT MOST 1048576: true; the input reads as it did. -/
def huffFreeUptoRow : OpenClaim := { program := "ytgcefofmfeghmaa", sum := "bf38c82a65dd46d361ec92aee62b80954f697f60b51d0d7e55b7556a8fd42c5c", func := "turnbuckle/turnbucklelaw12.HuffFree", spec := "huffFree", inPlace := ["internal/reflectlite.ValueOf", "internal/reflectlite.Swapper", "(internal/reflectlite.Value).Len"], unfollowed := true, recurses := true, plainKeys := false, apart := false, narrowed := true }
def HuffFreeUptoSaid : Prop := huffFreeUptoRow.holds Try.pinned (OpenSpec.upto huffFreeSpec)

/-- 'turnbucklelaw12.HuffWords', WHERE WHAT IT READS IS OF BULK AT MOST 1048576: true; the input reads as it did. -/
def huffWordsUptoRow : OpenClaim := { program := "ytgcefofmfeghmaa", sum := "bf38c82a65dd46d361ec92aee62b80954f697f60b51d0d7e55b7556a8fd42c5c", func := "turnbuckle/turnbucklelaw12.HuffWords", spec := "huffWords", inPlace := ["internal/reflectlite.ValueOf", "internal/reflectlite.Swapper", "(internal/reflectlite.Value).Len", "internal/bytealg.IndexByteString"], unfollowed := true, recurses := true, plainKeys := false, apart := false, narrowed := true }
def HuffWordsUptoSaid : Prop := huffWordsUptoRow.holds Try.pinned (OpenSpec.upto huffWordsSpec)

/-- 'turnbucklelaw12.HuffText', WHERE WHAT IT READS IS OF BULK AT MOST 1048576: true; the input reads as it did. -/
def huffTextUptoRow : OpenClaim := { program := "ytgcefofmfeghmaa", sum := "bf38c82a65dd46d361ec92aee62b80954f697f60b51d0d7e55b7556a8fd42c5c", func := "turnbuckle/turnbucklelaw12.HuffText", spec := "huffText", inPlace := ["internal/bytealg.IndexByteString", "internal/reflectlite.ValueOf", "internal/reflectlite.Swapper", "(internal/reflectlite.Value).Len"], unfollowed := true, recurses := true, plainKeys := false, apart := false, narrowed := true }
def HuffTextUptoSaid : Prop := huffTextUptoRow.holds Try.pinned (OpenSpec.upto huffTextSpec)

end Rows
end Go.Proofs.Ytgcefofmfeghmaa
