/-
  No cell of these rows narrows 'for every input' (looked for: loops, veiled, ifaces, maps, wideKeys, modest, calm, conditions, laid).
  DERIVED. THE GIVEN ROWS OF THIS SEAT. 6 by the template 'for every input the law returns true; each argument reads behind the call as it read before'; 0 by the template 'total and deterministic' (their statements: YtakdfjehjnhikaaTotals.lean).
  GIVEN WITH THE SEED: the statements are not yours to turn. If you find one false, say at which input.
  Laid BY PROGRAM, IN A SANDBOX (cutbox-rows.mjs): the forced cells as the released guide's own fill.sh prints them over the translation 34faf75d1eae167e… (all of the seat's roots in one cut). By AI agents, Wed Nov 11 2026. No macro, syntax, notation, axiom, sorry.
-/
import Derived.Test.YtakdfjehjnhikaaChecked
import GoSem.Claim
import GoSem.ClaimJoined
import GoSem.ClaimMapViews
import Derived.JoinedTies
import Derived.KernelRfl
namespace Go.Proofs.Ytakdfjehjnhikaa
/- THE CELL 'sum', in the pinned program and in every row, IS THE sha256 OF THE DUMP (.gsa) THAT YtakdfjehjnhikaaProg.lean LOADS. Nothing in Lean hashes anything: it is a label: what it is worth is what the hold of that sum in a sandbox is worth. -/
noncomputable def Try.pinned : Pinned := { name := "ytakdfjehjnhikaa", sum := "34faf75d1eae167ef7d8d7ad60b4fbf2c65e1edc00c848265c9cde7f7a151eae", checked := Try.checked }
namespace Rows
def none {H : Type} : Left H := { results := [], args := [] }

/-- 'turnbucklelaw13.QtabBounds': WHATEVER THE INPUT: true; the input reads as it did. -/
def qtabBoundsSpec : ChangeSpec := { name := "qtabBounds", fn := fun _ => fun
  | [d1, d2] => { results := [.lit (.bool true)], args := [d1, d2] }
  | _ => none }
def qtabBoundsRow : OpenClaim := { program := "ytakdfjehjnhikaa", sum := "34faf75d1eae167ef7d8d7ad60b4fbf2c65e1edc00c848265c9cde7f7a151eae", func := "turnbuckle/turnbucklelaw13.QtabBounds", spec := "qtabBounds", apart := false }
def QtabBoundsSaid : Prop := qtabBoundsRow.holds Try.pinned (OpenSpec.ofChange qtabBoundsSpec)

/-- ITS FALSE NEIGHBOUR: 'it returns false'. Refute it at one input. -/
def qtabBoundsWrong : ChangeSpec := { name := "qtabBounds", fn := fun _ => fun
  | [d1, d2] => { results := [.lit (.bool false)], args := [d1, d2] }
  | _ => none }
def QtabBoundsWrongFalsely : Prop := qtabBoundsRow.holds Try.pinned (OpenSpec.ofChange qtabBoundsWrong)

/-- 'turnbucklelaw13.QtabOrder': WHATEVER THE INPUT: true; the input reads as it did. -/
def qtabOrderSpec : ChangeSpec := { name := "qtabOrder", fn := fun _ => fun
  | [d1, d2] => { results := [.lit (.bool true)], args := [d1, d2] }
  | _ => none }
def qtabOrderRow : OpenClaim := { program := "ytakdfjehjnhikaa", sum := "34faf75d1eae167ef7d8d7ad60b4fbf2c65e1edc00c848265c9cde7f7a151eae", func := "turnbuckle/turnbucklelaw13.QtabOrder", spec := "qtabOrder", apart := false }
def QtabOrderSaid : Prop := qtabOrderRow.holds Try.pinned (OpenSpec.ofChange qtabOrderSpec)

/-- ITS FALSE NEIGHBOUR: 'it returns false'. Refute it at one input. -/
def qtabOrderWrong : ChangeSpec := { name := "qtabOrder", fn := fun _ => fun
  | [d1, d2] => { results := [.lit (.bool false)], args := [d1, d2] }
  | _ => none }
def QtabOrderWrongFalsely : Prop := qtabOrderRow.holds Try.pinned (OpenSpec.ofChange qtabOrderWrong)

/-- 'turnbucklelaw13.QtabFixed': WHATEVER THE INPUT: true; the input reads as it did. -/
def qtabFixedSpec : ChangeSpec := { name := "qtabFixed", fn := fun _ => fun
  | [d1, d2] => { results := [.lit (.bool true)], args := [d1, d2] }
  | _ => none }
def qtabFixedRow : OpenClaim := { program := "ytakdfjehjnhikaa", sum := "34faf75d1eae167ef7d8d7ad60b4fbf2c65e1edc00c848265c9cde7f7a151eae", func := "turnbuckle/turnbucklelaw13.QtabFixed", spec := "qtabFixed", unfollowed := true, recurses := true, apart := false }
def QtabFixedSaid : Prop := qtabFixedRow.holds Try.pinned (OpenSpec.ofChange qtabFixedSpec)

/-- ITS FALSE NEIGHBOUR: 'it returns false'. Refute it at one input. -/
def qtabFixedWrong : ChangeSpec := { name := "qtabFixed", fn := fun _ => fun
  | [d1, d2] => { results := [.lit (.bool false)], args := [d1, d2] }
  | _ => none }
def QtabFixedWrongFalsely : Prop := qtabFixedRow.holds Try.pinned (OpenSpec.ofChange qtabFixedWrong)

/-- 'turnbucklelaw13.QtabLast': WHATEVER THE INPUT: true; the input reads as it did. -/
def qtabLastSpec : ChangeSpec := { name := "qtabLast", fn := fun _ => fun
  | [d1, d2] => { results := [.lit (.bool true)], args := [d1, d2] }
  | _ => none }
def qtabLastRow : OpenClaim := { program := "ytakdfjehjnhikaa", sum := "34faf75d1eae167ef7d8d7ad60b4fbf2c65e1edc00c848265c9cde7f7a151eae", func := "turnbuckle/turnbucklelaw13.QtabLast", spec := "qtabLast", unfollowed := true, recurses := true, apart := false }
def QtabLastSaid : Prop := qtabLastRow.holds Try.pinned (OpenSpec.ofChange qtabLastSpec)

/-- ITS FALSE NEIGHBOUR: 'it returns false'. Refute it at one input. -/
def qtabLastWrong : ChangeSpec := { name := "qtabLast", fn := fun _ => fun
  | [d1, d2] => { results := [.lit (.bool false)], args := [d1, d2] }
  | _ => none }
def QtabLastWrongFalsely : Prop := qtabLastRow.holds Try.pinned (OpenSpec.ofChange qtabLastWrong)

/-- 'turnbucklelaw13.QtabPlays': WHATEVER THE INPUT: true; the input reads as it did. -/
def qtabPlaysSpec : ChangeSpec := { name := "qtabPlays", fn := fun _ => fun
  | [d1, d2] => { results := [.lit (.bool true)], args := [d1, d2] }
  | _ => none }
def qtabPlaysRow : OpenClaim := { program := "ytakdfjehjnhikaa", sum := "34faf75d1eae167ef7d8d7ad60b4fbf2c65e1edc00c848265c9cde7f7a151eae", func := "turnbuckle/turnbucklelaw13.QtabPlays", spec := "qtabPlays", unfollowed := true, recurses := true, apart := false }
def QtabPlaysSaid : Prop := qtabPlaysRow.holds Try.pinned (OpenSpec.ofChange qtabPlaysSpec)

/-- ITS FALSE NEIGHBOUR: 'it returns false'. Refute it at one input. -/
def qtabPlaysWrong : ChangeSpec := { name := "qtabPlays", fn := fun _ => fun
  | [d1, d2] => { results := [.lit (.bool false)], args := [d1, d2] }
  | _ => none }
def QtabPlaysWrongFalsely : Prop := qtabPlaysRow.holds Try.pinned (OpenSpec.ofChange qtabPlaysWrong)

/-- 'turnbucklelaw13.QtabNobody': WHATEVER THE INPUT: true; the input reads as it did. -/
def qtabNobodySpec : ChangeSpec := { name := "qtabNobody", fn := fun _ => fun
  | [d] => { results := [.lit (.bool true)], args := [d] }
  | _ => none }
def qtabNobodyRow : OpenClaim := { program := "ytakdfjehjnhikaa", sum := "34faf75d1eae167ef7d8d7ad60b4fbf2c65e1edc00c848265c9cde7f7a151eae", func := "turnbuckle/turnbucklelaw13.QtabNobody", spec := "qtabNobody", unfollowed := true, recurses := true, apart := false }
def QtabNobodySaid : Prop := qtabNobodyRow.holds Try.pinned (OpenSpec.ofChange qtabNobodySpec)

/-- ITS FALSE NEIGHBOUR: 'it returns false'. Refute it at one input. -/
def qtabNobodyWrong : ChangeSpec := { name := "qtabNobody", fn := fun _ => fun
  | [d] => { results := [.lit (.bool false)], args := [d] }
  | _ => none }
def QtabNobodyWrongFalsely : Prop := qtabNobodyRow.holds Try.pinned (OpenSpec.ofChange qtabNobodyWrong)

/- THE SECOND FORM. 'bulk': how many values and letters a reading holds, each counted each time it is reached (what is shared counts as often as it is met; a slice's spare places count too). A statement '..UptoSaid' is the law's where the arguments, and the package variables that the reading takes, are together of bulk at most 1048576: NARROWER than '..Said'. Prove '..Said' where nothing that the law and all that it calls make is longer than what came in: it says more and counts as full. Else prove '..UptoSaid'. A law counts once. -/
mutual
def uptoBulk {H : Type} : DataW H → Nat
  | .lit (.string bytes) => bytes.length + 1
  | .lit _ => 1
  | .nil => 1
  | .ptr d => uptoBulk d + 1
  | .slice elems spare => uptoBulkAll elems + uptoBulkAll spare + 1
  | .agg parts => uptoBulkAll parts + 1
  | .iface _ d => uptoBulk d + 1
  | .map entries => uptoBulkEntries entries + 1
  | .held _ => 1
def uptoBulkAll {H : Type} : List (DataW H) → Nat
  | [] => 0
  | d :: r => uptoBulk d + uptoBulkAll r
def uptoBulkEntries {H : Type} : List (Lit × DataW H) → Nat
  | [] => 0
  | x :: r => uptoBulkEntry x + uptoBulkEntries r
def uptoBulkEntry {H : Type} : Lit × DataW H → Nat
  | (.string bytes, d) => bytes.length + uptoBulk d + 1
  | (_, d) => uptoBulk d + 1
 end
def uptoSmall : (H : Type) → List (DataW H) → Bool := fun _ ds => decide (uptoBulkAll ds ≤ 1048576)
def OpenSpec.upto (s : _root_.Go.ChangeSpec) : _root_.Go.OpenSpec := { _root_.Go.OpenSpec.ofChange s with cond := some uptoSmall }

/-- 'turnbucklelaw13.QtabBounds', WHERE WHAT IT READS IS OF BULK AT MOST 1048576: true; the input reads as it did. -/
def qtabBoundsUptoRow : OpenClaim := { program := "ytakdfjehjnhikaa", sum := "34faf75d1eae167ef7d8d7ad60b4fbf2c65e1edc00c848265c9cde7f7a151eae", func := "turnbuckle/turnbucklelaw13.QtabBounds", spec := "qtabBounds", apart := false, narrowed := true }
def QtabBoundsUptoSaid : Prop := qtabBoundsUptoRow.holds Try.pinned (OpenSpec.upto qtabBoundsSpec)

/-- 'turnbucklelaw13.QtabOrder', WHERE WHAT IT READS IS OF BULK AT MOST 1048576: true; the input reads as it did. -/
def qtabOrderUptoRow : OpenClaim := { program := "ytakdfjehjnhikaa", sum := "34faf75d1eae167ef7d8d7ad60b4fbf2c65e1edc00c848265c9cde7f7a151eae", func := "turnbuckle/turnbucklelaw13.QtabOrder", spec := "qtabOrder", apart := false, narrowed := true }
def QtabOrderUptoSaid : Prop := qtabOrderUptoRow.holds Try.pinned (OpenSpec.upto qtabOrderSpec)

/-- 'turnbucklelaw13.QtabFixed', WHERE WHAT IT READS IS OF BULK AT MOST 1048576: true; the input reads as it did. -/
def qtabFixedUptoRow : OpenClaim := { program := "ytakdfjehjnhikaa", sum := "34faf75d1eae167ef7d8d7ad60b4fbf2c65e1edc00c848265c9cde7f7a151eae", func := "turnbuckle/turnbucklelaw13.QtabFixed", spec := "qtabFixed", unfollowed := true, recurses := true, apart := false, narrowed := true }
def QtabFixedUptoSaid : Prop := qtabFixedUptoRow.holds Try.pinned (OpenSpec.upto qtabFixedSpec)

/-- 'turnbucklelaw13.QtabLast', WHERE WHAT IT READS IS OF BULK AT MOST 1048576: true; the input reads as it did. -/
def qtabLastUptoRow : OpenClaim := { program := "ytakdfjehjnhikaa", sum := "34faf75d1eae167ef7d8d7ad60b4fbf2c65e1edc00c848265c9cde7f7a151eae", func := "turnbuckle/turnbucklelaw13.QtabLast", spec := "qtabLast", unfollowed := true, recurses := true, apart := false, narrowed := true }
def QtabLastUptoSaid : Prop := qtabLastUptoRow.holds Try.pinned (OpenSpec.upto qtabLastSpec)

/-- 'turnbucklelaw13.QtabPlays', WHERE WHAT IT READS IS OF BULK AT MOST 1048576: true; the input reads as it did. -/
def qtabPlaysUptoRow : OpenClaim := { program := "ytakdfjehjnhikaa", sum := "34faf75d1eae167ef7d8d7ad60b4fbf2c65e1edc00c848265c9cde7f7a151eae", func := "turnbuckle/turnbucklelaw13.QtabPlays", spec := "qtabPlays", unfollowed := true, recurses := true, apart := false, narrowed := true }
def QtabPlaysUptoSaid : Prop := qtabPlaysUptoRow.holds Try.pinned (OpenSpec.upto qtabPlaysSpec)

/-- 'turnbucklelaw13.QtabNobody', WHERE WHAT IT READS IS OF BULK AT MOST 1048576: true; the input reads as it did. -/
def qtabNobodyUptoRow : OpenClaim := { program := "ytakdfjehjnhikaa", sum := "34faf75d1eae167ef7d8d7ad60b4fbf2c65e1edc00c848265c9cde7f7a151eae", func := "turnbuckle/turnbucklelaw13.QtabNobody", spec := "qtabNobody", unfollowed := true, recurses := true, apart := false, narrowed := true }
def QtabNobodyUptoSaid : Prop := qtabNobodyUptoRow.holds Try.pinned (OpenSpec.upto qtabNobodySpec)

end Rows
end Go.Proofs.Ytakdfjehjnhikaa
