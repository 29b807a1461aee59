/-
  DERIVED. GIVEN WITH THE SEED: THE CARDS: each row of YtipmnfidkoaojaaDoorRows.lean that lists a variable, with what it lists TIED to the program's text (the seventh form; the later family's looks); each row that meets fmt, with fmt's text TOLD by the authors' own Lean function (tested against real Go, not proved from fmt's source: count such statements apart). THE CARD IS WHAT COUNTS. Prove the row's statement (the work); the ties are given (YtipmnfidkoaojaaDoorTie.lean); close each card by the builder's one call (the guide's Derived/Test/ToyasCard.lean, 'card_holds'). Laid BY PROGRAM, IN A SANDBOX (cutbox-door.mjs). By AI agents, Wed Nov 11 2026. No macro, syntax, notation, axiom, sorry.
-/
import Derived.Test.YtipmnfidkoaojaaDoorRows
import GoSem.ClaimSeven
namespace Go.Proofs.YtipmnfidkoaojaaDoor
namespace Rows

/-- THE TIED CARD OF 'turnbucklelaw17.FieldJoins'. -/
def fieldJoinsCard : Claim7 := { stood := { row := fieldJoinsRow, standIns := [], harness := (true, "1b21e18800466749d8cff117143f3f5020fd65957cb4931c01b4b12e8a5d8128"), looks := true }, kinds := [], alts := [], laidByText := true, laidKinds := [.data, .data, .data, .data, .sentinel, .sentinel, .pinned], laidTests := true, laidLooks := .later }
def FieldJoinsCardSaid : Prop := Claim7.holds Tryd.pinned (.plain (OpenSpec.ofChange fieldJoinsSpec)) fieldJoinsCard

/-- THE TIED CARD OF 'turnbucklelaw17.FieldWithin'. -/
def fieldWithinCard : Claim7 := { stood := { row := fieldWithinRow, standIns := [], harness := (true, "1b21e18800466749d8cff117143f3f5020fd65957cb4931c01b4b12e8a5d8128"), looks := true }, kinds := [], alts := [], laidByText := true, laidKinds := [.data, .data, .data, .data, .sentinel, .sentinel, .pinned], laidTests := true, laidLooks := .later }
def FieldWithinCardSaid : Prop := Claim7.holds Tryd.pinned (.plain (OpenSpec.ofChange fieldWithinSpec)) fieldWithinCard

/-- THE TIED CARD OF 'turnbucklelaw17.FieldMatches'. -/
def fieldMatchesCard : Claim7 := { stood := { row := fieldMatchesRow, standIns := [], harness := (true, "1b21e18800466749d8cff117143f3f5020fd65957cb4931c01b4b12e8a5d8128"), looks := true }, kinds := [], alts := [], laidByText := true, laidKinds := [.data, .data, .data, .data, .sentinel, .sentinel, .pinned], laidTests := true, laidLooks := .later }
def FieldMatchesCardSaid : Prop := Claim7.holds Tryd.pinned (.plain (OpenSpec.ofChange fieldMatchesSpec)) fieldMatchesCard

/-- THE SECOND FORM's CARD OF 'turnbucklelaw17.FieldJoins'. -/
def fieldJoinsUptoCard : Claim7 := { stood := { row := fieldJoinsUptoRow, standIns := [], harness := (true, "1b21e18800466749d8cff117143f3f5020fd65957cb4931c01b4b12e8a5d8128"), looks := true }, kinds := [], alts := [], laidByText := true, laidKinds := [.data, .data, .data, .data, .sentinel, .sentinel, .pinned], laidTests := true, laidLooks := .later }
def FieldJoinsUptoCardSaid : Prop := Claim7.holds Tryd.pinned (.plain (OpenSpec.upto fieldJoinsSpec)) fieldJoinsUptoCard

/-- THE SECOND FORM's CARD OF 'turnbucklelaw17.FieldWithin'. -/
def fieldWithinUptoCard : Claim7 := { stood := { row := fieldWithinUptoRow, standIns := [], harness := (true, "1b21e18800466749d8cff117143f3f5020fd65957cb4931c01b4b12e8a5d8128"), looks := true }, kinds := [], alts := [], laidByText := true, laidKinds := [.data, .data, .data, .data, .sentinel, .sentinel, .pinned], laidTests := true, laidLooks := .later }
def FieldWithinUptoCardSaid : Prop := Claim7.holds Tryd.pinned (.plain (OpenSpec.upto fieldWithinSpec)) fieldWithinUptoCard

/-- THE SECOND FORM's CARD OF 'turnbucklelaw17.FieldMatches'. -/
def fieldMatchesUptoCard : Claim7 := { stood := { row := fieldMatchesUptoRow, standIns := [], harness := (true, "1b21e18800466749d8cff117143f3f5020fd65957cb4931c01b4b12e8a5d8128"), looks := true }, kinds := [], alts := [], laidByText := true, laidKinds := [.data, .data, .data, .data, .sentinel, .sentinel, .pinned], laidTests := true, laidLooks := .later }
def FieldMatchesUptoCardSaid : Prop := Claim7.holds Tryd.pinned (.plain (OpenSpec.upto fieldMatchesSpec)) fieldMatchesUptoCard
end Rows
end Go.Proofs.YtipmnfidkoaojaaDoor
