/-
  DERIVED. GIVEN WITH THE SEED: THE CARDS: each row of YtbnhlekehndhkaaGreatDoorRows.lean that lists a variable, with what it lists TIED to the program's text (the seventh form; the later family's looks); each row that meets fmt, with fmt's text TOLD by the authors' own Lean function (tested against real Go, not proved from fmt's source: count such statements apart). THE CARD IS WHAT COUNTS. Prove the row's statement (the work); the ties are given (YtbnhlekehndhkaaGreatDoorTie.lean); close each card by the builder's one call (the guide's Derived/Test/ToyasCard.lean, 'card_holds'). Laid BY PROGRAM, IN A SANDBOX (cutbox-door.mjs). By AI agents, Wed Nov 11 2026. No macro, syntax, notation, axiom, sorry.
-/
import Derived.Test.YtbnhlekehndhkaaGreatDoorRows
import GoSem.ClaimSeven
namespace Go.Proofs.YtbnhlekehndhkaaGreatDoor
namespace Rows

/-- THE TIED CARD OF 'turnbucklelaw19.FreshAges'. -/
def freshAgesCard : Claim7 := { stood := { row := freshAgesRow, standIns := [], harness := (true, "e8518e8ea4c3669036741398b91b894d3e1c0f71d5583254c889e2145e7cff98"), looks := true }, kinds := [], alts := [], laidByText := true, laidKinds := [.data, .data, .data, .data, .sentinel, .sentinel, .listed, .data, .pinned], laidTests := true, laidLooks := .later }
def FreshAgesCardSaid : Prop := Claim7.holds Tryz.pinned (.plain (OpenSpec.ofChange freshAgesSpec)) freshAgesCard

/-- THE TIED CARD OF 'turnbucklelaw19.FreshYoung'. -/
def freshYoungCard : Claim7 := { stood := { row := freshYoungRow, standIns := [], harness := (true, "e8518e8ea4c3669036741398b91b894d3e1c0f71d5583254c889e2145e7cff98"), looks := true }, kinds := [], alts := [], laidByText := true, laidKinds := [.data, .data, .data, .data, .sentinel, .sentinel, .listed, .data, .pinned], laidTests := true, laidLooks := .later }
def FreshYoungCardSaid : Prop := Claim7.holds Tryz.pinned (.plain (OpenSpec.ofChange freshYoungSpec)) freshYoungCard

/-- THE TIED CARD OF 'turnbucklelaw19.FreshKept'. -/
def freshKeptCard : Claim7 := { stood := { row := freshKeptRow, standIns := [], harness := (true, "e8518e8ea4c3669036741398b91b894d3e1c0f71d5583254c889e2145e7cff98"), looks := true }, kinds := [], alts := [], laidByText := true, laidKinds := [.data, .data, .data, .data, .sentinel, .sentinel, .listed, .data, .pinned], laidTests := true, laidLooks := .later }
def FreshKeptCardSaid : Prop := Claim7.holds Tryz.pinned (.plain (OpenSpec.ofChange freshKeptSpec)) freshKeptCard

/-- THE TIED CARD OF 'turnbucklelaw19.FreshNever'. -/
def freshNeverCard : Claim7 := { stood := { row := freshNeverRow, standIns := [], harness := (true, "e8518e8ea4c3669036741398b91b894d3e1c0f71d5583254c889e2145e7cff98"), looks := true }, kinds := [], alts := [], laidByText := true, laidKinds := [.data, .data, .data, .data, .sentinel, .sentinel, .listed, .data, .pinned], laidTests := true, laidLooks := .later }
def FreshNeverCardSaid : Prop := Claim7.holds Tryz.pinned (.plain (OpenSpec.ofChange freshNeverSpec)) freshNeverCard

/-- THE TIED CARD OF 'turnbucklelaw18.PartBytes'. -/
def partBytesCard : Claim7 := { stood := { row := partBytesRow, standIns := [], harness := (true, "e8518e8ea4c3669036741398b91b894d3e1c0f71d5583254c889e2145e7cff98"), looks := true }, kinds := [], alts := [], laidByText := true, laidKinds := [.data, .data, .data, .data, .sentinel, .sentinel, .listed, .data, .pinned], laidTests := true, laidLooks := .later }
def PartBytesCardSaid : Prop := Claim7.holds Tryz.pinned (.plain (OpenSpec.ofChange partBytesSpec)) partBytesCard

/-- THE TIED CARD OF 'turnbucklelaw18.PartPlain'. -/
def partPlainCard : Claim7 := { stood := { row := partPlainRow, standIns := [], harness := (true, "e8518e8ea4c3669036741398b91b894d3e1c0f71d5583254c889e2145e7cff98"), looks := true }, kinds := [], alts := [], laidByText := true, laidKinds := [.data, .data, .data, .data, .sentinel, .sentinel, .listed, .data, .pinned], laidTests := true, laidLooks := .later }
def PartPlainCardSaid : Prop := Claim7.holds Tryz.pinned (.plain (OpenSpec.ofChange partPlainSpec)) partPlainCard

/-- THE TIED CARD OF 'turnbucklelaw18.PartKinds'. -/
def partKindsCard : Claim7 := { stood := { row := partKindsRow, standIns := [], harness := (true, "e8518e8ea4c3669036741398b91b894d3e1c0f71d5583254c889e2145e7cff98"), looks := true }, kinds := [], alts := [], laidByText := true, laidKinds := [.data, .data, .data, .data, .sentinel, .sentinel, .listed, .data, .pinned], laidTests := true, laidLooks := .later }
def PartKindsCardSaid : Prop := Claim7.holds Tryz.pinned (.plain (OpenSpec.ofChange partKindsSpec)) partKindsCard

/-- THE TIED CARD OF 'turnbucklelaw18.PartNewer'. -/
def partNewerCard : Claim7 := { stood := { row := partNewerRow, standIns := [], harness := (true, "e8518e8ea4c3669036741398b91b894d3e1c0f71d5583254c889e2145e7cff98"), looks := true }, kinds := [], alts := [], laidByText := true, laidKinds := [.data, .data, .data, .data, .sentinel, .sentinel, .listed, .data, .pinned], laidTests := true, laidLooks := .later }
def PartNewerCardSaid : Prop := Claim7.holds Tryz.pinned (.plain (OpenSpec.ofChange partNewerSpec)) partNewerCard

/-- THE TIED CARD OF 'turnbucklelaw18.PartTwice'. -/
def partTwiceCard : Claim7 := { stood := { row := partTwiceRow, standIns := [], harness := (true, "e8518e8ea4c3669036741398b91b894d3e1c0f71d5583254c889e2145e7cff98"), looks := true }, kinds := [], alts := [], laidByText := true, laidKinds := [.data, .data, .data, .data, .sentinel, .sentinel, .listed, .data, .pinned], laidTests := true, laidLooks := .later }
def PartTwiceCardSaid : Prop := Claim7.holds Tryz.pinned (.plain (OpenSpec.ofChange partTwiceSpec)) partTwiceCard

/-- THE TIED CARD OF 'turnbucklelaw19.FreshMatches'. -/
def freshMatchesCard : Claim7 := { stood := { row := freshMatchesRow, standIns := [], harness := (true, "e8518e8ea4c3669036741398b91b894d3e1c0f71d5583254c889e2145e7cff98"), looks := true }, kinds := [], alts := [], laidByText := true, laidKinds := [.data, .data, .data, .data, .sentinel, .sentinel, .listed, .data, .pinned], laidTests := true, laidLooks := .later }
def FreshMatchesCardSaid : Prop := Claim7.holds Tryz.pinned (.plain (OpenSpec.ofChange freshMatchesSpec)) freshMatchesCard

/-- THE SECOND FORM's CARD OF 'turnbucklelaw19.FreshAges'. -/
def freshAgesUptoCard : Claim7 := { stood := { row := freshAgesUptoRow, standIns := [], harness := (true, "e8518e8ea4c3669036741398b91b894d3e1c0f71d5583254c889e2145e7cff98"), looks := true }, kinds := [], alts := [], laidByText := true, laidKinds := [.data, .data, .data, .data, .sentinel, .sentinel, .listed, .data, .pinned], laidTests := true, laidLooks := .later }
def FreshAgesUptoCardSaid : Prop := Claim7.holds Tryz.pinned (.plain (OpenSpec.upto freshAgesSpec)) freshAgesUptoCard

/-- THE SECOND FORM's CARD OF 'turnbucklelaw19.FreshYoung'. -/
def freshYoungUptoCard : Claim7 := { stood := { row := freshYoungUptoRow, standIns := [], harness := (true, "e8518e8ea4c3669036741398b91b894d3e1c0f71d5583254c889e2145e7cff98"), looks := true }, kinds := [], alts := [], laidByText := true, laidKinds := [.data, .data, .data, .data, .sentinel, .sentinel, .listed, .data, .pinned], laidTests := true, laidLooks := .later }
def FreshYoungUptoCardSaid : Prop := Claim7.holds Tryz.pinned (.plain (OpenSpec.upto freshYoungSpec)) freshYoungUptoCard

/-- THE SECOND FORM's CARD OF 'turnbucklelaw19.FreshKept'. -/
def freshKeptUptoCard : Claim7 := { stood := { row := freshKeptUptoRow, standIns := [], harness := (true, "e8518e8ea4c3669036741398b91b894d3e1c0f71d5583254c889e2145e7cff98"), looks := true }, kinds := [], alts := [], laidByText := true, laidKinds := [.data, .data, .data, .data, .sentinel, .sentinel, .listed, .data, .pinned], laidTests := true, laidLooks := .later }
def FreshKeptUptoCardSaid : Prop := Claim7.holds Tryz.pinned (.plain (OpenSpec.upto freshKeptSpec)) freshKeptUptoCard

/-- THE SECOND FORM's CARD OF 'turnbucklelaw19.FreshNever'. -/
def freshNeverUptoCard : Claim7 := { stood := { row := freshNeverUptoRow, standIns := [], harness := (true, "e8518e8ea4c3669036741398b91b894d3e1c0f71d5583254c889e2145e7cff98"), looks := true }, kinds := [], alts := [], laidByText := true, laidKinds := [.data, .data, .data, .data, .sentinel, .sentinel, .listed, .data, .pinned], laidTests := true, laidLooks := .later }
def FreshNeverUptoCardSaid : Prop := Claim7.holds Tryz.pinned (.plain (OpenSpec.upto freshNeverSpec)) freshNeverUptoCard

/-- THE SECOND FORM's CARD OF 'turnbucklelaw18.PartBytes'. -/
def partBytesUptoCard : Claim7 := { stood := { row := partBytesUptoRow, standIns := [], harness := (true, "e8518e8ea4c3669036741398b91b894d3e1c0f71d5583254c889e2145e7cff98"), looks := true }, kinds := [], alts := [], laidByText := true, laidKinds := [.data, .data, .data, .data, .sentinel, .sentinel, .listed, .data, .pinned], laidTests := true, laidLooks := .later }
def PartBytesUptoCardSaid : Prop := Claim7.holds Tryz.pinned (.plain (OpenSpec.upto partBytesSpec)) partBytesUptoCard

/-- THE SECOND FORM's CARD OF 'turnbucklelaw18.PartPlain'. -/
def partPlainUptoCard : Claim7 := { stood := { row := partPlainUptoRow, standIns := [], harness := (true, "e8518e8ea4c3669036741398b91b894d3e1c0f71d5583254c889e2145e7cff98"), looks := true }, kinds := [], alts := [], laidByText := true, laidKinds := [.data, .data, .data, .data, .sentinel, .sentinel, .listed, .data, .pinned], laidTests := true, laidLooks := .later }
def PartPlainUptoCardSaid : Prop := Claim7.holds Tryz.pinned (.plain (OpenSpec.upto partPlainSpec)) partPlainUptoCard

/-- THE SECOND FORM's CARD OF 'turnbucklelaw18.PartKinds'. -/
def partKindsUptoCard : Claim7 := { stood := { row := partKindsUptoRow, standIns := [], harness := (true, "e8518e8ea4c3669036741398b91b894d3e1c0f71d5583254c889e2145e7cff98"), looks := true }, kinds := [], alts := [], laidByText := true, laidKinds := [.data, .data, .data, .data, .sentinel, .sentinel, .listed, .data, .pinned], laidTests := true, laidLooks := .later }
def PartKindsUptoCardSaid : Prop := Claim7.holds Tryz.pinned (.plain (OpenSpec.upto partKindsSpec)) partKindsUptoCard

/-- THE SECOND FORM's CARD OF 'turnbucklelaw18.PartNewer'. -/
def partNewerUptoCard : Claim7 := { stood := { row := partNewerUptoRow, standIns := [], harness := (true, "e8518e8ea4c3669036741398b91b894d3e1c0f71d5583254c889e2145e7cff98"), looks := true }, kinds := [], alts := [], laidByText := true, laidKinds := [.data, .data, .data, .data, .sentinel, .sentinel, .listed, .data, .pinned], laidTests := true, laidLooks := .later }
def PartNewerUptoCardSaid : Prop := Claim7.holds Tryz.pinned (.plain (OpenSpec.upto partNewerSpec)) partNewerUptoCard

/-- THE SECOND FORM's CARD OF 'turnbucklelaw18.PartTwice'. -/
def partTwiceUptoCard : Claim7 := { stood := { row := partTwiceUptoRow, standIns := [], harness := (true, "e8518e8ea4c3669036741398b91b894d3e1c0f71d5583254c889e2145e7cff98"), looks := true }, kinds := [], alts := [], laidByText := true, laidKinds := [.data, .data, .data, .data, .sentinel, .sentinel, .listed, .data, .pinned], laidTests := true, laidLooks := .later }
def PartTwiceUptoCardSaid : Prop := Claim7.holds Tryz.pinned (.plain (OpenSpec.upto partTwiceSpec)) partTwiceUptoCard

/-- THE SECOND FORM's CARD OF 'turnbucklelaw19.FreshMatches'. -/
def freshMatchesUptoCard : Claim7 := { stood := { row := freshMatchesUptoRow, standIns := [], harness := (true, "e8518e8ea4c3669036741398b91b894d3e1c0f71d5583254c889e2145e7cff98"), looks := true }, kinds := [], alts := [], laidByText := true, laidKinds := [.data, .data, .data, .data, .sentinel, .sentinel, .listed, .data, .pinned], laidTests := true, laidLooks := .later }
def FreshMatchesUptoCardSaid : Prop := Claim7.holds Tryz.pinned (.plain (OpenSpec.upto freshMatchesSpec)) freshMatchesUptoCard
end Rows
end Go.Proofs.YtbnhlekehndhkaaGreatDoor
