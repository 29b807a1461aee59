/-
  DERIVED. GIVEN WITH THE SEED: THE CARDS: each row of YtmmommcgjafbbaaDoorRows.lean that lists a variable, with what it lists TIED to the program's text (the seventh form; the later family's looks); each row that meets fmt, with fmt's text TOLD by the authors' own Lean function (tested against real Go, not proved from fmt's source: count such statements apart). THE CARD IS WHAT COUNTS. Prove the row's statement (the work); the ties are given (YtmmommcgjafbbaaDoorTie.lean); close each card by the builder's one call (the guide's Derived/Test/ToyasCard.lean, 'card_holds'). Laid BY PROGRAM, IN A SANDBOX (cutbox-door.mjs). By AI agents, Wed Nov 11 2026. No macro, syntax, notation, axiom, sorry.
-/
import Derived.Test.YtmmommcgjafbbaaDoorRows
import GoSem.ClaimSeven
namespace Go.Proofs.YtmmommcgjafbbaaDoor
namespace Rows

/-- THE TIED CARD OF 'turnbucklelaw16.DateNumbers'. -/
def dateNumbersCard : Claim7 := { stood := { row := dateNumbersRow, standIns := [], harness := (true, "e3380ce25abac2d2da98f4400bd12815d7c0c8ce43706812b97da519a4ae5492"), looks := true }, kinds := [], alts := [], laidByText := true, laidKinds := [.data, .data, .data, .data, .sentinel, .sentinel, .listed, .data, .pinned], laidTests := true, laidLooks := .later }
def DateNumbersCardSaid : Prop := Claim7.holds Tryd.pinned (.plain (OpenSpec.ofChange dateNumbersSpec)) dateNumbersCard

/-- THE TIED CARD OF 'turnbucklelaw16.DateTexts'. -/
def dateTextsCard : Claim7 := { stood := { row := dateTextsRow, standIns := [], harness := (true, "e3380ce25abac2d2da98f4400bd12815d7c0c8ce43706812b97da519a4ae5492"), looks := true }, kinds := [], alts := [], laidByText := true, laidKinds := [.data, .data, .data, .data, .sentinel, .sentinel, .listed, .data, .pinned], laidTests := true, laidLooks := .later }
def DateTextsCardSaid : Prop := Claim7.holds Tryd.pinned (.plain (OpenSpec.ofChange dateTextsSpec)) dateTextsCard

/-- THE TIED CARD OF 'turnbucklelaw16.DateBack'. -/
def dateBackCard : Claim7 := { stood := { row := dateBackRow, standIns := [], harness := (true, "e3380ce25abac2d2da98f4400bd12815d7c0c8ce43706812b97da519a4ae5492"), looks := true }, kinds := [], alts := [], laidByText := true, laidKinds := [.data, .data, .data, .data, .sentinel, .sentinel, .listed, .data, .pinned], laidTests := true, laidLooks := .later }
def DateBackCardSaid : Prop := Claim7.holds Tryd.pinned (.plain (OpenSpec.ofChange dateBackSpec)) dateBackCard

/-- THE TIED CARD OF 'turnbucklelaw16.DateDays'. -/
def dateDaysCard : Claim7 := { stood := { row := dateDaysRow, standIns := [], harness := (true, "e3380ce25abac2d2da98f4400bd12815d7c0c8ce43706812b97da519a4ae5492"), looks := true }, kinds := [], alts := [], laidByText := true, laidKinds := [.data, .data, .data, .data, .sentinel, .sentinel, .listed, .data, .pinned], laidTests := true, laidLooks := .later }
def DateDaysCardSaid : Prop := Claim7.holds Tryd.pinned (.plain (OpenSpec.ofChange dateDaysSpec)) dateDaysCard

/-- THE TIED CARD OF 'turnbucklelaw16.DateTold'. -/
def dateToldCard : Claim7 := { stood := { row := dateToldRow, standIns := [], harness := (true, "e3380ce25abac2d2da98f4400bd12815d7c0c8ce43706812b97da519a4ae5492"), looks := true }, kinds := [], alts := [], laidByText := true, laidKinds := [.data, .data, .data, .data, .sentinel, .sentinel, .listed, .data, .pinned], laidTests := true, laidLooks := .later }
def DateToldCardSaid : Prop := Claim7.holds Tryd.pinned (.plain (OpenSpec.ofChange dateToldSpec)) dateToldCard

/-- THE TIED CARD OF 'turnbucklelaw16.DateOrder'. -/
def dateOrderCard : Claim7 := { stood := { row := dateOrderRow, standIns := [], harness := (true, "e3380ce25abac2d2da98f4400bd12815d7c0c8ce43706812b97da519a4ae5492"), looks := true }, kinds := [], alts := [], laidByText := true, laidKinds := [.data, .data, .data, .data, .sentinel, .sentinel, .listed, .data, .pinned], laidTests := true, laidLooks := .later }
def DateOrderCardSaid : Prop := Claim7.holds Tryd.pinned (.plain (OpenSpec.ofChange dateOrderSpec)) dateOrderCard

/-- THE SECOND FORM's CARD OF 'turnbucklelaw16.DateNumbers'. -/
def dateNumbersUptoCard : Claim7 := { stood := { row := dateNumbersUptoRow, standIns := [], harness := (true, "e3380ce25abac2d2da98f4400bd12815d7c0c8ce43706812b97da519a4ae5492"), looks := true }, kinds := [], alts := [], laidByText := true, laidKinds := [.data, .data, .data, .data, .sentinel, .sentinel, .listed, .data, .pinned], laidTests := true, laidLooks := .later }
def DateNumbersUptoCardSaid : Prop := Claim7.holds Tryd.pinned (.plain (OpenSpec.upto dateNumbersSpec)) dateNumbersUptoCard

/-- THE SECOND FORM's CARD OF 'turnbucklelaw16.DateTexts'. -/
def dateTextsUptoCard : Claim7 := { stood := { row := dateTextsUptoRow, standIns := [], harness := (true, "e3380ce25abac2d2da98f4400bd12815d7c0c8ce43706812b97da519a4ae5492"), looks := true }, kinds := [], alts := [], laidByText := true, laidKinds := [.data, .data, .data, .data, .sentinel, .sentinel, .listed, .data, .pinned], laidTests := true, laidLooks := .later }
def DateTextsUptoCardSaid : Prop := Claim7.holds Tryd.pinned (.plain (OpenSpec.upto dateTextsSpec)) dateTextsUptoCard

/-- THE SECOND FORM's CARD OF 'turnbucklelaw16.DateBack'. -/
def dateBackUptoCard : Claim7 := { stood := { row := dateBackUptoRow, standIns := [], harness := (true, "e3380ce25abac2d2da98f4400bd12815d7c0c8ce43706812b97da519a4ae5492"), looks := true }, kinds := [], alts := [], laidByText := true, laidKinds := [.data, .data, .data, .data, .sentinel, .sentinel, .listed, .data, .pinned], laidTests := true, laidLooks := .later }
def DateBackUptoCardSaid : Prop := Claim7.holds Tryd.pinned (.plain (OpenSpec.upto dateBackSpec)) dateBackUptoCard

/-- THE SECOND FORM's CARD OF 'turnbucklelaw16.DateDays'. -/
def dateDaysUptoCard : Claim7 := { stood := { row := dateDaysUptoRow, standIns := [], harness := (true, "e3380ce25abac2d2da98f4400bd12815d7c0c8ce43706812b97da519a4ae5492"), looks := true }, kinds := [], alts := [], laidByText := true, laidKinds := [.data, .data, .data, .data, .sentinel, .sentinel, .listed, .data, .pinned], laidTests := true, laidLooks := .later }
def DateDaysUptoCardSaid : Prop := Claim7.holds Tryd.pinned (.plain (OpenSpec.upto dateDaysSpec)) dateDaysUptoCard

/-- THE SECOND FORM's CARD OF 'turnbucklelaw16.DateTold'. -/
def dateToldUptoCard : Claim7 := { stood := { row := dateToldUptoRow, standIns := [], harness := (true, "e3380ce25abac2d2da98f4400bd12815d7c0c8ce43706812b97da519a4ae5492"), looks := true }, kinds := [], alts := [], laidByText := true, laidKinds := [.data, .data, .data, .data, .sentinel, .sentinel, .listed, .data, .pinned], laidTests := true, laidLooks := .later }
def DateToldUptoCardSaid : Prop := Claim7.holds Tryd.pinned (.plain (OpenSpec.upto dateToldSpec)) dateToldUptoCard

/-- THE SECOND FORM's CARD OF 'turnbucklelaw16.DateOrder'. -/
def dateOrderUptoCard : Claim7 := { stood := { row := dateOrderUptoRow, standIns := [], harness := (true, "e3380ce25abac2d2da98f4400bd12815d7c0c8ce43706812b97da519a4ae5492"), looks := true }, kinds := [], alts := [], laidByText := true, laidKinds := [.data, .data, .data, .data, .sentinel, .sentinel, .listed, .data, .pinned], laidTests := true, laidLooks := .later }
def DateOrderUptoCardSaid : Prop := Claim7.holds Tryd.pinned (.plain (OpenSpec.upto dateOrderSpec)) dateOrderUptoCard
end Rows
end Go.Proofs.YtmmommcgjafbbaaDoor
