/-
  DERIVED. GIVEN WITH THE SEED: THE CARDS: each row of YtkbbjjegpjdpeaaDoorRows.lean that lists a variable, with what it lists TIED to the program's text (the seventh form; the later family's looks); each row that meets fmt, with fmt's text TOLD by the authors' own Lean function (tested against real Go, not proved from fmt's source: count such statements apart). THE CARD IS WHAT COUNTS. Prove the row's statement (the work); the ties are given (YtkbbjjegpjdpeaaDoorTie.lean); close each card by the builder's one call (the guide's Derived/Test/ToyasCard.lean, 'card_holds'). Laid BY PROGRAM, IN A SANDBOX (cutbox-door.mjs). By AI agents, Wed Nov 11 2026. No macro, syntax, notation, axiom, sorry.
-/
import Derived.Test.YtkbbjjegpjdpeaaDoorRows
import GoSem.ClaimSeven
namespace Go.Proofs.YtkbbjjegpjdpeaaDoor
namespace Rows

/-- THE TIED CARD OF 'turnbucklelaw20.StoreBounds'. -/
def storeBoundsCard : Claim7 := { stood := { row := storeBoundsRow, standIns := [], harness := (true, "8a9ab0fd578b91dc73914067def0f6f8cbbbfbcee29df6dbfbca7674f5ae6022"), looks := false }, kinds := [], alts := [], laidByText := true, laidKinds := [.data, .pinned], laidTests := true, laidLooks := .later }
def StoreBoundsCardSaid : Prop := Claim7.holds Tryd.pinned (.plain (OpenSpec.ofChange storeBoundsSpec)) storeBoundsCard

/-- THE TIED CARD OF 'turnbucklelaw20.StoreGets'. -/
def storeGetsCard : Claim7 := { stood := { row := storeGetsRow, standIns := [], harness := (true, "8a9ab0fd578b91dc73914067def0f6f8cbbbfbcee29df6dbfbca7674f5ae6022"), looks := false }, kinds := [], alts := [], laidByText := true, laidKinds := [.data, .pinned], laidTests := true, laidLooks := .later }
def StoreGetsCardSaid : Prop := Claim7.holds Tryd.pinned (.plain (OpenSpec.ofChange storeGetsSpec)) storeGetsCard

/-- THE TIED CARD OF 'turnbucklelaw20.StoreOldest'. -/
def storeOldestCard : Claim7 := { stood := { row := storeOldestRow, standIns := [], harness := (true, "8a9ab0fd578b91dc73914067def0f6f8cbbbfbcee29df6dbfbca7674f5ae6022"), looks := false }, kinds := [], alts := [], laidByText := true, laidKinds := [.data, .pinned], laidTests := true, laidLooks := .later }
def StoreOldestCardSaid : Prop := Claim7.holds Tryd.pinned (.plain (OpenSpec.ofChange storeOldestSpec)) storeOldestCard

/-- THE TIED CARD OF 'turnbucklelaw20.StorePurged'. -/
def storePurgedCard : Claim7 := { stood := { row := storePurgedRow, standIns := [], harness := (true, "8a9ab0fd578b91dc73914067def0f6f8cbbbfbcee29df6dbfbca7674f5ae6022"), looks := false }, kinds := [], alts := [], laidByText := true, laidKinds := [.data, .pinned], laidTests := true, laidLooks := .later }
def StorePurgedCardSaid : Prop := Claim7.holds Tryd.pinned (.plain (OpenSpec.ofChange storePurgedSpec)) storePurgedCard

/-- THE TIED CARD OF 'turnbucklelaw20.StoreNobody'. -/
def storeNobodyCard : Claim7 := { stood := { row := storeNobodyRow, standIns := [], harness := (true, "8a9ab0fd578b91dc73914067def0f6f8cbbbfbcee29df6dbfbca7674f5ae6022"), looks := false }, kinds := [], alts := [], laidByText := true, laidKinds := [.data, .pinned], laidTests := true, laidLooks := .later }
def StoreNobodyCardSaid : Prop := Claim7.holds Tryd.pinned (.plain (OpenSpec.ofChange storeNobodySpec)) storeNobodyCard

/-- THE SECOND FORM's CARD OF 'turnbucklelaw20.StoreBounds'. -/
def storeBoundsUptoCard : Claim7 := { stood := { row := storeBoundsUptoRow, standIns := [], harness := (true, "8a9ab0fd578b91dc73914067def0f6f8cbbbfbcee29df6dbfbca7674f5ae6022"), looks := false }, kinds := [], alts := [], laidByText := true, laidKinds := [.data, .pinned], laidTests := true, laidLooks := .later }
def StoreBoundsUptoCardSaid : Prop := Claim7.holds Tryd.pinned (.plain (OpenSpec.upto storeBoundsSpec)) storeBoundsUptoCard

/-- THE SECOND FORM's CARD OF 'turnbucklelaw20.StoreGets'. -/
def storeGetsUptoCard : Claim7 := { stood := { row := storeGetsUptoRow, standIns := [], harness := (true, "8a9ab0fd578b91dc73914067def0f6f8cbbbfbcee29df6dbfbca7674f5ae6022"), looks := false }, kinds := [], alts := [], laidByText := true, laidKinds := [.data, .pinned], laidTests := true, laidLooks := .later }
def StoreGetsUptoCardSaid : Prop := Claim7.holds Tryd.pinned (.plain (OpenSpec.upto storeGetsSpec)) storeGetsUptoCard

/-- THE SECOND FORM's CARD OF 'turnbucklelaw20.StoreOldest'. -/
def storeOldestUptoCard : Claim7 := { stood := { row := storeOldestUptoRow, standIns := [], harness := (true, "8a9ab0fd578b91dc73914067def0f6f8cbbbfbcee29df6dbfbca7674f5ae6022"), looks := false }, kinds := [], alts := [], laidByText := true, laidKinds := [.data, .pinned], laidTests := true, laidLooks := .later }
def StoreOldestUptoCardSaid : Prop := Claim7.holds Tryd.pinned (.plain (OpenSpec.upto storeOldestSpec)) storeOldestUptoCard

/-- THE SECOND FORM's CARD OF 'turnbucklelaw20.StorePurged'. -/
def storePurgedUptoCard : Claim7 := { stood := { row := storePurgedUptoRow, standIns := [], harness := (true, "8a9ab0fd578b91dc73914067def0f6f8cbbbfbcee29df6dbfbca7674f5ae6022"), looks := false }, kinds := [], alts := [], laidByText := true, laidKinds := [.data, .pinned], laidTests := true, laidLooks := .later }
def StorePurgedUptoCardSaid : Prop := Claim7.holds Tryd.pinned (.plain (OpenSpec.upto storePurgedSpec)) storePurgedUptoCard

/-- THE SECOND FORM's CARD OF 'turnbucklelaw20.StoreNobody'. -/
def storeNobodyUptoCard : Claim7 := { stood := { row := storeNobodyUptoRow, standIns := [], harness := (true, "8a9ab0fd578b91dc73914067def0f6f8cbbbfbcee29df6dbfbca7674f5ae6022"), looks := false }, kinds := [], alts := [], laidByText := true, laidKinds := [.data, .pinned], laidTests := true, laidLooks := .later }
def StoreNobodyUptoCardSaid : Prop := Claim7.holds Tryd.pinned (.plain (OpenSpec.upto storeNobodySpec)) storeNobodyUptoCard
end Rows
end Go.Proofs.YtkbbjjegpjdpeaaDoor
