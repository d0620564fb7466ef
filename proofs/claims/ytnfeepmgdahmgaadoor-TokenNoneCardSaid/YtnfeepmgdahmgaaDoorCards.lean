/-
  DERIVED. GIVEN WITH THE SEED: THE CARDS: each row of YtnfeepmgdahmgaaDoorRows.lean that lists a variable, with what it lists TIED to the program's text (the seventh form; the later family's looks); each row that meets fmt, with fmt's text TOLD by the authors' own Lean function (tested against real Go, not proved from fmt's source: count such statements apart). THE CARD IS WHAT COUNTS. Prove the row's statement (the work); the ties are given (YtnfeepmgdahmgaaDoorTie.lean); close each card by the builder's one call (the guide's Derived/Test/ToyasCard.lean, 'card_holds'). Laid BY PROGRAM, IN A SANDBOX (cutbox-door.mjs). By AI agents, Wed Nov 11 2026. No macro, syntax, notation, axiom, sorry.
-/
import Derived.Test.YtnfeepmgdahmgaaDoorRows
import GoSem.ClaimSeven
namespace Go.Proofs.YtnfeepmgdahmgaaDoor
namespace Rows

/-- THE TIED CARD OF 'ingotlaw16.TokenUnlike'. -/
def tokenUnlikeCard : Claim7 := { stood := { row := tokenUnlikeRow, standIns := [], harness := (true, "bac944910160361950012da4c7649f5aa01fe5280c1a78807639327060bc942d"), looks := true }, kinds := [], alts := [], laidByText := true, laidKinds := [.data, .data, .data, .data], laidTests := true, laidLooks := .later }
def TokenUnlikeCardSaid : Prop := Claim7.holds Tryd.pinned (.plain (OpenSpec.ofChange tokenUnlikeSpec)) tokenUnlikeCard

/-- THE TIED CARD OF 'ingotlaw16.TokenTaken'. -/
def tokenTakenCard : Claim7 := { stood := { row := tokenTakenRow, standIns := [], harness := (true, "bac944910160361950012da4c7649f5aa01fe5280c1a78807639327060bc942d"), looks := true }, kinds := [], alts := [], laidByText := true, laidKinds := [.data, .data, .data, .data], laidTests := true, laidLooks := .later }
def TokenTakenCardSaid : Prop := Claim7.holds Tryd.pinned (.plain (OpenSpec.ofChange tokenTakenSpec)) tokenTakenCard

/-- THE TIED CARD OF 'ingotlaw16.TokenPlays'. -/
def tokenPlaysCard : Claim7 := { stood := { row := tokenPlaysRow, standIns := [], harness := (true, "bac944910160361950012da4c7649f5aa01fe5280c1a78807639327060bc942d"), looks := true }, kinds := [], alts := [], laidByText := true, laidKinds := [.data, .data, .data, .data], laidTests := true, laidLooks := .later }
def TokenPlaysCardSaid : Prop := Claim7.holds Tryd.pinned (.plain (OpenSpec.ofChange tokenPlaysSpec)) tokenPlaysCard

/-- THE TIED CARD OF 'ingotlaw16.TokenNone'. -/
def tokenNoneCard : Claim7 := { stood := { row := tokenNoneRow, standIns := [], harness := (true, "bac944910160361950012da4c7649f5aa01fe5280c1a78807639327060bc942d"), looks := true }, kinds := [], alts := [], laidByText := true, laidKinds := [.data, .data, .data, .data], laidTests := true, laidLooks := .later }
def TokenNoneCardSaid : Prop := Claim7.holds Tryd.pinned (.plain (OpenSpec.ofChange tokenNoneSpec)) tokenNoneCard

/-- THE TIED CARD OF 'ingotlaw16.TokenNobody'. -/
def tokenNobodyCard : Claim7 := { stood := { row := tokenNobodyRow, standIns := [], harness := (true, "bac944910160361950012da4c7649f5aa01fe5280c1a78807639327060bc942d"), looks := true }, kinds := [], alts := [], laidByText := true, laidKinds := [.data, .data, .data, .data], laidTests := true, laidLooks := .later }
def TokenNobodyCardSaid : Prop := Claim7.holds Tryd.pinned (.plain (OpenSpec.ofChange tokenNobodySpec)) tokenNobodyCard

/-- THE TIED CARD OF 'ingotlaw22.FieldsPrints'. -/
def fieldsPrintsCard : Claim7 := { stood := { row := fieldsPrintsRow, standIns := [], harness := (true, "bac944910160361950012da4c7649f5aa01fe5280c1a78807639327060bc942d"), looks := true }, kinds := [], alts := [], laidByText := true, laidKinds := [.data, .handle, .pinned], laidTests := true, laidLooks := .later }
def FieldsPrintsCardSaid : Prop := Claim7.holds Tryd.pinned (.plain (OpenSpec.ofChange fieldsPrintsSpec)) fieldsPrintsCard

/-- THE TIED CARD OF 'ingotlaw22.FieldsParses'. -/
def fieldsParsesCard : Claim7 := { stood := { row := fieldsParsesRow, standIns := [], harness := (true, "bac944910160361950012da4c7649f5aa01fe5280c1a78807639327060bc942d"), looks := true }, kinds := [], alts := [], laidByText := true, laidKinds := [.data, .handle, .pinned], laidTests := true, laidLooks := .later }
def FieldsParsesCardSaid : Prop := Claim7.holds Tryd.pinned (.plain (OpenSpec.ofChange fieldsParsesSpec)) fieldsParsesCard

/-- THE TIED CARD OF 'ingotlaw22.FieldsBack'. -/
def fieldsBackCard : Claim7 := { stood := { row := fieldsBackRow, standIns := [], harness := (true, "bac944910160361950012da4c7649f5aa01fe5280c1a78807639327060bc942d"), looks := true }, kinds := [], alts := [], laidByText := true, laidKinds := [.data, .handle, .pinned], laidTests := true, laidLooks := .later }
def FieldsBackCardSaid : Prop := Claim7.holds Tryd.pinned (.plain (OpenSpec.ofChange fieldsBackSpec)) fieldsBackCard

/-- THE TIED CARD OF 'ingotlaw22.FieldsEscapes'. -/
def fieldsEscapesCard : Claim7 := { stood := { row := fieldsEscapesRow, standIns := [], harness := (true, "bac944910160361950012da4c7649f5aa01fe5280c1a78807639327060bc942d"), looks := true }, kinds := [], alts := [], laidByText := true, laidKinds := [.data, .handle, .pinned], laidTests := true, laidLooks := .later }
def FieldsEscapesCardSaid : Prop := Claim7.holds Tryd.pinned (.plain (OpenSpec.ofChange fieldsEscapesSpec)) fieldsEscapesCard

/-- THE TIED CARD OF 'ingotlaw22.FieldsPlain'. -/
def fieldsPlainCard : Claim7 := { stood := { row := fieldsPlainRow, standIns := [], harness := (true, "bac944910160361950012da4c7649f5aa01fe5280c1a78807639327060bc942d"), looks := true }, kinds := [], alts := [], laidByText := true, laidKinds := [.data, .handle, .pinned], laidTests := true, laidLooks := .later }
def FieldsPlainCardSaid : Prop := Claim7.holds Tryd.pinned (.plain (OpenSpec.ofChange fieldsPlainSpec)) fieldsPlainCard

/-- THE TIED CARD OF 'ingotlaw22.FieldsGets'. -/
def fieldsGetsCard : Claim7 := { stood := { row := fieldsGetsRow, standIns := [], harness := (true, "bac944910160361950012da4c7649f5aa01fe5280c1a78807639327060bc942d"), looks := true }, kinds := [], alts := [], laidByText := true, laidKinds := [.data, .handle, .pinned], laidTests := true, laidLooks := .later }
def FieldsGetsCardSaid : Prop := Claim7.holds Tryd.pinned (.plain (OpenSpec.ofChange fieldsGetsSpec)) fieldsGetsCard

/-- THE SECOND FORM's CARD OF 'ingotlaw16.TokenUnlike'. -/
def tokenUnlikeUptoCard : Claim7 := { stood := { row := tokenUnlikeUptoRow, standIns := [], harness := (true, "bac944910160361950012da4c7649f5aa01fe5280c1a78807639327060bc942d"), looks := true }, kinds := [], alts := [], laidByText := true, laidKinds := [.data, .data, .data, .data], laidTests := true, laidLooks := .later }
def TokenUnlikeUptoCardSaid : Prop := Claim7.holds Tryd.pinned (.plain (OpenSpec.upto tokenUnlikeSpec)) tokenUnlikeUptoCard

/-- THE SECOND FORM's CARD OF 'ingotlaw16.TokenTaken'. -/
def tokenTakenUptoCard : Claim7 := { stood := { row := tokenTakenUptoRow, standIns := [], harness := (true, "bac944910160361950012da4c7649f5aa01fe5280c1a78807639327060bc942d"), looks := true }, kinds := [], alts := [], laidByText := true, laidKinds := [.data, .data, .data, .data], laidTests := true, laidLooks := .later }
def TokenTakenUptoCardSaid : Prop := Claim7.holds Tryd.pinned (.plain (OpenSpec.upto tokenTakenSpec)) tokenTakenUptoCard

/-- THE SECOND FORM's CARD OF 'ingotlaw16.TokenPlays'. -/
def tokenPlaysUptoCard : Claim7 := { stood := { row := tokenPlaysUptoRow, standIns := [], harness := (true, "bac944910160361950012da4c7649f5aa01fe5280c1a78807639327060bc942d"), looks := true }, kinds := [], alts := [], laidByText := true, laidKinds := [.data, .data, .data, .data], laidTests := true, laidLooks := .later }
def TokenPlaysUptoCardSaid : Prop := Claim7.holds Tryd.pinned (.plain (OpenSpec.upto tokenPlaysSpec)) tokenPlaysUptoCard

/-- THE SECOND FORM's CARD OF 'ingotlaw16.TokenNone'. -/
def tokenNoneUptoCard : Claim7 := { stood := { row := tokenNoneUptoRow, standIns := [], harness := (true, "bac944910160361950012da4c7649f5aa01fe5280c1a78807639327060bc942d"), looks := true }, kinds := [], alts := [], laidByText := true, laidKinds := [.data, .data, .data, .data], laidTests := true, laidLooks := .later }
def TokenNoneUptoCardSaid : Prop := Claim7.holds Tryd.pinned (.plain (OpenSpec.upto tokenNoneSpec)) tokenNoneUptoCard

/-- THE SECOND FORM's CARD OF 'ingotlaw16.TokenNobody'. -/
def tokenNobodyUptoCard : Claim7 := { stood := { row := tokenNobodyUptoRow, standIns := [], harness := (true, "bac944910160361950012da4c7649f5aa01fe5280c1a78807639327060bc942d"), looks := true }, kinds := [], alts := [], laidByText := true, laidKinds := [.data, .data, .data, .data], laidTests := true, laidLooks := .later }
def TokenNobodyUptoCardSaid : Prop := Claim7.holds Tryd.pinned (.plain (OpenSpec.upto tokenNobodySpec)) tokenNobodyUptoCard

/-- THE SECOND FORM's CARD OF 'ingotlaw22.FieldsPrints'. -/
def fieldsPrintsUptoCard : Claim7 := { stood := { row := fieldsPrintsUptoRow, standIns := [], harness := (true, "bac944910160361950012da4c7649f5aa01fe5280c1a78807639327060bc942d"), looks := true }, kinds := [], alts := [], laidByText := true, laidKinds := [.data, .handle, .pinned], laidTests := true, laidLooks := .later }
def FieldsPrintsUptoCardSaid : Prop := Claim7.holds Tryd.pinned (.plain (OpenSpec.upto fieldsPrintsSpec)) fieldsPrintsUptoCard

/-- THE SECOND FORM's CARD OF 'ingotlaw22.FieldsParses'. -/
def fieldsParsesUptoCard : Claim7 := { stood := { row := fieldsParsesUptoRow, standIns := [], harness := (true, "bac944910160361950012da4c7649f5aa01fe5280c1a78807639327060bc942d"), looks := true }, kinds := [], alts := [], laidByText := true, laidKinds := [.data, .handle, .pinned], laidTests := true, laidLooks := .later }
def FieldsParsesUptoCardSaid : Prop := Claim7.holds Tryd.pinned (.plain (OpenSpec.upto fieldsParsesSpec)) fieldsParsesUptoCard

/-- THE SECOND FORM's CARD OF 'ingotlaw22.FieldsBack'. -/
def fieldsBackUptoCard : Claim7 := { stood := { row := fieldsBackUptoRow, standIns := [], harness := (true, "bac944910160361950012da4c7649f5aa01fe5280c1a78807639327060bc942d"), looks := true }, kinds := [], alts := [], laidByText := true, laidKinds := [.data, .handle, .pinned], laidTests := true, laidLooks := .later }
def FieldsBackUptoCardSaid : Prop := Claim7.holds Tryd.pinned (.plain (OpenSpec.upto fieldsBackSpec)) fieldsBackUptoCard

/-- THE SECOND FORM's CARD OF 'ingotlaw22.FieldsEscapes'. -/
def fieldsEscapesUptoCard : Claim7 := { stood := { row := fieldsEscapesUptoRow, standIns := [], harness := (true, "bac944910160361950012da4c7649f5aa01fe5280c1a78807639327060bc942d"), looks := true }, kinds := [], alts := [], laidByText := true, laidKinds := [.data, .handle, .pinned], laidTests := true, laidLooks := .later }
def FieldsEscapesUptoCardSaid : Prop := Claim7.holds Tryd.pinned (.plain (OpenSpec.upto fieldsEscapesSpec)) fieldsEscapesUptoCard

/-- THE SECOND FORM's CARD OF 'ingotlaw22.FieldsPlain'. -/
def fieldsPlainUptoCard : Claim7 := { stood := { row := fieldsPlainUptoRow, standIns := [], harness := (true, "bac944910160361950012da4c7649f5aa01fe5280c1a78807639327060bc942d"), looks := true }, kinds := [], alts := [], laidByText := true, laidKinds := [.data, .handle, .pinned], laidTests := true, laidLooks := .later }
def FieldsPlainUptoCardSaid : Prop := Claim7.holds Tryd.pinned (.plain (OpenSpec.upto fieldsPlainSpec)) fieldsPlainUptoCard

/-- THE SECOND FORM's CARD OF 'ingotlaw22.FieldsGets'. -/
def fieldsGetsUptoCard : Claim7 := { stood := { row := fieldsGetsUptoRow, standIns := [], harness := (true, "bac944910160361950012da4c7649f5aa01fe5280c1a78807639327060bc942d"), looks := true }, kinds := [], alts := [], laidByText := true, laidKinds := [.data, .handle, .pinned], laidTests := true, laidLooks := .later }
def FieldsGetsUptoCardSaid : Prop := Claim7.holds Tryd.pinned (.plain (OpenSpec.upto fieldsGetsSpec)) fieldsGetsUptoCard
end Rows
end Go.Proofs.YtnfeepmgdahmgaaDoor
