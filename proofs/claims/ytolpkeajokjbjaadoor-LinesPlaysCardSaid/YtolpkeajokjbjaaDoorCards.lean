/-
  DERIVED. GIVEN WITH THE SEED: THE CARDS: each row of YtolpkeajokjbjaaDoorRows.lean that lists a variable, with what it lists TIED to the program's text (the seventh form; the later family's looks); each row that meets fmt, with fmt's text TOLD by the authors' own Lean function (tested against real Go, not proved from fmt's source: count such statements apart). THE CARD IS WHAT COUNTS. Prove the row's statement (the work); the ties are given (YtolpkeajokjbjaaDoorTie.lean); close each card by the builder's one call (the guide's Derived/Test/ToyasCard.lean, 'card_holds'). Laid BY PROGRAM, IN A SANDBOX (cutbox-door.mjs). By AI agents, Wed Nov 11 2026. No macro, syntax, notation, axiom, sorry.
-/
import Derived.Test.YtolpkeajokjbjaaDoorRows
import GoSem.ClaimSeven
namespace Go.Proofs.YtolpkeajokjbjaaDoor
namespace Rows

/-- THE TIED CARD OF 'ingotlaw11.LinesPlain'. -/
def linesPlainCard : Claim7 := { stood := { row := linesPlainRow, standIns := [], harness := (true, "dbb4bf12fb9edb021cca4c1f72fa4f5ee7a5be467b8cd0a68a0dbe3d2af40db0"), looks := false }, kinds := [], alts := [], laidByText := true, laidKinds := [.data], laidTests := true, laidLooks := .later }
def LinesPlainCardSaid : Prop := Claim7.holds Tryd.pinned (.plain (OpenSpec.ofChange linesPlainSpec)) linesPlainCard

/-- THE TIED CARD OF 'ingotlaw11.LinesOrder'. -/
def linesOrderCard : Claim7 := { stood := { row := linesOrderRow, standIns := [], harness := (true, "dbb4bf12fb9edb021cca4c1f72fa4f5ee7a5be467b8cd0a68a0dbe3d2af40db0"), looks := false }, kinds := [], alts := [], laidByText := true, laidKinds := [.data], laidTests := true, laidLooks := .later }
def LinesOrderCardSaid : Prop := Claim7.holds Tryd.pinned (.plain (OpenSpec.ofChange linesOrderSpec)) linesOrderCard

/-- THE TIED CARD OF 'ingotlaw11.LinesUndo'. -/
def linesUndoCard : Claim7 := { stood := { row := linesUndoRow, standIns := [], harness := (true, "dbb4bf12fb9edb021cca4c1f72fa4f5ee7a5be467b8cd0a68a0dbe3d2af40db0"), looks := false }, kinds := [], alts := [], laidByText := true, laidKinds := [.data], laidTests := true, laidLooks := .later }
def LinesUndoCardSaid : Prop := Claim7.holds Tryd.pinned (.plain (OpenSpec.ofChange linesUndoSpec)) linesUndoCard

/-- THE TIED CARD OF 'ingotlaw11.LinesPlays'. -/
def linesPlaysCard : Claim7 := { stood := { row := linesPlaysRow, standIns := [], harness := (true, "dbb4bf12fb9edb021cca4c1f72fa4f5ee7a5be467b8cd0a68a0dbe3d2af40db0"), looks := false }, kinds := [], alts := [], laidByText := true, laidKinds := [.data], laidTests := true, laidLooks := .later }
def LinesPlaysCardSaid : Prop := Claim7.holds Tryd.pinned (.plain (OpenSpec.ofChange linesPlaysSpec)) linesPlaysCard

/-- THE TIED CARD OF 'ingotlaw11.LinesEither'. -/
def linesEitherCard : Claim7 := { stood := { row := linesEitherRow, standIns := [], harness := (true, "dbb4bf12fb9edb021cca4c1f72fa4f5ee7a5be467b8cd0a68a0dbe3d2af40db0"), looks := false }, kinds := [], alts := [], laidByText := true, laidKinds := [.data], laidTests := true, laidLooks := .later }
def LinesEitherCardSaid : Prop := Claim7.holds Tryd.pinned (.plain (OpenSpec.ofChange linesEitherSpec)) linesEitherCard

/-- THE TIED CARD OF 'ingotlaw11.LinesNobody'. -/
def linesNobodyCard : Claim7 := { stood := { row := linesNobodyRow, standIns := [], harness := (true, "dbb4bf12fb9edb021cca4c1f72fa4f5ee7a5be467b8cd0a68a0dbe3d2af40db0"), looks := false }, kinds := [], alts := [], laidByText := true, laidKinds := [.data], laidTests := true, laidLooks := .later }
def LinesNobodyCardSaid : Prop := Claim7.holds Tryd.pinned (.plain (OpenSpec.ofChange linesNobodySpec)) linesNobodyCard

/-- THE SECOND FORM's CARD OF 'ingotlaw11.LinesPlain'. -/
def linesPlainUptoCard : Claim7 := { stood := { row := linesPlainUptoRow, standIns := [], harness := (true, "dbb4bf12fb9edb021cca4c1f72fa4f5ee7a5be467b8cd0a68a0dbe3d2af40db0"), looks := false }, kinds := [], alts := [], laidByText := true, laidKinds := [.data], laidTests := true, laidLooks := .later }
def LinesPlainUptoCardSaid : Prop := Claim7.holds Tryd.pinned (.plain (OpenSpec.upto linesPlainSpec)) linesPlainUptoCard

/-- THE SECOND FORM's CARD OF 'ingotlaw11.LinesOrder'. -/
def linesOrderUptoCard : Claim7 := { stood := { row := linesOrderUptoRow, standIns := [], harness := (true, "dbb4bf12fb9edb021cca4c1f72fa4f5ee7a5be467b8cd0a68a0dbe3d2af40db0"), looks := false }, kinds := [], alts := [], laidByText := true, laidKinds := [.data], laidTests := true, laidLooks := .later }
def LinesOrderUptoCardSaid : Prop := Claim7.holds Tryd.pinned (.plain (OpenSpec.upto linesOrderSpec)) linesOrderUptoCard

/-- THE SECOND FORM's CARD OF 'ingotlaw11.LinesUndo'. -/
def linesUndoUptoCard : Claim7 := { stood := { row := linesUndoUptoRow, standIns := [], harness := (true, "dbb4bf12fb9edb021cca4c1f72fa4f5ee7a5be467b8cd0a68a0dbe3d2af40db0"), looks := false }, kinds := [], alts := [], laidByText := true, laidKinds := [.data], laidTests := true, laidLooks := .later }
def LinesUndoUptoCardSaid : Prop := Claim7.holds Tryd.pinned (.plain (OpenSpec.upto linesUndoSpec)) linesUndoUptoCard

/-- THE SECOND FORM's CARD OF 'ingotlaw11.LinesPlays'. -/
def linesPlaysUptoCard : Claim7 := { stood := { row := linesPlaysUptoRow, standIns := [], harness := (true, "dbb4bf12fb9edb021cca4c1f72fa4f5ee7a5be467b8cd0a68a0dbe3d2af40db0"), looks := false }, kinds := [], alts := [], laidByText := true, laidKinds := [.data], laidTests := true, laidLooks := .later }
def LinesPlaysUptoCardSaid : Prop := Claim7.holds Tryd.pinned (.plain (OpenSpec.upto linesPlaysSpec)) linesPlaysUptoCard

/-- THE SECOND FORM's CARD OF 'ingotlaw11.LinesEither'. -/
def linesEitherUptoCard : Claim7 := { stood := { row := linesEitherUptoRow, standIns := [], harness := (true, "dbb4bf12fb9edb021cca4c1f72fa4f5ee7a5be467b8cd0a68a0dbe3d2af40db0"), looks := false }, kinds := [], alts := [], laidByText := true, laidKinds := [.data], laidTests := true, laidLooks := .later }
def LinesEitherUptoCardSaid : Prop := Claim7.holds Tryd.pinned (.plain (OpenSpec.upto linesEitherSpec)) linesEitherUptoCard

/-- THE SECOND FORM's CARD OF 'ingotlaw11.LinesNobody'. -/
def linesNobodyUptoCard : Claim7 := { stood := { row := linesNobodyUptoRow, standIns := [], harness := (true, "dbb4bf12fb9edb021cca4c1f72fa4f5ee7a5be467b8cd0a68a0dbe3d2af40db0"), looks := false }, kinds := [], alts := [], laidByText := true, laidKinds := [.data], laidTests := true, laidLooks := .later }
def LinesNobodyUptoCardSaid : Prop := Claim7.holds Tryd.pinned (.plain (OpenSpec.upto linesNobodySpec)) linesNobodyUptoCard
end Rows
end Go.Proofs.YtolpkeajokjbjaaDoor
