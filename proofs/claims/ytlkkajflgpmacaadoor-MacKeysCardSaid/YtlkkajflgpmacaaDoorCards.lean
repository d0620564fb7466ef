/-
  DERIVED. GIVEN WITH THE SEED: THE CARDS: each row of YtlkkajflgpmacaaDoorRows.lean that lists a variable, with what it lists TIED to the program's text (the seventh form; the later family's looks); each row that meets fmt, with fmt's text TOLD by the authors' own Lean function (tested against real Go, not proved from fmt's source: count such statements apart). THE CARD IS WHAT COUNTS. Prove the row's statement (the work); the ties are given (YtlkkajflgpmacaaDoorTie.lean); close each card by the builder's one call (the guide's Derived/Test/ToyasCard.lean, 'card_holds'). Laid BY PROGRAM, IN A SANDBOX (cutbox-door.mjs). By AI agents, Wed Nov 11 2026. No macro, syntax, notation, axiom, sorry.
-/
import Derived.Test.YtlkkajflgpmacaaDoorRows
import GoSem.ClaimSeven
namespace Go.Proofs.YtlkkajflgpmacaaDoor
namespace Rows

/-- THE TIED CARD OF 'ingotlaw02.HashSums'. -/
def hashSumsCard : Claim7 := { stood := { row := hashSumsRow, standIns := [], harness := (true, "3787b1b2fd990462c022181e0036b41657a32695319d1be72d9f835a593733ee"), looks := false }, kinds := [], alts := [], laidByText := true, laidKinds := [.data], laidTests := true, laidLooks := .later }
def HashSumsCardSaid : Prop := Claim7.holds Tryd.pinned (.plain (OpenSpec.ofChange hashSumsSpec)) hashSumsCard

/-- THE TIED CARD OF 'ingotlaw02.HashKnown'. -/
def hashKnownCard : Claim7 := { stood := { row := hashKnownRow, standIns := [], harness := (true, "3787b1b2fd990462c022181e0036b41657a32695319d1be72d9f835a593733ee"), looks := false }, kinds := [], alts := [], laidByText := true, laidKinds := [.data], laidTests := true, laidLooks := .later }
def HashKnownCardSaid : Prop := Claim7.holds Tryd.pinned (.plain (OpenSpec.ofChange hashKnownSpec)) hashKnownCard

/-- THE TIED CARD OF 'ingotlaw02.HashPieces'. -/
def hashPiecesCard : Claim7 := { stood := { row := hashPiecesRow, standIns := [], harness := (true, "3787b1b2fd990462c022181e0036b41657a32695319d1be72d9f835a593733ee"), looks := false }, kinds := [], alts := [], laidByText := true, laidKinds := [.data], laidTests := true, laidLooks := .later }
def HashPiecesCardSaid : Prop := Claim7.holds Tryd.pinned (.plain (OpenSpec.ofChange hashPiecesSpec)) hashPiecesCard

/-- THE TIED CARD OF 'ingotlaw02.HashNobody'. -/
def hashNobodyCard : Claim7 := { stood := { row := hashNobodyRow, standIns := [], harness := (true, "3787b1b2fd990462c022181e0036b41657a32695319d1be72d9f835a593733ee"), looks := false }, kinds := [], alts := [], laidByText := true, laidKinds := [.data], laidTests := true, laidLooks := .later }
def HashNobodyCardSaid : Prop := Claim7.holds Tryd.pinned (.plain (OpenSpec.ofChange hashNobodySpec)) hashNobodyCard

/-- THE TIED CARD OF 'ingotlaw02.HashEqual'. -/
def hashEqualCard : Claim7 := { stood := { row := hashEqualRow, standIns := [], harness := (true, "3787b1b2fd990462c022181e0036b41657a32695319d1be72d9f835a593733ee"), looks := false }, kinds := [], alts := [], laidByText := true, laidKinds := [.data], laidTests := true, laidLooks := .later }
def HashEqualCardSaid : Prop := Claim7.holds Tryd.pinned (.plain (OpenSpec.ofChange hashEqualSpec)) hashEqualCard

/-- THE TIED CARD OF 'ingotlaw03.MacTags'. -/
def macTagsCard : Claim7 := { stood := { row := macTagsRow, standIns := [], harness := (true, "3787b1b2fd990462c022181e0036b41657a32695319d1be72d9f835a593733ee"), looks := false }, kinds := [], alts := [], laidByText := true, laidKinds := [.data], laidTests := true, laidLooks := .later }
def MacTagsCardSaid : Prop := Claim7.holds Tryd.pinned (.plain (OpenSpec.ofChange macTagsSpec)) macTagsCard

/-- THE TIED CARD OF 'ingotlaw03.MacKeys'. -/
def macKeysCard : Claim7 := { stood := { row := macKeysRow, standIns := [], harness := (true, "3787b1b2fd990462c022181e0036b41657a32695319d1be72d9f835a593733ee"), looks := false }, kinds := [], alts := [], laidByText := true, laidKinds := [.data], laidTests := true, laidLooks := .later }
def MacKeysCardSaid : Prop := Claim7.holds Tryd.pinned (.plain (OpenSpec.ofChange macKeysSpec)) macKeysCard

/-- THE TIED CARD OF 'ingotlaw03.MacDerives'. -/
def macDerivesCard : Claim7 := { stood := { row := macDerivesRow, standIns := [], harness := (true, "3787b1b2fd990462c022181e0036b41657a32695319d1be72d9f835a593733ee"), looks := false }, kinds := [], alts := [], laidByText := true, laidKinds := [.data], laidTests := true, laidLooks := .later }
def MacDerivesCardSaid : Prop := Claim7.holds Tryd.pinned (.plain (OpenSpec.ofChange macDerivesSpec)) macDerivesCard

/-- THE TIED CARD OF 'ingotlaw02.HashHex'. -/
def hashHexCard : Claim7 := { stood := { row := hashHexRow, standIns := [], harness := (true, "3787b1b2fd990462c022181e0036b41657a32695319d1be72d9f835a593733ee"), looks := false }, kinds := [], alts := [], laidByText := true, laidKinds := [.data], laidTests := true, laidLooks := .later }
def HashHexCardSaid : Prop := Claim7.holds Tryd.pinned (.plain (OpenSpec.ofChange hashHexSpec)) hashHexCard

/-- THE TIED CARD OF 'ingotlaw03.MacChecks'. -/
def macChecksCard : Claim7 := { stood := { row := macChecksRow, standIns := [], harness := (true, "3787b1b2fd990462c022181e0036b41657a32695319d1be72d9f835a593733ee"), looks := false }, kinds := [], alts := [], laidByText := true, laidKinds := [.data], laidTests := true, laidLooks := .later }
def MacChecksCardSaid : Prop := Claim7.holds Tryd.pinned (.plain (OpenSpec.ofChange macChecksSpec)) macChecksCard

/-- THE SECOND FORM's CARD OF 'ingotlaw02.HashSums'. -/
def hashSumsUptoCard : Claim7 := { stood := { row := hashSumsUptoRow, standIns := [], harness := (true, "3787b1b2fd990462c022181e0036b41657a32695319d1be72d9f835a593733ee"), looks := false }, kinds := [], alts := [], laidByText := true, laidKinds := [.data], laidTests := true, laidLooks := .later }
def HashSumsUptoCardSaid : Prop := Claim7.holds Tryd.pinned (.plain (OpenSpec.upto hashSumsSpec)) hashSumsUptoCard

/-- THE SECOND FORM's CARD OF 'ingotlaw02.HashKnown'. -/
def hashKnownUptoCard : Claim7 := { stood := { row := hashKnownUptoRow, standIns := [], harness := (true, "3787b1b2fd990462c022181e0036b41657a32695319d1be72d9f835a593733ee"), looks := false }, kinds := [], alts := [], laidByText := true, laidKinds := [.data], laidTests := true, laidLooks := .later }
def HashKnownUptoCardSaid : Prop := Claim7.holds Tryd.pinned (.plain (OpenSpec.upto hashKnownSpec)) hashKnownUptoCard

/-- THE SECOND FORM's CARD OF 'ingotlaw02.HashPieces'. -/
def hashPiecesUptoCard : Claim7 := { stood := { row := hashPiecesUptoRow, standIns := [], harness := (true, "3787b1b2fd990462c022181e0036b41657a32695319d1be72d9f835a593733ee"), looks := false }, kinds := [], alts := [], laidByText := true, laidKinds := [.data], laidTests := true, laidLooks := .later }
def HashPiecesUptoCardSaid : Prop := Claim7.holds Tryd.pinned (.plain (OpenSpec.upto hashPiecesSpec)) hashPiecesUptoCard

/-- THE SECOND FORM's CARD OF 'ingotlaw02.HashNobody'. -/
def hashNobodyUptoCard : Claim7 := { stood := { row := hashNobodyUptoRow, standIns := [], harness := (true, "3787b1b2fd990462c022181e0036b41657a32695319d1be72d9f835a593733ee"), looks := false }, kinds := [], alts := [], laidByText := true, laidKinds := [.data], laidTests := true, laidLooks := .later }
def HashNobodyUptoCardSaid : Prop := Claim7.holds Tryd.pinned (.plain (OpenSpec.upto hashNobodySpec)) hashNobodyUptoCard

/-- THE SECOND FORM's CARD OF 'ingotlaw02.HashEqual'. -/
def hashEqualUptoCard : Claim7 := { stood := { row := hashEqualUptoRow, standIns := [], harness := (true, "3787b1b2fd990462c022181e0036b41657a32695319d1be72d9f835a593733ee"), looks := false }, kinds := [], alts := [], laidByText := true, laidKinds := [.data], laidTests := true, laidLooks := .later }
def HashEqualUptoCardSaid : Prop := Claim7.holds Tryd.pinned (.plain (OpenSpec.upto hashEqualSpec)) hashEqualUptoCard

/-- THE SECOND FORM's CARD OF 'ingotlaw03.MacTags'. -/
def macTagsUptoCard : Claim7 := { stood := { row := macTagsUptoRow, standIns := [], harness := (true, "3787b1b2fd990462c022181e0036b41657a32695319d1be72d9f835a593733ee"), looks := false }, kinds := [], alts := [], laidByText := true, laidKinds := [.data], laidTests := true, laidLooks := .later }
def MacTagsUptoCardSaid : Prop := Claim7.holds Tryd.pinned (.plain (OpenSpec.upto macTagsSpec)) macTagsUptoCard

/-- THE SECOND FORM's CARD OF 'ingotlaw03.MacKeys'. -/
def macKeysUptoCard : Claim7 := { stood := { row := macKeysUptoRow, standIns := [], harness := (true, "3787b1b2fd990462c022181e0036b41657a32695319d1be72d9f835a593733ee"), looks := false }, kinds := [], alts := [], laidByText := true, laidKinds := [.data], laidTests := true, laidLooks := .later }
def MacKeysUptoCardSaid : Prop := Claim7.holds Tryd.pinned (.plain (OpenSpec.upto macKeysSpec)) macKeysUptoCard

/-- THE SECOND FORM's CARD OF 'ingotlaw03.MacDerives'. -/
def macDerivesUptoCard : Claim7 := { stood := { row := macDerivesUptoRow, standIns := [], harness := (true, "3787b1b2fd990462c022181e0036b41657a32695319d1be72d9f835a593733ee"), looks := false }, kinds := [], alts := [], laidByText := true, laidKinds := [.data], laidTests := true, laidLooks := .later }
def MacDerivesUptoCardSaid : Prop := Claim7.holds Tryd.pinned (.plain (OpenSpec.upto macDerivesSpec)) macDerivesUptoCard

/-- THE SECOND FORM's CARD OF 'ingotlaw02.HashHex'. -/
def hashHexUptoCard : Claim7 := { stood := { row := hashHexUptoRow, standIns := [], harness := (true, "3787b1b2fd990462c022181e0036b41657a32695319d1be72d9f835a593733ee"), looks := false }, kinds := [], alts := [], laidByText := true, laidKinds := [.data], laidTests := true, laidLooks := .later }
def HashHexUptoCardSaid : Prop := Claim7.holds Tryd.pinned (.plain (OpenSpec.upto hashHexSpec)) hashHexUptoCard

/-- THE SECOND FORM's CARD OF 'ingotlaw03.MacChecks'. -/
def macChecksUptoCard : Claim7 := { stood := { row := macChecksUptoRow, standIns := [], harness := (true, "3787b1b2fd990462c022181e0036b41657a32695319d1be72d9f835a593733ee"), looks := false }, kinds := [], alts := [], laidByText := true, laidKinds := [.data], laidTests := true, laidLooks := .later }
def MacChecksUptoCardSaid : Prop := Claim7.holds Tryd.pinned (.plain (OpenSpec.upto macChecksSpec)) macChecksUptoCard
end Rows
end Go.Proofs.YtlkkajflgpmacaaDoor
