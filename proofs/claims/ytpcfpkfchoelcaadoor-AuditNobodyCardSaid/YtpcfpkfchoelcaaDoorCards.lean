/-
  DERIVED. GIVEN WITH THE SEED: THE CARDS: each row of YtpcfpkfchoelcaaDoorRows.lean that lists a variable, with what it lists TIED to the program's text (the seventh form; the later family's looks); each row that meets fmt, with fmt's text TOLD by the authors' own Lean function (tested against real Go, not proved from fmt's source: count such statements apart). THE CARD IS WHAT COUNTS. Prove the row's statement (the work); the ties are given (YtpcfpkfchoelcaaDoorTie.lean); close each card by the builder's one call (the guide's Derived/Test/ToyasCard.lean, 'card_holds'). Laid BY PROGRAM, IN A SANDBOX (cutbox-door.mjs). By AI agents, Wed Nov 11 2026. No macro, syntax, notation, axiom, sorry.
-/
import Derived.Test.YtpcfpkfchoelcaaDoorRows
import GoSem.ClaimSeven
namespace Go.Proofs.YtpcfpkfchoelcaaDoor
namespace Rows

/-- THE TIED CARD OF 'ingotlaw19.AuditBound'. -/
def auditBoundCard : Claim7 := { stood := { row := auditBoundRow, standIns := [], harness := (true, "c499fcfd57baa05c5a7ae24af21c798f0fe9a7bbda598077044cf2e23332157f"), looks := false }, kinds := [], alts := [], laidByText := true, laidKinds := [.data], laidTests := true, laidLooks := .later }
def AuditBoundCardSaid : Prop := Claim7.holds Tryd.pinned (.plain (OpenSpec.ofChange auditBoundSpec)) auditBoundCard

/-- THE TIED CARD OF 'ingotlaw19.AuditNobody'. -/
def auditNobodyCard : Claim7 := { stood := { row := auditNobodyRow, standIns := [], harness := (true, "c499fcfd57baa05c5a7ae24af21c798f0fe9a7bbda598077044cf2e23332157f"), looks := false }, kinds := [], alts := [], laidByText := true, laidKinds := [.data], laidTests := true, laidLooks := .later }
def AuditNobodyCardSaid : Prop := Claim7.holds Tryd.pinned (.plain (OpenSpec.ofChange auditNobodySpec)) auditNobodyCard

/-- THE TIED CARD OF 'ingotlaw19.AuditChain'. -/
def auditChainCard : Claim7 := { stood := { row := auditChainRow, standIns := [], harness := (true, "c499fcfd57baa05c5a7ae24af21c798f0fe9a7bbda598077044cf2e23332157f"), looks := false }, kinds := [], alts := [], laidByText := true, laidKinds := [.data], laidTests := true, laidLooks := .later }
def AuditChainCardSaid : Prop := Claim7.holds Tryd.pinned (.plain (OpenSpec.ofChange auditChainSpec)) auditChainCard

/-- THE TIED CARD OF 'ingotlaw19.AuditTurned'. -/
def auditTurnedCard : Claim7 := { stood := { row := auditTurnedRow, standIns := [], harness := (true, "c499fcfd57baa05c5a7ae24af21c798f0fe9a7bbda598077044cf2e23332157f"), looks := false }, kinds := [], alts := [], laidByText := true, laidKinds := [.data], laidTests := true, laidLooks := .later }
def AuditTurnedCardSaid : Prop := Claim7.holds Tryd.pinned (.plain (OpenSpec.ofChange auditTurnedSpec)) auditTurnedCard

/-- THE TIED CARD OF 'ingotlaw19.AuditPlays'. -/
def auditPlaysCard : Claim7 := { stood := { row := auditPlaysRow, standIns := [], harness := (true, "c499fcfd57baa05c5a7ae24af21c798f0fe9a7bbda598077044cf2e23332157f"), looks := false }, kinds := [], alts := [], laidByText := true, laidKinds := [.data], laidTests := true, laidLooks := .later }
def AuditPlaysCardSaid : Prop := Claim7.holds Tryd.pinned (.plain (OpenSpec.ofChange auditPlaysSpec)) auditPlaysCard

/-- THE TIED CARD OF 'ingotlaw19.AuditVerifies'. -/
def auditVerifiesCard : Claim7 := { stood := { row := auditVerifiesRow, standIns := [], harness := (true, "c499fcfd57baa05c5a7ae24af21c798f0fe9a7bbda598077044cf2e23332157f"), looks := false }, kinds := [], alts := [], laidByText := true, laidKinds := [.data], laidTests := true, laidLooks := .later }
def AuditVerifiesCardSaid : Prop := Claim7.holds Tryd.pinned (.plain (OpenSpec.ofChange auditVerifiesSpec)) auditVerifiesCard

/-- THE SECOND FORM's CARD OF 'ingotlaw19.AuditBound'. -/
def auditBoundUptoCard : Claim7 := { stood := { row := auditBoundUptoRow, standIns := [], harness := (true, "c499fcfd57baa05c5a7ae24af21c798f0fe9a7bbda598077044cf2e23332157f"), looks := false }, kinds := [], alts := [], laidByText := true, laidKinds := [.data], laidTests := true, laidLooks := .later }
def AuditBoundUptoCardSaid : Prop := Claim7.holds Tryd.pinned (.plain (OpenSpec.upto auditBoundSpec)) auditBoundUptoCard

/-- THE SECOND FORM's CARD OF 'ingotlaw19.AuditNobody'. -/
def auditNobodyUptoCard : Claim7 := { stood := { row := auditNobodyUptoRow, standIns := [], harness := (true, "c499fcfd57baa05c5a7ae24af21c798f0fe9a7bbda598077044cf2e23332157f"), looks := false }, kinds := [], alts := [], laidByText := true, laidKinds := [.data], laidTests := true, laidLooks := .later }
def AuditNobodyUptoCardSaid : Prop := Claim7.holds Tryd.pinned (.plain (OpenSpec.upto auditNobodySpec)) auditNobodyUptoCard

/-- THE SECOND FORM's CARD OF 'ingotlaw19.AuditChain'. -/
def auditChainUptoCard : Claim7 := { stood := { row := auditChainUptoRow, standIns := [], harness := (true, "c499fcfd57baa05c5a7ae24af21c798f0fe9a7bbda598077044cf2e23332157f"), looks := false }, kinds := [], alts := [], laidByText := true, laidKinds := [.data], laidTests := true, laidLooks := .later }
def AuditChainUptoCardSaid : Prop := Claim7.holds Tryd.pinned (.plain (OpenSpec.upto auditChainSpec)) auditChainUptoCard

/-- THE SECOND FORM's CARD OF 'ingotlaw19.AuditTurned'. -/
def auditTurnedUptoCard : Claim7 := { stood := { row := auditTurnedUptoRow, standIns := [], harness := (true, "c499fcfd57baa05c5a7ae24af21c798f0fe9a7bbda598077044cf2e23332157f"), looks := false }, kinds := [], alts := [], laidByText := true, laidKinds := [.data], laidTests := true, laidLooks := .later }
def AuditTurnedUptoCardSaid : Prop := Claim7.holds Tryd.pinned (.plain (OpenSpec.upto auditTurnedSpec)) auditTurnedUptoCard

/-- THE SECOND FORM's CARD OF 'ingotlaw19.AuditPlays'. -/
def auditPlaysUptoCard : Claim7 := { stood := { row := auditPlaysUptoRow, standIns := [], harness := (true, "c499fcfd57baa05c5a7ae24af21c798f0fe9a7bbda598077044cf2e23332157f"), looks := false }, kinds := [], alts := [], laidByText := true, laidKinds := [.data], laidTests := true, laidLooks := .later }
def AuditPlaysUptoCardSaid : Prop := Claim7.holds Tryd.pinned (.plain (OpenSpec.upto auditPlaysSpec)) auditPlaysUptoCard

/-- THE SECOND FORM's CARD OF 'ingotlaw19.AuditVerifies'. -/
def auditVerifiesUptoCard : Claim7 := { stood := { row := auditVerifiesUptoRow, standIns := [], harness := (true, "c499fcfd57baa05c5a7ae24af21c798f0fe9a7bbda598077044cf2e23332157f"), looks := false }, kinds := [], alts := [], laidByText := true, laidKinds := [.data], laidTests := true, laidLooks := .later }
def AuditVerifiesUptoCardSaid : Prop := Claim7.holds Tryd.pinned (.plain (OpenSpec.upto auditVerifiesSpec)) auditVerifiesUptoCard
end Rows
end Go.Proofs.YtpcfpkfchoelcaaDoor
