/-
  NARROWER THAN 'FOR EVERY INPUT', by the rows' own cells (each row's printed sentence says how): AuditBound: laid · AuditNobody: laid · AuditChain: laid · AuditTurned: laid · AuditPlays: laid · AuditVerifies: laid.
  DERIVED. THE GIVEN ROWS OF THIS SEAT. 6 by the template 'for every input the law returns true; each argument reads behind the call as it read before'; 0 by the template 'total and deterministic' (their statements: YtpcfpkfchoelcaaDoorTotals.lean).
  GIVEN WITH THE SEED: the statements are not yours to turn. If you find one false, say at which input.
  Laid BY PROGRAM, IN A SANDBOX (cutbox-rows.mjs): the forced cells as the released guide's own fill.sh prints them over the translation e55da3df4ae62541… (all of the seat's roots in one cut). By AI agents, Wed Nov 11 2026. No macro, syntax, notation, axiom, sorry.
-/
import Derived.Test.YtpcfpkfchoelcaaDoorChecked
import GoSem.Claim
import GoSem.ClaimJoined
import GoSem.ClaimMapViews
import Derived.JoinedTies
import Derived.KernelRfl
namespace Go.Proofs.YtpcfpkfchoelcaaDoor
/- THE CELL 'sum', in the pinned program and in every row, IS THE sha256 OF THE DUMP (.gsa) THAT YtpcfpkfchoelcaaDoorProg.lean LOADS. Nothing in Lean hashes anything: it is a label: what it is worth is what the hold of that sum in a sandbox is worth. -/
noncomputable def Tryd.pinned : Pinned := { name := "ytpcfpkfchoelcaadoor", sum := "e55da3df4ae625414f86feb070b7d60c0002406a1200161220be79c870ca1dca", checked := Tryd.checked }
namespace Rows
def none {H : Type} : Left H := { results := [], args := [] }

/- WHAT THE LISTED PACKAGE-LEVEL VARIABLES READ AS WHEN THE CALL BEGINS. Each datum BY PROGRAM (the guide's laid-datum.mjs) off the statement by which the dump's own 'gosem.cut.vars' lays the variable. In a bare row this is a premise. The card (YtpcfpkfchoelcaaDoorCards.lean) ties it to the program's text. -/
def laid_ingot_hash_words {H : Type} : DataW H := .agg [.lit (.int .u32 1116352408), .lit (.int .u32 1899447441), .lit (.int .u32 3049323471), .lit (.int .u32 3921009573), .lit (.int .u32 961987163), .lit (.int .u32 1508970993), .lit (.int .u32 2453635748), .lit (.int .u32 2870763221), .lit (.int .u32 3624381080), .lit (.int .u32 310598401), .lit (.int .u32 607225278), .lit (.int .u32 1426881987), .lit (.int .u32 1925078388), .lit (.int .u32 2162078206), .lit (.int .u32 2614888103), .lit (.int .u32 3248222580), .lit (.int .u32 3835390401), .lit (.int .u32 4022224774), .lit (.int .u32 264347078), .lit (.int .u32 604807628), .lit (.int .u32 770255983), .lit (.int .u32 1249150122), .lit (.int .u32 1555081692), .lit (.int .u32 1996064986), .lit (.int .u32 2554220882), .lit (.int .u32 2821834349), .lit (.int .u32 2952996808), .lit (.int .u32 3210313671), .lit (.int .u32 3336571891), .lit (.int .u32 3584528711), .lit (.int .u32 113926993), .lit (.int .u32 338241895), .lit (.int .u32 666307205), .lit (.int .u32 773529912), .lit (.int .u32 1294757372), .lit (.int .u32 1396182291), .lit (.int .u32 1695183700), .lit (.int .u32 1986661051), .lit (.int .u32 2177026350), .lit (.int .u32 2456956037), .lit (.int .u32 2730485921), .lit (.int .u32 2820302411), .lit (.int .u32 3259730800), .lit (.int .u32 3345764771), .lit (.int .u32 3516065817), .lit (.int .u32 3600352804), .lit (.int .u32 4094571909), .lit (.int .u32 275423344), .lit (.int .u32 430227734), .lit (.int .u32 506948616), .lit (.int .u32 659060556), .lit (.int .u32 883997877), .lit (.int .u32 958139571), .lit (.int .u32 1322822218), .lit (.int .u32 1537002063), .lit (.int .u32 1747873779), .lit (.int .u32 1955562222), .lit (.int .u32 2024104815), .lit (.int .u32 2227730452), .lit (.int .u32 2361852424), .lit (.int .u32 2428436474), .lit (.int .u32 2756734187), .lit (.int .u32 3204031479), .lit (.int .u32 3329325298)]

/-- 'ingotlaw19.AuditBound': WHATEVER THE INPUT: true; the input reads as it did. -/
def auditBoundSpec : ChangeSpec := { name := "auditBound", fn := fun _ => fun
  | [d1, d2] => { results := [.lit (.bool true)], args := [d1, d2] }
  | _ => none }
def auditBoundRow : OpenClaim := { program := "ytpcfpkfchoelcaadoor", sum := "e55da3df4ae625414f86feb070b7d60c0002406a1200161220be79c870ca1dca", func := "ingot/ingotlaw19.AuditBound", spec := "auditBound", unfollowed := true, recurses := true, named := ["ingot/hash.words"], apart := false, laid := [("ingot/hash.words", laid_ingot_hash_words)] }
def AuditBoundSaid : Prop := auditBoundRow.holds Tryd.pinned (OpenSpec.ofChange auditBoundSpec)

/-- ITS FALSE NEIGHBOUR: 'it returns false'. Refute it at one input. -/
def auditBoundWrong : ChangeSpec := { name := "auditBound", fn := fun _ => fun
  | [d1, d2] => { results := [.lit (.bool false)], args := [d1, d2] }
  | _ => none }
def AuditBoundWrongFalsely : Prop := auditBoundRow.holds Tryd.pinned (OpenSpec.ofChange auditBoundWrong)

/-- 'ingotlaw19.AuditNobody': WHATEVER THE INPUT: true; the input reads as it did. -/
def auditNobodySpec : ChangeSpec := { name := "auditNobody", fn := fun _ => fun
  | [d] => { results := [.lit (.bool true)], args := [d] }
  | _ => none }
def auditNobodyRow : OpenClaim := { program := "ytpcfpkfchoelcaadoor", sum := "e55da3df4ae625414f86feb070b7d60c0002406a1200161220be79c870ca1dca", func := "ingot/ingotlaw19.AuditNobody", spec := "auditNobody", unfollowed := true, recurses := true, named := ["ingot/hash.words"], apart := false, laid := [("ingot/hash.words", laid_ingot_hash_words)] }
def AuditNobodySaid : Prop := auditNobodyRow.holds Tryd.pinned (OpenSpec.ofChange auditNobodySpec)

/-- ITS FALSE NEIGHBOUR: 'it returns false'. Refute it at one input. -/
def auditNobodyWrong : ChangeSpec := { name := "auditNobody", fn := fun _ => fun
  | [d] => { results := [.lit (.bool false)], args := [d] }
  | _ => none }
def AuditNobodyWrongFalsely : Prop := auditNobodyRow.holds Tryd.pinned (OpenSpec.ofChange auditNobodyWrong)

/-- 'ingotlaw19.AuditChain': WHATEVER THE INPUT: true; the input reads as it did. -/
def auditChainSpec : ChangeSpec := { name := "auditChain", fn := fun _ => fun
  | [d] => { results := [.lit (.bool true)], args := [d] }
  | _ => none }
def auditChainRow : OpenClaim := { program := "ytpcfpkfchoelcaadoor", sum := "e55da3df4ae625414f86feb070b7d60c0002406a1200161220be79c870ca1dca", func := "ingot/ingotlaw19.AuditChain", spec := "auditChain", unfollowed := true, recurses := true, named := ["ingot/hash.words"], apart := false, laid := [("ingot/hash.words", laid_ingot_hash_words)] }
def AuditChainSaid : Prop := auditChainRow.holds Tryd.pinned (OpenSpec.ofChange auditChainSpec)

/-- ITS FALSE NEIGHBOUR: 'it returns false'. Refute it at one input. -/
def auditChainWrong : ChangeSpec := { name := "auditChain", fn := fun _ => fun
  | [d] => { results := [.lit (.bool false)], args := [d] }
  | _ => none }
def AuditChainWrongFalsely : Prop := auditChainRow.holds Tryd.pinned (OpenSpec.ofChange auditChainWrong)

/-- 'ingotlaw19.AuditTurned': WHATEVER THE INPUT: true; the input reads as it did. -/
def auditTurnedSpec : ChangeSpec := { name := "auditTurned", fn := fun _ => fun
  | [d1, d2, d3] => { results := [.lit (.bool true)], args := [d1, d2, d3] }
  | _ => none }
def auditTurnedRow : OpenClaim := { program := "ytpcfpkfchoelcaadoor", sum := "e55da3df4ae625414f86feb070b7d60c0002406a1200161220be79c870ca1dca", func := "ingot/ingotlaw19.AuditTurned", spec := "auditTurned", unfollowed := true, recurses := true, named := ["ingot/hash.words"], apart := false, laid := [("ingot/hash.words", laid_ingot_hash_words)] }
def AuditTurnedSaid : Prop := auditTurnedRow.holds Tryd.pinned (OpenSpec.ofChange auditTurnedSpec)

/-- ITS FALSE NEIGHBOUR: 'it returns false'. Refute it at one input. -/
def auditTurnedWrong : ChangeSpec := { name := "auditTurned", fn := fun _ => fun
  | [d1, d2, d3] => { results := [.lit (.bool false)], args := [d1, d2, d3] }
  | _ => none }
def AuditTurnedWrongFalsely : Prop := auditTurnedRow.holds Tryd.pinned (OpenSpec.ofChange auditTurnedWrong)

/-- 'ingotlaw19.AuditPlays': WHATEVER THE INPUT: true; the input reads as it did. -/
def auditPlaysSpec : ChangeSpec := { name := "auditPlays", fn := fun _ => fun
  | [d] => { results := [.lit (.bool true)], args := [d] }
  | _ => none }
def auditPlaysRow : OpenClaim := { program := "ytpcfpkfchoelcaadoor", sum := "e55da3df4ae625414f86feb070b7d60c0002406a1200161220be79c870ca1dca", func := "ingot/ingotlaw19.AuditPlays", spec := "auditPlays", unfollowed := true, recurses := true, named := ["ingot/hash.words"], apart := false, laid := [("ingot/hash.words", laid_ingot_hash_words)] }
def AuditPlaysSaid : Prop := auditPlaysRow.holds Tryd.pinned (OpenSpec.ofChange auditPlaysSpec)

/-- ITS FALSE NEIGHBOUR: 'it returns false'. Refute it at one input. -/
def auditPlaysWrong : ChangeSpec := { name := "auditPlays", fn := fun _ => fun
  | [d] => { results := [.lit (.bool false)], args := [d] }
  | _ => none }
def AuditPlaysWrongFalsely : Prop := auditPlaysRow.holds Tryd.pinned (OpenSpec.ofChange auditPlaysWrong)

/-- 'ingotlaw19.AuditVerifies': WHATEVER THE INPUT: true; the input reads as it did. -/
def auditVerifiesSpec : ChangeSpec := { name := "auditVerifies", fn := fun _ => fun
  | [d1, d2] => { results := [.lit (.bool true)], args := [d1, d2] }
  | _ => none }
def auditVerifiesRow : OpenClaim := { program := "ytpcfpkfchoelcaadoor", sum := "e55da3df4ae625414f86feb070b7d60c0002406a1200161220be79c870ca1dca", func := "ingot/ingotlaw19.AuditVerifies", spec := "auditVerifies", unfollowed := true, recurses := true, named := ["ingot/hash.words"], apart := false, laid := [("ingot/hash.words", laid_ingot_hash_words)] }
def AuditVerifiesSaid : Prop := auditVerifiesRow.holds Tryd.pinned (OpenSpec.ofChange auditVerifiesSpec)

/-- ITS FALSE NEIGHBOUR: 'it returns false'. Refute it at one input. -/
def auditVerifiesWrong : ChangeSpec := { name := "auditVerifies", fn := fun _ => fun
  | [d1, d2] => { results := [.lit (.bool false)], args := [d1, d2] }
  | _ => none }
def AuditVerifiesWrongFalsely : Prop := auditVerifiesRow.holds Tryd.pinned (OpenSpec.ofChange auditVerifiesWrong)

/- THE SECOND FORM. 'bulk': how many values and letters a reading holds, each counted each time it is reached (what is shared counts as often as it is met; a slice's spare places count too). A statement '..UptoSaid' is the law's where the arguments, and the package variables that the reading takes, are together of bulk at most 1048576: NARROWER than '..Said'. Prove '..Said' where nothing that the law and all that it calls make is longer than what came in: it says more and counts as full. Else prove '..UptoSaid'. A law counts once. -/
mutual
def uptoBulk {H : Type} : DataW H → Nat
  | .lit (.string bytes) => bytes.length + 1
  | .lit _ => 1
  | .nil => 1
  | .ptr d => uptoBulk d + 1
  | .slice elems spare => uptoBulkAll elems + uptoBulkAll spare + 1
  | .agg parts => uptoBulkAll parts + 1
  | .iface _ d => uptoBulk d + 1
  | .map entries => uptoBulkEntries entries + 1
  | .held _ => 1
def uptoBulkAll {H : Type} : List (DataW H) → Nat
  | [] => 0
  | d :: r => uptoBulk d + uptoBulkAll r
def uptoBulkEntries {H : Type} : List (Lit × DataW H) → Nat
  | [] => 0
  | x :: r => uptoBulkEntry x + uptoBulkEntries r
def uptoBulkEntry {H : Type} : Lit × DataW H → Nat
  | (.string bytes, d) => bytes.length + uptoBulk d + 1
  | (_, d) => uptoBulk d + 1
 end
def uptoSmall : (H : Type) → List (DataW H) → Bool := fun _ ds => decide (uptoBulkAll ds ≤ 1048576)
def OpenSpec.upto (s : _root_.Go.ChangeSpec) : _root_.Go.OpenSpec := { _root_.Go.OpenSpec.ofChange s with cond := some uptoSmall }

/-- 'ingotlaw19.AuditBound', WHERE WHAT IT READS IS OF BULK AT MOST 1048576: true; the input reads as it did. -/
def auditBoundUptoRow : OpenClaim := { program := "ytpcfpkfchoelcaadoor", sum := "e55da3df4ae625414f86feb070b7d60c0002406a1200161220be79c870ca1dca", func := "ingot/ingotlaw19.AuditBound", spec := "auditBound", unfollowed := true, recurses := true, named := ["ingot/hash.words"], apart := false, laid := [("ingot/hash.words", laid_ingot_hash_words)], narrowed := true }
def AuditBoundUptoSaid : Prop := auditBoundUptoRow.holds Tryd.pinned (OpenSpec.upto auditBoundSpec)

/-- 'ingotlaw19.AuditNobody', WHERE WHAT IT READS IS OF BULK AT MOST 1048576: true; the input reads as it did. -/
def auditNobodyUptoRow : OpenClaim := { program := "ytpcfpkfchoelcaadoor", sum := "e55da3df4ae625414f86feb070b7d60c0002406a1200161220be79c870ca1dca", func := "ingot/ingotlaw19.AuditNobody", spec := "auditNobody", unfollowed := true, recurses := true, named := ["ingot/hash.words"], apart := false, laid := [("ingot/hash.words", laid_ingot_hash_words)], narrowed := true }
def AuditNobodyUptoSaid : Prop := auditNobodyUptoRow.holds Tryd.pinned (OpenSpec.upto auditNobodySpec)

/-- 'ingotlaw19.AuditChain', WHERE WHAT IT READS IS OF BULK AT MOST 1048576: true; the input reads as it did. -/
def auditChainUptoRow : OpenClaim := { program := "ytpcfpkfchoelcaadoor", sum := "e55da3df4ae625414f86feb070b7d60c0002406a1200161220be79c870ca1dca", func := "ingot/ingotlaw19.AuditChain", spec := "auditChain", unfollowed := true, recurses := true, named := ["ingot/hash.words"], apart := false, laid := [("ingot/hash.words", laid_ingot_hash_words)], narrowed := true }
def AuditChainUptoSaid : Prop := auditChainUptoRow.holds Tryd.pinned (OpenSpec.upto auditChainSpec)

/-- 'ingotlaw19.AuditTurned', WHERE WHAT IT READS IS OF BULK AT MOST 1048576: true; the input reads as it did. -/
def auditTurnedUptoRow : OpenClaim := { program := "ytpcfpkfchoelcaadoor", sum := "e55da3df4ae625414f86feb070b7d60c0002406a1200161220be79c870ca1dca", func := "ingot/ingotlaw19.AuditTurned", spec := "auditTurned", unfollowed := true, recurses := true, named := ["ingot/hash.words"], apart := false, laid := [("ingot/hash.words", laid_ingot_hash_words)], narrowed := true }
def AuditTurnedUptoSaid : Prop := auditTurnedUptoRow.holds Tryd.pinned (OpenSpec.upto auditTurnedSpec)

/-- 'ingotlaw19.AuditPlays', WHERE WHAT IT READS IS OF BULK AT MOST 1048576: true; the input reads as it did. -/
def auditPlaysUptoRow : OpenClaim := { program := "ytpcfpkfchoelcaadoor", sum := "e55da3df4ae625414f86feb070b7d60c0002406a1200161220be79c870ca1dca", func := "ingot/ingotlaw19.AuditPlays", spec := "auditPlays", unfollowed := true, recurses := true, named := ["ingot/hash.words"], apart := false, laid := [("ingot/hash.words", laid_ingot_hash_words)], narrowed := true }
def AuditPlaysUptoSaid : Prop := auditPlaysUptoRow.holds Tryd.pinned (OpenSpec.upto auditPlaysSpec)

/-- 'ingotlaw19.AuditVerifies', WHERE WHAT IT READS IS OF BULK AT MOST 1048576: true; the input reads as it did. -/
def auditVerifiesUptoRow : OpenClaim := { program := "ytpcfpkfchoelcaadoor", sum := "e55da3df4ae625414f86feb070b7d60c0002406a1200161220be79c870ca1dca", func := "ingot/ingotlaw19.AuditVerifies", spec := "auditVerifies", unfollowed := true, recurses := true, named := ["ingot/hash.words"], apart := false, laid := [("ingot/hash.words", laid_ingot_hash_words)], narrowed := true }
def AuditVerifiesUptoSaid : Prop := auditVerifiesUptoRow.holds Tryd.pinned (OpenSpec.upto auditVerifiesSpec)

end Rows
end Go.Proofs.YtpcfpkfchoelcaaDoor
