/-
  NARROWER THAN 'FOR EVERY INPUT', by the rows' own cells (each row's printed sentence says how): HashSums: laid · HashKnown: laid · HashPieces: laid · HashNobody: laid · HashEqual: laid · MacTags: laid · MacKeys: laid · MacDerives: laid · HashHex: laid · MacChecks: laid.
  DERIVED. THE GIVEN ROWS OF THIS SEAT. 10 by the template 'for every input the law returns true; each argument reads behind the call as it read before'; 0 by the template 'total and deterministic' (their statements: YtlkkajflgpmacaaDoorTotals.lean).
  GIVEN WITH THE SEED: the statements are not yours to turn. If you find one false, say at which input.
  Laid BY PROGRAM, IN A SANDBOX (cutbox-rows.mjs): the forced cells as the released guide's own fill.sh prints them over the translation e493fdf4e3afd239… (all of the seat's roots in one cut). By AI agents, Wed Nov 11 2026. No macro, syntax, notation, axiom, sorry.
-/
import Derived.Test.YtlkkajflgpmacaaDoorChecked
import GoSem.Claim
import GoSem.ClaimJoined
import GoSem.ClaimMapViews
import Derived.JoinedTies
import Derived.KernelRfl
namespace Go.Proofs.YtlkkajflgpmacaaDoor
/- THE CELL 'sum', in the pinned program and in every row, IS THE sha256 OF THE DUMP (.gsa) THAT YtlkkajflgpmacaaDoorProg.lean LOADS. Nothing in Lean hashes anything: it is a label: what it is worth is what the hold of that sum in a sandbox is worth. -/
noncomputable def Tryd.pinned : Pinned := { name := "ytlkkajflgpmacaadoor", sum := "e493fdf4e3afd2393901c4fed34f4ab08956f966db09ac086da38ddc0c4a140f", checked := Tryd.checked }
namespace Rows
def none {H : Type} : Left H := { results := [], args := [] }

/- WHAT THE LISTED PACKAGE-LEVEL VARIABLES READ AS WHEN THE CALL BEGINS. Each datum BY PROGRAM (the guide's laid-datum.mjs) off the statement by which the dump's own 'gosem.cut.vars' lays the variable. In a bare row this is a premise. The card (YtlkkajflgpmacaaDoorCards.lean) ties it to the program's text. -/
def laid_ingot_hash_words {H : Type} : DataW H := .agg [.lit (.int .u32 1116352408), .lit (.int .u32 1899447441), .lit (.int .u32 3049323471), .lit (.int .u32 3921009573), .lit (.int .u32 961987163), .lit (.int .u32 1508970993), .lit (.int .u32 2453635748), .lit (.int .u32 2870763221), .lit (.int .u32 3624381080), .lit (.int .u32 310598401), .lit (.int .u32 607225278), .lit (.int .u32 1426881987), .lit (.int .u32 1925078388), .lit (.int .u32 2162078206), .lit (.int .u32 2614888103), .lit (.int .u32 3248222580), .lit (.int .u32 3835390401), .lit (.int .u32 4022224774), .lit (.int .u32 264347078), .lit (.int .u32 604807628), .lit (.int .u32 770255983), .lit (.int .u32 1249150122), .lit (.int .u32 1555081692), .lit (.int .u32 1996064986), .lit (.int .u32 2554220882), .lit (.int .u32 2821834349), .lit (.int .u32 2952996808), .lit (.int .u32 3210313671), .lit (.int .u32 3336571891), .lit (.int .u32 3584528711), .lit (.int .u32 113926993), .lit (.int .u32 338241895), .lit (.int .u32 666307205), .lit (.int .u32 773529912), .lit (.int .u32 1294757372), .lit (.int .u32 1396182291), .lit (.int .u32 1695183700), .lit (.int .u32 1986661051), .lit (.int .u32 2177026350), .lit (.int .u32 2456956037), .lit (.int .u32 2730485921), .lit (.int .u32 2820302411), .lit (.int .u32 3259730800), .lit (.int .u32 3345764771), .lit (.int .u32 3516065817), .lit (.int .u32 3600352804), .lit (.int .u32 4094571909), .lit (.int .u32 275423344), .lit (.int .u32 430227734), .lit (.int .u32 506948616), .lit (.int .u32 659060556), .lit (.int .u32 883997877), .lit (.int .u32 958139571), .lit (.int .u32 1322822218), .lit (.int .u32 1537002063), .lit (.int .u32 1747873779), .lit (.int .u32 1955562222), .lit (.int .u32 2024104815), .lit (.int .u32 2227730452), .lit (.int .u32 2361852424), .lit (.int .u32 2428436474), .lit (.int .u32 2756734187), .lit (.int .u32 3204031479), .lit (.int .u32 3329325298)]

/-- 'ingotlaw02.HashSums': WHATEVER THE INPUT: true; the input reads as it did. -/
def hashSumsSpec : ChangeSpec := { name := "hashSums", fn := fun _ => fun
  | [d] => { results := [.lit (.bool true)], args := [d] }
  | _ => none }
def hashSumsRow : OpenClaim := { program := "ytlkkajflgpmacaadoor", sum := "e493fdf4e3afd2393901c4fed34f4ab08956f966db09ac086da38ddc0c4a140f", func := "ingot/ingotlaw02.HashSums", spec := "hashSums", named := ["ingot/hash.words"], apart := false, laid := [("ingot/hash.words", laid_ingot_hash_words)] }
def HashSumsSaid : Prop := hashSumsRow.holds Tryd.pinned (OpenSpec.ofChange hashSumsSpec)

/-- ITS FALSE NEIGHBOUR: 'it returns false'. Refute it at one input. -/
def hashSumsWrong : ChangeSpec := { name := "hashSums", fn := fun _ => fun
  | [d] => { results := [.lit (.bool false)], args := [d] }
  | _ => none }
def HashSumsWrongFalsely : Prop := hashSumsRow.holds Tryd.pinned (OpenSpec.ofChange hashSumsWrong)

/-- 'ingotlaw02.HashKnown': WHATEVER THE INPUT: true; the input reads as it did. -/
def hashKnownSpec : ChangeSpec := { name := "hashKnown", fn := fun _ => fun
  | [] => { results := [.lit (.bool true)], args := [] }
  | _ => none }
def hashKnownRow : OpenClaim := { program := "ytlkkajflgpmacaadoor", sum := "e493fdf4e3afd2393901c4fed34f4ab08956f966db09ac086da38ddc0c4a140f", func := "ingot/ingotlaw02.HashKnown", spec := "hashKnown", named := ["ingot/hash.words"], apart := false, laid := [("ingot/hash.words", laid_ingot_hash_words)] }
def HashKnownSaid : Prop := hashKnownRow.holds Tryd.pinned (OpenSpec.ofChange hashKnownSpec)

/-- ITS FALSE NEIGHBOUR: 'it returns false'. Refute it at one input. -/
def hashKnownWrong : ChangeSpec := { name := "hashKnown", fn := fun _ => fun
  | [] => { results := [.lit (.bool false)], args := [] }
  | _ => none }
def HashKnownWrongFalsely : Prop := hashKnownRow.holds Tryd.pinned (OpenSpec.ofChange hashKnownWrong)

/-- 'ingotlaw02.HashPieces': WHATEVER THE INPUT: true; the input reads as it did. -/
def hashPiecesSpec : ChangeSpec := { name := "hashPieces", fn := fun _ => fun
  | [d1, d2] => { results := [.lit (.bool true)], args := [d1, d2] }
  | _ => none }
def hashPiecesRow : OpenClaim := { program := "ytlkkajflgpmacaadoor", sum := "e493fdf4e3afd2393901c4fed34f4ab08956f966db09ac086da38ddc0c4a140f", func := "ingot/ingotlaw02.HashPieces", spec := "hashPieces", named := ["ingot/hash.words"], apart := false, laid := [("ingot/hash.words", laid_ingot_hash_words)] }
def HashPiecesSaid : Prop := hashPiecesRow.holds Tryd.pinned (OpenSpec.ofChange hashPiecesSpec)

/-- ITS FALSE NEIGHBOUR: 'it returns false'. Refute it at one input. -/
def hashPiecesWrong : ChangeSpec := { name := "hashPieces", fn := fun _ => fun
  | [d1, d2] => { results := [.lit (.bool false)], args := [d1, d2] }
  | _ => none }
def HashPiecesWrongFalsely : Prop := hashPiecesRow.holds Tryd.pinned (OpenSpec.ofChange hashPiecesWrong)

/-- 'ingotlaw02.HashNobody': WHATEVER THE INPUT: true; the input reads as it did. -/
def hashNobodySpec : ChangeSpec := { name := "hashNobody", fn := fun _ => fun
  | [d] => { results := [.lit (.bool true)], args := [d] }
  | _ => none }
def hashNobodyRow : OpenClaim := { program := "ytlkkajflgpmacaadoor", sum := "e493fdf4e3afd2393901c4fed34f4ab08956f966db09ac086da38ddc0c4a140f", func := "ingot/ingotlaw02.HashNobody", spec := "hashNobody", named := ["ingot/hash.words"], apart := false, laid := [("ingot/hash.words", laid_ingot_hash_words)] }
def HashNobodySaid : Prop := hashNobodyRow.holds Tryd.pinned (OpenSpec.ofChange hashNobodySpec)

/-- ITS FALSE NEIGHBOUR: 'it returns false'. Refute it at one input. -/
def hashNobodyWrong : ChangeSpec := { name := "hashNobody", fn := fun _ => fun
  | [d] => { results := [.lit (.bool false)], args := [d] }
  | _ => none }
def HashNobodyWrongFalsely : Prop := hashNobodyRow.holds Tryd.pinned (OpenSpec.ofChange hashNobodyWrong)

/-- 'ingotlaw02.HashEqual': WHATEVER THE INPUT: true; the input reads as it did. -/
def hashEqualSpec : ChangeSpec := { name := "hashEqual", fn := fun _ => fun
  | [d1, d2, d3] => { results := [.lit (.bool true)], args := [d1, d2, d3] }
  | _ => none }
def hashEqualRow : OpenClaim := { program := "ytlkkajflgpmacaadoor", sum := "e493fdf4e3afd2393901c4fed34f4ab08956f966db09ac086da38ddc0c4a140f", func := "ingot/ingotlaw02.HashEqual", spec := "hashEqual", named := ["ingot/hash.words"], apart := false, laid := [("ingot/hash.words", laid_ingot_hash_words)] }
def HashEqualSaid : Prop := hashEqualRow.holds Tryd.pinned (OpenSpec.ofChange hashEqualSpec)

/-- ITS FALSE NEIGHBOUR: 'it returns false'. Refute it at one input. -/
def hashEqualWrong : ChangeSpec := { name := "hashEqual", fn := fun _ => fun
  | [d1, d2, d3] => { results := [.lit (.bool false)], args := [d1, d2, d3] }
  | _ => none }
def HashEqualWrongFalsely : Prop := hashEqualRow.holds Tryd.pinned (OpenSpec.ofChange hashEqualWrong)

/-- 'ingotlaw03.MacTags': WHATEVER THE INPUT: true; the input reads as it did. -/
def macTagsSpec : ChangeSpec := { name := "macTags", fn := fun _ => fun
  | [d1, d2] => { results := [.lit (.bool true)], args := [d1, d2] }
  | _ => none }
def macTagsRow : OpenClaim := { program := "ytlkkajflgpmacaadoor", sum := "e493fdf4e3afd2393901c4fed34f4ab08956f966db09ac086da38ddc0c4a140f", func := "ingot/ingotlaw03.MacTags", spec := "macTags", unfollowed := true, recurses := true, named := ["ingot/hash.words"], apart := false, laid := [("ingot/hash.words", laid_ingot_hash_words)] }
def MacTagsSaid : Prop := macTagsRow.holds Tryd.pinned (OpenSpec.ofChange macTagsSpec)

/-- ITS FALSE NEIGHBOUR: 'it returns false'. Refute it at one input. -/
def macTagsWrong : ChangeSpec := { name := "macTags", fn := fun _ => fun
  | [d1, d2] => { results := [.lit (.bool false)], args := [d1, d2] }
  | _ => none }
def MacTagsWrongFalsely : Prop := macTagsRow.holds Tryd.pinned (OpenSpec.ofChange macTagsWrong)

/-- 'ingotlaw03.MacKeys': WHATEVER THE INPUT: true; the input reads as it did. -/
def macKeysSpec : ChangeSpec := { name := "macKeys", fn := fun _ => fun
  | [d1, d2, d3] => { results := [.lit (.bool true)], args := [d1, d2, d3] }
  | _ => none }
def macKeysRow : OpenClaim := { program := "ytlkkajflgpmacaadoor", sum := "e493fdf4e3afd2393901c4fed34f4ab08956f966db09ac086da38ddc0c4a140f", func := "ingot/ingotlaw03.MacKeys", spec := "macKeys", unfollowed := true, recurses := true, named := ["ingot/hash.words"], apart := false, laid := [("ingot/hash.words", laid_ingot_hash_words)] }
def MacKeysSaid : Prop := macKeysRow.holds Tryd.pinned (OpenSpec.ofChange macKeysSpec)

/-- ITS FALSE NEIGHBOUR: 'it returns false'. Refute it at one input. -/
def macKeysWrong : ChangeSpec := { name := "macKeys", fn := fun _ => fun
  | [d1, d2, d3] => { results := [.lit (.bool false)], args := [d1, d2, d3] }
  | _ => none }
def MacKeysWrongFalsely : Prop := macKeysRow.holds Tryd.pinned (OpenSpec.ofChange macKeysWrong)

/-- 'ingotlaw03.MacDerives': WHATEVER THE INPUT: true; the input reads as it did. -/
def macDerivesSpec : ChangeSpec := { name := "macDerives", fn := fun _ => fun
  | [d1, d2] => { results := [.lit (.bool true)], args := [d1, d2] }
  | _ => none }
def macDerivesRow : OpenClaim := { program := "ytlkkajflgpmacaadoor", sum := "e493fdf4e3afd2393901c4fed34f4ab08956f966db09ac086da38ddc0c4a140f", func := "ingot/ingotlaw03.MacDerives", spec := "macDerives", unfollowed := true, recurses := true, named := ["ingot/hash.words"], apart := false, laid := [("ingot/hash.words", laid_ingot_hash_words)] }
def MacDerivesSaid : Prop := macDerivesRow.holds Tryd.pinned (OpenSpec.ofChange macDerivesSpec)

/-- ITS FALSE NEIGHBOUR: 'it returns false'. Refute it at one input. -/
def macDerivesWrong : ChangeSpec := { name := "macDerives", fn := fun _ => fun
  | [d1, d2] => { results := [.lit (.bool false)], args := [d1, d2] }
  | _ => none }
def MacDerivesWrongFalsely : Prop := macDerivesRow.holds Tryd.pinned (OpenSpec.ofChange macDerivesWrong)

/-- 'ingotlaw02.HashHex': WHATEVER THE INPUT: true; the input reads as it did. -/
def hashHexSpec : ChangeSpec := { name := "hashHex", fn := fun _ => fun
  | [d1, d2] => { results := [.lit (.bool true)], args := [d1, d2] }
  | _ => none }
def hashHexRow : OpenClaim := { program := "ytlkkajflgpmacaadoor", sum := "e493fdf4e3afd2393901c4fed34f4ab08956f966db09ac086da38ddc0c4a140f", func := "ingot/ingotlaw02.HashHex", spec := "hashHex", named := ["ingot/hash.words"], apart := false, laid := [("ingot/hash.words", laid_ingot_hash_words)] }
def HashHexSaid : Prop := hashHexRow.holds Tryd.pinned (OpenSpec.ofChange hashHexSpec)

/-- ITS FALSE NEIGHBOUR: 'it returns false'. Refute it at one input. -/
def hashHexWrong : ChangeSpec := { name := "hashHex", fn := fun _ => fun
  | [d1, d2] => { results := [.lit (.bool false)], args := [d1, d2] }
  | _ => none }
def HashHexWrongFalsely : Prop := hashHexRow.holds Tryd.pinned (OpenSpec.ofChange hashHexWrong)

/-- 'ingotlaw03.MacChecks': WHATEVER THE INPUT: true; the input reads as it did. -/
def macChecksSpec : ChangeSpec := { name := "macChecks", fn := fun _ => fun
  | [d1, d2, d3] => { results := [.lit (.bool true)], args := [d1, d2, d3] }
  | _ => none }
def macChecksRow : OpenClaim := { program := "ytlkkajflgpmacaadoor", sum := "e493fdf4e3afd2393901c4fed34f4ab08956f966db09ac086da38ddc0c4a140f", func := "ingot/ingotlaw03.MacChecks", spec := "macChecks", unfollowed := true, recurses := true, named := ["ingot/hash.words"], apart := false, laid := [("ingot/hash.words", laid_ingot_hash_words)] }
def MacChecksSaid : Prop := macChecksRow.holds Tryd.pinned (OpenSpec.ofChange macChecksSpec)

/-- ITS FALSE NEIGHBOUR: 'it returns false'. Refute it at one input. -/
def macChecksWrong : ChangeSpec := { name := "macChecks", fn := fun _ => fun
  | [d1, d2, d3] => { results := [.lit (.bool false)], args := [d1, d2, d3] }
  | _ => none }
def MacChecksWrongFalsely : Prop := macChecksRow.holds Tryd.pinned (OpenSpec.ofChange macChecksWrong)

/- THE SECOND FORM. 'bulk': how many values and letters a reading holds, each counted each time it is reached (what is shared counts as often as it is met; a slice's spare places count too). A statement '..UptoSaid' is the law's where the arguments, and the package variables that the reading takes, are together of bulk at most 1048576: NARROWER than '..Said'. Prove '..Said' where nothing that the law and all that it calls make is longer than what came in: it says more and counts as full. Else prove '..UptoSaid'. A law counts once. -/
mutual
def uptoBulk {H : Type} : DataW H → Nat
  | .lit (.string bytes) => bytes.length + 1
  | .lit _ => 1
  | .nil => 1
  | .ptr d => uptoBulk d + 1
  | .slice elems spare => uptoBulkAll elems + uptoBulkAll spare + 1
  | .agg parts => uptoBulkAll parts + 1
  | .iface _ d => uptoBulk d + 1
  | .map entries => uptoBulkEntries entries + 1
  | .held _ => 1
def uptoBulkAll {H : Type} : List (DataW H) → Nat
  | [] => 0
  | d :: r => uptoBulk d + uptoBulkAll r
def uptoBulkEntries {H : Type} : List (Lit × DataW H) → Nat
  | [] => 0
  | x :: r => uptoBulkEntry x + uptoBulkEntries r
def uptoBulkEntry {H : Type} : Lit × DataW H → Nat
  | (.string bytes, d) => bytes.length + uptoBulk d + 1
  | (_, d) => uptoBulk d + 1
 end
def uptoSmall : (H : Type) → List (DataW H) → Bool := fun _ ds => decide (uptoBulkAll ds ≤ 1048576)
def OpenSpec.upto (s : _root_.Go.ChangeSpec) : _root_.Go.OpenSpec := { _root_.Go.OpenSpec.ofChange s with cond := some uptoSmall }

/-- 'ingotlaw02.HashSums', WHERE WHAT IT READS IS OF BULK AT MOST 1048576: true; the input reads as it did. -/
def hashSumsUptoRow : OpenClaim := { program := "ytlkkajflgpmacaadoor", sum := "e493fdf4e3afd2393901c4fed34f4ab08956f966db09ac086da38ddc0c4a140f", func := "ingot/ingotlaw02.HashSums", spec := "hashSums", named := ["ingot/hash.words"], apart := false, laid := [("ingot/hash.words", laid_ingot_hash_words)], narrowed := true }
def HashSumsUptoSaid : Prop := hashSumsUptoRow.holds Tryd.pinned (OpenSpec.upto hashSumsSpec)

/-- 'ingotlaw02.HashKnown', WHERE WHAT IT READS IS OF BULK AT MOST 1048576: true; the input reads as it did. -/
def hashKnownUptoRow : OpenClaim := { program := "ytlkkajflgpmacaadoor", sum := "e493fdf4e3afd2393901c4fed34f4ab08956f966db09ac086da38ddc0c4a140f", func := "ingot/ingotlaw02.HashKnown", spec := "hashKnown", named := ["ingot/hash.words"], apart := false, laid := [("ingot/hash.words", laid_ingot_hash_words)], narrowed := true }
def HashKnownUptoSaid : Prop := hashKnownUptoRow.holds Tryd.pinned (OpenSpec.upto hashKnownSpec)

/-- 'ingotlaw02.HashPieces', WHERE WHAT IT READS IS OF BULK AT MOST 1048576: true; the input reads as it did. -/
def hashPiecesUptoRow : OpenClaim := { program := "ytlkkajflgpmacaadoor", sum := "e493fdf4e3afd2393901c4fed34f4ab08956f966db09ac086da38ddc0c4a140f", func := "ingot/ingotlaw02.HashPieces", spec := "hashPieces", named := ["ingot/hash.words"], apart := false, laid := [("ingot/hash.words", laid_ingot_hash_words)], narrowed := true }
def HashPiecesUptoSaid : Prop := hashPiecesUptoRow.holds Tryd.pinned (OpenSpec.upto hashPiecesSpec)

/-- 'ingotlaw02.HashNobody', WHERE WHAT IT READS IS OF BULK AT MOST 1048576: true; the input reads as it did. -/
def hashNobodyUptoRow : OpenClaim := { program := "ytlkkajflgpmacaadoor", sum := "e493fdf4e3afd2393901c4fed34f4ab08956f966db09ac086da38ddc0c4a140f", func := "ingot/ingotlaw02.HashNobody", spec := "hashNobody", named := ["ingot/hash.words"], apart := false, laid := [("ingot/hash.words", laid_ingot_hash_words)], narrowed := true }
def HashNobodyUptoSaid : Prop := hashNobodyUptoRow.holds Tryd.pinned (OpenSpec.upto hashNobodySpec)

/-- 'ingotlaw02.HashEqual', WHERE WHAT IT READS IS OF BULK AT MOST 1048576: true; the input reads as it did. -/
def hashEqualUptoRow : OpenClaim := { program := "ytlkkajflgpmacaadoor", sum := "e493fdf4e3afd2393901c4fed34f4ab08956f966db09ac086da38ddc0c4a140f", func := "ingot/ingotlaw02.HashEqual", spec := "hashEqual", named := ["ingot/hash.words"], apart := false, laid := [("ingot/hash.words", laid_ingot_hash_words)], narrowed := true }
def HashEqualUptoSaid : Prop := hashEqualUptoRow.holds Tryd.pinned (OpenSpec.upto hashEqualSpec)

/-- 'ingotlaw03.MacTags', WHERE WHAT IT READS IS OF BULK AT MOST 1048576: true; the input reads as it did. -/
def macTagsUptoRow : OpenClaim := { program := "ytlkkajflgpmacaadoor", sum := "e493fdf4e3afd2393901c4fed34f4ab08956f966db09ac086da38ddc0c4a140f", func := "ingot/ingotlaw03.MacTags", spec := "macTags", unfollowed := true, recurses := true, named := ["ingot/hash.words"], apart := false, laid := [("ingot/hash.words", laid_ingot_hash_words)], narrowed := true }
def MacTagsUptoSaid : Prop := macTagsUptoRow.holds Tryd.pinned (OpenSpec.upto macTagsSpec)

/-- 'ingotlaw03.MacKeys', WHERE WHAT IT READS IS OF BULK AT MOST 1048576: true; the input reads as it did. -/
def macKeysUptoRow : OpenClaim := { program := "ytlkkajflgpmacaadoor", sum := "e493fdf4e3afd2393901c4fed34f4ab08956f966db09ac086da38ddc0c4a140f", func := "ingot/ingotlaw03.MacKeys", spec := "macKeys", unfollowed := true, recurses := true, named := ["ingot/hash.words"], apart := false, laid := [("ingot/hash.words", laid_ingot_hash_words)], narrowed := true }
def MacKeysUptoSaid : Prop := macKeysUptoRow.holds Tryd.pinned (OpenSpec.upto macKeysSpec)

/-- 'ingotlaw03.MacDerives', WHERE WHAT IT READS IS OF BULK AT MOST 1048576: true; the input reads as it did. -/
def macDerivesUptoRow : OpenClaim := { program := "ytlkkajflgpmacaadoor", sum := "e493fdf4e3afd2393901c4fed34f4ab08956f966db09ac086da38ddc0c4a140f", func := "ingot/ingotlaw03.MacDerives", spec := "macDerives", unfollowed := true, recurses := true, named := ["ingot/hash.words"], apart := false, laid := [("ingot/hash.words", laid_ingot_hash_words)], narrowed := true }
def MacDerivesUptoSaid : Prop := macDerivesUptoRow.holds Tryd.pinned (OpenSpec.upto macDerivesSpec)

/-- 'ingotlaw02.HashHex', WHERE WHAT IT READS IS OF BULK AT MOST 1048576: true; the input reads as it did. -/
def hashHexUptoRow : OpenClaim := { program := "ytlkkajflgpmacaadoor", sum := "e493fdf4e3afd2393901c4fed34f4ab08956f966db09ac086da38ddc0c4a140f", func := "ingot/ingotlaw02.HashHex", spec := "hashHex", named := ["ingot/hash.words"], apart := false, laid := [("ingot/hash.words", laid_ingot_hash_words)], narrowed := true }
def HashHexUptoSaid : Prop := hashHexUptoRow.holds Tryd.pinned (OpenSpec.upto hashHexSpec)

/-- 'ingotlaw03.MacChecks', WHERE WHAT IT READS IS OF BULK AT MOST 1048576: true; the input reads as it did. -/
def macChecksUptoRow : OpenClaim := { program := "ytlkkajflgpmacaadoor", sum := "e493fdf4e3afd2393901c4fed34f4ab08956f966db09ac086da38ddc0c4a140f", func := "ingot/ingotlaw03.MacChecks", spec := "macChecks", unfollowed := true, recurses := true, named := ["ingot/hash.words"], apart := false, laid := [("ingot/hash.words", laid_ingot_hash_words)], narrowed := true }
def MacChecksUptoSaid : Prop := macChecksUptoRow.holds Tryd.pinned (OpenSpec.upto macChecksSpec)

end Rows
end Go.Proofs.YtlkkajflgpmacaaDoor
