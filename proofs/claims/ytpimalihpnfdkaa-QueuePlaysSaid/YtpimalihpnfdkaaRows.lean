/-
  No cell of these rows narrows 'for every input' (looked for: loops, veiled, ifaces, maps, wideKeys, modest, calm, conditions, laid).
  DERIVED. THE GIVEN ROWS OF THIS SEAT. 10 by the template 'for every input the law returns true; each argument reads behind the call as it read before'; 0 by the template 'total and deterministic' (their statements: YtpimalihpnfdkaaTotals.lean).
  GIVEN WITH THE SEED: the statements are not yours to turn. If you find one false, say at which input.
  Laid BY PROGRAM, IN A SANDBOX (cutbox-rows.mjs): the forced cells as the released guide's own fill.sh prints them over the translation 1f90b01653178751… (all of the seat's roots in one cut). By AI agents, Wed Nov 11 2026. No macro, syntax, notation, axiom, sorry.
-/
import Derived.Test.YtpimalihpnfdkaaChecked
import GoSem.Claim
import GoSem.ClaimJoined
import GoSem.ClaimMapViews
import Derived.JoinedTies
import Derived.KernelRfl
namespace Go.Proofs.Ytpimalihpnfdkaa
/- THE CELL 'sum', in the pinned program and in every row, IS THE sha256 OF THE DUMP (.gsa) THAT YtpimalihpnfdkaaProg.lean LOADS. Nothing in Lean hashes anything: it is a label: what it is worth is what the hold of that sum in a sandbox is worth. -/
noncomputable def Try.pinned : Pinned := { name := "ytpimalihpnfdkaa", sum := "1f90b016531787511d92db4a441567dbba5c60f079ce007363720772c91ec9cb", checked := Try.checked }
namespace Rows
def none {H : Type} : Left H := { results := [], args := [] }

/-- 'ingotlaw18.QuotaRate': WHATEVER THE INPUT: true; the input reads as it did. -/
def quotaRateSpec : ChangeSpec := { name := "quotaRate", fn := fun _ => fun
  | [d1, d2] => { results := [.lit (.bool true)], args := [d1, d2] }
  | _ => none }
def quotaRateRow : OpenClaim := { program := "ytpimalihpnfdkaa", sum := "1f90b016531787511d92db4a441567dbba5c60f079ce007363720772c91ec9cb", func := "ingot/ingotlaw18.QuotaRate", spec := "quotaRate", apart := false }
def QuotaRateSaid : Prop := quotaRateRow.holds Try.pinned (OpenSpec.ofChange quotaRateSpec)

/-- ITS FALSE NEIGHBOUR: 'it returns false'. Refute it at one input. -/
def quotaRateWrong : ChangeSpec := { name := "quotaRate", fn := fun _ => fun
  | [d1, d2] => { results := [.lit (.bool false)], args := [d1, d2] }
  | _ => none }
def QuotaRateWrongFalsely : Prop := quotaRateRow.holds Try.pinned (OpenSpec.ofChange quotaRateWrong)

/-- 'ingotlaw18.QuotaNever': WHATEVER THE INPUT: true; the input reads as it did. -/
def quotaNeverSpec : ChangeSpec := { name := "quotaNever", fn := fun _ => fun
  | [d1, d2] => { results := [.lit (.bool true)], args := [d1, d2] }
  | _ => none }
def quotaNeverRow : OpenClaim := { program := "ytpimalihpnfdkaa", sum := "1f90b016531787511d92db4a441567dbba5c60f079ce007363720772c91ec9cb", func := "ingot/ingotlaw18.QuotaNever", spec := "quotaNever", apart := false }
def QuotaNeverSaid : Prop := quotaNeverRow.holds Try.pinned (OpenSpec.ofChange quotaNeverSpec)

/-- ITS FALSE NEIGHBOUR: 'it returns false'. Refute it at one input. -/
def quotaNeverWrong : ChangeSpec := { name := "quotaNever", fn := fun _ => fun
  | [d1, d2] => { results := [.lit (.bool false)], args := [d1, d2] }
  | _ => none }
def QuotaNeverWrongFalsely : Prop := quotaNeverRow.holds Try.pinned (OpenSpec.ofChange quotaNeverWrong)

/-- 'ingotlaw18.QuotaBack': WHATEVER THE INPUT: true; the input reads as it did. -/
def quotaBackSpec : ChangeSpec := { name := "quotaBack", fn := fun _ => fun
  | [d1, d2, d3] => { results := [.lit (.bool true)], args := [d1, d2, d3] }
  | _ => none }
def quotaBackRow : OpenClaim := { program := "ytpimalihpnfdkaa", sum := "1f90b016531787511d92db4a441567dbba5c60f079ce007363720772c91ec9cb", func := "ingot/ingotlaw18.QuotaBack", spec := "quotaBack", apart := false }
def QuotaBackSaid : Prop := quotaBackRow.holds Try.pinned (OpenSpec.ofChange quotaBackSpec)

/-- ITS FALSE NEIGHBOUR: 'it returns false'. Refute it at one input. -/
def quotaBackWrong : ChangeSpec := { name := "quotaBack", fn := fun _ => fun
  | [d1, d2, d3] => { results := [.lit (.bool false)], args := [d1, d2, d3] }
  | _ => none }
def QuotaBackWrongFalsely : Prop := quotaBackRow.holds Try.pinned (OpenSpec.ofChange quotaBackWrong)

/-- 'ingotlaw18.QuotaPlays': WHATEVER THE INPUT: true; the input reads as it did. -/
def quotaPlaysSpec : ChangeSpec := { name := "quotaPlays", fn := fun _ => fun
  | [d1, d2] => { results := [.lit (.bool true)], args := [d1, d2] }
  | _ => none }
def quotaPlaysRow : OpenClaim := { program := "ytpimalihpnfdkaa", sum := "1f90b016531787511d92db4a441567dbba5c60f079ce007363720772c91ec9cb", func := "ingot/ingotlaw18.QuotaPlays", spec := "quotaPlays", apart := false }
def QuotaPlaysSaid : Prop := quotaPlaysRow.holds Try.pinned (OpenSpec.ofChange quotaPlaysSpec)

/-- ITS FALSE NEIGHBOUR: 'it returns false'. Refute it at one input. -/
def quotaPlaysWrong : ChangeSpec := { name := "quotaPlays", fn := fun _ => fun
  | [d1, d2] => { results := [.lit (.bool false)], args := [d1, d2] }
  | _ => none }
def QuotaPlaysWrongFalsely : Prop := quotaPlaysRow.holds Try.pinned (OpenSpec.ofChange quotaPlaysWrong)

/-- 'ingotlaw18.QuotaNobody': WHATEVER THE INPUT: true; the input reads as it did. -/
def quotaNobodySpec : ChangeSpec := { name := "quotaNobody", fn := fun _ => fun
  | [d] => { results := [.lit (.bool true)], args := [d] }
  | _ => none }
def quotaNobodyRow : OpenClaim := { program := "ytpimalihpnfdkaa", sum := "1f90b016531787511d92db4a441567dbba5c60f079ce007363720772c91ec9cb", func := "ingot/ingotlaw18.QuotaNobody", spec := "quotaNobody", apart := false }
def QuotaNobodySaid : Prop := quotaNobodyRow.holds Try.pinned (OpenSpec.ofChange quotaNobodySpec)

/-- ITS FALSE NEIGHBOUR: 'it returns false'. Refute it at one input. -/
def quotaNobodyWrong : ChangeSpec := { name := "quotaNobody", fn := fun _ => fun
  | [d] => { results := [.lit (.bool false)], args := [d] }
  | _ => none }
def QuotaNobodyWrongFalsely : Prop := quotaNobodyRow.holds Try.pinned (OpenSpec.ofChange quotaNobodyWrong)

/-- 'ingotlaw21.QueueProgress': WHATEVER THE INPUT: true; the input reads as it did. -/
def queueProgressSpec : ChangeSpec := { name := "queueProgress", fn := fun _ => fun
  | [d1, d2, d3] => { results := [.lit (.bool true)], args := [d1, d2, d3] }
  | _ => none }
def queueProgressRow : OpenClaim := { program := "ytpimalihpnfdkaa", sum := "1f90b016531787511d92db4a441567dbba5c60f079ce007363720772c91ec9cb", func := "ingot/ingotlaw21.QueueProgress", spec := "queueProgress", unfollowed := true, recurses := true, apart := false }
def QueueProgressSaid : Prop := queueProgressRow.holds Try.pinned (OpenSpec.ofChange queueProgressSpec)

/-- ITS FALSE NEIGHBOUR: 'it returns false'. Refute it at one input. -/
def queueProgressWrong : ChangeSpec := { name := "queueProgress", fn := fun _ => fun
  | [d1, d2, d3] => { results := [.lit (.bool false)], args := [d1, d2, d3] }
  | _ => none }
def QueueProgressWrongFalsely : Prop := queueProgressRow.holds Try.pinned (OpenSpec.ofChange queueProgressWrong)

/-- 'ingotlaw21.QueueOrder': WHATEVER THE INPUT: true; the input reads as it did. -/
def queueOrderSpec : ChangeSpec := { name := "queueOrder", fn := fun _ => fun
  | [d] => { results := [.lit (.bool true)], args := [d] }
  | _ => none }
def queueOrderRow : OpenClaim := { program := "ytpimalihpnfdkaa", sum := "1f90b016531787511d92db4a441567dbba5c60f079ce007363720772c91ec9cb", func := "ingot/ingotlaw21.QueueOrder", spec := "queueOrder", unfollowed := true, recurses := true, apart := false }
def QueueOrderSaid : Prop := queueOrderRow.holds Try.pinned (OpenSpec.ofChange queueOrderSpec)

/-- ITS FALSE NEIGHBOUR: 'it returns false'. Refute it at one input. -/
def queueOrderWrong : ChangeSpec := { name := "queueOrder", fn := fun _ => fun
  | [d] => { results := [.lit (.bool false)], args := [d] }
  | _ => none }
def QueueOrderWrongFalsely : Prop := queueOrderRow.holds Try.pinned (OpenSpec.ofChange queueOrderWrong)

/-- 'ingotlaw21.QueueInner': WHATEVER THE INPUT: true; the input reads as it did. -/
def queueInnerSpec : ChangeSpec := { name := "queueInner", fn := fun _ => fun
  | [d1, d2, d3] => { results := [.lit (.bool true)], args := [d1, d2, d3] }
  | _ => none }
def queueInnerRow : OpenClaim := { program := "ytpimalihpnfdkaa", sum := "1f90b016531787511d92db4a441567dbba5c60f079ce007363720772c91ec9cb", func := "ingot/ingotlaw21.QueueInner", spec := "queueInner", unfollowed := true, recurses := true, apart := false }
def QueueInnerSaid : Prop := queueInnerRow.holds Try.pinned (OpenSpec.ofChange queueInnerSpec)

/-- ITS FALSE NEIGHBOUR: 'it returns false'. Refute it at one input. -/
def queueInnerWrong : ChangeSpec := { name := "queueInner", fn := fun _ => fun
  | [d1, d2, d3] => { results := [.lit (.bool false)], args := [d1, d2, d3] }
  | _ => none }
def QueueInnerWrongFalsely : Prop := queueInnerRow.holds Try.pinned (OpenSpec.ofChange queueInnerWrong)

/-- 'ingotlaw21.QueuePlays': WHATEVER THE INPUT: true; the input reads as it did. -/
def queuePlaysSpec : ChangeSpec := { name := "queuePlays", fn := fun _ => fun
  | [d] => { results := [.lit (.bool true)], args := [d] }
  | _ => none }
def queuePlaysRow : OpenClaim := { program := "ytpimalihpnfdkaa", sum := "1f90b016531787511d92db4a441567dbba5c60f079ce007363720772c91ec9cb", func := "ingot/ingotlaw21.QueuePlays", spec := "queuePlays", unfollowed := true, recurses := true, apart := false }
def QueuePlaysSaid : Prop := queuePlaysRow.holds Try.pinned (OpenSpec.ofChange queuePlaysSpec)

/-- ITS FALSE NEIGHBOUR: 'it returns false'. Refute it at one input. -/
def queuePlaysWrong : ChangeSpec := { name := "queuePlays", fn := fun _ => fun
  | [d] => { results := [.lit (.bool false)], args := [d] }
  | _ => none }
def QueuePlaysWrongFalsely : Prop := queuePlaysRow.holds Try.pinned (OpenSpec.ofChange queuePlaysWrong)

/-- 'ingotlaw21.QueueNobody': WHATEVER THE INPUT: true; the input reads as it did. -/
def queueNobodySpec : ChangeSpec := { name := "queueNobody", fn := fun _ => fun
  | [d] => { results := [.lit (.bool true)], args := [d] }
  | _ => none }
def queueNobodyRow : OpenClaim := { program := "ytpimalihpnfdkaa", sum := "1f90b016531787511d92db4a441567dbba5c60f079ce007363720772c91ec9cb", func := "ingot/ingotlaw21.QueueNobody", spec := "queueNobody", unfollowed := true, recurses := true, apart := false }
def QueueNobodySaid : Prop := queueNobodyRow.holds Try.pinned (OpenSpec.ofChange queueNobodySpec)

/-- ITS FALSE NEIGHBOUR: 'it returns false'. Refute it at one input. -/
def queueNobodyWrong : ChangeSpec := { name := "queueNobody", fn := fun _ => fun
  | [d] => { results := [.lit (.bool false)], args := [d] }
  | _ => none }
def QueueNobodyWrongFalsely : Prop := queueNobodyRow.holds Try.pinned (OpenSpec.ofChange queueNobodyWrong)

/- THE SECOND FORM. 'bulk': how many values and letters a reading holds, each counted each time it is reached (what is shared counts as often as it is met; a slice's spare places count too). A statement '..UptoSaid' is the law's where the arguments, and the package variables that the reading takes, are together of bulk at most 1048576: NARROWER than '..Said'. Prove '..Said' where nothing that the law and all that it calls make is longer than what came in: it says more and counts as full. Else prove '..UptoSaid'. A law counts once. -/
mutual
def uptoBulk {H : Type} : DataW H → Nat
  | .lit (.string bytes) => bytes.length + 1
  | .lit _ => 1
  | .nil => 1
  | .ptr d => uptoBulk d + 1
  | .slice elems spare => uptoBulkAll elems + uptoBulkAll spare + 1
  | .agg parts => uptoBulkAll parts + 1
  | .iface _ d => uptoBulk d + 1
  | .map entries => uptoBulkEntries entries + 1
  | .held _ => 1
def uptoBulkAll {H : Type} : List (DataW H) → Nat
  | [] => 0
  | d :: r => uptoBulk d + uptoBulkAll r
def uptoBulkEntries {H : Type} : List (Lit × DataW H) → Nat
  | [] => 0
  | x :: r => uptoBulkEntry x + uptoBulkEntries r
def uptoBulkEntry {H : Type} : Lit × DataW H → Nat
  | (.string bytes, d) => bytes.length + uptoBulk d + 1
  | (_, d) => uptoBulk d + 1
 end
def uptoSmall : (H : Type) → List (DataW H) → Bool := fun _ ds => decide (uptoBulkAll ds ≤ 1048576)
def OpenSpec.upto (s : _root_.Go.ChangeSpec) : _root_.Go.OpenSpec := { _root_.Go.OpenSpec.ofChange s with cond := some uptoSmall }

/-- 'ingotlaw18.QuotaRate', WHERE WHAT IT READS IS OF BULK AT MOST 1048576: true; the input reads as it did. -/
def quotaRateUptoRow : OpenClaim := { program := "ytpimalihpnfdkaa", sum := "1f90b016531787511d92db4a441567dbba5c60f079ce007363720772c91ec9cb", func := "ingot/ingotlaw18.QuotaRate", spec := "quotaRate", apart := false, narrowed := true }
def QuotaRateUptoSaid : Prop := quotaRateUptoRow.holds Try.pinned (OpenSpec.upto quotaRateSpec)

/-- 'ingotlaw18.QuotaNever', WHERE WHAT IT READS IS OF BULK AT MOST 1048576: true; the input reads as it did. -/
def quotaNeverUptoRow : OpenClaim := { program := "ytpimalihpnfdkaa", sum := "1f90b016531787511d92db4a441567dbba5c60f079ce007363720772c91ec9cb", func := "ingot/ingotlaw18.QuotaNever", spec := "quotaNever", apart := false, narrowed := true }
def QuotaNeverUptoSaid : Prop := quotaNeverUptoRow.holds Try.pinned (OpenSpec.upto quotaNeverSpec)

/-- 'ingotlaw18.QuotaBack', WHERE WHAT IT READS IS OF BULK AT MOST 1048576: true; the input reads as it did. -/
def quotaBackUptoRow : OpenClaim := { program := "ytpimalihpnfdkaa", sum := "1f90b016531787511d92db4a441567dbba5c60f079ce007363720772c91ec9cb", func := "ingot/ingotlaw18.QuotaBack", spec := "quotaBack", apart := false, narrowed := true }
def QuotaBackUptoSaid : Prop := quotaBackUptoRow.holds Try.pinned (OpenSpec.upto quotaBackSpec)

/-- 'ingotlaw18.QuotaPlays', WHERE WHAT IT READS IS OF BULK AT MOST 1048576: true; the input reads as it did. -/
def quotaPlaysUptoRow : OpenClaim := { program := "ytpimalihpnfdkaa", sum := "1f90b016531787511d92db4a441567dbba5c60f079ce007363720772c91ec9cb", func := "ingot/ingotlaw18.QuotaPlays", spec := "quotaPlays", apart := false, narrowed := true }
def QuotaPlaysUptoSaid : Prop := quotaPlaysUptoRow.holds Try.pinned (OpenSpec.upto quotaPlaysSpec)

/-- 'ingotlaw18.QuotaNobody', WHERE WHAT IT READS IS OF BULK AT MOST 1048576: true; the input reads as it did. -/
def quotaNobodyUptoRow : OpenClaim := { program := "ytpimalihpnfdkaa", sum := "1f90b016531787511d92db4a441567dbba5c60f079ce007363720772c91ec9cb", func := "ingot/ingotlaw18.QuotaNobody", spec := "quotaNobody", apart := false, narrowed := true }
def QuotaNobodyUptoSaid : Prop := quotaNobodyUptoRow.holds Try.pinned (OpenSpec.upto quotaNobodySpec)

/-- 'ingotlaw21.QueueProgress', WHERE WHAT IT READS IS OF BULK AT MOST 1048576: true; the input reads as it did. -/
def queueProgressUptoRow : OpenClaim := { program := "ytpimalihpnfdkaa", sum := "1f90b016531787511d92db4a441567dbba5c60f079ce007363720772c91ec9cb", func := "ingot/ingotlaw21.QueueProgress", spec := "queueProgress", unfollowed := true, recurses := true, apart := false, narrowed := true }
def QueueProgressUptoSaid : Prop := queueProgressUptoRow.holds Try.pinned (OpenSpec.upto queueProgressSpec)

/-- 'ingotlaw21.QueueOrder', WHERE WHAT IT READS IS OF BULK AT MOST 1048576: true; the input reads as it did. -/
def queueOrderUptoRow : OpenClaim := { program := "ytpimalihpnfdkaa", sum := "1f90b016531787511d92db4a441567dbba5c60f079ce007363720772c91ec9cb", func := "ingot/ingotlaw21.QueueOrder", spec := "queueOrder", unfollowed := true, recurses := true, apart := false, narrowed := true }
def QueueOrderUptoSaid : Prop := queueOrderUptoRow.holds Try.pinned (OpenSpec.upto queueOrderSpec)

/-- 'ingotlaw21.QueueInner', WHERE WHAT IT READS IS OF BULK AT MOST 1048576: true; the input reads as it did. -/
def queueInnerUptoRow : OpenClaim := { program := "ytpimalihpnfdkaa", sum := "1f90b016531787511d92db4a441567dbba5c60f079ce007363720772c91ec9cb", func := "ingot/ingotlaw21.QueueInner", spec := "queueInner", unfollowed := true, recurses := true, apart := false, narrowed := true }
def QueueInnerUptoSaid : Prop := queueInnerUptoRow.holds Try.pinned (OpenSpec.upto queueInnerSpec)

/-- 'ingotlaw21.QueuePlays', WHERE WHAT IT READS IS OF BULK AT MOST 1048576: true; the input reads as it did. -/
def queuePlaysUptoRow : OpenClaim := { program := "ytpimalihpnfdkaa", sum := "1f90b016531787511d92db4a441567dbba5c60f079ce007363720772c91ec9cb", func := "ingot/ingotlaw21.QueuePlays", spec := "queuePlays", unfollowed := true, recurses := true, apart := false, narrowed := true }
def QueuePlaysUptoSaid : Prop := queuePlaysUptoRow.holds Try.pinned (OpenSpec.upto queuePlaysSpec)

/-- 'ingotlaw21.QueueNobody', WHERE WHAT IT READS IS OF BULK AT MOST 1048576: true; the input reads as it did. -/
def queueNobodyUptoRow : OpenClaim := { program := "ytpimalihpnfdkaa", sum := "1f90b016531787511d92db4a441567dbba5c60f079ce007363720772c91ec9cb", func := "ingot/ingotlaw21.QueueNobody", spec := "queueNobody", unfollowed := true, recurses := true, apart := false, narrowed := true }
def QueueNobodyUptoSaid : Prop := queueNobodyUptoRow.holds Try.pinned (OpenSpec.upto queueNobodySpec)

end Rows
end Go.Proofs.Ytpimalihpnfdkaa
