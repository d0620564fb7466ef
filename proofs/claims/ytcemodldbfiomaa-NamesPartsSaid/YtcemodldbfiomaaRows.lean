/-
  No cell of these rows narrows 'for every input' (looked for: loops, veiled, ifaces, maps, wideKeys, modest, calm, conditions, laid).
  DERIVED. THE GIVEN ROWS OF THIS SEAT. 5 by the template 'for every input the law returns true; each argument reads behind the call as it read before'; 0 by the template 'total and deterministic' (their statements: YtcemodldbfiomaaTotals.lean).
  GIVEN WITH THE SEED: the statements are not yours to turn. If you find one false, say at which input.
  Laid BY PROGRAM, IN A SANDBOX (cutbox-rows.mjs): the forced cells as the released guide's own fill.sh prints them over the translation 2dfdd03ebb58bf08… (all of the seat's roots in one cut). By AI agents, Wed Nov 11 2026. No macro, syntax, notation, axiom, sorry.
-/
import Derived.Test.YtcemodldbfiomaaChecked
import GoSem.Claim
import GoSem.ClaimJoined
import GoSem.ClaimMapViews
import Derived.JoinedTies
import Derived.KernelRfl
namespace Go.Proofs.Ytcemodldbfiomaa
/- THE CELL 'sum', in the pinned program and in every row, IS THE sha256 OF THE DUMP (.gsa) THAT YtcemodldbfiomaaProg.lean LOADS. Nothing in Lean hashes anything: it is a label: what it is worth is what the hold of that sum in a sandbox is worth. -/
noncomputable def Try.pinned : Pinned := { name := "ytcemodldbfiomaa", sum := "2dfdd03ebb58bf0898f0bd2723cd1e1a20f7033084694940930bca7f3e4518fd", checked := Try.checked }
namespace Rows
def none {H : Type} : Left H := { results := [], args := [] }

/-- 'ingotlaw09.NamesTells': WHATEVER THE INPUT: true; the input reads as it did. -/
def namesTellsSpec : ChangeSpec := { name := "namesTells", fn := fun _ => fun
  | [d] => { results := [.lit (.bool true)], args := [d] }
  | _ => none }
def namesTellsRow : OpenClaim := { program := "ytcemodldbfiomaa", sum := "2dfdd03ebb58bf0898f0bd2723cd1e1a20f7033084694940930bca7f3e4518fd", func := "ingot/ingotlaw09.NamesTells", spec := "namesTells", inPlace := ["internal/bytealg.IndexByteString", "internal/bytealg.IndexString"], unfollowed := true, recurses := true, named := ["internal/bytealg.MaxLen"], apart := false }
def NamesTellsSaid : Prop := namesTellsRow.holds Try.pinned (OpenSpec.ofChange namesTellsSpec)

/-- ITS FALSE NEIGHBOUR: 'it returns false'. Refute it at one input. -/
def namesTellsWrong : ChangeSpec := { name := "namesTells", fn := fun _ => fun
  | [d] => { results := [.lit (.bool false)], args := [d] }
  | _ => none }
def NamesTellsWrongFalsely : Prop := namesTellsRow.holds Try.pinned (OpenSpec.ofChange namesTellsWrong)

/-- 'ingotlaw09.NamesLongest': WHATEVER THE INPUT: true; the input reads as it did. -/
def namesLongestSpec : ChangeSpec := { name := "namesLongest", fn := fun _ => fun
  | [d1, d2] => { results := [.lit (.bool true)], args := [d1, d2] }
  | _ => none }
def namesLongestRow : OpenClaim := { program := "ytcemodldbfiomaa", sum := "2dfdd03ebb58bf0898f0bd2723cd1e1a20f7033084694940930bca7f3e4518fd", func := "ingot/ingotlaw09.NamesLongest", spec := "namesLongest", inPlace := ["internal/bytealg.IndexByteString", "internal/bytealg.IndexString"], unfollowed := true, recurses := true, named := ["internal/bytealg.MaxLen"], apart := false }
def NamesLongestSaid : Prop := namesLongestRow.holds Try.pinned (OpenSpec.ofChange namesLongestSpec)

/-- ITS FALSE NEIGHBOUR: 'it returns false'. Refute it at one input. -/
def namesLongestWrong : ChangeSpec := { name := "namesLongest", fn := fun _ => fun
  | [d1, d2] => { results := [.lit (.bool false)], args := [d1, d2] }
  | _ => none }
def NamesLongestWrongFalsely : Prop := namesLongestRow.holds Try.pinned (OpenSpec.ofChange namesLongestWrong)

/-- 'ingotlaw09.NamesOrder': WHATEVER THE INPUT: true; the input reads as it did. -/
def namesOrderSpec : ChangeSpec := { name := "namesOrder", fn := fun _ => fun
  | [d1, d2, d3] => { results := [.lit (.bool true)], args := [d1, d2, d3] }
  | _ => none }
def namesOrderRow : OpenClaim := { program := "ytcemodldbfiomaa", sum := "2dfdd03ebb58bf0898f0bd2723cd1e1a20f7033084694940930bca7f3e4518fd", func := "ingot/ingotlaw09.NamesOrder", spec := "namesOrder", inPlace := ["internal/bytealg.IndexByteString", "internal/bytealg.IndexString"], unfollowed := true, recurses := true, named := ["internal/bytealg.MaxLen"], apart := false }
def NamesOrderSaid : Prop := namesOrderRow.holds Try.pinned (OpenSpec.ofChange namesOrderSpec)

/-- ITS FALSE NEIGHBOUR: 'it returns false'. Refute it at one input. -/
def namesOrderWrong : ChangeSpec := { name := "namesOrder", fn := fun _ => fun
  | [d1, d2, d3] => { results := [.lit (.bool false)], args := [d1, d2, d3] }
  | _ => none }
def NamesOrderWrongFalsely : Prop := namesOrderRow.holds Try.pinned (OpenSpec.ofChange namesOrderWrong)

/-- 'ingotlaw09.NamesCovers': WHATEVER THE INPUT: true; the input reads as it did. -/
def namesCoversSpec : ChangeSpec := { name := "namesCovers", fn := fun _ => fun
  | [d1, d2] => { results := [.lit (.bool true)], args := [d1, d2] }
  | _ => none }
def namesCoversRow : OpenClaim := { program := "ytcemodldbfiomaa", sum := "2dfdd03ebb58bf0898f0bd2723cd1e1a20f7033084694940930bca7f3e4518fd", func := "ingot/ingotlaw09.NamesCovers", spec := "namesCovers", inPlace := ["internal/bytealg.IndexByteString", "internal/bytealg.IndexString"], unfollowed := true, recurses := true, named := ["internal/bytealg.MaxLen"], apart := false }
def NamesCoversSaid : Prop := namesCoversRow.holds Try.pinned (OpenSpec.ofChange namesCoversSpec)

/-- ITS FALSE NEIGHBOUR: 'it returns false'. Refute it at one input. -/
def namesCoversWrong : ChangeSpec := { name := "namesCovers", fn := fun _ => fun
  | [d1, d2] => { results := [.lit (.bool false)], args := [d1, d2] }
  | _ => none }
def NamesCoversWrongFalsely : Prop := namesCoversRow.holds Try.pinned (OpenSpec.ofChange namesCoversWrong)

/-- 'ingotlaw09.NamesParts': WHATEVER THE INPUT: true; the input reads as it did. -/
def namesPartsSpec : ChangeSpec := { name := "namesParts", fn := fun _ => fun
  | [d1, d2] => { results := [.lit (.bool true)], args := [d1, d2] }
  | _ => none }
def namesPartsRow : OpenClaim := { program := "ytcemodldbfiomaa", sum := "2dfdd03ebb58bf0898f0bd2723cd1e1a20f7033084694940930bca7f3e4518fd", func := "ingot/ingotlaw09.NamesParts", spec := "namesParts", inPlace := ["internal/bytealg.IndexByteString", "internal/bytealg.IndexString"], unfollowed := true, recurses := true, named := ["internal/bytealg.MaxLen"], apart := false }
def NamesPartsSaid : Prop := namesPartsRow.holds Try.pinned (OpenSpec.ofChange namesPartsSpec)

/-- ITS FALSE NEIGHBOUR: 'it returns false'. Refute it at one input. -/
def namesPartsWrong : ChangeSpec := { name := "namesParts", fn := fun _ => fun
  | [d1, d2] => { results := [.lit (.bool false)], args := [d1, d2] }
  | _ => none }
def NamesPartsWrongFalsely : Prop := namesPartsRow.holds Try.pinned (OpenSpec.ofChange namesPartsWrong)

/- THE SECOND FORM. 'bulk': how many values and letters a reading holds, each counted each time it is reached (what is shared counts as often as it is met; a slice's spare places count too). A statement '..UptoSaid' is the law's where the arguments, and the package variables that the reading takes, are together of bulk at most 1048576: NARROWER than '..Said'. Prove '..Said' where nothing that the law and all that it calls make is longer than what came in: it says more and counts as full. Else prove '..UptoSaid'. A law counts once. -/
mutual
def uptoBulk {H : Type} : DataW H → Nat
  | .lit (.string bytes) => bytes.length + 1
  | .lit _ => 1
  | .nil => 1
  | .ptr d => uptoBulk d + 1
  | .slice elems spare => uptoBulkAll elems + uptoBulkAll spare + 1
  | .agg parts => uptoBulkAll parts + 1
  | .iface _ d => uptoBulk d + 1
  | .map entries => uptoBulkEntries entries + 1
  | .held _ => 1
def uptoBulkAll {H : Type} : List (DataW H) → Nat
  | [] => 0
  | d :: r => uptoBulk d + uptoBulkAll r
def uptoBulkEntries {H : Type} : List (Lit × DataW H) → Nat
  | [] => 0
  | x :: r => uptoBulkEntry x + uptoBulkEntries r
def uptoBulkEntry {H : Type} : Lit × DataW H → Nat
  | (.string bytes, d) => bytes.length + uptoBulk d + 1
  | (_, d) => uptoBulk d + 1
 end
def uptoSmall : (H : Type) → List (DataW H) → Bool := fun _ ds => decide (uptoBulkAll ds ≤ 1048576)
def OpenSpec.upto (s : _root_.Go.ChangeSpec) : _root_.Go.OpenSpec := { _root_.Go.OpenSpec.ofChange s with cond := some uptoSmall }

/-- 'ingotlaw09.NamesTells', WHERE WHAT IT READS IS OF BULK AT MOST 1048576: true; the input reads as it did. -/
def namesTellsUptoRow : OpenClaim := { program := "ytcemodldbfiomaa", sum := "2dfdd03ebb58bf0898f0bd2723cd1e1a20f7033084694940930bca7f3e4518fd", func := "ingot/ingotlaw09.NamesTells", spec := "namesTells", inPlace := ["internal/bytealg.IndexByteString", "internal/bytealg.IndexString"], unfollowed := true, recurses := true, named := ["internal/bytealg.MaxLen"], apart := false, narrowed := true }
def NamesTellsUptoSaid : Prop := namesTellsUptoRow.holds Try.pinned (OpenSpec.upto namesTellsSpec)

/-- 'ingotlaw09.NamesLongest', WHERE WHAT IT READS IS OF BULK AT MOST 1048576: true; the input reads as it did. -/
def namesLongestUptoRow : OpenClaim := { program := "ytcemodldbfiomaa", sum := "2dfdd03ebb58bf0898f0bd2723cd1e1a20f7033084694940930bca7f3e4518fd", func := "ingot/ingotlaw09.NamesLongest", spec := "namesLongest", inPlace := ["internal/bytealg.IndexByteString", "internal/bytealg.IndexString"], unfollowed := true, recurses := true, named := ["internal/bytealg.MaxLen"], apart := false, narrowed := true }
def NamesLongestUptoSaid : Prop := namesLongestUptoRow.holds Try.pinned (OpenSpec.upto namesLongestSpec)

/-- 'ingotlaw09.NamesOrder', WHERE WHAT IT READS IS OF BULK AT MOST 1048576: true; the input reads as it did. -/
def namesOrderUptoRow : OpenClaim := { program := "ytcemodldbfiomaa", sum := "2dfdd03ebb58bf0898f0bd2723cd1e1a20f7033084694940930bca7f3e4518fd", func := "ingot/ingotlaw09.NamesOrder", spec := "namesOrder", inPlace := ["internal/bytealg.IndexByteString", "internal/bytealg.IndexString"], unfollowed := true, recurses := true, named := ["internal/bytealg.MaxLen"], apart := false, narrowed := true }
def NamesOrderUptoSaid : Prop := namesOrderUptoRow.holds Try.pinned (OpenSpec.upto namesOrderSpec)

/-- 'ingotlaw09.NamesCovers', WHERE WHAT IT READS IS OF BULK AT MOST 1048576: true; the input reads as it did. -/
def namesCoversUptoRow : OpenClaim := { program := "ytcemodldbfiomaa", sum := "2dfdd03ebb58bf0898f0bd2723cd1e1a20f7033084694940930bca7f3e4518fd", func := "ingot/ingotlaw09.NamesCovers", spec := "namesCovers", inPlace := ["internal/bytealg.IndexByteString", "internal/bytealg.IndexString"], unfollowed := true, recurses := true, named := ["internal/bytealg.MaxLen"], apart := false, narrowed := true }
def NamesCoversUptoSaid : Prop := namesCoversUptoRow.holds Try.pinned (OpenSpec.upto namesCoversSpec)

/-- 'ingotlaw09.NamesParts', WHERE WHAT IT READS IS OF BULK AT MOST 1048576: true; the input reads as it did. -/
def namesPartsUptoRow : OpenClaim := { program := "ytcemodldbfiomaa", sum := "2dfdd03ebb58bf0898f0bd2723cd1e1a20f7033084694940930bca7f3e4518fd", func := "ingot/ingotlaw09.NamesParts", spec := "namesParts", inPlace := ["internal/bytealg.IndexByteString", "internal/bytealg.IndexString"], unfollowed := true, recurses := true, named := ["internal/bytealg.MaxLen"], apart := false, narrowed := true }
def NamesPartsUptoSaid : Prop := namesPartsUptoRow.holds Try.pinned (OpenSpec.upto namesPartsSpec)

end Rows
end Go.Proofs.Ytcemodldbfiomaa
