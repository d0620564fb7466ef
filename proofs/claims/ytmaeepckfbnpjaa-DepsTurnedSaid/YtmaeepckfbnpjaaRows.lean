/-
  No cell of these rows narrows 'for every input' (looked for: loops, veiled, ifaces, maps, wideKeys, modest, calm, conditions, laid).
  DERIVED. THE GIVEN ROWS OF THIS SEAT. 5 by the template 'for every input the law returns true; each argument reads behind the call as it read before'; 0 by the template 'total and deterministic' (their statements: YtmaeepckfbnpjaaTotals.lean).
  GIVEN WITH THE SEED: the statements are not yours to turn. If you find one false, say at which input.
  Laid BY PROGRAM, IN A SANDBOX (cutbox-rows.mjs): the forced cells as the released guide's own fill.sh prints them over the translation 151da838b7664e64… (all of the seat's roots in one cut). By AI agents, Wed Nov 11 2026. No macro, syntax, notation, axiom, sorry.
-/
import Derived.Test.YtmaeepckfbnpjaaChecked
import GoSem.Claim
import GoSem.ClaimJoined
import GoSem.ClaimMapViews
import Derived.JoinedTies
import Derived.KernelRfl
namespace Go.Proofs.Ytmaeepckfbnpjaa
/- THE CELL 'sum', in the pinned program and in every row, IS THE sha256 OF THE DUMP (.gsa) THAT YtmaeepckfbnpjaaProg.lean LOADS. Nothing in Lean hashes anything: it is a label: what it is worth is what the hold of that sum in a sandbox is worth. -/
noncomputable def Try.pinned : Pinned := { name := "ytmaeepckfbnpjaa", sum := "151da838b7664e64a532ebd5f0d1b7518711bebeddf286142077ec891d174e7a", checked := Try.checked }
namespace Rows
def none {H : Type} : Left H := { results := [], args := [] }

/-- 'ingotlaw12.DepsOrders': WHATEVER THE INPUT: true; the input reads as it did. -/
def depsOrdersSpec : ChangeSpec := { name := "depsOrders", fn := fun _ => fun
  | [d] => { results := [.lit (.bool true)], args := [d] }
  | _ => none }
def depsOrdersRow : OpenClaim := { program := "ytmaeepckfbnpjaa", sum := "151da838b7664e64a532ebd5f0d1b7518711bebeddf286142077ec891d174e7a", func := "ingot/ingotlaw12.DepsOrders", spec := "depsOrders", inPlace := ["internal/bytealg.Compare"], unfollowed := true, recurses := true, plainKeys := false, apart := false }
def DepsOrdersSaid : Prop := depsOrdersRow.holds Try.pinned (OpenSpec.ofChange depsOrdersSpec)

/-- ITS FALSE NEIGHBOUR: 'it returns false'. Refute it at one input. -/
def depsOrdersWrong : ChangeSpec := { name := "depsOrders", fn := fun _ => fun
  | [d] => { results := [.lit (.bool false)], args := [d] }
  | _ => none }
def DepsOrdersWrongFalsely : Prop := depsOrdersRow.holds Try.pinned (OpenSpec.ofChange depsOrdersWrong)

/-- 'ingotlaw12.DepsTells': WHATEVER THE INPUT: true; the input reads as it did. -/
def depsTellsSpec : ChangeSpec := { name := "depsTells", fn := fun _ => fun
  | [d1, d2] => { results := [.lit (.bool true)], args := [d1, d2] }
  | _ => none }
def depsTellsRow : OpenClaim := { program := "ytmaeepckfbnpjaa", sum := "151da838b7664e64a532ebd5f0d1b7518711bebeddf286142077ec891d174e7a", func := "ingot/ingotlaw12.DepsTells", spec := "depsTells", inPlace := ["internal/bytealg.Compare"], unfollowed := true, recurses := true, plainKeys := false, apart := false }
def DepsTellsSaid : Prop := depsTellsRow.holds Try.pinned (OpenSpec.ofChange depsTellsSpec)

/-- ITS FALSE NEIGHBOUR: 'it returns false'. Refute it at one input. -/
def depsTellsWrong : ChangeSpec := { name := "depsTells", fn := fun _ => fun
  | [d1, d2] => { results := [.lit (.bool false)], args := [d1, d2] }
  | _ => none }
def DepsTellsWrongFalsely : Prop := depsTellsRow.holds Try.pinned (OpenSpec.ofChange depsTellsWrong)

/-- 'ingotlaw12.DepsBehind': WHATEVER THE INPUT: true; the input reads as it did. -/
def depsBehindSpec : ChangeSpec := { name := "depsBehind", fn := fun _ => fun
  | [d] => { results := [.lit (.bool true)], args := [d] }
  | _ => none }
def depsBehindRow : OpenClaim := { program := "ytmaeepckfbnpjaa", sum := "151da838b7664e64a532ebd5f0d1b7518711bebeddf286142077ec891d174e7a", func := "ingot/ingotlaw12.DepsBehind", spec := "depsBehind", inPlace := ["internal/bytealg.Compare"], unfollowed := true, recurses := true, plainKeys := false, apart := false }
def DepsBehindSaid : Prop := depsBehindRow.holds Try.pinned (OpenSpec.ofChange depsBehindSpec)

/-- ITS FALSE NEIGHBOUR: 'it returns false'. Refute it at one input. -/
def depsBehindWrong : ChangeSpec := { name := "depsBehind", fn := fun _ => fun
  | [d] => { results := [.lit (.bool false)], args := [d] }
  | _ => none }
def DepsBehindWrongFalsely : Prop := depsBehindRow.holds Try.pinned (OpenSpec.ofChange depsBehindWrong)

/-- 'ingotlaw12.DepsTurned': WHATEVER THE INPUT: true; the input reads as it did. -/
def depsTurnedSpec : ChangeSpec := { name := "depsTurned", fn := fun _ => fun
  | [d1, d2, d3] => { results := [.lit (.bool true)], args := [d1, d2, d3] }
  | _ => none }
def depsTurnedRow : OpenClaim := { program := "ytmaeepckfbnpjaa", sum := "151da838b7664e64a532ebd5f0d1b7518711bebeddf286142077ec891d174e7a", func := "ingot/ingotlaw12.DepsTurned", spec := "depsTurned", inPlace := ["internal/bytealg.Compare"], unfollowed := true, recurses := true, plainKeys := false, apart := false }
def DepsTurnedSaid : Prop := depsTurnedRow.holds Try.pinned (OpenSpec.ofChange depsTurnedSpec)

/-- ITS FALSE NEIGHBOUR: 'it returns false'. Refute it at one input. -/
def depsTurnedWrong : ChangeSpec := { name := "depsTurned", fn := fun _ => fun
  | [d1, d2, d3] => { results := [.lit (.bool false)], args := [d1, d2, d3] }
  | _ => none }
def DepsTurnedWrongFalsely : Prop := depsTurnedRow.holds Try.pinned (OpenSpec.ofChange depsTurnedWrong)

/-- 'ingotlaw12.DepsMirror': WHATEVER THE INPUT: true; the input reads as it did. -/
def depsMirrorSpec : ChangeSpec := { name := "depsMirror", fn := fun _ => fun
  | [d1, d2, d3] => { results := [.lit (.bool true)], args := [d1, d2, d3] }
  | _ => none }
def depsMirrorRow : OpenClaim := { program := "ytmaeepckfbnpjaa", sum := "151da838b7664e64a532ebd5f0d1b7518711bebeddf286142077ec891d174e7a", func := "ingot/ingotlaw12.DepsMirror", spec := "depsMirror", inPlace := ["internal/bytealg.Compare"], unfollowed := true, recurses := true, plainKeys := false, apart := false }
def DepsMirrorSaid : Prop := depsMirrorRow.holds Try.pinned (OpenSpec.ofChange depsMirrorSpec)

/-- ITS FALSE NEIGHBOUR: 'it returns false'. Refute it at one input. -/
def depsMirrorWrong : ChangeSpec := { name := "depsMirror", fn := fun _ => fun
  | [d1, d2, d3] => { results := [.lit (.bool false)], args := [d1, d2, d3] }
  | _ => none }
def DepsMirrorWrongFalsely : Prop := depsMirrorRow.holds Try.pinned (OpenSpec.ofChange depsMirrorWrong)

/- THE SECOND FORM. 'bulk': how many values and letters a reading holds, each counted each time it is reached (what is shared counts as often as it is met; a slice's spare places count too). A statement '..UptoSaid' is the law's where the arguments, and the package variables that the reading takes, are together of bulk at most 1048576: NARROWER than '..Said'. Prove '..Said' where nothing that the law and all that it calls make is longer than what came in: it says more and counts as full. Else prove '..UptoSaid'. A law counts once. -/
mutual
def uptoBulk {H : Type} : DataW H → Nat
  | .lit (.string bytes) => bytes.length + 1
  | .lit _ => 1
  | .nil => 1
  | .ptr d => uptoBulk d + 1
  | .slice elems spare => uptoBulkAll elems + uptoBulkAll spare + 1
  | .agg parts => uptoBulkAll parts + 1
  | .iface _ d => uptoBulk d + 1
  | .map entries => uptoBulkEntries entries + 1
  | .held _ => 1
def uptoBulkAll {H : Type} : List (DataW H) → Nat
  | [] => 0
  | d :: r => uptoBulk d + uptoBulkAll r
def uptoBulkEntries {H : Type} : List (Lit × DataW H) → Nat
  | [] => 0
  | x :: r => uptoBulkEntry x + uptoBulkEntries r
def uptoBulkEntry {H : Type} : Lit × DataW H → Nat
  | (.string bytes, d) => bytes.length + uptoBulk d + 1
  | (_, d) => uptoBulk d + 1
 end
def uptoSmall : (H : Type) → List (DataW H) → Bool := fun _ ds => decide (uptoBulkAll ds ≤ 1048576)
def OpenSpec.upto (s : _root_.Go.ChangeSpec) : _root_.Go.OpenSpec := { _root_.Go.OpenSpec.ofChange s with cond := some uptoSmall }

/-- 'ingotlaw12.DepsOrders', WHERE WHAT IT READS IS OF BULK AT MOST 1048576: true; the input reads as it did. -/
def depsOrdersUptoRow : OpenClaim := { program := "ytmaeepckfbnpjaa", sum := "151da838b7664e64a532ebd5f0d1b7518711bebeddf286142077ec891d174e7a", func := "ingot/ingotlaw12.DepsOrders", spec := "depsOrders", inPlace := ["internal/bytealg.Compare"], unfollowed := true, recurses := true, plainKeys := false, apart := false, narrowed := true }
def DepsOrdersUptoSaid : Prop := depsOrdersUptoRow.holds Try.pinned (OpenSpec.upto depsOrdersSpec)

/-- 'ingotlaw12.DepsTells', WHERE WHAT IT READS IS OF BULK AT MOST 1048576: true; the input reads as it did. -/
def depsTellsUptoRow : OpenClaim := { program := "ytmaeepckfbnpjaa", sum := "151da838b7664e64a532ebd5f0d1b7518711bebeddf286142077ec891d174e7a", func := "ingot/ingotlaw12.DepsTells", spec := "depsTells", inPlace := ["internal/bytealg.Compare"], unfollowed := true, recurses := true, plainKeys := false, apart := false, narrowed := true }
def DepsTellsUptoSaid : Prop := depsTellsUptoRow.holds Try.pinned (OpenSpec.upto depsTellsSpec)

/-- 'ingotlaw12.DepsBehind', WHERE WHAT IT READS IS OF BULK AT MOST 1048576: true; the input reads as it did. -/
def depsBehindUptoRow : OpenClaim := { program := "ytmaeepckfbnpjaa", sum := "151da838b7664e64a532ebd5f0d1b7518711bebeddf286142077ec891d174e7a", func := "ingot/ingotlaw12.DepsBehind", spec := "depsBehind", inPlace := ["internal/bytealg.Compare"], unfollowed := true, recurses := true, plainKeys := false, apart := false, narrowed := true }
def DepsBehindUptoSaid : Prop := depsBehindUptoRow.holds Try.pinned (OpenSpec.upto depsBehindSpec)

/-- 'ingotlaw12.DepsTurned', WHERE WHAT IT READS IS OF BULK AT MOST 1048576: true; the input reads as it did. -/
def depsTurnedUptoRow : OpenClaim := { program := "ytmaeepckfbnpjaa", sum := "151da838b7664e64a532ebd5f0d1b7518711bebeddf286142077ec891d174e7a", func := "ingot/ingotlaw12.DepsTurned", spec := "depsTurned", inPlace := ["internal/bytealg.Compare"], unfollowed := true, recurses := true, plainKeys := false, apart := false, narrowed := true }
def DepsTurnedUptoSaid : Prop := depsTurnedUptoRow.holds Try.pinned (OpenSpec.upto depsTurnedSpec)

/-- 'ingotlaw12.DepsMirror', WHERE WHAT IT READS IS OF BULK AT MOST 1048576: true; the input reads as it did. -/
def depsMirrorUptoRow : OpenClaim := { program := "ytmaeepckfbnpjaa", sum := "151da838b7664e64a532ebd5f0d1b7518711bebeddf286142077ec891d174e7a", func := "ingot/ingotlaw12.DepsMirror", spec := "depsMirror", inPlace := ["internal/bytealg.Compare"], unfollowed := true, recurses := true, plainKeys := false, apart := false, narrowed := true }
def DepsMirrorUptoSaid : Prop := depsMirrorUptoRow.holds Try.pinned (OpenSpec.upto depsMirrorSpec)

end Rows
end Go.Proofs.Ytmaeepckfbnpjaa
