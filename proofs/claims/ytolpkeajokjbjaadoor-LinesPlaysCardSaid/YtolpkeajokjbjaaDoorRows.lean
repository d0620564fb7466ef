/-
  NARROWER THAN 'FOR EVERY INPUT', by the rows' own cells (each row's printed sentence says how): LinesPlain: laid · LinesOrder: laid · LinesUndo: laid · LinesPlays: laid · LinesEither: laid · LinesNobody: laid.
  DERIVED. THE GIVEN ROWS OF THIS SEAT. 6 by the template 'for every input the law returns true; each argument reads behind the call as it read before'; 0 by the template 'total and deterministic' (their statements: YtolpkeajokjbjaaDoorTotals.lean).
  GIVEN WITH THE SEED: the statements are not yours to turn. If you find one false, say at which input.
  Laid BY PROGRAM, IN A SANDBOX (cutbox-rows.mjs): the forced cells as the released guide's own fill.sh prints them over the translation 6851e3ef209b7193… (all of the seat's roots in one cut). By AI agents, Wed Nov 11 2026. No macro, syntax, notation, axiom, sorry.
-/
import Derived.Test.YtolpkeajokjbjaaDoorChecked
import GoSem.Claim
import GoSem.ClaimJoined
import GoSem.ClaimMapViews
import Derived.JoinedTies
import Derived.KernelRfl
namespace Go.Proofs.YtolpkeajokjbjaaDoor
/- THE CELL 'sum', in the pinned program and in every row, IS THE sha256 OF THE DUMP (.gsa) THAT YtolpkeajokjbjaaDoorProg.lean LOADS. Nothing in Lean hashes anything: it is a label: what it is worth is what the hold of that sum in a sandbox is worth. -/
noncomputable def Tryd.pinned : Pinned := { name := "ytolpkeajokjbjaadoor", sum := "6851e3ef209b71932bd16c3f90e873443aba00bf55604874150df140d772874e", checked := Tryd.checked }
namespace Rows
def none {H : Type} : Left H := { results := [], args := [] }

/- WHAT THE LISTED PACKAGE-LEVEL VARIABLES READ AS WHEN THE CALL BEGINS. Each datum BY PROGRAM (the guide's laid-datum.mjs) off the statement by which the dump's own 'gosem.cut.vars' lays the variable. In a bare row this is a premise. The card (YtolpkeajokjbjaaDoorCards.lean) ties it to the program's text. -/
def laid_ingot_lines_bottom {H : Type} : DataW H := .agg [.agg [.lit (.int .u8 0), .lit (.int .u8 0), .lit (.int .u8 0), .lit (.int .u8 0), .lit (.int .u8 0), .lit (.int .u8 0), .lit (.int .u8 0), .lit (.int .u8 0), .lit (.int .u8 0), .lit (.int .u8 0), .lit (.int .u8 0), .lit (.int .u8 0), .lit (.int .u8 0), .lit (.int .u8 0), .lit (.int .u8 0), .lit (.int .u8 0), .lit (.int .u8 0), .lit (.int .u8 0), .lit (.int .u8 0), .lit (.int .u8 0), .lit (.int .u8 0), .lit (.int .u8 0), .lit (.int .u8 0), .lit (.int .u8 0), .lit (.int .u8 0), .lit (.int .u8 0), .lit (.int .u8 0), .lit (.int .u8 0), .lit (.int .u8 0), .lit (.int .u8 0), .lit (.int .u8 0), .lit (.int .u8 0)], .lit (.int .i64 1)]

/-- 'ingotlaw11.LinesPlain': WHATEVER THE INPUT: true; the input reads as it did. -/
def linesPlainSpec : ChangeSpec := { name := "linesPlain", fn := fun _ => fun
  | [d] => { results := [.lit (.bool true)], args := [d] }
  | _ => none }
def linesPlainRow : OpenClaim := { program := "ytolpkeajokjbjaadoor", sum := "6851e3ef209b71932bd16c3f90e873443aba00bf55604874150df140d772874e", func := "ingot/ingotlaw11.LinesPlain", spec := "linesPlain", inPlace := ["internal/bytealg.Compare"], unfollowed := true, recurses := true, named := ["ingot/lines.bottom"], plainKeys := false, apart := false, laid := [("ingot/lines.bottom", laid_ingot_lines_bottom)] }
def LinesPlainSaid : Prop := linesPlainRow.holds Tryd.pinned (OpenSpec.ofChange linesPlainSpec)

/-- ITS FALSE NEIGHBOUR: 'it returns false'. Refute it at one input. -/
def linesPlainWrong : ChangeSpec := { name := "linesPlain", fn := fun _ => fun
  | [d] => { results := [.lit (.bool false)], args := [d] }
  | _ => none }
def LinesPlainWrongFalsely : Prop := linesPlainRow.holds Tryd.pinned (OpenSpec.ofChange linesPlainWrong)

/-- 'ingotlaw11.LinesOrder': WHATEVER THE INPUT: true; the input reads as it did. -/
def linesOrderSpec : ChangeSpec := { name := "linesOrder", fn := fun _ => fun
  | [d] => { results := [.lit (.bool true)], args := [d] }
  | _ => none }
def linesOrderRow : OpenClaim := { program := "ytolpkeajokjbjaadoor", sum := "6851e3ef209b71932bd16c3f90e873443aba00bf55604874150df140d772874e", func := "ingot/ingotlaw11.LinesOrder", spec := "linesOrder", inPlace := ["internal/bytealg.Compare"], unfollowed := true, recurses := true, named := ["ingot/lines.bottom"], plainKeys := false, apart := false, laid := [("ingot/lines.bottom", laid_ingot_lines_bottom)] }
def LinesOrderSaid : Prop := linesOrderRow.holds Tryd.pinned (OpenSpec.ofChange linesOrderSpec)

/-- ITS FALSE NEIGHBOUR: 'it returns false'. Refute it at one input. -/
def linesOrderWrong : ChangeSpec := { name := "linesOrder", fn := fun _ => fun
  | [d] => { results := [.lit (.bool false)], args := [d] }
  | _ => none }
def LinesOrderWrongFalsely : Prop := linesOrderRow.holds Tryd.pinned (OpenSpec.ofChange linesOrderWrong)

/-- 'ingotlaw11.LinesUndo': WHATEVER THE INPUT: true; the input reads as it did. -/
def linesUndoSpec : ChangeSpec := { name := "linesUndo", fn := fun _ => fun
  | [d1, d2] => { results := [.lit (.bool true)], args := [d1, d2] }
  | _ => none }
def linesUndoRow : OpenClaim := { program := "ytolpkeajokjbjaadoor", sum := "6851e3ef209b71932bd16c3f90e873443aba00bf55604874150df140d772874e", func := "ingot/ingotlaw11.LinesUndo", spec := "linesUndo", inPlace := ["internal/bytealg.Compare"], unfollowed := true, recurses := true, named := ["ingot/lines.bottom"], plainKeys := false, apart := false, laid := [("ingot/lines.bottom", laid_ingot_lines_bottom)] }
def LinesUndoSaid : Prop := linesUndoRow.holds Tryd.pinned (OpenSpec.ofChange linesUndoSpec)

/-- ITS FALSE NEIGHBOUR: 'it returns false'. Refute it at one input. -/
def linesUndoWrong : ChangeSpec := { name := "linesUndo", fn := fun _ => fun
  | [d1, d2] => { results := [.lit (.bool false)], args := [d1, d2] }
  | _ => none }
def LinesUndoWrongFalsely : Prop := linesUndoRow.holds Tryd.pinned (OpenSpec.ofChange linesUndoWrong)

/-- 'ingotlaw11.LinesPlays': WHATEVER THE INPUT: true; the input reads as it did. -/
def linesPlaysSpec : ChangeSpec := { name := "linesPlays", fn := fun _ => fun
  | [d] => { results := [.lit (.bool true)], args := [d] }
  | _ => none }
def linesPlaysRow : OpenClaim := { program := "ytolpkeajokjbjaadoor", sum := "6851e3ef209b71932bd16c3f90e873443aba00bf55604874150df140d772874e", func := "ingot/ingotlaw11.LinesPlays", spec := "linesPlays", inPlace := ["internal/bytealg.Compare"], unfollowed := true, recurses := true, named := ["ingot/lines.bottom"], plainKeys := false, apart := false, laid := [("ingot/lines.bottom", laid_ingot_lines_bottom)] }
def LinesPlaysSaid : Prop := linesPlaysRow.holds Tryd.pinned (OpenSpec.ofChange linesPlaysSpec)

/-- ITS FALSE NEIGHBOUR: 'it returns false'. Refute it at one input. -/
def linesPlaysWrong : ChangeSpec := { name := "linesPlays", fn := fun _ => fun
  | [d] => { results := [.lit (.bool false)], args := [d] }
  | _ => none }
def LinesPlaysWrongFalsely : Prop := linesPlaysRow.holds Tryd.pinned (OpenSpec.ofChange linesPlaysWrong)

/-- 'ingotlaw11.LinesEither': WHATEVER THE INPUT: true; the input reads as it did. -/
def linesEitherSpec : ChangeSpec := { name := "linesEither", fn := fun _ => fun
  | [d1, d2, d3] => { results := [.lit (.bool true)], args := [d1, d2, d3] }
  | _ => none }
def linesEitherRow : OpenClaim := { program := "ytolpkeajokjbjaadoor", sum := "6851e3ef209b71932bd16c3f90e873443aba00bf55604874150df140d772874e", func := "ingot/ingotlaw11.LinesEither", spec := "linesEither", inPlace := ["internal/bytealg.Compare"], unfollowed := true, recurses := true, named := ["ingot/lines.bottom"], plainKeys := false, apart := false, laid := [("ingot/lines.bottom", laid_ingot_lines_bottom)] }
def LinesEitherSaid : Prop := linesEitherRow.holds Tryd.pinned (OpenSpec.ofChange linesEitherSpec)

/-- ITS FALSE NEIGHBOUR: 'it returns false'. Refute it at one input. -/
def linesEitherWrong : ChangeSpec := { name := "linesEither", fn := fun _ => fun
  | [d1, d2, d3] => { results := [.lit (.bool false)], args := [d1, d2, d3] }
  | _ => none }
def LinesEitherWrongFalsely : Prop := linesEitherRow.holds Tryd.pinned (OpenSpec.ofChange linesEitherWrong)

/-- 'ingotlaw11.LinesNobody': WHATEVER THE INPUT: true; the input reads as it did. -/
def linesNobodySpec : ChangeSpec := { name := "linesNobody", fn := fun _ => fun
  | [d] => { results := [.lit (.bool true)], args := [d] }
  | _ => none }
def linesNobodyRow : OpenClaim := { program := "ytolpkeajokjbjaadoor", sum := "6851e3ef209b71932bd16c3f90e873443aba00bf55604874150df140d772874e", func := "ingot/ingotlaw11.LinesNobody", spec := "linesNobody", inPlace := ["internal/bytealg.Compare"], unfollowed := true, recurses := true, named := ["ingot/lines.bottom"], plainKeys := false, apart := false, laid := [("ingot/lines.bottom", laid_ingot_lines_bottom)] }
def LinesNobodySaid : Prop := linesNobodyRow.holds Tryd.pinned (OpenSpec.ofChange linesNobodySpec)

/-- ITS FALSE NEIGHBOUR: 'it returns false'. Refute it at one input. -/
def linesNobodyWrong : ChangeSpec := { name := "linesNobody", fn := fun _ => fun
  | [d] => { results := [.lit (.bool false)], args := [d] }
  | _ => none }
def LinesNobodyWrongFalsely : Prop := linesNobodyRow.holds Tryd.pinned (OpenSpec.ofChange linesNobodyWrong)

/- THE SECOND FORM. 'bulk': how many values and letters a reading holds, each counted each time it is reached (what is shared counts as often as it is met; a slice's spare places count too). A statement '..UptoSaid' is the law's where the arguments, and the package variables that the reading takes, are together of bulk at most 1048576: NARROWER than '..Said'. Prove '..Said' where nothing that the law and all that it calls make is longer than what came in: it says more and counts as full. Else prove '..UptoSaid'. A law counts once. -/
mutual
def uptoBulk {H : Type} : DataW H → Nat
  | .lit (.string bytes) => bytes.length + 1
  | .lit _ => 1
  | .nil => 1
  | .ptr d => uptoBulk d + 1
  | .slice elems spare => uptoBulkAll elems + uptoBulkAll spare + 1
  | .agg parts => uptoBulkAll parts + 1
  | .iface _ d => uptoBulk d + 1
  | .map entries => uptoBulkEntries entries + 1
  | .held _ => 1
def uptoBulkAll {H : Type} : List (DataW H) → Nat
  | [] => 0
  | d :: r => uptoBulk d + uptoBulkAll r
def uptoBulkEntries {H : Type} : List (Lit × DataW H) → Nat
  | [] => 0
  | x :: r => uptoBulkEntry x + uptoBulkEntries r
def uptoBulkEntry {H : Type} : Lit × DataW H → Nat
  | (.string bytes, d) => bytes.length + uptoBulk d + 1
  | (_, d) => uptoBulk d + 1
 end
def uptoSmall : (H : Type) → List (DataW H) → Bool := fun _ ds => decide (uptoBulkAll ds ≤ 1048576)
def OpenSpec.upto (s : _root_.Go.ChangeSpec) : _root_.Go.OpenSpec := { _root_.Go.OpenSpec.ofChange s with cond := some uptoSmall }

/-- 'ingotlaw11.LinesPlain', WHERE WHAT IT READS IS OF BULK AT MOST 1048576: true; the input reads as it did. -/
def linesPlainUptoRow : OpenClaim := { program := "ytolpkeajokjbjaadoor", sum := "6851e3ef209b71932bd16c3f90e873443aba00bf55604874150df140d772874e", func := "ingot/ingotlaw11.LinesPlain", spec := "linesPlain", inPlace := ["internal/bytealg.Compare"], unfollowed := true, recurses := true, named := ["ingot/lines.bottom"], plainKeys := false, apart := false, laid := [("ingot/lines.bottom", laid_ingot_lines_bottom)], narrowed := true }
def LinesPlainUptoSaid : Prop := linesPlainUptoRow.holds Tryd.pinned (OpenSpec.upto linesPlainSpec)

/-- 'ingotlaw11.LinesOrder', WHERE WHAT IT READS IS OF BULK AT MOST 1048576: true; the input reads as it did. -/
def linesOrderUptoRow : OpenClaim := { program := "ytolpkeajokjbjaadoor", sum := "6851e3ef209b71932bd16c3f90e873443aba00bf55604874150df140d772874e", func := "ingot/ingotlaw11.LinesOrder", spec := "linesOrder", inPlace := ["internal/bytealg.Compare"], unfollowed := true, recurses := true, named := ["ingot/lines.bottom"], plainKeys := false, apart := false, laid := [("ingot/lines.bottom", laid_ingot_lines_bottom)], narrowed := true }
def LinesOrderUptoSaid : Prop := linesOrderUptoRow.holds Tryd.pinned (OpenSpec.upto linesOrderSpec)

/-- 'ingotlaw11.LinesUndo', WHERE WHAT IT READS IS OF BULK AT MOST 1048576: true; the input reads as it did. -/
def linesUndoUptoRow : OpenClaim := { program := "ytolpkeajokjbjaadoor", sum := "6851e3ef209b71932bd16c3f90e873443aba00bf55604874150df140d772874e", func := "ingot/ingotlaw11.LinesUndo", spec := "linesUndo", inPlace := ["internal/bytealg.Compare"], unfollowed := true, recurses := true, named := ["ingot/lines.bottom"], plainKeys := false, apart := false, laid := [("ingot/lines.bottom", laid_ingot_lines_bottom)], narrowed := true }
def LinesUndoUptoSaid : Prop := linesUndoUptoRow.holds Tryd.pinned (OpenSpec.upto linesUndoSpec)

/-- 'ingotlaw11.LinesPlays', WHERE WHAT IT READS IS OF BULK AT MOST 1048576: true; the input reads as it did. -/
def linesPlaysUptoRow : OpenClaim := { program := "ytolpkeajokjbjaadoor", sum := "6851e3ef209b71932bd16c3f90e873443aba00bf55604874150df140d772874e", func := "ingot/ingotlaw11.LinesPlays", spec := "linesPlays", inPlace := ["internal/bytealg.Compare"], unfollowed := true, recurses := true, named := ["ingot/lines.bottom"], plainKeys := false, apart := false, laid := [("ingot/lines.bottom", laid_ingot_lines_bottom)], narrowed := true }
def LinesPlaysUptoSaid : Prop := linesPlaysUptoRow.holds Tryd.pinned (OpenSpec.upto linesPlaysSpec)

/-- 'ingotlaw11.LinesEither', WHERE WHAT IT READS IS OF BULK AT MOST 1048576: true; the input reads as it did. -/
def linesEitherUptoRow : OpenClaim := { program := "ytolpkeajokjbjaadoor", sum := "6851e3ef209b71932bd16c3f90e873443aba00bf55604874150df140d772874e", func := "ingot/ingotlaw11.LinesEither", spec := "linesEither", inPlace := ["internal/bytealg.Compare"], unfollowed := true, recurses := true, named := ["ingot/lines.bottom"], plainKeys := false, apart := false, laid := [("ingot/lines.bottom", laid_ingot_lines_bottom)], narrowed := true }
def LinesEitherUptoSaid : Prop := linesEitherUptoRow.holds Tryd.pinned (OpenSpec.upto linesEitherSpec)

/-- 'ingotlaw11.LinesNobody', WHERE WHAT IT READS IS OF BULK AT MOST 1048576: true; the input reads as it did. -/
def linesNobodyUptoRow : OpenClaim := { program := "ytolpkeajokjbjaadoor", sum := "6851e3ef209b71932bd16c3f90e873443aba00bf55604874150df140d772874e", func := "ingot/ingotlaw11.LinesNobody", spec := "linesNobody", inPlace := ["internal/bytealg.Compare"], unfollowed := true, recurses := true, named := ["ingot/lines.bottom"], plainKeys := false, apart := false, laid := [("ingot/lines.bottom", laid_ingot_lines_bottom)], narrowed := true }
def LinesNobodyUptoSaid : Prop := linesNobodyUptoRow.holds Tryd.pinned (OpenSpec.upto linesNobodySpec)

end Rows
end Go.Proofs.YtolpkeajokjbjaaDoor
