/- A call of internal/bytealg's byte search, which has no body. Plain theorems over any program. -/
import Derived.Test.YtcemodldbfiomaaLogU
import Derived.Laws.Externs
import Derived.Lib.Bytealg
import Derived.Lib.IndexLaws
set_option linter.unusedVariables false
set_option linter.unusedSimpArgs false
namespace Go.L
open Go.RowKit
section
variable {P : Program} {env : List (Nat × LV)} {H : List Atom} {d : Option Tmp} {ty : TypeId} {pos : String} {af : Array Edge} {g : Option (Nat × Bool)}
theorem LU.indexByte {f : FuncId} {fn : Func} {x y : Operand} {ts : Array TypeId} {l : List UInt8} {b : UInt8} (hf : P.funcs[f]? = some fn) (hname : (fn.name == "runtime.NumGoroutine") = false) (hb : fn.body.isNone = true) (hn : Extern.findNext fn = none) (he : Extern.find fn = some Extern.BytealgIndexByte.indexByte)
    (hx : Is (ev env x) (Str l)) (hy : Is (ev env y) (.raw (.int .u8 b.toNat))) : LU P env H ⟨d, .call { callee := .value (.func f), args := #[x, y], argTypes := ts }, ty, pos, af, g⟩ (.raw (.int .i64 (Lib.indexByte l b))) := .raw fun ac hl w => by
  have h1 := hl x (by simp [Op.operands, Call.operands]) _ hx
  have h2 := hl y (by simp [Op.operands, Call.operands]) _ hy
  have e : (execOp ac.eval ⟨d, .call { callee := .value (.func f), args := #[x, y], argTypes := ts }, ty, pos, af, g⟩).run P w = (callFunc f #[ac.eval x, ac.eval y]).run P w := by
    simp [execOp, resolve, Deferred.ofValue, invoke, Act.eval]
  rw [e, h1, h2, run_callFunc_extern hf hname hb hn he, Lib.run_indexByteString]
  simp
end
end Go.L
