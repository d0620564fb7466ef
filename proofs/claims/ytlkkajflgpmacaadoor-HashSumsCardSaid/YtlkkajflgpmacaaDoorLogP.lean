/- Arrays of whole numbers compared; []byte and array facts. Plain theorems over any program. -/
import Derived.Test.YtlkkajflgpmacaaDoorLogN
set_option linter.unusedVariables false
set_option linter.unusedSimpArgs false
namespace Go.L
open Go.RowKit
section
variable {P : Program} {env : List (Nat × LV)} {H : List Atom} {d : Option Tmp} {ty : TypeId} {pos : String} {af : Array Edge} {g : Option (Nat × Bool)}
theorem all_range_nat : ∀ (xs ys : List Nat), xs.length = ys.length → ((List.range xs.length).all fun i => xs.getD i 0 == ys.getD i 0) = decide (xs = ys)
  | [], [], _ => by simp
  | x :: xs, y :: ys, h => by
    have ih := all_range_nat xs ys (by simpa using h)
    rw [List.length_cons, List.range_succ_eq_map, List.all_cons, List.all_map]
    simp only [List.getD_cons_zero, Function.comp_def, List.getD_cons_succ, ih]
    by_cases h1 : x = y <;> simp [h1]
  | [], _ :: _, h => by simp at h
  | _ :: _, [], h => by simp at h
theorem EqR.arr {t e : TypeId} {n : Nat} {k : IntKind} (ht : P.underlying t = some (.array n e)) (he : P.underlying e = some (.int k)) (hsz : ∀ w, (sizeOf e).run P w = .ok 1 w) (xs ys : List Nat) (hx : xs.length = n) (hy : ys.length = n) :
    EqR P 2 t (.agg (xs.map fun m => Value.int k (m : Nat)).toArray) (.agg (ys.map fun m => Value.int k (m : Nat)).toArray) (decide (xs = ys)) := fun d w => by
  rw [← all_range_nat xs ys (hx.trans hy.symm), hx, List.range_eq_range', Op.equalIn]
  simp only [Sem.run_bind, run_underlying ht, Result.andThen_ok, hsz, Std.Legacy.Range.forIn_eq_forIn_range', Std.Legacy.Range.size, Nat.sub_zero, Nat.add_sub_cancel, Nat.div_one]
  have hl : ∀ i ∈ List.range' 0 n 1, i < n := fun i hi => by simpa using (List.mem_range'_1.1 hi).2
  generalize List.range' 0 n 1 = l at hl ⊢
  induction l with
  | nil => simp
  | cons i l ih =>
    have hi : i < n := hl i (by simp)
    have px : (part e (xs.map fun m => Value.int k (m : Nat)).toArray (i * 1)).run P w = .ok (.int k (xs.getD i 0 : Nat)) w := by
      simp [part, isAgg, run_underlying he, List.getD, List.getElem?_eq_getElem (show i < xs.length by omega)]
    have py : (part e (ys.map fun m => Value.int k (m : Nat)).toArray (i * 1)).run P w = .ok (.int k (ys.getD i 0 : Nat)) w := by
      simp [part, isAgg, run_underlying he, List.getD, List.getElem?_eq_getElem (show i < ys.length by omega)]
    have pe : (Op.equalIn (d + 1) e (.int k (xs.getD i 0 : Nat)) (.int k (ys.getD i 0 : Nat))).run P w = .ok (xs.getD i 0 == ys.getD i 0) w := by
      rw [run_equalIn_int w d e k k _ _ he]
      congr 1
      rw [Bool.eq_iff_iff]
      simp
      omega
    simp only [List.forIn_cons, Sem.run_bind, px, py, pe, Result.andThen_ok, List.all_cons]
    cases hb : (xs.getD i 0 == ys.getD i 0)
    · simp
    · simp only [Bool.not_true, Bool.false_eq_true, if_false, Sem.run_pure, Result.andThen_ok, Bool.true_and]
      exact ih fun j hj => hl j (by simp [hj])
theorem RawL.map {k : IntKind} : ∀ (l : List Nat), RawL (l.map fun m => LV.raw (.int k (m : Nat))) (l.map fun m => Value.int k (m : Nat))
  | [] => .nil
  | x :: xs => .cons (RawL.map xs)
theorem LU.eqlArr {x y : Operand} {t t' e : TypeId} {n : Nat} {k : IntKind} {xs ys : List Nat} (ht : P.underlying t = some (.array n e)) (he : P.underlying e = some (.int k)) (hsz : ∀ w, (sizeOf e).run P w = .ok 1 w) (hg : P.eqGuardType P.depth t = false)
    (hx : Is (ev env x) (.agg (xs.map fun m => LV.raw (.int k (m : Nat))))) (hy : Is (ev env y) (.agg (ys.map fun m => LV.raw (.int k (m : Nat))))) (lx : xs.length = n) (ly : ys.length = n) :
    LU P env H ⟨d, .binOp .eql t x y t', ty, pos, af, g⟩ (.raw (.bool (decide (xs = ys)))) := LU.eqlA hx hy (RawL.map _) (RawL.map _) hg (by decide) (EqR.arr ht he hsz xs ys lx ly)
theorem LU.neqArr {x y : Operand} {t t' e : TypeId} {n : Nat} {k : IntKind} {xs ys : List Nat} (ht : P.underlying t = some (.array n e)) (he : P.underlying e = some (.int k)) (hsz : ∀ w, (sizeOf e).run P w = .ok 1 w) (hg : P.eqGuardType P.depth t = false)
    (hx : Is (ev env x) (.agg (xs.map fun m => LV.raw (.int k (m : Nat))))) (hy : Is (ev env y) (.agg (ys.map fun m => LV.raw (.int k (m : Nat))))) (lx : xs.length = n) (ly : ys.length = n) :
    LU P env H ⟨d, .binOp .neq t x y t', ty, pos, af, g⟩ (.raw (.bool (!decide (xs = ys)))) := LU.neqA hx hy (RawL.map _) (RawL.map _) hg (by decide) (EqR.arr ht he hsz xs ys lx ly)
end
end Go.L
