/- One operation, the operations of a region, in whatever round of a loop they run. Plain theorems over any program. -/
import Derived.Test.YtcemodldbfiomaaLog
import Derived.RangeFuncIn
import Derived.RangeFuncLeaves
import Derived.TacticsIn
import Derived.OrdersIn
import Derived.LoopIn
import Derived.LoopNIn
set_option linter.unusedVariables false
set_option linter.unusedSimpArgs false
namespace Go.L
open Go.RowKit
/-- No fence; the round that one is in. -/
def Fn (ro : Option Nat) : Fence := { Fence.wide with round := ro }
theorem fn_none : Fn none = Fence.wide := rfl
/-- One operation: what it yields, and what is asked then. -/
def owp (P : Program) (o : Oper) (a : Act) (w : World) (N : Act → World → Prop) (Q : Exit → Act → World → Prop) : Prop :=
  o.uponIn Fence.wide 0 P a N Q ((execOp a.eval o).run P w)
def olist (P : Program) (ops : Array Oper) (Q : Exit → Act → World → Prop) : List Oper → Act → World → Prop
  | [], a, w => Q .normal a w
  | o :: rest, a, w => if Region.wanted o (yielded ops a.tmps) then owp P o a w (olist P ops Q rest) Q else olist P ops Q rest (a.put o.dst undef) w
def oop (P : Program) (ops : Array Oper) (Q : Exit → Act → World → Prop) (i : Nat) (K : Act → World → Prop) (a : Act) (w : World) : Prop :=
  match ops[i]? with
  | none => K a w
  | some o => if Region.wanted o (yielded ops a.tmps) then owp P o a w K Q else K (a.put o.dst undef) w
def oany (P : Program) (md : Region.Mode) (ops : Array Oper) (Q : Exit → Act → World → Prop) : Nat → Array Bool → Act → World → Prop
  | 0, listed, a, w => Region.ready md ops listed = [] ∧ Q .normal a w
  | fuel + 1, listed, a, w => (Region.ready md ops listed = [] → Q .normal a w) ∧ ∀ i ∈ Region.ready md ops listed, oop P ops Q i (oany P md ops Q fuel (listed.setIfInBounds i true)) a w
section
variable {P : Program} {ops : Array Oper} {Q : Exit → Act → World → Prop} {a : Act} {w : World} {rest : List Oper} {o : Oper}
theorem owp_mono {K K' : Act → World → Prop} (h : ∀ a w, K a w → K' a w) (hh : owp P o a w K Q) : owp P o a w K' Q := by
  unfold owp at *
  generalize (execOp a.eval o).run P w = r at *
  cases r with
  | ok n w' =>
    cases n <;> simp only [Oper.uponIn] at hh ⊢ <;>
      first
        | exact h _ _ hh
        | exact ⟨hh.1, CallsIn.mono hh.2 (fun e w'' he => by cases e <;> first | exact h _ _ he | exact he)⟩
        | exact ⟨hh.1, RowsIn.mono hh.2 (fun _ _ he => h _ _ he)⟩
        | exact ⟨hh.1, RoundIn.mono hh.2 (fun e w'' he => by cases e <;> first | exact h _ _ he | exact he)⟩
  | halt x w' => cases x <;> simp only [Oper.uponIn] at hh ⊢ <;> exact hh
theorem olist_nil (h : Q .normal a w) : olist P ops Q [] a w := h
theorem olist_step (h : ∀ K : Act → World → Prop, (∀ a w, olist P ops Q rest a w → K a w) → if Region.wanted o (yielded ops a.tmps) then owp P o a w K Q else K (a.put o.dst undef) w) : olist P ops Q (o :: rest) a w := h _ (fun _ _ h => h)
theorem olist_plain (hg : o.guard = none) (h : ∀ K : Act → World → Prop, (∀ a w, olist P ops Q rest a w → K a w) → owp P o a w K Q) : olist P ops Q (o :: rest) a w :=
  olist_step fun K hK => by rw [if_pos (by simp [Region.wanted, hg])]; exact h K hK
theorem oany_done {md : Region.Mode} {listed : Array Bool} (hr : Region.ready md ops listed = []) (h : Q .normal a w) : ∀ fuel, oany P md ops Q fuel listed a w
  | 0 => ⟨hr, h⟩
  | _ + 1 => ⟨fun _ => h, fun i hi => by rw [hr] at hi; cases hi⟩
/-- No operation of a list defers. -/
def noDefer (l : List Oper) : Bool := l.all fun o => match o.op with | .defer _ => false | _ => true
theorem noDefer_get {l : List Oper} (h : noDefer l = true) {o : Oper} (ho : o ∈ l) : ∀ c, o.op ≠ .defer c := fun c e => by
  have := List.all_eq_true.1 h o ho
  rw [e] at this
  cases this
theorem owp_in {ro : Option Nat} (hd : ∀ c, o.op ≠ .defer c) {N : Act → World → Prop} (h : owp P o a w N Q) : o.wpIn (Fn ro) 0 P a w N Q := by
  refine ⟨fun _ _ => trivial, ?_⟩
  rw [Oper.semAt_eq _ _ _ hd]
  unfold owp at h
  generalize (execOp a.eval o).run P w = r at *
  cases r with
  | ok n w' => cases n <;> exact h
  | halt x w' => cases x <;> exact h
theorem olist_in {ro : Option Nat} : ∀ {l : List Oper}, noDefer l = true → ∀ {a : Act} {w : World}, olist P ops Q l a w → wpListIn (Fn ro) 0 P ops Q l a w
  | [], _, _, _, h => h
  | o :: l, hd, a, w, h => by
    have h1 := noDefer_get hd (o := o) (by simp)
    have h2 : noDefer l = true := by unfold noDefer at *; simp only [List.all_cons, Bool.and_eq_true] at hd; exact hd.2
    unfold olist at h
    unfold wpListIn
    split
    · rename_i hw
      rw [if_pos hw] at h
      exact Oper.wpIn_mono (fun a w h => olist_in h2 h) (owp_in h1 h)
    · rename_i hw
      rw [if_neg hw] at h
      exact ⟨fun _ _ => trivial, olist_in h2 h⟩
theorem oop_in {ro : Option Nat} (hd : noDefer ops.toList = true) {i : Nat} {K K' : Act → World → Prop} (hK : ∀ a w, K a w → K' a w) (h : oop P ops Q i K a w) : wpOpIn (Fn ro) 0 P ops Q i K' a w := by
  unfold oop at h
  unfold wpOpIn
  split
  · rename_i ho
    rw [ho] at h
    exact hK _ _ h
  · rename_i o ho
    rw [ho] at h
    simp only at h
    have h1 := noDefer_get hd (o := o) (by simpa using Array.mem_of_getElem? ho)
    split
    · rename_i hw
      rw [if_pos hw] at h
      exact Oper.wpIn_mono hK (owp_in h1 h)
    · rename_i hw
      rw [if_neg hw] at h
      exact ⟨fun _ _ => trivial, hK _ _ h⟩
theorem oany_in {ro : Option Nat} {md : Region.Mode} (hd : noDefer ops.toList = true) : ∀ (fuel : Nat) {S : Array Bool} {a : Act} {w : World}, oany P md ops Q fuel S a w → wpAnyIn (Fn ro) 0 P md ops Q fuel S a w
  | 0, _, _, _, h => h
  | fuel + 1, _, _, _, h => ⟨h.1, fun i hi => oop_in hd (fun _ _ h => oany_in hd fuel h) (h.2 i hi)⟩
theorem upon_enter {f : FuncId} {args : Array Value} {N : Act → World → Prop} (h : Calls P f args w fun | .returned v, w'' => N (a.put o.dst v) w'' | .panicked chain, w'' => Q (.panic chain) a w'' | .outgrown, _ => LetsOut Q) : o.uponIn Fence.wide 0 P a N Q (.ok (.enter f args) w) := by
  rw [Oper.uponIn_enter]
  exact ⟨fun hh => (by cases hh), callsIn_wide.2 h⟩
theorem wpIn_loop_ghost {F : Fence} {n : Nat} {c : Code} (I : Nat → Act → World → Prop) (n₀ : Nat) (h₀ : I n₀ a w)
    (round : ∀ m a w, I m a w → c.wpIn F n P (Exit.then (fun a' w' => ∃ n', n' < m ∧ I n' a' w') Q) a w) : (Code.loop c).wpIn F n P Q a w := by
  refine wpIn_loop (fun a w => ∃ n, I n a w) (fun a w => leastOf (fun n => I n a w)) ⟨n₀, h₀⟩ ?_
  intro a w hI
  refine wpIn_mono (round _ a w (leastOf_spec hI).1) ?_
  intro e a' w' hq
  cases e with
  | normal =>
    obtain ⟨n', hlt, hI'⟩ := hq
    exact show (∃ n, I n a' w') ∧ leastOf (fun n => I n a' w') < leastOf (fun n => I n a w) from ⟨⟨n', hI'⟩, Nat.lt_of_le_of_lt ((leastOf_spec ⟨n', hI'⟩).2 n' hI') hlt⟩
  | exit id => exact hq
  | goto l => exact hq
  | ret => exact hq
  | panic c => exact hq
  | outgrown => exact hq
end
end Go.L
