/- What the program's own variables hold when a call begins; arrays that come in. Plain theorems over any program. -/
import Derived.Test.YtcemodldbfiomaaLogM
import Derived.Test.YtcemodldbfiomaaLogR
import Derived.MakeChecks
import Derived.ChangeBears2
set_option linter.unusedVariables false
set_option linter.unusedSimpArgs false
namespace Go.L
open Go.RowKit
theorem Inv.startK {w : World} {g : Nat} {xs : List LV} (h : Rep (PH.all w) (.pointer (some ⟨g, 0, none⟩)) (.pin xs)) : Inv ⟨w, none⟩ (PH.all w) w [.known g xs] :=
  ⟨(Inv.start w).below, (Inv.start w).cell, (Inv.start w).one, fun _ _ => False, ⟨fun _ _ => False, fun _ _ => False, ⟨fun _ _ h => h, h⟩, fun _ _ h => h, fun b o => by simp, fun _ _ h => h.elim⟩, fun _ _ h => h.elim⟩
theorem LCalls.runK {P : Program} {f : FuncId} {args : List LV} {b : Value} {g : Nat} {xs : List LV} {post : LV → List Atom → Prop} (h : LCalls P f args [.known g xs] post) (hq : ∀ r H', post r H' → r = .raw b) {w : World} {vs : Array Value} (hr : Reps (PH.all w) vs args) (hk : Rep (PH.all w) (.pointer (some ⟨g, 0, none⟩)) (.pin xs)) : Calls P f vs w fun e w' => e = .returned b ∧ Below w.heap.size w w' :=
  (h [] ⟨w, none⟩ (PH.all w) w vs (Inv.startK hk) hr).mono fun e w' ⟨v, ph', r, H', he, hle, hi, hv, hp⟩ => by
    have := hq _ _ hp
    subst this
    exact ⟨by rw [he, hv.rawE], hi.below⟩
theorem known_of {w : World} {g : Nat} {xs : List LV} (h : ∀ j x, xs[j]? = some x → ∃ u, w.cell? ⟨g, j, none⟩ = some u ∧ u.oneCell' = true ∧ Rep (PH.all w) u x) : Rep (PH.all w) (.pointer (some ⟨g, 0, none⟩)) (.pin xs) := by
  classical
  refine .pin xs ⟨g, 0, none⟩ (fun j => if hj : ∃ x, xs[j]? = some x then (h j _ hj.choose_spec).choose else undef) (fun j x hx => ?_) (fun j x hx => ?_)
  · have hj : ∃ x, xs[j]? = some x := ⟨x, hx⟩
    simp only [dif_pos hj]
    have := (h j _ hj.choose_spec).choose_spec
    rw [add_lit, Nat.zero_add]
    exact PH.all_some.2 ⟨this.1, this.2.1⟩
  · have hj : ∃ x, xs[j]? = some x := ⟨x, hx⟩
    simp only [dif_pos hj]
    have e : hj.choose = x := Option.some.inj (hj.choose_spec.symm.trans hx)
    have := (h j _ hj.choose_spec).choose_spec
    exact e ▸ this.2.2
section
variable {P : Program}
theorem laid_ints {H : Type} {enc : TypeId × Value → H} {w : World} {base : Nat} {sp : Nat → Bool} {held : Bool} {fuel : Nat} {t e : TypeId} {n : Nat} {k : IntKind} {cs : List Value} {l : List Nat} {q : List MemPlace} (ht : P.underlying t = some (.array n e)) (he : P.underlying e = some (.int k)) (hc : P.cellsOf e = 1) (hct : P.cellsOf t = n)
    (h : DataW.trod enc P w base sp held fuel t cs = some (.agg (l.map fun (m : Nat) => .lit (.int k m)), q)) : cs = l.map fun (m : Nat) => Value.int k m := by
  obtain ⟨xs, m, _, hx, hl, hxl, hel⟩ := DataW.trod_array ht h
  simp only [Prod.mk.injEq, DataW.agg.injEq] at hx
  have hll : l.length = n := by have := congrArg List.length hx.1; simp at this; omega
  refine List.ext_getElem? fun i => ?_
  by_cases hi : i < n
  · have h1 := hel i hi
    rw [hc, Nat.mul_one] at h1
    cases hy : xs[i]? with
    | none => rw [List.getElem?_eq_none_iff] at hy; omega
    | some y =>
      rw [hy] at h1
      obtain ⟨a, e1, e2, _⟩ := DataW.trod_int he h1
      have h2 := congrArg (fun z => z[i]?) hx.1
      simp only [List.getElem?_map, hy, Option.map_some] at h2
      have h3 : cs[i]? = some (.int k a) := by
        have := congrArg (fun z => z[0]?) e1
        simpa [List.getElem?_take, List.getElem?_drop] using this
      rw [h3, List.getElem?_map]
      cases hli : l[i]? with
      | none => rw [hli] at h2; simp at h2
      | some b =>
        rw [hli] at h2
        simp only [Option.map_some, Option.some.injEq, e2, DataW.lit.injEq, Lit.int.injEq, true_and] at h2
        rw [Option.map_some, h2]
  · rw [List.getElem?_eq_none (by omega), List.getElem?_eq_none (by simp; omega)]
theorem known_ints {w : World} {g : Nat} {k : IntKind} {l : List Nat} {cs : Array Value} (hcs : cs.toList = l.map fun (m : Nat) => Value.int k m) (h : ∀ i, w.cell? ⟨g, i, none⟩ = cs[i]?) : Rep (PH.all w) (.pointer (some ⟨g, 0, none⟩)) (.pin (l.map fun (m : Nat) => .raw (.int k m))) :=
  known_of fun j x hx => by
    rw [List.getElem?_map] at hx
    cases hl : l[j]? with
    | none => rw [hl] at hx; cases hx
    | some m =>
      rw [hl] at hx
      obtain rfl : LV.raw (.int k m) = x := by simpa using hx
      refine ⟨.int k m, ?_, rfl, .raw _⟩
      rw [h, ← Array.getElem?_toList, hcs, List.getElem?_map, hl]
      rfl
def QArr (n size : Nat) (Q : List LV → Prop) (xs : List LV) : Prop := ∃ es : List (List LV), xs = es.flatten ∧ es.length = n ∧ ∀ c ∈ es, c.length = size ∧ Q c
end
end Go.L
