/- The order of items, in plain words. -/
import Derived.Test.YtmaeepckfbnpjaaDpY
set_option linter.unusedVariables false
set_option linter.unusedSimpArgs false
namespace Go.Proofs.Ytmaeepckfbnpjaa
open Go.RowKit Go.L Go.Lib
attribute [local irreducible] LL LW LO
theorem readyB_iff {out : List Hs} {x : It} : readyB out x = true ↔ x.name ∉ out ∧ ∀ d ∈ x.deps, d ∈ out := by unfold readyB; simp
def readyL (l : List It) (out : List Hs) : List Hs := (l.filter (readyB out)).map (·.name)
theorem readyL_mem {l : List It} {out : List Hs} {y : Hs} : y ∈ readyL l out ↔ ∃ x ∈ l, x.name = y ∧ y ∉ out ∧ ∀ d ∈ x.deps, d ∈ out := by
  unfold readyL
  simp only [List.mem_map, List.mem_filter, readyB_iff]
  constructor
  · rintro ⟨x, ⟨a, b, c⟩, rfl⟩; exact ⟨x, a, rfl, b, c⟩
  · rintro ⟨x, a, rfl, b, c⟩; exact ⟨x, ⟨a, b, c⟩, rfl⟩
theorem readyL_nodup {l : List It} (hn : (names l).Nodup) (out : List Hs) : (readyL l out).Nodup := by
  unfold readyL
  exact ((List.filter_sublist).map _).nodup hn
def nextO (l : List It) (out : List Hs) : Option Hs := (sortH (readyL l out)).head?
def goO (l : List It) : Nat → List Hs → List Hs
  | 0, out => out
  | f + 1, out => match nextO l out with
    | none => out
    | some h => goO l f (out ++ [h])
def orderS (l : List It) : List Hs × Nat := if 256 < l.length then ([], 3) else if ¬ (names l).Nodup then ([], 110) else if 0 < (missS l).length then ([], 111) else if (goO l l.length []).length < l.length then ([], 120) else (goO l l.length [], 0)
theorem head_least {R : List Hs} {h : Hs} (hm : h ∈ R) (hle : ∀ y ∈ R, ltH y h = false) : (sortH R).head? = some h := by
  have hs := sortH_sorted R
  have hmm : h ∈ sortH R := sortH_mem.2 hm
  cases hq : sortH R with
  | nil => rw [hq] at hmm; cases hmm
  | cons a r =>
    have ha : a ∈ R := sortH_mem.1 (by rw [hq]; simp)
    rw [hq] at hs hmm
    have h1 := hle a ha
    rcases List.mem_cons.1 hmm with e | e
    · rw [e]; rfl
    · have h2 := (List.pairwise_cons.1 hs).1 h e
      rw [ltH_total h1 h2]; rfl
theorem nextO_none {l : List It} {out : List Hs} (h : ∀ x ∈ l, readyB out x = false) : nextO l out = none := by
  have : readyL l out = [] := by
    unfold readyL
    rw [List.filter_eq_nil_iff.2 fun x hx => by rw [h x hx]; decide]; rfl
  unfold nextO
  rw [this]
  have e : sortH [] = [] := List.eq_nil_of_length_eq_zero (sortH_len [])
  rw [e]; rfl
theorem nextO_some {l : List It} {out : List Hs} {x : It} (hx : x ∈ l) (hr : readyB out x = true) (hle : ∀ y ∈ l, readyB out y = true → ltH y.name x.name = false) : nextO l out = some x.name := by
  refine head_least (List.mem_map.2 ⟨x, List.mem_filter.2 ⟨hx, hr⟩, rfl⟩) fun y hy => ?_
  obtain ⟨z, hz, rfl⟩ := List.mem_map.1 hy
  exact hle z (List.mem_filter.1 hz).1 (List.mem_filter.1 hz).2
theorem nextO_mem {l : List It} {out : List Hs} {h : Hs} (hn : nextO l out = some h) : h ∈ readyL l out := by
  unfold nextO at hn
  have : h ∈ sortH (readyL l out) := List.mem_of_mem_head? (by rw [hn]; rfl)
  exact sortH_mem.1 this
/-- What is told so far. -/
structure Kh (l : List It) (out : List Hs) : Prop where
  nd : out.Nodup
  sub : ∀ y ∈ out, y ∈ names l
  go : goO l l.length [] = goO l (l.length - out.length) out
theorem Kh.nil (l : List It) : Kh l [] := ⟨List.nodup_nil, (fun y hy => by cases hy), rfl⟩
theorem Kh.len {l : List It} {out : List Hs} (k : Kh l out) : out.length ≤ l.length := by
  have := (nodup_len k.nd k.sub).1
  rwa [List.length_map] at this
theorem Kh.step {l : List It} {out : List Hs} (k : Kh l out) {h : Hs} (hn : nextO l out = some h) : Kh l (out ++ [h]) ∧ out.length < l.length := by
  obtain ⟨x, hx, e, ho, _⟩ := readyL_mem.1 (nextO_mem hn)
  have nd : (out ++ [h]).Nodup := nodup_snoc.2 ⟨k.nd, ho⟩
  have sub : ∀ y ∈ out ++ [h], y ∈ names l := fun y hy => by
    rcases List.mem_append.1 hy with a | a
    · exact k.sub y a
    · rw [List.mem_singleton.1 a, ← e]; exact List.mem_map.2 ⟨x, hx, rfl⟩
  have hl := (nodup_len nd sub).1
  rw [List.length_map, List.length_append, List.length_singleton] at hl
  refine ⟨⟨nd, sub, ?_⟩, by omega⟩
  rw [k.go, List.length_append, List.length_singleton, show l.length - out.length = (l.length - (out.length + 1)) + 1 by omega]
  show (match nextO l out with | none => out | some h => goO l _ (out ++ [h])) = _
  rw [hn]
theorem Kh.stop {l : List It} {out : List Hs} (k : Kh l out) (hn : nextO l out = none) : goO l l.length [] = out := by
  rw [k.go]
  cases l.length - out.length with
  | zero => rfl
  | succ n =>
    show (match nextO l out with | none => out | some h => goO l _ (out ++ [h])) = _
    rw [hn]
theorem Kh.full {l : List It} {out : List Hs} (k : Kh l out) (h : l.length ≤ out.length) : goO l l.length [] = out := by
  rw [k.go, show l.length - out.length = 0 by omega]; rfl
/-- The place of the least one that is ready so far, or -1. -/
def bestI : Option Nat → Int
  | none => -1
  | some b => b
def Bst (l : List It) (out : List Hs) (i : Nat) : Option Nat → Prop
  | none => ∀ x ∈ l.take i, readyB out x = false
  | some b => ∃ z, l[b]? = some z ∧ readyB out z = true ∧ ∀ y ∈ l.take i, readyB out y = true → ltH y.name z.name = false
theorem Bst.nil (l : List It) (out : List Hs) : Bst l out 0 none := fun x hx => by simp at hx
theorem Bst.keep {l : List It} {out : List Hs} {i : Nat} {o : Option Nat} (h : Bst l out i o) {x : It} (hx : l[i]? = some x) (hr : readyB out x = true → ∃ b z, o = some b ∧ l[b]? = some z ∧ ltH x.name z.name = false) : Bst l out (i + 1) o := by
  cases o with
  | none =>
    intro y hy
    rw [take_snoc hx, List.mem_append, List.mem_singleton] at hy
    rcases hy with a | a
    · exact h y a
    · rw [a]
      cases hq : readyB out x with
      | false => rfl
      | true => obtain ⟨b, z, e, _⟩ := hr hq; cases e
  | some b =>
    obtain ⟨z, hz, hzr, hle⟩ := h
    refine ⟨z, hz, hzr, fun y hy hyr => ?_⟩
    rw [take_snoc hx, List.mem_append, List.mem_singleton] at hy
    rcases hy with a | a
    · exact hle y a hyr
    · subst a
      obtain ⟨b2, z2, e, h2, h3⟩ := hr hyr
      cases e
      rw [hz] at h2
      cases h2
      exact h3
theorem Bst.take {l : List It} {out : List Hs} {i : Nat} {o : Option Nat} (h : Bst l out i o) {x : It} (hx : l[i]? = some x) (hr : readyB out x = true) (hb : ∀ b z, o = some b → l[b]? = some z → ltH x.name z.name = true) : Bst l out (i + 1) (some i) := by
  refine ⟨x, hx, hr, fun y hy hyr => ?_⟩
  rw [take_snoc hx, List.mem_append, List.mem_singleton] at hy
  rcases hy with a | a
  · cases o with
    | none => rw [h y a] at hyr; cases hyr
    | some b =>
      obtain ⟨z, hz, hzr, hle⟩ := h
      have h1 := hle y a hyr
      have h2 := hb b z rfl hz
      cases hq : ltH y.name x.name with
      | false => rfl
      | true => rw [ltH_trans hq h2] at h1; cases h1
  · rw [a]; exact ltH_irrefl _
theorem Bst.done {l : List It} {out : List Hs} : ∀ {o : Option Nat}, Bst l out l.length o → (o = none ∧ nextO l out = none) ∨ ∃ b z, o = some b ∧ l[b]? = some z ∧ nextO l out = some z.name
  | none, h => .inl ⟨rfl, nextO_none fun x hx => h x (by rw [List.take_length]; exact hx)⟩
  | some b, h => by
    obtain ⟨z, hz, hzr, hle⟩ := h
    exact .inr ⟨b, z, rfl, hz, nextO_some (List.mem_of_getElem? hz) hzr fun y hy hyr => hle y (by rw [List.take_length]; exact hy) hyr⟩
end Go.Proofs.Ytmaeepckfbnpjaa
