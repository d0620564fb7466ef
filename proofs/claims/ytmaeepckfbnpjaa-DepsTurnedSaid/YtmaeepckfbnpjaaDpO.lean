/- The document's With. -/
import Derived.Test.YtmaeepckfbnpjaaDpN
set_option linter.unusedVariables false
set_option linter.unusedSimpArgs false
namespace Go.Proofs.Ytmaeepckfbnpjaa
open Go.RowKit Go.L Go.Lib
attribute [local irreducible] LL LW LO
def belowN : List Hs → Hs → Nat
  | [], _ => 0
  | a :: l, h => if ltH a h = true then belowN l h + 1 else 0
theorem belowN_le : ∀ (l : List Hs) (h : Hs), belowN l h ≤ l.length
  | [], _ => Nat.le_refl 0
  | a :: l, h => by
    rw [belowN]
    split
    · have := belowN_le l h; rw [List.length_cons]; omega
    · exact Nat.zero_le _
theorem belowN_of : ∀ {l : List Hs} {h : Hs} {i : Nat}, i ≤ l.length → (∀ j, j < i → ∀ y, l[j]? = some y → ltH y h = true) → (∀ y, l[i]? = some y → ltH y h = false) → belowN l h = i
  | [], h, i, hi, _, _ => by simp at hi; rw [hi]; rfl
  | a :: l, h, 0, _, _, hz => by rw [belowN, if_neg (by rw [hz a rfl]; decide)]
  | a :: l, h, i + 1, hi, hf, hz => by
    rw [belowN, if_pos (hf 0 (by omega) a rfl), belowN_of (i := i) (by simpa using hi) (fun j hj y hy => hf (j + 1) (by omega) y (by simpa using hy)) (fun y hy => hz y (by simpa using hy))]
def withS (l : List Hs) (h : Hs) : List Hs := if l[belowN l h]? = some h then l else l.take (belowN l h) ++ [h] ++ l.drop (belowN l h)
theorem withS_mem {l : List Hs} {h x : Hs} : x ∈ withS l h ↔ x = h ∨ x ∈ l := by
  unfold withS
  split
  · rename_i c
    exact ⟨.inr, fun e => e.elim (fun e => by rw [e]; exact List.mem_of_getElem? c) id⟩
  · rw [List.mem_append, List.mem_append, List.mem_singleton]
    conv => rhs; rhs; rw [← List.take_append_drop (belowN l h) l]
    rw [List.mem_append]
    constructor
    · rintro ((a | a) | a)
      · exact .inr (.inl a)
      · exact .inl a
      · exact .inr (.inr a)
    · rintro (a | a | a)
      · exact .inl (.inr a)
      · exact .inl (.inl a)
      · exact .inr a
end Go.Proofs.Ytmaeepckfbnpjaa
