/- Maps of hashes to lists that grow; the table of items. -/
import Derived.Test.YtmaeepckfbnpjaaDpC
set_option linter.unusedVariables false
set_option linter.unusedSimpArgs false
namespace Go.Proofs.Ytmaeepckfbnpjaa
open Go.RowKit Go.L Go.Lib
attribute [local irreducible] LL LW LO
abbrev hss (l : List Hs) : List (List LV) := l.map hsL
theorem hss_size (l : List Hs) : ∀ e ∈ hss l, e.length = 32 := fun e he => by obtain ⟨x, _, rfl⟩ := List.mem_map.1 he; rw [List.length_map]; exact x.2
/-- A list in a map: its elements, and where its room is. -/
structure Gr where
  es : List Hs
  b : Nat
  o : Nat
  c : Nat
abbrev grL (x : Gr) : LV := .sl 32 (hss x.es) (.tok x.b x.o x.c)
abbrev grA (x : Gr) : Atom := .tail x.b x.o x.c
abbrev gr0 : Gr := ⟨[], 0, 0, 0⟩
abbrev nV (N : List (Hs × Gr)) : List (Hs × LV) := N.map fun p => (p.1, grL p.2)
abbrev tls (N : List (Hs × Gr)) : List Atom := N.map fun p => grA p.2
def curN : List (Hs × Gr) → Hs → Gr
  | [], _ => gr0
  | p :: r, a => if p.1 = a then p.2 else curN r a
def setN : List (Hs × Gr) → Hs → Gr → List (Hs × Gr)
  | [], a, x => [(a, x)]
  | p :: r, a, x => if p.1 = a then (a, x) :: r else p :: setN r a x
def restN : List (Hs × Gr) → Hs → List Atom
  | [], _ => []
  | p :: r, a => if p.1 = a then tls r else grA p.2 :: restN r a
theorem nV_look : ∀ (N : List (Hs × Gr)) (a : Hs), (∃ x, lookM (nV N) a = some (grL x) ∧ curN N a = x) ∨ (lookM (nV N) a = none ∧ curN N a = gr0)
  | [], a => .inr ⟨rfl, rfl⟩
  | p :: r, a => by
    rw [show nV (p :: r) = (p.1, grL p.2) :: nV r from rfl, lookM_cons]
    unfold curN
    by_cases c : p.1 = a
    · rw [if_pos c, if_pos c]; exact .inl ⟨_, rfl, rfl⟩
    · rw [if_neg c, if_neg c]; exact nV_look r a
theorem nV_is (N : List (Hs × Gr)) (a : Hs) : Is ((lookM (nV N) a).getD (.raw (.slice none 0 0))) (grL (curN N a)) := by
  rcases nV_look N a with ⟨x, h1, h2⟩ | ⟨h1, h2⟩
  · rw [h1, h2]; exact Is.rfl'
  · rw [h1, h2]; exact (Is.nil 32).trans (Is.full_tok 0 0)
theorem nV_set : ∀ (N : List (Hs × Gr)) (a : Hs) (x : Gr), setM (nV N) a (grL x) = nV (setN N a x)
  | [], a, x => rfl
  | p :: r, a, x => by
    rw [show nV (p :: r) = (p.1, grL p.2) :: nV r from rfl, setM_cons]
    unfold setN
    by_cases c : p.1 = a
    · rw [if_pos c, if_pos c]; rfl
    · rw [if_neg c, if_neg c, nV_set r a x]; rfl
theorem tls_take : ∀ (N : List (Hs × Gr)) (a : Hs) (R : List Atom), HSub (tls N ++ R) (grA (curN N a) :: (restN N a ++ R))
  | [], a, R => HSub.tail0 0 0 0 (Nat.le_refl _) _
  | p :: r, a, R => by
    unfold curN restN
    by_cases c : p.1 = a
    · rw [if_pos c, if_pos c]; exact HSub.refl _
    · rw [if_neg c, if_neg c]
      exact HSub.trans (HSub.cons (tls_take r a R)) (HSub.pick 1 rfl (HSub.refl _))
theorem tls_put : ∀ (N : List (Hs × Gr)) (a : Hs) (x : Gr) (R : List Atom), HSub (grA x :: (restN N a ++ R)) (tls (setN N a x) ++ R)
  | [], a, x, R => HSub.refl _
  | p :: r, a, x, R => by
    unfold setN restN
    by_cases c : p.1 = a
    · rw [if_pos c, if_pos c]; exact HSub.refl _
    · rw [if_neg c, if_neg c]
      exact HSub.trans (HSub.pick 1 rfl (HSub.refl _)) (HSub.cons (tls_put r a x R))
theorem cur_set : ∀ (N : List (Hs × Gr)) (a b : Hs) (x : Gr), curN (setN N a x) b = if a = b then x else curN N b
  | [], a, b, x => by
    show (if a = b then x else gr0) = _
    rfl
  | p :: r, a, b, x => by
    unfold setN
    by_cases c : p.1 = a
    · rw [if_pos c]
      show (if a = b then x else curN r b) = _
      by_cases d : a = b
      · rw [if_pos d, if_pos d]
      · rw [if_neg d, if_neg d]
        conv => rhs; unfold curN
        rw [if_neg (by rw [c]; exact d)]
    · rw [if_neg c]
      show (if p.1 = b then p.2 else curN (setN r a x) b) = _
      rw [cur_set r a b x]
      conv => rhs; rhs; unfold curN
      by_cases d : a = b
      · rw [if_pos d, if_pos d, if_neg (by rw [← d]; exact c)]
      · rw [if_neg d, if_neg d]
end Go.Proofs.Ytmaeepckfbnpjaa
