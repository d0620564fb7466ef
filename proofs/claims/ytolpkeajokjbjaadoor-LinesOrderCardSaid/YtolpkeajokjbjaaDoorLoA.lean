/- Lines: the order in plain words: the least that may come next, near ones first. -/
import Derived.Test.YtolpkeajokjbjaaDoorLnS
set_option linter.unusedVariables false
set_option linter.unusedSimpArgs false
namespace Go.Proofs.YtolpkeajokjbjaaDoor
open Go.RowKit Go.L Go.Lib
attribute [local irreducible] LL LW LO
section
variable (E : Vx → Vx → Prop) (S : Vx → Prop)
/-- May come next behind out. -/
def Rdy (out : List Vx) (v : Vx) : Prop := S v ∧ v ∉ out ∧ ∀ u, S u → E u v → u ∈ out
abbrev lastO (out : List Vx) : Vx := out.getLastD topV
def Nea (out : List Vx) (v : Vx) : Prop := Rdy E S out v ∧ E (lastO out) v
def ltV (a b : Vx) : Prop := cmpV a b < 0
def Least (C : Vx → Prop) (v : Vx) : Prop := C v ∧ ∀ w, C w → w = v ∨ ltV v w
def Pick (out : List Vx) (v : Vx) : Prop := ((∃ w, Nea E S out w) → Least (Nea E S out) v) ∧ ((¬ ∃ w, Nea E S out w) → Least (Rdy E S out) v)
inductive Run : List Vx → Prop
  | nil : Run []
  | snoc {out : List Vx} {v : Vx} : Run out → Pick E S out v → Run (out ++ [v])
def Ord (out : List Vx) : Prop := Run E S out ∧ ∀ v, ¬ Rdy E S out v
end
theorem cmpI_anti (x y : Int) : cmpI x y < 0 → cmpI y x < 0 → False := by
  unfold cmpI
  split <;> split <;> (try split) <;> omega
theorem cmpB_anti : ∀ (a b : List UInt8), compareBytes a b = - compareBytes b a
  | [], [] => rfl
  | [], _ :: _ => rfl
  | _ :: _, [] => rfl
  | a :: ar, b :: br => by
    unfold compareBytes
    have ih := cmpB_anti ar br
    by_cases h : a < b
    · have h2 : ¬ b < a := fun c => absurd (UInt8.lt_trans h c) (UInt8.lt_irrefl a)
      simp [h, h2]
    · by_cases h2 : b < a
      · simp [h, h2]
      · simp [h, h2, ih]
theorem ltV_asymm {a b : Vx} (h : ltV a b) (h2 : ltV b a) : False := by
  unfold ltV cmpV at h h2
  have := cmpB_anti a.p.1 b.p.1
  by_cases c : compareBytes a.p.1 b.p.1 = 0
  · have c2 : compareBytes b.p.1 a.p.1 = 0 := by omega
    rw [if_neg (fun d => d c)] at h
    rw [if_neg (fun d => d c2)] at h2
    exact cmpI_anti _ _ h h2
  · have c2 : compareBytes b.p.1 a.p.1 ≠ 0 := by omega
    rw [if_pos c] at h
    rw [if_pos c2] at h2
    omega
theorem Least.uniq {C : Vx → Prop} {a b : Vx} (ha : Least C a) (hb : Least C b) : a = b := by
  rcases ha.2 b hb.1 with e | e
  · exact e.symm
  · rcases hb.2 a ha.1 with f | f
    · exact f
    · exact (ltV_asymm e f).elim
section
variable {E : Vx → Vx → Prop} {S : Vx → Prop}
theorem Pick.uniq {out : List Vx} {a b : Vx} (ha : Pick E S out a) (hb : Pick E S out b) : a = b := by
  by_cases c : ∃ w, Nea E S out w
  · exact (ha.1 c).uniq (hb.1 c)
  · exact (ha.2 c).uniq (hb.2 c)
theorem Pick.rdy {out : List Vx} {a : Vx} (ha : Pick E S out a) : Rdy E S out a := by
  by_cases c : ∃ w, Nea E S out w
  · exact (ha.1 c).1.1
  · exact (ha.2 c).1
theorem Run.uniq : ∀ {o1 o2 : List Vx}, Run E S o1 → Run E S o2 → o1.length = o2.length → o1 = o2
  | _, _, .nil, .nil, _ => rfl
  | _, _, .nil, .snoc _ _, h => by simp at h
  | _, _, .snoc _ _, .nil, h => by simp at h
  | _, _, .snoc h1 p1, .snoc h2 p2, h => by
    have e := Run.uniq h1 h2 (by simpa using h)
    subst e
    rw [p1.uniq p2]
theorem Run.take : ∀ {o : List Vx}, Run E S o → ∀ i, i < o.length → ∃ v, Run E S (o.take i) ∧ Pick E S (o.take i) v
  | _, .nil, i, hi => by simp at hi
  | _, .snoc (out := out) (v := v) h p, i, hi => by
    rw [List.length_append, List.length_singleton] at hi
    by_cases c : i < out.length
    · obtain ⟨w, a, b⟩ := h.take i c
      rw [List.take_append_of_le_length (by omega)]
      exact ⟨w, a, b⟩
    · rw [show i = out.length by omega, List.take_left']
      · exact ⟨v, h, p⟩
      · rfl
theorem Ord.uniq {o1 o2 : List Vx} (h1 : Ord E S o1) (h2 : Ord E S o2) : o1 = o2 := by
  have key : ∀ {a b : List Vx}, Ord E S a → Ord E S b → ¬ a.length < b.length := fun {a b} ha hb hl => by
    obtain ⟨v, r, p⟩ := hb.1.take a.length hl
    have e := ha.1.uniq r (by rw [List.length_take]; omega)
    rw [← e] at p
    exact ha.2 v p.rdy
  exact h1.1.uniq h2.1 (by have := key h1 h2; have := key h2 h1; omega)
theorem Rdy.congr {E' : Vx → Vx → Prop} {S' : Vx → Prop} (hE : ∀ u v, E u v ↔ E' u v) (hS : ∀ v, S v ↔ S' v) {out : List Vx} {v : Vx} : Rdy E S out v ↔ Rdy E' S' out v := by
  have h1 : E = E' := funext fun u => funext fun v => propext (hE u v)
  have h2 : S = S' := funext fun u => propext (hS u)
  rw [h1, h2]
theorem Ord.congr {E' : Vx → Vx → Prop} {S' : Vx → Prop} (hE : ∀ u v, E u v ↔ E' u v) (hS : ∀ v, S v ↔ S' v) {out : List Vx} (h : Ord E S out) : Ord E' S' out := by
  have h1 : E = E' := funext fun u => funext fun v => propext (hE u v)
  have h2 : S = S' := funext fun u => propext (hS u)
  rw [← h1, ← h2]; exact h
theorem Run.nodup : ∀ {o : List Vx}, Run E S o → o.Nodup
  | _, .nil => List.nodup_nil
  | _, .snoc h p => nodup_snoc.2 ⟨h.nodup, p.rdy.2.1⟩
theorem Run.mem : ∀ {o : List Vx}, Run E S o → ∀ v ∈ o, S v
  | _, .nil, v, hv => by cases hv
  | _, .snoc h p, v, hv => by
    rcases List.mem_append.1 hv with e | e
    · exact h.mem v e
    · rw [List.mem_singleton.1 e]; exact p.rdy.1
/-- What leads to a told one was told ahead of it. -/
theorem Run.before : ∀ {o : List Vx}, Run E S o → ∀ {i : Nat} {v u : Vx}, o[i]? = some v → S u → E u v → u ∈ o.take i
  | _, .nil, i, v, u, hv, _, _ => by simp at hv
  | _, .snoc (out := out) (v := w) h p, i, v, u, hv, hu, he => by
    by_cases c : i < out.length
    · rw [List.getElem?_append_left c] at hv
      rw [List.take_append_of_le_length (by omega)]
      exact h.before hv hu he
    · rw [List.getElem?_append_right (by omega)] at hv
      have hi : i = out.length := by
        have := (List.getElem?_eq_some_iff.1 hv).1
        simp at this; omega
      subst hi
      rw [Nat.sub_self] at hv
      obtain rfl := Option.some.inj (show some w = some v from hv)
      rw [List.take_left' rfl]
      exact p.rdy.2.2 u hu he
end
end Go.Proofs.YtolpkeajokjbjaaDoor
