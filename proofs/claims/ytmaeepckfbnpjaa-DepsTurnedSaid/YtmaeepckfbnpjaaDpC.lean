/- Maps of hashes: counts, and lists that grow. -/
import Derived.Test.YtmaeepckfbnpjaaDpB
import Derived.Test.YtmaeepckfbnpjaaLgD
set_option linter.unusedVariables false
set_option linter.unusedSimpArgs false
namespace Go.Proofs.Ytmaeepckfbnpjaa
open Go.RowKit Go.L Go.Lib
attribute [local irreducible] LL LW LO
abbrev i64 (n : Int) : LV := .raw (.int .i64 n)
abbrev bl (b : Bool) : LV := .raw (.bool b)
section
variable {κ : Type} [DecidableEq κ]
theorem lookM_cons (p : κ × LV) (r : List (κ × LV)) (b : κ) : lookM (p :: r) b = if p.1 = b then some p.2 else lookM r b := by
  unfold lookM
  rw [idxM]
  by_cases c : p.1 = b
  · rw [if_pos c, if_pos c]; rfl
  · rw [if_neg c, if_neg c]
    cases idxM r b with
    | none => rfl
    | some i => rfl
theorem setM_cons (p : κ × LV) (r : List (κ × LV)) (a : κ) (v : LV) : setM (p :: r) a v = if p.1 = a then (a, v) :: r else p :: setM r a v := by
  unfold setM
  rw [idxM]
  by_cases c : p.1 = a
  · rw [if_pos c, if_pos c]; rfl
  · rw [if_neg c, if_neg c]
    cases idxM r a with
    | none => rfl
    | some i => rfl
theorem look_set : ∀ (l : List (κ × LV)) (a b : κ) (v : LV), lookM (setM l a v) b = if a = b then some v else lookM l b
  | [], a, b, v => by
    show lookM ([] ++ [(a, v)]) b = _
    rw [List.nil_append, lookM_cons]
  | p :: r, a, b, v => by
    rw [setM_cons, lookM_cons]
    by_cases c : p.1 = a
    · rw [if_pos c, lookM_cons]
      by_cases d : a = b
      · rw [if_pos d, if_pos d]
      · rw [if_neg d, if_neg d, if_neg (by rw [c]; exact d)]
    · rw [if_neg c, lookM_cons, look_set r a b v]
      by_cases d : p.1 = b
      · rw [if_pos d, if_pos d, if_neg (fun e => c (by rw [d, e]))]
      · rw [if_neg d, if_neg d]
theorem keys_set : ∀ (l : List (κ × LV)) (a : κ) (v : LV), (setM l a v).map (·.1) = if a ∈ l.map (·.1) then l.map (·.1) else l.map (·.1) ++ [a]
  | [], a, v => by simp [setM, idxM]
  | p :: r, a, v => by
    rw [setM_cons]
    by_cases c : p.1 = a
    · rw [if_pos c, if_pos (by rw [List.map_cons, c]; simp)]; simp [c]
    · rw [if_neg c, List.map_cons, keys_set r a v, List.map_cons]
      by_cases d : a ∈ r.map (·.1)
      · rw [if_pos d, if_pos (List.mem_cons_of_mem _ d)]
      · rw [if_neg d, if_neg (by intro e; rcases List.mem_cons.1 e with e | e; exact c e.symm; exact d e)]; rfl
end
/-- How often each name was told. -/
structure Many (M : List (Hs × LV)) (l : List Hs) : Prop where
  look : ∀ h, lookM M h = if l.count h = 0 then none else some (i64 (l.count h : Nat))
  keys : (M.map (·.1)).Nodup
  mem : ∀ h, h ∈ M.map (·.1) ↔ h ∈ l
theorem Many.nil : Many [] [] := ⟨fun h => rfl, by simp, fun h => by simp⟩
theorem Many.get {M : List (Hs × LV)} {l : List Hs} (h : Many M l) (a : Hs) : (lookM M a).getD (.raw (.int .i64 0)) = i64 (l.count a : Nat) := by
  rw [h.look a]
  by_cases c : l.count a = 0
  · rw [if_pos c, c]; rfl
  · rw [if_neg c]; rfl
theorem Many.add {M : List (Hs × LV)} {l : List Hs} (h : Many M l) (a : Hs) : Many (setM M a (i64 ((l.count a + 1 : Nat) : Int))) (l ++ [a]) := by
  refine ⟨fun b => ?_, ?_, fun b => ?_⟩
  · rw [look_set, List.count_append, List.count_singleton, h.look b]
    by_cases c : a = b
    · subst c; simp
    · simp only [beq_eq_false_iff_ne.2 c, if_neg c, Bool.false_eq_true, if_false, Nat.add_zero]
  · rw [keys_set]
    by_cases c : a ∈ M.map (·.1)
    · rw [if_pos c]; exact h.keys
    · rw [if_neg c, List.nodup_append]
      exact ⟨h.keys, by simp, fun x hx y hy => by rw [List.mem_singleton.1 hy]; rintro rfl; exact c hx⟩
  · rw [keys_set]
    by_cases c : a ∈ M.map (·.1)
    · rw [if_pos c, h.mem b, List.mem_append, List.mem_singleton]
      exact ⟨.inl, fun e => e.elim id fun e => by rw [e]; exact (h.mem a).1 c⟩
    · rw [if_neg c, List.mem_append, h.mem b, List.mem_append]
theorem nodup_len {α : Type} [DecidableEq α] : ∀ {k l : List α}, k.Nodup → (∀ x, x ∈ k → x ∈ l) → k.length ≤ l.length ∧ (k.length = l.length → l.Nodup)
  | [], l, _, _ => ⟨Nat.zero_le _, fun h => by rw [List.eq_nil_of_length_eq_zero h.symm]; exact List.nodup_nil⟩
  | a :: k, l, hk, hs => by
    have ha := hs a (by simp)
    obtain ⟨h1, h2⟩ := List.nodup_cons.1 hk
    have hp := List.perm_cons_erase ha
    have hl := hp.length_eq
    obtain ⟨i1, i2⟩ := nodup_len (l := l.erase a) h2 (fun x hx => by
      have : x ≠ a := fun e => h1 (e ▸ hx)
      exact (List.mem_erase_of_ne this).2 (hs x (List.mem_cons_of_mem _ hx)))
    simp only [List.length_cons] at hl ⊢
    refine ⟨by omega, fun e => ?_⟩
    have hn := i2 (by omega)
    refine hp.nodup_iff.2 (List.nodup_cons.2 ⟨fun hm => ?_, hn⟩)
    have hd := nodup_len (k := k) (l := (l.erase a).erase a) h2 (fun x hx => by
      have : x ≠ a := fun e => h1 (e ▸ hx)
      exact (List.mem_erase_of_ne this).2 ((List.mem_erase_of_ne this).2 (hs x (List.mem_cons_of_mem _ hx))))
    have := List.length_erase_of_mem hm
    have hpos := List.length_pos_of_mem hm
    have := hd.1
    omega
theorem Many.len {M : List (Hs × LV)} {l : List Hs} (h : Many M l) : M.length = l.length ↔ l.Nodup := by
  have h1 := nodup_len h.keys (fun x hx => (h.mem x).1 hx)
  rw [List.length_map] at h1
  refine ⟨h1.2, fun hn => ?_⟩
  have h2 := (nodup_len hn (fun x hx => (h.mem x).2 hx)).1
  rw [List.length_map] at h2
  omega
end Go.Proofs.Ytmaeepckfbnpjaa
