/- No answer hangs on the order of the items. -/
import Derived.Test.YtmaeepckfbnpjaaDqJ
set_option linter.unusedVariables false
set_option linter.unusedSimpArgs false
namespace Go.Proofs.Ytmaeepckfbnpjaa
open Go.RowKit Go.L Go.Lib
attribute [local irreducible] LL LW LO
abbrev revI (x : It) : It := ⟨x.name, x.deps.reverse⟩
def rotI (l : List It) (k : Nat) : List It := l.drop k ++ l.take k
theorem rot_at {l : List It} {i k : Nat} (hi : i < l.length) (hk : k < l.length) : (rotI l k)[i]? = l[(i + k) % l.length]? := by
  unfold rotI
  by_cases c : i + k < l.length
  · rw [List.getElem?_append_left (by rw [List.length_drop]; omega), List.getElem?_drop, Nat.mod_eq_of_lt c, Nat.add_comm]
  · rw [List.getElem?_append_right (by rw [List.length_drop]; omega), List.length_drop, List.getElem?_take, if_pos (by omega), show (i + k) % l.length = i - (l.length - k) by
      rw [Nat.mod_eq_sub_mod (by omega), Nat.mod_eq_of_lt (by omega)]; omega]
theorem rot_len (l : List It) (k : Nat) : (rotI l k).length = l.length := by unfold rotI; rw [List.length_append, List.length_drop, List.length_take]; omega
theorem rot_perm (l : List It) (k : Nat) : (rotI l k).Perm l := by
  unfold rotI
  have := List.perm_append_comm (l₁ := l.drop k) (l₂ := l.take k)
  rwa [List.take_append_drop] at this
theorem totalD_app (a b : List It) : totalD (a ++ b) = totalD a + totalD b := by unfold totalD; simp
theorem totalD_rot (l : List It) (k : Nat) : totalD (rotI l k) = totalD l := by
  unfold rotI
  rw [totalD_app]
  conv => rhs; rw [← List.take_append_drop k l, totalD_app]
  omega
/-- The first i of the turned items, last first. -/
def turnI (l : List It) (k i : Nat) : List It := (((rotI l k).take i).map revI).reverse
theorem turn_step {l : List It} {k i : Nat} {x : It} (hx : (rotI l k)[i]? = some x) : turnI l k (i + 1) = revI x :: turnI l k i := by
  unfold turnI
  rw [take_snoc hx, List.map_append, List.reverse_append]; rfl
theorem turn_len {l : List It} {k i : Nat} (hi : i ≤ l.length) : (turnI l k i).length = i := by
  unfold turnI
  rw [List.length_reverse, List.length_map, List.length_take, rot_len]; omega
theorem turn_perm (l : List It) (k : Nat) : (turnI l k l.length).Perm (l.map revI) := by
  unfold turnI
  rw [← rot_len l k, List.take_length]
  exact (List.reverse_perm _).trans ((rot_perm l k).map _)
theorem totalD_rev : ∀ l : List It, totalD ((l.map revI).reverse) = totalD l
  | [] => rfl
  | x :: l => by
    rw [List.map_cons, List.reverse_cons, totalD_app, totalD_rev l]
    show totalD l + (x.deps.reverse.length + 0) = x.deps.length + totalD l
    rw [List.length_reverse]; omega
theorem turn_total (l : List It) (k : Nat) : totalD (turnI l k l.length) = totalD l := by
  unfold turnI
  rw [← rot_len l k, List.take_length, totalD_rev, totalD_rot]
section
variable {l m : List It}
theorem tn_names (h : m.Perm (l.map revI)) : (names m).Perm (names l) := by
  have := h.map (·.name)
  rwa [List.map_map] at this
theorem tn_mem (h : m.Perm (l.map revI)) {x : It} : x ∈ m ↔ ∃ y ∈ l, revI y = x := by rw [h.mem_iff, List.mem_map]
theorem tn_deps (h : m.Perm (l.map revI)) {a d : Hs} : d ∈ depsOf m a ↔ d ∈ depsOf l a := by
  rw [depsOf_mem, depsOf_mem]
  constructor
  · rintro ⟨x, hx, e, hd⟩
    obtain ⟨y, hy, rfl⟩ := (tn_mem h).1 hx
    exact ⟨y, hy, e, List.mem_reverse.1 hd⟩
  · rintro ⟨y, hy, e, hd⟩
    exact ⟨revI y, (tn_mem h).2 ⟨y, hy, rfl⟩, e, List.mem_reverse.2 hd⟩
theorem tn_rch (h : m.Perm (l.map revI)) {a x : Hs} : Rch (depsOf m) a x ↔ Rch (depsOf l) a x := ⟨Rch.congr fun _ _ e => (tn_deps h).1 e, Rch.congr fun _ _ e => (tn_deps h).2 e⟩
theorem tn_len (h : m.Perm (l.map revI)) : m.length = l.length := by rw [h.length_eq, List.length_map]
theorem tn_miss (h : m.Perm (l.map revI)) : missS m = missS l := by
  unfold missS
  rw [tn_len h]
  split
  · rfl
  · refine sortU_congr fun y => ?_
    unfold missO
    simp only [List.mem_filter, List.mem_flatMap, decide_eq_true_eq, (tn_names h).mem_iff]
    refine and_congr ⟨fun ⟨x, hx, e⟩ => ?_, fun ⟨x, hx, e⟩ => ?_⟩ Iff.rfl
    · obtain ⟨z, hz, rfl⟩ := (tn_mem h).1 hx
      exact ⟨z, hz, List.mem_reverse.1 e⟩
    · exact ⟨revI x, (tn_mem h).2 ⟨x, hx, rfl⟩, List.mem_reverse.2 e⟩
theorem tn_closed (h : m.Perm (l.map revI)) : closedS m = closedS l := by
  unfold closedS
  rw [tn_len h, tn_miss h]
  congr 2
  exact decide_eq_decide.2 (tn_names h).nodup_iff
theorem rev_ready (out : List Hs) (x : It) : readyB out (revI x) = readyB out x := by
  rw [Bool.eq_iff_iff, readyB_iff, readyB_iff]
  exact and_congr Iff.rfl ⟨fun c d hd => c d (List.mem_reverse.2 hd), fun c d hd => c d (List.mem_reverse.1 hd)⟩
theorem rev_readyL (out : List Hs) : ∀ l : List It, readyL (l.map revI) out = readyL l out
  | [] => rfl
  | x :: l => by
    have ih := rev_readyL out l
    unfold readyL at ih ⊢
    rw [List.map_cons, List.filter_cons, List.filter_cons, rev_ready]
    split
    · rw [List.map_cons, List.map_cons, ih]
    · exact ih
theorem tn_next (h : m.Perm (l.map revI)) (out : List Hs) : nextO m out = nextO l out := by
  unfold nextO
  congr 1
  refine sortH_perm_eq ?_
  rw [← rev_readyL out l]
  unfold readyL
  exact (h.filter _).map _
theorem tn_go (h : m.Perm (l.map revI)) : ∀ (f : Nat) (out : List Hs), goO m f out = goO l f out
  | 0, out => rfl
  | f + 1, out => by
    show (match nextO m out with | none => out | some h => goO m f (out ++ [h])) = (match nextO l out with | none => out | some h => goO l f (out ++ [h]))
    rw [tn_next h out]
    cases nextO l out with
    | none => rfl
    | some a => exact tn_go h f _
theorem tn_order (h : m.Perm (l.map revI)) : orderS m = orderS l := by
  unfold orderS
  rw [tn_len h, tn_miss h, tn_go h]
  have : (¬ (names m).Nodup) = (¬ (names l).Nodup) := by rw [(tn_names h).nodup_iff]
  simp only [(tn_names h).nodup_iff]
theorem tn_isN (h : m.Perm (l.map revI)) {a : Hs} {ks : List Hs} (hk : IsN l a ks) : IsN m a ks :=
  ⟨fun c => hk.1 (by rw [← tn_len h]; exact c), fun c => (hk.2 (by rw [← tn_len h]; exact c)).congr fun x => (tn_rch h).symm⟩
theorem tn_isA (h : m.Perm (l.map revI)) {a : Hs} {ks : List Hs} (hk : IsA l a ks) : IsA m a ks :=
  ⟨fun c => hk.1 (by rw [← tn_len h]; exact c), fun c => (hk.2 (by rw [← tn_len h]; exact c)).congr fun x => (tn_rch h).symm⟩
end
theorem rev_at {α : Type} {l : List α} {q : Nat} (hq : q < l.length) : l[l.length - 1 - q]? = l.reverse[q]? := by
  rw [List.getElem?_reverse hq]
end Go.Proofs.Ytmaeepckfbnpjaa
