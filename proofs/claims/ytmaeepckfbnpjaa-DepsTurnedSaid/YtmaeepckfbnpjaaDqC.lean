/- The order: what the walk needs. -/
import Derived.Test.YtmaeepckfbnpjaaDqB
set_option linter.unusedVariables false
set_option linter.unusedSimpArgs false
namespace Go.Proofs.Ytmaeepckfbnpjaa
open Go.RowKit Go.L Go.Lib
attribute [local irreducible] LL LW LO
theorem OwnS.head {size : Nat} {e : List LV} {es : List (List LV)} {A : Option Nat} {off n c : Nat} {xs : List LV} (h : OwnS size (e :: es) A off n c xs) : (xs.drop off).take size = e := by
  have hc := h.cells
  have hn : n = es.length + 1 := h.cnt.symm
  have he : e.length = size := h.sz e (by simp)
  have : ((xs.drop off).take (n * size)).take size = e := by rw [hc, List.flatten_cons, List.take_left' he]
  rw [List.take_take] at this
  rw [hn, Nat.succ_mul, Nat.min_eq_left (by omega)] at this
  exact this
theorem OwnS.tail {size : Nat} {e : List LV} {es : List (List LV)} {b off n c : Nat} {xs : List LV} (h : OwnS size (e :: es) (some b) off n c xs) : OwnS size es (some b) (if c = 1 then off else off + size) (n - 1) (c - 1) xs := by
  have hn : n = es.length + 1 := h.cnt.symm
  have he : e.length = size := h.sz e (by simp)
  have hle := h.le
  have hlen := h.len
  have hcs : c * size = (c - 1) * size + size := by
    obtain ⟨q, rfl⟩ : ∃ q, c = q + 1 := ⟨c - 1, by omega⟩
    rw [Nat.succ_mul]; rfl
  refine ⟨by omega, by omega, ?_, ?_, fun x hx => h.sz x (List.mem_cons_of_mem _ hx), fun c => by cases c⟩
  · split
    · rename_i c1; subst c1; omega
    · omega
  · split
    · rename_i c1
      have h0 : es = [] := List.eq_nil_of_length_eq_zero (by omega)
      subst h0
      rw [show n - 1 = 0 by omega]; simp
    · have hc := h.cells
      rw [List.flatten_cons] at hc
      have h2 := congrArg (List.drop size) hc
      rw [List.drop_left' he, List.drop_take, List.drop_drop] at h2
      rw [show (n - 1) * size = n * size - size by rw [hn, Nat.succ_mul]; simp]
      exact h2
theorem own_tailV (b off n c : Nat) : sliced ((some b).map fun b => (⟨b, off, none⟩ : Addr)) 1 n c 32 = .slice (some ⟨b, if c = 1 then off else off + 32, none⟩) (n - 1) (c - 1) := by
  unfold sliced
  by_cases h : c = 1
  · rw [if_pos h, if_pos h]; rfl
  · rw [if_neg h, if_neg h]; rfl
def rdy0 (l : List It) : List Hs := (l.filter fun x => decide (x.deps.length = 0)).map (·.name)
theorem rdy0_snoc (l : List It) (x : It) : rdy0 (l ++ [x]) = rdy0 l ++ (if x.deps.length = 0 then [x.name] else []) := by
  unfold rdy0
  rw [List.filter_append, List.map_append]
  congr 1
  by_cases c : x.deps.length = 0
  · rw [if_pos c, List.filter_cons, if_pos (decide_eq_true c)]; rfl
  · rw [if_neg c, List.filter_cons, if_neg (by rw [decide_eq_false c]; decide)]; rfl
theorem rdy0_len (l : List It) : (rdy0 l).length ≤ l.length := by unfold rdy0; rw [List.length_map]; exact List.length_filter_le _ _
theorem KO.first {l : List It} (hn : (names l).Nodup) {W : List (Hs × LV)} (hw : ∀ x ∈ l, lookM W x.name = some (i64 (x.deps.length : Nat))) : KO l [] W (rdy0 l) := by
  refine ⟨((List.filter_sublist).map _).nodup hn, fun x hx => ?_, fun y => ?_⟩
  · rw [hw x hx]
    have : rem x [] = x.deps.length := by unfold rem; simp
    rw [this]
  · rw [readyL_mem]
    unfold rdy0
    simp only [List.mem_map, List.mem_filter, decide_eq_true_eq]
    constructor
    · rintro ⟨x, ⟨a, b⟩, c⟩
      refine ⟨x, a, c, by simp, fun d hd => ?_⟩
      rw [List.eq_nil_of_length_eq_zero b] at hd; cases hd
    · rintro ⟨x, a, b, _, c⟩
      refine ⟨x, ⟨a, ?_⟩, b⟩
      cases hq : x.deps with
      | nil => rfl
      | cons d _ => have := c d (by rw [hq]; simp); cases this
theorem waits_step {l : List It} (hn : (names l).Nodup) {i : Nat} {x : It} (hx : l[i]? = some x) {W : List (Hs × LV)} (hw : ∀ y ∈ l.take i, lookM W y.name = some (i64 (y.deps.length : Nat))) : ∀ y ∈ l.take (i + 1), lookM (setM W x.name (i64 (x.deps.length : Nat))) y.name = some (i64 (y.deps.length : Nat)) := by
  intro y hy
  have h2 := (List.take_sublist (i + 1) (names l)).nodup hn
  rw [← List.map_take, take_snoc hx, List.map_append] at h2
  have h3 := (nodup_snoc.1 h2).2
  rw [take_snoc hx, List.mem_append, List.mem_singleton] at hy
  rw [look_set]
  rcases hy with e | e
  · rw [if_neg fun c => h3 (List.mem_map.2 ⟨y, e, c.symm⟩)]
    exact hw y e
  · rw [e, if_pos rfl]
end Go.Proofs.Ytmaeepckfbnpjaa
