/- Lines: what is reached; which one stands ahead of which. -/
import Derived.Test.YtolpkeajokjbjaaDoorLnG
set_option linter.unusedVariables false
set_option linter.unusedSimpArgs false
namespace Go.Proofs.YtolpkeajokjbjaaDoor
open Go.RowKit Go.L
attribute [local irreducible] LL LW LO
inductive Rch (f : Vx → List Vx) (h : Vx) : Vx → Prop
  | one {d : Vx} : d ∈ f h → Rch f h d
  | step {y d : Vx} : Rch f h y → d ∈ f y → Rch f h d
theorem Rch.closed {f : Vx → List Vx} {h : Vx} {S : Vx → Prop} (h0 : ∀ d ∈ f h, S d) (h1 : ∀ y, S y → ∀ d ∈ f y, S d) : ∀ {x : Vx}, Rch f h x → S x
  | _, .one hd => h0 _ hd
  | _, .step hy hd => h1 _ (Rch.closed h0 h1 hy) _ hd
theorem Rch.last {f : Vx → List Vx} {h : Vx} {x : Vx} (hx : Rch f h x) : ∃ y, x ∈ f y := by
  cases hx with
  | one hd => exact ⟨_, hd⟩
  | step _ hd => exact ⟨_, hd⟩
abbrev nx (m : At) (v : Vx) : List Vx := (atG m v).next
theorem nodup_len {α : Type} [DecidableEq α] : ∀ {k l : List α}, k.Nodup → (∀ x, x ∈ k → x ∈ l) → k.length ≤ l.length
  | [], l, _, _ => Nat.zero_le _
  | a :: k, l, hk, hs => by
    have ha := hs a (by simp)
    obtain ⟨h1, h2⟩ := List.nodup_cons.1 hk
    have hl := (List.perm_cons_erase ha).length_eq
    have := nodup_len (l := l.erase a) h2 (fun x hx => by
      have : x ≠ a := fun e => h1 (e ▸ hx)
      exact (List.mem_erase_of_ne this).2 (hs x (List.mem_cons_of_mem _ hx)))
    simp only [List.length_cons] at hl ⊢
    omega
def allN (m : At) : List Vx := m.flatMap fun p => p.2.next
theorem look_mem : ∀ {m : At} {v : Vx} {x : Ln}, lookA m v = some x → (v, x) ∈ m
  | p :: r, v, x, h => by
    rw [lookA] at h
    split at h
    · rename_i c
      have := Option.some.inj h
      rw [← c, ← this]; simp
    · exact List.mem_cons_of_mem _ (look_mem h)
theorem nx_all {m : At} {v d : Vx} (h : d ∈ nx m v) : d ∈ allN m := by
  unfold nx atG at h
  cases hq : lookA m v with
  | none => rw [hq] at h; cases h
  | some x => rw [hq] at h; exact List.mem_flatMap.2 ⟨(v, x), look_mem hq, h⟩
/-- The search: what was looked at, what was seen, what is to be looked at. -/
structure Sk (m : At) (a b : Vx) (D ks todo : List Vx) (S : List (Vx × Int)) : Prop where
  nd : ks.Nodup
  perm : (a :: ks).Perm (D ++ todo)
  cl : ∀ v ∈ D, b ∉ nx m v ∧ ∀ w ∈ nx m v, w ∈ ks
  rch : ∀ v ∈ ks, Rch (nx m) a v
  look : ∀ w, lookA S w = if w ∈ ks then some 1 else none
theorem Sk.len {m : At} {a b : Vx} {D ks todo : List Vx} {S : List (Vx × Int)} (h : Sk m a b D ks todo S) : ks.length ≤ (allN m).length ∧ todo.length ≤ ks.length + 1 := by
  refine ⟨nodup_len h.nd fun x hx => by obtain ⟨y, hy⟩ := (h.rch x hx).last; exact nx_all hy, ?_⟩
  have := h.perm.length_eq
  rw [List.length_append, List.length_cons] at this
  omega
theorem Sk.none {m : At} {a b : Vx} {D ks : List Vx} {S : List (Vx × Int)} (h : Sk m a b D ks [] S) : ¬ Rch (nx m) a b := fun hr => by
  have hm : ∀ x, x ∈ a :: ks → x ∈ D := fun x hx => by have := h.perm.mem_iff.1 hx; simpa using this
  have hb : ∀ y, y ∈ a :: ks → b ∉ nx m y := fun y hy => (h.cl y (hm y hy)).1
  cases hr with
  | one hd => exact hb a (by simp) hd
  | step hy hd =>
    refine hb _ (List.mem_cons_of_mem _ ?_) hd
    exact Rch.closed (S := fun x => x ∈ ks) (fun d hd => (h.cl a (hm a (by simp))).2 d hd) (fun y hy d hd => (h.cl y (hm y (List.mem_cons_of_mem _ hy))).2 d hd) hy
/-- Within the search at v: the first j of those behind it are seen. -/
structure Si (m : At) (a b v : Vx) (j : Nat) (D ks todo : List Vx) (S : List (Vx × Int)) : Prop where
  nd : ks.Nodup
  perm : (a :: ks).Perm ((v :: D) ++ todo)
  cl : ∀ v ∈ D, b ∉ nx m v ∧ ∀ w ∈ nx m v, w ∈ ks
  now : ∀ w ∈ (nx m v).take j, w ≠ b ∧ w ∈ ks
  rch : ∀ v ∈ ks, Rch (nx m) a v
  look : ∀ w, lookA S w = if w ∈ ks then some 1 else none
theorem Sk.pop {m : At} {a b v : Vx} {D ks todo : List Vx} {S : List (Vx × Int)} (h : Sk m a b D ks (todo ++ [v]) S) : Si m a b v 0 D ks todo S :=
  ⟨h.nd, h.perm.trans (by
    have := (List.perm_append_comm (l₁ := D ++ todo) (l₂ := [v]))
    rw [← List.append_assoc]
    exact this), h.cl, fun w hw => by simp at hw, h.rch, h.look⟩
theorem Si.mem {m : At} {a b v : Vx} {j : Nat} {D ks todo : List Vx} {S : List (Vx × Int)} (h : Si m a b v j D ks todo S) {w : Vx} (hw : w ∈ nx m v) : Rch (nx m) a w := by
  have : v ∈ a :: ks := h.perm.mem_iff.2 (by simp)
  rcases List.mem_cons.1 this with e | e
  · rw [e] at hw; exact .one hw
  · exact .step (h.rch v e) hw
theorem Si.old {m : At} {a b v w : Vx} {j : Nat} {D ks todo : List Vx} {S : List (Vx × Int)} (h : Si m a b v j D ks todo S) (hw : (nx m v)[j]? = some w) (hb : w ≠ b) (hk : w ∈ ks) : Si m a b v (j + 1) D ks todo S :=
  ⟨h.nd, h.perm, h.cl, fun x hx => by
    rw [take_snoc hw, List.mem_append, List.mem_singleton] at hx
    rcases hx with e | e
    · exact h.now x e
    · rw [e]; exact ⟨hb, hk⟩, h.rch, h.look⟩
theorem Si.new {m : At} {a b v w : Vx} {j : Nat} {D ks todo : List Vx} {S : List (Vx × Int)} (h : Si m a b v j D ks todo S) (hw : (nx m v)[j]? = some w) (hb : w ≠ b) (hk : w ∉ ks) : Si m a b v (j + 1) D (ks ++ [w]) (todo ++ [w]) (setA S w 1) :=
  ⟨nodup_snoc.2 ⟨h.nd, hk⟩, by
    have := h.perm.append_right [w]
    rw [List.append_assoc] at this
    exact this, fun x hx => ⟨(h.cl x hx).1, fun y hy => List.mem_append_left _ ((h.cl x hx).2 y hy)⟩, fun x hx => by
    rw [take_snoc hw, List.mem_append, List.mem_singleton] at hx
    rcases hx with e | e
    · exact ⟨(h.now x e).1, List.mem_append_left _ (h.now x e).2⟩
    · rw [e]; exact ⟨hb, by simp⟩, fun x hx => by
    rcases List.mem_append.1 hx with e | e
    · exact h.rch x e
    · rw [List.mem_singleton.1 e]; exact h.mem (List.mem_of_getElem? hw), fun x => by
    rw [look_setA, h.look]
    by_cases c : w = x
    · subst c; simp
    · rw [if_neg c]
      have : (x ∈ ks ++ [w]) ↔ x ∈ ks := by
        rw [List.mem_append, List.mem_singleton]
        exact ⟨fun e => e.elim id fun e => absurd e.symm c, .inl⟩
      by_cases d : x ∈ ks
      · rw [if_pos d, if_pos (this.2 d)]
      · rw [if_neg d, if_neg (fun e => d (this.1 e))]⟩
theorem Si.done {m : At} {a b v : Vx} {D ks todo : List Vx} {S : List (Vx × Int)} (h : Si m a b v (nx m v).length D ks todo S) : Sk m a b (v :: D) ks todo S :=
  ⟨h.nd, h.perm, fun x hx => by
    rcases List.mem_cons.1 hx with e | e
    · rw [e]
      exact ⟨fun hb => (h.now b (by rw [List.take_length]; exact hb)).1 rfl, fun w hw => (h.now w (by rw [List.take_length]; exact hw)).2⟩
    · exact h.cl x e, h.rch, h.look⟩
theorem OwnS.pop {size : Nat} {e : List LV} {es : List (List LV)} {A : Option Nat} {off n c : Nat} {xs : List LV} (h : OwnS size (es ++ [e]) A off n c xs) : OwnS size es A off (n - 1) c xs ∧ (xs.drop (off + (n - 1) * size)).take size = e ∧ 0 < n := by
  have hn : n = es.length + 1 := by have := h.cnt; rw [List.length_append, List.length_singleton] at this; omega
  have he : e.length = size := h.sz e (by simp)
  have hf : es.flatten.length = (n - 1) * size := by
    rw [flat_len fun x hx => h.sz x (List.mem_append_left _ hx), hn]; rfl
  have hc := h.cells
  rw [List.flatten_append] at hc
  have hns : n * size = (n - 1) * size + size := by rw [hn, Nat.succ_mul]; rfl
  refine ⟨⟨by omega, by have := h.le; omega, h.len, ?_, fun x hx => h.sz x (List.mem_append_left _ hx), h.nil⟩, ?_, by omega⟩
  · have h2 := congrArg (List.take ((n - 1) * size)) hc
    rw [List.take_take, Nat.min_eq_left (by omega), List.take_left' hf] at h2
    exact h2
  · have h2 := congrArg (List.drop ((n - 1) * size)) hc
    rw [List.drop_left' hf, List.drop_take, List.drop_drop, hns, Nat.add_sub_cancel_left] at h2
    simpa using h2
end Go.Proofs.YtolpkeajokjbjaaDoor
