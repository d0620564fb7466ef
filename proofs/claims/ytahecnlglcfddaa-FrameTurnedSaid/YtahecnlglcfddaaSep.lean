/- Words of this session's own: what a call owns, as one fact that goes from step to step ('Sts w0 w P'); laws for the operations that make memory. Plain theorems over any program. -/
import Derived.Below
import Derived.WalkKit
import Derived.OwnWalk
import Derived.Deep.Draws
import Derived.Deep.RegionHeld3
import Derived.Deep.LoopGhost
import Derived.Deep.AppendLies
import Derived.Maps.AppendAt
import Derived.Laws.MakeOwn
import Derived.Laws.OwnMore
import Derived.Laws.IdiomCopy
import Derived.Laws.Rows
import Derived.Laws.Slices
import Derived.Laws.BytesArg
import Derived.Lib.AppendStr
import Derived.Lib.ConvBytes
import Derived.Lib.SlBytesConst
set_option linter.unusedVariables false
set_option linter.unusedSimpArgs false
namespace Go.Sep
open Go.RowKit

/-- A fact that the walk's simp doesn't look into. -/
structure Asi (p : Prop) : Prop where mk :: (out : p)

/-- What is said of some blocks of a world. -/
structure HP where
  holds : World → (Nat → Prop) → Prop
  dom : ∀ {w F}, holds w F → ∀ k, F k → k < w.heap.size
  loc : ∀ {w w' F}, holds w F → (∀ k, F k → w'.heap[k]? = w.heap[k]?) → holds w' F

theorem lt_of_some {w : World} {g : Nat} {o : Obj} (h : w.heap[g]? = some o) : g < w.heap.size := (Array.getElem?_eq_some_iff.1 h).1

/-- Nothing. -/
def emp : HP where
  holds := fun _ F => ∀ k, ¬ F k
  dom := fun h k hk => (h k hk).elim
  loc := fun h _ => h

/-- Both, of different blocks. -/
def star (P Q : HP) : HP where
  holds := fun w F => ∃ F1 F2, P.holds w F1 ∧ Q.holds w F2 ∧ (∀ k, F k ↔ F1 k ∨ F2 k) ∧ ∀ k, F1 k → ¬ F2 k
  dom := fun ⟨_, _, h1, h2, hF, _⟩ k hk => by
    rcases (hF k).1 hk with h | h
    · exact P.dom h1 k h
    · exact Q.dom h2 k h
  loc := fun ⟨F1, F2, h1, h2, hF, hd⟩ he => ⟨F1, F2, P.loc h1 (fun k hk => he k ((hF k).2 (.inl hk))), Q.loc h2 (fun k hk => he k ((hF k).2 (.inr hk))), hF, hd⟩

/-- A block of cells, whole. -/
def blk (g : Nat) (t : TypeId) (cs : Array Value) : HP where
  holds := fun w F => (∀ k, F k ↔ k = g) ∧ w.heap[g]? = some (.cells cs t (0, 0))
  dom := fun ⟨hF, h⟩ k hk => by rw [(hF k).1 hk]; exact lt_of_some h
  loc := fun ⟨hF, h⟩ he => ⟨hF, (he g ((hF g).2 rfl)).trans h⟩

/-- A block of another kind, whole (a map). -/
def obj (g : Nat) (o : Obj) : HP where
  holds := fun w F => (∀ k, F k ↔ k = g) ∧ w.heap[g]? = some o
  dom := fun ⟨hF, h⟩ k hk => by rw [(hF k).1 hk]; exact lt_of_some h
  loc := fun ⟨hF, h⟩ he => ⟨hF, (he g ((hF g).2 rfl)).trans h⟩

theorem ownsRow_move {w w1 : World} {base : Nat} {e : TypeId} {size n : Nat} {v : Value} {xs : List Value} (h : w.ownsRow base e size v n xs) (hm : ∀ k, v.ownBlock = some k → w1.heap[k]? = w.heap[k]?) : w1.ownsRow base e size v n xs := by
  obtain ⟨h1, h2⟩ := h
  refine ⟨h1, ?_⟩
  rcases h2 with h2 | ⟨g, cap, cur, rfl, hg, hh, r⟩
  · exact .inl h2
  · exact .inr ⟨g, cap, cur, rfl, hg, (hm g (by simp [Value.ownBlock])).trans hh, r⟩
theorem ownsRow_lt {w : World} {base : Nat} {e : TypeId} {size n : Nat} {v : Value} {xs : List Value} (h : w.ownsRow base e size v n xs) (k : Nat) (hk : v.ownBlock = some k) : k < w.heap.size := by
  rcases h.2 with ⟨rfl, _⟩ | ⟨g, cap, cur, rfl, hb, hh, _⟩
  · simp [Value.ownBlock] at hk
  · have : g = k := by simpa [Value.ownBlock] using hk
    subst this
    exact lt_of_some hh
theorem ownsRow_base {w : World} {base base' : Nat} {e : TypeId} {size n : Nat} {v : Value} {xs : List Value} (h : w.ownsRow base e size v n xs) (hb : ∀ k, v.ownBlock = some k → base' ≤ k) : w.ownsRow base' e size v n xs := by
  obtain ⟨h1, h2⟩ := h
  refine ⟨h1, ?_⟩
  rcases h2 with h2 | ⟨g, cap, cur, rfl, hg, hh, r⟩
  · exact .inl h2
  · exact .inr ⟨g, cap, cur, rfl, hb g (by simp [Value.ownBlock]), hh, r⟩

/-- A slice that has its block for itself and begins at its head: n elements of type e, each of so many cells. -/
def row (e size : Nat) (v : Value) (n : Nat) (xs : List Value) : HP where
  holds := fun w F => (∀ k, F k ↔ v.ownBlock = some k) ∧ w.ownsRow 0 e size v n xs
  dom := fun ⟨hF, h⟩ k hk => ownsRow_lt h k ((hF k).1 hk)
  loc := fun ⟨hF, h⟩ he => ⟨hF, ownsRow_move h (fun k hk => he k ((hF k).2 hk))⟩

/-- Some x has it. -/
def ex {α : Type} (f : α → HP) : HP where
  holds := fun w F => ∃ x, (f x).holds w F
  dom := fun ⟨x, h⟩ => (f x).dom h
  loc := fun ⟨x, h⟩ he => ⟨x, (f x).loc h he⟩

/-- It is so, and it is said. -/
def pure_ (p : Prop) (P : HP) : HP where
  holds := fun w F => p ∧ P.holds w F
  dom := fun ⟨_, h⟩ => P.dom h
  loc := fun ⟨hp, h⟩ he => ⟨hp, P.loc h he⟩

/-- The world is w0 with what was made since; of it P is said. What was there in w0 is as it was. -/
structure Sts (w0 w : World) (P : HP) : Prop where
  below : Below w0.heap.size w0 w
  own : ∃ F, P.holds w F ∧ ∀ k, F k → w0.heap.size ≤ k

/-- P says all that Q says, of no fewer blocks. -/
def Ent (P Q : HP) : Prop := ∀ w F, P.holds w F → ∃ F', Q.holds w F' ∧ ∀ k, F' k → F k

theorem Ent.refl (P : HP) : Ent P P := fun _ F h => ⟨F, h, fun _ hk => hk⟩
theorem Ent.trans {P Q R : HP} (h : Ent P Q) (k : Ent Q R) : Ent P R := fun w F hp => by
  obtain ⟨F1, h1, s1⟩ := h w F hp
  obtain ⟨F2, h2, s2⟩ := k w F1 h1
  exact ⟨F2, h2, fun k hk => s1 k (s2 k hk)⟩
theorem Ent.star {P P' Q Q' : HP} (h : Ent P P') (k : Ent Q Q') : Ent (star P Q) (star P' Q') := fun w F ⟨F1, F2, h1, h2, hF, hd⟩ => by
  obtain ⟨G1, g1, s1⟩ := h w F1 h1
  obtain ⟨G2, g2, s2⟩ := k w F2 h2
  exact ⟨fun k => G1 k ∨ G2 k, ⟨G1, G2, g1, g2, fun _ => Iff.rfl, fun k hk h => hd k (s1 k hk) (s2 k h)⟩, fun k hk => (hF k).2 (hk.imp (s1 k) (s2 k))⟩
theorem Ent.comm (P Q : HP) : Ent (Sep.star P Q) (Sep.star Q P) := fun _ F ⟨F1, F2, h1, h2, hF, hd⟩ => ⟨F, ⟨F2, F1, h2, h1, fun k => (hF k).trans Or.comm, fun k h k1 => hd k k1 h⟩, fun _ hk => hk⟩
theorem Ent.assoc (P Q R : HP) : Ent (Sep.star (Sep.star P Q) R) (Sep.star P (Sep.star Q R)) := fun _ F ⟨F1, F2, ⟨A, B, ha, hb, hab, dab⟩, h2, hF, hd⟩ =>
  ⟨F, ⟨A, fun k => B k ∨ F2 k, ha, ⟨B, F2, hb, h2, fun _ => Iff.rfl, fun k hk => hd k ((hab k).2 (.inr hk))⟩, fun k => by rw [hF, hab, or_assoc], fun k hk h => h.elim (dab k hk) (hd k ((hab k).2 (.inl hk)))⟩, fun _ hk => hk⟩
theorem Ent.assoc' (P Q R : HP) : Ent (Sep.star P (Sep.star Q R)) (Sep.star (Sep.star P Q) R) := fun _ F ⟨F1, F2, h1, ⟨A, B, ha, hb, hab, dab⟩, hF, hd⟩ =>
  ⟨F, ⟨fun k => F1 k ∨ A k, B, ⟨F1, A, h1, ha, fun _ => Iff.rfl, fun k hk h => hd k hk ((hab k).2 (.inl h))⟩, hb, fun k => by rw [hF, hab, or_assoc], fun k hk h => hk.elim (fun h1 => hd k h1 ((hab k).2 (.inr h))) (fun h1 => dab k h1 h)⟩, fun _ hk => hk⟩
theorem Ent.swap (P Q R : HP) : Ent (Sep.star P (Sep.star Q R)) (Sep.star Q (Sep.star P R)) := (Ent.assoc' P Q R).trans ((Ent.star (Ent.comm P Q) (Ent.refl R)).trans (Ent.assoc Q P R))
theorem Ent.drop (P Q : HP) : Ent (Sep.star P Q) Q := fun _ F ⟨_, F2, _, h2, hF, _⟩ => ⟨F2, h2, fun k hk => (hF k).2 (.inr hk)⟩
theorem Ent.dropr (P Q : HP) : Ent (Sep.star P Q) P := fun _ F ⟨F1, _, h1, _, hF, _⟩ => ⟨F1, h1, fun k hk => (hF k).2 (.inl hk)⟩
theorem Ent.emp (P : HP) : Ent P emp := fun _ F h => ⟨fun _ => False, fun _ hk => hk, fun _ hk => hk.elim⟩
theorem Ent.addemp (P : HP) : Ent P (Sep.star P Sep.emp) := fun _ F h => ⟨F, ⟨F, fun _ => False, h, fun _ hk => hk, fun k => by simp, fun _ _ hk => hk⟩, fun _ hk => hk⟩
theorem Ent.under {P Q : HP} (R : HP) (h : Ent P Q) : Ent (Sep.star R P) (Sep.star R Q) := Ent.star (Ent.refl R) h
theorem Ent.intro {α : Type} (f : α → HP) (x : α) : Ent (f x) (ex f) := fun _ F h => ⟨F, ⟨x, h⟩, fun _ hk => hk⟩
theorem Ent.pure {p : Prop} (hp : p) (P : HP) : Ent P (pure_ p P) := fun _ F h => ⟨F, ⟨hp, h⟩, fun _ hk => hk⟩

section
variable {w0 w w1 : World} {P Q R : HP}
theorem Sts.start (w : World) : Sts w w emp := ⟨Below.refl _ _, fun _ => False, fun _ hk => hk, fun _ hk => hk.elim⟩
theorem Sts.mono (h : Sts w0 w P) (he : Ent P Q) : Sts w0 w Q := by
  obtain ⟨hb, F, hF, hk⟩ := h
  obtain ⟨F', h', hs⟩ := he w F hF
  exact ⟨hb, F', h', fun k hk' => hk k (hs k hk')⟩
theorem Sts.size (h : Sts w0 w P) : w0.heap.size ≤ w.heap.size := h.below.size
theorem Sts.step (h : Sts w0 w P) (hb : Below w.heap.size w w1) : Sts w0 w1 P := by
  obtain ⟨hb0, F, hF, hk⟩ := h
  exact ⟨hb0.trans (hb.mono hb0.size), F, P.loc hF (fun k hk => hb.block k (P.dom hF k hk)), hk⟩
theorem Sts.alloc (h : Sts w0 w P) (o : Obj) : Sts w0 (w.alloc o) P := h.step ((Below.refl _ _).alloc (Nat.le_refl _) o)
theorem Sts.drew (h : Sts w0 w P) : Sts w0 w.drew P := h.step (Below.refl _ _).drew
theorem below_drewN {B : Nat} {w W : World} (h : Below B w W) (n : Nat) : Below B w (W.drewN n) := ⟨h.os, h.tape, h.output, h.size, h.block⟩
theorem Sts.drewN (h : Sts w0 w P) (n : Nat) : Sts w0 (w.drewN n) P := h.step (below_drewN (Below.refl _ _) n)
/-- What a call made, beside what is had. -/
theorem Sts.join (h : Sts w0 w P) (k : Sts w w1 Q) : Sts w0 w1 (star Q P) := by
  obtain ⟨hb0, F, hF, hk⟩ := h
  obtain ⟨hb, G, hG, hg⟩ := k
  refine ⟨hb0.trans (hb.mono hb0.size), fun k => G k ∨ F k, ⟨G, F, hG, P.loc hF (fun k hk => hb.block k (P.dom hF k hk)), fun _ => Iff.rfl, fun k h1 h2 => ?_⟩, fun k hk' => hk'.elim (fun h => Nat.le_trans hb0.size (hg k h)) (hk k)⟩
  have := hg k h1
  have := P.dom hF k h2
  omega
/-- A step that turns P into Q (and may make new blocks); what else is had stays. -/
structure Chg (w w1 : World) (F : Nat → Prop) : Prop where
  os : w1.os = w.os
  tape : w1.tape = w.tape
  output : w1.output = w.output
  size : w.heap.size ≤ w1.heap.size
  block : ∀ k, k < w.heap.size → ¬ F k → w1.heap[k]? = w.heap[k]?
theorem Sts.upd (h : Sts w0 w (star P R)) (hs : ∀ F, P.holds w F → ∃ F', Q.holds w1 F' ∧ (∀ k, F' k → F k ∨ w.heap.size ≤ k) ∧ Chg w w1 F) : Sts w0 w1 (star Q R) := by
  obtain ⟨hb0, F, ⟨F1, F2, h1, h2, hF, hd⟩, hk⟩ := h
  obtain ⟨G, hG, hsub, hc⟩ := hs F1 h1
  have hn : ∀ k, F2 k → w1.heap[k]? = w.heap[k]? := fun k hk2 => hc.block k (R.dom h2 k hk2) (fun h => hd k h hk2)
  refine ⟨hb0.trans ⟨hc.os, hc.tape, hc.output, hc.size, fun k hlt => hc.block k (Nat.lt_of_lt_of_le hlt hb0.size) (fun h => ?_)⟩, fun k => G k ∨ F2 k, ⟨G, F2, hG, R.loc h2 hn, fun _ => Iff.rfl, fun k h1' h2' => ?_⟩, fun k hk' => ?_⟩
  · have := hk k ((hF k).2 (.inl h))
    omega
  · rcases hsub k h1' with h | h
    · exact hd k h h2'
    · have := R.dom h2 k h2'
      omega
  · rcases hk' with h | h
    · rcases hsub k h with h | h
      · exact hk k ((hF k).2 (.inl h))
      · exact Nat.le_trans hb0.size h
    · exact hk k ((hF k).2 (.inr h))
theorem Chg.refl (w : World) (F : Nat → Prop) : Chg w w F := ⟨rfl, rfl, rfl, Nat.le_refl _, fun _ _ _ => rfl⟩
theorem Sts.swap {A B : HP} (h : Sts w0 w (star A (star B R))) : Sts w0 w (star B (star A R)) := h.mono (Ent.swap _ _ _)
theorem Sts.rot3 {A B C : HP} (h : Sts w0 w (star A (star B (star C R)))) : Sts w0 w (star C (star A (star B R))) := h.mono ((Ent.under _ (Ent.swap _ _ _)).trans (Ent.swap _ _ _))
theorem Sts.rot4 {A B C D : HP} (h : Sts w0 w (star A (star B (star C (star D R))))) : Sts w0 w (star D (star A (star B (star C R)))) := h.mono ((Ent.under _ ((Ent.under _ (Ent.swap _ _ _)).trans (Ent.swap _ _ _))).trans (Ent.swap _ _ _))
theorem Sts.tail {A : HP} (h : Sts w0 w (star A R)) : Sts w0 w R := h.mono (Ent.drop _ _)
theorem Sts.head {A : HP} (h : Sts w0 w (star A R)) : Sts w0 w A := h.mono (Ent.dropr _ _)
theorem Sts.drop2 {A B : HP} (h : Sts w0 w (star A (star B R))) : Sts w0 w (star A R) := h.mono (Ent.under _ (Ent.drop _ _))
theorem Sts.ex {α : Type} {f : α → HP} (h : Sts w0 w (star (ex f) R)) : ∃ x, Sts w0 w (star (f x) R) := by
  obtain ⟨hb, F, ⟨F1, F2, ⟨x, h1⟩, h2, hF, hd⟩, hk⟩ := h
  exact ⟨x, hb, F, ⟨F1, F2, h1, h2, hF, hd⟩, hk⟩
theorem Sts.pure {p : Prop} {A : HP} (h : Sts w0 w (star (pure_ p A) R)) : p ∧ Sts w0 w (star A R) := by
  obtain ⟨hb, F, ⟨F1, F2, ⟨hp, h1⟩, h2, hF, hd⟩, hk⟩ := h
  exact ⟨hp, hb, F, ⟨F1, F2, h1, h2, hF, hd⟩, hk⟩
/-- The caller's own fact, of a call that was told from its own beginning. -/
theorem Sts.lower {w' : World} (h : Sts w0 w P) (hb : Below w'.heap.size w' w0) : Sts w' w P := by
  obtain ⟨hb0, F, hF, hk⟩ := h
  exact ⟨hb.trans (hb0.mono hb.size), F, hF, fun k hk' => Nat.le_trans hb.size (hk k hk')⟩

/-! ### blocks -/
theorem Sts.new (h : Sts w0 w P) (t : TypeId) (cs : Array Value) : Sts w0 (w.alloc (.cells cs t)) (star (blk w.heap.size t cs) P) :=
  h.join ⟨(Below.refl _ _).alloc (Nat.le_refl _) _, fun k => k = w.heap.size, ⟨fun _ => Iff.rfl, heap_alloc_new w _⟩, fun k hk => by omega⟩
theorem Sts.newObj (h : Sts w0 w P) (o : Obj) : Sts w0 (w.alloc o) (star (obj w.heap.size o) P) :=
  h.join ⟨(Below.refl _ _).alloc (Nat.le_refl _) _, fun k => k = w.heap.size, ⟨fun _ => Iff.rfl, heap_alloc_new w _⟩, fun k hk => by omega⟩
theorem Sts.blk_at {g : Nat} {t : TypeId} {cs : Array Value} (h : Sts w0 w (star (blk g t cs) R)) : w.heap[g]? = some (.cells cs t (0, 0)) := by
  obtain ⟨_, F, ⟨F1, F2, h1, _⟩, _⟩ := h
  exact h1.2
theorem Sts.obj_at {g : Nat} {o : Obj} (h : Sts w0 w (star (obj g o) R)) : w.heap[g]? = some o := by
  obtain ⟨_, F, ⟨F1, F2, h1, _⟩, _⟩ := h
  exact h1.2
theorem Sts.blk_ge {g : Nat} {t : TypeId} {cs : Array Value} (h : Sts w0 w (star (blk g t cs) R)) : w0.heap.size ≤ g := by
  obtain ⟨_, F, ⟨F1, F2, h1, _, hF, _⟩, hk⟩ := h
  exact hk g ((hF g).2 (.inl ((h1.1 g).2 rfl)))
theorem blk_cell {g : Nat} {t : TypeId} {cs : Array Value} (h : w.heap[g]? = some (.cells cs t (0, 0))) (i : Nat) : w.cell? ⟨g, i, none⟩ = cs[i]? := cell_of_row w g i cs t (0, 0) h
theorem blk_frozen {g : Nat} {t : TypeId} {cs : Array Value} (h : w.heap[g]? = some (.cells cs t (0, 0))) (i : Nat) : w.frozen? ⟨g, i, none⟩ = false := by simp [World.frozen?, h]
theorem chg_set (w : World) (p : Addr) (u : Value) : Chg w (w.setCell p u) (fun k => k = p.block) := ⟨rfl, rfl, rfl, by simp [World.setCell], fun k _ hk => Below.heap_setCell w p u k hk⟩
theorem heap_set {g : Nat} {t : TypeId} {cs : Array Value} (h : w.heap[g]? = some (.cells cs t (0, 0))) (i : Nat) (u : Value) : (w.setCell ⟨g, i, none⟩ u).heap[g]? = some (.cells (cs.setIfInBounds i u) t (0, 0)) := by
  simp [World.setCell, Array.getElem?_modify, h]
theorem Chg.mono {F G : Nat → Prop} (h : Chg w w1 F) (hs : ∀ k, F k → G k) : Chg w w1 G := ⟨h.os, h.tape, h.output, h.size, fun k hk hn => h.block k hk (fun hf => hn (hs k hf))⟩
theorem Sts.set {g : Nat} {t : TypeId} {cs : Array Value} (h : Sts w0 w (star (blk g t cs) R)) (i : Nat) (u : Value) : Sts w0 (w.setCell ⟨g, i, none⟩ u) (star (blk g t (cs.setIfInBounds i u)) R) :=
  h.upd fun F hF => ⟨F, ⟨hF.1, heap_set hF.2 i u⟩, fun k hk => .inl hk, (chg_set w ⟨g, i, none⟩ u).mono (fun k hk => (hF.1 k).2 hk)⟩

/-! ### rows -/
/-- A slice that is read: nil, empty or other. -/
def Rd (w : World) (size : Nat) (A : Option Addr) (n : Nat) (xs : List Value) : Prop :=
  xs.length = n * size ∧ (0 < n → ∃ ad, A = some ad ∧ ∀ j u, xs[j]? = some u → w.cell? (ad.add j) = some u)
theorem Rd.nil (w : World) (size : Nat) (A : Option Addr) : Rd w size A 0 [] := ⟨by simp, fun h => absurd h (by omega)⟩
theorem Rd.below {size n : Nat} {A : Option Addr} {xs : List Value} (h : Rd w size A n xs) (hb : Below w.heap.size w w1) : Rd w1 size A n xs :=
  ⟨h.1, fun hn => by
    obtain ⟨ad, e, hc⟩ := h.2 hn
    exact ⟨ad, e, fun j u hu => (hb.cell (World.block_lt_of_cell? w _ (hc j u hu))).trans (hc j u hu)⟩⟩
theorem Rd.alloc {size n : Nat} {A : Option Addr} {xs : List Value} (h : Rd w size A n xs) (o : Obj) : Rd (w.alloc o) size A n xs := h.below ((Below.refl _ _).alloc (Nat.le_refl _) o)
theorem Rd.drew {size n : Nat} {A : Option Addr} {xs : List Value} (h : Rd w size A n xs) : Rd w.drew size A n xs := h
theorem Rd.drewN {size n : Nat} {A : Option Addr} {xs : List Value} (h : Rd w size A n xs) (m : Nat) : Rd (w.drewN m) size A n xs := h
theorem Rd.at_ {n : Nat} {A : Option Addr} {xs : List Value} (h : Rd w 1 A n xs) {k : Nat} (hk : k < n) : ∃ ad, A = some ad ∧ ∃ u, xs[k]? = some u ∧ w.cell? (ad.add k) = some u := by
  obtain ⟨ad, e, hc⟩ := h.2 (by omega)
  have hl : k < xs.length := by have := h.1; omega
  exact ⟨ad, e, xs[k], List.getElem?_eq_getElem hl, hc k _ (List.getElem?_eq_getElem hl)⟩
theorem row_form {e size n : Nat} {v : Value} {xs : List Value} {base : Nat} (h : w.ownsRow base e size v n xs) : ∃ A c, v = .slice A n c ∧ n ≤ c ∧ Rd w size A n xs := by
  rcases Nat.eq_zero_or_pos n with h0 | h0
  · subst h0
    rcases h.2 with ⟨rfl, _⟩ | ⟨g, cap, cur, rfl, _⟩
    · exact ⟨none, 0, rfl, Nat.le_refl _, h.1, fun hp => absurd hp (by omega)⟩
    · exact ⟨_, cap, rfl, Nat.zero_le _, h.1, fun hp => absurd hp (by omega)⟩
  · obtain ⟨g, cap, rfl, _, _⟩ := h.form h0
    rcases h.2 with ⟨_, h1⟩ | ⟨g', cap', cur, he, _, _, h1, _⟩
    · omega
    · injection he with _ _ hcap
      subst hcap
      exact ⟨_, cap, rfl, h1, h.1, fun _ => ⟨_, rfl, h.cells (g := g) rfl⟩⟩
theorem Sts.row_own {e size n : Nat} {v : Value} {xs : List Value} (h : Sts w0 w (star (row e size v n xs) R)) : w.ownsRow w0.heap.size e size v n xs := by
  obtain ⟨_, F, ⟨F1, F2, h1, _, hF, _⟩, hk⟩ := h
  exact ownsRow_base h1.2 (fun k e => hk k ((hF k).2 (.inl ((h1.1 k).2 e))))
theorem Sts.row_rd {e size n : Nat} {v : Value} {xs : List Value} (h : Sts w0 w (star (row e size v n xs) R)) : ∃ A c, v = .slice A n c ∧ n ≤ c ∧ Rd w size A n xs := row_form h.row_own
theorem Sts.rd {e size n m c : Nat} {A : Option Addr} {xs : List Value} (h : Sts w0 w (star (row e size (.slice A m c) n xs) R)) : Rd w size A m xs := by
  obtain ⟨A', c', hv, _, hr⟩ := h.row_rd
  injection hv with h1 h2 h3
  subst h1
  subst h2
  exact hr
theorem chg_grown {row : Option Nat} (h : w.grownBy w1 row) : Chg w w1 (fun k => row = some k) := ⟨h.os, h.tape, h.output, h.size, fun k hk hn => h.block k hk (fun e => hn e.symm)⟩
/-- A row that took another's place. -/
theorem Sts.row_grown {e size n m e' size' : Nat} {v v' : Value} {xs ys : List Value} (h : Sts w0 w (star (row e size v n xs) R)) {base : Nat} (h' : w1.ownsRow base e' size' v' m ys) (hg : w.grownBy w1 v.ownBlock) (hat : v'.ownBlock = v.ownBlock ∨ ∃ b, v'.ownBlock = some b ∧ w.heap.size ≤ b) :
    Sts w0 w1 (star (row e' size' v' m ys) R) :=
  h.upd fun F hF => ⟨fun k => v'.ownBlock = some k, ⟨fun _ => Iff.rfl, ownsRow_base h' (fun _ _ => Nat.zero_le _)⟩, fun k hk => by
    rcases hat with e | ⟨b, e, hb⟩
    · exact .inl ((hF.1 k).2 (e ▸ hk))
    · rw [e] at hk
      injection hk with hk
      exact .inr (by omega), (chg_grown hg).mono (fun k hk => (hF.1 k).2 hk)⟩
/-- A new row. -/
theorem Sts.row_new {e size m : Nat} {v' : Value} {ys : List Value} (h : Sts w0 w R) {base : Nat} (h' : w1.ownsRow base e size v' m ys) (hg : w.grownBy w1 none) (hat : ∀ b, v'.ownBlock = some b → w.heap.size ≤ b) :
    Sts w0 w1 (star (row e size v' m ys) R) :=
  h.join ⟨⟨hg.os, hg.tape, hg.output, hg.size, fun k hk => hg.block k hk (by simp)⟩, fun k => v'.ownBlock = some k, ⟨fun _ => Iff.rfl, ownsRow_base h' (fun _ _ => Nat.zero_le _)⟩, hat⟩
theorem Sts.row_nil (h : Sts w0 w R) (e size : Nat) : Sts w0 w (star (row e size (.slice none 0 0) 0 []) R) :=
  h.row_new (World.ownsRow_nil w 0 e size) (World.grownBy.refl w _) (fun b hb => by simp [Value.ownBlock] at hb)
/-- '[]T{..}' that the walk laid by itself. -/
theorem Sts.lit (h : Sts w0 w R) (e size n : Nat) (cells : Array Value) (hlen : cells.size = n * size) (hn : n ≤ 9223372036854775807) :
    Sts w0 (w.alloc (.cells cells e)) (star (row e size (.slice (some ⟨w.heap.size, 0, none⟩) n n) n cells.toList) R) :=
  h.row_new (base := 0) (World.ownsRow_lit (base := 0) (e := e) (size := size) w cells n (Nat.zero_le _) (by simpa [maxLen] using hn) hlen) (World.grownBy_alloc w _ none) (fun b hb => by
    have : w.heap.size = b := by simpa [Value.ownBlock] using hb
    omega)
theorem Sts.lit_at (h : Sts w0 w R) (e size n : Nat) (cells : Array Value) (hlen : cells.size = n * size) (hn : n ≤ 9223372036854775807) {g : Nat} (hg : w.heap.size = g) :
    Sts w0 (w.alloc (.cells cells e)) (star (row e size (.slice (some ⟨g, 0, none⟩) n n) n cells.toList) R) := hg ▸ h.lit e size n cells hlen hn
theorem below_al {w W : World} (h : Below w.heap.size w W) (o : Obj) : Below w.heap.size w (W.alloc o) := h.alloc h.size o
theorem Sts.join1 {A : HP} (h : Sts w0 w P) (k : Sts w w1 (star A emp)) : Sts w0 w1 (star A P) := (h.join k).mono ((Ent.assoc _ _ _).trans (Ent.under _ (Ent.drop _ _)))
theorem Sts.join2 {A B : HP} (h : Sts w0 w P) (k : Sts w w1 (star A (star B emp))) : Sts w0 w1 (star A (star B P)) := (h.join k).mono ((Ent.assoc _ _ _).trans (Ent.under _ ((Ent.assoc _ _ _).trans (Ent.under _ (Ent.drop _ _)))))
/-- An element (of one cell) is stored. -/
theorem ownsRow_set {base e g n cap : Nat} {xs : List Value} (h : w.ownsRow base e 1 (.slice (some ⟨g, 0, none⟩) n cap) n xs) (i : Nat) (hi : i < n) (u : Value) :
    (w.setCell ⟨g, i, none⟩ u).ownsRow base e 1 (.slice (some ⟨g, 0, none⟩) n cap) n (xs.set i u) := by
  obtain ⟨h1, h2⟩ := h
  refine ⟨by rw [List.length_set]; exact h1, ?_⟩
  rcases h2 with ⟨hv, hn⟩ | ⟨g', cap', cur, he, hg, hh, hnc, hcm, hsz, htake⟩
  · cases hv
  · injection he with hA _ hcap
    injection hA with hA
    injection hA with hgg
    subst hgg
    subst hcap
    refine .inr ⟨g, cap, cur.setIfInBounds i u, rfl, hg, heap_set hh i u, hnc, hcm, by simpa using hsz, ?_⟩
    rw [← htake]
    simp [List.take_set]
theorem Sts.row_set {e g n cap : Nat} {xs : List Value} (h : Sts w0 w (star (row e 1 (.slice (some ⟨g, 0, none⟩) n cap) n xs) R)) (i : Nat) (hi : i < n) (u : Value) :
    Sts w0 (w.setCell ⟨g, i, none⟩ u) (star (row e 1 (.slice (some ⟨g, 0, none⟩) n cap) n (xs.set i u)) R) :=
  h.upd fun F hF => ⟨F, ⟨hF.1, ownsRow_set hF.2 i hi u⟩, fun k hk => .inl hk, (chg_set w ⟨g, i, none⟩ u).mono (fun k hk => (hF.1 k).2 (by simp [Value.ownBlock]; exact hk.symm))⟩
theorem Sts.row_pos {e size n : Nat} {v : Value} {xs : List Value} (h : Sts w0 w (star (row e size v n xs) R)) (hn : 0 < n) : ∃ g cap, v = .slice (some ⟨g, 0, none⟩) n cap ∧ w0.heap.size ≤ g := by
  obtain ⟨g, cap, hv, hb, _⟩ := (h.row_own).form hn
  exact ⟨g, cap, hv, hb⟩
/-- Its cells, to be stored into. -/
theorem row_frozen {base e size n g cap : Nat} {xs : List Value} (h : w.ownsRow base e size (.slice (some ⟨g, 0, none⟩) n cap) n xs) (i : Nat) : w.frozen? ⟨g, i, none⟩ = false := by
  rcases h.2 with ⟨hv, _⟩ | ⟨g', cap', cur, he, _, hh, _⟩
  · cases hv
  · injection he with hA
    injection hA with hA
    injection hA with hgg
    subst hgg
    exact blk_frozen hh i
end

/-! ### operations -/
section
variable {P : Program} {ops : Array Oper} {rest : List Oper} {o : Oper} {a : Act} {Q : Exit → Act → World → Prop} {W : World}
theorem event {W1 : World} {v : Value} (hgd : o.guard = none) (hrun : (execOp a.eval o).run P W = .ok (.value v) W1) (h : wpList P ops Q rest (a.put o.dst v) W1) : wpList P ops Q (o :: rest) a W := by
  refine wpList_plain hgd fun K hK => ?_
  unfold Oper.wp
  rw [hrun]
  exact hK _ _ h
theorem op_event {W1 : World} {v : Value} {K : Act → World → Prop} (hrun : (execOp a.eval o).run P W = .ok (.value v) W1) (h : K (a.put o.dst v) W1) : o.wp P a W K Q := by
  unfold Oper.wp
  rw [hrun]
  exact h
/-- An operation without a guard, in a region of one order. -/
theorem at_op (hgd : o.guard = none) (h : ∀ K : Act → World → Prop, (∀ a w, wpList P ops Q rest a w → K a w) → o.wp P a W K Q) : wpList P ops Q (o :: rest) a W := wpList_plain hgd h
/-- An operation that is wanted (its guard is met). -/
theorem at_opG (hw : Region.wanted o (yielded ops a.tmps) = true) (h : ∀ K : Act → World → Prop, (∀ a w, wpList P ops Q rest a w → K a w) → o.wp P a W K Q) : wpList P ops Q (o :: rest) a W :=
  wpList_step fun K hK => by rw [if_pos hw]; exact h K hK
/-- An operation in a region that draws its order. -/
theorem st_op {K : Act → World → Prop} {E : Prop} (hw : Region.wanted o (yielded ops a.tmps) = true) (h : o.wp P a W K Q) : if Region.wanted o (yielded ops a.tmps) = true then o.wp P a W K Q else E := by rw [if_pos hw]; exact h
/-- The slot that an operation writes, by its number. -/
theorem put_at {md : Region.Mode} {S : World → Prop} {fuel : Nat} {listed : Array Bool} {w : World} {d : Option Tmp} {v : Value} (N : Option Tmp) (hd : d = N) (h : wpAnyH P md ops Q S fuel listed (a.put N v) w) : wpAnyH P md ops Q S fuel listed (a.put d v) w := hd ▸ h
/-- Here the walk stands still. -/
structure Stop (p : Prop) : Prop where mk :: (out : p)
theorem stop {p : Prop} (h : Stop p) : p := h.out
/-- The operation that writes slot N. -/
theorem at_dst {N : Tmp} (_hN : o.dst = some N) (h : wpList P ops Q (o :: rest) a W) : wpList P ops Q (o :: rest) a W := h
theorem enters {f : FuncId} {fn : Func} (hf : P.funcs[f]? = some fn) (hname : (fn.name == "runtime.NumGoroutine") = false) (hb : fn.body.isSome = true) (args : Array Value) (w : World) : (callFunc f args).run P w = .ok (.enter f args) w := by
  have hn : ¬ fn.name = "runtime.NumGoroutine" := by simpa using hname
  obtain ⟨c, hc⟩ := Option.isSome_iff_exists.1 hb
  simp [callFunc, hf, hn, hc]
/-- A call. -/
theorem goes {w : World} (N : Option Tmp) (hd : o.dst = N) (hg : o.guard = none) {f : FuncId} {fn : Func} {as : Array Operand} {ts : Array TypeId} (hf : P.funcs[f]? = some fn) (hname : (fn.name == "runtime.NumGoroutine") = false) (hb : fn.body.isSome = true) (args : Array Value)
    (hop : o.op = .call { callee := .value (.func f), args := as, argTypes := ts }) (hargs : as.map a.eval = args)
    (h : Calls P f args w fun e w' => ∃ v, e = .returned v ∧ wpList P ops Q rest (a.put N v) w') : wpList P ops Q (o :: rest) a w := by
  refine wpList_plain hg fun K hK => ?_
  have he := enters hf hname hb args w
  have hrun : (execOp a.eval o).run P w = .ok (.enter f args) w := by
    unfold execOp
    simp [hop, resolve, Deferred.ofValue, invoke, Act.eval, hargs, he]
  unfold Oper.wp
  rw [hrun, Oper.upon_enter]
  refine h.mono ?_
  rintro e w' ⟨v, rfl, hv⟩
  subst hd
  exact hK _ _ hv
/-- A call, at the operation. -/
theorem op_call {K : Act → World → Prop} {w : World} {f : FuncId} {args : Array Value} {R : Ending → World → Prop} (hc : Calls P f args w R) {fn : Func} {as : Array Operand} {ts : Array TypeId} (hf : P.funcs[f]? = some fn) (hname : (fn.name == "runtime.NumGoroutine") = false) (hb : fn.body.isSome = true)
    (hop : o.op = .call { callee := .value (.func f), args := as, argTypes := ts }) (hargs : as.map a.eval = args)
    (h : ∀ e w', R e w' → ∃ v, e = .returned v ∧ K (a.put o.dst v) w') : o.wp P a w K Q := by
  have he := enters hf hname hb args w
  have hrun : (execOp a.eval o).run P w = .ok (.enter f args) w := by
    unfold execOp
    simp [hop, resolve, Deferred.ofValue, invoke, Act.eval, hargs, he]
  unfold Oper.wp
  rw [hrun, Oper.upon_enter]
  refine hc.mono ?_
  intro e w' hr
  obtain ⟨v, rfl, hv⟩ := h e w' hr
  exact hv
/-- A call, by its contract. -/
theorem calls_by {w : World} {f : FuncId} {args : Array Value} {R : Ending → World → Prop} (hc : Calls P f args w R) (N : Option Tmp) (hd : o.dst = N) (hg : o.guard = none) {fn : Func} {as : Array Operand} {ts : Array TypeId} (hf : P.funcs[f]? = some fn) (hname : (fn.name == "runtime.NumGoroutine") = false) (hb : fn.body.isSome = true)
    (hop : o.op = .call { callee := .value (.func f), args := as, argTypes := ts }) (hargs : as.map a.eval = args)
    (h : ∀ e w', R e w' → ∃ v, e = .returned v ∧ wpList P ops Q rest (a.put N v) w') : wpList P ops Q (o :: rest) a w :=
  goes N hd hg hf hname hb args hop hargs (hc.mono h)
end

/-- What a run of cells written leaves. -/
theorem setCells_row' {g : Nat} {e : TypeId} : ∀ (vs : List Value) (o : Nat) (w : World) (cur : Array Value), w.heap[g]? = some (.cells cur e (0, 0)) → o + vs.length ≤ cur.size →
    (w.setCells g o vs).heap[g]? = some (.cells (cur.toList.take o ++ vs ++ cur.toList.drop (o + vs.length)).toArray e (0, 0)) ∧ w.grownBy (w.setCells g o vs) (some g)
  | [], o, w, cur, hg, _ => by
    refine ⟨?_, World.grownBy.refl w _⟩
    simpa [World.setCells] using hg
  | v :: vs, o, w, cur, hg, hl => by
    have hl' : o + 1 + vs.length ≤ cur.size := by simp only [List.length_cons] at hl; omega
    obtain ⟨h1, h2⟩ := setCells_row' vs (o + 1) (w.setCell ⟨g, o, none⟩ v) _ (heap_set hg o v) (by simpa using hl')
    refine ⟨?_, ?_⟩
    · rw [World.setCells, h1]
      congr 3
      have ho : o < cur.toList.length := by simp only [List.length_cons] at hl; simp; omega
      have hto : (cur.toList.take o).length = o := by rw [List.length_take]; omega
      rw [Array.toList_setIfInBounds, List.set_eq_take_append_cons_drop, if_pos ho, List.take_append, List.drop_append, hto, List.take_of_length_le (l := cur.toList.take o) (by omega), List.drop_eq_nil_of_le (as := cur.toList.take o) (by omega)]
      simp only [List.length_cons]
      rw [show o + 1 - o = 1 by omega, show o + 1 + vs.length - o = vs.length + 1 by omega, List.drop_succ_cons, List.drop_drop, List.take_succ_cons, List.take_zero]
      rw [show o + (vs.length + 1) = o + 1 + vs.length by omega]
      simp
    · rw [World.setCells]
      exact ⟨h2.os, h2.tape, h2.output, by have := h2.size; simpa [World.setCell] using this, fun k hk hn => (h2.block k (by simpa [World.setCell] using hk) hn).trans (Below.heap_setCell _ _ _ _ (fun e => hn (by rw [e])))⟩

/-! ### literals, make, append, copy, bytes and strings -/
section
variable {P : Program} {o : Oper} {a : Act} {Q : Exit → Act → World → Prop} {K : Act → World → Prop} {w0 W : World} {R : HP}
/-- '[]T{..}': 'hrun' by '(by go_simp; rfl)'. -/
theorem op_lit (HS : Sts w0 W R) (e size n : Nat) (cells : List Value)
    (hrun : (execOp a.eval o).run P W = .ok (.value (.slice (some ⟨W.heap.size, 0, none⟩) n n)) (W.alloc (.cells cells.toArray e)))
    (hlen : cells.length = n * size) (hn : n ≤ 9223372036854775807)
    (h : ∀ v1 w1, Sts w0 w1 (star (row e size v1 n cells) R) → K (a.put o.dst v1) w1) : o.wp P a W K Q := by
  refine op_event hrun (h _ _ ?_)
  have h2 := World.ownsRow_lit (base := 0) (e := e) (size := size) W cells.toArray n (Nat.zero_le _) (by simpa [maxLen] using hn) (by simpa using hlen)
  refine HS.row_new (base := 0) (by simpa using h2) (World.grownBy_alloc W _ none) (fun b hb => ?_)
  have : W.heap.size = b := by simpa [Value.ownBlock] using hb
  omega
/-- '[]byte("..")' of a constant: the literal was laid just ahead. -/
theorem op_const {C : List Value} {n : Nat} {e t : TypeId} (HS : Sts w0 W R) {x : Operand} (ho : o.op = .convert t t x) (ht : P.underlying t = some (.slice e)) (he : P.underlying e = some (.int .u8)) (hx : a.eval x = .slice (some ⟨W.heap.size, 0, none⟩) n n) (hC : C.length = n)
    (h : ∀ w1, Sts w0 w1 R → Rd w1 1 (some ⟨W.heap.size, 0, none⟩) n C → K (a.put o.dst (.slice (some ⟨W.heap.size, 0, none⟩) n n)) w1) : o.wp P a (W.alloc (.cells C.toArray e)) K Q := by
  refine op_event (W1 := W.alloc (.cells C.toArray e (C.toArray.size, C.toArray.size + 1))) ?_ (h _ (HS.alloc _) ⟨by omega, fun _ => ⟨_, rfl, fun j u hu => ?_⟩⟩)
  · have hr := Lib.run_convert_bytes_const (P := P) W t e C.toArray n n ht he
    simp [execOp, ho, hx, hr]
  · rw [show (⟨W.heap.size, 0, none⟩ : Addr).add j = ⟨W.heap.size, j, none⟩ by unfold Addr.add; split <;> simp_all, World.cell?_alloc_mark]
    simpa using hu
/-- string(b), b read. -/
theorem conv_str {W : World} {l : List Int} {A : Option Addr} {n : Nat} (c : Nat) {src dst e : TypeId} (hs : P.underlying src = some (.slice e)) (he : P.underlying e = some (.int .u8)) (hd : P.underlying dst = some .string)
    (HR : Rd W 1 A n (l.map fun x => .int .u8 x)) : (convert src dst (.slice A n c)).run P W = .ok (.string (strOfNums l)) W := by
  have hn : l.length = n := by have := HR.1; simpa using this
  rcases A with _ | ad
  · have h0 : n = 0 := by
      rcases Nat.eq_zero_or_pos n with h0 | h0
      · exact h0
      · obtain ⟨ad, h', _⟩ := HR.2 h0
        cases h'
    subst h0
    obtain rfl : l = [] := List.eq_nil_of_length_eq_zero hn
    exact run_convert_bytes_nil W src e hs he 0 c dst hd
  · have hl : (loadCells ad n).run P W = .ok (l.map (Value.int .u8)).toArray W := by
      have := run_loadCells_list (P := P) W ad (l.map (Value.int .u8)) (fun j v hj => by
        have hjl : 0 < n := by
          have := (List.getElem?_eq_some_iff.1 hj).1
          simp at this
          omega
        obtain ⟨ad', he', hc⟩ := HR.2 hjl
        injection he' with he'
        subst he'
        exact hc j v hj)
      simpa [hn] using this
    rw [run_convert_bytes_string W src dst e _ n c hs he hd, run_bytesToString W ad n c l hl, foldl_push_bytes]
    simp [strOfNums, ByteArray.empty, ByteArray.emptyWithCapacity]
    rfl
theorem op_str {l : List Int} {A : Option Addr} {n c : Nat} {src dst e : TypeId} {x : Operand} (ho : o.op = .convert src dst x) (hs : P.underlying src = some (.slice e)) (he : P.underlying e = some (.int .u8)) (hd : P.underlying dst = some .string)
    (hx : a.eval x = .slice A n c) (HR : Rd W 1 A n (l.map fun x => .int .u8 x)) (h : K (a.put o.dst (.string (strOfNums l))) W) : o.wp P a W K Q := by
  have hrun := conv_str (P := P) c hs he hd HR
  refine op_event ?_ h
  simp [execOp, ho, hx, hrun]
theorem add_head (g j : Nat) : (⟨g, 0, none⟩ : Addr).add j = ⟨g, j, none⟩ := by unfold Addr.add; split <;> simp_all
/-- '[]byte(s)'. -/
theorem op_bytes (HS : Sts w0 W R) {src dst e : TypeId} {x : Operand} (s : ByteArray) {u : TypeDesc} (ho : o.op = .convert src dst x) (hs : P.underlying src = some u) (hd : P.underlying dst = some (.slice e)) (he : P.underlying e = some (.int .u8)) (hx : a.eval x = .string s)
    (h : ∀ w1 A c, Sts w0 w1 R → Rd w1 1 A s.size (Lib.strCells s) → K (a.put o.dst (.slice A s.size c)) w1) : o.wp P a W K Q := by
  have hrun := Lib.run_convert_string_bytes (P := P) W src dst e s hs hd he
  refine op_event (v := .slice (some ⟨W.heap.size, 0, none⟩) s.size (grownCap W s.size 0 e)) (W1 := Lib.bytesWorld W e s) ?_ (h _ _ _ (HS.step ⟨rfl, rfl, rfl, by rw [Lib.bytesWorld_size]; omega, fun k hk => Lib.bytesWorld_at_old W e s k hk⟩) ⟨by rw [Lib.strCells_length]; omega, fun _ => ⟨_, rfl, fun j v hj => ?_⟩⟩)
  · simp [execOp, ho, hx, hrun]
  · have hjl : j < s.size := by
      have := (List.getElem?_eq_some_iff.1 hj).1
      rwa [Lib.strCells_length] at this
    rw [add_head, Lib.bytesWorld_cell W e s j hjl, ← hj]
    have hjd : j < s.data.toList.length := by rw [Array.length_toList]; exact hjl
    simp [Lib.strCells, List.getD_eq_getElem?_getD, List.getElem?_eq_getElem hjd]
theorem made_take (z : Value) (c l : Nat) (hl : l ≤ c) : (madeCells #[z] (c * 1)).toList.take (l * 1) = List.replicate l z := by
  apply List.ext_getElem
  · simp [size_madeCells]; omega
  · intro i h1 h2
    simp [madeCells, Nat.mod_one]
/-- make([]T, l, c), T of one cell. -/
theorem op_make (HS : Sts w0 W R) (t e : TypeId) (x y : Operand) (ho : o.op = .makeSlice t x y) (l c : Nat) (hx : a.eval x = .int .i64 l) (hy : a.eval y = .int .i64 c)
    (ht : P.underlying t = some (.slice e)) (z : Value) (bytes : Nat) (hinfo : (P.info? e).map (fun i => (i.zero, i.size, i.bytes)) = some (some z, 1, bytes)) (hz : z.cells = #[z]) (hlc : l ≤ c) (hb : bytes * c ≤ 281474976710656) (hc : c ≤ 281474976710656)
    (h : ∀ v1 w1, Sts w0 w1 (star (row e 1 v1 l (List.replicate l z)) R) → K (a.put o.dst v1) w1) : o.wp P a W K Q := by
  obtain ⟨i0, hi, hzz⟩ := Option.map_eq_some_iff.1 hinfo
  simp only [Prod.mk.injEq] at hzz
  obtain ⟨hz0, hz1, hz2⟩ := hzz
  have hr := run_make (P := P) W t e i0 z ht hi hz0 .i64 .i64 (l : Int) (c : Int) (by omega) (by omega)
    (by
      have h3 : ((i0.bytes * c : Nat) : Int) ≤ 281474976710656 := by rw [hz2]; omega
      rwa [Int.natCast_mul] at h3) (by omega)
  simp only [Int.toNat_natCast, hz1, hz] at hr
  refine op_event (v := .slice (some ⟨W.heap.size, 0, none⟩) l c) (W1 := W.alloc (.cells (madeCells #[z] (c * 1)) e)) ?_ (h _ _ ?_)
  · simp [execOp, ho, hx, hy, hr]
  · refine HS.row_new (base := 0) ⟨by simp, .inr ⟨W.heap.size, c, madeCells #[z] (c * 1), rfl, Nat.zero_le _, heap_alloc_new W _, hlc, by simp only [maxLen]; omega, by simp [size_madeCells], made_take z c l hlc⟩⟩ (World.grownBy_alloc W _ none) (fun b hb => ?_)
    have : W.heap.size = b := by simpa [Value.ownBlock] using hb
    omega
theorem run_append_nothing {W : World} {base : Nat} (t ty e : TypeId) (i : TypeInfo) (size : Nat) (ht : P.underlying t = some (.slice e)) (hi : P.info? e = some i)
    (v : Value) (n : Nat) (xs : List Value) (hown : W.ownsRow base e size v n xs) (c : Nat) : (Builtin.append_ #[t, t] ty #[v, .slice none 0 c]).run P W = .ok v W := by
  rcases hown.2 with ⟨rfl, rfl⟩ | ⟨g, cap, cur, rfl, _, _, hnc, _⟩
  · simp [Builtin.append_, run_underlying ht, sizeOf, typeInfo, hi, Builtin.lenOf, Builtin.firstCells]
  · simp [Builtin.append_, run_underlying ht, sizeOf, typeInfo, hi, Builtin.lenOf, Builtin.firstCells, hnc, storeCells]
/-- append(v, ys...), v a row of one's own. -/
theorem op_append (size bytes : Nat) (v : Value) (n : Nat) (xs : List Value) (e : TypeId) (HS : Sts w0 W (star (row e size v n xs) R)) (s x : Operand) (t : TypeId) (z : Value)
    (ho : o.op = .call { callee := .builtin .append, args := #[s, x], argTypes := #[t, t] })
    (ht : P.underlying t = some (.slice e)) (hinfo : (P.info? e).map (fun i => (i.zero, i.size, i.bytes)) = some (some z, size, bytes)) (hz : z.cells.size = size) (hs0 : 0 < size)
    (hs : a.eval s = v) (A : Option Addr) (m c : Nat) (ys : List Value) (hx : a.eval x = .slice A m c) (HR : Rd W size A m ys) (h1 : ∀ u ∈ ys, u.oneCell' = true)
    (h63 : n + m ≤ 9223372036854775807) (hl : (n + m) * bytes ≤ 140737488355328)
    (h : ∀ v1 w1, Sts w0 w1 (star (row e size v1 (n + m) (xs ++ ys)) R) → K (a.put o.dst v1) w1) : o.wp P a W K Q := by
  obtain ⟨i0, hi, hzz⟩ := Option.map_eq_some_iff.1 hinfo
  simp only [Prod.mk.injEq] at hzz
  obtain ⟨hz0, hz1, hz2⟩ := hzz
  have hown := HS.row_own
  have hrun : ∃ v1 w1, (Builtin.append_ #[t, t] o.type #[v, .slice A m c]).run P W = .ok v1 w1 ∧ w1.ownsRow w0.heap.size e size v1 (n + m) (xs ++ ys) ∧ W.grownBy w1 v.ownBlock ∧ (v1.ownBlock = v.ownBlock ∨ ∃ b, v1.ownBlock = some b ∧ W.heap.size ≤ b) := by
    rcases A with _ | ad
    · have hm : m = 0 := by
        rcases Nat.eq_zero_or_pos m with h0 | h0
        · exact h0
        · obtain ⟨ad, h', _⟩ := HR.2 h0
          cases h'
      subst hm
      obtain rfl : ys = [] := List.eq_nil_of_length_eq_zero (by simpa using HR.1)
      exact ⟨v, W, run_append_nothing t o.type e i0 size ht hi v n xs hown c, by simpa using hown, World.grownBy.refl W _, .inl rfl⟩
    · have hcells : ∀ j u, ys[j]? = some u → W.cell? (ad.add j) = some u := by
        intro j u hu
        rcases Nat.eq_zero_or_pos m with h0 | h0
        · subst h0
          obtain rfl : ys = [] := List.eq_nil_of_length_eq_zero (by simpa using HR.1)
          simp at hu
        · obtain ⟨ad', h', hc⟩ := HR.2 h0
          injection h' with h'
          subst h'
          exact hc j u hu
      obtain ⟨v1, w1, hr, h2, hg, _, hat⟩ := run_append_own_at (P := P) W w0.heap.size t o.type e i0 z size bytes ht hi hz0 hz1 hz2 hz hs0 v n xs hown ad m c ys HR.1 hcells h1 (by simpa [maxLen] using h63) hl HS.size
      refine ⟨v1, w1, hr, h2, hg, ?_⟩
      rcases hat with hat | hat
      · exact .inl hat
      · exact .inr ⟨_, hat, Nat.le_refl _⟩
  obtain ⟨v1, w1, hr1, h2, hg, hat⟩ := hrun
  unfold Oper.wp execOp
  simp only [ho, resolve, invoke, builtin, Sem.run_bind, Sem.run_pure, Result.andThen_ok, List.map_toArray, List.map_cons, List.map_nil, hs, hx, hr1]
  exact (h v1 w1 (HS.row_grown h2 hg hat))
theorem run_append_str_at {W : World} (base : Nat) (t u ty e : TypeId) (i : TypeInfo) (ht : P.underlying t = some (.slice e)) (hu : P.underlying u = some .string) (hi : P.info? e = some i) (hz : i.zero = some (.int .u8 0))
    (hsize : i.size = 1) (hby : i.bytes = 1) (v : Value) (n : Nat) (xs : List Value) (hown : W.ownsRow base e 1 v n xs) (s : ByteArray) (hl : n + s.size ≤ 140737488355328) (hbase : base ≤ W.heap.size) :
    ∃ v' w', (Builtin.append_ #[t, u] ty #[v, .string s]).run P W = .ok v' w' ∧ w'.ownsRow base e 1 v' (n + s.size) (xs ++ Lib.strCells s) ∧ W.grownBy w' v.ownBlock ∧ (v'.ownBlock = v.ownBlock ∨ ∃ b, v'.ownBlock = some b ∧ W.heap.size ≤ b) := by
  have h63 : n + s.size ≤ maxLen := by simp only [maxLen]; omega
  obtain ⟨v', w', hr, h2, h3, h4⟩ := Lib.run_append_own_string (P := P) W base t u ty e i ht hu hi hz hsize hby v n xs hown s h63 hl hbase
  refine ⟨v', w', hr, h2, h3, ?_⟩
  have hxl : xs.length = n := by simpa using hown.1
  rcases hown.2 with ⟨rfl, rfl⟩ | ⟨g, cap, cur, rfl, hbg, hg, hnc, hcm, hcs, htake⟩
  · by_cases hm : s.size = 0
    · have := h4.2 ⟨rfl, hm⟩
      exact .inl (by rw [this])
    · have hr' := run_append_nil_string (P := P) W t u ty e i (.int .u8 0) ht hu hi hz s (by omega) (by omega) (by rw [hby]; omega)
      rw [hr'] at hr
      injection hr with hv _
      exact .inr ⟨W.heap.size, by rw [← hv]; rfl, Nat.le_refl _⟩
  · by_cases hroom : n + s.size ≤ cap
    · have hcs' : cur.size = cap := by simpa using hcs
      have hr' := Lib.run_append_room_string (P := P) W t u ty e i ht hu hi hsize g n cap cur hg s hroom (by omega)
      rw [hr'] at hr
      injection hr with hv _
      exact .inl (by rw [← hv]; rfl)
    · have holds : ∀ j u, xs[j]? = some u → W.cell? ((⟨g, 0, none⟩ : Addr).add j) = some u := hown.cells (g := g) rfl
      have hr' := Lib.run_append_grow_string (P := P) W t u ty e i (.int .u8 0) ht hu hi hz ⟨g, 0, none⟩ n cap xs (by rw [hsize]; simpa using hxl) holds s (by omega) (by omega) (by rw [hby]; exact growslice_fits (by omega) (by omega))
      rw [hr'] at hr
      injection hr with hv _
      exact .inr ⟨W.heap.size, by rw [← hv]; rfl, Nat.le_refl _⟩
/-- append(v, s...), s a string. -/
theorem op_append_str (v : Value) (n : Nat) (xs : List Value) (e : TypeId) (HS : Sts w0 W (star (row e 1 v n xs) R)) (sl x : Operand) (t u : TypeId)
    (ho : o.op = .call { callee := .builtin .append, args := #[sl, x], argTypes := #[t, u] })
    (ht : P.underlying t = some (.slice e)) (hu : P.underlying u = some .string) (hinfo : (P.info? e).map (fun i => (i.zero, i.size, i.bytes)) = some (some (.int .u8 0), 1, 1))
    (hs : a.eval sl = v) (s : ByteArray) (hx : a.eval x = .string s) (hl : n + s.size ≤ 140737488355328)
    (h : ∀ v1 w1, Sts w0 w1 (star (row e 1 v1 (n + s.size) (xs ++ Lib.strCells s)) R) → K (a.put o.dst v1) w1) : o.wp P a W K Q := by
  obtain ⟨i0, hi, hzz⟩ := Option.map_eq_some_iff.1 hinfo
  simp only [Prod.mk.injEq] at hzz
  obtain ⟨hz0, hz1, hz2⟩ := hzz
  have hown := HS.row_own
  obtain ⟨v', w', hr, h2, h3, h4⟩ := run_append_str_at (P := P) (W := W) w0.heap.size t u o.type e i0 ht hu hi hz0 hz1 hz2 v n xs hown s hl HS.size
  unfold Oper.wp execOp
  simp only [ho, resolve, invoke, builtin, Sem.run_bind, Sem.run_pure, Result.andThen_ok, List.map_toArray, List.map_cons, List.map_nil, hs, hx, hr]
  exact (h v' w' (HS.row_grown h2 h3 h4))
/-- copy(v[..], ys), v a row of one's own of scalars: as much as fits. -/
theorem op_copy (v : Value) (n : Nat) (xs : List Value) (e : TypeId) (HS : Sts w0 W (star (row e 1 v n xs) R)) (s x : Operand) (t t' : TypeId)
    (ho : o.op = .call { callee := .builtin .copy, args := #[s, x], argTypes := #[t, t'] }) (ht : P.underlying t = some (.slice e)) (hinfo : (P.info? e).map (·.size) = some 1)
    (hs : a.eval s = v) (A : Option Addr) (m c : Nat) (ys : List Value) (hx : a.eval x = .slice A m c) (HR : Rd W 1 A m ys) (h1 : ∀ u ∈ ys, u.oneCell' = true)
    (h : ∀ w1, Sts w0 w1 (star (row e 1 v n (ys.take (min m n) ++ xs.drop (min m n))) R) → K (a.put o.dst (goInt ((min m n : Nat) : Int))) w1) : o.wp P a W K Q := by
  have hown := HS.row_own
  have hxl : xs.length = n := by simpa using hown.1
  have hyl : ys.length = m := by simpa using HR.1
  have fin : ∀ w1, (Builtin.copy_ #[t, t'] o.type #[v, .slice A m c]).run P W = .ok (goInt ((min m n : Nat) : Int)) w1 → w1.ownsRow w0.heap.size e 1 v n (ys.take (min m n) ++ xs.drop (min m n)) → W.grownBy w1 v.ownBlock → o.wp P a W K Q := by
    intro w1 hr hrow hg
    unfold Oper.wp execOp
    simp only [ho, resolve, invoke, builtin, Sem.run_bind, Sem.run_pure, Result.andThen_ok, List.map_toArray, List.map_cons, List.map_nil, hs, hx, hr]
    exact (h w1 (HS.row_grown hrow hg (.inl rfl)))
  rcases Nat.eq_zero_or_pos (min m n) with h0 | hp
  · obtain ⟨A', c', hv, _⟩ := row_form hown
    refine fin W ?_ (by rw [h0]; simpa using hown) (World.grownBy.refl W _)
    rw [h0, hv]
    exact run_copy_none W t t' o.type e A' A n c' m c ht hinfo h0
  · obtain ⟨ad, rfl, hc⟩ := HR.2 (by omega)
    obtain ⟨g, cap, rfl, _, _⟩ := hown.form (by omega)
    rcases hown.2 with ⟨hv, _⟩ | ⟨g', cap', cur, he, hbg, hh, hnc, hcm, hcs, htake⟩
    · cases hv
    injection he with hA _ hcap
    injection hA with hA
    injection hA with hgg
    subst hgg
    subst hcap
    have hcl : cur.toList.length = cap := by simpa using hcs
    have hkl : (ys.take (min m n)).length = min m n := by rw [List.length_take]; omega
    have h1' : ∀ u ∈ ys.take (min m n), u.oneCell' = true := fun u hu => h1 u (List.mem_of_mem_take hu)
    have hsrc : ∀ j u, (ys.take (min m n))[j]? = some u → W.cell? (ad.add j) = some u := by
      intro j u hu
      have hj : j < min m n := by
        have := (List.getElem?_eq_some_iff.1 hu).1
        omega
      rw [List.getElem?_take, if_pos hj] at hu
      exact hc j u hu
    have hr := run_copy_cells (P := P) W t t' o.type e g 0 n cap ad m c (ys.take (min m n)) ht hinfo (by rw [hkl]) hsrc
      (by
        intro j hj
        rw [Nat.zero_add, blk_cell hh, Array.getElem?_eq_getElem (by omega)]
        rfl)
      (by intro j hj; exact blk_frozen hh _) h1'
    rw [hkl] at hr
    have hst := setCells_row' (ys.take (min m n)) 0 W cur hh (by omega)
    refine fin _ hr ⟨by simp [hxl, hyl]; omega, .inr ⟨g, cap, _, rfl, hbg, hst.1, hnc, hcm, ?_, ?_⟩⟩ hst.2
    · simp only [List.size_toArray, List.length_append, List.length_take, List.length_drop, hcl, hyl]
      omega
    · have ht' : cur.toList.take n = xs := by simpa using htake
      rw [← ht']
      simp only [Nat.zero_add, List.take_zero, List.nil_append, hkl, Nat.mul_one]
      rw [List.take_append, List.take_take, List.drop_take, hkl]
      rw [show min n (min m n) = min m n by omega]
end
end Go.Sep
