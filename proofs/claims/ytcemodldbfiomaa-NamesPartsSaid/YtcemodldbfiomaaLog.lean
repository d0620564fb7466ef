/- A program logic of this session's own: values by their content ('LV'), memory by what is owned of it ('Atom'); what is not owned and is known stays ('PH'). Plain theorems over any program. -/
import Derived.Below
import Derived.WalkKit
import Derived.OwnWalk
import Derived.Deep.LoopGhost
set_option linter.unusedVariables false
set_option linter.unusedSimpArgs false
namespace Go.L
open Go.RowKit

/-- What is known of a slice's room: nothing; there is none; it is ours: cells [o, c) of block b. -/
inductive Cap where
  | unk
  | full
  | tok (b o c : Nat)

/-- A value by its content. -/
inductive LV where
  | any
  | raw (v : Value)
  | agg (cs : List LV)
  | tup (vs : List LV)
  | sl (size : Nat) (es : List (List LV)) (k : Cap)
  | pin (cs : List LV)
  | when (b : Bool) (v : LV)

/-- Cells that are known and never written again. -/
abbrev PH := Addr → Option Value
def PH.le (p q : PH) : Prop := ∀ a u, p a = some u → q a = some u
theorem PH.le.refl (p : PH) : PH.le p p := fun _ _ h => h
theorem PH.le.trans {p q r : PH} (h : PH.le p q) (k : PH.le q r) : PH.le p r := fun a u e => k a u (h a u e)

/-- What a slice's header must be for what is said of its room. -/
def CapOk (A : Option Addr) (n c size : Nat) : Cap → Prop
  | .unk => True
  | .full => n = c
  | .tok b o l => (n = c ∧ o = l) ∨ ∃ off, A = some ⟨b, off, none⟩ ∧ off + n * size = o ∧ off + c * size = l

inductive Rep (ph : PH) : Value → LV → Prop where
  | any (v : Value) : Rep ph v .any
  | raw (v : Value) : Rep ph v (.raw v)
  | agg (cs : Array Value) (xs : List LV) (hl : cs.size = xs.length) (h1 : ∀ (i : Nat) (c : Value), cs[i]? = some c → c.oneCell' = true) (h : ∀ (i : Nat) (c : Value) (x : LV), cs[i]? = some c → xs[i]? = some x → Rep ph c x) : Rep ph (.agg cs) (.agg xs)
  | tup (cs : Array Value) (xs : List LV) (hl : cs.size = xs.length) (h : ∀ (i : Nat) (c : Value) (x : LV), cs[i]? = some c → xs[i]? = some x → Rep ph c x) : Rep ph (.tuple cs) (.tup xs)
  | sl (size : Nat) (es : List (List LV)) (k : Cap) (A : Option Addr) (n c : Nat) (ad : Addr) (u : Nat → Value) (hA : 0 < es.length → A = some ad) (hn : es.length = n) (hnc : n ≤ c) (hs : ∀ e ∈ es, e.length = size) (hcap : CapOk A n c size k)
      (hp : ∀ (i : Nat) (e : List LV) (j : Nat) (x : LV), es[i]? = some e → e[j]? = some x → ph (ad.add (i * size + j)) = some (u (i * size + j)))
      (hr : ∀ (i : Nat) (e : List LV) (j : Nat) (x : LV), es[i]? = some e → e[j]? = some x → Rep ph (u (i * size + j)) x) : Rep ph (.slice A n c) (.sl size es k)
  | pin (cs : List LV) (ad : Addr) (u : Nat → Value) (hp : ∀ (j : Nat) (x : LV), cs[j]? = some x → ph (ad.add j) = some (u j)) (hr : ∀ (j : Nat) (x : LV), cs[j]? = some x → Rep ph (u j) x) : Rep ph (.pointer (some ad)) (.pin cs)
  | when (v : Value) (b : Bool) (x : LV) (h : b = true → Rep ph v x) (h0 : b = false → v = undef) : Rep ph v (.when b x)

theorem Rep.mono {p q : PH} (hle : PH.le p q) {v : Value} {x : LV} (h : Rep p v x) : Rep q v x := by
  induction h with
  | any v => exact .any v
  | raw v => exact .raw v
  | agg cs xs hl h1 _ ih => exact .agg cs xs hl h1 ih
  | tup cs xs hl _ ih => exact .tup cs xs hl ih
  | sl size es k A n c ad u hA hn hnc hs hcap hp _ ih => exact .sl size es k A n c ad u hA hn hnc hs hcap (fun i e j x h1 h2 => hle _ _ (hp i e j x h1 h2)) ih
  | pin cs ad u hp _ ih => exact .pin cs ad u (fun j x h => hle _ _ (hp j x h)) ih
  | when v b x _ h0 ih => exact .when v b x ih h0
theorem Rep.rawE {p : PH} {v u : Value} (h : Rep p v (.raw u)) : v = u := by cases h; rfl

/-- A list of cells and what they are. -/
def Reps (ph : PH) (cs : Array Value) (xs : List LV) : Prop := cs.size = xs.length ∧ ∀ (i : Nat) (c : Value) (x : LV), cs[i]? = some c → xs[i]? = some x → Rep ph c x
theorem Reps.mono {p q : PH} (hle : PH.le p q) {cs : Array Value} {xs : List LV} (h : Reps p cs xs) : Reps q cs xs := ⟨h.1, fun i c x h1 h2 => (h.2 i c x h1 h2).mono hle⟩

/-- The same, of cells. -/
def CReps (ph : PH) (cs : Array Value) (xs : List LV) : Prop := Reps ph cs xs ∧ ∀ (i : Nat) (c : Value), cs[i]? = some c → c.oneCell' = true
theorem CReps.mono {p q : PH} (hle : PH.le p q) {cs : Array Value} {xs : List LV} (h : CReps p cs xs) : CReps q cs xs := ⟨h.1.mono hle, h.2⟩

/-- What is owned. -/
inductive Atom where
  | cells (g : Nat) (t : TypeId) (xs : List LV)
  | map (g : Nat) (es : List (LV × LV))
  | mapr (g it : Nat) (es : List (LV × LV)) (seen : List Nat)
  | mape (g : Nat) (es : List (LV × LV)) (i s : Nat)
  | obj (g : Nat) (o : Obj)
  | tail (b o c : Nat)
  | known (g : Nat) (xs : List LV)
  | since (p : PH)

abbrev FP := Nat → Nat → Prop

def Atom.at (ph : PH) (w : World) : Atom → FP → Prop
  | .cells g t xs, F => (∀ b o, F b o ↔ b = g) ∧ ∃ cs, w.heap[g]? = some (.cells cs t (0, 0)) ∧ CReps ph cs xs
  | .map g es, F => (∀ b o, F b o ↔ b = g) ∧ ∃ ents clock, w.heap[g]? = some (.map ents clock) ∧ ents.size = es.length ∧ (∀ (i : Nat) (m : MapEntry) (kv : LV × LV), ents[i]? = some m → es[i]? = some kv → Rep ph m.key kv.1 ∧ Rep ph m.val kv.2 ∧ m.born < clock) ∧ (ents.toList.map (·.born)).Pairwise (· < ·)
  | .mapr g it es seen, F => (∀ b o, F b o ↔ b = g ∨ b = it) ∧ g ≠ it ∧ ∃ ents clock, w.heap[g]? = some (.map ents clock) ∧ ents.size = es.length ∧ (∀ (i : Nat) (m : MapEntry) (kv : LV × LV), ents[i]? = some m → es[i]? = some kv → Rep ph m.key kv.1 ∧ Rep ph m.val kv.2 ∧ m.born < clock) ∧ (ents.toList.map (·.born)).Pairwise (· < ·) ∧
      (∀ i ∈ seen, i < es.length) ∧ ∃ arr : Array Nat, w.heap[it]? = some (.mapIter (some g) clock arr clock) ∧ arr.toList = seen.map fun i => ((ents[i]?).map (·.born)).getD 0
  | .mape g es i s, F => (∀ b o, F b o ↔ b = g) ∧ ∃ ents clock, w.heap[g]? = some (.map ents clock) ∧ ents.size = es.length ∧ (∀ (i : Nat) (m : MapEntry) (kv : LV × LV), ents[i]? = some m → es[i]? = some kv → Rep ph m.key kv.1 ∧ Rep ph m.val kv.2 ∧ m.born < clock) ∧ (ents.toList.map (·.born)).Pairwise (· < ·) ∧ (ents[i]?).map (·.born) = some s
  | .obj g o, F => (∀ b o, F b o ↔ b = g) ∧ w.heap[g]? = some o
  | .tail b o c, F => (∀ b' o', F b' o' ↔ b' = b ∧ o ≤ o' ∧ o' < c) ∧ ∀ i, o ≤ i → i < c → (∃ u, w.cell? ⟨b, i, none⟩ = some u) ∧ w.frozen? ⟨b, i, none⟩ = false
  | .known g xs, F => (∀ b o, ¬ F b o) ∧ Rep ph (.pointer (some ⟨g, 0, none⟩)) (.pin xs)
  | .since p, F => (∀ b o, ¬ F b o) ∧ PH.le p ph

def Sep (ph : PH) (w : World) : List Atom → FP → Prop
  | [], F => ∀ b o, ¬ F b o
  | a :: H, F => ∃ F1 F2, a.at ph w F1 ∧ Sep ph w H F2 ∧ (∀ b o, F b o ↔ F1 b o ∨ F2 b o) ∧ ∀ b o, F1 b o → ¬ F2 b o

theorem lt_of_some {w : World} {g : Nat} {o : Obj} (h : w.heap[g]? = some o) : g < w.heap.size := (Array.getElem?_eq_some_iff.1 h).1
theorem lt_of_cell {w : World} {a : Addr} {u : Value} (h : w.cell? a = some u) : a.block < w.heap.size := World.block_lt_of_cell? w a h
theorem Atom.dom {ph : PH} {w : World} {a : Atom} {F : FP} (h : a.at ph w F) {b o : Nat} (hF : F b o) : b < w.heap.size := by
  cases a with
  | cells g t xs => obtain ⟨h1, cs, h2, _⟩ := h; rw [(h1 b o).1 hF]; exact lt_of_some h2
  | map g es => obtain ⟨h1, ents, clock, h2, _⟩ := h; rw [(h1 b o).1 hF]; exact lt_of_some h2
  | mape g es i s => obtain ⟨h1, ents, clock, h2, _⟩ := h; rw [(h1 b o).1 hF]; exact lt_of_some h2
  | mapr g it es seen =>
    obtain ⟨h1, hne, ents, clock, h2, _, _, _, _, arr, h3, _⟩ := h
    rcases (h1 b o).1 hF with rfl | rfl
    · exact lt_of_some h2
    · exact lt_of_some h3
  | obj g ob => obtain ⟨h1, h2⟩ := h; rw [(h1 b o).1 hF]; exact lt_of_some h2
  | tail b' o' c =>
    obtain ⟨h1, h2⟩ := h
    obtain ⟨rfl, h3, h4⟩ := (h1 b o).1 hF
    obtain ⟨⟨u, hu⟩, _⟩ := h2 o h3 h4
    exact lt_of_cell hu
  | known g xs => exact (h.1 b o hF).elim
  | since p => exact (h.1 b o hF).elim
theorem Sep.dom {ph : PH} {w : World} : ∀ {H : List Atom} {F : FP}, Sep ph w H F → ∀ {b o : Nat}, F b o → b < w.heap.size
  | [], _, h, _, _, hF => (h _ _ hF).elim
  | a :: H, F, ⟨F1, F2, h1, h2, hF, _⟩, b, o, hb => by
    rcases (hF b o).1 hb with h | h
    · exact Atom.dom h1 h
    · exact h2.dom h

/-- From w to w' nothing turned but (some of) F; new blocks may be there. -/
structure Chg (w w' : World) (F : FP) : Prop where
  os : w'.os = w.os
  tape : w'.tape = w.tape
  output : w'.output = w.output
  size : w.heap.size ≤ w'.heap.size
  block : ∀ b, b < w.heap.size → (∀ o, ¬ F b o) → w'.heap[b]? = w.heap[b]?
  cell : ∀ b o, b < w.heap.size → ¬ F b o → w'.cell? ⟨b, o, none⟩ = w.cell? ⟨b, o, none⟩ ∧ w'.frozen? ⟨b, o, none⟩ = w.frozen? ⟨b, o, none⟩
theorem Chg.refl (w : World) (F : FP) : Chg w w F := ⟨rfl, rfl, rfl, Nat.le_refl _, fun _ _ _ => rfl, fun _ _ _ _ => ⟨rfl, rfl⟩⟩
theorem Chg.mono {w w' : World} {F G : FP} (h : Chg w w' F) (hs : ∀ b o, F b o → G b o) : Chg w w' G :=
  ⟨h.os, h.tape, h.output, h.size, fun b hb hn => h.block b hb (fun o hf => hn o (hs b o hf)), fun b o hb hn => h.cell b o hb (fun hf => hn (hs b o hf))⟩
theorem Chg.trans {w w1 w2 : World} {F : FP} (h : Chg w w1 F) (k : Chg w1 w2 F) : Chg w w2 F :=
  ⟨k.os.trans h.os, k.tape.trans h.tape, k.output.trans h.output, Nat.le_trans h.size k.size,
   fun b hb hn => (k.block b (Nat.lt_of_lt_of_le hb h.size) hn).trans (h.block b hb hn),
   fun b o hb hn => ⟨(k.cell b o (Nat.lt_of_lt_of_le hb h.size) hn).1.trans (h.cell b o hb hn).1, (k.cell b o (Nat.lt_of_lt_of_le hb h.size) hn).2.trans (h.cell b o hb hn).2⟩⟩
theorem cell_of_block {w w' : World} {a : Addr} (h : w'.heap[a.block]? = w.heap[a.block]?) : w'.cell? a = w.cell? a := World.cell?_of_block (w := w) h
theorem frozen_of_block {w w' : World} {a : Addr} (h : w'.heap[a.block]? = w.heap[a.block]?) : w'.frozen? a = w.frozen? a := World.frozen?_of_block (w := w) h
/-- Where only whole blocks turned. -/
theorem Chg.blocks {w w' : World} {F : FP} (os : w'.os = w.os) (tape : w'.tape = w.tape) (output : w'.output = w.output) (size : w.heap.size ≤ w'.heap.size) (B : Nat → Prop) (hB : ∀ b, B b → ∀ o, F b o)
    (block : ∀ b, b < w.heap.size → ¬ B b → w'.heap[b]? = w.heap[b]?) : Chg w w' F :=
  ⟨os, tape, output, size, fun b hb hn => block b hb (fun h => hn 0 (hB b h 0)), fun b o hb hn => by
    have := block b hb (fun h => hn (hB b h o))
    exact ⟨cell_of_block this, frozen_of_block this⟩⟩
theorem Chg.below {w w' : World} (h : Below w.heap.size w w') (F : FP) : Chg w w' F := Chg.blocks h.os h.tape h.output h.size (fun _ => False) (fun _ h => h.elim) (fun b hb _ => h.block b hb)

theorem Atom.stays {ph ph' : PH} {w w' : World} {F : FP} (hle : PH.le ph ph') (hc : Chg w w' F) {a : Atom} {G : FP} (h : a.at ph w G) (hd : ∀ b o, G b o → ¬ F b o) : a.at ph' w' G := by
  have hlt := fun (b o : Nat) (hb : G b o) => Atom.dom h hb
  cases a with
  | cells g t xs =>
    obtain ⟨h1, cs, h2, h3⟩ := h
    have hg := (h1 g 0).2 rfl
    exact ⟨h1, cs, (hc.block g (hlt g 0 hg) (fun o => hd g o ((h1 g o).2 rfl))).trans h2, h3.mono hle⟩
  | map g es =>
    obtain ⟨h1, ents, clock, h2, h3, h4, h5⟩ := h
    have hg := (h1 g 0).2 rfl
    exact ⟨h1, ents, clock, (hc.block g (hlt g 0 hg) (fun o => hd g o ((h1 g o).2 rfl))).trans h2, h3, fun i m kv a b => ⟨(h4 i m kv a b).1.mono hle, (h4 i m kv a b).2.1.mono hle, (h4 i m kv a b).2.2⟩, h5⟩
  | mape g es i s =>
    obtain ⟨h1, ents, clock, h2, h3, h4, h5⟩ := h
    have hg := (h1 g 0).2 rfl
    exact ⟨h1, ents, clock, (hc.block g (hlt g 0 hg) (fun o => hd g o ((h1 g o).2 rfl))).trans h2, h3, fun i m kv a b => ⟨(h4 i m kv a b).1.mono hle, (h4 i m kv a b).2.1.mono hle, (h4 i m kv a b).2.2⟩, h5⟩
  | mapr g it es seen =>
    obtain ⟨h1, hne, ents, clock, h2, h3, h4, h5, h6, arr, h7, h8⟩ := h
    have hg := (h1 g 0).2 (.inl rfl)
    have hi := (h1 it 0).2 (.inr rfl)
    exact ⟨h1, hne, ents, clock, (hc.block g (hlt g 0 hg) (fun o => hd g o ((h1 g o).2 (.inl rfl)))).trans h2, h3, fun i m kv a b => ⟨(h4 i m kv a b).1.mono hle, (h4 i m kv a b).2.1.mono hle, (h4 i m kv a b).2.2⟩, h5, h6, arr, (hc.block it (hlt it 0 hi) (fun o => hd it o ((h1 it o).2 (.inr rfl)))).trans h7, h8⟩
  | obj g ob =>
    obtain ⟨h1, h2⟩ := h
    have hg := (h1 g 0).2 rfl
    exact ⟨h1, (hc.block g (hlt g 0 hg) (fun o => hd g o ((h1 g o).2 rfl))).trans h2⟩
  | tail b o c =>
    obtain ⟨h1, h2⟩ := h
    refine ⟨h1, fun i hi hj => ?_⟩
    have hg := (h1 b i).2 ⟨rfl, hi, hj⟩
    have := hc.cell b i (hlt b i hg) (hd b i hg)
    rw [this.1, this.2]
    exact h2 i hi hj
  | known g xs => exact ⟨h.1, h.2.mono hle⟩
  | since p => exact ⟨h.1, h.2.trans hle⟩
theorem Sep.stays {ph ph' : PH} {w w' : World} {F : FP} (hle : PH.le ph ph') (hc : Chg w w' F) : ∀ {H : List Atom} {G : FP}, Sep ph w H G → (∀ b o, G b o → ¬ F b o) → Sep ph' w' H G
  | [], _, h, _ => h
  | a :: H, G, ⟨F1, F2, h1, h2, hF, hd⟩, hn => ⟨F1, F2, Atom.stays hle hc h1 (fun b o h => hn b o ((hF b o).2 (.inl h))), Sep.stays hle hc h2 (fun b o h => hn b o ((hF b o).2 (.inr h))), hF, hd⟩
theorem Sep.app {ph : PH} {w : World} : ∀ {H K : List Atom} {F1 F2 : FP}, Sep ph w H F1 → Sep ph w K F2 → (∀ b o, F1 b o → ¬ F2 b o) → Sep ph w (H ++ K) (fun b o => F1 b o ∨ F2 b o)
  | [], K, F1, F2, h, k, hd => by
    have : (fun b o => F1 b o ∨ F2 b o) = F2 := by funext b o; exact propext ⟨fun h' => h'.elim (fun h' => (h b o h').elim) id, .inr⟩
    rw [this]; exact k
  | a :: H, K, F1, F2, ⟨A, B, h1, h2, hF, hab⟩, k, hd =>
    ⟨A, fun b o => B b o ∨ F2 b o, h1, Sep.app h2 k (fun b o h => hd b o ((hF b o).2 (.inr h))), fun b o => by simp only [hF b o, or_assoc], fun b o ha h => h.elim (hab b o ha) (hd b o ((hF b o).2 (.inl ha)))⟩
theorem Sep.split {ph : PH} {w : World} : ∀ {H K : List Atom} {F : FP}, Sep ph w (H ++ K) F → ∃ F1 F2, Sep ph w H F1 ∧ Sep ph w K F2 ∧ (∀ b o, F b o ↔ F1 b o ∨ F2 b o) ∧ ∀ b o, F1 b o → ¬ F2 b o
  | [], K, F, h => ⟨fun _ _ => False, F, fun _ _ h => h, h, fun b o => by simp, fun _ _ h => h.elim⟩
  | a :: H, K, F, ⟨A, B, h1, h2, hF, hab⟩ => by
    obtain ⟨C, D, h3, h4, hB, hcd⟩ := Sep.split h2
    exact ⟨fun b o => A b o ∨ C b o, D, ⟨A, C, h1, h3, fun _ _ => Iff.rfl, fun b o ha hc => hab b o ha ((hB b o).2 (.inl hc))⟩, h4, fun b o => by rw [hF b o, hB b o, or_assoc], fun b o h hd => h.elim (fun ha => hab b o ha ((hB b o).2 (.inr hd))) (fun hc => hcd b o hc hd)⟩

/-- Where a run began: the world; the round of a loop that it is in. -/
structure Base where
  w : World
  ro : Option Nat
/-- The state of a run: since w0; what is known (ph); what is owned (H). -/
structure Inv (w0 : Base) (ph : PH) (w : World) (H : List Atom) : Prop where
  below : Below w0.w.heap.size w0.w w
  cell : ∀ a u, ph a = some u → w.cell? a = some u
  one : ∀ a u, ph a = some u → u.oneCell' = true
  own : ∃ F, Sep ph w H F ∧ ∀ b o, F b o → w0.w.heap.size ≤ b ∧ ∀ a : Addr, a.block = b → a.off = o → ph a = none

/-- Owned things H1 turn into H2: what else is owned stays. -/
theorem Inv.upd {w0 : Base} {ph ph' : PH} {w w' : World} {H1 H2 R : List Atom} (h : Inv w0 ph w (H1 ++ R)) (hle : PH.le ph ph')
    (hs : ∀ F, Sep ph w H1 F → (∀ b o, F b o → w0.w.heap.size ≤ b ∧ ∀ a : Addr, a.block = b → a.off = o → ph a = none) →
      Chg w w' F ∧ ∃ G, Sep ph' w' H2 G ∧ (∀ b o, G b o → F b o ∨ w.heap.size ≤ b) ∧
        ∀ a u, ph' a = some u → ph a = some u ∨ ((w'.cell? a = some u ∧ u.oneCell' = true) ∧ ¬ G a.block a.off ∧ (F a.block a.off ∨ w.heap.size ≤ a.block))) : Inv w0 ph' w' (H2 ++ R) := by
  obtain ⟨hb, hcell, hone, F, hsep, hF⟩ := h
  obtain ⟨F1, F2, h1, h2, hF12, hd⟩ := hsep.split
  have hF1 : ∀ b o, F1 b o → w0.w.heap.size ≤ b ∧ ∀ a : Addr, a.block = b → a.off = o → ph a = none := fun b o h => hF b o ((hF12 b o).2 (.inl h))
  obtain ⟨hc, G, hG, hsub, hph⟩ := hs F1 h1 hF1
  have hGd : ∀ b o, G b o → ¬ F2 b o := fun b o hg h2' => by
    rcases hsub b o hg with h | h
    · exact hd b o h h2'
    · have := h2.dom h2'
      omega
  refine ⟨hb.trans ⟨hc.os, hc.tape, hc.output, hc.size, fun k hk => hc.block k (Nat.lt_of_lt_of_le hk hb.size) (fun o h => ?_)⟩, fun a u ha => ?_, fun a u ha => (hph a u ha).elim (hone a u) (fun h => h.1.2), _, hG.app (Sep.stays hle hc h2 (fun b o h2' h1' => hd b o h1' h2')) hGd, fun b o hbo => ?_⟩
  · have := (hF1 k o h).1
    omega
  · rcases hph a u ha with h | h
    · have hcu := hcell a u h
      have hsp : a.spot = none := by
        cases hs : a.spot with
        | none => rfl
        | some s => simp [World.cell?, hs] at hcu; split at hcu <;> cases hcu
      obtain ⟨b, o, s⟩ := a
      simp only at hsp
      subst hsp
      have hnF : ¬ F1 b o := fun hf => by
        have := (hF1 b o hf).2 ⟨b, o, none⟩ rfl rfl
        rw [this] at h
        cases h
      rw [(hc.cell b o (lt_of_cell hcu) hnF).1]
      exact hcu
    · exact h.1.1
  · have hph0 : ∀ a : Addr, a.block = b → a.off = o → F2 b o → ph' a = none := fun a e1 e2 hf => by
      cases hp : ph' a with
      | none => rfl
      | some u =>
        rcases hph a u hp with h | h
        · have := (hF b o ((hF12 b o).2 (.inr hf))).2 a e1 e2
          rw [this] at h
          cases h
        · rcases h.2.2 with h | h
          · exact (hd a.block a.off h (e1 ▸ e2 ▸ hf)).elim
          · have := h2.dom hf
            omega
    rcases hbo with h | h
    · refine ⟨?_, fun a e1 e2 => ?_⟩
      · rcases hsub b o h with h | h
        · exact (hF1 b o h).1
        · exact Nat.le_trans hb.size h
      · cases hp : ph' a with
        | none => rfl
        | some u =>
          subst e1
          subst e2
          rcases hph a u hp with h' | h'
          · rcases hsub _ _ h with hf | hf
            · have := (hF1 _ _ hf).2 a rfl rfl
              rw [this] at h'
              cases h'
            · have := lt_of_cell (hcell a u h')
              omega
          · exact (h'.2.1 h).elim
    · exact ⟨(hF b o ((hF12 b o).2 (.inr h))).1, fun a e1 e2 => hph0 a e1 e2 h⟩
/-- H1 says no less than H2. -/
def HSub (H1 H2 : List Atom) : Prop := ∀ ph w F, Sep ph w H1 F → ∃ G, Sep ph w H2 G ∧ ∀ b o, G b o → F b o
theorem HSub.app {H1 H2 : List Atom} (h : HSub H1 H2) {w0 : Base} {ph : PH} {w : World} (i : Inv w0 ph w H1) : Inv w0 ph w H2 := by
  obtain ⟨hb, hc, h1, F, hs, hF⟩ := i
  obtain ⟨G, hG, hsub⟩ := h ph w F hs
  exact ⟨hb, hc, h1, G, hG, fun b o hg => hF b o (hsub b o hg)⟩
theorem HSub.of {H1 H2 : List Atom} (h : ∀ ph w F, Sep ph w H1 F → ∃ G, Sep ph w H2 G ∧ ∀ b o, G b o → F b o) : HSub H1 H2 := h
theorem HSub.refl (H : List Atom) : HSub H H := fun _ _ F h => ⟨F, h, fun _ _ h => h⟩
theorem HSub.trans {A B C : List Atom} (h : HSub A B) (k : HSub B C) : HSub A C := fun ph w F s => by
  obtain ⟨G, g1, g2⟩ := h ph w F s
  obtain ⟨E, e1, e2⟩ := k ph w G g1
  exact ⟨E, e1, fun b o h => g2 b o (e2 b o h)⟩
theorem HSub.cons {a : Atom} {H K : List Atom} (h : HSub H K) : HSub (a :: H) (a :: K) := fun ph w F ⟨F1, F2, g1, g2, g3, g4⟩ => by
  obtain ⟨G, k1, k2⟩ := h ph w F2 g2
  exact ⟨fun b o => F1 b o ∨ G b o, ⟨F1, G, g1, k1, fun _ _ => Iff.rfl, fun b o h1 h2 => g4 b o h1 (k2 b o h2)⟩, fun b o h => (g3 b o).2 (h.imp id (k2 b o))⟩
theorem sep_drop {ph : PH} {w : World} {a : Atom} {H : List Atom} {F : FP} (h : Sep ph w (a :: H) F) : ∃ G, Sep ph w H G ∧ ∀ b o, G b o → F b o := by
  obtain ⟨F1, F2, h1, h2, hF, hd⟩ := h
  exact ⟨F2, h2, fun b o h => (hF b o).2 (.inr h)⟩
theorem HSub.drop {a : Atom} {H K : List Atom} (h : HSub H K) : HSub (a :: H) K := HSub.trans (HSub.of (fun ph w F => sep_drop)) h
theorem sep_perm {ph : PH} {w : World} {H K : List Atom} (h : H.Perm K) : ∀ {F : FP}, Sep ph w H F → Sep ph w K F := by
  induction h with
  | nil => exact fun h => h
  | cons a _ ih => exact fun ⟨F1, F2, h1, h2, hF, hd⟩ => ⟨F1, F2, h1, ih h2, hF, hd⟩
  | swap a b H =>
    rintro F ⟨F1, F2, h1, ⟨F3, F4, h3, h4, hF', hd'⟩, hF, hd⟩
    exact ⟨F3, fun x y => F1 x y ∨ F4 x y, h3, ⟨F1, F4, h1, h4, fun _ _ => Iff.rfl, fun x y hx h => hd x y hx ((hF' x y).2 (.inr h))⟩, fun x y => by rw [hF x y, hF' x y]; exact ⟨fun h => h.elim (fun h => .inr (.inl h)) (fun h => h.elim .inl (fun h => .inr (.inr h))), fun h => h.elim (fun h => .inr (.inl h)) (fun h => h.elim .inl (fun h => .inr (.inr h)))⟩,
      fun x y hx h => h.elim (fun h => hd x y h ((hF' x y).2 (.inl hx))) (hd' x y hx)⟩
  | trans _ _ ih1 ih2 => exact fun h => ih2 (ih1 h)
theorem HSub.perm {H K : List Atom} (h : H.Perm K) : HSub H K := HSub.of fun ph w F hs => ⟨F, sep_perm h hs, fun _ _ h => h⟩
/-- The atom at place k, brought to the front. -/
def front (k : Nat) (H : List Atom) : List Atom := match H[k]? with
  | some a => a :: H.eraseIdx k
  | none => H
theorem front_perm : ∀ (k : Nat) (H : List Atom), H.Perm (front k H)
  | _, [] => by simp [front]
  | 0, a :: H => by simp [front]
  | k + 1, a :: H => by
    have := front_perm k H
    unfold front at this ⊢
    simp only [List.getElem?_cons_succ, List.eraseIdx_cons_succ]
    split
    · rename_i x hx
      rw [hx] at this
      exact (List.Perm.cons a this).trans (List.Perm.swap x a _)
    · exact List.Perm.refl _
theorem Inv.front {w0 : Base} {ph : PH} {w : World} {H : List Atom} (h : Inv w0 ph w H) (k : Nat) : Inv w0 ph w (front k H) := (HSub.perm (front_perm k H)).app h
/-- What turns only new blocks, with nothing new owned or known. -/
theorem Inv.step {w0 : Base} {ph : PH} {w w' : World} {H : List Atom} (h : Inv w0 ph w H) (hb : Below w.heap.size w w') : Inv w0 ph w' H := by
  have := Inv.upd (H1 := []) (H2 := []) (R := H) (ph' := ph) (w' := w') h (PH.le.refl _) (fun F hF _ => ⟨Chg.below hb _, fun _ _ => False, fun _ _ h => h, fun _ _ h => h.elim, fun a u h => .inl h⟩)
  exact this
/-- New cells that are known from now on. -/
theorem Inv.know {w0 : Base} {ph ph' : PH} {w w' : World} {H : List Atom} (h : Inv w0 ph w H) (hb : Below w.heap.size w w') (hle : PH.le ph ph') (hk : ∀ a u, ph' a = some u → ph a = some u ∨ ((w'.cell? a = some u ∧ u.oneCell' = true) ∧ w.heap.size ≤ a.block)) : Inv w0 ph' w' H := by
  have := Inv.upd (H1 := []) (H2 := []) (R := H) (ph' := ph') (w' := w') h hle (fun F hF _ => ⟨Chg.below hb _, fun _ _ => False, fun _ _ h => h, fun _ _ h => h.elim, fun a u h => (hk a u h).imp id (fun h => ⟨h.1, fun h => h, .inr h.2⟩)⟩)
  exact this
/-- A new thing. -/
theorem Inv.new {w0 : Base} {ph : PH} {w w' : World} {H : List Atom} {a : Atom} {G : FP} (h : Inv w0 ph w H) (hb : Below w.heap.size w w') (ha : a.at ph w' G) (hG : ∀ b o, G b o → w.heap.size ≤ b) : Inv w0 ph w' (a :: H) := by
  have := Inv.upd (H1 := []) (H2 := [a]) (R := H) (ph' := ph) (w' := w') h (PH.le.refl _) (fun F hF _ => ⟨Chg.below hb _, G, ⟨G, fun _ _ => False, ha, fun _ _ h => h, fun b o => by simp, fun _ _ _ h => h⟩, fun b o hg => .inr (hG b o hg), fun a u h => .inl h⟩)
  exact this
/-- A thing that turns. -/
theorem Inv.turn {w0 : Base} {ph ph' : PH} {w w' : World} {H : List Atom} {a a' : Atom} (h : Inv w0 ph w (a :: H)) (hle : PH.le ph ph')
    (hs : ∀ F, a.at ph w F → (∀ b o, F b o → ∀ a : Addr, a.block = b → a.off = o → ph a = none) → Chg w w' F ∧ ∃ G, a'.at ph' w' G ∧ (∀ b o, G b o → F b o ∨ w.heap.size ≤ b) ∧
        ∀ p u, ph' p = some u → ph p = some u ∨ ((w'.cell? p = some u ∧ u.oneCell' = true) ∧ ¬ G p.block p.off ∧ (F p.block p.off ∨ w.heap.size ≤ p.block))) : Inv w0 ph' w' (a' :: H) := by
  have := Inv.upd (H1 := [a]) (H2 := [a']) (R := H) (ph' := ph') (w' := w') h hle (fun F ⟨F1, F2, h1, h2, hF, hd⟩ hn => by
    have e : F = F1 := by funext b o; exact propext ((hF b o).trans ⟨fun h => h.elim id (fun h => (h2 b o h).elim), .inl⟩)
    subst e
    obtain ⟨hc, G, hG, hsub, hph⟩ := hs F h1 (fun b o h => (hn b o h).2)
    exact ⟨hc, G, ⟨G, fun _ _ => False, hG, fun _ _ h => h, fun b o => by simp, fun _ _ _ h => h⟩, hsub, hph⟩)
  exact this
theorem Inv.atom {w0 : Base} {ph : PH} {w : World} {H : List Atom} {a : Atom} (h : Inv w0 ph w (a :: H)) : ∃ F, a.at ph w F := by
  obtain ⟨_, _, _, F, ⟨F1, _, h1, _⟩, _⟩ := h
  exact ⟨F1, h1⟩
theorem Inv.atom_at {w0 : Base} {ph : PH} {w : World} {H : List Atom} {a : Atom} {k : Nat} (h : Inv w0 ph w H) (hk : H[k]? = some a) : ∃ F, a.at ph w F := by
  have := h.front k
  unfold L.front at this
  rw [hk] at this
  exact this.atom
end Go.L
