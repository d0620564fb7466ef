/- What LinesPlays needs, part 1. -/
import Derived.Below
import Derived.WalkKit
import Derived.OwnWalk
import Derived.Deep.LoopGhost
import Derived.RangeFuncIn
import Derived.RangeFuncLeaves
import Derived.TacticsIn
import Derived.OrdersIn
import Derived.LoopIn
import Derived.LoopNIn
import Derived.Laws.Entries
import Derived.Laws.Slices
import Derived.Laws.Cells
import Derived.Deep.AppendSrc
import Derived.Deep.MidRow
import Derived.Laws.AppendOwn
import Derived.Laws.MakeOwn
import Derived.Laws.IdiomCopy
import Derived.Lib.ConvBytes
import Derived.Lib.SlBytesConst
import Derived.Laws.BytesArg
import Derived.Deep.Upon
import Derived.Laws.StructEq
import Derived.Laws.Small
import Derived.SizedLaws
import Derived.ChangeSlices
import Derived.Lib.SmallJoins
import Derived.MakeChecks
import Derived.ChangeBears2
import Derived.Laws.CopyRow
import Derived.RangeFuncRecord
import Derived.Laws.Externs
import Derived.Lib.Bytealg
import Derived.Lib.IndexLaws
import Derived.DefersIn
import Derived.Lib.SliceRun
import Derived.OpenShut
import Derived.WideShapes
import Derived.Maps.RangeRun
import Derived.Sort.Row
import Derived.Lib.BytesEntry
import Derived.Lib.SlFresh
import Derived.Test.YtolpkeajokjbjaaDoorProg
import Derived.Test.YtolpkeajokjbjaaDoorRows
import Derived.LaidMore
import Derived.LaidHandle
import Derived.ChangeSame
set_option linter.unusedVariables false
set_option linter.unusedSimpArgs false
namespace Go.L
open Go.RowKit
/-- What is known of a slice's room: nothing; there is none; it is ours: cells [o, c) of block b. -/
inductive Cap where
  | unk
  | full
  | tok (b o c : Nat)
/-- A value by its content. -/
inductive LV where
  | any
  | raw (v : Value)
  | agg (cs : List LV)
  | tup (vs : List LV)
  | sl (size : Nat) (es : List (List LV)) (k : Cap)
  | pin (cs : List LV)
  | when (b : Bool) (v : LV)
/-- Cells that are known and never written again. -/
abbrev PH := Addr → Option Value
def PH.le (p q : PH) : Prop := ∀ a u, p a = some u → q a = some u
theorem PH.le.refl (p : PH) : PH.le p p := fun _ _ h => h
theorem PH.le.trans {p q r : PH} (h : PH.le p q) (k : PH.le q r) : PH.le p r := fun a u e => k a u (h a u e)
/-- What a slice's header must be for what is said of its room. -/
def CapOk (A : Option Addr) (n c size : Nat) : Cap → Prop
  | .unk => True
  | .full => n = c
  | .tok b o l => (n = c ∧ o = l) ∨ ∃ off, A = some ⟨b, off, none⟩ ∧ off + n * size = o ∧ off + c * size = l
inductive Rep (ph : PH) : Value → LV → Prop where
  | any (v : Value) : Rep ph v .any
  | raw (v : Value) : Rep ph v (.raw v)
  | agg (cs : Array Value) (xs : List LV) (hl : cs.size = xs.length) (h1 : ∀ (i : Nat) (c : Value), cs[i]? = some c → c.oneCell' = true) (h : ∀ (i : Nat) (c : Value) (x : LV), cs[i]? = some c → xs[i]? = some x → Rep ph c x) : Rep ph (.agg cs) (.agg xs)
  | tup (cs : Array Value) (xs : List LV) (hl : cs.size = xs.length) (h : ∀ (i : Nat) (c : Value) (x : LV), cs[i]? = some c → xs[i]? = some x → Rep ph c x) : Rep ph (.tuple cs) (.tup xs)
  | sl (size : Nat) (es : List (List LV)) (k : Cap) (A : Option Addr) (n c : Nat) (ad : Addr) (u : Nat → Value) (hA : 0 < es.length → A = some ad) (hn : es.length = n) (hnc : n ≤ c) (hs : ∀ e ∈ es, e.length = size) (hcap : CapOk A n c size k)
      (hp : ∀ (i : Nat) (e : List LV) (j : Nat) (x : LV), es[i]? = some e → e[j]? = some x → ph (ad.add (i * size + j)) = some (u (i * size + j)))
      (hr : ∀ (i : Nat) (e : List LV) (j : Nat) (x : LV), es[i]? = some e → e[j]? = some x → Rep ph (u (i * size + j)) x) : Rep ph (.slice A n c) (.sl size es k)
  | pin (cs : List LV) (ad : Addr) (u : Nat → Value) (hp : ∀ (j : Nat) (x : LV), cs[j]? = some x → ph (ad.add j) = some (u j)) (hr : ∀ (j : Nat) (x : LV), cs[j]? = some x → Rep ph (u j) x) : Rep ph (.pointer (some ad)) (.pin cs)
  | when (v : Value) (b : Bool) (x : LV) (h : b = true → Rep ph v x) (h0 : b = false → v = undef) : Rep ph v (.when b x)
theorem Rep.mono {p q : PH} (hle : PH.le p q) {v : Value} {x : LV} (h : Rep p v x) : Rep q v x := by
  induction h with
  | any v => exact .any v
  | raw v => exact .raw v
  | agg cs xs hl h1 _ ih => exact .agg cs xs hl h1 ih
  | tup cs xs hl _ ih => exact .tup cs xs hl ih
  | sl size es k A n c ad u hA hn hnc hs hcap hp _ ih => exact .sl size es k A n c ad u hA hn hnc hs hcap (fun i e j x h1 h2 => hle _ _ (hp i e j x h1 h2)) ih
  | pin cs ad u hp _ ih => exact .pin cs ad u (fun j x h => hle _ _ (hp j x h)) ih
  | when v b x _ h0 ih => exact .when v b x ih h0
theorem Rep.rawE {p : PH} {v u : Value} (h : Rep p v (.raw u)) : v = u := by cases h; rfl
/-- A list of cells and what they are. -/
def Reps (ph : PH) (cs : Array Value) (xs : List LV) : Prop := cs.size = xs.length ∧ ∀ (i : Nat) (c : Value) (x : LV), cs[i]? = some c → xs[i]? = some x → Rep ph c x
theorem Reps.mono {p q : PH} (hle : PH.le p q) {cs : Array Value} {xs : List LV} (h : Reps p cs xs) : Reps q cs xs := ⟨h.1, fun i c x h1 h2 => (h.2 i c x h1 h2).mono hle⟩
/-- The same, of cells. -/
def CReps (ph : PH) (cs : Array Value) (xs : List LV) : Prop := Reps ph cs xs ∧ ∀ (i : Nat) (c : Value), cs[i]? = some c → c.oneCell' = true
theorem CReps.mono {p q : PH} (hle : PH.le p q) {cs : Array Value} {xs : List LV} (h : CReps p cs xs) : CReps q cs xs := ⟨h.1.mono hle, h.2⟩
/-- What is owned. -/
inductive Atom where
  | cells (g : Nat) (t : TypeId) (xs : List LV)
  | map (g : Nat) (es : List (LV × LV))
  | mapr (g it : Nat) (es : List (LV × LV)) (seen : List Nat)
  | mape (g : Nat) (es : List (LV × LV)) (i s : Nat)
  | obj (g : Nat) (o : Obj)
  | tail (b o c : Nat)
  | known (g : Nat) (xs : List LV)
  | since (p : PH)
abbrev FP := Nat → Nat → Prop
def Atom.at (ph : PH) (w : World) : Atom → FP → Prop
  | .cells g t xs, F => (∀ b o, F b o ↔ b = g) ∧ ∃ cs, w.heap[g]? = some (.cells cs t (0, 0)) ∧ CReps ph cs xs
  | .map g es, F => (∀ b o, F b o ↔ b = g) ∧ ∃ ents clock, w.heap[g]? = some (.map ents clock) ∧ ents.size = es.length ∧ (∀ (i : Nat) (m : MapEntry) (kv : LV × LV), ents[i]? = some m → es[i]? = some kv → Rep ph m.key kv.1 ∧ Rep ph m.val kv.2 ∧ m.born < clock) ∧ (ents.toList.map (·.born)).Pairwise (· < ·)
  | .mapr g it es seen, F => (∀ b o, F b o ↔ b = g ∨ b = it) ∧ g ≠ it ∧ ∃ ents clock, w.heap[g]? = some (.map ents clock) ∧ ents.size = es.length ∧ (∀ (i : Nat) (m : MapEntry) (kv : LV × LV), ents[i]? = some m → es[i]? = some kv → Rep ph m.key kv.1 ∧ Rep ph m.val kv.2 ∧ m.born < clock) ∧ (ents.toList.map (·.born)).Pairwise (· < ·) ∧
      (∀ i ∈ seen, i < es.length) ∧ ∃ arr : Array Nat, w.heap[it]? = some (.mapIter (some g) clock arr clock) ∧ arr.toList = seen.map fun i => ((ents[i]?).map (·.born)).getD 0
  | .mape g es i s, F => (∀ b o, F b o ↔ b = g) ∧ ∃ ents clock, w.heap[g]? = some (.map ents clock) ∧ ents.size = es.length ∧ (∀ (i : Nat) (m : MapEntry) (kv : LV × LV), ents[i]? = some m → es[i]? = some kv → Rep ph m.key kv.1 ∧ Rep ph m.val kv.2 ∧ m.born < clock) ∧ (ents.toList.map (·.born)).Pairwise (· < ·) ∧ (ents[i]?).map (·.born) = some s
  | .obj g o, F => (∀ b o, F b o ↔ b = g) ∧ w.heap[g]? = some o
  | .tail b o c, F => (∀ b' o', F b' o' ↔ b' = b ∧ o ≤ o' ∧ o' < c) ∧ ∀ i, o ≤ i → i < c → (∃ u, w.cell? ⟨b, i, none⟩ = some u) ∧ w.frozen? ⟨b, i, none⟩ = false
  | .known g xs, F => (∀ b o, ¬ F b o) ∧ Rep ph (.pointer (some ⟨g, 0, none⟩)) (.pin xs)
  | .since p, F => (∀ b o, ¬ F b o) ∧ PH.le p ph
def Sep (ph : PH) (w : World) : List Atom → FP → Prop
  | [], F => ∀ b o, ¬ F b o
  | a :: H, F => ∃ F1 F2, a.at ph w F1 ∧ Sep ph w H F2 ∧ (∀ b o, F b o ↔ F1 b o ∨ F2 b o) ∧ ∀ b o, F1 b o → ¬ F2 b o
theorem lt_of_some {w : World} {g : Nat} {o : Obj} (h : w.heap[g]? = some o) : g < w.heap.size := (Array.getElem?_eq_some_iff.1 h).1
theorem lt_of_cell {w : World} {a : Addr} {u : Value} (h : w.cell? a = some u) : a.block < w.heap.size := World.block_lt_of_cell? w a h
theorem Atom.dom {ph : PH} {w : World} {a : Atom} {F : FP} (h : a.at ph w F) {b o : Nat} (hF : F b o) : b < w.heap.size := by
  cases a with
  | cells g t xs => obtain ⟨h1, cs, h2, _⟩ := h; rw [(h1 b o).1 hF]; exact lt_of_some h2
  | map g es => obtain ⟨h1, ents, clock, h2, _⟩ := h; rw [(h1 b o).1 hF]; exact lt_of_some h2
  | mape g es i s => obtain ⟨h1, ents, clock, h2, _⟩ := h; rw [(h1 b o).1 hF]; exact lt_of_some h2
  | mapr g it es seen =>
    obtain ⟨h1, hne, ents, clock, h2, _, _, _, _, arr, h3, _⟩ := h
    rcases (h1 b o).1 hF with rfl | rfl
    · exact lt_of_some h2
    · exact lt_of_some h3
  | obj g ob => obtain ⟨h1, h2⟩ := h; rw [(h1 b o).1 hF]; exact lt_of_some h2
  | tail b' o' c =>
    obtain ⟨h1, h2⟩ := h
    obtain ⟨rfl, h3, h4⟩ := (h1 b o).1 hF
    obtain ⟨⟨u, hu⟩, _⟩ := h2 o h3 h4
    exact lt_of_cell hu
  | known g xs => exact (h.1 b o hF).elim
  | since p => exact (h.1 b o hF).elim
theorem Sep.dom {ph : PH} {w : World} : ∀ {H : List Atom} {F : FP}, Sep ph w H F → ∀ {b o : Nat}, F b o → b < w.heap.size
  | [], _, h, _, _, hF => (h _ _ hF).elim
  | a :: H, F, ⟨F1, F2, h1, h2, hF, _⟩, b, o, hb => by
    rcases (hF b o).1 hb with h | h
    · exact Atom.dom h1 h
    · exact h2.dom h
/-- From w to w' nothing turned but (some of) F; new blocks may be there. -/
structure Chg (w w' : World) (F : FP) : Prop where
  os : w'.os = w.os
  tape : w'.tape = w.tape
  output : w'.output = w.output
  size : w.heap.size ≤ w'.heap.size
  block : ∀ b, b < w.heap.size → (∀ o, ¬ F b o) → w'.heap[b]? = w.heap[b]?
  cell : ∀ b o, b < w.heap.size → ¬ F b o → w'.cell? ⟨b, o, none⟩ = w.cell? ⟨b, o, none⟩ ∧ w'.frozen? ⟨b, o, none⟩ = w.frozen? ⟨b, o, none⟩
theorem Chg.refl (w : World) (F : FP) : Chg w w F := ⟨rfl, rfl, rfl, Nat.le_refl _, fun _ _ _ => rfl, fun _ _ _ _ => ⟨rfl, rfl⟩⟩
theorem Chg.mono {w w' : World} {F G : FP} (h : Chg w w' F) (hs : ∀ b o, F b o → G b o) : Chg w w' G :=
  ⟨h.os, h.tape, h.output, h.size, fun b hb hn => h.block b hb (fun o hf => hn o (hs b o hf)), fun b o hb hn => h.cell b o hb (fun hf => hn (hs b o hf))⟩
theorem Chg.trans {w w1 w2 : World} {F : FP} (h : Chg w w1 F) (k : Chg w1 w2 F) : Chg w w2 F :=
  ⟨k.os.trans h.os, k.tape.trans h.tape, k.output.trans h.output, Nat.le_trans h.size k.size,
   fun b hb hn => (k.block b (Nat.lt_of_lt_of_le hb h.size) hn).trans (h.block b hb hn),
   fun b o hb hn => ⟨(k.cell b o (Nat.lt_of_lt_of_le hb h.size) hn).1.trans (h.cell b o hb hn).1, (k.cell b o (Nat.lt_of_lt_of_le hb h.size) hn).2.trans (h.cell b o hb hn).2⟩⟩
theorem cell_of_block {w w' : World} {a : Addr} (h : w'.heap[a.block]? = w.heap[a.block]?) : w'.cell? a = w.cell? a := World.cell?_of_block (w := w) h
theorem frozen_of_block {w w' : World} {a : Addr} (h : w'.heap[a.block]? = w.heap[a.block]?) : w'.frozen? a = w.frozen? a := World.frozen?_of_block (w := w) h
/-- Where only whole blocks turned. -/
theorem Chg.blocks {w w' : World} {F : FP} (os : w'.os = w.os) (tape : w'.tape = w.tape) (output : w'.output = w.output) (size : w.heap.size ≤ w'.heap.size) (B : Nat → Prop) (hB : ∀ b, B b → ∀ o, F b o)
    (block : ∀ b, b < w.heap.size → ¬ B b → w'.heap[b]? = w.heap[b]?) : Chg w w' F :=
  ⟨os, tape, output, size, fun b hb hn => block b hb (fun h => hn 0 (hB b h 0)), fun b o hb hn => by
    have := block b hb (fun h => hn (hB b h o))
    exact ⟨cell_of_block this, frozen_of_block this⟩⟩
theorem Chg.below {w w' : World} (h : Below w.heap.size w w') (F : FP) : Chg w w' F := Chg.blocks h.os h.tape h.output h.size (fun _ => False) (fun _ h => h.elim) (fun b hb _ => h.block b hb)
theorem Atom.stays {ph ph' : PH} {w w' : World} {F : FP} (hle : PH.le ph ph') (hc : Chg w w' F) {a : Atom} {G : FP} (h : a.at ph w G) (hd : ∀ b o, G b o → ¬ F b o) : a.at ph' w' G := by
  have hlt := fun (b o : Nat) (hb : G b o) => Atom.dom h hb
  cases a with
  | cells g t xs =>
    obtain ⟨h1, cs, h2, h3⟩ := h
    have hg := (h1 g 0).2 rfl
    exact ⟨h1, cs, (hc.block g (hlt g 0 hg) (fun o => hd g o ((h1 g o).2 rfl))).trans h2, h3.mono hle⟩
  | map g es =>
    obtain ⟨h1, ents, clock, h2, h3, h4, h5⟩ := h
    have hg := (h1 g 0).2 rfl
    exact ⟨h1, ents, clock, (hc.block g (hlt g 0 hg) (fun o => hd g o ((h1 g o).2 rfl))).trans h2, h3, fun i m kv a b => ⟨(h4 i m kv a b).1.mono hle, (h4 i m kv a b).2.1.mono hle, (h4 i m kv a b).2.2⟩, h5⟩
  | mape g es i s =>
    obtain ⟨h1, ents, clock, h2, h3, h4, h5⟩ := h
    have hg := (h1 g 0).2 rfl
    exact ⟨h1, ents, clock, (hc.block g (hlt g 0 hg) (fun o => hd g o ((h1 g o).2 rfl))).trans h2, h3, fun i m kv a b => ⟨(h4 i m kv a b).1.mono hle, (h4 i m kv a b).2.1.mono hle, (h4 i m kv a b).2.2⟩, h5⟩
  | mapr g it es seen =>
    obtain ⟨h1, hne, ents, clock, h2, h3, h4, h5, h6, arr, h7, h8⟩ := h
    have hg := (h1 g 0).2 (.inl rfl)
    have hi := (h1 it 0).2 (.inr rfl)
    exact ⟨h1, hne, ents, clock, (hc.block g (hlt g 0 hg) (fun o => hd g o ((h1 g o).2 (.inl rfl)))).trans h2, h3, fun i m kv a b => ⟨(h4 i m kv a b).1.mono hle, (h4 i m kv a b).2.1.mono hle, (h4 i m kv a b).2.2⟩, h5, h6, arr, (hc.block it (hlt it 0 hi) (fun o => hd it o ((h1 it o).2 (.inr rfl)))).trans h7, h8⟩
  | obj g ob =>
    obtain ⟨h1, h2⟩ := h
    have hg := (h1 g 0).2 rfl
    exact ⟨h1, (hc.block g (hlt g 0 hg) (fun o => hd g o ((h1 g o).2 rfl))).trans h2⟩
  | tail b o c =>
    obtain ⟨h1, h2⟩ := h
    refine ⟨h1, fun i hi hj => ?_⟩
    have hg := (h1 b i).2 ⟨rfl, hi, hj⟩
    have := hc.cell b i (hlt b i hg) (hd b i hg)
    rw [this.1, this.2]
    exact h2 i hi hj
  | known g xs => exact ⟨h.1, h.2.mono hle⟩
  | since p => exact ⟨h.1, h.2.trans hle⟩
theorem Sep.stays {ph ph' : PH} {w w' : World} {F : FP} (hle : PH.le ph ph') (hc : Chg w w' F) : ∀ {H : List Atom} {G : FP}, Sep ph w H G → (∀ b o, G b o → ¬ F b o) → Sep ph' w' H G
  | [], _, h, _ => h
  | a :: H, G, ⟨F1, F2, h1, h2, hF, hd⟩, hn => ⟨F1, F2, Atom.stays hle hc h1 (fun b o h => hn b o ((hF b o).2 (.inl h))), Sep.stays hle hc h2 (fun b o h => hn b o ((hF b o).2 (.inr h))), hF, hd⟩
theorem Sep.app {ph : PH} {w : World} : ∀ {H K : List Atom} {F1 F2 : FP}, Sep ph w H F1 → Sep ph w K F2 → (∀ b o, F1 b o → ¬ F2 b o) → Sep ph w (H ++ K) (fun b o => F1 b o ∨ F2 b o)
  | [], K, F1, F2, h, k, hd => by
    have : (fun b o => F1 b o ∨ F2 b o) = F2 := by funext b o; exact propext ⟨fun h' => h'.elim (fun h' => (h b o h').elim) id, .inr⟩
    rw [this]; exact k
  | a :: H, K, F1, F2, ⟨A, B, h1, h2, hF, hab⟩, k, hd =>
    ⟨A, fun b o => B b o ∨ F2 b o, h1, Sep.app h2 k (fun b o h => hd b o ((hF b o).2 (.inr h))), fun b o => by simp only [hF b o, or_assoc], fun b o ha h => h.elim (hab b o ha) (hd b o ((hF b o).2 (.inl ha)))⟩
theorem Sep.split {ph : PH} {w : World} : ∀ {H K : List Atom} {F : FP}, Sep ph w (H ++ K) F → ∃ F1 F2, Sep ph w H F1 ∧ Sep ph w K F2 ∧ (∀ b o, F b o ↔ F1 b o ∨ F2 b o) ∧ ∀ b o, F1 b o → ¬ F2 b o
  | [], K, F, h => ⟨fun _ _ => False, F, fun _ _ h => h, h, fun b o => by simp, fun _ _ h => h.elim⟩
  | a :: H, K, F, ⟨A, B, h1, h2, hF, hab⟩ => by
    obtain ⟨C, D, h3, h4, hB, hcd⟩ := Sep.split h2
    exact ⟨fun b o => A b o ∨ C b o, D, ⟨A, C, h1, h3, fun _ _ => Iff.rfl, fun b o ha hc => hab b o ha ((hB b o).2 (.inl hc))⟩, h4, fun b o => by rw [hF b o, hB b o, or_assoc], fun b o h hd => h.elim (fun ha => hab b o ha ((hB b o).2 (.inr hd))) (fun hc => hcd b o hc hd)⟩
/-- Where a run began: the world; the round of a loop that it is in. -/
structure Base where
  w : World
  ro : Option Nat
/-- The state of a run: since w0; what is known (ph); what is owned (H). -/
structure Inv (w0 : Base) (ph : PH) (w : World) (H : List Atom) : Prop where
  below : Below w0.w.heap.size w0.w w
  cell : ∀ a u, ph a = some u → w.cell? a = some u
  one : ∀ a u, ph a = some u → u.oneCell' = true
  own : ∃ F, Sep ph w H F ∧ ∀ b o, F b o → w0.w.heap.size ≤ b ∧ ∀ a : Addr, a.block = b → a.off = o → ph a = none
/-- Owned things H1 turn into H2: what else is owned stays. -/
theorem Inv.upd {w0 : Base} {ph ph' : PH} {w w' : World} {H1 H2 R : List Atom} (h : Inv w0 ph w (H1 ++ R)) (hle : PH.le ph ph')
    (hs : ∀ F, Sep ph w H1 F → (∀ b o, F b o → w0.w.heap.size ≤ b ∧ ∀ a : Addr, a.block = b → a.off = o → ph a = none) →
      Chg w w' F ∧ ∃ G, Sep ph' w' H2 G ∧ (∀ b o, G b o → F b o ∨ w.heap.size ≤ b) ∧
        ∀ a u, ph' a = some u → ph a = some u ∨ ((w'.cell? a = some u ∧ u.oneCell' = true) ∧ ¬ G a.block a.off ∧ (F a.block a.off ∨ w.heap.size ≤ a.block))) : Inv w0 ph' w' (H2 ++ R) := by
  obtain ⟨hb, hcell, hone, F, hsep, hF⟩ := h
  obtain ⟨F1, F2, h1, h2, hF12, hd⟩ := hsep.split
  have hF1 : ∀ b o, F1 b o → w0.w.heap.size ≤ b ∧ ∀ a : Addr, a.block = b → a.off = o → ph a = none := fun b o h => hF b o ((hF12 b o).2 (.inl h))
  obtain ⟨hc, G, hG, hsub, hph⟩ := hs F1 h1 hF1
  have hGd : ∀ b o, G b o → ¬ F2 b o := fun b o hg h2' => by
    rcases hsub b o hg with h | h
    · exact hd b o h h2'
    · have := h2.dom h2'
      omega
  refine ⟨hb.trans ⟨hc.os, hc.tape, hc.output, hc.size, fun k hk => hc.block k (Nat.lt_of_lt_of_le hk hb.size) (fun o h => ?_)⟩, fun a u ha => ?_, fun a u ha => (hph a u ha).elim (hone a u) (fun h => h.1.2), _, hG.app (Sep.stays hle hc h2 (fun b o h2' h1' => hd b o h1' h2')) hGd, fun b o hbo => ?_⟩
  · have := (hF1 k o h).1
    omega
  · rcases hph a u ha with h | h
    · have hcu := hcell a u h
      have hsp : a.spot = none := by
        cases hs : a.spot with
        | none => rfl
        | some s => simp [World.cell?, hs] at hcu; split at hcu <;> cases hcu
      obtain ⟨b, o, s⟩ := a
      simp only at hsp
      subst hsp
      have hnF : ¬ F1 b o := fun hf => by
        have := (hF1 b o hf).2 ⟨b, o, none⟩ rfl rfl
        rw [this] at h
        cases h
      rw [(hc.cell b o (lt_of_cell hcu) hnF).1]
      exact hcu
    · exact h.1.1
  · have hph0 : ∀ a : Addr, a.block = b → a.off = o → F2 b o → ph' a = none := fun a e1 e2 hf => by
      cases hp : ph' a with
      | none => rfl
      | some u =>
        rcases hph a u hp with h | h
        · have := (hF b o ((hF12 b o).2 (.inr hf))).2 a e1 e2
          rw [this] at h
          cases h
        · rcases h.2.2 with h | h
          · exact (hd a.block a.off h (e1 ▸ e2 ▸ hf)).elim
          · have := h2.dom hf
            omega
    rcases hbo with h | h
    · refine ⟨?_, fun a e1 e2 => ?_⟩
      · rcases hsub b o h with h | h
        · exact (hF1 b o h).1
        · exact Nat.le_trans hb.size h
      · cases hp : ph' a with
        | none => rfl
        | some u =>
          subst e1
          subst e2
          rcases hph a u hp with h' | h'
          · rcases hsub _ _ h with hf | hf
            · have := (hF1 _ _ hf).2 a rfl rfl
              rw [this] at h'
              cases h'
            · have := lt_of_cell (hcell a u h')
              omega
          · exact (h'.2.1 h).elim
    · exact ⟨(hF b o ((hF12 b o).2 (.inr h))).1, fun a e1 e2 => hph0 a e1 e2 h⟩
/-- H1 says no less than H2. -/
def HSub (H1 H2 : List Atom) : Prop := ∀ ph w F, Sep ph w H1 F → ∃ G, Sep ph w H2 G ∧ ∀ b o, G b o → F b o
theorem HSub.app {H1 H2 : List Atom} (h : HSub H1 H2) {w0 : Base} {ph : PH} {w : World} (i : Inv w0 ph w H1) : Inv w0 ph w H2 := by
  obtain ⟨hb, hc, h1, F, hs, hF⟩ := i
  obtain ⟨G, hG, hsub⟩ := h ph w F hs
  exact ⟨hb, hc, h1, G, hG, fun b o hg => hF b o (hsub b o hg)⟩
theorem HSub.of {H1 H2 : List Atom} (h : ∀ ph w F, Sep ph w H1 F → ∃ G, Sep ph w H2 G ∧ ∀ b o, G b o → F b o) : HSub H1 H2 := h
theorem HSub.refl (H : List Atom) : HSub H H := fun _ _ F h => ⟨F, h, fun _ _ h => h⟩
theorem HSub.trans {A B C : List Atom} (h : HSub A B) (k : HSub B C) : HSub A C := fun ph w F s => by
  obtain ⟨G, g1, g2⟩ := h ph w F s
  obtain ⟨E, e1, e2⟩ := k ph w G g1
  exact ⟨E, e1, fun b o h => g2 b o (e2 b o h)⟩
theorem HSub.cons {a : Atom} {H K : List Atom} (h : HSub H K) : HSub (a :: H) (a :: K) := fun ph w F ⟨F1, F2, g1, g2, g3, g4⟩ => by
  obtain ⟨G, k1, k2⟩ := h ph w F2 g2
  exact ⟨fun b o => F1 b o ∨ G b o, ⟨F1, G, g1, k1, fun _ _ => Iff.rfl, fun b o h1 h2 => g4 b o h1 (k2 b o h2)⟩, fun b o h => (g3 b o).2 (h.imp id (k2 b o))⟩
theorem sep_drop {ph : PH} {w : World} {a : Atom} {H : List Atom} {F : FP} (h : Sep ph w (a :: H) F) : ∃ G, Sep ph w H G ∧ ∀ b o, G b o → F b o := by
  obtain ⟨F1, F2, h1, h2, hF, hd⟩ := h
  exact ⟨F2, h2, fun b o h => (hF b o).2 (.inr h)⟩
theorem HSub.drop {a : Atom} {H K : List Atom} (h : HSub H K) : HSub (a :: H) K := HSub.trans (HSub.of (fun ph w F => sep_drop)) h
theorem sep_perm {ph : PH} {w : World} {H K : List Atom} (h : H.Perm K) : ∀ {F : FP}, Sep ph w H F → Sep ph w K F := by
  induction h with
  | nil => exact fun h => h
  | cons a _ ih => exact fun ⟨F1, F2, h1, h2, hF, hd⟩ => ⟨F1, F2, h1, ih h2, hF, hd⟩
  | swap a b H =>
    rintro F ⟨F1, F2, h1, ⟨F3, F4, h3, h4, hF', hd'⟩, hF, hd⟩
    exact ⟨F3, fun x y => F1 x y ∨ F4 x y, h3, ⟨F1, F4, h1, h4, fun _ _ => Iff.rfl, fun x y hx h => hd x y hx ((hF' x y).2 (.inr h))⟩, fun x y => by rw [hF x y, hF' x y]; exact ⟨fun h => h.elim (fun h => .inr (.inl h)) (fun h => h.elim .inl (fun h => .inr (.inr h))), fun h => h.elim (fun h => .inr (.inl h)) (fun h => h.elim .inl (fun h => .inr (.inr h)))⟩,
      fun x y hx h => h.elim (fun h => hd x y h ((hF' x y).2 (.inl hx))) (hd' x y hx)⟩
  | trans _ _ ih1 ih2 => exact fun h => ih2 (ih1 h)
theorem HSub.perm {H K : List Atom} (h : H.Perm K) : HSub H K := HSub.of fun ph w F hs => ⟨F, sep_perm h hs, fun _ _ h => h⟩
/-- The atom at place k, brought to the front. -/
def front (k : Nat) (H : List Atom) : List Atom := match H[k]? with
  | some a => a :: H.eraseIdx k
  | none => H
theorem front_perm : ∀ (k : Nat) (H : List Atom), H.Perm (front k H)
  | _, [] => by simp [front]
  | 0, a :: H => by simp [front]
  | k + 1, a :: H => by
    have := front_perm k H
    unfold front at this ⊢
    simp only [List.getElem?_cons_succ, List.eraseIdx_cons_succ]
    split
    · rename_i x hx
      rw [hx] at this
      exact (List.Perm.cons a this).trans (List.Perm.swap x a _)
    · exact List.Perm.refl _
theorem Inv.front {w0 : Base} {ph : PH} {w : World} {H : List Atom} (h : Inv w0 ph w H) (k : Nat) : Inv w0 ph w (front k H) := (HSub.perm (front_perm k H)).app h
/-- What turns only new blocks, with nothing new owned or known. -/
theorem Inv.step {w0 : Base} {ph : PH} {w w' : World} {H : List Atom} (h : Inv w0 ph w H) (hb : Below w.heap.size w w') : Inv w0 ph w' H := by
  have := Inv.upd (H1 := []) (H2 := []) (R := H) (ph' := ph) (w' := w') h (PH.le.refl _) (fun F hF _ => ⟨Chg.below hb _, fun _ _ => False, fun _ _ h => h, fun _ _ h => h.elim, fun a u h => .inl h⟩)
  exact this
/-- New cells that are known from now on. -/
theorem Inv.know {w0 : Base} {ph ph' : PH} {w w' : World} {H : List Atom} (h : Inv w0 ph w H) (hb : Below w.heap.size w w') (hle : PH.le ph ph') (hk : ∀ a u, ph' a = some u → ph a = some u ∨ ((w'.cell? a = some u ∧ u.oneCell' = true) ∧ w.heap.size ≤ a.block)) : Inv w0 ph' w' H := by
  have := Inv.upd (H1 := []) (H2 := []) (R := H) (ph' := ph') (w' := w') h hle (fun F hF _ => ⟨Chg.below hb _, fun _ _ => False, fun _ _ h => h, fun _ _ h => h.elim, fun a u h => (hk a u h).imp id (fun h => ⟨h.1, fun h => h, .inr h.2⟩)⟩)
  exact this
/-- A new thing. -/
theorem Inv.new {w0 : Base} {ph : PH} {w w' : World} {H : List Atom} {a : Atom} {G : FP} (h : Inv w0 ph w H) (hb : Below w.heap.size w w') (ha : a.at ph w' G) (hG : ∀ b o, G b o → w.heap.size ≤ b) : Inv w0 ph w' (a :: H) := by
  have := Inv.upd (H1 := []) (H2 := [a]) (R := H) (ph' := ph) (w' := w') h (PH.le.refl _) (fun F hF _ => ⟨Chg.below hb _, G, ⟨G, fun _ _ => False, ha, fun _ _ h => h, fun b o => by simp, fun _ _ _ h => h⟩, fun b o hg => .inr (hG b o hg), fun a u h => .inl h⟩)
  exact this
/-- A thing that turns. -/
theorem Inv.turn {w0 : Base} {ph ph' : PH} {w w' : World} {H : List Atom} {a a' : Atom} (h : Inv w0 ph w (a :: H)) (hle : PH.le ph ph')
    (hs : ∀ F, a.at ph w F → (∀ b o, F b o → ∀ a : Addr, a.block = b → a.off = o → ph a = none) → Chg w w' F ∧ ∃ G, a'.at ph' w' G ∧ (∀ b o, G b o → F b o ∨ w.heap.size ≤ b) ∧
        ∀ p u, ph' p = some u → ph p = some u ∨ ((w'.cell? p = some u ∧ u.oneCell' = true) ∧ ¬ G p.block p.off ∧ (F p.block p.off ∨ w.heap.size ≤ p.block))) : Inv w0 ph' w' (a' :: H) := by
  have := Inv.upd (H1 := [a]) (H2 := [a']) (R := H) (ph' := ph') (w' := w') h hle (fun F ⟨F1, F2, h1, h2, hF, hd⟩ hn => by
    have e : F = F1 := by funext b o; exact propext ((hF b o).trans ⟨fun h => h.elim id (fun h => (h2 b o h).elim), .inl⟩)
    subst e
    obtain ⟨hc, G, hG, hsub, hph⟩ := hs F h1 (fun b o h => (hn b o h).2)
    exact ⟨hc, G, ⟨G, fun _ _ => False, hG, fun _ _ h => h, fun b o => by simp, fun _ _ _ h => h⟩, hsub, hph⟩)
  exact this
theorem Inv.atom {w0 : Base} {ph : PH} {w : World} {H : List Atom} {a : Atom} (h : Inv w0 ph w (a :: H)) : ∃ F, a.at ph w F := by
  obtain ⟨_, _, _, F, ⟨F1, _, h1, _⟩, _⟩ := h
  exact ⟨F1, h1⟩
theorem Inv.atom_at {w0 : Base} {ph : PH} {w : World} {H : List Atom} {a : Atom} {k : Nat} (h : Inv w0 ph w H) (hk : H[k]? = some a) : ∃ F, a.at ph w F := by
  have := h.front k
  unfold L.front at this
  rw [hk] at this
  exact this.atom
end Go.L
namespace Go.L
open Go.RowKit
/-- No fence; the round that one is in. -/
def Fn (ro : Option Nat) : Fence := { Fence.wide with round := ro }
/-- One operation: what it yields, and what is asked then. -/
def owp (P : Program) (o : Oper) (a : Act) (w : World) (N : Act → World → Prop) (Q : Exit → Act → World → Prop) : Prop :=
  o.uponIn Fence.wide 0 P a N Q ((execOp a.eval o).run P w)
def olist (P : Program) (ops : Array Oper) (Q : Exit → Act → World → Prop) : List Oper → Act → World → Prop
  | [], a, w => Q .normal a w
  | o :: rest, a, w => if Region.wanted o (yielded ops a.tmps) then owp P o a w (olist P ops Q rest) Q else olist P ops Q rest (a.put o.dst undef) w
def oop (P : Program) (ops : Array Oper) (Q : Exit → Act → World → Prop) (i : Nat) (K : Act → World → Prop) (a : Act) (w : World) : Prop :=
  match ops[i]? with
  | none => K a w
  | some o => if Region.wanted o (yielded ops a.tmps) then owp P o a w K Q else K (a.put o.dst undef) w
def oany (P : Program) (md : Region.Mode) (ops : Array Oper) (Q : Exit → Act → World → Prop) : Nat → Array Bool → Act → World → Prop
  | 0, listed, a, w => Region.ready md ops listed = [] ∧ Q .normal a w
  | fuel + 1, listed, a, w => (Region.ready md ops listed = [] → Q .normal a w) ∧ ∀ i ∈ Region.ready md ops listed, oop P ops Q i (oany P md ops Q fuel (listed.setIfInBounds i true)) a w
section
variable {P : Program} {ops : Array Oper} {Q : Exit → Act → World → Prop} {a : Act} {w : World} {rest : List Oper} {o : Oper}
theorem owp_mono {K K' : Act → World → Prop} (h : ∀ a w, K a w → K' a w) (hh : owp P o a w K Q) : owp P o a w K' Q := by
  unfold owp at *
  generalize (execOp a.eval o).run P w = r at *
  cases r with
  | ok n w' =>
    cases n <;> simp only [Oper.uponIn] at hh ⊢ <;>
      first
        | exact h _ _ hh
        | exact ⟨hh.1, CallsIn.mono hh.2 (fun e w'' he => by cases e <;> first | exact h _ _ he | exact he)⟩
        | exact ⟨hh.1, RowsIn.mono hh.2 (fun _ _ he => h _ _ he)⟩
        | exact ⟨hh.1, RoundIn.mono hh.2 (fun e w'' he => by cases e <;> first | exact h _ _ he | exact he)⟩
  | halt x w' => cases x <;> simp only [Oper.uponIn] at hh ⊢ <;> exact hh
theorem olist_nil (h : Q .normal a w) : olist P ops Q [] a w := h
theorem olist_step (h : ∀ K : Act → World → Prop, (∀ a w, olist P ops Q rest a w → K a w) → if Region.wanted o (yielded ops a.tmps) then owp P o a w K Q else K (a.put o.dst undef) w) : olist P ops Q (o :: rest) a w := h _ (fun _ _ h => h)
theorem olist_plain (hg : o.guard = none) (h : ∀ K : Act → World → Prop, (∀ a w, olist P ops Q rest a w → K a w) → owp P o a w K Q) : olist P ops Q (o :: rest) a w :=
  olist_step fun K hK => by rw [if_pos (by simp [Region.wanted, hg])]; exact h K hK
theorem oany_done {md : Region.Mode} {listed : Array Bool} (hr : Region.ready md ops listed = []) (h : Q .normal a w) : ∀ fuel, oany P md ops Q fuel listed a w
  | 0 => ⟨hr, h⟩
  | _ + 1 => ⟨fun _ => h, fun i hi => by rw [hr] at hi; cases hi⟩
/-- No operation of a list defers. -/
def noDefer (l : List Oper) : Bool := l.all fun o => match o.op with | .defer _ => false | _ => true
theorem noDefer_get {l : List Oper} (h : noDefer l = true) {o : Oper} (ho : o ∈ l) : ∀ c, o.op ≠ .defer c := fun c e => by
  have := List.all_eq_true.1 h o ho
  rw [e] at this
  cases this
theorem owp_in {ro : Option Nat} (hd : ∀ c, o.op ≠ .defer c) {N : Act → World → Prop} (h : owp P o a w N Q) : o.wpIn (Fn ro) 0 P a w N Q := by
  refine ⟨fun _ _ => trivial, ?_⟩
  rw [Oper.semAt_eq _ _ _ hd]
  unfold owp at h
  generalize (execOp a.eval o).run P w = r at *
  cases r with
  | ok n w' => cases n <;> exact h
  | halt x w' => cases x <;> exact h
theorem olist_in {ro : Option Nat} : ∀ {l : List Oper}, noDefer l = true → ∀ {a : Act} {w : World}, olist P ops Q l a w → wpListIn (Fn ro) 0 P ops Q l a w
  | [], _, _, _, h => h
  | o :: l, hd, a, w, h => by
    have h1 := noDefer_get hd (o := o) (by simp)
    have h2 : noDefer l = true := by unfold noDefer at *; simp only [List.all_cons, Bool.and_eq_true] at hd; exact hd.2
    unfold olist at h
    unfold wpListIn
    split
    · rename_i hw
      rw [if_pos hw] at h
      exact Oper.wpIn_mono (fun a w h => olist_in h2 h) (owp_in h1 h)
    · rename_i hw
      rw [if_neg hw] at h
      exact ⟨fun _ _ => trivial, olist_in h2 h⟩
theorem oop_in {ro : Option Nat} (hd : noDefer ops.toList = true) {i : Nat} {K K' : Act → World → Prop} (hK : ∀ a w, K a w → K' a w) (h : oop P ops Q i K a w) : wpOpIn (Fn ro) 0 P ops Q i K' a w := by
  unfold oop at h
  unfold wpOpIn
  split
  · rename_i ho
    rw [ho] at h
    exact hK _ _ h
  · rename_i o ho
    rw [ho] at h
    simp only at h
    have h1 := noDefer_get hd (o := o) (by simpa using Array.mem_of_getElem? ho)
    split
    · rename_i hw
      rw [if_pos hw] at h
      exact Oper.wpIn_mono hK (owp_in h1 h)
    · rename_i hw
      rw [if_neg hw] at h
      exact ⟨fun _ _ => trivial, hK _ _ h⟩
theorem oany_in {ro : Option Nat} {md : Region.Mode} (hd : noDefer ops.toList = true) : ∀ (fuel : Nat) {S : Array Bool} {a : Act} {w : World}, oany P md ops Q fuel S a w → wpAnyIn (Fn ro) 0 P md ops Q fuel S a w
  | 0, _, _, _, h => h
  | fuel + 1, _, _, _, h => ⟨h.1, fun i hi => oop_in hd (fun _ _ h => oany_in hd fuel h) (h.2 i hi)⟩
theorem upon_enter {f : FuncId} {args : Array Value} {N : Act → World → Prop} (h : Calls P f args w fun | .returned v, w'' => N (a.put o.dst v) w'' | .panicked chain, w'' => Q (.panic chain) a w'' | .outgrown, _ => LetsOut Q) : o.uponIn Fence.wide 0 P a N Q (.ok (.enter f args) w) := by
  rw [Oper.uponIn_enter]
  exact ⟨fun hh => (by cases hh), callsIn_wide.2 h⟩
theorem wpIn_loop_ghost {F : Fence} {n : Nat} {c : Code} (I : Nat → Act → World → Prop) (n₀ : Nat) (h₀ : I n₀ a w)
    (round : ∀ m a w, I m a w → c.wpIn F n P (Exit.then (fun a' w' => ∃ n', n' < m ∧ I n' a' w') Q) a w) : (Code.loop c).wpIn F n P Q a w := by
  refine wpIn_loop (fun a w => ∃ n, I n a w) (fun a w => leastOf (fun n => I n a w)) ⟨n₀, h₀⟩ ?_
  intro a w hI
  refine wpIn_mono (round _ a w (leastOf_spec hI).1) ?_
  intro e a' w' hq
  cases e with
  | normal =>
    obtain ⟨n', hlt, hI'⟩ := hq
    exact show (∃ n, I n a' w') ∧ leastOf (fun n => I n a' w') < leastOf (fun n => I n a w) from ⟨⟨n', hI'⟩, Nat.lt_of_le_of_lt ((leastOf_spec ⟨n', hI'⟩).2 n' hI') hlt⟩
  | exit id => exact hq
  | goto l => exact hq
  | ret => exact hq
  | panic c => exact hq
  | outgrown => exact hq
end
end Go.L
namespace Go.L
open Go.RowKit
/-- An activation: how many slots; what is deferred; whether it is a function's own (no round). -/
structure NN where
  k : Nat
  df : List Deferred
  top : Bool
structure LS where
  n : NN
  env : List (Nat × LV)
  heap : List Atom
def get : List (Nat × LV) → Nat → LV
  | [], _ => .any
  | (d, v) :: e, i => bif Nat.beq d i then v else get e i
theorem get_same (d : Nat) (v : LV) (e : List (Nat × LV)) : get ((d, v) :: e) d = v := by simp [get]
theorem get_other {d i : Nat} (h : d ≠ i) (v : LV) (e : List (Nat × LV)) : get ((d, v) :: e) i = get e i := by
  have : Nat.beq d i = false := Bool.eq_false_iff.2 (fun hh => h (Nat.eq_of_beq_eq_true hh))
  simp [get, this]
def ev (env : List (Nat × LV)) : Operand → LV
  | .tmp t => get env t
  | .const v => .raw v
  | .global g => .raw (.pointer (some ⟨g, 0, none⟩))
  | .func f => .raw (.func (.func f) #[] #[])
/-- The slots hold what is said. -/
def Env (ph : PH) (env : List (Nat × LV)) (a : Act) : Prop := ∀ d, Rep ph (a.tmps.getD d undef) (get env d)
structure Rels (w0 : Base) (ph : PH) (st : LS) (a : Act) (w : World) : Prop where
  inv : Inv w0 ph w st.heap
  defers : a.defers = st.n.df ∧ (st.n.top = true → w0.ro = none)
  size : a.tmps.size = st.n.k
  tmps : Env ph st.env a
theorem Env.mono {p q : PH} (hle : PH.le p q) {env : List (Nat × LV)} {a : Act} (h : Env p env a) : Env q env a := fun d => (h d).mono hle
theorem Env.eval {ph : PH} {env : List (Nat × LV)} {a : Act} (h : Env ph env a) (x : Operand) : Rep ph (a.eval x) (ev env x) := by
  cases x with
  | tmp t => exact h t
  | const v => exact .raw v
  | global g => exact .raw _
  | func f => exact .raw _
theorem Env.put {ph : PH} {env : List (Nat × LV)} {a : Act} (h : Env ph env a) {d : Nat} (hd : d < a.tmps.size) {u : Value} {v : LV} (hr : Rep ph u v) : Env ph ((d, v) :: env) (a.put (some d) u) := fun i => by
  by_cases hi : d = i
  · subst hi
    rw [get_same]
    simpa [Act.put, hd] using hr
  · rw [get_other hi]
    have := h i
    simpa [Act.put, Array.getElem?_setIfInBounds_ne hi, Array.getD_eq_getD_getElem?] using this
theorem put_size (a : Act) (d : Option Tmp) (u : Value) : (a.put d u).tmps.size = a.tmps.size := by cases d <;> simp [Act.put]
theorem put_defers (a : Act) (d : Option Tmp) (u : Value) : (a.put d u).defers = a.defers := by cases d <;> simp [Act.put]
theorem Rels.put {w0 : Base} {ph ph' : PH} {st : LS} {a : Act} {w w' : World} {H : List Atom} (h : Rels w0 ph st a w) (hle : PH.le ph ph') (hi : Inv w0 ph' w' H) {d : Nat} (hd : Nat.blt d st.n.k = true) {u : Value} {v : LV} (hr : Rep ph' u v) :
    Rels w0 ph' ⟨st.n, (d, v) :: st.env, H⟩ (a.put (some d) u) w' :=
  ⟨hi, ⟨(put_defers a _ u).trans h.defers.1, h.defers.2⟩, (put_size a _ u).trans h.size, (h.tmps.mono hle).put (by rw [h.size]; simpa [Nat.blt_eq] using hd) hr⟩
theorem Rels.put0 {w0 : Base} {ph ph' : PH} {st : LS} {a : Act} {w w' : World} {H : List Atom} (h : Rels w0 ph st a w) (hle : PH.le ph ph') (hi : Inv w0 ph' w' H) (u : Value) :
    Rels w0 ph' ⟨st.n, st.env, H⟩ (a.put none u) w' := ⟨hi, h.defers, h.size, h.tmps.mono hle⟩
/-- A piece of code goes from st to what Q says. -/
def LW (P : Program) (c : Code) (st : LS) (Q : Exit → LS → Prop) : Prop :=
  ∀ w0 ph a w, Rels w0 ph st a w → ∀ Q' : Exit → Act → World → Prop, (∀ e ph' st' a' w', PH.le ph ph' → Rels w0 ph' st' a' w' → Q e st' → Q' e a' w') → c.wpIn (Fn w0.ro) 0 P Q' a w
inductive It where
  | code (c : Code)
  | blk (id : Nat)
  | rnd (nxt : LS → Prop)
/-- What is still to come. -/
def after (P : Program) : List It → (Exit → LS → Prop) → Exit → LS → Prop
  | [], Q, e, st => Q e st
  | .code c :: t, Q, .normal, st => LW P c st (after P t Q)
  | .code _ :: t, Q, .exit i, st => after P t Q (.exit i) st
  | .code _ :: t, Q, .ret, st => after P t Q .ret st
  | .code _ :: t, Q, .goto i, st => after P t Q (.goto i) st
  | .code _ :: t, Q, .panic c, st => after P t Q (.panic c) st
  | .code _ :: t, Q, .outgrown, st => after P t Q .outgrown st
  | .blk id :: t, Q, .exit i, st => bif Nat.beq i id then after P t Q .normal st else after P t Q (.exit i) st
  | .blk _ :: t, Q, .normal, st => after P t Q .normal st
  | .blk _ :: t, Q, .ret, st => after P t Q .ret st
  | .blk _ :: t, Q, .goto i, st => after P t Q (.goto i) st
  | .blk _ :: t, Q, .panic c, st => after P t Q (.panic c) st
  | .blk _ :: t, Q, .outgrown, st => after P t Q .outgrown st
  | .rnd nxt :: _, _, .normal, st => nxt st
  | .rnd _ :: t, Q, .exit i, st => after P t Q (.exit i) st
  | .rnd _ :: t, Q, .ret, st => after P t Q .ret st
  | .rnd _ :: t, Q, .goto i, st => after P t Q (.goto i) st
  | .rnd _ :: t, Q, .panic c, st => after P t Q (.panic c) st
  | .rnd _ :: t, Q, .outgrown, st => after P t Q .outgrown st
section
variable {P : Program} {st : LS} {Q : Exit → LS → Prop} {t : List It} {x y c : Code}
theorem LW.mono {Q' : Exit → LS → Prop} (h : LW P c st Q) (hq : ∀ e st', Q e st' → Q' e st') : LW P c st Q' := fun w0 ph a w r Q1 k => h w0 ph a w r Q1 (fun e ph' st' a' w' hle r' q => k e ph' st' a' w' hle r' (hq _ _ q))
theorem LW.seq (h : LW P x st (after P (.code y :: t) Q)) : LW P (.seq x y) st (after P t Q) := fun w0 ph a w r Q' k => by
  refine wpIn_seq (h w0 ph a w r _ fun e ph' st' a' w' hle r' q => ?_)
  cases e with
  | normal => exact q w0 ph' a' w' r' Q' (fun e2 ph2 st2 a2 w2 hle2 r2 q2 => k e2 ph2 st2 a2 w2 (hle.trans hle2) r2 q2)
  | exit i => exact k _ ph' st' a' w' hle r' q
  | goto i => exact k _ ph' st' a' w' hle r' q
  | ret => exact k _ ph' st' a' w' hle r' q
  | panic i => exact k _ ph' st' a' w' hle r' q
  | outgrown => exact k _ ph' st' a' w' hle r' q
theorem LW.block {id : Nat} (h : LW P c st (after P (.blk id :: t) Q)) : LW P (.block id c) st (after P t Q) := fun w0 ph a w r Q' k => by
  refine wpIn_block (h w0 ph a w r _ fun e ph' st' a' w' hle r' q => ?_)
  cases e with
  | normal => exact k _ ph' st' a' w' hle r' q
  | exit i =>
    simp only [Exit.inBlock]
    by_cases hi : i = id
    · rw [if_pos hi]
      subst hi
      simp only [after, Nat.beq_eq_true_eq, Nat.beq_refl, cond_true] at q
      exact k _ ph' st' a' w' hle r' q
    · rw [if_neg hi]
      have : Nat.beq i id = false := Bool.eq_false_iff.2 (fun hh => hi (Nat.eq_of_beq_eq_true hh))
      simp only [after, this, cond_false] at q
      exact k _ ph' st' a' w' hle r' q
  | goto i => exact k _ ph' st' a' w' hle r' q
  | ret => exact k _ ph' st' a' w' hle r' q
  | panic i => exact k _ ph' st' a' w' hle r' q
  | outgrown => exact k _ ph' st' a' w' hle r' q
theorem LW.exit {id : Nat} (h : Q (.exit id) st) : LW P (.exit id) st Q := fun w0 ph a w r Q' k => wpIn_exit (k _ ph st a w (PH.le.refl _) r h)
theorem LW.ret (h : Q .ret st) : LW P .ret st Q := fun w0 ph a w r Q' k => wpIn_ret (k _ ph st a w (PH.le.refl _) r h)
theorem LW.skip (h : Q .normal st) : LW P .skip st Q := fun w0 ph a w r Q' k => wpIn_skip (k _ ph st a w (PH.le.refl _) r h)
theorem LW.cond {o : Operand} {b : Bool} (hc : ev st.env o = .raw (.bool b)) (ht : b = true → LW P x st Q) (hf : b = false → LW P y st Q) : LW P (.cond o x y) st Q := fun w0 ph a w r Q' k => by
  have hr := r.tmps.eval o
  rw [hc] at hr
  exact wpIn_cond_split hr.rawE (fun h => ht h w0 ph a w r Q' k) (fun h => hf h w0 ph a w r Q' k)
/-- The one state says no less than the other. -/
def EnvLe : List (Nat × LV) → List (Nat × LV) → Prop
  | [], _ => True
  | (d, v) :: r, e => get e d = v ∧ EnvLe r e
theorem EnvLe.get {e : List (Nat × LV)} : ∀ {r : List (Nat × LV)}, EnvLe r e → ∀ d, get r d = .any ∨ get r d = L.get e d
  | [], _, d => .inl rfl
  | (i, v) :: r, h, d => by
    by_cases hi : i = d
    · subst hi
      rw [get_same]
      exact .inr h.1.symm
    · rw [get_other hi]
      exact h.2.get d
theorem EnvLe.env {e r : List (Nat × LV)} (h : EnvLe r e) {ph : PH} {a : Act} (k : Env ph e a) : Env ph r a := fun d => by
  rcases h.get d with h | h
  · rw [h]; exact .any _
  · rw [h]; exact k d
structure Le (st s2 : LS) : Prop where
  n : st.n = s2.n
  env : EnvLe s2.env st.env
  heap : HSub st.heap s2.heap
theorem Le.rels {s2 : LS} (h : Le st s2) {w0 : Base} {ph : PH} {a : Act} {w : World} (r : Rels w0 ph st a w) : Rels w0 ph s2 a w := ⟨h.heap.app r.inv, h.n ▸ r.defers, h.n ▸ r.size, h.env.env r.tmps⟩
theorem LW.weaken {s2 : LS} (h : Le st s2) (k : LW P c s2 Q) : LW P c st Q := fun w0 ph a w r Q' q => k w0 ph a w (h.rels r) Q' q
/-- The ways meet again: what is said of all of them. -/
theorem LW.meet {α : Type} (F : α → LS) (φ : α → Prop) (h : LW P x st (fun e s => match e with | .normal => ∃ p, φ p ∧ Le s (F p) | e => after P t Q e s)) (k : ∀ p, φ p → LW P y (F p) (after P t Q)) : LW P (.seq x y) st (after P t Q) :=
  LW.seq (h.mono fun e s q => by
    cases e with
    | normal => obtain ⟨p, hp, hle⟩ := q; exact (k p hp).weaken hle
    | exit i => exact q
    | goto i => exact q
    | ret => exact q
    | panic i => exact q
    | outgrown => exact q)
/-- A loop: what is said of each round's beginning, by parameters; a number falls. -/
theorem LW.loop {α : Type} (F : α → LS) (φ : α → Prop) (μ : α → Nat) (p0 : α) (h0 : φ p0) (hle : Le st (F p0))
    (round : ∀ p, φ p → LW P c (F p) (fun e s => match e with | .normal => ∃ q, φ q ∧ Le s (F q) ∧ μ q < μ p | e => Q e s)) : LW P (.loop c) st Q := fun w0 ph a w r Q' k => by
  refine wpIn_loop_ghost (fun n a w => ∃ p ph', φ p ∧ μ p = n ∧ PH.le ph ph' ∧ Rels w0 ph' (F p) a w) (μ p0) ⟨p0, ph, h0, rfl, PH.le.refl _, hle.rels r⟩ ?_
  rintro n a1 w1 ⟨p, ph1, hp, rfl, hle1, r1⟩
  refine round p hp w0 ph1 a1 w1 r1 _ fun e ph2 s2 a2 w2 hle2 r2 q => ?_
  cases e with
  | normal =>
    obtain ⟨p', hp', hl, hm⟩ := q
    exact ⟨μ p', hm, p', ph2, hp', rfl, hle1.trans hle2, hl.rels r2⟩
  | exit i => exact k _ ph2 s2 a2 w2 (hle1.trans hle2) r2 q
  | goto i => exact k _ ph2 s2 a2 w2 (hle1.trans hle2) r2 q
  | ret => exact k _ ph2 s2 a2 w2 (hle1.trans hle2) r2 q
  | panic i => exact k _ ph2 s2 a2 w2 (hle1.trans hle2) r2 q
  | outgrown => exact k _ ph2 s2 a2 w2 (hle1.trans hle2) r2 q
/-- Slots that stay. -/
def keep (live : List Nat) (e : List (Nat × LV)) : List (Nat × LV) := live.map fun d => (d, get e d)
def Keeps : List Nat → List (Nat × LV) → List (Nat × LV) → Prop
  | [], _, _ => True
  | d :: l, e0, e => L.get e d = L.get e0 d ∧ Keeps l e0 e
theorem Keeps.nil {e0 e : List (Nat × LV)} : Keeps [] e0 e := trivial
theorem Keeps.cons {d : Nat} {l : List Nat} {e0 e : List (Nat × LV)} (h : L.get e d = L.get e0 d) (k : Keeps l e0 e) : Keeps (d :: l) e0 e := ⟨h, k⟩
theorem EnvLe.nil {e : List (Nat × LV)} : EnvLe [] e := trivial
theorem EnvLe.cons {d : Nat} {v : LV} {r e : List (Nat × LV)} (h : L.get e d = v) (k : EnvLe r e) : EnvLe ((d, v) :: r) e := ⟨h, k⟩
theorem EnvLe.app {e : List (Nat × LV)} : ∀ {r s : List (Nat × LV)}, EnvLe r e → EnvLe s e → EnvLe (r ++ s) e
  | [], _, _, k => k
  | (d, v) :: r, s, h, k => ⟨h.1, EnvLe.app h.2 k⟩
theorem Keeps.le {e0 e : List (Nat × LV)} : ∀ {l : List Nat}, Keeps l e0 e → EnvLe (keep l e0) e
  | [], _ => trivial
  | d :: l, h => ⟨h.1, Keeps.le (l := l) h.2⟩
theorem Keeps.refl (e : List (Nat × LV)) : ∀ (l : List Nat), Keeps l e e
  | [] => trivial
  | d :: l => ⟨rfl, Keeps.refl e l⟩
/-- What a round hands on. -/
structure Next {α : Type} (n : NN) (mod : α → List (Nat × LV)) (live : List Nat) (e0 : List (Nat × LV)) (hp : α → List Atom) (φ : α → Prop) (μ : α → Nat) (p : α) (s : LS) : Prop where
  ex : ∃ q, φ q ∧ EnvLe (mod q) s.env ∧ Keeps live e0 s.env ∧ s.n = n ∧ HSub s.heap (hp q) ∧ μ q < μ p
theorem Next.mk' {α : Type} {n : NN} {mod : α → List (Nat × LV)} {live : List Nat} {e0 : List (Nat × LV)} {hp : α → List Atom} {φ : α → Prop} {μ : α → Nat} {p : α} {s : LS} (q : α) (hn : s.n = n) (hm : EnvLe (mod q) s.env) (hk : Keeps live e0 s.env) (hh : HSub s.heap (hp q)) (h1 : φ q) (h2 : μ q < μ p) : Next n mod live e0 hp φ μ p s := ⟨q, h1, hm, hk, hn, hh, h2⟩
/-- A loop: by slots that turn (told by parameters), slots that stay, what is owned. -/
theorem LW.loopK {α : Type} (mod : α → List (Nat × LV)) (live : List Nat) (hp : α → List Atom) (φ : α → Prop) (μ : α → Nat) (p0 : α) (hm : EnvLe (mod p0) st.env) (hh : HSub st.heap (hp p0)) (h0 : φ p0)
    (round : ∀ p, φ p → LW P c ⟨st.n, mod p ++ keep live st.env, hp p⟩ (after P (.rnd (Next st.n mod live st.env hp φ μ p) :: t) Q)) : LW P (.loop c) st (after P t Q) := by
  refine LW.loop (fun p => ⟨st.n, mod p ++ keep live st.env, hp p⟩) φ μ p0 h0 ⟨rfl, hm.app (Keeps.refl _ _).le, hh⟩ fun p hp' => (round p hp').mono fun e s q => ?_
  cases e with
  | normal =>
    obtain ⟨q, h1, h2, h3, h4, h5, h6⟩ := q.ex
    exact ⟨q, h1, ⟨h4, h2.app h3.le, h5⟩, h6⟩
  | exit i => exact q
  | goto i => exact q
  | ret => exact q
  | panic i => exact q
  | outgrown => exact q
/-- What a way hands on where ways meet again. -/
structure Meets {α : Type} (n : NN) (mod : α → List (Nat × LV)) (live : List Nat) (e0 : List (Nat × LV)) (hp : α → List Atom) (φ : α → Prop) (s : LS) : Prop where
  ex : ∃ q, φ q ∧ EnvLe (mod q) s.env ∧ Keeps live e0 s.env ∧ s.n = n ∧ HSub s.heap (hp q)
theorem Meets.mk' {α : Type} {n : NN} {mod : α → List (Nat × LV)} {live : List Nat} {e0 : List (Nat × LV)} {hp : α → List Atom} {φ : α → Prop} {s : LS} (q : α) (hn : s.n = n) (hm : EnvLe (mod q) s.env) (hk : Keeps live e0 s.env) (hh : HSub s.heap (hp q)) (h1 : φ q) : Meets n mod live e0 hp φ s := ⟨q, h1, hm, hk, hn, hh⟩
/-- Ways that meet again, told in the same manner. -/
theorem LW.meetK {α : Type} (mod : α → List (Nat × LV)) (live : List Nat) (hp : α → List Atom) (φ : α → Prop) (h : LW P x st (after P (.rnd (Meets st.n mod live st.env hp φ) :: t) Q)) (k : ∀ p, φ p → LW P y ⟨st.n, mod p ++ keep live st.env, hp p⟩ (after P t Q)) : LW P (.seq x y) st (after P t Q) := by
  refine LW.meet (fun p => ⟨st.n, mod p ++ keep live st.env, hp p⟩) φ (h.mono fun e s q => ?_) k
  cases e with
  | normal =>
    obtain ⟨q, h1, h2, h3, h4, h5⟩ := q.ex
    exact ⟨q, h1, ⟨h4, h2.app h3.le, h5⟩⟩
  | exit i => exact q
  | goto i => exact q
  | ret => exact q
  | panic i => exact q
  | outgrown => exact q
theorem after_code (h : LW P c st (after P t Q)) : after P (.code c :: t) Q .normal st := h
theorem after_blk {id : Nat} (h : after P t Q .normal st) : after P (.blk id :: t) Q .normal st := h
theorem after_rnd {nxt : LS → Prop} (h : nxt st) : after P (.rnd nxt :: t) Q .normal st := h
theorem after_end {e : Exit} (h : Q e st) : after P [] Q e st := h
theorem exit_code {i : Nat} (h : after P t Q (.exit i) st) : after P (.code c :: t) Q (.exit i) st := h
theorem exit_rnd {nxt : LS → Prop} {i : Nat} (h : after P t Q (.exit i) st) : after P (.rnd nxt :: t) Q (.exit i) st := h
theorem exit_blk {i : Nat} (h : after P t Q .normal st) : after P (.blk i :: t) Q (.exit i) st := by simpa [after] using h
theorem exit_blk' {i j : Nat} (hij : Nat.beq i j = false) (h : after P t Q (.exit i) st) : after P (.blk j :: t) Q (.exit i) st := by simpa only [after, hij, cond_false] using h
theorem ret_code (h : after P t Q .ret st) : after P (.code c :: t) Q .ret st := h
theorem ret_rnd {nxt : LS → Prop} (h : after P t Q .ret st) : after P (.rnd nxt :: t) Q .ret st := h
theorem ret_blk {i : Nat} (h : after P t Q .ret st) : after P (.blk i :: t) Q .ret st := h
end
/-- A call: what it gives and what is owned then. -/
def LCalls (P : Program) (f : FuncId) (args : List LV) (H : List Atom) (post : LV → List Atom → Prop) : Prop :=
  ∀ (R : List Atom) w0 ph w (vs : Array Value), Inv w0 ph w (H ++ R) → Reps ph vs args →
    Calls P f vs w fun e w' => ∃ v ph' r H', e = .returned v ∧ PH.le ph ph' ∧ Inv w0 ph' w' (H' ++ R) ∧ Rep ph' v r ∧ post r H'
theorem LCalls.mono {P : Program} {f : FuncId} {args : List LV} {H : List Atom} {post post' : LV → List Atom → Prop} (h : LCalls P f args H post) (hp : ∀ r H', post r H' → post' r H') : LCalls P f args H post' :=
  fun R w0 ph w vs i r => (h R w0 ph w vs i r).mono fun e w' ⟨v, ph', x, H', h1, h2, h3, h4, h5⟩ => ⟨v, ph', x, H', h1, h2, h3, h4, hp _ _ h5⟩
def envOf : Nat → List LV → List (Nat × LV)
  | _, [] => []
  | k, v :: l => (k, v) :: envOf (k + 1) l
theorem get_envOf : ∀ (l : List LV) (k d : Nat), get (envOf k l) d = if k ≤ d then (l[d - k]?).getD .any else .any
  | [], k, d => by simp [envOf, get]
  | v :: l, k, d => by
    by_cases hk : k = d
    · subst hk
      simp [envOf, get_same]
    · rw [envOf, get_other hk, get_envOf l (k + 1) d]
      by_cases hle : k ≤ d
      · rw [if_pos (by omega), if_pos hle]
        obtain ⟨m, rfl⟩ : ∃ m, d = k + 1 + m := ⟨d - (k + 1), by omega⟩
        rw [show k + 1 + m - (k + 1) = m by omega, show k + 1 + m - k = m + 1 by omega, List.getElem?_cons_succ]
      · rw [if_neg (by omega), if_neg hle]
/-- What the named results are at a state. -/
def Res (P : Program) (rs : Array ResultVar) (st : LS) (r : LV) : Prop := ∀ w0 ph a w fn, fn.results = rs → Rels w0 ph st a w → ∃ v, (results fn a.tmps).run P w = .ok v w ∧ Rep ph v r
/-- What is said of a value is said of it by the other one too. -/
def Is (x y : LV) : Prop := ∀ ph u, Rep ph u x → Rep ph u y
theorem Is.rfl' {x : LV} : Is x x := fun _ _ h => h
theorem Res.none {P : Program} {st : LS} : Res P #[] st (.tup []) := fun w0 ph a w fn h r => ⟨.tuple #[], results_none h _ _ _, .tup _ _ rfl (by simp)⟩
theorem Res.one {P : Program} {st : LS} {t : Tmp} {r : LV} (hr : Is (get st.env t) r) : Res P #[.tmp t] st r := fun w0 ph a w fn h rl => ⟨_, results_tmp h _ _ _, hr _ _ (rl.tmps t)⟩
theorem Inv.ro {w0 : Base} {ph : PH} {w : World} {H : List Atom} (h : Inv w0 ph w H) (ro : Option Nat) : Inv ⟨w0.w, ro⟩ ph w H := ⟨h.below, h.cell, h.one, h.own⟩
theorem Inv.ro' {w0 : Base} {ro : Option Nat} {ph : PH} {w : World} {H : List Atom} (h : Inv ⟨w0.w, ro⟩ ph w H) : Inv w0 ph w H := ⟨h.below, h.cell, h.one, h.own⟩
theorem leaves_mono {F : Fence} {n : Nat} {P : Program} {fn : Func} {tmps : Array Value} {R R' : Ending → World → Prop} (h : ∀ e w, R e w → R' e w) : ∀ {ds : List Deferred} {u : FrameMode} {w : World}, LeavesInM F n P fn tmps R ds u w → LeavesInM F n P fn tmps R' ds u w
  | [], .returning, w, ⟨v, h1, h2⟩ => ⟨v, h1, h _ _ h2⟩
  | [], .panicking c, w, h1 => h _ _ h1
  | [], .run, w, h1 => h1
  | d :: ds, u, w, ⟨h1, h2⟩ => by
    refine ⟨h1, ?_⟩
    rcases h2 with ⟨r, w', h3, h4, h5⟩ | ⟨hn, fv, cap, f, args, h3, h4, h5, h6⟩
    · exact .inl ⟨r, w', h3, h4, leaves_mono h h5⟩
    · refine .inr ⟨hn, fv, cap, f, args, h3, h4, h5, h6.mono fun e u' w' q => ?_⟩
      cases e with
      | returned v => exact leaves_mono h q
      | panicked c => exact leaves_mono h q
      | outgrown => exact h _ _ q
/-- A function that leaves: what is deferred is carried out, then the results are told. -/
def Leaves (P : Program) (rs : Array ResultVar) (R : List Atom) (post : LV → List Atom → Prop) (s : LS) : Prop :=
  ∀ (w0 : Base) ph a w fn, fn.results = rs → Rels w0 ph s a w → LeavesInM Fence.wide 0 P fn a.tmps (fun e w' => ∃ v ph' r H', e = .returned v ∧ PH.le ph ph' ∧ Inv w0 ph' w' (H' ++ R) ∧ Rep ph' v r ∧ post r H') a.defers .returning w
/-- How a function's body ends. -/
def Ends (P : Program) (rs : Array ResultVar) (R : List Atom) (post : LV → List Atom → Prop) (e : Exit) (s : LS) : Prop := (e = .normal ∨ e = .ret) ∧ Leaves P rs R post s
theorem Leaves.plain {P : Program} {rs : Array ResultVar} {R H' : List Atom} {post : LV → List Atom → Prop} {s : LS} {r : LV} (hd : s.n.df = []) (hr : Res P rs s r) (hh : HSub s.heap (H' ++ R)) (hp : post r H') : Leaves P rs R post s := fun w0 ph a w fn hfn rl => by
  rw [rl.defers.1, hd]
  obtain ⟨v, hrun, hrep⟩ := hr w0 ph a w fn hfn rl
  exact ⟨v, hrun, v, ph, r, H', rfl, PH.le.refl _, hh.app rl.inv, hrep, hp⟩
theorem LCalls.of {P : Program} {f : FuncId} {fn : Func} {c : Code} {args : List LV} {H : List Atom} {post : LV → List Atom → Prop} {n : Nat} {rs : Array ResultVar} (hf : P.funcs[f]? = some fn) (hb : fn.body = some c) (hn : fn.ntmps = n) (hrs : fn.results = rs) (hl : Nat.ble args.length n = true)
    (h : ∀ R, LW P c ⟨⟨n, [], true⟩, envOf 0 args, H ++ R⟩ (after P [] (Ends P rs R post))) : LCalls P f args H post := fun R w0 ph w vs hi hr => by
  have hl' : vs.size ≤ n := by rw [hr.1]; simpa using hl
  refine callsIn_wide.1 (callsIn_of_wp_marks (n := 0) hf hb trivial (h R ⟨w0.w, none⟩ ph _ w ⟨hi.ro none, ⟨rfl, fun _ => rfl⟩, by simp [hn]; omega, fun d => ?_⟩ _ fun e ph' st' a' w' hle r' q => ?_))
  · rw [get_envOf, if_pos (Nat.zero_le _), Nat.sub_zero]
    by_cases hd : d < vs.size
    · have hd' : d < args.length := hr.1 ▸ hd
      have h1 : ((vs ++ Array.replicate (fn.ntmps - vs.size) undef).getD d undef) = vs[d] := by
        simp [Array.getElem?_append, hd]
      rw [h1, List.getElem?_eq_getElem hd', Option.getD_some]
      exact hr.2 d _ _ (Array.getElem?_eq_getElem hd) (List.getElem?_eq_getElem hd')
    · have : args[d]? = none := by rw [List.getElem?_eq_none_iff, ← hr.1]; omega
      rw [this]
      exact .any _
  · obtain ⟨he, hlv⟩ := q
    have := leaves_mono (fun (e : Ending) w' ⟨v, ph2, r, H', h1, h2, h3, h4, h5⟩ => (⟨v, ph2, r, H', h1, hle.trans h2, h3.ro', h4, h5⟩ : ∃ v ph2 r H', e = Ending.returned v ∧ PH.le ph ph2 ∧ Inv w0 ph2 w' (H' ++ R) ∧ Rep ph2 v r ∧ post r H')) (hlv _ ph' a' w' fn hrs r')
    rcases he with rfl | rfl <;> exact this
/-- One operation (its guard aside). -/
def LO (P : Program) (o : Oper) (st : LS) (K : LS → Prop) : Prop :=
  ∀ w0 ph a w, Rels w0 ph st a w → ∀ N Q, (∀ ph' st' a' w', PH.le ph ph' → Rels w0 ph' st' a' w' → K st' → N a' w') → owp P o a w N Q
/-- The operations of a region, one after the other. -/
def LL (P : Program) (ops : Array Oper) (l : List Oper) (st : LS) (K : LS → Prop) : Prop :=
  ∀ w0 ph a w, Rels w0 ph st a w → ∀ Q : Exit → Act → World → Prop, (∀ ph' st' a' w', PH.le ph ph' → Rels w0 ph' st' a' w' → K st' → Q .normal a' w') → olist P ops Q l a w
section
variable {P : Program} {ops : Array Oper} {st : LS} {K : LS → Prop} {l : List Oper} {o : Oper}
theorem LW.region {id : Nat} {l : List Oper} {Q : Exit → LS → Prop} (h : LL P l.toArray l st (fun s => Q .normal s)) (hd : noDefer l = true := by kernel_rfl) : LW P (.region id l.toArray false) st Q := fun w0 ph a w r Q' k =>
  wpIn_region_lit (olist_in hd <| h w0 ph a w r Q' fun ph' st' a' w' hle r' q => k _ ph' st' a' w' hle r' q)
theorem LL.nil (h : K st) : LL P ops [] st K := fun w0 ph a w r Q k => olist_nil (k ph st a w (PH.le.refl _) r h)
theorem LL.op (hg : o.guard = none) (h : LO P o st (fun s => LL P ops l s K)) : LL P ops (o :: l) st K := fun w0 ph a w r Q k =>
  olist_plain hg fun N hN => h w0 ph a w r N Q fun ph' st' a' w' hle r' q => hN _ _ (q w0 ph' a' w' r' Q fun ph2 st2 a2 w2 hle2 r2 q2 => k ph2 st2 a2 w2 (hle.trans hle2) r2 q2)
theorem yields {ph : PH} {env : List (Nat × LV)} {a : Act} (h : Env ph env a) {j d : Nat} (hd : (ops[j]?).bind (·.dst) = some d) {b : Bool} (hb : get env d = .raw (.bool b)) : yielded ops a.tmps j = some b := by
  have := h d
  rw [hb] at this
  have hv := this.rawE
  unfold yielded
  rw [hd]
  simp only [Option.bind_some]
  have hs : a.tmps[d]? = some (.bool b) := by
    rw [Array.getD_eq_getD_getElem?] at hv
    cases hx : a.tmps[d]? with
    | none => rw [hx] at hv; simp [undef] at hv
    | some u => rw [hx] at hv; simpa using hv
  rw [hs]
/-- An operation under a guard, the way parted. -/
theorem LL.opG {j : Nat} {want : Bool} (hg : o.guard = some (j, want)) {d : Nat} (hd : (ops[j]?).bind (·.dst) = some d) {b : Bool} (hb : get st.env d = .raw (.bool b)) {dd : Nat} (hdd : o.dst = some dd) (hds : Nat.blt dd st.n.k = true)
    (ht : b = want → LO P o st (fun s => LL P ops l s K)) (hf : b = (!want) → LL P ops l ⟨st.n, (dd, .any) :: st.env, st.heap⟩ K) : LL P ops (o :: l) st K := fun w0 ph a w r Q k =>
  olist_step fun N hN => by
    have hy := yields r.tmps hd hb
    by_cases hw : b = want
    · rw [if_pos (by simp [Region.wanted, hg, hy, hw])]
      exact ht hw w0 ph a w r N Q fun ph' st' a' w' hle r' q => hN _ _ (q w0 ph' a' w' r' Q fun ph2 st2 a2 w2 hle2 r2 q2 => k ph2 st2 a2 w2 (hle.trans hle2) r2 q2)
    · rw [if_neg (by simp [Region.wanted, hg, hy, hw])]
      rw [hdd]
      refine hN _ _ (hf (by cases b <;> cases want <;> simp_all) w0 ph _ w (r.put (PH.le.refl _) r.inv hds (.any _)) Q k)
/-- A quiet operation: what is owned stays; the value is told; only what it looks at counts. -/
def LU (P : Program) (env : List (Nat × LV)) (H : List Atom) (o : Oper) (v : LV) : Prop :=
  ∀ w0 ph a w, Inv w0 ph w H → (∀ x ∈ o.op.operands, Rep ph (a.eval x) (ev env x)) → ∀ N Q, (∀ ph' u w', PH.le ph ph' → Inv w0 ph' w' H → Rep ph' u v → N (a.put o.dst u) w') → owp P o a w N Q
/-- The same with its guard. -/
def LQ (P : Program) (ops : Array Oper) (env : List (Nat × LV)) (H : List Atom) (o : Oper) (v : LV) : Prop :=
  ∀ w0 ph a w, Inv w0 ph w H → (∀ t ∈ o.looksAt ops, Rep ph (a.tmps.getD t undef) (get env t)) → ∀ N Q, (∀ ph' u w', PH.le ph ph' → Inv w0 ph' w' H → Rep ph' u v → N (a.put o.dst u) w') →
    if Region.wanted o (yielded ops a.tmps) then owp P o a w N Q else N (a.put o.dst undef) w
theorem looks_eval {ph : PH} {env : List (Nat × LV)} {a : Act} (h : ∀ t ∈ o.looksAt ops, Rep ph (a.tmps.getD t undef) (get env t)) : ∀ x ∈ o.op.operands, Rep ph (a.eval x) (ev env x) := fun x hx => by
  cases x with
  | tmp t => exact h t (List.mem_append_left _ (List.mem_filterMap.2 ⟨.tmp t, by simpa using hx, rfl⟩))
  | const v => exact .raw v
  | global g => exact .raw _
  | func f => exact .raw _
theorem LQ.plain {env : List (Nat × LV)} {H : List Atom} {v : LV} (hg : o.guard = none) (h : LU P env H o v) : LQ P ops env H o v := fun w0 ph a w hi hl N Q k => by
  rw [if_pos (by simp [Region.wanted, hg])]
  exact h w0 ph a w hi (looks_eval hl) N Q k
theorem yields' {ph : PH} {env : List (Nat × LV)} {a : Act} {d j : Nat} (hd : (ops[j]?).bind (·.dst) = some d) {b : Bool} (h : a.tmps.getD d undef = .bool b) : yielded ops a.tmps j = some b := by
  unfold yielded
  rw [hd]
  simp only [Option.bind_some]
  have hs : a.tmps[d]? = some (.bool b) := by
    rw [Array.getD_eq_getD_getElem?] at h
    cases hx : a.tmps[d]? with
    | none => rw [hx] at h; simp [undef] at h
    | some u => rw [hx] at h; simpa using h
  rw [hs]
/-- What the guard's slot says: nothing, or a truth. -/
def GuardIs (env : List (Nat × LV)) (d : Nat) (g b : Bool) : Prop := ∀ ph u, Rep ph u (get env d) → (g = true → u = .bool b) ∧ (g = false → u = undef)
theorem GuardIs.raw {env : List (Nat × LV)} {d : Nat} {b : Bool} (h : get env d = .raw (.bool b)) : GuardIs env d true b := fun ph u r => by
  rw [h] at r
  exact ⟨fun _ => r.rawE, by simp⟩
theorem yielded_undef {a : Act} {d j : Nat} (hd : (ops[j]?).bind (·.dst) = some d) (h : a.tmps.getD d undef = undef) : yielded ops a.tmps j = none := by
  unfold yielded
  rw [hd]
  simp only [Option.bind_some]
  rw [Array.getD_eq_getD_getElem?] at h
  cases hx : a.tmps[d]? with
  | none => rfl
  | some u =>
    rw [hx] at h
    have h : u = undef := h
    rw [h]
    rfl
theorem LQ.guard {env : List (Nat × LV)} {H : List Atom} {v : LV} {j : Nat} {want : Bool} (hg : o.guard = some (j, want)) {d : Nat} (hd : (ops[j]?).bind (·.dst) = some d) {g b : Bool} (hb : GuardIs env d g b) (h : g = true → b = want → LU P env H o v) (q : Bool) (hq : q = true ↔ g = true ∧ b = want) : LQ P ops env H o (.when q v) := fun w0 ph a w hi hl N Q k => by
  have hr := hb _ _ (hl d (List.mem_append_right _ (by simp [hg, hd])))
  by_cases hgb : g = true ∧ b = want
  · have hy := yields' (ops := ops) (ph := ph) (env := env) hd (hr.1 hgb.1)
    rw [if_pos (by simp [Region.wanted, hg, hy, hgb.2])]
    have hqt := hq.2 hgb
    exact h hgb.1 hgb.2 w0 ph a w hi (looks_eval hl) N Q fun ph' u w' hle hi' hr' => k ph' u w' hle hi' (.when _ _ _ (fun _ => hr') (fun h => by rw [hqt] at h; cases h))
  · have hw : Region.wanted o (yielded ops a.tmps) = false := by
      cases hgv : g with
      | true =>
        have hy := yields' (ops := ops) (ph := ph) (env := env) hd (hr.1 hgv)
        have : b ≠ want := fun e => hgb ⟨hgv, e⟩
        simp [Region.wanted, hg, hy, this]
      | false =>
        have hy := yielded_undef (ops := ops) hd (hr.2 hgv)
        simp [Region.wanted, hg, hy]
    rw [if_neg (by rw [hw]; simp)]
    exact k ph undef w (PH.le.refl _) hi (.when _ _ _ (fun h => (hgb (hq.1 h)).elim) (fun _ => rfl))
theorem LQ.guardT {env : List (Nat × LV)} {H : List Atom} {v : LV} {j : Nat} (hg : o.guard = some (j, true)) {d : Nat} (hd : (ops[j]?).bind (·.dst) = some d) {b : Bool} (hb : get env d = .raw (.bool b)) (h : b = true → LU P env H o v) : LQ P ops env H o (.when b v) := LQ.guard hg hd (GuardIs.raw hb) (fun _ => h) b (by simp)
theorem LQ.guardF {env : List (Nat × LV)} {H : List Atom} {v : LV} {j : Nat} (hg : o.guard = some (j, false)) {d : Nat} (hd : (ops[j]?).bind (·.dst) = some d) {b : Bool} (hb : get env d = .raw (.bool b)) (h : b = false → LU P env H o v) : LQ P ops env H o (.when (!b) v) := LQ.guard hg hd (GuardIs.raw hb) (fun _ => h) (!b) (by simp)
theorem LL.q {v : LV} {d : Nat} (hq : LQ P ops st.env st.heap o v) (hd : o.dst = some d) (hds : Nat.blt d st.n.k = true) (h : LL P ops l ⟨st.n, (d, v) :: st.env, st.heap⟩ K) : LL P ops (o :: l) st K := fun w0 ph a w r Q k =>
  olist_step fun N hN => by
    refine hq w0 ph a w r.inv (fun t _ => r.tmps t) N Q fun ph' u w' hle hi hr => hN _ _ ?_
    rw [hd]
    exact h w0 ph' _ w' (r.put hle hi hds hr) Q fun ph2 st2 a2 w2 hle2 r2 q2 => k ph2 st2 a2 w2 (hle.trans hle2) r2 q2
/-- A plain quiet operation. -/
theorem LL.u {v : LV} {d : Nat} {op : Op} {ty : TypeId} {pos : String} {af : Array Edge} (hq : LU P st.env st.heap ⟨some d, op, ty, pos, af, none⟩ v) (hds : Nat.blt d st.n.k = true) (h : LL P ops l ⟨st.n, (d, v) :: st.env, st.heap⟩ K) : LL P ops (⟨some d, op, ty, pos, af, none⟩ :: l) st K := LL.q (LQ.plain rfl hq) rfl hds h
/-- The same under a guard. -/
theorem LL.gT {ty : TypeId} {pos : String} {af : Array Edge} {v : LV} {d j dj : Nat} {op : Op} {b : Bool} (hd : (ops[j]?).bind (·.dst) = some dj) (hb : get st.env dj = .raw (.bool b)) (hq : b = true → LU P st.env st.heap ⟨some d, op, ty, pos, af, some (j, true)⟩ v) (hds : Nat.blt d st.n.k = true) (h : LL P ops l ⟨st.n, (d, .when b v) :: st.env, st.heap⟩ K) : LL P ops (⟨some d, op, ty, pos, af, some (j, true)⟩ :: l) st K := .q (.guardT rfl hd hb hq) rfl hds h
theorem LL.gF {ty : TypeId} {pos : String} {af : Array Edge} {v : LV} {d j dj : Nat} {op : Op} {b : Bool} (hd : (ops[j]?).bind (·.dst) = some dj) (hb : get st.env dj = .raw (.bool b)) (hq : b = false → LU P st.env st.heap ⟨some d, op, ty, pos, af, some (j, false)⟩ v) (hds : Nat.blt d st.n.k = true) (h : LL P ops l ⟨st.n, (d, .when (!b) v) :: st.env, st.heap⟩ K) : LL P ops (⟨some d, op, ty, pos, af, some (j, false)⟩ :: l) st K := .q (.guardF rfl hd hb hq) rfl hds h
theorem LL.act {op : Op} {d : Option Nat} {ty : TypeId} {pos : String} {af : Array Edge} (h : LO P ⟨d, op, ty, pos, af, none⟩ st (fun s => LL P ops l s K)) : LL P ops (⟨d, op, ty, pos, af, none⟩ :: l) st K := LL.op rfl h
end
end Go.L
namespace Go.L
open Go.RowKit
theorem Is.of {x y : LV} (h : x = y) : Is x y := h ▸ Is.rfl'
theorem Is.trans {x y z : LV} (h : Is x y) (k : Is y z) : Is x z := fun ph u r => k ph u (h ph u r)
theorem Is.whenE {b : Bool} {x : LV} (h : b = true) : Is (.when b x) x := fun ph u r => by cases r with | when _ _ _ k _ => exact k h
theorem Is.any {x : LV} : Is x .any := fun ph u _ => .any u
theorem Is.unk {size : Nat} {es : List (List LV)} {k : Cap} : Is (.sl size es k) (.sl size es .unk) := fun ph u r => by
  cases r with | sl _ _ _ A n c ad u hA hn hnc hs hcap hp hr => exact .sl size es .unk A n c ad u hA hn hnc hs trivial hp hr
theorem Is.nil (size : Nat) : Is (.raw (.slice none 0 0)) (.sl size [] .full) := fun ph u r => by
  cases r.rawE
  exact .sl size [] .full none 0 0 ⟨0, 0, none⟩ (fun _ => undef) (by simp) rfl (Nat.le_refl _) (by simp) rfl (by simp) (by simp)
theorem Is.full_tok {size : Nat} {es : List (List LV)} (b o : Nat) : Is (.sl size es .full) (.sl size es (.tok b o o)) := fun ph u r => by
  cases r with | sl _ _ _ A n c ad u hA hn hnc hs hcap hp hr => exact .sl size es (.tok b o o) A n c ad u hA hn hnc hs (.inl ⟨hcap, rfl⟩) hp hr
theorem Is.agg {xs ys : List LV} (hl : xs.length = ys.length) (h : ∀ (i : Nat) (x y : LV), xs[i]? = some x → ys[i]? = some y → Is x y) : Is (.agg xs) (.agg ys) := fun ph u r => by
  cases r with | agg cs _ hc ho hr =>
    refine .agg cs ys (hc.trans hl) ho fun i c y hi hy => ?_
    have hlt : i < xs.length := hl ▸ (List.getElem?_eq_some_iff.1 hy).1
    exact h i xs[i] y (List.getElem?_eq_getElem hlt) hy ph c (hr i c _ hi (List.getElem?_eq_getElem hlt))
/-- A composite by its cells. -/
def raws (vs : List Value) : List LV := vs.map .raw
theorem Is.agg_raw {vs : List Value} : Is (.agg (raws vs)) (.raw (.agg vs.toArray)) := fun ph u r => by
  cases r with | agg cs _ hc ho hr =>
    have : cs = vs.toArray := by
      apply Array.ext
      · simpa [raws] using hc
      · intro i h1 h2
        have h2' : i < vs.length := by simpa using h2
        have := hr i cs[i] (.raw vs[i]) (Array.getElem?_eq_getElem h1) (by simp [raws, List.getElem?_eq_getElem h2'])
        simpa using this.rawE
    rw [this]
    exact .raw _
theorem Is.raw_agg {vs : List Value} (h1 : ∀ v ∈ vs, v.oneCell' = true) : Is (.raw (.agg vs.toArray)) (.agg (raws vs)) := fun ph u r => by
  cases r.rawE
  refine .agg _ _ (by simp [raws]) (fun i c hc => h1 c (by simpa using List.mem_of_getElem? (by simpa using hc))) fun i c x h1 h2 => ?_
  simp [raws] at h1 h2
  obtain ⟨v, hv, rfl⟩ := h2
  rw [hv] at h1
  injection h1 with h1
  subst h1
  exact .raw _
section
variable {P : Program} {env : List (Nat × LV)} {H : List Atom} {d : Option Tmp} {ty : TypeId} {pos : String} {af : Array Edge} {g : Option (Nat × Bool)}
theorem LU.of_run {o : Oper} {v : LV} (h : ∀ ph (a : Act), (∀ x ∈ o.op.operands, Rep ph (a.eval x) (ev env x)) → ∀ w0 w, Inv w0 ph w H → ∃ u, (execOp a.eval o).run P w = .ok (.value u) w ∧ Rep ph u v) : LU P env H o v := fun w0 ph a w hi hl N Q k => by
  obtain ⟨u, hr, hv⟩ := h ph a hl w0 w hi
  unfold owp
  rw [hr]
  exact k ph u w (PH.le.refl _) hi hv
theorem LU.of_run' {o : Oper} {v : LV} (h : ∀ ph (a : Act), (∀ x ∈ o.op.operands, Rep ph (a.eval x) (ev env x)) → ∀ w0 w, Inv w0 ph w H → ∃ u w' ph', (execOp a.eval o).run P w = .ok (.value u) w' ∧ PH.le ph ph' ∧ Inv w0 ph' w' H ∧ Rep ph' u v) : LU P env H o v := fun w0 ph a w hi hl N Q k => by
  obtain ⟨u, w', ph', hr, hle, hi', hv⟩ := h ph a hl w0 w hi
  unfold owp
  rw [hr]
  exact k ph' u w' hle hi' hv
theorem LU.weak {o : Oper} {v v' : LV} (h : LU P env H o v) (hv : Is v v') : LU P env H o v' := fun w0 ph a w hi hl N Q k => h w0 ph a w hi hl N Q fun ph' u w' hle hi' hr => k ph' u w' hle hi' (hv _ _ hr)
/-- Operations whose operands are told outright. -/
theorem LU.raw {op : Op} {v : Value} (h : ∀ (a : Act), (∀ x ∈ op.operands, ∀ u, Is (ev env x) (.raw u) → a.eval x = u) → ∀ w, (execOp a.eval ⟨d, op, ty, pos, af, g⟩).run P w = .ok (.value v) w) : LU P env H ⟨d, op, ty, pos, af, g⟩ (.raw v) :=
  .of_run fun ph a hl w0 w hi => ⟨v, h a (fun x hx u hu => (hu _ _ (hl x hx)).rawE) w, .raw v⟩
theorem LU.move {x : Operand} {v : LV} (h : Is (ev env x) v) : LU P env H ⟨d, .move x, ty, pos, af, g⟩ v := .of_run fun ph a hl w0 w hi => ⟨_, rfl, h _ _ (hl x (by simp [Op.operands]))⟩
theorem LU.assign {x : Operand} {v : LV} (h : Is (ev env x) v) : LU P env H ⟨d, .assign x, ty, pos, af, g⟩ v := .of_run fun ph a hl w0 w hi => ⟨_, rfl, h _ _ (hl x (by simp [Op.operands]))⟩
theorem LU.pick {c x y : Operand} {b : Bool} {v : LV} (hc : Is (ev env c) (.raw (.bool b))) (hx : b = true → Is (ev env x) v) (hy : b = false → Is (ev env y) v) : LU P env H ⟨d, .pick c x y, ty, pos, af, g⟩ v := .of_run fun ph a hl w0 w hi => by
  have h1 := (hc _ _ (hl c (by simp [Op.operands]))).rawE
  cases b with
  | true => exact ⟨a.eval x, by simp [execOp, h1, asBool], hx rfl _ _ (hl x (by simp [Op.operands]))⟩
  | false => exact ⟨a.eval y, by simp [execOp, h1, asBool], hy rfl _ _ (hl y (by simp [Op.operands]))⟩
/-- a || b -/
theorem LU.pickOr {c x y : Operand} {b e : Bool} (hc : Is (ev env c) (.raw (.bool b))) (hx : Is (ev env x) (.raw (.bool true))) (hy : b = false → Is (ev env y) (.raw (.bool e))) : LU P env H ⟨d, .pick c x y, ty, pos, af, g⟩ (.raw (.bool (b || e))) :=
  LU.pick hc (fun h => by subst h; exact hx) (fun h => by subst h; exact hy rfl)
/-- a && b -/
theorem LU.pickAnd {c x y : Operand} {b e : Bool} (hc : Is (ev env c) (.raw (.bool b))) (hx : b = true → Is (ev env x) (.raw (.bool e))) (hy : Is (ev env y) (.raw (.bool false))) : LU P env H ⟨d, .pick c x y, ty, pos, af, g⟩ (.raw (.bool (b && e))) :=
  LU.pick hc (fun h => by subst h; exact hx rfl) (fun h => by subst h; exact hy)
theorem LU.bin {op : BinOp} {x y : Operand} {t t' : TypeId} {k k' : IntKind} {a b : Int} {r : Value} (hx : Is (ev env x) (.raw (.int k a))) (hy : Is (ev env y) (.raw (.int k' b)))
    (hr : ∀ w, (binOp op t (.int k a) (.int k' b)).run P w = .ok r w) : LU P env H ⟨d, .binOp op t x y t', ty, pos, af, g⟩ (.raw r) := .raw fun ac hl w => by
  have h1 := hl x (by simp [Op.operands]) _ hx
  have h2 := hl y (by simp [Op.operands]) _ hy
  have hg : (eqGuard op t x y (.int k a) (.int k' b)).run P w = .ok () w := by unfold eqGuard; cases op <;> simp
  simp only [execOp, h1, h2, Sem.run_bind, hg, Result.andThen_ok, hr, Sem.run_pure]
theorem LU.add {x y : Operand} {t t' : TypeId} {k : IntKind} {a b : Int} (hx : Is (ev env x) (.raw (.int k a))) (hy : Is (ev env y) (.raw (.int k b))) : LU P env H ⟨d, .binOp .add t x y t', ty, pos, af, g⟩ (.raw (.int k (k.wrap (a + b)))) := .bin hx hy fun w => by simp [binOp, Op.intArith]
theorem LU.sub {x y : Operand} {t t' : TypeId} {k : IntKind} {a b : Int} (hx : Is (ev env x) (.raw (.int k a))) (hy : Is (ev env y) (.raw (.int k b))) : LU P env H ⟨d, .binOp .sub t x y t', ty, pos, af, g⟩ (.raw (.int k (k.wrap (a - b)))) := .bin hx hy fun w => by simp [binOp, Op.intArith]
theorem LU.mul {x y : Operand} {t t' : TypeId} {k : IntKind} {a b : Int} (hx : Is (ev env x) (.raw (.int k a))) (hy : Is (ev env y) (.raw (.int k b))) : LU P env H ⟨d, .binOp .mul t x y t', ty, pos, af, g⟩ (.raw (.int k (k.wrap (a * b)))) := .bin hx hy fun w => by simp [binOp, Op.intArith]
theorem LU.quo {x y : Operand} {t t' : TypeId} {k : IntKind} {a b : Int} (hx : Is (ev env x) (.raw (.int k a))) (hy : Is (ev env y) (.raw (.int k b))) (hb : b ≠ 0) : LU P env H ⟨d, .binOp .quo t x y t', ty, pos, af, g⟩ (.raw (.int k (k.wrap (a.tdiv b)))) := .bin hx hy fun w => by simp [binOp, Op.intDiv, hb]
theorem LU.lss {x y : Operand} {t t' : TypeId} {k : IntKind} {a b : Int} (hx : Is (ev env x) (.raw (.int k a))) (hy : Is (ev env y) (.raw (.int k b))) : LU P env H ⟨d, .binOp .lss t x y t', ty, pos, af, g⟩ (.raw (.bool (decide (a < b)))) := .bin hx hy fun w => by simp [binOp, Op.intCmp]
theorem LU.gtr {x y : Operand} {t t' : TypeId} {k : IntKind} {a b : Int} (hx : Is (ev env x) (.raw (.int k a))) (hy : Is (ev env y) (.raw (.int k b))) : LU P env H ⟨d, .binOp .gtr t x y t', ty, pos, af, g⟩ (.raw (.bool (decide (b < a)))) := .bin hx hy fun w => by simp [binOp, Op.intCmp]
theorem LU.geq {x y : Operand} {t t' : TypeId} {k : IntKind} {a b : Int} (hx : Is (ev env x) (.raw (.int k a))) (hy : Is (ev env y) (.raw (.int k b))) : LU P env H ⟨d, .binOp .geq t x y t', ty, pos, af, g⟩ (.raw (.bool (decide (b ≤ a)))) := .bin hx hy fun w => by simp [binOp, Op.intCmp]
theorem beq_dec (a b : Int) : (a == b) = decide (a = b) := by rw [Bool.eq_iff_iff]; simp
theorem LU.eql {x y : Operand} {t t' : TypeId} {k : IntKind} {a b : Int} (hx : Is (ev env x) (.raw (.int k a))) (hy : Is (ev env y) (.raw (.int k b))) : LU P env H ⟨d, .binOp .eql t x y t', ty, pos, af, g⟩ (.raw (.bool (decide (a = b)))) := .bin hx hy fun w => by simp [binOp, Op.intCmp, beq_dec]
theorem LU.neq {x y : Operand} {t t' : TypeId} {k : IntKind} {a b : Int} (hx : Is (ev env x) (.raw (.int k a))) (hy : Is (ev env y) (.raw (.int k b))) : LU P env H ⟨d, .binOp .neq t x y t', ty, pos, af, g⟩ (.raw (.bool (!decide (a = b)))) := .bin hx hy fun w => by simp [binOp, Op.intCmp, bne, beq_dec]
/-- Bits. -/
def bitsOf (op : BinOp) (k : IntKind) (a b : Int) : Int :=
  let x := BitVec.ofInt k.bits a
  let y := BitVec.ofInt k.bits b
  k.wrap ((match op with | .and => x &&& y | .or => x ||| y | .xor => x ^^^ y | _ => x &&& ~~~y : BitVec k.bits).toNat : Int)
theorem LU.not {x : Operand} {t : TypeId} {b : Bool} (hx : Is (ev env x) (.raw (.bool b))) : LU P env H ⟨d, .unOp .not t x, ty, pos, af, g⟩ (.raw (.bool (!b))) := .raw fun ac hl w => by
  have h1 := hl x (by simp [Op.operands]) _ hx
  simp [execOp, h1, Op.unary]
theorem LU.strbin {op : BinOp} {x y : Operand} {t t' : TypeId} {a b : ByteArray} {r : Value} (hx : Is (ev env x) (.raw (.string a))) (hy : Is (ev env y) (.raw (.string b)))
    (hr : ∀ w, (Op.stringOp op a b).run P w = .ok r w) : LU P env H ⟨d, .binOp op t x y t', ty, pos, af, g⟩ (.raw r) := .raw fun ac hl w => by
  have h1 := hl x (by simp [Op.operands]) _ hx
  have h2 := hl y (by simp [Op.operands]) _ hy
  have hg : (eqGuard op t x y (.string a) (.string b)).run P w = .ok () w := by unfold eqGuard; cases op <;> simp
  have hb : binOp op t (.string a) (.string b) = Op.stringOp op a b := by cases op <;> rfl
  simp only [execOp, h1, h2, Sem.run_bind, hg, Result.andThen_ok, hb, hr, Sem.run_pure]
theorem LU.strne {x y : Operand} {t t' : TypeId} {a b : ByteArray} (hx : Is (ev env x) (.raw (.string a))) (hy : Is (ev env y) (.raw (.string b))) : LU P env H ⟨d, .binOp .neq t x y t', ty, pos, af, g⟩ (.raw (.bool (!(a.toList == b.toList)))) := .strbin hx hy fun w => by simp [Op.stringOp]
theorem LU.strlt {x y : Operand} {t t' : TypeId} {a b : ByteArray} (hx : Is (ev env x) (.raw (.string a))) (hy : Is (ev env y) (.raw (.string b))) : LU P env H ⟨d, .binOp .lss t x y t', ty, pos, af, g⟩ (.raw (.bool (Op.bytesLess a.toList b.toList))) := .strbin hx hy fun w => by simp [Op.stringOp]
def optInt (env : List (Nat × LV)) : Option Operand → Option Int → Prop
  | none, none => True
  | some x, some i => ∃ k, Is (ev env x) (.raw (.int k i))
  | _, _ => False
theorem LU.extract {x : Operand} {vs : List LV} {i : Nat} {v : LV} (hx : Is (ev env x) (.tup vs)) (hi : vs[i]? = some v) : LU P env H ⟨d, .extract x i, ty, pos, af, g⟩ v := .of_run fun ph a hl w0 w hinv => by
  have h1 := hx _ _ (hl x (by simp [Op.operands]))
  generalize hu : a.eval x = u at h1
  cases h1 with | tup cs _ hc hr =>
    have hlt : i < cs.size := by rw [hc]; exact (List.getElem?_eq_some_iff.1 hi).1
    refine ⟨cs[i], ?_, hr i _ _ (Array.getElem?_eq_getElem hlt) hi⟩
    simp [execOp, hu, Instr.extract, hlt]
/-- What a type's values are: how many cells; are they composites. -/
structure Ty (P : Program) (t : TypeId) (size : Nat) (agg : Bool) : Prop where
  size : ∀ w, (sizeOf t).run P w = .ok size w
  agg : ∀ w, (isAgg t).run P w = .ok agg w
/-- A part of a composite's cells. -/
def Part (size : Nat) (agg : Bool) (cs : List LV) (off : Nat) (v : LV) : Prop := match agg with
  | true => off + size ≤ cs.length ∧ v = .agg ((cs.drop off).take size)
  | false => cs[off]? = some v
theorem Part.run {t : TypeId} {size : Nat} {agg : Bool} (ht : Ty P t size agg) {cs : List LV} {off : Nat} {v : LV} (hp : Part size agg cs off v) {ph : PH} {vs : Array Value} (hcr : CReps ph vs cs) (w : World) : ∃ u, (part t vs off).run P w = .ok u w ∧ Rep ph u v := by
  obtain ⟨hr, ho⟩ := hcr
  cases agg with
  | true =>
    obtain ⟨h1, rfl⟩ := hp
    refine ⟨.agg (vs.extract off (off + size)), by simp [part, ht.agg, ht.size], .agg _ _ ?_ (fun i c hc => ?_) fun i c x hc hx => ?_⟩
    · simp [hr.1]; omega
    · rw [Array.getElem?_extract] at hc
      split at hc
      · exact ho _ c hc
      · cases hc
    · rw [List.getElem?_take] at hx
      split at hx
      · rw [List.getElem?_drop] at hx
        refine hr.2 (off + i) c x ?_ hx
        rw [Array.getElem?_extract] at hc
        split at hc
        · exact hc
        · cases hc
      · cases hx
  | false =>
    have hp : cs[off]? = some v := hp
    have hlt : off < vs.size := by rw [hr.1]; exact (List.getElem?_eq_some_iff.1 hp).1
    exact ⟨vs[off], by simp [part, ht.agg, hlt], hr.2 off _ _ (Array.getElem?_eq_getElem hlt) hp⟩
theorem LU.field {x : Operand} {t : TypeId} {fs : Array Field} {i : Nat} {f : Field} {cs : List LV} {size : Nat} {agg : Bool} {v : LV} (ht : P.underlying t = some (.struct fs)) (hf : fs[i]? = some f) (hty : Ty P f.type size agg) (hx : Is (ev env x) (.agg cs)) (hp : Part size agg cs f.offset v) :
    LU P env H ⟨d, .field t x i, ty, pos, af, g⟩ v := .of_run fun ph a hl w0 w hinv => by
  have h1 := hx _ _ (hl x (by simp [Op.operands]))
  generalize hu : a.eval x = u at h1
  cases h1 with | agg vs _ hc ho hr =>
    obtain ⟨u, hrun, hrep⟩ := hp.run hty ⟨⟨hc, hr⟩, ho⟩ w
    exact ⟨u, by simp [execOp, hu, Instr.field, run_underlying ht, hf, asAgg, hrun], hrep⟩
theorem LU.len {x : Operand} {t e : TypeId} {size : Nat} {es : List (List LV)} {k : Cap} (ht : P.underlying t = some (.slice e)) (hx : Is (ev env x) (.sl size es k)) : LU P env H ⟨d, .call { callee := .builtin .len, args := #[x], argTypes := #[t] }, ty, pos, af, g⟩ (.raw (.int .i64 es.length)) := .of_run fun ph a hl w0 w hinv => by
  have h1 := hx _ _ (hl x (by simp [Op.operands, Call.operands]))
  generalize hu : a.eval x = u at h1
  cases h1 with | sl _ _ _ A n c ad u hA hn hnc hs hcap hp hr =>
    refine ⟨.int .i64 es.length, ?_, .raw _⟩
    simp [execOp, resolve, invoke, builtin, hu, Builtin.len_, run_underlying ht, goInt, hn]
theorem add_add (ad : Addr) (m n : Nat) (h : ad.spot = none) : (ad.add m).add n = ad.add (m + n) := by
  cases ad with | mk b o s =>
    simp only at h
    subst h
    unfold Addr.add
    by_cases hm : m = 0 <;> by_cases hn : n = 0 <;> simp [hm, hn, Nat.add_assoc]
theorem Inv.spot {w0 : Base} {ph : PH} {w : World} (h : Inv w0 ph w H) {a : Addr} {u : Value} (ha : ph a = some u) : a.spot = none := by
  have hcu := h.cell a u ha
  cases hs : a.spot with
  | none => rfl
  | some s => simp [World.cell?, hs] at hcu; split at hcu <;> cases hcu
/-- The address of an element. -/
theorem LU.at {x y : Operand} {t e : TypeId} {size : Nat} {es : List (List LV)} {k : Cap} {ki : IntKind} {i : Int} {el : List LV} {agg : Bool} (ht : P.underlying t = some (.slice e)) (hty : Ty P e size agg) (hx : Is (ev env x) (.sl size es k)) (hy : Is (ev env y) (.raw (.int ki i))) (h0 : 0 ≤ i) (hi : es[i.toNat]? = some el) (hne : el ≠ []) :
    LU P env H ⟨d, .indexAddr t x y, ty, pos, af, g⟩ (.pin el) := .of_run fun ph a hl w0 w hinv => by
  have h1 := hx _ _ (hl x (by simp [Op.operands]))
  have h2 := (hy _ _ (hl y (by simp [Op.operands]))).rawE
  generalize hu : a.eval x = u at h1
  cases h1 with | sl _ _ _ A n c ad uf hA hn hnc hs hcap hp hr =>
    have hlt : i.toNat < es.length := (List.getElem?_eq_some_iff.1 hi).1
    obtain rfl := hA (by omega)
    have hsp : ad.spot = none ∨ i.toNat * size ≠ 0 := by
      by_cases hz : i.toNat * size = 0
      · left
        obtain ⟨x0, hx0⟩ : ∃ x0, el[0]? = some x0 := by cases el with | nil => exact absurd rfl hne | cons a b => exact ⟨a, rfl⟩
        have := hp i.toNat el 0 x0 hi hx0
        have := hinv.spot this
        unfold Addr.add at this
        rw [if_pos (by omega)] at this
        exact this
      · exact .inr hz
    have hadd : ∀ j, (ad.add (i.toNat * size)).add j = ad.add (i.toNat * size + j) := fun j => by
      rcases hsp with h | h
      · exact add_add ad _ _ h
      · unfold Addr.add
        by_cases hj : j = 0 <;> simp [h, hj, Nat.add_assoc]
    have hlt2 : i < (n : Int) := by omega
    refine ⟨.pointer (some (ad.add (i.toNat * size))), ?_, .pin el _ (fun j => uf (i.toNat * size + j)) (fun j x hj => by rw [hadd]; exact hp i.toNat el j x hi hj) (fun j x hj => hr i.toNat el j x hi hj)⟩
    simp [execOp, hu, h2, Instr.indexAt, asIntOf, run_underlying ht, h0, hlt2, hty.size]
theorem pin_load {ph : PH} {cs : List LV} {ad : Addr} {u : Nat → Value} (hp : ∀ (j : Nat) (x : LV), cs[j]? = some x → ph (ad.add j) = some (u j)) (hr : ∀ (j : Nat) (x : LV), cs[j]? = some x → Rep ph (u j) x) {w0 : Base} {w : World} (hinv : Inv w0 ph w H) {t : TypeId} {size : Nat} {agg : Bool} (ht : Ty P t size agg) {v : LV} (hl : cs.length = size) (hv : Part size agg cs 0 v) :
    ∃ z, (loadVar t ad).run P w = .ok z w ∧ Rep ph z v := by
  have hc : ∀ j, j < cs.length → w.cell? (ad.add j) = some (u j) := fun j hj => hinv.cell _ _ (hp j _ (List.getElem?_eq_getElem hj))
  cases agg with
  | true =>
    obtain ⟨h1, rfl⟩ := hv
    have hrun := run_loadCells (P := P) w ad size u (fun j hj => hc j (by omega))
    refine ⟨.agg ((List.range size).map u).toArray, by simp [loadVar, ht.agg, ht.size, hrun], .agg _ _ (by simp; omega) (fun i c hi => ?_) fun i c x hi hx => ?_⟩
    · simp at hi
      obtain ⟨m, hm, rfl⟩ := hi
      obtain ⟨h3, rfl⟩ := List.getElem?_eq_some_iff.1 hm
      simp only [List.getElem_range]
      have hlt : i < cs.length := by simp at h3; omega
      exact hinv.one _ _ (hp i _ (List.getElem?_eq_getElem hlt))
    simp [List.getElem?_take] at hi hx
    obtain ⟨m, hm, rfl⟩ := hi
    obtain ⟨h3, rfl⟩ := List.getElem?_eq_some_iff.1 hm
    simp only [List.getElem_range]
    exact hr i x hx.2
  | false =>
    have hv : cs[0]? = some v := hv
    have h0 : 0 < cs.length := (List.getElem?_eq_some_iff.1 hv).1
    have := hc 0 h0
    rw [show ad.add 0 = ad from rfl] at this
    exact ⟨u 0, by simp [loadVar, ht.agg, load, Sem.run, this], hr 0 v hv⟩
theorem LU.load {x : Operand} {t : TypeId} {size : Nat} {agg : Bool} {cs : List LV} {v : LV} (ht : Ty P t size agg) (hx : Is (ev env x) (.pin cs)) (hl' : cs.length = size) (hv : Part size agg cs 0 v) : LU P env H ⟨d, .load t x, ty, pos, af, g⟩ v := .of_run fun ph a hl w0 w hinv => by
  have h1 := hx _ _ (hl x (by simp [Op.operands]))
  generalize hu : a.eval x = u at h1
  cases h1 with | pin _ ad uf hp hr =>
    obtain ⟨z, hrun, hrep⟩ := pin_load (P := P) hp hr hinv ht hl' hv
    exact ⟨z, by simp [execOp, hu, Instr.loadAt, Instr.sureAddr, hrun], hrep⟩
theorem LU.fieldP {x : Operand} {t : TypeId} {fs : Array Field} {i : Nat} {f : Field} {cs : List LV} {size : Nat} {agg : Bool} (ht : P.underlying t = some (.struct fs)) (hf : fs[i]? = some f) (hty : Ty P f.type size agg) (hs0 : 0 < size) (hx : Is (ev env x) (.pin cs)) (hlen : f.offset + size ≤ cs.length) :
    LU P env H ⟨d, .fieldAddr t x i, ty, pos, af, g⟩ (.pin ((cs.drop f.offset).take size)) := .of_run fun ph a hl w0 w hinv => by
  have h1 := hx _ _ (hl x (by simp [Op.operands]))
  generalize hu : a.eval x = u at h1
  cases h1 with | pin _ ad uf hp hr =>
    have hc0 : 0 < cs.length := by omega
    have hsp : ad.spot = none := hinv.spot (hp 0 _ (List.getElem?_eq_getElem hc0))
    have hget : ∀ (j : Nat) (x : LV), ((cs.drop f.offset).take size)[j]? = some x → cs[f.offset + j]? = some x := fun j x h => by
      rw [List.getElem?_take] at h
      split at h
      · rwa [List.getElem?_drop] at h
      · cases h
    refine ⟨.pointer (some (ad.add f.offset)), ?_, .pin _ _ (fun j => uf (f.offset + j)) (fun j x hj => by rw [add_add _ _ _ hsp]; exact hp _ x (hget j x hj)) (fun j x hj => hr _ x (hget j x hj))⟩
    have : size ≠ 0 := by omega
    simp [execOp, hu, Instr.fieldAt, run_underlying ht, hf, Instr.sureAddr, fieldPlace, hty.size, this]
end
end Go.L
namespace Go.L
open Go.RowKit
theorem add_lit (b o j : Nat) : (⟨b, o, none⟩ : Addr).add j = ⟨b, o + j, none⟩ := by unfold Addr.add; split <;> simp_all
/-- A value's cells. -/
def Cells (x : LV) (xs : List LV) : Prop := ∀ ph u, Rep ph u x → CReps ph u.cells xs
theorem Cells.agg {xs : List LV} : Cells (.agg xs) xs := fun ph u r => by cases r with | agg cs _ hc ho hr => exact ⟨⟨hc, hr⟩, ho⟩
theorem one_creps {ph : PH} {u : Value} {x : LV} (h : u.oneCell' = true) (r : Rep ph u x) : CReps ph u.cells [x] := by
  have : u.cells = #[u] := by cases u <;> first | rfl | (simp [Value.oneCell'] at h)
  rw [this]
  refine ⟨⟨rfl, fun i c y h1 h2 => ?_⟩, fun i c h1 => ?_⟩
  · match i with
    | 0 => simp at h1 h2; subst h1; subst h2; exact r
    | k + 1 => simp at h1
  · match i with
    | 0 => simp at h1; subst h1; exact h
    | k + 1 => simp at h1
theorem Cells.raw {v : Value} (h : v.oneCell' = true) : Cells (.raw v) [.raw v] := fun ph u r => by
  cases r.rawE
  exact one_creps h (.raw _)
theorem Cells.sl {size : Nat} {es : List (List LV)} {k : Cap} : Cells (.sl size es k) [.sl size es k] := fun ph u r => one_creps (by cases r; rfl) r
theorem Cells.rawagg {vs : List Value} (h : ∀ v ∈ vs, v.oneCell' = true) : Cells (.raw (.agg vs.toArray)) (raws vs) := fun ph u r => Cells.agg ph u (Is.raw_agg h ph u r)
section
variable {P : Program} {env : List (Nat × LV)} {H : List Atom} {d : Option Tmp} {ty : TypeId} {pos : String} {af : Array Edge} {g : Option (Nat × Bool)} {st : LS} {K : LS → Prop}
theorem LO.of_run {op : Op} {d : Tmp} (hd : Nat.blt d st.n.k = true) (h : ∀ w0 ph a w, Rels w0 ph st a w → ∃ v u w' ph' H', (execOp a.eval ⟨some d, op, ty, pos, af, g⟩).run P w = .ok (.value u) w' ∧ PH.le ph ph' ∧ Inv w0 ph' w' H' ∧ Rep ph' u v ∧ K ⟨st.n, (d, v) :: st.env, H'⟩) : LO P ⟨some d, op, ty, pos, af, g⟩ st K := fun w0 ph a w r N Q k => by
  obtain ⟨v, u, w', ph', H', hr, hle, hi, hv, hk⟩ := h w0 ph a w r
  unfold owp
  rw [hr]
  exact k ph' _ _ w' hle (r.put hle hi hd hv) hk
theorem LO.of_skip {op : Op} (h : ∀ w0 ph a w, Rels w0 ph st a w → ∃ w' ph' H', (execOp a.eval ⟨none, op, ty, pos, af, g⟩).run P w = .ok .skip w' ∧ PH.le ph ph' ∧ Inv w0 ph' w' H' ∧ K ⟨st.n, st.env, H'⟩) : LO P ⟨none, op, ty, pos, af, g⟩ st K := fun w0 ph a w r N Q k => by
  obtain ⟨w', ph', H', hr, hle, hi, hk⟩ := h w0 ph a w r
  unfold owp
  rw [hr]
  exact k ph' _ _ w' hle (r.put0 hle hi undef) hk
theorem heap_new (w : World) (o : Obj) : (w.alloc o).heap[w.heap.size]? = some o := heap_alloc_new w o
theorem Inv.block {w0 : Base} {ph : PH} {w : World} (h : Inv w0 ph w H) (t : TypeId) {cs : Array Value} {xs : List LV} (hc : CReps ph cs xs) : Inv w0 ph (w.alloc (.cells cs t)) (.cells w.heap.size t xs :: H) :=
  h.new ((Below.refl _ _).alloc (Nat.le_refl _) _) (G := fun b _ => b = w.heap.size) ⟨fun _ _ => Iff.rfl, cs, heap_new w _, hc⟩ (fun b o hb => by omega)
theorem LO.box {x : Operand} {t : TypeId} {d : Tmp} {v : LV} {xs : List LV} (hd : Nat.blt d st.n.k = true) (hx : Is (ev st.env x) v) (hc : Cells v xs) (h : ∀ b, K ⟨st.n, (d, .raw (.pointer (some ⟨b, 0, none⟩))) :: st.env, .cells b t xs :: st.heap⟩) : LO P ⟨some d, .box t x, ty, pos, af, g⟩ st K := .of_run hd fun w0 ph a w r => by
  have h1 := hc _ _ (hx _ _ (r.tmps.eval x))
  exact ⟨_, _, _, ph, _, by simp [execOp, Instr.box, newVar, newRow], PH.le.refl _, r.inv.block t h1, .raw _, h _⟩
theorem LO.alloc {t : TypeId} {d : Tmp} {z : Value} {xs : List LV} (hd : Nat.blt d st.n.k = true) (hz : ∀ w, (zeroValue t).run P w = .ok z w) (hc : Cells (.raw z) xs) (h : ∀ b, K ⟨st.n, (d, .raw (.pointer (some ⟨b, 0, none⟩))) :: st.env, .cells b t xs :: st.heap⟩) : LO P ⟨some d, .alloc t, ty, pos, af, g⟩ st K := .of_run hd fun w0 ph a w r => by
  have h1 := hc ph z (.raw z)
  exact ⟨_, _, _, ph, _, by simp [execOp, Instr.alloc, newVar, newRow, hz], PH.le.refl _, r.inv.block t h1, .raw _, h _⟩
theorem creps_part {ph : PH} {cs : Array Value} {xs : List LV} (hc : CReps ph cs xs) {t : TypeId} {size : Nat} {agg : Bool} (ht : Ty P t size agg) {off : Nat} {v : LV} (hv : Part size agg xs off v) {w : World} {b : Nat} (hl : ∀ i c, cs[i]? = some c → w.cell? ⟨b, i, none⟩ = some c) :
    ∃ z, (loadVar t ⟨b, off, none⟩).run P w = .ok z w ∧ Rep ph z v := by
  obtain ⟨⟨h1, h2⟩, ho⟩ := hc
  cases agg with
  | true =>
    obtain ⟨hlen, rfl⟩ := hv
    have hrun := run_loadCells (P := P) w ⟨b, off, none⟩ size (fun j => cs.getD (off + j) undef) (fun j hj => by
      have hlt : off + j < cs.size := by omega
      rw [add_lit, hl (off + j) cs[off + j] (Array.getElem?_eq_getElem hlt)]
      simp [hlt])
    refine ⟨.agg ((List.range size).map (fun j => cs.getD (off + j) undef)).toArray, by simp [loadVar, ht.agg, ht.size, hrun], .agg _ _ (by simp; omega) (fun i c hi => ?_) fun i c x hi hx => ?_⟩
    · simp at hi
      obtain ⟨m, hm, rfl⟩ := hi
      obtain ⟨h3, rfl⟩ := List.getElem?_eq_some_iff.1 hm
      simp only [List.getElem_range, List.length_range] at h3 ⊢
      have hlt : off + i < cs.size := by omega
      rw [Array.getElem?_eq_getElem hlt]
      exact ho _ _ (Array.getElem?_eq_getElem hlt)
    · simp [List.getElem?_take] at hi hx
      obtain ⟨m, hm, rfl⟩ := hi
      obtain ⟨h3, rfl⟩ := List.getElem?_eq_some_iff.1 hm
      simp only [List.getElem_range, List.length_range] at h3 ⊢
      have hlt : off + i < cs.size := by omega
      rw [Array.getElem?_eq_getElem hlt]
      exact h2 _ _ _ (Array.getElem?_eq_getElem hlt) hx.2
  | false =>
    have hv : xs[off]? = some v := hv
    have hlt : off < cs.size := by rw [h1]; exact (List.getElem?_eq_some_iff.1 hv).1
    have := hl off cs[off] (Array.getElem?_eq_getElem hlt)
    exact ⟨cs[off], by simp [loadVar, ht.agg, load, Sem.run, this], h2 _ _ _ (Array.getElem?_eq_getElem hlt) hv⟩
/-- A load of what is owned. -/
theorem LU.loadO {x : Operand} {t t' : TypeId} {size : Nat} {agg : Bool} {xs : List LV} {b off : Nat} {v : LV} (k : Nat) (hk : H[k]? = some (.cells b t' xs)) (ht : Ty P t size agg) (hx : Is (ev env x) (.raw (.pointer (some ⟨b, off, none⟩)))) (hv : Part size agg xs off v) : LU P env H ⟨d, .load t x, ty, pos, af, g⟩ v := .of_run fun ph a hl w0 w hinv => by
  have h1 := (hx _ _ (hl x (by simp [Op.operands]))).rawE
  obtain ⟨F, hF, cs, hh, hc⟩ := hinv.atom_at hk
  obtain ⟨z, hrun, hrep⟩ := creps_part (P := P) hc ht hv (w := w) (b := b) (fun i c hi => by rw [cell_of_row w b i cs t' (0, 0) hh]; exact hi)
  exact ⟨z, by simp [execOp, h1, Instr.loadAt, Instr.sureAddr, hrun], hrep⟩
/-- A load of what is known of a variable. -/
theorem LU.loadK {x : Operand} {t : TypeId} {size : Nat} {agg : Bool} {xs : List LV} {b off : Nat} {v : LV} (k : Nat) (hk : H[k]? = some (.known b xs)) (ht : Ty P t size agg) (hx : Is (ev env x) (.raw (.pointer (some ⟨b, off, none⟩)))) (hs0 : 0 < size) (hl' : off + size ≤ xs.length) (hv : Part size agg xs off v) : LU P env H ⟨d, .load t x, ty, pos, af, g⟩ v := .of_run fun ph a hl w0 w hinv => by
  have h1 := (hx _ _ (hl x (by simp [Op.operands]))).rawE
  obtain ⟨F, hF, hh⟩ := hinv.atom_at hk
  generalize hq : (Value.pointer (some ⟨b, 0, none⟩)) = q at hh
  cases hh with | pin _ ad uf hp hr =>
    cases hq
    obtain ⟨z, hrun, hrep⟩ := pin_load (P := P) (cs := (xs.drop off).take size) (ad := ⟨b, off, none⟩) (u := fun j => uf (off + j)) (fun j x h => by
      rw [List.getElem?_take] at h
      split at h
      · rw [List.getElem?_drop] at h
        have := hp _ _ h
        rw [add_lit] at this ⊢
        rw [← this]; simp
      · cases h) (fun j x h => by
      rw [List.getElem?_take] at h
      split at h
      · rw [List.getElem?_drop] at h
        exact hr _ _ h
      · cases h) hinv ht (v := v) (by simp; omega) (by
      cases agg with
      | true =>
        obtain ⟨h3, rfl⟩ := hv
        exact ⟨by simp; omega, by simp [List.take_take]⟩
      | false =>
        have hv : xs[off]? = some v := hv
        show ((xs.drop off).take size)[0]? = some v
        rw [List.getElem?_take, if_pos hs0, List.getElem?_drop]
        exact hv)
    exact ⟨z, by simp [execOp, h1, Instr.loadAt, Instr.sureAddr, hrun], hrep⟩
theorem LU.nilCheck {x : Operand} {ad : Addr} (hx : Is (ev env x) (.raw (.pointer (some ad)))) : LU P env H ⟨d, .nilCheck x, ty, pos, af, g⟩ (.raw (.pointer (some ad))) := .raw fun ac hl w => by
  have h1 := hl x (by simp [Op.operands]) _ hx
  simp [execOp, h1]
theorem LU.fieldO {x : Operand} {t : TypeId} {fs : Array Field} {i : Nat} {f : Field} {b off size : Nat} (ht : P.underlying t = some (.struct fs)) (hf : fs[i]? = some f) (hs : ∀ w, (sizeOf f.type).run P w = .ok size w) (hs0 : size ≠ 0) (hx : Is (ev env x) (.raw (.pointer (some ⟨b, off, none⟩)))) :
    LU P env H ⟨d, .fieldAddr t x i, ty, pos, af, g⟩ (.raw (.pointer (some ⟨b, off + f.offset, none⟩))) := .raw fun ac hl w => by
  have h1 := hl x (by simp [Op.operands]) _ hx
  simp [execOp, h1, Instr.fieldAt, run_underlying ht, hf, Instr.sureAddr, fieldPlace, hs, hs0, add_lit]
/-- The address of an element of a slice of one's own. -/
theorem LU.atO {x y : Operand} {t e : TypeId} {b off n c size : Nat} {ki : IntKind} {i : Int} (ht : P.underlying t = some (.slice e)) (hs : ∀ w, (sizeOf e).run P w = .ok size w) (hx : Is (ev env x) (.raw (.slice (some ⟨b, off, none⟩) n c))) (hy : Is (ev env y) (.raw (.int ki i))) (h0 : 0 ≤ i) (h1 : i < n) :
    LU P env H ⟨d, .indexAddr t x y, ty, pos, af, g⟩ (.raw (.pointer (some ⟨b, off + i.toNat * size, none⟩))) := .raw fun ac hl w => by
  have e1 := hl x (by simp [Op.operands]) _ hx
  have e2 := hl y (by simp [Op.operands]) _ hy
  simp [execOp, e1, e2, Instr.indexAt, asIntOf, run_underlying ht, h0, h1, hs, add_lit]
theorem LU.lenO {x : Operand} {t e : TypeId} {A : Option Addr} {n c : Nat} (ht : P.underlying t = some (.slice e)) (hx : Is (ev env x) (.raw (.slice A n c))) : LU P env H ⟨d, .call { callee := .builtin .len, args := #[x], argTypes := #[t] }, ty, pos, af, g⟩ (.raw (.int .i64 n)) := .raw fun ac hl w => by
  have h1 := hl x (by simp [Op.operands, Call.operands]) _ hx
  simp [execOp, resolve, invoke, builtin, h1, Builtin.len_, run_underlying ht, goInt]
theorem chg_setCells {b o : Nat} : ∀ (vs : List Value) (w : World), Chg w (w.setCells b o vs) (fun b' _ => b' = b)
  | vs, w => by
    have key : ∀ (vs : List Value) (o : Nat) (w : World), Chg w (w.setCells b o vs) (fun b' _ => b' = b) := by
      intro vs
      induction vs with
      | nil => intro o w; exact Chg.refl _ _
      | cons v vs ih =>
        intro o w
        rw [World.setCells]
        have h1 : Chg w (w.setCell ⟨b, o, none⟩ v) (fun b' _ => b' = b) := Chg.blocks rfl rfl rfl (by simp [World.setCell]) (fun k => k = b) (fun k h _ => h) (fun k _ hk => Below.heap_setCell w ⟨b, o, none⟩ v k hk)
        exact h1.trans (ih (o + 1) _)
    exact key vs o w
theorem heap_setCells {b : Nat} {t : TypeId} : ∀ (vs : List Value) (o : Nat) (w : World) (cs : Array Value), w.heap[b]? = some (.cells cs t (0, 0)) → o + vs.length ≤ cs.size →
    ∃ cs', (w.setCells b o vs).heap[b]? = some (.cells cs' t (0, 0)) ∧ cs'.size = cs.size ∧ ∀ i, cs'[i]? = if o ≤ i ∧ i < o + vs.length then vs[i - o]? else cs[i]?
  | [], o, w, cs, h, _ => ⟨cs, h, rfl, fun i => by
      have : ¬ (o ≤ i ∧ i < o + ([] : List Value).length) := by simp only [List.length_nil]; omega
      rw [if_neg this]⟩
  | v :: vs, o, w, cs, h, hl => by
    have h1 : (w.setCell ⟨b, o, none⟩ v).heap[b]? = some (.cells (cs.setIfInBounds o v) t (0, 0)) := by simp [World.setCell, Array.getElem?_modify, h]
    simp only [List.length_cons] at hl
    obtain ⟨cs', h2, h3, h4⟩ := heap_setCells vs (o + 1) _ _ h1 (by simp; omega)
    refine ⟨cs', h2, by simpa using h3, fun i => ?_⟩
    rw [h4 i]
    simp only [List.length_cons]
    by_cases hi : o = i
    · subst hi
      rw [if_neg (by omega), if_pos (by omega), Nat.sub_self]
      simp [show o < cs.size by omega]
    · by_cases hi2 : o + 1 ≤ i ∧ i < o + 1 + vs.length
      · rw [if_pos hi2, if_pos (by omega)]
        obtain ⟨m, rfl⟩ : ∃ m, i = o + 1 + m := ⟨i - (o + 1), by omega⟩
        rw [show o + 1 + m - (o + 1) = m by omega, show o + 1 + m - o = m + 1 by omega, List.getElem?_cons_succ]
      · rw [if_neg hi2, if_neg (by omega), Array.getElem?_setIfInBounds_ne hi]
/-- The cells with some of them written. -/
def putAt (xs : List LV) (off : Nat) (ys : List LV) : List LV := xs.take off ++ ys ++ xs.drop (off + ys.length)
theorem putAt_get (xs : List LV) (off : Nat) (ys : List LV) (h : off + ys.length ≤ xs.length) (i : Nat) : (putAt xs off ys)[i]? = if off ≤ i ∧ i < off + ys.length then ys[i - off]? else xs[i]? := by
  unfold putAt
  have ht : (xs.take off).length = off := by rw [List.length_take]; omega
  by_cases h1 : i < off
  · rw [if_neg (by omega), List.append_assoc, List.getElem?_append_left (by omega), List.getElem?_take, if_pos h1]
  · by_cases h2 : i < off + ys.length
    · rw [if_pos (by omega), List.append_assoc, List.getElem?_append_right (by omega), ht, List.getElem?_append_left (by omega)]
    · rw [if_neg (by omega), List.getElem?_append_right (by simp; omega)]
      rw [List.getElem?_drop]
      congr 1
      simp
      omega
theorem putAt_length (xs : List LV) (off : Nat) (ys : List LV) (h : off + ys.length ≤ xs.length) : (putAt xs off ys).length = xs.length := by simp [putAt]; omega
theorem run_storeVar_any {t : TypeId} {size : Nat} (hs : ∀ w, (sizeOf t).run P w = .ok size w) (v : Value) (w : World) (b o : Nat) (ht : w.there b o v.cells.size) (hsz : v.cells.size = size) (h1 : ∀ (i : Nat) (c : Value), v.cells[i]? = some c → c.oneCell' = true) :
    (storeVar t ⟨b, o, none⟩ v).run P w = .ok () (w.setCells b o v.cells.toList) := by
  have := run_storeCells_cells (P := P) b o v.cells.toList 0 w (fun j hj => by simpa using (ht j (by simpa using hj)).1) (fun j hj => by simpa using (ht j (by simpa using hj)).2)
    (fun u hu => by
      obtain ⟨i, hi⟩ := List.mem_iff_getElem?.1 hu
      exact h1 i u (by simpa using hi))
  simp only [Nat.add_zero] at this
  simp [storeVar, hs, hsz, this]
/-- A store into what is owned. -/
theorem LO.store {x y : Operand} {t t' : TypeId} {size : Nat} {xs ys : List LV} {b off : Nat} {v : LV} (k : Nat) (hk : st.heap[k]? = some (.cells b t' xs)) (hs : ∀ w, (sizeOf t).run P w = .ok size w) (hx : Is (ev st.env x) (.raw (.pointer (some ⟨b, off, none⟩)))) (hy : Is (ev st.env y) v) (hc : Cells v ys) (hys : ys.length = size) (hlen : off + size ≤ xs.length)
    (h : K ⟨st.n, st.env, .cells b t' (putAt xs off ys) :: st.heap.eraseIdx k⟩) : LO P ⟨none, .store t x y, ty, pos, af, g⟩ st K := .of_skip fun w0 ph a w r => by
  have h1 := (hx _ _ (r.tmps.eval x)).rawE
  obtain ⟨⟨hcs, hcr⟩, hco⟩ := hc _ _ (hy _ _ (r.tmps.eval y))
  have hinv := r.inv.front k
  unfold L.front at hinv
  rw [hk] at hinv
  obtain ⟨F, hF, cs, hh, ⟨hl, hr⟩, ho⟩ := hinv.atom
  have hthere : w.there b off (a.eval y).cells.size := fun j hj => by
    have hlt : off + j < cs.size := by omega
    rw [cell_of_row w b (off + j) cs t' (0, 0) hh, Array.getElem?_eq_getElem hlt]
    exact ⟨rfl, by simp [World.frozen?, hh]⟩
  have hrun := run_storeVar_any (P := P) hs (a.eval y) w b off hthere (by omega) hco
  obtain ⟨cs', hh', hsz', hget⟩ := heap_setCells (a.eval y).cells.toList off w cs hh (by simp; omega)
  refine ⟨w.setCells b off (a.eval y).cells.toList, ph, _, by simp [execOp, h1, Instr.storeAt, Instr.sureAddr, hrun], PH.le.refl _, hinv.turn (a' := .cells b t' (putAt xs off ys)) (PH.le.refl _) (fun G hG hn => ⟨(chg_setCells _ w).mono (fun b' o' hb => (hG.1 b' o').2 hb), G, ⟨hG.1, cs', hh', ⟨by rw [putAt_length _ _ _ (by omega)]; omega, fun i c z hi hz => ?_⟩, fun i c hi => ?_⟩, fun b' o' hb => .inl hb, fun p u hp => .inl hp⟩), h⟩
  · rw [hget] at hi
    rw [putAt_get _ _ _ (by omega)] at hz
    simp only [Array.length_toList] at hi
    rw [← hcs] at hz
    by_cases hin : off ≤ i ∧ i < off + (a.eval y).cells.size
    · rw [if_pos hin] at hi hz
      exact hcr (i - off) c z (by simpa using hi) hz
    · rw [if_neg hin] at hi hz
      exact hr i c z hi hz
  · rw [hget] at hi
    simp only [Array.length_toList] at hi
    by_cases hin : off ≤ i ∧ i < off + (a.eval y).cells.size
    · rw [if_pos hin] at hi
      exact hco (i - off) c (by simpa using hi)
    · rw [if_neg hin] at hi
      exact ho i c hi
theorem rep_sliced {ph : PH} {w0 : Base} {w : World} (hinv : Inv w0 ph w H) {A : Option Addr} {n c size : Nat} {es : List (List LV)} {k : Cap} (r : Rep ph (.slice A n c) (.sl size es k)) (hs0 : 0 < size) (l h m : Nat) (hl : l ≤ h) (hh : h ≤ es.length) (hm : h ≤ m) (hmc : m ≤ c) (k' : Cap)
    (hk : k' = .unk ∨ (k' = .full ∧ h = m) ∨ (k' = k ∧ h = es.length ∧ m = c)) : Rep ph (sliced A l h m size) (.sl size ((es.drop l).take (h - l)) k') := by
  cases r with | sl _ _ _ _ _ _ ad u hA hn hnc hs hcap hp hr =>
    have hlen : ((es.drop l).take (h - l)).length = h - l := by rw [List.length_take, List.length_drop]; omega
    have hget : ∀ (i : Nat) (e : List LV), ((es.drop l).take (h - l))[i]? = some e → es[l + i]? = some e ∧ i < h - l := fun i e hi => by
      rw [List.getElem?_take] at hi
      split at hi
      · rw [List.getElem?_drop] at hi
        exact ⟨hi, by assumption⟩
      · cases hi
    have hsp : 0 < es.length → ad.spot = none := fun h0 => by
      have he := List.getElem?_eq_getElem h0
      have hsz := hs es[0] (List.getElem_mem h0)
      have := hinv.spot (hp 0 es[0] 0 es[0][0] he (List.getElem?_eq_getElem (by omega)))
      rwa [show ad.add (0 * size + 0) = ad by rw [Nat.zero_mul]; rfl] at this
    refine .sl size _ k' _ (h - l) (m - l) (ad.add (l * size)) (fun j => u (l * size + j)) (fun h0 => ?_) hlen (by omega) (fun e he => hs e (List.mem_of_mem_drop (List.mem_of_mem_take he))) ?_ (fun i e j x hi hj => ?_) (fun i e j x hi hj => ?_)
    · rw [hlen] at h0
      rw [if_neg (by omega), hA (by omega)]
      rfl
    · rcases hk with rfl | ⟨rfl, e⟩ | ⟨rfl, e1, e2⟩
      · trivial
      · show h - l = m - l
        omega
      · subst e2
        cases k' with
        | unk => trivial
        | full => show h - l = m - l; have : n = m := hcap; omega
        | tok b o z =>
          rcases hcap with ⟨e3, e4⟩ | ⟨off, e3, e4, e5⟩
          · exact .inl ⟨by omega, e4⟩
          · by_cases hml : m = l
            · refine .inl ⟨by omega, ?_⟩
              have : n = m := by omega
              rw [← e4, ← e5, this]
            · refine .inr ⟨off + l * size, ?_, ?_, ?_⟩
              · rw [if_neg hml, e3]
                simp [add_lit]
              · rw [Nat.add_assoc, ← Nat.add_mul, show l + (h - l) = n by omega]
                exact e4
              · rw [Nat.add_assoc, ← Nat.add_mul, show l + (m - l) = m by omega]
                exact e5
    · obtain ⟨hi', _⟩ := hget i e hi
      have := hp (l + i) e j x hi' hj
      rw [add_add _ _ _ (hsp (by have := (List.getElem?_eq_some_iff.1 hi').1; omega)), ← Nat.add_assoc, ← Nat.add_mul]
      exact this
    · obtain ⟨hi', _⟩ := hget i e hi
      have := hr (l + i) e j x hi' hj
      rw [← Nat.add_assoc, ← Nat.add_mul]
      exact this
theorem elem_of {t e : TypeId} (ht : P.underlying t = some (.slice e)) : P.elem t = e := by simp [Program.elem, ht]
theorem LU.slice {x : Operand} {t e : TypeId} {size : Nat} {es : List (List LV)} {k : Cap} {lo hi : Option Operand} {l h : Option Int} (hs : ∀ w, (sizeOf e).run P w = .ok size w) (hs0 : 0 < size) (ht : P.underlying t = some (.slice e)) (hx : Is (ev env x) (.sl size es k)) (hl : optInt env lo l) (hh : optInt env hi h)
    (h0 : 0 ≤ l.getD 0) (h1 : l.getD 0 ≤ h.getD es.length) (h2 : h.getD es.length ≤ es.length) (k' : Cap) (hk : k' = .unk ∨ (k' = k ∧ h.getD es.length = es.length)) :
    LU P env H ⟨d, .slice t x lo hi none, ty, pos, af, g⟩ (.sl size ((es.drop (l.getD 0).toNat).take ((h.getD es.length).toNat - (l.getD 0).toNat)) k') := .of_run fun ph a hc w0 w hinv => by
  have r := hx _ _ (hc x (by simp [Op.operands]))
  generalize hu : a.eval x = u at r
  have ht' : P.underlying t = some (.slice (P.elem t)) := by rw [elem_of ht]; exact ht
  have he : P.elem t = e := elem_of ht
  have eh : ∀ q : Int, 0 ≤ q → (q.toNat : Int) = q := fun q hq => Int.toNat_of_nonneg hq
  obtain ⟨A, n, c, rfl, hn, hnc⟩ : ∃ A n c, u = .slice A n c ∧ es.length = n ∧ n ≤ c := by cases r; exact ⟨_, _, _, rfl, by assumption, by assumption⟩
  have fin : ∀ (L E : Nat), L = (l.getD 0).toNat → E = (h.getD es.length).toNat → (execOp a.eval ⟨d, .slice t x lo hi none, ty, pos, af, g⟩).run P w = .ok (.value (sliced A L E c size)) w →
      ∃ u, (execOp a.eval ⟨d, .slice t x lo hi none, ty, pos, af, g⟩).run P w = .ok (.value u) w ∧ Rep ph u (.sl size ((es.drop (l.getD 0).toNat).take ((h.getD es.length).toNat - (l.getD 0).toNat)) k') := fun L E eL eE hrun => by
    refine ⟨_, hrun, ?_⟩
    subst eL
    subst eE
    exact rep_sliced hinv r hs0 _ _ c (by omega) (by omega) (by omega) (Nat.le_refl _) k' (hk.imp id (fun h => .inr ⟨h.1, by omega, rfl⟩))
  cases lo <;> cases l <;> simp only [optInt] at hl <;> cases hi <;> cases h <;> simp only [optInt] at hh
  · refine fin 0 n (by simp) (by simp [hn]) ?_
    simp [execOp, hu, run_sliceAt_slice w t _ _ _ _ ht', run_slice_all w t A n c ht', he, hs]
  · rename_i y i
    obtain ⟨k1, hk1⟩ := hh
    have e2 := (hk1 _ _ (hc y (by simp [Op.operands]))).rawE
    simp only [Option.getD_none, Option.getD_some] at h0 h1 h2
    refine fin 0 i.toNat (by simp) (by simp) ?_
    simp [execOp, hu, e2, run_sliceAt_slice w t _ _ _ _ ht', run_slice_h w t A n c ht' k1 i h1 (by omega), he, hs]
  · rename_i y i
    obtain ⟨k1, hk1⟩ := hl
    have e2 := (hk1 _ _ (hc y (by simp [Op.operands]))).rawE
    simp only [Option.getD_none, Option.getD_some] at h0 h1 h2
    refine fin i.toNat n (by simp) (by simp [hn]) ?_
    simp [execOp, hu, e2, run_sliceAt_slice w t _ _ _ _ ht', run_slice_l w t A n c ht' k1 i h0 (by omega), he, hs]
  · rename_i y i z j
    obtain ⟨k1, hk1⟩ := hl
    obtain ⟨k2, hk2⟩ := hh
    have e2 := (hk1 _ _ (hc y (by simp [Op.operands]))).rawE
    have e3 := (hk2 _ _ (hc z (by simp [Op.operands]))).rawE
    simp only [Option.getD_some] at h0 h1 h2
    refine fin i.toNat j.toNat (by simp) (by simp) ?_
    simp [execOp, hu, e2, e3, run_sliceAt_slice w t _ _ _ _ ht', run_slice_lh w t A n c ht' k1 k2 i j h0 h1 (by omega), he, hs]
end
end Go.L
namespace Go.L
open Go.RowKit
/-- Some cells of a block are known too. -/
def PH.ext (ph : PH) (b lo hi : Nat) (cs : Array Value) : PH := fun a => if a.block = b ∧ a.spot = none ∧ lo ≤ a.off ∧ a.off < hi then cs[a.off]? else ph a
theorem PH.ext_in {ph : PH} {b lo hi i : Nat} {cs : Array Value} (h : lo ≤ i ∧ i < hi) : PH.ext ph b lo hi cs ⟨b, i, none⟩ = cs[i]? := by
  unfold PH.ext
  rw [if_pos ⟨rfl, rfl, h.1, h.2⟩]
theorem PH.ext_cases {ph : PH} {b lo hi : Nat} {cs : Array Value} {a : Addr} {u : Value} (h : PH.ext ph b lo hi cs a = some u) : (a = ⟨b, a.off, none⟩ ∧ lo ≤ a.off ∧ a.off < hi ∧ cs[a.off]? = some u) ∨ ph a = some u := by
  unfold PH.ext at h
  by_cases hc : a.block = b ∧ a.spot = none ∧ lo ≤ a.off ∧ a.off < hi
  · rw [if_pos hc] at h
    obtain ⟨h1, h2, h3, h4⟩ := hc
    refine .inl ⟨?_, h3, h4, h⟩
    cases a
    simp_all
  · rw [if_neg hc] at h
    exact .inr h
theorem PH.le_ext {ph : PH} {b lo hi : Nat} {cs : Array Value} (h : ∀ i, lo ≤ i → i < hi → ph ⟨b, i, none⟩ = none) : PH.le ph (PH.ext ph b lo hi cs) := fun a u ha => by
  unfold PH.ext
  by_cases hc : a.block = b ∧ a.spot = none ∧ lo ≤ a.off ∧ a.off < hi
  · obtain ⟨h1, h2, h3, h4⟩ := hc
    have := h a.off h3 h4
    have e : a = ⟨b, a.off, none⟩ := by cases a; simp_all
    rw [e, this] at ha
    cases ha
  · rw [if_neg hc]
    exact ha
section
variable {P : Program} {env : List (Nat × LV)} {H : List Atom} {d : Option Tmp} {ty : TypeId} {pos : String} {af : Array Edge} {g : Option (Nat × Bool)} {st : LS} {K : LS → Prop}
theorem Inv.none_new {w0 : Base} {ph : PH} {w : World} (h : Inv w0 ph w H) {a : Addr} (ha : w.heap.size ≤ a.block) : ph a = none := by
  cases hp : ph a with
  | none => rfl
  | some u =>
    have := lt_of_cell (h.cell a u hp)
    omega
/-- A new block of which the first n cells are known from now on. -/
theorem Inv.learn {w0 : Base} {ph : PH} {w w' : World} (h : Inv w0 ph w H) (hb : Below w.heap.size w w') {cs : Array Value} {t : TypeId} {fr : Nat × Nat} (hh : w'.heap[w.heap.size]? = some (.cells cs t fr)) (n : Nat) (h1 : ∀ (i : Nat) (c : Value), i < n → cs[i]? = some c → c.oneCell' = true) :
    Inv w0 (PH.ext ph w.heap.size 0 n cs) w' H ∧ PH.le ph (PH.ext ph w.heap.size 0 n cs) := by
  have hle : PH.le ph (PH.ext ph w.heap.size 0 n cs) := PH.le_ext fun i _ _ => h.none_new (Nat.le_refl _)
  refine ⟨h.know hb hle fun a u ha => ?_, hle⟩
  rcases PH.ext_cases ha with ⟨e, _, h3, h4⟩ | h3
  · refine .inr ⟨⟨?_, h1 _ _ h3 h4⟩, by rw [e]; exact Nat.le_refl _⟩
    rw [e, cell_of_row w' w.heap.size a.off cs t fr hh]
    exact h4
  · exact .inl h3
/-- The same with the rest of it as0 room. -/
theorem Inv.learnTail {w0 : Base} {ph : PH} {w w' : World} (h : Inv w0 ph w H) (hb : Below w.heap.size w w') {cs : Array Value} {t : TypeId} (hh : w'.heap[w.heap.size]? = some (.cells cs t (0, 0))) (n c : Nat) (hc : c ≤ cs.size) (h1 : ∀ (i : Nat) (c : Value), i < n → cs[i]? = some c → c.oneCell' = true) :
    Inv w0 (PH.ext ph w.heap.size 0 n cs) w' (.tail w.heap.size n c :: H) ∧ PH.le ph (PH.ext ph w.heap.size 0 n cs) := by
  have hle : PH.le ph (PH.ext ph w.heap.size 0 n cs) := PH.le_ext fun i _ _ => h.none_new (Nat.le_refl _)
  refine ⟨Inv.upd (H1 := []) (H2 := [.tail w.heap.size n c]) (R := H) h hle (fun F hF _ => ⟨Chg.below hb _, fun b o => b = w.heap.size ∧ n ≤ o ∧ o < c, ⟨_, fun _ _ => False, ⟨fun _ _ => Iff.rfl, fun i hi hj => ?_⟩, fun _ _ h => h, fun b o => by simp, fun _ _ _ h => h⟩, fun b o hg => .inr (by omega), fun a u ha => ?_⟩), hle⟩
  · have hlt : i < cs.size := by omega
    refine ⟨⟨cs[i], ?_⟩, by simp [World.frozen?, hh]⟩
    rw [cell_of_row w' w.heap.size i cs t (0, 0) hh, Array.getElem?_eq_getElem hlt]
  · rcases PH.ext_cases ha with ⟨e, _, h3, h4⟩ | h3
    · refine .inr ⟨⟨?_, h1 _ _ h3 h4⟩, fun hg => by omega, .inr (by rw [e]; exact Nat.le_refl _)⟩
      rw [e, cell_of_row w' w.heap.size a.off cs t (0, 0) hh]
      exact h4
    · exact .inl h3
theorem HSub.tail0 (b o c : Nat) (hc : c ≤ o) (H : List Atom) : HSub H (.tail b o c :: H) := HSub.of fun ph w F hs => ⟨F, ⟨fun _ _ => False, F, ⟨fun _ _ => by constructor; exact fun h => h.elim; omega, fun i _ _ => by omega⟩, hs, fun b o => by simp, fun _ _ h => h.elim⟩, fun _ _ h => h⟩
theorem LL.ghost {ops : Array Oper} {l : List Oper} {H' : List Atom} (hs : HSub st.heap H') (h : LL P ops l ⟨st.n, st.env, H'⟩ K) : LL P ops l st K := fun w0 ph a w r Q k => h w0 ph a w ⟨hs.app r.inv, r.defers, r.size, r.tmps⟩ Q k
theorem LL.weak {ops : Array Oper} {l : List Oper} {t : Nat} {v : LV} (hs : Is (get st.env t) v) (h : LL P ops l ⟨st.n, (t, v) :: st.env, st.heap⟩ K) : LL P ops l st K := fun w0 ph a w r Q k => h w0 ph a w ⟨r.inv, r.defers, r.size, fun i => by
  by_cases hi : t = i
  · subst hi; rw [get_same]; exact hs _ _ (r.tmps t)
  · rw [get_other hi]; exact r.tmps i⟩ Q k
theorem LW.ghost {c : Code} {Q : Exit → LS → Prop} {H' : List Atom} (hs : HSub st.heap H') (h : LW P c ⟨st.n, st.env, H'⟩ Q) : LW P c st Q := fun w0 ph a w r Q' k => h w0 ph a w ⟨hs.app r.inv, r.defers, r.size, r.tmps⟩ Q' k
theorem LW.weakS {c : Code} {Q : Exit → LS → Prop} {t : Nat} {v : LV} (hs : Is (get st.env t) v) (h : LW P c ⟨st.n, (t, v) :: st.env, st.heap⟩ Q) : LW P c st Q := fun w0 ph a w r Q' k => h w0 ph a w ⟨r.inv, r.defers, r.size, fun i => by
  by_cases hi : t = i
  · subst hi; rw [get_same]; exact hs _ _ (r.tmps t)
  · rw [get_other hi]; exact r.tmps i⟩ Q' k
theorem foldl_set : ∀ (l : List Value) (k off : Nat) (cs : Array Value), off + k + l.length ≤ cs.size →
    ((l.zipIdx k).foldl (fun cs (p : Value × Nat) => cs.setIfInBounds (off + p.2) p.1) cs).size = cs.size ∧ ∀ i, ((l.zipIdx k).foldl (fun cs (p : Value × Nat) => cs.setIfInBounds (off + p.2) p.1) cs)[i]? = if off + k ≤ i ∧ i < off + k + l.length then l[i - (off + k)]? else cs[i]?
  | [], k, off, cs, h => ⟨rfl, fun i => by
      have : ¬ (off + k ≤ i ∧ i < off + k + ([] : List Value).length) := by simp only [List.length_nil]; omega
      rw [if_neg this]; rfl⟩
  | v :: l, k, off, cs, h => by
    simp only [List.length_cons] at h
    obtain ⟨h1, h2⟩ := foldl_set l (k + 1) off (cs.setIfInBounds (off + k) v) (by simp; omega)
    refine ⟨by simpa using h1, fun i => ?_⟩
    simp only [List.zipIdx_cons, List.foldl_cons, List.length_cons]
    rw [h2 i]
    by_cases hi : off + k = i
    · subst hi
      rw [if_neg (by omega), if_pos (by omega), Nat.sub_self]
      simp [show off + k < cs.size by omega]
    · by_cases hi2 : off + (k + 1) ≤ i ∧ i < off + (k + 1) + l.length
      · rw [if_pos hi2, if_pos (by omega)]
        obtain ⟨m, rfl⟩ : ∃ m, i = off + (k + 1) + m := ⟨i - (off + (k + 1)), by omega⟩
        rw [show off + (k + 1) + m - (off + (k + 1)) = m by omega, show off + (k + 1) + m - (off + k) = m + 1 by omega, List.getElem?_cons_succ]
      · rw [if_neg hi2, if_neg (by omega), Array.getElem?_setIfInBounds_ne hi]
theorem foldl_cells (v : Value) (off : Nat) (cs : Array Value) (h : off + v.cells.size ≤ cs.size) :
    (v.cells.zipIdx.foldl (fun cs (p : Value × Nat) => cs.setIfInBounds (off + p.2) p.1) cs).size = cs.size ∧ ∀ i, (v.cells.zipIdx.foldl (fun cs (p : Value × Nat) => cs.setIfInBounds (off + p.2) p.1) cs)[i]? = if off ≤ i ∧ i < off + v.cells.size then v.cells[i - off]? else cs[i]? := by
  have := foldl_set v.cells.toList 0 off cs (by simpa using h)
  rw [← Array.foldl_toList, Array.toList_zipIdx]
  simpa using this
/-- What parts of a composite are: for each, its place and its cells. -/
def Parts (env : List (Nat × LV)) : List (Nat × Operand) → List (Nat × List LV) → Prop
  | [], [] => True
  | (i, x) :: r, (j, c) :: s => i = j ∧ (∃ v, Is (ev env x) v ∧ Cells v c) ∧ Parts env r s
  | _, _ => False
/-- The cells of a composite with its parts laid: 'place' tells where. -/
def laid (place : Nat → Option (Nat × Nat)) (xs : List LV) : List (Nat × List LV) → Option (List LV)
  | [] => some xs
  | (i, c) :: r => match place i with
    | none => none
    | some (off, size) => bif (Nat.beq c.length size && Nat.ble (off + c.length) xs.length) then laid place (putAt xs off c) r else none
theorem fill_laid {ph : PH} {a : Act} {place : Nat → Option (Nat × Nat)} : ∀ {ps : List (Nat × Operand)} {qs : List (Nat × List LV)} {cs : Array Value} {xs ys : List LV}, (∀ p ∈ ps, Rep ph (a.eval p.2) (ev env p.2)) → Parts env ps qs → CReps ph cs xs → laid place xs qs = some ys →
    ∃ cs', Instr.fill place cs (ps.map fun p => (p.1, a.eval p.2)) = some cs' ∧ CReps ph cs' ys
  | [], [], cs, xs, ys, _, _, hc, hl => by
    simp only [laid, Option.some.injEq] at hl
    subst hl
    exact ⟨cs, rfl, hc⟩
  | (i, x) :: ps, (j, c) :: qs, cs, xs, ys, ha, ⟨hij, ⟨v, hv, hcv⟩, hp⟩, hc, hl => by
    subst hij
    have h1 := hcv _ _ (hv _ _ (ha (i, x) (by simp)))
    simp only [laid] at hl
    simp only [List.map_cons, Instr.fill]
    split at hl
    · cases hl
    · rename_i off size hpl
      cases hcond : (Nat.beq c.length size && Nat.ble (off + c.length) xs.length) with
      | false => rw [hcond] at hl; cases hl
      | true =>
        rw [hcond] at hl
        simp only [cond_true] at hl
        obtain ⟨hs, hle⟩ := (Bool.and_eq_true _ _).mp hcond
        have hs := Nat.eq_of_beq_eq_true hs
        have hle := Nat.le_of_ble_eq_true hle
        have hsz : (a.eval x).cells.size = c.length := h1.1.1
        have hcs : cs.size = xs.length := hc.1.1
        obtain ⟨f1, f2⟩ := foldl_cells (a.eval x) off cs (by omega)
        have hnc : (decide ((a.eval x).cells.size ≠ size) || decide (off + (a.eval x).cells.size > cs.size)) = false := by
          rw [Bool.or_eq_false_iff, decide_eq_false_iff_not, decide_eq_false_iff_not]
          omega
        simp only [hpl, hnc, Bool.false_eq_true, if_false]
        refine fill_laid (xs := putAt xs off c) (fun p hp' => ha p (List.mem_cons_of_mem _ hp')) hp ⟨⟨?_, fun i' z y hz hy => ?_⟩, fun i' z hz => ?_⟩ hl
        · rw [putAt_length _ _ _ hle]
          exact f1.trans hcs
        · rw [f2] at hz
          rw [putAt_get _ _ _ hle] at hy
          rw [hsz] at hz
          by_cases hin : off ≤ i' ∧ i' < off + c.length
          · rw [if_pos hin] at hz hy
            exact h1.1.2 _ z y hz hy
          · rw [if_neg hin] at hz hy
            exact hc.1.2 _ z y hz hy
        · rw [f2] at hz
          split at hz
          · exact h1.2 _ z hz
          · exact hc.2 _ z hz
  | [], (_, _) :: _, _, _, _, _, h, _, _ => h.elim
  | (_, _) :: _, [], _, _, _, _, h, _, _ => h.elim
theorem raws_creps {ph : PH} {cs : Array Value} (h : ∀ (i : Nat) (c : Value), cs[i]? = some c → c.oneCell' = true) : CReps ph cs (raws cs.toList) := ⟨⟨by simp [raws], fun i c x h1 h2 => by
  simp [raws] at h2
  obtain ⟨v, hv, rfl⟩ := h2
  rw [hv] at h1
  injection h1 with h1
  subst h1
  exact .raw _⟩, h⟩
/-- T{..}, a struct. -/
theorem LU.build {t : TypeId} {ps : Array (Nat × Operand)} {qs : List (Nat × List LV)} {z : Value} {fs : Array Field} {places : Array (Nat × Nat)} {ys : List LV} (ht : P.underlying t = some (.struct fs)) (hz : ∀ w, (zeroValue t).run P w = .ok z w) (hz1 : ∀ (i : Nat) (c : Value), z.cells[i]? = some c → c.oneCell' = true)
    (hpl : ∀ w, (fs.mapM (fun f => do pure (f.offset, ← sizeOf f.type)) : Sem _).run P w = .ok places w) (hp : Parts env ps.toList qs) (hl' : laid (places[·]?) (raws z.cells.toList) qs = some ys) : LU P env H ⟨d, .build t ps, ty, pos, af, g⟩ (.agg ys) := .of_run fun ph a hl w0 w hinv => by
  obtain ⟨cs', hf, hc⟩ := fill_laid (a := a) (fun p hp' => hl p.2 (by simp only [Array.mem_def, Op.operands]; exact List.mem_map.2 ⟨p, hp', rfl⟩)) hp (raws_creps hz1) hl'
  refine ⟨.agg cs', ?_, .agg cs' ys hc.1.1 hc.2 hc.1.2⟩
  have hm : (ps.map fun (p : Nat × Operand) => (p.1, a.eval p.2)).toList = ps.toList.map fun p => (p.1, a.eval p.2) := by simp
  simp only [execOp, Instr.build, Sem.run_bind, hz, run_underlying ht, Result.andThen_ok, hpl, hm, hf, Sem.run_pure]
/-- T{..}, an array. -/
theorem LU.buildA {t e : TypeId} {n size : Nat} {ps : Array (Nat × Operand)} {qs : List (Nat × List LV)} {z : Value} {ys : List LV} (ht : P.underlying t = some (.array n e)) (hs : ∀ w, (sizeOf e).run P w = .ok size w) (hz : ∀ w, (zeroValue t).run P w = .ok z w) (hz1 : ∀ (i : Nat) (c : Value), z.cells[i]? = some c → c.oneCell' = true)
    (hp : Parts env ps.toList qs) (hl' : laid (fun i => some (i * size, size)) (raws z.cells.toList) qs = some ys) : LU P env H ⟨d, .build t ps, ty, pos, af, g⟩ (.agg ys) := .of_run fun ph a hl w0 w hinv => by
  obtain ⟨cs', hf, hc⟩ := fill_laid (a := a) (fun p hp' => hl p.2 (by simp only [Array.mem_def, Op.operands]; exact List.mem_map.2 ⟨p, hp', rfl⟩)) hp (raws_creps hz1) hl'
  refine ⟨.agg cs', ?_, .agg cs' ys hc.1.1 hc.2 hc.1.2⟩
  have hm : (ps.map fun (p : Nat × Operand) => (p.1, a.eval p.2)).toList = ps.toList.map fun p => (p.1, a.eval p.2) := by simp
  simp only [execOp, Instr.build, Sem.run_bind, hz, run_underlying ht, Result.andThen_ok, hs, hm, hf, Sem.run_pure]
/-- Elements out of cells. -/
def chunks (size : Nat) : Nat → List LV → List (List LV)
  | 0, _ => []
  | n + 1, l => l.take size :: chunks size n (l.drop size)
theorem chunks_length (size : Nat) : ∀ (n : Nat) (l : List LV), (chunks size n l).length = n
  | 0, _ => rfl
  | n + 1, l => by simp [chunks, chunks_length size n]
theorem chunks_get (size : Nat) : ∀ (n : Nat) (l : List LV) (i : Nat), (chunks size n l)[i]? = if i < n then some ((l.drop (i * size)).take size) else none
  | 0, l, i => by simp [chunks]
  | n + 1, l, 0 => by simp [chunks]
  | n + 1, l, i + 1 => by
    rw [chunks, List.getElem?_cons_succ, chunks_get size n, List.drop_drop]
    by_cases h : i < n
    · rw [if_pos h, if_pos (by omega), show size + i * size = (i + 1) * size by rw [Nat.add_mul, Nat.one_mul, Nat.add_comm]]
    · rw [if_neg h, if_neg (by omega)]
/-- Known cells, seen as0 a slice. -/
theorem rep_chunks {ph : PH} {b size n c : Nat} {cs : Array Value} {xs : List LV} {k : Cap} (hp : ∀ i, i < n * size → ph ⟨b, i, none⟩ = cs[i]?) (hr : CReps ph cs xs) (hl : n * size ≤ cs.size) (hnc : n ≤ c) (hcap : CapOk (some ⟨b, 0, none⟩) n c size k) : Rep ph (.slice (some ⟨b, 0, none⟩) n c) (.sl size (chunks size n xs) k) := by
  have hxl : cs.size = xs.length := hr.1.1
  have hin : ∀ (i : Nat) (e : List LV) (j : Nat) (x : LV), (chunks size n xs)[i]? = some e → e[j]? = some x → i * size + j < n * size ∧ xs[i * size + j]? = some x := fun i e j x hi hj => by
    rw [chunks_get] at hi
    split at hi
    · rename_i hlt
      injection hi with hi
      subst hi
      rw [List.getElem?_take] at hj
      split at hj
      · rename_i hjs
        rw [List.getElem?_drop] at hj
        have : i * size + size ≤ n * size := by rw [← Nat.succ_mul]; exact Nat.mul_le_mul_right _ hlt
        exact ⟨by omega, hj⟩
      · cases hj
    · cases hi
  refine .sl size _ k _ n c ⟨b, 0, none⟩ (fun i => cs.getD i undef) (fun _ => rfl) (chunks_length _ _ _) hnc (fun e he => ?_) hcap (fun i e j x hi hj => ?_) (fun i e j x hi hj => ?_)
  · obtain ⟨i, hi⟩ := List.mem_iff_getElem?.1 he
    rw [chunks_get] at hi
    split at hi
    · rename_i hlt
      injection hi with hi
      subst hi
      have : i * size + size ≤ n * size := by rw [← Nat.succ_mul]; exact Nat.mul_le_mul_right _ hlt
      rw [List.length_take, List.length_drop]
      omega
    · cases hi
  · obtain ⟨h1, h2⟩ := hin i e j x hi hj
    have hlt : i * size + j < cs.size := by omega
    rw [add_lit, Nat.zero_add, hp _ h1, Array.getElem?_eq_getElem hlt]
    simp [hlt]
  · obtain ⟨h1, h2⟩ := hin i e j x hi hj
    have hlt : i * size + j < cs.size := by omega
    simp only [Array.getD_eq_getD_getElem?, Array.getElem?_eq_getElem hlt, Option.getD_some]
    exact hr.1.2 _ _ _ (Array.getElem?_eq_getElem hlt) h2
/-- []T{..} -/
theorem lit_run {t e : TypeId} {n size : Nat} {ps : Array (Nat × Operand)} {qs : List (Nat × List LV)} {z : Value} {ys : List LV} (ht : P.underlying t = some (.slice e)) (hs : ∀ w, (sizeOf e).run P w = .ok size w) (hz : ∀ w, (zeroValue e).run P w = .ok z w) (hz1 : ∀ (i : Nat) (c : Value), z.cells[i]? = some c → c.oneCell' = true) (hzs : z.cells.size = size) (hs0 : 0 < size) (hn : n * size ≤ 16777216)
    (hp : Parts env ps.toList qs) (hl' : laid (fun i => some (i * size, size)) ((List.replicate n (raws z.cells.toList)).flatten) qs = some ys) {ph : PH} {a : Act} (hl : ∀ x ∈ (Op.buildSlice t n ps).operands, Rep ph (a.eval x) (ev env x)) (w : World) : ∃ cs', (execOp a.eval ⟨d, .buildSlice t n ps, ty, pos, af, g⟩).run P w = .ok (.value (.slice (some ⟨w.heap.size, 0, none⟩) n n)) (w.alloc (.cells cs' e)) ∧ CReps ph cs' ys ∧ cs'.size = n * size := by
  have hzl : ∀ i, i < n * size → ((Array.range (n * size)).map (z.cells[· % z.cells.size]!))[i]? = z.cells[i % size]? := fun i hi => by
    have h1 : i % size < size := Nat.mod_lt _ hs0
    have h2 : i % size < z.cells.size := by omega
    rw [Array.getElem?_eq_getElem h2]
    simp only [Array.getElem?_map, Array.getElem?_range, hi, if_true, Option.map_some, hzs, Option.some.injEq]
    exact getElem!_pos z.cells _ h2
  have hrep : ∀ (n : Nat) (l : List LV) (i : Nat), l.length = size → ((List.replicate n l).flatten)[i]? = if i < n * size then l[i % size]? else none := by
    intro n
    induction n with
    | zero => intro l i _; simp
    | succ n ih =>
      intro l i hlen
      rw [List.replicate_succ, List.flatten_cons]
      by_cases hi : i < size
      · rw [List.getElem?_append_left (by omega), if_pos (by rw [Nat.succ_mul]; omega), Nat.mod_eq_of_lt hi]
      · rw [List.getElem?_append_right (by omega), ih l _ hlen, hlen]
        have e1 : (i - size) % size = i % size := by
          rw [← Nat.mod_eq_sub_mod (by omega)]
        by_cases h2 : i - size < n * size
        · rw [if_pos h2, if_pos (by rw [Nat.succ_mul]; omega), e1]
        · rw [if_neg h2, if_neg (by rw [Nat.succ_mul]; omega)]
  have hbase : CReps ph ((Array.range (n * size)).map (z.cells[· % z.cells.size]!)) ((List.replicate n (raws z.cells.toList)).flatten) := by
    refine ⟨⟨by simp [raws, hzs], fun i c x h1 h2 => ?_⟩, fun i c h1 => ?_⟩
    · rw [hrep n _ i (by simp [raws, hzs])] at h2
      split at h2
      · rename_i hi
        rw [hzl i hi] at h1
        simp [raws] at h2
        obtain ⟨v, hv, rfl⟩ := h2
        rw [hv] at h1
        injection h1 with h1
        subst h1
        exact .raw _
      · cases h2
    · have hi : i < n * size := by
        have := (Array.getElem?_eq_some_iff.1 h1).1
        simpa using this
      rw [hzl i hi] at h1
      exact hz1 _ c h1
  obtain ⟨cs', hf, hc⟩ := fill_laid (a := a) (fun p hp' => hl p.2 (by simp only [Array.mem_def, Op.operands]; exact List.mem_map.2 ⟨p, hp', rfl⟩)) hp hbase hl'
  have hm : (ps.map fun (p : Nat × Operand) => (p.1, a.eval p.2)).toList = ps.toList.map fun p => (p.1, a.eval p.2) := by simp
  have hcz : (Array.range (n * size)).map (z.cells[· % z.cells.size]!) = (Array.range (n * size)).map ((if n * size = 0 then #[] else z.cells)[· % (if n * size = 0 then #[] else z.cells).size]!) := by
    by_cases h0 : n * size = 0
    · rw [h0]; simp
    · rw [if_neg h0]
  have hsz : cs'.size = n * size := by
    have h1 := hc.1.1
    have : ∀ (qs : List (Nat × List LV)) (xs ys : List LV), laid (fun i => some (i * size, size)) xs qs = some ys → ys.length = xs.length := by
      intro qs
      induction qs with
      | nil => intro xs ys h; simp only [laid, Option.some.injEq] at h; rw [h]
      | cons q qs ih =>
        intro xs ys h
        obtain ⟨i, c⟩ := q
        simp only [laid] at h
        cases hcond : (Nat.beq c.length size && Nat.ble (i * size + c.length) xs.length) with
        | false => rw [hcond] at h; cases h
        | true =>
          rw [hcond] at h
          simp only [cond_true] at h
          obtain ⟨hs, hle⟩ := (Bool.and_eq_true _ _).mp hcond
          rw [ih _ _ h, putAt_length _ _ _ (Nat.le_of_ble_eq_true hle)]
    rw [h1, this _ _ _ hl']
    simp [raws, hzs]
  refine ⟨cs', ?_, hc, hsz⟩
  have hn' : ¬ n * size > 2 ^ 24 := by omega
  rw [hcz] at hf
  simp only [execOp, Instr.buildSlice, Sem.run_bind, run_underlying ht, Result.andThen_ok, hs, hn', if_false, hm, Sem.run_pure]
  by_cases h0 : n * size = 0
  · simp only [h0, if_true] at hf
    simp only [h0, if_true, Sem.run_bind, Sem.run_pure, Result.andThen_ok, hf, newRow, newObj, Sem.run]
    rfl
  · simp only [h0, if_false] at hf
    simp only [h0, if_false, Sem.run_bind, hz, Sem.run_pure, Result.andThen_ok, hf, newRow, newObj, Sem.run]
    rfl
theorem LU.lit {t e : TypeId} {n size : Nat} {ps : Array (Nat × Operand)} {qs : List (Nat × List LV)} {z : Value} {ys : List LV} (ht : P.underlying t = some (.slice e)) (hs : ∀ w, (sizeOf e).run P w = .ok size w) (hz : ∀ w, (zeroValue e).run P w = .ok z w) (hz1 : ∀ (i : Nat) (c : Value), z.cells[i]? = some c → c.oneCell' = true) (hzs : z.cells.size = size) (hs0 : 0 < size) (hn : n * size ≤ 16777216)
    (hp : Parts env ps.toList qs) (hl' : laid (fun i => some (i * size, size)) ((List.replicate n (raws z.cells.toList)).flatten) qs = some ys) : LU P env H ⟨d, .buildSlice t n ps, ty, pos, af, g⟩ (.sl size (chunks size n ys) .full) := .of_run' fun ph a hl w0 w hinv => by
  obtain ⟨cs', hrun, hc, hsz⟩ := lit_run (d := d) (ty := ty) (pos := pos) (af := af) (g := g) ht hs hz hz1 hzs hs0 hn hp hl' hl w
  obtain ⟨hi, hle⟩ := hinv.learn (w' := w.alloc (.cells cs' e)) ((Below.refl _ _).alloc (Nat.le_refl _) _) (heap_new w _) cs'.size (fun i c _ h => hc.2 i c h)
  exact ⟨.slice (some ⟨w.heap.size, 0, none⟩) n n, w.alloc (.cells cs' e), _, hrun, hle, hi, rep_chunks (cs := cs') (fun i hi' => PH.ext_in ⟨Nat.zero_le _, by omega⟩) (hc.mono hle) (by omega) (Nat.le_refl _) rfl⟩
end
end Go.L
namespace Go.L
open Go.RowKit
section
variable {P : Program} {env : List (Nat × LV)} {H : List Atom} {d : Option Tmp} {ty : TypeId} {pos : String} {af : Array Edge} {g : Option (Nat × Bool)} {st : LS} {K : LS → Prop}
/-- What a type of elements is. -/
structure El (P : Program) (e : TypeId) (z : Value) (size bytes : Nat) : Prop where
  info : ∃ i, P.info? e = some i ∧ i.zero = some z ∧ i.size = size ∧ i.bytes = bytes
  zsize : z.cells.size = size
  pos : 0 < size
theorem El.of {e : TypeId} {z : Value} {size bytes : Nat} (h : (P.info? e).map (fun i => (i.zero, i.size, i.bytes)) = some (some z, size, bytes)) (hz : z.cells.size = size) (hp : Nat.blt 0 size = true) : El P e z size bytes := by
  obtain ⟨i0, hi, hzz⟩ := Option.map_eq_some_iff.1 h
  simp only [Prod.mk.injEq] at hzz
  exact ⟨⟨i0, hi, hzz.1, hzz.2.1, hzz.2.2⟩, hz, by simpa [Nat.blt_eq] using hp⟩
/-- A source of an append: a slice by its content, or a string. -/
def SrcG (P : Program) (A : List Atom) (tx : TypeId) (size : Nat) (x : LV) (ys : List (List LV)) : Prop := (∀ e ∈ ys, e.length = size) ∧
  ∀ w0 ph w H u, (∀ a ∈ A, a ∈ H) → Inv w0 ph w H → Rep ph u x → ∃ news : List Value, Src P size tx u ys.length news w ∧ CReps ph news.toArray ys.flatten
abbrev SrcL (P : Program) (tx : TypeId) (size : Nat) (x : LV) (ys : List (List LV)) : Prop := SrcG P [] tx size x ys
theorem flatten_len {size : Nat} : ∀ {ys : List (List LV)}, (∀ e ∈ ys, e.length = size) → ys.flatten.length = ys.length * size
  | [], _ => by simp
  | y :: ys, h => by
    rw [List.flatten_cons, List.length_append, flatten_len (fun e he => h e (List.mem_cons_of_mem _ he)), h y (by simp), List.length_cons, Nat.succ_mul, Nat.add_comm]
theorem flatten_get {size : Nat} : ∀ {ys : List (List LV)}, (∀ e ∈ ys, e.length = size) → ∀ (i j : Nat) (e : List LV) (x : LV), ys[i]? = some e → e[j]? = some x → ys.flatten[i * size + j]? = some x
  | [], _, i, j, e, x, h, _ => by simp at h
  | y :: ys, hs, 0, j, e, x, h, hj => by
    simp at h
    subst h
    rw [List.flatten_cons, Nat.zero_mul, Nat.zero_add, List.getElem?_append_left (List.getElem?_eq_some_iff.1 hj).1]
    exact hj
  | y :: ys, hs, i + 1, j, e, x, h, hj => by
    rw [List.getElem?_cons_succ] at h
    have hy := hs y (by simp)
    rw [List.flatten_cons, List.getElem?_append_right (by rw [Nat.succ_mul]; omega), hy, show (i + 1) * size + j - size = i * size + j by rw [Nat.succ_mul]; omega]
    exact flatten_get (fun e he => hs e (List.mem_cons_of_mem _ he)) i j e x h hj
theorem flatten_inv {size : Nat} (hs0 : 0 < size) : ∀ {ys : List (List LV)}, (∀ e ∈ ys, e.length = size) → ∀ (k : Nat) (x : LV), ys.flatten[k]? = some x → ∃ e, ys[k / size]? = some e ∧ e[k % size]? = some x
  | [], _, k, x, h => by simp at h
  | y :: ys, hs, k, x, h => by
    have hy := hs y (by simp)
    rw [List.flatten_cons] at h
    by_cases hk : k < size
    · rw [List.getElem?_append_left (by omega)] at h
      exact ⟨y, by rw [Nat.div_eq_of_lt hk]; rfl, by rw [Nat.mod_eq_of_lt hk]; exact h⟩
    · rw [List.getElem?_append_right (by omega), hy] at h
      obtain ⟨e, h1, h2⟩ := flatten_inv hs0 (fun e he => hs e (List.mem_cons_of_mem _ he)) (k - size) x h
      refine ⟨e, ?_, by rw [Nat.mod_eq_sub_mod (by omega)]; exact h2⟩
      rw [Nat.div_eq_sub_div hs0 (by omega), List.getElem?_cons_succ]
      exact h1
/-- The cells of a slice that is known by its content. -/
theorem sl_cells {w0 : Base} {ph : PH} {w : World} (hinv : Inv w0 ph w H) {A : Option Addr} {n c size : Nat} (hs0 : 0 < size) {es : List (List LV)} {k : Cap} (r : Rep ph (.slice A n c) (.sl size es k)) :
    ∃ cs : List Value, CReps ph cs.toArray es.flatten ∧ cs.length = n * size ∧ ∀ ad, A = some ad → ∀ j v, cs[j]? = some v → ph (ad.add j) = some v ∧ w.cell? (ad.add j) = some v := by
  cases r with | sl _ _ _ _ _ _ ad u hA hn hnc hs hcap hp hr =>
    have hfl : es.flatten.length = n * size := by rw [flatten_len hs, hn]
    refine ⟨(List.range (n * size)).map u, ⟨⟨by simp [hfl], fun i v x h1 h2 => ?_⟩, fun i v h1 => ?_⟩, by simp, fun ad' hA' j v hj => ?_⟩
    · simp at h1
      obtain ⟨m, hm, rfl⟩ := h1
      obtain ⟨h3, rfl⟩ := List.getElem?_eq_some_iff.1 hm
      simp only [List.getElem_range]
      obtain ⟨e, h4, h5⟩ := flatten_inv hs0 hs i x h2
      have := hr _ _ _ _ h4 h5
      rwa [Nat.mul_comm, Nat.div_add_mod] at this
    · simp at h1
      obtain ⟨m, hm, rfl⟩ := h1
      obtain ⟨h3, rfl⟩ := List.getElem?_eq_some_iff.1 hm
      simp only [List.getElem_range, List.length_range] at h3 ⊢
      obtain ⟨e, h4, h5⟩ := flatten_inv hs0 hs i es.flatten[i] (List.getElem?_eq_getElem (by omega))
      have := hp _ _ _ _ h4 h5
      rw [Nat.mul_comm, Nat.div_add_mod] at this
      exact hinv.one _ _ this
    · simp at hj
      obtain ⟨m, hm, rfl⟩ := hj
      obtain ⟨h3, rfl⟩ := List.getElem?_eq_some_iff.1 hm
      simp only [List.getElem_range, List.length_range] at h3 ⊢
      have h0 : 0 < es.length := by
        rcases Nat.eq_zero_or_pos n with h | h
        · subst h; simp at h3
        · omega
      have hA2 := hA h0
      rw [hA2] at hA'
      injection hA' with hA'
      subst hA'
      obtain ⟨e, h4, h5⟩ := flatten_inv hs0 hs j es.flatten[j] (List.getElem?_eq_getElem (by omega))
      have := hp _ _ _ _ h4 h5
      rw [Nat.mul_comm, Nat.div_add_mod] at this
      exact ⟨this, hinv.cell _ _ this⟩
theorem SrcL.slice {tx e : TypeId} {size : Nat} {ys : List (List LV)} {k : Cap} (ht : P.underlying tx = some (.slice e)) (hs0 : 0 < size) (hys : ∀ e ∈ ys, e.length = size) : SrcL P tx size (.sl size ys k) ys := ⟨hys, fun w0 ph w H u _ hi r => by
  obtain ⟨A, n, c, rfl, hn, h0⟩ : ∃ A n c, u = .slice A n c ∧ ys.length = n ∧ (A = none → n = 0) := by
    cases r with | sl _ _ _ A n c ad u hA hn hnc hs hcap hp hr =>
      refine ⟨A, n, c, rfl, hn, fun e => ?_⟩
      rcases Nat.eq_zero_or_pos n with h | h
      · exact h
      · have := hA (by omega)
        rw [e] at this
        cases this
  obtain ⟨cs, hc, hl, hcell⟩ := sl_cells hi hs0 r
  subst hn
  refine ⟨cs, ?_, hc⟩
  cases A with
  | none =>
    have hz := h0 rfl
    obtain rfl : cs = [] := List.eq_nil_of_length_eq_zero (by rw [hl, hz]; simp)
    have := Src.ofNil (P := P) w (size := size) ht c
    rwa [← hz] at this
  | some ad => exact Src.ofSlice w ht ad ys.length c cs hl (fun j v h => (hcell ad rfl j v h).2) (fun v hv => by
      obtain ⟨i, hi'⟩ := List.mem_iff_getElem?.1 hv
      exact hc.2 i v (by simpa using hi'))⟩
/-- Bytes, as0 elements. -/
def byteEls (l : List UInt8) : List (List LV) := l.map fun b => [.raw (.int .u8 b.toNat)]
abbrev Bytes (l : List UInt8) (k : Cap) : LV := .sl 1 (byteEls l) k
abbrev Str (l : List UInt8) : LV := .raw (.string ⟨l.toArray⟩)
theorem byteEls_flat (l : List UInt8) : (byteEls l).flatten = l.map fun b => LV.raw (.int .u8 b.toNat) := by
  unfold byteEls
  induction l with
  | nil => rfl
  | cons a l ih => simp [ih]
theorem chunks_flat (size : Nat) : ∀ (ys : List (List LV)) (n : Nat) (r : List LV), ys.length = n → (∀ e ∈ ys, e.length = size) → chunks size n (ys.flatten ++ r) = ys
  | [], n, r, h, _ => by subst h; rfl
  | y :: ys, n, r, h, hs => by
    subst h
    have hy := hs y (by simp)
    simp only [List.length_cons, chunks, List.flatten_cons, List.append_assoc]
    rw [List.take_append_of_le_length (by omega), List.take_of_length_le (by omega), List.drop_append_of_le_length (by omega), List.drop_of_length_le (by omega), List.nil_append, chunks_flat size ys _ r rfl (fun e he => hs e (List.mem_cons_of_mem _ he))]
/-- Known cells, as0 elements that are told. -/
theorem rep_known {ph : PH} {b off size n c : Nat} {cs : Array Value} {es : List (List LV)} {k : Cap} (hs : ∀ e ∈ es, e.length = size) (hn : es.length = n) (hp : ∀ i, i < n * size → ph ⟨b, off + i, none⟩ = cs[i]?) (hr : CReps ph cs es.flatten) (hnc : n ≤ c) (hcap : CapOk (some ⟨b, off, none⟩) n c size k) : Rep ph (.slice (some ⟨b, off, none⟩) n c) (.sl size es k) := by
  have hfl := flatten_len hs
  have hsz : cs.size = n * size := by rw [hr.1.1, hfl, hn]
  have hlt : ∀ (i : Nat) (e : List LV) (j : Nat) (x : LV), es[i]? = some e → e[j]? = some x → i * size + j < n * size := fun i e j x hi hj => by
    have h1 := (List.getElem?_eq_some_iff.1 hi).1
    have h2 := (List.getElem?_eq_some_iff.1 hj).1
    have h3 := hs e (List.mem_of_getElem? hi)
    have : i * size + size ≤ n * size := by rw [← Nat.succ_mul]; exact Nat.mul_le_mul_right _ (by omega)
    omega
  refine .sl size es k _ n c ⟨b, off, none⟩ (fun i => cs.getD i undef) (fun _ => rfl) hn hnc hs hcap (fun i e j x hi hj => ?_) (fun i e j x hi hj => ?_)
  · have h1 := hlt i e j x hi hj
    rw [add_lit, hp _ h1, Array.getElem?_eq_getElem (by omega)]
    simp [show i * size + j < cs.size by omega]
  · have h1 := hlt i e j x hi hj
    have h2 : i * size + j < cs.size := by omega
    simp only [Array.getD_eq_getD_getElem?, Array.getElem?_eq_getElem h2, Option.getD_some]
    exact hr.1.2 _ _ _ (Array.getElem?_eq_getElem h2) (flatten_get hs i j e x hi hj)
theorem creps_append {ph : PH} {as0 bs : List Value} {xs ys : List LV} (h : CReps ph as0.toArray xs) (k : CReps ph bs.toArray ys) : CReps ph (as0 ++ bs).toArray (xs ++ ys) := by
  have h1 : as0.length = xs.length := by simpa using h.1.1
  have h2 : bs.length = ys.length := by simpa using k.1.1
  refine ⟨⟨by simp [h1, h2], fun i c x hc hx => ?_⟩, fun i c hc => ?_⟩
  · simp only [List.getElem?_toArray] at hc
    by_cases hi : i < as0.length
    · rw [List.getElem?_append_left hi] at hc
      rw [List.getElem?_append_left (by omega)] at hx
      exact h.1.2 i c x (by simpa using hc) hx
    · rw [List.getElem?_append_right (by omega)] at hc
      rw [List.getElem?_append_right (by omega)] at hx
      exact k.1.2 (i - as0.length) c x (by simpa using hc) (by rw [h1]; exact hx)
  · simp only [List.getElem?_toArray] at hc
    by_cases hi : i < as0.length
    · rw [List.getElem?_append_left hi] at hc
      exact h.2 i c (by simpa using hc)
    · rw [List.getElem?_append_right (by omega)] at hc
      exact k.2 (i - as0.length) c (by simpa using hc)
theorem size_zeros (z : Array Value) (n : Nat) : (Builtin.zeroCells z n).size = n * z.size := by simp [Builtin.zeroCells]
/-- An append that must make a new row. -/
theorem append_grows {A0 : List Atom} {w0 : Base} {ph : PH} {w : World} (hA0 : ∀ a ∈ A0, a ∈ H) (hinv : Inv w0 ph w H) {t tx ty' e : TypeId} {z : Value} {size by_ : Nat} (ht : P.underlying t = some (.slice e)) (hel : El P e z size by_) {A : Option Addr} {n c : Nat} {es ys : List (List LV)} {k : Cap} {x : Value} {y : LV}
    (hes : ∀ e ∈ es, e.length = size) (hn : es.length = n) (r : Rep ph (.slice A n c) (.sl size es k)) (hs : SrcG P A0 tx size y ys) (ry : Rep ph x y) (hg : c < n + ys.length) (hb : (n + ys.length) * by_ ≤ 140737488355328) (hb0 : n + ys.length ≤ 9223372036854775807) :
    ∃ c' w', (Builtin.append_ #[t, tx] ty' #[.slice A n c, x]).run P w = .ok (.slice (some ⟨w.heap.size, 0, none⟩) (n + ys.length) c') w' ∧ n + ys.length ≤ c' ∧
      ∃ ph', PH.le ph ph' ∧ Inv w0 ph' w' (.tail w.heap.size ((n + ys.length) * size) (c' * size) :: H) ∧ ∀ k', CapOk (some ⟨w.heap.size, 0, none⟩) (n + ys.length) c' size k' → Rep ph' (.slice (some ⟨w.heap.size, 0, none⟩) (n + ys.length) c') (.sl size (es ++ ys) k') := by
  obtain ⟨⟨i, hi, hz, hsz, hby⟩, hzs, hs0⟩ := hel
  obtain ⟨olds, ho, hol, hoc⟩ := sl_cells hinv hs0 r
  obtain ⟨news, hsrc, hnc⟩ := hs.2 w0 ph w H x hA0 hinv ry
  have hnl : news.length = ys.length * size := hsrc.newsLen
  have hold : (Builtin.firstCells i.size n (.slice A n c)).run P w.drew = .ok olds.toArray w.drew := by
    cases A with
    | none =>
      have : n = 0 := by
        cases r with | sl _ _ _ _ _ _ ad u hA hn' hnc' hs' hcap hp hr =>
          rcases Nat.eq_zero_or_pos n with h | h
          · exact h
          · have := hA (by omega)
            cases this
      subst this
      obtain rfl : olds = [] := List.eq_nil_of_length_eq_zero (by rw [hol]; simp)
      exact run_firstCells_none _ _ _ _ _
    | some ad => exact run_firstCells_some _ _ _ _ _ _ _ (by rw [hol, hsz]) (fun j v h => by simpa using (hoc ad rfl j v h).2)
  have hrun := run_append_grow_src (P := P) w t tx ty' e i z ht hi hz A n c olds hold x ys.length news (hsz ▸ hsrc) hg (by omega) (by rw [hby]; exact growslice_fits hg hb)
  have hge := grownCap_ge w (n + ys.length) c e
  refine ⟨_, _, hrun, hge, ?_⟩
  have hcells : ((olds ++ news).toArray ++ Builtin.zeroCells z.cells (grownCap w (n + ys.length) c e - (n + ys.length))).size = grownCap w (n + ys.length) c e * size := by
    simp only [Array.size_append, List.size_toArray, List.length_append, size_zeros, hol, hnl, hzs]
    rw [← Nat.add_mul, ← Nat.add_mul]
    congr 1
    omega
  have hfirst : ∀ i, i < (n + ys.length) * size → ((olds ++ news).toArray ++ Builtin.zeroCells z.cells (grownCap w (n + ys.length) c e - (n + ys.length)))[i]? = (olds ++ news).toArray[i]? := fun i hi => by
    have : i < (olds ++ news).toArray.size := by simp [hol, hnl]; rw [← Nat.add_mul]; exact hi
    rw [Array.getElem?_append_left this]
  have hall := creps_append ho hnc
  obtain ⟨hi', hle⟩ := hinv.learnTail (w' := w.drew.alloc (.cells ((olds ++ news).toArray ++ Builtin.zeroCells z.cells (grownCap w (n + ys.length) c e - (n + ys.length))) e)) ((Below.drew (Below.refl _ _)).alloc (Nat.le_refl _) _) (heap_new w.drew _) ((n + ys.length) * size) (grownCap w (n + ys.length) c e * size) (by rw [hcells]; exact Nat.le_refl _) (fun i v hi hv => by
    rw [hfirst i hi] at hv
    exact hall.2 i v hv)
  refine ⟨_, hle, hi', fun k' hk' => rep_known (cs := (olds ++ news).toArray) (fun e he => (List.mem_append.1 he).elim (hes e) (hs.1 e)) (by simp [hn]) (fun i hi => ?_) (by rw [List.flatten_append]; exact hall.mono hle) hge hk'⟩
  rw [Nat.zero_add, PH.ext_in ⟨Nat.zero_le _, hi⟩, hfirst i hi]
theorem rep_es {ph : PH} {A : Option Addr} {n c size : Nat} {es : List (List LV)} {k : Cap} (r : Rep ph (.slice A n c) (.sl size es k)) : (∀ e ∈ es, e.length = size) ∧ es.length = n ∧ n ≤ c ∧ CapOk A n c size k := by
  cases r with | sl _ _ _ _ _ _ ad u hA hn hnc hs hcap hp hr => exact ⟨hs, hn, hnc, hcap⟩
theorem rep_slice_form {ph : PH} {u : Value} {size : Nat} {es : List (List LV)} {k : Cap} (r : Rep ph u (.sl size es k)) : ∃ A n c, u = .slice A n c := by cases r; exact ⟨_, _, _, rfl⟩
theorem append_nothing {A0 : List Atom} {w0 : Base} {ph : PH} {w : World} (hA0 : ∀ a ∈ A0, a ∈ H) (hinv : Inv w0 ph w H) {t tx ty' e : TypeId} {z : Value} {size by_ : Nat} (ht : P.underlying t = some (.slice e)) (hel : El P e z size by_) {A : Option Addr} {n c : Nat} (hnc : n ≤ c) {x : Value} {y : LV}
    (hs : SrcG P A0 tx size y []) (ry : Rep ph x y) : (Builtin.append_ #[t, tx] ty' #[.slice A n c, x]).run P w = .ok (.slice A n c) w := by
  obtain ⟨⟨i, hi, hz, hsz, hby⟩, hzs, hs0⟩ := hel
  obtain ⟨news, hsrc, hncr⟩ := hs.2 w0 ph w H x hA0 hinv ry
  have := run_append_nothing (P := P) w t tx ty' e i ht hi A n c hnc x (by rw [hsz]; have : news = [] := List.eq_nil_of_length_eq_zero (by rw [hsrc.newsLen]; simp); subst this; exact hsrc)
  simpa using this
/-- append(s, x..) where s has no room: nothing but the value. -/
theorem LU.append {s x : Operand} {t tx e : TypeId} {z : Value} {size by_ : Nat} {es ys : List (List LV)} {y : LV} (ht : P.underlying t = some (.slice e)) (hel : El P e z size by_) (hs : Is (ev env s) (.sl size es .full)) (hx : Is (ev env x) y) (hy : SrcL P tx size y ys) (hb : (es.length + ys.length) * by_ ≤ 140737488355328) (hb0 : es.length + ys.length ≤ 9223372036854775807) :
    LU P env H ⟨d, .call { callee := .builtin .append, args := #[s, x], argTypes := #[t, tx] }, ty, pos, af, g⟩ (.sl size (es ++ ys) .unk) := .of_run' fun ph a hl w0 w hinv => by
  have r := hs _ _ (hl s (by simp [Op.operands, Call.operands]))
  have ry := hx _ _ (hl x (by simp [Op.operands, Call.operands]))
  obtain ⟨A, n, c, hu⟩ := rep_slice_form r
  rw [hu] at r
  obtain ⟨hes, hn, hnc, hcap⟩ := rep_es r
  have hcap : n = c := hcap
  have hrun : ∀ v w', (Builtin.append_ #[t, tx] ty #[.slice A n c, a.eval x]).run P w = .ok v w' → (execOp a.eval ⟨d, .call { callee := .builtin .append, args := #[s, x], argTypes := #[t, tx] }, ty, pos, af, g⟩).run P w = .ok (.value v) w' := fun v w' h => by
    simp [execOp, resolve, invoke, builtin, hu, h]
  by_cases h0 : ys.length = 0
  · obtain rfl := List.eq_nil_of_length_eq_zero h0
    exact ⟨_, w, ph, hrun _ _ (append_nothing (by simp) hinv ht hel hnc hy ry), PH.le.refl _, hinv, by rw [List.append_nil]; exact Is.unk _ _ r⟩
  · obtain ⟨c', w', h1, h2, ph', h3, h4, h5⟩ := append_grows (ty' := ty) (by simp) hinv ht hel hes hn r hy ry (by omega) (by rw [← hn]; exact hb) (by omega)
    exact ⟨_, w', ph', hrun _ _ h1, h3, (HSub.drop (HSub.refl _)).app h4, h5 .unk trivial⟩
theorem setCells_cell {b : Nat} : ∀ (vs : List Value) (o : Nat) (w : World), (∀ j, j < vs.length → (w.cell? ⟨b, o + j, none⟩).isSome = true) → ∀ i, (w.setCells b o vs).cell? ⟨b, i, none⟩ = (if o ≤ i ∧ i < o + vs.length then vs[i - o]? else w.cell? ⟨b, i, none⟩) ∧ (w.setCells b o vs).frozen? ⟨b, i, none⟩ = w.frozen? ⟨b, i, none⟩
  | [], o, w, _, i => by
    have : ¬ (o ≤ i ∧ i < o + ([] : List Value).length) := by simp only [List.length_nil]; omega
    rw [if_neg this]
    exact ⟨rfl, rfl⟩
  | v :: vs, o, w, h, i => by
    have hc : ∀ j, (w.setCell ⟨b, o, none⟩ v).cell? ⟨b, j, none⟩ = if j = o then some v else w.cell? ⟨b, j, none⟩ := fun j => by
      have h0 := h 0 (by simp)
      rw [Nat.add_zero] at h0
      unfold World.cell? at h0 ⊢
      simp only [World.setCell, Array.getElem?_modify]
      simp only [if_true]
      cases hh : w.heap[b]? with
      | none => rw [hh] at h0; simp at h0
      | some ob =>
        rw [hh] at h0
        cases ob <;> simp at h0 ⊢
        rename_i cs t fr
        by_cases hj : j = o
        · subst hj
          simp [h0]
        · simp [hj, Array.getElem?_setIfInBounds_ne (Ne.symm hj)]
    have hf : ∀ j, (w.setCell ⟨b, o, none⟩ v).frozen? ⟨b, j, none⟩ = w.frozen? ⟨b, j, none⟩ := fun j => by
      unfold World.frozen?
      simp only [World.setCell, Array.getElem?_modify]
      simp only [if_true]
      cases hh : w.heap[b]? with
      | none => rfl
      | some ob => cases ob <;> simp
    rw [World.setCells]
    obtain ⟨h1, h2⟩ := setCells_cell vs (o + 1) (w.setCell ⟨b, o, none⟩ v) (fun j hj => by
      rw [hc]
      split
      · rfl
      · have := h (j + 1) (by simp; omega)
        rwa [show o + (j + 1) = o + 1 + j by omega] at this) i
    refine ⟨?_, h2.trans (hf i)⟩
    rw [h1, hc]
    simp only [List.length_cons]
    by_cases hi : i = o
    · subst hi
      rw [if_neg (by omega), if_pos rfl, if_pos (by omega), Nat.sub_self]
      rfl
    · by_cases hi2 : o + 1 ≤ i ∧ i < o + 1 + vs.length
      · rw [if_pos hi2, if_pos (by omega)]
        obtain ⟨m, rfl⟩ : ∃ m, i = o + 1 + m := ⟨i - (o + 1), by omega⟩
        rw [show o + 1 + m - (o + 1) = m by omega, show o + 1 + m - o = m + 1 by omega, List.getElem?_cons_succ]
      · rw [if_neg hi2, if_neg hi, if_neg (by omega)]
/-- append(s, x..) where the room behind s is one's own. -/
theorem LO.appendG {A0 : List Atom} (hA0 : ∀ a ∈ A0, a ∈ st.heap) {s x : Operand} {t tx e : TypeId} {z : Value} {size by_ : Nat} {es ys : List (List LV)} {y : LV} {d : Tmp} {b o c : Nat} (k : Nat) (hk : st.heap[k]? = some (.tail b o c)) (hd : Nat.blt d st.n.k = true) (ht : P.underlying t = some (.slice e)) (hel : El P e z size by_) (hs : Is (ev st.env s) (.sl size es (.tok b o c))) (hx : Is (ev st.env x) y) (hy : SrcG P A0 tx size y ys) (hb : (es.length + ys.length) * by_ ≤ 140737488355328) (hb0 : es.length + ys.length ≤ 9223372036854775807)
    (h : ∀ b' o' c', K ⟨st.n, (d, .sl size (es ++ ys) (.tok b' o' c')) :: st.env, .tail b' o' c' :: st.heap.eraseIdx k⟩) :
    LO P ⟨some d, .call { callee := .builtin .append, args := #[s, x], argTypes := #[t, tx] }, ty, pos, af, g⟩ st K := .of_run hd fun w0 ph a w rl => by
  have r := hs _ _ (rl.tmps.eval s)
  have ry := hx _ _ (rl.tmps.eval x)
  obtain ⟨A, n, cp, hu⟩ := rep_slice_form r
  rw [hu] at r
  obtain ⟨hes, hn, hnc, hcap⟩ := rep_es r
  have hinv := rl.inv.front k
  have hA1 : ∀ a ∈ A0, a ∈ L.front k st.heap := fun a ha => (front_perm k st.heap).mem_iff.1 (hA0 a ha)
  unfold L.front at hinv hA1
  rw [hk] at hinv hA1
  have hrun : ∀ v w', (Builtin.append_ #[t, tx] ty #[.slice A n cp, a.eval x]).run P w = .ok v w' → (execOp a.eval ⟨some d, .call { callee := .builtin .append, args := #[s, x], argTypes := #[t, tx] }, ty, pos, af, g⟩).run P w = .ok (.value v) w' := fun v w' h => by
    simp [execOp, resolve, invoke, builtin, hu, h]
  by_cases hg : cp < n + ys.length
  · obtain ⟨c', w', h1, h2, ph', h3, h4, h5⟩ := append_grows (ty' := ty) hA1 hinv ht hel hes hn r hy ry hg (by rw [← hn]; exact hb) (by omega)
    refine ⟨_, _, w', ph', _, hrun _ _ h1, h3, ?_, h5 (.tok w.heap.size ((n + ys.length) * size) (c' * size)) (.inr ⟨0, rfl, by simp, by simp⟩), h _ _ _⟩
    have := (h4.front 1)
    exact (HSub.drop (HSub.refl _)).app this
  · by_cases h0 : ys.length = 0
    · obtain rfl := List.eq_nil_of_length_eq_zero h0
      exact ⟨_, _, w, ph, _, hrun _ _ (append_nothing hA0 rl.inv ht hel hnc hy ry), PH.le.refl _, hinv, by rw [List.append_nil]; exact r, h b o c⟩
    · have hs0 := hel.pos
      rcases hcap with ⟨e1, e2⟩ | ⟨off, hA, e1, e2⟩
      · omega
      · obtain ⟨⟨i, hi, hz, hsz, hby⟩, hzs, _⟩ := hel
        obtain ⟨olds, ho, hol, hoc⟩ := sl_cells hinv hs0 r
        obtain ⟨news, hsrc, hncr⟩ := hy.2 w0 ph w _ _ hA0 rl.inv ry
        have hnl : news.length = ys.length * size := hsrc.newsLen
        obtain ⟨F, hF, htail⟩ := hinv.atom
        have hroom : ∀ j, j < news.length → o ≤ o + j ∧ o + j < c := fun j hj => by
          have : n * size + ys.length * size ≤ cp * size := by rw [← Nat.add_mul]; exact Nat.mul_le_mul_right _ (by omega)
          omega
        have hthere : ∀ j, j < news.length → (w.cell? ⟨b, o + j, none⟩).isSome = true := fun j hj => by
          obtain ⟨⟨u, hu⟩, _⟩ := htail (o + j) (hroom j hj).1 (hroom j hj).2
          rw [hu]; rfl
        have hr := run_append_room_src (P := P) w t tx ty e i ht hi b off n cp (a.eval x) ys.length news (hsz ▸ hsrc) (by omega) (fun j hj => by rw [hsz, e1]; exact hthere j hj) (fun j hj => by rw [hsz, e1]; exact (htail (o + j) (hroom j hj).1 (hroom j hj).2).2)
        rw [hsz, e1] at hr
        subst hA
        have hcell := setCells_cell (b := b) news o w hthere
        have hle : PH.le ph (PH.ext ph b o (o + news.length) (Array.replicate o undef ++ news.toArray)) := PH.le_ext fun j hj1 hj2 => by
          obtain ⟨_, _, _, F', ⟨F1, F2, h1, h2, h3, h4⟩, hF'⟩ := hinv
          exact (hF' b j ((h3 b j).2 (.inl ((h1.1 b j).2 ⟨rfl, hj1, by have := (hroom (j - o) (by omega)).2; omega⟩)))).2 ⟨b, j, none⟩ rfl rfl
        have hget : ∀ j, j < news.length → (Array.replicate o undef ++ news.toArray)[o + j]? = news[j]? := fun j hj => by
          rw [Array.getElem?_append_right (by simp)]
          simp
        have hinv' : Inv w0 (PH.ext ph b o (o + news.length) (Array.replicate o undef ++ news.toArray)) (w.setCells b o news) (.tail b (o + news.length) c :: st.heap.eraseIdx k) := by
          refine hinv.turn (a' := .tail b (o + news.length) c) hle (fun G hG hn' => ⟨?_, fun b' o' => b' = b ∧ o + news.length ≤ o' ∧ o' < c, ⟨fun _ _ => Iff.rfl, fun j hj1 hj2 => ?_⟩, fun b' o' hg' => .inl ((hG.1 b' o').2 ⟨hg'.1, by omega, hg'.2.2⟩), fun p u hp => ?_⟩)
          · refine ⟨(chg_setCells (b := b) (o := o) news w).os, (chg_setCells (b := b) (o := o) news w).tape, (chg_setCells (b := b) (o := o) news w).output, (chg_setCells (b := b) (o := o) news w).size, fun b' hb' hn2 => ?_, fun b' o' hb' hn2 => ?_⟩
            · by_cases hbb : b' = b
              · subst hbb
                exact ((hn2 o) ((hG.1 b' o).2 ⟨rfl, Nat.le_refl _, by have := (hroom 0 (by rw [hnl]; exact Nat.mul_pos (by omega) hs0)).2; omega⟩)).elim
              · exact (chg_setCells (b := b) (o := o) news w).block b' hb' (fun _ => hbb)
            · by_cases hbb : b' = b
              · subst hbb
                refine ⟨?_, (hcell o').2⟩
                rw [(hcell o').1, if_neg]
                intro hin
                exact hn2 ((hG.1 b' o').2 ⟨rfl, hin.1, by have := (hroom (o' - o) (by omega)).2; omega⟩)
              · exact (chg_setCells (b := b) (o := o) news w).cell b' o' hb' hbb
          · obtain ⟨⟨u, hu⟩, hfz⟩ := htail j (by omega) hj2
            refine ⟨⟨u, ?_⟩, by rw [(hcell j).2]; exact hfz⟩
            rw [(hcell j).1, if_neg (by omega)]
            exact hu
          · rcases PH.ext_cases hp with ⟨e3, h1, h2, h3⟩ | h3
            · refine .inr ⟨⟨?_, ?_⟩, fun hg' => by omega, .inl ((hG.1 _ _).2 ⟨by rw [e3], h1, by have := (hroom (p.off - o) (by omega)).2; omega⟩)⟩
              · rw [e3, (hcell p.off).1, if_pos ⟨h1, h2⟩, ← h3]
                have := hget (p.off - o) (by omega)
                rw [show o + (p.off - o) = p.off by omega] at this
                exact this.symm
              · have := hget (p.off - o) (by omega)
                rw [show o + (p.off - o) = p.off by omega, h3] at this
                exact hncr.2 (p.off - o) u (by simpa using this.symm)
            · exact .inl h3
        refine ⟨_, _, w.setCells b o news, _, _, hrun _ _ hr, hle, hinv', ?_, h b (o + news.length) c⟩
        refine rep_known (cs := (olds ++ news).toArray) (fun e he => (List.mem_append.1 he).elim (hes e) (hy.1 e)) (by simp [hn]) (fun j hj => ?_) (by rw [List.flatten_append]; exact (creps_append ho hncr).mono hle) (by omega) (.inr ⟨off, rfl, ?_, e2⟩)
        · by_cases hjo : j < n * size
          · have hlt : j < olds.length := by omega
            have := (hoc _ rfl j olds[j] (List.getElem?_eq_getElem hlt)).1
            rw [add_lit] at this
            rw [hle _ _ this, List.getElem?_toArray, List.getElem?_append_left hlt, List.getElem?_eq_getElem hlt]
          · have : j - n * size < news.length := by rw [Nat.add_mul] at hj; omega
            obtain ⟨m, rfl⟩ : ∃ m, j = n * size + m := ⟨j - n * size, by omega⟩
            rw [show off + (n * size + m) = o + m by omega, PH.ext_in ⟨by omega, by omega⟩, hget m (by omega), List.getElem?_toArray, List.getElem?_append_right (by omega), hol, show n * size + m - n * size = m by omega]
        · rw [Nat.add_mul, ← Nat.add_assoc, e1, hnl]
theorem LO.append {s x : Operand} {t tx e : TypeId} {z : Value} {size by_ : Nat} {es ys : List (List LV)} {y : LV} {d : Tmp} {b o c : Nat} (k : Nat) (hk : st.heap[k]? = some (.tail b o c)) (hd : Nat.blt d st.n.k = true) (ht : P.underlying t = some (.slice e)) (hel : El P e z size by_) (hs : Is (ev st.env s) (.sl size es (.tok b o c))) (hx : Is (ev st.env x) y) (hy : SrcL P tx size y ys) (hb : (es.length + ys.length) * by_ ≤ 140737488355328) (hb0 : es.length + ys.length ≤ 9223372036854775807)
    (h : ∀ b' o' c', K ⟨st.n, (d, .sl size (es ++ ys) (.tok b' o' c')) :: st.env, .tail b' o' c' :: st.heap.eraseIdx k⟩) :
    LO P ⟨some d, .call { callee := .builtin .append, args := #[s, x], argTypes := #[t, tx] }, ty, pos, af, g⟩ st K := LO.appendG (A0 := []) (by simp) k hk hd ht hel hs hx hy hb hb0 h
end
end Go.L
namespace Go.L
open Go.RowKit
section
variable {P : Program} {env : List (Nat × LV)} {H : List Atom} {d : Option Tmp} {ty : TypeId} {pos : String} {af : Array Edge} {g : Option (Nat × Bool)} {st : LS} {K : LS → Prop}
theorem foldl_push : ∀ (l : List UInt8) (acc : ByteArray), (l.map fun b => (b.toNat : Int)).foldl (fun (r : ByteArray) (n : Int) => r.push (UInt8.ofNat n.toNat)) acc = ⟨(acc.data.toList ++ l).toArray⟩
  | [], acc => by cases acc; simp
  | b :: l, acc => by
    rw [List.map_cons, List.foldl_cons, foldl_push l]
    have : UInt8.ofNat ((b.toNat : Int)).toNat = b := by simp
    rw [this]
    simp [ByteArray.push]
theorem bytes_cells {w0 : Base} {ph : PH} {w : World} (hinv : Inv w0 ph w H) {A : Option Addr} {n c : Nat} {l : List UInt8} {k : Cap} (r : Rep ph (.slice A n c) (Bytes l k)) : l.length = n ∧ ∀ ad, A = some ad → ∀ j v, (l.map fun b => Value.int .u8 b.toNat)[j]? = some v → w.cell? (ad.add j) = some v := by
  obtain ⟨hs, hn, hnc, hcap⟩ := rep_es r
  obtain ⟨cs, hc, hl, hcell⟩ := sl_cells hinv (by omega) r
  have hcs : cs = l.map fun b => Value.int .u8 b.toNat := by
    rw [byteEls_flat] at hc
    apply List.ext_getElem?
    intro i
    by_cases hi : i < cs.length
    · have h1 := hc.1.1
      simp at h1
      have hil : i < l.length := by omega
      have := hc.1.2 i cs[i] (.raw (.int .u8 l[i].toNat)) (by simp [hi]) (by simp [hil])
      rw [List.getElem?_eq_getElem hi, this.rawE]
      simp [hil]
    · have h1 := hc.1.1
      simp at h1
      rw [List.getElem?_eq_none (by omega), List.getElem?_eq_none (by simp; omega)]
  subst hcs
  exact ⟨by simpa using hl, fun ad hA j v hj => (hcell ad hA j v hj).2⟩
theorem LU.tostr {x : Operand} {src dst e : TypeId} {l : List UInt8} {k : Cap} (hs : P.underlying src = some (.slice e)) (he : P.underlying e = some (.int .u8)) (hd : P.underlying dst = some .string) (hx : Is (ev env x) (Bytes l k)) : LU P env H ⟨d, .convert src dst x, ty, pos, af, g⟩ (Str l) := .of_run fun ph a hl w0 w hinv => by
  have r := hx _ _ (hl x (by simp [Op.operands]))
  obtain ⟨A, n, c, hu⟩ := rep_slice_form r
  rw [hu] at r
  obtain ⟨hn, hcell⟩ := bytes_cells hinv r
  refine ⟨.string ⟨l.toArray⟩, ?_, .raw _⟩
  cases A with
  | none =>
    have h0 : l = [] := by
      cases l with
      | nil => rfl
      | cons b l =>
        cases r with | sl _ _ _ _ _ _ ad u hA hn hnc hs hcap hp hr =>
          have := hA (by simp [byteEls])
          cases this
    subst h0
    simp [execOp, hu, run_convert_bytes_nil w src e hs he n c dst hd]
    rfl
  | some ad =>
    have hload : (loadCells ad n).run P w = .ok ((l.map fun b => (b.toNat : Int)).map (Value.int .u8)).toArray w := by
      have := run_loadCells_list (P := P) w ad (l.map fun b => Value.int .u8 b.toNat) (fun j v h => hcell ad rfl j v h)
      simpa [← hn, List.map_map, Function.comp_def] using this
    simp only [execOp, hu, run_convert_bytes_string w src dst e _ n c hs he hd, run_bytesToString w ad n c _ hload, foldl_push, Sem.run_bind, Result.andThen_ok, Sem.run_pure]
    rfl
theorem Inv.freeze {w0 : Base} {ph : PH} {w : World} {b : Nat} {t : TypeId} {xs : List LV} (h : Inv w0 ph w (.cells b t xs :: H)) : ∃ cs ph', PH.le ph ph' ∧ Inv w0 ph' w H ∧ CReps ph' cs xs ∧ cs.size = xs.length ∧ ∀ i, i < cs.size → ph' ⟨b, i, none⟩ = cs[i]? := by
  obtain ⟨F, hF, cs, hh, hc⟩ := h.atom
  have hle : PH.le ph (PH.ext ph b 0 cs.size cs) := PH.le_ext fun i _ hi => by
    obtain ⟨_, _, _, F', ⟨F1, F2, h1, h2, h3, h4⟩, hF'⟩ := h
    exact (hF' b i ((h3 b i).2 (.inl ((h1.1 b i).2 rfl)))).2 ⟨b, i, none⟩ rfl rfl
  refine ⟨cs, PH.ext ph b 0 cs.size cs, hle, ?_, hc.mono hle, hc.1.1, fun i hi => PH.ext_in ⟨Nat.zero_le _, hi⟩⟩
  have := Inv.upd (H1 := [.cells b t xs]) (H2 := []) (R := H) (w' := w) h hle (fun G ⟨F1, F2, h1, h2, h3, h4⟩ hn => ⟨Chg.refl _ _, fun _ _ => False, fun _ _ h => h, fun _ _ h => h.elim, fun a u ha => by
    rcases PH.ext_cases ha with ⟨e, h5, h6, h7⟩ | h5
    · refine .inr ⟨⟨?_, hc.2 _ _ h7⟩, fun h => h, .inl ((h3 _ _).2 (.inl ((h1.1 _ _).2 (by rw [e]))))⟩
      rw [e, cell_of_row w b a.off cs t (0, 0) hh]
      exact h7
    · exact .inl h5⟩)
  exact this
/-- A slice of an owned block: from now on by its content. -/
theorem freeze_rep {ph : PH} {b : Nat} {cs : Array Value} {xs : List LV} (hc : CReps ph cs xs) (hp : ∀ i, i < cs.size → ph ⟨b, i, none⟩ = cs[i]?) {off n c size : Nat} {es : List (List LV)} (hs : ∀ e ∈ es, e.length = size) (hn : es.length = n) (hfit : off + n * size ≤ xs.length) (he : es.flatten = (xs.drop off).take (n * size)) (hnc : n ≤ c) : Rep ph (.slice (some ⟨b, off, none⟩) n c) (.sl size es .unk) := by
  have hsz : cs.size = xs.length := hc.1.1
  refine rep_known (cs := cs.extract off (off + n * size)) hs hn (fun i hi => ?_) ?_ hnc trivial
  · rw [hp _ (by omega), Array.getElem?_extract, if_pos (by omega)]
  · rw [he]
    refine ⟨⟨by simp; omega, fun i v x hv hx => ?_⟩, fun i v hv => ?_⟩
    · rw [Array.getElem?_extract] at hv
      rw [List.getElem?_take] at hx
      split at hx
      · rw [List.getElem?_drop] at hx
        split at hv
        · exact hc.1.2 _ v x hv hx
        · cases hv
      · cases hx
    · rw [Array.getElem?_extract] at hv
      split at hv
      · exact hc.2 _ v hv
      · cases hv
theorem LU.nilp {op : BinOp} {x y : Operand} {t t' e : TypeId} {A : Option Addr} (ht : P.underlying t = some (.pointer e)) (hop : op = .eql ∨ op = .neq) (hx : Is (ev env x) (.raw (.pointer A))) (hy : Is (ev env y) (.raw (.pointer none))) : LU P env H ⟨d, .binOp op t x y t', ty, pos, af, g⟩ (.raw (.bool (if op = .eql then A.isNone else !A.isNone))) := .raw fun ac hl w => by
  have h1 := hl x (by simp [Op.operands]) _ hx
  have h2 := hl y (by simp [Op.operands]) _ hy
  have he : (Op.equal t (.pointer A) (.pointer none)).run P w = .ok A.isNone w := by
    rw [show Op.equal t (.pointer A) (.pointer none) = Op.equalIn (9999 + 1) t (.pointer A) (.pointer none) from rfl, Op.equalIn]
    rw [Sem.run_bind, run_underlying ht, Result.andThen_ok]
    cases A <;> rfl
  have hg : (eqGuard op t x y (.pointer A) (.pointer none)).run P w = .ok () w := by unfold eqGuard; cases op <;> simp
  rcases hop with rfl | rfl
  · have hb : binOp .eql t (.pointer A) (.pointer none) = (do pure (.bool (← Op.equal t (.pointer A) (.pointer none)))) := by cases A <;> rfl
    simp only [execOp, h1, h2, Sem.run_bind, hg, Result.andThen_ok, hb, he, Sem.run_pure, if_true]
  · have hb : binOp .neq t (.pointer A) (.pointer none) = (do pure (.bool (!(← Op.equal t (.pointer A) (.pointer none))))) := by cases A <;> rfl
    simp only [execOp, h1, h2, Sem.run_bind, hg, Result.andThen_ok, hb, he, Sem.run_pure]
    rfl
theorem map_arr {α β : Type} (f : α → β) (as0 : Array α) : as0.map f = (as0.toList.map f).toArray := by cases as0; simp
def Opds (env : List (Nat × LV)) : List Operand → List LV → Prop
  | [], [] => True
  | x :: xs, v :: vs => Is (ev env x) v ∧ Opds env xs vs
  | _, _ => False
theorem Opds.reps {ph : PH} {a : Act} : ∀ {xs : List Operand} {vs : List LV}, Opds env xs vs → (∀ x ∈ xs, Rep ph (a.eval x) (ev env x)) → Reps ph (xs.map a.eval).toArray vs
  | [], [], _, _ => ⟨rfl, by simp⟩
  | x :: xs, v :: vs, ⟨h1, h2⟩, ha => by
    obtain ⟨k1, k2⟩ := Opds.reps h2 (fun y hy => ha y (List.mem_cons_of_mem _ hy))
    refine ⟨by simpa using k1, fun i c y hc hy => ?_⟩
    match i with
    | 0 => simp at hc hy; subst hc; subst hy; exact h1 _ _ (ha x (by simp))
    | i + 1 => simp at hc hy; exact k2 i c y (by simpa using hc) hy
  | [], _ :: _, h, _ => h.elim
  | _ :: _, [], h, _ => h.elim
theorem enters {f : FuncId} {fn : Func} (hf : P.funcs[f]? = some fn) (hname : (fn.name == "runtime.NumGoroutine") = false) (hb : fn.body.isSome = true) (args : Array Value) (w : World) : (callFunc f args).run P w = .ok (.enter f args) w := by
  have hn : ¬ fn.name = "runtime.NumGoroutine" := by simpa using hname
  obtain ⟨c, hc⟩ := Option.isSome_iff_exists.1 hb
  simp [callFunc, hf, hn, hc]
theorem Reps.append {ph : PH} {as0 bs : Array Value} {xs ys : List LV} (h : Reps ph as0 xs) (k : Reps ph bs ys) : Reps ph (as0 ++ bs) (xs ++ ys) := by
  refine ⟨by simp [h.1, k.1], fun i c x hc hx => ?_⟩
  by_cases hi : i < as0.size
  · rw [Array.getElem?_append_left hi] at hc
    rw [List.getElem?_append_left (by rw [← h.1]; exact hi)] at hx
    exact h.2 i c x hc hx
  · rw [Array.getElem?_append_right (by omega)] at hc
    rw [List.getElem?_append_right (by rw [← h.1]; omega)] at hx
    exact k.2 (i - as0.size) c x hc (by rw [h.1]; exact hx)
theorem reps_raws {ph : PH} (cs : Array Value) : Reps ph cs (raws cs.toList) := ⟨by simp [raws], fun i c x h1 h2 => by
  simp [raws] at h2
  obtain ⟨v, hv, rfl⟩ := h2
  rw [hv] at h1
  injection h1 with h1
  subst h1
  exact .raw _⟩
/-- A call; R: what the caller has beside. -/
theorem LO.call {f : FuncId} {fn : Func} {as0 : Array Operand} {ts : Array TypeId} {vs : List LV} {Hc R : List Atom} {post : LV → List Atom → Prop} {d : Tmp} (hc : LCalls P f vs Hc post) (hf : P.funcs[f]? = some fn) (hname : (fn.name == "runtime.NumGoroutine") = false) (hb : fn.body.isSome = true) (hd : Nat.blt d st.n.k = true) (hsub : HSub st.heap (Hc ++ R)) (ha : Opds st.env as0.toList vs)
    (h : ∀ r H', post r H' → K ⟨st.n, (d, r) :: st.env, H' ++ R⟩) : LO P ⟨some d, .call { callee := .value (.func f), args := as0, argTypes := ts }, ty, pos, af, g⟩ st K := fun w0 ph a w r N Q k => by
  have hargs := ha.reps (a := a) (ph := ph) (fun x _ => r.tmps.eval x)
  have hrun : (execOp a.eval ⟨some d, .call { callee := .value (.func f), args := as0, argTypes := ts }, ty, pos, af, g⟩).run P w = .ok (.enter f (as0.map a.eval)) w := by
    simp [execOp, resolve, Deferred.ofValue, invoke, Act.eval, enters hf hname hb]
  unfold owp
  rw [hrun]
  refine upon_enter ?_
  refine (hc R w0 ph w (as0.map a.eval) (hsub.app r.inv) (by rw [map_arr a.eval as0]; exact hargs)).mono ?_
  rintro e w' ⟨v, ph', x, H', rfl, hle, hi, hx, hp⟩
  exact k ph' _ _ w' hle (r.put hle hi hd hx) (h x H' hp)
/-- A call that owns nothing and gives a value that is told. -/
theorem LU.call {f : FuncId} {fn : Func} {as0 : Array Operand} {ts : Array TypeId} {vs : List LV} {v : LV} (hc : LCalls P f vs [] (fun r H' => r = v ∧ H' = [])) (hf : P.funcs[f]? = some fn) (hname : (fn.name == "runtime.NumGoroutine") = false) (hb : fn.body.isSome = true) (ha : Opds env as0.toList vs) :
    LU P env H ⟨d, .call { callee := .value (.func f), args := as0, argTypes := ts }, ty, pos, af, g⟩ v := fun w0 ph a w hi hl N Q k => by
  have hargs := ha.reps (a := a) (ph := ph) (fun x hx => hl x (by simp only [Op.operands, Call.operands]; exact Array.mem_append.2 (.inr (by simpa using hx))))
  have hrun : (execOp a.eval ⟨d, .call { callee := .value (.func f), args := as0, argTypes := ts }, ty, pos, af, g⟩).run P w = .ok (.enter f (as0.map a.eval)) w := by
    simp [execOp, resolve, Deferred.ofValue, invoke, Act.eval, enters hf hname hb]
  unfold owp
  rw [hrun]
  refine upon_enter ?_
  refine (hc H w0 ph w (as0.map a.eval) hi (by rw [map_arr a.eval as0]; exact hargs)).mono ?_
  rintro e w' ⟨u, ph', x, H', rfl, hle, hi', hx, rfl, rfl⟩
  exact k ph' _ w' hle hi' hx
end
/-- All cells of a world are known. -/
def PH.all (w : World) : PH := fun a => match w.cell? a with | some u => if u.oneCell' then some u else none | none => none
theorem PH.all_some {w : World} {a : Addr} {u : Value} : PH.all w a = some u ↔ w.cell? a = some u ∧ u.oneCell' = true := by
  unfold PH.all
  cases h : w.cell? a with
  | none => simp
  | some v =>
    by_cases h1 : v.oneCell' = true
    · simp only [h1, if_true, Option.some.injEq]
      exact ⟨fun h => ⟨h, h ▸ h1⟩, fun h => h.1⟩
    · simp only [h1]
      constructor
      · intro h; cases h
      · rintro ⟨h, h'⟩
        injection h with h
        subst h
        exact (h1 h').elim
theorem Inv.start (w : World) : Inv ⟨w, none⟩ (PH.all w) w [] := ⟨Below.refl _ _, fun a u h => (PH.all_some.1 h).1, fun a u h => (PH.all_some.1 h).2, fun _ _ => False, fun _ _ h => h, fun _ _ h => h.elim⟩
theorem LCalls.run {P : Program} {f : FuncId} {args : List LV} {b : Value} (h : LCalls P f args [] (fun r _ => r = .raw b)) {w : World} {vs : Array Value} (hr : Reps (PH.all w) vs args) : Calls P f vs w fun e w' => e = .returned b ∧ Below w.heap.size w w' :=
  (h [] ⟨w, none⟩ (PH.all w) w vs (Inv.start w) hr).mono fun e w' ⟨v, ph', r, H', he, hle, hi, hv, hp⟩ => by
    subst hp
    exact ⟨by rw [he, hv.rawE], hi.below⟩
end Go.L
namespace Go.L
open Go.RowKit
/-- Quiet operations, one after the other. -/
inductive QC (P : Program) (ops : Array Oper) (H : List Atom) : List (Nat × LV) → List Oper → List (Nat × LV) → Prop where
  | nil (env : List (Nat × LV)) : QC P ops H env [] env
  | cons {env env' : List (Nat × LV)} {o : Oper} {l : List Oper} {v : LV} {d : Nat} (hq : LQ P ops env H o v) (hd : o.dst = some d) (h : QC P ops H ((d, v) :: env) l env') : QC P ops H env (o :: l) env'
def dstOf (ops : Array Oper) (i : Nat) : Option Nat := (ops[i]?).bind (·.dst)
def who (ops : Array Oper) (d : Nat) : Option Nat := (List.range ops.size).find? fun i => dstOf ops i == some d
def direct (ops : Array Oper) (i : Nat) : List Nat := match ops[i]? with
  | some o => (o.after.toList.filter fun e => Region.binds .any e).map (·.on)
  | none => []
/-- Every slot that an operation looks at is written by what surely comes ahead of it, or surely behind it; each is written once; the last ones (from m on) come one after the other, behind all else. -/
def drawOk (ops : Array Oper) (m : Nat) : Bool :=
  let B := Region.before ops
  let n := ops.size
  (List.range n).all fun i =>
    (Nat.ble m i || ((match dstOf ops i with | some d => who ops d == some i | none => false) &&
      (match ops[i]? with
        | some o => (o.looksAt ops).all fun t => match who ops t with
          | none => true
          | some k => k == i || (Nat.blt k i && (B.getD i 0).testBit k) || (Nat.blt i k && (B.getD k 0).testBit i)
        | none => false))) &&
    (direct ops i).all (fun j => Nat.blt j i) &&
    (List.range n).all (fun k => !(B.getD i 0).testBit k || (direct ops i).contains k || (direct ops i).any fun e => (B.getD e 0).testBit k) &&
    (Nat.blt i m || (List.range i).all fun k => (B.getD i 0).testBit k)
section
variable {P : Program} {ops : Array Oper} {H : List Atom}
def envAt (ops : Array Oper) (vs : Nat → LV) (env : List (Nat × LV)) : Nat → List (Nat × LV)
  | 0 => env
  | i + 1 => match dstOf ops i with
    | some d => (d, vs i) :: envAt ops vs env i
    | none => envAt ops vs env i
theorem QC.values : ∀ (l : List Oper) {k : Nat} {env env' : List (Nat × LV)}, QC P ops H env l env' → (∀ j, j < l.length → ops[k + j]? = l[j]?) → ∀ vs0 : Nat → LV,
    ∃ vs : Nat → LV, (∀ i, i < k → vs i = vs0 i) ∧ ∀ env0, envAt ops vs0 env0 k = env → (∀ i o, k ≤ i → i < k + l.length → ops[i]? = some o → LQ P ops (envAt ops vs env0 i) H o (vs i)) ∧ envAt ops vs env0 (k + l.length) = env'
  | [], k, env, _, .nil _, _, vs0 => ⟨vs0, fun _ _ => rfl, fun env0 h => ⟨fun i o h1 h2 => by simp at h2; omega, by simpa using h⟩⟩
  | o :: l, k, env, env', .cons (v := v) (d := d) hq hd h, hl, vs0 => by
    have hk : ops[k]? = some o := by have := hl 0 (by simp); simpa using this
    have hdk : dstOf ops k = some d := by simp [dstOf, hk, hd]
    have hcong : ∀ (f g : Nat → LV) (env0 : List (Nat × LV)) (m : Nat), (∀ i, i < m → f i = g i) → envAt ops f env0 m = envAt ops g env0 m := by
      intro f g env0 m
      induction m with
      | zero => intro _; rfl
      | succ m ih =>
        intro hfg
        simp only [envAt]
        rw [ih (fun i hi => hfg i (by omega)), hfg m (by omega)]
    obtain ⟨vs, h1, h2⟩ := QC.values l (k := k + 1) h (fun j hj => by
      have := hl (j + 1) (by simp; omega)
      rw [show k + 1 + j = k + (j + 1) by omega, this, List.getElem?_cons_succ]) (fun i => if i = k then v else vs0 i)
    refine ⟨vs, fun i hi => by rw [h1 i (by omega), if_neg (by omega)], fun env0 he => ?_⟩
    have hvk : vs k = v := by rw [h1 k (by omega), if_pos rfl]
    have hek : envAt ops vs env0 k = env := by
      rw [← he]
      exact hcong _ _ _ _ (fun i hi => by rw [h1 i (by omega), if_neg (by omega)])
    obtain ⟨h3, h4⟩ := h2 env0 (by
      simp only [envAt, hdk, if_true]
      rw [← he]
      congr 1
      exact hcong _ _ _ _ (fun i hi => by simp [show i ≠ k by omega]))
    refine ⟨fun i o' hi1 hi2 ho => ?_, by rw [← h4]; simp only [List.length_cons]; congr 1; omega⟩
    by_cases hik : i = k
    · subst hik
      rw [hk] at ho
      injection ho with ho
      subst ho
      rw [hvk, hek]
      exact hq
    · exact h3 i o' (by omega) (by simp at hi2; omega) ho
theorem get_envAt (vs : Nat → LV) (env0 : List (Nat × LV)) (m : Nat) (hw : ∀ i, i < m → ∃ d, dstOf ops i = some d ∧ who ops d = some i) (t : Nat) : ∀ k, k ≤ m → get (envAt ops vs env0 k) t = match who ops t with
    | some j => if j < k then vs j else get env0 t
    | none => get env0 t := by
  intro k
  induction k with
  | zero => intro _; simp only [envAt]; split <;> simp
  | succ k ih =>
    intro hk
    obtain ⟨d, hd, hwd⟩ := hw k (by omega)
    simp only [envAt, hd]
    by_cases hdt : d = t
    · subst hdt
      rw [get_same, hwd]
      simp
    · rw [get_other hdt, ih (by omega)]
      split
      · rename_i j hj
        by_cases hjk : j = k
        · subst hjk
          have : dstOf ops j = some t := by
            have := List.find?_some hj
            simpa using this
          rw [hd] at this
          injection this with this
          exact (hdt this).elim
        · by_cases hlt : j < k
          · rw [if_pos hlt, if_pos (by omega)]
          · rw [if_neg hlt, if_neg (by omega)]
      · rfl
def slotAt (ops : Array Oper) (vs : Nat → LV) (env0 : List (Nat × LV)) (S : Array Bool) (t : Nat) : LV := match who ops t with
  | some j => if S.getD j false = true then vs j else get env0 t
  | none => get env0 t
structure DrawOk (ops : Array Oper) (m : Nat) : Prop where
  dst : ∀ i, i < ops.size → i < m → ∃ d, dstOf ops i = some d ∧ who ops d = some i
  looks : ∀ i o, i < m → ops[i]? = some o → ∀ t ∈ o.looksAt ops, ∀ k, who ops t = some k → k = i ∨ (k < i ∧ ((Region.before ops).getD i 0).testBit k = true) ∨ (i < k ∧ ((Region.before ops).getD k 0).testBit i = true)
  less : ∀ i, i < ops.size → ∀ j ∈ direct ops i, j < i
  clo : ∀ i k, i < ops.size → k < ops.size → ((Region.before ops).getD i 0).testBit k = true → k ∈ direct ops i ∨ ∃ e ∈ direct ops i, ((Region.before ops).getD e 0).testBit k = true
  last : ∀ i k, i < ops.size → m ≤ i → k < i → ((Region.before ops).getD i 0).testBit k = true
theorem DrawOk.of {m : Nat} (h : drawOk ops m = true) : DrawOk ops m := by
  unfold drawOk at h
  simp only [List.all_eq_true, List.mem_range, Bool.and_eq_true] at h
  refine ⟨fun i hi hm => ?_, fun i o hm ho t ht k hk => ?_, fun i hi j hj => ?_, fun i k hi hk hb => ?_, fun i k hi hm hk => ?_⟩
  · obtain ⟨⟨⟨h1, _⟩, _⟩, _⟩ := h i hi
    rcases Bool.or_eq_true _ _ |>.mp h1 with h1 | h1
    · exact absurd (Nat.le_of_ble_eq_true h1) (by omega)
    · have h1 := (Bool.and_eq_true _ _ |>.mp h1).1
      cases hd : dstOf ops i with
      | none => rw [hd] at h1; cases h1
      | some d => rw [hd] at h1; exact ⟨d, rfl, by simpa using h1⟩
  · have hi : i < ops.size := (Array.getElem?_eq_some_iff.1 ho).1
    obtain ⟨⟨⟨h1, _⟩, _⟩, _⟩ := h i hi
    rcases Bool.or_eq_true _ _ |>.mp h1 with h1 | h1
    · exact absurd (Nat.le_of_ble_eq_true h1) (by omega)
    · have h1 := (Bool.and_eq_true _ _ |>.mp h1).2
      rw [ho] at h1
      have h2 := List.all_eq_true.1 h1 t ht
      rw [hk] at h2
      simp only [Bool.or_eq_true, Bool.and_eq_true, beq_iff_eq, Nat.blt_eq] at h2
      rcases h2 with (h2 | h2) | h2
      · exact .inl h2
      · exact .inr (.inl h2)
      · exact .inr (.inr h2)
  · obtain ⟨⟨⟨_, h1⟩, _⟩, _⟩ := h i hi
    simpa [Nat.blt_eq] using h1 j hj
  · obtain ⟨⟨⟨_, _⟩, h1⟩, _⟩ := h i hi
    have := h1 k hk
    simp only [Bool.or_eq_true, hb, Bool.not_true, Bool.false_eq_true, false_or, List.contains_iff_mem, List.any_eq_true] at this
    exact this
  · obtain ⟨⟨⟨_, _⟩, _⟩, h1⟩ := h i hi
    rcases Bool.or_eq_true _ _ |>.mp h1 with h1 | h1
    · have : i < m := by simpa [Nat.blt_eq] using h1
      omega
    · exact List.all_eq_true.1 h1 k (List.mem_range.2 hk)
/-- The listed ones have all that comes ahead of them. -/
def Down (ops : Array Oper) (S : Array Bool) : Prop := ∀ i, S.getD i false = true → ∀ j ∈ direct ops i, S.getD j false = true
theorem clo_down {m : Nat} (hok : DrawOk ops m) {S : Array Bool} (hd : Down ops S) : ∀ i k, i < ops.size → k < ops.size → ((Region.before ops).getD i 0).testBit k = true → (∀ j ∈ direct ops i, S.getD j false = true) → S.getD k false = true := by
  intro i
  induction i using Nat.strongRecOn with
  | _ i ih =>
    intro k hi hk hb hs
    rcases hok.clo i k hi hk hb with h | ⟨e, he, hb'⟩
    · exact hs k h
    · have hlt := hok.less i hi e he
      exact ih e hlt k (by omega) hk hb' (hd e (hs e he))
theorem ready_iff {S : Array Bool} {i : Nat} : i ∈ Region.ready .any ops S ↔ S.getD i true = false ∧ i < ops.size ∧ ∀ j ∈ direct ops i, S.getD j false = true := by
  rw [mem_ready]
  constructor
  · rintro ⟨h1, o, ho, h2⟩
    refine ⟨h1, (Array.getElem?_eq_some_iff.1 ho).1, fun j hj => ?_⟩
    simp only [direct, ho, List.mem_map, List.mem_filter] at hj
    obtain ⟨e, ⟨he, hb⟩, rfl⟩ := hj
    exact h2 e (by simpa using he) hb
  · rintro ⟨h1, hi, h2⟩
    refine ⟨h1, ops[i], Array.getElem?_eq_getElem hi, fun e he hb => h2 e.on ?_⟩
    simp only [direct, Array.getElem?_eq_getElem hi, List.mem_map, List.mem_filter]
    exact ⟨e, ⟨by simpa using he, hb⟩, rfl⟩
theorem getD_set {S : Array Bool} {i : Nat} (hi : i < S.size) (j : Nat) (b : Bool) : (S.setIfInBounds i true).getD j b = if j = i then true else S.getD j b := by
  by_cases hij : i = j
  · subst hij
    simp [hi]
  · simp [Array.getElem?_setIfInBounds_ne hij, Ne.symm hij]
def left (S : Array Bool) : List Nat → Nat
  | [] => 0
  | i :: l => (if S.getD i true = true then 0 else 1) + left S l
theorem left_le {S : Array Bool} {i : Nat} (hi : i < S.size) : ∀ l, left (S.setIfInBounds i true) l ≤ left S l
  | [] => Nat.le_refl _
  | j :: l => by
    have := left_le hi l
    simp only [left, getD_set hi]
    by_cases hj : j = i
    · simp only [hj, if_true]
      omega
    · simp only [hj, if_false]
      omega
theorem left_lt {S : Array Bool} {i : Nat} (hi : i < S.size) (hf : S.getD i true = false) : ∀ l, i ∈ l → left (S.setIfInBounds i true) l < left S l
  | [], h => by cases h
  | j :: l, h => by
    have hle := left_le hi l
    simp only [left, getD_set hi]
    by_cases hj : j = i
    · subst hj
      simp only [if_true, hf, Bool.false_eq_true, if_false]
      omega
    · have := left_lt hi hf l (by rcases List.mem_cons.1 h with h | h; exact absurd h.symm hj; exact h)
      simp only [hj, if_false]
      omega
theorem left_zero {S : Array Bool} : ∀ l, left S l = 0 → ∀ i ∈ l, S.getD i true = true
  | [], _, _, h => by cases h
  | j :: l, h, i, hi => by
    simp only [left] at h
    have h1 : S.getD j true = true := by
      by_cases hj : S.getD j true = true
      · exact hj
      · rw [if_neg hj] at h; omega
    rcases List.mem_cons.1 hi with rfl | hi
    · exact h1
    · exact left_zero l (by omega) i hi
/-- The one order that is left. -/
theorem oany_tail {m : Nat} {Q : Exit → Act → World → Prop} (hok : DrawOk ops m) : ∀ (l : List Oper) (k : Nat) (fuel : Nat) (S : Array Bool) (a : Act) (w : World), m ≤ k → k + l.length = ops.size → (∀ j, j < l.length → ops[k + j]? = l[j]?) → S.size = ops.size → (∀ j, j < ops.size → (S.getD j true = true ↔ j < k)) → l.length ≤ fuel →
    olist P ops Q l a w → oany P .any ops Q fuel S a w
  | [], k, fuel, S, a, w, hm, hk, hl, hS, hs, hf, h => by
    refine oany_done ?_ h fuel
    cases hr : Region.ready .any ops S with
    | nil => rfl
    | cons i r =>
      have : i ∈ Region.ready .any ops S := by rw [hr]; simp
      obtain ⟨h1, h2, _⟩ := ready_iff.1 this
      have := (hs i h2).2 (by simp at hk; omega)
      rw [h1] at this
      cases this
  | o :: l, k, 0, S, a, w, hm, hk, hl, hS, hs, hf, h => by simp at hf
  | o :: l, k, fuel + 1, S, a, w, hm, hk, hl, hS, hs, hf, h => by
    simp only [List.length_cons] at hk hf
    have hks : k < ops.size := by omega
    have hkk : ops[k]? = some o := by have := hl 0 (by simp); simpa using this
    have hfalse : S.getD k true = false := by
      cases hb : S.getD k true with
      | false => rfl
      | true => have := (hs k hks).1 hb; omega
    have hset : ∀ j, j < ops.size → ((S.setIfInBounds k true).getD j true = true ↔ j < k + 1) := fun j hj => by
      rw [getD_set (by omega)]
      by_cases hjk : j = k
      · simp [hjk]
      · rw [if_neg hjk, hs j hj]
        omega
    have hgd : ∀ j, j < ops.size → S.getD j false = S.getD j true := fun j hj => by
      simp [show j < S.size by omega]
    refine ⟨fun hr => ?_, fun i hi => ?_⟩
    · have : k ∈ Region.ready .any ops S := ready_iff.2 ⟨hfalse, hks, fun j hj => by
        have := hok.less k hks j hj
        rw [hgd j (by omega)]
        exact (hs j (by omega)).2 this⟩
      rw [hr] at this
      cases this
    · obtain ⟨h1, h2, h3⟩ := ready_iff.1 hi
      have hik : i = k := by
        have hge : ¬ i < k := fun hlt => by
          have := (hs i h2).2 hlt
          rw [h1] at this
          cases this
        rcases Nat.lt_or_ge k i with hlt | hle
        · have hb := hok.last i k h2 (by omega) hlt
          have hdown : Down ops S := fun x hx j hj => by
            have hxs : x < ops.size := by
              rcases Nat.lt_or_ge x ops.size with h | h
              · exact h
              · rw [show S.getD x false = false by simp [show ¬ x < S.size by omega]] at hx
                cases hx
            have hlt2 := hok.less x hxs j hj
            rw [hgd j (by omega)]
            rw [hgd x hxs] at hx
            have := (hs x hxs).1 hx
            exact (hs j (by omega)).2 (by omega)
          have := clo_down hok hdown i k h2 hks hb h3
          rw [hgd k hks, hfalse] at this
          cases this
        · omega
      subst hik
      have hrec := fun (a' : Act) (w' : World) (h' : olist P ops Q l a' w') => oany_tail hok l (i + 1) fuel (S.setIfInBounds i true) a' w' (by omega) (by omega) (fun j hj => by
        have := hl (j + 1) (by simp; omega)
        rw [show i + 1 + j = i + (j + 1) by omega, this, List.getElem?_cons_succ]) (by simp [hS]) hset (by omega) h'
      unfold olist at h
      unfold oop
      simp only [hkk]
      split
      · rename_i hw
        rw [if_pos hw] at h
        exact owp_mono (fun a' w' h' => hrec a' w' h') h
      · rename_i hw
        rw [if_neg hw] at h
        exact hrec _ _ h
/-- Quiet operations in whatever order, then the others. -/
theorem oany_quiet {m : Nat} {N : NN} {Q : Exit → Act → World → Prop} (hok : DrawOk ops m) (hm : m ≤ ops.size) {vs : Nat → LV} {env0 : List (Nat × LV)} (hN : ∀ i, i < m → ∀ d, dstOf ops i = some d → d < N.k)
    (hv : ∀ i o, i < m → ops[i]? = some o → LQ P ops (envAt ops vs env0 i) H o (vs i)) {w0 : Base} {ph : PH} (l2 : List Oper) (hl2 : m + l2.length = ops.size) (hget : ∀ j, j < l2.length → ops[m + j]? = l2[j]?)
    (hend : ∀ ph' a w, PH.le ph ph' → Rels w0 ph' ⟨N, envAt ops vs env0 m, H⟩ a w → olist P ops Q l2 a w) :
    ∀ (fuel : Nat) (S : Array Bool) (a : Act) (w : World) (ph1 : PH), S.size = ops.size → Down ops S → (∀ i, m ≤ i → i < ops.size → S.getD i true = false) → left S (List.range ops.size) ≤ fuel → PH.le ph ph1 → Inv w0 ph1 w H → (a.defers = N.df ∧ (N.top = true → w0.ro = none)) → a.tmps.size = N.k → (∀ d, Rep ph1 (a.tmps.getD d undef) (slotAt ops vs env0 S d)) →
      oany P .any ops Q fuel S a w := by
  have hdst := fun i (hi : i < m) => hok.dst i (by omega) hi
  have hgd : ∀ {S : Array Bool}, S.size = ops.size → ∀ j, j < ops.size → S.getD j false = S.getD j true := fun hS j hj => by
    simp [show j < _ from hS ▸ hj]
  have full : ∀ (fuel : Nat) (S : Array Bool) (a : Act) (w : World) (ph1 : PH), S.size = ops.size → (∀ i, m ≤ i → i < ops.size → S.getD i true = false) → (∀ i, i < m → S.getD i true = true) → l2.length ≤ fuel → PH.le ph ph1 → Inv w0 ph1 w H → (a.defers = N.df ∧ (N.top = true → w0.ro = none)) → a.tmps.size = N.k → (∀ d, Rep ph1 (a.tmps.getD d undef) (slotAt ops vs env0 S d)) → oany P .any ops Q fuel S a w := by
    intro fuel S a w ph1 hS hlate hall hf hle hinv hd hsz hrep
    refine oany_tail (P := P) hok l2 m fuel S a w (Nat.le_refl _) hl2 hget hS (fun j hj => ⟨fun h => ?_, fun h => hall j h⟩) hf (hend ph1 a w hle ⟨hinv, hd, hsz, fun d => ?_⟩)
    · rcases Nat.lt_or_ge j m with h' | h'
      · exact h'
      · rw [hlate j h' hj] at h
        cases h
    · have := hrep d
      unfold slotAt at this
      rw [get_envAt vs env0 m hdst d m (Nat.le_refl _)]
      split
      · rename_i j hj
        rw [hj] at this
        simp only at this
        by_cases hjm : j < m
        · rw [if_pos hjm]
          have hjs : S.getD j false = true := by rw [hgd hS j (by omega)]; exact hall j hjm
          rw [if_pos hjs] at this
          exact this
        · rw [if_neg hjm]
          have hjn : j < ops.size := by
            have := List.mem_of_find?_eq_some hj
            simpa using this
          have hjs : ¬ S.getD j false = true := by rw [hgd hS j hjn, hlate j (by omega) hjn]; simp
          rw [if_neg hjs] at this
          exact this
      · rename_i hj
        rw [hj] at this
        exact this
  intro fuel
  induction fuel with
  | zero =>
    intro S a w ph1 hS hdn hlate hf hle hinv hd hsz hrep
    have hz := left_zero _ (Nat.le_zero.1 hf)
    have hall : ∀ i, i < ops.size → S.getD i true = true := fun i hi => hz i (List.mem_range.2 hi)
    have hl20 : l2.length = 0 := by
      rcases Nat.eq_zero_or_pos l2.length with h | h
      · exact h
      · have h1 := hall m (by omega)
        rw [hlate m (Nat.le_refl _) (by omega)] at h1
        cases h1
    exact full 0 S a w ph1 hS hlate (fun i hi => hall i (by omega)) (by omega) hle hinv hd hsz hrep
  | succ fuel ih =>
    intro S a w ph1 hS hdn hlate hf hle hinv hd hsz hrep
    by_cases hall : ∀ i, i < m → S.getD i true = true
    · have hcount : ∀ (l : List Nat), l.Nodup → (∀ i ∈ l, i < ops.size) → (l.filter fun i => decide (m ≤ i)).length ≤ left S l := by
        intro l
        induction l with
        | nil => intro _ _; simp
        | cons i l ihl =>
          intro hnd hlt
          have := ihl (List.nodup_cons.1 hnd).2 (fun j hj => hlt j (List.mem_cons_of_mem _ hj))
          simp only [left, List.filter_cons]
          by_cases him : m ≤ i
          · have := hlate i him (hlt i (by simp))
            simp only [him, decide_true, if_true, List.length_cons, this, Bool.false_eq_true, if_false]
            omega
          · simp only [him, decide_false, Bool.false_eq_true, if_false]
            omega
      have h1 := hcount (List.range ops.size) (List.nodup_range) (fun i hi => List.mem_range.1 hi)
      have h2 : ((List.range ops.size).filter fun i => decide (m ≤ i)).length = l2.length := by
        have : ∀ (n : Nat), ((List.range n).filter fun i => decide (m ≤ i)).length = n - m := by
          intro n
          induction n with
          | zero => simp
          | succ n ihn =>
            rw [List.range_succ, List.filter_append, List.length_append, ihn]
            by_cases h : m ≤ n
            · simp [h]; omega
            · simp [h]; omega
        rw [this]
        omega
      exact full (fuel + 1) S a w ph1 hS hlate hall (by omega) hle hinv hd hsz hrep
    · have hnone : ∃ i, i < m ∧ S.getD i true = false ∧ ∀ j, j < i → S.getD j true = true := by
        have hex : ∃ i, i < m ∧ S.getD i true = false := by
          refine Classical.byContradiction fun hn => hall fun i hi => ?_
          cases hb : S.getD i true with
          | true => rfl
          | false => exact (hn ⟨i, hi, hb⟩).elim
        obtain ⟨i, ⟨hi, hb⟩, hmin⟩ := exists_least hex
        refine ⟨i, hi, hb, fun j hj => ?_⟩
        cases hb' : S.getD j true with
        | true => rfl
        | false => have := hmin j ⟨by omega, hb'⟩; omega
      obtain ⟨i0, hi0, hb0, hmin⟩ := hnone
      refine ⟨fun hr => ?_, fun i hi => ?_⟩
      · have : i0 ∈ Region.ready .any ops S := ready_iff.2 ⟨hb0, by omega, fun j hj => by
          have := hok.less i0 (by omega) j hj
          rw [hgd hS j (by omega)]
          exact hmin j this⟩
        rw [hr] at this
        cases this
      · obtain ⟨h1, h2, h3⟩ := ready_iff.1 hi
        have him : i < m := by
          rcases Nat.lt_or_ge i m with h | h
          · exact h
          · have := clo_down hok hdn i i0 h2 (by omega) (hok.last i i0 h2 h (by omega)) h3
            rw [hgd hS i0 (by omega), hb0] at this
            cases this
        obtain ⟨d, hdi, hwd⟩ := hdst i him
        have hoi : ops[i]? = some ops[i] := Array.getElem?_eq_getElem h2
        have hq := hv i ops[i] him hoi
        have hdo : (ops[i]).dst = some d := by simpa [dstOf, hoi] using hdi
        have hSi : i < S.size := by omega
        have hlooks : ∀ t ∈ (ops[i]).looksAt ops, Rep ph1 (a.tmps.getD t undef) (get (envAt ops vs env0 i) t) := fun t ht => by
          have := hrep t
          unfold slotAt at this
          rw [get_envAt vs env0 m hdst t i (by omega)]
          split
          · rename_i k hk
            rw [hk] at this
            simp only at this
            have hkn : k < ops.size := by
              have := List.mem_of_find?_eq_some hk
              simpa using this
            rcases hok.looks i ops[i] him hoi t ht k hk with rfl | ⟨hlt, hb⟩ | ⟨hlt, hb⟩
            · rw [if_neg (by omega)]
              rwa [if_neg (by rw [hgd hS k h2, h1]; simp)] at this
            · rw [if_pos hlt]
              rwa [if_pos (clo_down hok hdn i k h2 hkn hb h3)] at this
            · rw [if_neg (by omega)]
              have hkf : ¬ S.getD k false = true := fun hkt => by
                have := clo_down hok hdn k i hkn h2 hb (hdn k hkt)
                rw [hgd hS i h2, h1] at this
                cases this
              rwa [if_neg hkf] at this
          · rename_i hk
            rw [hk] at this
            exact this
        have hstep : ∀ (ph2 : PH) (u : Value) (w' : World), PH.le ph1 ph2 → Inv w0 ph2 w' H → Rep ph2 u (vs i) → oany P .any ops Q fuel (S.setIfInBounds i true) (a.put (ops[i]).dst u) w' := fun ph2 u w' hle2 hinv2 hru => by
          refine ih (S.setIfInBounds i true) _ w' ph2 (by simp [hS]) (fun x hx j hj => ?_) (fun j hj1 hj2 => ?_) ?_ (hle.trans hle2) hinv2 (by rw [put_defers]; exact hd) (by rw [put_size]; exact hsz) (fun t => ?_)
          · rw [getD_set hSi] at hx ⊢
            by_cases hji : j = i
            · rw [if_pos hji]
            · rw [if_neg hji]
              by_cases hxi : x = i
              · subst hxi
                exact h3 j hj
              · rw [if_neg hxi] at hx
                exact hdn x hx j hj
          · rw [getD_set hSi, if_neg (by omega)]
            exact hlate j hj1 hj2
          · have := left_lt hSi h1 (List.range ops.size) (List.mem_range.2 h2)
            omega
          · rw [hdo]
            unfold slotAt
            by_cases htd : d = t
            · subst htd
              rw [hwd]
              simp only [getD_set hSi, if_true]
              have : d < a.tmps.size := by rw [hsz]; exact hN i him d hdi
              simpa [Act.put, this] using hru
            · have hr' := (hrep t).mono hle2
              have hput : (a.put (some d) u).tmps.getD t undef = a.tmps.getD t undef := by
                simp [Act.put, Array.getElem?_setIfInBounds_ne htd, Array.getD_eq_getD_getElem?]
              rw [hput]
              unfold slotAt at hr'
              split
              · rename_i k hk
                rw [hk] at hr'
                simp only at hr'
                rw [getD_set hSi]
                by_cases hki : k = i
                · subst hki
                  have : dstOf ops k = some t := by
                    have := List.find?_some hk
                    simpa using this
                  rw [hdi] at this
                  injection this with this
                  exact (htd this).elim
                · rw [if_neg hki]
                  exact hr'
              · rename_i hk
                rw [hk] at hr'
                exact hr'
        have hmain := hq w0 ph1 a w hinv hlooks (oany P .any ops Q fuel (S.setIfInBounds i true)) Q (fun ph2 u w' h1 h2 h3 => hstep ph2 u w' h1 h2 h3)
        unfold oop
        simp only [hoi]
        split
        · rename_i hw
          rw [if_pos hw] at hmain
          exact hmain
        · rename_i hw
          rw [if_neg hw] at hmain
          exact hmain
/-- A region that draws its order: l1 in whatever order, then l2. -/
theorem LW.draw {id : Nat} {l l1 l2 : List Oper} {st : LS} {env' : List (Nat × LV)} {Q : Exit → LS → Prop} (hmo : P.follows .mixedOrders = true) (hl : l = l1 ++ l2) (hok : drawOk l.toArray l1.length = true) (hn : (l1.all fun o => match o.dst with | some d => Nat.blt d st.n.k | none => false) = true)
    (hc : QC P l.toArray st.heap st.env l1 env') (h : LL P l.toArray l2 ⟨st.n, env', st.heap⟩ (fun s => Q .normal s)) (hnd : noDefer l = true := by kernel_rfl) : LW P (.region id l.toArray true) st Q := fun w0 ph a w r Q' k => by
  subst hl
  have hdok := DrawOk.of hok
  obtain ⟨vs, _, hvs⟩ := hc.values l1 (k := 0) (fun j hj => by simp [List.getElem?_append_left hj]) (fun _ => .any)
  obtain ⟨hv, he⟩ := hvs st.env rfl
  rw [Nat.zero_add] at he
  refine wpIn_region_any hmo (oany_in (by simpa using hnd) _ ?_)
  have hget0 : ∀ j, (Array.replicate (l1 ++ l2).toArray.size false).getD j false = false := fun j => by
    simp [Array.getElem?_replicate]
    split <;> rfl
  refine oany_quiet (P := P) (H := st.heap) (N := st.n) (vs := vs) (env0 := st.env) (w0 := w0) (ph := ph) hdok (by simp) (fun i hi d hd => ?_) (fun i o hi ho => hv i o (Nat.zero_le _) (by omega) ho) l2 (by simp) (fun j hj => by simp [List.getElem?_append_right]) (fun ph' a' w' hle r' => ?_) _ _ a _ ph (by simp) (fun i hi => by rw [hget0] at hi; cases hi) (fun i h1 h2 => by
    have h3 : i < l1.length + l2.length := by simpa using h2
    simp [h3]) ?_ (PH.le.refl _) (r.inv.step ⟨rfl, rfl, rfl, Nat.le_refl _, fun _ _ => rfl⟩) r.defers r.size (fun d => ?_)
  · have h1 : l1[i]? = some l1[i] := List.getElem?_eq_getElem hi
    have := List.all_eq_true.1 hn l1[i] (List.getElem_mem hi)
    simp only [dstOf, List.getElem?_toArray, List.getElem?_append_left hi, h1, Option.bind_some] at hd
    rw [hd] at this
    simpa [Nat.blt_eq] using this
  · rw [he] at r'
    exact h w0 ph' a' w' r' Q' (fun ph2 st2 a2 w2 hle2 r2 q2 => k _ ph2 st2 a2 w2 (hle.trans hle2) r2 q2)
  · have : ∀ (l : List Nat) (S : Array Bool), left S l ≤ l.length := by
      intro l S
      induction l with
      | nil => exact Nat.le_refl _
      | cons i l ih =>
        simp only [left, List.length_cons]
        split <;> omega
    have := this (List.range (l1 ++ l2).toArray.size) (Array.replicate (l1 ++ l2).toArray.size false)
    simpa using this
  · have := r.tmps d
    unfold slotAt
    split
    · rw [if_neg (by rw [hget0]; simp)]
      exact this
    · exact this
end
end Go.L
namespace Go.L
open Go.RowKit
theorem Is.whenN {b : Bool} {x : LV} (h : b = false) : Is (.when (!b) x) x := Is.whenE (by rw [h]; rfl)
theorem wrap_i64 {a : Int} (h0 : -9223372036854775808 ≤ a) (h1 : a < 9223372036854775808) : IntKind.i64.wrap a = a := by rw [IntKind.wrap_i64]; omega
theorem ones {cs : Array Value} (h : cs.toList.all (·.oneCell') = true) : ∀ (i : Nat) (c : Value), cs[i]? = some c → c.oneCell' = true := fun i c hc => List.all_eq_true.1 h c (by simpa using Array.mem_of_getElem? hc)
theorem Part.whole {size : Nat} {cs : List LV} (h : cs.length = size) : Part size true cs 0 (.agg cs) := ⟨by omega, by rw [List.drop_zero, List.take_of_length_le (by omega)]⟩
theorem Part.sub {size off : Nat} {cs : List LV} (h : off + size ≤ cs.length) : Part size true cs off (.agg ((cs.drop off).take size)) := ⟨h, rfl⟩
theorem Part.one {size off : Nat} {cs : List LV} {v : LV} (h : cs[off]? = some v) : Part size false cs off v := h
theorem byteEls_length (l : List UInt8) : (byteEls l).length = l.length := by simp [byteEls]
/-- Whole numbers, as0 elements. -/
def intEls (l : List Int) : List (List LV) := l.map fun x => [.raw (.int .i64 x)]
theorem intEls_length (l : List Int) : (intEls l).length = l.length := by simp [intEls]
section
variable {P : Program} {env : List (Nat × LV)} {H : List Atom} {d : Option Tmp} {ty : TypeId} {pos : String} {af : Array Edge} {g : Option (Nat × Bool)} {st : LS} {K : LS → Prop}
theorem LU.moveR {x : Operand} {v : Value} (h : Is (ev env x) (.raw v)) : LU P env H ⟨d, .move x, ty, pos, af, g⟩ (.raw v) := .move h
theorem LU.moveS {x : Operand} {s : Nat} {es : List (List LV)} {k : Cap} (h : Is (ev env x) (.sl s es k)) : LU P env H ⟨d, .move x, ty, pos, af, g⟩ (.sl s es k) := .move h
theorem LU.moveT {x : Operand} {cs : List LV} (h : Is (ev env x) (.tup cs)) : LU P env H ⟨d, .move x, ty, pos, af, g⟩ (.tup cs) := .move h
theorem LU.assignR {x : Operand} {v : Value} (h : Is (ev env x) (.raw v)) : LU P env H ⟨d, .assign x, ty, pos, af, g⟩ (.raw v) := .assign h
theorem LU.assignS {x : Operand} {s : Nat} {es : List (List LV)} {k : Cap} (h : Is (ev env x) (.sl s es k)) : LU P env H ⟨d, .assign x, ty, pos, af, g⟩ (.sl s es k) := .assign h
theorem LU.addN {x y : Operand} {t t' : TypeId} {k : IntKind} {a b c : Int} (hx : Is (ev env x) (.raw (.int k a))) (hy : Is (ev env y) (.raw (.int k b))) (hw : k.wrap (a + b) = c) : LU P env H ⟨d, .binOp .add t x y t', ty, pos, af, g⟩ (.raw (.int k c)) := hw ▸ .add hx hy
theorem LU.subN {x y : Operand} {t t' : TypeId} {k : IntKind} {a b c : Int} (hx : Is (ev env x) (.raw (.int k a))) (hy : Is (ev env y) (.raw (.int k b))) (hw : k.wrap (a - b) = c) : LU P env H ⟨d, .binOp .sub t x y t', ty, pos, af, g⟩ (.raw (.int k c)) := hw ▸ .sub hx hy
theorem LU.mulN {x y : Operand} {t t' : TypeId} {k : IntKind} {a b c : Int} (hx : Is (ev env x) (.raw (.int k a))) (hy : Is (ev env y) (.raw (.int k b))) (hw : k.wrap (a * b) = c) : LU P env H ⟨d, .binOp .mul t x y t', ty, pos, af, g⟩ (.raw (.int k c)) := hw ▸ .mul hx hy
theorem LU.lenN {x : Operand} {t e : TypeId} {size n : Nat} {es : List (List LV)} {k : Cap} (ht : P.underlying t = some (.slice e)) (hx : Is (ev env x) (.sl size es k)) (hn : es.length = n) : LU P env H ⟨d, .call { callee := .builtin .len, args := #[x], argTypes := #[t] }, ty, pos, af, g⟩ (.raw (.int .i64 n)) := hn ▸ .len ht hx
theorem LU.booleq {x y : Operand} {t t' : TypeId} {a b : Bool} (ht : P.underlying t = some .bool) (hx : Is (ev env x) (.raw (.bool a))) (hy : Is (ev env y) (.raw (.bool b))) : LU P env H ⟨d, .binOp .eql t x y t', ty, pos, af, g⟩ (.raw (.bool (a == b))) := .raw fun ac hl w => by
  have h1 := hl x (by simp [Op.operands]) _ hx
  have h2 := hl y (by simp [Op.operands]) _ hy
  have he : (Op.equal t (.bool a) (.bool b)).run P w = .ok (a == b) w := by
    rw [show Op.equal t (.bool a) (.bool b) = Op.equalIn (9999 + 1) t (.bool a) (.bool b) from rfl, Op.equalIn]
    rw [Sem.run_bind, run_underlying ht, Result.andThen_ok]
    rfl
  have hg : (eqGuard .eql t x y (.bool a) (.bool b)).run P w = .ok () w := by unfold eqGuard; simp
  have hb : binOp .eql t (.bool a) (.bool b) = (do pure (.bool (← Op.equal t (.bool a) (.bool b)))) := rfl
  simp only [execOp, h1, h2, Sem.run_bind, hg, Result.andThen_ok, hb, he, Sem.run_pure]
/-- The elements of a literal, in their order. -/
def Elems (env : List (Nat × LV)) : Nat → List (Nat × Operand) → List (List LV) → Prop
  | _, [], [] => True
  | k, (i, x) :: ps, c :: es => i = k ∧ (∃ v, Is (ev env x) v ∧ Cells v c) ∧ Elems env (k + 1) ps es
  | _, _, _ => False
theorem LU.quoN {x y : Operand} {t t' : TypeId} {k : IntKind} {a b c : Int} (hx : Is (ev env x) (.raw (.int k a))) (hy : Is (ev env y) (.raw (.int k b))) (hb : b ≠ 0) (hw : k.wrap (a.tdiv b) = c) : LU P env H ⟨d, .binOp .quo t x y t', ty, pos, af, g⟩ (.raw (.int k c)) := hw ▸ .quo hx hy hb
theorem tdiv_i64 {a b : Int} (h0 : -9223372036854775808 ≤ a) (h1 : a < 9223372036854775808) (hb : 1 ≤ b) : IntKind.i64.wrap (a.tdiv b) = a.tdiv b := by
  have h2 : (a.tdiv b).natAbs ≤ a.natAbs := by rw [Int.natAbs_tdiv]; exact Nat.div_le_self _ _
  rw [IntKind.wrap_i64]
  have h3 : b = 1 ∨ 2 ≤ b := by omega
  rcases h3 with rfl | h3
  · rw [Int.tdiv_one]; omega
  · have h4 : (a.tdiv b).natAbs ≤ a.natAbs / 2 := by rw [Int.natAbs_tdiv]; exact Nat.div_le_div_left (by omega) (by omega)
    omega
/-- A call that reads what is owned. -/
theorem LU.call1 {f : FuncId} {fn : Func} {as0 : Array Operand} {ts : Array TypeId} {vs : List LV} {v : LV} {a : Atom} (k : Nat) (hk : H[k]? = some a) (hc : LCalls P f vs [a] (fun r H' => r = v ∧ H' = [a])) (hf : P.funcs[f]? = some fn) (hname : (fn.name == "runtime.NumGoroutine") = false) (hb : fn.body.isSome = true) (ha : Opds env as0.toList vs) :
    LU P env H ⟨d, .call { callee := .value (.func f), args := as0, argTypes := ts }, ty, pos, af, g⟩ v := fun w0 ph ac w hi hl N Q kk => by
  have hargs := ha.reps (a := ac) (ph := ph) (fun x hx => hl x (by simp only [Op.operands, Call.operands]; exact Array.mem_append.2 (.inr (by simpa using hx))))
  have hrun : (execOp ac.eval ⟨d, .call { callee := .value (.func f), args := as0, argTypes := ts }, ty, pos, af, g⟩).run P w = .ok (.enter f (as0.map ac.eval)) w := by
    simp [execOp, resolve, Deferred.ofValue, invoke, Act.eval, enters hf hname hb]
  unfold owp
  rw [hrun]
  refine upon_enter ?_
  have hfr : L.front k H = [a] ++ H.eraseIdx k := by unfold L.front; rw [hk]; rfl
  have hperm := front_perm k H
  rw [hfr] at hperm
  refine (hc (H.eraseIdx k) w0 ph w (as0.map ac.eval) ((HSub.perm hperm).app hi) (by rw [map_arr ac.eval as0]; exact hargs)).mono ?_
  rintro e w' ⟨u, ph', x, H', rfl, hle, hi', hx, rfl, rfl⟩
  exact kk ph' _ w' hle ((HSub.perm hperm.symm).app hi') hx
/-- The same of more things. -/
theorem LU.callP {f : FuncId} {fn : Func} {as0 : Array Operand} {ts : Array TypeId} {vs : List LV} {v : LV} {Hc R : List Atom} (hp : H.Perm (Hc ++ R)) (hc : LCalls P f vs Hc (fun r H' => r = v ∧ H' = Hc)) (hf : P.funcs[f]? = some fn) (hname : (fn.name == "runtime.NumGoroutine") = false) (hb : fn.body.isSome = true) (ha : Opds env as0.toList vs) :
    LU P env H ⟨d, .call { callee := .value (.func f), args := as0, argTypes := ts }, ty, pos, af, g⟩ v := fun w0 ph ac w hi hl N Q kk => by
  have hargs := ha.reps (a := ac) (ph := ph) (fun x hx => hl x (by simp only [Op.operands, Call.operands]; exact Array.mem_append.2 (.inr (by simpa using hx))))
  have hrun : (execOp ac.eval ⟨d, .call { callee := .value (.func f), args := as0, argTypes := ts }, ty, pos, af, g⟩).run P w = .ok (.enter f (as0.map ac.eval)) w := by
    simp [execOp, resolve, Deferred.ofValue, invoke, Act.eval, enters hf hname hb]
  unfold owp
  rw [hrun]
  refine upon_enter ?_
  refine (hc R w0 ph w (as0.map ac.eval) ((HSub.perm hp).app hi) (by rw [map_arr ac.eval as0]; exact hargs)).mono ?_
  rintro e w' ⟨u, ph', x, H', rfl, hle, hi', hx, rfl, rfl⟩
  exact kk ph' _ w' hle ((HSub.perm hp.symm).app hi') hx
theorem hsub_front {a : Atom} {k : Nat} (hk : H[k]? = some a) : HSub H ([a] ++ H.eraseIdx k) := by
  have hfr : L.front k H = [a] ++ H.eraseIdx k := by unfold L.front; rw [hk]; rfl
  have := front_perm k H
  rw [hfr] at this
  exact HSub.perm this
theorem LO.call1 {f : FuncId} {fn : Func} {as0 : Array Operand} {ts : Array TypeId} {vs : List LV} {post : LV → List Atom → Prop} {d : Tmp} {a : Atom} (k : Nat) (hk : st.heap[k]? = some a) (hc : LCalls P f vs [a] post) (hf : P.funcs[f]? = some fn) (hname : (fn.name == "runtime.NumGoroutine") = false) (hb : fn.body.isSome = true) (hd : Nat.blt d st.n.k = true) (ha : Opds st.env as0.toList vs)
    (h : ∀ r H', post r H' → K ⟨st.n, (d, r) :: st.env, H' ++ st.heap.eraseIdx k⟩) : LO P ⟨some d, .call { callee := .value (.func f), args := as0, argTypes := ts }, ty, pos, af, g⟩ st K := LO.call hc hf hname hb hd (hsub_front hk) ha h
theorem Elems.nil {k : Nat} : Elems env k [] [] := trivial
theorem Elems.cons {k : Nat} {x : Operand} {v : LV} {c : List LV} {ps : List (Nat × Operand)} {es : List (List LV)} (h : Is (ev env x) v) (hc : Cells v c) (r : Elems env (k + 1) ps es) : Elems env k ((k, x) :: ps) (c :: es) := ⟨rfl, ⟨v, h, hc⟩, r⟩
theorem Elems.laid {size : Nat} : ∀ {ps : List (Nat × Operand)} {es : List (List LV)} {k : Nat} {pre rest : List LV}, Elems env k ps es → (∀ e ∈ es, e.length = size) → pre.length = k * size → rest.length = es.length * size → ∃ qs, Parts env ps qs ∧ L.laid (fun i => some (i * size, size)) (pre ++ rest) qs = some (pre ++ es.flatten)
  | [], [], k, pre, rest, _, _, _, hr => ⟨[], trivial, by
      obtain rfl : rest = [] := List.eq_nil_of_length_eq_zero (by simpa using hr)
      simp [L.laid]⟩
  | (i, x) :: ps, c :: es, k, pre, rest, ⟨hik, hv, hE⟩, hs, hp, hr => by
    subst hik
    have hc := hs c (by simp)
    simp only [List.length_cons, Nat.succ_mul] at hr
    have hput : putAt (pre ++ rest) (i * size) c = (pre ++ c) ++ rest.drop size := by
      unfold putAt
      rw [List.take_append_of_le_length (by omega), List.take_of_length_le (by omega), List.drop_append]
      rw [List.drop_of_length_le (by omega), List.nil_append, hp, hc, Nat.add_sub_cancel_left]
    obtain ⟨qs, h1, h2⟩ := Elems.laid (pre := pre ++ c) (rest := rest.drop size) hE (fun e he => hs e (List.mem_cons_of_mem _ he)) (by rw [List.length_append, hp, hc, Nat.succ_mul]) (by rw [List.length_drop]; omega)
    refine ⟨(i, c) :: qs, ⟨rfl, hv, h1⟩, ?_⟩
    have hcond : (Nat.beq c.length size && Nat.ble (i * size + c.length) (pre ++ rest).length) = true := by
      rw [Bool.and_eq_true]
      exact ⟨by rw [hc]; exact Nat.beq_refl _, Nat.ble_eq_true_of_le (by rw [List.length_append]; omega)⟩
    simp only [L.laid, hcond, cond_true, hput]
    rw [h2, List.flatten_cons, List.append_assoc]
  | [], _ :: _, _, _, _, h, _, _, _ => h.elim
  | _ :: _, [], _, _, _, h, _, _, _ => h.elim
/-- []T{a, b, ..} -/
theorem LU.lits {t e : TypeId} {n size : Nat} {ps : Array (Nat × Operand)} {es : List (List LV)} {z : Value} (ht : P.underlying t = some (.slice e)) (hs : ∀ w, (sizeOf e).run P w = .ok size w) (hz : ∀ w, (zeroValue e).run P w = .ok z w) (hz1 : ∀ (i : Nat) (c : Value), z.cells[i]? = some c → c.oneCell' = true) (hzs : z.cells.size = size) (hs0 : 0 < size) (hn : n * size ≤ 16777216)
    (hp : Elems env 0 ps.toList es) (hes : ∀ e ∈ es, e.length = size) (hen : es.length = n) : LU P env H ⟨d, .buildSlice t n ps, ty, pos, af, g⟩ (.sl size es .full) := by
  have hzl : ((List.replicate n (raws z.cells.toList)).flatten).length = n * size := by simp [raws, hzs]
  obtain ⟨qs, h1, h2⟩ := Elems.laid (pre := []) (rest := (List.replicate n (raws z.cells.toList)).flatten) hp hes (by simp) (by rw [hzl, hen])
  have := LU.lit (P := P) (H := H) (d := d) (ty := ty) (pos := pos) (af := af) (g := g) ht hs hz hz1 hzs hs0 hn h1 h2
  rw [List.nil_append, ← List.append_nil es.flatten, chunks_flat size es n [] hen hes] at this
  exact this
theorem Opds.nil : Opds env [] [] := trivial
theorem Opds.cons {x : Operand} {v : LV} {xs : List Operand} {vs : List LV} (h : Is (ev env x) v) (k : Opds env xs vs) : Opds env (x :: xs) (v :: vs) := ⟨h, k⟩
theorem Parts.nil : Parts env [] [] := trivial
theorem Parts.cons {i : Nat} {x : Operand} {v : LV} {c : List LV} {ps : List (Nat × Operand)} {qs : List (Nat × List LV)} (h : Is (ev env x) v) (hc : Cells v c) (k : Parts env ps qs) : Parts env ((i, x) :: ps) ((i, c) :: qs) := ⟨rfl, ⟨v, h, hc⟩, k⟩
def EqR (P : Program) (n : Nat) (t : TypeId) (x y : Value) (b : Bool) : Prop := ∀ d w, (Op.equalIn (d + n) t x y).run P w = .ok b w
theorem EqR.int {t : TypeId} {k k' : IntKind} {a b : Int} (h : P.underlying t = some (.int k')) : EqR P 1 t (.int k a) (.int k b) (decide (a = b)) := fun d w => by rw [run_equalIn_int w d t k k' a b h, beq_dec]
theorem EqR.string {t : TypeId} {a b : ByteArray} (h : P.underlying t = some .string) : EqR P 1 t (.string a) (.string b) (a.toList == b.toList) := fun d w => run_equalIn_string w d t a b h
theorem EqR.up {n : Nat} {t : TypeId} {x y : Value} {b : Bool} (k : Nat) (h : EqR P n t x y b) : EqR P (n + k) t x y b := fun d w => by
  rw [show d + (n + k) = (d + k) + n by omega]
  exact h _ w
inductive RawL : List LV → List Value → Prop where
  | nil : RawL [] []
  | cons {v : Value} {l : List LV} {vs : List Value} (h : RawL l vs) : RawL (.raw v :: l) (v :: vs)
theorem RawL.eq : ∀ {l : List LV} {vs : List Value}, RawL l vs → l = raws vs
  | _, _, .nil => rfl
  | _, _, .cons h => by rw [h.eq]; rfl
theorem RawL.raws : ∀ (vs : List Value), RawL (L.raws vs) vs
  | [] => .nil
  | v :: vs => .cons (RawL.raws vs)
inductive EqFs (P : Program) (n : Nat) (xs ys : Array Value) : List Field → Bool → Prop where
  | nil : EqFs P n xs ys [] true
  | one {f : Field} {u v : Value} {b : Bool} (hn : (f.name != "_") = true) (hu : ∀ w, (part f.type xs f.offset).run P w = .ok u w) (hv : ∀ w, (part f.type ys f.offset).run P w = .ok v w) (he : EqR P n f.type u v b) : EqFs P n xs ys [f] b
  | cons {f : Field} {fs : List Field} {u v : Value} {b c : Bool} (hn : (f.name != "_") = true) (hu : ∀ w, (part f.type xs f.offset).run P w = .ok u w) (hv : ∀ w, (part f.type ys f.offset).run P w = .ok v w) (he : EqR P n f.type u v b) (h : EqFs P n xs ys fs c) : EqFs P n xs ys (f :: fs) (b && c)
theorem EqFs.run {n : Nat} {xs ys : Array Value} : ∀ {fs : List Field} {b : Bool}, EqFs P n xs ys fs b → ∀ d w, (Op.eqFields (d + n) xs ys fs).run P w = .ok b w
  | _, _, .nil, d, w => rfl
  | _, _, .one (b := b) hn hu hv he, d, w => by
    have hn' := by simpa using hn
    simp only [Op.eqFields, ne_eq, hn', not_false_eq_true, if_true, Sem.run_bind, hu, hv, Result.andThen_ok, he d w]
    cases b <;> rfl
  | _, _, .cons (b := b) hn hu hv he h, d, w => by
    have hn' := by simpa using hn
    simp only [Op.eqFields, ne_eq, hn', not_false_eq_true, if_true, Sem.run_bind, hu, hv, Result.andThen_ok, he d w]
    cases b
    · rfl
    · simpa using EqFs.run h d w
theorem EqR.struct {n : Nat} {t : TypeId} {fs : Array Field} {xs ys : Array Value} {b : Bool} (ht : P.underlying t = some (.struct fs)) (hp : P.stoodInHeld t = false) (h : EqFs P n xs ys fs.toList b) : EqR P (n + 1) t (.agg xs) (.agg ys) b := fun d w => by
  have hf : P.fieldsOf t = fs := by simp [Program.fieldsOf, ht]
  rw [show d + (n + 1) = (d + n) + 1 by omega, run_equalIn_struct w (d + n) t xs ys (by rw [hf]; exact ht) hp, hf]
  exact h.run d w
theorem part_one {t : TypeId} (ht : ∀ w, (isAgg t).run P w = .ok false w) {cs : Array Value} {off : Nat} {v : Value} (h : cs[off]? = some v) (w : World) : (part t cs off).run P w = .ok v w := by
  obtain ⟨h1, h2⟩ := Array.getElem?_eq_some_iff.1 h
  simp [part, ht, h1, h2]
theorem part_agg {t : TypeId} {size : Nat} (hs : ∀ w, (sizeOf t).run P w = .ok size w) (ht : ∀ w, (isAgg t).run P w = .ok true w) {cs : Array Value} {off : Nat} {c : Array Value} (h : cs.extract off (off + size) = c) (w : World) : (part t cs off).run P w = .ok (.agg c) w := by
  simp [part, ht, hs, h]
theorem LU.eqlA {x y : Operand} {t t' : TypeId} {cs ds : List LV} {vs us : List Value} {n : Nat} {b : Bool} (hx : Is (ev env x) (.agg cs)) (hy : Is (ev env y) (.agg ds)) (rx : RawL cs vs) (ry : RawL ds us) (hg : P.eqGuardType P.depth t = false) (hn : Nat.ble n 10000 = true) (he : EqR P n t (.agg vs.toArray) (.agg us.toArray) b) : LU P env H ⟨d, .binOp .eql t x y t', ty, pos, af, g⟩ (.raw (.bool b)) := by
  rw [rx.eq] at hx
  rw [ry.eq] at hy
  exact .raw fun ac hl w => by
    have h1 := hl x (by simp [Op.operands]) _ (hx.trans Is.agg_raw)
    have h2 := hl y (by simp [Op.operands]) _ (hy.trans Is.agg_raw)
    have hn' := Nat.le_of_ble_eq_true hn
    have h3 := he (10000 - n) w
    rw [show 10000 - n + n = 10000 by omega] at h3
    simp only [execOp, h1, h2, Sem.run_bind, run_eqGuard_agg w .eql t x y _ _ hg, Result.andThen_ok, run_eql_struct, h3, Sem.run_pure]
theorem LU.neqA {x y : Operand} {t t' : TypeId} {cs ds : List LV} {vs us : List Value} {n : Nat} {b : Bool} (hx : Is (ev env x) (.agg cs)) (hy : Is (ev env y) (.agg ds)) (rx : RawL cs vs) (ry : RawL ds us) (hg : P.eqGuardType P.depth t = false) (hn : Nat.ble n 10000 = true) (he : EqR P n t (.agg vs.toArray) (.agg us.toArray) b) : LU P env H ⟨d, .binOp .neq t x y t', ty, pos, af, g⟩ (.raw (.bool (!b))) := by
  rw [rx.eq] at hx
  rw [ry.eq] at hy
  exact .raw fun ac hl w => by
    have h1 := hl x (by simp [Op.operands]) _ (hx.trans Is.agg_raw)
    have h2 := hl y (by simp [Op.operands]) _ (hy.trans Is.agg_raw)
    have hn' := Nat.le_of_ble_eq_true hn
    have h3 := he (10000 - n) w
    rw [show 10000 - n + n = 10000 by omega] at h3
    simp only [execOp, h1, h2, Sem.run_bind, run_eqGuard_agg w .neq t x y _ _ hg, Result.andThen_ok, run_neq_struct, h3, Sem.run_pure]
/-- A result that lies in memory. -/
theorem Res.cell2 {a t : Tmp} {ta : TypeId} {st : LS} {b off : Nat} {tb : TypeId} {xs : List LV} {size : Nat} {agg : Bool} {v r s : LV} (k : Nat) (hk : st.heap[k]? = some (.cells b tb xs)) (ha : get st.env a = .raw (.pointer (some ⟨b, off, Option.none⟩))) (ht : Ty P ta size agg) (hv : Part size agg xs off v) (hr : Is v r) (hs : Is (get st.env t) s) : Res P #[.cell a ta, .tmp t] st (.tup [r, s]) := fun w0 ph ac w fn h rl => by
  obtain ⟨F, hF, cs, hh, hc⟩ := rl.inv.atom_at hk
  have h1 := rl.tmps a
  rw [ha] at h1
  obtain ⟨z, hrun, hrep⟩ := creps_part (P := P) hc ht hv (w := w) (b := b) (fun i c hi => by rw [cell_of_row w b i cs tb (0, 0) hh]; exact hi)
  refine ⟨.tuple #[z, ac.tmps.getD t undef], by
    have h2 := h1.rawE
    rw [Array.getD_eq_getD_getElem?] at h2
    simp [results, h, h2, asAddr, hrun], .tup _ _ rfl fun i c x h2 h3 => ?_⟩
  match i with
  | 0 => simp at h2 h3; subst h2; subst h3; exact hr _ _ hrep
  | 1 => simp at h2 h3; subst h2; subst h3; exact hs _ _ (by simpa using rl.tmps t)
  | k + 2 => simp at h2
theorem Res.cell1 {a : Tmp} {ta : TypeId} {st : LS} {b off : Nat} {tb : TypeId} {xs : List LV} {size : Nat} {agg : Bool} {v r : LV} (k : Nat) (hk : st.heap[k]? = some (.cells b tb xs)) (ha : get st.env a = .raw (.pointer (some ⟨b, off, Option.none⟩))) (ht : Ty P ta size agg) (hv : Part size agg xs off v) (hr : Is v r) : Res P #[.cell a ta] st r := fun w0 ph ac w fn h rl => by
  obtain ⟨F, hF, cs, hh, hc⟩ := rl.inv.atom_at hk
  have h1 := rl.tmps a
  rw [ha] at h1
  obtain ⟨z, hrun, hrep⟩ := creps_part (P := P) hc ht hv (w := w) (b := b) (fun i c hi => by rw [cell_of_row w b i cs tb (0, 0) hh]; exact hi)
  exact ⟨z, by
    have h2 := h1.rawE
    rw [Array.getD_eq_getD_getElem?] at h2
    simp [results, h, h2, asAddr, hrun], hr _ _ hrep⟩
/-- Quiet operations of a region that draws its order. -/
def QD (P : Program) (ops : Array Oper) (H : List Atom) (n : NN) (env : List (Nat × LV)) (l : List Oper) (K : List (Nat × LV) → Prop) : Prop := ∃ env', QC P ops H env l env' ∧ (l.all fun o => match o.dst with | some d => Nat.blt d n.k | none => false) = true ∧ K env'
theorem QD.nil {ops : Array Oper} {n : NN} {K : List (Nat × LV) → Prop} (h : K env) : QD P ops H n env [] K := ⟨env, .nil _, rfl, h⟩
theorem QD.q {ops : Array Oper} {n : NN} {K : List (Nat × LV) → Prop} {o : Oper} {l : List Oper} {v : LV} {d : Nat} (hq : LQ P ops env H o v) (hd : o.dst = some d) (hds : Nat.blt d n.k = true) (h : QD P ops H n ((d, v) :: env) l K) : QD P ops H n env (o :: l) K := by
  obtain ⟨e, h1, h2, h3⟩ := h
  exact ⟨e, .cons hq hd h1, by simp only [List.all_cons, hd, hds, h2, Bool.and_self], h3⟩
theorem QD.u {ops : Array Oper} {n : NN} {K : List (Nat × LV) → Prop} {l : List Oper} {v : LV} {d : Nat} {op : Op} (hq : LU P env H ⟨some d, op, ty, pos, af, none⟩ v) (hds : Nat.blt d n.k = true) (h : QD P ops H n ((d, v) :: env) l K) : QD P ops H n env (⟨some d, op, ty, pos, af, none⟩ :: l) K := .q (.plain rfl hq) rfl hds h
theorem QD.gT {ops : Array Oper} {n : NN} {K : List (Nat × LV) → Prop} {l : List Oper} {v : LV} {d j dj : Nat} {op : Op} {b : Bool} (hd : (ops[j]?).bind (·.dst) = some dj) (hb : get env dj = .raw (.bool b)) (hq : b = true → LU P env H ⟨some d, op, ty, pos, af, some (j, true)⟩ v) (hds : Nat.blt d n.k = true) (h : QD P ops H n ((d, .when b v) :: env) l K) : QD P ops H n env (⟨some d, op, ty, pos, af, some (j, true)⟩ :: l) K := .q (.guardT rfl hd hb hq) rfl hds h
theorem QD.gF {ops : Array Oper} {n : NN} {K : List (Nat × LV) → Prop} {l : List Oper} {v : LV} {d j dj : Nat} {op : Op} {b : Bool} (hd : (ops[j]?).bind (·.dst) = some dj) (hb : get env dj = .raw (.bool b)) (hq : b = false → LU P env H ⟨some d, op, ty, pos, af, some (j, false)⟩ v) (hds : Nat.blt d n.k = true) (h : QD P ops H n ((d, .when (!b) v) :: env) l K) : QD P ops H n env (⟨some d, op, ty, pos, af, some (j, false)⟩ :: l) K := .q (.guardF rfl hd hb hq) rfl hds h
theorem LW.drawM (m : Nat) {id : Nat} {l : List Oper} {Q : Exit → LS → Prop} (hmo : P.follows .mixedOrders = true) (hok : drawOk l.toArray m = true) (hm : Nat.ble m l.length = true) (h : QD P l.toArray st.heap st.n st.env (l.take m) fun env' => LL P l.toArray (l.drop m) ⟨st.n, env', st.heap⟩ (fun s => Q .normal s)) (hnd : noDefer l = true := by kernel_rfl) : LW P (.region id l.toArray true) st Q := by
  obtain ⟨env', h1, h2, h3⟩ := h
  have hlen : (l.take m).length = m := by rw [List.length_take]; have := Nat.le_of_ble_eq_true hm; omega
  exact LW.draw hmo (List.take_append_drop m l).symm (by rw [hlen]; exact hok) h2 h1 h3 hnd
/-- How a body ends. -/
theorem Ends.ret {rs : Array ResultVar} {R H' : List Atom} {post : LV → List Atom → Prop} {r : LV} (hr : Res P rs st r) (hh : HSub st.heap (H' ++ R)) (hp : post r H') (hd : st.n.df = []) : Ends P rs R post .ret st := ⟨.inr rfl, .plain hd hr hh hp⟩
theorem Ends.normal {rs : Array ResultVar} {R H' : List Atom} {post : LV → List Atom → Prop} {r : LV} (hr : Res P rs st r) (hh : HSub st.heap (H' ++ R)) (hp : post r H') (hd : st.n.df = []) : Ends P rs R post .normal st := ⟨.inl rfl, .plain hd hr hh hp⟩
end
end Go.L
namespace Go.L
open Go.RowKit
theorem IsR {x : LV} {v : Value} (h : x = .raw v) : Is x (.raw v) := .of h
theorem IsA {x : LV} {cs : List LV} (h : x = .agg cs) : Is x (.agg cs) := .of h
theorem IsS {x : LV} {size : Nat} {es : List (List LV)} {k : Cap} (h : x = .sl size es k) : Is x (.sl size es .unk) := (Is.of h).trans Is.unk
theorem asB {x : LV} {b c : Bool} (h : x = .raw (.bool b)) (hb : b = c) : Is x (.raw (.bool c)) := .of (by rw [h, hb])
theorem HSub.pick {a : Atom} {H K : List Atom} (k : Nat) (hk : H[k]? = some a) (h : HSub (H.eraseIdx k) K) : HSub H (a :: K) := (hsub_front hk).trans (HSub.cons h)
namespace X
section
variable {P : Program} {ops : Array Oper} {n : NN} {env : List (Nat × LV)} {H : List Atom} {K : LS → Prop} {l : List Oper} {ty : TypeId} {pos : String} {af : Array Edge} {g : Option (Nat × Bool)}
theorem u {v : LV} {d : Nat} {op : Op} (hq : LU P env H ⟨some d, op, ty, pos, af, none⟩ v) (hds : Nat.blt d n.k = true) (h : LL P ops l ⟨n, (d, v) :: env, H⟩ K) : LL P ops (⟨some d, op, ty, pos, af, none⟩ :: l) ⟨n, env, H⟩ K := LL.u hq hds h
theorem gT {v : LV} {d j dj : Nat} {op : Op} {b : Bool} (hd : (ops[j]?).bind (·.dst) = some dj) (hb : get env dj = .raw (.bool b)) (hq : b = true → LU P env H ⟨some d, op, ty, pos, af, some (j, true)⟩ v) (hds : Nat.blt d n.k = true) (h : LL P ops l ⟨n, (d, .when b v) :: env, H⟩ K) : LL P ops (⟨some d, op, ty, pos, af, some (j, true)⟩ :: l) ⟨n, env, H⟩ K := LL.gT hd hb hq hds h
theorem gF {v : LV} {d j dj : Nat} {op : Op} {b : Bool} (hd : (ops[j]?).bind (·.dst) = some dj) (hb : get env dj = .raw (.bool b)) (hq : b = false → LU P env H ⟨some d, op, ty, pos, af, some (j, false)⟩ v) (hds : Nat.blt d n.k = true) (h : LL P ops l ⟨n, (d, .when (!b) v) :: env, H⟩ K) : LL P ops (⟨some d, op, ty, pos, af, some (j, false)⟩ :: l) ⟨n, env, H⟩ K := LL.gF hd hb hq hds h
theorem lq_do {o : Oper} {v : LV} {j d : Nat} {want : Bool} (hg : o.guard = some (j, want)) (hd : (ops[j]?).bind (·.dst) = some d) (hb : get env d = .raw (.bool want)) (h : LU P env H o v) : LQ P ops env H o v := fun w0 ph a w hi hl N Q k => by
  have hr := hl d (List.mem_append_right _ (by simp [hg, hd]))
  rw [hb] at hr
  have hy := yields' (ops := ops) (ph := ph) (env := env) hd hr.rawE
  rw [if_pos (by simp [Region.wanted, hg, hy])]
  exact h w0 ph a w hi (looks_eval hl) N Q k
theorem doT {v : LV} {d j dj : Nat} {op : Op} (hd : (ops[j]?).bind (·.dst) = some dj) (hb : get env dj = .raw (.bool true)) (hq : LU P env H ⟨some d, op, ty, pos, af, some (j, true)⟩ v) (hds : Nat.blt d n.k = true) (h : LL P ops l ⟨n, (d, v) :: env, H⟩ K) : LL P ops (⟨some d, op, ty, pos, af, some (j, true)⟩ :: l) ⟨n, env, H⟩ K := LL.q (lq_do rfl hd hb hq) rfl hds h
theorem doF {v : LV} {d j dj : Nat} {op : Op} (hd : (ops[j]?).bind (·.dst) = some dj) (hb : get env dj = .raw (.bool false)) (hq : LU P env H ⟨some d, op, ty, pos, af, some (j, false)⟩ v) (hds : Nat.blt d n.k = true) (h : LL P ops l ⟨n, (d, v) :: env, H⟩ K) : LL P ops (⟨some d, op, ty, pos, af, some (j, false)⟩ :: l) ⟨n, env, H⟩ K := LL.q (lq_do rfl hd hb hq) rfl hds h
theorem act {op : Op} {d : Option Nat} (h : LO P ⟨d, op, ty, pos, af, none⟩ ⟨n, env, H⟩ (fun s => LL P ops l s K)) : LL P ops (⟨d, op, ty, pos, af, none⟩ :: l) ⟨n, env, H⟩ K := LL.act h
/-- A guarded operation that acts, the ways parted. -/
theorem part {o : Oper} {j : Nat} {want : Bool} (hg : o.guard = some (j, want)) {d : Nat} (hd : (ops[j]?).bind (·.dst) = some d) {b : Bool} (hb : get env d = .raw (.bool b)) {dd : Nat} (hdd : o.dst = some dd) (hds : Nat.blt dd n.k = true)
    (ht : b = want → LO P o ⟨n, env, H⟩ (fun s => LL P ops l s K)) (hf : b = (!want) → LL P ops l ⟨n, (dd, .any) :: env, H⟩ K) : LL P ops (o :: l) ⟨n, env, H⟩ K := LL.opG hg hd hb hdd hds ht hf
theorem weak {t : Nat} {v : LV} (hs : Is (get env t) v) (h : LL P ops l ⟨n, (t, v) :: env, H⟩ K) : LL P ops l ⟨n, env, H⟩ K := LL.weak hs h
theorem ghost {H' : List Atom} (hs : HSub H H') (h : LL P ops l ⟨n, env, H'⟩ K) : LL P ops l ⟨n, env, H⟩ K := LL.ghost hs h
theorem wghost {c : Code} {Q : Exit → LS → Prop} {H' : List Atom} (hs : HSub H H') (h : LW P c ⟨n, env, H'⟩ Q) : LW P c ⟨n, env, H⟩ Q := LW.ghost hs h
theorem wweak {c : Code} {Q : Exit → LS → Prop} {t : Nat} {v : LV} (hs : Is (get env t) v) (h : LW P c ⟨n, (t, v) :: env, H⟩ Q) : LW P c ⟨n, env, H⟩ Q := LW.weakS hs h
theorem box {x : Operand} {t : TypeId} {d : Tmp} {v : LV} {xs : List LV} (hd : Nat.blt d n.k = true) (hx : Is (ev env x) v) (hc : Cells v xs) (h : ∀ b, K ⟨n, (d, .raw (.pointer (some ⟨b, 0, none⟩))) :: env, .cells b t xs :: H⟩) : LO P ⟨some d, .box t x, ty, pos, af, g⟩ ⟨n, env, H⟩ K := LO.box hd hx hc h
theorem alloc {t : TypeId} {d : Tmp} {z : Value} {xs : List LV} (hd : Nat.blt d n.k = true) (hz : ∀ w, (zeroValue t).run P w = .ok z w) (hc : Cells (.raw z) xs) (h : ∀ b, K ⟨n, (d, .raw (.pointer (some ⟨b, 0, none⟩))) :: env, .cells b t xs :: H⟩) : LO P ⟨some d, .alloc t, ty, pos, af, g⟩ ⟨n, env, H⟩ K := LO.alloc hd hz hc h
theorem store {x y : Operand} {t t' : TypeId} {size : Nat} {xs ys : List LV} {b off : Nat} {v : LV} (k : Nat) (hk : H[k]? = some (.cells b t' xs)) (hs : ∀ w, (sizeOf t).run P w = .ok size w) (hx : Is (ev env x) (.raw (.pointer (some ⟨b, off, none⟩)))) (hy : Is (ev env y) v) (hc : Cells v ys) (hys : ys.length = size) (hlen : off + size ≤ xs.length)
    (h : K ⟨n, env, .cells b t' (putAt xs off ys) :: H.eraseIdx k⟩) : LO P ⟨none, .store t x y, ty, pos, af, g⟩ ⟨n, env, H⟩ K := LO.store k hk hs hx hy hc hys hlen h
theorem append {s x : Operand} {t tx e : TypeId} {z : Value} {size by_ : Nat} {es ys : List (List LV)} {y : LV} {d : Tmp} {b o c : Nat} (k : Nat) (hk : H[k]? = some (.tail b o c)) (hd : Nat.blt d n.k = true) (ht : P.underlying t = some (.slice e)) (hel : El P e z size by_) (hs : Is (ev env s) (.sl size es (.tok b o c))) (hx : Is (ev env x) y) (hy : SrcL P tx size y ys) (hb : (es.length + ys.length) * by_ ≤ 140737488355328) (hb0 : es.length + ys.length ≤ 9223372036854775807)
    (h : ∀ b' o' c', K ⟨n, (d, .sl size (es ++ ys) (.tok b' o' c')) :: env, .tail b' o' c' :: H.eraseIdx k⟩) :
    LO P ⟨some d, .call { callee := .builtin .append, args := #[s, x], argTypes := #[t, tx] }, ty, pos, af, g⟩ ⟨n, env, H⟩ K := LO.append k hk hd ht hel hs hx hy hb hb0 h
/-- append(s, x..) where s has no room; the new room is ours. -/
theorem appendF {s x : Operand} {t tx e : TypeId} {z : Value} {size by_ : Nat} {es ys : List (List LV)} {y : LV} {d : Tmp} (hd : Nat.blt d n.k = true) (ht : P.underlying t = some (.slice e)) (hel : El P e z size by_) (hs : Is (ev env s) (.sl size es .full)) (hx : Is (ev env x) y) (hy : SrcL P tx size y ys) (hb : (es.length + ys.length) * by_ ≤ 140737488355328) (hb0 : es.length + ys.length ≤ 9223372036854775807)
    (h : ∀ b' o' c', K ⟨n, (d, .sl size (es ++ ys) (.tok b' o' c')) :: env, .tail b' o' c' :: H⟩) :
    LO P ⟨some d, .call { callee := .builtin .append, args := #[s, x], argTypes := #[t, tx] }, ty, pos, af, g⟩ ⟨n, env, H⟩ K := fun w0 ph a w r N Q k =>
  LO.append (st := ⟨n, env, .tail 0 0 0 :: H⟩) 0 rfl hd ht hel (hs.trans (Is.full_tok 0 0)) hx hy hb hb0 h w0 ph a w ⟨(HSub.tail0 0 0 0 (Nat.le_refl _) H).app r.inv, r.defers, r.size, r.tmps⟩ N Q k
theorem call {f : FuncId} {fn : Func} {as0 : Array Operand} {ts : Array TypeId} {vs : List LV} {Hc R : List Atom} {post : LV → List Atom → Prop} {d : Tmp} (hc : LCalls P f vs Hc post) (hf : P.funcs[f]? = some fn) (hname : (fn.name == "runtime.NumGoroutine") = false) (hb : fn.body.isSome = true) (hd : Nat.blt d n.k = true) (hsub : HSub H (Hc ++ R)) (ha : Opds env as0.toList vs)
    (h : ∀ r H', post r H' → K ⟨n, (d, r) :: env, H' ++ R⟩) : LO P ⟨some d, .call { callee := .value (.func f), args := as0, argTypes := ts }, ty, pos, af, g⟩ ⟨n, env, H⟩ K := LO.call hc hf hname hb hd hsub ha h
theorem call1 {f : FuncId} {fn : Func} {as0 : Array Operand} {ts : Array TypeId} {vs : List LV} {post : LV → List Atom → Prop} {d : Tmp} {a : Atom} (k : Nat) (hk : H[k]? = some a) (hc : LCalls P f vs [a] post) (hf : P.funcs[f]? = some fn) (hname : (fn.name == "runtime.NumGoroutine") = false) (hb : fn.body.isSome = true) (hd : Nat.blt d n.k = true) (ha : Opds env as0.toList vs)
    (h : ∀ r H', post r H' → K ⟨n, (d, r) :: env, H' ++ H.eraseIdx k⟩) : LO P ⟨some d, .call { callee := .value (.func f), args := as0, argTypes := ts }, ty, pos, af, g⟩ ⟨n, env, H⟩ K := LO.call1 k hk hc hf hname hb hd ha h
section
variable {Q : Exit → LS → Prop} {t : List It} {x y c : Code}
theorem cond {o : Operand} {b : Bool} (hc : ev env o = .raw (.bool b)) (ht : b = true → LW P x ⟨n, env, H⟩ Q) (hf : b = false → LW P y ⟨n, env, H⟩ Q) : LW P (.cond o x y) ⟨n, env, H⟩ Q := LW.cond hc ht hf
theorem condT {o : Operand} {b : Bool} (hc : ev env o = .raw (.bool b)) (hb : b = true) (h : LW P x ⟨n, env, H⟩ Q) : LW P (.cond o x y) ⟨n, env, H⟩ Q := LW.cond hc (fun _ => h) (fun h' => by rw [hb] at h'; cases h')
theorem condF {o : Operand} {b : Bool} (hc : ev env o = .raw (.bool b)) (hb : b = false) (h : LW P y ⟨n, env, H⟩ Q) : LW P (.cond o x y) ⟨n, env, H⟩ Q := LW.cond hc (fun h' => by rw [hb] at h'; cases h') (fun _ => h)
theorem drawM (m : Nat) {id : Nat} {l : List Oper} (hmo : P.follows .mixedOrders = true) (hok : drawOk l.toArray m = true) (hm : Nat.ble m l.length = true) (h : QD P l.toArray H n env (l.take m) fun env' => LL P l.toArray (l.drop m) ⟨n, env', H⟩ (fun s => Q .normal s)) (hnd : noDefer l = true := by kernel_rfl) : LW P (.region id l.toArray true) ⟨n, env, H⟩ Q := LW.drawM m hmo hok hm h hnd
theorem loopK {α : Type} (mod : α → List (Nat × LV)) (live : List Nat) (hp : α → List Atom) (φ : α → Prop) (μ : α → Nat) (p0 : α) (hm : EnvLe (mod p0) env) (hh : HSub H (hp p0)) (h0 : φ p0)
    (round : ∀ p, φ p → LW P c ⟨n, mod p ++ keep live env, hp p⟩ (after P (.rnd (Next n mod live env hp φ μ p) :: t) Q)) : LW P (.loop c) ⟨n, env, H⟩ (after P t Q) := LW.loopK mod live hp φ μ p0 hm hh h0 round
theorem meetK {α : Type} (mod : α → List (Nat × LV)) (live : List Nat) (hp : α → List Atom) (φ : α → Prop) (h : LW P x ⟨n, env, H⟩ (after P (.rnd (Meets n mod live env hp φ) :: t) Q)) (k : ∀ p, φ p → LW P y ⟨n, mod p ++ keep live env, hp p⟩ (after P t Q)) : LW P (.seq x y) ⟨n, env, H⟩ (after P t Q) := LW.meetK mod live hp φ h k
theorem next {α : Type} {m : NN} {e : List (Nat × LV)} {mod : α → List (Nat × LV)} {live : List Nat} {e0 : List (Nat × LV)} {hp : α → List Atom} {φ : α → Prop} {μ : α → Nat} {p : α} (q : α) (hn : n = m) (hm : EnvLe (mod q) e) (hk : Keeps live e0 e) (hh : HSub H (hp q)) (h1 : φ q) (h2 : μ q < μ p) : Next m mod live e0 hp φ μ p ⟨n, e, H⟩ := Next.mk' q hn hm hk hh h1 h2
theorem meets {α : Type} {m : NN} {e : List (Nat × LV)} {mod : α → List (Nat × LV)} {live : List Nat} {e0 : List (Nat × LV)} {hp : α → List Atom} {φ : α → Prop} (q : α) (hn : n = m) (hm : EnvLe (mod q) e) (hk : Keeps live e0 e) (hh : HSub H (hp q)) (h1 : φ q) : Meets m mod live e0 hp φ ⟨n, e, H⟩ := Meets.mk' q hn hm hk hh h1
theorem ret {rs : Array ResultVar} {R H' : List Atom} {post : LV → List Atom → Prop} {r : LV} (hr : Res P rs ⟨n, env, H⟩ r) (hh : HSub H (H' ++ R)) (hp : post r H') (hd : n.df = [] := by rfl) : Ends P rs R post .ret ⟨n, env, H⟩ := Ends.ret hr hh hp hd
theorem normal {rs : Array ResultVar} {R H' : List Atom} {post : LV → List Atom → Prop} {r : LV} (hr : Res P rs ⟨n, env, H⟩ r) (hh : HSub H (H' ++ R)) (hp : post r H') (hd : n.df = [] := by rfl) : Ends P rs R post .normal ⟨n, env, H⟩ := Ends.normal hr hh hp hd
end
end
end X
section
variable {P : Program} {ops : Array Oper} {n : NN} {env : List (Nat × LV)} {H : List Atom} {K : LS → Prop} {l : List Oper} {ty : TypeId} {pos : String} {af : Array Edge} {g : Option (Nat × Bool)} {d : Option Nat}
theorem QD.doT {L : List (Nat × LV) → Prop} {v : LV} {d j dj : Nat} {op : Op} (hd : (ops[j]?).bind (·.dst) = some dj) (hb : get env dj = .raw (.bool true)) (hq : LU P env H ⟨some d, op, ty, pos, af, some (j, true)⟩ v) (hds : Nat.blt d n.k = true) (h : QD P ops H n ((d, v) :: env) l L) : QD P ops H n env (⟨some d, op, ty, pos, af, some (j, true)⟩ :: l) L := .q (X.lq_do rfl hd hb hq) rfl hds h
theorem LU.pickT {c x y : Operand} {v : Value} (hc : Is (ev env c) (.raw (.bool true))) (hx : Is (ev env x) (.raw v)) : LU P env H ⟨d, .pick c x y, ty, pos, af, g⟩ (.raw v) := LU.pick hc (fun _ => hx) (fun h => by cases h)
theorem LU.pickF {c x y : Operand} {v : Value} (hc : Is (ev env c) (.raw (.bool false))) (hy : Is (ev env y) (.raw v)) : LU P env H ⟨d, .pick c x y, ty, pos, af, g⟩ (.raw v) := LU.pick hc (fun h => by cases h) (fun _ => hy)
theorem LU.nilEqS {x y : Operand} {t t' e : TypeId} {a : Addr} (ht : P.underlying t = some (.pointer e)) (hx : Is (ev env x) (.raw (.pointer (some a)))) (hy : Is (ev env y) (.raw (.pointer none))) : LU P env H ⟨d, .binOp .eql t x y t', ty, pos, af, g⟩ (.raw (.bool false)) := by simpa using LU.nilp (P := P) (H := H) (d := d) (ty := ty) (pos := pos) (af := af) (g := g) (t' := t') ht (.inl rfl) hx hy
end
end Go.L
namespace Go.L
open Go.RowKit
def Weighs {H : Type} (P : Program) (t : TypeId) (d : DataW H) : Prop := ∀ n ∈ d.weights P t, n ≤ reachBytes
/-- Whatever of a type is read: its cells by their content, and what is said of them. -/
def Opens (P : Program) (t : TypeId) (Q : List LV → Prop) : Prop :=
  ∀ (H : Type) (enc : TypeId × Value → H) (w : World) (base : Nat) (spare : Nat → Bool) (held : Bool) (fuel : Nat) (cs : List Value) (x : DataW H × List MemPlace),
    DataW.trod enc P w base spare held fuel t cs = some x → Weighs P t x.1 → ∃ xs, CReps (PH.all w) cs.toArray xs ∧ Q xs
def QInt (k : IntKind) (xs : List LV) : Prop := ∃ n, xs = [.raw (.int k n)] ∧ (Lit.int k n).wf = true
def QBool (xs : List LV) : Prop := ∃ b, xs = [.raw (.bool b)]
def QStr (xs : List LV) : Prop := ∃ l : List UInt8, xs = [Str l] ∧ l.length ≤ reachBytes
def QSl (size B : Nat) (Q : List LV → Prop) (xs : List LV) : Prop := ∃ es, xs = [.sl size es .unk] ∧ (∀ c ∈ es, Q c) ∧ es.length * B ≤ reachBytes
def QNil (xs : List LV) : Prop := xs = []
def QCons (n : Nat) (Q1 Q2 : List LV → Prop) (xs : List LV) : Prop := ∃ a b, xs = a ++ b ∧ a.length = n ∧ Q1 a ∧ Q2 b
section
variable {P : Program}
theorem creps_one {ph : PH} {v : Value} {x : LV} (h1 : v.oneCell' = true) (r : Rep ph v x) : CReps ph [v].toArray [x] := by
  have := one_creps h1 r
  rwa [show v.cells = [v].toArray by cases v <;> first | rfl | (simp [Value.oneCell'] at h1)] at this
theorem Opens.int {t : TypeId} {k : IntKind} (ht : P.underlying t = some (.int k)) : Opens P t (QInt k) := fun H enc w base spare held fuel cs x h hw => by
  obtain ⟨n, rfl, _, hwf⟩ := DataW.trod_int ht h
  exact ⟨_, creps_one rfl (.raw _), n, rfl, hwf⟩
theorem Opens.string {t : TypeId} (ht : P.underlying t = some .string) : Opens P t QStr := fun H enc w base spare held fuel cs x h hw => by
  obtain ⟨s, rfl, rfl, _⟩ := DataW.trod_string ht h
  refine ⟨[Str s.data.toList], creps_one rfl ?_, s.data.toList, rfl, hw _ (by simp [DataW.weights])⟩
  have : (⟨s.data.toList.toArray⟩ : ByteArray) = s := by cases s; simp
  show Rep _ _ (.raw (.string ⟨s.data.toList.toArray⟩))
  rw [this]
  exact .raw _
theorem weightsAll_mem {H : Type} {e : TypeId} : ∀ {l : List (DataW H)} {d : DataW H}, d ∈ l → ∀ n ∈ d.weights P e, n ∈ DataW.weightsAll P e l
  | d' :: l, d, h, n, hn => by
    rw [DataW.weightsAll]
    rcases List.mem_cons.1 h with rfl | h
    · exact List.mem_append_left _ hn
    · exact List.mem_append_right _ (weightsAll_mem h n hn)
theorem weightsEach_mem {H : Type} : ∀ {ts : List TypeId} {l : List (DataW H)} {i : Nat} {t : TypeId} {d : DataW H}, ts[i]? = some t → l[i]? = some d → ∀ n ∈ d.weights P t, n ∈ DataW.weightsEach P ts l
  | t' :: ts, d' :: l, 0, t, d, h1, h2, n, hn => by
    simp at h1 h2
    subst h1
    subst h2
    rw [DataW.weightsEach]
    exact List.mem_append_left _ hn
  | t' :: ts, d' :: l, i + 1, t, d, h1, h2, n, hn => by
    rw [DataW.weightsEach]
    exact List.mem_append_right _ (weightsEach_mem (by simpa using h1) (by simpa using h2) n hn)
  | [], _, _, _, _, h1, _, _, _ => by simp at h1
  | _ :: _, [], _, _, _, _, h2, _, _ => by simp at h2
theorem Opens.slice {t e : TypeId} {size B : Nat} {Q : List LV → Prop} (ht : P.underlying t = some (.slice e)) (hc : P.cellsOf e = size) (hb : P.bytesOf e = B) (hs0 : 0 < size) (he : Opens P e Q) : Opens P t (QSl size B Q) := fun H enc w base spare held fuel cs x h hw => by
  rcases DataW.trod_slice ht h with ⟨rfl, rfl⟩ | ⟨a, len, cap, elems, rest, n, _, rfl, rfl, hba, hl, hm, hlen, hel, hsp, hns⟩
  · exact ⟨[.sl size [] .unk], creps_one rfl (((Is.nil size).trans Is.unk) _ _ (.raw _)), [], rfl, by simp, by simp⟩
  · rw [hc] at hel
    have hwe : ∀ y ∈ elems, Weighs P e y.1 := fun y hy m hm' => hw m (by
      simp only [DataW.weights, ht]
      exact List.mem_cons_of_mem _ (List.mem_append_left _ (weightsAll_mem (List.mem_map_of_mem hy) m hm')))
    have key : ∀ i, ∃ c : List Value × List LV, i < len → w.cells? base (a.add (i * size)) size = some c.1 ∧ CReps (PH.all w) c.1.toArray c.2 ∧ Q c.2 := fun i => by
      by_cases hi : i < len
      · have h1 := hel i hi
        have hie : i < elems.length := by omega
        rw [List.getElem?_eq_getElem hie, Option.bind_eq_some_iff] at h1
        obtain ⟨c, hc1, hc2⟩ := h1
        obtain ⟨xs, h2, h3⟩ := he H enc w base spare held n c _ hc2 (hwe _ (List.getElem_mem hie))
        exact ⟨(c, xs), fun _ => ⟨hc1, h2, h3⟩⟩
      · exact ⟨([], []), fun h => absurd h hi⟩
    obtain ⟨f, hf⟩ := Classical.axiomOfChoice key
    have hcl : ∀ i, i < len → (f i).1.length = size ∧ (f i).2.length = size := fun i hi => by
      obtain ⟨h1, h2, _⟩ := hf i hi
      have h3 := (World.cells?_some h1).2.1
      have h4 := h2.1.1
      simp at h4
      omega
    have hget : ∀ (i : Nat) (e : List LV), ((List.range len).map fun i => (f i).2)[i]? = some e → i < len ∧ e = (f i).2 := fun i e hi => by
      simp only [List.getElem?_map, List.getElem?_range'] at hi
      by_cases h : i < len
      · simp [h] at hi
        exact ⟨h, hi.symm⟩
      · simp [h] at hi
    have hspot : 0 < len → a.spot = none := fun h0 => by
      obtain ⟨h1, _, _⟩ := hf 0 h0
      have h3 := (World.cells?_some h1).2.2 0 hs0
      have h4 := (hcl 0 h0).1
      rw [List.getElem?_eq_getElem (by omega), Nat.zero_mul] at h3
      cases hsq : a.spot with
      | none => rfl
      | some s =>
        rw [show (a.add 0).add 0 = a from rfl] at h3
        simp [World.cell?, hsq] at h3
        split at h3 <;> cases h3
    have hdiv : ∀ i j, j < size → (i * size + j) / size = i ∧ (i * size + j) % size = j := fun i j hj => by
      rw [Nat.mul_comm]
      exact ⟨by rw [Nat.mul_add_div hs0, Nat.div_eq_of_lt hj, Nat.add_zero], by rw [Nat.mul_add_mod, Nat.mod_eq_of_lt hj]⟩
    have hcell : ∀ (i : Nat) (e : List LV) (j : Nat) (x : LV), ((List.range len).map fun i => (f i).2)[i]? = some e → e[j]? = some x → ∃ hj : j < (f i).1.length, w.cell? (a.add (i * size + j)) = some (f i).1[j] ∧ Rep (PH.all w) (f i).1[j] x ∧ ((f i).1[j]).oneCell' = true := fun i e j x hi hj => by
      obtain ⟨hlt, rfl⟩ := hget i e hi
      obtain ⟨h1, h2, _⟩ := hf i hlt
      have hjs := (List.getElem?_eq_some_iff.1 hj).1
      have h4 := hcl i hlt
      have hj1 : j < (f i).1.length := by omega
      have h3 := (World.cells?_some h1).2.2 j (by omega)
      rw [add_add _ _ _ (hspot (by omega)), List.getElem?_eq_getElem hj1] at h3
      exact ⟨hj1, h3, h2.1.2 j _ x (by simp [hj1]) hj, h2.2 j _ (by simp [hj1])⟩
    refine ⟨[.sl size ((List.range len).map fun i => (f i).2) .unk], creps_one rfl ?_, _, rfl, fun c hc' => ?_, ?_⟩
    · refine .sl size _ .unk (some a) len cap a (fun k => (f (k / size)).1.getD (k % size) undef) (fun _ => rfl) (by simp) hl (fun e he' => ?_) trivial (fun i e j x hi hj => ?_) (fun i e j x hi hj => ?_)
      · obtain ⟨i, hi⟩ := List.mem_iff_getElem?.1 he'
        obtain ⟨hlt, rfl⟩ := hget i e hi
        exact (hcl i hlt).2
      · obtain ⟨hj1, h1, h2, h3⟩ := hcell i e j x hi hj
        have hjs : j < size := by obtain ⟨hlt, _⟩ := hget i e hi; have := hcl i hlt; omega
        simp only [(hdiv i j hjs).1, (hdiv i j hjs).2]
        rw [PH.all_some]
        refine ⟨?_, ?_⟩
        · rw [h1]; simp [List.getD, hj1]
        · simpa [List.getD, hj1] using h3
      · obtain ⟨hj1, h1, h2, h3⟩ := hcell i e j x hi hj
        have hjs : j < size := by obtain ⟨hlt, _⟩ := hget i e hi; have := hcl i hlt; omega
        simp only [(hdiv i j hjs).1, (hdiv i j hjs).2]
        simpa [List.getD, hj1] using h2
    · obtain ⟨i, hi⟩ := List.mem_iff_getElem?.1 hc'
      obtain ⟨hlt, rfl⟩ := hget i c hi
      exact (hf i hlt).2.2
    · have := hw ((elems.length + rest.length) * P.bytesOf e) (by simp [DataW.weights, ht])
      rw [hb] at this
      simp only [List.length_map, List.length_range]
      exact Nat.le_trans (Nat.mul_le_mul_right _ (by omega)) this
/-- Fields, one behind the other. -/
inductive OpF (P : Program) : List Field → Nat → (List LV → Prop) → Nat → Prop where
  | nil (off : Nat) : OpF P [] off QNil off
  | cons {f : Field} {fs : List Field} {off n m : Nat} {Q1 Q2 : List LV → Prop} (ho : f.offset = off) (hn : P.cellsOf f.type = n) (h : Opens P f.type Q1) (r : OpF P fs (off + n) Q2 m) : OpF P (f :: fs) off (QCons n Q1 Q2) m
theorem OpF.open_ : ∀ {fs : List Field} {off m : Nat} {Q : List LV → Prop}, OpF P fs off Q m → ∀ (H : Type) (enc : TypeId × Value → H) (w : World) (base : Nat) (spare : Nat → Bool) (held : Bool) (n : Nat) (cs : List Value),
    (∀ (i : Nat) (f : Field), fs[i]? = some f → ∃ y, DataW.trod enc P w base spare held n f.type ((cs.drop f.offset).take (P.cellsOf f.type)) = some y ∧ Weighs P f.type y.1) → m = cs.length →
    off ≤ m ∧ ∃ xs, CReps (PH.all w) (cs.drop off).toArray xs ∧ Q xs
  | _, off, _, _, .nil _, H, enc, w, base, spare, held, n, cs, _, hm => ⟨Nat.le_refl _, [], ⟨⟨by simp [hm], fun i c x h1 h2 => by simp at h2⟩, fun i c h1 => by simp [hm] at h1⟩, rfl⟩
  | _, _, _, _, .cons (f := f) (off := off) (n := k) ho hn h r, H, enc, w, base, spare, held, n, cs, hf, hm => by
    obtain ⟨hle, xs, h1, h2⟩ := r.open_ H enc w base spare held n cs (fun i g hg => hf (i + 1) g (by simpa using hg)) hm
    obtain ⟨y, hy, hyw⟩ := hf 0 f rfl
    rw [ho, hn] at hy
    obtain ⟨ys, h3, h4⟩ := h H enc w base spare held n _ y hy hyw
    have hk : ((cs.drop off).take k).length = k := by rw [List.length_take, List.length_drop]; omega
    refine ⟨by omega, ys ++ xs, ?_, ys, xs, rfl, by have := h3.1.1; simp only [List.size_toArray, hk] at this; omega, h4, h2⟩
    have := creps_append h3 h1
    rwa [show (cs.drop off).take k ++ cs.drop (off + k) = cs.drop off by rw [← List.drop_drop, List.take_append_drop]] at this
theorem Opens.struct {t : TypeId} {fs : Array Field} {Q : List LV → Prop} {m : Nat} (ht : P.underlying t = some (.struct fs)) (hm : P.cellsOf t = m) (h : OpF P fs.toList 0 Q m) : Opens P t Q := fun H enc w base spare held fuel cs x hx hw => by
  obtain ⟨xs, n, _, rfl, hl, hxl, hi⟩ := DataW.trod_struct ht hx
  have := h.open_ H enc w base spare held n cs (fun i f hf => by
    have hfi : fs[i]? = some f := by simpa using hf
    have h1 := hi i f hfi
    have hlt : i < xs.length := by rw [hxl]; exact (Array.getElem?_eq_some_iff.1 hfi).1
    rw [List.getElem?_eq_getElem hlt] at h1
    refine ⟨_, h1, fun k hk => hw k ?_⟩
    simp only [DataW.weights, ht]
    exact weightsEach_mem (i := i) (by simp [hf]) (by simp [hlt]) k hk) (by omega)
  simpa using this.2
theorem reps_nil {ph : PH} : Reps ph #[] [] := ⟨rfl, by simp⟩
theorem reps_cons {ph : PH} {v : Value} {x : LV} {vs : List Value} {xs : List LV} (h : Rep ph v x) (k : Reps ph vs.toArray xs) : Reps ph (v :: vs).toArray (x :: xs) := by
  obtain ⟨k1, k2⟩ := k
  refine ⟨by simp at k1 ⊢; omega, fun i c y h1 h2 => ?_⟩
  match i with
  | 0 => simp at h1 h2; subst h1; subst h2; exact h
  | i + 1 => simp at h1 h2; exact k2 i c y (by simpa using h1) h2
/-- Elements, decoded. -/
theorem decode {α : Type} (enc : α → List LV) (φ : α → Prop) : ∀ {es : List (List LV)}, (∀ c ∈ es, ∃ a, c = enc a ∧ φ a) → ∃ as0 : List α, es = as0.map enc ∧ ∀ a ∈ as0, φ a
  | [], _ => ⟨[], rfl, by simp⟩
  | c :: es, h => by
    obtain ⟨a, rfl, ha⟩ := h c (by simp)
    obtain ⟨as0, rfl, has⟩ := decode enc φ (es := es) (fun c hc => h c (List.mem_cons_of_mem _ hc))
    exact ⟨a :: as0, rfl, fun b hb => by rcases List.mem_cons.1 hb with rfl | hb; exact ha; exact has b hb⟩
theorem wf_u8 {n : Int} (h : (Lit.int .u8 n).wf = true) : 0 ≤ n ∧ n < 256 := by
  simp [Lit.wf, IntKind.min, IntKind.max, IntKind.signed, IntKind.bits] at h
  omega
theorem decode_bytes {es : List (List LV)} (h : ∀ c ∈ es, QInt .u8 c) : ∃ l : List UInt8, es = byteEls l := by
  obtain ⟨l, h1, h2⟩ := decode (fun b : UInt8 => [.raw (.int .u8 b.toNat)]) (fun _ => True) (es := es) (fun c hc => by
    obtain ⟨n, rfl, hn⟩ := h c hc
    have := wf_u8 hn
    refine ⟨UInt8.ofNat n.toNat, ?_, trivial⟩
    have e : ((UInt8.ofNat n.toNat).toNat : Int) = n := by
      rw [UInt8.toNat_ofNat']
      omega
    rw [e])
  exact ⟨l, h1⟩
end
end Go.L
namespace Go.L
open Go.RowKit
abbrev u8 (n : Nat) : LV := .raw (.int .u8 n)
section
variable {P : Program} {env : List (Nat × LV)} {H : List Atom} {d : Option Tmp} {ty : TypeId} {pos : String} {af : Array Edge} {g : Option (Nat × Bool)}
end
theorem putAt_all {xs ys : List LV} (h : ys.length = xs.length) : putAt xs 0 ys = ys := by simp [putAt, h]
theorem X.wcells {P : Program} {n : NN} {env : List (Nat × LV)} {c : Code} {Q : Exit → LS → Prop} {b : Nat} {t : TypeId} {xs ys : List LV} {R : List Atom} (he : xs = ys) (h : LW P c ⟨n, env, .cells b t ys :: R⟩ Q) : LW P c ⟨n, env, .cells b t xs :: R⟩ Q := he ▸ h
theorem creps_is {ph : PH} {cs : Array Value} {xs ys : List LV} (hl : xs.length = ys.length) (h : ∀ (i : Nat) (x y : LV), xs[i]? = some x → ys[i]? = some y → Is x y) (c : CReps ph cs xs) : CReps ph cs ys := ⟨⟨c.1.1.trans hl, fun i v y h1 h2 => by
  have hlt : i < xs.length := hl ▸ (List.getElem?_eq_some_iff.1 h2).1
  have hx := List.getElem?_eq_getElem hlt
  exact h i _ y hx h2 ph v (c.1.2 i v _ h1 hx)⟩, c.2⟩
/-- A cell, told otherwise. -/
theorem HSub.cell {g : Nat} {t : TypeId} {xs : List LV} {H : List Atom} (i : Nat) {x y : LV} (hx : xs[i]? = some x) (h : Is x y) : HSub (.cells g t xs :: H) (.cells g t (xs.set i y) :: H) := HSub.of fun ph w F ⟨F1, F2, ⟨h1, cs, h2, h3⟩, r⟩ => ⟨F, ⟨F1, F2, ⟨h1, cs, h2, creps_is (by simp) (fun j a b ha hb => by
  rw [List.getElem?_set] at hb
  split at hb
  · rename_i hij
    subst hij
    split at hb
    · rw [hx] at ha
      cases ha
      cases hb
      exact h
    · cases hb
  · rw [ha] at hb
    cases hb
    exact Is.rfl') h3⟩, r⟩, fun _ _ h => h⟩
end Go.L
namespace Go.L
open Go.RowKit
section
variable {P : Program} {st : LS} {K : LS → Prop} {ty : TypeId} {pos : String} {af : Array Edge} {g : Option (Nat × Bool)} {d : Nat}
theorem LO.litO {t e : TypeId} {n size : Nat} {ps : Array (Nat × Operand)} {qs : List (Nat × List LV)} {z : Value} {ys : List LV} (hd : Nat.blt d st.n.k = true) (ht : P.underlying t = some (.slice e)) (hs : ∀ w, (sizeOf e).run P w = .ok size w) (hz : ∀ w, (zeroValue e).run P w = .ok z w) (hz1 : ∀ (i : Nat) (c : Value), z.cells[i]? = some c → c.oneCell' = true) (hzs : z.cells.size = size) (hs0 : 0 < size) (hn : n * size ≤ 16777216)
    (hp : Parts st.env ps.toList qs) (hl' : laid (fun i => some (i * size, size)) ((List.replicate n (raws z.cells.toList)).flatten) qs = some ys)
    (h : ∀ b, K ⟨st.n, (d, .raw (.slice (some ⟨b, 0, none⟩) n n)) :: st.env, .cells b e ys :: st.heap⟩) : LO P ⟨some d, .buildSlice t n ps, ty, pos, af, g⟩ st K := .of_run hd fun w0 ph a w r => by
  obtain ⟨cs', hrun, hc, hsz⟩ := lit_run (d := some d) (ty := ty) (pos := pos) (af := af) (g := g) ht hs hz hz1 hzs hs0 hn hp hl' (fun x _ => r.tmps.eval x) w
  exact ⟨_, _, _, ph, _, hrun, PH.le.refl _, r.inv.block e hc, .raw _, h _⟩
theorem X.litO {t e : TypeId} {m size : Nat} {nn : NN} {env : List (Nat × LV)} {H : List Atom} {ps : Array (Nat × Operand)} {es : List (List LV)} {z : Value} (hd : Nat.blt d nn.k = true) (ht : P.underlying t = some (.slice e)) (hs : ∀ w, (sizeOf e).run P w = .ok size w) (hz : ∀ w, (zeroValue e).run P w = .ok z w) (hz1 : ∀ (i : Nat) (c : Value), z.cells[i]? = some c → c.oneCell' = true) (hzs : z.cells.size = size) (hs0 : 0 < size) (hn : m * size ≤ 16777216)
    (hp : Elems env 0 ps.toList es) (hes : ∀ e ∈ es, e.length = size) (hen : es.length = m)
    (h : ∀ b, K ⟨nn, (d, .raw (.slice (some ⟨b, 0, none⟩) m m)) :: env, .cells b e es.flatten :: H⟩) : LO P ⟨some d, .buildSlice t m ps, ty, pos, af, g⟩ ⟨nn, env, H⟩ K := by
  have hzl : ((List.replicate m (raws z.cells.toList)).flatten).length = m * size := by simp [raws, hzs]
  obtain ⟨qs, h1, h2⟩ := Elems.laid (pre := []) (rest := (List.replicate m (raws z.cells.toList)).flatten) hp hes (by simp) (by rw [hzl, hen])
  refine LO.litO (st := ⟨nn, env, H⟩) hd ht hs hz hz1 hzs hs0 hn h1 h2 fun b => ?_
  exact h b
end
end Go.L
namespace Go.L
open Go.RowKit
theorem Inv.startK {w : World} {g : Nat} {xs : List LV} (h : Rep (PH.all w) (.pointer (some ⟨g, 0, none⟩)) (.pin xs)) : Inv ⟨w, none⟩ (PH.all w) w [.known g xs] :=
  ⟨(Inv.start w).below, (Inv.start w).cell, (Inv.start w).one, fun _ _ => False, ⟨fun _ _ => False, fun _ _ => False, ⟨fun _ _ h => h, h⟩, fun _ _ h => h, fun b o => by simp, fun _ _ h => h.elim⟩, fun _ _ h => h.elim⟩
theorem LCalls.runK {P : Program} {f : FuncId} {args : List LV} {b : Value} {g : Nat} {xs : List LV} {post : LV → List Atom → Prop} (h : LCalls P f args [.known g xs] post) (hq : ∀ r H', post r H' → r = .raw b) {w : World} {vs : Array Value} (hr : Reps (PH.all w) vs args) (hk : Rep (PH.all w) (.pointer (some ⟨g, 0, none⟩)) (.pin xs)) : Calls P f vs w fun e w' => e = .returned b ∧ Below w.heap.size w w' :=
  (h [] ⟨w, none⟩ (PH.all w) w vs (Inv.startK hk) hr).mono fun e w' ⟨v, ph', r, H', he, hle, hi, hv, hp⟩ => by
    have := hq _ _ hp
    subst this
    exact ⟨by rw [he, hv.rawE], hi.below⟩
theorem known_of {w : World} {g : Nat} {xs : List LV} (h : ∀ j x, xs[j]? = some x → ∃ u, w.cell? ⟨g, j, none⟩ = some u ∧ u.oneCell' = true ∧ Rep (PH.all w) u x) : Rep (PH.all w) (.pointer (some ⟨g, 0, none⟩)) (.pin xs) := by
  classical
  refine .pin xs ⟨g, 0, none⟩ (fun j => if hj : ∃ x, xs[j]? = some x then (h j _ hj.choose_spec).choose else undef) (fun j x hx => ?_) (fun j x hx => ?_)
  · have hj : ∃ x, xs[j]? = some x := ⟨x, hx⟩
    simp only [dif_pos hj]
    have := (h j _ hj.choose_spec).choose_spec
    rw [add_lit, Nat.zero_add]
    exact PH.all_some.2 ⟨this.1, this.2.1⟩
  · have hj : ∃ x, xs[j]? = some x := ⟨x, hx⟩
    simp only [dif_pos hj]
    have e : hj.choose = x := Option.some.inj (hj.choose_spec.symm.trans hx)
    have := (h j _ hj.choose_spec).choose_spec
    exact e ▸ this.2.2
section
variable {P : Program}
theorem laid_ints {H : Type} {enc : TypeId × Value → H} {w : World} {base : Nat} {sp : Nat → Bool} {held : Bool} {fuel : Nat} {t e : TypeId} {n : Nat} {k : IntKind} {cs : List Value} {l : List Nat} {q : List MemPlace} (ht : P.underlying t = some (.array n e)) (he : P.underlying e = some (.int k)) (hc : P.cellsOf e = 1) (hct : P.cellsOf t = n)
    (h : DataW.trod enc P w base sp held fuel t cs = some (.agg (l.map fun (m : Nat) => .lit (.int k m)), q)) : cs = l.map fun (m : Nat) => Value.int k m := by
  obtain ⟨xs, m, _, hx, hl, hxl, hel⟩ := DataW.trod_array ht h
  simp only [Prod.mk.injEq, DataW.agg.injEq] at hx
  have hll : l.length = n := by have := congrArg List.length hx.1; simp at this; omega
  refine List.ext_getElem? fun i => ?_
  by_cases hi : i < n
  · have h1 := hel i hi
    rw [hc, Nat.mul_one] at h1
    cases hy : xs[i]? with
    | none => rw [List.getElem?_eq_none_iff] at hy; omega
    | some y =>
      rw [hy] at h1
      obtain ⟨a, e1, e2, _⟩ := DataW.trod_int he h1
      have h2 := congrArg (fun z => z[i]?) hx.1
      simp only [List.getElem?_map, hy, Option.map_some] at h2
      have h3 : cs[i]? = some (.int k a) := by
        have := congrArg (fun z => z[0]?) e1
        simpa [List.getElem?_take, List.getElem?_drop] using this
      rw [h3, List.getElem?_map]
      cases hli : l[i]? with
      | none => rw [hli] at h2; simp at h2
      | some b =>
        rw [hli] at h2
        simp only [Option.map_some, Option.some.injEq, e2, DataW.lit.injEq, Lit.int.injEq, true_and] at h2
        rw [Option.map_some, h2]
  · rw [List.getElem?_eq_none (by omega), List.getElem?_eq_none (by simp; omega)]
def QArr (n size : Nat) (Q : List LV → Prop) (xs : List LV) : Prop := ∃ es : List (List LV), xs = es.flatten ∧ es.length = n ∧ ∀ c ∈ es, c.length = size ∧ Q c
end
end Go.L
namespace Go.L
open Go.RowKit
section
variable {P : Program} {env : List (Nat × LV)} {H : List Atom} {d : Option Tmp} {ty : TypeId} {pos : String} {af : Array Edge} {g : Option (Nat × Bool)}
theorem all_range_nat : ∀ (xs ys : List Nat), xs.length = ys.length → ((List.range xs.length).all fun i => xs.getD i 0 == ys.getD i 0) = decide (xs = ys)
  | [], [], _ => by simp
  | x :: xs, y :: ys, h => by
    have ih := all_range_nat xs ys (by simpa using h)
    rw [List.length_cons, List.range_succ_eq_map, List.all_cons, List.all_map]
    simp only [List.getD_cons_zero, Function.comp_def, List.getD_cons_succ, ih]
    by_cases h1 : x = y <;> simp [h1]
  | [], _ :: _, h => by simp at h
  | _ :: _, [], h => by simp at h
theorem EqR.arr {t e : TypeId} {n : Nat} {k : IntKind} (ht : P.underlying t = some (.array n e)) (he : P.underlying e = some (.int k)) (hsz : ∀ w, (sizeOf e).run P w = .ok 1 w) (xs ys : List Nat) (hx : xs.length = n) (hy : ys.length = n) :
    EqR P 2 t (.agg (xs.map fun m => Value.int k (m : Nat)).toArray) (.agg (ys.map fun m => Value.int k (m : Nat)).toArray) (decide (xs = ys)) := fun d w => by
  rw [← all_range_nat xs ys (hx.trans hy.symm), hx, List.range_eq_range', Op.equalIn]
  simp only [Sem.run_bind, run_underlying ht, Result.andThen_ok, hsz, Std.Legacy.Range.forIn_eq_forIn_range', Std.Legacy.Range.size, Nat.sub_zero, Nat.add_sub_cancel, Nat.div_one]
  have hl : ∀ i ∈ List.range' 0 n 1, i < n := fun i hi => by simpa using (List.mem_range'_1.1 hi).2
  generalize List.range' 0 n 1 = l at hl ⊢
  induction l with
  | nil => simp
  | cons i l ih =>
    have hi : i < n := hl i (by simp)
    have px : (part e (xs.map fun m => Value.int k (m : Nat)).toArray (i * 1)).run P w = .ok (.int k (xs.getD i 0 : Nat)) w := by
      simp [part, isAgg, run_underlying he, List.getD, List.getElem?_eq_getElem (show i < xs.length by omega)]
    have py : (part e (ys.map fun m => Value.int k (m : Nat)).toArray (i * 1)).run P w = .ok (.int k (ys.getD i 0 : Nat)) w := by
      simp [part, isAgg, run_underlying he, List.getD, List.getElem?_eq_getElem (show i < ys.length by omega)]
    have pe : (Op.equalIn (d + 1) e (.int k (xs.getD i 0 : Nat)) (.int k (ys.getD i 0 : Nat))).run P w = .ok (xs.getD i 0 == ys.getD i 0) w := by
      rw [run_equalIn_int w d e k k _ _ he]
      congr 1
      rw [Bool.eq_iff_iff]
      simp
      omega
    simp only [List.forIn_cons, Sem.run_bind, px, py, pe, Result.andThen_ok, List.all_cons]
    cases hb : (xs.getD i 0 == ys.getD i 0)
    · simp
    · simp only [Bool.not_true, Bool.false_eq_true, if_false, Sem.run_pure, Result.andThen_ok, Bool.true_and]
      exact ih fun j hj => hl j (by simp [hj])
theorem RawL.map {k : IntKind} : ∀ (l : List Nat), RawL (l.map fun m => LV.raw (.int k (m : Nat))) (l.map fun m => Value.int k (m : Nat))
  | [] => .nil
  | x :: xs => .cons (RawL.map xs)
theorem LU.eqlArr {x y : Operand} {t t' e : TypeId} {n : Nat} {k : IntKind} {xs ys : List Nat} (ht : P.underlying t = some (.array n e)) (he : P.underlying e = some (.int k)) (hsz : ∀ w, (sizeOf e).run P w = .ok 1 w) (hg : P.eqGuardType P.depth t = false)
    (hx : Is (ev env x) (.agg (xs.map fun m => LV.raw (.int k (m : Nat))))) (hy : Is (ev env y) (.agg (ys.map fun m => LV.raw (.int k (m : Nat))))) (lx : xs.length = n) (ly : ys.length = n) :
    LU P env H ⟨d, .binOp .eql t x y t', ty, pos, af, g⟩ (.raw (.bool (decide (xs = ys)))) := LU.eqlA hx hy (RawL.map _) (RawL.map _) hg (by decide) (EqR.arr ht he hsz xs ys lx ly)
theorem LU.neqArr {x y : Operand} {t t' e : TypeId} {n : Nat} {k : IntKind} {xs ys : List Nat} (ht : P.underlying t = some (.array n e)) (he : P.underlying e = some (.int k)) (hsz : ∀ w, (sizeOf e).run P w = .ok 1 w) (hg : P.eqGuardType P.depth t = false)
    (hx : Is (ev env x) (.agg (xs.map fun m => LV.raw (.int k (m : Nat))))) (hy : Is (ev env y) (.agg (ys.map fun m => LV.raw (.int k (m : Nat))))) (lx : xs.length = n) (ly : ys.length = n) :
    LU P env H ⟨d, .binOp .neq t x y t', ty, pos, af, g⟩ (.raw (.bool (!decide (xs = ys)))) := LU.neqA hx hy (RawL.map _) (RawL.map _) hg (by decide) (EqR.arr ht he hsz xs ys lx ly)
end
theorem Inv.addKnown {w0 : Base} {ph : PH} {w : World} {H : List Atom} {g : Nat} {xs : List LV} (h : Inv w0 ph w H) (hr : Rep ph (.pointer (some ⟨g, 0, none⟩)) (.pin xs)) : Inv w0 ph w (.known g xs :: H) := by
  obtain ⟨hb, hc, h1, F, hs, hF⟩ := h
  exact ⟨hb, hc, h1, F, ⟨fun _ _ => False, F, ⟨fun _ _ h => h, hr⟩, hs, fun b o => by simp, fun _ _ h => h.elim⟩, hF⟩
theorem Inv.know' {w0 : Base} {ph : PH} {w : World} {H : List Atom} {b : Nat} {t : TypeId} {xs : List LV} (h : Inv w0 ph w (.cells b t xs :: H)) : ∃ ph', PH.le ph ph' ∧ Inv w0 ph' w (.known b xs :: H) := by
  obtain ⟨cs, ph', hle, hi, hc, hsz, hp⟩ := h.freeze
  refine ⟨ph', hle, hi.addKnown ?_⟩
  have hlt : ∀ (j : Nat) (x : LV), xs[j]? = some x → j < cs.size := fun j x hx => by rw [hsz]; exact (List.getElem?_eq_some_iff.1 hx).1
  refine .pin xs _ (fun j => cs.getD j undef) (fun j x hx => ?_) (fun j x hx => ?_)
  · have := hlt j x hx
    rw [add_lit, Nat.zero_add, hp j this]
    simp [this]
  · have h1 := hlt j x hx
    simp only [Array.getD_eq_getD_getElem?, Array.getElem?_eq_getElem h1, Option.getD_some]
    exact hc.1.2 j _ _ (Array.getElem?_eq_getElem h1) hx
theorem Inv.knowAt {w0 : Base} {ph : PH} {w : World} {H : List Atom} {b : Nat} {t : TypeId} {xs : List LV} (k : Nat) (hk : H[k]? = some (.cells b t xs)) (h : Inv w0 ph w H) : ∃ ph', PH.le ph ph' ∧ Inv w0 ph' w (.known b xs :: H.eraseIdx k) := by
  have hinv := h.front k
  unfold L.front at hinv
  rw [hk] at hinv
  exact hinv.know'
theorem LW.know {P : Program} {n : NN} {env : List (Nat × LV)} {H : List Atom} {c : Code} {Q : Exit → LS → Prop} {b : Nat} {te : TypeId} {xs : List LV} (k : Nat) (hk : H[k]? = some (.cells b te xs)) (h : LW P c ⟨n, env, .known b xs :: H.eraseIdx k⟩ Q) : LW P c ⟨n, env, H⟩ Q := fun w0 ph a w r Q' q => by
  obtain ⟨ph', hle, hi⟩ := Inv.knowAt k hk r.inv
  exact h w0 ph' a w ⟨hi, r.defers, r.size, fun i => (r.tmps i).mono hle⟩ Q' fun e ph2 st2 a2 w2 hle2 r2 q2 => q e ph2 st2 a2 w2 (hle.trans hle2) r2 q2
section
variable {P : Program} {env : List (Nat × LV)} {H : List Atom} {d : Option Tmp} {ty : TypeId} {pos : String} {af : Array Edge} {g : Option (Nat × Bool)}
abbrev singles (xs : List LV) : List (List LV) := xs.map fun x => [x]
theorem known_sl {w0 : Base} {ph : PH} {w : World} (hinv : Inv w0 ph w H) {k b off m c : Nat} {xs : List LV} {kk : Cap} (hk : H[k]? = some (.known b xs)) (hm : off + m ≤ xs.length) (hc : m ≤ c) (hcap : CapOk (some ⟨b, off, none⟩) m c 1 kk) : Rep ph (.slice (some ⟨b, off, none⟩) m c) (.sl 1 (singles ((xs.drop off).take m)) kk) := by
  obtain ⟨F, hF, hh⟩ := hinv.atom_at hk
  generalize hq : (Value.pointer (some ⟨b, 0, none⟩)) = q at hh
  cases hh with | pin _ ad uf hp hr =>
    cases hq
    have key : ∀ (i : Nat) (e : List LV) (j : Nat) (x : LV), (singles ((xs.drop off).take m))[i]? = some e → e[j]? = some x → j = 0 ∧ xs[off + i]? = some x := fun i e j x h1 h2 => by
      simp only [singles, List.getElem?_map, List.getElem?_take, List.getElem?_drop] at h1
      split at h1
      · cases hx : xs[off + i]? with
        | none => rw [hx] at h1; cases h1
        | some y =>
          rw [hx] at h1
          obtain rfl : [y] = e := by simpa using h1
          cases j with
          | zero => exact ⟨rfl, by simpa using h2⟩
          | succ j => simp at h2
      · cases h1
    refine .sl 1 _ kk _ m c ⟨b, off, none⟩ (fun j => uf (off + j)) (fun _ => rfl) (by simp; omega) hc (fun e he => ?_) hcap (fun i e j x h1 h2 => ?_) (fun i e j x h1 h2 => ?_)
    · obtain ⟨x, _, rfl⟩ := List.mem_map.1 he
      rfl
    · obtain ⟨rfl, h3⟩ := key i e j x h1 h2
      have := hp _ _ h3
      rw [add_lit] at this ⊢
      simpa using this
    · obtain ⟨rfl, h3⟩ := key i e j x h1 h2
      have := hr _ _ h3
      simpa using this
theorem LU.sliceKA {x : Operand} {t e : TypeId} {n b off : Nat} {xs : List LV} (k : Nat) (hk : H[k]? = some (.known b xs)) (ht : P.underlying t = some (.array n e)) (hs : ∀ w, (sizeOf e).run P w = .ok 1 w) (hx : Is (ev env x) (.raw (.pointer (some ⟨b, off, none⟩)))) (hm : off + n ≤ xs.length) :
    LU P env H ⟨d, .slice t x none none none, ty, pos, af, g⟩ (.sl 1 (singles ((xs.drop off).take n)) .full) := .of_run fun ph a hl w0 w hinv => by
  have h1 := (hx _ _ (hl x (by simp [Op.operands]))).rawE
  have hal : P.arrayLen t = n := by simp [Program.arrayLen, ht]
  have hel : P.elem t = e := by simp [Program.elem, ht]
  refine ⟨_, ?_, known_sl hinv hk hm (Nat.le_refl _) rfl⟩
  have := run_sliceAt_array_all (P := P) w t ⟨b, off, none⟩ (by rw [hal, hel]; exact ht)
  simp only [execOp, Option.map_none, h1, Sem.run_bind, this, hel, hs, Result.andThen_ok, hal, slicedAt, Sem.run_pure]
  have e1 : (0 : Nat) * 1 = 0 := rfl
  have e0 : (if n = 0 then (⟨b, off, none⟩ : Addr) else (⟨b, off, none⟩ : Addr).add (0 * 1)) = ⟨b, off, none⟩ := by split <;> simp [add_lit]
  rw [e0]
  simp
end
section
variable {P : Program} {env : List (Nat × LV)} {H : List Atom} {d : Option Tmp} {ty : TypeId} {pos : String} {af : Array Edge} {g : Option (Nat × Bool)}
theorem bytes_toList (l : List UInt8) : (⟨l.toArray⟩ : ByteArray).toList = l := by
  have : ∀ (a : ByteArray), a.toList = a.data.toList := fun a => ByteArray.toList_eq a
  rw [this]
theorem LU.strneN {x y : Operand} {t t' : TypeId} {a b : List UInt8} (hx : Is (ev env x) (Str a)) (hy : Is (ev env y) (Str b)) : LU P env H ⟨d, .binOp .neq t x y t', ty, pos, af, g⟩ (.raw (.bool (decide (a ≠ b)))) := by
  have := LU.strne (P := P) (H := H) (d := d) (ty := ty) (pos := pos) (af := af) (g := g) (t := t) (t' := t') hx hy
  rwa [bytes_toList, bytes_toList, show (!(a == b)) = decide (a ≠ b) from by rw [Bool.eq_iff_iff]; simp] at this
end
end Go.L
namespace Go.L
open Go.RowKit
section
variable {P : Program} {st : LS} {env : List (Nat × LV)} {H : List Atom} {K : LS → Prop} {ty : TypeId} {pos : String} {af : Array Edge} {g : Option (Nat × Bool)}
theorem append_owns {A0 : List Atom} {w0 : Base} {ph : PH} {w : World} (hA0 : ∀ a ∈ A0, a ∈ H) (hinv : Inv w0 ph w H) {t tx ty' e : TypeId} {z : Value} {size by_ : Nat} (ht : P.underlying t = some (.slice e)) (hel : El P e z size by_) (hz1 : ∀ (i : Nat) (c : Value), z.cells[i]? = some c → c.oneCell' = true) {ad : Addr} {ys : List (List LV)} {x : Value} {y : LV}
    (hs : SrcG P A0 tx size y ys) (ry : Rep ph x y) (hg : 0 < ys.length) (hb : ys.length * by_ ≤ 140737488355328) (hb0 : ys.length ≤ 9223372036854775807) :
    ∃ c' w' rest, (Builtin.append_ #[t, tx] ty' #[.slice (some ad) 0 0, x]).run P w = .ok (.slice (some ⟨w.heap.size, 0, none⟩) ys.length c') w' ∧ ys.length ≤ c' ∧ rest.length = (c' - ys.length) * size ∧ Inv w0 ph w' (.cells w.heap.size e (ys.flatten ++ raws rest) :: H) := by
  obtain ⟨⟨i, hi, hz, hsz, hby⟩, hzs, hs0⟩ := hel
  obtain ⟨news, hsrc, hnc⟩ := hs.2 w0 ph w H x hA0 hinv ry
  have hnl : news.length = ys.length * size := hsrc.newsLen
  have hold : (Builtin.firstCells i.size 0 (.slice (some ad) 0 0)).run P w.drew = .ok ([] : List Value).toArray w.drew := run_firstCells_some _ _ _ _ _ _ _ (by simp) (fun j v h => by simp at h)
  have hrun := run_append_grow_src (P := P) w t tx ty' e i z ht hi hz (some ad) 0 0 [] hold x ys.length news (hsz ▸ hsrc) (by omega) (by omega) (by rw [hby]; exact growslice_fits (by omega) (by rw [Nat.zero_add]; exact hb))
  rw [Nat.zero_add] at hrun
  have hge := grownCap_ge w ys.length 0 e
  refine ⟨_, _, (Builtin.zeroCells z.cells (grownCap w ys.length 0 e - ys.length)).toList, hrun, hge, by simp [size_zeros, hzs], ?_⟩
  have hb' : Below w.heap.size w w.drew := Below.drew (Below.refl _ _)
  have hinv2 := hinv.step hb'
  have := hinv2.block e (cs := (([] ++ news).toArray ++ Builtin.zeroCells z.cells (grownCap w ys.length 0 e - ys.length))) (xs := ys.flatten ++ raws (Builtin.zeroCells z.cells (grownCap w ys.length 0 e - ys.length)).toList) (by
    have h1 : CReps ph (Builtin.zeroCells z.cells (grownCap w ys.length 0 e - ys.length)).toList.toArray (raws (Builtin.zeroCells z.cells (grownCap w ys.length 0 e - ys.length)).toList) := by
      rw [Array.toArray_toList]
      refine raws_creps fun j c hc => ?_
      unfold Builtin.zeroCells at hc
      simp only [Array.getElem?_map, Option.map_eq_some_iff] at hc
      obtain ⟨q, _, rfl⟩ := hc
      have hlt : q % z.cells.size < z.cells.size := Nat.mod_lt _ (by omega)
      refine hz1 (q % z.cells.size) _ ?_
      rw [Array.getElem?_eq_getElem hlt, getElem!_pos z.cells _ hlt]
    have := creps_append (as0 := news) hnc h1
    rwa [show (news ++ (Builtin.zeroCells z.cells (grownCap w ys.length 0 e - ys.length)).toList).toArray = ([] ++ news).toArray ++ Builtin.zeroCells z.cells (grownCap w ys.length 0 e - ys.length) by simp] at this)
  exact this
/-- append([]T{}, x..) whose row is owned. -/
theorem LO.appendO {A0 : List Atom} (hA0 : ∀ a ∈ A0, a ∈ st.heap) {s x : Operand} {t tx e e' : TypeId} {z : Value} {size by_ : Nat} {ys : List (List LV)} {y : LV} {d : Tmp} {b0 : Nat} (k : Nat) (hk : st.heap[k]? = some (.cells b0 e [])) (hd : Nat.blt d st.n.k = true) (ht : P.underlying t = some (.slice e)) (hel : El P e z size by_) (hz1 : ∀ (i : Nat) (c : Value), z.cells[i]? = some c → c.oneCell' = true)
    (hs : Is (ev st.env s) (.raw (.slice (some ⟨b0, 0, none⟩) 0 0))) (hx : Is (ev st.env x) y) (hy : SrcG P A0 tx size y ys) (hb : ys.length * by_ ≤ 140737488355328) (hb0 : ys.length ≤ 9223372036854775807)
    (h : ∀ b c rest, ys.length ≤ c → rest.length = (c - ys.length) * size → K ⟨st.n, (d, .raw (.slice (some ⟨b, 0, none⟩) ys.length c)) :: st.env, .cells b e (ys.flatten ++ raws rest) :: st.heap.eraseIdx k⟩) :
    LO P ⟨some d, .call { callee := .builtin .append, args := #[s, x], argTypes := #[t, tx] }, ty, pos, af, g⟩ st K := .of_run hd fun w0 ph a w rl => by
  have h1 := (hs _ _ (rl.tmps.eval s)).rawE
  have ry := hx _ _ (rl.tmps.eval x)
  have hinv := rl.inv.front k
  have hrun : ∀ v w', (Builtin.append_ #[t, tx] ty #[.slice (some ⟨b0, 0, none⟩) 0 0, a.eval x]).run P w = .ok v w' → (execOp a.eval ⟨some d, .call { callee := .builtin .append, args := #[s, x], argTypes := #[t, tx] }, ty, pos, af, g⟩).run P w = .ok (.value v) w' := fun v w' h => by
    simp [execOp, resolve, invoke, builtin, h1, h]
  unfold L.front at hinv
  rw [hk] at hinv
  by_cases h0 : ys.length = 0
  · obtain rfl := List.eq_nil_of_length_eq_zero h0
    exact ⟨_, _, w, ph, _, hrun _ _ (append_nothing hA0 rl.inv ht hel (Nat.le_refl _) hy ry), PH.le.refl _, by simpa [raws] using hinv, .raw _, by simpa [raws] using h b0 0 [] (Nat.le_refl _) (by simp)⟩
  · obtain ⟨c', w', rest, h2, h3, h4, h5⟩ := append_owns (ty' := ty) (ad := ⟨b0, 0, none⟩) hA0 rl.inv ht hel hz1 hy ry (by omega) hb hb0
    refine ⟨_, _, w', ph, _, hrun _ _ h2, PH.le.refl _, ?_, .raw _, h _ _ _ h3 h4⟩
    have h6 := h5.front (k + 1)
    unfold L.front at h6
    rw [List.getElem?_cons_succ, hk] at h6
    exact (HSub.drop (HSub.refl _)).app h6
def IsL (H : List Atom) (x y : LV) : Prop := ∀ w0 ph w u, Inv w0 ph w H → Rep ph u x → Rep (PH.all w) u y
theorem le_all {w0 : Base} {ph : PH} {w : World} (h : Inv w0 ph w H) : PH.le ph (PH.all w) := fun a u hu => PH.all_some.2 ⟨h.cell a u hu, h.one a u hu⟩
theorem IsL.of {x y : LV} (h : Is x y) : IsL H x y := fun w0 ph w u hi r => (h ph u r).mono (le_all hi)
theorem IsL.rfl' {x : LV} : IsL H x x := IsL.of Is.rfl'
theorem IsL.cells {x : LV} {b off n c size : Nat} {te : TypeId} {xs : List LV} {es : List (List LV)} (k : Nat) (hk : H[k]? = some (.cells b te xs)) (hx : Is x (.raw (.slice (some ⟨b, off, none⟩) n c))) (hs : ∀ e ∈ es, e.length = size) (hn : es.length = n) (hfit : off + n * size ≤ xs.length) (he : es.flatten = (xs.drop off).take (n * size)) (hnc : n ≤ c) : IsL H x (.sl size es .unk) := fun w0 ph w u hi r => by
  rw [(hx ph u r).rawE]
  obtain ⟨F, hF, cs, hh, hc⟩ := hi.atom_at hk
  exact freeze_rep (hc.mono (le_all hi)) (fun i h => PH.all_some.2 ⟨by rw [cell_of_row w b i cs te _ hh]; simp [h], hc.2 i _ (Array.getElem?_eq_getElem h)⟩ |>.trans (by simp [h])) hs hn hfit he hnc
def OpdsL (H : List Atom) (env : List (Nat × LV)) : List Operand → List LV → Prop
  | [], [] => True
  | x :: xs, v :: vs => IsL H (ev env x) v ∧ OpdsL H env xs vs
  | _, _ => False
theorem OpdsL.nil : OpdsL H env [] [] := trivial
theorem OpdsL.cons {x : Operand} {v : LV} {xs : List Operand} {vs : List LV} (h : IsL H (ev env x) v) (k : OpdsL H env xs vs) : OpdsL H env (x :: xs) (v :: vs) := ⟨h, k⟩
theorem OpdsL.reps {w0 : Base} {ph : PH} {w : World} (hi : Inv w0 ph w H) {a : Act} : ∀ {xs : List Operand} {vs : List LV}, OpdsL H env xs vs → (∀ x ∈ xs, Rep ph (a.eval x) (ev env x)) → Reps (PH.all w) (xs.map a.eval).toArray vs
  | [], [], _, _ => ⟨rfl, by simp⟩
  | x :: xs, v :: vs, h, hr => reps_cons (h.1 _ _ _ _ hi (hr x (by simp))) (OpdsL.reps hi h.2 fun y hy => hr y (by simp [hy]))
  | [], _ :: _, h, _ => h.elim
  | _ :: _, [], h, _ => h.elim
theorem LU.lend {f : FuncId} {fn : Func} {as0 : Array Operand} {ts : Array TypeId} {vs : List LV} {v : Value} {d : Option Tmp} (hc : LCalls P f vs [] (fun r H' => r = .raw v ∧ H' = [])) (hf : P.funcs[f]? = some fn) (hname : (fn.name == "runtime.NumGoroutine") = false) (hb : fn.body.isSome = true) (ha : OpdsL H env as0.toList vs) :
    LU P env H ⟨d, .call { callee := .value (.func f), args := as0, argTypes := ts }, ty, pos, af, g⟩ (.raw v) := fun w0 ph ac w hi hl N Q kk => by
  have hargs := ha.reps hi (a := ac) (fun x hx => hl x (by simp only [Op.operands, Call.operands]; exact Array.mem_append.2 (.inr (by simpa using hx))))
  have hrun : (execOp ac.eval ⟨d, .call { callee := .value (.func f), args := as0, argTypes := ts }, ty, pos, af, g⟩).run P w = .ok (.enter f (as0.map ac.eval)) w := by
    simp [execOp, resolve, Deferred.ofValue, invoke, Act.eval, enters hf hname hb]
  unfold owp
  rw [hrun]
  refine upon_enter ?_
  refine ((hc.mono fun r H' h => h.1).run (w := w) (vs := as0.map ac.eval) (by rw [map_arr ac.eval as0]; exact hargs)).mono ?_
  rintro e w' ⟨rfl, hbel⟩
  exact kk ph _ w' (PH.le.refl _) (hi.step hbel) (.raw _)
/-- Owned cells, the source of an append. -/
theorem SrcG.cells {tx e : TypeId} {b off n c size : Nat} {te : TypeId} {xs : List LV} {ys : List (List LV)} (ht : P.underlying tx = some (.slice e)) (hs0 : 0 < size) (hys : ∀ e ∈ ys, e.length = size) (hn : ys.length = n) (hfit : off + n * size ≤ xs.length) (he : ys.flatten = (xs.drop off).take (n * size)) (hnc : n ≤ c) : SrcG P [.cells b te xs] tx size (.raw (.slice (some ⟨b, off, none⟩) n c)) ys := ⟨hys, fun w0 ph w H u hA hi r => by
  rw [r.rawE]
  obtain ⟨k, hk⟩ := List.getElem?_of_mem (hA (.cells b te xs) (by simp))
  obtain ⟨F, hF, cs, hh, hc⟩ := hi.atom_at hk
  have hsz : cs.size = xs.length := hc.1.1
  have hm : ∀ j, j < n * size → ((cs.toList.drop off).take (n * size))[j]? = cs[off + j]? := fun j hj => by
    rw [List.getElem?_take_of_lt hj, List.getElem?_drop, Array.getElem?_toList]
  have hnl : ((cs.toList.drop off).take (n * size)).length = n * size := by simp; omega
  refine ⟨(cs.toList.drop off).take (n * size), ?_, ⟨by rw [he]; simp; omega, fun j u x hu hx => ?_⟩, fun j u hu => ?_⟩
  · rw [hn]
    refine Src.ofSlice w ht ⟨b, off, none⟩ n c _ hnl (fun j u hu => ?_) (fun u hu => ?_)
    · have hj : j < n * size := by have := (List.getElem?_eq_some_iff.1 hu).1; omega
      rw [hm j hj] at hu
      rw [add_lit, cell_of_row w b (off + j) cs te _ hh]; exact hu
    · obtain ⟨j, hu⟩ := List.getElem?_of_mem hu
      have hj : j < n * size := by have := (List.getElem?_eq_some_iff.1 hu).1; omega
      rw [hm j hj] at hu
      exact hc.2 _ _ hu
  · have hj : j < n * size := by have := (Array.getElem?_eq_some_iff.1 hu).1; simp at this; omega
    rw [List.getElem?_toArray, hm j hj] at hu
    rw [he, List.getElem?_take_of_lt hj, List.getElem?_drop] at hx
    exact hc.1.2 _ _ _ hu hx
  · have hj : j < n * size := by have := (Array.getElem?_eq_some_iff.1 hu).1; simp at this; omega
    rw [List.getElem?_toArray, hm j hj] at hu
    exact hc.2 _ _ hu⟩
theorem X.appendO {A0 : List Atom} {nn : NN} {s x : Operand} {t tx e : TypeId} {z : Value} {size by_ : Nat} {ys : List (List LV)} {y : LV} {d : Tmp} {b0 : Nat} (k : Nat) (hk : H[k]? = some (.cells b0 e [])) (hd : Nat.blt d nn.k = true) (ht : P.underlying t = some (.slice e)) (hel : El P e z size by_) (hz1 : ∀ (i : Nat) (c : Value), z.cells[i]? = some c → c.oneCell' = true)
    (hs : Is (ev env s) (.raw (.slice (some ⟨b0, 0, none⟩) 0 0))) (hx : Is (ev env x) y) (hA0 : ∀ a ∈ A0, a ∈ H) (hy : SrcG P A0 tx size y ys) (hb : ys.length * by_ ≤ 140737488355328) (hb0 : ys.length ≤ 9223372036854775807)
    (h : ∀ b c rest, ys.length ≤ c → rest.length = (c - ys.length) * size → K ⟨nn, (d, .raw (.slice (some ⟨b, 0, none⟩) ys.length c)) :: env, .cells b e (ys.flatten ++ raws rest) :: H.eraseIdx k⟩) :
    LO P ⟨some d, .call { callee := .builtin .append, args := #[s, x], argTypes := #[t, tx] }, ty, pos, af, g⟩ ⟨nn, env, H⟩ K := LO.appendO (st := ⟨nn, env, H⟩) (e' := e) hA0 k hk hd ht hel hz1 hs hx hy hb hb0 h
end
end Go.L
