/- The logic's rules of memory: boxes, loads and stores, slices cut, literals, append, conversions. Plain theorems over any program. -/
import Derived.Test.YtcemodldbfiomaaLogC
import Derived.Deep.AppendSrc
import Derived.Deep.MidRow
import Derived.Laws.AppendOwn
import Derived.Laws.MakeOwn
import Derived.Laws.IdiomCopy
import Derived.Lib.ConvBytes
set_option linter.unusedVariables false
set_option linter.unusedSimpArgs false
namespace Go.L
open Go.RowKit

theorem add_lit (b o j : Nat) : (⟨b, o, none⟩ : Addr).add j = ⟨b, o + j, none⟩ := by unfold Addr.add; split <;> simp_all
/-- A value's cells. -/
def Cells (x : LV) (xs : List LV) : Prop := ∀ ph u, Rep ph u x → CReps ph u.cells xs
theorem Cells.agg {xs : List LV} : Cells (.agg xs) xs := fun ph u r => by cases r with | agg cs _ hc ho hr => exact ⟨⟨hc, hr⟩, ho⟩
theorem one_creps {ph : PH} {u : Value} {x : LV} (h : u.oneCell' = true) (r : Rep ph u x) : CReps ph u.cells [x] := by
  have : u.cells = #[u] := by cases u <;> first | rfl | (simp [Value.oneCell'] at h)
  rw [this]
  refine ⟨⟨rfl, fun i c y h1 h2 => ?_⟩, fun i c h1 => ?_⟩
  · match i with
    | 0 => simp at h1 h2; subst h1; subst h2; exact r
    | k + 1 => simp at h1
  · match i with
    | 0 => simp at h1; subst h1; exact h
    | k + 1 => simp at h1
theorem Cells.raw {v : Value} (h : v.oneCell' = true) : Cells (.raw v) [.raw v] := fun ph u r => by
  cases r.rawE
  exact one_creps h (.raw _)
theorem Cells.sl {size : Nat} {es : List (List LV)} {k : Cap} : Cells (.sl size es k) [.sl size es k] := fun ph u r => one_creps (by cases r; rfl) r
theorem Cells.pin {cs : List LV} : Cells (.pin cs) [.pin cs] := fun ph u r => one_creps (by cases r; rfl) r
theorem Cells.rawagg {vs : List Value} (h : ∀ v ∈ vs, v.oneCell' = true) : Cells (.raw (.agg vs.toArray)) (raws vs) := fun ph u r => Cells.agg ph u (Is.raw_agg h ph u r)
theorem CReps.get {ph : PH} {cs : Array Value} {xs : List LV} (h : CReps ph cs xs) {i : Nat} (hi : i < cs.size) : ∃ x, xs[i]? = some x ∧ Rep ph cs[i] x := by
  have hlt : i < xs.length := h.1.1 ▸ hi
  exact ⟨xs[i], List.getElem?_eq_getElem hlt, h.1.2 i _ _ (Array.getElem?_eq_getElem hi) (List.getElem?_eq_getElem hlt)⟩

section
variable {P : Program} {env : List (Nat × LV)} {H : List Atom} {d : Option Tmp} {ty : TypeId} {pos : String} {af : Array Edge} {g : Option (Nat × Bool)} {st : LS} {K : LS → Prop}

/-! ### owned blocks -/
theorem LO.of_run {op : Op} {d : Tmp} (hd : Nat.blt d st.n.k = true) (h : ∀ w0 ph a w, Rels w0 ph st a w → ∃ v u w' ph' H', (execOp a.eval ⟨some d, op, ty, pos, af, g⟩).run P w = .ok (.value u) w' ∧ PH.le ph ph' ∧ Inv w0 ph' w' H' ∧ Rep ph' u v ∧ K ⟨st.n, (d, v) :: st.env, H'⟩) : LO P ⟨some d, op, ty, pos, af, g⟩ st K := fun w0 ph a w r N Q k => by
  obtain ⟨v, u, w', ph', H', hr, hle, hi, hv, hk⟩ := h w0 ph a w r
  unfold owp
  rw [hr]
  exact k ph' _ _ w' hle (r.put hle hi hd hv) hk
theorem LO.of_skip {op : Op} (h : ∀ w0 ph a w, Rels w0 ph st a w → ∃ w' ph' H', (execOp a.eval ⟨none, op, ty, pos, af, g⟩).run P w = .ok .skip w' ∧ PH.le ph ph' ∧ Inv w0 ph' w' H' ∧ K ⟨st.n, st.env, H'⟩) : LO P ⟨none, op, ty, pos, af, g⟩ st K := fun w0 ph a w r N Q k => by
  obtain ⟨w', ph', H', hr, hle, hi, hk⟩ := h w0 ph a w r
  unfold owp
  rw [hr]
  exact k ph' _ _ w' hle (r.put0 hle hi undef) hk
theorem heap_new (w : World) (o : Obj) : (w.alloc o).heap[w.heap.size]? = some o := heap_alloc_new w o
theorem Inv.block {w0 : Base} {ph : PH} {w : World} (h : Inv w0 ph w H) (t : TypeId) {cs : Array Value} {xs : List LV} (hc : CReps ph cs xs) : Inv w0 ph (w.alloc (.cells cs t)) (.cells w.heap.size t xs :: H) :=
  h.new ((Below.refl _ _).alloc (Nat.le_refl _) _) (G := fun b _ => b = w.heap.size) ⟨fun _ _ => Iff.rfl, cs, heap_new w _, hc⟩ (fun b o hb => by omega)
theorem LO.box {x : Operand} {t : TypeId} {d : Tmp} {v : LV} {xs : List LV} (hd : Nat.blt d st.n.k = true) (hx : Is (ev st.env x) v) (hc : Cells v xs) (h : ∀ b, K ⟨st.n, (d, .raw (.pointer (some ⟨b, 0, none⟩))) :: st.env, .cells b t xs :: st.heap⟩) : LO P ⟨some d, .box t x, ty, pos, af, g⟩ st K := .of_run hd fun w0 ph a w r => by
  have h1 := hc _ _ (hx _ _ (r.tmps.eval x))
  exact ⟨_, _, _, ph, _, by simp [execOp, Instr.box, newVar, newRow], PH.le.refl _, r.inv.block t h1, .raw _, h _⟩
theorem LO.alloc {t : TypeId} {d : Tmp} {z : Value} {xs : List LV} (hd : Nat.blt d st.n.k = true) (hz : ∀ w, (zeroValue t).run P w = .ok z w) (hc : Cells (.raw z) xs) (h : ∀ b, K ⟨st.n, (d, .raw (.pointer (some ⟨b, 0, none⟩))) :: st.env, .cells b t xs :: st.heap⟩) : LO P ⟨some d, .alloc t, ty, pos, af, g⟩ st K := .of_run hd fun w0 ph a w r => by
  have h1 := hc ph z (.raw z)
  exact ⟨_, _, _, ph, _, by simp [execOp, Instr.alloc, newVar, newRow, hz], PH.le.refl _, r.inv.block t h1, .raw _, h _⟩
theorem creps_part {ph : PH} {cs : Array Value} {xs : List LV} (hc : CReps ph cs xs) {t : TypeId} {size : Nat} {agg : Bool} (ht : Ty P t size agg) {off : Nat} {v : LV} (hv : Part size agg xs off v) {w : World} {b : Nat} (hl : ∀ i c, cs[i]? = some c → w.cell? ⟨b, i, none⟩ = some c) :
    ∃ z, (loadVar t ⟨b, off, none⟩).run P w = .ok z w ∧ Rep ph z v := by
  obtain ⟨⟨h1, h2⟩, ho⟩ := hc
  cases agg with
  | true =>
    obtain ⟨hlen, rfl⟩ := hv
    have hrun := run_loadCells (P := P) w ⟨b, off, none⟩ size (fun j => cs.getD (off + j) undef) (fun j hj => by
      have hlt : off + j < cs.size := by omega
      rw [add_lit, hl (off + j) cs[off + j] (Array.getElem?_eq_getElem hlt)]
      simp [hlt])
    refine ⟨.agg ((List.range size).map (fun j => cs.getD (off + j) undef)).toArray, by simp [loadVar, ht.agg, ht.size, hrun], .agg _ _ (by simp; omega) (fun i c hi => ?_) fun i c x hi hx => ?_⟩
    · simp at hi
      obtain ⟨m, hm, rfl⟩ := hi
      obtain ⟨h3, rfl⟩ := List.getElem?_eq_some_iff.1 hm
      simp only [List.getElem_range, List.length_range] at h3 ⊢
      have hlt : off + i < cs.size := by omega
      rw [Array.getElem?_eq_getElem hlt]
      exact ho _ _ (Array.getElem?_eq_getElem hlt)
    · simp [List.getElem?_take] at hi hx
      obtain ⟨m, hm, rfl⟩ := hi
      obtain ⟨h3, rfl⟩ := List.getElem?_eq_some_iff.1 hm
      simp only [List.getElem_range, List.length_range] at h3 ⊢
      have hlt : off + i < cs.size := by omega
      rw [Array.getElem?_eq_getElem hlt]
      exact h2 _ _ _ (Array.getElem?_eq_getElem hlt) hx.2
  | false =>
    have hv : xs[off]? = some v := hv
    have hlt : off < cs.size := by rw [h1]; exact (List.getElem?_eq_some_iff.1 hv).1
    have := hl off cs[off] (Array.getElem?_eq_getElem hlt)
    exact ⟨cs[off], by simp [loadVar, ht.agg, load, Sem.run, this], h2 _ _ _ (Array.getElem?_eq_getElem hlt) hv⟩
/-- A load of what is owned. -/
theorem LU.loadO {x : Operand} {t t' : TypeId} {size : Nat} {agg : Bool} {xs : List LV} {b off : Nat} {v : LV} (k : Nat) (hk : H[k]? = some (.cells b t' xs)) (ht : Ty P t size agg) (hx : Is (ev env x) (.raw (.pointer (some ⟨b, off, none⟩)))) (hv : Part size agg xs off v) : LU P env H ⟨d, .load t x, ty, pos, af, g⟩ v := .of_run fun ph a hl w0 w hinv => by
  have h1 := (hx _ _ (hl x (by simp [Op.operands]))).rawE
  obtain ⟨F, hF, cs, hh, hc⟩ := hinv.atom_at hk
  obtain ⟨z, hrun, hrep⟩ := creps_part (P := P) hc ht hv (w := w) (b := b) (fun i c hi => by rw [cell_of_row w b i cs t' (0, 0) hh]; exact hi)
  exact ⟨z, by simp [execOp, h1, Instr.loadAt, Instr.sureAddr, hrun], hrep⟩
/-- A load of what is known of a variable. -/
theorem LU.loadK {x : Operand} {t : TypeId} {size : Nat} {agg : Bool} {xs : List LV} {b off : Nat} {v : LV} (k : Nat) (hk : H[k]? = some (.known b xs)) (ht : Ty P t size agg) (hx : Is (ev env x) (.raw (.pointer (some ⟨b, off, none⟩)))) (hs0 : 0 < size) (hl' : off + size ≤ xs.length) (hv : Part size agg xs off v) : LU P env H ⟨d, .load t x, ty, pos, af, g⟩ v := .of_run fun ph a hl w0 w hinv => by
  have h1 := (hx _ _ (hl x (by simp [Op.operands]))).rawE
  obtain ⟨F, hF, hh⟩ := hinv.atom_at hk
  generalize hq : (Value.pointer (some ⟨b, 0, none⟩)) = q at hh
  cases hh with | pin _ ad uf hp hr =>
    cases hq
    obtain ⟨z, hrun, hrep⟩ := pin_load (P := P) (cs := (xs.drop off).take size) (ad := ⟨b, off, none⟩) (u := fun j => uf (off + j)) (fun j x h => by
      rw [List.getElem?_take] at h
      split at h
      · rw [List.getElem?_drop] at h
        have := hp _ _ h
        rw [add_lit] at this ⊢
        rw [← this]; simp
      · cases h) (fun j x h => by
      rw [List.getElem?_take] at h
      split at h
      · rw [List.getElem?_drop] at h
        exact hr _ _ h
      · cases h) hinv ht (v := v) (by simp; omega) (by
      cases agg with
      | true =>
        obtain ⟨h3, rfl⟩ := hv
        exact ⟨by simp; omega, by simp [List.take_take]⟩
      | false =>
        have hv : xs[off]? = some v := hv
        show ((xs.drop off).take size)[0]? = some v
        rw [List.getElem?_take, if_pos hs0, List.getElem?_drop]
        exact hv)
    exact ⟨z, by simp [execOp, h1, Instr.loadAt, Instr.sureAddr, hrun], hrep⟩
theorem LU.nilCheck {x : Operand} {ad : Addr} (hx : Is (ev env x) (.raw (.pointer (some ad)))) : LU P env H ⟨d, .nilCheck x, ty, pos, af, g⟩ (.raw (.pointer (some ad))) := .raw fun ac hl w => by
  have h1 := hl x (by simp [Op.operands]) _ hx
  simp [execOp, h1]
theorem LU.fieldO {x : Operand} {t : TypeId} {fs : Array Field} {i : Nat} {f : Field} {b off size : Nat} (ht : P.underlying t = some (.struct fs)) (hf : fs[i]? = some f) (hs : ∀ w, (sizeOf f.type).run P w = .ok size w) (hs0 : size ≠ 0) (hx : Is (ev env x) (.raw (.pointer (some ⟨b, off, none⟩)))) :
    LU P env H ⟨d, .fieldAddr t x i, ty, pos, af, g⟩ (.raw (.pointer (some ⟨b, off + f.offset, none⟩))) := .raw fun ac hl w => by
  have h1 := hl x (by simp [Op.operands]) _ hx
  simp [execOp, h1, Instr.fieldAt, run_underlying ht, hf, Instr.sureAddr, fieldPlace, hs, hs0, add_lit]
/-- The address of an array's element. -/
theorem LU.atA {x y : Operand} {t e : TypeId} {n b off size : Nat} {ki : IntKind} {i : Int} (ht : P.underlying t = some (.array n e)) (hs : ∀ w, (sizeOf e).run P w = .ok size w) (hx : Is (ev env x) (.raw (.pointer (some ⟨b, off, none⟩)))) (hy : Is (ev env y) (.raw (.int ki i))) (h0 : 0 ≤ i) (h1 : i < n) :
    LU P env H ⟨d, .indexAddr t x y, ty, pos, af, g⟩ (.raw (.pointer (some ⟨b, off + i.toNat * size, none⟩))) := .raw fun ac hl w => by
  have e1 := hl x (by simp [Op.operands]) _ hx
  have e2 := hl y (by simp [Op.operands]) _ hy
  simp [execOp, e1, e2, Instr.indexAt, asIntOf, run_underlying ht, Instr.sureAddr, h0, h1, hs, add_lit]
/-- The address of an element of a slice of one's own. -/
theorem LU.atO {x y : Operand} {t e : TypeId} {b off n c size : Nat} {ki : IntKind} {i : Int} (ht : P.underlying t = some (.slice e)) (hs : ∀ w, (sizeOf e).run P w = .ok size w) (hx : Is (ev env x) (.raw (.slice (some ⟨b, off, none⟩) n c))) (hy : Is (ev env y) (.raw (.int ki i))) (h0 : 0 ≤ i) (h1 : i < n) :
    LU P env H ⟨d, .indexAddr t x y, ty, pos, af, g⟩ (.raw (.pointer (some ⟨b, off + i.toNat * size, none⟩))) := .raw fun ac hl w => by
  have e1 := hl x (by simp [Op.operands]) _ hx
  have e2 := hl y (by simp [Op.operands]) _ hy
  simp [execOp, e1, e2, Instr.indexAt, asIntOf, run_underlying ht, h0, h1, hs, add_lit]
theorem LU.lenO {x : Operand} {t e : TypeId} {A : Option Addr} {n c : Nat} (ht : P.underlying t = some (.slice e)) (hx : Is (ev env x) (.raw (.slice A n c))) : LU P env H ⟨d, .call { callee := .builtin .len, args := #[x], argTypes := #[t] }, ty, pos, af, g⟩ (.raw (.int .i64 n)) := .raw fun ac hl w => by
  have h1 := hl x (by simp [Op.operands, Call.operands]) _ hx
  simp [execOp, resolve, invoke, builtin, h1, Builtin.len_, run_underlying ht, goInt]

theorem chg_setCells {b o : Nat} : ∀ (vs : List Value) (w : World), Chg w (w.setCells b o vs) (fun b' _ => b' = b)
  | vs, w => by
    have key : ∀ (vs : List Value) (o : Nat) (w : World), Chg w (w.setCells b o vs) (fun b' _ => b' = b) := by
      intro vs
      induction vs with
      | nil => intro o w; exact Chg.refl _ _
      | cons v vs ih =>
        intro o w
        rw [World.setCells]
        have h1 : Chg w (w.setCell ⟨b, o, none⟩ v) (fun b' _ => b' = b) := Chg.blocks rfl rfl rfl (by simp [World.setCell]) (fun k => k = b) (fun k h _ => h) (fun k _ hk => Below.heap_setCell w ⟨b, o, none⟩ v k hk)
        exact h1.trans (ih (o + 1) _)
    exact key vs o w
theorem heap_setCells {b : Nat} {t : TypeId} : ∀ (vs : List Value) (o : Nat) (w : World) (cs : Array Value), w.heap[b]? = some (.cells cs t (0, 0)) → o + vs.length ≤ cs.size →
    ∃ cs', (w.setCells b o vs).heap[b]? = some (.cells cs' t (0, 0)) ∧ cs'.size = cs.size ∧ ∀ i, cs'[i]? = if o ≤ i ∧ i < o + vs.length then vs[i - o]? else cs[i]?
  | [], o, w, cs, h, _ => ⟨cs, h, rfl, fun i => by
      have : ¬ (o ≤ i ∧ i < o + ([] : List Value).length) := by simp only [List.length_nil]; omega
      rw [if_neg this]⟩
  | v :: vs, o, w, cs, h, hl => by
    have h1 : (w.setCell ⟨b, o, none⟩ v).heap[b]? = some (.cells (cs.setIfInBounds o v) t (0, 0)) := by simp [World.setCell, Array.getElem?_modify, h]
    simp only [List.length_cons] at hl
    obtain ⟨cs', h2, h3, h4⟩ := heap_setCells vs (o + 1) _ _ h1 (by simp; omega)
    refine ⟨cs', h2, by simpa using h3, fun i => ?_⟩
    rw [h4 i]
    simp only [List.length_cons]
    by_cases hi : o = i
    · subst hi
      rw [if_neg (by omega), if_pos (by omega), Nat.sub_self]
      simp [show o < cs.size by omega]
    · by_cases hi2 : o + 1 ≤ i ∧ i < o + 1 + vs.length
      · rw [if_pos hi2, if_pos (by omega)]
        obtain ⟨m, rfl⟩ : ∃ m, i = o + 1 + m := ⟨i - (o + 1), by omega⟩
        rw [show o + 1 + m - (o + 1) = m by omega, show o + 1 + m - o = m + 1 by omega, List.getElem?_cons_succ]
      · rw [if_neg hi2, if_neg (by omega), Array.getElem?_setIfInBounds_ne hi]
/-- The cells with some of them written. -/
def putAt (xs : List LV) (off : Nat) (ys : List LV) : List LV := xs.take off ++ ys ++ xs.drop (off + ys.length)
theorem putAt_get (xs : List LV) (off : Nat) (ys : List LV) (h : off + ys.length ≤ xs.length) (i : Nat) : (putAt xs off ys)[i]? = if off ≤ i ∧ i < off + ys.length then ys[i - off]? else xs[i]? := by
  unfold putAt
  have ht : (xs.take off).length = off := by rw [List.length_take]; omega
  by_cases h1 : i < off
  · rw [if_neg (by omega), List.append_assoc, List.getElem?_append_left (by omega), List.getElem?_take, if_pos h1]
  · by_cases h2 : i < off + ys.length
    · rw [if_pos (by omega), List.append_assoc, List.getElem?_append_right (by omega), ht, List.getElem?_append_left (by omega)]
    · rw [if_neg (by omega), List.getElem?_append_right (by simp; omega)]
      rw [List.getElem?_drop]
      congr 1
      simp
      omega
theorem putAt_length (xs : List LV) (off : Nat) (ys : List LV) (h : off + ys.length ≤ xs.length) : (putAt xs off ys).length = xs.length := by simp [putAt]; omega
theorem putAt_one (xs : List LV) (off : Nat) (y : LV) (h : off < xs.length) : putAt xs off [y] = xs.set off y := by
  unfold putAt
  rw [List.set_eq_take_append_cons_drop, if_pos h]
  simp
theorem run_storeVar_any {t : TypeId} {size : Nat} (hs : ∀ w, (sizeOf t).run P w = .ok size w) (v : Value) (w : World) (b o : Nat) (ht : w.there b o v.cells.size) (hsz : v.cells.size = size) (h1 : ∀ (i : Nat) (c : Value), v.cells[i]? = some c → c.oneCell' = true) :
    (storeVar t ⟨b, o, none⟩ v).run P w = .ok () (w.setCells b o v.cells.toList) := by
  have := run_storeCells_cells (P := P) b o v.cells.toList 0 w (fun j hj => by simpa using (ht j (by simpa using hj)).1) (fun j hj => by simpa using (ht j (by simpa using hj)).2)
    (fun u hu => by
      obtain ⟨i, hi⟩ := List.mem_iff_getElem?.1 hu
      exact h1 i u (by simpa using hi))
  simp only [Nat.add_zero] at this
  simp [storeVar, hs, hsz, this]
/-- A store into what is owned. -/
theorem LO.store {x y : Operand} {t t' : TypeId} {size : Nat} {xs ys : List LV} {b off : Nat} {v : LV} (k : Nat) (hk : st.heap[k]? = some (.cells b t' xs)) (hs : ∀ w, (sizeOf t).run P w = .ok size w) (hx : Is (ev st.env x) (.raw (.pointer (some ⟨b, off, none⟩)))) (hy : Is (ev st.env y) v) (hc : Cells v ys) (hys : ys.length = size) (hlen : off + size ≤ xs.length)
    (h : K ⟨st.n, st.env, .cells b t' (putAt xs off ys) :: st.heap.eraseIdx k⟩) : LO P ⟨none, .store t x y, ty, pos, af, g⟩ st K := .of_skip fun w0 ph a w r => by
  have h1 := (hx _ _ (r.tmps.eval x)).rawE
  obtain ⟨⟨hcs, hcr⟩, hco⟩ := hc _ _ (hy _ _ (r.tmps.eval y))
  have hinv := r.inv.front k
  unfold L.front at hinv
  rw [hk] at hinv
  obtain ⟨F, hF, cs, hh, ⟨hl, hr⟩, ho⟩ := hinv.atom
  have hthere : w.there b off (a.eval y).cells.size := fun j hj => by
    have hlt : off + j < cs.size := by omega
    rw [cell_of_row w b (off + j) cs t' (0, 0) hh, Array.getElem?_eq_getElem hlt]
    exact ⟨rfl, by simp [World.frozen?, hh]⟩
  have hrun := run_storeVar_any (P := P) hs (a.eval y) w b off hthere (by omega) hco
  obtain ⟨cs', hh', hsz', hget⟩ := heap_setCells (a.eval y).cells.toList off w cs hh (by simp; omega)
  refine ⟨w.setCells b off (a.eval y).cells.toList, ph, _, by simp [execOp, h1, Instr.storeAt, Instr.sureAddr, hrun], PH.le.refl _, hinv.turn (a' := .cells b t' (putAt xs off ys)) (PH.le.refl _) (fun G hG hn => ⟨(chg_setCells _ w).mono (fun b' o' hb => (hG.1 b' o').2 hb), G, ⟨hG.1, cs', hh', ⟨by rw [putAt_length _ _ _ (by omega)]; omega, fun i c z hi hz => ?_⟩, fun i c hi => ?_⟩, fun b' o' hb => .inl hb, fun p u hp => .inl hp⟩), h⟩
  · rw [hget] at hi
    rw [putAt_get _ _ _ (by omega)] at hz
    simp only [Array.length_toList] at hi
    rw [← hcs] at hz
    by_cases hin : off ≤ i ∧ i < off + (a.eval y).cells.size
    · rw [if_pos hin] at hi hz
      exact hcr (i - off) c z (by simpa using hi) hz
    · rw [if_neg hin] at hi hz
      exact hr i c z hi hz
  · rw [hget] at hi
    simp only [Array.length_toList] at hi
    by_cases hin : off ≤ i ∧ i < off + (a.eval y).cells.size
    · rw [if_pos hin] at hi
      exact hco (i - off) c (by simpa using hi)
    · rw [if_neg hin] at hi
      exact ho i c hi

/-! ### slices cut -/
theorem rep_sliced {ph : PH} {w0 : Base} {w : World} (hinv : Inv w0 ph w H) {A : Option Addr} {n c size : Nat} {es : List (List LV)} {k : Cap} (r : Rep ph (.slice A n c) (.sl size es k)) (hs0 : 0 < size) (l h m : Nat) (hl : l ≤ h) (hh : h ≤ es.length) (hm : h ≤ m) (hmc : m ≤ c) (k' : Cap)
    (hk : k' = .unk ∨ (k' = .full ∧ h = m) ∨ (k' = k ∧ h = es.length ∧ m = c)) : Rep ph (sliced A l h m size) (.sl size ((es.drop l).take (h - l)) k') := by
  cases r with | sl _ _ _ _ _ _ ad u hA hn hnc hs hcap hp hr =>
    have hlen : ((es.drop l).take (h - l)).length = h - l := by rw [List.length_take, List.length_drop]; omega
    have hget : ∀ (i : Nat) (e : List LV), ((es.drop l).take (h - l))[i]? = some e → es[l + i]? = some e ∧ i < h - l := fun i e hi => by
      rw [List.getElem?_take] at hi
      split at hi
      · rw [List.getElem?_drop] at hi
        exact ⟨hi, by assumption⟩
      · cases hi
    have hsp : 0 < es.length → ad.spot = none := fun h0 => by
      have he := List.getElem?_eq_getElem h0
      have hsz := hs es[0] (List.getElem_mem h0)
      have := hinv.spot (hp 0 es[0] 0 es[0][0] he (List.getElem?_eq_getElem (by omega)))
      rwa [show ad.add (0 * size + 0) = ad by rw [Nat.zero_mul]; rfl] at this
    refine .sl size _ k' _ (h - l) (m - l) (ad.add (l * size)) (fun j => u (l * size + j)) (fun h0 => ?_) hlen (by omega) (fun e he => hs e (List.mem_of_mem_drop (List.mem_of_mem_take he))) ?_ (fun i e j x hi hj => ?_) (fun i e j x hi hj => ?_)
    · rw [hlen] at h0
      rw [if_neg (by omega), hA (by omega)]
      rfl
    · rcases hk with rfl | ⟨rfl, e⟩ | ⟨rfl, e1, e2⟩
      · trivial
      · show h - l = m - l
        omega
      · subst e2
        cases k' with
        | unk => trivial
        | full => show h - l = m - l; have : n = m := hcap; omega
        | tok b o z =>
          rcases hcap with ⟨e3, e4⟩ | ⟨off, e3, e4, e5⟩
          · exact .inl ⟨by omega, e4⟩
          · by_cases hml : m = l
            · refine .inl ⟨by omega, ?_⟩
              have : n = m := by omega
              rw [← e4, ← e5, this]
            · refine .inr ⟨off + l * size, ?_, ?_, ?_⟩
              · rw [if_neg hml, e3]
                simp [add_lit]
              · rw [Nat.add_assoc, ← Nat.add_mul, show l + (h - l) = n by omega]
                exact e4
              · rw [Nat.add_assoc, ← Nat.add_mul, show l + (m - l) = m by omega]
                exact e5
    · obtain ⟨hi', _⟩ := hget i e hi
      have := hp (l + i) e j x hi' hj
      rw [add_add _ _ _ (hsp (by have := (List.getElem?_eq_some_iff.1 hi').1; omega)), ← Nat.add_assoc, ← Nat.add_mul]
      exact this
    · obtain ⟨hi', _⟩ := hget i e hi
      have := hr (l + i) e j x hi' hj
      rw [← Nat.add_assoc, ← Nat.add_mul]
      exact this
theorem elem_of {t e : TypeId} (ht : P.underlying t = some (.slice e)) : P.elem t = e := by simp [Program.elem, ht]
theorem LU.slice {x : Operand} {t e : TypeId} {size : Nat} {es : List (List LV)} {k : Cap} {lo hi : Option Operand} {l h : Option Int} (hs : ∀ w, (sizeOf e).run P w = .ok size w) (hs0 : 0 < size) (ht : P.underlying t = some (.slice e)) (hx : Is (ev env x) (.sl size es k)) (hl : optInt env lo l) (hh : optInt env hi h)
    (h0 : 0 ≤ l.getD 0) (h1 : l.getD 0 ≤ h.getD es.length) (h2 : h.getD es.length ≤ es.length) (k' : Cap) (hk : k' = .unk ∨ (k' = k ∧ h.getD es.length = es.length)) :
    LU P env H ⟨d, .slice t x lo hi none, ty, pos, af, g⟩ (.sl size ((es.drop (l.getD 0).toNat).take ((h.getD es.length).toNat - (l.getD 0).toNat)) k') := .of_run fun ph a hc w0 w hinv => by
  have r := hx _ _ (hc x (by simp [Op.operands]))
  generalize hu : a.eval x = u at r
  have ht' : P.underlying t = some (.slice (P.elem t)) := by rw [elem_of ht]; exact ht
  have he : P.elem t = e := elem_of ht
  have eh : ∀ q : Int, 0 ≤ q → (q.toNat : Int) = q := fun q hq => Int.toNat_of_nonneg hq
  obtain ⟨A, n, c, rfl, hn, hnc⟩ : ∃ A n c, u = .slice A n c ∧ es.length = n ∧ n ≤ c := by cases r; exact ⟨_, _, _, rfl, by assumption, by assumption⟩
  have fin : ∀ (L E : Nat), L = (l.getD 0).toNat → E = (h.getD es.length).toNat → (execOp a.eval ⟨d, .slice t x lo hi none, ty, pos, af, g⟩).run P w = .ok (.value (sliced A L E c size)) w →
      ∃ u, (execOp a.eval ⟨d, .slice t x lo hi none, ty, pos, af, g⟩).run P w = .ok (.value u) w ∧ Rep ph u (.sl size ((es.drop (l.getD 0).toNat).take ((h.getD es.length).toNat - (l.getD 0).toNat)) k') := fun L E eL eE hrun => by
    refine ⟨_, hrun, ?_⟩
    subst eL
    subst eE
    exact rep_sliced hinv r hs0 _ _ c (by omega) (by omega) (by omega) (Nat.le_refl _) k' (hk.imp id (fun h => .inr ⟨h.1, by omega, rfl⟩))
  cases lo <;> cases l <;> simp only [optInt] at hl <;> cases hi <;> cases h <;> simp only [optInt] at hh
  · refine fin 0 n (by simp) (by simp [hn]) ?_
    simp [execOp, hu, run_sliceAt_slice w t _ _ _ _ ht', run_slice_all w t A n c ht', he, hs]
  · rename_i y i
    obtain ⟨k1, hk1⟩ := hh
    have e2 := (hk1 _ _ (hc y (by simp [Op.operands]))).rawE
    simp only [Option.getD_none, Option.getD_some] at h0 h1 h2
    refine fin 0 i.toNat (by simp) (by simp) ?_
    simp [execOp, hu, e2, run_sliceAt_slice w t _ _ _ _ ht', run_slice_h w t A n c ht' k1 i h1 (by omega), he, hs]
  · rename_i y i
    obtain ⟨k1, hk1⟩ := hl
    have e2 := (hk1 _ _ (hc y (by simp [Op.operands]))).rawE
    simp only [Option.getD_none, Option.getD_some] at h0 h1 h2
    refine fin i.toNat n (by simp) (by simp [hn]) ?_
    simp [execOp, hu, e2, run_sliceAt_slice w t _ _ _ _ ht', run_slice_l w t A n c ht' k1 i h0 (by omega), he, hs]
  · rename_i y i z j
    obtain ⟨k1, hk1⟩ := hl
    obtain ⟨k2, hk2⟩ := hh
    have e2 := (hk1 _ _ (hc y (by simp [Op.operands]))).rawE
    have e3 := (hk2 _ _ (hc z (by simp [Op.operands]))).rawE
    simp only [Option.getD_some] at h0 h1 h2
    refine fin i.toNat j.toNat (by simp) (by simp) ?_
    simp [execOp, hu, e2, e3, run_sliceAt_slice w t _ _ _ _ ht', run_slice_lh w t A n c ht' k1 k2 i j h0 h1 (by omega), he, hs]
/-- s[l:h:h] -/
theorem LU.slice3 {x z : Operand} {t e : TypeId} {size : Nat} {es : List (List LV)} {k : Cap} {lo hi : Option Operand} {l : Option Int} {h m : Int} {k3 : IntKind} (hs : ∀ w, (sizeOf e).run P w = .ok size w) (hs0 : 0 < size) (ht : P.underlying t = some (.slice e)) (hx : Is (ev env x) (.sl size es k)) (hl : optInt env lo l) (hh : optInt env hi (some h)) (hz : Is (ev env z) (.raw (.int k3 m)))
    (h0 : 0 ≤ l.getD 0) (h1 : l.getD 0 ≤ h) (h2 : h = m) (h3 : m ≤ es.length) :
    LU P env H ⟨d, .slice t x lo hi (some z), ty, pos, af, g⟩ (.sl size ((es.drop (l.getD 0).toNat).take (h.toNat - (l.getD 0).toNat)) .full) := .of_run fun ph a hc w0 w hinv => by
  subst h2
  have r := hx _ _ (hc x (by simp [Op.operands]))
  generalize hu : a.eval x = u at r
  have ht' : P.underlying t = some (.slice (P.elem t)) := by rw [elem_of ht]; exact ht
  have he : P.elem t = e := elem_of ht
  obtain ⟨A, n, c, rfl, hn, hnc⟩ : ∃ A n c, u = .slice A n c ∧ es.length = n ∧ n ≤ c := by cases r; exact ⟨_, _, _, rfl, by assumption, by assumption⟩
  have e4 := (hz _ _ (hc z (by simp [Op.operands]))).rawE
  have fin : ∀ (L : Nat), L = (l.getD 0).toNat → (execOp a.eval ⟨d, .slice t x lo hi (some z), ty, pos, af, g⟩).run P w = .ok (.value (sliced A L h.toNat h.toNat size)) w →
      ∃ u, (execOp a.eval ⟨d, .slice t x lo hi (some z), ty, pos, af, g⟩).run P w = .ok (.value u) w ∧ Rep ph u (.sl size ((es.drop (l.getD 0).toNat).take (h.toNat - (l.getD 0).toNat)) .full) := fun L eL hrun => by
    refine ⟨_, hrun, ?_⟩
    subst eL
    exact rep_sliced hinv r hs0 _ _ h.toNat (by omega) (by omega) (by omega) (by omega) .full (.inr (.inl ⟨rfl, rfl⟩))
  cases hi <;> simp only [optInt] at hh
  rename_i y
  obtain ⟨k2, hk2⟩ := hh
  have e3 := (hk2 _ _ (hc y (by simp [Op.operands]))).rawE
  cases lo <;> cases l <;> simp only [optInt] at hl
  · refine fin 0 (by simp) ?_
    simp only [Option.getD_none] at h1
    simp [execOp, hu, e3, e4, run_sliceAt_slice w t _ _ _ _ ht', run_slice_hm w t A n c ht' k2 k3 h h h1 (Int.le_refl _) (by omega), he, hs]
  · rename_i y i
    obtain ⟨k1, hk1⟩ := hl
    have e2 := (hk1 _ _ (hc y (by simp [Op.operands]))).rawE
    simp only [Option.getD_some] at h0 h1
    refine fin i.toNat (by simp) ?_
    simp [execOp, hu, e2, e3, e4, run_sliceAt_slice w t _ _ _ _ ht', run_slice_lhm w t A n c ht' k1 k2 k3 i h h h0 h1 (Int.le_refl _) (by omega), he, hs]
end
end Go.L
