/- The logic's rules of new memory: literals, append, make, conversions, calls. Plain theorems over any program. -/
import Derived.Test.YtcemodldbfiomaaLogD
import Derived.Lib.SlBytesConst
import Derived.Laws.BytesArg
import Derived.Deep.Upon
set_option linter.unusedVariables false
set_option linter.unusedSimpArgs false
namespace Go.L
open Go.RowKit

/-- Some cells of a block are known too. -/
def PH.ext (ph : PH) (b lo hi : Nat) (cs : Array Value) : PH := fun a => if a.block = b ∧ a.spot = none ∧ lo ≤ a.off ∧ a.off < hi then cs[a.off]? else ph a
theorem PH.ext_in {ph : PH} {b lo hi i : Nat} {cs : Array Value} (h : lo ≤ i ∧ i < hi) : PH.ext ph b lo hi cs ⟨b, i, none⟩ = cs[i]? := by
  unfold PH.ext
  rw [if_pos ⟨rfl, rfl, h.1, h.2⟩]
theorem PH.ext_cases {ph : PH} {b lo hi : Nat} {cs : Array Value} {a : Addr} {u : Value} (h : PH.ext ph b lo hi cs a = some u) : (a = ⟨b, a.off, none⟩ ∧ lo ≤ a.off ∧ a.off < hi ∧ cs[a.off]? = some u) ∨ ph a = some u := by
  unfold PH.ext at h
  by_cases hc : a.block = b ∧ a.spot = none ∧ lo ≤ a.off ∧ a.off < hi
  · rw [if_pos hc] at h
    obtain ⟨h1, h2, h3, h4⟩ := hc
    refine .inl ⟨?_, h3, h4, h⟩
    cases a
    simp_all
  · rw [if_neg hc] at h
    exact .inr h
theorem PH.le_ext {ph : PH} {b lo hi : Nat} {cs : Array Value} (h : ∀ i, lo ≤ i → i < hi → ph ⟨b, i, none⟩ = none) : PH.le ph (PH.ext ph b lo hi cs) := fun a u ha => by
  unfold PH.ext
  by_cases hc : a.block = b ∧ a.spot = none ∧ lo ≤ a.off ∧ a.off < hi
  · obtain ⟨h1, h2, h3, h4⟩ := hc
    have := h a.off h3 h4
    have e : a = ⟨b, a.off, none⟩ := by cases a; simp_all
    rw [e, this] at ha
    cases ha
  · rw [if_neg hc]
    exact ha
section
variable {P : Program} {env : List (Nat × LV)} {H : List Atom} {d : Option Tmp} {ty : TypeId} {pos : String} {af : Array Edge} {g : Option (Nat × Bool)} {st : LS} {K : LS → Prop}
theorem Inv.none_new {w0 : Base} {ph : PH} {w : World} (h : Inv w0 ph w H) {a : Addr} (ha : w.heap.size ≤ a.block) : ph a = none := by
  cases hp : ph a with
  | none => rfl
  | some u =>
    have := lt_of_cell (h.cell a u hp)
    omega
/-- A new block of which the first n cells are known from now on. -/
theorem Inv.learn {w0 : Base} {ph : PH} {w w' : World} (h : Inv w0 ph w H) (hb : Below w.heap.size w w') {cs : Array Value} {t : TypeId} {fr : Nat × Nat} (hh : w'.heap[w.heap.size]? = some (.cells cs t fr)) (n : Nat) (h1 : ∀ (i : Nat) (c : Value), i < n → cs[i]? = some c → c.oneCell' = true) :
    Inv w0 (PH.ext ph w.heap.size 0 n cs) w' H ∧ PH.le ph (PH.ext ph w.heap.size 0 n cs) := by
  have hle : PH.le ph (PH.ext ph w.heap.size 0 n cs) := PH.le_ext fun i _ _ => h.none_new (Nat.le_refl _)
  refine ⟨h.know hb hle fun a u ha => ?_, hle⟩
  rcases PH.ext_cases ha with ⟨e, _, h3, h4⟩ | h3
  · refine .inr ⟨⟨?_, h1 _ _ h3 h4⟩, by rw [e]; exact Nat.le_refl _⟩
    rw [e, cell_of_row w' w.heap.size a.off cs t fr hh]
    exact h4
  · exact .inl h3
/-- The same with the rest of it as room. -/
theorem Inv.learnTail {w0 : Base} {ph : PH} {w w' : World} (h : Inv w0 ph w H) (hb : Below w.heap.size w w') {cs : Array Value} {t : TypeId} (hh : w'.heap[w.heap.size]? = some (.cells cs t (0, 0))) (n c : Nat) (hc : c ≤ cs.size) (h1 : ∀ (i : Nat) (c : Value), i < n → cs[i]? = some c → c.oneCell' = true) :
    Inv w0 (PH.ext ph w.heap.size 0 n cs) w' (.tail w.heap.size n c :: H) ∧ PH.le ph (PH.ext ph w.heap.size 0 n cs) := by
  have hle : PH.le ph (PH.ext ph w.heap.size 0 n cs) := PH.le_ext fun i _ _ => h.none_new (Nat.le_refl _)
  refine ⟨Inv.upd (H1 := []) (H2 := [.tail w.heap.size n c]) (R := H) h hle (fun F hF _ => ⟨Chg.below hb _, fun b o => b = w.heap.size ∧ n ≤ o ∧ o < c, ⟨_, fun _ _ => False, ⟨fun _ _ => Iff.rfl, fun i hi hj => ?_⟩, fun _ _ h => h, fun b o => by simp, fun _ _ _ h => h⟩, fun b o hg => .inr (by omega), fun a u ha => ?_⟩), hle⟩
  · have hlt : i < cs.size := by omega
    refine ⟨⟨cs[i], ?_⟩, by simp [World.frozen?, hh]⟩
    rw [cell_of_row w' w.heap.size i cs t (0, 0) hh, Array.getElem?_eq_getElem hlt]
  · rcases PH.ext_cases ha with ⟨e, _, h3, h4⟩ | h3
    · refine .inr ⟨⟨?_, h1 _ _ h3 h4⟩, fun hg => by omega, .inr (by rw [e]; exact Nat.le_refl _)⟩
      rw [e, cell_of_row w' w.heap.size a.off cs t (0, 0) hh]
      exact h4
    · exact .inl h3
theorem HSub.tail0 (b o c : Nat) (hc : c ≤ o) (H : List Atom) : HSub H (.tail b o c :: H) := HSub.of fun ph w F hs => ⟨F, ⟨fun _ _ => False, F, ⟨fun _ _ => by constructor; exact fun h => h.elim; omega, fun i _ _ => by omega⟩, hs, fun b o => by simp, fun _ _ h => h.elim⟩, fun _ _ h => h⟩
theorem LL.ghost {ops : Array Oper} {l : List Oper} {H' : List Atom} (hs : HSub st.heap H') (h : LL P ops l ⟨st.n, st.env, H'⟩ K) : LL P ops l st K := fun w0 ph a w r Q k => h w0 ph a w ⟨hs.app r.inv, r.defers, r.size, r.tmps⟩ Q k
theorem LL.weak {ops : Array Oper} {l : List Oper} {t : Nat} {v : LV} (hs : Is (get st.env t) v) (h : LL P ops l ⟨st.n, (t, v) :: st.env, st.heap⟩ K) : LL P ops l st K := fun w0 ph a w r Q k => h w0 ph a w ⟨r.inv, r.defers, r.size, fun i => by
  by_cases hi : t = i
  · subst hi; rw [get_same]; exact hs _ _ (r.tmps t)
  · rw [get_other hi]; exact r.tmps i⟩ Q k
theorem LW.ghost {c : Code} {Q : Exit → LS → Prop} {H' : List Atom} (hs : HSub st.heap H') (h : LW P c ⟨st.n, st.env, H'⟩ Q) : LW P c st Q := fun w0 ph a w r Q' k => h w0 ph a w ⟨hs.app r.inv, r.defers, r.size, r.tmps⟩ Q' k
theorem LW.weakS {c : Code} {Q : Exit → LS → Prop} {t : Nat} {v : LV} (hs : Is (get st.env t) v) (h : LW P c ⟨st.n, (t, v) :: st.env, st.heap⟩ Q) : LW P c st Q := fun w0 ph a w r Q' k => h w0 ph a w ⟨r.inv, r.defers, r.size, fun i => by
  by_cases hi : t = i
  · subst hi; rw [get_same]; exact hs _ _ (r.tmps t)
  · rw [get_other hi]; exact r.tmps i⟩ Q' k

/-! ### literals -/
theorem foldl_set : ∀ (l : List Value) (k off : Nat) (cs : Array Value), off + k + l.length ≤ cs.size →
    ((l.zipIdx k).foldl (fun cs (p : Value × Nat) => cs.setIfInBounds (off + p.2) p.1) cs).size = cs.size ∧ ∀ i, ((l.zipIdx k).foldl (fun cs (p : Value × Nat) => cs.setIfInBounds (off + p.2) p.1) cs)[i]? = if off + k ≤ i ∧ i < off + k + l.length then l[i - (off + k)]? else cs[i]?
  | [], k, off, cs, h => ⟨rfl, fun i => by
      have : ¬ (off + k ≤ i ∧ i < off + k + ([] : List Value).length) := by simp only [List.length_nil]; omega
      rw [if_neg this]; rfl⟩
  | v :: l, k, off, cs, h => by
    simp only [List.length_cons] at h
    obtain ⟨h1, h2⟩ := foldl_set l (k + 1) off (cs.setIfInBounds (off + k) v) (by simp; omega)
    refine ⟨by simpa using h1, fun i => ?_⟩
    simp only [List.zipIdx_cons, List.foldl_cons, List.length_cons]
    rw [h2 i]
    by_cases hi : off + k = i
    · subst hi
      rw [if_neg (by omega), if_pos (by omega), Nat.sub_self]
      simp [show off + k < cs.size by omega]
    · by_cases hi2 : off + (k + 1) ≤ i ∧ i < off + (k + 1) + l.length
      · rw [if_pos hi2, if_pos (by omega)]
        obtain ⟨m, rfl⟩ : ∃ m, i = off + (k + 1) + m := ⟨i - (off + (k + 1)), by omega⟩
        rw [show off + (k + 1) + m - (off + (k + 1)) = m by omega, show off + (k + 1) + m - (off + k) = m + 1 by omega, List.getElem?_cons_succ]
      · rw [if_neg hi2, if_neg (by omega), Array.getElem?_setIfInBounds_ne hi]
theorem foldl_cells (v : Value) (off : Nat) (cs : Array Value) (h : off + v.cells.size ≤ cs.size) :
    (v.cells.zipIdx.foldl (fun cs (p : Value × Nat) => cs.setIfInBounds (off + p.2) p.1) cs).size = cs.size ∧ ∀ i, (v.cells.zipIdx.foldl (fun cs (p : Value × Nat) => cs.setIfInBounds (off + p.2) p.1) cs)[i]? = if off ≤ i ∧ i < off + v.cells.size then v.cells[i - off]? else cs[i]? := by
  have := foldl_set v.cells.toList 0 off cs (by simpa using h)
  rw [← Array.foldl_toList, Array.toList_zipIdx]
  simpa using this
/-- What parts of a composite are: for each, its place and its cells. -/
def Parts (env : List (Nat × LV)) : List (Nat × Operand) → List (Nat × List LV) → Prop
  | [], [] => True
  | (i, x) :: r, (j, c) :: s => i = j ∧ (∃ v, Is (ev env x) v ∧ Cells v c) ∧ Parts env r s
  | _, _ => False
/-- The cells of a composite with its parts laid: 'place' tells where. -/
def laid (place : Nat → Option (Nat × Nat)) (xs : List LV) : List (Nat × List LV) → Option (List LV)
  | [] => some xs
  | (i, c) :: r => match place i with
    | none => none
    | some (off, size) => bif (Nat.beq c.length size && Nat.ble (off + c.length) xs.length) then laid place (putAt xs off c) r else none
theorem fill_laid {ph : PH} {a : Act} {place : Nat → Option (Nat × Nat)} : ∀ {ps : List (Nat × Operand)} {qs : List (Nat × List LV)} {cs : Array Value} {xs ys : List LV}, (∀ p ∈ ps, Rep ph (a.eval p.2) (ev env p.2)) → Parts env ps qs → CReps ph cs xs → laid place xs qs = some ys →
    ∃ cs', Instr.fill place cs (ps.map fun p => (p.1, a.eval p.2)) = some cs' ∧ CReps ph cs' ys
  | [], [], cs, xs, ys, _, _, hc, hl => by
    simp only [laid, Option.some.injEq] at hl
    subst hl
    exact ⟨cs, rfl, hc⟩
  | (i, x) :: ps, (j, c) :: qs, cs, xs, ys, ha, ⟨hij, ⟨v, hv, hcv⟩, hp⟩, hc, hl => by
    subst hij
    have h1 := hcv _ _ (hv _ _ (ha (i, x) (by simp)))
    simp only [laid] at hl
    simp only [List.map_cons, Instr.fill]
    split at hl
    · cases hl
    · rename_i off size hpl
      cases hcond : (Nat.beq c.length size && Nat.ble (off + c.length) xs.length) with
      | false => rw [hcond] at hl; cases hl
      | true =>
        rw [hcond] at hl
        simp only [cond_true] at hl
        obtain ⟨hs, hle⟩ := (Bool.and_eq_true _ _).mp hcond
        have hs := Nat.eq_of_beq_eq_true hs
        have hle := Nat.le_of_ble_eq_true hle
        have hsz : (a.eval x).cells.size = c.length := h1.1.1
        have hcs : cs.size = xs.length := hc.1.1
        obtain ⟨f1, f2⟩ := foldl_cells (a.eval x) off cs (by omega)
        have hnc : (decide ((a.eval x).cells.size ≠ size) || decide (off + (a.eval x).cells.size > cs.size)) = false := by
          rw [Bool.or_eq_false_iff, decide_eq_false_iff_not, decide_eq_false_iff_not]
          omega
        simp only [hpl, hnc, Bool.false_eq_true, if_false]
        refine fill_laid (xs := putAt xs off c) (fun p hp' => ha p (List.mem_cons_of_mem _ hp')) hp ⟨⟨?_, fun i' z y hz hy => ?_⟩, fun i' z hz => ?_⟩ hl
        · rw [putAt_length _ _ _ hle]
          exact f1.trans hcs
        · rw [f2] at hz
          rw [putAt_get _ _ _ hle] at hy
          rw [hsz] at hz
          by_cases hin : off ≤ i' ∧ i' < off + c.length
          · rw [if_pos hin] at hz hy
            exact h1.1.2 _ z y hz hy
          · rw [if_neg hin] at hz hy
            exact hc.1.2 _ z y hz hy
        · rw [f2] at hz
          split at hz
          · exact h1.2 _ z hz
          · exact hc.2 _ z hz
  | [], (_, _) :: _, _, _, _, _, h, _, _ => h.elim
  | (_, _) :: _, [], _, _, _, _, h, _, _ => h.elim
theorem raws_creps {ph : PH} {cs : Array Value} (h : ∀ (i : Nat) (c : Value), cs[i]? = some c → c.oneCell' = true) : CReps ph cs (raws cs.toList) := ⟨⟨by simp [raws], fun i c x h1 h2 => by
  simp [raws] at h2
  obtain ⟨v, hv, rfl⟩ := h2
  rw [hv] at h1
  injection h1 with h1
  subst h1
  exact .raw _⟩, h⟩
/-- T{..}, a struct. -/
theorem LU.build {t : TypeId} {ps : Array (Nat × Operand)} {qs : List (Nat × List LV)} {z : Value} {fs : Array Field} {places : Array (Nat × Nat)} {ys : List LV} (ht : P.underlying t = some (.struct fs)) (hz : ∀ w, (zeroValue t).run P w = .ok z w) (hz1 : ∀ (i : Nat) (c : Value), z.cells[i]? = some c → c.oneCell' = true)
    (hpl : ∀ w, (fs.mapM (fun f => do pure (f.offset, ← sizeOf f.type)) : Sem _).run P w = .ok places w) (hp : Parts env ps.toList qs) (hl' : laid (places[·]?) (raws z.cells.toList) qs = some ys) : LU P env H ⟨d, .build t ps, ty, pos, af, g⟩ (.agg ys) := .of_run fun ph a hl w0 w hinv => by
  obtain ⟨cs', hf, hc⟩ := fill_laid (a := a) (fun p hp' => hl p.2 (by simp only [Array.mem_def, Op.operands]; exact List.mem_map.2 ⟨p, hp', rfl⟩)) hp (raws_creps hz1) hl'
  refine ⟨.agg cs', ?_, .agg cs' ys hc.1.1 hc.2 hc.1.2⟩
  have hm : (ps.map fun (p : Nat × Operand) => (p.1, a.eval p.2)).toList = ps.toList.map fun p => (p.1, a.eval p.2) := by simp
  simp only [execOp, Instr.build, Sem.run_bind, hz, run_underlying ht, Result.andThen_ok, hpl, hm, hf, Sem.run_pure]
/-- T{..}, an array. -/
theorem LU.buildA {t e : TypeId} {n size : Nat} {ps : Array (Nat × Operand)} {qs : List (Nat × List LV)} {z : Value} {ys : List LV} (ht : P.underlying t = some (.array n e)) (hs : ∀ w, (sizeOf e).run P w = .ok size w) (hz : ∀ w, (zeroValue t).run P w = .ok z w) (hz1 : ∀ (i : Nat) (c : Value), z.cells[i]? = some c → c.oneCell' = true)
    (hp : Parts env ps.toList qs) (hl' : laid (fun i => some (i * size, size)) (raws z.cells.toList) qs = some ys) : LU P env H ⟨d, .build t ps, ty, pos, af, g⟩ (.agg ys) := .of_run fun ph a hl w0 w hinv => by
  obtain ⟨cs', hf, hc⟩ := fill_laid (a := a) (fun p hp' => hl p.2 (by simp only [Array.mem_def, Op.operands]; exact List.mem_map.2 ⟨p, hp', rfl⟩)) hp (raws_creps hz1) hl'
  refine ⟨.agg cs', ?_, .agg cs' ys hc.1.1 hc.2 hc.1.2⟩
  have hm : (ps.map fun (p : Nat × Operand) => (p.1, a.eval p.2)).toList = ps.toList.map fun p => (p.1, a.eval p.2) := by simp
  simp only [execOp, Instr.build, Sem.run_bind, hz, run_underlying ht, Result.andThen_ok, hs, hm, hf, Sem.run_pure]
/-- Elements out of cells. -/
def chunks (size : Nat) : Nat → List LV → List (List LV)
  | 0, _ => []
  | n + 1, l => l.take size :: chunks size n (l.drop size)
theorem chunks_length (size : Nat) : ∀ (n : Nat) (l : List LV), (chunks size n l).length = n
  | 0, _ => rfl
  | n + 1, l => by simp [chunks, chunks_length size n]
theorem chunks_get (size : Nat) : ∀ (n : Nat) (l : List LV) (i : Nat), (chunks size n l)[i]? = if i < n then some ((l.drop (i * size)).take size) else none
  | 0, l, i => by simp [chunks]
  | n + 1, l, 0 => by simp [chunks]
  | n + 1, l, i + 1 => by
    rw [chunks, List.getElem?_cons_succ, chunks_get size n, List.drop_drop]
    by_cases h : i < n
    · rw [if_pos h, if_pos (by omega), show size + i * size = (i + 1) * size by rw [Nat.add_mul, Nat.one_mul, Nat.add_comm]]
    · rw [if_neg h, if_neg (by omega)]
/-- Known cells, seen as a slice. -/
theorem rep_chunks {ph : PH} {b size n c : Nat} {cs : Array Value} {xs : List LV} {k : Cap} (hp : ∀ i, i < n * size → ph ⟨b, i, none⟩ = cs[i]?) (hr : CReps ph cs xs) (hl : n * size ≤ cs.size) (hnc : n ≤ c) (hcap : CapOk (some ⟨b, 0, none⟩) n c size k) : Rep ph (.slice (some ⟨b, 0, none⟩) n c) (.sl size (chunks size n xs) k) := by
  have hxl : cs.size = xs.length := hr.1.1
  have hin : ∀ (i : Nat) (e : List LV) (j : Nat) (x : LV), (chunks size n xs)[i]? = some e → e[j]? = some x → i * size + j < n * size ∧ xs[i * size + j]? = some x := fun i e j x hi hj => by
    rw [chunks_get] at hi
    split at hi
    · rename_i hlt
      injection hi with hi
      subst hi
      rw [List.getElem?_take] at hj
      split at hj
      · rename_i hjs
        rw [List.getElem?_drop] at hj
        have : i * size + size ≤ n * size := by rw [← Nat.succ_mul]; exact Nat.mul_le_mul_right _ hlt
        exact ⟨by omega, hj⟩
      · cases hj
    · cases hi
  refine .sl size _ k _ n c ⟨b, 0, none⟩ (fun i => cs.getD i undef) (fun _ => rfl) (chunks_length _ _ _) hnc (fun e he => ?_) hcap (fun i e j x hi hj => ?_) (fun i e j x hi hj => ?_)
  · obtain ⟨i, hi⟩ := List.mem_iff_getElem?.1 he
    rw [chunks_get] at hi
    split at hi
    · rename_i hlt
      injection hi with hi
      subst hi
      have : i * size + size ≤ n * size := by rw [← Nat.succ_mul]; exact Nat.mul_le_mul_right _ hlt
      rw [List.length_take, List.length_drop]
      omega
    · cases hi
  · obtain ⟨h1, h2⟩ := hin i e j x hi hj
    have hlt : i * size + j < cs.size := by omega
    rw [add_lit, Nat.zero_add, hp _ h1, Array.getElem?_eq_getElem hlt]
    simp [hlt]
  · obtain ⟨h1, h2⟩ := hin i e j x hi hj
    have hlt : i * size + j < cs.size := by omega
    simp only [Array.getD_eq_getD_getElem?, Array.getElem?_eq_getElem hlt, Option.getD_some]
    exact hr.1.2 _ _ _ (Array.getElem?_eq_getElem hlt) h2
/-- []T{..} -/
theorem lit_run {t e : TypeId} {n size : Nat} {ps : Array (Nat × Operand)} {qs : List (Nat × List LV)} {z : Value} {ys : List LV} (ht : P.underlying t = some (.slice e)) (hs : ∀ w, (sizeOf e).run P w = .ok size w) (hz : ∀ w, (zeroValue e).run P w = .ok z w) (hz1 : ∀ (i : Nat) (c : Value), z.cells[i]? = some c → c.oneCell' = true) (hzs : z.cells.size = size) (hs0 : 0 < size) (hn : n * size ≤ 16777216)
    (hp : Parts env ps.toList qs) (hl' : laid (fun i => some (i * size, size)) ((List.replicate n (raws z.cells.toList)).flatten) qs = some ys) {ph : PH} {a : Act} (hl : ∀ x ∈ (Op.buildSlice t n ps).operands, Rep ph (a.eval x) (ev env x)) (w : World) : ∃ cs', (execOp a.eval ⟨d, .buildSlice t n ps, ty, pos, af, g⟩).run P w = .ok (.value (.slice (some ⟨w.heap.size, 0, none⟩) n n)) (w.alloc (.cells cs' e)) ∧ CReps ph cs' ys ∧ cs'.size = n * size := by
  have hzl : ∀ i, i < n * size → ((Array.range (n * size)).map (z.cells[· % z.cells.size]!))[i]? = z.cells[i % size]? := fun i hi => by
    have h1 : i % size < size := Nat.mod_lt _ hs0
    have h2 : i % size < z.cells.size := by omega
    rw [Array.getElem?_eq_getElem h2]
    simp only [Array.getElem?_map, Array.getElem?_range, hi, if_true, Option.map_some, hzs, Option.some.injEq]
    exact getElem!_pos z.cells _ h2
  have hrep : ∀ (n : Nat) (l : List LV) (i : Nat), l.length = size → ((List.replicate n l).flatten)[i]? = if i < n * size then l[i % size]? else none := by
    intro n
    induction n with
    | zero => intro l i _; simp
    | succ n ih =>
      intro l i hlen
      rw [List.replicate_succ, List.flatten_cons]
      by_cases hi : i < size
      · rw [List.getElem?_append_left (by omega), if_pos (by rw [Nat.succ_mul]; omega), Nat.mod_eq_of_lt hi]
      · rw [List.getElem?_append_right (by omega), ih l _ hlen, hlen]
        have e1 : (i - size) % size = i % size := by
          rw [← Nat.mod_eq_sub_mod (by omega)]
        by_cases h2 : i - size < n * size
        · rw [if_pos h2, if_pos (by rw [Nat.succ_mul]; omega), e1]
        · rw [if_neg h2, if_neg (by rw [Nat.succ_mul]; omega)]
  have hbase : CReps ph ((Array.range (n * size)).map (z.cells[· % z.cells.size]!)) ((List.replicate n (raws z.cells.toList)).flatten) := by
    refine ⟨⟨by simp [raws, hzs], fun i c x h1 h2 => ?_⟩, fun i c h1 => ?_⟩
    · rw [hrep n _ i (by simp [raws, hzs])] at h2
      split at h2
      · rename_i hi
        rw [hzl i hi] at h1
        simp [raws] at h2
        obtain ⟨v, hv, rfl⟩ := h2
        rw [hv] at h1
        injection h1 with h1
        subst h1
        exact .raw _
      · cases h2
    · have hi : i < n * size := by
        have := (Array.getElem?_eq_some_iff.1 h1).1
        simpa using this
      rw [hzl i hi] at h1
      exact hz1 _ c h1
  obtain ⟨cs', hf, hc⟩ := fill_laid (a := a) (fun p hp' => hl p.2 (by simp only [Array.mem_def, Op.operands]; exact List.mem_map.2 ⟨p, hp', rfl⟩)) hp hbase hl'
  have hm : (ps.map fun (p : Nat × Operand) => (p.1, a.eval p.2)).toList = ps.toList.map fun p => (p.1, a.eval p.2) := by simp
  have hcz : (Array.range (n * size)).map (z.cells[· % z.cells.size]!) = (Array.range (n * size)).map ((if n * size = 0 then #[] else z.cells)[· % (if n * size = 0 then #[] else z.cells).size]!) := by
    by_cases h0 : n * size = 0
    · rw [h0]; simp
    · rw [if_neg h0]
  have hsz : cs'.size = n * size := by
    have h1 := hc.1.1
    have : ∀ (qs : List (Nat × List LV)) (xs ys : List LV), laid (fun i => some (i * size, size)) xs qs = some ys → ys.length = xs.length := by
      intro qs
      induction qs with
      | nil => intro xs ys h; simp only [laid, Option.some.injEq] at h; rw [h]
      | cons q qs ih =>
        intro xs ys h
        obtain ⟨i, c⟩ := q
        simp only [laid] at h
        cases hcond : (Nat.beq c.length size && Nat.ble (i * size + c.length) xs.length) with
        | false => rw [hcond] at h; cases h
        | true =>
          rw [hcond] at h
          simp only [cond_true] at h
          obtain ⟨hs, hle⟩ := (Bool.and_eq_true _ _).mp hcond
          rw [ih _ _ h, putAt_length _ _ _ (Nat.le_of_ble_eq_true hle)]
    rw [h1, this _ _ _ hl']
    simp [raws, hzs]
  refine ⟨cs', ?_, hc, hsz⟩
  have hn' : ¬ n * size > 2 ^ 24 := by omega
  rw [hcz] at hf
  simp only [execOp, Instr.buildSlice, Sem.run_bind, run_underlying ht, Result.andThen_ok, hs, hn', if_false, hm, Sem.run_pure]
  by_cases h0 : n * size = 0
  · simp only [h0, if_true] at hf
    simp only [h0, if_true, Sem.run_bind, Sem.run_pure, Result.andThen_ok, hf, newRow, newObj, Sem.run]
    rfl
  · simp only [h0, if_false] at hf
    simp only [h0, if_false, Sem.run_bind, hz, Sem.run_pure, Result.andThen_ok, hf, newRow, newObj, Sem.run]
    rfl
theorem LU.lit {t e : TypeId} {n size : Nat} {ps : Array (Nat × Operand)} {qs : List (Nat × List LV)} {z : Value} {ys : List LV} (ht : P.underlying t = some (.slice e)) (hs : ∀ w, (sizeOf e).run P w = .ok size w) (hz : ∀ w, (zeroValue e).run P w = .ok z w) (hz1 : ∀ (i : Nat) (c : Value), z.cells[i]? = some c → c.oneCell' = true) (hzs : z.cells.size = size) (hs0 : 0 < size) (hn : n * size ≤ 16777216)
    (hp : Parts env ps.toList qs) (hl' : laid (fun i => some (i * size, size)) ((List.replicate n (raws z.cells.toList)).flatten) qs = some ys) : LU P env H ⟨d, .buildSlice t n ps, ty, pos, af, g⟩ (.sl size (chunks size n ys) .full) := .of_run' fun ph a hl w0 w hinv => by
  obtain ⟨cs', hrun, hc, hsz⟩ := lit_run (d := d) (ty := ty) (pos := pos) (af := af) (g := g) ht hs hz hz1 hzs hs0 hn hp hl' hl w
  obtain ⟨hi, hle⟩ := hinv.learn (w' := w.alloc (.cells cs' e)) ((Below.refl _ _).alloc (Nat.le_refl _) _) (heap_new w _) cs'.size (fun i c _ h => hc.2 i c h)
  exact ⟨.slice (some ⟨w.heap.size, 0, none⟩) n n, w.alloc (.cells cs' e), _, hrun, hle, hi, rep_chunks (cs := cs') (fun i hi' => PH.ext_in ⟨Nat.zero_le _, by omega⟩) (hc.mono hle) (by omega) (Nat.le_refl _) rfl⟩
end
end Go.L
