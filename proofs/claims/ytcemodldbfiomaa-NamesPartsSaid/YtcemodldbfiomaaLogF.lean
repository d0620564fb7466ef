/- The logic's rules of append, make, conversions, calls. Plain theorems over any program. -/
import Derived.Test.YtcemodldbfiomaaLogE
set_option linter.unusedVariables false
set_option linter.unusedSimpArgs false
namespace Go.L
open Go.RowKit

section
variable {P : Program} {env : List (Nat × LV)} {H : List Atom} {d : Option Tmp} {ty : TypeId} {pos : String} {af : Array Edge} {g : Option (Nat × Bool)} {st : LS} {K : LS → Prop}

/-! ### append -/
/-- What a type of elements is. -/
structure El (P : Program) (e : TypeId) (z : Value) (size bytes : Nat) : Prop where
  info : ∃ i, P.info? e = some i ∧ i.zero = some z ∧ i.size = size ∧ i.bytes = bytes
  zsize : z.cells.size = size
  pos : 0 < size
theorem El.of {e : TypeId} {z : Value} {size bytes : Nat} (h : (P.info? e).map (fun i => (i.zero, i.size, i.bytes)) = some (some z, size, bytes)) (hz : z.cells.size = size) (hp : Nat.blt 0 size = true) : El P e z size bytes := by
  obtain ⟨i0, hi, hzz⟩ := Option.map_eq_some_iff.1 h
  simp only [Prod.mk.injEq] at hzz
  exact ⟨⟨i0, hi, hzz.1, hzz.2.1, hzz.2.2⟩, hz, by simpa [Nat.blt_eq] using hp⟩
/-- A source of an append: a slice by its content, or a string. -/
def SrcG (P : Program) (A : List Atom) (tx : TypeId) (size : Nat) (x : LV) (ys : List (List LV)) : Prop := (∀ e ∈ ys, e.length = size) ∧
  ∀ w0 ph w H u, (∀ a ∈ A, a ∈ H) → Inv w0 ph w H → Rep ph u x → ∃ news : List Value, Src P size tx u ys.length news w ∧ CReps ph news.toArray ys.flatten
abbrev SrcL (P : Program) (tx : TypeId) (size : Nat) (x : LV) (ys : List (List LV)) : Prop := SrcG P [] tx size x ys
theorem flatten_len {size : Nat} : ∀ {ys : List (List LV)}, (∀ e ∈ ys, e.length = size) → ys.flatten.length = ys.length * size
  | [], _ => by simp
  | y :: ys, h => by
    rw [List.flatten_cons, List.length_append, flatten_len (fun e he => h e (List.mem_cons_of_mem _ he)), h y (by simp), List.length_cons, Nat.succ_mul, Nat.add_comm]
theorem flatten_get {size : Nat} : ∀ {ys : List (List LV)}, (∀ e ∈ ys, e.length = size) → ∀ (i j : Nat) (e : List LV) (x : LV), ys[i]? = some e → e[j]? = some x → ys.flatten[i * size + j]? = some x
  | [], _, i, j, e, x, h, _ => by simp at h
  | y :: ys, hs, 0, j, e, x, h, hj => by
    simp at h
    subst h
    rw [List.flatten_cons, Nat.zero_mul, Nat.zero_add, List.getElem?_append_left (List.getElem?_eq_some_iff.1 hj).1]
    exact hj
  | y :: ys, hs, i + 1, j, e, x, h, hj => by
    rw [List.getElem?_cons_succ] at h
    have hy := hs y (by simp)
    rw [List.flatten_cons, List.getElem?_append_right (by rw [Nat.succ_mul]; omega), hy, show (i + 1) * size + j - size = i * size + j by rw [Nat.succ_mul]; omega]
    exact flatten_get (fun e he => hs e (List.mem_cons_of_mem _ he)) i j e x h hj
theorem flatten_inv {size : Nat} (hs0 : 0 < size) : ∀ {ys : List (List LV)}, (∀ e ∈ ys, e.length = size) → ∀ (k : Nat) (x : LV), ys.flatten[k]? = some x → ∃ e, ys[k / size]? = some e ∧ e[k % size]? = some x
  | [], _, k, x, h => by simp at h
  | y :: ys, hs, k, x, h => by
    have hy := hs y (by simp)
    rw [List.flatten_cons] at h
    by_cases hk : k < size
    · rw [List.getElem?_append_left (by omega)] at h
      exact ⟨y, by rw [Nat.div_eq_of_lt hk]; rfl, by rw [Nat.mod_eq_of_lt hk]; exact h⟩
    · rw [List.getElem?_append_right (by omega), hy] at h
      obtain ⟨e, h1, h2⟩ := flatten_inv hs0 (fun e he => hs e (List.mem_cons_of_mem _ he)) (k - size) x h
      refine ⟨e, ?_, by rw [Nat.mod_eq_sub_mod (by omega)]; exact h2⟩
      rw [Nat.div_eq_sub_div hs0 (by omega), List.getElem?_cons_succ]
      exact h1
/-- The cells of a slice that is known by its content. -/
theorem sl_cells {w0 : Base} {ph : PH} {w : World} (hinv : Inv w0 ph w H) {A : Option Addr} {n c size : Nat} (hs0 : 0 < size) {es : List (List LV)} {k : Cap} (r : Rep ph (.slice A n c) (.sl size es k)) :
    ∃ cs : List Value, CReps ph cs.toArray es.flatten ∧ cs.length = n * size ∧ ∀ ad, A = some ad → ∀ j v, cs[j]? = some v → ph (ad.add j) = some v ∧ w.cell? (ad.add j) = some v := by
  cases r with | sl _ _ _ _ _ _ ad u hA hn hnc hs hcap hp hr =>
    have hfl : es.flatten.length = n * size := by rw [flatten_len hs, hn]
    refine ⟨(List.range (n * size)).map u, ⟨⟨by simp [hfl], fun i v x h1 h2 => ?_⟩, fun i v h1 => ?_⟩, by simp, fun ad' hA' j v hj => ?_⟩
    · simp at h1
      obtain ⟨m, hm, rfl⟩ := h1
      obtain ⟨h3, rfl⟩ := List.getElem?_eq_some_iff.1 hm
      simp only [List.getElem_range]
      obtain ⟨e, h4, h5⟩ := flatten_inv hs0 hs i x h2
      have := hr _ _ _ _ h4 h5
      rwa [Nat.mul_comm, Nat.div_add_mod] at this
    · simp at h1
      obtain ⟨m, hm, rfl⟩ := h1
      obtain ⟨h3, rfl⟩ := List.getElem?_eq_some_iff.1 hm
      simp only [List.getElem_range, List.length_range] at h3 ⊢
      obtain ⟨e, h4, h5⟩ := flatten_inv hs0 hs i es.flatten[i] (List.getElem?_eq_getElem (by omega))
      have := hp _ _ _ _ h4 h5
      rw [Nat.mul_comm, Nat.div_add_mod] at this
      exact hinv.one _ _ this
    · simp at hj
      obtain ⟨m, hm, rfl⟩ := hj
      obtain ⟨h3, rfl⟩ := List.getElem?_eq_some_iff.1 hm
      simp only [List.getElem_range, List.length_range] at h3 ⊢
      have h0 : 0 < es.length := by
        rcases Nat.eq_zero_or_pos n with h | h
        · subst h; simp at h3
        · omega
      have hA2 := hA h0
      rw [hA2] at hA'
      injection hA' with hA'
      subst hA'
      obtain ⟨e, h4, h5⟩ := flatten_inv hs0 hs j es.flatten[j] (List.getElem?_eq_getElem (by omega))
      have := hp _ _ _ _ h4 h5
      rw [Nat.mul_comm, Nat.div_add_mod] at this
      exact ⟨this, hinv.cell _ _ this⟩
theorem SrcL.slice {tx e : TypeId} {size : Nat} {ys : List (List LV)} {k : Cap} (ht : P.underlying tx = some (.slice e)) (hs0 : 0 < size) (hys : ∀ e ∈ ys, e.length = size) : SrcL P tx size (.sl size ys k) ys := ⟨hys, fun w0 ph w H u _ hi r => by
  obtain ⟨A, n, c, rfl, hn, h0⟩ : ∃ A n c, u = .slice A n c ∧ ys.length = n ∧ (A = none → n = 0) := by
    cases r with | sl _ _ _ A n c ad u hA hn hnc hs hcap hp hr =>
      refine ⟨A, n, c, rfl, hn, fun e => ?_⟩
      rcases Nat.eq_zero_or_pos n with h | h
      · exact h
      · have := hA (by omega)
        rw [e] at this
        cases this
  obtain ⟨cs, hc, hl, hcell⟩ := sl_cells hi hs0 r
  subst hn
  refine ⟨cs, ?_, hc⟩
  cases A with
  | none =>
    have hz := h0 rfl
    obtain rfl : cs = [] := List.eq_nil_of_length_eq_zero (by rw [hl, hz]; simp)
    have := Src.ofNil (P := P) w (size := size) ht c
    rwa [← hz] at this
  | some ad => exact Src.ofSlice w ht ad ys.length c cs hl (fun j v h => (hcell ad rfl j v h).2) (fun v hv => by
      obtain ⟨i, hi'⟩ := List.mem_iff_getElem?.1 hv
      exact hc.2 i v (by simpa using hi'))⟩
/-- Bytes, as elements. -/
def byteEls (l : List UInt8) : List (List LV) := l.map fun b => [.raw (.int .u8 b.toNat)]
abbrev Bytes (l : List UInt8) (k : Cap) : LV := .sl 1 (byteEls l) k
abbrev Str (l : List UInt8) : LV := .raw (.string ⟨l.toArray⟩)
theorem byteEls_flat (l : List UInt8) : (byteEls l).flatten = l.map fun b => LV.raw (.int .u8 b.toNat) := by
  unfold byteEls
  induction l with
  | nil => rfl
  | cons a l ih => simp [ih]
theorem byteEls_size (l : List UInt8) : ∀ e ∈ byteEls l, e.length = 1 := fun e he => by
  obtain ⟨b, _, rfl⟩ := List.mem_map.1 he
  rfl
theorem SrcL.string {tx : TypeId} {l : List UInt8} (ht : P.underlying tx = some .string) : SrcL P tx 1 (Str l) (byteEls l) := ⟨byteEls_size l, fun w0 ph w H u _ hi r => by
  cases r.rawE
  refine ⟨byteCells ⟨l.toArray⟩, ?_, ?_⟩
  · have := Src.ofString (P := P) w ht ⟨l.toArray⟩
    simpa [byteEls, ByteArray.size] using this
  · rw [byteEls_flat]
    refine ⟨⟨by simp [byteCells], fun i c x h1 h2 => ?_⟩, fun i c h1 => ?_⟩
    · simp [byteCells] at h1 h2
      obtain ⟨b, hb, rfl⟩ := h1
      obtain ⟨b', hb', rfl⟩ := h2
      rw [hb] at hb'
      injection hb' with hb'
      subst hb'
      exact .raw _
    · simp [byteCells] at h1
      obtain ⟨b, hb, rfl⟩ := h1
      rfl⟩
theorem chunks_flat (size : Nat) : ∀ (ys : List (List LV)) (n : Nat) (r : List LV), ys.length = n → (∀ e ∈ ys, e.length = size) → chunks size n (ys.flatten ++ r) = ys
  | [], n, r, h, _ => by subst h; rfl
  | y :: ys, n, r, h, hs => by
    subst h
    have hy := hs y (by simp)
    simp only [List.length_cons, chunks, List.flatten_cons, List.append_assoc]
    rw [List.take_append_of_le_length (by omega), List.take_of_length_le (by omega), List.drop_append_of_le_length (by omega), List.drop_of_length_le (by omega), List.nil_append, chunks_flat size ys _ r rfl (fun e he => hs e (List.mem_cons_of_mem _ he))]
/-- Known cells, as elements that are told. -/
theorem rep_known {ph : PH} {b off size n c : Nat} {cs : Array Value} {es : List (List LV)} {k : Cap} (hs : ∀ e ∈ es, e.length = size) (hn : es.length = n) (hp : ∀ i, i < n * size → ph ⟨b, off + i, none⟩ = cs[i]?) (hr : CReps ph cs es.flatten) (hnc : n ≤ c) (hcap : CapOk (some ⟨b, off, none⟩) n c size k) : Rep ph (.slice (some ⟨b, off, none⟩) n c) (.sl size es k) := by
  have hfl := flatten_len hs
  have hsz : cs.size = n * size := by rw [hr.1.1, hfl, hn]
  have hlt : ∀ (i : Nat) (e : List LV) (j : Nat) (x : LV), es[i]? = some e → e[j]? = some x → i * size + j < n * size := fun i e j x hi hj => by
    have h1 := (List.getElem?_eq_some_iff.1 hi).1
    have h2 := (List.getElem?_eq_some_iff.1 hj).1
    have h3 := hs e (List.mem_of_getElem? hi)
    have : i * size + size ≤ n * size := by rw [← Nat.succ_mul]; exact Nat.mul_le_mul_right _ (by omega)
    omega
  refine .sl size es k _ n c ⟨b, off, none⟩ (fun i => cs.getD i undef) (fun _ => rfl) hn hnc hs hcap (fun i e j x hi hj => ?_) (fun i e j x hi hj => ?_)
  · have h1 := hlt i e j x hi hj
    rw [add_lit, hp _ h1, Array.getElem?_eq_getElem (by omega)]
    simp [show i * size + j < cs.size by omega]
  · have h1 := hlt i e j x hi hj
    have h2 : i * size + j < cs.size := by omega
    simp only [Array.getD_eq_getD_getElem?, Array.getElem?_eq_getElem h2, Option.getD_some]
    exact hr.1.2 _ _ _ (Array.getElem?_eq_getElem h2) (flatten_get hs i j e x hi hj)
theorem creps_append {ph : PH} {as bs : List Value} {xs ys : List LV} (h : CReps ph as.toArray xs) (k : CReps ph bs.toArray ys) : CReps ph (as ++ bs).toArray (xs ++ ys) := by
  have h1 : as.length = xs.length := by simpa using h.1.1
  have h2 : bs.length = ys.length := by simpa using k.1.1
  refine ⟨⟨by simp [h1, h2], fun i c x hc hx => ?_⟩, fun i c hc => ?_⟩
  · simp only [List.getElem?_toArray] at hc
    by_cases hi : i < as.length
    · rw [List.getElem?_append_left hi] at hc
      rw [List.getElem?_append_left (by omega)] at hx
      exact h.1.2 i c x (by simpa using hc) hx
    · rw [List.getElem?_append_right (by omega)] at hc
      rw [List.getElem?_append_right (by omega)] at hx
      exact k.1.2 (i - as.length) c x (by simpa using hc) (by rw [h1]; exact hx)
  · simp only [List.getElem?_toArray] at hc
    by_cases hi : i < as.length
    · rw [List.getElem?_append_left hi] at hc
      exact h.2 i c (by simpa using hc)
    · rw [List.getElem?_append_right (by omega)] at hc
      exact k.2 (i - as.length) c (by simpa using hc)
theorem size_zeros (z : Array Value) (n : Nat) : (Builtin.zeroCells z n).size = n * z.size := by simp [Builtin.zeroCells]
/-- An append that must make a new row. -/
theorem append_grows {A0 : List Atom} {w0 : Base} {ph : PH} {w : World} (hA0 : ∀ a ∈ A0, a ∈ H) (hinv : Inv w0 ph w H) {t tx ty' e : TypeId} {z : Value} {size by_ : Nat} (ht : P.underlying t = some (.slice e)) (hel : El P e z size by_) {A : Option Addr} {n c : Nat} {es ys : List (List LV)} {k : Cap} {x : Value} {y : LV}
    (hes : ∀ e ∈ es, e.length = size) (hn : es.length = n) (r : Rep ph (.slice A n c) (.sl size es k)) (hs : SrcG P A0 tx size y ys) (ry : Rep ph x y) (hg : c < n + ys.length) (hb : (n + ys.length) * by_ ≤ 140737488355328) (hb0 : n + ys.length ≤ 9223372036854775807) :
    ∃ c' w', (Builtin.append_ #[t, tx] ty' #[.slice A n c, x]).run P w = .ok (.slice (some ⟨w.heap.size, 0, none⟩) (n + ys.length) c') w' ∧ n + ys.length ≤ c' ∧
      ∃ ph', PH.le ph ph' ∧ Inv w0 ph' w' (.tail w.heap.size ((n + ys.length) * size) (c' * size) :: H) ∧ ∀ k', CapOk (some ⟨w.heap.size, 0, none⟩) (n + ys.length) c' size k' → Rep ph' (.slice (some ⟨w.heap.size, 0, none⟩) (n + ys.length) c') (.sl size (es ++ ys) k') := by
  obtain ⟨⟨i, hi, hz, hsz, hby⟩, hzs, hs0⟩ := hel
  obtain ⟨olds, ho, hol, hoc⟩ := sl_cells hinv hs0 r
  obtain ⟨news, hsrc, hnc⟩ := hs.2 w0 ph w H x hA0 hinv ry
  have hnl : news.length = ys.length * size := hsrc.newsLen
  have hold : (Builtin.firstCells i.size n (.slice A n c)).run P w.drew = .ok olds.toArray w.drew := by
    cases A with
    | none =>
      have : n = 0 := by
        cases r with | sl _ _ _ _ _ _ ad u hA hn' hnc' hs' hcap hp hr =>
          rcases Nat.eq_zero_or_pos n with h | h
          · exact h
          · have := hA (by omega)
            cases this
      subst this
      obtain rfl : olds = [] := List.eq_nil_of_length_eq_zero (by rw [hol]; simp)
      exact run_firstCells_none _ _ _ _ _
    | some ad => exact run_firstCells_some _ _ _ _ _ _ _ (by rw [hol, hsz]) (fun j v h => by simpa using (hoc ad rfl j v h).2)
  have hrun := run_append_grow_src (P := P) w t tx ty' e i z ht hi hz A n c olds hold x ys.length news (hsz ▸ hsrc) hg (by omega) (by rw [hby]; exact growslice_fits hg hb)
  have hge := grownCap_ge w (n + ys.length) c e
  refine ⟨_, _, hrun, hge, ?_⟩
  have hcells : ((olds ++ news).toArray ++ Builtin.zeroCells z.cells (grownCap w (n + ys.length) c e - (n + ys.length))).size = grownCap w (n + ys.length) c e * size := by
    simp only [Array.size_append, List.size_toArray, List.length_append, size_zeros, hol, hnl, hzs]
    rw [← Nat.add_mul, ← Nat.add_mul]
    congr 1
    omega
  have hfirst : ∀ i, i < (n + ys.length) * size → ((olds ++ news).toArray ++ Builtin.zeroCells z.cells (grownCap w (n + ys.length) c e - (n + ys.length)))[i]? = (olds ++ news).toArray[i]? := fun i hi => by
    have : i < (olds ++ news).toArray.size := by simp [hol, hnl]; rw [← Nat.add_mul]; exact hi
    rw [Array.getElem?_append_left this]
  have hall := creps_append ho hnc
  obtain ⟨hi', hle⟩ := hinv.learnTail (w' := w.drew.alloc (.cells ((olds ++ news).toArray ++ Builtin.zeroCells z.cells (grownCap w (n + ys.length) c e - (n + ys.length))) e)) ((Below.drew (Below.refl _ _)).alloc (Nat.le_refl _) _) (heap_new w.drew _) ((n + ys.length) * size) (grownCap w (n + ys.length) c e * size) (by rw [hcells]; exact Nat.le_refl _) (fun i v hi hv => by
    rw [hfirst i hi] at hv
    exact hall.2 i v hv)
  refine ⟨_, hle, hi', fun k' hk' => rep_known (cs := (olds ++ news).toArray) (fun e he => (List.mem_append.1 he).elim (hes e) (hs.1 e)) (by simp [hn]) (fun i hi => ?_) (by rw [List.flatten_append]; exact hall.mono hle) hge hk'⟩
  rw [Nat.zero_add, PH.ext_in ⟨Nat.zero_le _, hi⟩, hfirst i hi]
theorem rep_es {ph : PH} {A : Option Addr} {n c size : Nat} {es : List (List LV)} {k : Cap} (r : Rep ph (.slice A n c) (.sl size es k)) : (∀ e ∈ es, e.length = size) ∧ es.length = n ∧ n ≤ c ∧ CapOk A n c size k := by
  cases r with | sl _ _ _ _ _ _ ad u hA hn hnc hs hcap hp hr => exact ⟨hs, hn, hnc, hcap⟩
theorem rep_slice_form {ph : PH} {u : Value} {size : Nat} {es : List (List LV)} {k : Cap} (r : Rep ph u (.sl size es k)) : ∃ A n c, u = .slice A n c := by cases r; exact ⟨_, _, _, rfl⟩
theorem append_nothing {A0 : List Atom} {w0 : Base} {ph : PH} {w : World} (hA0 : ∀ a ∈ A0, a ∈ H) (hinv : Inv w0 ph w H) {t tx ty' e : TypeId} {z : Value} {size by_ : Nat} (ht : P.underlying t = some (.slice e)) (hel : El P e z size by_) {A : Option Addr} {n c : Nat} (hnc : n ≤ c) {x : Value} {y : LV}
    (hs : SrcG P A0 tx size y []) (ry : Rep ph x y) : (Builtin.append_ #[t, tx] ty' #[.slice A n c, x]).run P w = .ok (.slice A n c) w := by
  obtain ⟨⟨i, hi, hz, hsz, hby⟩, hzs, hs0⟩ := hel
  obtain ⟨news, hsrc, hncr⟩ := hs.2 w0 ph w H x hA0 hinv ry
  have := run_append_nothing (P := P) w t tx ty' e i ht hi A n c hnc x (by rw [hsz]; have : news = [] := List.eq_nil_of_length_eq_zero (by rw [hsrc.newsLen]; simp); subst this; exact hsrc)
  simpa using this
/-- append(s, x..) where s has no room: nothing but the value. -/
theorem LU.append {s x : Operand} {t tx e : TypeId} {z : Value} {size by_ : Nat} {es ys : List (List LV)} {y : LV} (ht : P.underlying t = some (.slice e)) (hel : El P e z size by_) (hs : Is (ev env s) (.sl size es .full)) (hx : Is (ev env x) y) (hy : SrcL P tx size y ys) (hb : (es.length + ys.length) * by_ ≤ 140737488355328) (hb0 : es.length + ys.length ≤ 9223372036854775807) :
    LU P env H ⟨d, .call { callee := .builtin .append, args := #[s, x], argTypes := #[t, tx] }, ty, pos, af, g⟩ (.sl size (es ++ ys) .unk) := .of_run' fun ph a hl w0 w hinv => by
  have r := hs _ _ (hl s (by simp [Op.operands, Call.operands]))
  have ry := hx _ _ (hl x (by simp [Op.operands, Call.operands]))
  obtain ⟨A, n, c, hu⟩ := rep_slice_form r
  rw [hu] at r
  obtain ⟨hes, hn, hnc, hcap⟩ := rep_es r
  have hcap : n = c := hcap
  have hrun : ∀ v w', (Builtin.append_ #[t, tx] ty #[.slice A n c, a.eval x]).run P w = .ok v w' → (execOp a.eval ⟨d, .call { callee := .builtin .append, args := #[s, x], argTypes := #[t, tx] }, ty, pos, af, g⟩).run P w = .ok (.value v) w' := fun v w' h => by
    simp [execOp, resolve, invoke, builtin, hu, h]
  by_cases h0 : ys.length = 0
  · obtain rfl := List.eq_nil_of_length_eq_zero h0
    exact ⟨_, w, ph, hrun _ _ (append_nothing (by simp) hinv ht hel hnc hy ry), PH.le.refl _, hinv, by rw [List.append_nil]; exact Is.unk _ _ r⟩
  · obtain ⟨c', w', h1, h2, ph', h3, h4, h5⟩ := append_grows (ty' := ty) (by simp) hinv ht hel hes hn r hy ry (by omega) (by rw [← hn]; exact hb) (by omega)
    exact ⟨_, w', ph', hrun _ _ h1, h3, (HSub.drop (HSub.refl _)).app h4, h5 .unk trivial⟩
theorem Inv.turn' {w0 : Base} {ph ph' : PH} {w w' : World} {H : List Atom} {a a' : Atom} (h : Inv w0 ph w (a :: H)) (hle : PH.le ph ph')
    (hs : ∀ F, a.at ph w F → (∀ b o, F b o → ∀ a : Addr, a.block = b → a.off = o → ph a = none) → Chg w w' F ∧ ∃ G, a'.at ph' w' G ∧ (∀ b o, G b o → F b o ∨ w.heap.size ≤ b) ∧
        ∀ p u, ph' p = some u → ph p = some u ∨ ((w'.cell? p = some u ∧ u.oneCell' = true) ∧ ¬ G p.block p.off ∧ (F p.block p.off ∨ w.heap.size ≤ p.block))) : Inv w0 ph' w' (a' :: H) := h.turn hle hs
theorem setCells_cell {b : Nat} : ∀ (vs : List Value) (o : Nat) (w : World), (∀ j, j < vs.length → (w.cell? ⟨b, o + j, none⟩).isSome = true) → ∀ i, (w.setCells b o vs).cell? ⟨b, i, none⟩ = (if o ≤ i ∧ i < o + vs.length then vs[i - o]? else w.cell? ⟨b, i, none⟩) ∧ (w.setCells b o vs).frozen? ⟨b, i, none⟩ = w.frozen? ⟨b, i, none⟩
  | [], o, w, _, i => by
    have : ¬ (o ≤ i ∧ i < o + ([] : List Value).length) := by simp only [List.length_nil]; omega
    rw [if_neg this]
    exact ⟨rfl, rfl⟩
  | v :: vs, o, w, h, i => by
    have hc : ∀ j, (w.setCell ⟨b, o, none⟩ v).cell? ⟨b, j, none⟩ = if j = o then some v else w.cell? ⟨b, j, none⟩ := fun j => by
      have h0 := h 0 (by simp)
      rw [Nat.add_zero] at h0
      unfold World.cell? at h0 ⊢
      simp only [World.setCell, Array.getElem?_modify]
      simp only [if_true]
      cases hh : w.heap[b]? with
      | none => rw [hh] at h0; simp at h0
      | some ob =>
        rw [hh] at h0
        cases ob <;> simp at h0 ⊢
        rename_i cs t fr
        by_cases hj : j = o
        · subst hj
          simp [h0]
        · simp [hj, Array.getElem?_setIfInBounds_ne (Ne.symm hj)]
    have hf : ∀ j, (w.setCell ⟨b, o, none⟩ v).frozen? ⟨b, j, none⟩ = w.frozen? ⟨b, j, none⟩ := fun j => by
      unfold World.frozen?
      simp only [World.setCell, Array.getElem?_modify]
      simp only [if_true]
      cases hh : w.heap[b]? with
      | none => rfl
      | some ob => cases ob <;> simp
    rw [World.setCells]
    obtain ⟨h1, h2⟩ := setCells_cell vs (o + 1) (w.setCell ⟨b, o, none⟩ v) (fun j hj => by
      rw [hc]
      split
      · rfl
      · have := h (j + 1) (by simp; omega)
        rwa [show o + (j + 1) = o + 1 + j by omega] at this) i
    refine ⟨?_, h2.trans (hf i)⟩
    rw [h1, hc]
    simp only [List.length_cons]
    by_cases hi : i = o
    · subst hi
      rw [if_neg (by omega), if_pos rfl, if_pos (by omega), Nat.sub_self]
      rfl
    · by_cases hi2 : o + 1 ≤ i ∧ i < o + 1 + vs.length
      · rw [if_pos hi2, if_pos (by omega)]
        obtain ⟨m, rfl⟩ : ∃ m, i = o + 1 + m := ⟨i - (o + 1), by omega⟩
        rw [show o + 1 + m - (o + 1) = m by omega, show o + 1 + m - o = m + 1 by omega, List.getElem?_cons_succ]
      · rw [if_neg hi2, if_neg hi, if_neg (by omega)]
/-- append(s, x..) where the room behind s is one's own. -/
theorem LO.appendG {A0 : List Atom} (hA0 : ∀ a ∈ A0, a ∈ st.heap) {s x : Operand} {t tx e : TypeId} {z : Value} {size by_ : Nat} {es ys : List (List LV)} {y : LV} {d : Tmp} {b o c : Nat} (k : Nat) (hk : st.heap[k]? = some (.tail b o c)) (hd : Nat.blt d st.n.k = true) (ht : P.underlying t = some (.slice e)) (hel : El P e z size by_) (hs : Is (ev st.env s) (.sl size es (.tok b o c))) (hx : Is (ev st.env x) y) (hy : SrcG P A0 tx size y ys) (hb : (es.length + ys.length) * by_ ≤ 140737488355328) (hb0 : es.length + ys.length ≤ 9223372036854775807)
    (h : ∀ b' o' c', K ⟨st.n, (d, .sl size (es ++ ys) (.tok b' o' c')) :: st.env, .tail b' o' c' :: st.heap.eraseIdx k⟩) :
    LO P ⟨some d, .call { callee := .builtin .append, args := #[s, x], argTypes := #[t, tx] }, ty, pos, af, g⟩ st K := .of_run hd fun w0 ph a w rl => by
  have r := hs _ _ (rl.tmps.eval s)
  have ry := hx _ _ (rl.tmps.eval x)
  obtain ⟨A, n, cp, hu⟩ := rep_slice_form r
  rw [hu] at r
  obtain ⟨hes, hn, hnc, hcap⟩ := rep_es r
  have hinv := rl.inv.front k
  have hA1 : ∀ a ∈ A0, a ∈ L.front k st.heap := fun a ha => (front_perm k st.heap).mem_iff.1 (hA0 a ha)
  unfold L.front at hinv hA1
  rw [hk] at hinv hA1
  have hrun : ∀ v w', (Builtin.append_ #[t, tx] ty #[.slice A n cp, a.eval x]).run P w = .ok v w' → (execOp a.eval ⟨some d, .call { callee := .builtin .append, args := #[s, x], argTypes := #[t, tx] }, ty, pos, af, g⟩).run P w = .ok (.value v) w' := fun v w' h => by
    simp [execOp, resolve, invoke, builtin, hu, h]
  by_cases hg : cp < n + ys.length
  · obtain ⟨c', w', h1, h2, ph', h3, h4, h5⟩ := append_grows (ty' := ty) hA1 hinv ht hel hes hn r hy ry hg (by rw [← hn]; exact hb) (by omega)
    refine ⟨_, _, w', ph', _, hrun _ _ h1, h3, ?_, h5 (.tok w.heap.size ((n + ys.length) * size) (c' * size)) (.inr ⟨0, rfl, by simp, by simp⟩), h _ _ _⟩
    have := (h4.front 1)
    exact (HSub.drop (HSub.refl _)).app this
  · by_cases h0 : ys.length = 0
    · obtain rfl := List.eq_nil_of_length_eq_zero h0
      exact ⟨_, _, w, ph, _, hrun _ _ (append_nothing hA0 rl.inv ht hel hnc hy ry), PH.le.refl _, hinv, by rw [List.append_nil]; exact r, h b o c⟩
    · have hs0 := hel.pos
      rcases hcap with ⟨e1, e2⟩ | ⟨off, hA, e1, e2⟩
      · omega
      · obtain ⟨⟨i, hi, hz, hsz, hby⟩, hzs, _⟩ := hel
        obtain ⟨olds, ho, hol, hoc⟩ := sl_cells hinv hs0 r
        obtain ⟨news, hsrc, hncr⟩ := hy.2 w0 ph w _ _ hA0 rl.inv ry
        have hnl : news.length = ys.length * size := hsrc.newsLen
        obtain ⟨F, hF, htail⟩ := hinv.atom
        have hroom : ∀ j, j < news.length → o ≤ o + j ∧ o + j < c := fun j hj => by
          have : n * size + ys.length * size ≤ cp * size := by rw [← Nat.add_mul]; exact Nat.mul_le_mul_right _ (by omega)
          omega
        have hthere : ∀ j, j < news.length → (w.cell? ⟨b, o + j, none⟩).isSome = true := fun j hj => by
          obtain ⟨⟨u, hu⟩, _⟩ := htail (o + j) (hroom j hj).1 (hroom j hj).2
          rw [hu]; rfl
        have hr := run_append_room_src (P := P) w t tx ty e i ht hi b off n cp (a.eval x) ys.length news (hsz ▸ hsrc) (by omega) (fun j hj => by rw [hsz, e1]; exact hthere j hj) (fun j hj => by rw [hsz, e1]; exact (htail (o + j) (hroom j hj).1 (hroom j hj).2).2)
        rw [hsz, e1] at hr
        subst hA
        have hcell := setCells_cell (b := b) news o w hthere
        have hle : PH.le ph (PH.ext ph b o (o + news.length) (Array.replicate o undef ++ news.toArray)) := PH.le_ext fun j hj1 hj2 => by
          obtain ⟨_, _, _, F', ⟨F1, F2, h1, h2, h3, h4⟩, hF'⟩ := hinv
          exact (hF' b j ((h3 b j).2 (.inl ((h1.1 b j).2 ⟨rfl, hj1, by have := (hroom (j - o) (by omega)).2; omega⟩)))).2 ⟨b, j, none⟩ rfl rfl
        have hget : ∀ j, j < news.length → (Array.replicate o undef ++ news.toArray)[o + j]? = news[j]? := fun j hj => by
          rw [Array.getElem?_append_right (by simp)]
          simp
        have hinv' : Inv w0 (PH.ext ph b o (o + news.length) (Array.replicate o undef ++ news.toArray)) (w.setCells b o news) (.tail b (o + news.length) c :: st.heap.eraseIdx k) := by
          refine hinv.turn (a' := .tail b (o + news.length) c) hle (fun G hG hn' => ⟨?_, fun b' o' => b' = b ∧ o + news.length ≤ o' ∧ o' < c, ⟨fun _ _ => Iff.rfl, fun j hj1 hj2 => ?_⟩, fun b' o' hg' => .inl ((hG.1 b' o').2 ⟨hg'.1, by omega, hg'.2.2⟩), fun p u hp => ?_⟩)
          · refine ⟨(chg_setCells (b := b) (o := o) news w).os, (chg_setCells (b := b) (o := o) news w).tape, (chg_setCells (b := b) (o := o) news w).output, (chg_setCells (b := b) (o := o) news w).size, fun b' hb' hn2 => ?_, fun b' o' hb' hn2 => ?_⟩
            · by_cases hbb : b' = b
              · subst hbb
                exact ((hn2 o) ((hG.1 b' o).2 ⟨rfl, Nat.le_refl _, by have := (hroom 0 (by rw [hnl]; exact Nat.mul_pos (by omega) hs0)).2; omega⟩)).elim
              · exact (chg_setCells (b := b) (o := o) news w).block b' hb' (fun _ => hbb)
            · by_cases hbb : b' = b
              · subst hbb
                refine ⟨?_, (hcell o').2⟩
                rw [(hcell o').1, if_neg]
                intro hin
                exact hn2 ((hG.1 b' o').2 ⟨rfl, hin.1, by have := (hroom (o' - o) (by omega)).2; omega⟩)
              · exact (chg_setCells (b := b) (o := o) news w).cell b' o' hb' hbb
          · obtain ⟨⟨u, hu⟩, hfz⟩ := htail j (by omega) hj2
            refine ⟨⟨u, ?_⟩, by rw [(hcell j).2]; exact hfz⟩
            rw [(hcell j).1, if_neg (by omega)]
            exact hu
          · rcases PH.ext_cases hp with ⟨e3, h1, h2, h3⟩ | h3
            · refine .inr ⟨⟨?_, ?_⟩, fun hg' => by omega, .inl ((hG.1 _ _).2 ⟨by rw [e3], h1, by have := (hroom (p.off - o) (by omega)).2; omega⟩)⟩
              · rw [e3, (hcell p.off).1, if_pos ⟨h1, h2⟩, ← h3]
                have := hget (p.off - o) (by omega)
                rw [show o + (p.off - o) = p.off by omega] at this
                exact this.symm
              · have := hget (p.off - o) (by omega)
                rw [show o + (p.off - o) = p.off by omega, h3] at this
                exact hncr.2 (p.off - o) u (by simpa using this.symm)
            · exact .inl h3
        refine ⟨_, _, w.setCells b o news, _, _, hrun _ _ hr, hle, hinv', ?_, h b (o + news.length) c⟩
        refine rep_known (cs := (olds ++ news).toArray) (fun e he => (List.mem_append.1 he).elim (hes e) (hy.1 e)) (by simp [hn]) (fun j hj => ?_) (by rw [List.flatten_append]; exact (creps_append ho hncr).mono hle) (by omega) (.inr ⟨off, rfl, ?_, e2⟩)
        · by_cases hjo : j < n * size
          · have hlt : j < olds.length := by omega
            have := (hoc _ rfl j olds[j] (List.getElem?_eq_getElem hlt)).1
            rw [add_lit] at this
            rw [hle _ _ this, List.getElem?_toArray, List.getElem?_append_left hlt, List.getElem?_eq_getElem hlt]
          · have : j - n * size < news.length := by rw [Nat.add_mul] at hj; omega
            obtain ⟨m, rfl⟩ : ∃ m, j = n * size + m := ⟨j - n * size, by omega⟩
            rw [show off + (n * size + m) = o + m by omega, PH.ext_in ⟨by omega, by omega⟩, hget m (by omega), List.getElem?_toArray, List.getElem?_append_right (by omega), hol, show n * size + m - n * size = m by omega]
        · rw [Nat.add_mul, ← Nat.add_assoc, e1, hnl]
theorem LO.append {s x : Operand} {t tx e : TypeId} {z : Value} {size by_ : Nat} {es ys : List (List LV)} {y : LV} {d : Tmp} {b o c : Nat} (k : Nat) (hk : st.heap[k]? = some (.tail b o c)) (hd : Nat.blt d st.n.k = true) (ht : P.underlying t = some (.slice e)) (hel : El P e z size by_) (hs : Is (ev st.env s) (.sl size es (.tok b o c))) (hx : Is (ev st.env x) y) (hy : SrcL P tx size y ys) (hb : (es.length + ys.length) * by_ ≤ 140737488355328) (hb0 : es.length + ys.length ≤ 9223372036854775807)
    (h : ∀ b' o' c', K ⟨st.n, (d, .sl size (es ++ ys) (.tok b' o' c')) :: st.env, .tail b' o' c' :: st.heap.eraseIdx k⟩) :
    LO P ⟨some d, .call { callee := .builtin .append, args := #[s, x], argTypes := #[t, tx] }, ty, pos, af, g⟩ st K := LO.appendG (A0 := []) (by simp) k hk hd ht hel hs hx hy hb hb0 h
end
end Go.L
