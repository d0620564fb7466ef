/- The logic's rules of conversions, make, calls, closures, nil; what is owned becomes known; regions that draw their order; the way back to the machine's own calls. Plain theorems over any program. -/
import Derived.Test.YtcemodldbfiomaaLogF
set_option linter.unusedVariables false
set_option linter.unusedSimpArgs false
namespace Go.L
open Go.RowKit

section
variable {P : Program} {env : List (Nat × LV)} {H : List Atom} {d : Option Tmp} {ty : TypeId} {pos : String} {af : Array Edge} {g : Option (Nat × Bool)} {st : LS} {K : LS → Prop}

/-! ### conversions -/
theorem foldl_push : ∀ (l : List UInt8) (acc : ByteArray), (l.map fun b => (b.toNat : Int)).foldl (fun (r : ByteArray) (n : Int) => r.push (UInt8.ofNat n.toNat)) acc = ⟨(acc.data.toList ++ l).toArray⟩
  | [], acc => by cases acc; simp
  | b :: l, acc => by
    rw [List.map_cons, List.foldl_cons, foldl_push l]
    have : UInt8.ofNat ((b.toNat : Int)).toNat = b := by simp
    rw [this]
    simp [ByteArray.push]
theorem bytes_cells {w0 : Base} {ph : PH} {w : World} (hinv : Inv w0 ph w H) {A : Option Addr} {n c : Nat} {l : List UInt8} {k : Cap} (r : Rep ph (.slice A n c) (Bytes l k)) : l.length = n ∧ ∀ ad, A = some ad → ∀ j v, (l.map fun b => Value.int .u8 b.toNat)[j]? = some v → w.cell? (ad.add j) = some v := by
  obtain ⟨hs, hn, hnc, hcap⟩ := rep_es r
  obtain ⟨cs, hc, hl, hcell⟩ := sl_cells hinv (by omega) r
  have hcs : cs = l.map fun b => Value.int .u8 b.toNat := by
    rw [byteEls_flat] at hc
    apply List.ext_getElem?
    intro i
    by_cases hi : i < cs.length
    · have h1 := hc.1.1
      simp at h1
      have hil : i < l.length := by omega
      have := hc.1.2 i cs[i] (.raw (.int .u8 l[i].toNat)) (by simp [hi]) (by simp [hil])
      rw [List.getElem?_eq_getElem hi, this.rawE]
      simp [hil]
    · have h1 := hc.1.1
      simp at h1
      rw [List.getElem?_eq_none (by omega), List.getElem?_eq_none (by simp; omega)]
  subst hcs
  exact ⟨by simpa using hl, fun ad hA j v hj => (hcell ad hA j v hj).2⟩
theorem LU.tostr {x : Operand} {src dst e : TypeId} {l : List UInt8} {k : Cap} (hs : P.underlying src = some (.slice e)) (he : P.underlying e = some (.int .u8)) (hd : P.underlying dst = some .string) (hx : Is (ev env x) (Bytes l k)) : LU P env H ⟨d, .convert src dst x, ty, pos, af, g⟩ (Str l) := .of_run fun ph a hl w0 w hinv => by
  have r := hx _ _ (hl x (by simp [Op.operands]))
  obtain ⟨A, n, c, hu⟩ := rep_slice_form r
  rw [hu] at r
  obtain ⟨hn, hcell⟩ := bytes_cells hinv r
  refine ⟨.string ⟨l.toArray⟩, ?_, .raw _⟩
  cases A with
  | none =>
    have h0 : l = [] := by
      cases l with
      | nil => rfl
      | cons b l =>
        cases r with | sl _ _ _ _ _ _ ad u hA hn hnc hs hcap hp hr =>
          have := hA (by simp [byteEls])
          cases this
    subst h0
    simp [execOp, hu, run_convert_bytes_nil w src e hs he n c dst hd]
    rfl
  | some ad =>
    have hload : (loadCells ad n).run P w = .ok ((l.map fun b => (b.toNat : Int)).map (Value.int .u8)).toArray w := by
      have := run_loadCells_list (P := P) w ad (l.map fun b => Value.int .u8 b.toNat) (fun j v h => hcell ad rfl j v h)
      simpa [← hn, List.map_map, Function.comp_def] using this
    simp only [execOp, hu, run_convert_bytes_string w src dst e _ n c hs he hd, run_bytesToString w ad n c _ hload, foldl_push, Sem.run_bind, Result.andThen_ok, Sem.run_pure]
    rfl
theorem LU.tobytes {x : Operand} {src dst e : TypeId} {l : List UInt8} {u : TypeDesc} (hs : P.underlying src = some u) (hd : P.underlying dst = some (.slice e)) (he : P.underlying e = some (.int .u8)) (hx : Is (ev env x) (Str l)) : LU P env H ⟨d, .convert src dst x, ty, pos, af, g⟩ (Bytes l .unk) := .of_run' fun ph a hl w0 w hinv => by
  have h1 := (hx _ _ (hl x (by simp [Op.operands]))).rawE
  have hrun := Lib.run_convert_string_bytes (P := P) w src dst e ⟨l.toArray⟩ hs hd he
  have hb : Below w.heap.size w (Lib.bytesWorld w e ⟨l.toArray⟩) := ⟨rfl, rfl, rfl, by rw [Lib.bytesWorld_size]; omega, fun k hk => Lib.bytesWorld_at_old w e _ k hk⟩
  have hsz : (⟨l.toArray⟩ : ByteArray).size = l.length := by simp [ByteArray.size]
  have hge := grownCap_ge w (⟨l.toArray⟩ : ByteArray).size 0 e
  have hcs : ∀ i, i < l.length → (Lib.bytesCells w e ⟨l.toArray⟩)[i]? = (l.map fun b => Value.int .u8 b.toNat)[i]? := fun i hi => by
    simp [Lib.bytesCells, Array.getElem?_append, hi]
  have hone : ∀ (i : Nat) (c : Value), i < l.length → (Lib.bytesCells w e ⟨l.toArray⟩)[i]? = some c → c.oneCell' = true := fun i c hi hc => by
    rw [hcs i hi] at hc
    simp at hc
    obtain ⟨b, hb, rfl⟩ := hc
    rfl
  obtain ⟨hi, hle⟩ := hinv.learn hb (Lib.bytesWorld_at_new w e ⟨l.toArray⟩) l.length hone
  refine ⟨.slice (some ⟨w.heap.size, 0, none⟩) (⟨l.toArray⟩ : ByteArray).size (grownCap w (⟨l.toArray⟩ : ByteArray).size 0 e), Lib.bytesWorld w e ⟨l.toArray⟩, _, by simp [execOp, h1, hrun], hle, hi, ?_⟩
  have hflat : CReps (PH.ext ph w.heap.size 0 l.length (Lib.bytesCells w e ⟨l.toArray⟩)) (l.map fun b => Value.int .u8 b.toNat).toArray (byteEls l).flatten := by
    rw [byteEls_flat]
    refine ⟨⟨by simp, fun i c x h1 h2 => ?_⟩, fun i c h1 => ?_⟩
    · simp at h1 h2
      obtain ⟨b, hb, rfl⟩ := h1
      obtain ⟨b', hb', rfl⟩ := h2
      rw [hb] at hb'
      injection hb' with hb'
      subst hb'
      exact .raw _
    · simp at h1
      obtain ⟨b, hb, rfl⟩ := h1
      rfl
  rw [hsz] at hge ⊢
  exact rep_known (byteEls_size l) (by simp [byteEls]) (fun i hi' => by
    rw [Nat.mul_one] at hi'
    rw [Nat.zero_add, PH.ext_in ⟨Nat.zero_le _, hi'⟩, hcs i hi']
    simp) hflat hge trivial

/-! ### make -/
/-- make([]T, l, c), T of one cell, written by its owner. -/
theorem LO.make {x y : Operand} {t e : TypeId} {z : Value} {by_ : Nat} {l c : Nat} {d : Tmp} {k1 k2 : IntKind} (hd : Nat.blt d st.n.k = true) (ht : P.underlying t = some (.slice e)) (hel : El P e z 1 by_) (hz : z.cells = #[z]) (hz1 : z.oneCell' = true) (hx : Is (ev st.env x) (.raw (.int k1 l))) (hy : Is (ev st.env y) (.raw (.int k2 c))) (hlc : l ≤ c) (hb : by_ * c ≤ 281474976710656) (hc : c ≤ 281474976710656)
    (h : ∀ b, K ⟨st.n, (d, .raw (.slice (some ⟨b, 0, none⟩) l c)) :: st.env, .cells b e (List.replicate c (.raw z)) :: st.heap⟩) : LO P ⟨some d, .makeSlice t x y, ty, pos, af, g⟩ st K := .of_run hd fun w0 ph a w r => by
  obtain ⟨⟨i, hi, hzz, hsz, hby⟩, hzs, _⟩ := hel
  have h1 := (hx _ _ (r.tmps.eval x)).rawE
  have h2 := (hy _ _ (r.tmps.eval y)).rawE
  have hr := run_make (P := P) w t e i z ht hi hzz k1 k2 (l : Int) (c : Int) (by omega) (by omega) (by
    have h3 : ((i.bytes * c : Nat) : Int) ≤ 281474976710656 := by rw [hby]; omega
    rwa [Int.natCast_mul] at h3) (by omega)
  simp only [Int.toNat_natCast, hsz, hz, Nat.mul_one] at hr
  have hmade : ∀ i, (madeCells #[z] c)[i]? = if i < c then some z else none := fun i => by
    by_cases hi : i < c <;> simp [madeCells, hi, Nat.mod_one]
  refine ⟨_, _, _, ph, _, by simp [execOp, h1, h2, hr], PH.le.refl _, r.inv.block e (cs := madeCells #[z] c) ⟨⟨by simp [size_madeCells], fun i v x hv hx' => ?_⟩, fun i v hv => ?_⟩, .raw _, h _⟩
  · rw [hmade] at hv
    rw [List.getElem?_replicate] at hx'
    split at hv
    · rename_i hlt
      rw [if_pos hlt] at hx'
      injection hv with hv
      injection hx' with hx'
      subst hv
      subst hx'
      exact .raw _
    · cases hv
  · rw [hmade] at hv
    split at hv
    · injection hv with hv
      subst hv
      exact hz1
    · cases hv
/-- make([]T, 0, c): room. -/
theorem LO.make0 {x y : Operand} {t e : TypeId} {z : Value} {size by_ : Nat} {c : Nat} {d : Tmp} {k1 k2 : IntKind} (hd : Nat.blt d st.n.k = true) (ht : P.underlying t = some (.slice e)) (hel : El P e z size by_) (hx : Is (ev st.env x) (.raw (.int k1 0))) (hy : Is (ev st.env y) (.raw (.int k2 c))) (hb : by_ * c ≤ 281474976710656) (hc : c ≤ 281474976710656)
    (h : ∀ b o m, K ⟨st.n, (d, .sl size [] (.tok b o m)) :: st.env, .tail b o m :: st.heap⟩) : LO P ⟨some d, .makeSlice t x y, ty, pos, af, g⟩ st K := .of_run hd fun w0 ph a w r => by
  obtain ⟨⟨i, hi, hzz, hsz, hby⟩, hzs, _⟩ := hel
  have h1 := (hx _ _ (r.tmps.eval x)).rawE
  have h2 := (hy _ _ (r.tmps.eval y)).rawE
  have hr := run_make (P := P) w t e i z ht hi hzz k1 k2 0 (c : Int) (by omega) (by omega) (by
    have h3 : ((i.bytes * c : Nat) : Int) ≤ 281474976710656 := by rw [hby]; omega
    rwa [Int.natCast_mul] at h3) (by omega)
  simp only [Int.toNat_natCast, hsz, Int.toNat_zero] at hr
  obtain ⟨hi', hle⟩ := r.inv.learnTail (w' := w.alloc (.cells (madeCells z.cells (c * size)) e)) ((Below.refl _ _).alloc (Nat.le_refl _) _) (heap_new w _) 0 (c * size) (by simp [size_madeCells]) (fun i v h => by omega)
  refine ⟨_, .slice (some ⟨w.heap.size, 0, none⟩) 0 c, _, _, _, by simp [execOp, h1, h2, hr], hle, hi', ?_, h _ _ _⟩
  exact .sl size [] _ _ 0 c ⟨0, 0, none⟩ (fun _ => undef) (by simp) rfl (Nat.zero_le _) (by simp) (.inr ⟨0, rfl, by simp, by simp⟩) (by simp) (by simp)

/-! ### what is owned becomes known -/
theorem Inv.freeze {w0 : Base} {ph : PH} {w : World} {b : Nat} {t : TypeId} {xs : List LV} (h : Inv w0 ph w (.cells b t xs :: H)) : ∃ cs ph', PH.le ph ph' ∧ Inv w0 ph' w H ∧ CReps ph' cs xs ∧ cs.size = xs.length ∧ ∀ i, i < cs.size → ph' ⟨b, i, none⟩ = cs[i]? := by
  obtain ⟨F, hF, cs, hh, hc⟩ := h.atom
  have hle : PH.le ph (PH.ext ph b 0 cs.size cs) := PH.le_ext fun i _ hi => by
    obtain ⟨_, _, _, F', ⟨F1, F2, h1, h2, h3, h4⟩, hF'⟩ := h
    exact (hF' b i ((h3 b i).2 (.inl ((h1.1 b i).2 rfl)))).2 ⟨b, i, none⟩ rfl rfl
  refine ⟨cs, PH.ext ph b 0 cs.size cs, hle, ?_, hc.mono hle, hc.1.1, fun i hi => PH.ext_in ⟨Nat.zero_le _, hi⟩⟩
  have := Inv.upd (H1 := [.cells b t xs]) (H2 := []) (R := H) (w' := w) h hle (fun G ⟨F1, F2, h1, h2, h3, h4⟩ hn => ⟨Chg.refl _ _, fun _ _ => False, fun _ _ h => h, fun _ _ h => h.elim, fun a u ha => by
    rcases PH.ext_cases ha with ⟨e, h5, h6, h7⟩ | h5
    · refine .inr ⟨⟨?_, hc.2 _ _ h7⟩, fun h => h, .inl ((h3 _ _).2 (.inl ((h1.1 _ _).2 (by rw [e]))))⟩
      rw [e, cell_of_row w b a.off cs t (0, 0) hh]
      exact h7
    · exact .inl h5⟩)
  exact this
/-- A slice of an owned block: from now on by its content. -/
theorem freeze_rep {ph : PH} {b : Nat} {cs : Array Value} {xs : List LV} (hc : CReps ph cs xs) (hp : ∀ i, i < cs.size → ph ⟨b, i, none⟩ = cs[i]?) {off n c size : Nat} {es : List (List LV)} (hs : ∀ e ∈ es, e.length = size) (hn : es.length = n) (hfit : off + n * size ≤ xs.length) (he : es.flatten = (xs.drop off).take (n * size)) (hnc : n ≤ c) : Rep ph (.slice (some ⟨b, off, none⟩) n c) (.sl size es .unk) := by
  have hsz : cs.size = xs.length := hc.1.1
  refine rep_known (cs := cs.extract off (off + n * size)) hs hn (fun i hi => ?_) ?_ hnc trivial
  · rw [hp _ (by omega), Array.getElem?_extract, if_pos (by omega)]
  · rw [he]
    refine ⟨⟨by simp; omega, fun i v x hv hx => ?_⟩, fun i v hv => ?_⟩
    · rw [Array.getElem?_extract] at hv
      rw [List.getElem?_take] at hx
      split at hx
      · rw [List.getElem?_drop] at hx
        split at hv
        · exact hc.1.2 _ v x hv hx
        · cases hv
      · cases hx
    · rw [Array.getElem?_extract] at hv
      split at hv
      · exact hc.2 _ v hv
      · cases hv
theorem LL.freeze {ops : Array Oper} {l : List Oper} {t : Nat} {b : Nat} {te : TypeId} {xs : List LV} {off n c size : Nat} {es : List (List LV)} (k : Nat) (hk : st.heap[k]? = some (.cells b te xs)) (ht : get st.env t = .raw (.slice (some ⟨b, off, none⟩) n c)) (hs : ∀ e ∈ es, e.length = size) (hn : es.length = n) (hfit : off + n * size ≤ xs.length) (he : es.flatten = (xs.drop off).take (n * size)) (hnc : n ≤ c)
    (h : LL P ops l ⟨st.n, (t, .sl size es .unk) :: st.env, st.heap.eraseIdx k⟩ K) : LL P ops l st K := fun w0 ph a w r Q q => by
  have hinv := r.inv.front k
  unfold L.front at hinv
  rw [hk] at hinv
  obtain ⟨cs, ph', hle, hi, hc, hsz, hp⟩ := hinv.freeze
  refine h w0 ph' a w ⟨hi, r.defers, r.size, fun i => ?_⟩ Q fun ph2 st2 a2 w2 hle2 r2 q2 => q ph2 st2 a2 w2 (hle.trans hle2) r2 q2
  by_cases hit : t = i
  · subst hit
    rw [get_same]
    have := r.tmps t
    rw [ht] at this
    rw [this.rawE]
    exact freeze_rep hc hp hs hn hfit he hnc
  · rw [get_other hit]
    exact (r.tmps i).mono hle
theorem LW.freeze {cd : Code} {Q : Exit → LS → Prop} {t : Nat} {b : Nat} {te : TypeId} {xs : List LV} {off n c size : Nat} {es : List (List LV)} (k : Nat) (hk : st.heap[k]? = some (.cells b te xs)) (ht : get st.env t = .raw (.slice (some ⟨b, off, none⟩) n c)) (hs : ∀ e ∈ es, e.length = size) (hn : es.length = n) (hfit : off + n * size ≤ xs.length) (he : es.flatten = (xs.drop off).take (n * size)) (hnc : n ≤ c)
    (h : LW P cd ⟨st.n, (t, .sl size es .unk) :: st.env, st.heap.eraseIdx k⟩ Q) : LW P cd st Q := fun w0 ph a w r Q' q => by
  have hinv := r.inv.front k
  unfold L.front at hinv
  rw [hk] at hinv
  obtain ⟨cs, ph', hle, hi, hc, hsz, hp⟩ := hinv.freeze
  refine h w0 ph' a w ⟨hi, r.defers, r.size, fun i => ?_⟩ Q' fun e ph2 st2 a2 w2 hle2 r2 q2 => q e ph2 st2 a2 w2 (hle.trans hle2) r2 q2
  by_cases hit : t = i
  · subst hit
    rw [get_same]
    have := r.tmps t
    rw [ht] at this
    rw [this.rawE]
    exact freeze_rep hc hp hs hn hfit he hnc
  · rw [get_other hit]
    exact (r.tmps i).mono hle
theorem LW.freezeP {cd : Code} {Q : Exit → LS → Prop} {t : Nat} {b : Nat} {te : TypeId} {xs : List LV} (k : Nat) (hk : st.heap[k]? = some (.cells b te xs)) (ht : get st.env t = .raw (.pointer (some ⟨b, 0, none⟩)))
    (h : LW P cd ⟨st.n, (t, .pin xs) :: st.env, st.heap.eraseIdx k⟩ Q) : LW P cd st Q := fun w0 ph a w r Q' q => by
  have hinv := r.inv.front k
  unfold L.front at hinv
  rw [hk] at hinv
  obtain ⟨cs, ph', hle, hi, hc, hsz, hp⟩ := hinv.freeze
  refine h w0 ph' a w ⟨hi, r.defers, r.size, fun i => ?_⟩ Q' fun e ph2 st2 a2 w2 hle2 r2 q2 => q e ph2 st2 a2 w2 (hle.trans hle2) r2 q2
  by_cases hit : t = i
  · subst hit
    rw [get_same]
    have := r.tmps t
    rw [ht] at this
    rw [this.rawE]
    have hlt : ∀ (j : Nat) (x : LV), xs[j]? = some x → j < cs.size := fun j x hx => by rw [hsz]; exact (List.getElem?_eq_some_iff.1 hx).1
    refine .pin xs _ (fun j => cs.getD j undef) (fun j x hx => ?_) (fun j x hx => ?_)
    · have := hlt j x hx
      rw [add_lit, Nat.zero_add, hp j this]
      simp [this]
    · have h1 := hlt j x hx
      simp only [Array.getD_eq_getD_getElem?, Array.getElem?_eq_getElem h1, Option.getD_some]
      exact hc.1.2 j _ _ (Array.getElem?_eq_getElem h1) hx
  · rw [get_other hit]
    exact (r.tmps i).mono hle

/-! ### nil -/
theorem LU.nilp {op : BinOp} {x y : Operand} {t t' e : TypeId} {A : Option Addr} (ht : P.underlying t = some (.pointer e)) (hop : op = .eql ∨ op = .neq) (hx : Is (ev env x) (.raw (.pointer A))) (hy : Is (ev env y) (.raw (.pointer none))) : LU P env H ⟨d, .binOp op t x y t', ty, pos, af, g⟩ (.raw (.bool (if op = .eql then A.isNone else !A.isNone))) := .raw fun ac hl w => by
  have h1 := hl x (by simp [Op.operands]) _ hx
  have h2 := hl y (by simp [Op.operands]) _ hy
  have he : (Op.equal t (.pointer A) (.pointer none)).run P w = .ok A.isNone w := by
    rw [show Op.equal t (.pointer A) (.pointer none) = Op.equalIn (9999 + 1) t (.pointer A) (.pointer none) from rfl, Op.equalIn]
    rw [Sem.run_bind, run_underlying ht, Result.andThen_ok]
    cases A <;> rfl
  have hg : (eqGuard op t x y (.pointer A) (.pointer none)).run P w = .ok () w := by unfold eqGuard; cases op <;> simp
  rcases hop with rfl | rfl
  · have hb : binOp .eql t (.pointer A) (.pointer none) = (do pure (.bool (← Op.equal t (.pointer A) (.pointer none)))) := by cases A <;> rfl
    simp only [execOp, h1, h2, Sem.run_bind, hg, Result.andThen_ok, hb, he, Sem.run_pure, if_true]
  · have hb : binOp .neq t (.pointer A) (.pointer none) = (do pure (.bool (!(← Op.equal t (.pointer A) (.pointer none))))) := by cases A <;> rfl
    simp only [execOp, h1, h2, Sem.run_bind, hg, Result.andThen_ok, hb, he, Sem.run_pure]
    rfl

/-! ### calls -/
theorem map_arr {α β : Type} (f : α → β) (as : Array α) : as.map f = (as.toList.map f).toArray := by cases as; simp
def Opds (env : List (Nat × LV)) : List Operand → List LV → Prop
  | [], [] => True
  | x :: xs, v :: vs => Is (ev env x) v ∧ Opds env xs vs
  | _, _ => False
theorem Opds.reps {ph : PH} {a : Act} : ∀ {xs : List Operand} {vs : List LV}, Opds env xs vs → (∀ x ∈ xs, Rep ph (a.eval x) (ev env x)) → Reps ph (xs.map a.eval).toArray vs
  | [], [], _, _ => ⟨rfl, by simp⟩
  | x :: xs, v :: vs, ⟨h1, h2⟩, ha => by
    obtain ⟨k1, k2⟩ := Opds.reps h2 (fun y hy => ha y (List.mem_cons_of_mem _ hy))
    refine ⟨by simpa using k1, fun i c y hc hy => ?_⟩
    match i with
    | 0 => simp at hc hy; subst hc; subst hy; exact h1 _ _ (ha x (by simp))
    | i + 1 => simp at hc hy; exact k2 i c y (by simpa using hc) hy
  | [], _ :: _, h, _ => h.elim
  | _ :: _, [], h, _ => h.elim
theorem enters {f : FuncId} {fn : Func} (hf : P.funcs[f]? = some fn) (hname : (fn.name == "runtime.NumGoroutine") = false) (hb : fn.body.isSome = true) (args : Array Value) (w : World) : (callFunc f args).run P w = .ok (.enter f args) w := by
  have hn : ¬ fn.name = "runtime.NumGoroutine" := by simpa using hname
  obtain ⟨c, hc⟩ := Option.isSome_iff_exists.1 hb
  simp [callFunc, hf, hn, hc]
theorem Reps.append {ph : PH} {as bs : Array Value} {xs ys : List LV} (h : Reps ph as xs) (k : Reps ph bs ys) : Reps ph (as ++ bs) (xs ++ ys) := by
  refine ⟨by simp [h.1, k.1], fun i c x hc hx => ?_⟩
  by_cases hi : i < as.size
  · rw [Array.getElem?_append_left hi] at hc
    rw [List.getElem?_append_left (by rw [← h.1]; exact hi)] at hx
    exact h.2 i c x hc hx
  · rw [Array.getElem?_append_right (by omega)] at hc
    rw [List.getElem?_append_right (by rw [← h.1]; omega)] at hx
    exact k.2 (i - as.size) c x hc (by rw [h.1]; exact hx)
theorem reps_raws {ph : PH} (cs : Array Value) : Reps ph cs (raws cs.toList) := ⟨by simp [raws], fun i c x h1 h2 => by
  simp [raws] at h2
  obtain ⟨v, hv, rfl⟩ := h2
  rw [hv] at h1
  injection h1 with h1
  subst h1
  exact .raw _⟩
/-- A call; R: what the caller has beside. -/
theorem LO.call {f : FuncId} {fn : Func} {as : Array Operand} {ts : Array TypeId} {vs : List LV} {Hc R : List Atom} {post : LV → List Atom → Prop} {d : Tmp} (hc : LCalls P f vs Hc post) (hf : P.funcs[f]? = some fn) (hname : (fn.name == "runtime.NumGoroutine") = false) (hb : fn.body.isSome = true) (hd : Nat.blt d st.n.k = true) (hsub : HSub st.heap (Hc ++ R)) (ha : Opds st.env as.toList vs)
    (h : ∀ r H', post r H' → K ⟨st.n, (d, r) :: st.env, H' ++ R⟩) : LO P ⟨some d, .call { callee := .value (.func f), args := as, argTypes := ts }, ty, pos, af, g⟩ st K := fun w0 ph a w r N Q k => by
  have hargs := ha.reps (a := a) (ph := ph) (fun x _ => r.tmps.eval x)
  have hrun : (execOp a.eval ⟨some d, .call { callee := .value (.func f), args := as, argTypes := ts }, ty, pos, af, g⟩).run P w = .ok (.enter f (as.map a.eval)) w := by
    simp [execOp, resolve, Deferred.ofValue, invoke, Act.eval, enters hf hname hb]
  unfold owp
  rw [hrun]
  refine upon_enter ?_
  refine (hc R w0 ph w (as.map a.eval) (hsub.app r.inv) (by rw [map_arr a.eval as]; exact hargs)).mono ?_
  rintro e w' ⟨v, ph', x, H', rfl, hle, hi, hx, hp⟩
  exact k ph' _ _ w' hle (r.put hle hi hd hx) (h x H' hp)
/-- A call of a closure. -/
theorem LO.callV {f : FuncId} {fn : Func} {t : Operand} {as : Array Operand} {ts : Array TypeId} {vs : List LV} {caps : Array Value} {Hc R : List Atom} {post : LV → List Atom → Prop} {d : Tmp} (hc : LCalls P f (vs ++ raws caps.toList) Hc post) (ht : Is (ev st.env t) (.raw (.func (.func f) #[] caps))) (hf : P.funcs[f]? = some fn) (hname : (fn.name == "runtime.NumGoroutine") = false) (hb : fn.body.isSome = true) (hd : Nat.blt d st.n.k = true) (hsub : HSub st.heap (Hc ++ R)) (ha : Opds st.env as.toList vs)
    (h : ∀ r H', post r H' → K ⟨st.n, (d, r) :: st.env, H' ++ R⟩) : LO P ⟨some d, .call { callee := .value t, args := as, argTypes := ts }, ty, pos, af, g⟩ st K := fun w0 ph a w r N Q k => by
  have hargs := ha.reps (a := a) (ph := ph) (fun x _ => r.tmps.eval x)
  have htv := (ht _ _ (r.tmps.eval t)).rawE
  have hrun : (execOp a.eval ⟨some d, .call { callee := .value t, args := as, argTypes := ts }, ty, pos, af, g⟩).run P w = .ok (.enter f (as.map a.eval ++ caps)) w := by
    simp [execOp, resolve, htv, Deferred.ofValue, invoke, enters hf hname hb]
  unfold owp
  rw [hrun]
  refine upon_enter ?_
  refine (hc R w0 ph w (as.map a.eval ++ caps) (hsub.app r.inv) (by rw [map_arr a.eval as]; exact hargs.append (reps_raws caps))).mono ?_
  rintro e w' ⟨v, ph', x, H', rfl, hle, hi, hx, hp⟩
  exact k ph' _ _ w' hle (r.put hle hi hd hx) (h x H' hp)
/-- A call that owns nothing and gives a value that is told. -/
theorem LU.call {f : FuncId} {fn : Func} {as : Array Operand} {ts : Array TypeId} {vs : List LV} {v : LV} (hc : LCalls P f vs [] (fun r H' => r = v ∧ H' = [])) (hf : P.funcs[f]? = some fn) (hname : (fn.name == "runtime.NumGoroutine") = false) (hb : fn.body.isSome = true) (ha : Opds env as.toList vs) :
    LU P env H ⟨d, .call { callee := .value (.func f), args := as, argTypes := ts }, ty, pos, af, g⟩ v := fun w0 ph a w hi hl N Q k => by
  have hargs := ha.reps (a := a) (ph := ph) (fun x hx => hl x (by simp only [Op.operands, Call.operands]; exact Array.mem_append.2 (.inr (by simpa using hx))))
  have hrun : (execOp a.eval ⟨d, .call { callee := .value (.func f), args := as, argTypes := ts }, ty, pos, af, g⟩).run P w = .ok (.enter f (as.map a.eval)) w := by
    simp [execOp, resolve, Deferred.ofValue, invoke, Act.eval, enters hf hname hb]
  unfold owp
  rw [hrun]
  refine upon_enter ?_
  refine (hc H w0 ph w (as.map a.eval) hi (by rw [map_arr a.eval as]; exact hargs)).mono ?_
  rintro e w' ⟨u, ph', x, H', rfl, hle, hi', hx, rfl, rfl⟩
  exact k ph' _ w' hle hi' hx
theorem rawsOf {ph : PH} {a : Act} : ∀ {xs : List Operand} {vs : List Value}, Opds env xs (raws vs) → (∀ x ∈ xs, Rep ph (a.eval x) (ev env x)) → xs.map a.eval = vs
  | [], [], _, _ => rfl
  | x :: xs, v :: vs, ⟨h1, h2⟩, ha => by
    rw [List.map_cons, (h1 _ _ (ha x (by simp))).rawE, rawsOf h2 (fun y hy => ha y (List.mem_cons_of_mem _ hy))]
  | [], _ :: _, h, _ => h.elim
  | _ :: _, [], h, _ => h.elim
theorem LU.closure {f : FuncId} {cs : Array Operand} {vs : List Value} (h : Opds env cs.toList (raws vs)) : LU P env H ⟨d, .makeFunc (.func f) #[] cs, ty, pos, af, g⟩ (.raw (.func (.func f) #[] vs.toArray)) := .of_run fun ph a hl w0 w hi => by
  have := rawsOf (a := a) (ph := ph) h (fun x hx => hl x (by simp only [Op.operands]; exact Array.mem_append.2 (.inr (by simpa using hx))))
  refine ⟨_, ?_, .raw _⟩
  simp only [execOp, Instr.makeFunc, ← this, ← map_arr, Sem.run_bind, Sem.run_pure, Result.andThen_ok]
  simp
end

/-! ### back to the machine -/
/-- All cells of a world are known. -/
def PH.all (w : World) : PH := fun a => match w.cell? a with | some u => if u.oneCell' then some u else none | none => none
theorem PH.all_some {w : World} {a : Addr} {u : Value} : PH.all w a = some u ↔ w.cell? a = some u ∧ u.oneCell' = true := by
  unfold PH.all
  cases h : w.cell? a with
  | none => simp
  | some v =>
    by_cases h1 : v.oneCell' = true
    · simp only [h1, if_true, Option.some.injEq]
      exact ⟨fun h => ⟨h, h ▸ h1⟩, fun h => h.1⟩
    · simp only [h1]
      constructor
      · intro h; cases h
      · rintro ⟨h, h'⟩
        injection h with h
        subst h
        exact (h1 h').elim
theorem Inv.start (w : World) : Inv ⟨w, none⟩ (PH.all w) w [] := ⟨Below.refl _ _, fun a u h => (PH.all_some.1 h).1, fun a u h => (PH.all_some.1 h).2, fun _ _ => False, fun _ _ h => h, fun _ _ h => h.elim⟩
theorem LCalls.run {P : Program} {f : FuncId} {args : List LV} {b : Value} (h : LCalls P f args [] (fun r _ => r = .raw b)) {w : World} {vs : Array Value} (hr : Reps (PH.all w) vs args) : Calls P f vs w fun e w' => e = .returned b ∧ Below w.heap.size w w' :=
  (h [] ⟨w, none⟩ (PH.all w) w vs (Inv.start w) hr).mono fun e w' ⟨v, ph', r, H', he, hle, hi, hv, hp⟩ => by
    subst hp
    exact ⟨by rw [he, hv.rawE], hi.below⟩
end Go.L
