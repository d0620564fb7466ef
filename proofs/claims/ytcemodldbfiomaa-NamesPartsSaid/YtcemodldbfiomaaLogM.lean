/- A literal's row of its own; []byte of a constant. Plain theorems over any program. -/
import Derived.Test.YtcemodldbfiomaaLogK
import Derived.Lib.SlBytesConst
set_option linter.unusedVariables false
set_option linter.unusedSimpArgs false
namespace Go.L
open Go.RowKit
section
variable {P : Program} {st : LS} {K : LS → Prop} {ty : TypeId} {pos : String} {af : Array Edge} {g : Option (Nat × Bool)} {d : Nat}
theorem LO.litO {t e : TypeId} {n size : Nat} {ps : Array (Nat × Operand)} {qs : List (Nat × List LV)} {z : Value} {ys : List LV} (hd : Nat.blt d st.n.k = true) (ht : P.underlying t = some (.slice e)) (hs : ∀ w, (sizeOf e).run P w = .ok size w) (hz : ∀ w, (zeroValue e).run P w = .ok z w) (hz1 : ∀ (i : Nat) (c : Value), z.cells[i]? = some c → c.oneCell' = true) (hzs : z.cells.size = size) (hs0 : 0 < size) (hn : n * size ≤ 16777216)
    (hp : Parts st.env ps.toList qs) (hl' : laid (fun i => some (i * size, size)) ((List.replicate n (raws z.cells.toList)).flatten) qs = some ys)
    (h : ∀ b, K ⟨st.n, (d, .raw (.slice (some ⟨b, 0, none⟩) n n)) :: st.env, .cells b e ys :: st.heap⟩) : LO P ⟨some d, .buildSlice t n ps, ty, pos, af, g⟩ st K := .of_run hd fun w0 ph a w r => by
  obtain ⟨cs', hrun, hc, hsz⟩ := lit_run (d := some d) (ty := ty) (pos := pos) (af := af) (g := g) ht hs hz hz1 hzs hs0 hn hp hl' (fun x _ => r.tmps.eval x) w
  exact ⟨_, _, _, ph, _, hrun, PH.le.refl _, r.inv.block e hc, .raw _, h _⟩
theorem shape_row {w : World} {b : Nat} {cs : Array Value} {te : TypeId} (h : w.heap[b]? = some (.cells cs te (0, 0))) : w.shape? b = some (te, cs.size) := by
  unfold World.shape?
  rw [h]
theorem run_mark {w : World} {t e te : TypeId} {b n c : Nat} {cs : Array Value} (ht : P.underlying t = some (.slice e)) (he : P.underlying e = some (.int .u8)) (h : w.heap[b]? = some (.cells cs te (0, 0))) :
    (convert t t (.slice (some ⟨b, 0, none⟩) n c)).run P w = .ok (.slice (some ⟨b, 0, none⟩) n c) (w.freeze ⟨b, cs.size, none⟩ 1) := by
  simp [convert, run_underlying ht, run_underlying he, markStringish, shape_row h]
theorem freeze_at {w : World} {b k : Nat} {cs : Array Value} {te : TypeId} (h : w.heap[b]? = some (.cells cs te (0, 0))) : (w.freeze ⟨b, k, none⟩ 1).heap[b]? = some (.cells cs te (k, k + 1)) := by
  unfold World.freeze
  rw [if_neg (by decide)]
  simp [Array.getElem?_modify, h]
theorem freeze_other {w : World} {b k j : Nat} (h : j ≠ b) : (w.freeze ⟨b, k, none⟩ 1).heap[j]? = w.heap[j]? := by
  unfold World.freeze
  rw [if_neg (by decide)]
  simp [Array.getElem?_modify, Ne.symm h]
theorem freeze_size {w : World} {b k : Nat} : (w.freeze ⟨b, k, none⟩ 1).heap.size = w.heap.size := by
  unfold World.freeze
  rw [if_neg (by decide)]
  simp
theorem Inv.mark {H : List Atom} {w0 : Base} {ph : PH} {w : World} {b : Nat} {t : TypeId} {xs : List LV} (h : Inv w0 ph w (.cells b t xs :: H)) : ∃ cs ph', w.heap[b]? = some (.cells cs t (0, 0)) ∧ PH.le ph ph' ∧ Inv w0 ph' (w.freeze ⟨b, cs.size, none⟩ 1) H ∧ CReps ph' cs xs ∧ cs.size = xs.length ∧ ∀ i, i < cs.size → ph' ⟨b, i, none⟩ = cs[i]? := by
  obtain ⟨F, hF, cs, hh, hc⟩ := h.atom
  have hle : PH.le ph (PH.ext ph b 0 cs.size cs) := PH.le_ext fun i _ hi => by
    obtain ⟨_, _, _, F', ⟨F1, F2, h1, h2, h3, h4⟩, hF'⟩ := h
    exact (hF' b i ((h3 b i).2 (.inl ((h1.1 b i).2 rfl)))).2 ⟨b, i, none⟩ rfl rfl
  refine ⟨cs, PH.ext ph b 0 cs.size cs, hh, hle, ?_, hc.mono hle, hc.1.1, fun i hi => PH.ext_in ⟨Nat.zero_le _, hi⟩⟩
  have := Inv.upd (H1 := [.cells b t xs]) (H2 := []) (R := H) (w' := w.freeze ⟨b, cs.size, none⟩ 1) h hle (fun G ⟨F1, F2, h1, h2, h3, h4⟩ hn => ⟨Chg.blocks rfl rfl rfl (by rw [freeze_size]; exact Nat.le_refl _) (fun b' => b' = b) (fun b' hb o => (h3 b' o).2 (.inl ((h1.1 b' o).2 hb))) (fun b' _ hb => freeze_other hb), fun _ _ => False, fun _ _ h => h, fun _ _ h => h.elim, fun a u ha => by
    rcases PH.ext_cases ha with ⟨e, h5, h6, h7⟩ | h5
    · refine .inr ⟨⟨?_, hc.2 _ _ h7⟩, fun h => h, .inl ((h3 _ _).2 (.inl ((h1.1 _ _).2 (by rw [e]))))⟩
      rw [e, cell_of_row _ b a.off cs t _ (freeze_at hh)]
      exact h7
    · exact .inl h5⟩)
  exact this
/-- []byte of a constant: the literal's row, from now on by its content. -/
theorem LO.mark {x : Operand} {t e te : TypeId} {b n c size : Nat} {xs : List LV} {es : List (List LV)} (k : Nat) (hk : st.heap[k]? = some (.cells b te xs)) (hd : Nat.blt d st.n.k = true) (ht : P.underlying t = some (.slice e)) (he : P.underlying e = some (.int .u8)) (hx : Is (ev st.env x) (.raw (.slice (some ⟨b, 0, none⟩) n c))) (hs : ∀ e ∈ es, e.length = size) (hn : es.length = n) (hfit : n * size ≤ xs.length) (hes : es.flatten = xs.take (n * size)) (hnc : n ≤ c)
    (h : K ⟨st.n, (d, .sl size es .unk) :: st.env, st.heap.eraseIdx k⟩) : LO P ⟨some d, .convert t t x, ty, pos, af, g⟩ st K := .of_run hd fun w0 ph a w r => by
  have hinv := r.inv.front k
  unfold L.front at hinv
  rw [hk] at hinv
  obtain ⟨cs, ph', hh, hle, hi, hc, hsz, hp⟩ := hinv.mark
  have h1 := (hx _ _ (r.tmps.eval x)).rawE
  exact ⟨_, .slice (some ⟨b, 0, none⟩) n c, _, ph', _, by simp [execOp, h1, run_mark ht he hh], hle, hi, freeze_rep (off := 0) hc hp hs hn (by omega) (by simpa using hes) hnc, h⟩
theorem X.litO {t e : TypeId} {m size : Nat} {nn : NN} {env : List (Nat × LV)} {H : List Atom} {ps : Array (Nat × Operand)} {es : List (List LV)} {z : Value} (hd : Nat.blt d nn.k = true) (ht : P.underlying t = some (.slice e)) (hs : ∀ w, (sizeOf e).run P w = .ok size w) (hz : ∀ w, (zeroValue e).run P w = .ok z w) (hz1 : ∀ (i : Nat) (c : Value), z.cells[i]? = some c → c.oneCell' = true) (hzs : z.cells.size = size) (hs0 : 0 < size) (hn : m * size ≤ 16777216)
    (hp : Elems env 0 ps.toList es) (hes : ∀ e ∈ es, e.length = size) (hen : es.length = m)
    (h : ∀ b, K ⟨nn, (d, .raw (.slice (some ⟨b, 0, none⟩) m m)) :: env, .cells b e es.flatten :: H⟩) : LO P ⟨some d, .buildSlice t m ps, ty, pos, af, g⟩ ⟨nn, env, H⟩ K := by
  have hzl : ((List.replicate m (raws z.cells.toList)).flatten).length = m * size := by simp [raws, hzs]
  obtain ⟨qs, h1, h2⟩ := Elems.laid (pre := []) (rest := (List.replicate m (raws z.cells.toList)).flatten) hp hes (by simp) (by rw [hzl, hen])
  refine LO.litO (st := ⟨nn, env, H⟩) hd ht hs hz hz1 hzs hs0 hn h1 h2 fun b => ?_
  exact h b
theorem X.mark {x : Operand} {t e te : TypeId} {b n c size : Nat} {nn : NN} {env : List (Nat × LV)} {H : List Atom} {es : List (List LV)} (k : Nat) (hk : H[k]? = some (.cells b te es.flatten)) (hd : Nat.blt d nn.k = true) (ht : P.underlying t = some (.slice e)) (he : P.underlying e = some (.int .u8)) (hx : Is (ev env x) (.raw (.slice (some ⟨b, 0, none⟩) n c))) (hs : ∀ e ∈ es, e.length = size) (hn : es.length = n) (hnc : n ≤ c)
    (h : K ⟨nn, (d, .sl size es .unk) :: env, H.eraseIdx k⟩) : LO P ⟨some d, .convert t t x, ty, pos, af, g⟩ ⟨nn, env, H⟩ K := by
  have hl := flatten_len hs
  exact LO.mark (st := ⟨nn, env, H⟩) k hk hd ht he hx hs hn (by rw [hl, hn]; exact Nat.le_refl _) (by rw [List.take_of_length_le (by rw [hl, hn]; exact Nat.le_refl _)]) hnc h
end
end Go.L
