/- copy into owned cells; []byte(s) whose room is owned; an owned array, sliced. Plain theorems over any program. -/
import Derived.Test.YtcemodldbfiomaaLogQ
import Derived.Laws.CopyRow
set_option linter.unusedVariables false
set_option linter.unusedSimpArgs false
namespace Go.L
open Go.RowKit
section
variable {P : Program} {st : LS} {env : List (Nat × LV)} {H : List Atom} {K : LS → Prop} {ty : TypeId} {pos : String} {af : Array Edge} {g : Option (Nat × Bool)}
theorem LU.sliceOA {d : Option Tmp} {x : Operand} {t e : TypeId} {n b off size : Nat} (ht : P.underlying t = some (.array n e)) (hs : ∀ w, (sizeOf e).run P w = .ok size w) (hx : Is (ev env x) (.raw (.pointer (some ⟨b, off, none⟩)))) :
    LU P env H ⟨d, .slice t x none none none, ty, pos, af, g⟩ (.raw (.slice (some ⟨b, off, none⟩) n n)) := .raw fun ac hl w => by
  have h1 := hl x (by simp [Op.operands]) _ hx
  have hal : P.arrayLen t = n := by simp [Program.arrayLen, ht]
  have hel : P.elem t = e := by simp [Program.elem, ht]
  have := run_sliceAt_array_all (P := P) w t ⟨b, off, none⟩ (by rw [hal, hel]; exact ht)
  simp only [execOp, Option.map_none, h1, Sem.run_bind, this, hel, hs, Result.andThen_ok, hal, slicedAt, Sem.run_pure]
  have e0 : (if n = 0 then (⟨b, off, none⟩ : Addr) else (⟨b, off, none⟩ : Addr).add (0 * size)) = ⟨b, off, none⟩ := by split <;> simp [add_lit]
  rw [e0]
  simp
theorem Inv.learnTailF {w0 : Base} {ph : PH} {w w' : World} (h : Inv w0 ph w H) (hb : Below w.heap.size w w') {cs : Array Value} {t : TypeId} {fr : Nat × Nat} (hh : w'.heap[w.heap.size]? = some (.cells cs t fr)) (n c : Nat) (hc : c ≤ cs.size) (hfr : c ≤ fr.1) (h1 : ∀ (i : Nat) (c : Value), i < n → cs[i]? = some c → c.oneCell' = true) :
    Inv w0 (PH.ext ph w.heap.size 0 n cs) w' (.tail w.heap.size n c :: H) ∧ PH.le ph (PH.ext ph w.heap.size 0 n cs) := by
  have hle : PH.le ph (PH.ext ph w.heap.size 0 n cs) := PH.le_ext fun i _ _ => h.none_new (Nat.le_refl _)
  refine ⟨Inv.upd (H1 := []) (H2 := [.tail w.heap.size n c]) (R := H) h hle (fun F hF _ => ⟨Chg.below hb _, fun b o => b = w.heap.size ∧ n ≤ o ∧ o < c, ⟨_, fun _ _ => False, ⟨fun _ _ => Iff.rfl, fun i hi hj => ?_⟩, fun _ _ h => h, fun b o => by simp, fun _ _ _ h => h⟩, fun b o hg => .inr (by omega), fun a u ha => ?_⟩), hle⟩
  · have hlt : i < cs.size := by omega
    refine ⟨⟨cs[i], ?_⟩, ?_⟩
    · rw [cell_of_row w' w.heap.size i cs t fr hh, Array.getElem?_eq_getElem hlt]
    · obtain ⟨lo, hi2⟩ := fr
      simp only [World.frozen?, hh]
      simp
      intro h2
      simp only at hfr
      omega
  · rcases PH.ext_cases ha with ⟨e, _, h3, h4⟩ | h3
    · refine .inr ⟨⟨?_, h1 _ _ h3 h4⟩, fun hg => by omega, .inr (by rw [e]; exact Nat.le_refl _)⟩
      rw [e, cell_of_row w' w.heap.size a.off cs t fr hh]
      exact h4
    · exact .inl h3
theorem LO.tobytes {x : Operand} {src dst e : TypeId} {l : List UInt8} {u : TypeDesc} {d : Tmp} (hds : Nat.blt d st.n.k = true) (hs : P.underlying src = some u) (hd : P.underlying dst = some (.slice e)) (he : P.underlying e = some (.int .u8)) (hx : Is (ev st.env x) (Str l))
    (h : ∀ b o c, K ⟨st.n, (d, Bytes l (.tok b o c)) :: st.env, .tail b o c :: st.heap⟩) : LO P ⟨some d, .convert src dst x, ty, pos, af, g⟩ st K := .of_run hds fun w0 ph a w r => by
  have h1 := (hx _ _ (r.tmps.eval x)).rawE
  have hrun := Lib.run_convert_string_bytes (P := P) w src dst e ⟨l.toArray⟩ hs hd he
  have hb : Below w.heap.size w (Lib.bytesWorld w e ⟨l.toArray⟩) := ⟨rfl, rfl, rfl, by rw [Lib.bytesWorld_size]; omega, fun k hk => Lib.bytesWorld_at_old w e _ k hk⟩
  have hsz : (⟨l.toArray⟩ : ByteArray).size = l.length := by simp [ByteArray.size]
  have hge := grownCap_ge w (⟨l.toArray⟩ : ByteArray).size 0 e
  have hcs : ∀ i, i < l.length → (Lib.bytesCells w e ⟨l.toArray⟩)[i]? = (l.map fun b => Value.int .u8 b.toNat)[i]? := fun i hi => by
    simp [Lib.bytesCells, Array.getElem?_append, hi]
  have hcz : (Lib.bytesCells w e ⟨l.toArray⟩).size = grownCap w (⟨l.toArray⟩ : ByteArray).size 0 e := by
    simp [Lib.bytesCells] at hge ⊢
    omega
  have hone : ∀ (i : Nat) (c : Value), i < l.length → (Lib.bytesCells w e ⟨l.toArray⟩)[i]? = some c → c.oneCell' = true := fun i c hi hc => by
    rw [hcs i hi] at hc
    simp at hc
    obtain ⟨b, hb, rfl⟩ := hc
    rfl
  obtain ⟨hi, hle⟩ := r.inv.learnTailF hb (Lib.bytesWorld_at_new w e ⟨l.toArray⟩) l.length (Lib.bytesCells w e ⟨l.toArray⟩).size (Nat.le_refl _) (Nat.le_refl _) hone
  refine ⟨_, .slice (some ⟨w.heap.size, 0, none⟩) (⟨l.toArray⟩ : ByteArray).size (grownCap w (⟨l.toArray⟩ : ByteArray).size 0 e), Lib.bytesWorld w e ⟨l.toArray⟩, _, _, by simp [execOp, h1, hrun], hle, hi, ?_, h _ _ _⟩
  have hflat : CReps (PH.ext ph w.heap.size 0 l.length (Lib.bytesCells w e ⟨l.toArray⟩)) (l.map fun b => Value.int .u8 b.toNat).toArray (byteEls l).flatten := by
    rw [byteEls_flat]
    refine ⟨⟨by simp, fun i c x h1 h2 => ?_⟩, fun i c h1 => ?_⟩
    · simp at h1 h2
      obtain ⟨b, hb, rfl⟩ := h1
      obtain ⟨b', hb', rfl⟩ := h2
      rw [hb] at hb'
      injection hb' with hb'
      subst hb'
      exact .raw _
    · simp at h1
      obtain ⟨b, hb, rfl⟩ := h1
      rfl
  rw [hcz]
  rw [hsz] at hge ⊢
  exact rep_known (byteEls_size l) (by simp [byteEls]) (fun i hi' => by
    rw [Nat.mul_one] at hi'
    rw [Nat.zero_add, PH.ext_in ⟨Nat.zero_le _, hi'⟩, hcs i hi']
    simp) hflat hge (.inr ⟨0, rfl, by simp, by simp⟩)
theorem X.tobytes {nn : NN} {x : Operand} {src dst e : TypeId} {l : List UInt8} {u : TypeDesc} {d : Tmp} (hds : Nat.blt d nn.k = true) (hs : P.underlying src = some u) (hd : P.underlying dst = some (.slice e)) (he : P.underlying e = some (.int .u8)) (hx : Is (ev env x) (Str l))
    (h : ∀ b o c, K ⟨nn, (d, Bytes l (.tok b o c)) :: env, .tail b o c :: H⟩) : LO P ⟨some d, .convert src dst x, ty, pos, af, g⟩ ⟨nn, env, H⟩ K := LO.tobytes (st := ⟨nn, env, H⟩) hds hs hd he hx h
/-- copy(dst, src): dst owned cells of one cell each, src by its content. -/
theorem LO.copy {s x : Operand} {t tx e te : TypeId} {z : Value} {by_ b off n c : Nat} {xs : List LV} {ys : List (List LV)} {kk : Cap} {d : Tmp} (k : Nat) (hk : st.heap[k]? = some (.cells b te xs)) (hd : Nat.blt d st.n.k = true) (ht : P.underlying t = some (.slice e)) (hel : El P e z 1 by_)
    (hs : Is (ev st.env s) (.raw (.slice (some ⟨b, off, none⟩) n c))) (hx : Is (ev st.env x) (.sl 1 ys kk)) (hfit : off + n ≤ xs.length)
    (h : K ⟨st.n, (d, .raw (.int .i64 (min ys.length n : Nat))) :: st.env, .cells b te (putAt xs off (ys.flatten.take (min ys.length n))) :: st.heap.eraseIdx k⟩) :
    LO P ⟨some d, .call { callee := .builtin .copy, args := #[s, x], argTypes := #[t, tx] }, ty, pos, af, g⟩ st K := .of_run hd fun w0 ph a w rl => by
  have h1 := (hs _ _ (rl.tmps.eval s)).rawE
  have r := hx _ _ (rl.tmps.eval x)
  obtain ⟨A, m, cc, hu⟩ := rep_slice_form r
  rw [hu] at r
  obtain ⟨hes, hn, hnc, hcap⟩ := rep_es r
  obtain ⟨olds, hoc, hol, hcell⟩ := sl_cells rl.inv (by decide) r
  obtain ⟨⟨i, hi, hz, hsz, hby⟩, hzs, _⟩ := hel
  have hinfo : (P.info? e).map (·.size) = some 1 := by rw [hi, Option.map_some, hsz]
  have hfl := flatten_len hes
  have hrun : ∀ v w', (Builtin.copy_ #[t, tx] ty #[.slice (some ⟨b, off, none⟩) n c, .slice A m cc]).run P w = .ok v w' → (execOp a.eval ⟨some d, .call { callee := .builtin .copy, args := #[s, x], argTypes := #[t, tx] }, ty, pos, af, g⟩).run P w = .ok (.value v) w' := fun v w' h => by
    simp [execOp, resolve, invoke, builtin, h1, hu, h]
  have hinv := rl.inv.front k
  unfold L.front at hinv
  rw [hk] at hinv
  by_cases h0 : min ys.length n = 0
  · rw [h0] at h
    refine ⟨_, _, w, ph, _, hrun _ _ (run_copy_none w t tx ty e _ A n c m cc ht hinfo (by rw [← hn]; exact h0)), PH.le.refl _, hinv, .raw _, ?_⟩
    simpa [putAt, goInt] using h
  · obtain ⟨ad, rfl⟩ : ∃ ad, A = some ad := by
      cases A with
      | some ad => exact ⟨ad, rfl⟩
      | none =>
        exfalso
        cases r with | sl _ _ _ _ _ _ ad u hA hn' _ _ _ _ _ =>
          have := hA (by omega)
          cases this
    obtain ⟨F, hF, cs, hh, ⟨hl, hr⟩, ho⟩ := hinv.atom
    obtain ⟨q, hq⟩ : ∃ q, q = min ys.length n := ⟨_, rfl⟩
    have hlen : (olds.take q).length = q := by simp; omega
    have hlen2 : (ys.flatten.take q).length = q := by rw [List.length_take, hfl]; omega
    have hthere : ∀ j, j < (olds.take q).length → (w.cell? ⟨b, off + j, none⟩).isSome = true ∧ w.frozen? ⟨b, off + j, none⟩ = false := fun j hj => by
      have hlt : off + j < cs.size := by omega
      rw [cell_of_row w b (off + j) cs te (0, 0) hh, Array.getElem?_eq_getElem hlt]
      exact ⟨rfl, by simp [World.frozen?, hh]⟩
    have hold : ∀ j v, (olds.take q)[j]? = some v → olds[j]? = some v := fun j v hj => by
      rw [List.getElem?_take] at hj
      split at hj
      · exact hj
      · cases hj
    have hone : ∀ v ∈ olds.take q, v.oneCell' = true := fun v hv => by
      obtain ⟨j, hj⟩ := List.getElem?_of_mem hv
      exact hoc.2 j v (by simpa using hold j v hj)
    have hr2 := run_copy_cells (P := P) w t tx ty e b off n c ad m cc (olds.take q) ht hinfo (by rw [hlen, hq, hn]) (fun j v hj => (hcell ad rfl j v (hold j v hj)).2) (fun j hj => (hthere j hj).1) (fun j hj => (hthere j hj).2) hone
    rw [hlen] at hr2
    obtain ⟨cs', hh', hsz', hget⟩ := heap_setCells (olds.take q) off w cs hh (by omega)
    refine ⟨_, _, w.setCells b off (olds.take q), ph, _, hrun _ _ hr2, PH.le.refl _, hinv.turn (a' := .cells b te (putAt xs off (ys.flatten.take q))) (PH.le.refl _) (fun G hG hn => ⟨(chg_setCells _ w).mono (fun b' o' hb => (hG.1 b' o').2 hb), G, ⟨hG.1, cs', hh', ⟨by rw [putAt_length _ _ _ (by omega)]; omega, fun i c z hi hz => ?_⟩, fun i c hi => ?_⟩, fun b' o' hb => .inl hb, fun p u hp => .inl hp⟩), ?_, by rw [hq]; exact h⟩
    · rw [hget] at hi
      rw [putAt_get _ _ _ (by omega)] at hz
      rw [hlen] at hi
      rw [hlen2] at hz
      by_cases hin : off ≤ i ∧ i < off + q
      · rw [if_pos hin] at hi hz
        have hz2 : ys.flatten[i - off]? = some z := by
          rw [List.getElem?_take] at hz
          split at hz
          · exact hz
          · cases hz
        exact hoc.1.2 (i - off) c z (by simpa using hold _ _ hi) hz2
      · rw [if_neg hin] at hi hz
        exact hr i c z hi hz
    · rw [hget] at hi
      rw [hlen] at hi
      by_cases hin : off ≤ i ∧ i < off + q
      · rw [if_pos hin] at hi
        exact hone c (List.mem_of_getElem? hi)
      · rw [if_neg hin] at hi
        exact ho i c hi
    · rw [hq]; exact .raw _
theorem X.copy {nn : NN} {s x : Operand} {t tx e te : TypeId} {z : Value} {by_ b off n c : Nat} {xs : List LV} {ys : List (List LV)} {kk : Cap} {d : Tmp} (k : Nat) (hk : H[k]? = some (.cells b te xs)) (hd : Nat.blt d nn.k = true) (ht : P.underlying t = some (.slice e)) (hel : El P e z 1 by_)
    (hs : Is (ev env s) (.raw (.slice (some ⟨b, off, none⟩) n c))) (hx : Is (ev env x) (.sl 1 ys kk)) (hfit : off + n ≤ xs.length)
    (h : K ⟨nn, (d, .raw (.int .i64 (min ys.length n : Nat))) :: env, .cells b te (putAt xs off (ys.flatten.take (min ys.length n))) :: H.eraseIdx k⟩) :
    LO P ⟨some d, .call { callee := .builtin .copy, args := #[s, x], argTypes := #[t, tx] }, ty, pos, af, g⟩ ⟨nn, env, H⟩ K := LO.copy (st := ⟨nn, env, H⟩) k hk hd ht hel hs hx hfit h
end
end Go.L
