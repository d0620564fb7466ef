/- An owned block becomes a slice whose room stays owned; function values; iterators that hand out what they own. Plain theorems over any program. -/
import Derived.Test.YtcemodldbfiomaaLogW
set_option linter.unusedVariables false
set_option linter.unusedSimpArgs false
namespace Go.L
open Go.RowKit
section
variable {P : Program} {env : List (Nat × LV)} {H : List Atom} {d : Option Tmp} {ty : TypeId} {pos : String} {af : Array Edge} {g : Option (Nat × Bool)} {st : LS} {K : LS → Prop}
/-- The first n cells of an owned block are known from now on; the rest stays as room. -/
theorem Inv.freezeT {w0 : Base} {ph : PH} {w : World} {b : Nat} {t : TypeId} {xs : List LV} (n : Nat) (hn : n ≤ xs.length) (h : Inv w0 ph w (.cells b t xs :: H)) : ∃ cs ph', PH.le ph ph' ∧ Inv w0 ph' w (.tail b n xs.length :: H) ∧ CReps ph' cs xs ∧ cs.size = xs.length ∧ ∀ i, i < n → ph' ⟨b, i, none⟩ = cs[i]? := by
  obtain ⟨F, hF, cs, hh, hc⟩ := h.atom
  have hle : PH.le ph (PH.ext ph b 0 n cs) := PH.le_ext fun i _ hi => by
    obtain ⟨_, _, _, F', ⟨F1, F2, h1, h2, h3, h4⟩, hF'⟩ := h
    exact (hF' b i ((h3 b i).2 (.inl ((h1.1 b i).2 rfl)))).2 ⟨b, i, none⟩ rfl rfl
  refine ⟨cs, PH.ext ph b 0 n cs, hle, ?_, hc.mono hle, hc.1.1, fun i hi => PH.ext_in ⟨Nat.zero_le _, hi⟩⟩
  have hsz : cs.size = xs.length := hc.1.1
  have := Inv.upd (H1 := [.cells b t xs]) (H2 := [.tail b n xs.length]) (R := H) (w' := w) h hle (fun G ⟨F1, F2, h1, h2, h3, h4⟩ hn => ⟨Chg.refl _ _, fun b' o => b' = b ∧ n ≤ o ∧ o < xs.length, ⟨_, fun _ _ => False, ⟨fun _ _ => Iff.rfl, fun i hi hj => by
      refine ⟨⟨cs[i], ?_⟩, by simp [World.frozen?, hh]⟩
      rw [cell_of_row w b i cs t (0, 0) hh, Array.getElem?_eq_getElem (by omega)]⟩, fun _ _ h => h, fun b o => by simp, fun _ _ _ h => h⟩, fun b' o hb => .inl ((h3 _ _).2 (.inl ((h1.1 _ _).2 hb.1))), fun a u ha => by
    rcases PH.ext_cases ha with ⟨e, h5, h6, h7⟩ | h5
    · refine .inr ⟨⟨?_, hc.2 _ _ h7⟩, fun h => by have := h.2.1; omega, .inl ((h3 _ _).2 (.inl ((h1.1 _ _).2 (by rw [e]))))⟩
      rw [e, cell_of_row w b a.off cs t (0, 0) hh]
      exact h7
    · exact .inl h5⟩)
  exact this
theorem freezeT_rep {ph : PH} {b : Nat} {cs : Array Value} {xs : List LV} {n c size : Nat} {es : List (List LV)} (hc : CReps ph cs xs) (hp : ∀ i, i < n * size → ph ⟨b, i, none⟩ = cs[i]?) (hs : ∀ e ∈ es, e.length = size) (hn : es.length = n) (hfit : c * size = xs.length) (he : es.flatten = xs.take (n * size)) (hnc : n ≤ c) : Rep ph (.slice (some ⟨b, 0, none⟩) n c) (.sl size es (.tok b (n * size) (c * size))) := by
  have hsz : cs.size = xs.length := hc.1.1
  have hle : n * size ≤ c * size := Nat.mul_le_mul_right _ hnc
  refine rep_known (cs := cs.extract 0 (n * size)) hs hn (fun i hi => ?_) ?_ hnc (.inr ⟨0, rfl, by omega, by omega⟩)
  · rw [Nat.zero_add, hp _ hi, Array.getElem?_extract, if_pos (by omega), Nat.zero_add]
  · rw [he]
    refine ⟨⟨by simp; omega, fun i v x hv hx => ?_⟩, fun i v hv => ?_⟩
    · rw [Array.getElem?_extract] at hv
      rw [List.getElem?_take] at hx
      split at hx
      · split at hv
        · rw [Nat.zero_add] at hv; exact hc.1.2 _ v x hv hx
        · cases hv
      · cases hx
    · rw [Array.getElem?_extract] at hv
      split at hv
      · exact hc.2 _ v hv
      · cases hv
theorem LW.freezeT {cd : Code} {Q : Exit → LS → Prop} {t : Nat} {b : Nat} {te : TypeId} {xs : List LV} {n c size : Nat} {es : List (List LV)} (k : Nat) (hk : st.heap[k]? = some (.cells b te xs)) (ht : get st.env t = .raw (.slice (some ⟨b, 0, none⟩) n c)) (hs : ∀ e ∈ es, e.length = size) (hn : es.length = n) (hfit : c * size = xs.length) (he : es.flatten = xs.take (n * size)) (hnc : n ≤ c)
    (h : LW P cd ⟨st.n, (t, .sl size es (.tok b (n * size) (c * size))) :: st.env, .tail b (n * size) (c * size) :: st.heap.eraseIdx k⟩ Q) : LW P cd st Q := fun w0 ph a w r Q' q => by
  have hinv := r.inv.front k
  unfold L.front at hinv
  rw [hk] at hinv
  have hle : n * size ≤ c * size := Nat.mul_le_mul_right _ hnc
  obtain ⟨cs, ph', hle, hi, hc, hsz, hp⟩ := hinv.freezeT (n * size) (by omega)
  rw [← hfit] at hi
  refine h w0 ph' a w ⟨hi, r.defers, r.size, fun i => ?_⟩ Q' fun e ph2 st2 a2 w2 hle2 r2 q2 => q e ph2 st2 a2 w2 (hle.trans hle2) r2 q2
  by_cases hit : t = i
  · subst hit
    rw [get_same]
    have := r.tmps t
    rw [ht] at this
    rw [this.rawE]
    exact freezeT_rep hc hp hs hn hfit he hnc
  · rw [get_other hit]
    exact (r.tmps i).mono hle
/-! ### append(s, make([]byte, m)...) -/
theorem zeros_bytes (m : Nat) : Builtin.zeroCells (Value.int .u8 0).cells m = ((⟨(List.replicate m (0 : UInt8)).toArray⟩ : ByteArray).extract 0 m).data.map fun b => Value.int .u8 b.toNat := by
  apply Array.ext'
  apply List.ext_getElem?
  intro i
  simp [Builtin.zeroCells, Value.cells, ByteArray.extract, ByteArray.copySlice, List.getElem?_replicate]
  by_cases h : i < m
  · simp [h]
    rw [Nat.mod_one]; rfl
  · simp [h]
theorem append_zeros_eq {t ti ts e ty' : TypeId} {k kx : IntKind} {i : TypeInfo} (ht : P.underlying t = some (.slice e)) (hti : P.underlying ti = some (.int k)) (hts : P.underlying ts = some .string) (hi : P.info? e = some i) (hz : i.zero = some (.int .u8 0)) (hsize : i.size = 1) (hby : i.bytes = 1)
    (A : Option Addr) (n c m : Nat) (hb : n + m ≤ 140737488355328) (w : World) :
    (Builtin.append_ #[t, ti] ty' #[.slice A n c, .int kx m]).run P w = (Builtin.append_ #[t, ts] ty' #[.slice A n c, .string ⟨(List.replicate m (0 : UInt8)).toArray⟩]).run P w := by
  have hw : IntKind.i64.wrap (m : Int) = m := by rw [IntKind.wrap_i64]; omega
  have hneg : ¬ ((m : Int) < 0) := by omega
  have hbig : ¬ (281474976710656 < (m : Int)) := by omega
  have hsz : ({ data := Array.replicate m 0 } : ByteArray).size = m := by simp [ByteArray.size]
  have hmx : ¬ (9223372036854775807 < ((n : Int) + (m : Int))) := by omega
  have hw0 : IntKind.i64.wrap 0 = 0 := by rw [IntKind.wrap_i64]; rfl
  by_cases hm : m = 0
  · subst hm
    have hsz0 : ({ data := #[] } : ByteArray).size = 0 := rfl
    have hcz : ∀ z, Builtin.zeroCells z 0 = #[] := fun z => by simp [Builtin.zeroCells]
    by_cases hr : n ≤ c
    · simp [Builtin.append_, run_underlying ht, run_underlying hti, run_underlying hts, sizeOf, typeInfo, zeroValue, hi, hz, asInt, asIntOf, hw0, hsize, hby, Builtin.lenOf, Builtin.firstCells, hsz0, hr]
    · have hn : ¬ (281474976710656 < Builtin.nextslicecap n c) := by
        have := growslice_fits (bytes := 1) (show c < n by omega) (by omega)
        omega
      have hmx0 : ¬ (9223372036854775807 < (n : Int)) := by omega
      simp [Builtin.append_, run_underlying ht, run_underlying hti, run_underlying hts, sizeOf, typeInfo, zeroValue, hi, hz, asInt, asIntOf, hw0, hsize, hby, Builtin.lenOf, Builtin.firstCells, hsz0, hr, hn, hmx0, hcz]
  · by_cases hr : n + m ≤ c
    · simp [Builtin.append_, run_underlying ht, run_underlying hti, run_underlying hts, sizeOf, typeInfo, zeroValue, hi, hz, asInt, asIntOf, hw, hsize, hby, Builtin.lenOf, Builtin.firstCells, hsz, hr, hneg, hbig, hm, zeros_bytes]
    · have hn : ¬ (281474976710656 < Builtin.nextslicecap (n + m) c) := by
        have := growslice_fits (bytes := 1) (show c < n + m by omega) (by omega)
        omega
      simp [Builtin.append_, run_underlying ht, run_underlying hti, run_underlying hts, sizeOf, typeInfo, zeroValue, hi, hz, asInt, asIntOf, hw, hsize, hby, Builtin.lenOf, Builtin.firstCells, hsz, hr, hneg, hbig, hm, hmx, hn, zeros_bytes]
theorem LO.appendZ {s x : Operand} {t ti ts e : TypeId} {k kx : IntKind} {i : TypeInfo} {es : List (List LV)} {kk : Cap} {m : Nat} {d : Option Tmp} (ht : P.underlying t = some (.slice e)) (hti : P.underlying ti = some (.int k)) (hts : P.underlying ts = some .string) (hi : P.info? e = some i) (hz : i.zero = some (.int .u8 0)) (hsize : i.size = 1) (hby : i.bytes = 1)
    (hs : Is (ev st.env s) (.sl 1 es kk)) (hx : Is (ev st.env x) (.raw (.int kx m))) (hb : es.length + m ≤ 140737488355328)
    (h : LO P ⟨d, .call { callee := .builtin .append, args := #[s, .const (.string ⟨(List.replicate m (0 : UInt8)).toArray⟩)], argTypes := #[t, ts] }, ty, pos, af, g⟩ st K) :
    LO P ⟨d, .call { callee := .builtin .append, args := #[s, x], argTypes := #[t, ti] }, ty, pos, af, g⟩ st K := fun w0 ph a w r N Q q => by
  have h1 := h w0 ph a w r N Q q
  have r1 := hs _ _ (Env.eval r.tmps s)
  have r2 := (hx _ _ (Env.eval r.tmps x)).rawE
  obtain ⟨A, n, c, hA⟩ := rep_slice_form r1
  have hn : es.length = n := by rw [hA] at r1; exact (rep_es r1).2.1
  have e1 : (execOp a.eval ⟨d, .call { callee := .builtin .append, args := #[s, x], argTypes := #[t, ti] }, ty, pos, af, g⟩).run P w = (execOp a.eval ⟨d, .call { callee := .builtin .append, args := #[s, .const (.string ⟨(List.replicate m (0 : UInt8)).toArray⟩)], argTypes := #[t, ts] }, ty, pos, af, g⟩).run P w := by
    have := append_zeros_eq (ty' := ty) (kx := kx) ht hti hts hi hz hsize hby A n c m (by omega) w
    have hcst : a.eval (.const (.string ⟨(List.replicate m (0 : UInt8)).toArray⟩)) = .string ⟨(List.replicate m (0 : UInt8)).toArray⟩ := rfl
    simp [execOp, resolve, invoke, builtin, hA, r2, hcst, this]
    rfl
  unfold owp at h1 ⊢
  rw [e1]
  exact h1
theorem X.appendZ {nn : NN} {s x : Operand} {t ti ts e : TypeId} {kx ki : IntKind} {l : List UInt8} {m : Nat} {d : Tmp} {b o c : Nat} (k : Nat) (hk : H[k]? = some (.tail b o c)) (hd : Nat.blt d nn.k = true) (ht : P.underlying t = some (.slice e)) (hti : P.underlying ti = some (.int ki)) (hts : P.underlying ts = some .string) (hel : El P e (.int .u8 0) 1 1)
    (hs : Is (ev env s) (Bytes l (.tok b o c))) (hx : Is (ev env x) (.raw (.int kx m))) (hb : l.length + m ≤ 140737488355328)
    (h : ∀ b' o' c', K ⟨nn, (d, Bytes (l ++ List.replicate m 0) (.tok b' o' c')) :: env, .tail b' o' c' :: H.eraseIdx k⟩) :
    LO P ⟨some d, .call { callee := .builtin .append, args := #[s, x], argTypes := #[t, ti] }, ty, pos, af, g⟩ ⟨nn, env, H⟩ K := by
  obtain ⟨i, hi, hz, hsize, hby⟩ := hel.info
  refine LO.appendZ ht hti hts hi hz hsize hby hs hx (by simpa [byteEls] using hb) ?_
  refine X.append k hk hd ht hel hs (y := Str (List.replicate m 0)) Is.rfl' (SrcL.string hts) (by simp [byteEls]; omega) (by simp [byteEls]; omega) fun b' o' c' => ?_
  rw [← byteEls_append]
  exact h b' o' c'
end
end Go.L
