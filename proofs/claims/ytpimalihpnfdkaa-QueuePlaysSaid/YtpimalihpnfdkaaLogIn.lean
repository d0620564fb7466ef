/- Rows that are owned, turned in place: an append within its room out of the same row, clear; a slice asked whether it is nil. Plain theorems over any program. -/
import Derived.Test.YtpimalihpnfdkaaLogDf
import Derived.Lib.SliceRun
set_option linter.unusedVariables false
set_option linter.unusedSimpArgs false
namespace Go.L
open Go.RowKit
section
variable {P : Program} {st : LS} {env : List (Nat × LV)} {H : List Atom} {K : LS → Prop} {ty : TypeId} {pos : String} {af : Array Edge} {g : Option (Nat × Bool)}
theorem Inv.putCells {w0 : Base} {ph : PH} {w : World} {b : Nat} {t : TypeId} {xs ys : List LV} (hinv : Inv w0 ph w (.cells b t xs :: H)) {news : List Value} (hc : CReps ph news.toArray ys) {off : Nat} (hlen : off + ys.length ≤ xs.length) :
    Inv w0 ph (w.setCells b off news) (.cells b t (putAt xs off ys) :: H) ∧ (∀ j, j < ys.length → (w.cell? ⟨b, off + j, none⟩).isSome = true) ∧ ∀ j, j < ys.length → w.frozen? ⟨b, off + j, none⟩ = false := by
  obtain ⟨F, hF, cs, hh, ⟨hl, hr⟩, ho⟩ := hinv.atom
  obtain ⟨⟨hn, hcr⟩, hco⟩ := hc
  simp only [List.size_toArray] at hn
  obtain ⟨cs', hh', hsz', hget⟩ := heap_setCells news off w cs hh (by omega)
  refine ⟨hinv.turn (a' := .cells b t (putAt xs off ys)) (PH.le.refl _) (fun G hG hn' => ⟨(chg_setCells _ w).mono (fun b' o' hb => (hG.1 b' o').2 hb), G, ⟨hG.1, cs', hh', ⟨by rw [putAt_length _ _ _ (by omega)]; omega, fun i c z hi hz => ?_⟩, fun i c hi => ?_⟩, fun b' o' hb => .inl hb, fun p u hp => .inl hp⟩), fun j hj => ?_, fun j hj => ?_⟩
  · rw [hget] at hi
    rw [putAt_get _ _ _ (by omega)] at hz
    by_cases hin : off ≤ i ∧ i < off + news.length
    · rw [if_pos hin] at hi
      rw [if_pos (by omega)] at hz
      exact hcr (i - off) c z (by simpa using hi) hz
    · rw [if_neg hin] at hi
      rw [if_neg (by omega)] at hz
      exact hr i c z hi hz
  · rw [hget] at hi
    by_cases hin : off ≤ i ∧ i < off + news.length
    · rw [if_pos hin] at hi
      exact hco (i - off) c (by simpa using hi)
    · rw [if_neg hin] at hi
      exact ho i c hi
  · rw [cell_of_row w b (off + j) cs t (0, 0) hh, Array.getElem?_eq_getElem (by omega)]; rfl
  · simp [World.frozen?, hh]
/-- append(s[:i], s[j:]...) within the room of an owned row. -/
theorem LO.appendIn {s x : Operand} {t tx e te : TypeId} {z : Value} {size by_ : Nat} {b off n c off2 n2 c2 : Nat} {xs : List LV} {ys : List (List LV)} {d : Tmp} (k : Nat) (hk : st.heap[k]? = some (.cells b te xs)) (hd : Nat.blt d st.n.k = true) (ht : P.underlying t = some (.slice e)) (htx : P.underlying tx = some (.slice e)) (hel : El P e z size by_)
    (hs : Is (ev st.env s) (.raw (.slice (some ⟨b, off, none⟩) n c))) (hx : Is (ev st.env x) (.raw (.slice (some ⟨b, off2, none⟩) n2 c2))) (hys : ∀ e ∈ ys, e.length = size) (hn : ys.length = n2) (hfit2 : off2 + n2 * size ≤ xs.length) (he : ys.flatten = (xs.drop off2).take (n2 * size)) (hnc : n2 ≤ c2) (hroom : n + n2 ≤ c) (hfit : off + n * size + n2 * size ≤ xs.length)
    (h : K ⟨st.n, (d, .raw (.slice (some ⟨b, off, none⟩) (n + n2) c)) :: st.env, .cells b te (putAt xs (off + n * size) ys.flatten) :: st.heap.eraseIdx k⟩) :
    LO P ⟨some d, .call { callee := .builtin .append, args := #[s, x], argTypes := #[t, tx] }, ty, pos, af, g⟩ st K := .of_run hd fun w0 ph a w rl => by
  have h1 := (hs _ _ (rl.tmps.eval s)).rawE
  obtain ⟨⟨i, hi, hz, hsz, hby⟩, hzs, hs0⟩ := hel
  have hsrc0 : SrcG P [.cells b te xs] tx size (.raw (.slice (some ⟨b, off2, none⟩) n2 c2)) ys := SrcG.cells htx hs0 hys hn hfit2 he hnc
  obtain ⟨news, hsrc, hnc2⟩ := hsrc0.2 w0 ph w st.heap (a.eval x) (fun a ha => by rw [List.mem_singleton.1 ha]; exact List.mem_of_getElem? hk) rl.inv (hx _ _ (rl.tmps.eval x))
  have hnl : news.length = ys.length * size := hsrc.newsLen
  have hfl : ys.flatten.length = n2 * size := by rw [he, List.length_take, List.length_drop]; omega
  have hinv := rl.inv.front k
  unfold L.front at hinv
  rw [hk] at hinv
  obtain ⟨hi2, hthere, hfro⟩ := hinv.putCells hnc2 (off := off + n * size) (by omega)
  have hr := run_append_room_src (P := P) w t tx ty e i ht hi b off n c (a.eval x) ys.length news (hsz ▸ hsrc) (by omega) (fun j hj => by rw [hsz]; exact hthere j (by rw [hfl, ← hn]; omega)) (fun j hj => by rw [hsz]; exact hfro j (by rw [hfl, ← hn]; omega))
  rw [hsz, hn] at hr
  exact ⟨_, _, _, ph, _, by simp [execOp, resolve, invoke, builtin, h1, hr], PH.le.refl _, hi2, .raw _, h⟩
/-- clear(s) of an owned row of single cells. -/
theorem LO.clear {s : Operand} {t e te : TypeId} {z : Value} {b off n c : Nat} {xs : List LV} (k : Nat) (hk : st.heap[k]? = some (.cells b te xs)) (ht : P.underlying t = some (.slice e)) (hv : ∀ w, (zeroValue e).run P w = .ok z w) (hz : z.cells = #[z]) (h1z : z.oneCell' = true)
    (hs : Is (ev st.env s) (.raw (.slice (some ⟨b, off, none⟩) n c))) (hn : 0 < n) (hfit : off + n ≤ xs.length)
    (h : K ⟨st.n, st.env, .cells b te (putAt xs off (List.replicate n (.raw z))) :: st.heap.eraseIdx k⟩) :
    LO P ⟨none, .call { callee := .builtin .clear, args := #[s], argTypes := #[t] }, ty, pos, af, g⟩ st K := fun w0 ph a w rl N Q kk => by
  have h1 := (hs _ _ (rl.tmps.eval s)).rawE
  have hinv := rl.inv.front k
  unfold L.front at hinv
  rw [hk] at hinv
  have hc : CReps ph (List.replicate n z).toArray (List.replicate n (.raw z)) := ⟨⟨by simp, fun i c x h2 h3 => by
    simp only [List.getElem?_toArray, List.getElem?_replicate] at h2 h3
    split at h2
    · rw [if_pos (by assumption)] at h3; injection h2 with h2; injection h3 with h3; subst h2; subst h3; exact .raw _
    · cases h2⟩, fun i c h2 => by
    simp only [List.getElem?_toArray, List.getElem?_replicate] at h2
    split at h2
    · injection h2 with h2; subst h2; exact h1z
    · cases h2⟩
  obtain ⟨hi2, hthere, hfro⟩ := hinv.putCells hc (off := off) (by simpa using hfit)
  have hr := Go.Lib.run_clear_slice (P := P) w t e ty z ht hv hz h1z b off n c hn (by simpa using hthere) (by simpa using hfro)
  unfold owp
  have hrun : (execOp a.eval ⟨none, .call { callee := .builtin .clear, args := #[s], argTypes := #[t] }, ty, pos, af, g⟩).run P w = .ok (.value (.tuple #[])) (w.setCells b off (List.replicate n z)) := by
    simp [execOp, resolve, invoke, builtin, h1, hr]
  rw [hrun]
  exact kk ph _ _ _ (PH.le.refl _) (rl.put0 (PH.le.refl _) hi2 _) h
/-- A slice asked whether it is nil: if it is, it has no elements. -/
theorem LO.nilSl {x y : Operand} {t t' e : TypeId} {size : Nat} {es : List (List LV)} {k : Cap} {d : Tmp} (hd : Nat.blt d st.n.k = true) (ht : P.underlying t = some (.slice e)) (hx : Is (ev st.env x) (.sl size es k)) (hy : Is (ev st.env y) (.raw (.slice none 0 0)))
    (h : ∀ b : Bool, (b = true → es = []) → K ⟨st.n, (d, .raw (.bool b)) :: st.env, st.heap⟩) : LO P ⟨some d, .binOp .eql t x y t', ty, pos, af, g⟩ st K := .of_run hd fun w0 ph a w rl => by
  have h1 := hx _ _ (rl.tmps.eval x)
  have h2 := (hy _ _ (rl.tmps.eval y)).rawE
  generalize hu : a.eval x = u at h1
  cases h1 with
  | sl _ _ _ A n c ad u hA hn hnc hs hcap hp hr =>
    have he : (Op.equal t (.slice A n c) (.slice none 0 0)).run P w = .ok A.isNone w := by
      rw [show Op.equal t (.slice A n c) (.slice none 0 0) = Op.equalIn (9999 + 1) t (.slice A n c) (.slice none 0 0) from rfl, Op.equalIn]
      rw [Sem.run_bind, run_underlying ht, Result.andThen_ok]
      cases A <;> rfl
    have hg : (eqGuard .eql t x y (.slice A n c) (.slice none 0 0)).run P w = .ok () w := by unfold eqGuard; simp
    have hb : binOp .eql t (.slice A n c) (.slice none 0 0) = (do pure (.bool ((← Op.equal t (.slice A n c) (.slice none 0 0))))) := by rfl
    refine ⟨_, .bool A.isNone, w, ph, _, ?_, PH.le.refl _, rl.inv, .raw _, h A.isNone fun hn' => ?_⟩
    · simp only [execOp, hu, h2, Sem.run_bind, hg, Result.andThen_ok, hb, he, Sem.run_pure] <;> rfl
    · cases A with
      | some q => cases hn'
      | none =>
        refine List.eq_nil_of_length_eq_zero (Nat.eq_zero_of_not_pos fun h0 => ?_)
        have := hA h0
        cases this
/-- An owned row, sliced. -/
theorem LU.sliceR {x : Operand} {d : Option Tmp} {t e : TypeId} {size n c : Nat} {A : Option Addr} {lo hi : Option Operand} {l h : Option Int} (hs : ∀ w, (sizeOf e).run P w = .ok size w) (ht : P.underlying t = some (.slice e)) (hx : Is (ev env x) (.raw (.slice A n c))) (hl : optInt env lo l) (hh : optInt env hi h)
    (h0 : 0 ≤ l.getD 0) (h1 : l.getD 0 ≤ h.getD n) (h2 : h.getD n ≤ c) (hnc : n ≤ c) :
    LU P env H ⟨d, .slice t x lo hi none, ty, pos, af, g⟩ (.raw (sliced A (l.getD 0).toNat (h.getD n).toNat c size)) := .of_run fun ph a hc w0 w hinv => by
  have hu := (hx _ _ (hc x (by simp [Op.operands]))).rawE
  have ht' : P.underlying t = some (.slice (P.elem t)) := by rw [elem_of ht]; exact ht
  have he : P.elem t = e := elem_of ht
  refine ⟨_, ?_, .raw _⟩
  cases lo <;> cases l <;> simp only [optInt] at hl <;> cases hi <;> cases h <;> simp only [optInt] at hh
  · simp [execOp, hu, run_sliceAt_slice w t _ _ _ _ ht', run_slice_all w t A n c ht', he, hs]
  · rename_i y i
    obtain ⟨k1, hk1⟩ := hh
    have e2 := (hk1 _ _ (hc y (by simp [Op.operands]))).rawE
    simp only [Option.getD_none, Option.getD_some] at h0 h1 h2
    simp [execOp, hu, e2, run_sliceAt_slice w t _ _ _ _ ht', run_slice_h w t A n c ht' k1 i h1 (by omega), he, hs]
  · rename_i y i
    obtain ⟨k1, hk1⟩ := hl
    have e2 := (hk1 _ _ (hc y (by simp [Op.operands]))).rawE
    simp only [Option.getD_none, Option.getD_some] at h0 h1 h2
    simp [execOp, hu, e2, run_sliceAt_slice w t _ _ _ _ ht', run_slice_l w t A n c ht' k1 i h0 (by omega), he, hs]
  · rename_i y i z j
    obtain ⟨k1, hk1⟩ := hl
    obtain ⟨k2, hk2⟩ := hh
    have e2 := (hk1 _ _ (hc y (by simp [Op.operands]))).rawE
    have e3 := (hk2 _ _ (hc z (by simp [Op.operands]))).rawE
    simp only [Option.getD_some] at h0 h1 h2
    simp [execOp, hu, e2, e3, run_sliceAt_slice w t _ _ _ _ ht', run_slice_lh w t A n c ht' k1 k2 i j h0 h1 (by omega), he, hs]
/-- s[i:j:k] of an owned row. -/
theorem LU.sliceR3 {x y z u : Operand} {d : Option Tmp} {t e : TypeId} {size n c : Nat} {A : Option Addr} {k1 k2 k3 : IntKind} {i j m : Int} (hs : ∀ w, (sizeOf e).run P w = .ok size w) (ht : P.underlying t = some (.slice e)) (hx : Is (ev env x) (.raw (.slice A n c))) (hy : Is (ev env y) (.raw (.int k1 i))) (hz : Is (ev env z) (.raw (.int k2 j))) (hu : Is (ev env u) (.raw (.int k3 m)))
    (h0 : 0 ≤ i) (h1 : i ≤ j) (h2 : j ≤ m) (h3 : m ≤ c) :
    LU P env H ⟨d, .slice t x (some y) (some z) (some u), ty, pos, af, g⟩ (.raw (sliced A i.toNat j.toNat m.toNat size)) := .of_run fun ph a hc w0 w hinv => by
  have e1 := (hx _ _ (hc x (by simp [Op.operands]))).rawE
  have e2 := (hy _ _ (hc y (by simp [Op.operands]))).rawE
  have e3 := (hz _ _ (hc z (by simp [Op.operands]))).rawE
  have e4 := (hu _ _ (hc u (by simp [Op.operands]))).rawE
  have ht' : P.underlying t = some (.slice (P.elem t)) := by rw [elem_of ht]; exact ht
  have he : P.elem t = e := elem_of ht
  refine ⟨_, ?_, .raw _⟩
  simp [execOp, e1, e2, e3, e4, run_sliceAt_slice w t _ _ _ _ ht', run_slice_lhm w t A n c ht' k1 k2 k3 i j m h0 h1 h2 (by omega), he, hs]
/-- An owned row is from now on known, its room a tail: between operations. -/
theorem LL.freezeT {ops : Array Oper} {l : List Oper} {t : Nat} {b : Nat} {te : TypeId} {xs : List LV} {n c size : Nat} {es : List (List LV)} (k : Nat) (hk : st.heap[k]? = some (.cells b te xs)) (ht : get st.env t = .raw (.slice (some ⟨b, 0, none⟩) n c)) (hs : ∀ e ∈ es, e.length = size) (hn : es.length = n) (hfit : c * size = xs.length) (he : es.flatten = xs.take (n * size)) (hnc : n ≤ c)
    (h : LL P ops l ⟨st.n, (t, .sl size es (.tok b (n * size) (c * size))) :: st.env, .tail b (n * size) (c * size) :: st.heap.eraseIdx k⟩ K) : LL P ops l st K := fun w0 ph a w r Q q => by
  have hinv := r.inv.front k
  unfold L.front at hinv
  rw [hk] at hinv
  have hle : n * size ≤ c * size := Nat.mul_le_mul_right _ hnc
  obtain ⟨cs, ph', hle, hi, hc, hsz, hp⟩ := hinv.freezeT (n * size) (by omega)
  rw [← hfit] at hi
  refine h w0 ph' a w ⟨hi, r.defers, r.size, fun i => ?_⟩ Q fun ph2 st2 a2 w2 hle2 r2 q2 => q ph2 st2 a2 w2 (hle.trans hle2) r2 q2
  by_cases hit : t = i
  · subst hit
    rw [get_same]
    have := r.tmps t
    rw [ht] at this
    rw [this.rawE]
    exact freezeT_rep hc hp hs hn hfit he hnc
  · rw [get_other hit]
    exact (r.tmps i).mono hle
end
end Go.L
