/- copy into owned cells; []byte(s) whose room is owned; an owned array, sliced. Plain theorems over any program. A region that draws its order, every order walked. Plain theorems over any program. Ranges over functions: a call of yield, an iterator's contract, the statement. Plain theorems over any program. A call of internal/bytealg's byte search, which has no body. Plain theorems over any program. A region that draws its order, by a statement over what is done: each operation once. Plain theorems over any program. An owned block becomes a slice whose room stays owned; function values; iterators that hand out what they own. Plain theorems over any program. Ranges over functions whose items own memory; a region's operations, first in any order, by a statement over what is done, then in the one order that is left. Plain theorems over any program. Function values of any kind, called; scopes; composites with an array within, compared. Plain theorems over any program. What a function defers, and what comes of it when it leaves. Plain theorems over any program. Rows that are owned, turned in place: an append within its room out of the same row, clear; a slice asked whether it is nil. Plain theorems over any program. Frames of contracts: what else is owned stays; what is needed may be owned in another order. Plain theorems over any program. Arrays that come in, by their content. Plain theorems over any program. A region's operations, first in any order, by a statement over what is done, stores among them; then in the one order that is left. Plain theorems over any program. Ranges over functions whose iterator leaves what it owned turned, in a way that is known by the end alone. Plain theorems over any program. Maps: made, read, written, ranged over in any order. Plain theorems over any program. The shelf's contracts, taken over; slices of owned arrays. Plain theorems over any program. Blocks that become known while a cell holds their slice; results. Plain theorems over any program. -/
import Derived.Test.YtolpkeajokjbjaaDoorLgB
import Derived.Laws.CopyRow
import Derived.RangeFuncRecord
import Derived.Laws.Externs
import Derived.Lib.Bytealg
import Derived.Lib.IndexLaws
import Derived.DefersIn
import Derived.Lib.SliceRun
import Derived.OpenShut
import Derived.WideShapes
import Derived.Maps.RangeRun
import Derived.Sort.Row
set_option linter.unusedVariables false
set_option linter.unusedSimpArgs false
namespace Go.L
open Go.RowKit
section
variable {P : Program} {st : LS} {env : List (Nat × LV)} {H : List Atom} {K : LS → Prop} {ty : TypeId} {pos : String} {af : Array Edge} {g : Option (Nat × Bool)}
theorem LU.sliceOA {d : Option Tmp} {x : Operand} {t e : TypeId} {n b off size : Nat} (ht : P.underlying t = some (.array n e)) (hs : ∀ w, (sizeOf e).run P w = .ok size w) (hx : Is (ev env x) (.raw (.pointer (some ⟨b, off, none⟩)))) :
    LU P env H ⟨d, .slice t x none none none, ty, pos, af, g⟩ (.raw (.slice (some ⟨b, off, none⟩) n n)) := .raw fun ac hl w => by
  have h1 := hl x (by simp [Op.operands]) _ hx
  have hal : P.arrayLen t = n := by simp [Program.arrayLen, ht]
  have hel : P.elem t = e := by simp [Program.elem, ht]
  have := run_sliceAt_array_all (P := P) w t ⟨b, off, none⟩ (by rw [hal, hel]; exact ht)
  simp only [execOp, Option.map_none, h1, Sem.run_bind, this, hel, hs, Result.andThen_ok, hal, slicedAt, Sem.run_pure]
  have e0 : (if n = 0 then (⟨b, off, none⟩ : Addr) else (⟨b, off, none⟩ : Addr).add (0 * size)) = ⟨b, off, none⟩ := by split <;> simp [add_lit]
  rw [e0]
  simp
theorem Inv.learnTailF {w0 : Base} {ph : PH} {w w' : World} (h : Inv w0 ph w H) (hb : Below w.heap.size w w') {cs : Array Value} {t : TypeId} {fr : Nat × Nat} (hh : w'.heap[w.heap.size]? = some (.cells cs t fr)) (n c : Nat) (hc : c ≤ cs.size) (hfr : c ≤ fr.1) (h1 : ∀ (i : Nat) (c : Value), i < n → cs[i]? = some c → c.oneCell' = true) :
    Inv w0 (PH.ext ph w.heap.size 0 n cs) w' (.tail w.heap.size n c :: H) ∧ PH.le ph (PH.ext ph w.heap.size 0 n cs) := by
  have hle : PH.le ph (PH.ext ph w.heap.size 0 n cs) := PH.le_ext fun i _ _ => h.none_new (Nat.le_refl _)
  refine ⟨Inv.upd (H1 := []) (H2 := [.tail w.heap.size n c]) (R := H) h hle (fun F hF _ => ⟨Chg.below hb _, fun b o => b = w.heap.size ∧ n ≤ o ∧ o < c, ⟨_, fun _ _ => False, ⟨fun _ _ => Iff.rfl, fun i hi hj => ?_⟩, fun _ _ h => h, fun b o => by simp, fun _ _ _ h => h⟩, fun b o hg => .inr (by omega), fun a u ha => ?_⟩), hle⟩
  · have hlt : i < cs.size := by omega
    refine ⟨⟨cs[i], ?_⟩, ?_⟩
    · rw [cell_of_row w' w.heap.size i cs t fr hh, Array.getElem?_eq_getElem hlt]
    · obtain ⟨lo, hi2⟩ := fr
      simp only [World.frozen?, hh]
      simp
      intro h2
      simp only at hfr
      omega
  · rcases PH.ext_cases ha with ⟨e, _, h3, h4⟩ | h3
    · refine .inr ⟨⟨?_, h1 _ _ h3 h4⟩, fun hg => by omega, .inr (by rw [e]; exact Nat.le_refl _)⟩
      rw [e, cell_of_row w' w.heap.size a.off cs t fr hh]
      exact h4
    · exact .inl h3
theorem LO.tobytes {x : Operand} {src dst e : TypeId} {l : List UInt8} {u : TypeDesc} {d : Tmp} (hds : Nat.blt d st.n.k = true) (hs : P.underlying src = some u) (hd : P.underlying dst = some (.slice e)) (he : P.underlying e = some (.int .u8)) (hx : Is (ev st.env x) (Str l))
    (h : ∀ b o c, K ⟨st.n, (d, Bytes l (.tok b o c)) :: st.env, .tail b o c :: st.heap⟩) : LO P ⟨some d, .convert src dst x, ty, pos, af, g⟩ st K := .of_run hds fun w0 ph a w r => by
  have h1 := (hx _ _ (r.tmps.eval x)).rawE
  have hrun := Lib.run_convert_string_bytes (P := P) w src dst e ⟨l.toArray⟩ hs hd he
  have hb : Below w.heap.size w (Lib.bytesWorld w e ⟨l.toArray⟩) := ⟨rfl, rfl, rfl, by rw [Lib.bytesWorld_size]; omega, fun k hk => Lib.bytesWorld_at_old w e _ k hk⟩
  have hsz : (⟨l.toArray⟩ : ByteArray).size = l.length := by simp [ByteArray.size]
  have hge := grownCap_ge w (⟨l.toArray⟩ : ByteArray).size 0 e
  have hcs : ∀ i, i < l.length → (Lib.bytesCells w e ⟨l.toArray⟩)[i]? = (l.map fun b => Value.int .u8 b.toNat)[i]? := fun i hi => by
    simp [Lib.bytesCells, Array.getElem?_append, hi]
  have hcz : (Lib.bytesCells w e ⟨l.toArray⟩).size = grownCap w (⟨l.toArray⟩ : ByteArray).size 0 e := by
    simp [Lib.bytesCells] at hge ⊢
    omega
  have hone : ∀ (i : Nat) (c : Value), i < l.length → (Lib.bytesCells w e ⟨l.toArray⟩)[i]? = some c → c.oneCell' = true := fun i c hi hc => by
    rw [hcs i hi] at hc
    simp at hc
    obtain ⟨b, hb, rfl⟩ := hc
    rfl
  obtain ⟨hi, hle⟩ := r.inv.learnTailF hb (Lib.bytesWorld_at_new w e ⟨l.toArray⟩) l.length (Lib.bytesCells w e ⟨l.toArray⟩).size (Nat.le_refl _) (Nat.le_refl _) hone
  refine ⟨_, .slice (some ⟨w.heap.size, 0, none⟩) (⟨l.toArray⟩ : ByteArray).size (grownCap w (⟨l.toArray⟩ : ByteArray).size 0 e), Lib.bytesWorld w e ⟨l.toArray⟩, _, _, by simp [execOp, h1, hrun], hle, hi, ?_, h _ _ _⟩
  have hflat : CReps (PH.ext ph w.heap.size 0 l.length (Lib.bytesCells w e ⟨l.toArray⟩)) (l.map fun b => Value.int .u8 b.toNat).toArray (byteEls l).flatten := by
    rw [byteEls_flat]
    refine ⟨⟨by simp, fun i c x h1 h2 => ?_⟩, fun i c h1 => ?_⟩
    · simp at h1 h2
      obtain ⟨b, hb, rfl⟩ := h1
      obtain ⟨b', hb', rfl⟩ := h2
      rw [hb] at hb'
      injection hb' with hb'
      subst hb'
      exact .raw _
    · simp at h1
      obtain ⟨b, hb, rfl⟩ := h1
      rfl
  rw [hcz]
  rw [hsz] at hge ⊢
  exact rep_known (byteEls_size l) (by simp [byteEls]) (fun i hi' => by
    rw [Nat.mul_one] at hi'
    rw [Nat.zero_add, PH.ext_in ⟨Nat.zero_le _, hi'⟩, hcs i hi']
    simp) hflat hge (.inr ⟨0, rfl, by simp, by simp⟩)
theorem X.tobytes {nn : NN} {x : Operand} {src dst e : TypeId} {l : List UInt8} {u : TypeDesc} {d : Tmp} (hds : Nat.blt d nn.k = true) (hs : P.underlying src = some u) (hd : P.underlying dst = some (.slice e)) (he : P.underlying e = some (.int .u8)) (hx : Is (ev env x) (Str l))
    (h : ∀ b o c, K ⟨nn, (d, Bytes l (.tok b o c)) :: env, .tail b o c :: H⟩) : LO P ⟨some d, .convert src dst x, ty, pos, af, g⟩ ⟨nn, env, H⟩ K := LO.tobytes (st := ⟨nn, env, H⟩) hds hs hd he hx h
/-- copy(dst, src): dst owned cells of one cell each, src by its content. -/
theorem LO.copy {s x : Operand} {t tx e te : TypeId} {z : Value} {by_ b off n c : Nat} {xs : List LV} {ys : List (List LV)} {kk : Cap} {d : Tmp} (k : Nat) (hk : st.heap[k]? = some (.cells b te xs)) (hd : Nat.blt d st.n.k = true) (ht : P.underlying t = some (.slice e)) (hel : El P e z 1 by_)
    (hs : Is (ev st.env s) (.raw (.slice (some ⟨b, off, none⟩) n c))) (hx : Is (ev st.env x) (.sl 1 ys kk)) (hfit : off + n ≤ xs.length)
    (h : K ⟨st.n, (d, .raw (.int .i64 (min ys.length n : Nat))) :: st.env, .cells b te (putAt xs off (ys.flatten.take (min ys.length n))) :: st.heap.eraseIdx k⟩) :
    LO P ⟨some d, .call { callee := .builtin .copy, args := #[s, x], argTypes := #[t, tx] }, ty, pos, af, g⟩ st K := .of_run hd fun w0 ph a w rl => by
  have h1 := (hs _ _ (rl.tmps.eval s)).rawE
  have r := hx _ _ (rl.tmps.eval x)
  obtain ⟨A, m, cc, hu⟩ := rep_slice_form r
  rw [hu] at r
  obtain ⟨hes, hn, hnc, hcap⟩ := rep_es r
  obtain ⟨olds, hoc, hol, hcell⟩ := sl_cells rl.inv (by decide) r
  obtain ⟨⟨i, hi, hz, hsz, hby⟩, hzs, _⟩ := hel
  have hinfo : (P.info? e).map (·.size) = some 1 := by rw [hi, Option.map_some, hsz]
  have hfl := flatten_len hes
  have hrun : ∀ v w', (Builtin.copy_ #[t, tx] ty #[.slice (some ⟨b, off, none⟩) n c, .slice A m cc]).run P w = .ok v w' → (execOp a.eval ⟨some d, .call { callee := .builtin .copy, args := #[s, x], argTypes := #[t, tx] }, ty, pos, af, g⟩).run P w = .ok (.value v) w' := fun v w' h => by
    simp [execOp, resolve, invoke, builtin, h1, hu, h]
  have hinv := rl.inv.front k
  unfold L.front at hinv
  rw [hk] at hinv
  by_cases h0 : min ys.length n = 0
  · rw [h0] at h
    refine ⟨_, _, w, ph, _, hrun _ _ (run_copy_none w t tx ty e _ A n c m cc ht hinfo (by rw [← hn]; exact h0)), PH.le.refl _, hinv, .raw _, ?_⟩
    simpa [putAt, goInt] using h
  · obtain ⟨ad, rfl⟩ : ∃ ad, A = some ad := by
      cases A with
      | some ad => exact ⟨ad, rfl⟩
      | none =>
        exfalso
        cases r with | sl _ _ _ _ _ _ ad u hA hn' _ _ _ _ _ =>
          have := hA (by omega)
          cases this
    obtain ⟨F, hF, cs, hh, ⟨hl, hr⟩, ho⟩ := hinv.atom
    obtain ⟨q, hq⟩ : ∃ q, q = min ys.length n := ⟨_, rfl⟩
    have hlen : (olds.take q).length = q := by simp; omega
    have hlen2 : (ys.flatten.take q).length = q := by rw [List.length_take, hfl]; omega
    have hthere : ∀ j, j < (olds.take q).length → (w.cell? ⟨b, off + j, none⟩).isSome = true ∧ w.frozen? ⟨b, off + j, none⟩ = false := fun j hj => by
      have hlt : off + j < cs.size := by omega
      rw [cell_of_row w b (off + j) cs te (0, 0) hh, Array.getElem?_eq_getElem hlt]
      exact ⟨rfl, by simp [World.frozen?, hh]⟩
    have hold : ∀ j v, (olds.take q)[j]? = some v → olds[j]? = some v := fun j v hj => by
      rw [List.getElem?_take] at hj
      split at hj
      · exact hj
      · cases hj
    have hone : ∀ v ∈ olds.take q, v.oneCell' = true := fun v hv => by
      obtain ⟨j, hj⟩ := List.getElem?_of_mem hv
      exact hoc.2 j v (by simpa using hold j v hj)
    have hr2 := run_copy_cells (P := P) w t tx ty e b off n c ad m cc (olds.take q) ht hinfo (by rw [hlen, hq, hn]) (fun j v hj => (hcell ad rfl j v (hold j v hj)).2) (fun j hj => (hthere j hj).1) (fun j hj => (hthere j hj).2) hone
    rw [hlen] at hr2
    obtain ⟨cs', hh', hsz', hget⟩ := heap_setCells (olds.take q) off w cs hh (by omega)
    refine ⟨_, _, w.setCells b off (olds.take q), ph, _, hrun _ _ hr2, PH.le.refl _, hinv.turn (a' := .cells b te (putAt xs off (ys.flatten.take q))) (PH.le.refl _) (fun G hG hn => ⟨(chg_setCells _ w).mono (fun b' o' hb => (hG.1 b' o').2 hb), G, ⟨hG.1, cs', hh', ⟨by rw [putAt_length _ _ _ (by omega)]; omega, fun i c z hi hz => ?_⟩, fun i c hi => ?_⟩, fun b' o' hb => .inl hb, fun p u hp => .inl hp⟩), ?_, by rw [hq]; exact h⟩
    · rw [hget] at hi
      rw [putAt_get _ _ _ (by omega)] at hz
      rw [hlen] at hi
      rw [hlen2] at hz
      by_cases hin : off ≤ i ∧ i < off + q
      · rw [if_pos hin] at hi hz
        have hz2 : ys.flatten[i - off]? = some z := by
          rw [List.getElem?_take] at hz
          split at hz
          · exact hz
          · cases hz
        exact hoc.1.2 (i - off) c z (by simpa using hold _ _ hi) hz2
      · rw [if_neg hin] at hi hz
        exact hr i c z hi hz
    · rw [hget] at hi
      rw [hlen] at hi
      by_cases hin : off ≤ i ∧ i < off + q
      · rw [if_pos hin] at hi
        exact hone c (List.mem_of_getElem? hi)
      · rw [if_neg hin] at hi
        exact ho i c hi
    · rw [hq]; exact .raw _
theorem X.copy {nn : NN} {s x : Operand} {t tx e te : TypeId} {z : Value} {by_ b off n c : Nat} {xs : List LV} {ys : List (List LV)} {kk : Cap} {d : Tmp} (k : Nat) (hk : H[k]? = some (.cells b te xs)) (hd : Nat.blt d nn.k = true) (ht : P.underlying t = some (.slice e)) (hel : El P e z 1 by_)
    (hs : Is (ev env s) (.raw (.slice (some ⟨b, off, none⟩) n c))) (hx : Is (ev env x) (.sl 1 ys kk)) (hfit : off + n ≤ xs.length)
    (h : K ⟨nn, (d, .raw (.int .i64 (min ys.length n : Nat))) :: env, .cells b te (putAt xs off (ys.flatten.take (min ys.length n))) :: H.eraseIdx k⟩) :
    LO P ⟨some d, .call { callee := .builtin .copy, args := #[s, x], argTypes := #[t, tx] }, ty, pos, af, g⟩ ⟨nn, env, H⟩ K := LO.copy (st := ⟨nn, env, H⟩) k hk hd ht hel hs hx hfit h
end
end Go.L

set_option linter.unusedVariables false
set_option linter.unusedSimpArgs false
namespace Go.L
open Go.RowKit
/-- One operation, guard and all. -/
def LP (P : Program) (ops : Array Oper) (o : Oper) (st : LS) (K : LS → Prop) : Prop :=
  ∀ w0 ph a w, Rels w0 ph st a w → ∀ (N : Act → World → Prop) (Q : Exit → Act → World → Prop), (∀ ph' st' a' w', PH.le ph ph' → Rels w0 ph' st' a' w' → K st' → N a' w') →
    if Region.wanted o (yielded ops a.tmps) = true then owp P o a w N Q else N (a.put o.dst undef) w
/-- What is left of a region, in whatever order. -/
def LA (P : Program) (ops : Array Oper) (fuel : Nat) (S : Array Bool) (st : LS) (K : LS → Prop) : Prop :=
  ∀ w0 ph a w, Rels w0 ph st a w → ∀ Q : Exit → Act → World → Prop, (∀ ph' st' a' w', PH.le ph ph' → Rels w0 ph' st' a' w' → K st' → Q .normal a' w') → oany P .any ops Q fuel S a w
inductive LAs (P : Program) (ops : Array Oper) (fuel : Nat) (S : Array Bool) (st : LS) (K : LS → Prop) : List Nat → Prop where
  | nil : LAs P ops fuel S st K []
  | cons {i : Nat} {o : Oper} {l : List Nat} {S' : Array Bool} (ho : ops[i]? = some o) (hS : S.setIfInBounds i true = S') (h : LP P ops o st (fun s => LA P ops fuel S' s K)) (k : LAs P ops fuel S st K l) : LAs P ops fuel S st K (i :: l)
section
variable {P : Program} {ops : Array Oper} {st : LS} {K : LS → Prop} {o : Oper} {S : Array Bool}
theorem LAs.get {fuel : Nat} : ∀ {l : List Nat}, LAs P ops fuel S st K l → ∀ i ∈ l, ∃ o, ops[i]? = some o ∧ LP P ops o st (fun s => LA P ops fuel (S.setIfInBounds i true) s K)
  | _, .nil, i, hi => by cases hi
  | _, .cons ho hS h k, i, hi => by
    rcases List.mem_cons.1 hi with rfl | hi
    · exact ⟨_, ho, by rw [hS]; exact h⟩
    · exact LAs.get k i hi
theorem LA.done {fuel : Nat} (hr : Region.ready .any ops S = []) (h : K st) : LA P ops fuel S st K := fun w0 ph a w r Q k => by
  have := k ph st a w (PH.le.refl _) r h
  cases fuel with
  | zero => exact ⟨hr, this⟩
  | succ n => exact ⟨fun _ => this, fun i hi => by rw [hr] at hi; cases hi⟩
theorem LA.step {fuel : Nat} {i : Nat} {rs : List Nat} (hr : Region.ready .any ops S = i :: rs) (h : LAs P ops fuel S st K (i :: rs)) : LA P ops (fuel + 1) S st K := fun w0 ph a w r Q k => by
  refine ⟨fun h0 => (by rw [hr] at h0; cases h0), fun j hj => ?_⟩
  rw [hr] at hj
  obtain ⟨o, ho, hp⟩ := h.get j hj
  have := hp w0 ph a w r (oany P .any ops Q fuel (S.setIfInBounds j true)) Q fun ph' st' a' w' hle r' q => q w0 ph' a' w' r' Q fun ph2 st2 a2 w2 hle2 r2 q2 => k ph2 st2 a2 w2 (hle.trans hle2) r2 q2
  unfold oop
  rw [ho]
  simp only
  split
  · rename_i hw
    rw [if_pos hw] at this
    exact this
  · rename_i hw
    rw [if_neg hw] at this
    exact this
theorem LW.all {id : Nat} {ops : Array Oper} {Q : Exit → LS → Prop} (hmo : P.follows .mixedOrders = true) (h : LA P ops ops.size (Array.replicate ops.size false) st (fun s => Q .normal s)) (hnd : noDefer ops.toList = true) : LW P (.region id ops true) st Q := fun w0 ph a w r Q' k =>
  wpIn_region_any hmo (oany_in hnd _ <| h w0 ph a { w with drawn := w.drawn + 1 } ⟨r.inv.step ⟨rfl, rfl, rfl, Nat.le_refl _, fun _ _ => rfl⟩, r.defers, r.size, r.tmps⟩ Q' fun ph' st' a' w' hle r' q => k _ ph' st' a' w' hle r' q)
theorem LP.op (hg : o.guard = none) (h : LO P o st K) : LP P ops o st K := fun w0 ph a w r N Q k => by
  rw [if_pos (by simp [Region.wanted, hg])]
  exact h w0 ph a w r N Q k
theorem LP.q {v : LV} {d : Nat} (hq : LQ P ops st.env st.heap o v) (hd : o.dst = some d) (hds : Nat.blt d st.n.k = true) (h : K ⟨st.n, (d, v) :: st.env, st.heap⟩) : LP P ops o st K := fun w0 ph a w r N Q k => by
  refine hq w0 ph a w r.inv (fun t _ => r.tmps t) N Q fun ph' u w' hle hi hr => ?_
  rw [hd]
  exact k ph' _ _ w' hle (r.put hle hi hds hr) h
end
namespace A
section
variable {P : Program} {ops : Array Oper} {n : NN} {env : List (Nat × LV)} {H : List Atom} {K : LS → Prop} {ty : TypeId} {pos : String} {af : Array Edge} {g : Option (Nat × Bool)}
theorem u {v : LV} {d : Nat} {op : Op} (hq : LU P env H ⟨some d, op, ty, pos, af, none⟩ v) (hds : Nat.blt d n.k = true) (h : K ⟨n, (d, v) :: env, H⟩) : LP P ops ⟨some d, op, ty, pos, af, none⟩ ⟨n, env, H⟩ K := LP.q (st := ⟨n, env, H⟩) (LQ.plain rfl hq) rfl hds h
theorem gT {v : LV} {d j dj : Nat} {op : Op} {b : Bool} (hd : (ops[j]?).bind (·.dst) = some dj) (hb : get env dj = .raw (.bool b)) (hq : b = true → LU P env H ⟨some d, op, ty, pos, af, some (j, true)⟩ v) (hds : Nat.blt d n.k = true) (h : K ⟨n, (d, .when b v) :: env, H⟩) : LP P ops ⟨some d, op, ty, pos, af, some (j, true)⟩ ⟨n, env, H⟩ K := LP.q (st := ⟨n, env, H⟩) (.guardT rfl hd hb hq) rfl hds h
theorem gF {v : LV} {d j dj : Nat} {op : Op} {b : Bool} (hd : (ops[j]?).bind (·.dst) = some dj) (hb : get env dj = .raw (.bool b)) (hq : b = false → LU P env H ⟨some d, op, ty, pos, af, some (j, false)⟩ v) (hds : Nat.blt d n.k = true) (h : K ⟨n, (d, .when (!b) v) :: env, H⟩) : LP P ops ⟨some d, op, ty, pos, af, some (j, false)⟩ ⟨n, env, H⟩ K := LP.q (st := ⟨n, env, H⟩) (.guardF rfl hd hb hq) rfl hds h
theorem gT2 {v : LV} {d j dj : Nat} {op : Op} {b q : Bool} (hd : (ops[j]?).bind (·.dst) = some dj) (hb : get env dj = .when q (.raw (.bool b))) (hq : q = true → b = true → LU P env H ⟨some d, op, ty, pos, af, some (j, true)⟩ v) (hds : Nat.blt d n.k = true) (h : K ⟨n, (d, .when (q && b) v) :: env, H⟩) : LP P ops ⟨some d, op, ty, pos, af, some (j, true)⟩ ⟨n, env, H⟩ K := LP.q (st := ⟨n, env, H⟩) (.guardT2 rfl hd hb hq) rfl hds h
theorem gF2 {v : LV} {d j dj : Nat} {op : Op} {b q : Bool} (hd : (ops[j]?).bind (·.dst) = some dj) (hb : get env dj = .when q (.raw (.bool b))) (hq : q = true → b = false → LU P env H ⟨some d, op, ty, pos, af, some (j, false)⟩ v) (hds : Nat.blt d n.k = true) (h : K ⟨n, (d, .when (q && !b) v) :: env, H⟩) : LP P ops ⟨some d, op, ty, pos, af, some (j, false)⟩ ⟨n, env, H⟩ K := LP.q (st := ⟨n, env, H⟩) (.guardF2 rfl hd hb hq) rfl hds h
theorem doT {v : LV} {d j dj : Nat} {op : Op} (hd : (ops[j]?).bind (·.dst) = some dj) (hb : get env dj = .raw (.bool true)) (hq : LU P env H ⟨some d, op, ty, pos, af, some (j, true)⟩ v) (hds : Nat.blt d n.k = true) (h : K ⟨n, (d, v) :: env, H⟩) : LP P ops ⟨some d, op, ty, pos, af, some (j, true)⟩ ⟨n, env, H⟩ K := LP.q (st := ⟨n, env, H⟩) (X.lq_do rfl hd hb hq) rfl hds h
theorem doF {v : LV} {d j dj : Nat} {op : Op} (hd : (ops[j]?).bind (·.dst) = some dj) (hb : get env dj = .raw (.bool false)) (hq : LU P env H ⟨some d, op, ty, pos, af, some (j, false)⟩ v) (hds : Nat.blt d n.k = true) (h : K ⟨n, (d, v) :: env, H⟩) : LP P ops ⟨some d, op, ty, pos, af, some (j, false)⟩ ⟨n, env, H⟩ K := LP.q (st := ⟨n, env, H⟩) (X.lq_do rfl hd hb hq) rfl hds h
theorem skipF {d j dj : Nat} {op : Op} (hd : (ops[j]?).bind (·.dst) = some dj) (hb : get env dj = .raw (.bool true)) (hds : Nat.blt d n.k = true) (h : K ⟨n, (d, .raw undef) :: env, H⟩) : LP P ops ⟨some d, op, ty, pos, af, some (j, false)⟩ ⟨n, env, H⟩ K := LP.q (st := ⟨n, env, H⟩) (X.lq_skip rfl hd hb (by simp)) rfl hds h
theorem skipT {d j dj : Nat} {op : Op} (hd : (ops[j]?).bind (·.dst) = some dj) (hb : get env dj = .raw (.bool false)) (hds : Nat.blt d n.k = true) (h : K ⟨n, (d, .raw undef) :: env, H⟩) : LP P ops ⟨some d, op, ty, pos, af, some (j, true)⟩ ⟨n, env, H⟩ K := LP.q (st := ⟨n, env, H⟩) (X.lq_skip rfl hd hb (by simp)) rfl hds h
theorem skipU {d j dj : Nat} {op : Op} {want : Bool} (hd : (ops[j]?).bind (·.dst) = some dj) (hb : get env dj = .raw undef) (hds : Nat.blt d n.k = true) (h : K ⟨n, (d, .raw undef) :: env, H⟩) : LP P ops ⟨some d, op, ty, pos, af, some (j, want)⟩ ⟨n, env, H⟩ K := LP.q (st := ⟨n, env, H⟩) (X.lq_skipU rfl hd hb) rfl hds h
theorem act {op : Op} {d : Option Nat} (h : LO P ⟨d, op, ty, pos, af, none⟩ ⟨n, env, H⟩ K) : LP P ops ⟨d, op, ty, pos, af, none⟩ ⟨n, env, H⟩ K := LP.op rfl h
theorem actG {op : Op} {d : Option Nat} {j dj : Nat} {want : Bool} (hd : (ops[j]?).bind (·.dst) = some dj) (hb : get env dj = .raw (.bool want)) (h : LO P ⟨d, op, ty, pos, af, some (j, want)⟩ ⟨n, env, H⟩ K) : LP P ops ⟨d, op, ty, pos, af, some (j, want)⟩ ⟨n, env, H⟩ K := fun w0 ph a w r N Q k => by
  have hy := yields r.tmps hd hb
  rw [if_pos (by simp [Region.wanted, hy])]
  exact h w0 ph a w r N Q k
theorem weak {fuel : Nat} {S : Array Bool} {t : Nat} {v : LV} (hs : Is (get env t) v) (h : LA P ops fuel S ⟨n, (t, v) :: env, H⟩ K) : LA P ops fuel S ⟨n, env, H⟩ K := fun w0 ph a w r Q k => h w0 ph a w ⟨r.inv, r.defers, r.size, fun i => by
  by_cases hi : t = i
  · subst hi; rw [get_same]; exact hs _ _ (r.tmps t)
  · rw [get_other hi]; exact r.tmps i⟩ Q k
theorem all {id : Nat} {Q : Exit → LS → Prop} {S : Array Bool} {m : Nat} (hmo : P.follows .mixedOrders = true) (hm : ops.size = m) (hS : Array.replicate m false = S) (h : LA P ops m S ⟨n, env, H⟩ (fun s => Q .normal s)) (hnd : noDefer ops.toList = true := by kernel_rfl) : LW P (.region id ops true) ⟨n, env, H⟩ Q := by
  subst hm
  subst hS
  exact LW.all hmo h hnd
end
end A
section
variable {P : Program} {env : List (Nat × LV)} {H : List Atom} {d : Option Tmp} {ty : TypeId} {pos : String} {af : Array Edge} {g : Option (Nat × Bool)}
theorem LU.sliceKH {x y : Operand} {t e : TypeId} {n b off : Nat} {ki : IntKind} {hh : Int} {xs : List LV} (k : Nat) (hk : H[k]? = some (.known b xs)) (ht : P.underlying t = some (.array n e)) (hs : ∀ w, (sizeOf e).run P w = .ok 1 w) (hx : Is (ev env x) (.raw (.pointer (some ⟨b, off, none⟩)))) (hy : Is (ev env y) (.raw (.int ki hh))) (h0 : 0 ≤ hh) (h1 : hh ≤ n) (hm : off + n ≤ xs.length) :
    LU P env H ⟨d, .slice t x none (some y) none, ty, pos, af, g⟩ (.sl 1 (singles ((xs.drop off).take hh.toNat)) .unk) := .of_run fun ph a hl w0 w hinv => by
  have h2 := (hx _ _ (hl x (by simp [Op.operands]))).rawE
  have h3 := (hy _ _ (hl y (by simp [Op.operands]))).rawE
  have hal : P.arrayLen t = n := by simp [Program.arrayLen, ht]
  have hel : P.elem t = e := by simp [Program.elem, ht]
  have := run_sliceAt_array_h (P := P) w t ⟨b, off, none⟩ (by rw [hal, hel]; exact ht) ki hh h0 (by rw [hal]; exact h1)
  have e0 : (if n = 0 then (⟨b, off, none⟩ : Addr) else (⟨b, off, none⟩ : Addr).add (0 * 1)) = ⟨b, off, none⟩ := by split <;> simp [add_lit]
  refine ⟨.slice (some ⟨b, off, none⟩) hh.toNat n, ?_, known_sl hinv hk (by omega) (by omega) trivial⟩
  simp only [execOp, Option.map_none, Option.map_some, h2, h3, Sem.run_bind, this, hel, hs, Result.andThen_ok, hal, slicedAt, Sem.run_pure]
  rw [e0]
  simp
end
end Go.L

set_option linter.unusedVariables false
set_option linter.unusedSimpArgs false
namespace Go.L
open Go.RowKit
theorem Inv.putObj {w0 : Base} {ph : PH} {w : World} {H : List Atom} {g : Nat} {o : Obj} (h : Inv w0 ph w (.obj g o :: H)) (o' : Obj) : Inv w0 ph (w.putObj g o') (.obj g o' :: H) := by
  obtain ⟨F, hF, ho⟩ := h.atom
  have hlt : g < w.heap.size := lt_of_some ho
  exact h.turn (PH.le.refl _) fun G hG hn => ⟨Chg.blocks rfl rfl rfl (by simp) (fun b => b = g) (fun b hb o => (hG.1 b o).2 hb) (fun b _ hb => World.putObj_heap_other hb), G, ⟨hG.1, World.putObj_heap_same hlt⟩, fun b o hb => .inl hb, fun p u hp => .inl hp⟩
theorem Inv.newObj {w0 : Base} {ph : PH} {w : World} {H : List Atom} (h : Inv w0 ph w H) (o : Obj) : Inv w0 ph (w.alloc o) (.obj w.heap.size o :: H) :=
  h.new ((Below.refl _ _).alloc (Nat.le_refl _) _) (G := fun b _ => b = w.heap.size) ⟨fun _ _ => Iff.rfl, heap_new w o⟩ (fun b _ hb => by rw [hb]; exact Nat.le_refl _)
theorem Inv.obj_at {w0 : Base} {ph : PH} {w : World} {H : List Atom} {g : Nat} {o : Obj} (h : Inv w0 ph w (.obj g o :: H)) : w.heap[g]? = some o := by
  obtain ⟨F, hF, ho⟩ := h.atom
  exact ho
/-- A call of yield: what it gives and what is owned then. -/
def LYields (P : Program) (yv : Value) (args : List LV) (H : List Atom) (post : LV → List Atom → Prop) : Prop :=
  ∀ (R : List Atom) w0 ph w (vs : Array Value), Inv w0 ph w (H ++ R) → Reps ph vs args →
    ∃ l fn tmps assign body, yv = .func (.yield l) #[] #[] ∧ (Instr.yield l vs).run P w = .ok (.round l fn tmps assign body) w ∧
      RoundIn Fence.wide 0 P l fn tmps assign body w fun e w' => ∃ v ph' r H', e = .returned v ∧ PH.le ph ph' ∧ Inv w0 ph' w' (H' ++ R) ∧ Rep ph' v r ∧ post r H'
theorem LYields.mono {P : Program} {yv : Value} {args : List LV} {H : List Atom} {post post' : LV → List Atom → Prop} (h : LYields P yv args H post) (hp : ∀ r H', post r H' → post' r H') : LYields P yv args H post' := fun R w0 ph w vs i r => by
  obtain ⟨l, fn, tmps, as, bd, h1, h2, h3⟩ := h R w0 ph w vs i r
  exact ⟨l, fn, tmps, as, bd, h1, h2, h3.mono fun e w' ⟨v, ph', x, H', q1, q2, q3, q4, q5⟩ => ⟨v, ph', x, H', q1, q2, q3, q4, hp _ _ q5⟩⟩
section
variable {P : Program} {st : LS} {n : NN} {env : List (Nat × LV)} {H : List Atom} {K : LS → Prop} {ty : TypeId} {pos : String} {af : Array Edge} {g : Option (Nat × Bool)}
theorem LO.yield {t : Operand} {as : Array Operand} {ts : Array TypeId} {vs : List LV} {yv : Value} {Hc R : List Atom} {post : LV → List Atom → Prop} {d : Tmp} (hy : LYields P yv vs Hc post) (ht : Is (ev st.env t) (.raw yv)) (hd : Nat.blt d st.n.k = true) (hsub : HSub st.heap (Hc ++ R)) (ha : Opds st.env as.toList vs)
    (h : ∀ r H', post r H' → K ⟨st.n, (d, r) :: st.env, H' ++ R⟩) : LO P ⟨some d, .call { callee := .value t, args := as, argTypes := ts }, ty, pos, af, g⟩ st K := fun w0 ph a w r N Q k => by
  have hargs := ha.reps (a := a) (ph := ph) (fun x _ => r.tmps.eval x)
  have htv := (ht _ _ (r.tmps.eval t)).rawE
  obtain ⟨l, fn, tmps, asg, body, hyv, hrun0, hround⟩ := hy R w0 ph w (as.map a.eval) (hsub.app r.inv) (by rw [map_arr a.eval as]; exact hargs)
  have hrun : (execOp a.eval ⟨some d, .call { callee := .value t, args := as, argTypes := ts }, ty, pos, af, g⟩).run P w = .ok (.round l fn tmps asg body) w := by
    rw [hyv] at htv
    simp [execOp, resolve, htv, Deferred.ofValue, invoke, hrun0]
  unfold owp
  rw [hrun, Oper.uponIn_round]
  refine ⟨fun h => (by cases h), hround.mono ?_⟩
  rintro e w' ⟨v, ph', x, H', rfl, hle, hi, hx, hp⟩
  exact k ph' _ _ w' hle (r.put hle hi hd hx) (h x H' hp)
theorem X.yield {t : Operand} {as : Array Operand} {ts : Array TypeId} {vs : List LV} {yv : Value} {Hc R : List Atom} {post : LV → List Atom → Prop} {d : Tmp} (hy : LYields P yv vs Hc post) (ht : Is (ev env t) (.raw yv)) (hd : Nat.blt d n.k = true) (hsub : HSub H (Hc ++ R)) (ha : Opds env as.toList vs)
    (h : ∀ r H', post r H' → K ⟨n, (d, r) :: env, H' ++ R⟩) : LO P ⟨some d, .call { callee := .value t, args := as, argTypes := ts }, ty, pos, af, g⟩ ⟨n, env, H⟩ K := LO.yield (st := ⟨n, env, H⟩) hy ht hd hsub ha h
end
/-- An iterator: whoever takes, its items come one by one, till the taker says no more; of what it owned (Hi) Hi' is left. -/
def LIter (P : Program) (gf : FuncId) (caps : Array Value) (items : List (List LV)) (Hi Hi' : List Atom) : Prop :=
  ∀ (α β : Type) (F : α → List Atom) (G : β → List Atom) (φ : Nat → α → Prop) (ψ : β → Prop) (yv : Value),
    (∀ k p x, items[k]? = some x → φ k p → LYields P yv x (F p) (fun r H' => (∃ q, r = .raw (.bool true) ∧ φ (k + 1) q ∧ H' = F q) ∨ (∃ q, r = .raw (.bool false) ∧ ψ q ∧ H' = G q))) →
    ∀ p0, φ 0 p0 → LCalls P gf (.raw yv :: raws caps.toList) (Hi ++ F p0) (fun r H' => (∃ q, φ items.length q ∧ H' = Hi' ++ F q) ∨ (∃ q, ψ q ∧ H' = Hi' ++ G q))
/-- The slots at a round's beginning. -/
def setP : List Tmp → List LV → List (Nat × LV) → List (Nat × LV)
  | t :: ts, x :: xs, env => setP ts xs ((t, x) :: env)
  | _, _, env => env
theorem env_setP {ph : PH} : ∀ (ps : List Tmp) (vs : List Value) (xs : List LV) (env : List (Nat × LV)) (a : Act), (∀ t ∈ ps, t < a.tmps.size) → vs.length = xs.length → (∀ (i : Nat) v x, vs[i]? = some v → xs[i]? = some x → Rep ph v x) → Env ph env a →
    Env ph (setP ps xs env) ⟨(ps.zip vs).foldl (fun tmps (t, v) => tmps.setIfInBounds t v) a.tmps, a.defers⟩ ∧ ((ps.zip vs).foldl (fun tmps (t, v) => tmps.setIfInBounds t v) a.tmps).size = a.tmps.size
  | [], vs, xs, env, a, _, _, _, h => by cases xs <;> exact ⟨h, rfl⟩
  | t :: ps, [], [], env, a, _, _, _, h => ⟨h, rfl⟩
  | t :: ps, v :: vs, x :: xs, env, a, hp, hl, hr, h => by
    have h1 := (h.put (d := t) (hp t (by simp)) (hr 0 v x rfl rfl))
    have := env_setP ps vs xs ((t, x) :: env) (a.put (some t) v) (fun t' ht' => by rw [put_size]; exact hp t' (by simp [ht'])) (by simpa using hl) (fun i v' x' h1 h2 => hr (i + 1) v' x' h1 h2) h1
    rw [put_size] at this
    exact this
  | t :: ps, [], x :: xs, env, a, _, hl, _, h => by simp at hl
  | t :: ps, v :: vs, [], env, a, _, hl, _, h => by simp at hl
theorem Inv.since {w0 : Base} {ph : PH} {w : World} {H : List Atom} (h : Inv w0 ph w H) : Inv w0 ph w (.since ph :: H) := by
  obtain ⟨hb, hc, h1, F, hs, hF⟩ := h
  exact ⟨hb, hc, h1, F, ⟨fun _ _ => False, F, ⟨fun _ _ h => h, PH.le.refl _⟩, hs, fun b o => by simp, fun _ _ h => h.elim⟩, hF⟩
theorem Inv.since_at {w0 : Base} {ph p : PH} {w : World} {H : List Atom} (h : Inv w0 ph w (.since p :: H)) : PH.le p ph := by
  obtain ⟨F, hF, ho⟩ := h.atom
  exact ho
theorem HSub.prefix (A B : List Atom) : HSub (A ++ B) A := HSub.of fun ph w F h => by
  obtain ⟨F1, F2, h1, h2, h3, h4⟩ := Sep.split h
  exact ⟨F1, h1, fun b o h => (h3 b o).2 (.inl h)⟩
open Classical in
theorem perm_of {H K : List Atom} (h : ∀ x, H.count x = K.count x) : H.Perm K := List.perm_iff_count.2 h
/-- The mark that a loop over a function leaves among the deferred calls. -/
def markOf (D : Nat) : Deferred := { target := .collected D, args := #[] }
/-- What a round of such a loop must do. -/
abbrev RoundOk (P : Program) (k0 : Nat) (env : List (Nat × LV)) (ps : List Tmp) (assign body : Code) (items : List (List LV)) {α β : Type} (F : α → List Atom) (G : β → List Atom) (φ : Nat → α → Prop) (L : Code → β → Prop) : Prop :=
  ∀ (k : Nat) (p : α) (x : List LV), items[k]? = some x → φ k p → ∀ R', LW P assign ⟨⟨k0, [], false⟩, setP ps x env, F p ++ R'⟩ (after P [] (fun e s => e = .normal ∧ ∃ A env', s = ⟨⟨k0, [], false⟩, env', A ++ R'⟩ ∧ ∀ R'', LW P body ⟨⟨k0, [], false⟩, env', A ++ R''⟩ (after P [] (fun e s' =>
      match e with
      | .normal => ∃ q, φ (k + 1) q ∧ HSub s'.heap (F q ++ R'')
      | .ret => ∃ q, L .ret q ∧ HSub s'.heap (G q ++ R'')
      | .exit id => ∃ q, L (.exit id) q ∧ HSub s'.heap (G q ++ R'')
      | _ => False))))
theorem range_yields {P : Program} {env : List (Nat × LV)} {ps : Array Tmp} {assign body : Code} {items : List (List LV)} {α β : Type} {F : α → List Atom} {G : β → List Atom} {φ : Nat → α → Prop} {L : Code → β → Prop} {k0 : Nat} {ph : PH} {a : Act} {rec : Loop} {l : Nat}
    (round : RoundOk P k0 env ps.toList assign body items F G φ L) (hsize : a.tmps.size = k0) (htmps : Env ph env a) (hps' : ∀ t ∈ ps.toList, t < a.tmps.size) (hit : ∀ x ∈ items, x.length = ps.size)
    (hrf : rec.assign = assign ∧ rec.body = body ∧ rec.params = ps ∧ rec.tmps = a.tmps ∧ rec.state = .ready ∧ rec.pending = none) :
    ∀ k p x, items[k]? = some x → φ k p → LYields P (.func (.yield l) #[] #[]) x (.since ph :: .obj l (.loop rec) :: F p) (fun r H' => (∃ q, r = .raw (.bool true) ∧ φ (k + 1) q ∧ H' = .since ph :: .obj l (.loop rec) :: F q) ∨ (∃ q : Code × β, r = .raw (.bool false) ∧ L q.1 q.2 ∧ H' = .since ph :: .obj l (.loop { rec with state := .done, pending := some q.1 }) :: G q.2)) := by
  intro k p x hx hp R1 w2 ph1 w3 vs hi hr
  have hle1 := hi.since_at
  obtain ⟨rfl, rfl, rfl, h4, h5, h6⟩ := hrf
  have hlen : vs.size = rec.params.size := by rw [hr.1, hit x (List.mem_of_getElem? hx)]
  have hi3 : Inv w2 ph1 w3 (.obj l (.loop rec) :: (F p ++ (.since ph :: R1))) := (HSub.perm (perm_of fun x => (by simp only [List.count_append, List.count_cons]; omega))).app hi
  have hry := run_yield (P := P) (args := vs) hi3.obj_at hlen
  refine ⟨l, _, _, _, _, rfl, hry, ?_⟩
  refine roundIn_of_wpIn trivial ?_
  have hps2 := env_setP (ph := ph1) rec.params.toList vs.toList x env a hps' (by simpa using hr.1) (fun i v y h1 h2 => hr.2 i v y (by simpa using h1) h2) (htmps.mono hle1)
  have hzip : (rec.params.zip vs).foldl (fun tmps (x : Nat × Value) => match x with | (t, a) => tmps.setIfInBounds t a) rec.tmps = (rec.params.toList.zip vs.toList).foldl (fun tmps (t, v) => tmps.setIfInBounds t v) a.tmps := by
    rw [← Array.foldl_toList, Array.toList_zip, h4]
  rw [hzip]
  obtain ⟨T, hT⟩ : ∃ T, T = (rec.params.toList.zip vs.toList).foldl (fun tmps (t, v) => tmps.setIfInBounds t v) a.tmps := ⟨_, rfl⟩
  rw [← hT] at hps2 ⊢
  have hi4 : Inv ⟨w2.w, some l⟩ ph1 w3 (F p ++ (.obj l (.loop rec) :: .since ph :: R1)) := ((HSub.perm (perm_of fun x => (by simp only [List.count_append, List.count_cons]; omega))).app hi3).ro _
  refine round k p x hx hp (.obj l (.loop rec) :: .since ph :: R1) ⟨w2.w, some l⟩ ph1 ⟨T, []⟩ w3 ⟨hi4, ⟨rfl, fun h => by cases h⟩, hps2.2.trans hsize, fun d => hps2.1 d⟩ _ fun e ph2 st2 a2 w4 hle2 r2 q2 => ?_
  obtain ⟨he, A, env', hst, hbody⟩ := q2
  subst he
  subst hst
  have hi5 : Inv ⟨w2.w, some l⟩ ph2 w4 (.obj l (.loop rec) :: (A ++ (.since ph :: R1))) := (HSub.perm (perm_of fun x => (by simp only [List.count_append, List.count_cons]; omega))).app r2.inv
  refine ⟨_, run_beginRound hi5.obj_at h5, ?_⟩
  have hi6 : Inv ⟨w2.w, some l⟩ ph2 (w4.putObj l (.loop { rec with state := .busy })) (A ++ (.obj l (.loop { rec with state := .busy }) :: .since ph :: R1)) := (HSub.perm (perm_of fun x => (by simp only [List.count_append, List.count_cons]; omega))).app (hi5.putObj _)
  refine hbody (.obj l (.loop { rec with state := .busy }) :: .since ph :: R1) ⟨w2.w, some l⟩ ph2 a2 _ ⟨hi6, r2.defers, r2.size, r2.tmps⟩ _ fun e ph3 st3 a3 w5 hle3 r3 q3 => ?_
  have fin : ∀ (H' : List Atom) (j : Option Code), HSub st3.heap (H' ++ (.obj l (.loop { rec with state := .busy }) :: .since ph :: R1)) → ∃ w6, (Instr.endRound l j).run P w5 = .ok (.bool j.isNone) w6 ∧ Inv w2 ph3 w6 ((.since ph :: .obj l (.loop { rec with state := if j.isNone then .ready else .done, pending := j }) :: H') ++ R1) := fun H' j hh => by
    have hi7 : Inv ⟨w2.w, some l⟩ ph3 w5 (.obj l (.loop { rec with state := .busy }) :: (H' ++ (.since ph :: R1))) := (HSub.perm (perm_of fun x => (by simp only [List.count_append, List.count_cons]; omega))).app (hh.app r3.inv)
    exact ⟨_, run_endRound j hi7.obj_at, ((HSub.perm (perm_of fun x => (by simp only [List.count_append, List.count_cons]; omega))).app (hi7.putObj _)).ro'⟩
  cases e with
  | normal =>
    obtain ⟨q, hq, hh⟩ := q3
    obtain ⟨w6, h1, h2⟩ := fin _ none hh
    have hrr : ({ rec with state := .ready, pending := none } : Loop) = rec := by rw [← h5, ← h6]
    simp only [Option.isNone_none, if_true, hrr] at h1 h2
    exact ⟨_, w6, h1, _, ph3, .raw (.bool true), _, rfl, (hle2.trans hle3), h2, .raw _, .inl ⟨q, rfl, hq, rfl⟩⟩
  | ret =>
    obtain ⟨q, hq, hh⟩ := q3
    obtain ⟨w6, h1, h2⟩ := fin _ (some .ret) hh
    exact ⟨_, w6, h1, _, ph3, .raw (.bool false), .since ph :: .obj l (.loop { rec with state := .done, pending := some .ret }) :: G q, rfl, (hle2.trans hle3), h2, .raw _, .inr ⟨(.ret, q), rfl, hq, rfl⟩⟩
  | exit id =>
    obtain ⟨q, hq, hh⟩ := q3
    obtain ⟨w6, h1, h2⟩ := fin _ (some (.exit id)) hh
    exact ⟨_, w6, h1, _, ph3, .raw (.bool false), .since ph :: .obj l (.loop { rec with state := .done, pending := some (.exit id) }) :: G q, rfl, (hle2.trans hle3), h2, .raw _, .inr ⟨(.exit id, q), rfl, hq, rfl⟩⟩
  | goto i => exact (show False from q3).elim
  | panic c => exact (show False from q3).elim
  | outgrown => exact (show False from q3).elim
set_option maxHeartbeats 1000000 in
/-- for .. := range g { .. } -/
theorem LW.range {P : Program} {st : LS} {Q : Exit → LS → Prop} {gop : Operand} {ps : Array Tmp} {assign body : Code} {gf : FuncId} {fn : Func} {caps : Array Value} {items : List (List LV)} {Hi Hi' R : List Atom}
    (hg : Is (ev st.env gop) (.raw (.func (.func gf) #[] caps))) (htop : st.n.top = true) (hf : P.funcs[gf]? = some fn) (hname : (fn.name == "runtime.NumGoroutine") = false) (hb : fn.body.isSome = true) (it : LIter P gf caps items Hi Hi')
    (hps : (ps.toList.all fun t => Nat.blt t st.n.k) = true) (hit : ∀ x ∈ items, x.length = ps.size)
    {α β : Type} (F : α → List Atom) (G : β → List Atom) (φ : Nat → α → Prop) (L : Code → β → Prop) (p0 : α) (h0 : φ 0 p0) (hsub : HSub st.heap (Hi ++ (F p0 ++ R)))
    (round : RoundOk P st.n.k st.env ps.toList assign body items F G φ L)
    (done : ∀ D q, φ items.length q → Q .normal ⟨⟨st.n.k, markOf D :: st.n.df, true⟩, st.env, Hi' ++ (F q ++ (.obj D (.deferred (some [])) :: R))⟩)
    (left : ∀ D c q, L c q → LW P c ⟨⟨st.n.k, markOf D :: st.n.df, true⟩, st.env, Hi' ++ (G q ++ (.obj D (.deferred (some [])) :: R))⟩ Q) : LW P (.rangeFunc gop ps assign body) st Q := fun w0 ph a w r Q' kk => by
  have hro : w0.ro = none := r.defers.2 htop
  have hgv := (hg _ _ (r.tmps.eval gop)).rawE
  have hps' : ∀ t ∈ ps.toList, t < a.tmps.size := fun t ht => by
    have := List.all_eq_true.1 hps t ht
    rw [r.size]
    exact Nat.le_of_ble_eq_true this
  rw [hro]
  refine wpIn_rangeFunc fun fid _ => ?_
  obtain ⟨rec, hrec⟩ : ∃ rec : Loop, rec = { state := .ready, pending := none, fn := fid, tmps := a.tmps, params := ps, assign, body, defers := w.heap.size } := ⟨_, rfl⟩
  obtain ⟨l, hl⟩ : ∃ l, l = w.heap.size + 1 := ⟨_, rfl⟩
  obtain ⟨D, hD⟩ : ∃ D, D = w.heap.size := ⟨_, rfl⟩
  obtain ⟨w1, hw1⟩ : ∃ w1, w1 = (w.alloc (.deferred (some []))).alloc (.loop rec) := ⟨_, rfl⟩
  have hent : (Instr.enterLoop fid a.tmps ps assign body none).run P w = .ok (l, [markOf D]) w1 := by rw [hl, hD, hw1, hrec]; exact run_enterLoop_outer _ _ _ _ _
  have hcv : a.eval (.const (.func (.yield l) #[] #[])) = .func (.yield l) #[] #[] := rfl
  have hres : (resolve a.eval (rangeCall gop l) 0).run P w1 = .ok { target := .fn (.func gf) caps, args := #[.func (.yield l) #[] #[]] } w1 := by simp [resolve, hgv, Deferred.ofValue, hcv]
  have hinv : (invoke (.fn (.func gf) caps) #[.func (.yield l) #[] #[]]).run P w1 = .ok (.enter gf (#[.func (.yield l) #[] #[]] ++ caps)) w1 := by simp [invoke, enters hf hname hb]
  refine ⟨l, [markOf D], w1, _, w1, gf, _, w1, hent, hres, fun _ _ => trivial, hinv, fun h => (by cases h), ?_⟩
  have hi1 := ((hsub.app r.inv).newObj (.deferred (some []))).newObj (.loop rec)
  rw [show (w.alloc (.deferred (some []))).heap.size = l by rw [hl]; simp, ← hD, ← hw1] at hi1
  have hi2 : Inv w0 ph w1 ((Hi ++ (.since ph :: .obj l (.loop rec) :: F p0)) ++ (.obj D (.deferred (some [])) :: R)) :=
    (HSub.perm (perm_of fun x => (by simp only [List.count_append, List.count_cons]; omega))).app hi1.since
  have hyl := range_yields (ph := ph) (l := l) (rec := rec) round r.size r.tmps hps' hit (by rw [hrec]; exact ⟨rfl, rfl, rfl, rfl, rfl, rfl⟩)
  have hdf : [markOf D] ++ a.defers = markOf D :: st.n.df := by rw [r.defers.1]; rfl
  have hcall := it α (Code × β) (fun p => .since ph :: .obj l (.loop rec) :: F p) (fun q => .since ph :: .obj l (.loop { rec with state := .done, pending := some q.1 }) :: G q.2) φ (fun q => L q.1 q.2) (.func (.yield l) #[] #[]) hyl p0 h0
  have hrp : Reps ph (#[.func (.yield l) #[] #[]] ++ caps) (.raw (.func (.yield l) #[] #[]) :: raws caps.toList) := Reps.append (reps_cons (.raw _) reps_nil) (reps_raws caps)
  refine callsIn_wide.2 ((hcall (.obj D (.deferred (some [])) :: R) w0 ph w1 _ hi2 hrp).mono ?_)
  rintro e w2 ⟨v, ph2, x, H', rfl, hle2, hi, hx, hp⟩
  rcases hp with ⟨q, hq, rfl⟩ | ⟨⟨c, q⟩, hq, rfl⟩
  · have hi3 : Inv w0 ph2 w2 (.obj l (.loop rec) :: (Hi' ++ (F q ++ (.obj D (.deferred (some [])) :: R)) ++ [.since ph])) := (HSub.perm (perm_of fun x => (by simp only [List.count_append, List.count_cons, List.count_nil]; omega))).app hi
    have hpn : rec.pending = none := by rw [hrec]
    refine ⟨rec.pending, _, run_endLoop (P := P) hi3.obj_at (by rw [hrec]; simp), ?_⟩
    have hi4 := hi3.putObj (.loop { rec with state := .exhausted })
    rw [hpn] at hi4 ⊢
    refine kk .normal ph2 ⟨⟨st.n.k, markOf D :: st.n.df, true⟩, st.env, Hi' ++ (F q ++ (.obj D (.deferred (some [])) :: R))⟩ ⟨a.tmps, [markOf D] ++ a.defers⟩ _ hle2 ⟨?_, ⟨hdf, fun _ => hro⟩, r.size, r.tmps.mono hle2⟩ (done D q hq)
    exact ((HSub.drop (HSub.refl _)).trans (HSub.prefix _ _)).app hi4
  · have hi3 : Inv w0 ph2 w2 (.obj l (.loop { rec with state := .done, pending := some c }) :: (Hi' ++ (G q ++ (.obj D (.deferred (some [])) :: R)) ++ [.since ph])) := (HSub.perm (perm_of fun x => (by simp only [List.count_append, List.count_cons, List.count_nil]; omega))).app hi
    refine ⟨some c, _, run_endLoop (P := P) hi3.obj_at (by simp), ?_⟩
    have hi4 := hi3.putObj (.loop { { rec with state := .done, pending := some c } with state := .exhausted })
    have := left D c q hq w0 ph2 { a with defers := [markOf D] ++ a.defers } _ ⟨((HSub.drop (HSub.refl _)).trans (HSub.prefix _ _)).app hi4, ⟨hdf, fun _ => hro⟩, r.size, r.tmps.mono hle2⟩ Q' (fun e ph3 st3 a3 w3 hle3 r3 q3 => kk e ph3 st3 a3 w3 (hle2.trans hle3) r3 q3)
    rw [hro] at this
    exact this
theorem X.range {P : Program} {k0 : Nat} {df : List Deferred} {env : List (Nat × LV)} {H : List Atom} {Q : Exit → LS → Prop} {t : List It} {gop : Operand} {ps : Array Tmp} {assign body : Code} {gf : FuncId} {fn : Func} {caps : Array Value} {items : List (List LV)} {Hi Hi' R : List Atom}
    (hg : Is (ev env gop) (.raw (.func (.func gf) #[] caps))) (hf : P.funcs[gf]? = some fn) (hname : (fn.name == "runtime.NumGoroutine") = false) (hb : fn.body.isSome = true) (it : LIter P gf caps items Hi Hi')
    (hps : (ps.toList.all fun t => Nat.blt t k0) = true) (hit : ∀ x ∈ items, x.length = ps.size)
    {α β : Type} (F : α → List Atom) (G : β → List Atom) (φ : Nat → α → Prop) (L : Code → β → Prop) (p0 : α) (h0 : φ 0 p0) (hsub : HSub H (Hi ++ (F p0 ++ R)))
    (round : RoundOk P k0 env ps.toList assign body items F G φ L)
    (done : ∀ D q, φ items.length q → after P t Q .normal ⟨⟨k0, markOf D :: df, true⟩, env, Hi' ++ (F q ++ (.obj D (.deferred (some [])) :: R))⟩)
    (left : ∀ D c q, L c q → LW P c ⟨⟨k0, markOf D :: df, true⟩, env, Hi' ++ (G q ++ (.obj D (.deferred (some [])) :: R))⟩ (after P t Q)) : LW P (.rangeFunc gop ps assign body) ⟨⟨k0, df, true⟩, env, H⟩ (after P t Q) :=
  LW.range (st := ⟨⟨k0, df, true⟩, env, H⟩) hg rfl hf hname hb it hps hit F G φ L p0 h0 hsub round done left
theorem Leaves.mark {P : Program} {rs : Array ResultVar} {R H' : List Atom} {post : LV → List Atom → Prop} {s : LS} {r : LV} {D : Nat} (k : Nat) (hk : s.heap[k]? = some (.obj D (.deferred (some [])))) (hd : s.n.df = [markOf D]) (hr : Res P rs ⟨s.n, s.env, s.heap.eraseIdx k⟩ r) (hh : HSub (s.heap.eraseIdx k) (H' ++ R)) (hp : post r H') : Leaves P rs R post s := fun w0 ph a w fn hfn rl => by
  rw [rl.defers.1, hd]
  have hi := rl.inv.front k
  unfold L.front at hi
  rw [hk] at hi
  have hi2 := (HSub.drop (HSub.refl _)).app (hi.putObj (.deferred none))
  obtain ⟨v, hrun, hrep⟩ := hr w0 ph a _ fn hfn ⟨hi2, rl.defers, rl.size, rl.tmps⟩
  exact ⟨by simp, .inl ⟨D, _, rfl, run_takeDeferred hi.obj_at, v, hrun, v, ph, r, H', rfl, PH.le.refl _, hh.app hi2, hrep, hp⟩⟩
theorem X.retM {P : Program} {n : NN} {env : List (Nat × LV)} {H : List Atom} {rs : Array ResultVar} {R H' : List Atom} {post : LV → List Atom → Prop} {r : LV} {D : Nat} (k : Nat) (hk : H[k]? = some (.obj D (.deferred (some [])))) (hr : Res P rs ⟨n, env, H.eraseIdx k⟩ r) (hh : HSub (H.eraseIdx k) (H' ++ R)) (hp : post r H') (hd : n.df = [markOf D] := by rfl) : Ends P rs R post .ret ⟨n, env, H⟩ := ⟨.inr rfl, .mark (s := ⟨n, env, H⟩) k hk hd hr hh hp⟩
theorem X.normalM {P : Program} {n : NN} {env : List (Nat × LV)} {H : List Atom} {rs : Array ResultVar} {R H' : List Atom} {post : LV → List Atom → Prop} {r : LV} {D : Nat} (k : Nat) (hk : H[k]? = some (.obj D (.deferred (some [])))) (hr : Res P rs ⟨n, env, H.eraseIdx k⟩ r) (hh : HSub (H.eraseIdx k) (H' ++ R)) (hp : post r H') (hd : n.df = [markOf D] := by rfl) : Ends P rs R post .normal ⟨n, env, H⟩ := ⟨.inl rfl, .mark (s := ⟨n, env, H⟩) k hk hd hr hh hp⟩
theorem hsub_swap1 (a : Atom) (A R : List Atom) : HSub (a :: (A ++ R)) (A ++ (a :: R)) := HSub.perm List.perm_middle.symm
theorem hsub_back1 (a : Atom) (A R : List Atom) : HSub (A ++ (a :: R)) (a :: (A ++ R)) := HSub.perm List.perm_middle
theorem hsub_swap2 (a b : Atom) (A R : List Atom) : HSub (a :: b :: (A ++ R)) (A ++ (a :: b :: R)) := HSub.perm (perm_of fun x => (by simp only [List.count_append, List.count_cons]; omega))
theorem hsub_back2 (a b : Atom) (A R : List Atom) : HSub (A ++ (a :: b :: R)) (a :: b :: (A ++ R)) := HSub.perm (perm_of fun x => (by simp only [List.count_append, List.count_cons]; omega))
end Go.L

set_option linter.unusedVariables false
set_option linter.unusedSimpArgs false
namespace Go.L
open Go.RowKit
section
variable {P : Program} {env : List (Nat × LV)} {H : List Atom} {d : Option Tmp} {ty : TypeId} {pos : String} {af : Array Edge} {g : Option (Nat × Bool)}
theorem LU.indexByte {f : FuncId} {fn : Func} {x y : Operand} {ts : Array TypeId} {l : List UInt8} {b : UInt8} (hf : P.funcs[f]? = some fn) (hname : (fn.name == "runtime.NumGoroutine") = false) (hb : fn.body.isNone = true) (hn : Extern.findNext fn = none) (he : Extern.find fn = some Extern.BytealgIndexByte.indexByte)
    (hx : Is (ev env x) (Str l)) (hy : Is (ev env y) (.raw (.int .u8 b.toNat))) : LU P env H ⟨d, .call { callee := .value (.func f), args := #[x, y], argTypes := ts }, ty, pos, af, g⟩ (.raw (.int .i64 (Lib.indexByte l b))) := .raw fun ac hl w => by
  have h1 := hl x (by simp [Op.operands, Call.operands]) _ hx
  have h2 := hl y (by simp [Op.operands, Call.operands]) _ hy
  have e : (execOp ac.eval ⟨d, .call { callee := .value (.func f), args := #[x, y], argTypes := ts }, ty, pos, af, g⟩).run P w = (callFunc f #[ac.eval x, ac.eval y]).run P w := by
    simp [execOp, resolve, Deferred.ofValue, invoke, Act.eval]
  rw [e, h1, h2, run_callFunc_extern hf hname hb hn he, Lib.run_indexByteString]
  simp
end
end Go.L

set_option linter.unusedVariables false
set_option linter.unusedSimpArgs false
namespace Go.L
open Go.RowKit
section
variable {P : Program} {ops : Array Oper} {K : LS → Prop}
theorem left_set {S : Array Bool} {i : Nat} (hi : i < ops.size) (h : S.getD i true = false) : left (S.setIfInBounds i true) (List.range ops.size) < left S (List.range ops.size) := by
  have hi2 : i < S.size := by
    by_cases hlt : i < S.size
    · exact hlt
    · rw [Array.getD_eq_getD_getElem?, Array.getElem?_eq_none (by omega)] at h; cases h
  refine left_lt hi2 ?_ _ (List.mem_range.2 hi)
  rw [Array.getD_eq_getD_getElem?, Array.getElem?_eq_getElem hi2] at h ⊢
  exact h
/-- What each operation keeps, whatever is done already, holds at the end. -/
theorem LA.inv {I : Array Bool → LS → Prop} (step : ∀ S st i, I S st → i ∈ Region.ready .any ops S → ∃ o, ops[i]? = some o ∧ LP P ops o st (fun s => I (S.setIfInBounds i true) s)) (fin : ∀ S st, I S st → Region.ready .any ops S = [] → K st) :
    ∀ fuel S st, left S (List.range ops.size) ≤ fuel → I S st → LA P ops fuel S st K
  | fuel, S, st, hf, hI => by
    cases hr : Region.ready .any ops S with
    | nil => exact LA.done hr (fin S st hI hr)
    | cons i rs =>
      have hmem : ∀ j ∈ i :: rs, j ∈ Region.ready .any ops S := fun j hj => by rw [hr]; exact hj
      obtain ⟨h1, h2, _⟩ := ready_iff.1 (hmem i (by simp))
      have hpos := left_set h2 h1
      cases fuel with
      | zero => omega
      | succ n =>
        refine LA.step hr ?_
        have all : ∀ l : List Nat, (∀ j ∈ l, j ∈ Region.ready .any ops S) → LAs P ops n S st K l := by
          intro l
          induction l with
          | nil => intro _; exact .nil
          | cons j l ih =>
            intro hl
            obtain ⟨o, ho, hp⟩ := step S st j hI (hl j (by simp))
            obtain ⟨g1, g2, _⟩ := ready_iff.1 (hl j (by simp))
            have hlt := left_set g2 g1
            refine .cons ho rfl (fun w0 ph a w r N Q k => hp w0 ph a w r N Q fun ph' st' a' w' hle r' q => k ph' st' a' w' hle r' (LA.inv step fin n _ st' (by omega) q)) (ih fun q hq => hl q (by simp [hq]))
        exact all _ hmem
/-- What is known at a state is known at another one. -/
def Weaker (s t : LS) : Prop := s.n = t.n ∧ (∀ d, Is (get s.env d) (get t.env d)) ∧ HSub s.heap t.heap
theorem Weaker.rels {s t : LS} (h : Weaker s t) {w0 : Base} {ph : PH} {a : Act} {w : World} (r : Rels w0 ph s a w) : Rels w0 ph t a w := by
  obtain ⟨h1, h2, h3⟩ := h
  obtain ⟨r1, r2, r3, r4⟩ := r
  exact ⟨h3.app r1, by rw [← h1]; exact r2, by rw [← h1]; exact r3, fun d => h2 d _ _ (r4 d)⟩
theorem Weaker.lp {o : Oper} {s t : LS} (h : Weaker s t) {K' : LS → Prop} (hp : LP P ops o t K') : LP P ops o s K' := fun w0 ph a w r N Q k => hp w0 ph a w (h.rels r) N Q k
/-- The slots of a drawn region's operations, as far as they are done. -/
def envS (sl : List (Nat × Nat)) (val : Nat → LV) (f : Nat → Bool) (env : List (Nat × LV)) : List (Nat × LV) := sl.map (fun p => (p.2, cond (f p.1) (val p.2) .any)) ++ env
def upd (f : Nat → Bool) (i j : Nat) : Bool := cond (Nat.beq j i) true (f j)
theorem cond_is {v : LV} (b : Bool) : Is v (cond b v .any) := by
  cases b
  · exact Is.any
  · exact fun _ _ h => h
theorem envS_start (val : Nat → LV) (f : Nat → Bool) (env : List (Nat × LV)) : ∀ (sl : List (Nat × Nat)), (∀ p ∈ sl, f p.1 = false) → ∀ d, Is (get env d) (get (envS sl val f env) d)
  | [], _, d => fun _ _ h => h
  | p :: sl, h, d => by
    show Is (get env d) (get ((p.2, cond (f p.1) (val p.2) .any) :: envS sl val f env) d)
    by_cases hd : p.2 = d
    · subst hd
      rw [get_same, h p (by simp)]
      exact Is.any
    · rw [get_other hd]
      exact envS_start val f env sl (fun q hq => h q (by simp [hq])) d
theorem getD_upd {S : Array Bool} {i : Nat} (hi : i < S.size) : (fun j => (S.setIfInBounds i true).getD j true) = upd (fun j => S.getD j true) i := by
  funext j
  rw [getD_set hi]
  unfold upd
  by_cases h : j = i
  · subst h; simp
  · have : Nat.beq j i = false := by
      cases hb : Nat.beq j i with
      | false => rfl
      | true => exact absurd (Nat.eq_of_beq_eq_true hb) h
    rw [if_neg h, this]; rfl
theorem all_done {S : Array Bool} (hs : S.size = ops.size) (hlt : ((List.range ops.size).all fun i => (direct ops i).all fun j => Nat.blt j i) = true) (hr : Region.ready .any ops S = []) : ∀ j, S.getD j true = true := by
  intro j
  induction j using Nat.strongRecOn with
  | _ j ih =>
    cases hj : S.getD j true with
    | true => rfl
    | false =>
      have hjs : j < ops.size := by
        by_cases h : j < ops.size
        · exact h
        · rw [Array.getD_eq_getD_getElem?, Array.getElem?_eq_none (by omega)] at hj; cases hj
      have : j ∈ Region.ready .any ops S := ready_iff.2 ⟨hj, hjs, fun k hk => by
        have h1 := List.all_eq_true.1 (List.all_eq_true.1 hlt j (List.mem_range.2 hjs)) k hk
        have hkj : k < j := Nat.le_of_ble_eq_true h1
        have h2 := ih k hkj
        rw [Array.getD_eq_getD_getElem?, Array.getElem?_eq_getElem (by omega)] at h2 ⊢
        exact h2⟩
      rw [hr] at this
      cases this
/-- A region that draws its order: each operation once, whatever else is done. -/
theorem LW.inv {id m : Nat} {n : NN} {env : List (Nat × LV)} {H : List Atom} {Q : Exit → LS → Prop} {γ : Type} (sl : List (Nat × Nat)) (val : γ → Nat → LV) (hp : γ → (Nat → Bool) → List Atom) (g0 : γ)
    (hmo : P.follows .mixedOrders = true) (hm : ops.size = m) (hsl : (sl.all fun p => Nat.blt p.1 m) = true) (hlt : ((List.range m).all fun i => (direct ops i).all fun j => Nat.blt j i) = true)
    (init : HSub H (hp g0 fun j => (Array.replicate m false).getD j true))
    (each : ∀ i, i < m → ∀ f g, f i = false → (∀ j ∈ direct ops i, f j = true) → (∀ j, j < m → f j = true → ∀ k ∈ direct ops j, f k = true) → ∃ o, ops[i]? = some o ∧ LP P ops o ⟨n, envS sl (val g) f env, hp g f⟩ (fun s => ∃ g', Weaker s ⟨n, envS sl (val g') (upd f i) env, hp g' (upd f i)⟩))
    (fin : ∀ g, Q .normal ⟨n, envS sl (val g) (fun _ => true) env, hp g (fun _ => true)⟩) (hfin : ∀ s t, Weaker s t → Q .normal t → Q .normal s) (hnd : noDefer ops.toList = true := by kernel_rfl) : LW P (.region id ops true) ⟨n, env, H⟩ Q := by
  subst hm
  refine LW.all hmo (LA.inv (I := fun S s => S.size = ops.size ∧ Down ops S ∧ ∃ g, Weaker s ⟨n, envS sl (val g) (fun j => S.getD j true) env, hp g (fun j => S.getD j true)⟩) ?_ ?_ ops.size _ _ ?_ ?_) hnd
  · rintro S st i ⟨hs, hd, g, hw⟩ hi
    obtain ⟨h1, h2, h3⟩ := ready_iff.1 hi
    have tf : ∀ j, S.getD j false = true → S.getD j true = true := fun j h => by
      by_cases hj : j < S.size
      · rw [Array.getD_eq_getD_getElem?, Array.getElem?_eq_getElem hj] at h ⊢; exact h
      · rw [Array.getD_eq_getD_getElem?, Array.getElem?_eq_none (by omega)]; rfl
    obtain ⟨o, ho, hlp⟩ := each i h2 (fun j => S.getD j true) g h1 (fun j hj => tf j (h3 j hj)) (fun j hj hf k hk => tf k (hd j (by rw [Array.getD_eq_getD_getElem?, Array.getElem?_eq_getElem (by omega)] at hf ⊢; exact hf) k hk))
    refine ⟨o, ho, hw.lp fun w0 ph a w r N Q' k => hlp w0 ph a w r N Q' fun ph' st' a' w' hle r' q => k ph' st' a' w' hle r' ⟨by simp [hs], fun j hj q' hq' => ?_, ?_⟩⟩
    · rw [getD_set (by omega)] at hj ⊢
      by_cases hqi : q' = i
      · rw [if_pos hqi]
      · rw [if_neg hqi]
        by_cases hji : j = i
        · subst hji; exact h3 q' hq'
        · rw [if_neg hji] at hj; exact hd j hj q' hq'
    · rw [getD_upd (by omega)]; exact q
  · rintro S st ⟨hs, hd, g, hw⟩ hr
    have hall := all_done hs hlt hr
    have e : (fun j => S.getD j true) = fun _ => true := funext hall
    rw [e] at hw
    exact hfin _ _ hw (fin g)
  · have : ∀ (S : Array Bool) (l : List Nat), left S l ≤ l.length := fun S l => by
      induction l with
      | nil => simp [left]
      | cons a l ih => simp only [left, List.length_cons]; split <;> omega
    have := this (Array.replicate ops.size false) (List.range ops.size)
    simpa using this
  · have hz : ∀ p ∈ sl, (Array.replicate ops.size false).getD p.1 true = false := fun p hp' => by
      have := Nat.le_of_ble_eq_true (List.all_eq_true.1 hsl p hp')
      rw [Array.getD_eq_getD_getElem?, Array.getElem?_replicate, if_pos (by omega)]; rfl
    refine ⟨by simp, fun i hi => by simp [Array.getD_eq_getD_getElem?, Array.getElem?_replicate] at hi; split at hi <;> simp_all, g0, rfl, ?_, init⟩
    exact envS_start (val g0) (fun j => (Array.replicate ops.size false).getD j true) env sl hz
theorem LP.weak {n : NN} {env : List (Nat × LV)} {H : List Atom} {o : Oper} {t : Nat} {v : LV} (hs : Is (get env t) v) (h : LP P ops o ⟨n, (t, v) :: env, H⟩ K) : LP P ops o ⟨n, env, H⟩ K :=
  Weaker.lp (s := ⟨n, env, H⟩) (t := ⟨n, (t, v) :: env, H⟩) ⟨rfl, fun d => by
    show Is (get env d) (get ((t, v) :: env) d)
    by_cases hd : t = d
    · subst hd; rw [get_same]; exact hs
    · rw [get_other hd]; exact fun _ _ h => h, HSub.refl _⟩ h
theorem LP.ghost {n : NN} {env : List (Nat × LV)} {H H' : List Atom} {o : Oper} (hs : HSub H H') (h : LP P ops o ⟨n, env, H'⟩ K) : LP P ops o ⟨n, env, H⟩ K :=
  Weaker.lp (s := ⟨n, env, H⟩) (t := ⟨n, env, H'⟩) ⟨rfl, fun d _ _ h => h, hs⟩ h
theorem envS_get {val : Nat → LV} {f : Nat → Bool} {env : List (Nat × LV)} : ∀ {sl : List (Nat × Nat)} {j d : Nat}, (sl.find? fun p => Nat.beq p.2 d) = some (j, d) → get (envS sl val f env) d = cond (f j) (val d) .any
  | [], j, d, h => by cases h
  | p :: sl, j, d, h => by
    show get ((p.2, cond (f p.1) (val p.2) .any) :: envS sl val f env) d = _
    rw [List.find?_cons] at h
    cases hb : Nat.beq p.2 d with
    | true =>
      rw [hb] at h
      have := Nat.eq_of_beq_eq_true hb
      simp at h
      subst h
      rw [get_same]
    | false =>
      rw [hb] at h
      rw [get_other (fun e => by rw [e, Nat.beq_refl] at hb; cases hb)]
      exact envS_get h
/-- A slot whose operation is done. -/
theorem envS_is {val : Nat → LV} {f : Nat → Bool} {env : List (Nat × LV)} {sl : List (Nat × Nat)} {j d : Nat} (hs : (sl.find? fun p => Nat.beq p.2 d) = some (j, d)) (hf : f j = true) : Is (get (envS sl val f env) d) (val d) := by
  rw [envS_get hs, hf]; exact fun _ _ h => h
theorem envS_next {val val' : Nat → LV} {f : Nat → Bool} {i di : Nat} {env : List (Nat × LV)} : ∀ {sl : List (Nat × Nat)}, (∀ p ∈ sl, p.2 ≠ di → Nat.beq p.1 i = false ∧ val' p.2 = val p.2) → ∀ d, d ≠ di → Is (get (envS sl val f env) d) (get (envS sl val' (upd f i) env) d)
  | [], _, d, _ => fun _ _ h => h
  | p :: sl, h, d, hd => by
    show Is (get ((p.2, cond (f p.1) (val p.2) .any) :: envS sl val f env) d) (get ((p.2, cond (upd f i p.1) (val' p.2) .any) :: envS sl val' (upd f i) env) d)
    by_cases hp : p.2 = d
    · subst hp
      obtain ⟨h1, h2⟩ := h p (by simp) hd
      rw [get_same, get_same, h2]
      unfold upd
      rw [h1]
      exact fun _ _ h => h
    · rw [get_other hp, get_other hp]
      exact envS_next (fun q hq => h q (by simp [hq])) d hd
/-- Behind an operation: its slot is written, the overrides are as they were. -/
theorem env_back {di : Nat} {v : LV} {pre l l' : List (Nat × LV)} (hv : Is v (get l' di)) (hp : ∀ p ∈ pre, p.1 ≠ di → Is p.2 (get l' p.1)) (hl : ∀ d, d ≠ di → Is (get l d) (get l' d)) : ∀ d, Is (get ((di, v) :: (pre ++ l)) d) (get l' d) := fun d => by
  by_cases hd : di = d
  · subst hd; rw [get_same]; exact hv
  · rw [get_other hd]
    have : ∀ q : List (Nat × LV), (∀ p ∈ q, p.1 ≠ di → Is p.2 (get l' p.1)) → Is (get (q ++ l) d) (get l' d) := fun q hq => by
      induction q with
      | nil => exact hl d (fun e => hd e.symm)
      | cons p q ih =>
        show Is (get ((p.1, p.2) :: (q ++ l)) d) (get l' d)
        by_cases hpd : p.1 = d
        · subst hpd; rw [get_same]; exact hq p (by simp) (fun e => hd e.symm)
        · rw [get_other hpd]; exact ih fun r hr => hq r (by simp [hr])
    exact this pre hp
theorem envS_hit {v : LV} {val : Nat → LV} {f : Nat → Bool} {env : List (Nat × LV)} {sl : List (Nat × Nat)} {j d : Nat} (hs : (sl.find? fun p => Nat.beq p.2 d) = some (j, d)) (hv : Is v (val d)) : Is v (get (envS sl val f env) d) := by
  rw [envS_get hs]
  cases f j
  · exact Is.any
  · exact hv
theorem env_back0 {di : Nat} {v : LV} {l l' : List (Nat × LV)} (hv : Is v (get l' di))  (hl : ∀ d, d ≠ di → Is (get l d) (get l' d)) : ∀ d, Is (get ((di, v) :: l) d) (get l' d) :=
  env_back (pre := []) hv (fun p hp _ => by cases hp) hl
theorem env_back1 {di : Nat} {v : LV} {l l' : List (Nat × LV)} {d0 : Nat} {v0 : LV} (hv : Is v (get l' di)) (h0 : Is v0 (get l' d0)) (hl : ∀ d, d ≠ di → Is (get l d) (get l' d)) : ∀ d, Is (get ((di, v) :: (d0, v0) :: l) d) (get l' d) :=
  env_back (pre := [(d0, v0)]) hv (fun p hp _ => by
    simp only [List.mem_cons, List.not_mem_nil, or_false] at hp
    rcases hp with rfl <;> assumption) hl
theorem env_back2 {di : Nat} {v : LV} {l l' : List (Nat × LV)} {d0 d1 : Nat} {v0 v1 : LV} (hv : Is v (get l' di)) (h0 : Is v0 (get l' d0)) (h1 : Is v1 (get l' d1)) (hl : ∀ d, d ≠ di → Is (get l d) (get l' d)) : ∀ d, Is (get ((di, v) :: (d0, v0) :: (d1, v1) :: l) d) (get l' d) :=
  env_back (pre := [(d0, v0), (d1, v1)]) hv (fun p hp _ => by
    simp only [List.mem_cons, List.not_mem_nil, or_false] at hp
    rcases hp with rfl | rfl <;> assumption) hl
theorem env_back3 {di : Nat} {v : LV} {l l' : List (Nat × LV)} {d0 d1 d2 : Nat} {v0 v1 v2 : LV} (hv : Is v (get l' di)) (h0 : Is v0 (get l' d0)) (h1 : Is v1 (get l' d1)) (h2 : Is v2 (get l' d2)) (hl : ∀ d, d ≠ di → Is (get l d) (get l' d)) : ∀ d, Is (get ((di, v) :: (d0, v0) :: (d1, v1) :: (d2, v2) :: l) d) (get l' d) :=
  env_back (pre := [(d0, v0), (d1, v1), (d2, v2)]) hv (fun p hp _ => by
    simp only [List.mem_cons, List.not_mem_nil, or_false] at hp
    rcases hp with rfl | rfl | rfl <;> assumption) hl
theorem env_back4 {di : Nat} {v : LV} {l l' : List (Nat × LV)} {d0 d1 d2 d3 : Nat} {v0 v1 v2 v3 : LV} (hv : Is v (get l' di)) (h0 : Is v0 (get l' d0)) (h1 : Is v1 (get l' d1)) (h2 : Is v2 (get l' d2)) (h3 : Is v3 (get l' d3)) (hl : ∀ d, d ≠ di → Is (get l d) (get l' d)) : ∀ d, Is (get ((di, v) :: (d0, v0) :: (d1, v1) :: (d2, v2) :: (d3, v3) :: l) d) (get l' d) :=
  env_back (pre := [(d0, v0), (d1, v1), (d2, v2), (d3, v3)]) hv (fun p hp _ => by
    simp only [List.mem_cons, List.not_mem_nil, or_false] at hp
    rcases hp with rfl | rfl | rfl | rfl <;> assumption) hl
theorem env_back5 {di : Nat} {v : LV} {l l' : List (Nat × LV)} {d0 d1 d2 d3 d4 : Nat} {v0 v1 v2 v3 v4 : LV} (hv : Is v (get l' di)) (h0 : Is v0 (get l' d0)) (h1 : Is v1 (get l' d1)) (h2 : Is v2 (get l' d2)) (h3 : Is v3 (get l' d3)) (h4 : Is v4 (get l' d4)) (hl : ∀ d, d ≠ di → Is (get l d) (get l' d)) : ∀ d, Is (get ((di, v) :: (d0, v0) :: (d1, v1) :: (d2, v2) :: (d3, v3) :: (d4, v4) :: l) d) (get l' d) :=
  env_back (pre := [(d0, v0), (d1, v1), (d2, v2), (d3, v3), (d4, v4)]) hv (fun p hp _ => by
    simp only [List.mem_cons, List.not_mem_nil, or_false] at hp
    rcases hp with rfl | rfl | rfl | rfl | rfl <;> assumption) hl
theorem env_back6 {di : Nat} {v : LV} {l l' : List (Nat × LV)} {d0 d1 d2 d3 d4 d5 : Nat} {v0 v1 v2 v3 v4 v5 : LV} (hv : Is v (get l' di)) (h0 : Is v0 (get l' d0)) (h1 : Is v1 (get l' d1)) (h2 : Is v2 (get l' d2)) (h3 : Is v3 (get l' d3)) (h4 : Is v4 (get l' d4)) (h5 : Is v5 (get l' d5)) (hl : ∀ d, d ≠ di → Is (get l d) (get l' d)) : ∀ d, Is (get ((di, v) :: (d0, v0) :: (d1, v1) :: (d2, v2) :: (d3, v3) :: (d4, v4) :: (d5, v5) :: l) d) (get l' d) :=
  env_back (pre := [(d0, v0), (d1, v1), (d2, v2), (d3, v3), (d4, v4), (d5, v5)]) hv (fun p hp _ => by
    simp only [List.mem_cons, List.not_mem_nil, or_false] at hp
    rcases hp with rfl | rfl | rfl | rfl | rfl | rfl <;> assumption) hl
theorem env_back7 {di : Nat} {v : LV} {l l' : List (Nat × LV)} {d0 d1 d2 d3 d4 d5 d6 : Nat} {v0 v1 v2 v3 v4 v5 v6 : LV} (hv : Is v (get l' di)) (h0 : Is v0 (get l' d0)) (h1 : Is v1 (get l' d1)) (h2 : Is v2 (get l' d2)) (h3 : Is v3 (get l' d3)) (h4 : Is v4 (get l' d4)) (h5 : Is v5 (get l' d5)) (h6 : Is v6 (get l' d6)) (hl : ∀ d, d ≠ di → Is (get l d) (get l' d)) : ∀ d, Is (get ((di, v) :: (d0, v0) :: (d1, v1) :: (d2, v2) :: (d3, v3) :: (d4, v4) :: (d5, v5) :: (d6, v6) :: l) d) (get l' d) :=
  env_back (pre := [(d0, v0), (d1, v1), (d2, v2), (d3, v3), (d4, v4), (d5, v5), (d6, v6)]) hv (fun p hp _ => by
    simp only [List.mem_cons, List.not_mem_nil, or_false] at hp
    rcases hp with rfl | rfl | rfl | rfl | rfl | rfl | rfl <;> assumption) hl
theorem env_back8 {di : Nat} {v : LV} {l l' : List (Nat × LV)} {d0 d1 d2 d3 d4 d5 d6 d7 : Nat} {v0 v1 v2 v3 v4 v5 v6 v7 : LV} (hv : Is v (get l' di)) (h0 : Is v0 (get l' d0)) (h1 : Is v1 (get l' d1)) (h2 : Is v2 (get l' d2)) (h3 : Is v3 (get l' d3)) (h4 : Is v4 (get l' d4)) (h5 : Is v5 (get l' d5)) (h6 : Is v6 (get l' d6)) (h7 : Is v7 (get l' d7)) (hl : ∀ d, d ≠ di → Is (get l d) (get l' d)) : ∀ d, Is (get ((di, v) :: (d0, v0) :: (d1, v1) :: (d2, v2) :: (d3, v3) :: (d4, v4) :: (d5, v5) :: (d6, v6) :: (d7, v7) :: l) d) (get l' d) :=
  env_back (pre := [(d0, v0), (d1, v1), (d2, v2), (d3, v3), (d4, v4), (d5, v5), (d6, v6), (d7, v7)]) hv (fun p hp _ => by
    simp only [List.mem_cons, List.not_mem_nil, or_false] at hp
    rcases hp with rfl | rfl | rfl | rfl | rfl | rfl | rfl | rfl <;> assumption) hl
theorem Weaker.mk' {n : NN} {e e' : List (Nat × LV)} {H H' : List Atom} (h : ∀ d, Is (get e d) (get e' d)) (k : HSub H H') : Weaker ⟨n, e, H⟩ ⟨n, e', H'⟩ := ⟨rfl, h, k⟩
theorem Weaker.lw {s t : LS} (h : Weaker s t) {c : Code} {Q : Exit → LS → Prop} (hl : LW P c t Q) : LW P c s Q := fun w0 ph a w r Q' k => hl w0 ph a w (h.rels r) Q' k
end
end Go.L

set_option linter.unusedVariables false
set_option linter.unusedSimpArgs false
namespace Go.L
open Go.RowKit
section
variable {P : Program} {env : List (Nat × LV)} {H : List Atom} {d : Option Tmp} {ty : TypeId} {pos : String} {af : Array Edge} {g : Option (Nat × Bool)} {st : LS} {K : LS → Prop}
/-- The first n cells of an owned block are known from now on; the rest stays as room. -/
theorem Inv.freezeT {w0 : Base} {ph : PH} {w : World} {b : Nat} {t : TypeId} {xs : List LV} (n : Nat) (hn : n ≤ xs.length) (h : Inv w0 ph w (.cells b t xs :: H)) : ∃ cs ph', PH.le ph ph' ∧ Inv w0 ph' w (.tail b n xs.length :: H) ∧ CReps ph' cs xs ∧ cs.size = xs.length ∧ ∀ i, i < n → ph' ⟨b, i, none⟩ = cs[i]? := by
  obtain ⟨F, hF, cs, hh, hc⟩ := h.atom
  have hle : PH.le ph (PH.ext ph b 0 n cs) := PH.le_ext fun i _ hi => by
    obtain ⟨_, _, _, F', ⟨F1, F2, h1, h2, h3, h4⟩, hF'⟩ := h
    exact (hF' b i ((h3 b i).2 (.inl ((h1.1 b i).2 rfl)))).2 ⟨b, i, none⟩ rfl rfl
  refine ⟨cs, PH.ext ph b 0 n cs, hle, ?_, hc.mono hle, hc.1.1, fun i hi => PH.ext_in ⟨Nat.zero_le _, hi⟩⟩
  have hsz : cs.size = xs.length := hc.1.1
  have := Inv.upd (H1 := [.cells b t xs]) (H2 := [.tail b n xs.length]) (R := H) (w' := w) h hle (fun G ⟨F1, F2, h1, h2, h3, h4⟩ hn => ⟨Chg.refl _ _, fun b' o => b' = b ∧ n ≤ o ∧ o < xs.length, ⟨_, fun _ _ => False, ⟨fun _ _ => Iff.rfl, fun i hi hj => by
      refine ⟨⟨cs[i], ?_⟩, by simp [World.frozen?, hh]⟩
      rw [cell_of_row w b i cs t (0, 0) hh, Array.getElem?_eq_getElem (by omega)]⟩, fun _ _ h => h, fun b o => by simp, fun _ _ _ h => h⟩, fun b' o hb => .inl ((h3 _ _).2 (.inl ((h1.1 _ _).2 hb.1))), fun a u ha => by
    rcases PH.ext_cases ha with ⟨e, h5, h6, h7⟩ | h5
    · refine .inr ⟨⟨?_, hc.2 _ _ h7⟩, fun h => by have := h.2.1; omega, .inl ((h3 _ _).2 (.inl ((h1.1 _ _).2 (by rw [e]))))⟩
      rw [e, cell_of_row w b a.off cs t (0, 0) hh]
      exact h7
    · exact .inl h5⟩)
  exact this
theorem freezeT_rep {ph : PH} {b : Nat} {cs : Array Value} {xs : List LV} {n c size : Nat} {es : List (List LV)} (hc : CReps ph cs xs) (hp : ∀ i, i < n * size → ph ⟨b, i, none⟩ = cs[i]?) (hs : ∀ e ∈ es, e.length = size) (hn : es.length = n) (hfit : c * size = xs.length) (he : es.flatten = xs.take (n * size)) (hnc : n ≤ c) : Rep ph (.slice (some ⟨b, 0, none⟩) n c) (.sl size es (.tok b (n * size) (c * size))) := by
  have hsz : cs.size = xs.length := hc.1.1
  have hle : n * size ≤ c * size := Nat.mul_le_mul_right _ hnc
  refine rep_known (cs := cs.extract 0 (n * size)) hs hn (fun i hi => ?_) ?_ hnc (.inr ⟨0, rfl, by omega, by omega⟩)
  · rw [Nat.zero_add, hp _ hi, Array.getElem?_extract, if_pos (by omega), Nat.zero_add]
  · rw [he]
    refine ⟨⟨by simp; omega, fun i v x hv hx => ?_⟩, fun i v hv => ?_⟩
    · rw [Array.getElem?_extract] at hv
      rw [List.getElem?_take] at hx
      split at hx
      · split at hv
        · rw [Nat.zero_add] at hv; exact hc.1.2 _ v x hv hx
        · cases hv
      · cases hx
    · rw [Array.getElem?_extract] at hv
      split at hv
      · exact hc.2 _ v hv
      · cases hv
theorem LW.freezeT {cd : Code} {Q : Exit → LS → Prop} {t : Nat} {b : Nat} {te : TypeId} {xs : List LV} {n c size : Nat} {es : List (List LV)} (k : Nat) (hk : st.heap[k]? = some (.cells b te xs)) (ht : get st.env t = .raw (.slice (some ⟨b, 0, none⟩) n c)) (hs : ∀ e ∈ es, e.length = size) (hn : es.length = n) (hfit : c * size = xs.length) (he : es.flatten = xs.take (n * size)) (hnc : n ≤ c)
    (h : LW P cd ⟨st.n, (t, .sl size es (.tok b (n * size) (c * size))) :: st.env, .tail b (n * size) (c * size) :: st.heap.eraseIdx k⟩ Q) : LW P cd st Q := fun w0 ph a w r Q' q => by
  have hinv := r.inv.front k
  unfold L.front at hinv
  rw [hk] at hinv
  have hle : n * size ≤ c * size := Nat.mul_le_mul_right _ hnc
  obtain ⟨cs, ph', hle, hi, hc, hsz, hp⟩ := hinv.freezeT (n * size) (by omega)
  rw [← hfit] at hi
  refine h w0 ph' a w ⟨hi, r.defers, r.size, fun i => ?_⟩ Q' fun e ph2 st2 a2 w2 hle2 r2 q2 => q e ph2 st2 a2 w2 (hle.trans hle2) r2 q2
  by_cases hit : t = i
  · subst hit
    rw [get_same]
    have := r.tmps t
    rw [ht] at this
    rw [this.rawE]
    exact freezeT_rep hc hp hs hn hfit he hnc
  · rw [get_other hit]
    exact (r.tmps i).mono hle
/-! ### append(s, make([]byte, m)...) -/
theorem zeros_bytes (m : Nat) : Builtin.zeroCells (Value.int .u8 0).cells m = ((⟨(List.replicate m (0 : UInt8)).toArray⟩ : ByteArray).extract 0 m).data.map fun b => Value.int .u8 b.toNat := by
  apply Array.ext'
  apply List.ext_getElem?
  intro i
  simp [Builtin.zeroCells, Value.cells, ByteArray.extract, ByteArray.copySlice, List.getElem?_replicate]
  by_cases h : i < m
  · simp [h]
    rw [Nat.mod_one]; rfl
  · simp [h]
theorem append_zeros_eq {t ti ts e ty' : TypeId} {k kx : IntKind} {i : TypeInfo} (ht : P.underlying t = some (.slice e)) (hti : P.underlying ti = some (.int k)) (hts : P.underlying ts = some .string) (hi : P.info? e = some i) (hz : i.zero = some (.int .u8 0)) (hsize : i.size = 1) (hby : i.bytes = 1)
    (A : Option Addr) (n c m : Nat) (hb : n + m ≤ 140737488355328) (w : World) :
    (Builtin.append_ #[t, ti] ty' #[.slice A n c, .int kx m]).run P w = (Builtin.append_ #[t, ts] ty' #[.slice A n c, .string ⟨(List.replicate m (0 : UInt8)).toArray⟩]).run P w := by
  have hw : IntKind.i64.wrap (m : Int) = m := by rw [IntKind.wrap_i64]; omega
  have hneg : ¬ ((m : Int) < 0) := by omega
  have hbig : ¬ (281474976710656 < (m : Int)) := by omega
  have hsz : ({ data := Array.replicate m 0 } : ByteArray).size = m := by simp [ByteArray.size]
  have hmx : ¬ (9223372036854775807 < ((n : Int) + (m : Int))) := by omega
  have hw0 : IntKind.i64.wrap 0 = 0 := by rw [IntKind.wrap_i64]; rfl
  by_cases hm : m = 0
  · subst hm
    have hsz0 : ({ data := #[] } : ByteArray).size = 0 := rfl
    have hcz : ∀ z, Builtin.zeroCells z 0 = #[] := fun z => by simp [Builtin.zeroCells]
    by_cases hr : n ≤ c
    · simp [Builtin.append_, run_underlying ht, run_underlying hti, run_underlying hts, sizeOf, typeInfo, zeroValue, hi, hz, asInt, asIntOf, hw0, hsize, hby, Builtin.lenOf, Builtin.firstCells, hsz0, hr]
    · have hn : ¬ (281474976710656 < Builtin.nextslicecap n c) := by
        have := growslice_fits (bytes := 1) (show c < n by omega) (by omega)
        omega
      have hmx0 : ¬ (9223372036854775807 < (n : Int)) := by omega
      simp [Builtin.append_, run_underlying ht, run_underlying hti, run_underlying hts, sizeOf, typeInfo, zeroValue, hi, hz, asInt, asIntOf, hw0, hsize, hby, Builtin.lenOf, Builtin.firstCells, hsz0, hr, hn, hmx0, hcz]
  · by_cases hr : n + m ≤ c
    · simp [Builtin.append_, run_underlying ht, run_underlying hti, run_underlying hts, sizeOf, typeInfo, zeroValue, hi, hz, asInt, asIntOf, hw, hsize, hby, Builtin.lenOf, Builtin.firstCells, hsz, hr, hneg, hbig, hm, zeros_bytes]
    · have hn : ¬ (281474976710656 < Builtin.nextslicecap (n + m) c) := by
        have := growslice_fits (bytes := 1) (show c < n + m by omega) (by omega)
        omega
      simp [Builtin.append_, run_underlying ht, run_underlying hti, run_underlying hts, sizeOf, typeInfo, zeroValue, hi, hz, asInt, asIntOf, hw, hsize, hby, Builtin.lenOf, Builtin.firstCells, hsz, hr, hneg, hbig, hm, hmx, hn, zeros_bytes]
theorem LO.appendZ {s x : Operand} {t ti ts e : TypeId} {k kx : IntKind} {i : TypeInfo} {es : List (List LV)} {kk : Cap} {m : Nat} {d : Option Tmp} (ht : P.underlying t = some (.slice e)) (hti : P.underlying ti = some (.int k)) (hts : P.underlying ts = some .string) (hi : P.info? e = some i) (hz : i.zero = some (.int .u8 0)) (hsize : i.size = 1) (hby : i.bytes = 1)
    (hs : Is (ev st.env s) (.sl 1 es kk)) (hx : Is (ev st.env x) (.raw (.int kx m))) (hb : es.length + m ≤ 140737488355328)
    (h : LO P ⟨d, .call { callee := .builtin .append, args := #[s, .const (.string ⟨(List.replicate m (0 : UInt8)).toArray⟩)], argTypes := #[t, ts] }, ty, pos, af, g⟩ st K) :
    LO P ⟨d, .call { callee := .builtin .append, args := #[s, x], argTypes := #[t, ti] }, ty, pos, af, g⟩ st K := fun w0 ph a w r N Q q => by
  have h1 := h w0 ph a w r N Q q
  have r1 := hs _ _ (Env.eval r.tmps s)
  have r2 := (hx _ _ (Env.eval r.tmps x)).rawE
  obtain ⟨A, n, c, hA⟩ := rep_slice_form r1
  have hn : es.length = n := by rw [hA] at r1; exact (rep_es r1).2.1
  have e1 : (execOp a.eval ⟨d, .call { callee := .builtin .append, args := #[s, x], argTypes := #[t, ti] }, ty, pos, af, g⟩).run P w = (execOp a.eval ⟨d, .call { callee := .builtin .append, args := #[s, .const (.string ⟨(List.replicate m (0 : UInt8)).toArray⟩)], argTypes := #[t, ts] }, ty, pos, af, g⟩).run P w := by
    have := append_zeros_eq (ty' := ty) (kx := kx) ht hti hts hi hz hsize hby A n c m (by omega) w
    have hcst : a.eval (.const (.string ⟨(List.replicate m (0 : UInt8)).toArray⟩)) = .string ⟨(List.replicate m (0 : UInt8)).toArray⟩ := rfl
    simp [execOp, resolve, invoke, builtin, hA, r2, hcst, this]
    rfl
  unfold owp at h1 ⊢
  rw [e1]
  exact h1
theorem X.appendZ {nn : NN} {s x : Operand} {t ti ts e : TypeId} {kx ki : IntKind} {l : List UInt8} {m : Nat} {d : Tmp} {b o c : Nat} (k : Nat) (hk : H[k]? = some (.tail b o c)) (hd : Nat.blt d nn.k = true) (ht : P.underlying t = some (.slice e)) (hti : P.underlying ti = some (.int ki)) (hts : P.underlying ts = some .string) (hel : El P e (.int .u8 0) 1 1)
    (hs : Is (ev env s) (Bytes l (.tok b o c))) (hx : Is (ev env x) (.raw (.int kx m))) (hb : l.length + m ≤ 140737488355328)
    (h : ∀ b' o' c', K ⟨nn, (d, Bytes (l ++ List.replicate m 0) (.tok b' o' c')) :: env, .tail b' o' c' :: H.eraseIdx k⟩) :
    LO P ⟨some d, .call { callee := .builtin .append, args := #[s, x], argTypes := #[t, ti] }, ty, pos, af, g⟩ ⟨nn, env, H⟩ K := by
  obtain ⟨i, hi, hz, hsize, hby⟩ := hel.info
  refine LO.appendZ ht hti hts hi hz hsize hby hs hx (by simpa [byteEls] using hb) ?_
  refine X.append k hk hd ht hel hs (y := Str (List.replicate m 0)) Is.rfl' (SrcL.string hts) (by simp [byteEls]; omega) (by simp [byteEls]; omega) fun b' o' c' => ?_
  rw [← byteEls_append]
  exact h b' o' c'
end
end Go.L

set_option linter.unusedVariables false
set_option linter.unusedSimpArgs false
namespace Go.L
open Go.RowKit
/-- An iterator whose items come with memory of their own: J says what an item's arguments are, and what is owned with them. -/
def LIterW (P : Program) (gf : FuncId) (caps : Array Value) {ι : Type} (items : List ι) (J : ι → List LV → List Atom → Prop) (Hi Hi' : List Atom) : Prop :=
  ∀ (α β : Type) (F : α → List Atom) (G : β → List Atom) (φ : Nat → α → Prop) (ψ : β → Prop) (yv : Value), yv.oneCell' = true →
    (∀ k p y x Hx, items[k]? = some y → J y x Hx → φ k p → LYields P yv x (Hx ++ F p) (fun r H' => (∃ q, r = .raw (.bool true) ∧ φ (k + 1) q ∧ H' = F q) ∨ (∃ q, r = .raw (.bool false) ∧ ψ q ∧ H' = G q))) →
    ∀ p0, φ 0 p0 → LCalls P gf (.raw yv :: raws caps.toList) (Hi ++ F p0) (fun r H' => (∃ q, φ items.length q ∧ H' = Hi' ++ F q) ∨ (∃ q, ψ q ∧ H' = Hi' ++ G q))
/-- What a round of such a loop must do. -/
abbrev RoundOkW (P : Program) (k0 : Nat) (env : List (Nat × LV)) (ps : List Tmp) (assign body : Code) {ι : Type} (items : List ι) (J : ι → List LV → List Atom → Prop) {α β : Type} (F : α → List Atom) (G : β → List Atom) (φ : Nat → α → Prop) (L : Code → β → Prop) : Prop :=
  ∀ (k : Nat) (p : α) (y : ι) (x : List LV) (Hx : List Atom), items[k]? = some y → J y x Hx → φ k p → ∀ R', LW P assign ⟨⟨k0, [], false⟩, setP ps x env, Hx ++ (F p ++ R')⟩ (after P [] (fun e s => e = .normal ∧ ∃ A env', s = ⟨⟨k0, [], false⟩, env', A ++ R'⟩ ∧ ∀ R'', LW P body ⟨⟨k0, [], false⟩, env', A ++ R''⟩ (after P [] (fun e s' =>
      match e with
      | .normal => ∃ q, φ (k + 1) q ∧ HSub s'.heap (F q ++ R'')
      | .ret => ∃ q, L .ret q ∧ HSub s'.heap (G q ++ R'')
      | .exit id => ∃ q, L (.exit id) q ∧ HSub s'.heap (G q ++ R'')
      | _ => False))))
theorem range_yieldsW {P : Program} {env : List (Nat × LV)} {ps : Array Tmp} {assign body : Code} {ι : Type} {items : List ι} {J : ι → List LV → List Atom → Prop} {α β : Type} {F : α → List Atom} {G : β → List Atom} {φ : Nat → α → Prop} {L : Code → β → Prop} {k0 : Nat} {ph : PH} {a : Act} {rec : Loop} {l : Nat}
    (round : RoundOkW P k0 env ps.toList assign body items J F G φ L) (hsize : a.tmps.size = k0) (htmps : Env ph env a) (hps' : ∀ t ∈ ps.toList, t < a.tmps.size) (hit : ∀ y ∈ items, ∀ x Hx, J y x Hx → x.length = ps.size)
    (hrf : rec.assign = assign ∧ rec.body = body ∧ rec.params = ps ∧ rec.tmps = a.tmps ∧ rec.state = .ready ∧ rec.pending = none) :
    ∀ k p y x Hx, items[k]? = some y → J y x Hx → φ k p → LYields P (.func (.yield l) #[] #[]) x (Hx ++ (.since ph :: .obj l (.loop rec) :: F p)) (fun r H' => (∃ q, r = .raw (.bool true) ∧ φ (k + 1) q ∧ H' = .since ph :: .obj l (.loop rec) :: F q) ∨ (∃ q : Code × β, r = .raw (.bool false) ∧ L q.1 q.2 ∧ H' = .since ph :: .obj l (.loop { rec with state := .done, pending := some q.1 }) :: G q.2)) := by
  intro k p y x Hx hx hJ hp R1 w2 ph1 w3 vs hi hr
  have hle1 := ((HSub.perm (perm_of fun x => (by simp only [List.count_append, List.count_cons]; omega))).app hi : Inv w2 ph1 w3 (.since ph :: (Hx ++ (.obj l (.loop rec) :: (F p ++ R1))))).since_at
  obtain ⟨rfl, rfl, rfl, h4, h5, h6⟩ := hrf
  have hlen : vs.size = rec.params.size := by rw [hr.1, hit y (List.mem_of_getElem? hx) x Hx hJ]
  have hi3 : Inv w2 ph1 w3 (.obj l (.loop rec) :: (Hx ++ (F p ++ (.since ph :: R1)))) := (HSub.perm (perm_of fun x => (by simp only [List.count_append, List.count_cons]; omega))).app hi
  have hry := run_yield (P := P) (args := vs) hi3.obj_at hlen
  refine ⟨l, _, _, _, _, rfl, hry, ?_⟩
  refine roundIn_of_wpIn trivial ?_
  have hps2 := env_setP (ph := ph1) rec.params.toList vs.toList x env a hps' (by simpa using hr.1) (fun i v y h1 h2 => hr.2 i v y (by simpa using h1) h2) (htmps.mono hle1)
  have hzip : (rec.params.zip vs).foldl (fun tmps (x : Nat × Value) => match x with | (t, a) => tmps.setIfInBounds t a) rec.tmps = (rec.params.toList.zip vs.toList).foldl (fun tmps (t, v) => tmps.setIfInBounds t v) a.tmps := by
    rw [← Array.foldl_toList, Array.toList_zip, h4]
  rw [hzip]
  obtain ⟨T, hT⟩ : ∃ T, T = (rec.params.toList.zip vs.toList).foldl (fun tmps (t, v) => tmps.setIfInBounds t v) a.tmps := ⟨_, rfl⟩
  rw [← hT] at hps2 ⊢
  have hi4 : Inv ⟨w2.w, some l⟩ ph1 w3 (Hx ++ (F p ++ (.obj l (.loop rec) :: .since ph :: R1))) := ((HSub.perm (perm_of fun x => (by simp only [List.count_append, List.count_cons]; omega))).app hi3).ro _
  refine round k p y x Hx hx hJ hp (.obj l (.loop rec) :: .since ph :: R1) ⟨w2.w, some l⟩ ph1 ⟨T, []⟩ w3 ⟨hi4, ⟨rfl, fun h => by cases h⟩, hps2.2.trans hsize, fun d => hps2.1 d⟩ _ fun e ph2 st2 a2 w4 hle2 r2 q2 => ?_
  obtain ⟨he, A, env', hst, hbody⟩ := q2
  subst he
  subst hst
  have hi5 : Inv ⟨w2.w, some l⟩ ph2 w4 (.obj l (.loop rec) :: (A ++ (.since ph :: R1))) := (HSub.perm (perm_of fun x => (by simp only [List.count_append, List.count_cons]; omega))).app r2.inv
  refine ⟨_, run_beginRound hi5.obj_at h5, ?_⟩
  have hi6 : Inv ⟨w2.w, some l⟩ ph2 (w4.putObj l (.loop { rec with state := .busy })) (A ++ (.obj l (.loop { rec with state := .busy }) :: .since ph :: R1)) := (HSub.perm (perm_of fun x => (by simp only [List.count_append, List.count_cons]; omega))).app (hi5.putObj _)
  refine hbody (.obj l (.loop { rec with state := .busy }) :: .since ph :: R1) ⟨w2.w, some l⟩ ph2 a2 _ ⟨hi6, r2.defers, r2.size, r2.tmps⟩ _ fun e ph3 st3 a3 w5 hle3 r3 q3 => ?_
  have fin : ∀ (H' : List Atom) (j : Option Code), HSub st3.heap (H' ++ (.obj l (.loop { rec with state := .busy }) :: .since ph :: R1)) → ∃ w6, (Instr.endRound l j).run P w5 = .ok (.bool j.isNone) w6 ∧ Inv w2 ph3 w6 ((.since ph :: .obj l (.loop { rec with state := if j.isNone then .ready else .done, pending := j }) :: H') ++ R1) := fun H' j hh => by
    have hi7 : Inv ⟨w2.w, some l⟩ ph3 w5 (.obj l (.loop { rec with state := .busy }) :: (H' ++ (.since ph :: R1))) := (HSub.perm (perm_of fun x => (by simp only [List.count_append, List.count_cons]; omega))).app (hh.app r3.inv)
    exact ⟨_, run_endRound j hi7.obj_at, ((HSub.perm (perm_of fun x => (by simp only [List.count_append, List.count_cons]; omega))).app (hi7.putObj _)).ro'⟩
  cases e with
  | normal =>
    obtain ⟨q, hq, hh⟩ := q3
    obtain ⟨w6, h1, h2⟩ := fin _ none hh
    have hrr : ({ rec with state := .ready, pending := none } : Loop) = rec := by rw [← h5, ← h6]
    simp only [Option.isNone_none, if_true, hrr] at h1 h2
    exact ⟨_, w6, h1, _, ph3, .raw (.bool true), _, rfl, (hle2.trans hle3), h2, .raw _, .inl ⟨q, rfl, hq, rfl⟩⟩
  | ret =>
    obtain ⟨q, hq, hh⟩ := q3
    obtain ⟨w6, h1, h2⟩ := fin _ (some .ret) hh
    exact ⟨_, w6, h1, _, ph3, .raw (.bool false), .since ph :: .obj l (.loop { rec with state := .done, pending := some .ret }) :: G q, rfl, (hle2.trans hle3), h2, .raw _, .inr ⟨(.ret, q), rfl, hq, rfl⟩⟩
  | exit id =>
    obtain ⟨q, hq, hh⟩ := q3
    obtain ⟨w6, h1, h2⟩ := fin _ (some (.exit id)) hh
    exact ⟨_, w6, h1, _, ph3, .raw (.bool false), .since ph :: .obj l (.loop { rec with state := .done, pending := some (.exit id) }) :: G q, rfl, (hle2.trans hle3), h2, .raw _, .inr ⟨(.exit id, q), rfl, hq, rfl⟩⟩
  | goto i => exact (show False from q3).elim
  | panic c => exact (show False from q3).elim
  | outgrown => exact (show False from q3).elim
set_option maxHeartbeats 1000000 in
/-- for .. := range g { .. } -/
theorem LW.rangeW {P : Program} {st : LS} {Q : Exit → LS → Prop} {gop : Operand} {ps : Array Tmp} {assign body : Code} {gf : FuncId} {fn : Func} {caps : Array Value} {ι : Type} {items : List ι} {J : ι → List LV → List Atom → Prop} {Hi Hi' R : List Atom}
    (hg : Is (ev st.env gop) (.raw (.func (.func gf) #[] caps))) (htop : st.n.top = true) (hf : P.funcs[gf]? = some fn) (hname : (fn.name == "runtime.NumGoroutine") = false) (hb : fn.body.isSome = true) (it : LIterW P gf caps items J Hi Hi')
    (hps : (ps.toList.all fun t => Nat.blt t st.n.k) = true) (hit : ∀ y ∈ items, ∀ x Hx, J y x Hx → x.length = ps.size)
    {α β : Type} (F : α → List Atom) (G : β → List Atom) (φ : Nat → α → Prop) (L : Code → β → Prop) (p0 : α) (h0 : φ 0 p0) (hsub : HSub st.heap (Hi ++ (F p0 ++ R)))
    (round : RoundOkW P st.n.k st.env ps.toList assign body items J F G φ L)
    (done : ∀ D q, φ items.length q → Q .normal ⟨⟨st.n.k, markOf D :: st.n.df, true⟩, st.env, Hi' ++ (F q ++ (.obj D (.deferred (some [])) :: R))⟩)
    (left : ∀ D c q, L c q → LW P c ⟨⟨st.n.k, markOf D :: st.n.df, true⟩, st.env, Hi' ++ (G q ++ (.obj D (.deferred (some [])) :: R))⟩ Q) : LW P (.rangeFunc gop ps assign body) st Q := fun w0 ph a w r Q' kk => by
  have hro : w0.ro = none := r.defers.2 htop
  have hgv := (hg _ _ (r.tmps.eval gop)).rawE
  have hps' : ∀ t ∈ ps.toList, t < a.tmps.size := fun t ht => by
    have := List.all_eq_true.1 hps t ht
    rw [r.size]
    exact Nat.le_of_ble_eq_true this
  rw [hro]
  refine wpIn_rangeFunc fun fid _ => ?_
  obtain ⟨rec, hrec⟩ : ∃ rec : Loop, rec = { state := .ready, pending := none, fn := fid, tmps := a.tmps, params := ps, assign, body, defers := w.heap.size } := ⟨_, rfl⟩
  obtain ⟨l, hl⟩ : ∃ l, l = w.heap.size + 1 := ⟨_, rfl⟩
  obtain ⟨D, hD⟩ : ∃ D, D = w.heap.size := ⟨_, rfl⟩
  obtain ⟨w1, hw1⟩ : ∃ w1, w1 = (w.alloc (.deferred (some []))).alloc (.loop rec) := ⟨_, rfl⟩
  have hent : (Instr.enterLoop fid a.tmps ps assign body none).run P w = .ok (l, [markOf D]) w1 := by rw [hl, hD, hw1, hrec]; exact run_enterLoop_outer _ _ _ _ _
  have hcv : a.eval (.const (.func (.yield l) #[] #[])) = .func (.yield l) #[] #[] := rfl
  have hres : (resolve a.eval (rangeCall gop l) 0).run P w1 = .ok { target := .fn (.func gf) caps, args := #[.func (.yield l) #[] #[]] } w1 := by simp [resolve, hgv, Deferred.ofValue, hcv]
  have hinv : (invoke (.fn (.func gf) caps) #[.func (.yield l) #[] #[]]).run P w1 = .ok (.enter gf (#[.func (.yield l) #[] #[]] ++ caps)) w1 := by simp [invoke, enters hf hname hb]
  refine ⟨l, [markOf D], w1, _, w1, gf, _, w1, hent, hres, fun _ _ => trivial, hinv, fun h => (by cases h), ?_⟩
  have hi1 := ((hsub.app r.inv).newObj (.deferred (some []))).newObj (.loop rec)
  rw [show (w.alloc (.deferred (some []))).heap.size = l by rw [hl]; simp, ← hD, ← hw1] at hi1
  have hi2 : Inv w0 ph w1 ((Hi ++ (.since ph :: .obj l (.loop rec) :: F p0)) ++ (.obj D (.deferred (some [])) :: R)) :=
    (HSub.perm (perm_of fun x => (by simp only [List.count_append, List.count_cons]; omega))).app hi1.since
  have hyl := range_yieldsW (ph := ph) (l := l) (rec := rec) round r.size r.tmps hps' hit (by rw [hrec]; exact ⟨rfl, rfl, rfl, rfl, rfl, rfl⟩)
  have hdf : [markOf D] ++ a.defers = markOf D :: st.n.df := by rw [r.defers.1]; rfl
  have hcall := it α (Code × β) (fun p => .since ph :: .obj l (.loop rec) :: F p) (fun q => .since ph :: .obj l (.loop { rec with state := .done, pending := some q.1 }) :: G q.2) φ (fun q => L q.1 q.2) (.func (.yield l) #[] #[]) rfl hyl p0 h0
  have hrp : Reps ph (#[.func (.yield l) #[] #[]] ++ caps) (.raw (.func (.yield l) #[] #[]) :: raws caps.toList) := Reps.append (reps_cons (.raw _) reps_nil) (reps_raws caps)
  refine callsIn_wide.2 ((hcall (.obj D (.deferred (some [])) :: R) w0 ph w1 _ hi2 hrp).mono ?_)
  rintro e w2 ⟨v, ph2, x, H', rfl, hle2, hi, hx, hp⟩
  rcases hp with ⟨q, hq, rfl⟩ | ⟨⟨c, q⟩, hq, rfl⟩
  · have hi3 : Inv w0 ph2 w2 (.obj l (.loop rec) :: (Hi' ++ (F q ++ (.obj D (.deferred (some [])) :: R)) ++ [.since ph])) := (HSub.perm (perm_of fun x => (by simp only [List.count_append, List.count_cons, List.count_nil]; omega))).app hi
    have hpn : rec.pending = none := by rw [hrec]
    refine ⟨rec.pending, _, run_endLoop (P := P) hi3.obj_at (by rw [hrec]; simp), ?_⟩
    have hi4 := hi3.putObj (.loop { rec with state := .exhausted })
    rw [hpn] at hi4 ⊢
    refine kk .normal ph2 ⟨⟨st.n.k, markOf D :: st.n.df, true⟩, st.env, Hi' ++ (F q ++ (.obj D (.deferred (some [])) :: R))⟩ ⟨a.tmps, [markOf D] ++ a.defers⟩ _ hle2 ⟨?_, ⟨hdf, fun _ => hro⟩, r.size, r.tmps.mono hle2⟩ (done D q hq)
    exact ((HSub.drop (HSub.refl _)).trans (HSub.prefix _ _)).app hi4
  · have hi3 : Inv w0 ph2 w2 (.obj l (.loop { rec with state := .done, pending := some c }) :: (Hi' ++ (G q ++ (.obj D (.deferred (some [])) :: R)) ++ [.since ph])) := (HSub.perm (perm_of fun x => (by simp only [List.count_append, List.count_cons, List.count_nil]; omega))).app hi
    refine ⟨some c, _, run_endLoop (P := P) hi3.obj_at (by simp), ?_⟩
    have hi4 := hi3.putObj (.loop { { rec with state := .done, pending := some c } with state := .exhausted })
    have := left D c q hq w0 ph2 { a with defers := [markOf D] ++ a.defers } _ ⟨((HSub.drop (HSub.refl _)).trans (HSub.prefix _ _)).app hi4, ⟨hdf, fun _ => hro⟩, r.size, r.tmps.mono hle2⟩ Q' (fun e ph3 st3 a3 w3 hle3 r3 q3 => kk e ph3 st3 a3 w3 (hle2.trans hle3) r3 q3)
    rw [hro] at this
    exact this
theorem X.rangeW {P : Program} {k0 : Nat} {df : List Deferred} {env : List (Nat × LV)} {H : List Atom} {Q : Exit → LS → Prop} {t : List It} {gop : Operand} {ps : Array Tmp} {assign body : Code} {gf : FuncId} {fn : Func} {caps : Array Value} {ι : Type} {items : List ι} {J : ι → List LV → List Atom → Prop} {Hi Hi' R : List Atom}
    (hg : Is (ev env gop) (.raw (.func (.func gf) #[] caps))) (hf : P.funcs[gf]? = some fn) (hname : (fn.name == "runtime.NumGoroutine") = false) (hb : fn.body.isSome = true) (it : LIterW P gf caps items J Hi Hi')
    (hps : (ps.toList.all fun t => Nat.blt t k0) = true) (hit : ∀ y ∈ items, ∀ x Hx, J y x Hx → x.length = ps.size)
    {α β : Type} (F : α → List Atom) (G : β → List Atom) (φ : Nat → α → Prop) (L : Code → β → Prop) (p0 : α) (h0 : φ 0 p0) (hsub : HSub H (Hi ++ (F p0 ++ R)))
    (round : RoundOkW P k0 env ps.toList assign body items J F G φ L)
    (done : ∀ D q, φ items.length q → after P t Q .normal ⟨⟨k0, markOf D :: df, true⟩, env, Hi' ++ (F q ++ (.obj D (.deferred (some [])) :: R))⟩)
    (left : ∀ D c q, L c q → LW P c ⟨⟨k0, markOf D :: df, true⟩, env, Hi' ++ (G q ++ (.obj D (.deferred (some [])) :: R))⟩ (after P t Q)) : LW P (.rangeFunc gop ps assign body) ⟨⟨k0, df, true⟩, env, H⟩ (after P t Q) :=
  LW.rangeW (st := ⟨⟨k0, df, true⟩, env, H⟩) hg rfl hf hname hb it hps hit F G φ L p0 h0 hsub round done left
/-! ### first in any order, then in the one that is left -/
section
variable {P : Program} {ops : Array Oper} {K : LS → Prop}
theorem getD_tf {S : Array Bool} {j : Nat} (h : S.getD j false = true) : S.getD j true = true := by
  by_cases hj : j < S.size
  · rw [Array.getD_eq_getD_getElem?, Array.getElem?_eq_getElem hj] at h ⊢; exact h
  · rw [Array.getD_eq_getD_getElem?, Array.getElem?_eq_none (by omega)]; rfl
theorem getD_ft {S : Array Bool} {j : Nat} (hj : j < S.size) (h : S.getD j true = true) : S.getD j false = true := by
  rw [Array.getD_eq_getD_getElem?, Array.getElem?_eq_getElem hj] at h ⊢; exact h
theorem LA.invM {m : Nat} (hok : DrawOk ops m) (hm : m ≤ ops.size) {I : Array Bool → LS → Prop} (l2 : List Oper) (hl2 : m + l2.length = ops.size) (hget : ∀ j, j < l2.length → ops[m + j]? = l2[j]?)
    (step : ∀ S st i, I S st → S.size = ops.size → Down ops S → i < m → i ∈ Region.ready .any ops S → ∃ o, ops[i]? = some o ∧ LP P ops o st (fun s => I (S.setIfInBounds i true) s))
    (fin : ∀ S st, I S st → (∀ j, j < m → S.getD j true = true) → LL P ops l2 st K) :
    ∀ fuel S st, S.size = ops.size → Down ops S → (∀ i, m ≤ i → i < ops.size → S.getD i true = false) → left S (List.range ops.size) ≤ fuel → I S st → LA P ops fuel S st K
  | fuel, S, st, hs, hd, hz, hf, hI => by
    by_cases hall : ∀ j, j < m → S.getD j true = true
    · intro w0 ph a w r Q kk
      refine oany_tail hok l2 m fuel S a w (Nat.le_refl _) hl2 hget hs (fun j hj => ⟨fun h => ?_, hall j⟩) ?_ (fin S st hI hall w0 ph a w r Q kk)
      · by_cases hjm : j < m
        · exact hjm
        · rw [hz j (by omega) hj] at h; cases h
      · have : ∀ (k : Nat) (l : List Nat), (∀ i ∈ l, S.getD i true = false) → l.length ≤ left S l := fun k l => by
          induction l with
          | nil => intro _; simp [left]
          | cons x l ih =>
            intro h
            have h1 := ih fun i hi => h i (by simp [hi])
            have h2 := h x (by simp)
            simp only [left, h2, List.length_cons]
            simp
            omega
        have hsplit : ∀ (a b : List Nat), left S (a ++ b) = left S a + left S b := fun a b => by
          induction a with
          | nil => simp [left]
          | cons x a ih => simp only [List.cons_append, left, ih]; omega
        have e : List.range ops.size = List.range m ++ (List.range l2.length).map (m + ·) := by rw [← hl2, List.range_add]
        rw [e, hsplit] at hf
        have h3 := this 0 ((List.range l2.length).map (m + ·)) fun i hi => by
          obtain ⟨q, hq, rfl⟩ := List.mem_map.1 hi
          exact hz _ (by omega) (by have := List.mem_range.1 hq; omega)
        simp only [List.length_map, List.length_range] at h3
        omega
    · cases hr : Region.ready .any ops S with
      | nil =>
        refine absurd (fun j hj => ?_) hall
        have hlt : ((List.range ops.size).all fun i => (direct ops i).all fun j => Nat.blt j i) = true := List.all_eq_true.2 fun i hi => List.all_eq_true.2 fun j hj => Nat.ble_eq_true_of_le (hok.less i (List.mem_range.1 hi) j hj)
        exact all_done hs hlt hr j
      | cons i rs =>
        have hmem : ∀ j ∈ i :: rs, j ∈ Region.ready .any ops S := fun j hj => by rw [hr]; exact hj
        have hlm : ∀ j ∈ Region.ready .any ops S, j < m := fun j hj => by
          obtain ⟨h1, h2, h3⟩ := ready_iff.1 hj
          by_cases hjm : j < m
          · exact hjm
          · refine absurd (fun k hk => ?_) hall
            exact getD_tf (clo_down hok hd j k h2 (by omega) (hok.last j k h2 (by omega) (by omega)) h3)
        obtain ⟨h1, h2, _⟩ := ready_iff.1 (hmem i (by simp))
        have hpos := left_set h2 h1
        cases fuel with
        | zero => omega
        | succ n =>
          refine LA.step hr ?_
          have all : ∀ l : List Nat, (∀ j ∈ l, j ∈ Region.ready .any ops S) → LAs P ops n S st K l := by
            intro l
            induction l with
            | nil => intro _; exact .nil
            | cons j l ih =>
              intro hl
              have hj := hl j (by simp)
              obtain ⟨o, ho, hp⟩ := step S st j hI hs hd (hlm j hj) hj
              obtain ⟨g1, g2, g3⟩ := ready_iff.1 hj
              have hlt := left_set g2 g1
              have hjm := hlm j hj
              refine .cons ho rfl (fun w0 ph a w r N Q k => hp w0 ph a w r N Q fun ph' st' a' w' hle r' q => k ph' st' a' w' hle r' (LA.invM hok hm l2 hl2 hget step fin n _ st' (by simp [hs]) ?_ ?_ (by omega) q)) (ih fun q hq => hl q (by simp [hq]))
              · intro x hx y hy
                rw [getD_set (by omega)] at hx ⊢
                by_cases hyj : y = j
                · rw [if_pos hyj]
                · rw [if_neg hyj]
                  by_cases hxj : x = j
                  · subst hxj; exact g3 y hy
                  · rw [if_neg hxj] at hx; exact hd x hx y hy
              · intro x hx hxs
                rw [getD_set (by omega), if_neg (by omega)]
                exact hz x hx hxs
          exact all _ hmem
theorem envS_all {val : Nat → LV} {f : Nat → Bool} {env : List (Nat × LV)} : ∀ {sl : List (Nat × Nat)}, (∀ p ∈ sl, f p.1 = true) → envS sl val f env = envS sl val (fun _ => true) env
  | [], _ => rfl
  | p :: sl, h => by
    show (p.2, cond (f p.1) (val p.2) .any) :: envS sl val f env = (p.2, val p.2) :: envS sl val (fun _ => true) env
    rw [h p (by simp), envS_all fun q hq => h q (by simp [hq])]
    rfl
/-- A region that draws its order: its first m operations each once, whatever else of them is done; then the others. -/
theorem LW.invM {id m : Nat} {n : NN} {env : List (Nat × LV)} {H : List Atom} {l : List Oper} {Q : Exit → LS → Prop} {γ : Type} (sl : List (Nat × Nat)) (val : γ → Nat → LV) (hp : γ → (Nat → Bool) → List Atom) (g0 : γ)
    (hmo : P.follows .mixedOrders = true) (hok : drawOk l.toArray m = true) (hm : Nat.ble m l.length = true) (hsl : (sl.all fun p => Nat.blt p.1 m) = true)
    (init : HSub H (hp g0 fun j => (Array.replicate l.length false).getD j true))
    (each : ∀ i, i < m → ∀ f g, f i = false → (∀ j ∈ direct l.toArray i, f j = true) → (∀ j, j < m → f j = true → ∀ k ∈ direct l.toArray j, f k = true) → ∃ o, l.toArray[i]? = some o ∧ LP P l.toArray o ⟨n, envS sl (val g) f env, hp g f⟩ (fun s => ∃ g', Weaker s ⟨n, envS sl (val g') (upd f i) env, hp g' (upd f i)⟩))
    (fin : ∀ g f, (∀ j, j < m → f j = true) → LL P l.toArray (l.drop m) ⟨n, envS sl (val g) (fun _ => true) env, hp g f⟩ (fun s => Q .normal s)) (hnd : noDefer l = true := by kernel_rfl) : LW P (.region id l.toArray true) ⟨n, env, H⟩ Q := by
  have hm' : m ≤ l.length := Nat.le_of_ble_eq_true hm
  have hO := DrawOk.of hok
  have hsz : l.toArray.size = l.length := by simp
  refine LW.all hmo (LA.invM hO (by omega) (I := fun S s => ∃ g, Weaker s ⟨n, envS sl (val g) (fun j => S.getD j true) env, hp g (fun j => S.getD j true)⟩) (l.drop m) (by simp; omega) (fun j hj => by simp) ?_ ?_ l.toArray.size _ _ (by simp) ?_ ?_ ?_ ?_) hnd
  · rintro S st i ⟨g, hw⟩ hs hd him hi
    obtain ⟨h1, h2, h3⟩ := ready_iff.1 hi
    obtain ⟨o, ho, hlp⟩ := each i him (fun j => S.getD j true) g h1 (fun j hj => getD_tf (h3 j hj)) (fun j hj hf k hk => getD_tf (hd j (getD_ft (by omega) hf) k hk))
    refine ⟨o, ho, hw.lp fun w0 ph a w r N Q' k => hlp w0 ph a w r N Q' fun ph' st' a' w' hle r' q => k ph' st' a' w' hle r' ?_⟩
    rw [getD_upd (by omega)]; exact q
  · rintro S st ⟨g, hw⟩ hall
    have e := envS_all (val := val g) (f := fun j => S.getD j true) (env := env) (sl := sl) fun p hp' => hall p.1 (Nat.le_of_ble_eq_true (List.all_eq_true.1 hsl p hp'))
    rw [e] at hw
    intro w0 ph a w r Q' kk
    exact fin g _ hall w0 ph a w (hw.rels r) Q' kk
  · intro i hi
    simp [Array.getD_eq_getD_getElem?, Array.getElem?_replicate] at hi
    split at hi <;> simp_all
  · intro i hi1 hi2
    rw [Array.getD_eq_getD_getElem?, Array.getElem?_replicate, if_pos hi2]; rfl
  · have : ∀ (S : Array Bool) (l : List Nat), left S l ≤ l.length := fun S l => by
      induction l with
      | nil => simp [left]
      | cons a l ih => simp only [left, List.length_cons]; split <;> omega
    have := this (Array.replicate l.toArray.size false) (List.range l.toArray.size)
    simpa using this
  · have hz : ∀ p ∈ sl, (Array.replicate l.toArray.size false).getD p.1 true = false := fun p hp' => by
      have := Nat.le_of_ble_eq_true (List.all_eq_true.1 hsl p hp')
      rw [Array.getD_eq_getD_getElem?, Array.getElem?_replicate, if_pos (by omega)]; rfl
    refine ⟨g0, rfl, envS_start (val g0) (fun j => (Array.replicate l.toArray.size false).getD j true) env sl hz, ?_⟩
    rw [hsz]
    exact init
end
theorem X.eghost {P : Program} {n : NN} {env : List (Nat × LV)} {H H' : List Atom} {rs : Array ResultVar} {R : List Atom} {post : LV → List Atom → Prop} {e : Exit} (hs : HSub H H') (h : Ends P rs R post e ⟨n, env, H'⟩) : Ends P rs R post e ⟨n, env, H⟩ :=
  ⟨h.1, fun w0 ph a w fn hf r => h.2 w0 ph a w fn hf ⟨hs.app r.inv, r.defers, r.size, r.tmps⟩⟩
/-- A plain iterator, as one whose items own nothing. -/
theorem LIter.w {P : Program} {gf : FuncId} {caps : Array Value} {items : List (List LV)} {Hi Hi' : List Atom} (h : LIter P gf caps items Hi Hi') : LIterW P gf caps items (fun y x Hx => x = y ∧ Hx = []) Hi Hi' :=
  fun α β F G φ ψ yv _ hy p0 h0 => h α β F G φ ψ yv (fun k p x hx hp => hy k p x x [] hx ⟨rfl, rfl⟩ hp) p0 h0
theorem LU.nilFEqS {P : Program} {env : List (Nat × LV)} {H : List Atom} {d : Option Tmp} {ty : TypeId} {pos : String} {af : Array Edge} {g : Option (Nat × Bool)} {x y : Operand} {t t' : TypeId} {ps rs : Array TypeId} {va : Bool} {fn : Go.Fn} {xs ys : Array Value} (ht : P.underlying t = some (.func ps rs va)) (hx : Is (ev env x) (.raw (.func fn xs ys))) (hy : Is (ev env y) (.raw (.nilFunc))) : LU P env H ⟨d, .binOp .eql t x y t', ty, pos, af, g⟩ (.raw (.bool false)) := .raw fun ac hl w => by
  have h1 := hl x (by simp [Op.operands]) _ hx
  have h2 := hl y (by simp [Op.operands]) _ hy
  have he : (Op.equal t (.func fn xs ys) (.nilFunc)).run P w = .ok false w := by
    rw [show Op.equal t (.func fn xs ys) (.nilFunc) = Op.equalIn (9999 + 1) t (.func fn xs ys) (.nilFunc) from rfl, Op.equalIn]
    rw [Sem.run_bind, run_underlying ht, Result.andThen_ok]
    rfl
  have hg : (eqGuard .eql t x y (.func fn xs ys) (.nilFunc)).run P w = .ok () w := by unfold eqGuard; simp
  have hb : binOp .eql t (.func fn xs ys) (.nilFunc) = (do pure (.bool ((← Op.equal t (.func fn xs ys) (.nilFunc))))) := by rfl
  simp only [execOp, h1, h2, Sem.run_bind, hg, Result.andThen_ok, hb, he, Sem.run_pure] <;> rfl
theorem LU.nilFEqN {P : Program} {env : List (Nat × LV)} {H : List Atom} {d : Option Tmp} {ty : TypeId} {pos : String} {af : Array Edge} {g : Option (Nat × Bool)} {x y : Operand} {t t' : TypeId} {ps rs : Array TypeId} {va : Bool} (ht : P.underlying t = some (.func ps rs va)) (hx : Is (ev env x) (.raw (.nilFunc))) (hy : Is (ev env y) (.raw (.nilFunc))) : LU P env H ⟨d, .binOp .eql t x y t', ty, pos, af, g⟩ (.raw (.bool true)) := .raw fun ac hl w => by
  have h1 := hl x (by simp [Op.operands]) _ hx
  have h2 := hl y (by simp [Op.operands]) _ hy
  have he : (Op.equal t (.nilFunc) (.nilFunc)).run P w = .ok true w := by
    rw [show Op.equal t (.nilFunc) (.nilFunc) = Op.equalIn (9999 + 1) t (.nilFunc) (.nilFunc) from rfl, Op.equalIn]
    rw [Sem.run_bind, run_underlying ht, Result.andThen_ok]
    rfl
  have hg : (eqGuard .eql t x y (.nilFunc) (.nilFunc)).run P w = .ok () w := by unfold eqGuard; simp
  have hb : binOp .eql t (.nilFunc) (.nilFunc) = (do pure (.bool ((← Op.equal t (.nilFunc) (.nilFunc))))) := by rfl
  simp only [execOp, h1, h2, Sem.run_bind, hg, Result.andThen_ok, hb, he, Sem.run_pure] <;> rfl
theorem LU.nilMEqS {P : Program} {env : List (Nat × LV)} {H : List Atom} {d : Option Tmp} {ty : TypeId} {pos : String} {af : Array Edge} {g : Option (Nat × Bool)} {x y : Operand} {t t' : TypeId} {kt et : TypeId} {b : Nat} (ht : P.underlying t = some (.map kt et)) (hx : Is (ev env x) (.raw (.map (some b)))) (hy : Is (ev env y) (.raw (.map none))) : LU P env H ⟨d, .binOp .eql t x y t', ty, pos, af, g⟩ (.raw (.bool false)) := .raw fun ac hl w => by
  have h1 := hl x (by simp [Op.operands]) _ hx
  have h2 := hl y (by simp [Op.operands]) _ hy
  have he : (Op.equal t (.map (some b)) (.map none)).run P w = .ok false w := by
    rw [show Op.equal t (.map (some b)) (.map none) = Op.equalIn (9999 + 1) t (.map (some b)) (.map none) from rfl, Op.equalIn]
    rw [Sem.run_bind, run_underlying ht, Result.andThen_ok]
    rfl
  have hg : (eqGuard .eql t x y (.map (some b)) (.map none)).run P w = .ok () w := by unfold eqGuard; simp
  have hb : binOp .eql t (.map (some b)) (.map none) = (do pure (.bool ((← Op.equal t (.map (some b)) (.map none))))) := by rfl
  simp only [execOp, h1, h2, Sem.run_bind, hg, Result.andThen_ok, hb, he, Sem.run_pure] <;> rfl
theorem LU.nilMEqN {P : Program} {env : List (Nat × LV)} {H : List Atom} {d : Option Tmp} {ty : TypeId} {pos : String} {af : Array Edge} {g : Option (Nat × Bool)} {x y : Operand} {t t' : TypeId} {kt et : TypeId} (ht : P.underlying t = some (.map kt et)) (hx : Is (ev env x) (.raw (.map none))) (hy : Is (ev env y) (.raw (.map none))) : LU P env H ⟨d, .binOp .eql t x y t', ty, pos, af, g⟩ (.raw (.bool true)) := .raw fun ac hl w => by
  have h1 := hl x (by simp [Op.operands]) _ hx
  have h2 := hl y (by simp [Op.operands]) _ hy
  have he : (Op.equal t (.map none) (.map none)).run P w = .ok true w := by
    rw [show Op.equal t (.map none) (.map none) = Op.equalIn (9999 + 1) t (.map none) (.map none) from rfl, Op.equalIn]
    rw [Sem.run_bind, run_underlying ht, Result.andThen_ok]
    rfl
  have hg : (eqGuard .eql t x y (.map none) (.map none)).run P w = .ok () w := by unfold eqGuard; simp
  have hb : binOp .eql t (.map none) (.map none) = (do pure (.bool ((← Op.equal t (.map none) (.map none))))) := by rfl
  simp only [execOp, h1, h2, Sem.run_bind, hg, Result.andThen_ok, hb, he, Sem.run_pure] <;> rfl
theorem LU.nilFNeS {P : Program} {env : List (Nat × LV)} {H : List Atom} {d : Option Tmp} {ty : TypeId} {pos : String} {af : Array Edge} {g : Option (Nat × Bool)} {x y : Operand} {t t' : TypeId} {ps rs : Array TypeId} {va : Bool} {fn : Go.Fn} {xs ys : Array Value} (ht : P.underlying t = some (.func ps rs va)) (hx : Is (ev env x) (.raw (.func fn xs ys))) (hy : Is (ev env y) (.raw (.nilFunc))) : LU P env H ⟨d, .binOp .neq t x y t', ty, pos, af, g⟩ (.raw (.bool true)) := .raw fun ac hl w => by
  have h1 := hl x (by simp [Op.operands]) _ hx
  have h2 := hl y (by simp [Op.operands]) _ hy
  have he : (Op.equal t (.func fn xs ys) (.nilFunc)).run P w = .ok false w := by
    rw [show Op.equal t (.func fn xs ys) (.nilFunc) = Op.equalIn (9999 + 1) t (.func fn xs ys) (.nilFunc) from rfl, Op.equalIn]
    rw [Sem.run_bind, run_underlying ht, Result.andThen_ok]
    rfl
  have hg : (eqGuard .neq t x y (.func fn xs ys) (.nilFunc)).run P w = .ok () w := by unfold eqGuard; simp
  have hb : binOp .neq t (.func fn xs ys) (.nilFunc) = (do pure (.bool (!(← Op.equal t (.func fn xs ys) (.nilFunc))))) := by rfl
  simp only [execOp, h1, h2, Sem.run_bind, hg, Result.andThen_ok, hb, he, Sem.run_pure] <;> rfl
theorem LU.nilFNeN {P : Program} {env : List (Nat × LV)} {H : List Atom} {d : Option Tmp} {ty : TypeId} {pos : String} {af : Array Edge} {g : Option (Nat × Bool)} {x y : Operand} {t t' : TypeId} {ps rs : Array TypeId} {va : Bool} (ht : P.underlying t = some (.func ps rs va)) (hx : Is (ev env x) (.raw (.nilFunc))) (hy : Is (ev env y) (.raw (.nilFunc))) : LU P env H ⟨d, .binOp .neq t x y t', ty, pos, af, g⟩ (.raw (.bool false)) := .raw fun ac hl w => by
  have h1 := hl x (by simp [Op.operands]) _ hx
  have h2 := hl y (by simp [Op.operands]) _ hy
  have he : (Op.equal t (.nilFunc) (.nilFunc)).run P w = .ok true w := by
    rw [show Op.equal t (.nilFunc) (.nilFunc) = Op.equalIn (9999 + 1) t (.nilFunc) (.nilFunc) from rfl, Op.equalIn]
    rw [Sem.run_bind, run_underlying ht, Result.andThen_ok]
    rfl
  have hg : (eqGuard .neq t x y (.nilFunc) (.nilFunc)).run P w = .ok () w := by unfold eqGuard; simp
  have hb : binOp .neq t (.nilFunc) (.nilFunc) = (do pure (.bool (!(← Op.equal t (.nilFunc) (.nilFunc))))) := by rfl
  simp only [execOp, h1, h2, Sem.run_bind, hg, Result.andThen_ok, hb, he, Sem.run_pure] <;> rfl
theorem LU.nilMNeS {P : Program} {env : List (Nat × LV)} {H : List Atom} {d : Option Tmp} {ty : TypeId} {pos : String} {af : Array Edge} {g : Option (Nat × Bool)} {x y : Operand} {t t' : TypeId} {kt et : TypeId} {b : Nat} (ht : P.underlying t = some (.map kt et)) (hx : Is (ev env x) (.raw (.map (some b)))) (hy : Is (ev env y) (.raw (.map none))) : LU P env H ⟨d, .binOp .neq t x y t', ty, pos, af, g⟩ (.raw (.bool true)) := .raw fun ac hl w => by
  have h1 := hl x (by simp [Op.operands]) _ hx
  have h2 := hl y (by simp [Op.operands]) _ hy
  have he : (Op.equal t (.map (some b)) (.map none)).run P w = .ok false w := by
    rw [show Op.equal t (.map (some b)) (.map none) = Op.equalIn (9999 + 1) t (.map (some b)) (.map none) from rfl, Op.equalIn]
    rw [Sem.run_bind, run_underlying ht, Result.andThen_ok]
    rfl
  have hg : (eqGuard .neq t x y (.map (some b)) (.map none)).run P w = .ok () w := by unfold eqGuard; simp
  have hb : binOp .neq t (.map (some b)) (.map none) = (do pure (.bool (!(← Op.equal t (.map (some b)) (.map none))))) := by rfl
  simp only [execOp, h1, h2, Sem.run_bind, hg, Result.andThen_ok, hb, he, Sem.run_pure] <;> rfl
theorem LU.nilMNeN {P : Program} {env : List (Nat × LV)} {H : List Atom} {d : Option Tmp} {ty : TypeId} {pos : String} {af : Array Edge} {g : Option (Nat × Bool)} {x y : Operand} {t t' : TypeId} {kt et : TypeId} (ht : P.underlying t = some (.map kt et)) (hx : Is (ev env x) (.raw (.map none))) (hy : Is (ev env y) (.raw (.map none))) : LU P env H ⟨d, .binOp .neq t x y t', ty, pos, af, g⟩ (.raw (.bool false)) := .raw fun ac hl w => by
  have h1 := hl x (by simp [Op.operands]) _ hx
  have h2 := hl y (by simp [Op.operands]) _ hy
  have he : (Op.equal t (.map none) (.map none)).run P w = .ok true w := by
    rw [show Op.equal t (.map none) (.map none) = Op.equalIn (9999 + 1) t (.map none) (.map none) from rfl, Op.equalIn]
    rw [Sem.run_bind, run_underlying ht, Result.andThen_ok]
    rfl
  have hg : (eqGuard .neq t x y (.map none) (.map none)).run P w = .ok () w := by unfold eqGuard; simp
  have hb : binOp .neq t (.map none) (.map none) = (do pure (.bool (!(← Op.equal t (.map none) (.map none))))) := by rfl
  simp only [execOp, h1, h2, Sem.run_bind, hg, Result.andThen_ok, hb, he, Sem.run_pure] <;> rfl
theorem X.nghost {α : Type} {m n : NN} {e : List (Nat × LV)} {mod : α → List (Nat × LV)} {live : List Nat} {e0 : List (Nat × LV)} {hp : α → List Atom} {φ : α → Prop} {μ : α → Nat} {p : α} {H H' : List Atom} (hs : HSub H H') (h : Next m mod live e0 hp φ μ p ⟨n, e, H'⟩) : Next m mod live e0 hp φ μ p ⟨n, e, H⟩ := by
  obtain ⟨q, h1, h2, h3, h4, h5, h6⟩ := h
  exact ⟨q, h1, h2, h3, h4, hs.trans h5, h6⟩
/-- Owned bytes, as a text. -/
theorem LU.tostrL {P : Program} {env : List (Nat × LV)} {H : List Atom} {d : Option Tmp} {ty : TypeId} {pos : String} {af : Array Edge} {g : Option (Nat × Bool)} {x : Operand} {src dst e : TypeId} {l : List UInt8} {k : Cap} (hs : P.underlying src = some (.slice e)) (he : P.underlying e = some (.int .u8)) (hd : P.underlying dst = some .string) (hx : IsL H (ev env x) (Bytes l k)) : LU P env H ⟨d, .convert src dst x, ty, pos, af, g⟩ (Str l) := .of_run fun ph a hl w0 w hinv0 => by
  have r := hx _ _ _ _ hinv0 (hl x (by simp [Op.operands]))
  have hinv := Inv.start w
  obtain ⟨A, n, c, hu⟩ := rep_slice_form r
  rw [hu] at r
  obtain ⟨hn, hcell⟩ := bytes_cells hinv r
  refine ⟨.string ⟨l.toArray⟩, ?_, .raw _⟩
  cases A with
  | none =>
    have h0 : l = [] := by
      cases l with
      | nil => rfl
      | cons b l =>
        cases r with | sl _ _ _ _ _ _ ad u hA hn hnc hs hcap hp hr =>
          have := hA (by simp [byteEls])
          cases this
    subst h0
    simp [execOp, hu, run_convert_bytes_nil w src e hs he n c dst hd]
    rfl
  | some ad =>
    have hload : (loadCells ad n).run P w = .ok ((l.map fun b => (b.toNat : Int)).map (Value.int .u8)).toArray w := by
      have := run_loadCells_list (P := P) w ad (l.map fun b => Value.int .u8 b.toNat) (fun j v h => hcell ad rfl j v h)
      simpa [← hn, List.map_map, Function.comp_def] using this
    simp only [execOp, hu, run_convert_bytes_string w src dst e _ n c hs he hd, run_bytesToString w ad n c _ hload, foldl_push, Sem.run_bind, Result.andThen_ok, Sem.run_pure]
    rfl
end Go.L

set_option linter.unusedVariables false
set_option linter.unusedSimpArgs false
namespace Go.L
open Go.RowKit
section
variable {P : Program} {env : List (Nat × LV)} {H : List Atom} {d : Option Tmp} {ty : TypeId} {pos : String} {af : Array Edge} {g : Option (Nat × Bool)} {st : LS} {K : LS → Prop}
/-! ### function values -/
/-- What a call of a function value gives. -/
def FnCalls (P : Program) (v : Value) (args : List LV) (H : List Atom) (post : LV → List Atom → Prop) : Prop :=
  ∃ (f : FuncId) (fn : Func) (first caps : Array Value), v = .func (.func f) first caps ∧ P.funcs[f]? = some fn ∧ (fn.name == "runtime.NumGoroutine") = false ∧ fn.body.isSome = true ∧ LCalls P f (raws first.toList ++ (args ++ raws caps.toList)) H post
theorem FnCalls.mono {v : Value} {args : List LV} {H : List Atom} {post post' : LV → List Atom → Prop} (h : FnCalls P v args H post) (hp : ∀ r H', post r H' → post' r H') : FnCalls P v args H post' := by
  obtain ⟨f, fn, first, caps, h1, h2, h3, h4, h5⟩ := h
  exact ⟨f, fn, first, caps, h1, h2, h3, h4, h5.mono hp⟩
/-- A function by its name. -/
theorem FnCalls.named {f : FuncId} {fn : Func} {args : List LV} {H : List Atom} {post : LV → List Atom → Prop} (hf : P.funcs[f]? = some fn) (hname : (fn.name == "runtime.NumGoroutine") = false) (hb : fn.body.isSome = true) (h : LCalls P f args H post) : FnCalls P (.func (.func f) #[] #[]) args H post :=
  ⟨f, fn, #[], #[], rfl, hf, hname, hb, by simpa [raws] using h⟩
/-- A closure. -/
theorem FnCalls.closure {f : FuncId} {fn : Func} {caps : Array Value} {args : List LV} {H : List Atom} {post : LV → List Atom → Prop} (hf : P.funcs[f]? = some fn) (hname : (fn.name == "runtime.NumGoroutine") = false) (hb : fn.body.isSome = true) (h : LCalls P f (args ++ raws caps.toList) H post) : FnCalls P (.func (.func f) #[] caps) args H post :=
  ⟨f, fn, #[], caps, rfl, hf, hname, hb, by simpa [raws] using h⟩
/-- A method bound to its receiver. -/
theorem FnCalls.bound {f : FuncId} {fn : Func} {v : Value} {args : List LV} {H : List Atom} {post : LV → List Atom → Prop} (hf : P.funcs[f]? = some fn) (hname : (fn.name == "runtime.NumGoroutine") = false) (hb : fn.body.isSome = true) (h : LCalls P f (.raw v :: args) H post) : FnCalls P (.func (.func f) #[v] #[]) args H post :=
  ⟨f, fn, #[v], #[], rfl, hf, hname, hb, by simpa [raws] using h⟩
theorem LO.callF {v : Value} {t : Operand} {as : Array Operand} {ts : Array TypeId} {vs : List LV} {Hc R : List Atom} {post : LV → List Atom → Prop} {d : Tmp} (hc : FnCalls P v vs Hc post) (ht : Is (ev st.env t) (.raw v)) (hd : Nat.blt d st.n.k = true) (hsub : HSub st.heap (Hc ++ R)) (ha : Opds st.env as.toList vs)
    (h : ∀ r H', post r H' → K ⟨st.n, (d, r) :: st.env, H' ++ R⟩) : LO P ⟨some d, .call { callee := .value t, args := as, argTypes := ts }, ty, pos, af, g⟩ st K := fun w0 ph a w r N Q k => by
  obtain ⟨f, fn, first, caps, rfl, hf, hname, hb, hc⟩ := hc
  have hargs := ha.reps (a := a) (ph := ph) (fun x _ => r.tmps.eval x)
  have htv := (ht _ _ (r.tmps.eval t)).rawE
  have hrun : (execOp a.eval ⟨some d, .call { callee := .value t, args := as, argTypes := ts }, ty, pos, af, g⟩).run P w = .ok (.enter f (first ++ as.map a.eval ++ caps)) w := by
    simp [execOp, resolve, htv, Deferred.ofValue, invoke, enters hf hname hb]
  unfold owp
  rw [hrun]
  refine upon_enter ?_
  refine (hc R w0 ph w (first ++ as.map a.eval ++ caps) (hsub.app r.inv) (by rw [map_arr a.eval as, Array.append_assoc]; exact (reps_raws first).append (hargs.append (reps_raws caps)))).mono ?_
  rintro e w' ⟨v, ph', x, H', rfl, hle, hi, hx, hp⟩
  exact k ph' _ _ w' hle (r.put hle hi hd hx) (h x H' hp)
theorem X.callF {n : NN} {v : Value} {t : Operand} {as : Array Operand} {ts : Array TypeId} {vs : List LV} {Hc R : List Atom} {post : LV → List Atom → Prop} {d : Tmp} (hc : FnCalls P v vs Hc post) (ht : Is (ev env t) (.raw v)) (hd : Nat.blt d n.k = true) (hsub : HSub H (Hc ++ R)) (ha : Opds env as.toList vs)
    (h : ∀ r H', post r H' → K ⟨n, (d, r) :: env, H' ++ R⟩) : LO P ⟨some d, .call { callee := .value t, args := as, argTypes := ts }, ty, pos, af, g⟩ ⟨n, env, H⟩ K := LO.callF (st := ⟨n, env, H⟩) hc ht hd hsub ha h
/-- x.m, a method bound. -/
theorem LU.bound {f : FuncId} {x : Operand} {v : Value} (h : Is (ev env x) (.raw v)) : LU P env H ⟨d, .makeFunc (.func f) #[x] #[], ty, pos, af, g⟩ (.raw (.func (.func f) #[v] #[])) := .of_run fun ph a hl w0 w hi => by
  have := (h _ _ (hl x (by simp [Op.operands]))).rawE
  refine ⟨_, ?_, .raw _⟩
  simp [execOp, Instr.makeFunc, this]
end
/-! ### scopes -/
section
variable {P : Program} {b : Frame} {a : Act} {k : List Item} {cs : List Frame} {w : World}
theorem stepR_scope {c : Code} : step P (lone (b.atR a (.code (.scope c) :: k)) cs w) = .next (lone (b.atR a (.code c :: .inScope c :: k)) cs w) :=
  step_lone_go (by simp [stepG, stepG.exec, Frame.atR])
theorem stepR_inScope {c : Code} : step P (lone (b.atR a (.inScope c :: k)) cs w) = .next (lone (b.atR a k) cs w) :=
  step_lone_go (by simp [stepG, stepG.exec, Frame.atR])
theorem wpIn_scope {F : Fence} {n : Nat} {Q : Exit → Act → World → Prop} {c : Code} (h : c.wpIn F n P (Exit.noGoto Q) a w) : (Code.scope c).wpIn F n P Q a w := by
  intro b k cs hro hb hr
  have h0 : (lone (b.atR a (.code (.scope c) :: k)) cs w).fenced P F := fenced_calm hb hr rfl
  obtain ⟨e, a₁, w₁, hq, harr⟩ := h b (.inScope c :: k) cs hro hb hr
  cases e with
  | normal => exact ⟨.normal, a₁, w₁, hq, .head h0 stepR_scope (StepsIn.trans harr (.one (fenced_calm hb hr rfl) stepR_inScope))⟩
  | exit id =>
    have hx : exitTo id (.inScope c :: k) = exitTo id k := by simp [exitTo]
    exact ⟨.exit id, a₁, w₁, hq, fun k' hk => .head h0 stepR_scope (harr.1 k' (by rw [hx]; exact hk)),
      fun hr' hk => let ⟨k₁, h1, h2⟩ := harr.2 hr' (by rw [hx]; exact hk); ⟨k₁, h1, .head h0 stepR_scope h2⟩⟩
  | goto l => exact hq.elim
  | ret => exact ⟨_, a₁, w₁, hq, .of_steps (.one h0 stepR_scope) harr⟩
  | panic ch => exact ⟨_, a₁, w₁, hq, .of_steps (.one h0 stepR_scope) harr⟩
  | outgrown => exact ⟨_, a₁, w₁, hq, .of_steps (.one h0 stepR_scope) harr⟩
end
section
variable {P : Program} {st : LS} {Q : Exit → LS → Prop} {t : List It} {c : Code}
/-- A scope through which the run goes without a jump. -/
theorem LW.scope (hg : ∀ i s, ¬ after P t Q (.goto i) s) (h : LW P c st (after P t Q)) : LW P (.scope c) st (after P t Q) := fun w0 ph a w r Q' kk => by
  refine wpIn_scope (h w0 ph a w r (Exit.noGoto Q') fun e ph' st' a' w' hle r' q => ?_)
  cases e with
  | goto i => exact (hg i st' q).elim
  | normal => exact kk _ ph' st' a' w' hle r' q
  | exit i => exact kk _ ph' st' a' w' hle r' q
  | ret => exact kk _ ph' st' a' w' hle r' q
  | panic c => exact kk _ ph' st' a' w' hle r' q
  | outgrown => exact kk _ ph' st' a' w' hle r' q
theorem LW.label {i : Nat} (h : Q .normal st) : LW P (.label i) st Q := fun w0 ph a w r Q' kk => wpIn_label (kk _ ph st a w (PH.le.refl _) r h)
theorem no_goto {rs : Array ResultVar} {R : List Atom} {post : LV → List Atom → Prop} (i : Nat) (s : LS) : ¬ after P [] (Ends P rs R post) (.goto i) s := fun h => by
  rcases h.1 with h | h <;> cases h
end
/-! ### contracts, told otherwise -/
theorem LCalls.weak {P : Program} {f : FuncId} {args : List LV} {H : List Atom} {post post' : LV → List Atom → Prop} (h : LCalls P f args H post) (hp : ∀ r H', post r H' → ∃ r' H'', Is r r' ∧ HSub H' H'' ∧ post' r' H'') : LCalls P f args H post' := fun R w0 ph w vs hi hr => by
  refine (h R w0 ph w vs hi hr).mono ?_
  rintro e w' ⟨v, ph', r, H', rfl, hle, hi', hx, hq⟩
  obtain ⟨r', H'', h1, h2, h3⟩ := hp r H' hq
  have hs : HSub (H' ++ R) (H'' ++ R) := fun ph w F hsep => by
    obtain ⟨F1, F2, g1, g2, g3, g4⟩ := Sep.split hsep
    obtain ⟨G, k1, k2⟩ := h2 ph w F1 g1
    exact ⟨_, Sep.app k1 g2 (fun b o hb => g4 b o (k2 b o hb)), fun b o hb => (g3 b o).2 (hb.imp (k2 b o) id)⟩
  exact ⟨v, ph', r', H'', rfl, hle, hs.app hi', h1 _ _ hx, h3⟩
theorem LCalls.arg {P : Program} {f : FuncId} {x y : LV} {l : List LV} {H : List Atom} {post : LV → List Atom → Prop} (hs : Is x y) (h : LCalls P f (y :: l) H post) : LCalls P f (x :: l) H post := fun R w0 ph w vs hi hr =>
  h R w0 ph w vs hi ⟨by simpa using hr.1, fun i c z hc hz => by
    cases i with
    | zero =>
      simp only [List.getElem?_cons_zero, Option.some_inj] at hz
      subst hz
      exact hs _ _ (hr.2 0 c x hc (by simp))
    | succ i => exact hr.2 (i + 1) c z hc (by simpa using hz)⟩
end Go.L

set_option linter.unusedVariables false
set_option linter.unusedSimpArgs false
namespace Go.L
open Go.RowKit
variable {P : Program}
/-- A function, entered as a deferred call. -/
def LDef (P : Program) (f : FuncId) (args : List LV) (H H2 : List Atom) : Prop :=
  ∀ (R : List Atom) (w0 : Base) ph w (vs : Array Value) (u : FrameMode), Inv w0 ph w (H ++ R) → Reps ph vs args →
    CallsDIn Fence.wide 0 P f vs u w fun e u' w' => u' = u ∧ ∃ v ph', e = .returned v ∧ PH.le ph ph' ∧ Inv w0 ph' w' (H2 ++ R)
theorem LDef.of {f : FuncId} {fn : Func} {c : Code} {args : List LV} {H H2 : List Atom} {n : Nat} {rs : Array ResultVar} (hf : P.funcs[f]? = some fn) (hb : fn.body = some c) (hn : fn.ntmps = n) (hrs : fn.results = rs) (hl : Nat.ble args.length n = true)
    (h : ∀ R, LW P c ⟨⟨n, [], true⟩, envOf 0 args, H ++ R⟩ (fun e s => (e = .normal ∨ e = .ret) ∧ s.n.df = [] ∧ ∃ r, Res P rs s r ∧ HSub s.heap (H2 ++ R))) : LDef P f args H H2 := fun R w0 ph w vs u hi hr => by
  have hl' : vs.size ≤ n := by rw [hr.1]; simpa using hl
  refine callsDIn_of_wp (R := fun e w' => ∃ v ph', e = .returned v ∧ PH.le ph ph' ∧ Inv w0 ph' w' (H2 ++ R)) hf hb trivial (h R ⟨w0.w, none⟩ ph _ w ⟨hi.ro none, ⟨rfl, fun _ => rfl⟩, by simp [hn]; omega, fun d => ?_⟩ _ fun e ph' st' a' w' hle r' q => ?_)
  · rw [get_envOf, if_pos (Nat.zero_le _), Nat.sub_zero]
    by_cases hd : d < vs.size
    · have hd' : d < args.length := hr.1 ▸ hd
      have h1 : ((vs ++ Array.replicate (fn.ntmps - vs.size) undef).getD d undef) = vs[d] := by
        simp [Array.getElem?_append, hd]
      rw [h1, List.getElem?_eq_getElem hd', Option.getD_some]
      exact hr.2 d _ _ (Array.getElem?_eq_getElem hd) (List.getElem?_eq_getElem hd')
    · have : args[d]? = none := by rw [List.getElem?_eq_none_iff, ← hr.1]; omega
      rw [this]
      exact .any _
  · obtain ⟨he, hdf, rr, hres, hsub⟩ := q
    obtain ⟨v, hrun, _⟩ := hres _ ph' a' w' fn hrs r'
    have hd : a'.defers = [] := by rw [r'.defers.1, hdf]
    have hI : Inv w0 ph' w' (H2 ++ R) := (hsub.app r'.inv).ro'
    rcases he with rfl | rfl <;> exact ⟨hd, v, hrun, v, ph', rfl, hle, hI⟩
def EndsD (P : Program) (rs : Array ResultVar) (R H2 : List Atom) (e : Exit) (s : LS) : Prop := (e = .normal ∨ e = .ret) ∧ s.n.df = [] ∧ ∃ r, Res P rs s r ∧ HSub s.heap (H2 ++ R)
theorem LDef.ofA {f : FuncId} {fn : Func} {c : Code} {args : List LV} {H H2 : List Atom} {n : Nat} {rs : Array ResultVar} (hf : P.funcs[f]? = some fn) (hb : fn.body = some c) (hn : fn.ntmps = n) (hrs : fn.results = rs) (hl : Nat.ble args.length n = true)
    (h : ∀ R, LW P c ⟨⟨n, [], true⟩, envOf 0 args, H ++ R⟩ (after P [] (EndsD P rs R H2))) : LDef P f args H H2 := LDef.of hf hb hn hrs hl fun R w0 ph a w r Q' k => h R w0 ph a w r Q' fun e ph' st' a' w' hle r' q => k e ph' st' a' w' hle r' q
theorem X.normalD {n : NN} {env : List (Nat × LV)} {H H2 : List Atom} {rs : Array ResultVar} {R : List Atom} {r : LV} (hr : Res P rs ⟨n, env, H⟩ r) (hs : HSub H (H2 ++ R)) (hd : n.df = []) (u : True) : EndsD P rs R H2 .normal ⟨n, env, H⟩ := ⟨.inl rfl, hd, r, hr, hs⟩
/-- A function that leaves with one deferred closure. -/
theorem Leaves.call {rs : Array ResultVar} {R R2 H H2 H' : List Atom} {post : LV → List Atom → Prop} {s : LS} {r : LV} {f : FuncId} {fn' : Func} {v0 : Value} (hd : s.n.df = [⟨.fn (.func f) #[v0], #[]⟩]) (hf : P.funcs[f]? = some fn') (hname : (fn'.name == "runtime.NumGoroutine") = false) (hb : fn'.body.isSome = true)
    (hc : LDef P f [.raw v0] H H2) (hs : HSub s.heap (H ++ R2)) (hr : Res P rs ⟨s.n, s.env, H2 ++ R2⟩ r) (hh : HSub (H2 ++ R2) (H' ++ R)) (hp : post r H') : Leaves P rs R post s := fun w0 ph a w fn hfn rl => by
  rw [rl.defers.1, hd]
  have hcall := hc R2 w0 ph w #[v0] .returning (hs.app rl.inv) ⟨rfl, fun i c x h1 h2 => by
    match i with
    | 0 => simp at h1 h2; subst h1; subst h2; exact .raw _
    | i + 1 => simp at h1⟩
  refine ⟨by simp, .inr ⟨(fun h => by cases h), .func f, #[v0], f, #[v0], rfl, ?_, fun _ _ => trivial, hcall.mono fun e u' w' h => ?_⟩⟩
  · have := enters (P := P) hf hname hb #[v0] w
    simp [invoke, this]
  · obtain ⟨rfl, v, ph', rfl, hle, hi⟩ := h
    obtain ⟨x, hrun, hrep⟩ := hr w0 ph' a w' fn hfn ⟨hi, rl.defers, rl.size, rl.tmps.mono hle⟩
    exact ⟨x, hrun, x, ph', r, H', rfl, hle, hh.app hi, hrep, hp⟩
theorem X.retC {n : NN} {env : List (Nat × LV)} {A : List Atom} {rs : Array ResultVar} {R R2 H H2 H' : List Atom} {post : LV → List Atom → Prop} {r : LV} {f : FuncId} {fn' : Func} {v0 : Value} (hc : LDef P f [.raw v0] H H2) (hs : HSub A (H ++ R2)) (hr : Res P rs ⟨n, env, H2 ++ R2⟩ r) (hh : HSub (H2 ++ R2) (H' ++ R)) (hf : P.funcs[f]? = some fn') (hp : post r H') (hname : (fn'.name == "runtime.NumGoroutine") = false := by rfl) (hb : fn'.body.isSome = true := by rfl) (hd : n.df = [⟨.fn (.func f) #[v0], #[]⟩] := by rfl) : Ends P rs R post .ret ⟨n, env, A⟩ := ⟨.inr rfl, .call (s := ⟨n, env, A⟩) hd hf hname hb hc hs hr hh hp⟩
/-- A closure, made and deferred. -/
theorem LW.deferC {id : Nat} {d : Tmp} {f : FuncId} {x : Operand} {v : Value} {ty ty2 : TypeId} {pos pos2 : String} {af af2 : Array Edge} {k : Nat} {df : List Deferred} {env : List (Nat × LV)} {H : List Atom} {Q : Exit → LS → Prop} (hd : Nat.blt d k = true) (hx : Is (ev env x) (.raw v))
    (h : Q .normal ⟨⟨k, ⟨.fn (.func f) #[v], #[]⟩ :: df, true⟩, (d, .raw (.func (.func f) #[] #[v])) :: env, H⟩) :
    LW P (.region id #[⟨some d, .makeFunc (.func f) #[] #[x], ty, pos, af, none⟩, ⟨none, .defer { callee := .value (.tmp d), args := #[], argTypes := #[] }, ty2, pos2, af2, none⟩] false) ⟨⟨k, df, true⟩, env, H⟩ Q := fun w0 ph a w r Q' kk => by
  have hro := r.defers.2 rfl
  refine wpIn_region_lit ?_
  have hcl : LU P env H ⟨some d, .makeFunc (.func f) #[] #[x], ty, pos, af, none⟩ (.raw (.func (.func f) #[] [v].toArray)) := LU.closure (vs := [v]) ⟨hx, trivial⟩
  simp only [wpListIn, Region.wanted, if_true]
  refine owp_in (fun c e => by cases e) (hcl w0 ph a w r.inv (fun y _ => r.tmps.eval y) _ _ fun ph' u w' hle hi hrep => ?_)
  refine ⟨fun _ _ => trivial, ?_⟩
  have r2 := r.put hle hi hd hrep
  have h1 := (r2.tmps.eval (.tmp d))
  rw [show ev ((d, LV.raw (.func (.func f) #[] [v].toArray)) :: env) (.tmp d) = .raw (.func (.func f) #[] [v].toArray) from get_same _ _ _] at h1
  have h2 := h1.rawE
  have hrun : ((Oper.mk none (.defer { callee := .value (.tmp d), args := #[], argTypes := #[] }) ty2 pos2 af2 none).semAt (Fn w0.ro).round (a.put (some d) u).eval).run P w' = .ok (.defer ⟨.fn (.func f) #[v], #[]⟩) w' := by
    rw [show (Fn w0.ro).round = none from hro]
    simp [Oper.semAt, execOp, resolve, Deferred.ofValue, h2]
  rw [hrun]
  refine kk .normal ph' ⟨⟨k, ⟨.fn (.func f) #[v], #[]⟩ :: df, true⟩, (d, .raw (.func (.func f) #[] #[v])) :: env, H⟩ _ _ hle ⟨r2.inv, ⟨?_, fun _ => hro⟩, r2.size, r2.tmps⟩ h
  show ⟨.fn (.func f) #[v], #[]⟩ :: (a.put (some d) u).defers = _
  rw [put_defers, r.defers.1]
end Go.L

set_option linter.unusedVariables false
set_option linter.unusedSimpArgs false
namespace Go.L
open Go.RowKit
section
variable {P : Program} {st : LS} {env : List (Nat × LV)} {H : List Atom} {K : LS → Prop} {ty : TypeId} {pos : String} {af : Array Edge} {g : Option (Nat × Bool)}
theorem Inv.putCells {w0 : Base} {ph : PH} {w : World} {b : Nat} {t : TypeId} {xs ys : List LV} (hinv : Inv w0 ph w (.cells b t xs :: H)) {news : List Value} (hc : CReps ph news.toArray ys) {off : Nat} (hlen : off + ys.length ≤ xs.length) :
    Inv w0 ph (w.setCells b off news) (.cells b t (putAt xs off ys) :: H) ∧ (∀ j, j < ys.length → (w.cell? ⟨b, off + j, none⟩).isSome = true) ∧ ∀ j, j < ys.length → w.frozen? ⟨b, off + j, none⟩ = false := by
  obtain ⟨F, hF, cs, hh, ⟨hl, hr⟩, ho⟩ := hinv.atom
  obtain ⟨⟨hn, hcr⟩, hco⟩ := hc
  simp only [List.size_toArray] at hn
  obtain ⟨cs', hh', hsz', hget⟩ := heap_setCells news off w cs hh (by omega)
  refine ⟨hinv.turn (a' := .cells b t (putAt xs off ys)) (PH.le.refl _) (fun G hG hn' => ⟨(chg_setCells _ w).mono (fun b' o' hb => (hG.1 b' o').2 hb), G, ⟨hG.1, cs', hh', ⟨by rw [putAt_length _ _ _ (by omega)]; omega, fun i c z hi hz => ?_⟩, fun i c hi => ?_⟩, fun b' o' hb => .inl hb, fun p u hp => .inl hp⟩), fun j hj => ?_, fun j hj => ?_⟩
  · rw [hget] at hi
    rw [putAt_get _ _ _ (by omega)] at hz
    by_cases hin : off ≤ i ∧ i < off + news.length
    · rw [if_pos hin] at hi
      rw [if_pos (by omega)] at hz
      exact hcr (i - off) c z (by simpa using hi) hz
    · rw [if_neg hin] at hi
      rw [if_neg (by omega)] at hz
      exact hr i c z hi hz
  · rw [hget] at hi
    by_cases hin : off ≤ i ∧ i < off + news.length
    · rw [if_pos hin] at hi
      exact hco (i - off) c (by simpa using hi)
    · rw [if_neg hin] at hi
      exact ho i c hi
  · rw [cell_of_row w b (off + j) cs t (0, 0) hh, Array.getElem?_eq_getElem (by omega)]; rfl
  · simp [World.frozen?, hh]
/-- append(s[:i], s[j:]...) within the room of an owned row. -/
theorem LO.appendIn {s x : Operand} {t tx e te : TypeId} {z : Value} {size by_ : Nat} {b off n c off2 n2 c2 : Nat} {xs : List LV} {ys : List (List LV)} {d : Tmp} (k : Nat) (hk : st.heap[k]? = some (.cells b te xs)) (hd : Nat.blt d st.n.k = true) (ht : P.underlying t = some (.slice e)) (htx : P.underlying tx = some (.slice e)) (hel : El P e z size by_)
    (hs : Is (ev st.env s) (.raw (.slice (some ⟨b, off, none⟩) n c))) (hx : Is (ev st.env x) (.raw (.slice (some ⟨b, off2, none⟩) n2 c2))) (hys : ∀ e ∈ ys, e.length = size) (hn : ys.length = n2) (hfit2 : off2 + n2 * size ≤ xs.length) (he : ys.flatten = (xs.drop off2).take (n2 * size)) (hnc : n2 ≤ c2) (hroom : n + n2 ≤ c) (hfit : off + n * size + n2 * size ≤ xs.length)
    (h : K ⟨st.n, (d, .raw (.slice (some ⟨b, off, none⟩) (n + n2) c)) :: st.env, .cells b te (putAt xs (off + n * size) ys.flatten) :: st.heap.eraseIdx k⟩) :
    LO P ⟨some d, .call { callee := .builtin .append, args := #[s, x], argTypes := #[t, tx] }, ty, pos, af, g⟩ st K := .of_run hd fun w0 ph a w rl => by
  have h1 := (hs _ _ (rl.tmps.eval s)).rawE
  obtain ⟨⟨i, hi, hz, hsz, hby⟩, hzs, hs0⟩ := hel
  have hsrc0 : SrcG P [.cells b te xs] tx size (.raw (.slice (some ⟨b, off2, none⟩) n2 c2)) ys := SrcG.cells htx hs0 hys hn hfit2 he hnc
  obtain ⟨news, hsrc, hnc2⟩ := hsrc0.2 w0 ph w st.heap (a.eval x) (fun a ha => by rw [List.mem_singleton.1 ha]; exact List.mem_of_getElem? hk) rl.inv (hx _ _ (rl.tmps.eval x))
  have hnl : news.length = ys.length * size := hsrc.newsLen
  have hfl : ys.flatten.length = n2 * size := by rw [he, List.length_take, List.length_drop]; omega
  have hinv := rl.inv.front k
  unfold L.front at hinv
  rw [hk] at hinv
  obtain ⟨hi2, hthere, hfro⟩ := hinv.putCells hnc2 (off := off + n * size) (by omega)
  have hr := run_append_room_src (P := P) w t tx ty e i ht hi b off n c (a.eval x) ys.length news (hsz ▸ hsrc) (by omega) (fun j hj => by rw [hsz]; exact hthere j (by rw [hfl, ← hn]; omega)) (fun j hj => by rw [hsz]; exact hfro j (by rw [hfl, ← hn]; omega))
  rw [hsz, hn] at hr
  exact ⟨_, _, _, ph, _, by simp [execOp, resolve, invoke, builtin, h1, hr], PH.le.refl _, hi2, .raw _, h⟩
/-- clear(s) of an owned row of single cells. -/
theorem LO.clear {s : Operand} {t e te : TypeId} {z : Value} {b off n c : Nat} {xs : List LV} (k : Nat) (hk : st.heap[k]? = some (.cells b te xs)) (ht : P.underlying t = some (.slice e)) (hv : ∀ w, (zeroValue e).run P w = .ok z w) (hz : z.cells = #[z]) (h1z : z.oneCell' = true)
    (hs : Is (ev st.env s) (.raw (.slice (some ⟨b, off, none⟩) n c))) (hn : 0 < n) (hfit : off + n ≤ xs.length)
    (h : K ⟨st.n, st.env, .cells b te (putAt xs off (List.replicate n (.raw z))) :: st.heap.eraseIdx k⟩) :
    LO P ⟨none, .call { callee := .builtin .clear, args := #[s], argTypes := #[t] }, ty, pos, af, g⟩ st K := fun w0 ph a w rl N Q kk => by
  have h1 := (hs _ _ (rl.tmps.eval s)).rawE
  have hinv := rl.inv.front k
  unfold L.front at hinv
  rw [hk] at hinv
  have hc : CReps ph (List.replicate n z).toArray (List.replicate n (.raw z)) := ⟨⟨by simp, fun i c x h2 h3 => by
    simp only [List.getElem?_toArray, List.getElem?_replicate] at h2 h3
    split at h2
    · rw [if_pos (by assumption)] at h3; injection h2 with h2; injection h3 with h3; subst h2; subst h3; exact .raw _
    · cases h2⟩, fun i c h2 => by
    simp only [List.getElem?_toArray, List.getElem?_replicate] at h2
    split at h2
    · injection h2 with h2; subst h2; exact h1z
    · cases h2⟩
  obtain ⟨hi2, hthere, hfro⟩ := hinv.putCells hc (off := off) (by simpa using hfit)
  have hr := Go.Lib.run_clear_slice (P := P) w t e ty z ht hv hz h1z b off n c hn (by simpa using hthere) (by simpa using hfro)
  unfold owp
  have hrun : (execOp a.eval ⟨none, .call { callee := .builtin .clear, args := #[s], argTypes := #[t] }, ty, pos, af, g⟩).run P w = .ok (.value (.tuple #[])) (w.setCells b off (List.replicate n z)) := by
    simp [execOp, resolve, invoke, builtin, h1, hr]
  rw [hrun]
  exact kk ph _ _ _ (PH.le.refl _) (rl.put0 (PH.le.refl _) hi2 _) h
/-- A slice asked whether it is nil: if it is, it has no elements. -/
theorem LO.nilSl {x y : Operand} {t t' e : TypeId} {size : Nat} {es : List (List LV)} {k : Cap} {d : Tmp} (hd : Nat.blt d st.n.k = true) (ht : P.underlying t = some (.slice e)) (hx : Is (ev st.env x) (.sl size es k)) (hy : Is (ev st.env y) (.raw (.slice none 0 0)))
    (h : ∀ b : Bool, (b = true → es = []) → K ⟨st.n, (d, .raw (.bool b)) :: st.env, st.heap⟩) : LO P ⟨some d, .binOp .eql t x y t', ty, pos, af, g⟩ st K := .of_run hd fun w0 ph a w rl => by
  have h1 := hx _ _ (rl.tmps.eval x)
  have h2 := (hy _ _ (rl.tmps.eval y)).rawE
  generalize hu : a.eval x = u at h1
  cases h1 with
  | sl _ _ _ A n c ad u hA hn hnc hs hcap hp hr =>
    have he : (Op.equal t (.slice A n c) (.slice none 0 0)).run P w = .ok A.isNone w := by
      rw [show Op.equal t (.slice A n c) (.slice none 0 0) = Op.equalIn (9999 + 1) t (.slice A n c) (.slice none 0 0) from rfl, Op.equalIn]
      rw [Sem.run_bind, run_underlying ht, Result.andThen_ok]
      cases A <;> rfl
    have hg : (eqGuard .eql t x y (.slice A n c) (.slice none 0 0)).run P w = .ok () w := by unfold eqGuard; simp
    have hb : binOp .eql t (.slice A n c) (.slice none 0 0) = (do pure (.bool ((← Op.equal t (.slice A n c) (.slice none 0 0))))) := by rfl
    refine ⟨_, .bool A.isNone, w, ph, _, ?_, PH.le.refl _, rl.inv, .raw _, h A.isNone fun hn' => ?_⟩
    · simp only [execOp, hu, h2, Sem.run_bind, hg, Result.andThen_ok, hb, he, Sem.run_pure] <;> rfl
    · cases A with
      | some q => cases hn'
      | none =>
        refine List.eq_nil_of_length_eq_zero (Nat.eq_zero_of_not_pos fun h0 => ?_)
        have := hA h0
        cases this
/-- An owned row, sliced. -/
theorem LU.sliceR {x : Operand} {d : Option Tmp} {t e : TypeId} {size n c : Nat} {A : Option Addr} {lo hi : Option Operand} {l h : Option Int} (hs : ∀ w, (sizeOf e).run P w = .ok size w) (ht : P.underlying t = some (.slice e)) (hx : Is (ev env x) (.raw (.slice A n c))) (hl : optInt env lo l) (hh : optInt env hi h)
    (h0 : 0 ≤ l.getD 0) (h1 : l.getD 0 ≤ h.getD n) (h2 : h.getD n ≤ c) (hnc : n ≤ c) :
    LU P env H ⟨d, .slice t x lo hi none, ty, pos, af, g⟩ (.raw (sliced A (l.getD 0).toNat (h.getD n).toNat c size)) := .of_run fun ph a hc w0 w hinv => by
  have hu := (hx _ _ (hc x (by simp [Op.operands]))).rawE
  have ht' : P.underlying t = some (.slice (P.elem t)) := by rw [elem_of ht]; exact ht
  have he : P.elem t = e := elem_of ht
  refine ⟨_, ?_, .raw _⟩
  cases lo <;> cases l <;> simp only [optInt] at hl <;> cases hi <;> cases h <;> simp only [optInt] at hh
  · simp [execOp, hu, run_sliceAt_slice w t _ _ _ _ ht', run_slice_all w t A n c ht', he, hs]
  · rename_i y i
    obtain ⟨k1, hk1⟩ := hh
    have e2 := (hk1 _ _ (hc y (by simp [Op.operands]))).rawE
    simp only [Option.getD_none, Option.getD_some] at h0 h1 h2
    simp [execOp, hu, e2, run_sliceAt_slice w t _ _ _ _ ht', run_slice_h w t A n c ht' k1 i h1 (by omega), he, hs]
  · rename_i y i
    obtain ⟨k1, hk1⟩ := hl
    have e2 := (hk1 _ _ (hc y (by simp [Op.operands]))).rawE
    simp only [Option.getD_none, Option.getD_some] at h0 h1 h2
    simp [execOp, hu, e2, run_sliceAt_slice w t _ _ _ _ ht', run_slice_l w t A n c ht' k1 i h0 (by omega), he, hs]
  · rename_i y i z j
    obtain ⟨k1, hk1⟩ := hl
    obtain ⟨k2, hk2⟩ := hh
    have e2 := (hk1 _ _ (hc y (by simp [Op.operands]))).rawE
    have e3 := (hk2 _ _ (hc z (by simp [Op.operands]))).rawE
    simp only [Option.getD_some] at h0 h1 h2
    simp [execOp, hu, e2, e3, run_sliceAt_slice w t _ _ _ _ ht', run_slice_lh w t A n c ht' k1 k2 i j h0 h1 (by omega), he, hs]
/-- s[i:j:k] of an owned row. -/
theorem LU.sliceR3 {x y z u : Operand} {d : Option Tmp} {t e : TypeId} {size n c : Nat} {A : Option Addr} {k1 k2 k3 : IntKind} {i j m : Int} (hs : ∀ w, (sizeOf e).run P w = .ok size w) (ht : P.underlying t = some (.slice e)) (hx : Is (ev env x) (.raw (.slice A n c))) (hy : Is (ev env y) (.raw (.int k1 i))) (hz : Is (ev env z) (.raw (.int k2 j))) (hu : Is (ev env u) (.raw (.int k3 m)))
    (h0 : 0 ≤ i) (h1 : i ≤ j) (h2 : j ≤ m) (h3 : m ≤ c) :
    LU P env H ⟨d, .slice t x (some y) (some z) (some u), ty, pos, af, g⟩ (.raw (sliced A i.toNat j.toNat m.toNat size)) := .of_run fun ph a hc w0 w hinv => by
  have e1 := (hx _ _ (hc x (by simp [Op.operands]))).rawE
  have e2 := (hy _ _ (hc y (by simp [Op.operands]))).rawE
  have e3 := (hz _ _ (hc z (by simp [Op.operands]))).rawE
  have e4 := (hu _ _ (hc u (by simp [Op.operands]))).rawE
  have ht' : P.underlying t = some (.slice (P.elem t)) := by rw [elem_of ht]; exact ht
  have he : P.elem t = e := elem_of ht
  refine ⟨_, ?_, .raw _⟩
  simp [execOp, e1, e2, e3, e4, run_sliceAt_slice w t _ _ _ _ ht', run_slice_lhm w t A n c ht' k1 k2 k3 i j m h0 h1 h2 (by omega), he, hs]
/-- An owned row is from now on known, its room a tail: between operations. -/
theorem LL.freezeT {ops : Array Oper} {l : List Oper} {t : Nat} {b : Nat} {te : TypeId} {xs : List LV} {n c size : Nat} {es : List (List LV)} (k : Nat) (hk : st.heap[k]? = some (.cells b te xs)) (ht : get st.env t = .raw (.slice (some ⟨b, 0, none⟩) n c)) (hs : ∀ e ∈ es, e.length = size) (hn : es.length = n) (hfit : c * size = xs.length) (he : es.flatten = xs.take (n * size)) (hnc : n ≤ c)
    (h : LL P ops l ⟨st.n, (t, .sl size es (.tok b (n * size) (c * size))) :: st.env, .tail b (n * size) (c * size) :: st.heap.eraseIdx k⟩ K) : LL P ops l st K := fun w0 ph a w r Q q => by
  have hinv := r.inv.front k
  unfold L.front at hinv
  rw [hk] at hinv
  have hle : n * size ≤ c * size := Nat.mul_le_mul_right _ hnc
  obtain ⟨cs, ph', hle, hi, hc, hsz, hp⟩ := hinv.freezeT (n * size) (by omega)
  rw [← hfit] at hi
  refine h w0 ph' a w ⟨hi, r.defers, r.size, fun i => ?_⟩ Q fun ph2 st2 a2 w2 hle2 r2 q2 => q ph2 st2 a2 w2 (hle.trans hle2) r2 q2
  by_cases hit : t = i
  · subst hit
    rw [get_same]
    have := r.tmps t
    rw [ht] at this
    rw [this.rawE]
    exact freezeT_rep hc hp hs hn hfit he hnc
  · rw [get_other hit]
    exact (r.tmps i).mono hle
end
end Go.L

set_option linter.unusedVariables false
set_option linter.unusedSimpArgs false
namespace Go.L
open Go.RowKit
theorem HSub.appR {H K : List Atom} (R : List Atom) (h : HSub K H) : HSub (K ++ R) (H ++ R) := fun ph w F s => by
  obtain ⟨F1, F2, h1, h2, hF, hd⟩ := s.split
  obtain ⟨G, g1, g2⟩ := h ph w F1 h1
  exact ⟨_, Sep.app g1 h2 (fun b o hg hf => hd b o (g2 b o hg) hf), fun b o hbo => (hF b o).2 (hbo.imp (g2 b o) id)⟩
theorem LCalls.need {P : Program} {f : FuncId} {args : List LV} {H K : List Atom} {post : LV → List Atom → Prop} (hs : HSub K H) (h : LCalls P f args H post) : LCalls P f args K post :=
  fun R w0 ph w vs i r => h R w0 ph w vs ((HSub.appR R hs).app i) r
theorem LCalls.frame {P : Program} {f : FuncId} {args : List LV} {H : List Atom} {post : LV → List Atom → Prop} (F : List Atom) (h : LCalls P f args H post) : LCalls P f args (H ++ F) (fun r H' => ∃ H0, H' = H0 ++ F ∧ post r H0) :=
  fun R w0 ph w vs i r => (h (F ++ R) w0 ph w vs (by rw [← List.append_assoc]; exact i) r).mono fun e w' ⟨v, ph', x, H', h1, h2, h3, h4, h5⟩ => ⟨v, ph', x, H' ++ F, h1, h2, by rw [List.append_assoc]; exact h3, h4, H', rfl, h5⟩
theorem LCalls.around {P : Program} {f : FuncId} {args : List LV} {H : List Atom} {post : LV → List Atom → Prop} (F : List Atom) (h : LCalls P f args H post) : LCalls P f args (F ++ H) (fun r H' => ∃ H0, H' = F ++ H0 ∧ post r H0) :=
  fun R w0 ph w vs i r => (h (F ++ R) w0 ph w vs ((HSub.perm (perm_of fun x => (by simp only [List.count_append]; omega))).app i) r).mono fun e w' ⟨v, ph', x, H', h1, h2, h3, h4, h5⟩ => ⟨v, ph', x, F ++ H', h1, h2, (HSub.perm (perm_of fun x => (by simp only [List.count_append]; omega))).app h3, h4, H', rfl, h5⟩
theorem FnCalls.around {P : Program} {v : Value} {args : List LV} {H : List Atom} {post : LV → List Atom → Prop} (F : List Atom) (h : FnCalls P v args H post) : FnCalls P v args (F ++ H) (fun r H' => ∃ H0, H' = F ++ H0 ∧ post r H0) := by
  obtain ⟨f, fn, first, caps, h1, h2, h3, h4, h5⟩ := h
  exact ⟨f, fn, first, caps, h1, h2, h3, h4, h5.around F⟩
/-- Three results, the first two of which lie in cells. -/
theorem Res.cc3 {P : Program} {a a2 t : Tmp} {ta ta2 : TypeId} {st : LS} {b off b2 off2 : Nat} {tb tb2 : TypeId} {xs xs2 : List LV} {size size2 : Nat} {agg agg2 : Bool} {v r v2 r2 s : LV} (k k2 : Nat) (hk : st.heap[k]? = some (.cells b tb xs)) (hk2 : st.heap[k2]? = some (.cells b2 tb2 xs2)) (ha : get st.env a = .raw (.pointer (some ⟨b, off, Option.none⟩))) (ha2 : get st.env a2 = .raw (.pointer (some ⟨b2, off2, Option.none⟩))) (ht : Ty P ta size agg) (ht2 : Ty P ta2 size2 agg2) (hv : Part size agg xs off v) (hv2 : Part size2 agg2 xs2 off2 v2) (hr : Is v r) (hr2 : Is v2 r2) (hs : Is (get st.env t) s) : Res P #[.cell a ta, .cell a2 ta2, .tmp t] st (.tup [r, r2, s]) := fun w0 ph ac w fn h rl => by
  obtain ⟨F, hF, cs, hh, hc⟩ := rl.inv.atom_at hk
  obtain ⟨F2, hF2, cs2, hh2, hc2⟩ := rl.inv.atom_at hk2
  have h1 := rl.tmps a
  rw [ha] at h1
  have h12 := rl.tmps a2
  rw [ha2] at h12
  obtain ⟨z, hrun, hrep⟩ := creps_part (P := P) hc ht hv (w := w) (b := b) (fun i c hi => by rw [cell_of_row w b i cs tb (0, 0) hh]; exact hi)
  obtain ⟨z2, hrun2, hrep2⟩ := creps_part (P := P) hc2 ht2 hv2 (w := w) (b := b2) (fun i c hi => by rw [cell_of_row w b2 i cs2 tb2 (0, 0) hh2]; exact hi)
  refine ⟨.tuple #[z, z2, ac.tmps.getD t undef], by
    have h2 := h1.rawE
    have h22 := h12.rawE
    rw [Array.getD_eq_getD_getElem?] at h2 h22
    simp [results, h, h2, h22, asAddr, hrun, hrun2], .tup _ _ rfl fun i c x h2 h3 => ?_⟩
  match i with
  | 0 => simp at h2 h3; subst h2; subst h3; exact hr _ _ hrep
  | 1 => simp at h2 h3; subst h2; subst h3; exact hr2 _ _ hrep2
  | 2 => simp at h2 h3; subst h2; subst h3; exact hs _ _ (by simpa using rl.tmps t)
  | k + 3 => simp at h2
end Go.L

set_option linter.unusedVariables false
set_option linter.unusedSimpArgs false
namespace Go.L
open Go.RowKit
variable {P : Program}
theorem okWide_array {w : World} {r : Reach} {base : Nat} {t e : TypeId} {n : Nat} {v : Value} (ht : P.underlying t = some (.array n e)) (h : Value.okWide P w r base t v) : ∃ cs, v = .agg cs ∧ cs.size = P.cellsOf t := by
  simp only [Value.okWide, ht] at h
  obtain ⟨cs, h1, h2, _⟩ := h
  exact ⟨cs, h1, h2⟩
theorem arr_open {e : TypeId} {size : Nat} {Q : List LV → Prop} (hc : P.cellsOf e = size) (he : Opens P e Q) {H : Type} {enc : TypeId × Value → H} {w : World} {base : Nat} {spare : Nat → Bool} {held : Bool} {m : Nat} :
    ∀ (n : Nat) (cs : List Value), cs.length = n * size → (∀ i, i < n → ∃ y, DataW.trod enc P w base spare held m e ((cs.drop (i * size)).take size) = some y ∧ Weighs P e y.1) →
      ∃ es : List (List LV), CReps (PH.all w) cs.toArray es.flatten ∧ es.length = n ∧ ∀ c ∈ es, c.length = size ∧ Q c
  | 0, cs, hl, _ => by
    obtain rfl : cs = [] := List.eq_nil_of_length_eq_zero (by omega)
    exact ⟨[], ⟨⟨by simp, fun i c x h1 h2 => by simp at h2⟩, fun i c h1 => by simp at h1⟩, rfl, by simp⟩
  | n + 1, cs, hl, h => by
    rw [Nat.succ_mul] at hl
    obtain ⟨y, hy, hyw⟩ := h 0 (by omega)
    rw [Nat.zero_mul, List.drop_zero] at hy
    obtain ⟨ys, h3, h4⟩ := he H enc w base spare held m _ y hy hyw
    obtain ⟨es, h5, h6, h7⟩ := arr_open hc he n (cs.drop size) (by rw [List.length_drop]; omega) (fun i hi => by
      obtain ⟨z, hz, hzw⟩ := h (i + 1) (by omega)
      refine ⟨z, ?_, hzw⟩
      rwa [List.drop_drop, show size + i * size = (i + 1) * size by rw [Nat.succ_mul]; omega])
    have hlen : (cs.take size).length = size := by rw [List.length_take]; omega
    refine ⟨ys :: es, ?_, by simp [h6], fun c hc' => ?_⟩
    · have := creps_append h3 h5
      rwa [List.take_append_drop] at this
    · rcases List.mem_cons.1 hc' with rfl | hc'
      · have := h3.1.1
        simp only [List.size_toArray, hlen] at this
        exact ⟨this.symm, h4⟩
      · exact h7 c hc'
theorem Opens.array {t e : TypeId} {n size : Nat} {Q : List LV → Prop} (ht : P.underlying t = some (.array n e)) (hc : P.cellsOf e = size) (hs0 : 0 < size) (hm : P.cellsOf t = n * size) (he : Opens P e Q) : Opens P t (QArr n size Q) := fun H enc w base spare held fuel cs x hx hw => by
  obtain ⟨xs, m, _, rfl, hl, hxl, hi⟩ := DataW.trod_array ht hx
  obtain ⟨es, h1, h2, h3⟩ := arr_open hc he (H := H) (enc := enc) (w := w) (base := base) (spare := spare) (held := held) (m := m) n cs (by omega) (fun i hin => by
    have h1 := hi i hin
    have hlt : i < xs.length := by omega
    rw [List.getElem?_eq_getElem hlt, hc] at h1
    refine ⟨_, h1, fun k hk => hw k ?_⟩
    simp only [DataW.weights, ht]
    exact weightsAll_mem (List.mem_map_of_mem (List.getElem_mem hlt)) k hk)
  exact ⟨es.flatten, h1, es, rfl, h2, h3⟩
end Go.L

set_option linter.unusedVariables false
set_option linter.unusedSimpArgs false
namespace Go.L
open Go.RowKit
def drawOkB (ops : Array Oper) (m : Nat) : Bool :=
  let B := Region.before ops
  let n := ops.size
  (List.range n).all fun i =>
    (direct ops i).all (fun j => Nat.blt j i) &&
    (List.range n).all (fun k => !(B.getD i 0).testBit k || (direct ops i).contains k || (direct ops i).any fun e => (B.getD e 0).testBit k) &&
    (Nat.blt i m || (List.range i).all fun k => (B.getD i 0).testBit k)
section
variable {P : Program} {ops : Array Oper} {K : LS → Prop}
structure DrawOkB (ops : Array Oper) (m : Nat) : Prop where
  less : ∀ i, i < ops.size → ∀ j ∈ direct ops i, j < i
  clo : ∀ i k, i < ops.size → k < ops.size → ((Region.before ops).getD i 0).testBit k = true → k ∈ direct ops i ∨ ∃ e ∈ direct ops i, ((Region.before ops).getD e 0).testBit k = true
  last : ∀ i k, i < ops.size → m ≤ i → k < i → ((Region.before ops).getD i 0).testBit k = true
theorem DrawOkB.of {m : Nat} (h : drawOkB ops m = true) : DrawOkB ops m := by
  unfold drawOkB at h
  simp only [List.all_eq_true, List.mem_range, Bool.and_eq_true] at h
  refine ⟨fun i hi j hj => ?_, fun i k hi hk hb => ?_, fun i k hi hm hk => ?_⟩
  · obtain ⟨⟨h1, _⟩, _⟩ := h i hi
    simpa [Nat.blt_eq] using h1 j hj
  · obtain ⟨⟨_, h1⟩, _⟩ := h i hi
    have := h1 k hk
    simp only [Bool.or_eq_true, hb, Bool.not_true, Bool.false_eq_true, false_or, List.contains_iff_mem, List.any_eq_true] at this
    exact this
  · obtain ⟨⟨_, _⟩, h1⟩ := h i hi
    rcases Bool.or_eq_true _ _ |>.mp h1 with h1 | h1
    · have : i < m := by simpa [Nat.blt_eq] using h1
      omega
    · exact List.all_eq_true.1 h1 k (List.mem_range.2 hk)
theorem clo_downB {m : Nat} (hok : DrawOkB ops m) {S : Array Bool} (hd : Down ops S) : ∀ i k, i < ops.size → k < ops.size → ((Region.before ops).getD i 0).testBit k = true → (∀ j ∈ direct ops i, S.getD j false = true) → S.getD k false = true := by
  intro i
  induction i using Nat.strongRecOn with
  | _ i ih =>
    intro k hi hk hb hs
    rcases hok.clo i k hi hk hb with h | ⟨e, he, hb'⟩
    · exact hs k h
    · have hlt := hok.less i hi e he
      exact ih e hlt k (by omega) hk hb' (hd e (hs e he))
theorem oany_tailB {m : Nat} {Q : Exit → Act → World → Prop} (hok : DrawOkB ops m) : ∀ (l : List Oper) (k : Nat) (fuel : Nat) (S : Array Bool) (a : Act) (w : World), m ≤ k → k + l.length = ops.size → (∀ j, j < l.length → ops[k + j]? = l[j]?) → S.size = ops.size → (∀ j, j < ops.size → (S.getD j true = true ↔ j < k)) → l.length ≤ fuel →
    olist P ops Q l a w → oany P .any ops Q fuel S a w
  | [], k, fuel, S, a, w, hm, hk, hl, hS, hs, hf, h => by
    refine oany_done ?_ h fuel
    cases hr : Region.ready .any ops S with
    | nil => rfl
    | cons i r =>
      have : i ∈ Region.ready .any ops S := by rw [hr]; simp
      obtain ⟨h1, h2, _⟩ := ready_iff.1 this
      have := (hs i h2).2 (by simp at hk; omega)
      rw [h1] at this
      cases this
  | o :: l, k, 0, S, a, w, hm, hk, hl, hS, hs, hf, h => by simp at hf
  | o :: l, k, fuel + 1, S, a, w, hm, hk, hl, hS, hs, hf, h => by
    simp only [List.length_cons] at hk hf
    have hks : k < ops.size := by omega
    have hkk : ops[k]? = some o := by have := hl 0 (by simp); simpa using this
    have hfalse : S.getD k true = false := by
      cases hb : S.getD k true with
      | false => rfl
      | true => have := (hs k hks).1 hb; omega
    have hset : ∀ j, j < ops.size → ((S.setIfInBounds k true).getD j true = true ↔ j < k + 1) := fun j hj => by
      rw [getD_set (by omega)]
      by_cases hjk : j = k
      · simp [hjk]
      · rw [if_neg hjk, hs j hj]
        omega
    have hgd : ∀ j, j < ops.size → S.getD j false = S.getD j true := fun j hj => by
      simp [show j < S.size by omega]
    refine ⟨fun hr => ?_, fun i hi => ?_⟩
    · have : k ∈ Region.ready .any ops S := ready_iff.2 ⟨hfalse, hks, fun j hj => by
        have := hok.less k hks j hj
        rw [hgd j (by omega)]
        exact (hs j (by omega)).2 this⟩
      rw [hr] at this
      cases this
    · obtain ⟨h1, h2, h3⟩ := ready_iff.1 hi
      have hik : i = k := by
        have hge : ¬ i < k := fun hlt => by
          have := (hs i h2).2 hlt
          rw [h1] at this
          cases this
        rcases Nat.lt_or_ge k i with hlt | hle
        · have hb := hok.last i k h2 (by omega) hlt
          have hdown : Down ops S := fun x hx j hj => by
            have hxs : x < ops.size := by
              rcases Nat.lt_or_ge x ops.size with h | h
              · exact h
              · rw [show S.getD x false = false by simp [show ¬ x < S.size by omega]] at hx
                cases hx
            have hlt2 := hok.less x hxs j hj
            rw [hgd j (by omega)]
            rw [hgd x hxs] at hx
            have := (hs x hxs).1 hx
            exact (hs j (by omega)).2 (by omega)
          have := clo_downB hok hdown i k h2 hks hb h3
          rw [hgd k hks, hfalse] at this
          cases this
        · omega
      subst hik
      have hrec := fun (a' : Act) (w' : World) (h' : olist P ops Q l a' w') => oany_tailB hok l (i + 1) fuel (S.setIfInBounds i true) a' w' (by omega) (by omega) (fun j hj => by
        have := hl (j + 1) (by simp; omega)
        rw [show i + 1 + j = i + (j + 1) by omega, this, List.getElem?_cons_succ]) (by simp [hS]) hset (by omega) h'
      unfold olist at h
      unfold oop
      simp only [hkk]
      split
      · rename_i hw
        rw [if_pos hw] at h
        exact owp_mono (fun a' w' h' => hrec a' w' h') h
      · rename_i hw
        rw [if_neg hw] at h
        exact hrec _ _ h
theorem LA.invB {m : Nat} (hok : DrawOkB ops m) (hm : m ≤ ops.size) {I : Array Bool → LS → Prop} (l2 : List Oper) (hl2 : m + l2.length = ops.size) (hget : ∀ j, j < l2.length → ops[m + j]? = l2[j]?)
    (step : ∀ S st i, I S st → S.size = ops.size → Down ops S → i < m → i ∈ Region.ready .any ops S → ∃ o, ops[i]? = some o ∧ LP P ops o st (fun s => I (S.setIfInBounds i true) s))
    (fin : ∀ S st, I S st → (∀ j, j < m → S.getD j true = true) → LL P ops l2 st K) :
    ∀ fuel S st, S.size = ops.size → Down ops S → (∀ i, m ≤ i → i < ops.size → S.getD i true = false) → left S (List.range ops.size) ≤ fuel → I S st → LA P ops fuel S st K
  | fuel, S, st, hs, hd, hz, hf, hI => by
    by_cases hall : ∀ j, j < m → S.getD j true = true
    · intro w0 ph a w r Q kk
      refine oany_tailB hok l2 m fuel S a w (Nat.le_refl _) hl2 hget hs (fun j hj => ⟨fun h => ?_, hall j⟩) ?_ (fin S st hI hall w0 ph a w r Q kk)
      · by_cases hjm : j < m
        · exact hjm
        · rw [hz j (by omega) hj] at h; cases h
      · have : ∀ (k : Nat) (l : List Nat), (∀ i ∈ l, S.getD i true = false) → l.length ≤ left S l := fun k l => by
          induction l with
          | nil => intro _; simp [left]
          | cons x l ih =>
            intro h
            have h1 := ih fun i hi => h i (by simp [hi])
            have h2 := h x (by simp)
            simp only [left, h2, List.length_cons]
            simp
            omega
        have hsplit : ∀ (a b : List Nat), left S (a ++ b) = left S a + left S b := fun a b => by
          induction a with
          | nil => simp [left]
          | cons x a ih => simp only [List.cons_append, left, ih]; omega
        have e : List.range ops.size = List.range m ++ (List.range l2.length).map (m + ·) := by rw [← hl2, List.range_add]
        rw [e, hsplit] at hf
        have h3 := this 0 ((List.range l2.length).map (m + ·)) fun i hi => by
          obtain ⟨q, hq, rfl⟩ := List.mem_map.1 hi
          exact hz _ (by omega) (by have := List.mem_range.1 hq; omega)
        simp only [List.length_map, List.length_range] at h3
        omega
    · cases hr : Region.ready .any ops S with
      | nil =>
        refine absurd (fun j hj => ?_) hall
        have hlt : ((List.range ops.size).all fun i => (direct ops i).all fun j => Nat.blt j i) = true := List.all_eq_true.2 fun i hi => List.all_eq_true.2 fun j hj => Nat.ble_eq_true_of_le (hok.less i (List.mem_range.1 hi) j hj)
        exact all_done hs hlt hr j
      | cons i rs =>
        have hmem : ∀ j ∈ i :: rs, j ∈ Region.ready .any ops S := fun j hj => by rw [hr]; exact hj
        have hlm : ∀ j ∈ Region.ready .any ops S, j < m := fun j hj => by
          obtain ⟨h1, h2, h3⟩ := ready_iff.1 hj
          by_cases hjm : j < m
          · exact hjm
          · refine absurd (fun k hk => ?_) hall
            exact getD_tf (clo_downB hok hd j k h2 (by omega) (hok.last j k h2 (by omega) (by omega)) h3)
        obtain ⟨h1, h2, _⟩ := ready_iff.1 (hmem i (by simp))
        have hpos := left_set h2 h1
        cases fuel with
        | zero => omega
        | succ n =>
          refine LA.step hr ?_
          have all : ∀ l : List Nat, (∀ j ∈ l, j ∈ Region.ready .any ops S) → LAs P ops n S st K l := by
            intro l
            induction l with
            | nil => intro _; exact .nil
            | cons j l ih =>
              intro hl
              have hj := hl j (by simp)
              obtain ⟨o, ho, hp⟩ := step S st j hI hs hd (hlm j hj) hj
              obtain ⟨g1, g2, g3⟩ := ready_iff.1 hj
              have hlt := left_set g2 g1
              have hjm := hlm j hj
              refine .cons ho rfl (fun w0 ph a w r N Q k => hp w0 ph a w r N Q fun ph' st' a' w' hle r' q => k ph' st' a' w' hle r' (LA.invB hok hm l2 hl2 hget step fin n _ st' (by simp [hs]) ?_ ?_ (by omega) q)) (ih fun q hq => hl q (by simp [hq]))
              · intro x hx y hy
                rw [getD_set (by omega)] at hx ⊢
                by_cases hyj : y = j
                · rw [if_pos hyj]
                · rw [if_neg hyj]
                  by_cases hxj : x = j
                  · subst hxj; exact g3 y hy
                  · rw [if_neg hxj] at hx; exact hd x hx y hy
              · intro x hx hxs
                rw [getD_set (by omega), if_neg (by omega)]
                exact hz x hx hxs
          exact all _ hmem
theorem LW.invB {id m : Nat} {n : NN} {env : List (Nat × LV)} {H : List Atom} {l : List Oper} {Q : Exit → LS → Prop} {γ : Type} (sl : List (Nat × Nat)) (val : γ → Nat → LV) (hp : γ → (Nat → Bool) → List Atom) (g0 : γ)
    (hmo : P.follows .mixedOrders = true) (hok : drawOkB l.toArray m = true) (hm : Nat.ble m l.length = true) (hsl : (sl.all fun p => Nat.blt p.1 m) = true)
    (init : HSub H (hp g0 fun j => (Array.replicate l.length false).getD j true))
    (each : ∀ i, i < m → ∀ f g, f i = false → (∀ j ∈ direct l.toArray i, f j = true) → (∀ j, j < m → f j = true → ∀ k ∈ direct l.toArray j, f k = true) → ∃ o, l.toArray[i]? = some o ∧ LP P l.toArray o ⟨n, envS sl (val g) f env, hp g f⟩ (fun s => ∃ g', Weaker s ⟨n, envS sl (val g') (upd f i) env, hp g' (upd f i)⟩))
    (fin : ∀ g f, (∀ j, j < m → f j = true) → LL P l.toArray (l.drop m) ⟨n, envS sl (val g) (fun _ => true) env, hp g f⟩ (fun s => Q .normal s)) (hnd : noDefer l = true := by kernel_rfl) : LW P (.region id l.toArray true) ⟨n, env, H⟩ Q := by
  have hm' : m ≤ l.length := Nat.le_of_ble_eq_true hm
  have hO := DrawOkB.of hok
  have hsz : l.toArray.size = l.length := by simp
  refine LW.all hmo (LA.invB hO (by omega) (I := fun S s => ∃ g, Weaker s ⟨n, envS sl (val g) (fun j => S.getD j true) env, hp g (fun j => S.getD j true)⟩) (l.drop m) (by simp; omega) (fun j hj => by simp) ?_ ?_ l.toArray.size _ _ (by simp) ?_ ?_ ?_ ?_) hnd
  · rintro S st i ⟨g, hw⟩ hs hd him hi
    obtain ⟨h1, h2, h3⟩ := ready_iff.1 hi
    obtain ⟨o, ho, hlp⟩ := each i him (fun j => S.getD j true) g h1 (fun j hj => getD_tf (h3 j hj)) (fun j hj hf k hk => getD_tf (hd j (getD_ft (by omega) hf) k hk))
    refine ⟨o, ho, hw.lp fun w0 ph a w r N Q' k => hlp w0 ph a w r N Q' fun ph' st' a' w' hle r' q => k ph' st' a' w' hle r' ?_⟩
    rw [getD_upd (by omega)]; exact q
  · rintro S st ⟨g, hw⟩ hall
    have e := envS_all (val := val g) (f := fun j => S.getD j true) (env := env) (sl := sl) fun p hp' => hall p.1 (Nat.le_of_ble_eq_true (List.all_eq_true.1 hsl p hp'))
    rw [e] at hw
    intro w0 ph a w r Q' kk
    exact fin g _ hall w0 ph a w (hw.rels r) Q' kk
  · intro i hi
    simp [Array.getD_eq_getD_getElem?, Array.getElem?_replicate] at hi
    split at hi <;> simp_all
  · intro i hi1 hi2
    rw [Array.getD_eq_getD_getElem?, Array.getElem?_replicate, if_pos hi2]; rfl
  · have : ∀ (S : Array Bool) (l : List Nat), left S l ≤ l.length := fun S l => by
      induction l with
      | nil => simp [left]
      | cons a l ih => simp only [left, List.length_cons]; split <;> omega
    have := this (Array.replicate l.toArray.size false) (List.range l.toArray.size)
    simpa using this
  · have hz : ∀ p ∈ sl, (Array.replicate l.toArray.size false).getD p.1 true = false := fun p hp' => by
      have := Nat.le_of_ble_eq_true (List.all_eq_true.1 hsl p hp')
      rw [Array.getD_eq_getD_getElem?, Array.getElem?_replicate, if_pos (by omega)]; rfl
    refine ⟨g0, rfl, envS_start (val g0) (fun j => (Array.replicate l.toArray.size false).getD j true) env sl hz, ?_⟩
    rw [hsz]
    exact init
end
end Go.L

set_option linter.unusedVariables false
set_option linter.unusedSimpArgs false
namespace Go.L
open Go.RowKit
/-- An iterator: whoever takes, its items come one by one, till the taker says no more; at the end Hd z is left of what it owned, else Hl z. -/
def LIterX (P : Program) (gf : FuncId) (caps : Array Value) {ι ξ ζ : Type} (items : List ι) (J : ι → List LV → List Atom → Prop) (Hi : List Atom) (Hd : ξ → List Atom) (Hl : ζ → List Atom) : Prop :=
  ∀ (α β : Type) (F : α → List Atom) (G : β → List Atom) (φ : Nat → α → Prop) (ψ : β → Prop) (yv : Value), yv.oneCell' = true →
    (∀ k p y x Hx, items[k]? = some y → J y x Hx → φ k p → LYields P yv x (Hx ++ F p) (fun r H' => (∃ q, r = .raw (.bool true) ∧ φ (k + 1) q ∧ H' = F q) ∨ (∃ q, r = .raw (.bool false) ∧ ψ q ∧ H' = G q))) →
    ∀ p0, φ 0 p0 → LCalls P gf (.raw yv :: raws caps.toList) (Hi ++ F p0) (fun r H' => (∃ q z, φ items.length q ∧ H' = Hd z ++ F q) ∨ (∃ q z, ψ q ∧ H' = Hl z ++ G q))
set_option maxHeartbeats 1000000 in
/-- for .. := range g { .. } -/
theorem LW.rangeX {P : Program} {st : LS} {Q : Exit → LS → Prop} {gop : Operand} {ps : Array Tmp} {assign body : Code} {gf : FuncId} {fn : Func} {caps : Array Value} {ι : Type} {items : List ι} {J : ι → List LV → List Atom → Prop} {ξ ζ : Type} {Hi : List Atom} {Hd : ξ → List Atom} {Hl : ζ → List Atom} {R : List Atom}
    (hg : Is (ev st.env gop) (.raw (.func (.func gf) #[] caps))) (htop : st.n.top = true) (hf : P.funcs[gf]? = some fn) (hname : (fn.name == "runtime.NumGoroutine") = false) (hb : fn.body.isSome = true) (it : LIterX P gf caps items J Hi Hd Hl)
    (hps : (ps.toList.all fun t => Nat.blt t st.n.k) = true) (hit : ∀ y ∈ items, ∀ x Hx, J y x Hx → x.length = ps.size)
    {α β : Type} (F : α → List Atom) (G : β → List Atom) (φ : Nat → α → Prop) (L : Code → β → Prop) (p0 : α) (h0 : φ 0 p0) (hsub : HSub st.heap (Hi ++ (F p0 ++ R)))
    (round : RoundOkW P st.n.k st.env ps.toList assign body items J F G φ L)
    (done : ∀ D q z, φ items.length q → Q .normal ⟨⟨st.n.k, markOf D :: st.n.df, true⟩, st.env, Hd z ++ (F q ++ (.obj D (.deferred (some [])) :: R))⟩)
    (left : ∀ D c q z, L c q → LW P c ⟨⟨st.n.k, markOf D :: st.n.df, true⟩, st.env, Hl z ++ (G q ++ (.obj D (.deferred (some [])) :: R))⟩ Q) : LW P (.rangeFunc gop ps assign body) st Q := fun w0 ph a w r Q' kk => by
  have hro : w0.ro = none := r.defers.2 htop
  have hgv := (hg _ _ (r.tmps.eval gop)).rawE
  have hps' : ∀ t ∈ ps.toList, t < a.tmps.size := fun t ht => by
    have := List.all_eq_true.1 hps t ht
    rw [r.size]
    exact Nat.le_of_ble_eq_true this
  rw [hro]
  refine wpIn_rangeFunc fun fid _ => ?_
  obtain ⟨rec, hrec⟩ : ∃ rec : Loop, rec = { state := .ready, pending := none, fn := fid, tmps := a.tmps, params := ps, assign, body, defers := w.heap.size } := ⟨_, rfl⟩
  obtain ⟨l, hl⟩ : ∃ l, l = w.heap.size + 1 := ⟨_, rfl⟩
  obtain ⟨D, hD⟩ : ∃ D, D = w.heap.size := ⟨_, rfl⟩
  obtain ⟨w1, hw1⟩ : ∃ w1, w1 = (w.alloc (.deferred (some []))).alloc (.loop rec) := ⟨_, rfl⟩
  have hent : (Instr.enterLoop fid a.tmps ps assign body none).run P w = .ok (l, [markOf D]) w1 := by rw [hl, hD, hw1, hrec]; exact run_enterLoop_outer _ _ _ _ _
  have hcv : a.eval (.const (.func (.yield l) #[] #[])) = .func (.yield l) #[] #[] := rfl
  have hres : (resolve a.eval (rangeCall gop l) 0).run P w1 = .ok { target := .fn (.func gf) caps, args := #[.func (.yield l) #[] #[]] } w1 := by simp [resolve, hgv, Deferred.ofValue, hcv]
  have hinv : (invoke (.fn (.func gf) caps) #[.func (.yield l) #[] #[]]).run P w1 = .ok (.enter gf (#[.func (.yield l) #[] #[]] ++ caps)) w1 := by simp [invoke, enters hf hname hb]
  refine ⟨l, [markOf D], w1, _, w1, gf, _, w1, hent, hres, fun _ _ => trivial, hinv, fun h => (by cases h), ?_⟩
  have hi1 := ((hsub.app r.inv).newObj (.deferred (some []))).newObj (.loop rec)
  rw [show (w.alloc (.deferred (some []))).heap.size = l by rw [hl]; simp, ← hD, ← hw1] at hi1
  have hi2 : Inv w0 ph w1 ((Hi ++ (.since ph :: .obj l (.loop rec) :: F p0)) ++ (.obj D (.deferred (some [])) :: R)) :=
    (HSub.perm (perm_of fun x => (by simp only [List.count_append, List.count_cons]; omega))).app hi1.since
  have hyl := range_yieldsW (ph := ph) (l := l) (rec := rec) round r.size r.tmps hps' hit (by rw [hrec]; exact ⟨rfl, rfl, rfl, rfl, rfl, rfl⟩)
  have hdf : [markOf D] ++ a.defers = markOf D :: st.n.df := by rw [r.defers.1]; rfl
  have hcall := it α (Code × β) (fun p => .since ph :: .obj l (.loop rec) :: F p) (fun q => .since ph :: .obj l (.loop { rec with state := .done, pending := some q.1 }) :: G q.2) φ (fun q => L q.1 q.2) (.func (.yield l) #[] #[]) rfl hyl p0 h0
  have hrp : Reps ph (#[.func (.yield l) #[] #[]] ++ caps) (.raw (.func (.yield l) #[] #[]) :: raws caps.toList) := Reps.append (reps_cons (.raw _) reps_nil) (reps_raws caps)
  refine callsIn_wide.2 ((hcall (.obj D (.deferred (some [])) :: R) w0 ph w1 _ hi2 hrp).mono ?_)
  rintro e w2 ⟨v, ph2, x, H', rfl, hle2, hi, hx, hp⟩
  rcases hp with ⟨q, z, hq, rfl⟩ | ⟨⟨c, q⟩, z, hq, rfl⟩
  · have hi3 : Inv w0 ph2 w2 (.obj l (.loop rec) :: (Hd z ++ (F q ++ (.obj D (.deferred (some [])) :: R)) ++ [.since ph])) := (HSub.perm (perm_of fun x => (by simp only [List.count_append, List.count_cons, List.count_nil]; omega))).app hi
    have hpn : rec.pending = none := by rw [hrec]
    refine ⟨rec.pending, _, run_endLoop (P := P) hi3.obj_at (by rw [hrec]; simp), ?_⟩
    have hi4 := hi3.putObj (.loop { rec with state := .exhausted })
    rw [hpn] at hi4 ⊢
    refine kk .normal ph2 ⟨⟨st.n.k, markOf D :: st.n.df, true⟩, st.env, Hd z ++ (F q ++ (.obj D (.deferred (some [])) :: R))⟩ ⟨a.tmps, [markOf D] ++ a.defers⟩ _ hle2 ⟨?_, ⟨hdf, fun _ => hro⟩, r.size, r.tmps.mono hle2⟩ (done D q z hq)
    exact ((HSub.drop (HSub.refl _)).trans (HSub.prefix _ _)).app hi4
  · have hi3 : Inv w0 ph2 w2 (.obj l (.loop { rec with state := .done, pending := some c }) :: (Hl z ++ (G q ++ (.obj D (.deferred (some [])) :: R)) ++ [.since ph])) := (HSub.perm (perm_of fun x => (by simp only [List.count_append, List.count_cons, List.count_nil]; omega))).app hi
    refine ⟨some c, _, run_endLoop (P := P) hi3.obj_at (by simp), ?_⟩
    have hi4 := hi3.putObj (.loop { { rec with state := .done, pending := some c } with state := .exhausted })
    have := left D c q z hq w0 ph2 { a with defers := [markOf D] ++ a.defers } _ ⟨((HSub.drop (HSub.refl _)).trans (HSub.prefix _ _)).app hi4, ⟨hdf, fun _ => hro⟩, r.size, r.tmps.mono hle2⟩ Q' (fun e ph3 st3 a3 w3 hle3 r3 q3 => kk e ph3 st3 a3 w3 (hle2.trans hle3) r3 q3)
    rw [hro] at this
    exact this
theorem X.rangeX {P : Program} {k0 : Nat} {df : List Deferred} {env : List (Nat × LV)} {H : List Atom} {Q : Exit → LS → Prop} {t : List It} {gop : Operand} {ps : Array Tmp} {assign body : Code} {gf : FuncId} {fn : Func} {caps : Array Value} {ι : Type} {items : List ι} {J : ι → List LV → List Atom → Prop} {ξ ζ : Type} {Hi : List Atom} {Hd : ξ → List Atom} {Hl : ζ → List Atom} {R : List Atom}
    (hg : Is (ev env gop) (.raw (.func (.func gf) #[] caps))) (hf : P.funcs[gf]? = some fn) (hname : (fn.name == "runtime.NumGoroutine") = false) (hb : fn.body.isSome = true) (it : LIterX P gf caps items J Hi Hd Hl)
    (hps : (ps.toList.all fun t => Nat.blt t k0) = true) (hit : ∀ y ∈ items, ∀ x Hx, J y x Hx → x.length = ps.size)
    {α β : Type} (F : α → List Atom) (G : β → List Atom) (φ : Nat → α → Prop) (L : Code → β → Prop) (p0 : α) (h0 : φ 0 p0) (hsub : HSub H (Hi ++ (F p0 ++ R)))
    (round : RoundOkW P k0 env ps.toList assign body items J F G φ L)
    (done : ∀ D q z, φ items.length q → after P t Q .normal ⟨⟨k0, markOf D :: df, true⟩, env, Hd z ++ (F q ++ (.obj D (.deferred (some [])) :: R))⟩)
    (left : ∀ D c q z, L c q → LW P c ⟨⟨k0, markOf D :: df, true⟩, env, Hl z ++ (G q ++ (.obj D (.deferred (some [])) :: R))⟩ (after P t Q)) : LW P (.rangeFunc gop ps assign body) ⟨⟨k0, df, true⟩, env, H⟩ (after P t Q) :=
  LW.rangeX (st := ⟨⟨k0, df, true⟩, env, H⟩) hg rfl hf hname hb it hps hit F G φ L p0 h0 hsub round done left
end Go.L

set_option linter.unusedVariables false
set_option linter.unusedSimpArgs false
namespace Go.L
open Go.RowKit
/-! ### lists by keys -/
section
variable {κ : Type} [DecidableEq κ]
def idxM : List (κ × LV) → κ → Option Nat
  | [], _ => none
  | p :: r, a => if p.1 = a then some 0 else (idxM r a).map (· + 1)
def lookM (l : List (κ × LV)) (a : κ) : Option LV := (idxM l a).bind fun i => (l[i]?).map (·.2)
def setM (l : List (κ × LV)) (a : κ) (v : LV) : List (κ × LV) := match idxM l a with
  | some i => l.set i (a, v)
  | none => l ++ [(a, v)]
def delM (l : List (κ × LV)) (a : κ) : List (κ × LV) := match idxM l a with
  | some i => l.eraseIdx i
  | none => l
theorem idxM_some : ∀ {l : List (κ × LV)} {a : κ} {i : Nat}, idxM l a = some i → ∃ v, l[i]? = some (a, v)
  | [], a, i, h => by simp [idxM] at h
  | (b, v) :: r, a, i, h => by
    rw [idxM] at h
    by_cases e : b = a
    · simp only [e, if_true, Option.some.injEq] at h
      subst h; subst e
      exact ⟨v, rfl⟩
    · simp only [e, if_false, Option.map_eq_some_iff] at h
      obtain ⟨j, hj, rfl⟩ := h
      exact idxM_some (l := r) hj
theorem idxM_none : ∀ {l : List (κ × LV)} {a : κ}, idxM l a = none → ∀ p ∈ l, p.1 ≠ a
  | [], a, h, p, hp => by cases hp
  | (b, v) :: r, a, h, p, hp => by
    rw [idxM] at h
    by_cases e : b = a
    · simp [e] at h
    · simp only [e, if_false, Option.map_eq_none_iff] at h
      rcases List.mem_cons.1 hp with rfl | hp
      · exact e
      · exact idxM_none h p hp
end
/-- A map's entries, told by keys. -/
abbrev mp {κ : Type} (key : κ → Value) (l : List (κ × LV)) : List (LV × LV) := l.map fun p => (.raw (key p.1), p.2)
/-- A type of keys: how they are found. -/
structure KeyOk (P : Program) (kt : TypeId) {κ : Type} [DecidableEq κ] (key : κ → Value) : Prop where
  check : ∀ (a : κ) (b : Bool) (w : World), (Instr.checkKey b 10000 kt (key a)).run P w = .ok () w
  find : ∀ (a : κ) (es : List MapEntry) (l : List (κ × LV)) (w : World), es.map (·.key) = l.map (fun p => key p.1) → (Instr.findKey kt (key a) es).run P w = .ok ((idxM l a).bind fun i => (es[i]?).map fun e => (i, e.val)) w
  stays : ∀ a : κ, Instr.sameBits 10000 (key a) (key a) = true
theorem findNow_ok {κ : Type} [DecidableEq κ] {key : κ → Value} {kind : TypeDesc} (hn : ∀ a b, Instr.sameNow kind (key a) (key b) = some (decide (b = a))) (a : κ) : ∀ (es : List MapEntry) (l : List (κ × LV)) (n : Nat), es.map (·.key) = l.map (fun p => key p.1) → Instr.findNow kind (key a) es n = some ((idxM l a).bind fun i => (es[i]?).map fun e => (n + i, e.val))
  | [], [], n, _ => by simp [Instr.findNow, idxM]
  | [], p :: l, n, h => by simp at h
  | e :: es, [], n, h => by simp at h
  | e :: es, p :: l, n, h => by
    simp only [List.map_cons, List.cons.injEq] at h
    rw [Instr.findNow, h.1, hn]
    by_cases c : p.1 = a
    · simp [idxM, c]
    · simp only [c, decide_false, idxM, if_false]
      rw [findNow_ok hn a es l (n + 1) h.2]
      cases idxM l a with
      | none => simp
      | some i => simp [show n + 1 + i = n + (i + 1) by omega]
theorem KeyOk.ofNow {P : Program} {kt : TypeId} {κ : Type} [DecidableEq κ] {key : κ → Value} {kind : TypeDesc} (hk : P.underlying kt = some kind) (hn : ∀ a b, Instr.sameNow kind (key a) (key b) = some (decide (b = a)))
    (hc : ∀ (a : κ) (b : Bool) (w : World), (Instr.checkKey b 10000 kt (key a)).run P w = .ok () w) (hs : ∀ a : κ, Instr.sameBits 10000 (key a) (key a) = true) : KeyOk P kt key := ⟨hc, fun a es l w h => by
  unfold Instr.findKey
  simp only [Sem.run_bind, run_underlying hk, Result.andThen_ok, findNow_ok hn a es l 0 h, Sem.run_pure]
  simp only [Nat.zero_add], hs⟩
theorem bytes_beq (a b : List UInt8) : ((⟨a.toArray⟩ : ByteArray) == ⟨b.toArray⟩) = decide (b = a) := by
  have h : ((⟨a.toArray⟩ : ByteArray) == ⟨b.toArray⟩) = (a.toArray == b.toArray) := rfl
  rw [h, Bool.eq_iff_iff]
  simp only [beq_iff_eq, decide_eq_true_eq]
  exact ⟨fun h => by simpa using h.symm, fun h => by rw [h]⟩
theorem KeyOk.string {P : Program} {kt : TypeId} (hk : P.underlying kt = some .string) : KeyOk P kt (fun s : List UInt8 => Value.string ⟨s.toArray⟩) :=
  KeyOk.ofNow hk (fun a b => by simp only [Instr.sameNow, bytes_beq]) (fun a b w => by
    rw [Instr.checkKey]
    simp [run_underlying hk]) (fun a => by simp [Instr.sameBits, bytes_beq])
theorem KeyOk.int {P : Program} {kt : TypeId} {k : IntKind} (hk : P.underlying kt = some (.int k)) : KeyOk P kt (fun n : Int => Value.int k n) :=
  KeyOk.ofNow hk (fun a b => by
    simp only [Instr.sameNow, if_true, Option.some.injEq]
    rw [Bool.eq_iff_iff]
    simp only [beq_iff_eq, decide_eq_true_eq]
    exact eq_comm) (fun a b w => by
    rw [Instr.checkKey]
    simp [run_underlying hk]) (fun a => by simp [Instr.sameBits])
section
variable {P : Program} {env : List (Nat × LV)} {H : List Atom} {d : Option Tmp} {ty : TypeId} {pos : String} {af : Array Edge} {g : Option (Nat × Bool)} {st : LS} {K : LS → Prop}
theorem run_makeMap {t : TypeId} (w : World) : (Instr.makeMap t none).run P w = .ok (.map (some w.heap.size)) (w.alloc (.map #[] 0)) := by
  simp [Instr.makeMap]
theorem LO.makeMap {t : TypeId} {d : Tmp} (hd : Nat.blt d st.n.k = true) (h : ∀ b, K ⟨st.n, (d, .raw (.map (some b))) :: st.env, .map b [] :: st.heap⟩) : LO P ⟨some d, .makeMap t none, ty, pos, af, g⟩ st K := .of_run hd fun w0 ph a w r => by
  refine ⟨.raw (.map (some w.heap.size)), _, w.alloc (.map #[] 0), ph, _, by simp [execOp, run_makeMap], PH.le.refl _, ?_, .raw _, h w.heap.size⟩
  exact r.inv.new (G := fun b _ => b = w.heap.size) (Below.alloc (Below.refl _ _) (Nat.le_refl _) _) ⟨fun _ _ => Iff.rfl, #[], 0, heap_alloc_new w _, rfl, fun i m kv h => by simp at h, List.Pairwise.nil⟩ (fun b _ hb => by rw [hb]; exact Nat.le_refl _)
theorem LU.lenMap {x : Operand} {t kt et : TypeId} {m : Nat} {es : List (LV × LV)} (k : Nat) (hk : H[k]? = some (.map m es)) (ht : P.underlying t = some (.map kt et)) (hx : Is (ev env x) (.raw (.map (some m)))) :
    LU P env H ⟨d, .call { callee := .builtin .len, args := #[x], argTypes := #[t] }, ty, pos, af, g⟩ (.raw (.int .i64 es.length)) := .of_run fun ph a hl w0 w hinv => by
  have h1 := (hx _ _ (hl x (by simp [Op.operands, Call.operands]))).rawE
  obtain ⟨F, hF, ents, clock, hh, hsz, _⟩ := hinv.atom_at hk
  refine ⟨.int .i64 es.length, ?_, .raw _⟩
  simp [execOp, resolve, invoke, builtin, h1, Builtin.len_, run_underlying ht, MapKept.run_getObj_map hh, goInt, hsz]
theorem map_keys {κ : Type} {key : κ → Value} {ph : PH} {ents : Array MapEntry} {l : List (κ × LV)} {clock : Nat} (hsz : ents.size = (mp key l).length) (h : ∀ (i : Nat) (m : MapEntry) (kv : LV × LV), ents[i]? = some m → (mp key l)[i]? = some kv → Rep ph m.key kv.1 ∧ Rep ph m.val kv.2 ∧ m.born < clock) : ents.toList.map (·.key) = l.map (fun p => key p.1) := by
  apply List.ext_getElem?
  intro i
  simp only [List.getElem?_map, Array.getElem?_toList]
  by_cases hi : i < ents.size
  · have hi2 : i < l.length := by rw [hsz, List.length_map] at hi; exact hi
    have := (h i ents[i] (.raw (key l[i].1), l[i].2) (Array.getElem?_eq_getElem hi) (by rw [List.getElem?_map, List.getElem?_eq_getElem hi2]; rfl)).1.rawE
    rw [Array.getElem?_eq_getElem hi, List.getElem?_eq_getElem hi2]
    simp [this]
  · rw [Array.getElem?_eq_none (by omega), List.getElem?_eq_none (by rw [hsz, List.length_map] at hi; omega)]; rfl
theorem look_run {kt et t : TypeId} {κ : Type} [DecidableEq κ] {key : κ → Value} (Ko : KeyOk P kt key) {m : Nat} {l : List (κ × LV)} {F : FP} {ph : PH} {w : World} (hF : Atom.at ph w (.map m (mp key l)) F) (ht : P.underlying t = some (.map kt et)) {z : Value} (hz : (zeroValue et).run P w = .ok z w) (a : κ) (ok : Bool) :
    ∃ u, (Instr.lookup t (.map (some m)) (key a) ok).run P w = .ok (if ok then .tuple #[u, .bool (lookM l a).isSome] else u) w ∧ Rep ph u ((lookM l a).getD (.raw z)) := by
  obtain ⟨_, ents, clock, hh, hsz, hreps, _⟩ := hF
  have hkeys := map_keys hsz hreps
  have hf := Ko.find a ents.toList l w hkeys
  unfold lookM
  cases hi : idxM l a with
  | none =>
    rw [hi] at hf
    refine ⟨z, ?_, .raw _⟩
    simp only [Option.bind_none] at hf
    cases ok <;> simp [Instr.lookup, run_underlying ht, MapKept.run_getObj_map hh, Ko.check, hf, hz]
  | some i =>
    rw [hi] at hf
    obtain ⟨v, hv⟩ := idxM_some hi
    have hil := (List.getElem?_eq_some_iff.1 hv).1
    have hie : i < ents.size := by rw [hsz, List.length_map]; exact hil
    simp only [Option.bind_some, Array.getElem?_toList, Array.getElem?_eq_getElem hie, Option.map_some] at hf
    have hr := (hreps i ents[i] (.raw (key a), v) (Array.getElem?_eq_getElem hie) (by rw [List.getElem?_map, hv]; rfl)).2.1
    refine ⟨ents[i].val, ?_, by simpa [hv] using hr⟩
    cases ok <;> simp [Instr.lookup, run_underlying ht, MapKept.run_getObj_map hh, Ko.check, hf, hv]
theorem LU.lookup {x y : Operand} {t kt et : TypeId} {m : Nat} {κ : Type} [DecidableEq κ] {key : κ → Value} {l : List (κ × LV)} {z : Value} {a : κ} (k : Nat) (Ko : KeyOk P kt key) (hk : H[k]? = some (.map m (mp key l))) (ht : P.underlying t = some (.map kt et)) (hz : ∀ w, (zeroValue et).run P w = .ok z w) (hx : Is (ev env x) (.raw (.map (some m)))) (hy : Is (ev env y) (.raw (key a))) :
    LU P env H ⟨d, .lookup t x y false, ty, pos, af, g⟩ ((lookM l a).getD (.raw z)) := .of_run fun ph ac hl w0 w hinv => by
  have h1 := (hx _ _ (hl x (by simp [Op.operands]))).rawE
  have h2 := (hy _ _ (hl y (by simp [Op.operands]))).rawE
  obtain ⟨F, hF⟩ := hinv.atom_at hk
  obtain ⟨u, hu, hr⟩ := look_run Ko hF ht (hz w) a false
  exact ⟨u, by simp [execOp, h1, h2, hu], hr⟩
theorem LU.lookupOk {x y : Operand} {t kt et : TypeId} {m : Nat} {κ : Type} [DecidableEq κ] {key : κ → Value} {l : List (κ × LV)} {z : Value} {a : κ} (k : Nat) (Ko : KeyOk P kt key) (hk : H[k]? = some (.map m (mp key l))) (ht : P.underlying t = some (.map kt et)) (hz : ∀ w, (zeroValue et).run P w = .ok z w) (hx : Is (ev env x) (.raw (.map (some m)))) (hy : Is (ev env y) (.raw (key a))) :
    LU P env H ⟨d, .lookup t x y true, ty, pos, af, g⟩ (.tup [(lookM l a).getD (.raw z), .raw (.bool (lookM l a).isSome)]) := .of_run fun ph ac hl w0 w hinv => by
  have h1 := (hx _ _ (hl x (by simp [Op.operands]))).rawE
  have h2 := (hy _ _ (hl y (by simp [Op.operands]))).rawE
  obtain ⟨F, hF⟩ := hinv.atom_at hk
  obtain ⟨u, hu, hr⟩ := look_run Ko hF ht (hz w) a true
  refine ⟨_, by simp [execOp, h1, h2, hu]; rfl, .tup _ _ rfl fun i c x h1 h2 => ?_⟩
  match i with
  | 0 => simp at h1 h2; subst h1; subst h2; exact hr
  | 1 => simp at h1 h2; subst h1; subst h2; exact .raw _
  | k + 2 => simp at h1
theorem Chg.put {w : World} {m : Nat} {F : FP} (o : Obj) (hF : ∀ o, F m o) : Chg w (w.putObj m o) F :=
  Chg.blocks rfl rfl rfl (by simp) (fun b => b = m) (fun b hb o => by rw [hb]; exact hF o) (fun b _ hb => World.putObj_heap_other hb)
/-- m[a] = v -/
theorem LO.mapUpdate {x y z : Operand} {t kt et : TypeId} {m : Nat} {κ : Type} [DecidableEq κ] {key : κ → Value} {l : List (κ × LV)} {a : κ} {v : LV} (k : Nat) (Ko : KeyOk P kt key) (hk : st.heap[k]? = some (.map m (mp key l))) (ht : P.underlying t = some (.map kt et)) (hx : Is (ev st.env x) (.raw (.map (some m)))) (hy : Is (ev st.env y) (.raw (key a))) (hz : Is (ev st.env z) v)
    (h : K ⟨st.n, st.env, .map m (mp key (setM l a v)) :: st.heap.eraseIdx k⟩) : LO P ⟨none, .mapUpdate t x y z, ty, pos, af, g⟩ st K := .of_skip fun w0 ph ac w r => by
  have h1 := (hx _ _ (r.tmps.eval x)).rawE
  have h2 := (hy _ _ (r.tmps.eval y)).rawE
  have h3 := hz _ _ (r.tmps.eval z)
  have hinv := r.inv.front k
  unfold L.front at hinv
  rw [hk] at hinv
  obtain ⟨F, hF, ents, clock, hh, hsz, hreps, hpw⟩ := hinv.atom
  have hkeys := map_keys hsz hreps
  have hf := Ko.find a ents.toList l w hkeys
  have hlen : ents.size = l.length := by rw [hsz, List.length_map]
  have hlt := lt_of_some hh
  cases hi : idxM l a with
  | none =>
    rw [hi] at hf
    simp only [Option.bind_none] at hf
    have hset : setM l a v = l ++ [(a, v)] := by unfold setM; rw [hi]
    refine ⟨w.putObj m (.map (ents.push { key := key a, val := ac.eval z, born := clock }) (clock + 1)), ph, _, ?_, PH.le.refl _, hinv.turn (a' := .map m (mp key (setM l a v))) (PH.le.refl _) (fun G hG hn => ⟨Chg.put _ (fun o => (hG.1 m o).2 rfl), G, ⟨hG.1, _, _, World.putObj_heap_same hlt, ?_, fun i e kv he hkv => ?_, ?_⟩, fun b o hb => .inl hb, fun p u hp => .inl hp⟩), h⟩
    · simp [execOp, h1, h2, Instr.mapUpdate, run_underlying ht, MapKept.run_getObj_map hh, Ko.check, hf, MapKept.run_setObj_map _ hh, World.putObj]
    · rw [hset]; simp [hlen]
    · rw [hset] at hkv
      simp only [mp, List.map_append, List.map_cons, List.map_nil] at hkv
      rw [Array.getElem?_push] at he
      by_cases c : i = ents.size
      · rw [if_pos c] at he
        obtain rfl := Option.some.inj he
        rw [List.getElem?_append_right (by rw [List.length_map]; omega), List.length_map, show i - l.length = 0 by omega] at hkv
        obtain rfl := Option.some.inj hkv
        exact ⟨.raw _, h3, by show clock < clock + 1; omega⟩
      · rw [if_neg c] at he
        have hil := (Array.getElem?_eq_some_iff.1 he).1
        rw [List.getElem?_append_left (by rw [List.length_map]; omega)] at hkv
        have := hreps i e kv he hkv
        exact ⟨this.1, this.2.1, by omega⟩
    · rw [Array.toList_push, List.map_append, List.pairwise_append]
      refine ⟨hpw, by simp, fun x hx y hy => ?_⟩
      simp only [List.map_cons, List.map_nil, List.mem_singleton] at hy
      subst hy
      obtain ⟨e, he, rfl⟩ := List.mem_map.1 hx
      obtain ⟨i, hi2, rfl⟩ := List.getElem_of_mem he
      have hi3 : i < ents.size := by simpa using hi2
      exact (hreps i ents[i] ((mp key l)[i]'(by omega)) (Array.getElem?_eq_getElem hi3) (List.getElem?_eq_getElem _)).2.2
  | some i =>
    rw [hi] at hf
    obtain ⟨u, hu⟩ := idxM_some hi
    have hil := (List.getElem?_eq_some_iff.1 hu).1
    have hie : i < ents.size := by omega
    simp only [Option.bind_some, Array.getElem?_toList, Array.getElem?_eq_getElem hie, Option.map_some] at hf
    have hset : setM l a v = l.set i (a, v) := by unfold setM; rw [hi]
    have hki : ents[i].key = key a := (hreps i ents[i] (.raw (key a), u) (Array.getElem?_eq_getElem hie) (by rw [List.getElem?_map, hu]; rfl)).1.rawE
    refine ⟨w.putObj m (.map (ents.modify i fun e => { e with key := key a, val := ac.eval z }) clock), ph, _, ?_, PH.le.refl _, hinv.turn (a' := .map m (mp key (setM l a v))) (PH.le.refl _) (fun G hG hn => ⟨Chg.put _ (fun o => (hG.1 m o).2 rfl), G, ⟨hG.1, _, _, World.putObj_heap_same hlt, ?_, fun j e kv he hkv => ?_, ?_⟩, fun b o hb => .inl hb, fun p u hp => .inl hp⟩), h⟩
    · simp [execOp, h1, h2, Instr.mapUpdate, run_underlying ht, MapKept.run_getObj_map hh, Ko.check, hf, Instr.keyThatStays, hie, hki, Ko.stays, MapKept.run_setObj_map _ hh, World.putObj]
    · rw [hset]; simp [hlen]
    · rw [hset] at hkv
      rw [Array.getElem?_modify] at he
      simp only [mp, List.map_set] at hkv
      by_cases c : i = j
      · subst c
        rw [if_pos rfl, Array.getElem?_eq_getElem hie] at he
        obtain rfl := Option.some.inj he
        rw [List.getElem?_set_self (by rw [List.length_map]; exact hil)] at hkv
        obtain rfl := Option.some.inj hkv
        exact ⟨.raw _, h3, (hreps i ents[i] (.raw (key a), u) (Array.getElem?_eq_getElem hie) (by rw [List.getElem?_map, hu]; rfl)).2.2⟩
      · rw [if_neg c] at he
        rw [List.getElem?_set_ne c] at hkv
        exact hreps j e kv he hkv
    · have : (ents.modify i fun e => { e with key := key a, val := ac.eval z }).toList.map (·.born) = ents.toList.map (·.born) := by
        apply List.ext_getElem?
        intro j
        simp only [List.getElem?_map, Array.getElem?_toList, Array.getElem?_modify]
        by_cases c : i = j
        · subst c; simp [hie]
        · simp [c]
      rw [this]; exact hpw
/-- delete(m, a) -/
theorem LO.mapDelete {x y : Operand} {t kt kt2 et : TypeId} {m : Nat} {κ : Type} [DecidableEq κ] {key : κ → Value} {l : List (κ × LV)} {a : κ} (k : Nat) (Ko : KeyOk P kt key) (hk : st.heap[k]? = some (.map m (mp key l))) (ht : P.underlying t = some (.map kt et)) (hx : Is (ev st.env x) (.raw (.map (some m)))) (hy : Is (ev st.env y) (.raw (key a))) {d : Tmp} (hd : Nat.blt d st.n.k = true)
    (h : K ⟨st.n, (d, .any) :: st.env, .map m (mp key (delM l a)) :: st.heap.eraseIdx k⟩) : LO P ⟨some d, .call { callee := .builtin .delete, args := #[x, y], argTypes := #[t, kt2] }, ty, pos, af, g⟩ st K := .of_run hd fun w0 ph ac w r => by
  have h1 := (hx _ _ (r.tmps.eval x)).rawE
  have h2 := (hy _ _ (r.tmps.eval y)).rawE
  have hinv := r.inv.front k
  unfold L.front at hinv
  rw [hk] at hinv
  obtain ⟨F, hF, ents, clock, hh, hsz, hreps, hpw⟩ := hinv.atom
  have hkeys := map_keys hsz hreps
  have hf := Ko.find a ents.toList l w hkeys
  have hlen : ents.size = l.length := by rw [hsz, List.length_map]
  have hlt := lt_of_some hh
  cases hi : idxM l a with
  | none =>
    rw [hi] at hf
    simp only [Option.bind_none] at hf
    have hset : delM l a = l := by unfold delM; rw [hi]
    refine ⟨.any, .tuple #[], w.putObj m (.map ents clock), ph, _, ?_, PH.le.refl _, hinv.turn (a' := .map m (mp key (delM l a))) (PH.le.refl _) (fun G hG hn => ⟨Chg.put _ (fun o => (hG.1 m o).2 rfl), G, ⟨hG.1, _, _, World.putObj_heap_same hlt, by rw [hset]; exact hsz, by rw [hset]; exact hreps, hpw⟩, fun b o hb => .inl hb, fun p u hp => .inl hp⟩), .any _, h⟩
    simp [execOp, resolve, invoke, builtin, h1, h2, Builtin.delete_, run_underlying ht, MapKept.run_getObj_map hh, Ko.check, hf, MapKept.run_setObj_map _ hh, World.putObj]
  | some i =>
    rw [hi] at hf
    obtain ⟨u, hu⟩ := idxM_some hi
    have hil := (List.getElem?_eq_some_iff.1 hu).1
    have hie : i < ents.size := by omega
    simp only [Option.bind_some, Array.getElem?_toList, Array.getElem?_eq_getElem hie, Option.map_some] at hf
    have hset : delM l a = l.eraseIdx i := by unfold delM; rw [hi]
    have het : (ents.eraseIdxIfInBounds i).toList = ents.toList.eraseIdx i := by simp [Array.eraseIdxIfInBounds, hie]
    refine ⟨.any, .tuple #[], w.putObj m (.map (ents.eraseIdxIfInBounds i) clock), ph, _, ?_, PH.le.refl _, hinv.turn (a' := .map m (mp key (delM l a))) (PH.le.refl _) (fun G hG hn => ⟨Chg.put _ (fun o => (hG.1 m o).2 rfl), G, ⟨hG.1, _, _, World.putObj_heap_same hlt, ?_, fun j e kv he hkv => ?_, ?_⟩, fun b o hb => .inl hb, fun p u hp => .inl hp⟩), .any _, h⟩
    · simp [execOp, resolve, invoke, builtin, h1, h2, Builtin.delete_, run_underlying ht, MapKept.run_getObj_map hh, Ko.check, hf, MapKept.run_setObj_map _ hh, World.putObj]
    · rw [hset, ← Array.length_toList, het, List.length_map, List.length_eraseIdx_of_lt (by simpa using hie), List.length_eraseIdx_of_lt hil, Array.length_toList, hlen]
    · rw [hset] at hkv
      rw [← Array.getElem?_toList, het, List.getElem?_eraseIdx] at he
      rw [List.getElem?_map, List.getElem?_eraseIdx] at hkv
      by_cases c : j < i
      · rw [if_pos c] at he hkv
        exact hreps j e kv (by simpa using he) (by rw [List.getElem?_map]; exact hkv)
      · rw [if_neg c] at he hkv
        exact hreps (j + 1) e kv (by simpa using he) (by rw [List.getElem?_map]; exact hkv)
    · rw [het]
      exact hpw.sublist ((List.eraseIdx_sublist _ _).map _)
/-- range over a map -/
theorem LO.rangeMap {x : Operand} {t kt et : TypeId} {m : Nat} {es : List (LV × LV)} {d : Tmp} (k : Nat) (hd : Nat.blt d st.n.k = true) (hk : st.heap[k]? = some (.map m es)) (ht : P.underlying t = some (.map kt et)) (hx : Is (ev st.env x) (.raw (.map (some m))))
    (h : ∀ b, K ⟨st.n, (d, .raw (.pointer (some ⟨b, 0, none⟩))) :: st.env, .mapr m b es [] :: st.heap.eraseIdx k⟩) : LO P ⟨some d, .range t x, ty, pos, af, g⟩ st K := .of_run hd fun w0 ph ac w r => by
  have h1 := (hx _ _ (r.tmps.eval x)).rawE
  have hinv := r.inv.front k
  unfold L.front at hinv
  rw [hk] at hinv
  obtain ⟨F, hF, ents, clock, hh, hsz, hreps, hpw⟩ := hinv.atom
  have hlt := lt_of_some hh
  have hb : Below w.heap.size w (w.alloc (.mapIter (some m) clock #[] clock)) := Below.alloc (Below.refl _ _) (Nat.le_refl _) _
  refine ⟨.raw (.pointer (some ⟨w.heap.size, 0, none⟩)), _, _, ph, _, by simp only [execOp, h1, Sem.run_bind, run_range_map w t kt et m ents clock ht hh]; rfl, PH.le.refl _, hinv.turn (a' := .mapr m w.heap.size es []) (PH.le.refl _) (fun G hG hn => ⟨Chg.below hb _, fun b o => b = m ∨ b = w.heap.size, ⟨fun b o => Iff.rfl, by omega, ents, clock, ?_, hsz, hreps, hpw, (by simp), #[], heap_alloc_new w _, rfl⟩, fun b o hb => ?_, fun p u hp => .inl hp⟩), .raw _, h _⟩
  · rw [heap_alloc_old w _ hlt]; exact hh
  · rcases hb with rfl | rfl
    · exact .inl ((hG.1 b o).2 rfl)
    · exact .inr (Nat.le_refl _)
theorem nodup_of_pairwise_lt {l : List Nat} (h : l.Pairwise (· < ·)) : l.Nodup := h.imp fun h => Nat.ne_of_lt h
/-- The next entry, whichever; or there is none left. -/
theorem LO.nextMap {x : Operand} {m it : Nat} {es : List (LV × LV)} {seen : List Nat} {d : Tmp} (k : Nat) (hd : Nat.blt d st.n.k = true) (hk : st.heap[k]? = some (.mapr m it es seen)) (hx : Is (ev st.env x) (.raw (.pointer (some ⟨it, 0, none⟩))))
    (h1 : ∀ i kv, es[i]? = some kv → i ∉ seen → K ⟨st.n, (d, .tup [.raw (.bool true), kv.1, kv.2]) :: st.env, .mapr m it es (seen ++ [i]) :: st.heap.eraseIdx k⟩)
    (h2 : (∀ i, i < es.length → i ∈ seen) → K ⟨st.n, (d, .tup [.raw (.bool false)]) :: st.env, .mapr m it es seen :: st.heap.eraseIdx k⟩) : LO P ⟨some d, .next x false, ty, pos, af, g⟩ st K := .of_run hd fun w0 ph ac w r => by
  have hx1 := (hx _ _ (r.tmps.eval x)).rawE
  have hinv := r.inv.front k
  unfold L.front at hinv
  rw [hk] at hinv
  obtain ⟨F, hF, hne, ents, clock, hh, hsz, hreps, hpw, hsl, arr, hit, harr⟩ := hinv.atom
  have hlt := lt_of_some hit
  have hltm := lt_of_some hh
  have hold : ∀ x ∈ ents.toList, x.born < clock := fun e he => by
    obtain ⟨i, hi2, rfl⟩ := List.getElem_of_mem he
    have hi3 : i < ents.size := by simpa using hi2
    exact (hreps i ents[i] (es[i]'(by omega)) (Array.getElem?_eq_getElem hi3) (List.getElem?_eq_getElem _)).2.2
  have hborn : ∀ i j (hi : i < ents.size) (hj : j < ents.size), ents[i].born = ents[j].born → i = j := fun i j hi hj e => by
    have hnd := nodup_of_pairwise_lt hpw
    have := (List.getElem_inj (h₀ := by simpa using hi) (h₁ := by simpa using hj) hnd).1 (by simpa using e)
    exact this
  have hseen : ∀ i (hi : i < ents.size), (ents[i].born ∈ arr.toList ↔ i ∈ seen) := fun i hi => by
    rw [harr, List.mem_map]
    constructor
    · rintro ⟨j, hj, e⟩
      have hj2 : j < ents.size := by have := hsl j hj; omega
      rw [Array.getElem?_eq_getElem hj2] at e
      simp only [Option.map_some, Option.getD_some] at e
      rw [hborn i j hi hj2 e.symm]; exact hj
    · intro hi2
      exact ⟨i, hi2, by rw [Array.getElem?_eq_getElem hi]; rfl⟩
  rcases run_next_at (P := P) w ty it m clock clock arr ents clock hit hh hold (Nat.le_refl _) with ⟨hz, hrun⟩ | ⟨e, he, w1, hal, hrun⟩
  · refine ⟨.tup [.raw (.bool false)], _, w, ph, _, by simp only [execOp, hx1, Sem.run_bind, hrun]; rfl, PH.le.refl _, hinv, .tup _ _ rfl fun i c x a b => ?_, h2 fun i hi => ?_⟩
    · match i with
      | 0 => simp at a b; subst a; subst b; exact .raw _
      | i + 1 => simp at a
    · have hi3 : i < ents.size := by omega
      refine (hseen i hi3).1 ?_
      have hemp : leftOf ents arr = #[] := Array.eq_empty_of_size_eq_zero hz
      unfold leftOf at hemp
      rw [Array.filter_eq_empty_iff] at hemp
      have := hemp ents[i] (by simp)
      simpa using this
  · have hmem : e ∈ ents.toList ∧ e.born ∉ arr.toList := by
      unfold leftOf at he
      simpa using he
    obtain ⟨i, hi2, rfl⟩ := List.getElem_of_mem hmem.1
    have hi3 : i < ents.size := by simpa using hi2
    have hil : i < es.length := by omega
    have hkv : es[i]? = some es[i] := List.getElem?_eq_getElem hil
    have hrep := hreps i ents[i] es[i] (Array.getElem?_eq_getElem hi3) hkv
    have hns : i ∉ seen := fun h => hmem.2 (by have := (hseen i hi3).2 h; simpa using this)
    have hw1 : w1.heap = w.heap ∧ w1.os = w.os ∧ w1.tape = w.tape ∧ w1.output = w.output := by rcases hal with rfl | rfl <;> exact ⟨rfl, rfl, rfl, rfl⟩
    refine ⟨.tup [.raw (.bool true), es[i].1, es[i].2], _, _, ph, _, by simp only [execOp, hx1, Sem.run_bind, hrun]; rfl, PH.le.refl _, hinv.turn (a' := .mapr m it es (seen ++ [i])) (PH.le.refl _) (fun G hG hn => ⟨?_, G, ⟨hG.1, hne, ents, clock, ?_, hsz, hreps, hpw, fun j hj => ?_, arr.push ents[i].born, ?_, ?_⟩, fun b o hb => .inl hb, fun p u hp => .inl hp⟩), .tup _ _ rfl fun j c x a b => ?_, h1 i es[i] hkv hns⟩
    · refine Chg.blocks hw1.2.1 hw1.2.2.1 hw1.2.2.2 (by simp [Go.ChangeMaps.setBlock, hw1.1]) (fun b => b = it) (fun b hb o => (hG.1 b o).2 (.inr hb)) (fun b _ hb => ?_)
      simp only [Go.ChangeMaps.setBlock, hw1.1]
      rw [Array.getElem?_setIfInBounds_ne (fun h => hb h.symm)]
    · simp only [Go.ChangeMaps.setBlock, hw1.1]
      rw [Array.getElem?_setIfInBounds_ne (fun h => hne h.symm)]; exact hh
    · rcases List.mem_append.1 hj with h | h
      · exact hsl j h
      · rw [List.mem_singleton.1 h]; exact hil
    · simp only [Go.ChangeMaps.setBlock, hw1.1]
      rw [Array.getElem?_setIfInBounds_self_of_lt hlt]
      rfl
    · rw [Array.toList_push, harr, List.map_append, List.map_cons, List.map_nil, Array.getElem?_eq_getElem hi3]; rfl
    · match j with
      | 0 => simp at a b; subst a; subst b; exact .raw _
      | 1 => simp at a b; subst a; subst b; exact hrep.1
      | 2 => simp at a b; subst a; subst b; exact hrep.2.1
      | j + 3 => simp at a
/-- The entry that the last step gave. -/
theorem LU.entryMap {x : Operand} {m it i : Nat} {es : List (LV × LV)} {seen : List Nat} {kv : LV × LV} (k : Nat) (hk : H[k]? = some (.mapr m it es (seen ++ [i]))) (hi : es[i]? = some kv) (hx : Is (ev env x) (.raw (.pointer (some ⟨it, 0, none⟩)))) : LU P env H ⟨d, .entry x, ty, pos, af, g⟩ (.tup [kv.1, kv.2]) := .of_run fun ph a hl w0 w hinv => by
  have h1 := (hx _ _ (hl x (by simp [Op.operands]))).rawE
  obtain ⟨F, hF, hne, ents, clock, hh, hsz, hreps, hpw, hsl, arr, hit, harr⟩ := hinv.atom_at hk
  have hil := (List.getElem?_eq_some_iff.1 hi).1
  have hie : i < ents.size := by omega
  have hrep := hreps i ents[i] kv (Array.getElem?_eq_getElem hie) hi
  have he : arr = (seen.map fun i => ((ents[i]?).map (·.born)).getD 0).toArray.push ents[i].born := by
    apply Array.toList_inj.1
    rw [harr, List.map_append, Array.toList_push, List.map_cons, List.map_nil, Array.getElem?_eq_getElem hie]; rfl
  rw [he] at hit
  have hrun := run_entry_at (P := P) w it m clock _ ents clock ents[i] hit hh (by simp) (nodup_of_pairwise_lt hpw)
  refine ⟨_, by simp only [execOp, h1, Sem.run_bind, hrun]; rfl, .tup _ _ rfl fun j c x a b => ?_⟩
  match j with
  | 0 => simp at a b; subst a; subst b; exact hrep.1
  | 1 => simp at a b; subst a; subst b; exact hrep.2.1
  | j + 2 => simp at a
theorem LU.lenMapr {x : Operand} {t kt et : TypeId} {m it : Nat} {es : List (LV × LV)} {seen : List Nat} (k : Nat) (hk : H[k]? = some (.mapr m it es seen)) (ht : P.underlying t = some (.map kt et)) (hx : Is (ev env x) (.raw (.map (some m)))) :
    LU P env H ⟨d, .call { callee := .builtin .len, args := #[x], argTypes := #[t] }, ty, pos, af, g⟩ (.raw (.int .i64 es.length)) := .of_run fun ph a hl w0 w hinv => by
  have h1 := (hx _ _ (hl x (by simp [Op.operands, Call.operands]))).rawE
  obtain ⟨F, hF, hne, ents, clock, hh, hsz, _⟩ := hinv.atom_at hk
  refine ⟨.int .i64 es.length, ?_, .raw _⟩
  simp [execOp, resolve, invoke, builtin, h1, Builtin.len_, run_underlying ht, MapKept.run_getObj_map hh, goInt, hsz]
end
/-- The loop is over: the map alone. -/
theorem HSub.ranged (m it : Nat) (es : List (LV × LV)) (seen : List Nat) (H : List Atom) : HSub (.mapr m it es seen :: H) (.map m es :: H) := HSub.of fun ph w F ⟨F1, F2, ⟨h1, hne, ents, clock, h2, h3, h4, h5, _⟩, hs, hF, hd⟩ =>
  ⟨fun b o => b = m ∨ F2 b o, ⟨fun b _ => b = m, F2, ⟨fun b o => Iff.rfl, ents, clock, h2, h3, h4, h5⟩, hs, fun b o => Iff.rfl, fun b o hb h => hd b o ((h1 b o).2 (.inl hb)) h⟩, fun b o hb => (hF b o).2 (hb.imp (fun h => (h1 b o).2 (.inl h)) id)⟩
/-- How many of n entries are not seen yet. -/
def unseen (n : Nat) (seen : List Nat) : Nat := ((List.range n).filter fun k => !seen.contains k).length
theorem unseen_lt {n i : Nat} {seen : List Nat} (hi : i < n) (hn : i ∉ seen) : unseen n (seen ++ [i]) < unseen n seen := by
  unfold unseen
  have e : (List.range n).filter (fun k => !(seen ++ [i]).contains k) = ((List.range n).filter fun k => !seen.contains k).filter fun k => k != i := by
    rw [List.filter_filter]
    congr 1
    funext k
    simp only [List.contains_eq_mem, List.mem_append, List.mem_singleton]
    by_cases h1 : k ∈ seen <;> by_cases h2 : k = i <;> simp [h1, h2]
  rw [e]
  refine List.length_filter_lt_length_iff_exists.2 ⟨i, ?_, by simp⟩
  rw [List.mem_filter]
  exact ⟨List.mem_range.2 hi, by simpa using hn⟩
end Go.L

set_option linter.unusedVariables false
set_option linter.unusedSimpArgs false
namespace Go.L
open Go.RowKit
theorem reps_vals {ph : PH} {args : Array Value} {vs : List Value} (h : Reps ph args (raws vs)) : args = vs.toArray := by
  apply Array.ext_getElem?
  intro i
  by_cases hi : i < args.size
  · have hv : i < vs.length := by have := h.1; simp [raws] at this; omega
    have := (h.2 i args[i] (.raw vs[i]) (Array.getElem?_eq_getElem hi) (by simp [raws, hv])).rawE
    rw [Array.getElem?_eq_getElem hi, this]
    simp [hv]
  · have hv : ¬ i < vs.length := by have := h.1; simp [raws] at this; omega
    rw [Array.getElem?_eq_none (by omega), Array.getElem?_eq_none (by simpa using hv)]
/-- A contract of the shelf that changes nothing. -/
theorem LCalls.quiet {P : Program} {f : FuncId} {vs : List Value} {v : Value} (h : ∀ w : World, Calls P f vs.toArray w fun e w' => e = .returned v ∧ w' = w) : LCalls P f (raws vs) [] (fun r H' => r = .raw v ∧ H' = []) := fun R w0 ph w args hi hr => by
  rw [reps_vals hr]
  refine (h w).mono fun e w' ⟨he, hw⟩ => ⟨v, ph, .raw v, [], he, PH.le.refl _, by rw [hw]; exact hi, .raw _, rfl, rfl⟩
theorem LCalls.quietB {P : Program} {f : FuncId} {vs : List Value} {v : Value} (h : ∀ w : World, Calls P f vs.toArray w fun e w' => e = .returned v ∧ Below w.heap.size w w') : LCalls P f (raws vs) [] (fun r H' => r = .raw v ∧ H' = []) := fun R w0 ph w args hi hr => by
  rw [reps_vals hr]
  refine (h w).mono fun e w' ⟨he, hw⟩ => ⟨v, ph, .raw v, [], he, PH.le.refl _, hi.step hw, .raw _, rfl, rfl⟩
/-- A contract of the shelf that writes a row of an owned block. -/
theorem LCalls.row {P : Program} {f : FuncId} {α : Type} [Inhabited α] {enc : α → Value} {vs : List Value} {v : Value} {b off : Nat} {T : TypeId} {xs : List LV} {d d' : List α} (h1 : ∀ x, (enc x).oneCell' = true) (hx : (xs.drop off).take d.length = d.map fun a => LV.raw (enc a)) (hl : off + d.length ≤ xs.length) (hd : d'.length = d.length)
    (h : ∀ w : World, Sort.Holds enc w b off d.toArray → Calls P f vs.toArray w fun e w' => e = .returned v ∧ ∃ n, w' = (Sort.putRow enc w b off d'.toArray).drewN n) : LCalls P f (raws vs) [.cells b T xs] (fun r H' => r = .raw v ∧ H' = [.cells b T (putAt xs off (d'.map fun a => LV.raw (enc a)))]) := fun R w0 ph w args hi hr => by
  rw [reps_vals hr]
  obtain ⟨F, hF, cs, hh, hcr⟩ := hi.atom_at (k := 0) rfl
  have hsz := hcr.1.1
  have hget : ∀ j (hj : j < d.length), cs[off + j]? = some (enc d[j]) := fun j hj => by
    have hlt : off + j < cs.size := by omega
    have h2 : xs[off + j]? = some (.raw (enc d[j])) := by
      have := congrArg (fun z => z[j]?) hx
      simp only [List.getElem?_take, if_pos hj, List.getElem?_drop, List.getElem?_map, List.getElem?_eq_getElem hj, Option.map_some] at this
      exact this
    rw [Array.getElem?_eq_getElem hlt, (hcr.1.2 (off + j) cs[off + j] _ (Array.getElem?_eq_getElem hlt) h2).rawE]
  have hH : Sort.Holds enc w b off d.toArray := fun j hj => by
    have hj' : j < d.length := by simpa using hj
    rw [cell_of_row w b (off + j) cs T (0, 0) hh, hget j hj']
    refine ⟨by rw [getElem!_pos _ j hj]; simp, by simp [World.frozen?, hh]⟩
  refine (h w hH).mono fun e w' ⟨he, n, hw⟩ => ?_
  have hblk : ∀ k : Nat, (Sort.putRow enc w b off d'.toArray).heap[k]? = if k = b then some (.cells (Sort.putCells enc off d'.toArray cs) T (0, 0)) else w.heap[k]? := fun k => by
    by_cases hk : k = b
    · subst hk
      rw [if_pos rfl]
      unfold Sort.putRow Sort.mapBlock
      simp [Array.getElem?_modify, hh, Sort.onCells]
    · rw [if_neg hk]
      unfold Sort.putRow Sort.mapBlock
      simp only [Array.getElem?_modify]
      rw [if_neg (fun h : b = k => hk h.symm)]
  refine ⟨v, ph, .raw v, _, he, PH.le.refl _, ?_, .raw _, rfl, rfl⟩
  rw [hw]
  have hcell : ∀ i c, (Sort.putCells enc off d'.toArray cs)[i]? = some c → (off ≤ i ∧ i < off + d'.length ∧ ∃ a, d'[i - off]? = some a ∧ c = enc a) ∨ (¬ (off ≤ i ∧ i < off + d'.length) ∧ cs[i]? = some c) := fun i c hc => by
    unfold Sort.putCells at hc
    rw [Array.getElem?_mapIdx] at hc
    cases hci : cs[i]? with
    | none => rw [hci] at hc; cases hc
    | some u =>
      rw [hci] at hc
      simp only [Option.map_some, Option.some.injEq, List.size_toArray] at hc
      by_cases hr : off ≤ i ∧ i < off + d'.length
      · rw [if_pos hr] at hc
        have hj : i - off < d'.length := by omega
        exact .inl ⟨hr.1, hr.2, d'[i - off], List.getElem?_eq_getElem hj, by rw [← hc, getElem!_pos _ _ (by simpa using hj)]; simp⟩
      · rw [if_neg hr] at hc
        exact .inr ⟨hr, by rw [hc]⟩
  have hbl : ∀ k : Nat, ((Sort.putRow enc w b off d'.toArray).drewN n).heap[k]? = (Sort.putRow enc w b off d'.toArray).heap[k]? := fun k => rfl
  have hszh : (Sort.putRow enc w b off d'.toArray).heap.size = w.heap.size := by unfold Sort.putRow Sort.mapBlock; simp
  have hi' : Inv w0 ph w (.cells b T xs :: R) := hi
  show Inv w0 ph _ (_ :: R)
  refine hi'.turn (a' := .cells b T (putAt xs off (d'.map fun a => LV.raw (enc a)))) (PH.le.refl _) (fun G hG hn => ⟨Chg.blocks rfl rfl rfl (by show _ ≤ (Sort.putRow enc w b off d'.toArray).heap.size; omega) (fun k => k = b) (fun k hk o => (hG.1 k o).2 hk) (fun k _ hk => by rw [hbl, hblk, if_neg hk]), G, ⟨hG.1, Sort.putCells enc off d'.toArray cs, by rw [hbl, hblk, if_pos rfl], ⟨⟨by rw [putAt_length _ _ _ (by rw [List.length_map]; omega)]; unfold Sort.putCells; rw [Array.size_mapIdx]; exact hsz, fun i c x hc hx2 => ?_⟩, fun i c hc => ?_⟩⟩, fun k o hk => .inl hk, fun p u hp => .inl hp⟩)
  · rw [putAt_get _ _ _ (by rw [List.length_map]; omega), List.length_map] at hx2
    rcases hcell i c hc with ⟨a1, a2, a, ha, rfl⟩ | ⟨a1, a2⟩
    · rw [if_pos ⟨a1, a2⟩, List.getElem?_map, ha] at hx2
      obtain rfl := Option.some.inj hx2
      exact .raw _
    · rw [if_neg a1] at hx2
      exact hcr.1.2 i c x a2 hx2
  · rcases hcell i c hc with ⟨a1, a2, a, ha, rfl⟩ | ⟨a1, a2⟩
    · exact h1 a
    · exact hcr.2 i c a2
section
variable {P : Program} {env : List (Nat × LV)} {H : List Atom} {ty : TypeId} {pos : String} {af : Array Edge} {g : Option (Nat × Bool)}
/-- An owned array, sliced. -/
theorem LU.sliceOAlh {d : Option Tmp} {x y z : Operand} {t e : TypeId} {n b off size : Nat} {k1 k2 : IntKind} {l h : Int} (ht : P.underlying t = some (.array n e)) (hs : ∀ w, (sizeOf e).run P w = .ok size w) (hx : Is (ev env x) (.raw (.pointer (some ⟨b, off, none⟩)))) (hy : Is (ev env y) (.raw (.int k1 l))) (hz : Is (ev env z) (.raw (.int k2 h))) (h0 : 0 ≤ l) (h1 : l ≤ h) (h2 : h ≤ n) (h3 : l < n) :
    LU P env H ⟨d, .slice t x (some y) (some z) none, ty, pos, af, g⟩ (.raw (.slice (some ⟨b, off + l.toNat * size, none⟩) (h.toNat - l.toNat) (n - l.toNat))) := .raw fun ac hl w => by
  have e1 := hl x (by simp [Op.operands]) _ hx
  have e2 := hl y (by simp [Op.operands]) _ hy
  have e3 := hl z (by simp [Op.operands]) _ hz
  have hal : P.arrayLen t = n := by simp [Program.arrayLen, ht]
  have hel : P.elem t = e := by simp [Program.elem, ht]
  have := run_sliceAt_array_lh (P := P) w t ⟨b, off, none⟩ (by rw [hal, hel]; exact ht) k1 k2 l h h0 h1 (by rw [hal]; exact h2)
  simp only [execOp, Option.map_none, Option.map_some, e1, e2, e3, Sem.run_bind, this, hel, hs, Result.andThen_ok, hal, slicedAt, Sem.run_pure]
  have e0 : (if n = l.toNat then (⟨b, off, none⟩ : Addr) else (⟨b, off, none⟩ : Addr).add (l.toNat * size)) = ⟨b, off + l.toNat * size, none⟩ := by rw [if_neg (by omega), add_lit]
  rw [e0]
end
/-- Two variables that are known when a call begins. -/
theorem LCalls.runK2 {P : Program} {f : FuncId} {args : List LV} {b : Value} {g g2 : Nat} {xs xs2 : List LV} {post : LV → List Atom → Prop} (h : LCalls P f args [.known g xs, .known g2 xs2] post) (hq : ∀ r H', post r H' → r = .raw b) {w : World} {vs : Array Value} (hr : Reps (PH.all w) vs args) (hk : Rep (PH.all w) (.pointer (some ⟨g, 0, none⟩)) (.pin xs) ∧ Rep (PH.all w) (.pointer (some ⟨g2, 0, none⟩)) (.pin xs2)) : Calls P f vs w fun e w' => e = .returned b ∧ Below w.heap.size w w' :=
  (h [] ⟨w, none⟩ (PH.all w) w vs ⟨(Inv.start w).below, (Inv.start w).cell, (Inv.start w).one, fun _ _ => False, ⟨fun _ _ => False, fun _ _ => False, ⟨fun _ _ h => h, hk.1⟩, ⟨fun _ _ => False, fun _ _ => False, ⟨fun _ _ h => h, hk.2⟩, fun _ _ h => h, fun b o => by simp, fun _ _ h => h.elim⟩, fun b o => by simp, fun _ _ h => h.elim⟩, fun _ _ h => h.elim⟩ hr).mono fun e w' ⟨v, ph', r, H', he, hle, hi, hv, hp⟩ => by
    have := hq _ _ hp
    subst this
    exact ⟨by rw [he, hv.rawE], hi.below⟩
end Go.L

set_option linter.unusedVariables false
set_option linter.unusedSimpArgs false
namespace Go.L
open Go.RowKit
/-- An owned block, from now on by its content: a cell elsewhere holds its slice. -/
theorem LW.freezeCell {P : Program} {n : NN} {env : List (Nat × LV)} {H : List Atom} {c : Code} {Q : Exit → LS → Prop} {b g : Nat} {te T : TypeId} {xs ys : List LV} {m cap size i : Nat} {es : List (List LV)} (hy : ys[i]? = some (.raw (.slice (some ⟨b, 0, none⟩) m cap))) (hs : ∀ e ∈ es, e.length = size) (hn : es.length = m) (hfit : m * size ≤ xs.length) (he : es.flatten = xs.take (m * size)) (hnc : m ≤ cap)
    (h : LW P c ⟨n, env, .cells g T (ys.set i (.sl size es .unk)) :: H⟩ Q) : LW P c ⟨n, env, .cells b te xs :: .cells g T ys :: H⟩ Q := fun w0 ph a w r Q' kk => by
  obtain ⟨cs, ph', hle, hi, hc, hsz, hp⟩ := r.inv.freeze
  have hrep := freeze_rep hc hp (off := 0) hs hn (by omega) (by rw [List.drop_zero]; exact he) hnc
  have hil := (List.getElem?_eq_some_iff.1 hy).1
  refine h w0 ph' a w ⟨?_, r.defers, r.size, r.tmps.mono hle⟩ Q' fun e ph2 st2 a2 w2 hle2 r2 q2 => kk e ph2 st2 a2 w2 (hle.trans hle2) r2 q2
  refine hi.turn (a' := .cells g T (ys.set i (.sl size es .unk))) (PH.le.refl _) fun G hG hn => ⟨Chg.refl _ _, G, ?_, fun _ _ h => .inl h, fun _ _ h => .inl h⟩
  obtain ⟨h1, vs, hh, hcr⟩ := hG
  refine ⟨h1, vs, hh, ⟨by rw [List.length_set]; exact hcr.1.1, fun j v x hv hx => ?_⟩, hcr.2⟩
  by_cases hji : i = j
  · subst hji
    rw [List.getElem?_set_self hil] at hx
    obtain rfl := Option.some.inj hx
    have := (hcr.1.2 i v _ hv hy).rawE
    rw [this]; exact hrep
  · rw [List.getElem?_set_ne hji] at hx
    exact hcr.1.2 j v x hv hx
/-- Three results, the first of which lies in a cell. -/
theorem Res.ct3 {P : Program} {a t u : Tmp} {ta : TypeId} {st : LS} {b off : Nat} {tb : TypeId} {xs : List LV} {size : Nat} {agg : Bool} {v r s s2 : LV} (k : Nat) (hk : st.heap[k]? = some (.cells b tb xs)) (ha : get st.env a = .raw (.pointer (some ⟨b, off, Option.none⟩))) (ht : Ty P ta size agg) (hv : Part size agg xs off v) (hr : Is v r) (hs : Is (get st.env t) s) (hs2 : Is (get st.env u) s2) : Res P #[.cell a ta, .tmp t, .tmp u] st (.tup [r, s, s2]) := fun w0 ph ac w fn h rl => by
  obtain ⟨F, hF, cs, hh, hc⟩ := rl.inv.atom_at hk
  have h1 := rl.tmps a
  rw [ha] at h1
  obtain ⟨z, hrun, hrep⟩ := creps_part (P := P) hc ht hv (w := w) (b := b) (fun i c hi => by rw [cell_of_row w b i cs tb (0, 0) hh]; exact hi)
  refine ⟨.tuple #[z, ac.tmps.getD t undef, ac.tmps.getD u undef], by
    have h2 := h1.rawE
    rw [Array.getD_eq_getD_getElem?] at h2
    simp [results, h, h2, asAddr, hrun], .tup _ _ rfl fun i c x h2 h3 => ?_⟩
  match i with
  | 0 => simp at h2 h3; subst h2; subst h3; exact hr _ _ hrep
  | 1 => simp at h2 h3; subst h2; subst h3; exact hs _ _ (by simpa using rl.tmps t)
  | 2 => simp at h2 h3; subst h2; subst h3; exact hs2 _ _ (by simpa using rl.tmps u)
  | k + 3 => simp at h2
end Go.L
