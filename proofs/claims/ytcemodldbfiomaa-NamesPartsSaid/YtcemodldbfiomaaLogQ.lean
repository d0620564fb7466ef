/- Slices whose cells are owned: made by an append, read by a call, the source of an append. Plain theorems over any program. -/
import Derived.Test.YtcemodldbfiomaaLogP
set_option linter.unusedVariables false
set_option linter.unusedSimpArgs false
namespace Go.L
open Go.RowKit
section
variable {P : Program} {st : LS} {env : List (Nat × LV)} {H : List Atom} {K : LS → Prop} {ty : TypeId} {pos : String} {af : Array Edge} {g : Option (Nat × Bool)}
theorem append_owns {A0 : List Atom} {w0 : Base} {ph : PH} {w : World} (hA0 : ∀ a ∈ A0, a ∈ H) (hinv : Inv w0 ph w H) {t tx ty' e : TypeId} {z : Value} {size by_ : Nat} (ht : P.underlying t = some (.slice e)) (hel : El P e z size by_) (hz1 : ∀ (i : Nat) (c : Value), z.cells[i]? = some c → c.oneCell' = true) {ad : Addr} {ys : List (List LV)} {x : Value} {y : LV}
    (hs : SrcG P A0 tx size y ys) (ry : Rep ph x y) (hg : 0 < ys.length) (hb : ys.length * by_ ≤ 140737488355328) (hb0 : ys.length ≤ 9223372036854775807) :
    ∃ c' w' rest, (Builtin.append_ #[t, tx] ty' #[.slice (some ad) 0 0, x]).run P w = .ok (.slice (some ⟨w.heap.size, 0, none⟩) ys.length c') w' ∧ ys.length ≤ c' ∧ rest.length = (c' - ys.length) * size ∧ Inv w0 ph w' (.cells w.heap.size e (ys.flatten ++ raws rest) :: H) := by
  obtain ⟨⟨i, hi, hz, hsz, hby⟩, hzs, hs0⟩ := hel
  obtain ⟨news, hsrc, hnc⟩ := hs.2 w0 ph w H x hA0 hinv ry
  have hnl : news.length = ys.length * size := hsrc.newsLen
  have hold : (Builtin.firstCells i.size 0 (.slice (some ad) 0 0)).run P w.drew = .ok ([] : List Value).toArray w.drew := run_firstCells_some _ _ _ _ _ _ _ (by simp) (fun j v h => by simp at h)
  have hrun := run_append_grow_src (P := P) w t tx ty' e i z ht hi hz (some ad) 0 0 [] hold x ys.length news (hsz ▸ hsrc) (by omega) (by omega) (by rw [hby]; exact growslice_fits (by omega) (by rw [Nat.zero_add]; exact hb))
  rw [Nat.zero_add] at hrun
  have hge := grownCap_ge w ys.length 0 e
  refine ⟨_, _, (Builtin.zeroCells z.cells (grownCap w ys.length 0 e - ys.length)).toList, hrun, hge, by simp [size_zeros, hzs], ?_⟩
  have hb' : Below w.heap.size w w.drew := Below.drew (Below.refl _ _)
  have hinv2 := hinv.step hb'
  have := hinv2.block e (cs := (([] ++ news).toArray ++ Builtin.zeroCells z.cells (grownCap w ys.length 0 e - ys.length))) (xs := ys.flatten ++ raws (Builtin.zeroCells z.cells (grownCap w ys.length 0 e - ys.length)).toList) (by
    have h1 : CReps ph (Builtin.zeroCells z.cells (grownCap w ys.length 0 e - ys.length)).toList.toArray (raws (Builtin.zeroCells z.cells (grownCap w ys.length 0 e - ys.length)).toList) := by
      rw [Array.toArray_toList]
      refine raws_creps fun j c hc => ?_
      unfold Builtin.zeroCells at hc
      simp only [Array.getElem?_map, Option.map_eq_some_iff] at hc
      obtain ⟨q, _, rfl⟩ := hc
      have hlt : q % z.cells.size < z.cells.size := Nat.mod_lt _ (by omega)
      refine hz1 (q % z.cells.size) _ ?_
      rw [Array.getElem?_eq_getElem hlt, getElem!_pos z.cells _ hlt]
    have := creps_append (as := news) hnc h1
    rwa [show (news ++ (Builtin.zeroCells z.cells (grownCap w ys.length 0 e - ys.length)).toList).toArray = ([] ++ news).toArray ++ Builtin.zeroCells z.cells (grownCap w ys.length 0 e - ys.length) by simp] at this)
  exact this
/-- append([]T{}, x..) whose row is owned. -/
theorem LO.appendO {A0 : List Atom} (hA0 : ∀ a ∈ A0, a ∈ st.heap) {s x : Operand} {t tx e e' : TypeId} {z : Value} {size by_ : Nat} {ys : List (List LV)} {y : LV} {d : Tmp} {b0 : Nat} (k : Nat) (hk : st.heap[k]? = some (.cells b0 e [])) (hd : Nat.blt d st.n.k = true) (ht : P.underlying t = some (.slice e)) (hel : El P e z size by_) (hz1 : ∀ (i : Nat) (c : Value), z.cells[i]? = some c → c.oneCell' = true)
    (hs : Is (ev st.env s) (.raw (.slice (some ⟨b0, 0, none⟩) 0 0))) (hx : Is (ev st.env x) y) (hy : SrcG P A0 tx size y ys) (hb : ys.length * by_ ≤ 140737488355328) (hb0 : ys.length ≤ 9223372036854775807)
    (h : ∀ b c rest, ys.length ≤ c → rest.length = (c - ys.length) * size → K ⟨st.n, (d, .raw (.slice (some ⟨b, 0, none⟩) ys.length c)) :: st.env, .cells b e (ys.flatten ++ raws rest) :: st.heap.eraseIdx k⟩) :
    LO P ⟨some d, .call { callee := .builtin .append, args := #[s, x], argTypes := #[t, tx] }, ty, pos, af, g⟩ st K := .of_run hd fun w0 ph a w rl => by
  have h1 := (hs _ _ (rl.tmps.eval s)).rawE
  have ry := hx _ _ (rl.tmps.eval x)
  have hinv := rl.inv.front k
  have hrun : ∀ v w', (Builtin.append_ #[t, tx] ty #[.slice (some ⟨b0, 0, none⟩) 0 0, a.eval x]).run P w = .ok v w' → (execOp a.eval ⟨some d, .call { callee := .builtin .append, args := #[s, x], argTypes := #[t, tx] }, ty, pos, af, g⟩).run P w = .ok (.value v) w' := fun v w' h => by
    simp [execOp, resolve, invoke, builtin, h1, h]
  unfold L.front at hinv
  rw [hk] at hinv
  by_cases h0 : ys.length = 0
  · obtain rfl := List.eq_nil_of_length_eq_zero h0
    exact ⟨_, _, w, ph, _, hrun _ _ (append_nothing hA0 rl.inv ht hel (Nat.le_refl _) hy ry), PH.le.refl _, by simpa [raws] using hinv, .raw _, by simpa [raws] using h b0 0 [] (Nat.le_refl _) (by simp)⟩
  · obtain ⟨c', w', rest, h2, h3, h4, h5⟩ := append_owns (ty' := ty) (ad := ⟨b0, 0, none⟩) hA0 rl.inv ht hel hz1 hy ry (by omega) hb hb0
    refine ⟨_, _, w', ph, _, hrun _ _ h2, PH.le.refl _, ?_, .raw _, h _ _ _ h3 h4⟩
    have h6 := h5.front (k + 1)
    unfold L.front at h6
    rw [List.getElem?_cons_succ, hk] at h6
    exact (HSub.drop (HSub.refl _)).app h6
/-! ### what is owned, lent to a call that acts on nothing -/
def IsL (H : List Atom) (x y : LV) : Prop := ∀ w0 ph w u, Inv w0 ph w H → Rep ph u x → Rep (PH.all w) u y
theorem le_all {w0 : Base} {ph : PH} {w : World} (h : Inv w0 ph w H) : PH.le ph (PH.all w) := fun a u hu => PH.all_some.2 ⟨h.cell a u hu, h.one a u hu⟩
theorem IsL.of {x y : LV} (h : Is x y) : IsL H x y := fun w0 ph w u hi r => (h ph u r).mono (le_all hi)
theorem IsL.rfl' {x : LV} : IsL H x x := IsL.of Is.rfl'
theorem IsL.cells {x : LV} {b off n c size : Nat} {te : TypeId} {xs : List LV} {es : List (List LV)} (k : Nat) (hk : H[k]? = some (.cells b te xs)) (hx : Is x (.raw (.slice (some ⟨b, off, none⟩) n c))) (hs : ∀ e ∈ es, e.length = size) (hn : es.length = n) (hfit : off + n * size ≤ xs.length) (he : es.flatten = (xs.drop off).take (n * size)) (hnc : n ≤ c) : IsL H x (.sl size es .unk) := fun w0 ph w u hi r => by
  rw [(hx ph u r).rawE]
  obtain ⟨F, hF, cs, hh, hc⟩ := hi.atom_at hk
  exact freeze_rep (hc.mono (le_all hi)) (fun i h => PH.all_some.2 ⟨by rw [cell_of_row w b i cs te _ hh]; simp [h], hc.2 i _ (Array.getElem?_eq_getElem h)⟩ |>.trans (by simp [h])) hs hn hfit he hnc
def OpdsL (H : List Atom) (env : List (Nat × LV)) : List Operand → List LV → Prop
  | [], [] => True
  | x :: xs, v :: vs => IsL H (ev env x) v ∧ OpdsL H env xs vs
  | _, _ => False
theorem OpdsL.nil : OpdsL H env [] [] := trivial
theorem OpdsL.cons {x : Operand} {v : LV} {xs : List Operand} {vs : List LV} (h : IsL H (ev env x) v) (k : OpdsL H env xs vs) : OpdsL H env (x :: xs) (v :: vs) := ⟨h, k⟩
theorem OpdsL.reps {w0 : Base} {ph : PH} {w : World} (hi : Inv w0 ph w H) {a : Act} : ∀ {xs : List Operand} {vs : List LV}, OpdsL H env xs vs → (∀ x ∈ xs, Rep ph (a.eval x) (ev env x)) → Reps (PH.all w) (xs.map a.eval).toArray vs
  | [], [], _, _ => ⟨rfl, by simp⟩
  | x :: xs, v :: vs, h, hr => reps_cons (h.1 _ _ _ _ hi (hr x (by simp))) (OpdsL.reps hi h.2 fun y hy => hr y (by simp [hy]))
  | [], _ :: _, h, _ => h.elim
  | _ :: _, [], h, _ => h.elim
theorem LU.lend {f : FuncId} {fn : Func} {as : Array Operand} {ts : Array TypeId} {vs : List LV} {v : Value} {d : Option Tmp} (hc : LCalls P f vs [] (fun r H' => r = .raw v ∧ H' = [])) (hf : P.funcs[f]? = some fn) (hname : (fn.name == "runtime.NumGoroutine") = false) (hb : fn.body.isSome = true) (ha : OpdsL H env as.toList vs) :
    LU P env H ⟨d, .call { callee := .value (.func f), args := as, argTypes := ts }, ty, pos, af, g⟩ (.raw v) := fun w0 ph ac w hi hl N Q kk => by
  have hargs := ha.reps hi (a := ac) (fun x hx => hl x (by simp only [Op.operands, Call.operands]; exact Array.mem_append.2 (.inr (by simpa using hx))))
  have hrun : (execOp ac.eval ⟨d, .call { callee := .value (.func f), args := as, argTypes := ts }, ty, pos, af, g⟩).run P w = .ok (.enter f (as.map ac.eval)) w := by
    simp [execOp, resolve, Deferred.ofValue, invoke, Act.eval, enters hf hname hb]
  unfold owp
  rw [hrun]
  refine upon_enter ?_
  refine ((hc.mono fun r H' h => h.1).run (w := w) (vs := as.map ac.eval) (by rw [map_arr ac.eval as]; exact hargs)).mono ?_
  rintro e w' ⟨rfl, hbel⟩
  exact kk ph _ w' (PH.le.refl _) (hi.step hbel) (.raw _)
/-- Owned cells, the source of an append. -/
theorem SrcG.cells {tx e : TypeId} {b off n c size : Nat} {te : TypeId} {xs : List LV} {ys : List (List LV)} (ht : P.underlying tx = some (.slice e)) (hs0 : 0 < size) (hys : ∀ e ∈ ys, e.length = size) (hn : ys.length = n) (hfit : off + n * size ≤ xs.length) (he : ys.flatten = (xs.drop off).take (n * size)) (hnc : n ≤ c) : SrcG P [.cells b te xs] tx size (.raw (.slice (some ⟨b, off, none⟩) n c)) ys := ⟨hys, fun w0 ph w H u hA hi r => by
  rw [r.rawE]
  obtain ⟨k, hk⟩ := List.getElem?_of_mem (hA (.cells b te xs) (by simp))
  obtain ⟨F, hF, cs, hh, hc⟩ := hi.atom_at hk
  have hsz : cs.size = xs.length := hc.1.1
  have hm : ∀ j, j < n * size → ((cs.toList.drop off).take (n * size))[j]? = cs[off + j]? := fun j hj => by
    rw [List.getElem?_take_of_lt hj, List.getElem?_drop, Array.getElem?_toList]
  have hnl : ((cs.toList.drop off).take (n * size)).length = n * size := by simp; omega
  refine ⟨(cs.toList.drop off).take (n * size), ?_, ⟨by rw [he]; simp; omega, fun j u x hu hx => ?_⟩, fun j u hu => ?_⟩
  · rw [hn]
    refine Src.ofSlice w ht ⟨b, off, none⟩ n c _ hnl (fun j u hu => ?_) (fun u hu => ?_)
    · have hj : j < n * size := by have := (List.getElem?_eq_some_iff.1 hu).1; omega
      rw [hm j hj] at hu
      rw [add_lit, cell_of_row w b (off + j) cs te _ hh]; exact hu
    · obtain ⟨j, hu⟩ := List.getElem?_of_mem hu
      have hj : j < n * size := by have := (List.getElem?_eq_some_iff.1 hu).1; omega
      rw [hm j hj] at hu
      exact hc.2 _ _ hu
  · have hj : j < n * size := by have := (Array.getElem?_eq_some_iff.1 hu).1; simp at this; omega
    rw [List.getElem?_toArray, hm j hj] at hu
    rw [he, List.getElem?_take_of_lt hj, List.getElem?_drop] at hx
    exact hc.1.2 _ _ _ hu hx
  · have hj : j < n * size := by have := (Array.getElem?_eq_some_iff.1 hu).1; simp at this; omega
    rw [List.getElem?_toArray, hm j hj] at hu
    exact hc.2 _ _ hu⟩
theorem X.appendO {A0 : List Atom} {nn : NN} {s x : Operand} {t tx e : TypeId} {z : Value} {size by_ : Nat} {ys : List (List LV)} {y : LV} {d : Tmp} {b0 : Nat} (k : Nat) (hk : H[k]? = some (.cells b0 e [])) (hd : Nat.blt d nn.k = true) (ht : P.underlying t = some (.slice e)) (hel : El P e z size by_) (hz1 : ∀ (i : Nat) (c : Value), z.cells[i]? = some c → c.oneCell' = true)
    (hs : Is (ev env s) (.raw (.slice (some ⟨b0, 0, none⟩) 0 0))) (hx : Is (ev env x) y) (hA0 : ∀ a ∈ A0, a ∈ H) (hy : SrcG P A0 tx size y ys) (hb : ys.length * by_ ≤ 140737488355328) (hb0 : ys.length ≤ 9223372036854775807)
    (h : ∀ b c rest, ys.length ≤ c → rest.length = (c - ys.length) * size → K ⟨nn, (d, .raw (.slice (some ⟨b, 0, none⟩) ys.length c)) :: env, .cells b e (ys.flatten ++ raws rest) :: H.eraseIdx k⟩) :
    LO P ⟨some d, .call { callee := .builtin .append, args := #[s, x], argTypes := #[t, tx] }, ty, pos, af, g⟩ ⟨nn, env, H⟩ K := LO.appendO (st := ⟨nn, env, H⟩) (e' := e) hA0 k hk hd ht hel hz1 hs hx hy hb hb0 h
theorem X.appendG {A0 : List Atom} {nn : NN} {s x : Operand} {t tx e : TypeId} {z : Value} {size by_ : Nat} {es ys : List (List LV)} {y : LV} {d : Tmp} {b o c : Nat} (k : Nat) (hk : H[k]? = some (.tail b o c)) (hd : Nat.blt d nn.k = true) (ht : P.underlying t = some (.slice e)) (hel : El P e z size by_) (hs : Is (ev env s) (.sl size es (.tok b o c))) (hx : Is (ev env x) y) (hA0 : ∀ a ∈ A0, a ∈ H) (hy : SrcG P A0 tx size y ys) (hb : (es.length + ys.length) * by_ ≤ 140737488355328) (hb0 : es.length + ys.length ≤ 9223372036854775807)
    (h : ∀ b' o' c', K ⟨nn, (d, .sl size (es ++ ys) (.tok b' o' c')) :: env, .tail b' o' c' :: H.eraseIdx k⟩) :
    LO P ⟨some d, .call { callee := .builtin .append, args := #[s, x], argTypes := #[t, tx] }, ty, pos, af, g⟩ ⟨nn, env, H⟩ K := LO.appendG (st := ⟨nn, env, H⟩) hA0 k hk hd ht hel hs hx hy hb hb0 h
/-- Owned bytes, as bytes. -/
theorem IsL.bytes {x : LV} {b c : Nat} {te : TypeId} {l : List UInt8} {rest : List LV} {n : Nat} (k : Nat) (hk : H[k]? = some (.cells b te ((l.map fun b => LV.raw (.int .u8 b.toNat)) ++ rest))) (hx : Is x (.raw (.slice (some ⟨b, 0, none⟩) n c))) (hn : l.length = n) (hnc : n ≤ c) : IsL H x (Bytes l .unk) :=
  IsL.cells k hk hx (byteEls_size l) (by simpa [byteEls] using hn) (by simp; omega) (by rw [byteEls_flat, List.drop_zero, Nat.mul_one, ← hn]; simp) hnc
end
end Go.L
