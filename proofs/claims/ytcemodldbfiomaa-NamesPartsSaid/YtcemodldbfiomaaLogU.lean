/- Ranges over functions: a call of yield, an iterator's contract, the statement. Plain theorems over any program. -/
import Derived.Test.YtcemodldbfiomaaLogT
import Derived.RangeFuncRecord
set_option linter.unusedVariables false
set_option linter.unusedSimpArgs false
namespace Go.L
open Go.RowKit
theorem Inv.putObj {w0 : Base} {ph : PH} {w : World} {H : List Atom} {g : Nat} {o : Obj} (h : Inv w0 ph w (.obj g o :: H)) (o' : Obj) : Inv w0 ph (w.putObj g o') (.obj g o' :: H) := by
  obtain ⟨F, hF, ho⟩ := h.atom
  have hlt : g < w.heap.size := lt_of_some ho
  exact h.turn (PH.le.refl _) fun G hG hn => ⟨Chg.blocks rfl rfl rfl (by simp) (fun b => b = g) (fun b hb o => (hG.1 b o).2 hb) (fun b _ hb => World.putObj_heap_other hb), G, ⟨hG.1, World.putObj_heap_same hlt⟩, fun b o hb => .inl hb, fun p u hp => .inl hp⟩
theorem Inv.newObj {w0 : Base} {ph : PH} {w : World} {H : List Atom} (h : Inv w0 ph w H) (o : Obj) : Inv w0 ph (w.alloc o) (.obj w.heap.size o :: H) :=
  h.new ((Below.refl _ _).alloc (Nat.le_refl _) _) (G := fun b _ => b = w.heap.size) ⟨fun _ _ => Iff.rfl, heap_new w o⟩ (fun b _ hb => by rw [hb]; exact Nat.le_refl _)
theorem Inv.obj_at {w0 : Base} {ph : PH} {w : World} {H : List Atom} {g : Nat} {o : Obj} (h : Inv w0 ph w (.obj g o :: H)) : w.heap[g]? = some o := by
  obtain ⟨F, hF, ho⟩ := h.atom
  exact ho
/-- A call of yield: what it gives and what is owned then. -/
def LYields (P : Program) (yv : Value) (args : List LV) (H : List Atom) (post : LV → List Atom → Prop) : Prop :=
  ∀ (R : List Atom) w0 ph w (vs : Array Value), Inv w0 ph w (H ++ R) → Reps ph vs args →
    ∃ l fn tmps assign body, yv = .func (.yield l) #[] #[] ∧ (Instr.yield l vs).run P w = .ok (.round l fn tmps assign body) w ∧
      RoundIn Fence.wide 0 P l fn tmps assign body w fun e w' => ∃ v ph' r H', e = .returned v ∧ PH.le ph ph' ∧ Inv w0 ph' w' (H' ++ R) ∧ Rep ph' v r ∧ post r H'
theorem LYields.mono {P : Program} {yv : Value} {args : List LV} {H : List Atom} {post post' : LV → List Atom → Prop} (h : LYields P yv args H post) (hp : ∀ r H', post r H' → post' r H') : LYields P yv args H post' := fun R w0 ph w vs i r => by
  obtain ⟨l, fn, tmps, as, bd, h1, h2, h3⟩ := h R w0 ph w vs i r
  exact ⟨l, fn, tmps, as, bd, h1, h2, h3.mono fun e w' ⟨v, ph', x, H', q1, q2, q3, q4, q5⟩ => ⟨v, ph', x, H', q1, q2, q3, q4, hp _ _ q5⟩⟩
section
variable {P : Program} {st : LS} {n : NN} {env : List (Nat × LV)} {H : List Atom} {K : LS → Prop} {ty : TypeId} {pos : String} {af : Array Edge} {g : Option (Nat × Bool)}
theorem LO.yield {t : Operand} {as : Array Operand} {ts : Array TypeId} {vs : List LV} {yv : Value} {Hc R : List Atom} {post : LV → List Atom → Prop} {d : Tmp} (hy : LYields P yv vs Hc post) (ht : Is (ev st.env t) (.raw yv)) (hd : Nat.blt d st.n.k = true) (hsub : HSub st.heap (Hc ++ R)) (ha : Opds st.env as.toList vs)
    (h : ∀ r H', post r H' → K ⟨st.n, (d, r) :: st.env, H' ++ R⟩) : LO P ⟨some d, .call { callee := .value t, args := as, argTypes := ts }, ty, pos, af, g⟩ st K := fun w0 ph a w r N Q k => by
  have hargs := ha.reps (a := a) (ph := ph) (fun x _ => r.tmps.eval x)
  have htv := (ht _ _ (r.tmps.eval t)).rawE
  obtain ⟨l, fn, tmps, asg, body, hyv, hrun0, hround⟩ := hy R w0 ph w (as.map a.eval) (hsub.app r.inv) (by rw [map_arr a.eval as]; exact hargs)
  have hrun : (execOp a.eval ⟨some d, .call { callee := .value t, args := as, argTypes := ts }, ty, pos, af, g⟩).run P w = .ok (.round l fn tmps asg body) w := by
    rw [hyv] at htv
    simp [execOp, resolve, htv, Deferred.ofValue, invoke, hrun0]
  unfold owp
  rw [hrun, Oper.uponIn_round]
  refine ⟨fun h => (by cases h), hround.mono ?_⟩
  rintro e w' ⟨v, ph', x, H', rfl, hle, hi, hx, hp⟩
  exact k ph' _ _ w' hle (r.put hle hi hd hx) (h x H' hp)
theorem X.yield {t : Operand} {as : Array Operand} {ts : Array TypeId} {vs : List LV} {yv : Value} {Hc R : List Atom} {post : LV → List Atom → Prop} {d : Tmp} (hy : LYields P yv vs Hc post) (ht : Is (ev env t) (.raw yv)) (hd : Nat.blt d n.k = true) (hsub : HSub H (Hc ++ R)) (ha : Opds env as.toList vs)
    (h : ∀ r H', post r H' → K ⟨n, (d, r) :: env, H' ++ R⟩) : LO P ⟨some d, .call { callee := .value t, args := as, argTypes := ts }, ty, pos, af, g⟩ ⟨n, env, H⟩ K := LO.yield (st := ⟨n, env, H⟩) hy ht hd hsub ha h
end
/-- An iterator: whoever takes, its items come one by one, till the taker says no more; of what it owned (Hi) Hi' is left. -/
def LIter (P : Program) (gf : FuncId) (caps : Array Value) (items : List (List LV)) (Hi Hi' : List Atom) : Prop :=
  ∀ (α β : Type) (F : α → List Atom) (G : β → List Atom) (φ : Nat → α → Prop) (ψ : β → Prop) (yv : Value),
    (∀ k p x, items[k]? = some x → φ k p → LYields P yv x (F p) (fun r H' => (∃ q, r = .raw (.bool true) ∧ φ (k + 1) q ∧ H' = F q) ∨ (∃ q, r = .raw (.bool false) ∧ ψ q ∧ H' = G q))) →
    ∀ p0, φ 0 p0 → LCalls P gf (.raw yv :: raws caps.toList) (Hi ++ F p0) (fun r H' => (∃ q, φ items.length q ∧ H' = Hi' ++ F q) ∨ (∃ q, ψ q ∧ H' = Hi' ++ G q))
/-- The slots at a round's beginning. -/
def setP : List Tmp → List LV → List (Nat × LV) → List (Nat × LV)
  | t :: ts, x :: xs, env => setP ts xs ((t, x) :: env)
  | _, _, env => env
theorem env_setP {ph : PH} : ∀ (ps : List Tmp) (vs : List Value) (xs : List LV) (env : List (Nat × LV)) (a : Act), (∀ t ∈ ps, t < a.tmps.size) → vs.length = xs.length → (∀ (i : Nat) v x, vs[i]? = some v → xs[i]? = some x → Rep ph v x) → Env ph env a →
    Env ph (setP ps xs env) ⟨(ps.zip vs).foldl (fun tmps (t, v) => tmps.setIfInBounds t v) a.tmps, a.defers⟩ ∧ ((ps.zip vs).foldl (fun tmps (t, v) => tmps.setIfInBounds t v) a.tmps).size = a.tmps.size
  | [], vs, xs, env, a, _, _, _, h => by cases xs <;> exact ⟨h, rfl⟩
  | t :: ps, [], [], env, a, _, _, _, h => ⟨h, rfl⟩
  | t :: ps, v :: vs, x :: xs, env, a, hp, hl, hr, h => by
    have h1 := (h.put (d := t) (hp t (by simp)) (hr 0 v x rfl rfl))
    have := env_setP ps vs xs ((t, x) :: env) (a.put (some t) v) (fun t' ht' => by rw [put_size]; exact hp t' (by simp [ht'])) (by simpa using hl) (fun i v' x' h1 h2 => hr (i + 1) v' x' h1 h2) h1
    rw [put_size] at this
    exact this
  | t :: ps, [], x :: xs, env, a, _, hl, _, h => by simp at hl
  | t :: ps, v :: vs, [], env, a, _, hl, _, h => by simp at hl
theorem Inv.since {w0 : Base} {ph : PH} {w : World} {H : List Atom} (h : Inv w0 ph w H) : Inv w0 ph w (.since ph :: H) := by
  obtain ⟨hb, hc, h1, F, hs, hF⟩ := h
  exact ⟨hb, hc, h1, F, ⟨fun _ _ => False, F, ⟨fun _ _ h => h, PH.le.refl _⟩, hs, fun b o => by simp, fun _ _ h => h.elim⟩, hF⟩
theorem Inv.since_at {w0 : Base} {ph p : PH} {w : World} {H : List Atom} (h : Inv w0 ph w (.since p :: H)) : PH.le p ph := by
  obtain ⟨F, hF, ho⟩ := h.atom
  exact ho
theorem HSub.prefix (A B : List Atom) : HSub (A ++ B) A := HSub.of fun ph w F h => by
  obtain ⟨F1, F2, h1, h2, h3, h4⟩ := Sep.split h
  exact ⟨F1, h1, fun b o h => (h3 b o).2 (.inl h)⟩
open Classical in
theorem perm_of {H K : List Atom} (h : ∀ x, H.count x = K.count x) : H.Perm K := List.perm_iff_count.2 h
/-- The mark that a loop over a function leaves among the deferred calls. -/
def markOf (D : Nat) : Deferred := { target := .collected D, args := #[] }
/-- What a round of such a loop must do. -/
abbrev RoundOk (P : Program) (k0 : Nat) (env : List (Nat × LV)) (ps : List Tmp) (assign body : Code) (items : List (List LV)) {α β : Type} (F : α → List Atom) (G : β → List Atom) (φ : Nat → α → Prop) (L : Code → β → Prop) : Prop :=
  ∀ (k : Nat) (p : α) (x : List LV), items[k]? = some x → φ k p → ∀ R', LW P assign ⟨⟨k0, [], false⟩, setP ps x env, F p ++ R'⟩ (after P [] (fun e s => e = .normal ∧ ∃ A env', s = ⟨⟨k0, [], false⟩, env', A ++ R'⟩ ∧ ∀ R'', LW P body ⟨⟨k0, [], false⟩, env', A ++ R''⟩ (after P [] (fun e s' =>
      match e with
      | .normal => ∃ q, φ (k + 1) q ∧ HSub s'.heap (F q ++ R'')
      | .ret => ∃ q, L .ret q ∧ HSub s'.heap (G q ++ R'')
      | .exit id => ∃ q, L (.exit id) q ∧ HSub s'.heap (G q ++ R'')
      | _ => False))))
theorem range_yields {P : Program} {env : List (Nat × LV)} {ps : Array Tmp} {assign body : Code} {items : List (List LV)} {α β : Type} {F : α → List Atom} {G : β → List Atom} {φ : Nat → α → Prop} {L : Code → β → Prop} {k0 : Nat} {ph : PH} {a : Act} {rec : Loop} {l : Nat}
    (round : RoundOk P k0 env ps.toList assign body items F G φ L) (hsize : a.tmps.size = k0) (htmps : Env ph env a) (hps' : ∀ t ∈ ps.toList, t < a.tmps.size) (hit : ∀ x ∈ items, x.length = ps.size)
    (hrf : rec.assign = assign ∧ rec.body = body ∧ rec.params = ps ∧ rec.tmps = a.tmps ∧ rec.state = .ready ∧ rec.pending = none) :
    ∀ k p x, items[k]? = some x → φ k p → LYields P (.func (.yield l) #[] #[]) x (.since ph :: .obj l (.loop rec) :: F p) (fun r H' => (∃ q, r = .raw (.bool true) ∧ φ (k + 1) q ∧ H' = .since ph :: .obj l (.loop rec) :: F q) ∨ (∃ q : Code × β, r = .raw (.bool false) ∧ L q.1 q.2 ∧ H' = .since ph :: .obj l (.loop { rec with state := .done, pending := some q.1 }) :: G q.2)) := by
  intro k p x hx hp R1 w2 ph1 w3 vs hi hr
  have hle1 := hi.since_at
  obtain ⟨rfl, rfl, rfl, h4, h5, h6⟩ := hrf
  have hlen : vs.size = rec.params.size := by rw [hr.1, hit x (List.mem_of_getElem? hx)]
  have hi3 : Inv w2 ph1 w3 (.obj l (.loop rec) :: (F p ++ (.since ph :: R1))) := (HSub.perm (perm_of fun x => (by simp only [List.count_append, List.count_cons]; omega))).app hi
  have hry := run_yield (P := P) (args := vs) hi3.obj_at hlen
  refine ⟨l, _, _, _, _, rfl, hry, ?_⟩
  refine roundIn_of_wpIn trivial ?_
  have hps2 := env_setP (ph := ph1) rec.params.toList vs.toList x env a hps' (by simpa using hr.1) (fun i v y h1 h2 => hr.2 i v y (by simpa using h1) h2) (htmps.mono hle1)
  have hzip : (rec.params.zip vs).foldl (fun tmps (x : Nat × Value) => match x with | (t, a) => tmps.setIfInBounds t a) rec.tmps = (rec.params.toList.zip vs.toList).foldl (fun tmps (t, v) => tmps.setIfInBounds t v) a.tmps := by
    rw [← Array.foldl_toList, Array.toList_zip, h4]
  rw [hzip]
  obtain ⟨T, hT⟩ : ∃ T, T = (rec.params.toList.zip vs.toList).foldl (fun tmps (t, v) => tmps.setIfInBounds t v) a.tmps := ⟨_, rfl⟩
  rw [← hT] at hps2 ⊢
  have hi4 : Inv ⟨w2.w, some l⟩ ph1 w3 (F p ++ (.obj l (.loop rec) :: .since ph :: R1)) := ((HSub.perm (perm_of fun x => (by simp only [List.count_append, List.count_cons]; omega))).app hi3).ro _
  refine round k p x hx hp (.obj l (.loop rec) :: .since ph :: R1) ⟨w2.w, some l⟩ ph1 ⟨T, []⟩ w3 ⟨hi4, ⟨rfl, fun h => by cases h⟩, hps2.2.trans hsize, fun d => hps2.1 d⟩ _ fun e ph2 st2 a2 w4 hle2 r2 q2 => ?_
  obtain ⟨he, A, env', hst, hbody⟩ := q2
  subst he
  subst hst
  have hi5 : Inv ⟨w2.w, some l⟩ ph2 w4 (.obj l (.loop rec) :: (A ++ (.since ph :: R1))) := (HSub.perm (perm_of fun x => (by simp only [List.count_append, List.count_cons]; omega))).app r2.inv
  refine ⟨_, run_beginRound hi5.obj_at h5, ?_⟩
  have hi6 : Inv ⟨w2.w, some l⟩ ph2 (w4.putObj l (.loop { rec with state := .busy })) (A ++ (.obj l (.loop { rec with state := .busy }) :: .since ph :: R1)) := (HSub.perm (perm_of fun x => (by simp only [List.count_append, List.count_cons]; omega))).app (hi5.putObj _)
  refine hbody (.obj l (.loop { rec with state := .busy }) :: .since ph :: R1) ⟨w2.w, some l⟩ ph2 a2 _ ⟨hi6, r2.defers, r2.size, r2.tmps⟩ _ fun e ph3 st3 a3 w5 hle3 r3 q3 => ?_
  have fin : ∀ (H' : List Atom) (j : Option Code), HSub st3.heap (H' ++ (.obj l (.loop { rec with state := .busy }) :: .since ph :: R1)) → ∃ w6, (Instr.endRound l j).run P w5 = .ok (.bool j.isNone) w6 ∧ Inv w2 ph3 w6 ((.since ph :: .obj l (.loop { rec with state := if j.isNone then .ready else .done, pending := j }) :: H') ++ R1) := fun H' j hh => by
    have hi7 : Inv ⟨w2.w, some l⟩ ph3 w5 (.obj l (.loop { rec with state := .busy }) :: (H' ++ (.since ph :: R1))) := (HSub.perm (perm_of fun x => (by simp only [List.count_append, List.count_cons]; omega))).app (hh.app r3.inv)
    exact ⟨_, run_endRound j hi7.obj_at, ((HSub.perm (perm_of fun x => (by simp only [List.count_append, List.count_cons]; omega))).app (hi7.putObj _)).ro'⟩
  cases e with
  | normal =>
    obtain ⟨q, hq, hh⟩ := q3
    obtain ⟨w6, h1, h2⟩ := fin _ none hh
    have hrr : ({ rec with state := .ready, pending := none } : Loop) = rec := by rw [← h5, ← h6]
    simp only [Option.isNone_none, if_true, hrr] at h1 h2
    exact ⟨_, w6, h1, _, ph3, .raw (.bool true), _, rfl, (hle2.trans hle3), h2, .raw _, .inl ⟨q, rfl, hq, rfl⟩⟩
  | ret =>
    obtain ⟨q, hq, hh⟩ := q3
    obtain ⟨w6, h1, h2⟩ := fin _ (some .ret) hh
    exact ⟨_, w6, h1, _, ph3, .raw (.bool false), .since ph :: .obj l (.loop { rec with state := .done, pending := some .ret }) :: G q, rfl, (hle2.trans hle3), h2, .raw _, .inr ⟨(.ret, q), rfl, hq, rfl⟩⟩
  | exit id =>
    obtain ⟨q, hq, hh⟩ := q3
    obtain ⟨w6, h1, h2⟩ := fin _ (some (.exit id)) hh
    exact ⟨_, w6, h1, _, ph3, .raw (.bool false), .since ph :: .obj l (.loop { rec with state := .done, pending := some (.exit id) }) :: G q, rfl, (hle2.trans hle3), h2, .raw _, .inr ⟨(.exit id, q), rfl, hq, rfl⟩⟩
  | goto i => exact (show False from q3).elim
  | panic c => exact (show False from q3).elim
  | outgrown => exact (show False from q3).elim
set_option maxHeartbeats 1000000 in
/-- for .. := range g { .. } -/
theorem LW.range {P : Program} {st : LS} {Q : Exit → LS → Prop} {gop : Operand} {ps : Array Tmp} {assign body : Code} {gf : FuncId} {fn : Func} {caps : Array Value} {items : List (List LV)} {Hi Hi' R : List Atom}
    (hg : Is (ev st.env gop) (.raw (.func (.func gf) #[] caps))) (htop : st.n.top = true) (hf : P.funcs[gf]? = some fn) (hname : (fn.name == "runtime.NumGoroutine") = false) (hb : fn.body.isSome = true) (it : LIter P gf caps items Hi Hi')
    (hps : (ps.toList.all fun t => Nat.blt t st.n.k) = true) (hit : ∀ x ∈ items, x.length = ps.size)
    {α β : Type} (F : α → List Atom) (G : β → List Atom) (φ : Nat → α → Prop) (L : Code → β → Prop) (p0 : α) (h0 : φ 0 p0) (hsub : HSub st.heap (Hi ++ (F p0 ++ R)))
    (round : RoundOk P st.n.k st.env ps.toList assign body items F G φ L)
    (done : ∀ D q, φ items.length q → Q .normal ⟨⟨st.n.k, markOf D :: st.n.df, true⟩, st.env, Hi' ++ (F q ++ (.obj D (.deferred (some [])) :: R))⟩)
    (left : ∀ D c q, L c q → LW P c ⟨⟨st.n.k, markOf D :: st.n.df, true⟩, st.env, Hi' ++ (G q ++ (.obj D (.deferred (some [])) :: R))⟩ Q) : LW P (.rangeFunc gop ps assign body) st Q := fun w0 ph a w r Q' kk => by
  have hro : w0.ro = none := r.defers.2 htop
  have hgv := (hg _ _ (r.tmps.eval gop)).rawE
  have hps' : ∀ t ∈ ps.toList, t < a.tmps.size := fun t ht => by
    have := List.all_eq_true.1 hps t ht
    rw [r.size]
    exact Nat.le_of_ble_eq_true this
  rw [hro]
  refine wpIn_rangeFunc fun fid _ => ?_
  obtain ⟨rec, hrec⟩ : ∃ rec : Loop, rec = { state := .ready, pending := none, fn := fid, tmps := a.tmps, params := ps, assign, body, defers := w.heap.size } := ⟨_, rfl⟩
  obtain ⟨l, hl⟩ : ∃ l, l = w.heap.size + 1 := ⟨_, rfl⟩
  obtain ⟨D, hD⟩ : ∃ D, D = w.heap.size := ⟨_, rfl⟩
  obtain ⟨w1, hw1⟩ : ∃ w1, w1 = (w.alloc (.deferred (some []))).alloc (.loop rec) := ⟨_, rfl⟩
  have hent : (Instr.enterLoop fid a.tmps ps assign body none).run P w = .ok (l, [markOf D]) w1 := by rw [hl, hD, hw1, hrec]; exact run_enterLoop_outer _ _ _ _ _
  have hcv : a.eval (.const (.func (.yield l) #[] #[])) = .func (.yield l) #[] #[] := rfl
  have hres : (resolve a.eval (rangeCall gop l) 0).run P w1 = .ok { target := .fn (.func gf) caps, args := #[.func (.yield l) #[] #[]] } w1 := by simp [resolve, hgv, Deferred.ofValue, hcv]
  have hinv : (invoke (.fn (.func gf) caps) #[.func (.yield l) #[] #[]]).run P w1 = .ok (.enter gf (#[.func (.yield l) #[] #[]] ++ caps)) w1 := by simp [invoke, enters hf hname hb]
  refine ⟨l, [markOf D], w1, _, w1, gf, _, w1, hent, hres, fun _ _ => trivial, hinv, fun h => (by cases h), ?_⟩
  have hi1 := ((hsub.app r.inv).newObj (.deferred (some []))).newObj (.loop rec)
  rw [show (w.alloc (.deferred (some []))).heap.size = l by rw [hl]; simp, ← hD, ← hw1] at hi1
  have hi2 : Inv w0 ph w1 ((Hi ++ (.since ph :: .obj l (.loop rec) :: F p0)) ++ (.obj D (.deferred (some [])) :: R)) :=
    (HSub.perm (perm_of fun x => (by simp only [List.count_append, List.count_cons]; omega))).app hi1.since
  have hyl := range_yields (ph := ph) (l := l) (rec := rec) round r.size r.tmps hps' hit (by rw [hrec]; exact ⟨rfl, rfl, rfl, rfl, rfl, rfl⟩)
  have hdf : [markOf D] ++ a.defers = markOf D :: st.n.df := by rw [r.defers.1]; rfl
  have hcall := it α (Code × β) (fun p => .since ph :: .obj l (.loop rec) :: F p) (fun q => .since ph :: .obj l (.loop { rec with state := .done, pending := some q.1 }) :: G q.2) φ (fun q => L q.1 q.2) (.func (.yield l) #[] #[]) hyl p0 h0
  have hrp : Reps ph (#[.func (.yield l) #[] #[]] ++ caps) (.raw (.func (.yield l) #[] #[]) :: raws caps.toList) := Reps.append (reps_cons (.raw _) reps_nil) (reps_raws caps)
  refine callsIn_wide.2 ((hcall (.obj D (.deferred (some [])) :: R) w0 ph w1 _ hi2 hrp).mono ?_)
  rintro e w2 ⟨v, ph2, x, H', rfl, hle2, hi, hx, hp⟩
  rcases hp with ⟨q, hq, rfl⟩ | ⟨⟨c, q⟩, hq, rfl⟩
  · have hi3 : Inv w0 ph2 w2 (.obj l (.loop rec) :: (Hi' ++ (F q ++ (.obj D (.deferred (some [])) :: R)) ++ [.since ph])) := (HSub.perm (perm_of fun x => (by simp only [List.count_append, List.count_cons, List.count_nil]; omega))).app hi
    have hpn : rec.pending = none := by rw [hrec]
    refine ⟨rec.pending, _, run_endLoop (P := P) hi3.obj_at (by rw [hrec]; simp), ?_⟩
    have hi4 := hi3.putObj (.loop { rec with state := .exhausted })
    rw [hpn] at hi4 ⊢
    refine kk .normal ph2 ⟨⟨st.n.k, markOf D :: st.n.df, true⟩, st.env, Hi' ++ (F q ++ (.obj D (.deferred (some [])) :: R))⟩ ⟨a.tmps, [markOf D] ++ a.defers⟩ _ hle2 ⟨?_, ⟨hdf, fun _ => hro⟩, r.size, r.tmps.mono hle2⟩ (done D q hq)
    exact ((HSub.drop (HSub.refl _)).trans (HSub.prefix _ _)).app hi4
  · have hi3 : Inv w0 ph2 w2 (.obj l (.loop { rec with state := .done, pending := some c }) :: (Hi' ++ (G q ++ (.obj D (.deferred (some [])) :: R)) ++ [.since ph])) := (HSub.perm (perm_of fun x => (by simp only [List.count_append, List.count_cons, List.count_nil]; omega))).app hi
    refine ⟨some c, _, run_endLoop (P := P) hi3.obj_at (by simp), ?_⟩
    have hi4 := hi3.putObj (.loop { { rec with state := .done, pending := some c } with state := .exhausted })
    have := left D c q hq w0 ph2 { a with defers := [markOf D] ++ a.defers } _ ⟨((HSub.drop (HSub.refl _)).trans (HSub.prefix _ _)).app hi4, ⟨hdf, fun _ => hro⟩, r.size, r.tmps.mono hle2⟩ Q' (fun e ph3 st3 a3 w3 hle3 r3 q3 => kk e ph3 st3 a3 w3 (hle2.trans hle3) r3 q3)
    rw [hro] at this
    exact this
theorem X.range {P : Program} {k0 : Nat} {df : List Deferred} {env : List (Nat × LV)} {H : List Atom} {Q : Exit → LS → Prop} {t : List It} {gop : Operand} {ps : Array Tmp} {assign body : Code} {gf : FuncId} {fn : Func} {caps : Array Value} {items : List (List LV)} {Hi Hi' R : List Atom}
    (hg : Is (ev env gop) (.raw (.func (.func gf) #[] caps))) (hf : P.funcs[gf]? = some fn) (hname : (fn.name == "runtime.NumGoroutine") = false) (hb : fn.body.isSome = true) (it : LIter P gf caps items Hi Hi')
    (hps : (ps.toList.all fun t => Nat.blt t k0) = true) (hit : ∀ x ∈ items, x.length = ps.size)
    {α β : Type} (F : α → List Atom) (G : β → List Atom) (φ : Nat → α → Prop) (L : Code → β → Prop) (p0 : α) (h0 : φ 0 p0) (hsub : HSub H (Hi ++ (F p0 ++ R)))
    (round : RoundOk P k0 env ps.toList assign body items F G φ L)
    (done : ∀ D q, φ items.length q → after P t Q .normal ⟨⟨k0, markOf D :: df, true⟩, env, Hi' ++ (F q ++ (.obj D (.deferred (some [])) :: R))⟩)
    (left : ∀ D c q, L c q → LW P c ⟨⟨k0, markOf D :: df, true⟩, env, Hi' ++ (G q ++ (.obj D (.deferred (some [])) :: R))⟩ (after P t Q)) : LW P (.rangeFunc gop ps assign body) ⟨⟨k0, df, true⟩, env, H⟩ (after P t Q) :=
  LW.range (st := ⟨⟨k0, df, true⟩, env, H⟩) hg rfl hf hname hb it hps hit F G φ L p0 h0 hsub round done left
theorem Leaves.mark {P : Program} {rs : Array ResultVar} {R H' : List Atom} {post : LV → List Atom → Prop} {s : LS} {r : LV} {D : Nat} (k : Nat) (hk : s.heap[k]? = some (.obj D (.deferred (some [])))) (hd : s.n.df = [markOf D]) (hr : Res P rs ⟨s.n, s.env, s.heap.eraseIdx k⟩ r) (hh : HSub (s.heap.eraseIdx k) (H' ++ R)) (hp : post r H') : Leaves P rs R post s := fun w0 ph a w fn hfn rl => by
  rw [rl.defers.1, hd]
  have hi := rl.inv.front k
  unfold L.front at hi
  rw [hk] at hi
  have hi2 := (HSub.drop (HSub.refl _)).app (hi.putObj (.deferred none))
  obtain ⟨v, hrun, hrep⟩ := hr w0 ph a _ fn hfn ⟨hi2, rl.defers, rl.size, rl.tmps⟩
  exact ⟨by simp, .inl ⟨D, _, rfl, run_takeDeferred hi.obj_at, v, hrun, v, ph, r, H', rfl, PH.le.refl _, hh.app hi2, hrep, hp⟩⟩
theorem X.retM {P : Program} {n : NN} {env : List (Nat × LV)} {H : List Atom} {rs : Array ResultVar} {R H' : List Atom} {post : LV → List Atom → Prop} {r : LV} {D : Nat} (k : Nat) (hk : H[k]? = some (.obj D (.deferred (some [])))) (hr : Res P rs ⟨n, env, H.eraseIdx k⟩ r) (hh : HSub (H.eraseIdx k) (H' ++ R)) (hp : post r H') (hd : n.df = [markOf D] := by rfl) : Ends P rs R post .ret ⟨n, env, H⟩ := ⟨.inr rfl, .mark (s := ⟨n, env, H⟩) k hk hd hr hh hp⟩
theorem X.normalM {P : Program} {n : NN} {env : List (Nat × LV)} {H : List Atom} {rs : Array ResultVar} {R H' : List Atom} {post : LV → List Atom → Prop} {r : LV} {D : Nat} (k : Nat) (hk : H[k]? = some (.obj D (.deferred (some [])))) (hr : Res P rs ⟨n, env, H.eraseIdx k⟩ r) (hh : HSub (H.eraseIdx k) (H' ++ R)) (hp : post r H') (hd : n.df = [markOf D] := by rfl) : Ends P rs R post .normal ⟨n, env, H⟩ := ⟨.inl rfl, .mark (s := ⟨n, env, H⟩) k hk hd hr hh hp⟩
theorem hsub_swap1 (a : Atom) (A R : List Atom) : HSub (a :: (A ++ R)) (A ++ (a :: R)) := HSub.perm List.perm_middle.symm
theorem hsub_back1 (a : Atom) (A R : List Atom) : HSub (A ++ (a :: R)) (a :: (A ++ R)) := HSub.perm List.perm_middle
theorem hsub_swap2 (a b : Atom) (A R : List Atom) : HSub (a :: b :: (A ++ R)) (A ++ (a :: b :: R)) := HSub.perm (perm_of fun x => (by simp only [List.count_append, List.count_cons]; omega))
theorem hsub_back2 (a b : Atom) (A R : List Atom) : HSub (A ++ (a :: b :: R)) (a :: b :: (A ++ R)) := HSub.perm (perm_of fun x => (by simp only [List.count_append, List.count_cons]; omega))
end Go.L
