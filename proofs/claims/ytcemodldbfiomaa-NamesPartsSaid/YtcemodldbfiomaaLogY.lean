/- Ranges over functions whose items own memory; a region's operations, first in any order, by a statement over what is done, then in the one order that is left. Plain theorems over any program. -/
import Derived.Test.YtcemodldbfiomaaLogX
set_option linter.unusedVariables false
set_option linter.unusedSimpArgs false
namespace Go.L
open Go.RowKit
/-- An iterator whose items come with memory of their own: J says what an item's arguments are, and what is owned with them. -/
def LIterW (P : Program) (gf : FuncId) (caps : Array Value) {ι : Type} (items : List ι) (J : ι → List LV → List Atom → Prop) (Hi Hi' : List Atom) : Prop :=
  ∀ (α β : Type) (F : α → List Atom) (G : β → List Atom) (φ : Nat → α → Prop) (ψ : β → Prop) (yv : Value), yv.oneCell' = true →
    (∀ k p y x Hx, items[k]? = some y → J y x Hx → φ k p → LYields P yv x (Hx ++ F p) (fun r H' => (∃ q, r = .raw (.bool true) ∧ φ (k + 1) q ∧ H' = F q) ∨ (∃ q, r = .raw (.bool false) ∧ ψ q ∧ H' = G q))) →
    ∀ p0, φ 0 p0 → LCalls P gf (.raw yv :: raws caps.toList) (Hi ++ F p0) (fun r H' => (∃ q, φ items.length q ∧ H' = Hi' ++ F q) ∨ (∃ q, ψ q ∧ H' = Hi' ++ G q))
/-- What a round of such a loop must do. -/
abbrev RoundOkW (P : Program) (k0 : Nat) (env : List (Nat × LV)) (ps : List Tmp) (assign body : Code) {ι : Type} (items : List ι) (J : ι → List LV → List Atom → Prop) {α β : Type} (F : α → List Atom) (G : β → List Atom) (φ : Nat → α → Prop) (L : Code → β → Prop) : Prop :=
  ∀ (k : Nat) (p : α) (y : ι) (x : List LV) (Hx : List Atom), items[k]? = some y → J y x Hx → φ k p → ∀ R', LW P assign ⟨⟨k0, [], false⟩, setP ps x env, Hx ++ (F p ++ R')⟩ (after P [] (fun e s => e = .normal ∧ ∃ A env', s = ⟨⟨k0, [], false⟩, env', A ++ R'⟩ ∧ ∀ R'', LW P body ⟨⟨k0, [], false⟩, env', A ++ R''⟩ (after P [] (fun e s' =>
      match e with
      | .normal => ∃ q, φ (k + 1) q ∧ HSub s'.heap (F q ++ R'')
      | .ret => ∃ q, L .ret q ∧ HSub s'.heap (G q ++ R'')
      | .exit id => ∃ q, L (.exit id) q ∧ HSub s'.heap (G q ++ R'')
      | _ => False))))
theorem range_yieldsW {P : Program} {env : List (Nat × LV)} {ps : Array Tmp} {assign body : Code} {ι : Type} {items : List ι} {J : ι → List LV → List Atom → Prop} {α β : Type} {F : α → List Atom} {G : β → List Atom} {φ : Nat → α → Prop} {L : Code → β → Prop} {k0 : Nat} {ph : PH} {a : Act} {rec : Loop} {l : Nat}
    (round : RoundOkW P k0 env ps.toList assign body items J F G φ L) (hsize : a.tmps.size = k0) (htmps : Env ph env a) (hps' : ∀ t ∈ ps.toList, t < a.tmps.size) (hit : ∀ y ∈ items, ∀ x Hx, J y x Hx → x.length = ps.size)
    (hrf : rec.assign = assign ∧ rec.body = body ∧ rec.params = ps ∧ rec.tmps = a.tmps ∧ rec.state = .ready ∧ rec.pending = none) :
    ∀ k p y x Hx, items[k]? = some y → J y x Hx → φ k p → LYields P (.func (.yield l) #[] #[]) x (Hx ++ (.since ph :: .obj l (.loop rec) :: F p)) (fun r H' => (∃ q, r = .raw (.bool true) ∧ φ (k + 1) q ∧ H' = .since ph :: .obj l (.loop rec) :: F q) ∨ (∃ q : Code × β, r = .raw (.bool false) ∧ L q.1 q.2 ∧ H' = .since ph :: .obj l (.loop { rec with state := .done, pending := some q.1 }) :: G q.2)) := by
  intro k p y x Hx hx hJ hp R1 w2 ph1 w3 vs hi hr
  have hle1 := ((HSub.perm (perm_of fun x => (by simp only [List.count_append, List.count_cons]; omega))).app hi : Inv w2 ph1 w3 (.since ph :: (Hx ++ (.obj l (.loop rec) :: (F p ++ R1))))).since_at
  obtain ⟨rfl, rfl, rfl, h4, h5, h6⟩ := hrf
  have hlen : vs.size = rec.params.size := by rw [hr.1, hit y (List.mem_of_getElem? hx) x Hx hJ]
  have hi3 : Inv w2 ph1 w3 (.obj l (.loop rec) :: (Hx ++ (F p ++ (.since ph :: R1)))) := (HSub.perm (perm_of fun x => (by simp only [List.count_append, List.count_cons]; omega))).app hi
  have hry := run_yield (P := P) (args := vs) hi3.obj_at hlen
  refine ⟨l, _, _, _, _, rfl, hry, ?_⟩
  refine roundIn_of_wpIn trivial ?_
  have hps2 := env_setP (ph := ph1) rec.params.toList vs.toList x env a hps' (by simpa using hr.1) (fun i v y h1 h2 => hr.2 i v y (by simpa using h1) h2) (htmps.mono hle1)
  have hzip : (rec.params.zip vs).foldl (fun tmps (x : Nat × Value) => match x with | (t, a) => tmps.setIfInBounds t a) rec.tmps = (rec.params.toList.zip vs.toList).foldl (fun tmps (t, v) => tmps.setIfInBounds t v) a.tmps := by
    rw [← Array.foldl_toList, Array.toList_zip, h4]
  rw [hzip]
  obtain ⟨T, hT⟩ : ∃ T, T = (rec.params.toList.zip vs.toList).foldl (fun tmps (t, v) => tmps.setIfInBounds t v) a.tmps := ⟨_, rfl⟩
  rw [← hT] at hps2 ⊢
  have hi4 : Inv ⟨w2.w, some l⟩ ph1 w3 (Hx ++ (F p ++ (.obj l (.loop rec) :: .since ph :: R1))) := ((HSub.perm (perm_of fun x => (by simp only [List.count_append, List.count_cons]; omega))).app hi3).ro _
  refine round k p y x Hx hx hJ hp (.obj l (.loop rec) :: .since ph :: R1) ⟨w2.w, some l⟩ ph1 ⟨T, []⟩ w3 ⟨hi4, ⟨rfl, fun h => by cases h⟩, hps2.2.trans hsize, fun d => hps2.1 d⟩ _ fun e ph2 st2 a2 w4 hle2 r2 q2 => ?_
  obtain ⟨he, A, env', hst, hbody⟩ := q2
  subst he
  subst hst
  have hi5 : Inv ⟨w2.w, some l⟩ ph2 w4 (.obj l (.loop rec) :: (A ++ (.since ph :: R1))) := (HSub.perm (perm_of fun x => (by simp only [List.count_append, List.count_cons]; omega))).app r2.inv
  refine ⟨_, run_beginRound hi5.obj_at h5, ?_⟩
  have hi6 : Inv ⟨w2.w, some l⟩ ph2 (w4.putObj l (.loop { rec with state := .busy })) (A ++ (.obj l (.loop { rec with state := .busy }) :: .since ph :: R1)) := (HSub.perm (perm_of fun x => (by simp only [List.count_append, List.count_cons]; omega))).app (hi5.putObj _)
  refine hbody (.obj l (.loop { rec with state := .busy }) :: .since ph :: R1) ⟨w2.w, some l⟩ ph2 a2 _ ⟨hi6, r2.defers, r2.size, r2.tmps⟩ _ fun e ph3 st3 a3 w5 hle3 r3 q3 => ?_
  have fin : ∀ (H' : List Atom) (j : Option Code), HSub st3.heap (H' ++ (.obj l (.loop { rec with state := .busy }) :: .since ph :: R1)) → ∃ w6, (Instr.endRound l j).run P w5 = .ok (.bool j.isNone) w6 ∧ Inv w2 ph3 w6 ((.since ph :: .obj l (.loop { rec with state := if j.isNone then .ready else .done, pending := j }) :: H') ++ R1) := fun H' j hh => by
    have hi7 : Inv ⟨w2.w, some l⟩ ph3 w5 (.obj l (.loop { rec with state := .busy }) :: (H' ++ (.since ph :: R1))) := (HSub.perm (perm_of fun x => (by simp only [List.count_append, List.count_cons]; omega))).app (hh.app r3.inv)
    exact ⟨_, run_endRound j hi7.obj_at, ((HSub.perm (perm_of fun x => (by simp only [List.count_append, List.count_cons]; omega))).app (hi7.putObj _)).ro'⟩
  cases e with
  | normal =>
    obtain ⟨q, hq, hh⟩ := q3
    obtain ⟨w6, h1, h2⟩ := fin _ none hh
    have hrr : ({ rec with state := .ready, pending := none } : Loop) = rec := by rw [← h5, ← h6]
    simp only [Option.isNone_none, if_true, hrr] at h1 h2
    exact ⟨_, w6, h1, _, ph3, .raw (.bool true), _, rfl, (hle2.trans hle3), h2, .raw _, .inl ⟨q, rfl, hq, rfl⟩⟩
  | ret =>
    obtain ⟨q, hq, hh⟩ := q3
    obtain ⟨w6, h1, h2⟩ := fin _ (some .ret) hh
    exact ⟨_, w6, h1, _, ph3, .raw (.bool false), .since ph :: .obj l (.loop { rec with state := .done, pending := some .ret }) :: G q, rfl, (hle2.trans hle3), h2, .raw _, .inr ⟨(.ret, q), rfl, hq, rfl⟩⟩
  | exit id =>
    obtain ⟨q, hq, hh⟩ := q3
    obtain ⟨w6, h1, h2⟩ := fin _ (some (.exit id)) hh
    exact ⟨_, w6, h1, _, ph3, .raw (.bool false), .since ph :: .obj l (.loop { rec with state := .done, pending := some (.exit id) }) :: G q, rfl, (hle2.trans hle3), h2, .raw _, .inr ⟨(.exit id, q), rfl, hq, rfl⟩⟩
  | goto i => exact (show False from q3).elim
  | panic c => exact (show False from q3).elim
  | outgrown => exact (show False from q3).elim
set_option maxHeartbeats 1000000 in
/-- for .. := range g { .. } -/
theorem LW.rangeW {P : Program} {st : LS} {Q : Exit → LS → Prop} {gop : Operand} {ps : Array Tmp} {assign body : Code} {gf : FuncId} {fn : Func} {caps : Array Value} {ι : Type} {items : List ι} {J : ι → List LV → List Atom → Prop} {Hi Hi' R : List Atom}
    (hg : Is (ev st.env gop) (.raw (.func (.func gf) #[] caps))) (htop : st.n.top = true) (hf : P.funcs[gf]? = some fn) (hname : (fn.name == "runtime.NumGoroutine") = false) (hb : fn.body.isSome = true) (it : LIterW P gf caps items J Hi Hi')
    (hps : (ps.toList.all fun t => Nat.blt t st.n.k) = true) (hit : ∀ y ∈ items, ∀ x Hx, J y x Hx → x.length = ps.size)
    {α β : Type} (F : α → List Atom) (G : β → List Atom) (φ : Nat → α → Prop) (L : Code → β → Prop) (p0 : α) (h0 : φ 0 p0) (hsub : HSub st.heap (Hi ++ (F p0 ++ R)))
    (round : RoundOkW P st.n.k st.env ps.toList assign body items J F G φ L)
    (done : ∀ D q, φ items.length q → Q .normal ⟨⟨st.n.k, markOf D :: st.n.df, true⟩, st.env, Hi' ++ (F q ++ (.obj D (.deferred (some [])) :: R))⟩)
    (left : ∀ D c q, L c q → LW P c ⟨⟨st.n.k, markOf D :: st.n.df, true⟩, st.env, Hi' ++ (G q ++ (.obj D (.deferred (some [])) :: R))⟩ Q) : LW P (.rangeFunc gop ps assign body) st Q := fun w0 ph a w r Q' kk => by
  have hro : w0.ro = none := r.defers.2 htop
  have hgv := (hg _ _ (r.tmps.eval gop)).rawE
  have hps' : ∀ t ∈ ps.toList, t < a.tmps.size := fun t ht => by
    have := List.all_eq_true.1 hps t ht
    rw [r.size]
    exact Nat.le_of_ble_eq_true this
  rw [hro]
  refine wpIn_rangeFunc fun fid _ => ?_
  obtain ⟨rec, hrec⟩ : ∃ rec : Loop, rec = { state := .ready, pending := none, fn := fid, tmps := a.tmps, params := ps, assign, body, defers := w.heap.size } := ⟨_, rfl⟩
  obtain ⟨l, hl⟩ : ∃ l, l = w.heap.size + 1 := ⟨_, rfl⟩
  obtain ⟨D, hD⟩ : ∃ D, D = w.heap.size := ⟨_, rfl⟩
  obtain ⟨w1, hw1⟩ : ∃ w1, w1 = (w.alloc (.deferred (some []))).alloc (.loop rec) := ⟨_, rfl⟩
  have hent : (Instr.enterLoop fid a.tmps ps assign body none).run P w = .ok (l, [markOf D]) w1 := by rw [hl, hD, hw1, hrec]; exact run_enterLoop_outer _ _ _ _ _
  have hcv : a.eval (.const (.func (.yield l) #[] #[])) = .func (.yield l) #[] #[] := rfl
  have hres : (resolve a.eval (rangeCall gop l) 0).run P w1 = .ok { target := .fn (.func gf) caps, args := #[.func (.yield l) #[] #[]] } w1 := by simp [resolve, hgv, Deferred.ofValue, hcv]
  have hinv : (invoke (.fn (.func gf) caps) #[.func (.yield l) #[] #[]]).run P w1 = .ok (.enter gf (#[.func (.yield l) #[] #[]] ++ caps)) w1 := by simp [invoke, enters hf hname hb]
  refine ⟨l, [markOf D], w1, _, w1, gf, _, w1, hent, hres, fun _ _ => trivial, hinv, fun h => (by cases h), ?_⟩
  have hi1 := ((hsub.app r.inv).newObj (.deferred (some []))).newObj (.loop rec)
  rw [show (w.alloc (.deferred (some []))).heap.size = l by rw [hl]; simp, ← hD, ← hw1] at hi1
  have hi2 : Inv w0 ph w1 ((Hi ++ (.since ph :: .obj l (.loop rec) :: F p0)) ++ (.obj D (.deferred (some [])) :: R)) :=
    (HSub.perm (perm_of fun x => (by simp only [List.count_append, List.count_cons]; omega))).app hi1.since
  have hyl := range_yieldsW (ph := ph) (l := l) (rec := rec) round r.size r.tmps hps' hit (by rw [hrec]; exact ⟨rfl, rfl, rfl, rfl, rfl, rfl⟩)
  have hdf : [markOf D] ++ a.defers = markOf D :: st.n.df := by rw [r.defers.1]; rfl
  have hcall := it α (Code × β) (fun p => .since ph :: .obj l (.loop rec) :: F p) (fun q => .since ph :: .obj l (.loop { rec with state := .done, pending := some q.1 }) :: G q.2) φ (fun q => L q.1 q.2) (.func (.yield l) #[] #[]) rfl hyl p0 h0
  have hrp : Reps ph (#[.func (.yield l) #[] #[]] ++ caps) (.raw (.func (.yield l) #[] #[]) :: raws caps.toList) := Reps.append (reps_cons (.raw _) reps_nil) (reps_raws caps)
  refine callsIn_wide.2 ((hcall (.obj D (.deferred (some [])) :: R) w0 ph w1 _ hi2 hrp).mono ?_)
  rintro e w2 ⟨v, ph2, x, H', rfl, hle2, hi, hx, hp⟩
  rcases hp with ⟨q, hq, rfl⟩ | ⟨⟨c, q⟩, hq, rfl⟩
  · have hi3 : Inv w0 ph2 w2 (.obj l (.loop rec) :: (Hi' ++ (F q ++ (.obj D (.deferred (some [])) :: R)) ++ [.since ph])) := (HSub.perm (perm_of fun x => (by simp only [List.count_append, List.count_cons, List.count_nil]; omega))).app hi
    have hpn : rec.pending = none := by rw [hrec]
    refine ⟨rec.pending, _, run_endLoop (P := P) hi3.obj_at (by rw [hrec]; simp), ?_⟩
    have hi4 := hi3.putObj (.loop { rec with state := .exhausted })
    rw [hpn] at hi4 ⊢
    refine kk .normal ph2 ⟨⟨st.n.k, markOf D :: st.n.df, true⟩, st.env, Hi' ++ (F q ++ (.obj D (.deferred (some [])) :: R))⟩ ⟨a.tmps, [markOf D] ++ a.defers⟩ _ hle2 ⟨?_, ⟨hdf, fun _ => hro⟩, r.size, r.tmps.mono hle2⟩ (done D q hq)
    exact ((HSub.drop (HSub.refl _)).trans (HSub.prefix _ _)).app hi4
  · have hi3 : Inv w0 ph2 w2 (.obj l (.loop { rec with state := .done, pending := some c }) :: (Hi' ++ (G q ++ (.obj D (.deferred (some [])) :: R)) ++ [.since ph])) := (HSub.perm (perm_of fun x => (by simp only [List.count_append, List.count_cons, List.count_nil]; omega))).app hi
    refine ⟨some c, _, run_endLoop (P := P) hi3.obj_at (by simp), ?_⟩
    have hi4 := hi3.putObj (.loop { { rec with state := .done, pending := some c } with state := .exhausted })
    have := left D c q hq w0 ph2 { a with defers := [markOf D] ++ a.defers } _ ⟨((HSub.drop (HSub.refl _)).trans (HSub.prefix _ _)).app hi4, ⟨hdf, fun _ => hro⟩, r.size, r.tmps.mono hle2⟩ Q' (fun e ph3 st3 a3 w3 hle3 r3 q3 => kk e ph3 st3 a3 w3 (hle2.trans hle3) r3 q3)
    rw [hro] at this
    exact this
theorem X.rangeW {P : Program} {k0 : Nat} {df : List Deferred} {env : List (Nat × LV)} {H : List Atom} {Q : Exit → LS → Prop} {t : List It} {gop : Operand} {ps : Array Tmp} {assign body : Code} {gf : FuncId} {fn : Func} {caps : Array Value} {ι : Type} {items : List ι} {J : ι → List LV → List Atom → Prop} {Hi Hi' R : List Atom}
    (hg : Is (ev env gop) (.raw (.func (.func gf) #[] caps))) (hf : P.funcs[gf]? = some fn) (hname : (fn.name == "runtime.NumGoroutine") = false) (hb : fn.body.isSome = true) (it : LIterW P gf caps items J Hi Hi')
    (hps : (ps.toList.all fun t => Nat.blt t k0) = true) (hit : ∀ y ∈ items, ∀ x Hx, J y x Hx → x.length = ps.size)
    {α β : Type} (F : α → List Atom) (G : β → List Atom) (φ : Nat → α → Prop) (L : Code → β → Prop) (p0 : α) (h0 : φ 0 p0) (hsub : HSub H (Hi ++ (F p0 ++ R)))
    (round : RoundOkW P k0 env ps.toList assign body items J F G φ L)
    (done : ∀ D q, φ items.length q → after P t Q .normal ⟨⟨k0, markOf D :: df, true⟩, env, Hi' ++ (F q ++ (.obj D (.deferred (some [])) :: R))⟩)
    (left : ∀ D c q, L c q → LW P c ⟨⟨k0, markOf D :: df, true⟩, env, Hi' ++ (G q ++ (.obj D (.deferred (some [])) :: R))⟩ (after P t Q)) : LW P (.rangeFunc gop ps assign body) ⟨⟨k0, df, true⟩, env, H⟩ (after P t Q) :=
  LW.rangeW (st := ⟨⟨k0, df, true⟩, env, H⟩) hg rfl hf hname hb it hps hit F G φ L p0 h0 hsub round done left
/-! ### first in any order, then in the one that is left -/
section
variable {P : Program} {ops : Array Oper} {K : LS → Prop}
theorem getD_tf {S : Array Bool} {j : Nat} (h : S.getD j false = true) : S.getD j true = true := by
  by_cases hj : j < S.size
  · rw [Array.getD_eq_getD_getElem?, Array.getElem?_eq_getElem hj] at h ⊢; exact h
  · rw [Array.getD_eq_getD_getElem?, Array.getElem?_eq_none (by omega)]; rfl
theorem getD_ft {S : Array Bool} {j : Nat} (hj : j < S.size) (h : S.getD j true = true) : S.getD j false = true := by
  rw [Array.getD_eq_getD_getElem?, Array.getElem?_eq_getElem hj] at h ⊢; exact h
theorem LA.invM {m : Nat} (hok : DrawOk ops m) (hm : m ≤ ops.size) {I : Array Bool → LS → Prop} (l2 : List Oper) (hl2 : m + l2.length = ops.size) (hget : ∀ j, j < l2.length → ops[m + j]? = l2[j]?)
    (step : ∀ S st i, I S st → S.size = ops.size → Down ops S → i < m → i ∈ Region.ready .any ops S → ∃ o, ops[i]? = some o ∧ LP P ops o st (fun s => I (S.setIfInBounds i true) s))
    (fin : ∀ S st, I S st → (∀ j, j < m → S.getD j true = true) → LL P ops l2 st K) :
    ∀ fuel S st, S.size = ops.size → Down ops S → (∀ i, m ≤ i → i < ops.size → S.getD i true = false) → left S (List.range ops.size) ≤ fuel → I S st → LA P ops fuel S st K
  | fuel, S, st, hs, hd, hz, hf, hI => by
    by_cases hall : ∀ j, j < m → S.getD j true = true
    · intro w0 ph a w r Q kk
      refine oany_tail hok l2 m fuel S a w (Nat.le_refl _) hl2 hget hs (fun j hj => ⟨fun h => ?_, hall j⟩) ?_ (fin S st hI hall w0 ph a w r Q kk)
      · by_cases hjm : j < m
        · exact hjm
        · rw [hz j (by omega) hj] at h; cases h
      · have : ∀ (k : Nat) (l : List Nat), (∀ i ∈ l, S.getD i true = false) → l.length ≤ left S l := fun k l => by
          induction l with
          | nil => intro _; simp [left]
          | cons x l ih =>
            intro h
            have h1 := ih fun i hi => h i (by simp [hi])
            have h2 := h x (by simp)
            simp only [left, h2, List.length_cons]
            simp
            omega
        have hsplit : ∀ (a b : List Nat), left S (a ++ b) = left S a + left S b := fun a b => by
          induction a with
          | nil => simp [left]
          | cons x a ih => simp only [List.cons_append, left, ih]; omega
        have e : List.range ops.size = List.range m ++ (List.range l2.length).map (m + ·) := by rw [← hl2, List.range_add]
        rw [e, hsplit] at hf
        have h3 := this 0 ((List.range l2.length).map (m + ·)) fun i hi => by
          obtain ⟨q, hq, rfl⟩ := List.mem_map.1 hi
          exact hz _ (by omega) (by have := List.mem_range.1 hq; omega)
        simp only [List.length_map, List.length_range] at h3
        omega
    · cases hr : Region.ready .any ops S with
      | nil =>
        refine absurd (fun j hj => ?_) hall
        have hlt : ((List.range ops.size).all fun i => (direct ops i).all fun j => Nat.blt j i) = true := List.all_eq_true.2 fun i hi => List.all_eq_true.2 fun j hj => Nat.ble_eq_true_of_le (hok.less i (List.mem_range.1 hi) j hj)
        exact all_done hs hlt hr j
      | cons i rs =>
        have hmem : ∀ j ∈ i :: rs, j ∈ Region.ready .any ops S := fun j hj => by rw [hr]; exact hj
        have hlm : ∀ j ∈ Region.ready .any ops S, j < m := fun j hj => by
          obtain ⟨h1, h2, h3⟩ := ready_iff.1 hj
          by_cases hjm : j < m
          · exact hjm
          · refine absurd (fun k hk => ?_) hall
            exact getD_tf (clo_down hok hd j k h2 (by omega) (hok.last j k h2 (by omega) (by omega)) h3)
        obtain ⟨h1, h2, _⟩ := ready_iff.1 (hmem i (by simp))
        have hpos := left_set h2 h1
        cases fuel with
        | zero => omega
        | succ n =>
          refine LA.step hr ?_
          have all : ∀ l : List Nat, (∀ j ∈ l, j ∈ Region.ready .any ops S) → LAs P ops n S st K l := by
            intro l
            induction l with
            | nil => intro _; exact .nil
            | cons j l ih =>
              intro hl
              have hj := hl j (by simp)
              obtain ⟨o, ho, hp⟩ := step S st j hI hs hd (hlm j hj) hj
              obtain ⟨g1, g2, g3⟩ := ready_iff.1 hj
              have hlt := left_set g2 g1
              have hjm := hlm j hj
              refine .cons ho rfl (fun w0 ph a w r N Q k => hp w0 ph a w r N Q fun ph' st' a' w' hle r' q => k ph' st' a' w' hle r' (LA.invM hok hm l2 hl2 hget step fin n _ st' (by simp [hs]) ?_ ?_ (by omega) q)) (ih fun q hq => hl q (by simp [hq]))
              · intro x hx y hy
                rw [getD_set (by omega)] at hx ⊢
                by_cases hyj : y = j
                · rw [if_pos hyj]
                · rw [if_neg hyj]
                  by_cases hxj : x = j
                  · subst hxj; exact g3 y hy
                  · rw [if_neg hxj] at hx; exact hd x hx y hy
              · intro x hx hxs
                rw [getD_set (by omega), if_neg (by omega)]
                exact hz x hx hxs
          exact all _ hmem
theorem envS_all {val : Nat → LV} {f : Nat → Bool} {env : List (Nat × LV)} : ∀ {sl : List (Nat × Nat)}, (∀ p ∈ sl, f p.1 = true) → envS sl val f env = envS sl val (fun _ => true) env
  | [], _ => rfl
  | p :: sl, h => by
    show (p.2, cond (f p.1) (val p.2) .any) :: envS sl val f env = (p.2, val p.2) :: envS sl val (fun _ => true) env
    rw [h p (by simp), envS_all fun q hq => h q (by simp [hq])]
    rfl
/-- A region that draws its order: its first m operations each once, whatever else of them is done; then the others. -/
theorem LW.invM {id m : Nat} {n : NN} {env : List (Nat × LV)} {H : List Atom} {l : List Oper} {Q : Exit → LS → Prop} {γ : Type} (sl : List (Nat × Nat)) (val : γ → Nat → LV) (hp : γ → (Nat → Bool) → List Atom) (g0 : γ)
    (hmo : P.follows .mixedOrders = true) (hok : drawOk l.toArray m = true) (hm : Nat.ble m l.length = true) (hsl : (sl.all fun p => Nat.blt p.1 m) = true)
    (init : HSub H (hp g0 fun j => (Array.replicate l.length false).getD j true))
    (each : ∀ i, i < m → ∀ f g, f i = false → (∀ j ∈ direct l.toArray i, f j = true) → (∀ j, j < m → f j = true → ∀ k ∈ direct l.toArray j, f k = true) → ∃ o, l.toArray[i]? = some o ∧ LP P l.toArray o ⟨n, envS sl (val g) f env, hp g f⟩ (fun s => ∃ g', Weaker s ⟨n, envS sl (val g') (upd f i) env, hp g' (upd f i)⟩))
    (fin : ∀ g f, (∀ j, j < m → f j = true) → LL P l.toArray (l.drop m) ⟨n, envS sl (val g) (fun _ => true) env, hp g f⟩ (fun s => Q .normal s)) (hnd : noDefer l = true := by kernel_rfl) : LW P (.region id l.toArray true) ⟨n, env, H⟩ Q := by
  have hm' : m ≤ l.length := Nat.le_of_ble_eq_true hm
  have hO := DrawOk.of hok
  have hsz : l.toArray.size = l.length := by simp
  refine LW.all hmo (LA.invM hO (by omega) (I := fun S s => ∃ g, Weaker s ⟨n, envS sl (val g) (fun j => S.getD j true) env, hp g (fun j => S.getD j true)⟩) (l.drop m) (by simp; omega) (fun j hj => by simp) ?_ ?_ l.toArray.size _ _ (by simp) ?_ ?_ ?_ ?_) hnd
  · rintro S st i ⟨g, hw⟩ hs hd him hi
    obtain ⟨h1, h2, h3⟩ := ready_iff.1 hi
    obtain ⟨o, ho, hlp⟩ := each i him (fun j => S.getD j true) g h1 (fun j hj => getD_tf (h3 j hj)) (fun j hj hf k hk => getD_tf (hd j (getD_ft (by omega) hf) k hk))
    refine ⟨o, ho, hw.lp fun w0 ph a w r N Q' k => hlp w0 ph a w r N Q' fun ph' st' a' w' hle r' q => k ph' st' a' w' hle r' ?_⟩
    rw [getD_upd (by omega)]; exact q
  · rintro S st ⟨g, hw⟩ hall
    have e := envS_all (val := val g) (f := fun j => S.getD j true) (env := env) (sl := sl) fun p hp' => hall p.1 (Nat.le_of_ble_eq_true (List.all_eq_true.1 hsl p hp'))
    rw [e] at hw
    intro w0 ph a w r Q' kk
    exact fin g _ hall w0 ph a w (hw.rels r) Q' kk
  · intro i hi
    simp [Array.getD_eq_getD_getElem?, Array.getElem?_replicate] at hi
    split at hi <;> simp_all
  · intro i hi1 hi2
    rw [Array.getD_eq_getD_getElem?, Array.getElem?_replicate, if_pos hi2]; rfl
  · have : ∀ (S : Array Bool) (l : List Nat), left S l ≤ l.length := fun S l => by
      induction l with
      | nil => simp [left]
      | cons a l ih => simp only [left, List.length_cons]; split <;> omega
    have := this (Array.replicate l.toArray.size false) (List.range l.toArray.size)
    simpa using this
  · have hz : ∀ p ∈ sl, (Array.replicate l.toArray.size false).getD p.1 true = false := fun p hp' => by
      have := Nat.le_of_ble_eq_true (List.all_eq_true.1 hsl p hp')
      rw [Array.getD_eq_getD_getElem?, Array.getElem?_replicate, if_pos (by omega)]; rfl
    refine ⟨g0, rfl, envS_start (val g0) (fun j => (Array.replicate l.toArray.size false).getD j true) env sl hz, ?_⟩
    rw [hsz]
    exact init
end
theorem X.eghost {P : Program} {n : NN} {env : List (Nat × LV)} {H H' : List Atom} {rs : Array ResultVar} {R : List Atom} {post : LV → List Atom → Prop} {e : Exit} (hs : HSub H H') (h : Ends P rs R post e ⟨n, env, H'⟩) : Ends P rs R post e ⟨n, env, H⟩ :=
  ⟨h.1, fun w0 ph a w fn hf r => h.2 w0 ph a w fn hf ⟨hs.app r.inv, r.defers, r.size, r.tmps⟩⟩
/-- A plain iterator, as one whose items own nothing. -/
theorem LIter.w {P : Program} {gf : FuncId} {caps : Array Value} {items : List (List LV)} {Hi Hi' : List Atom} (h : LIter P gf caps items Hi Hi') : LIterW P gf caps items (fun y x Hx => x = y ∧ Hx = []) Hi Hi' :=
  fun α β F G φ ψ yv _ hy p0 h0 => h α β F G φ ψ yv (fun k p x hx hp => hy k p x x [] hx ⟨rfl, rfl⟩ hp) p0 h0
theorem LU.nilFEqS {P : Program} {env : List (Nat × LV)} {H : List Atom} {d : Option Tmp} {ty : TypeId} {pos : String} {af : Array Edge} {g : Option (Nat × Bool)} {x y : Operand} {t t' : TypeId} {ps rs : Array TypeId} {va : Bool} {fn : Go.Fn} {xs ys : Array Value} (ht : P.underlying t = some (.func ps rs va)) (hx : Is (ev env x) (.raw (.func fn xs ys))) (hy : Is (ev env y) (.raw (.nilFunc))) : LU P env H ⟨d, .binOp .eql t x y t', ty, pos, af, g⟩ (.raw (.bool false)) := .raw fun ac hl w => by
  have h1 := hl x (by simp [Op.operands]) _ hx
  have h2 := hl y (by simp [Op.operands]) _ hy
  have he : (Op.equal t (.func fn xs ys) (.nilFunc)).run P w = .ok false w := by
    rw [show Op.equal t (.func fn xs ys) (.nilFunc) = Op.equalIn (9999 + 1) t (.func fn xs ys) (.nilFunc) from rfl, Op.equalIn]
    rw [Sem.run_bind, run_underlying ht, Result.andThen_ok]
    rfl
  have hg : (eqGuard .eql t x y (.func fn xs ys) (.nilFunc)).run P w = .ok () w := by unfold eqGuard; simp
  have hb : binOp .eql t (.func fn xs ys) (.nilFunc) = (do pure (.bool ((← Op.equal t (.func fn xs ys) (.nilFunc))))) := by rfl
  simp only [execOp, h1, h2, Sem.run_bind, hg, Result.andThen_ok, hb, he, Sem.run_pure] <;> rfl
theorem LU.nilFEqN {P : Program} {env : List (Nat × LV)} {H : List Atom} {d : Option Tmp} {ty : TypeId} {pos : String} {af : Array Edge} {g : Option (Nat × Bool)} {x y : Operand} {t t' : TypeId} {ps rs : Array TypeId} {va : Bool} (ht : P.underlying t = some (.func ps rs va)) (hx : Is (ev env x) (.raw (.nilFunc))) (hy : Is (ev env y) (.raw (.nilFunc))) : LU P env H ⟨d, .binOp .eql t x y t', ty, pos, af, g⟩ (.raw (.bool true)) := .raw fun ac hl w => by
  have h1 := hl x (by simp [Op.operands]) _ hx
  have h2 := hl y (by simp [Op.operands]) _ hy
  have he : (Op.equal t (.nilFunc) (.nilFunc)).run P w = .ok true w := by
    rw [show Op.equal t (.nilFunc) (.nilFunc) = Op.equalIn (9999 + 1) t (.nilFunc) (.nilFunc) from rfl, Op.equalIn]
    rw [Sem.run_bind, run_underlying ht, Result.andThen_ok]
    rfl
  have hg : (eqGuard .eql t x y (.nilFunc) (.nilFunc)).run P w = .ok () w := by unfold eqGuard; simp
  have hb : binOp .eql t (.nilFunc) (.nilFunc) = (do pure (.bool ((← Op.equal t (.nilFunc) (.nilFunc))))) := by rfl
  simp only [execOp, h1, h2, Sem.run_bind, hg, Result.andThen_ok, hb, he, Sem.run_pure] <;> rfl
theorem LU.nilMEqS {P : Program} {env : List (Nat × LV)} {H : List Atom} {d : Option Tmp} {ty : TypeId} {pos : String} {af : Array Edge} {g : Option (Nat × Bool)} {x y : Operand} {t t' : TypeId} {kt et : TypeId} {b : Nat} (ht : P.underlying t = some (.map kt et)) (hx : Is (ev env x) (.raw (.map (some b)))) (hy : Is (ev env y) (.raw (.map none))) : LU P env H ⟨d, .binOp .eql t x y t', ty, pos, af, g⟩ (.raw (.bool false)) := .raw fun ac hl w => by
  have h1 := hl x (by simp [Op.operands]) _ hx
  have h2 := hl y (by simp [Op.operands]) _ hy
  have he : (Op.equal t (.map (some b)) (.map none)).run P w = .ok false w := by
    rw [show Op.equal t (.map (some b)) (.map none) = Op.equalIn (9999 + 1) t (.map (some b)) (.map none) from rfl, Op.equalIn]
    rw [Sem.run_bind, run_underlying ht, Result.andThen_ok]
    rfl
  have hg : (eqGuard .eql t x y (.map (some b)) (.map none)).run P w = .ok () w := by unfold eqGuard; simp
  have hb : binOp .eql t (.map (some b)) (.map none) = (do pure (.bool ((← Op.equal t (.map (some b)) (.map none))))) := by rfl
  simp only [execOp, h1, h2, Sem.run_bind, hg, Result.andThen_ok, hb, he, Sem.run_pure] <;> rfl
theorem LU.nilMEqN {P : Program} {env : List (Nat × LV)} {H : List Atom} {d : Option Tmp} {ty : TypeId} {pos : String} {af : Array Edge} {g : Option (Nat × Bool)} {x y : Operand} {t t' : TypeId} {kt et : TypeId} (ht : P.underlying t = some (.map kt et)) (hx : Is (ev env x) (.raw (.map none))) (hy : Is (ev env y) (.raw (.map none))) : LU P env H ⟨d, .binOp .eql t x y t', ty, pos, af, g⟩ (.raw (.bool true)) := .raw fun ac hl w => by
  have h1 := hl x (by simp [Op.operands]) _ hx
  have h2 := hl y (by simp [Op.operands]) _ hy
  have he : (Op.equal t (.map none) (.map none)).run P w = .ok true w := by
    rw [show Op.equal t (.map none) (.map none) = Op.equalIn (9999 + 1) t (.map none) (.map none) from rfl, Op.equalIn]
    rw [Sem.run_bind, run_underlying ht, Result.andThen_ok]
    rfl
  have hg : (eqGuard .eql t x y (.map none) (.map none)).run P w = .ok () w := by unfold eqGuard; simp
  have hb : binOp .eql t (.map none) (.map none) = (do pure (.bool ((← Op.equal t (.map none) (.map none))))) := by rfl
  simp only [execOp, h1, h2, Sem.run_bind, hg, Result.andThen_ok, hb, he, Sem.run_pure] <;> rfl
theorem LU.nilFNeS {P : Program} {env : List (Nat × LV)} {H : List Atom} {d : Option Tmp} {ty : TypeId} {pos : String} {af : Array Edge} {g : Option (Nat × Bool)} {x y : Operand} {t t' : TypeId} {ps rs : Array TypeId} {va : Bool} {fn : Go.Fn} {xs ys : Array Value} (ht : P.underlying t = some (.func ps rs va)) (hx : Is (ev env x) (.raw (.func fn xs ys))) (hy : Is (ev env y) (.raw (.nilFunc))) : LU P env H ⟨d, .binOp .neq t x y t', ty, pos, af, g⟩ (.raw (.bool true)) := .raw fun ac hl w => by
  have h1 := hl x (by simp [Op.operands]) _ hx
  have h2 := hl y (by simp [Op.operands]) _ hy
  have he : (Op.equal t (.func fn xs ys) (.nilFunc)).run P w = .ok false w := by
    rw [show Op.equal t (.func fn xs ys) (.nilFunc) = Op.equalIn (9999 + 1) t (.func fn xs ys) (.nilFunc) from rfl, Op.equalIn]
    rw [Sem.run_bind, run_underlying ht, Result.andThen_ok]
    rfl
  have hg : (eqGuard .neq t x y (.func fn xs ys) (.nilFunc)).run P w = .ok () w := by unfold eqGuard; simp
  have hb : binOp .neq t (.func fn xs ys) (.nilFunc) = (do pure (.bool (!(← Op.equal t (.func fn xs ys) (.nilFunc))))) := by rfl
  simp only [execOp, h1, h2, Sem.run_bind, hg, Result.andThen_ok, hb, he, Sem.run_pure] <;> rfl
theorem LU.nilFNeN {P : Program} {env : List (Nat × LV)} {H : List Atom} {d : Option Tmp} {ty : TypeId} {pos : String} {af : Array Edge} {g : Option (Nat × Bool)} {x y : Operand} {t t' : TypeId} {ps rs : Array TypeId} {va : Bool} (ht : P.underlying t = some (.func ps rs va)) (hx : Is (ev env x) (.raw (.nilFunc))) (hy : Is (ev env y) (.raw (.nilFunc))) : LU P env H ⟨d, .binOp .neq t x y t', ty, pos, af, g⟩ (.raw (.bool false)) := .raw fun ac hl w => by
  have h1 := hl x (by simp [Op.operands]) _ hx
  have h2 := hl y (by simp [Op.operands]) _ hy
  have he : (Op.equal t (.nilFunc) (.nilFunc)).run P w = .ok true w := by
    rw [show Op.equal t (.nilFunc) (.nilFunc) = Op.equalIn (9999 + 1) t (.nilFunc) (.nilFunc) from rfl, Op.equalIn]
    rw [Sem.run_bind, run_underlying ht, Result.andThen_ok]
    rfl
  have hg : (eqGuard .neq t x y (.nilFunc) (.nilFunc)).run P w = .ok () w := by unfold eqGuard; simp
  have hb : binOp .neq t (.nilFunc) (.nilFunc) = (do pure (.bool (!(← Op.equal t (.nilFunc) (.nilFunc))))) := by rfl
  simp only [execOp, h1, h2, Sem.run_bind, hg, Result.andThen_ok, hb, he, Sem.run_pure] <;> rfl
theorem LU.nilMNeS {P : Program} {env : List (Nat × LV)} {H : List Atom} {d : Option Tmp} {ty : TypeId} {pos : String} {af : Array Edge} {g : Option (Nat × Bool)} {x y : Operand} {t t' : TypeId} {kt et : TypeId} {b : Nat} (ht : P.underlying t = some (.map kt et)) (hx : Is (ev env x) (.raw (.map (some b)))) (hy : Is (ev env y) (.raw (.map none))) : LU P env H ⟨d, .binOp .neq t x y t', ty, pos, af, g⟩ (.raw (.bool true)) := .raw fun ac hl w => by
  have h1 := hl x (by simp [Op.operands]) _ hx
  have h2 := hl y (by simp [Op.operands]) _ hy
  have he : (Op.equal t (.map (some b)) (.map none)).run P w = .ok false w := by
    rw [show Op.equal t (.map (some b)) (.map none) = Op.equalIn (9999 + 1) t (.map (some b)) (.map none) from rfl, Op.equalIn]
    rw [Sem.run_bind, run_underlying ht, Result.andThen_ok]
    rfl
  have hg : (eqGuard .neq t x y (.map (some b)) (.map none)).run P w = .ok () w := by unfold eqGuard; simp
  have hb : binOp .neq t (.map (some b)) (.map none) = (do pure (.bool (!(← Op.equal t (.map (some b)) (.map none))))) := by rfl
  simp only [execOp, h1, h2, Sem.run_bind, hg, Result.andThen_ok, hb, he, Sem.run_pure] <;> rfl
theorem LU.nilMNeN {P : Program} {env : List (Nat × LV)} {H : List Atom} {d : Option Tmp} {ty : TypeId} {pos : String} {af : Array Edge} {g : Option (Nat × Bool)} {x y : Operand} {t t' : TypeId} {kt et : TypeId} (ht : P.underlying t = some (.map kt et)) (hx : Is (ev env x) (.raw (.map none))) (hy : Is (ev env y) (.raw (.map none))) : LU P env H ⟨d, .binOp .neq t x y t', ty, pos, af, g⟩ (.raw (.bool false)) := .raw fun ac hl w => by
  have h1 := hl x (by simp [Op.operands]) _ hx
  have h2 := hl y (by simp [Op.operands]) _ hy
  have he : (Op.equal t (.map none) (.map none)).run P w = .ok true w := by
    rw [show Op.equal t (.map none) (.map none) = Op.equalIn (9999 + 1) t (.map none) (.map none) from rfl, Op.equalIn]
    rw [Sem.run_bind, run_underlying ht, Result.andThen_ok]
    rfl
  have hg : (eqGuard .neq t x y (.map none) (.map none)).run P w = .ok () w := by unfold eqGuard; simp
  have hb : binOp .neq t (.map none) (.map none) = (do pure (.bool (!(← Op.equal t (.map none) (.map none))))) := by rfl
  simp only [execOp, h1, h2, Sem.run_bind, hg, Result.andThen_ok, hb, he, Sem.run_pure] <;> rfl
theorem X.nghost {α : Type} {m n : NN} {e : List (Nat × LV)} {mod : α → List (Nat × LV)} {live : List Nat} {e0 : List (Nat × LV)} {hp : α → List Atom} {φ : α → Prop} {μ : α → Nat} {p : α} {H H' : List Atom} (hs : HSub H H') (h : Next m mod live e0 hp φ μ p ⟨n, e, H'⟩) : Next m mod live e0 hp φ μ p ⟨n, e, H⟩ := by
  obtain ⟨q, h1, h2, h3, h4, h5, h6⟩ := h
  exact ⟨q, h1, h2, h3, h4, hs.trans h5, h6⟩
/-- Owned bytes, as a text. -/
theorem LU.tostrL {P : Program} {env : List (Nat × LV)} {H : List Atom} {d : Option Tmp} {ty : TypeId} {pos : String} {af : Array Edge} {g : Option (Nat × Bool)} {x : Operand} {src dst e : TypeId} {l : List UInt8} {k : Cap} (hs : P.underlying src = some (.slice e)) (he : P.underlying e = some (.int .u8)) (hd : P.underlying dst = some .string) (hx : IsL H (ev env x) (Bytes l k)) : LU P env H ⟨d, .convert src dst x, ty, pos, af, g⟩ (Str l) := .of_run fun ph a hl w0 w hinv0 => by
  have r := hx _ _ _ _ hinv0 (hl x (by simp [Op.operands]))
  have hinv := Inv.start w
  obtain ⟨A, n, c, hu⟩ := rep_slice_form r
  rw [hu] at r
  obtain ⟨hn, hcell⟩ := bytes_cells hinv r
  refine ⟨.string ⟨l.toArray⟩, ?_, .raw _⟩
  cases A with
  | none =>
    have h0 : l = [] := by
      cases l with
      | nil => rfl
      | cons b l =>
        cases r with | sl _ _ _ _ _ _ ad u hA hn hnc hs hcap hp hr =>
          have := hA (by simp [byteEls])
          cases this
    subst h0
    simp [execOp, hu, run_convert_bytes_nil w src e hs he n c dst hd]
    rfl
  | some ad =>
    have hload : (loadCells ad n).run P w = .ok ((l.map fun b => (b.toNat : Int)).map (Value.int .u8)).toArray w := by
      have := run_loadCells_list (P := P) w ad (l.map fun b => Value.int .u8 b.toNat) (fun j v h => hcell ad rfl j v h)
      simpa [← hn, List.map_map, Function.comp_def] using this
    simp only [execOp, hu, run_convert_bytes_string w src dst e _ n c hs he hd, run_bytesToString w ad n c _ hload, foldl_push, Sem.run_bind, Result.andThen_ok, Sem.run_pure]
    rfl
end Go.L
