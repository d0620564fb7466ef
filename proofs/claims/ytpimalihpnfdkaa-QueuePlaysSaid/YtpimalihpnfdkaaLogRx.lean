/- Ranges over functions whose iterator leaves what it owned turned, in a way that is known by the end alone. Plain theorems over any program. -/
import Derived.Test.YtpimalihpnfdkaaLogFm
set_option linter.unusedVariables false
set_option linter.unusedSimpArgs false
namespace Go.L
open Go.RowKit
/-- An iterator: whoever takes, its items come one by one, till the taker says no more; at the end Hd z is left of what it owned, else Hl z. -/
def LIterX (P : Program) (gf : FuncId) (caps : Array Value) {ι ξ ζ : Type} (items : List ι) (J : ι → List LV → List Atom → Prop) (Hi : List Atom) (Hd : ξ → List Atom) (Hl : ζ → List Atom) : Prop :=
  ∀ (α β : Type) (F : α → List Atom) (G : β → List Atom) (φ : Nat → α → Prop) (ψ : β → Prop) (yv : Value), yv.oneCell' = true →
    (∀ k p y x Hx, items[k]? = some y → J y x Hx → φ k p → LYields P yv x (Hx ++ F p) (fun r H' => (∃ q, r = .raw (.bool true) ∧ φ (k + 1) q ∧ H' = F q) ∨ (∃ q, r = .raw (.bool false) ∧ ψ q ∧ H' = G q))) →
    ∀ p0, φ 0 p0 → LCalls P gf (.raw yv :: raws caps.toList) (Hi ++ F p0) (fun r H' => (∃ q z, φ items.length q ∧ H' = Hd z ++ F q) ∨ (∃ q z, ψ q ∧ H' = Hl z ++ G q))
set_option maxHeartbeats 1000000 in
/-- for .. := range g { .. } -/
theorem LW.rangeX {P : Program} {st : LS} {Q : Exit → LS → Prop} {gop : Operand} {ps : Array Tmp} {assign body : Code} {gf : FuncId} {fn : Func} {caps : Array Value} {ι : Type} {items : List ι} {J : ι → List LV → List Atom → Prop} {ξ ζ : Type} {Hi : List Atom} {Hd : ξ → List Atom} {Hl : ζ → List Atom} {R : List Atom}
    (hg : Is (ev st.env gop) (.raw (.func (.func gf) #[] caps))) (htop : st.n.top = true) (hf : P.funcs[gf]? = some fn) (hname : (fn.name == "runtime.NumGoroutine") = false) (hb : fn.body.isSome = true) (it : LIterX P gf caps items J Hi Hd Hl)
    (hps : (ps.toList.all fun t => Nat.blt t st.n.k) = true) (hit : ∀ y ∈ items, ∀ x Hx, J y x Hx → x.length = ps.size)
    {α β : Type} (F : α → List Atom) (G : β → List Atom) (φ : Nat → α → Prop) (L : Code → β → Prop) (p0 : α) (h0 : φ 0 p0) (hsub : HSub st.heap (Hi ++ (F p0 ++ R)))
    (round : RoundOkW P st.n.k st.env ps.toList assign body items J F G φ L)
    (done : ∀ D q z, φ items.length q → Q .normal ⟨⟨st.n.k, markOf D :: st.n.df, true⟩, st.env, Hd z ++ (F q ++ (.obj D (.deferred (some [])) :: R))⟩)
    (left : ∀ D c q z, L c q → LW P c ⟨⟨st.n.k, markOf D :: st.n.df, true⟩, st.env, Hl z ++ (G q ++ (.obj D (.deferred (some [])) :: R))⟩ Q) : LW P (.rangeFunc gop ps assign body) st Q := fun w0 ph a w r Q' kk => by
  have hro : w0.ro = none := r.defers.2 htop
  have hgv := (hg _ _ (r.tmps.eval gop)).rawE
  have hps' : ∀ t ∈ ps.toList, t < a.tmps.size := fun t ht => by
    have := List.all_eq_true.1 hps t ht
    rw [r.size]
    exact Nat.le_of_ble_eq_true this
  rw [hro]
  refine wpIn_rangeFunc fun fid _ => ?_
  obtain ⟨rec, hrec⟩ : ∃ rec : Loop, rec = { state := .ready, pending := none, fn := fid, tmps := a.tmps, params := ps, assign, body, defers := w.heap.size } := ⟨_, rfl⟩
  obtain ⟨l, hl⟩ : ∃ l, l = w.heap.size + 1 := ⟨_, rfl⟩
  obtain ⟨D, hD⟩ : ∃ D, D = w.heap.size := ⟨_, rfl⟩
  obtain ⟨w1, hw1⟩ : ∃ w1, w1 = (w.alloc (.deferred (some []))).alloc (.loop rec) := ⟨_, rfl⟩
  have hent : (Instr.enterLoop fid a.tmps ps assign body none).run P w = .ok (l, [markOf D]) w1 := by rw [hl, hD, hw1, hrec]; exact run_enterLoop_outer _ _ _ _ _
  have hcv : a.eval (.const (.func (.yield l) #[] #[])) = .func (.yield l) #[] #[] := rfl
  have hres : (resolve a.eval (rangeCall gop l) 0).run P w1 = .ok { target := .fn (.func gf) caps, args := #[.func (.yield l) #[] #[]] } w1 := by simp [resolve, hgv, Deferred.ofValue, hcv]
  have hinv : (invoke (.fn (.func gf) caps) #[.func (.yield l) #[] #[]]).run P w1 = .ok (.enter gf (#[.func (.yield l) #[] #[]] ++ caps)) w1 := by simp [invoke, enters hf hname hb]
  refine ⟨l, [markOf D], w1, _, w1, gf, _, w1, hent, hres, fun _ _ => trivial, hinv, fun h => (by cases h), ?_⟩
  have hi1 := ((hsub.app r.inv).newObj (.deferred (some []))).newObj (.loop rec)
  rw [show (w.alloc (.deferred (some []))).heap.size = l by rw [hl]; simp, ← hD, ← hw1] at hi1
  have hi2 : Inv w0 ph w1 ((Hi ++ (.since ph :: .obj l (.loop rec) :: F p0)) ++ (.obj D (.deferred (some [])) :: R)) :=
    (HSub.perm (perm_of fun x => (by simp only [List.count_append, List.count_cons]; omega))).app hi1.since
  have hyl := range_yieldsW (ph := ph) (l := l) (rec := rec) round r.size r.tmps hps' hit (by rw [hrec]; exact ⟨rfl, rfl, rfl, rfl, rfl, rfl⟩)
  have hdf : [markOf D] ++ a.defers = markOf D :: st.n.df := by rw [r.defers.1]; rfl
  have hcall := it α (Code × β) (fun p => .since ph :: .obj l (.loop rec) :: F p) (fun q => .since ph :: .obj l (.loop { rec with state := .done, pending := some q.1 }) :: G q.2) φ (fun q => L q.1 q.2) (.func (.yield l) #[] #[]) rfl hyl p0 h0
  have hrp : Reps ph (#[.func (.yield l) #[] #[]] ++ caps) (.raw (.func (.yield l) #[] #[]) :: raws caps.toList) := Reps.append (reps_cons (.raw _) reps_nil) (reps_raws caps)
  refine callsIn_wide.2 ((hcall (.obj D (.deferred (some [])) :: R) w0 ph w1 _ hi2 hrp).mono ?_)
  rintro e w2 ⟨v, ph2, x, H', rfl, hle2, hi, hx, hp⟩
  rcases hp with ⟨q, z, hq, rfl⟩ | ⟨⟨c, q⟩, z, hq, rfl⟩
  · have hi3 : Inv w0 ph2 w2 (.obj l (.loop rec) :: (Hd z ++ (F q ++ (.obj D (.deferred (some [])) :: R)) ++ [.since ph])) := (HSub.perm (perm_of fun x => (by simp only [List.count_append, List.count_cons, List.count_nil]; omega))).app hi
    have hpn : rec.pending = none := by rw [hrec]
    refine ⟨rec.pending, _, run_endLoop (P := P) hi3.obj_at (by rw [hrec]; simp), ?_⟩
    have hi4 := hi3.putObj (.loop { rec with state := .exhausted })
    rw [hpn] at hi4 ⊢
    refine kk .normal ph2 ⟨⟨st.n.k, markOf D :: st.n.df, true⟩, st.env, Hd z ++ (F q ++ (.obj D (.deferred (some [])) :: R))⟩ ⟨a.tmps, [markOf D] ++ a.defers⟩ _ hle2 ⟨?_, ⟨hdf, fun _ => hro⟩, r.size, r.tmps.mono hle2⟩ (done D q z hq)
    exact ((HSub.drop (HSub.refl _)).trans (HSub.prefix _ _)).app hi4
  · have hi3 : Inv w0 ph2 w2 (.obj l (.loop { rec with state := .done, pending := some c }) :: (Hl z ++ (G q ++ (.obj D (.deferred (some [])) :: R)) ++ [.since ph])) := (HSub.perm (perm_of fun x => (by simp only [List.count_append, List.count_cons, List.count_nil]; omega))).app hi
    refine ⟨some c, _, run_endLoop (P := P) hi3.obj_at (by simp), ?_⟩
    have hi4 := hi3.putObj (.loop { { rec with state := .done, pending := some c } with state := .exhausted })
    have := left D c q z hq w0 ph2 { a with defers := [markOf D] ++ a.defers } _ ⟨((HSub.drop (HSub.refl _)).trans (HSub.prefix _ _)).app hi4, ⟨hdf, fun _ => hro⟩, r.size, r.tmps.mono hle2⟩ Q' (fun e ph3 st3 a3 w3 hle3 r3 q3 => kk e ph3 st3 a3 w3 (hle2.trans hle3) r3 q3)
    rw [hro] at this
    exact this
theorem X.rangeX {P : Program} {k0 : Nat} {df : List Deferred} {env : List (Nat × LV)} {H : List Atom} {Q : Exit → LS → Prop} {t : List It} {gop : Operand} {ps : Array Tmp} {assign body : Code} {gf : FuncId} {fn : Func} {caps : Array Value} {ι : Type} {items : List ι} {J : ι → List LV → List Atom → Prop} {ξ ζ : Type} {Hi : List Atom} {Hd : ξ → List Atom} {Hl : ζ → List Atom} {R : List Atom}
    (hg : Is (ev env gop) (.raw (.func (.func gf) #[] caps))) (hf : P.funcs[gf]? = some fn) (hname : (fn.name == "runtime.NumGoroutine") = false) (hb : fn.body.isSome = true) (it : LIterX P gf caps items J Hi Hd Hl)
    (hps : (ps.toList.all fun t => Nat.blt t k0) = true) (hit : ∀ y ∈ items, ∀ x Hx, J y x Hx → x.length = ps.size)
    {α β : Type} (F : α → List Atom) (G : β → List Atom) (φ : Nat → α → Prop) (L : Code → β → Prop) (p0 : α) (h0 : φ 0 p0) (hsub : HSub H (Hi ++ (F p0 ++ R)))
    (round : RoundOkW P k0 env ps.toList assign body items J F G φ L)
    (done : ∀ D q z, φ items.length q → after P t Q .normal ⟨⟨k0, markOf D :: df, true⟩, env, Hd z ++ (F q ++ (.obj D (.deferred (some [])) :: R))⟩)
    (left : ∀ D c q z, L c q → LW P c ⟨⟨k0, markOf D :: df, true⟩, env, Hl z ++ (G q ++ (.obj D (.deferred (some [])) :: R))⟩ (after P t Q)) : LW P (.rangeFunc gop ps assign body) ⟨⟨k0, df, true⟩, env, H⟩ (after P t Q) :=
  LW.rangeX (st := ⟨⟨k0, df, true⟩, env, H⟩) hg rfl hf hname hb it hps hit F G φ L p0 h0 hsub round done left
end Go.L
