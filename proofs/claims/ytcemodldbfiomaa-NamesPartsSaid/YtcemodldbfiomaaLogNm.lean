/- Loops whose rounds leave marks; returns behind many marks. Plain theorems over any program. -/
import Derived.Test.YtcemodldbfiomaaLogU
set_option linter.unusedVariables false
set_option linter.unusedSimpArgs false
namespace Go.L
open Go.RowKit
/-- What a round hands on, with marks. -/
structure NextN {α : Type} (nn : α → NN) (mod : α → List (Nat × LV)) (live : List Nat) (e0 : List (Nat × LV)) (hp : α → List Atom) (φ : α → Prop) (μ : α → Nat) (p : α) (s : LS) : Prop where
  ex : ∃ q, φ q ∧ EnvLe (mod q) s.env ∧ Keeps live e0 s.env ∧ s.n = nn q ∧ HSub s.heap (hp q) ∧ μ q < μ p
theorem LW.loopN {P : Program} {st : LS} {c : Code} {t : List It} {Q : Exit → LS → Prop} {α : Type} (nn : α → NN) (mod : α → List (Nat × LV)) (live : List Nat) (hp : α → List Atom) (φ : α → Prop) (μ : α → Nat) (p0 : α) (hn : st.n = nn p0) (hm : EnvLe (mod p0) st.env) (hh : HSub st.heap (hp p0)) (h0 : φ p0)
    (round : ∀ p, φ p → LW P c ⟨nn p, mod p ++ keep live st.env, hp p⟩ (after P (.rnd (NextN nn mod live st.env hp φ μ p) :: t) Q)) : LW P (.loop c) st (after P t Q) := by
  refine LW.loop (fun p => ⟨nn p, mod p ++ keep live st.env, hp p⟩) φ μ p0 h0 ⟨hn, hm.app (Keeps.refl _ _).le, hh⟩ fun p hp' => (round p hp').mono fun e s q => ?_
  cases e with
  | normal =>
    obtain ⟨q, h1, h2, h3, h4, h5, h6⟩ := q.ex
    exact ⟨q, h1, ⟨h4, h2.app h3.le, h5⟩, h6⟩
  | exit i => exact q
  | goto i => exact q
  | ret => exact q
  | panic i => exact q
  | outgrown => exact q
section
variable {P : Program} {n : NN} {env : List (Nat × LV)} {H : List Atom}
theorem X.loopN {c : Code} {t : List It} {Q : Exit → LS → Prop} {α : Type} (nn : α → NN) (mod : α → List (Nat × LV)) (live : List Nat) (hp : α → List Atom) (φ : α → Prop) (μ : α → Nat) (p0 : α) (hn : n = nn p0) (hm : EnvLe (mod p0) env) (hh : HSub H (hp p0)) (h0 : φ p0)
    (round : ∀ p, φ p → LW P c ⟨nn p, mod p ++ keep live env, hp p⟩ (after P (.rnd (NextN nn mod live env hp φ μ p) :: t) Q)) : LW P (.loop c) ⟨n, env, H⟩ (after P t Q) := LW.loopN nn mod live hp φ μ p0 hn hm hh h0 round
theorem X.nextN {α : Type} {nn : α → NN} {e : List (Nat × LV)} {mod : α → List (Nat × LV)} {live : List Nat} {e0 : List (Nat × LV)} {hp : α → List Atom} {φ : α → Prop} {μ : α → Nat} {p : α} (q : α) (hn : n = nn q) (hm : EnvLe (mod q) e) (hk : Keeps live e0 e) (hh : HSub H (hp q)) (h1 : φ q) (h2 : μ q < μ p) : NextN nn mod live e0 hp φ μ p ⟨n, e, H⟩ := ⟨q, h1, hm, hk, hn, hh, h2⟩
end
/-- An iterator that may lay its yield into a cell. -/
def LIterB (P : Program) (gf : FuncId) (caps : Array Value) (items : List (List LV)) (Hi Hi' : List Atom) : Prop :=
  ∀ (α β : Type) (F : α → List Atom) (G : β → List Atom) (φ : Nat → α → Prop) (ψ : β → Prop) (yv : Value), yv.oneCell' = true →
    (∀ k p x, items[k]? = some x → φ k p → LYields P yv x (F p) (fun r H' => (∃ q, r = .raw (.bool true) ∧ φ (k + 1) q ∧ H' = F q) ∨ (∃ q, r = .raw (.bool false) ∧ ψ q ∧ H' = G q))) →
    ∀ p0, φ 0 p0 → LCalls P gf (.raw yv :: raws caps.toList) (Hi ++ F p0) (fun r H' => (∃ q, φ items.length q ∧ H' = Hi' ++ F q) ∨ (∃ q, ψ q ∧ H' = Hi' ++ G q))
set_option maxHeartbeats 1000000 in
/-- for .. := range g { .. }, over an iterator that lays its yield into a cell. -/
theorem LW.rangeB {P : Program} {st : LS} {Q : Exit → LS → Prop} {gop : Operand} {ps : Array Tmp} {assign body : Code} {gf : FuncId} {fn : Func} {caps : Array Value} {items : List (List LV)} {Hi Hi' R : List Atom}
    (hg : Is (ev st.env gop) (.raw (.func (.func gf) #[] caps))) (htop : st.n.top = true) (hf : P.funcs[gf]? = some fn) (hname : (fn.name == "runtime.NumGoroutine") = false) (hb : fn.body.isSome = true) (it : LIterB P gf caps items Hi Hi')
    (hps : (ps.toList.all fun t => Nat.blt t st.n.k) = true) (hit : ∀ x ∈ items, x.length = ps.size)
    {α β : Type} (F : α → List Atom) (G : β → List Atom) (φ : Nat → α → Prop) (L : Code → β → Prop) (p0 : α) (h0 : φ 0 p0) (hsub : HSub st.heap (Hi ++ (F p0 ++ R)))
    (round : RoundOk P st.n.k st.env ps.toList assign body items F G φ L)
    (done : ∀ D q, φ items.length q → Q .normal ⟨⟨st.n.k, markOf D :: st.n.df, true⟩, st.env, Hi' ++ (F q ++ (.obj D (.deferred (some [])) :: R))⟩)
    (left : ∀ D c q, L c q → LW P c ⟨⟨st.n.k, markOf D :: st.n.df, true⟩, st.env, Hi' ++ (G q ++ (.obj D (.deferred (some [])) :: R))⟩ Q) : LW P (.rangeFunc gop ps assign body) st Q := fun w0 ph a w r Q' kk => by
  have hro : w0.ro = none := r.defers.2 htop
  have hgv := (hg _ _ (r.tmps.eval gop)).rawE
  have hps' : ∀ t ∈ ps.toList, t < a.tmps.size := fun t ht => by
    have := List.all_eq_true.1 hps t ht
    rw [r.size]
    exact Nat.le_of_ble_eq_true this
  rw [hro]
  refine wpIn_rangeFunc fun fid _ => ?_
  obtain ⟨rec, hrec⟩ : ∃ rec : Loop, rec = { state := .ready, pending := none, fn := fid, tmps := a.tmps, params := ps, assign, body, defers := w.heap.size } := ⟨_, rfl⟩
  obtain ⟨l, hl⟩ : ∃ l, l = w.heap.size + 1 := ⟨_, rfl⟩
  obtain ⟨D, hD⟩ : ∃ D, D = w.heap.size := ⟨_, rfl⟩
  obtain ⟨w1, hw1⟩ : ∃ w1, w1 = (w.alloc (.deferred (some []))).alloc (.loop rec) := ⟨_, rfl⟩
  have hent : (Instr.enterLoop fid a.tmps ps assign body none).run P w = .ok (l, [markOf D]) w1 := by rw [hl, hD, hw1, hrec]; exact run_enterLoop_outer _ _ _ _ _
  have hcv : a.eval (.const (.func (.yield l) #[] #[])) = .func (.yield l) #[] #[] := rfl
  have hres : (resolve a.eval (rangeCall gop l) 0).run P w1 = .ok { target := .fn (.func gf) caps, args := #[.func (.yield l) #[] #[]] } w1 := by simp [resolve, hgv, Deferred.ofValue, hcv]
  have hinv : (invoke (.fn (.func gf) caps) #[.func (.yield l) #[] #[]]).run P w1 = .ok (.enter gf (#[.func (.yield l) #[] #[]] ++ caps)) w1 := by simp [invoke, enters hf hname hb]
  refine ⟨l, [markOf D], w1, _, w1, gf, _, w1, hent, hres, fun _ _ => trivial, hinv, fun h => (by cases h), ?_⟩
  have hi1 := ((hsub.app r.inv).newObj (.deferred (some []))).newObj (.loop rec)
  rw [show (w.alloc (.deferred (some []))).heap.size = l by rw [hl]; simp, ← hD, ← hw1] at hi1
  have hi2 : Inv w0 ph w1 ((Hi ++ (.since ph :: .obj l (.loop rec) :: F p0)) ++ (.obj D (.deferred (some [])) :: R)) :=
    (HSub.perm (perm_of fun x => (by simp only [List.count_append, List.count_cons]; omega))).app hi1.since
  have hyl := range_yields (ph := ph) (l := l) (rec := rec) round r.size r.tmps hps' hit (by rw [hrec]; exact ⟨rfl, rfl, rfl, rfl, rfl, rfl⟩)
  have hdf : [markOf D] ++ a.defers = markOf D :: st.n.df := by rw [r.defers.1]; rfl
  have hcall := it α (Code × β) (fun p => .since ph :: .obj l (.loop rec) :: F p) (fun q => .since ph :: .obj l (.loop { rec with state := .done, pending := some q.1 }) :: G q.2) φ (fun q => L q.1 q.2) (.func (.yield l) #[] #[]) rfl hyl p0 h0
  have hrp : Reps ph (#[.func (.yield l) #[] #[]] ++ caps) (.raw (.func (.yield l) #[] #[]) :: raws caps.toList) := Reps.append (reps_cons (.raw _) reps_nil) (reps_raws caps)
  refine callsIn_wide.2 ((hcall (.obj D (.deferred (some [])) :: R) w0 ph w1 _ hi2 hrp).mono ?_)
  rintro e w2 ⟨v, ph2, x, H', rfl, hle2, hi, hx, hp⟩
  rcases hp with ⟨q, hq, rfl⟩ | ⟨⟨c, q⟩, hq, rfl⟩
  · have hi3 : Inv w0 ph2 w2 (.obj l (.loop rec) :: (Hi' ++ (F q ++ (.obj D (.deferred (some [])) :: R)) ++ [.since ph])) := (HSub.perm (perm_of fun x => (by simp only [List.count_append, List.count_cons, List.count_nil]; omega))).app hi
    have hpn : rec.pending = none := by rw [hrec]
    refine ⟨rec.pending, _, run_endLoop (P := P) hi3.obj_at (by rw [hrec]; simp), ?_⟩
    have hi4 := hi3.putObj (.loop { rec with state := .exhausted })
    rw [hpn] at hi4 ⊢
    refine kk .normal ph2 ⟨⟨st.n.k, markOf D :: st.n.df, true⟩, st.env, Hi' ++ (F q ++ (.obj D (.deferred (some [])) :: R))⟩ ⟨a.tmps, [markOf D] ++ a.defers⟩ _ hle2 ⟨?_, ⟨hdf, fun _ => hro⟩, r.size, r.tmps.mono hle2⟩ (done D q hq)
    exact ((HSub.drop (HSub.refl _)).trans (HSub.prefix _ _)).app hi4
  · have hi3 : Inv w0 ph2 w2 (.obj l (.loop { rec with state := .done, pending := some c }) :: (Hi' ++ (G q ++ (.obj D (.deferred (some [])) :: R)) ++ [.since ph])) := (HSub.perm (perm_of fun x => (by simp only [List.count_append, List.count_cons, List.count_nil]; omega))).app hi
    refine ⟨some c, _, run_endLoop (P := P) hi3.obj_at (by simp), ?_⟩
    have hi4 := hi3.putObj (.loop { { rec with state := .done, pending := some c } with state := .exhausted })
    have := left D c q hq w0 ph2 { a with defers := [markOf D] ++ a.defers } _ ⟨((HSub.drop (HSub.refl _)).trans (HSub.prefix _ _)).app hi4, ⟨hdf, fun _ => hro⟩, r.size, r.tmps.mono hle2⟩ Q' (fun e ph3 st3 a3 w3 hle3 r3 q3 => kk e ph3 st3 a3 w3 (hle2.trans hle3) r3 q3)
    rw [hro] at this
    exact this
theorem X.rangeB {P : Program} {k0 : Nat} {df : List Deferred} {env : List (Nat × LV)} {H : List Atom} {Q : Exit → LS → Prop} {t : List It} {gop : Operand} {ps : Array Tmp} {assign body : Code} {gf : FuncId} {fn : Func} {caps : Array Value} {items : List (List LV)} {Hi Hi' R : List Atom}
    (hg : Is (ev env gop) (.raw (.func (.func gf) #[] caps))) (hf : P.funcs[gf]? = some fn) (hname : (fn.name == "runtime.NumGoroutine") = false) (hb : fn.body.isSome = true) (it : LIterB P gf caps items Hi Hi')
    (hps : (ps.toList.all fun t => Nat.blt t k0) = true) (hit : ∀ x ∈ items, x.length = ps.size)
    {α β : Type} (F : α → List Atom) (G : β → List Atom) (φ : Nat → α → Prop) (L : Code → β → Prop) (p0 : α) (h0 : φ 0 p0) (hsub : HSub H (Hi ++ (F p0 ++ R)))
    (round : RoundOk P k0 env ps.toList assign body items F G φ L)
    (done : ∀ D q, φ items.length q → after P t Q .normal ⟨⟨k0, markOf D :: df, true⟩, env, Hi' ++ (F q ++ (.obj D (.deferred (some [])) :: R))⟩)
    (left : ∀ D c q, L c q → LW P c ⟨⟨k0, markOf D :: df, true⟩, env, Hi' ++ (G q ++ (.obj D (.deferred (some [])) :: R))⟩ (after P t Q)) : LW P (.rangeFunc gop ps assign body) ⟨⟨k0, df, true⟩, env, H⟩ (after P t Q) :=
  LW.rangeB (st := ⟨⟨k0, df, true⟩, env, H⟩) hg rfl hf hname hb it hps hit F G φ L p0 h0 hsub round done left
/-- The blocks of marks. -/
abbrev markA (Ds : List Nat) : List Atom := Ds.map fun D => .obj D (.deferred (some []))
theorem Leaves.marks {P : Program} {rs : Array ResultVar} {R H1 H' : List Atom} {post : LV → List Atom → Prop} {s : LS} {r : LV} {Ds : List Nat} (hd : s.n.df = Ds.map markOf) (hs : HSub s.heap (markA Ds ++ H1)) (hr : Res P rs ⟨⟨s.n.k, [], s.n.top⟩, s.env, H1⟩ r) (hh : HSub H1 (H' ++ R)) (hp : post r H') : Leaves P rs R post s := fun w0 ph a w fn hfn rl => by
  rw [rl.defers.1, hd]
  have key : ∀ (Ds : List Nat) (w : World), Inv w0 ph w (markA Ds ++ H1) → LeavesInM Fence.wide 0 P fn a.tmps (fun e w' => ∃ v ph' r H', e = .returned v ∧ PH.le ph ph' ∧ Inv w0 ph' w' (H' ++ R) ∧ Rep ph' v r ∧ post r H') (Ds.map markOf) .returning w := fun Ds => by
    induction Ds with
    | nil =>
      intro w hi
      obtain ⟨v, hrun, hrep⟩ := hr w0 ph ⟨a.tmps, []⟩ w fn hfn ⟨hi, ⟨rfl, rl.defers.2⟩, rl.size, rl.tmps⟩
      exact ⟨v, hrun, v, ph, r, H', rfl, PH.le.refl _, hh.app hi, hrep, hp⟩
    | cons D Ds ih =>
      intro w hi
      have hi : Inv w0 ph w (.obj D (.deferred (some [])) :: (markA Ds ++ H1)) := hi
      have hi2 := (HSub.drop (HSub.refl _)).app (hi.putObj (.deferred none))
      exact ⟨by simp, .inl ⟨D, _, rfl, run_takeDeferred hi.obj_at, ih _ hi2⟩⟩
  exact key Ds w (hs.app rl.inv)
theorem X.retMs {P : Program} {n : NN} {env : List (Nat × LV)} {H : List Atom} {rs : Array ResultVar} {R H1 H' : List Atom} {post : LV → List Atom → Prop} {r : LV} (Ds : List Nat) (hs : HSub H (markA Ds ++ H1)) (hr : Res P rs ⟨⟨n.k, [], n.top⟩, env, H1⟩ r) (hh : HSub H1 (H' ++ R)) (hp : post r H') (hd : n.df = Ds.map markOf := by rfl) : Ends P rs R post .ret ⟨n, env, H⟩ := ⟨.inr rfl, .marks (s := ⟨n, env, H⟩) hd hs hr hh hp⟩
theorem X.normalMs {P : Program} {n : NN} {env : List (Nat × LV)} {H : List Atom} {rs : Array ResultVar} {R H1 H' : List Atom} {post : LV → List Atom → Prop} {r : LV} (Ds : List Nat) (hs : HSub H (markA Ds ++ H1)) (hr : Res P rs ⟨⟨n.k, [], n.top⟩, env, H1⟩ r) (hh : HSub H1 (H' ++ R)) (hp : post r H') (hd : n.df = Ds.map markOf := by rfl) : Ends P rs R post .normal ⟨n, env, H⟩ := ⟨.inl rfl, .marks (s := ⟨n, env, H⟩) hd hs hr hh hp⟩
end Go.L
