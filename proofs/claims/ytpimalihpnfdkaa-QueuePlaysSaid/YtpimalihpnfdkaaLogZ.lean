/- Function values of any kind, called; scopes; composites with an array within, compared. Plain theorems over any program. -/
import Derived.Test.YtpimalihpnfdkaaLogY
set_option linter.unusedVariables false
set_option linter.unusedSimpArgs false
namespace Go.L
open Go.RowKit
section
variable {P : Program} {env : List (Nat × LV)} {H : List Atom} {d : Option Tmp} {ty : TypeId} {pos : String} {af : Array Edge} {g : Option (Nat × Bool)} {st : LS} {K : LS → Prop}
/-! ### function values -/
/-- What a call of a function value gives. -/
def FnCalls (P : Program) (v : Value) (args : List LV) (H : List Atom) (post : LV → List Atom → Prop) : Prop :=
  ∃ (f : FuncId) (fn : Func) (first caps : Array Value), v = .func (.func f) first caps ∧ P.funcs[f]? = some fn ∧ (fn.name == "runtime.NumGoroutine") = false ∧ fn.body.isSome = true ∧ LCalls P f (raws first.toList ++ (args ++ raws caps.toList)) H post
theorem FnCalls.mono {v : Value} {args : List LV} {H : List Atom} {post post' : LV → List Atom → Prop} (h : FnCalls P v args H post) (hp : ∀ r H', post r H' → post' r H') : FnCalls P v args H post' := by
  obtain ⟨f, fn, first, caps, h1, h2, h3, h4, h5⟩ := h
  exact ⟨f, fn, first, caps, h1, h2, h3, h4, h5.mono hp⟩
/-- A function by its name. -/
theorem FnCalls.named {f : FuncId} {fn : Func} {args : List LV} {H : List Atom} {post : LV → List Atom → Prop} (hf : P.funcs[f]? = some fn) (hname : (fn.name == "runtime.NumGoroutine") = false) (hb : fn.body.isSome = true) (h : LCalls P f args H post) : FnCalls P (.func (.func f) #[] #[]) args H post :=
  ⟨f, fn, #[], #[], rfl, hf, hname, hb, by simpa [raws] using h⟩
/-- A closure. -/
theorem FnCalls.closure {f : FuncId} {fn : Func} {caps : Array Value} {args : List LV} {H : List Atom} {post : LV → List Atom → Prop} (hf : P.funcs[f]? = some fn) (hname : (fn.name == "runtime.NumGoroutine") = false) (hb : fn.body.isSome = true) (h : LCalls P f (args ++ raws caps.toList) H post) : FnCalls P (.func (.func f) #[] caps) args H post :=
  ⟨f, fn, #[], caps, rfl, hf, hname, hb, by simpa [raws] using h⟩
/-- A method bound to its receiver. -/
theorem FnCalls.bound {f : FuncId} {fn : Func} {v : Value} {args : List LV} {H : List Atom} {post : LV → List Atom → Prop} (hf : P.funcs[f]? = some fn) (hname : (fn.name == "runtime.NumGoroutine") = false) (hb : fn.body.isSome = true) (h : LCalls P f (.raw v :: args) H post) : FnCalls P (.func (.func f) #[v] #[]) args H post :=
  ⟨f, fn, #[v], #[], rfl, hf, hname, hb, by simpa [raws] using h⟩
theorem LO.callF {v : Value} {t : Operand} {as : Array Operand} {ts : Array TypeId} {vs : List LV} {Hc R : List Atom} {post : LV → List Atom → Prop} {d : Tmp} (hc : FnCalls P v vs Hc post) (ht : Is (ev st.env t) (.raw v)) (hd : Nat.blt d st.n.k = true) (hsub : HSub st.heap (Hc ++ R)) (ha : Opds st.env as.toList vs)
    (h : ∀ r H', post r H' → K ⟨st.n, (d, r) :: st.env, H' ++ R⟩) : LO P ⟨some d, .call { callee := .value t, args := as, argTypes := ts }, ty, pos, af, g⟩ st K := fun w0 ph a w r N Q k => by
  obtain ⟨f, fn, first, caps, rfl, hf, hname, hb, hc⟩ := hc
  have hargs := ha.reps (a := a) (ph := ph) (fun x _ => r.tmps.eval x)
  have htv := (ht _ _ (r.tmps.eval t)).rawE
  have hrun : (execOp a.eval ⟨some d, .call { callee := .value t, args := as, argTypes := ts }, ty, pos, af, g⟩).run P w = .ok (.enter f (first ++ as.map a.eval ++ caps)) w := by
    simp [execOp, resolve, htv, Deferred.ofValue, invoke, enters hf hname hb]
  unfold owp
  rw [hrun]
  refine upon_enter ?_
  refine (hc R w0 ph w (first ++ as.map a.eval ++ caps) (hsub.app r.inv) (by rw [map_arr a.eval as, Array.append_assoc]; exact (reps_raws first).append (hargs.append (reps_raws caps)))).mono ?_
  rintro e w' ⟨v, ph', x, H', rfl, hle, hi, hx, hp⟩
  exact k ph' _ _ w' hle (r.put hle hi hd hx) (h x H' hp)
theorem X.callF {n : NN} {v : Value} {t : Operand} {as : Array Operand} {ts : Array TypeId} {vs : List LV} {Hc R : List Atom} {post : LV → List Atom → Prop} {d : Tmp} (hc : FnCalls P v vs Hc post) (ht : Is (ev env t) (.raw v)) (hd : Nat.blt d n.k = true) (hsub : HSub H (Hc ++ R)) (ha : Opds env as.toList vs)
    (h : ∀ r H', post r H' → K ⟨n, (d, r) :: env, H' ++ R⟩) : LO P ⟨some d, .call { callee := .value t, args := as, argTypes := ts }, ty, pos, af, g⟩ ⟨n, env, H⟩ K := LO.callF (st := ⟨n, env, H⟩) hc ht hd hsub ha h
/-- x.m, a method bound. -/
theorem LU.bound {f : FuncId} {x : Operand} {v : Value} (h : Is (ev env x) (.raw v)) : LU P env H ⟨d, .makeFunc (.func f) #[x] #[], ty, pos, af, g⟩ (.raw (.func (.func f) #[v] #[])) := .of_run fun ph a hl w0 w hi => by
  have := (h _ _ (hl x (by simp [Op.operands]))).rawE
  refine ⟨_, ?_, .raw _⟩
  simp [execOp, Instr.makeFunc, this]
end
/-! ### scopes -/
section
variable {P : Program} {b : Frame} {a : Act} {k : List Item} {cs : List Frame} {w : World}
theorem stepR_scope {c : Code} : step P (lone (b.atR a (.code (.scope c) :: k)) cs w) = .next (lone (b.atR a (.code c :: .inScope c :: k)) cs w) :=
  step_lone_go (by simp [stepG, stepG.exec, Frame.atR])
theorem stepR_inScope {c : Code} : step P (lone (b.atR a (.inScope c :: k)) cs w) = .next (lone (b.atR a k) cs w) :=
  step_lone_go (by simp [stepG, stepG.exec, Frame.atR])
theorem wpIn_scope {F : Fence} {n : Nat} {Q : Exit → Act → World → Prop} {c : Code} (h : c.wpIn F n P (Exit.noGoto Q) a w) : (Code.scope c).wpIn F n P Q a w := by
  intro b k cs hro hb hr
  have h0 : (lone (b.atR a (.code (.scope c) :: k)) cs w).fenced P F := fenced_calm hb hr rfl
  obtain ⟨e, a₁, w₁, hq, harr⟩ := h b (.inScope c :: k) cs hro hb hr
  cases e with
  | normal => exact ⟨.normal, a₁, w₁, hq, .head h0 stepR_scope (StepsIn.trans harr (.one (fenced_calm hb hr rfl) stepR_inScope))⟩
  | exit id =>
    have hx : exitTo id (.inScope c :: k) = exitTo id k := by simp [exitTo]
    exact ⟨.exit id, a₁, w₁, hq, fun k' hk => .head h0 stepR_scope (harr.1 k' (by rw [hx]; exact hk)),
      fun hr' hk => let ⟨k₁, h1, h2⟩ := harr.2 hr' (by rw [hx]; exact hk); ⟨k₁, h1, .head h0 stepR_scope h2⟩⟩
  | goto l => exact hq.elim
  | ret => exact ⟨_, a₁, w₁, hq, .of_steps (.one h0 stepR_scope) harr⟩
  | panic ch => exact ⟨_, a₁, w₁, hq, .of_steps (.one h0 stepR_scope) harr⟩
  | outgrown => exact ⟨_, a₁, w₁, hq, .of_steps (.one h0 stepR_scope) harr⟩
end
section
variable {P : Program} {st : LS} {Q : Exit → LS → Prop} {t : List It} {c : Code}
/-- A scope through which the run goes without a jump. -/
theorem LW.scope (hg : ∀ i s, ¬ after P t Q (.goto i) s) (h : LW P c st (after P t Q)) : LW P (.scope c) st (after P t Q) := fun w0 ph a w r Q' kk => by
  refine wpIn_scope (h w0 ph a w r (Exit.noGoto Q') fun e ph' st' a' w' hle r' q => ?_)
  cases e with
  | goto i => exact (hg i st' q).elim
  | normal => exact kk _ ph' st' a' w' hle r' q
  | exit i => exact kk _ ph' st' a' w' hle r' q
  | ret => exact kk _ ph' st' a' w' hle r' q
  | panic c => exact kk _ ph' st' a' w' hle r' q
  | outgrown => exact kk _ ph' st' a' w' hle r' q
theorem LW.label {i : Nat} (h : Q .normal st) : LW P (.label i) st Q := fun w0 ph a w r Q' kk => wpIn_label (kk _ ph st a w (PH.le.refl _) r h)
theorem no_goto {rs : Array ResultVar} {R : List Atom} {post : LV → List Atom → Prop} (i : Nat) (s : LS) : ¬ after P [] (Ends P rs R post) (.goto i) s := fun h => by
  rcases h.1 with h | h <;> cases h
end
/-! ### contracts, told otherwise -/
theorem LCalls.weak {P : Program} {f : FuncId} {args : List LV} {H : List Atom} {post post' : LV → List Atom → Prop} (h : LCalls P f args H post) (hp : ∀ r H', post r H' → ∃ r' H'', Is r r' ∧ HSub H' H'' ∧ post' r' H'') : LCalls P f args H post' := fun R w0 ph w vs hi hr => by
  refine (h R w0 ph w vs hi hr).mono ?_
  rintro e w' ⟨v, ph', r, H', rfl, hle, hi', hx, hq⟩
  obtain ⟨r', H'', h1, h2, h3⟩ := hp r H' hq
  have hs : HSub (H' ++ R) (H'' ++ R) := fun ph w F hsep => by
    obtain ⟨F1, F2, g1, g2, g3, g4⟩ := Sep.split hsep
    obtain ⟨G, k1, k2⟩ := h2 ph w F1 g1
    exact ⟨_, Sep.app k1 g2 (fun b o hb => g4 b o (k2 b o hb)), fun b o hb => (g3 b o).2 (hb.imp (k2 b o) id)⟩
  exact ⟨v, ph', r', H'', rfl, hle, hs.app hi', h1 _ _ hx, h3⟩
theorem LCalls.arg {P : Program} {f : FuncId} {x y : LV} {l : List LV} {H : List Atom} {post : LV → List Atom → Prop} (hs : Is x y) (h : LCalls P f (y :: l) H post) : LCalls P f (x :: l) H post := fun R w0 ph w vs hi hr =>
  h R w0 ph w vs hi ⟨by simpa using hr.1, fun i c z hc hz => by
    cases i with
    | zero =>
      simp only [List.getElem?_cons_zero, Option.some_inj] at hz
      subst hz
      exact hs _ _ (hr.2 0 c x hc (by simp))
    | succ i => exact hr.2 (i + 1) c z hc (by simpa using hz)⟩
end Go.L
