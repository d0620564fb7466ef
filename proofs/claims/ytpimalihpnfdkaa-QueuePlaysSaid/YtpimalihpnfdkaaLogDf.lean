/- What a function defers, and what comes of it when it leaves. Plain theorems over any program. -/
import Derived.Test.YtpimalihpnfdkaaLogZ
import Derived.DefersIn
set_option linter.unusedVariables false
set_option linter.unusedSimpArgs false
namespace Go.L
open Go.RowKit
variable {P : Program}
/-- A function, entered as a deferred call. -/
def LDef (P : Program) (f : FuncId) (args : List LV) (H H2 : List Atom) : Prop :=
  ∀ (R : List Atom) (w0 : Base) ph w (vs : Array Value) (u : FrameMode), Inv w0 ph w (H ++ R) → Reps ph vs args →
    CallsDIn Fence.wide 0 P f vs u w fun e u' w' => u' = u ∧ ∃ v ph', e = .returned v ∧ PH.le ph ph' ∧ Inv w0 ph' w' (H2 ++ R)
theorem LDef.of {f : FuncId} {fn : Func} {c : Code} {args : List LV} {H H2 : List Atom} {n : Nat} {rs : Array ResultVar} (hf : P.funcs[f]? = some fn) (hb : fn.body = some c) (hn : fn.ntmps = n) (hrs : fn.results = rs) (hl : Nat.ble args.length n = true)
    (h : ∀ R, LW P c ⟨⟨n, [], true⟩, envOf 0 args, H ++ R⟩ (fun e s => (e = .normal ∨ e = .ret) ∧ s.n.df = [] ∧ ∃ r, Res P rs s r ∧ HSub s.heap (H2 ++ R))) : LDef P f args H H2 := fun R w0 ph w vs u hi hr => by
  have hl' : vs.size ≤ n := by rw [hr.1]; simpa using hl
  refine callsDIn_of_wp (R := fun e w' => ∃ v ph', e = .returned v ∧ PH.le ph ph' ∧ Inv w0 ph' w' (H2 ++ R)) hf hb trivial (h R ⟨w0.w, none⟩ ph _ w ⟨hi.ro none, ⟨rfl, fun _ => rfl⟩, by simp [hn]; omega, fun d => ?_⟩ _ fun e ph' st' a' w' hle r' q => ?_)
  · rw [get_envOf, if_pos (Nat.zero_le _), Nat.sub_zero]
    by_cases hd : d < vs.size
    · have hd' : d < args.length := hr.1 ▸ hd
      have h1 : ((vs ++ Array.replicate (fn.ntmps - vs.size) undef).getD d undef) = vs[d] := by
        simp [Array.getElem?_append, hd]
      rw [h1, List.getElem?_eq_getElem hd', Option.getD_some]
      exact hr.2 d _ _ (Array.getElem?_eq_getElem hd) (List.getElem?_eq_getElem hd')
    · have : args[d]? = none := by rw [List.getElem?_eq_none_iff, ← hr.1]; omega
      rw [this]
      exact .any _
  · obtain ⟨he, hdf, rr, hres, hsub⟩ := q
    obtain ⟨v, hrun, _⟩ := hres _ ph' a' w' fn hrs r'
    have hd : a'.defers = [] := by rw [r'.defers.1, hdf]
    have hI : Inv w0 ph' w' (H2 ++ R) := (hsub.app r'.inv).ro'
    rcases he with rfl | rfl <;> exact ⟨hd, v, hrun, v, ph', rfl, hle, hI⟩
def EndsD (P : Program) (rs : Array ResultVar) (R H2 : List Atom) (e : Exit) (s : LS) : Prop := (e = .normal ∨ e = .ret) ∧ s.n.df = [] ∧ ∃ r, Res P rs s r ∧ HSub s.heap (H2 ++ R)
theorem LDef.ofA {f : FuncId} {fn : Func} {c : Code} {args : List LV} {H H2 : List Atom} {n : Nat} {rs : Array ResultVar} (hf : P.funcs[f]? = some fn) (hb : fn.body = some c) (hn : fn.ntmps = n) (hrs : fn.results = rs) (hl : Nat.ble args.length n = true)
    (h : ∀ R, LW P c ⟨⟨n, [], true⟩, envOf 0 args, H ++ R⟩ (after P [] (EndsD P rs R H2))) : LDef P f args H H2 := LDef.of hf hb hn hrs hl fun R w0 ph a w r Q' k => h R w0 ph a w r Q' fun e ph' st' a' w' hle r' q => k e ph' st' a' w' hle r' q
theorem X.normalD {n : NN} {env : List (Nat × LV)} {H H2 : List Atom} {rs : Array ResultVar} {R : List Atom} {r : LV} (hr : Res P rs ⟨n, env, H⟩ r) (hs : HSub H (H2 ++ R)) (hd : n.df = []) (u : True) : EndsD P rs R H2 .normal ⟨n, env, H⟩ := ⟨.inl rfl, hd, r, hr, hs⟩
/-- A function that leaves with one deferred closure. -/
theorem Leaves.call {rs : Array ResultVar} {R R2 H H2 H' : List Atom} {post : LV → List Atom → Prop} {s : LS} {r : LV} {f : FuncId} {fn' : Func} {v0 : Value} (hd : s.n.df = [⟨.fn (.func f) #[v0], #[]⟩]) (hf : P.funcs[f]? = some fn') (hname : (fn'.name == "runtime.NumGoroutine") = false) (hb : fn'.body.isSome = true)
    (hc : LDef P f [.raw v0] H H2) (hs : HSub s.heap (H ++ R2)) (hr : Res P rs ⟨s.n, s.env, H2 ++ R2⟩ r) (hh : HSub (H2 ++ R2) (H' ++ R)) (hp : post r H') : Leaves P rs R post s := fun w0 ph a w fn hfn rl => by
  rw [rl.defers.1, hd]
  have hcall := hc R2 w0 ph w #[v0] .returning (hs.app rl.inv) ⟨rfl, fun i c x h1 h2 => by
    match i with
    | 0 => simp at h1 h2; subst h1; subst h2; exact .raw _
    | i + 1 => simp at h1⟩
  refine ⟨by simp, .inr ⟨(fun h => by cases h), .func f, #[v0], f, #[v0], rfl, ?_, fun _ _ => trivial, hcall.mono fun e u' w' h => ?_⟩⟩
  · have := enters (P := P) hf hname hb #[v0] w
    simp [invoke, this]
  · obtain ⟨rfl, v, ph', rfl, hle, hi⟩ := h
    obtain ⟨x, hrun, hrep⟩ := hr w0 ph' a w' fn hfn ⟨hi, rl.defers, rl.size, rl.tmps.mono hle⟩
    exact ⟨x, hrun, x, ph', r, H', rfl, hle, hh.app hi, hrep, hp⟩
theorem X.retC {n : NN} {env : List (Nat × LV)} {A : List Atom} {rs : Array ResultVar} {R R2 H H2 H' : List Atom} {post : LV → List Atom → Prop} {r : LV} {f : FuncId} {fn' : Func} {v0 : Value} (hc : LDef P f [.raw v0] H H2) (hs : HSub A (H ++ R2)) (hr : Res P rs ⟨n, env, H2 ++ R2⟩ r) (hh : HSub (H2 ++ R2) (H' ++ R)) (hf : P.funcs[f]? = some fn') (hp : post r H') (hname : (fn'.name == "runtime.NumGoroutine") = false := by rfl) (hb : fn'.body.isSome = true := by rfl) (hd : n.df = [⟨.fn (.func f) #[v0], #[]⟩] := by rfl) : Ends P rs R post .ret ⟨n, env, A⟩ := ⟨.inr rfl, .call (s := ⟨n, env, A⟩) hd hf hname hb hc hs hr hh hp⟩
/-- A closure, made and deferred. -/
theorem LW.deferC {id : Nat} {d : Tmp} {f : FuncId} {x : Operand} {v : Value} {ty ty2 : TypeId} {pos pos2 : String} {af af2 : Array Edge} {k : Nat} {df : List Deferred} {env : List (Nat × LV)} {H : List Atom} {Q : Exit → LS → Prop} (hd : Nat.blt d k = true) (hx : Is (ev env x) (.raw v))
    (h : Q .normal ⟨⟨k, ⟨.fn (.func f) #[v], #[]⟩ :: df, true⟩, (d, .raw (.func (.func f) #[] #[v])) :: env, H⟩) :
    LW P (.region id #[⟨some d, .makeFunc (.func f) #[] #[x], ty, pos, af, none⟩, ⟨none, .defer { callee := .value (.tmp d), args := #[], argTypes := #[] }, ty2, pos2, af2, none⟩] false) ⟨⟨k, df, true⟩, env, H⟩ Q := fun w0 ph a w r Q' kk => by
  have hro := r.defers.2 rfl
  refine wpIn_region_lit ?_
  have hcl : LU P env H ⟨some d, .makeFunc (.func f) #[] #[x], ty, pos, af, none⟩ (.raw (.func (.func f) #[] [v].toArray)) := LU.closure (vs := [v]) ⟨hx, trivial⟩
  simp only [wpListIn, Region.wanted, if_true]
  refine owp_in (fun c e => by cases e) (hcl w0 ph a w r.inv (fun y _ => r.tmps.eval y) _ _ fun ph' u w' hle hi hrep => ?_)
  refine ⟨fun _ _ => trivial, ?_⟩
  have r2 := r.put hle hi hd hrep
  have h1 := (r2.tmps.eval (.tmp d))
  rw [show ev ((d, LV.raw (.func (.func f) #[] [v].toArray)) :: env) (.tmp d) = .raw (.func (.func f) #[] [v].toArray) from get_same _ _ _] at h1
  have h2 := h1.rawE
  have hrun : ((Oper.mk none (.defer { callee := .value (.tmp d), args := #[], argTypes := #[] }) ty2 pos2 af2 none).semAt (Fn w0.ro).round (a.put (some d) u).eval).run P w' = .ok (.defer ⟨.fn (.func f) #[v], #[]⟩) w' := by
    rw [show (Fn w0.ro).round = none from hro]
    simp [Oper.semAt, execOp, resolve, Deferred.ofValue, h2]
  rw [hrun]
  refine kk .normal ph' ⟨⟨k, ⟨.fn (.func f) #[v], #[]⟩ :: df, true⟩, (d, .raw (.func (.func f) #[] #[v])) :: env, H⟩ _ _ hle ⟨r2.inv, ⟨?_, fun _ => hro⟩, r2.size, r2.tmps⟩ h
  show ⟨.fn (.func f) #[v], #[]⟩ :: (a.put (some d) u).defers = _
  rw [put_defers, r.defers.1]
end Go.L
