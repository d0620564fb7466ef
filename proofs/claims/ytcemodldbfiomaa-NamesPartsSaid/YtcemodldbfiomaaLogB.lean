/- The logic's rules of control: states, sequences, tests, loops, functions, regions. Plain theorems over any program. -/
import Derived.Test.YtcemodldbfiomaaLogA
set_option linter.unusedVariables false
set_option linter.unusedSimpArgs false
namespace Go.L
open Go.RowKit

/-- An activation: how many slots; what is deferred; whether it is a function's own (no round). -/
structure NN where
  k : Nat
  df : List Deferred
  top : Bool
structure LS where
  n : NN
  env : List (Nat × LV)
  heap : List Atom

def get : List (Nat × LV) → Nat → LV
  | [], _ => .any
  | (d, v) :: e, i => bif Nat.beq d i then v else get e i
theorem get_same (d : Nat) (v : LV) (e : List (Nat × LV)) : get ((d, v) :: e) d = v := by simp [get]
theorem get_other {d i : Nat} (h : d ≠ i) (v : LV) (e : List (Nat × LV)) : get ((d, v) :: e) i = get e i := by
  have : Nat.beq d i = false := Bool.eq_false_iff.2 (fun hh => h (Nat.eq_of_beq_eq_true hh))
  simp [get, this]
def ev (env : List (Nat × LV)) : Operand → LV
  | .tmp t => get env t
  | .const v => .raw v
  | .global g => .raw (.pointer (some ⟨g, 0, none⟩))
  | .func f => .raw (.func (.func f) #[] #[])

/-- The slots hold what is said. -/
def Env (ph : PH) (env : List (Nat × LV)) (a : Act) : Prop := ∀ d, Rep ph (a.tmps.getD d undef) (get env d)
structure Rels (w0 : Base) (ph : PH) (st : LS) (a : Act) (w : World) : Prop where
  inv : Inv w0 ph w st.heap
  defers : a.defers = st.n.df ∧ (st.n.top = true → w0.ro = none)
  size : a.tmps.size = st.n.k
  tmps : Env ph st.env a
theorem Env.mono {p q : PH} (hle : PH.le p q) {env : List (Nat × LV)} {a : Act} (h : Env p env a) : Env q env a := fun d => (h d).mono hle
theorem Env.eval {ph : PH} {env : List (Nat × LV)} {a : Act} (h : Env ph env a) (x : Operand) : Rep ph (a.eval x) (ev env x) := by
  cases x with
  | tmp t => exact h t
  | const v => exact .raw v
  | global g => exact .raw _
  | func f => exact .raw _
theorem Env.put {ph : PH} {env : List (Nat × LV)} {a : Act} (h : Env ph env a) {d : Nat} (hd : d < a.tmps.size) {u : Value} {v : LV} (hr : Rep ph u v) : Env ph ((d, v) :: env) (a.put (some d) u) := fun i => by
  by_cases hi : d = i
  · subst hi
    rw [get_same]
    simpa [Act.put, hd] using hr
  · rw [get_other hi]
    have := h i
    simpa [Act.put, Array.getElem?_setIfInBounds_ne hi, Array.getD_eq_getD_getElem?] using this
theorem put_size (a : Act) (d : Option Tmp) (u : Value) : (a.put d u).tmps.size = a.tmps.size := by cases d <;> simp [Act.put]
theorem put_defers (a : Act) (d : Option Tmp) (u : Value) : (a.put d u).defers = a.defers := by cases d <;> simp [Act.put]
theorem Rels.put {w0 : Base} {ph ph' : PH} {st : LS} {a : Act} {w w' : World} {H : List Atom} (h : Rels w0 ph st a w) (hle : PH.le ph ph') (hi : Inv w0 ph' w' H) {d : Nat} (hd : Nat.blt d st.n.k = true) {u : Value} {v : LV} (hr : Rep ph' u v) :
    Rels w0 ph' ⟨st.n, (d, v) :: st.env, H⟩ (a.put (some d) u) w' :=
  ⟨hi, ⟨(put_defers a _ u).trans h.defers.1, h.defers.2⟩, (put_size a _ u).trans h.size, (h.tmps.mono hle).put (by rw [h.size]; simpa [Nat.blt_eq] using hd) hr⟩
theorem Rels.put0 {w0 : Base} {ph ph' : PH} {st : LS} {a : Act} {w w' : World} {H : List Atom} (h : Rels w0 ph st a w) (hle : PH.le ph ph') (hi : Inv w0 ph' w' H) (u : Value) :
    Rels w0 ph' ⟨st.n, st.env, H⟩ (a.put none u) w' := ⟨hi, h.defers, h.size, h.tmps.mono hle⟩

/-- A piece of code goes from st to what Q says. -/
def LW (P : Program) (c : Code) (st : LS) (Q : Exit → LS → Prop) : Prop :=
  ∀ w0 ph a w, Rels w0 ph st a w → ∀ Q' : Exit → Act → World → Prop, (∀ e ph' st' a' w', PH.le ph ph' → Rels w0 ph' st' a' w' → Q e st' → Q' e a' w') → c.wpIn (Fn w0.ro) 0 P Q' a w

inductive It where
  | code (c : Code)
  | blk (id : Nat)
  | rnd (nxt : LS → Prop)
/-- What is still to come. -/
def after (P : Program) : List It → (Exit → LS → Prop) → Exit → LS → Prop
  | [], Q, e, st => Q e st
  | .code c :: t, Q, .normal, st => LW P c st (after P t Q)
  | .code _ :: t, Q, .exit i, st => after P t Q (.exit i) st
  | .code _ :: t, Q, .ret, st => after P t Q .ret st
  | .code _ :: t, Q, .goto i, st => after P t Q (.goto i) st
  | .code _ :: t, Q, .panic c, st => after P t Q (.panic c) st
  | .code _ :: t, Q, .outgrown, st => after P t Q .outgrown st
  | .blk id :: t, Q, .exit i, st => bif Nat.beq i id then after P t Q .normal st else after P t Q (.exit i) st
  | .blk _ :: t, Q, .normal, st => after P t Q .normal st
  | .blk _ :: t, Q, .ret, st => after P t Q .ret st
  | .blk _ :: t, Q, .goto i, st => after P t Q (.goto i) st
  | .blk _ :: t, Q, .panic c, st => after P t Q (.panic c) st
  | .blk _ :: t, Q, .outgrown, st => after P t Q .outgrown st
  | .rnd nxt :: _, _, .normal, st => nxt st
  | .rnd _ :: t, Q, .exit i, st => after P t Q (.exit i) st
  | .rnd _ :: t, Q, .ret, st => after P t Q .ret st
  | .rnd _ :: t, Q, .goto i, st => after P t Q (.goto i) st
  | .rnd _ :: t, Q, .panic c, st => after P t Q (.panic c) st
  | .rnd _ :: t, Q, .outgrown, st => after P t Q .outgrown st

section
variable {P : Program} {st : LS} {Q : Exit → LS → Prop} {t : List It} {x y c : Code}
theorem LW.mono {Q' : Exit → LS → Prop} (h : LW P c st Q) (hq : ∀ e st', Q e st' → Q' e st') : LW P c st Q' := fun w0 ph a w r Q1 k => h w0 ph a w r Q1 (fun e ph' st' a' w' hle r' q => k e ph' st' a' w' hle r' (hq _ _ q))
theorem LW.seq (h : LW P x st (after P (.code y :: t) Q)) : LW P (.seq x y) st (after P t Q) := fun w0 ph a w r Q' k => by
  refine wpIn_seq (h w0 ph a w r _ fun e ph' st' a' w' hle r' q => ?_)
  cases e with
  | normal => exact q w0 ph' a' w' r' Q' (fun e2 ph2 st2 a2 w2 hle2 r2 q2 => k e2 ph2 st2 a2 w2 (hle.trans hle2) r2 q2)
  | exit i => exact k _ ph' st' a' w' hle r' q
  | goto i => exact k _ ph' st' a' w' hle r' q
  | ret => exact k _ ph' st' a' w' hle r' q
  | panic i => exact k _ ph' st' a' w' hle r' q
  | outgrown => exact k _ ph' st' a' w' hle r' q
theorem LW.block {id : Nat} (h : LW P c st (after P (.blk id :: t) Q)) : LW P (.block id c) st (after P t Q) := fun w0 ph a w r Q' k => by
  refine wpIn_block (h w0 ph a w r _ fun e ph' st' a' w' hle r' q => ?_)
  cases e with
  | normal => exact k _ ph' st' a' w' hle r' q
  | exit i =>
    simp only [Exit.inBlock]
    by_cases hi : i = id
    · rw [if_pos hi]
      subst hi
      simp only [after, Nat.beq_eq_true_eq, Nat.beq_refl, cond_true] at q
      exact k _ ph' st' a' w' hle r' q
    · rw [if_neg hi]
      have : Nat.beq i id = false := Bool.eq_false_iff.2 (fun hh => hi (Nat.eq_of_beq_eq_true hh))
      simp only [after, this, cond_false] at q
      exact k _ ph' st' a' w' hle r' q
  | goto i => exact k _ ph' st' a' w' hle r' q
  | ret => exact k _ ph' st' a' w' hle r' q
  | panic i => exact k _ ph' st' a' w' hle r' q
  | outgrown => exact k _ ph' st' a' w' hle r' q
theorem LW.exit {id : Nat} (h : Q (.exit id) st) : LW P (.exit id) st Q := fun w0 ph a w r Q' k => wpIn_exit (k _ ph st a w (PH.le.refl _) r h)
theorem LW.ret (h : Q .ret st) : LW P .ret st Q := fun w0 ph a w r Q' k => wpIn_ret (k _ ph st a w (PH.le.refl _) r h)
theorem LW.skip (h : Q .normal st) : LW P .skip st Q := fun w0 ph a w r Q' k => wpIn_skip (k _ ph st a w (PH.le.refl _) r h)
theorem LW.cond {o : Operand} {b : Bool} (hc : ev st.env o = .raw (.bool b)) (ht : b = true → LW P x st Q) (hf : b = false → LW P y st Q) : LW P (.cond o x y) st Q := fun w0 ph a w r Q' k => by
  have hr := r.tmps.eval o
  rw [hc] at hr
  exact wpIn_cond_split hr.rawE (fun h => ht h w0 ph a w r Q' k) (fun h => hf h w0 ph a w r Q' k)

/-- The one state says no less than the other. -/
def EnvLe : List (Nat × LV) → List (Nat × LV) → Prop
  | [], _ => True
  | (d, v) :: r, e => get e d = v ∧ EnvLe r e
theorem EnvLe.get {e : List (Nat × LV)} : ∀ {r : List (Nat × LV)}, EnvLe r e → ∀ d, get r d = .any ∨ get r d = L.get e d
  | [], _, d => .inl rfl
  | (i, v) :: r, h, d => by
    by_cases hi : i = d
    · subst hi
      rw [get_same]
      exact .inr h.1.symm
    · rw [get_other hi]
      exact h.2.get d
theorem EnvLe.env {e r : List (Nat × LV)} (h : EnvLe r e) {ph : PH} {a : Act} (k : Env ph e a) : Env ph r a := fun d => by
  rcases h.get d with h | h
  · rw [h]; exact .any _
  · rw [h]; exact k d
structure Le (st s2 : LS) : Prop where
  n : st.n = s2.n
  env : EnvLe s2.env st.env
  heap : HSub st.heap s2.heap
theorem Le.rels {s2 : LS} (h : Le st s2) {w0 : Base} {ph : PH} {a : Act} {w : World} (r : Rels w0 ph st a w) : Rels w0 ph s2 a w := ⟨h.heap.app r.inv, h.n ▸ r.defers, h.n ▸ r.size, h.env.env r.tmps⟩
theorem LW.weaken {s2 : LS} (h : Le st s2) (k : LW P c s2 Q) : LW P c st Q := fun w0 ph a w r Q' q => k w0 ph a w (h.rels r) Q' q
/-- The ways meet again: what is said of all of them. -/
theorem LW.meet {α : Type} (F : α → LS) (φ : α → Prop) (h : LW P x st (fun e s => match e with | .normal => ∃ p, φ p ∧ Le s (F p) | e => after P t Q e s)) (k : ∀ p, φ p → LW P y (F p) (after P t Q)) : LW P (.seq x y) st (after P t Q) :=
  LW.seq (h.mono fun e s q => by
    cases e with
    | normal => obtain ⟨p, hp, hle⟩ := q; exact (k p hp).weaken hle
    | exit i => exact q
    | goto i => exact q
    | ret => exact q
    | panic i => exact q
    | outgrown => exact q)
/-- A loop: what is said of each round's beginning, by parameters; a number falls. -/
theorem LW.loop {α : Type} (F : α → LS) (φ : α → Prop) (μ : α → Nat) (p0 : α) (h0 : φ p0) (hle : Le st (F p0))
    (round : ∀ p, φ p → LW P c (F p) (fun e s => match e with | .normal => ∃ q, φ q ∧ Le s (F q) ∧ μ q < μ p | e => Q e s)) : LW P (.loop c) st Q := fun w0 ph a w r Q' k => by
  refine wpIn_loop_ghost (fun n a w => ∃ p ph', φ p ∧ μ p = n ∧ PH.le ph ph' ∧ Rels w0 ph' (F p) a w) (μ p0) ⟨p0, ph, h0, rfl, PH.le.refl _, hle.rels r⟩ ?_
  rintro n a1 w1 ⟨p, ph1, hp, rfl, hle1, r1⟩
  refine round p hp w0 ph1 a1 w1 r1 _ fun e ph2 s2 a2 w2 hle2 r2 q => ?_
  cases e with
  | normal =>
    obtain ⟨p', hp', hl, hm⟩ := q
    exact ⟨μ p', hm, p', ph2, hp', rfl, hle1.trans hle2, hl.rels r2⟩
  | exit i => exact k _ ph2 s2 a2 w2 (hle1.trans hle2) r2 q
  | goto i => exact k _ ph2 s2 a2 w2 (hle1.trans hle2) r2 q
  | ret => exact k _ ph2 s2 a2 w2 (hle1.trans hle2) r2 q
  | panic i => exact k _ ph2 s2 a2 w2 (hle1.trans hle2) r2 q
  | outgrown => exact k _ ph2 s2 a2 w2 (hle1.trans hle2) r2 q
/-- Slots that stay. -/
def keep (live : List Nat) (e : List (Nat × LV)) : List (Nat × LV) := live.map fun d => (d, get e d)
def Keeps : List Nat → List (Nat × LV) → List (Nat × LV) → Prop
  | [], _, _ => True
  | d :: l, e0, e => L.get e d = L.get e0 d ∧ Keeps l e0 e
theorem Keeps.nil {e0 e : List (Nat × LV)} : Keeps [] e0 e := trivial
theorem Keeps.cons {d : Nat} {l : List Nat} {e0 e : List (Nat × LV)} (h : L.get e d = L.get e0 d) (k : Keeps l e0 e) : Keeps (d :: l) e0 e := ⟨h, k⟩
theorem EnvLe.nil {e : List (Nat × LV)} : EnvLe [] e := trivial
theorem EnvLe.cons {d : Nat} {v : LV} {r e : List (Nat × LV)} (h : L.get e d = v) (k : EnvLe r e) : EnvLe ((d, v) :: r) e := ⟨h, k⟩
theorem EnvLe.app {e : List (Nat × LV)} : ∀ {r s : List (Nat × LV)}, EnvLe r e → EnvLe s e → EnvLe (r ++ s) e
  | [], _, _, k => k
  | (d, v) :: r, s, h, k => ⟨h.1, EnvLe.app h.2 k⟩
theorem Keeps.le {e0 e : List (Nat × LV)} : ∀ {l : List Nat}, Keeps l e0 e → EnvLe (keep l e0) e
  | [], _ => trivial
  | d :: l, h => ⟨h.1, Keeps.le (l := l) h.2⟩
theorem Keeps.refl (e : List (Nat × LV)) : ∀ (l : List Nat), Keeps l e e
  | [] => trivial
  | d :: l => ⟨rfl, Keeps.refl e l⟩
/-- What a round hands on. -/
structure Next {α : Type} (n : NN) (mod : α → List (Nat × LV)) (live : List Nat) (e0 : List (Nat × LV)) (hp : α → List Atom) (φ : α → Prop) (μ : α → Nat) (p : α) (s : LS) : Prop where
  ex : ∃ q, φ q ∧ EnvLe (mod q) s.env ∧ Keeps live e0 s.env ∧ s.n = n ∧ HSub s.heap (hp q) ∧ μ q < μ p
theorem Next.mk' {α : Type} {n : NN} {mod : α → List (Nat × LV)} {live : List Nat} {e0 : List (Nat × LV)} {hp : α → List Atom} {φ : α → Prop} {μ : α → Nat} {p : α} {s : LS} (q : α) (hn : s.n = n) (hm : EnvLe (mod q) s.env) (hk : Keeps live e0 s.env) (hh : HSub s.heap (hp q)) (h1 : φ q) (h2 : μ q < μ p) : Next n mod live e0 hp φ μ p s := ⟨q, h1, hm, hk, hn, hh, h2⟩
/-- A loop: by slots that turn (told by parameters), slots that stay, what is owned. -/
theorem LW.loopK {α : Type} (mod : α → List (Nat × LV)) (live : List Nat) (hp : α → List Atom) (φ : α → Prop) (μ : α → Nat) (p0 : α) (hm : EnvLe (mod p0) st.env) (hh : HSub st.heap (hp p0)) (h0 : φ p0)
    (round : ∀ p, φ p → LW P c ⟨st.n, mod p ++ keep live st.env, hp p⟩ (after P (.rnd (Next st.n mod live st.env hp φ μ p) :: t) Q)) : LW P (.loop c) st (after P t Q) := by
  refine LW.loop (fun p => ⟨st.n, mod p ++ keep live st.env, hp p⟩) φ μ p0 h0 ⟨rfl, hm.app (Keeps.refl _ _).le, hh⟩ fun p hp' => (round p hp').mono fun e s q => ?_
  cases e with
  | normal =>
    obtain ⟨q, h1, h2, h3, h4, h5, h6⟩ := q.ex
    exact ⟨q, h1, ⟨h4, h2.app h3.le, h5⟩, h6⟩
  | exit i => exact q
  | goto i => exact q
  | ret => exact q
  | panic i => exact q
  | outgrown => exact q
/-- What a way hands on where ways meet again. -/
structure Meets {α : Type} (n : NN) (mod : α → List (Nat × LV)) (live : List Nat) (e0 : List (Nat × LV)) (hp : α → List Atom) (φ : α → Prop) (s : LS) : Prop where
  ex : ∃ q, φ q ∧ EnvLe (mod q) s.env ∧ Keeps live e0 s.env ∧ s.n = n ∧ HSub s.heap (hp q)
theorem Meets.mk' {α : Type} {n : NN} {mod : α → List (Nat × LV)} {live : List Nat} {e0 : List (Nat × LV)} {hp : α → List Atom} {φ : α → Prop} {s : LS} (q : α) (hn : s.n = n) (hm : EnvLe (mod q) s.env) (hk : Keeps live e0 s.env) (hh : HSub s.heap (hp q)) (h1 : φ q) : Meets n mod live e0 hp φ s := ⟨q, h1, hm, hk, hn, hh⟩
/-- Ways that meet again, told in the same manner. -/
theorem LW.meetK {α : Type} (mod : α → List (Nat × LV)) (live : List Nat) (hp : α → List Atom) (φ : α → Prop) (h : LW P x st (after P (.rnd (Meets st.n mod live st.env hp φ) :: t) Q)) (k : ∀ p, φ p → LW P y ⟨st.n, mod p ++ keep live st.env, hp p⟩ (after P t Q)) : LW P (.seq x y) st (after P t Q) := by
  refine LW.meet (fun p => ⟨st.n, mod p ++ keep live st.env, hp p⟩) φ (h.mono fun e s q => ?_) k
  cases e with
  | normal =>
    obtain ⟨q, h1, h2, h3, h4, h5⟩ := q.ex
    exact ⟨q, h1, ⟨h4, h2.app h3.le, h5⟩⟩
  | exit i => exact q
  | goto i => exact q
  | ret => exact q
  | panic i => exact q
  | outgrown => exact q
theorem after_code (h : LW P c st (after P t Q)) : after P (.code c :: t) Q .normal st := h
theorem after_blk {id : Nat} (h : after P t Q .normal st) : after P (.blk id :: t) Q .normal st := h
theorem after_rnd {nxt : LS → Prop} (h : nxt st) : after P (.rnd nxt :: t) Q .normal st := h
theorem after_end {e : Exit} (h : Q e st) : after P [] Q e st := h
theorem exit_code {i : Nat} (h : after P t Q (.exit i) st) : after P (.code c :: t) Q (.exit i) st := h
theorem exit_rnd {nxt : LS → Prop} {i : Nat} (h : after P t Q (.exit i) st) : after P (.rnd nxt :: t) Q (.exit i) st := h
theorem exit_blk {i : Nat} (h : after P t Q .normal st) : after P (.blk i :: t) Q (.exit i) st := by simpa [after] using h
theorem exit_blk' {i j : Nat} (hij : Nat.beq i j = false) (h : after P t Q (.exit i) st) : after P (.blk j :: t) Q (.exit i) st := by simpa only [after, hij, cond_false] using h
theorem ret_code (h : after P t Q .ret st) : after P (.code c :: t) Q .ret st := h
theorem ret_rnd {nxt : LS → Prop} (h : after P t Q .ret st) : after P (.rnd nxt :: t) Q .ret st := h
theorem ret_blk {i : Nat} (h : after P t Q .ret st) : after P (.blk i :: t) Q .ret st := h
end

/-! ### functions -/
/-- A call: what it gives and what is owned then. -/
def LCalls (P : Program) (f : FuncId) (args : List LV) (H : List Atom) (post : LV → List Atom → Prop) : Prop :=
  ∀ (R : List Atom) w0 ph w (vs : Array Value), Inv w0 ph w (H ++ R) → Reps ph vs args →
    Calls P f vs w fun e w' => ∃ v ph' r H', e = .returned v ∧ PH.le ph ph' ∧ Inv w0 ph' w' (H' ++ R) ∧ Rep ph' v r ∧ post r H'
theorem LCalls.mono {P : Program} {f : FuncId} {args : List LV} {H : List Atom} {post post' : LV → List Atom → Prop} (h : LCalls P f args H post) (hp : ∀ r H', post r H' → post' r H') : LCalls P f args H post' :=
  fun R w0 ph w vs i r => (h R w0 ph w vs i r).mono fun e w' ⟨v, ph', x, H', h1, h2, h3, h4, h5⟩ => ⟨v, ph', x, H', h1, h2, h3, h4, hp _ _ h5⟩
def envOf : Nat → List LV → List (Nat × LV)
  | _, [] => []
  | k, v :: l => (k, v) :: envOf (k + 1) l
theorem get_envOf : ∀ (l : List LV) (k d : Nat), get (envOf k l) d = if k ≤ d then (l[d - k]?).getD .any else .any
  | [], k, d => by simp [envOf, get]
  | v :: l, k, d => by
    by_cases hk : k = d
    · subst hk
      simp [envOf, get_same]
    · rw [envOf, get_other hk, get_envOf l (k + 1) d]
      by_cases hle : k ≤ d
      · rw [if_pos (by omega), if_pos hle]
        obtain ⟨m, rfl⟩ : ∃ m, d = k + 1 + m := ⟨d - (k + 1), by omega⟩
        rw [show k + 1 + m - (k + 1) = m by omega, show k + 1 + m - k = m + 1 by omega, List.getElem?_cons_succ]
      · rw [if_neg (by omega), if_neg hle]
/-- What the named results are at a state. -/
def Res (P : Program) (rs : Array ResultVar) (st : LS) (r : LV) : Prop := ∀ w0 ph a w fn, fn.results = rs → Rels w0 ph st a w → ∃ v, (results fn a.tmps).run P w = .ok v w ∧ Rep ph v r
/-- What is said of a value is said of it by the other one too. -/
def Is (x y : LV) : Prop := ∀ ph u, Rep ph u x → Rep ph u y
theorem Is.rfl' {x : LV} : Is x x := fun _ _ h => h
theorem Res.none {P : Program} {st : LS} : Res P #[] st (.tup []) := fun w0 ph a w fn h r => ⟨.tuple #[], results_none h _ _ _, .tup _ _ rfl (by simp)⟩
theorem Res.one {P : Program} {st : LS} {t : Tmp} {r : LV} (hr : Is (get st.env t) r) : Res P #[.tmp t] st r := fun w0 ph a w fn h rl => ⟨_, results_tmp h _ _ _, hr _ _ (rl.tmps t)⟩
theorem Res.two {P : Program} {st : LS} {t u : Tmp} {r s : LV} (hr : Is (get st.env t) r) (hs : Is (get st.env u) s) : Res P #[.tmp t, .tmp u] st (.tup [r, s]) := fun w0 ph a w fn h rl =>
  ⟨_, results_tmp2 h _ _ _, .tup _ _ rfl fun i c x h1 h2 => by
    match i with
    | 0 => simp at h1 h2; subst h1; subst h2; exact hr _ _ (by simpa using rl.tmps t)
    | 1 => simp at h1 h2; subst h1; subst h2; exact hs _ _ (by simpa using rl.tmps u)
    | k + 2 => simp at h1⟩
theorem Res.three {P : Program} {st : LS} {t u z : Tmp} {r s q : LV} (hr : Is (get st.env t) r) (hs : Is (get st.env u) s) (hq : Is (get st.env z) q) : Res P #[.tmp t, .tmp u, .tmp z] st (.tup [r, s, q]) := fun w0 ph a w fn h rl =>
  ⟨.tuple #[a.tmps.getD t undef, a.tmps.getD u undef, a.tmps.getD z undef], by simp [results, h], .tup _ _ rfl fun i c x h1 h2 => by
    match i with
    | 0 => simp at h1 h2; subst h1; subst h2; exact hr _ _ (by simpa using rl.tmps t)
    | 1 => simp at h1 h2; subst h1; subst h2; exact hs _ _ (by simpa using rl.tmps u)
    | 2 => simp at h1 h2; subst h1; subst h2; exact hq _ _ (by simpa using rl.tmps z)
    | k + 3 => simp at h1⟩
theorem Inv.ro {w0 : Base} {ph : PH} {w : World} {H : List Atom} (h : Inv w0 ph w H) (ro : Option Nat) : Inv ⟨w0.w, ro⟩ ph w H := ⟨h.below, h.cell, h.one, h.own⟩
theorem Inv.ro' {w0 : Base} {ro : Option Nat} {ph : PH} {w : World} {H : List Atom} (h : Inv ⟨w0.w, ro⟩ ph w H) : Inv w0 ph w H := ⟨h.below, h.cell, h.one, h.own⟩
theorem leaves_mono {F : Fence} {n : Nat} {P : Program} {fn : Func} {tmps : Array Value} {R R' : Ending → World → Prop} (h : ∀ e w, R e w → R' e w) : ∀ {ds : List Deferred} {u : FrameMode} {w : World}, LeavesInM F n P fn tmps R ds u w → LeavesInM F n P fn tmps R' ds u w
  | [], .returning, w, ⟨v, h1, h2⟩ => ⟨v, h1, h _ _ h2⟩
  | [], .panicking c, w, h1 => h _ _ h1
  | [], .run, w, h1 => h1
  | d :: ds, u, w, ⟨h1, h2⟩ => by
    refine ⟨h1, ?_⟩
    rcases h2 with ⟨r, w', h3, h4, h5⟩ | ⟨hn, fv, cap, f, args, h3, h4, h5, h6⟩
    · exact .inl ⟨r, w', h3, h4, leaves_mono h h5⟩
    · refine .inr ⟨hn, fv, cap, f, args, h3, h4, h5, h6.mono fun e u' w' q => ?_⟩
      cases e with
      | returned v => exact leaves_mono h q
      | panicked c => exact leaves_mono h q
      | outgrown => exact h _ _ q
/-- A function that leaves: what is deferred is carried out, then the results are told. -/
def Leaves (P : Program) (rs : Array ResultVar) (R : List Atom) (post : LV → List Atom → Prop) (s : LS) : Prop :=
  ∀ (w0 : Base) ph a w fn, fn.results = rs → Rels w0 ph s a w → LeavesInM Fence.wide 0 P fn a.tmps (fun e w' => ∃ v ph' r H', e = .returned v ∧ PH.le ph ph' ∧ Inv w0 ph' w' (H' ++ R) ∧ Rep ph' v r ∧ post r H') a.defers .returning w
/-- How a function's body ends. -/
def Ends (P : Program) (rs : Array ResultVar) (R : List Atom) (post : LV → List Atom → Prop) (e : Exit) (s : LS) : Prop := (e = .normal ∨ e = .ret) ∧ Leaves P rs R post s
theorem Leaves.plain {P : Program} {rs : Array ResultVar} {R H' : List Atom} {post : LV → List Atom → Prop} {s : LS} {r : LV} (hd : s.n.df = []) (hr : Res P rs s r) (hh : HSub s.heap (H' ++ R)) (hp : post r H') : Leaves P rs R post s := fun w0 ph a w fn hfn rl => by
  rw [rl.defers.1, hd]
  obtain ⟨v, hrun, hrep⟩ := hr w0 ph a w fn hfn rl
  exact ⟨v, hrun, v, ph, r, H', rfl, PH.le.refl _, hh.app rl.inv, hrep, hp⟩
theorem LCalls.of {P : Program} {f : FuncId} {fn : Func} {c : Code} {args : List LV} {H : List Atom} {post : LV → List Atom → Prop} {n : Nat} {rs : Array ResultVar} (hf : P.funcs[f]? = some fn) (hb : fn.body = some c) (hn : fn.ntmps = n) (hrs : fn.results = rs) (hl : Nat.ble args.length n = true)
    (h : ∀ R, LW P c ⟨⟨n, [], true⟩, envOf 0 args, H ++ R⟩ (after P [] (Ends P rs R post))) : LCalls P f args H post := fun R w0 ph w vs hi hr => by
  have hl' : vs.size ≤ n := by rw [hr.1]; simpa using hl
  refine callsIn_wide.1 (callsIn_of_wp_marks (n := 0) hf hb trivial (h R ⟨w0.w, none⟩ ph _ w ⟨hi.ro none, ⟨rfl, fun _ => rfl⟩, by simp [hn]; omega, fun d => ?_⟩ _ fun e ph' st' a' w' hle r' q => ?_))
  · rw [get_envOf, if_pos (Nat.zero_le _), Nat.sub_zero]
    by_cases hd : d < vs.size
    · have hd' : d < args.length := hr.1 ▸ hd
      have h1 : ((vs ++ Array.replicate (fn.ntmps - vs.size) undef).getD d undef) = vs[d] := by
        simp [Array.getElem?_append, hd]
      rw [h1, List.getElem?_eq_getElem hd', Option.getD_some]
      exact hr.2 d _ _ (Array.getElem?_eq_getElem hd) (List.getElem?_eq_getElem hd')
    · have : args[d]? = none := by rw [List.getElem?_eq_none_iff, ← hr.1]; omega
      rw [this]
      exact .any _
  · obtain ⟨he, hlv⟩ := q
    have := leaves_mono (fun (e : Ending) w' ⟨v, ph2, r, H', h1, h2, h3, h4, h5⟩ => (⟨v, ph2, r, H', h1, hle.trans h2, h3.ro', h4, h5⟩ : ∃ v ph2 r H', e = Ending.returned v ∧ PH.le ph ph2 ∧ Inv w0 ph2 w' (H' ++ R) ∧ Rep ph2 v r ∧ post r H')) (hlv _ ph' a' w' fn hrs r')
    rcases he with rfl | rfl <;> exact this

/-! ### operations -/
/-- One operation (its guard aside). -/
def LO (P : Program) (o : Oper) (st : LS) (K : LS → Prop) : Prop :=
  ∀ w0 ph a w, Rels w0 ph st a w → ∀ N Q, (∀ ph' st' a' w', PH.le ph ph' → Rels w0 ph' st' a' w' → K st' → N a' w') → owp P o a w N Q
/-- The operations of a region, one after the other. -/
def LL (P : Program) (ops : Array Oper) (l : List Oper) (st : LS) (K : LS → Prop) : Prop :=
  ∀ w0 ph a w, Rels w0 ph st a w → ∀ Q : Exit → Act → World → Prop, (∀ ph' st' a' w', PH.le ph ph' → Rels w0 ph' st' a' w' → K st' → Q .normal a' w') → olist P ops Q l a w
section
variable {P : Program} {ops : Array Oper} {st : LS} {K : LS → Prop} {l : List Oper} {o : Oper}
theorem LW.region {id : Nat} {l : List Oper} {Q : Exit → LS → Prop} (h : LL P l.toArray l st (fun s => Q .normal s)) (hd : noDefer l = true := by kernel_rfl) : LW P (.region id l.toArray false) st Q := fun w0 ph a w r Q' k =>
  wpIn_region_lit (olist_in hd <| h w0 ph a w r Q' fun ph' st' a' w' hle r' q => k _ ph' st' a' w' hle r' q)
theorem LL.nil (h : K st) : LL P ops [] st K := fun w0 ph a w r Q k => olist_nil (k ph st a w (PH.le.refl _) r h)
theorem LL.op (hg : o.guard = none) (h : LO P o st (fun s => LL P ops l s K)) : LL P ops (o :: l) st K := fun w0 ph a w r Q k =>
  olist_plain hg fun N hN => h w0 ph a w r N Q fun ph' st' a' w' hle r' q => hN _ _ (q w0 ph' a' w' r' Q fun ph2 st2 a2 w2 hle2 r2 q2 => k ph2 st2 a2 w2 (hle.trans hle2) r2 q2)
theorem yields {ph : PH} {env : List (Nat × LV)} {a : Act} (h : Env ph env a) {j d : Nat} (hd : (ops[j]?).bind (·.dst) = some d) {b : Bool} (hb : get env d = .raw (.bool b)) : yielded ops a.tmps j = some b := by
  have := h d
  rw [hb] at this
  have hv := this.rawE
  unfold yielded
  rw [hd]
  simp only [Option.bind_some]
  have hs : a.tmps[d]? = some (.bool b) := by
    rw [Array.getD_eq_getD_getElem?] at hv
    cases hx : a.tmps[d]? with
    | none => rw [hx] at hv; simp [undef] at hv
    | some u => rw [hx] at hv; simpa using hv
  rw [hs]
/-- An operation under a guard, the way parted. -/
theorem LL.opG {j : Nat} {want : Bool} (hg : o.guard = some (j, want)) {d : Nat} (hd : (ops[j]?).bind (·.dst) = some d) {b : Bool} (hb : get st.env d = .raw (.bool b)) {dd : Nat} (hdd : o.dst = some dd) (hds : Nat.blt dd st.n.k = true)
    (ht : b = want → LO P o st (fun s => LL P ops l s K)) (hf : b = (!want) → LL P ops l ⟨st.n, (dd, .any) :: st.env, st.heap⟩ K) : LL P ops (o :: l) st K := fun w0 ph a w r Q k =>
  olist_step fun N hN => by
    have hy := yields r.tmps hd hb
    by_cases hw : b = want
    · rw [if_pos (by simp [Region.wanted, hg, hy, hw])]
      exact ht hw w0 ph a w r N Q fun ph' st' a' w' hle r' q => hN _ _ (q w0 ph' a' w' r' Q fun ph2 st2 a2 w2 hle2 r2 q2 => k ph2 st2 a2 w2 (hle.trans hle2) r2 q2)
    · rw [if_neg (by simp [Region.wanted, hg, hy, hw])]
      rw [hdd]
      refine hN _ _ (hf (by cases b <;> cases want <;> simp_all) w0 ph _ w (r.put (PH.le.refl _) r.inv hds (.any _)) Q k)

/-- A quiet operation: what is owned stays; the value is told; only what it looks at counts. -/
def LU (P : Program) (env : List (Nat × LV)) (H : List Atom) (o : Oper) (v : LV) : Prop :=
  ∀ w0 ph a w, Inv w0 ph w H → (∀ x ∈ o.op.operands, Rep ph (a.eval x) (ev env x)) → ∀ N Q, (∀ ph' u w', PH.le ph ph' → Inv w0 ph' w' H → Rep ph' u v → N (a.put o.dst u) w') → owp P o a w N Q
/-- The same with its guard. -/
def LQ (P : Program) (ops : Array Oper) (env : List (Nat × LV)) (H : List Atom) (o : Oper) (v : LV) : Prop :=
  ∀ w0 ph a w, Inv w0 ph w H → (∀ t ∈ o.looksAt ops, Rep ph (a.tmps.getD t undef) (get env t)) → ∀ N Q, (∀ ph' u w', PH.le ph ph' → Inv w0 ph' w' H → Rep ph' u v → N (a.put o.dst u) w') →
    if Region.wanted o (yielded ops a.tmps) then owp P o a w N Q else N (a.put o.dst undef) w
theorem looks_eval {ph : PH} {env : List (Nat × LV)} {a : Act} (h : ∀ t ∈ o.looksAt ops, Rep ph (a.tmps.getD t undef) (get env t)) : ∀ x ∈ o.op.operands, Rep ph (a.eval x) (ev env x) := fun x hx => by
  cases x with
  | tmp t => exact h t (List.mem_append_left _ (List.mem_filterMap.2 ⟨.tmp t, by simpa using hx, rfl⟩))
  | const v => exact .raw v
  | global g => exact .raw _
  | func f => exact .raw _
theorem LQ.plain {env : List (Nat × LV)} {H : List Atom} {v : LV} (hg : o.guard = none) (h : LU P env H o v) : LQ P ops env H o v := fun w0 ph a w hi hl N Q k => by
  rw [if_pos (by simp [Region.wanted, hg])]
  exact h w0 ph a w hi (looks_eval hl) N Q k
theorem yields' {ph : PH} {env : List (Nat × LV)} {a : Act} {d j : Nat} (hd : (ops[j]?).bind (·.dst) = some d) {b : Bool} (h : a.tmps.getD d undef = .bool b) : yielded ops a.tmps j = some b := by
  unfold yielded
  rw [hd]
  simp only [Option.bind_some]
  have hs : a.tmps[d]? = some (.bool b) := by
    rw [Array.getD_eq_getD_getElem?] at h
    cases hx : a.tmps[d]? with
    | none => rw [hx] at h; simp [undef] at h
    | some u => rw [hx] at h; simpa using h
  rw [hs]
/-- What the guard's slot says: nothing, or a truth. -/
def GuardIs (env : List (Nat × LV)) (d : Nat) (g b : Bool) : Prop := ∀ ph u, Rep ph u (get env d) → (g = true → u = .bool b) ∧ (g = false → u = undef)
theorem GuardIs.raw {env : List (Nat × LV)} {d : Nat} {b : Bool} (h : get env d = .raw (.bool b)) : GuardIs env d true b := fun ph u r => by
  rw [h] at r
  exact ⟨fun _ => r.rawE, by simp⟩
theorem GuardIs.when {env : List (Nat × LV)} {d : Nat} {g b : Bool} (h : get env d = .when g (.raw (.bool b))) : GuardIs env d g b := fun ph u r => by
  rw [h] at r
  cases r with | when _ _ _ h1 h0 => exact ⟨fun hg => (h1 hg).rawE, h0⟩
theorem yielded_undef {a : Act} {d j : Nat} (hd : (ops[j]?).bind (·.dst) = some d) (h : a.tmps.getD d undef = undef) : yielded ops a.tmps j = none := by
  unfold yielded
  rw [hd]
  simp only [Option.bind_some]
  rw [Array.getD_eq_getD_getElem?] at h
  cases hx : a.tmps[d]? with
  | none => rfl
  | some u =>
    rw [hx] at h
    have h : u = undef := h
    rw [h]
    rfl
theorem LQ.guard {env : List (Nat × LV)} {H : List Atom} {v : LV} {j : Nat} {want : Bool} (hg : o.guard = some (j, want)) {d : Nat} (hd : (ops[j]?).bind (·.dst) = some d) {g b : Bool} (hb : GuardIs env d g b) (h : g = true → b = want → LU P env H o v) (q : Bool) (hq : q = true ↔ g = true ∧ b = want) : LQ P ops env H o (.when q v) := fun w0 ph a w hi hl N Q k => by
  have hr := hb _ _ (hl d (List.mem_append_right _ (by simp [hg, hd])))
  by_cases hgb : g = true ∧ b = want
  · have hy := yields' (ops := ops) (ph := ph) (env := env) hd (hr.1 hgb.1)
    rw [if_pos (by simp [Region.wanted, hg, hy, hgb.2])]
    have hqt := hq.2 hgb
    exact h hgb.1 hgb.2 w0 ph a w hi (looks_eval hl) N Q fun ph' u w' hle hi' hr' => k ph' u w' hle hi' (.when _ _ _ (fun _ => hr') (fun h => by rw [hqt] at h; cases h))
  · have hw : Region.wanted o (yielded ops a.tmps) = false := by
      cases hgv : g with
      | true =>
        have hy := yields' (ops := ops) (ph := ph) (env := env) hd (hr.1 hgv)
        have : b ≠ want := fun e => hgb ⟨hgv, e⟩
        simp [Region.wanted, hg, hy, this]
      | false =>
        have hy := yielded_undef (ops := ops) hd (hr.2 hgv)
        simp [Region.wanted, hg, hy]
    rw [if_neg (by rw [hw]; simp)]
    exact k ph undef w (PH.le.refl _) hi (.when _ _ _ (fun h => (hgb (hq.1 h)).elim) (fun _ => rfl))
theorem LQ.guardT {env : List (Nat × LV)} {H : List Atom} {v : LV} {j : Nat} (hg : o.guard = some (j, true)) {d : Nat} (hd : (ops[j]?).bind (·.dst) = some d) {b : Bool} (hb : get env d = .raw (.bool b)) (h : b = true → LU P env H o v) : LQ P ops env H o (.when b v) := LQ.guard hg hd (GuardIs.raw hb) (fun _ => h) b (by simp)
theorem LQ.guardF {env : List (Nat × LV)} {H : List Atom} {v : LV} {j : Nat} (hg : o.guard = some (j, false)) {d : Nat} (hd : (ops[j]?).bind (·.dst) = some d) {b : Bool} (hb : get env d = .raw (.bool b)) (h : b = false → LU P env H o v) : LQ P ops env H o (.when (!b) v) := LQ.guard hg hd (GuardIs.raw hb) (fun _ => h) (!b) (by simp)
theorem LQ.guardT2 {env : List (Nat × LV)} {H : List Atom} {v : LV} {j : Nat} (hg : o.guard = some (j, true)) {d : Nat} (hd : (ops[j]?).bind (·.dst) = some d) {q b : Bool} (hb : get env d = .when q (.raw (.bool b))) (h : q = true → b = true → LU P env H o v) : LQ P ops env H o (.when (q && b) v) := LQ.guard hg hd (GuardIs.when hb) h (q && b) (by simp)
theorem LQ.guardF2 {env : List (Nat × LV)} {H : List Atom} {v : LV} {j : Nat} (hg : o.guard = some (j, false)) {d : Nat} (hd : (ops[j]?).bind (·.dst) = some d) {q b : Bool} (hb : get env d = .when q (.raw (.bool b))) (h : q = true → b = false → LU P env H o v) : LQ P ops env H o (.when (q && !b) v) := LQ.guard hg hd (GuardIs.when hb) h (q && !b) (by simp)
theorem LL.q {v : LV} {d : Nat} (hq : LQ P ops st.env st.heap o v) (hd : o.dst = some d) (hds : Nat.blt d st.n.k = true) (h : LL P ops l ⟨st.n, (d, v) :: st.env, st.heap⟩ K) : LL P ops (o :: l) st K := fun w0 ph a w r Q k =>
  olist_step fun N hN => by
    refine hq w0 ph a w r.inv (fun t _ => r.tmps t) N Q fun ph' u w' hle hi hr => hN _ _ ?_
    rw [hd]
    exact h w0 ph' _ w' (r.put hle hi hds hr) Q fun ph2 st2 a2 w2 hle2 r2 q2 => k ph2 st2 a2 w2 (hle.trans hle2) r2 q2
/-- A plain quiet operation. -/
theorem LL.u {v : LV} {d : Nat} {op : Op} {ty : TypeId} {pos : String} {af : Array Edge} (hq : LU P st.env st.heap ⟨some d, op, ty, pos, af, none⟩ v) (hds : Nat.blt d st.n.k = true) (h : LL P ops l ⟨st.n, (d, v) :: st.env, st.heap⟩ K) : LL P ops (⟨some d, op, ty, pos, af, none⟩ :: l) st K := LL.q (LQ.plain rfl hq) rfl hds h
/-- The same under a guard. -/
theorem LL.gT {ty : TypeId} {pos : String} {af : Array Edge} {v : LV} {d j dj : Nat} {op : Op} {b : Bool} (hd : (ops[j]?).bind (·.dst) = some dj) (hb : get st.env dj = .raw (.bool b)) (hq : b = true → LU P st.env st.heap ⟨some d, op, ty, pos, af, some (j, true)⟩ v) (hds : Nat.blt d st.n.k = true) (h : LL P ops l ⟨st.n, (d, .when b v) :: st.env, st.heap⟩ K) : LL P ops (⟨some d, op, ty, pos, af, some (j, true)⟩ :: l) st K := .q (.guardT rfl hd hb hq) rfl hds h
theorem LL.gF {ty : TypeId} {pos : String} {af : Array Edge} {v : LV} {d j dj : Nat} {op : Op} {b : Bool} (hd : (ops[j]?).bind (·.dst) = some dj) (hb : get st.env dj = .raw (.bool b)) (hq : b = false → LU P st.env st.heap ⟨some d, op, ty, pos, af, some (j, false)⟩ v) (hds : Nat.blt d st.n.k = true) (h : LL P ops l ⟨st.n, (d, .when (!b) v) :: st.env, st.heap⟩ K) : LL P ops (⟨some d, op, ty, pos, af, some (j, false)⟩ :: l) st K := .q (.guardF rfl hd hb hq) rfl hds h
theorem LL.gT2 {ty : TypeId} {pos : String} {af : Array Edge} {v : LV} {d j dj : Nat} {op : Op} {b : Bool} {q : Bool} (hd : (ops[j]?).bind (·.dst) = some dj) (hb : get st.env dj = .when q (.raw (.bool b))) (hq : q = true → b = true → LU P st.env st.heap ⟨some d, op, ty, pos, af, some (j, true)⟩ v) (hds : Nat.blt d st.n.k = true) (h : LL P ops l ⟨st.n, (d, .when (q && b) v) :: st.env, st.heap⟩ K) : LL P ops (⟨some d, op, ty, pos, af, some (j, true)⟩ :: l) st K := .q (.guardT2 rfl hd hb hq) rfl hds h
theorem LL.gF2 {ty : TypeId} {pos : String} {af : Array Edge} {v : LV} {d j dj : Nat} {op : Op} {b : Bool} {q : Bool} (hd : (ops[j]?).bind (·.dst) = some dj) (hb : get st.env dj = .when q (.raw (.bool b))) (hq : q = true → b = false → LU P st.env st.heap ⟨some d, op, ty, pos, af, some (j, false)⟩ v) (hds : Nat.blt d st.n.k = true) (h : LL P ops l ⟨st.n, (d, .when (q && !b) v) :: st.env, st.heap⟩ K) : LL P ops (⟨some d, op, ty, pos, af, some (j, false)⟩ :: l) st K := .q (.guardF2 rfl hd hb hq) rfl hds h
theorem LL.act {op : Op} {d : Option Nat} {ty : TypeId} {pos : String} {af : Array Edge} (h : LO P ⟨d, op, ty, pos, af, none⟩ st (fun s => LL P ops l s K)) : LL P ops (⟨d, op, ty, pos, af, none⟩ :: l) st K := LL.op rfl h
theorem LL.q0 {v : LV} (hq : LQ P ops st.env st.heap o v) (hd : o.dst = none) (h : LL P ops l st K) : LL P ops (o :: l) st K := fun w0 ph a w r Q k =>
  olist_step fun N hN => by
    refine hq w0 ph a w r.inv (fun t _ => r.tmps t) N Q fun ph' u w' hle hi hr => hN _ _ ?_
    rw [hd]
    exact h w0 ph' _ w' (r.put0 hle hi u) Q fun ph2 st2 a2 w2 hle2 r2 q2 => k ph2 st2 a2 w2 (hle.trans hle2) r2 q2
end
end Go.L
