/- The logic's rules once more, at states that are written out. Plain theorems over any program. -/
import Derived.Test.YtcemodldbfiomaaLogI
set_option linter.unusedVariables false
set_option linter.unusedSimpArgs false
namespace Go.L
open Go.RowKit

theorem IsR {x : LV} {v : Value} (h : x = .raw v) : Is x (.raw v) := .of h
theorem IsA {x : LV} {cs : List LV} (h : x = .agg cs) : Is x (.agg cs) := .of h
theorem IsT {x : LV} {cs : List LV} (h : x = .tup cs) : Is x (.tup cs) := .of h
theorem IsP {x : LV} {cs : List LV} (h : x = .pin cs) : Is x (.pin cs) := .of h
theorem IsS {x : LV} {size : Nat} {es : List (List LV)} {k : Cap} (h : x = .sl size es k) : Is x (.sl size es .unk) := (Is.of h).trans Is.unk
theorem asB {x : LV} {b c : Bool} (h : x = .raw (.bool b)) (hb : b = c) : Is x (.raw (.bool c)) := .of (by rw [h, hb])
theorem asI {x : LV} {k : IntKind} {a b : Int} (h : x = .raw (.int k a)) (hb : a = b) : Is x (.raw (.int k b)) := .of (by rw [h, hb])
theorem asS {x : LV} {size : Nat} {es fs : List (List LV)} {k : Cap} (h : x = .sl size es k) (hb : es = fs) : Is x (.sl size fs k) := .of (by rw [h, hb])
theorem HSub.mid {a : Atom} {H K : List Atom} : HSub (a :: (H ++ K)) (H ++ (a :: K)) := HSub.perm List.perm_middle.symm
theorem HSub.pick {a : Atom} {H K : List Atom} (k : Nat) (hk : H[k]? = some a) (h : HSub (H.eraseIdx k) K) : HSub H (a :: K) := (hsub_front hk).trans (HSub.cons h)
namespace X
section
variable {P : Program} {ops : Array Oper} {n : NN} {env : List (Nat × LV)} {H : List Atom} {K : LS → Prop} {l : List Oper} {ty : TypeId} {pos : String} {af : Array Edge} {g : Option (Nat × Bool)}
theorem u {v : LV} {d : Nat} {op : Op} (hq : LU P env H ⟨some d, op, ty, pos, af, none⟩ v) (hds : Nat.blt d n.k = true) (h : LL P ops l ⟨n, (d, v) :: env, H⟩ K) : LL P ops (⟨some d, op, ty, pos, af, none⟩ :: l) ⟨n, env, H⟩ K := LL.u hq hds h
theorem gT {v : LV} {d j dj : Nat} {op : Op} {b : Bool} (hd : (ops[j]?).bind (·.dst) = some dj) (hb : get env dj = .raw (.bool b)) (hq : b = true → LU P env H ⟨some d, op, ty, pos, af, some (j, true)⟩ v) (hds : Nat.blt d n.k = true) (h : LL P ops l ⟨n, (d, .when b v) :: env, H⟩ K) : LL P ops (⟨some d, op, ty, pos, af, some (j, true)⟩ :: l) ⟨n, env, H⟩ K := LL.gT hd hb hq hds h
theorem gF {v : LV} {d j dj : Nat} {op : Op} {b : Bool} (hd : (ops[j]?).bind (·.dst) = some dj) (hb : get env dj = .raw (.bool b)) (hq : b = false → LU P env H ⟨some d, op, ty, pos, af, some (j, false)⟩ v) (hds : Nat.blt d n.k = true) (h : LL P ops l ⟨n, (d, .when (!b) v) :: env, H⟩ K) : LL P ops (⟨some d, op, ty, pos, af, some (j, false)⟩ :: l) ⟨n, env, H⟩ K := LL.gF hd hb hq hds h
theorem gT2 {v : LV} {d j dj : Nat} {op : Op} {b q : Bool} (hd : (ops[j]?).bind (·.dst) = some dj) (hb : get env dj = .when q (.raw (.bool b))) (hq : q = true → b = true → LU P env H ⟨some d, op, ty, pos, af, some (j, true)⟩ v) (hds : Nat.blt d n.k = true) (h : LL P ops l ⟨n, (d, .when (q && b) v) :: env, H⟩ K) : LL P ops (⟨some d, op, ty, pos, af, some (j, true)⟩ :: l) ⟨n, env, H⟩ K := LL.gT2 hd hb hq hds h
theorem gF2 {v : LV} {d j dj : Nat} {op : Op} {b q : Bool} (hd : (ops[j]?).bind (·.dst) = some dj) (hb : get env dj = .when q (.raw (.bool b))) (hq : q = true → b = false → LU P env H ⟨some d, op, ty, pos, af, some (j, false)⟩ v) (hds : Nat.blt d n.k = true) (h : LL P ops l ⟨n, (d, .when (q && !b) v) :: env, H⟩ K) : LL P ops (⟨some d, op, ty, pos, af, some (j, false)⟩ :: l) ⟨n, env, H⟩ K := LL.gF2 hd hb hq hds h
theorem lq_skip {o : Oper} {j d : Nat} {want b : Bool} (hg : o.guard = some (j, want)) (hd : (ops[j]?).bind (·.dst) = some d) (hb : get env d = .raw (.bool b)) (hne : b ≠ want) : LQ P ops env H o (.raw undef) := fun w0 ph a w hi hl N Q k => by
  have hr := hl d (List.mem_append_right _ (by simp [hg, hd]))
  rw [hb] at hr
  have hy := yields' (ops := ops) (ph := ph) (env := env) hd hr.rawE
  rw [if_neg (by simp [Region.wanted, hg, hy, hne])]
  exact k ph undef w (PH.le.refl _) hi (.raw _)
theorem lq_skipU {o : Oper} {j d : Nat} {want : Bool} (hg : o.guard = some (j, want)) (hd : (ops[j]?).bind (·.dst) = some d) (hb : get env d = .raw undef) : LQ P ops env H o (.raw undef) := fun w0 ph a w hi hl N Q k => by
  have hr := hl d (List.mem_append_right _ (by simp [hg, hd]))
  rw [hb] at hr
  have hy := yielded_undef (ops := ops) hd hr.rawE
  rw [if_neg (by simp [Region.wanted, hg, hy])]
  exact k ph undef w (PH.le.refl _) hi (.raw _)
theorem lq_skip2 {o : Oper} {j d : Nat} {want b : Bool} (hg : o.guard = some (j, want)) (hd : (ops[j]?).bind (·.dst) = some d) (hb : get env d = .when false (.raw (.bool b))) : LQ P ops env H o (.when false (.raw (.bool b))) := fun w0 ph a w hi hl N Q k => by
  have hr := hl d (List.mem_append_right _ (by simp [hg, hd]))
  have hy := yielded_undef (ops := ops) hd (((GuardIs.when hb) _ _ hr).2 rfl)
  rw [if_neg (by simp [Region.wanted, hg, hy])]
  exact k ph undef w (PH.le.refl _) hi (.when _ _ _ (by simp) (fun _ => rfl))
theorem lq_do {o : Oper} {v : LV} {j d : Nat} {want : Bool} (hg : o.guard = some (j, want)) (hd : (ops[j]?).bind (·.dst) = some d) (hb : get env d = .raw (.bool want)) (h : LU P env H o v) : LQ P ops env H o v := fun w0 ph a w hi hl N Q k => by
  have hr := hl d (List.mem_append_right _ (by simp [hg, hd]))
  rw [hb] at hr
  have hy := yields' (ops := ops) (ph := ph) (env := env) hd hr.rawE
  rw [if_pos (by simp [Region.wanted, hg, hy])]
  exact h w0 ph a w hi (looks_eval hl) N Q k
theorem doT {v : LV} {d j dj : Nat} {op : Op} (hd : (ops[j]?).bind (·.dst) = some dj) (hb : get env dj = .raw (.bool true)) (hq : LU P env H ⟨some d, op, ty, pos, af, some (j, true)⟩ v) (hds : Nat.blt d n.k = true) (h : LL P ops l ⟨n, (d, v) :: env, H⟩ K) : LL P ops (⟨some d, op, ty, pos, af, some (j, true)⟩ :: l) ⟨n, env, H⟩ K := LL.q (lq_do rfl hd hb hq) rfl hds h
theorem doF {v : LV} {d j dj : Nat} {op : Op} (hd : (ops[j]?).bind (·.dst) = some dj) (hb : get env dj = .raw (.bool false)) (hq : LU P env H ⟨some d, op, ty, pos, af, some (j, false)⟩ v) (hds : Nat.blt d n.k = true) (h : LL P ops l ⟨n, (d, v) :: env, H⟩ K) : LL P ops (⟨some d, op, ty, pos, af, some (j, false)⟩ :: l) ⟨n, env, H⟩ K := LL.q (lq_do rfl hd hb hq) rfl hds h
theorem skipF {d j dj : Nat} {op : Op} (hd : (ops[j]?).bind (·.dst) = some dj) (hb : get env dj = .raw (.bool true)) (hds : Nat.blt d n.k = true) (h : LL P ops l ⟨n, (d, .raw undef) :: env, H⟩ K) : LL P ops (⟨some d, op, ty, pos, af, some (j, false)⟩ :: l) ⟨n, env, H⟩ K := LL.q (lq_skip rfl hd hb (by simp)) rfl hds h
theorem skipT {d j dj : Nat} {op : Op} (hd : (ops[j]?).bind (·.dst) = some dj) (hb : get env dj = .raw (.bool false)) (hds : Nat.blt d n.k = true) (h : LL P ops l ⟨n, (d, .raw undef) :: env, H⟩ K) : LL P ops (⟨some d, op, ty, pos, af, some (j, true)⟩ :: l) ⟨n, env, H⟩ K := LL.q (lq_skip rfl hd hb (by simp)) rfl hds h
theorem skipU {d j dj : Nat} {op : Op} {want : Bool} (hd : (ops[j]?).bind (·.dst) = some dj) (hb : get env dj = .raw undef) (hds : Nat.blt d n.k = true) (h : LL P ops l ⟨n, (d, .raw undef) :: env, H⟩ K) : LL P ops (⟨some d, op, ty, pos, af, some (j, want)⟩ :: l) ⟨n, env, H⟩ K := LL.q (lq_skipU rfl hd hb) rfl hds h
theorem act {op : Op} {d : Option Nat} (h : LO P ⟨d, op, ty, pos, af, none⟩ ⟨n, env, H⟩ (fun s => LL P ops l s K)) : LL P ops (⟨d, op, ty, pos, af, none⟩ :: l) ⟨n, env, H⟩ K := LL.act h
/-- A guarded operation that acts, its guard told. -/
theorem actG {op : Op} {d : Option Nat} {j dj : Nat} {want : Bool} (hd : (ops[j]?).bind (·.dst) = some dj) (hb : get env dj = .raw (.bool want)) (h : LO P ⟨d, op, ty, pos, af, some (j, want)⟩ ⟨n, env, H⟩ (fun s => LL P ops l s K)) : LL P ops (⟨d, op, ty, pos, af, some (j, want)⟩ :: l) ⟨n, env, H⟩ K := fun w0 ph a w r Q k =>
  olist_step fun N hN => by
    have hy := yields r.tmps hd hb
    rw [if_pos (by simp [Region.wanted, hy])]
    exact h w0 ph a w r N Q fun ph' st' a' w' hle r' q => hN _ _ (q w0 ph' a' w' r' Q fun ph2 st2 a2 w2 hle2 r2 q2 => k ph2 st2 a2 w2 (hle.trans hle2) r2 q2)
/-- A guarded operation that acts, the ways parted. -/
theorem part {o : Oper} {j : Nat} {want : Bool} (hg : o.guard = some (j, want)) {d : Nat} (hd : (ops[j]?).bind (·.dst) = some d) {b : Bool} (hb : get env d = .raw (.bool b)) {dd : Nat} (hdd : o.dst = some dd) (hds : Nat.blt dd n.k = true)
    (ht : b = want → LO P o ⟨n, env, H⟩ (fun s => LL P ops l s K)) (hf : b = (!want) → LL P ops l ⟨n, (dd, .any) :: env, H⟩ K) : LL P ops (o :: l) ⟨n, env, H⟩ K := LL.opG hg hd hb hdd hds ht hf
theorem weak {t : Nat} {v : LV} (hs : Is (get env t) v) (h : LL P ops l ⟨n, (t, v) :: env, H⟩ K) : LL P ops l ⟨n, env, H⟩ K := LL.weak hs h
theorem ghost {H' : List Atom} (hs : HSub H H') (h : LL P ops l ⟨n, env, H'⟩ K) : LL P ops l ⟨n, env, H⟩ K := LL.ghost hs h
theorem wghost {c : Code} {Q : Exit → LS → Prop} {H' : List Atom} (hs : HSub H H') (h : LW P c ⟨n, env, H'⟩ Q) : LW P c ⟨n, env, H⟩ Q := LW.ghost hs h
theorem wweak {c : Code} {Q : Exit → LS → Prop} {t : Nat} {v : LV} (hs : Is (get env t) v) (h : LW P c ⟨n, (t, v) :: env, H⟩ Q) : LW P c ⟨n, env, H⟩ Q := LW.weakS hs h
theorem box {x : Operand} {t : TypeId} {d : Tmp} {v : LV} {xs : List LV} (hd : Nat.blt d n.k = true) (hx : Is (ev env x) v) (hc : Cells v xs) (h : ∀ b, K ⟨n, (d, .raw (.pointer (some ⟨b, 0, none⟩))) :: env, .cells b t xs :: H⟩) : LO P ⟨some d, .box t x, ty, pos, af, g⟩ ⟨n, env, H⟩ K := LO.box hd hx hc h
theorem alloc {t : TypeId} {d : Tmp} {z : Value} {xs : List LV} (hd : Nat.blt d n.k = true) (hz : ∀ w, (zeroValue t).run P w = .ok z w) (hc : Cells (.raw z) xs) (h : ∀ b, K ⟨n, (d, .raw (.pointer (some ⟨b, 0, none⟩))) :: env, .cells b t xs :: H⟩) : LO P ⟨some d, .alloc t, ty, pos, af, g⟩ ⟨n, env, H⟩ K := LO.alloc hd hz hc h
theorem store {x y : Operand} {t t' : TypeId} {size : Nat} {xs ys : List LV} {b off : Nat} {v : LV} (k : Nat) (hk : H[k]? = some (.cells b t' xs)) (hs : ∀ w, (sizeOf t).run P w = .ok size w) (hx : Is (ev env x) (.raw (.pointer (some ⟨b, off, none⟩)))) (hy : Is (ev env y) v) (hc : Cells v ys) (hys : ys.length = size) (hlen : off + size ≤ xs.length)
    (h : K ⟨n, env, .cells b t' (putAt xs off ys) :: H.eraseIdx k⟩) : LO P ⟨none, .store t x y, ty, pos, af, g⟩ ⟨n, env, H⟩ K := LO.store k hk hs hx hy hc hys hlen h
theorem append {s x : Operand} {t tx e : TypeId} {z : Value} {size by_ : Nat} {es ys : List (List LV)} {y : LV} {d : Tmp} {b o c : Nat} (k : Nat) (hk : H[k]? = some (.tail b o c)) (hd : Nat.blt d n.k = true) (ht : P.underlying t = some (.slice e)) (hel : El P e z size by_) (hs : Is (ev env s) (.sl size es (.tok b o c))) (hx : Is (ev env x) y) (hy : SrcL P tx size y ys) (hb : (es.length + ys.length) * by_ ≤ 140737488355328) (hb0 : es.length + ys.length ≤ 9223372036854775807)
    (h : ∀ b' o' c', K ⟨n, (d, .sl size (es ++ ys) (.tok b' o' c')) :: env, .tail b' o' c' :: H.eraseIdx k⟩) :
    LO P ⟨some d, .call { callee := .builtin .append, args := #[s, x], argTypes := #[t, tx] }, ty, pos, af, g⟩ ⟨n, env, H⟩ K := LO.append k hk hd ht hel hs hx hy hb hb0 h
/-- append(s, x..) where s has no room; the new room is ours. -/
theorem appendF {s x : Operand} {t tx e : TypeId} {z : Value} {size by_ : Nat} {es ys : List (List LV)} {y : LV} {d : Tmp} (hd : Nat.blt d n.k = true) (ht : P.underlying t = some (.slice e)) (hel : El P e z size by_) (hs : Is (ev env s) (.sl size es .full)) (hx : Is (ev env x) y) (hy : SrcL P tx size y ys) (hb : (es.length + ys.length) * by_ ≤ 140737488355328) (hb0 : es.length + ys.length ≤ 9223372036854775807)
    (h : ∀ b' o' c', K ⟨n, (d, .sl size (es ++ ys) (.tok b' o' c')) :: env, .tail b' o' c' :: H⟩) :
    LO P ⟨some d, .call { callee := .builtin .append, args := #[s, x], argTypes := #[t, tx] }, ty, pos, af, g⟩ ⟨n, env, H⟩ K := fun w0 ph a w r N Q k =>
  LO.append (st := ⟨n, env, .tail 0 0 0 :: H⟩) 0 rfl hd ht hel (hs.trans (Is.full_tok 0 0)) hx hy hb hb0 h w0 ph a w ⟨(HSub.tail0 0 0 0 (Nat.le_refl _) H).app r.inv, r.defers, r.size, r.tmps⟩ N Q k
theorem make {x y : Operand} {t e : TypeId} {z : Value} {by_ : Nat} {l c : Nat} {d : Tmp} {k1 k2 : IntKind} (hd : Nat.blt d n.k = true) (ht : P.underlying t = some (.slice e)) (hel : El P e z 1 by_) (hz : z.cells = #[z]) (hz1 : z.oneCell' = true) (hx : Is (ev env x) (.raw (.int k1 l))) (hy : Is (ev env y) (.raw (.int k2 c))) (hlc : l ≤ c) (hb : by_ * c ≤ 281474976710656) (hc : c ≤ 281474976710656)
    (h : ∀ b, K ⟨n, (d, .raw (.slice (some ⟨b, 0, none⟩) l c)) :: env, .cells b e (List.replicate c (.raw z)) :: H⟩) : LO P ⟨some d, .makeSlice t x y, ty, pos, af, g⟩ ⟨n, env, H⟩ K := LO.make hd ht hel hz hz1 hx hy hlc hb hc h
theorem make0 {x y : Operand} {t e : TypeId} {z : Value} {size by_ : Nat} {c : Nat} {d : Tmp} {k1 k2 : IntKind} (hd : Nat.blt d n.k = true) (ht : P.underlying t = some (.slice e)) (hel : El P e z size by_) (hx : Is (ev env x) (.raw (.int k1 0))) (hy : Is (ev env y) (.raw (.int k2 c))) (hb : by_ * c ≤ 281474976710656) (hc : c ≤ 281474976710656)
    (h : ∀ b o m, K ⟨n, (d, .sl size [] (.tok b o m)) :: env, .tail b o m :: H⟩) : LO P ⟨some d, .makeSlice t x y, ty, pos, af, g⟩ ⟨n, env, H⟩ K := LO.make0 hd ht hel hx hy hb hc h
theorem call {f : FuncId} {fn : Func} {as : Array Operand} {ts : Array TypeId} {vs : List LV} {Hc R : List Atom} {post : LV → List Atom → Prop} {d : Tmp} (hc : LCalls P f vs Hc post) (hf : P.funcs[f]? = some fn) (hname : (fn.name == "runtime.NumGoroutine") = false) (hb : fn.body.isSome = true) (hd : Nat.blt d n.k = true) (hsub : HSub H (Hc ++ R)) (ha : Opds env as.toList vs)
    (h : ∀ r H', post r H' → K ⟨n, (d, r) :: env, H' ++ R⟩) : LO P ⟨some d, .call { callee := .value (.func f), args := as, argTypes := ts }, ty, pos, af, g⟩ ⟨n, env, H⟩ K := LO.call hc hf hname hb hd hsub ha h
theorem call1 {f : FuncId} {fn : Func} {as : Array Operand} {ts : Array TypeId} {vs : List LV} {post : LV → List Atom → Prop} {d : Tmp} {a : Atom} (k : Nat) (hk : H[k]? = some a) (hc : LCalls P f vs [a] post) (hf : P.funcs[f]? = some fn) (hname : (fn.name == "runtime.NumGoroutine") = false) (hb : fn.body.isSome = true) (hd : Nat.blt d n.k = true) (ha : Opds env as.toList vs)
    (h : ∀ r H', post r H' → K ⟨n, (d, r) :: env, H' ++ H.eraseIdx k⟩) : LO P ⟨some d, .call { callee := .value (.func f), args := as, argTypes := ts }, ty, pos, af, g⟩ ⟨n, env, H⟩ K := LO.call1 k hk hc hf hname hb hd ha h
theorem callV {f : FuncId} {fn : Func} {t : Operand} {as : Array Operand} {ts : Array TypeId} {vs : List LV} {caps : Array Value} {Hc R : List Atom} {post : LV → List Atom → Prop} {d : Tmp} (hc : LCalls P f (vs ++ raws caps.toList) Hc post) (ht : Is (ev env t) (.raw (.func (.func f) #[] caps))) (hf : P.funcs[f]? = some fn) (hname : (fn.name == "runtime.NumGoroutine") = false) (hb : fn.body.isSome = true) (hd : Nat.blt d n.k = true) (hsub : HSub H (Hc ++ R)) (ha : Opds env as.toList vs)
    (h : ∀ r H', post r H' → K ⟨n, (d, r) :: env, H' ++ R⟩) : LO P ⟨some d, .call { callee := .value t, args := as, argTypes := ts }, ty, pos, af, g⟩ ⟨n, env, H⟩ K := LO.callV hc ht hf hname hb hd hsub ha h
section
variable {Q : Exit → LS → Prop} {t : List It} {x y c : Code}
theorem cond {o : Operand} {b : Bool} (hc : ev env o = .raw (.bool b)) (ht : b = true → LW P x ⟨n, env, H⟩ Q) (hf : b = false → LW P y ⟨n, env, H⟩ Q) : LW P (.cond o x y) ⟨n, env, H⟩ Q := LW.cond hc ht hf
theorem condT {o : Operand} {b : Bool} (hc : ev env o = .raw (.bool b)) (hb : b = true) (h : LW P x ⟨n, env, H⟩ Q) : LW P (.cond o x y) ⟨n, env, H⟩ Q := LW.cond hc (fun _ => h) (fun h' => by rw [hb] at h'; cases h')
theorem condF {o : Operand} {b : Bool} (hc : ev env o = .raw (.bool b)) (hb : b = false) (h : LW P y ⟨n, env, H⟩ Q) : LW P (.cond o x y) ⟨n, env, H⟩ Q := LW.cond hc (fun h' => by rw [hb] at h'; cases h') (fun _ => h)
theorem drawM (m : Nat) {id : Nat} {l : List Oper} (hmo : P.follows .mixedOrders = true) (hok : drawOk l.toArray m = true) (hm : Nat.ble m l.length = true) (h : QD P l.toArray H n env (l.take m) fun env' => LL P l.toArray (l.drop m) ⟨n, env', H⟩ (fun s => Q .normal s)) (hnd : noDefer l = true := by kernel_rfl) : LW P (.region id l.toArray true) ⟨n, env, H⟩ Q := LW.drawM m hmo hok hm h hnd
theorem loopK {α : Type} (mod : α → List (Nat × LV)) (live : List Nat) (hp : α → List Atom) (φ : α → Prop) (μ : α → Nat) (p0 : α) (hm : EnvLe (mod p0) env) (hh : HSub H (hp p0)) (h0 : φ p0)
    (round : ∀ p, φ p → LW P c ⟨n, mod p ++ keep live env, hp p⟩ (after P (.rnd (Next n mod live env hp φ μ p) :: t) Q)) : LW P (.loop c) ⟨n, env, H⟩ (after P t Q) := LW.loopK mod live hp φ μ p0 hm hh h0 round
theorem meetK {α : Type} (mod : α → List (Nat × LV)) (live : List Nat) (hp : α → List Atom) (φ : α → Prop) (h : LW P x ⟨n, env, H⟩ (after P (.rnd (Meets n mod live env hp φ) :: t) Q)) (k : ∀ p, φ p → LW P y ⟨n, mod p ++ keep live env, hp p⟩ (after P t Q)) : LW P (.seq x y) ⟨n, env, H⟩ (after P t Q) := LW.meetK mod live hp φ h k
theorem next {α : Type} {m : NN} {e : List (Nat × LV)} {mod : α → List (Nat × LV)} {live : List Nat} {e0 : List (Nat × LV)} {hp : α → List Atom} {φ : α → Prop} {μ : α → Nat} {p : α} (q : α) (hn : n = m) (hm : EnvLe (mod q) e) (hk : Keeps live e0 e) (hh : HSub H (hp q)) (h1 : φ q) (h2 : μ q < μ p) : Next m mod live e0 hp φ μ p ⟨n, e, H⟩ := Next.mk' q hn hm hk hh h1 h2
theorem meets {α : Type} {m : NN} {e : List (Nat × LV)} {mod : α → List (Nat × LV)} {live : List Nat} {e0 : List (Nat × LV)} {hp : α → List Atom} {φ : α → Prop} (q : α) (hn : n = m) (hm : EnvLe (mod q) e) (hk : Keeps live e0 e) (hh : HSub H (hp q)) (h1 : φ q) : Meets m mod live e0 hp φ ⟨n, e, H⟩ := Meets.mk' q hn hm hk hh h1
theorem ret {rs : Array ResultVar} {R H' : List Atom} {post : LV → List Atom → Prop} {r : LV} (hr : Res P rs ⟨n, env, H⟩ r) (hh : HSub H (H' ++ R)) (hp : post r H') (hd : n.df = [] := by rfl) : Ends P rs R post .ret ⟨n, env, H⟩ := Ends.ret hr hh hp hd
theorem normal {rs : Array ResultVar} {R H' : List Atom} {post : LV → List Atom → Prop} {r : LV} (hr : Res P rs ⟨n, env, H⟩ r) (hh : HSub H (H' ++ R)) (hp : post r H') (hd : n.df = [] := by rfl) : Ends P rs R post .normal ⟨n, env, H⟩ := Ends.normal hr hh hp hd
end
end
end X
section
variable {P : Program} {ops : Array Oper} {n : NN} {env : List (Nat × LV)} {H : List Atom} {K : LS → Prop} {l : List Oper} {ty : TypeId} {pos : String} {af : Array Edge} {g : Option (Nat × Bool)} {d : Option Nat}
theorem QD.doT {L : List (Nat × LV) → Prop} {v : LV} {d j dj : Nat} {op : Op} (hd : (ops[j]?).bind (·.dst) = some dj) (hb : get env dj = .raw (.bool true)) (hq : LU P env H ⟨some d, op, ty, pos, af, some (j, true)⟩ v) (hds : Nat.blt d n.k = true) (h : QD P ops H n ((d, v) :: env) l L) : QD P ops H n env (⟨some d, op, ty, pos, af, some (j, true)⟩ :: l) L := .q (X.lq_do rfl hd hb hq) rfl hds h
theorem QD.doF {L : List (Nat × LV) → Prop} {v : LV} {d j dj : Nat} {op : Op} (hd : (ops[j]?).bind (·.dst) = some dj) (hb : get env dj = .raw (.bool false)) (hq : LU P env H ⟨some d, op, ty, pos, af, some (j, false)⟩ v) (hds : Nat.blt d n.k = true) (h : QD P ops H n ((d, v) :: env) l L) : QD P ops H n env (⟨some d, op, ty, pos, af, some (j, false)⟩ :: l) L := .q (X.lq_do rfl hd hb hq) rfl hds h
theorem QD.skipF {L : List (Nat × LV) → Prop} {d j dj : Nat} {op : Op} (hd : (ops[j]?).bind (·.dst) = some dj) (hb : get env dj = .raw (.bool true)) (hds : Nat.blt d n.k = true) (h : QD P ops H n ((d, .raw undef) :: env) l L) : QD P ops H n env (⟨some d, op, ty, pos, af, some (j, false)⟩ :: l) L := .q (X.lq_skip rfl hd hb (by simp)) rfl hds h
theorem QD.skipT {L : List (Nat × LV) → Prop} {d j dj : Nat} {op : Op} (hd : (ops[j]?).bind (·.dst) = some dj) (hb : get env dj = .raw (.bool false)) (hds : Nat.blt d n.k = true) (h : QD P ops H n ((d, .raw undef) :: env) l L) : QD P ops H n env (⟨some d, op, ty, pos, af, some (j, true)⟩ :: l) L := .q (X.lq_skip rfl hd hb (by simp)) rfl hds h
theorem QD.skipU {L : List (Nat × LV) → Prop} {d j dj : Nat} {op : Op} {want : Bool} (hd : (ops[j]?).bind (·.dst) = some dj) (hb : get env dj = .raw undef) (hds : Nat.blt d n.k = true) (h : QD P ops H n ((d, .raw undef) :: env) l L) : QD P ops H n env (⟨some d, op, ty, pos, af, some (j, want)⟩ :: l) L := .q (X.lq_skipU rfl hd hb) rfl hds h
theorem LU.pickT {c x y : Operand} {v : Value} (hc : Is (ev env c) (.raw (.bool true))) (hx : Is (ev env x) (.raw v)) : LU P env H ⟨d, .pick c x y, ty, pos, af, g⟩ (.raw v) := LU.pick hc (fun _ => hx) (fun h => by cases h)
theorem LU.pickF {c x y : Operand} {v : Value} (hc : Is (ev env c) (.raw (.bool false))) (hy : Is (ev env y) (.raw v)) : LU P env H ⟨d, .pick c x y, ty, pos, af, g⟩ (.raw v) := LU.pick hc (fun h => by cases h) (fun _ => hy)
theorem LU.nilEqS {x y : Operand} {t t' e : TypeId} {a : Addr} (ht : P.underlying t = some (.pointer e)) (hx : Is (ev env x) (.raw (.pointer (some a)))) (hy : Is (ev env y) (.raw (.pointer none))) : LU P env H ⟨d, .binOp .eql t x y t', ty, pos, af, g⟩ (.raw (.bool false)) := by simpa using LU.nilp (P := P) (H := H) (d := d) (ty := ty) (pos := pos) (af := af) (g := g) (t' := t') ht (.inl rfl) hx hy
theorem LU.nilEqN {x y : Operand} {t t' e : TypeId} (ht : P.underlying t = some (.pointer e)) (hx : Is (ev env x) (.raw (.pointer none))) (hy : Is (ev env y) (.raw (.pointer none))) : LU P env H ⟨d, .binOp .eql t x y t', ty, pos, af, g⟩ (.raw (.bool true)) := by simpa using LU.nilp (P := P) (H := H) (d := d) (ty := ty) (pos := pos) (af := af) (g := g) (t' := t') ht (.inl rfl) hx hy
theorem LU.nilNeS {x y : Operand} {t t' e : TypeId} {a : Addr} (ht : P.underlying t = some (.pointer e)) (hx : Is (ev env x) (.raw (.pointer (some a)))) (hy : Is (ev env y) (.raw (.pointer none))) : LU P env H ⟨d, .binOp .neq t x y t', ty, pos, af, g⟩ (.raw (.bool true)) := by simpa using LU.nilp (P := P) (H := H) (d := d) (ty := ty) (pos := pos) (af := af) (g := g) (t' := t') ht (.inr rfl) hx hy
theorem LU.nilNeN {x y : Operand} {t t' e : TypeId} (ht : P.underlying t = some (.pointer e)) (hx : Is (ev env x) (.raw (.pointer none))) (hy : Is (ev env y) (.raw (.pointer none))) : LU P env H ⟨d, .binOp .neq t x y t', ty, pos, af, g⟩ (.raw (.bool false)) := by simpa using LU.nilp (P := P) (H := H) (d := d) (ty := ty) (pos := pos) (af := af) (g := g) (t' := t') ht (.inr rfl) hx hy
end
end Go.L
