/- A region that draws its order, every order walked. Plain theorems over any program. -/
import Derived.Test.YtcemodldbfiomaaLogS
set_option linter.unusedVariables false
set_option linter.unusedSimpArgs false
namespace Go.L
open Go.RowKit
/-- One operation, guard and all. -/
def LP (P : Program) (ops : Array Oper) (o : Oper) (st : LS) (K : LS → Prop) : Prop :=
  ∀ w0 ph a w, Rels w0 ph st a w → ∀ (N : Act → World → Prop) (Q : Exit → Act → World → Prop), (∀ ph' st' a' w', PH.le ph ph' → Rels w0 ph' st' a' w' → K st' → N a' w') →
    if Region.wanted o (yielded ops a.tmps) = true then owp P o a w N Q else N (a.put o.dst undef) w
/-- What is left of a region, in whatever order. -/
def LA (P : Program) (ops : Array Oper) (fuel : Nat) (S : Array Bool) (st : LS) (K : LS → Prop) : Prop :=
  ∀ w0 ph a w, Rels w0 ph st a w → ∀ Q : Exit → Act → World → Prop, (∀ ph' st' a' w', PH.le ph ph' → Rels w0 ph' st' a' w' → K st' → Q .normal a' w') → oany P .any ops Q fuel S a w
inductive LAs (P : Program) (ops : Array Oper) (fuel : Nat) (S : Array Bool) (st : LS) (K : LS → Prop) : List Nat → Prop where
  | nil : LAs P ops fuel S st K []
  | cons {i : Nat} {o : Oper} {l : List Nat} {S' : Array Bool} (ho : ops[i]? = some o) (hS : S.setIfInBounds i true = S') (h : LP P ops o st (fun s => LA P ops fuel S' s K)) (k : LAs P ops fuel S st K l) : LAs P ops fuel S st K (i :: l)
section
variable {P : Program} {ops : Array Oper} {st : LS} {K : LS → Prop} {o : Oper} {S : Array Bool}
theorem LAs.get {fuel : Nat} : ∀ {l : List Nat}, LAs P ops fuel S st K l → ∀ i ∈ l, ∃ o, ops[i]? = some o ∧ LP P ops o st (fun s => LA P ops fuel (S.setIfInBounds i true) s K)
  | _, .nil, i, hi => by cases hi
  | _, .cons ho hS h k, i, hi => by
    rcases List.mem_cons.1 hi with rfl | hi
    · exact ⟨_, ho, by rw [hS]; exact h⟩
    · exact LAs.get k i hi
theorem LA.done {fuel : Nat} (hr : Region.ready .any ops S = []) (h : K st) : LA P ops fuel S st K := fun w0 ph a w r Q k => by
  have := k ph st a w (PH.le.refl _) r h
  cases fuel with
  | zero => exact ⟨hr, this⟩
  | succ n => exact ⟨fun _ => this, fun i hi => by rw [hr] at hi; cases hi⟩
theorem LA.step {fuel : Nat} {i : Nat} {rs : List Nat} (hr : Region.ready .any ops S = i :: rs) (h : LAs P ops fuel S st K (i :: rs)) : LA P ops (fuel + 1) S st K := fun w0 ph a w r Q k => by
  refine ⟨fun h0 => (by rw [hr] at h0; cases h0), fun j hj => ?_⟩
  rw [hr] at hj
  obtain ⟨o, ho, hp⟩ := h.get j hj
  have := hp w0 ph a w r (oany P .any ops Q fuel (S.setIfInBounds j true)) Q fun ph' st' a' w' hle r' q => q w0 ph' a' w' r' Q fun ph2 st2 a2 w2 hle2 r2 q2 => k ph2 st2 a2 w2 (hle.trans hle2) r2 q2
  unfold oop
  rw [ho]
  simp only
  split
  · rename_i hw
    rw [if_pos hw] at this
    exact this
  · rename_i hw
    rw [if_neg hw] at this
    exact this
theorem LW.all {id : Nat} {ops : Array Oper} {Q : Exit → LS → Prop} (hmo : P.follows .mixedOrders = true) (h : LA P ops ops.size (Array.replicate ops.size false) st (fun s => Q .normal s)) (hnd : noDefer ops.toList = true) : LW P (.region id ops true) st Q := fun w0 ph a w r Q' k =>
  wpIn_region_any hmo (oany_in hnd _ <| h w0 ph a { w with drawn := w.drawn + 1 } ⟨r.inv.step ⟨rfl, rfl, rfl, Nat.le_refl _, fun _ _ => rfl⟩, r.defers, r.size, r.tmps⟩ Q' fun ph' st' a' w' hle r' q => k _ ph' st' a' w' hle r' q)
theorem LP.op (hg : o.guard = none) (h : LO P o st K) : LP P ops o st K := fun w0 ph a w r N Q k => by
  rw [if_pos (by simp [Region.wanted, hg])]
  exact h w0 ph a w r N Q k
theorem LP.q {v : LV} {d : Nat} (hq : LQ P ops st.env st.heap o v) (hd : o.dst = some d) (hds : Nat.blt d st.n.k = true) (h : K ⟨st.n, (d, v) :: st.env, st.heap⟩) : LP P ops o st K := fun w0 ph a w r N Q k => by
  refine hq w0 ph a w r.inv (fun t _ => r.tmps t) N Q fun ph' u w' hle hi hr => ?_
  rw [hd]
  exact k ph' _ _ w' hle (r.put hle hi hds hr) h
end
namespace A
section
variable {P : Program} {ops : Array Oper} {n : NN} {env : List (Nat × LV)} {H : List Atom} {K : LS → Prop} {ty : TypeId} {pos : String} {af : Array Edge} {g : Option (Nat × Bool)}
theorem u {v : LV} {d : Nat} {op : Op} (hq : LU P env H ⟨some d, op, ty, pos, af, none⟩ v) (hds : Nat.blt d n.k = true) (h : K ⟨n, (d, v) :: env, H⟩) : LP P ops ⟨some d, op, ty, pos, af, none⟩ ⟨n, env, H⟩ K := LP.q (st := ⟨n, env, H⟩) (LQ.plain rfl hq) rfl hds h
theorem gT {v : LV} {d j dj : Nat} {op : Op} {b : Bool} (hd : (ops[j]?).bind (·.dst) = some dj) (hb : get env dj = .raw (.bool b)) (hq : b = true → LU P env H ⟨some d, op, ty, pos, af, some (j, true)⟩ v) (hds : Nat.blt d n.k = true) (h : K ⟨n, (d, .when b v) :: env, H⟩) : LP P ops ⟨some d, op, ty, pos, af, some (j, true)⟩ ⟨n, env, H⟩ K := LP.q (st := ⟨n, env, H⟩) (.guardT rfl hd hb hq) rfl hds h
theorem gF {v : LV} {d j dj : Nat} {op : Op} {b : Bool} (hd : (ops[j]?).bind (·.dst) = some dj) (hb : get env dj = .raw (.bool b)) (hq : b = false → LU P env H ⟨some d, op, ty, pos, af, some (j, false)⟩ v) (hds : Nat.blt d n.k = true) (h : K ⟨n, (d, .when (!b) v) :: env, H⟩) : LP P ops ⟨some d, op, ty, pos, af, some (j, false)⟩ ⟨n, env, H⟩ K := LP.q (st := ⟨n, env, H⟩) (.guardF rfl hd hb hq) rfl hds h
theorem gT2 {v : LV} {d j dj : Nat} {op : Op} {b q : Bool} (hd : (ops[j]?).bind (·.dst) = some dj) (hb : get env dj = .when q (.raw (.bool b))) (hq : q = true → b = true → LU P env H ⟨some d, op, ty, pos, af, some (j, true)⟩ v) (hds : Nat.blt d n.k = true) (h : K ⟨n, (d, .when (q && b) v) :: env, H⟩) : LP P ops ⟨some d, op, ty, pos, af, some (j, true)⟩ ⟨n, env, H⟩ K := LP.q (st := ⟨n, env, H⟩) (.guardT2 rfl hd hb hq) rfl hds h
theorem gF2 {v : LV} {d j dj : Nat} {op : Op} {b q : Bool} (hd : (ops[j]?).bind (·.dst) = some dj) (hb : get env dj = .when q (.raw (.bool b))) (hq : q = true → b = false → LU P env H ⟨some d, op, ty, pos, af, some (j, false)⟩ v) (hds : Nat.blt d n.k = true) (h : K ⟨n, (d, .when (q && !b) v) :: env, H⟩) : LP P ops ⟨some d, op, ty, pos, af, some (j, false)⟩ ⟨n, env, H⟩ K := LP.q (st := ⟨n, env, H⟩) (.guardF2 rfl hd hb hq) rfl hds h
theorem doT {v : LV} {d j dj : Nat} {op : Op} (hd : (ops[j]?).bind (·.dst) = some dj) (hb : get env dj = .raw (.bool true)) (hq : LU P env H ⟨some d, op, ty, pos, af, some (j, true)⟩ v) (hds : Nat.blt d n.k = true) (h : K ⟨n, (d, v) :: env, H⟩) : LP P ops ⟨some d, op, ty, pos, af, some (j, true)⟩ ⟨n, env, H⟩ K := LP.q (st := ⟨n, env, H⟩) (X.lq_do rfl hd hb hq) rfl hds h
theorem doF {v : LV} {d j dj : Nat} {op : Op} (hd : (ops[j]?).bind (·.dst) = some dj) (hb : get env dj = .raw (.bool false)) (hq : LU P env H ⟨some d, op, ty, pos, af, some (j, false)⟩ v) (hds : Nat.blt d n.k = true) (h : K ⟨n, (d, v) :: env, H⟩) : LP P ops ⟨some d, op, ty, pos, af, some (j, false)⟩ ⟨n, env, H⟩ K := LP.q (st := ⟨n, env, H⟩) (X.lq_do rfl hd hb hq) rfl hds h
theorem skipF {d j dj : Nat} {op : Op} (hd : (ops[j]?).bind (·.dst) = some dj) (hb : get env dj = .raw (.bool true)) (hds : Nat.blt d n.k = true) (h : K ⟨n, (d, .raw undef) :: env, H⟩) : LP P ops ⟨some d, op, ty, pos, af, some (j, false)⟩ ⟨n, env, H⟩ K := LP.q (st := ⟨n, env, H⟩) (X.lq_skip rfl hd hb (by simp)) rfl hds h
theorem skipT {d j dj : Nat} {op : Op} (hd : (ops[j]?).bind (·.dst) = some dj) (hb : get env dj = .raw (.bool false)) (hds : Nat.blt d n.k = true) (h : K ⟨n, (d, .raw undef) :: env, H⟩) : LP P ops ⟨some d, op, ty, pos, af, some (j, true)⟩ ⟨n, env, H⟩ K := LP.q (st := ⟨n, env, H⟩) (X.lq_skip rfl hd hb (by simp)) rfl hds h
theorem skipU {d j dj : Nat} {op : Op} {want : Bool} (hd : (ops[j]?).bind (·.dst) = some dj) (hb : get env dj = .raw undef) (hds : Nat.blt d n.k = true) (h : K ⟨n, (d, .raw undef) :: env, H⟩) : LP P ops ⟨some d, op, ty, pos, af, some (j, want)⟩ ⟨n, env, H⟩ K := LP.q (st := ⟨n, env, H⟩) (X.lq_skipU rfl hd hb) rfl hds h
theorem act {op : Op} {d : Option Nat} (h : LO P ⟨d, op, ty, pos, af, none⟩ ⟨n, env, H⟩ K) : LP P ops ⟨d, op, ty, pos, af, none⟩ ⟨n, env, H⟩ K := LP.op rfl h
theorem actG {op : Op} {d : Option Nat} {j dj : Nat} {want : Bool} (hd : (ops[j]?).bind (·.dst) = some dj) (hb : get env dj = .raw (.bool want)) (h : LO P ⟨d, op, ty, pos, af, some (j, want)⟩ ⟨n, env, H⟩ K) : LP P ops ⟨d, op, ty, pos, af, some (j, want)⟩ ⟨n, env, H⟩ K := fun w0 ph a w r N Q k => by
  have hy := yields r.tmps hd hb
  rw [if_pos (by simp [Region.wanted, hy])]
  exact h w0 ph a w r N Q k
theorem weak {fuel : Nat} {S : Array Bool} {t : Nat} {v : LV} (hs : Is (get env t) v) (h : LA P ops fuel S ⟨n, (t, v) :: env, H⟩ K) : LA P ops fuel S ⟨n, env, H⟩ K := fun w0 ph a w r Q k => h w0 ph a w ⟨r.inv, r.defers, r.size, fun i => by
  by_cases hi : t = i
  · subst hi; rw [get_same]; exact hs _ _ (r.tmps t)
  · rw [get_other hi]; exact r.tmps i⟩ Q k
theorem all {id : Nat} {Q : Exit → LS → Prop} {S : Array Bool} {m : Nat} (hmo : P.follows .mixedOrders = true) (hm : ops.size = m) (hS : Array.replicate m false = S) (h : LA P ops m S ⟨n, env, H⟩ (fun s => Q .normal s)) (hnd : noDefer ops.toList = true := by kernel_rfl) : LW P (.region id ops true) ⟨n, env, H⟩ Q := by
  subst hm
  subst hS
  exact LW.all hmo h hnd
end
end A
section
variable {P : Program} {env : List (Nat × LV)} {H : List Atom} {d : Option Tmp} {ty : TypeId} {pos : String} {af : Array Edge} {g : Option (Nat × Bool)}
theorem LU.sliceKH {x y : Operand} {t e : TypeId} {n b off : Nat} {ki : IntKind} {hh : Int} {xs : List LV} (k : Nat) (hk : H[k]? = some (.known b xs)) (ht : P.underlying t = some (.array n e)) (hs : ∀ w, (sizeOf e).run P w = .ok 1 w) (hx : Is (ev env x) (.raw (.pointer (some ⟨b, off, none⟩)))) (hy : Is (ev env y) (.raw (.int ki hh))) (h0 : 0 ≤ hh) (h1 : hh ≤ n) (hm : off + n ≤ xs.length) :
    LU P env H ⟨d, .slice t x none (some y) none, ty, pos, af, g⟩ (.sl 1 (singles ((xs.drop off).take hh.toNat)) .unk) := .of_run fun ph a hl w0 w hinv => by
  have h2 := (hx _ _ (hl x (by simp [Op.operands]))).rawE
  have h3 := (hy _ _ (hl y (by simp [Op.operands]))).rawE
  have hal : P.arrayLen t = n := by simp [Program.arrayLen, ht]
  have hel : P.elem t = e := by simp [Program.elem, ht]
  have := run_sliceAt_array_h (P := P) w t ⟨b, off, none⟩ (by rw [hal, hel]; exact ht) ki hh h0 (by rw [hal]; exact h1)
  have e0 : (if n = 0 then (⟨b, off, none⟩ : Addr) else (⟨b, off, none⟩ : Addr).add (0 * 1)) = ⟨b, off, none⟩ := by split <;> simp [add_lit]
  refine ⟨.slice (some ⟨b, off, none⟩) hh.toNat n, ?_, known_sl hinv hk (by omega) (by omega) trivial⟩
  simp only [execOp, Option.map_none, Option.map_some, h2, h3, Sem.run_bind, this, hel, hs, Result.andThen_ok, hal, slicedAt, Sem.run_pure]
  rw [e0]
  simp
end
end Go.L
