/- What LinesPlays needs, part 2. -/
import Derived.Below
import Derived.WalkKit
import Derived.OwnWalk
import Derived.Deep.LoopGhost
import Derived.RangeFuncIn
import Derived.RangeFuncLeaves
import Derived.TacticsIn
import Derived.OrdersIn
import Derived.LoopIn
import Derived.LoopNIn
import Derived.Laws.Entries
import Derived.Laws.Slices
import Derived.Laws.Cells
import Derived.Deep.AppendSrc
import Derived.Deep.MidRow
import Derived.Laws.AppendOwn
import Derived.Laws.MakeOwn
import Derived.Laws.IdiomCopy
import Derived.Lib.ConvBytes
import Derived.Lib.SlBytesConst
import Derived.Laws.BytesArg
import Derived.Deep.Upon
import Derived.Laws.StructEq
import Derived.Laws.Small
import Derived.SizedLaws
import Derived.ChangeSlices
import Derived.Lib.SmallJoins
import Derived.MakeChecks
import Derived.ChangeBears2
import Derived.Laws.CopyRow
import Derived.RangeFuncRecord
import Derived.Laws.Externs
import Derived.Lib.Bytealg
import Derived.Lib.IndexLaws
import Derived.DefersIn
import Derived.Lib.SliceRun
import Derived.OpenShut
import Derived.WideShapes
import Derived.Maps.RangeRun
import Derived.Sort.Row
import Derived.Lib.BytesEntry
import Derived.Lib.SlFresh
import Derived.Test.YtolpkeajokjbjaaDoorProg
import Derived.Test.YtolpkeajokjbjaaDoorRows
import Derived.LaidMore
import Derived.LaidHandle
import Derived.ChangeSame
import Derived.Test.YtolpkeajokjbjaaDoorBLinesPlays1
set_option linter.unusedVariables false
set_option linter.unusedSimpArgs false
namespace Go.L
open Go.RowKit
section
variable {P : Program} {st : LS} {env : List (Nat × LV)} {H : List Atom} {K : LS → Prop} {ty : TypeId} {pos : String} {af : Array Edge} {g : Option (Nat × Bool)}
end
end Go.L
namespace Go.L
open Go.RowKit
/-- One operation, guard and all. -/
def LP (P : Program) (ops : Array Oper) (o : Oper) (st : LS) (K : LS → Prop) : Prop :=
  ∀ w0 ph a w, Rels w0 ph st a w → ∀ (N : Act → World → Prop) (Q : Exit → Act → World → Prop), (∀ ph' st' a' w', PH.le ph ph' → Rels w0 ph' st' a' w' → K st' → N a' w') →
    if Region.wanted o (yielded ops a.tmps) = true then owp P o a w N Q else N (a.put o.dst undef) w
/-- What is left of a region, in whatever order. -/
def LA (P : Program) (ops : Array Oper) (fuel : Nat) (S : Array Bool) (st : LS) (K : LS → Prop) : Prop :=
  ∀ w0 ph a w, Rels w0 ph st a w → ∀ Q : Exit → Act → World → Prop, (∀ ph' st' a' w', PH.le ph ph' → Rels w0 ph' st' a' w' → K st' → Q .normal a' w') → oany P .any ops Q fuel S a w
inductive LAs (P : Program) (ops : Array Oper) (fuel : Nat) (S : Array Bool) (st : LS) (K : LS → Prop) : List Nat → Prop where
  | nil : LAs P ops fuel S st K []
  | cons {i : Nat} {o : Oper} {l : List Nat} {S' : Array Bool} (ho : ops[i]? = some o) (hS : S.setIfInBounds i true = S') (h : LP P ops o st (fun s => LA P ops fuel S' s K)) (k : LAs P ops fuel S st K l) : LAs P ops fuel S st K (i :: l)
section
variable {P : Program} {ops : Array Oper} {st : LS} {K : LS → Prop} {o : Oper} {S : Array Bool}
theorem LAs.get {fuel : Nat} : ∀ {l : List Nat}, LAs P ops fuel S st K l → ∀ i ∈ l, ∃ o, ops[i]? = some o ∧ LP P ops o st (fun s => LA P ops fuel (S.setIfInBounds i true) s K)
  | _, .nil, i, hi => by cases hi
  | _, .cons ho hS h k, i, hi => by
    rcases List.mem_cons.1 hi with rfl | hi
    · exact ⟨_, ho, by rw [hS]; exact h⟩
    · exact LAs.get k i hi
theorem LA.step {fuel : Nat} {i : Nat} {rs : List Nat} (hr : Region.ready .any ops S = i :: rs) (h : LAs P ops fuel S st K (i :: rs)) : LA P ops (fuel + 1) S st K := fun w0 ph a w r Q k => by
  refine ⟨fun h0 => (by rw [hr] at h0; cases h0), fun j hj => ?_⟩
  rw [hr] at hj
  obtain ⟨o, ho, hp⟩ := h.get j hj
  have := hp w0 ph a w r (oany P .any ops Q fuel (S.setIfInBounds j true)) Q fun ph' st' a' w' hle r' q => q w0 ph' a' w' r' Q fun ph2 st2 a2 w2 hle2 r2 q2 => k ph2 st2 a2 w2 (hle.trans hle2) r2 q2
  unfold oop
  rw [ho]
  simp only
  split
  · rename_i hw
    rw [if_pos hw] at this
    exact this
  · rename_i hw
    rw [if_neg hw] at this
    exact this
theorem LW.all {id : Nat} {ops : Array Oper} {Q : Exit → LS → Prop} (hmo : P.follows .mixedOrders = true) (h : LA P ops ops.size (Array.replicate ops.size false) st (fun s => Q .normal s)) (hnd : noDefer ops.toList = true) : LW P (.region id ops true) st Q := fun w0 ph a w r Q' k =>
  wpIn_region_any hmo (oany_in hnd _ <| h w0 ph a { w with drawn := w.drawn + 1 } ⟨r.inv.step ⟨rfl, rfl, rfl, Nat.le_refl _, fun _ _ => rfl⟩, r.defers, r.size, r.tmps⟩ Q' fun ph' st' a' w' hle r' q => k _ ph' st' a' w' hle r' q)
theorem LP.op (hg : o.guard = none) (h : LO P o st K) : LP P ops o st K := fun w0 ph a w r N Q k => by
  rw [if_pos (by simp [Region.wanted, hg])]
  exact h w0 ph a w r N Q k
theorem LP.q {v : LV} {d : Nat} (hq : LQ P ops st.env st.heap o v) (hd : o.dst = some d) (hds : Nat.blt d st.n.k = true) (h : K ⟨st.n, (d, v) :: st.env, st.heap⟩) : LP P ops o st K := fun w0 ph a w r N Q k => by
  refine hq w0 ph a w r.inv (fun t _ => r.tmps t) N Q fun ph' u w' hle hi hr => ?_
  rw [hd]
  exact k ph' _ _ w' hle (r.put hle hi hds hr) h
end
namespace A
section
variable {P : Program} {ops : Array Oper} {n : NN} {env : List (Nat × LV)} {H : List Atom} {K : LS → Prop} {ty : TypeId} {pos : String} {af : Array Edge} {g : Option (Nat × Bool)}
theorem u {v : LV} {d : Nat} {op : Op} (hq : LU P env H ⟨some d, op, ty, pos, af, none⟩ v) (hds : Nat.blt d n.k = true) (h : K ⟨n, (d, v) :: env, H⟩) : LP P ops ⟨some d, op, ty, pos, af, none⟩ ⟨n, env, H⟩ K := LP.q (st := ⟨n, env, H⟩) (LQ.plain rfl hq) rfl hds h
theorem gT {v : LV} {d j dj : Nat} {op : Op} {b : Bool} (hd : (ops[j]?).bind (·.dst) = some dj) (hb : get env dj = .raw (.bool b)) (hq : b = true → LU P env H ⟨some d, op, ty, pos, af, some (j, true)⟩ v) (hds : Nat.blt d n.k = true) (h : K ⟨n, (d, .when b v) :: env, H⟩) : LP P ops ⟨some d, op, ty, pos, af, some (j, true)⟩ ⟨n, env, H⟩ K := LP.q (st := ⟨n, env, H⟩) (.guardT rfl hd hb hq) rfl hds h
theorem gF {v : LV} {d j dj : Nat} {op : Op} {b : Bool} (hd : (ops[j]?).bind (·.dst) = some dj) (hb : get env dj = .raw (.bool b)) (hq : b = false → LU P env H ⟨some d, op, ty, pos, af, some (j, false)⟩ v) (hds : Nat.blt d n.k = true) (h : K ⟨n, (d, .when (!b) v) :: env, H⟩) : LP P ops ⟨some d, op, ty, pos, af, some (j, false)⟩ ⟨n, env, H⟩ K := LP.q (st := ⟨n, env, H⟩) (.guardF rfl hd hb hq) rfl hds h
theorem doT {v : LV} {d j dj : Nat} {op : Op} (hd : (ops[j]?).bind (·.dst) = some dj) (hb : get env dj = .raw (.bool true)) (hq : LU P env H ⟨some d, op, ty, pos, af, some (j, true)⟩ v) (hds : Nat.blt d n.k = true) (h : K ⟨n, (d, v) :: env, H⟩) : LP P ops ⟨some d, op, ty, pos, af, some (j, true)⟩ ⟨n, env, H⟩ K := LP.q (st := ⟨n, env, H⟩) (X.lq_do rfl hd hb hq) rfl hds h
theorem doF {v : LV} {d j dj : Nat} {op : Op} (hd : (ops[j]?).bind (·.dst) = some dj) (hb : get env dj = .raw (.bool false)) (hq : LU P env H ⟨some d, op, ty, pos, af, some (j, false)⟩ v) (hds : Nat.blt d n.k = true) (h : K ⟨n, (d, v) :: env, H⟩) : LP P ops ⟨some d, op, ty, pos, af, some (j, false)⟩ ⟨n, env, H⟩ K := LP.q (st := ⟨n, env, H⟩) (X.lq_do rfl hd hb hq) rfl hds h
theorem act {op : Op} {d : Option Nat} (h : LO P ⟨d, op, ty, pos, af, none⟩ ⟨n, env, H⟩ K) : LP P ops ⟨d, op, ty, pos, af, none⟩ ⟨n, env, H⟩ K := LP.op rfl h
theorem weak {fuel : Nat} {S : Array Bool} {t : Nat} {v : LV} (hs : Is (get env t) v) (h : LA P ops fuel S ⟨n, (t, v) :: env, H⟩ K) : LA P ops fuel S ⟨n, env, H⟩ K := fun w0 ph a w r Q k => h w0 ph a w ⟨r.inv, r.defers, r.size, fun i => by
  by_cases hi : t = i
  · subst hi; rw [get_same]; exact hs _ _ (r.tmps t)
  · rw [get_other hi]; exact r.tmps i⟩ Q k
theorem all {id : Nat} {Q : Exit → LS → Prop} {S : Array Bool} {m : Nat} (hmo : P.follows .mixedOrders = true) (hm : ops.size = m) (hS : Array.replicate m false = S) (h : LA P ops m S ⟨n, env, H⟩ (fun s => Q .normal s)) (hnd : noDefer ops.toList = true := by kernel_rfl) : LW P (.region id ops true) ⟨n, env, H⟩ Q := by
  subst hm
  subst hS
  exact LW.all hmo h hnd
end
end A
section
variable {P : Program} {env : List (Nat × LV)} {H : List Atom} {d : Option Tmp} {ty : TypeId} {pos : String} {af : Array Edge} {g : Option (Nat × Bool)}
end
end Go.L
namespace Go.L
open Go.RowKit
/-- A call of yield: what it gives and what is owned then. -/
def LYields (P : Program) (yv : Value) (args : List LV) (H : List Atom) (post : LV → List Atom → Prop) : Prop :=
  ∀ (R : List Atom) w0 ph w (vs : Array Value), Inv w0 ph w (H ++ R) → Reps ph vs args →
    ∃ l fn tmps assign body, yv = .func (.yield l) #[] #[] ∧ (Instr.yield l vs).run P w = .ok (.round l fn tmps assign body) w ∧
      RoundIn Fence.wide 0 P l fn tmps assign body w fun e w' => ∃ v ph' r H', e = .returned v ∧ PH.le ph ph' ∧ Inv w0 ph' w' (H' ++ R) ∧ Rep ph' v r ∧ post r H'
section
variable {P : Program} {st : LS} {n : NN} {env : List (Nat × LV)} {H : List Atom} {K : LS → Prop} {ty : TypeId} {pos : String} {af : Array Edge} {g : Option (Nat × Bool)}
end
/-- An iterator: whoever takes, its items come one by one, till the taker says no more; of what it owned (Hi) Hi' is left. -/
def LIter (P : Program) (gf : FuncId) (caps : Array Value) (items : List (List LV)) (Hi Hi' : List Atom) : Prop :=
  ∀ (α β : Type) (F : α → List Atom) (G : β → List Atom) (φ : Nat → α → Prop) (ψ : β → Prop) (yv : Value),
    (∀ k p x, items[k]? = some x → φ k p → LYields P yv x (F p) (fun r H' => (∃ q, r = .raw (.bool true) ∧ φ (k + 1) q ∧ H' = F q) ∨ (∃ q, r = .raw (.bool false) ∧ ψ q ∧ H' = G q))) →
    ∀ p0, φ 0 p0 → LCalls P gf (.raw yv :: raws caps.toList) (Hi ++ F p0) (fun r H' => (∃ q, φ items.length q ∧ H' = Hi' ++ F q) ∨ (∃ q, ψ q ∧ H' = Hi' ++ G q))
/-- The slots at a round's beginning. -/
def setP : List Tmp → List LV → List (Nat × LV) → List (Nat × LV)
  | t :: ts, x :: xs, env => setP ts xs ((t, x) :: env)
  | _, _, env => env
open Classical in
theorem perm_of {H K : List Atom} (h : ∀ x, H.count x = K.count x) : H.Perm K := List.perm_iff_count.2 h
/-- The mark that a loop over a function leaves among the deferred calls. -/
def markOf (D : Nat) : Deferred := { target := .collected D, args := #[] }
/-- What a round of such a loop must do. -/
abbrev RoundOk (P : Program) (k0 : Nat) (env : List (Nat × LV)) (ps : List Tmp) (assign body : Code) (items : List (List LV)) {α β : Type} (F : α → List Atom) (G : β → List Atom) (φ : Nat → α → Prop) (L : Code → β → Prop) : Prop :=
  ∀ (k : Nat) (p : α) (x : List LV), items[k]? = some x → φ k p → ∀ R', LW P assign ⟨⟨k0, [], false⟩, setP ps x env, F p ++ R'⟩ (after P [] (fun e s => e = .normal ∧ ∃ A env', s = ⟨⟨k0, [], false⟩, env', A ++ R'⟩ ∧ ∀ R'', LW P body ⟨⟨k0, [], false⟩, env', A ++ R''⟩ (after P [] (fun e s' =>
      match e with
      | .normal => ∃ q, φ (k + 1) q ∧ HSub s'.heap (F q ++ R'')
      | .ret => ∃ q, L .ret q ∧ HSub s'.heap (G q ++ R'')
      | .exit id => ∃ q, L (.exit id) q ∧ HSub s'.heap (G q ++ R'')
      | _ => False))))
end Go.L
namespace Go.L
open Go.RowKit
section
variable {P : Program} {env : List (Nat × LV)} {H : List Atom} {d : Option Tmp} {ty : TypeId} {pos : String} {af : Array Edge} {g : Option (Nat × Bool)}
end
end Go.L
namespace Go.L
open Go.RowKit
section
variable {P : Program} {ops : Array Oper} {K : LS → Prop}
theorem left_set {S : Array Bool} {i : Nat} (hi : i < ops.size) (h : S.getD i true = false) : left (S.setIfInBounds i true) (List.range ops.size) < left S (List.range ops.size) := by
  have hi2 : i < S.size := by
    by_cases hlt : i < S.size
    · exact hlt
    · rw [Array.getD_eq_getD_getElem?, Array.getElem?_eq_none (by omega)] at h; cases h
  refine left_lt hi2 ?_ _ (List.mem_range.2 hi)
  rw [Array.getD_eq_getD_getElem?, Array.getElem?_eq_getElem hi2] at h ⊢
  exact h
/-- What is known at a state is known at another one. -/
def Weaker (s t : LS) : Prop := s.n = t.n ∧ (∀ d, Is (get s.env d) (get t.env d)) ∧ HSub s.heap t.heap
theorem Weaker.rels {s t : LS} (h : Weaker s t) {w0 : Base} {ph : PH} {a : Act} {w : World} (r : Rels w0 ph s a w) : Rels w0 ph t a w := by
  obtain ⟨h1, h2, h3⟩ := h
  obtain ⟨r1, r2, r3, r4⟩ := r
  exact ⟨h3.app r1, by rw [← h1]; exact r2, by rw [← h1]; exact r3, fun d => h2 d _ _ (r4 d)⟩
theorem Weaker.lp {o : Oper} {s t : LS} (h : Weaker s t) {K' : LS → Prop} (hp : LP P ops o t K') : LP P ops o s K' := fun w0 ph a w r N Q k => hp w0 ph a w (h.rels r) N Q k
/-- The slots of a drawn region's operations, as0 far as0 they are done. -/
def envS (sl : List (Nat × Nat)) (val : Nat → LV) (f : Nat → Bool) (env : List (Nat × LV)) : List (Nat × LV) := sl.map (fun p => (p.2, cond (f p.1) (val p.2) .any)) ++ env
def upd (f : Nat → Bool) (i j : Nat) : Bool := cond (Nat.beq j i) true (f j)
theorem envS_start (val : Nat → LV) (f : Nat → Bool) (env : List (Nat × LV)) : ∀ (sl : List (Nat × Nat)), (∀ p ∈ sl, f p.1 = false) → ∀ d, Is (get env d) (get (envS sl val f env) d)
  | [], _, d => fun _ _ h => h
  | p :: sl, h, d => by
    show Is (get env d) (get ((p.2, cond (f p.1) (val p.2) .any) :: envS sl val f env) d)
    by_cases hd : p.2 = d
    · subst hd
      rw [get_same, h p (by simp)]
      exact Is.any
    · rw [get_other hd]
      exact envS_start val f env sl (fun q hq => h q (by simp [hq])) d
theorem getD_upd {S : Array Bool} {i : Nat} (hi : i < S.size) : (fun j => (S.setIfInBounds i true).getD j true) = upd (fun j => S.getD j true) i := by
  funext j
  rw [getD_set hi]
  unfold upd
  by_cases h : j = i
  · subst h; simp
  · have : Nat.beq j i = false := by
      cases hb : Nat.beq j i with
      | false => rfl
      | true => exact absurd (Nat.eq_of_beq_eq_true hb) h
    rw [if_neg h, this]; rfl
theorem all_done {S : Array Bool} (hs : S.size = ops.size) (hlt : ((List.range ops.size).all fun i => (direct ops i).all fun j => Nat.blt j i) = true) (hr : Region.ready .any ops S = []) : ∀ j, S.getD j true = true := by
  intro j
  induction j using Nat.strongRecOn with
  | _ j ih =>
    cases hj : S.getD j true with
    | true => rfl
    | false =>
      have hjs : j < ops.size := by
        by_cases h : j < ops.size
        · exact h
        · rw [Array.getD_eq_getD_getElem?, Array.getElem?_eq_none (by omega)] at hj; cases hj
      have : j ∈ Region.ready .any ops S := ready_iff.2 ⟨hj, hjs, fun k hk => by
        have h1 := List.all_eq_true.1 (List.all_eq_true.1 hlt j (List.mem_range.2 hjs)) k hk
        have hkj : k < j := Nat.le_of_ble_eq_true h1
        have h2 := ih k hkj
        rw [Array.getD_eq_getD_getElem?, Array.getElem?_eq_getElem (by omega)] at h2 ⊢
        exact h2⟩
      rw [hr] at this
      cases this
theorem LP.weak {n : NN} {env : List (Nat × LV)} {H : List Atom} {o : Oper} {t : Nat} {v : LV} (hs : Is (get env t) v) (h : LP P ops o ⟨n, (t, v) :: env, H⟩ K) : LP P ops o ⟨n, env, H⟩ K :=
  Weaker.lp (s := ⟨n, env, H⟩) (t := ⟨n, (t, v) :: env, H⟩) ⟨rfl, fun d => by
    show Is (get env d) (get ((t, v) :: env) d)
    by_cases hd : t = d
    · subst hd; rw [get_same]; exact hs
    · rw [get_other hd]; exact fun _ _ h => h, HSub.refl _⟩ h
theorem LP.ghost {n : NN} {env : List (Nat × LV)} {H H' : List Atom} {o : Oper} (hs : HSub H H') (h : LP P ops o ⟨n, env, H'⟩ K) : LP P ops o ⟨n, env, H⟩ K :=
  Weaker.lp (s := ⟨n, env, H⟩) (t := ⟨n, env, H'⟩) ⟨rfl, fun d _ _ h => h, hs⟩ h
theorem envS_get {val : Nat → LV} {f : Nat → Bool} {env : List (Nat × LV)} : ∀ {sl : List (Nat × Nat)} {j d : Nat}, (sl.find? fun p => Nat.beq p.2 d) = some (j, d) → get (envS sl val f env) d = cond (f j) (val d) .any
  | [], j, d, h => by cases h
  | p :: sl, j, d, h => by
    show get ((p.2, cond (f p.1) (val p.2) .any) :: envS sl val f env) d = _
    rw [List.find?_cons] at h
    cases hb : Nat.beq p.2 d with
    | true =>
      rw [hb] at h
      have := Nat.eq_of_beq_eq_true hb
      simp at h
      subst h
      rw [get_same]
    | false =>
      rw [hb] at h
      rw [get_other (fun e => by rw [e, Nat.beq_refl] at hb; cases hb)]
      exact envS_get h
/-- A slot whose operation is done. -/
theorem envS_is {val : Nat → LV} {f : Nat → Bool} {env : List (Nat × LV)} {sl : List (Nat × Nat)} {j d : Nat} (hs : (sl.find? fun p => Nat.beq p.2 d) = some (j, d)) (hf : f j = true) : Is (get (envS sl val f env) d) (val d) := by
  rw [envS_get hs, hf]; exact fun _ _ h => h
theorem envS_next {val val' : Nat → LV} {f : Nat → Bool} {i di : Nat} {env : List (Nat × LV)} : ∀ {sl : List (Nat × Nat)}, (∀ p ∈ sl, p.2 ≠ di → Nat.beq p.1 i = false ∧ val' p.2 = val p.2) → ∀ d, d ≠ di → Is (get (envS sl val f env) d) (get (envS sl val' (upd f i) env) d)
  | [], _, d, _ => fun _ _ h => h
  | p :: sl, h, d, hd => by
    show Is (get ((p.2, cond (f p.1) (val p.2) .any) :: envS sl val f env) d) (get ((p.2, cond (upd f i p.1) (val' p.2) .any) :: envS sl val' (upd f i) env) d)
    by_cases hp : p.2 = d
    · subst hp
      obtain ⟨h1, h2⟩ := h p (by simp) hd
      rw [get_same, get_same, h2]
      unfold upd
      rw [h1]
      exact fun _ _ h => h
    · rw [get_other hp, get_other hp]
      exact envS_next (fun q hq => h q (by simp [hq])) d hd
/-- Behind an operation: its slot is written, the overrides are as0 they were. -/
theorem env_back {di : Nat} {v : LV} {pre l l' : List (Nat × LV)} (hv : Is v (get l' di)) (hp : ∀ p ∈ pre, p.1 ≠ di → Is p.2 (get l' p.1)) (hl : ∀ d, d ≠ di → Is (get l d) (get l' d)) : ∀ d, Is (get ((di, v) :: (pre ++ l)) d) (get l' d) := fun d => by
  by_cases hd : di = d
  · subst hd; rw [get_same]; exact hv
  · rw [get_other hd]
    have : ∀ q : List (Nat × LV), (∀ p ∈ q, p.1 ≠ di → Is p.2 (get l' p.1)) → Is (get (q ++ l) d) (get l' d) := fun q hq => by
      induction q with
      | nil => exact hl d (fun e => hd e.symm)
      | cons p q ih =>
        show Is (get ((p.1, p.2) :: (q ++ l)) d) (get l' d)
        by_cases hpd : p.1 = d
        · subst hpd; rw [get_same]; exact hq p (by simp) (fun e => hd e.symm)
        · rw [get_other hpd]; exact ih fun r hr => hq r (by simp [hr])
    exact this pre hp
theorem envS_hit {v : LV} {val : Nat → LV} {f : Nat → Bool} {env : List (Nat × LV)} {sl : List (Nat × Nat)} {j d : Nat} (hs : (sl.find? fun p => Nat.beq p.2 d) = some (j, d)) (hv : Is v (val d)) : Is v (get (envS sl val f env) d) := by
  rw [envS_get hs]
  cases f j
  · exact Is.any
  · exact hv
theorem env_back0 {di : Nat} {v : LV} {l l' : List (Nat × LV)} (hv : Is v (get l' di))  (hl : ∀ d, d ≠ di → Is (get l d) (get l' d)) : ∀ d, Is (get ((di, v) :: l) d) (get l' d) :=
  env_back (pre := []) hv (fun p hp _ => by cases hp) hl
theorem env_back1 {di : Nat} {v : LV} {l l' : List (Nat × LV)} {d0 : Nat} {v0 : LV} (hv : Is v (get l' di)) (h0 : Is v0 (get l' d0)) (hl : ∀ d, d ≠ di → Is (get l d) (get l' d)) : ∀ d, Is (get ((di, v) :: (d0, v0) :: l) d) (get l' d) :=
  env_back (pre := [(d0, v0)]) hv (fun p hp _ => by
    simp only [List.mem_cons, List.not_mem_nil, or_false] at hp
    rcases hp with rfl <;> assumption) hl
theorem env_back2 {di : Nat} {v : LV} {l l' : List (Nat × LV)} {d0 d1 : Nat} {v0 v1 : LV} (hv : Is v (get l' di)) (h0 : Is v0 (get l' d0)) (h1 : Is v1 (get l' d1)) (hl : ∀ d, d ≠ di → Is (get l d) (get l' d)) : ∀ d, Is (get ((di, v) :: (d0, v0) :: (d1, v1) :: l) d) (get l' d) :=
  env_back (pre := [(d0, v0), (d1, v1)]) hv (fun p hp _ => by
    simp only [List.mem_cons, List.not_mem_nil, or_false] at hp
    rcases hp with rfl | rfl <;> assumption) hl
theorem env_back3 {di : Nat} {v : LV} {l l' : List (Nat × LV)} {d0 d1 d2 : Nat} {v0 v1 v2 : LV} (hv : Is v (get l' di)) (h0 : Is v0 (get l' d0)) (h1 : Is v1 (get l' d1)) (h2 : Is v2 (get l' d2)) (hl : ∀ d, d ≠ di → Is (get l d) (get l' d)) : ∀ d, Is (get ((di, v) :: (d0, v0) :: (d1, v1) :: (d2, v2) :: l) d) (get l' d) :=
  env_back (pre := [(d0, v0), (d1, v1), (d2, v2)]) hv (fun p hp _ => by
    simp only [List.mem_cons, List.not_mem_nil, or_false] at hp
    rcases hp with rfl | rfl | rfl <;> assumption) hl
theorem env_back4 {di : Nat} {v : LV} {l l' : List (Nat × LV)} {d0 d1 d2 d3 : Nat} {v0 v1 v2 v3 : LV} (hv : Is v (get l' di)) (h0 : Is v0 (get l' d0)) (h1 : Is v1 (get l' d1)) (h2 : Is v2 (get l' d2)) (h3 : Is v3 (get l' d3)) (hl : ∀ d, d ≠ di → Is (get l d) (get l' d)) : ∀ d, Is (get ((di, v) :: (d0, v0) :: (d1, v1) :: (d2, v2) :: (d3, v3) :: l) d) (get l' d) :=
  env_back (pre := [(d0, v0), (d1, v1), (d2, v2), (d3, v3)]) hv (fun p hp _ => by
    simp only [List.mem_cons, List.not_mem_nil, or_false] at hp
    rcases hp with rfl | rfl | rfl | rfl <;> assumption) hl
theorem Weaker.mk' {n : NN} {e e' : List (Nat × LV)} {H H' : List Atom} (h : ∀ d, Is (get e d) (get e' d)) (k : HSub H H') : Weaker ⟨n, e, H⟩ ⟨n, e', H'⟩ := ⟨rfl, h, k⟩
end
end Go.L
namespace Go.L
open Go.RowKit
section
variable {P : Program} {env : List (Nat × LV)} {H : List Atom} {d : Option Tmp} {ty : TypeId} {pos : String} {af : Array Edge} {g : Option (Nat × Bool)} {st : LS} {K : LS → Prop}
end
end Go.L
namespace Go.L
open Go.RowKit
/-- An iterator whose items come with memory of their own: J says what an item's arguments are, and what is owned with them. -/
def LIterW (P : Program) (gf : FuncId) (caps : Array Value) {ι : Type} (items : List ι) (J : ι → List LV → List Atom → Prop) (Hi Hi' : List Atom) : Prop :=
  ∀ (α β : Type) (F : α → List Atom) (G : β → List Atom) (φ : Nat → α → Prop) (ψ : β → Prop) (yv : Value), yv.oneCell' = true →
    (∀ k p y x Hx, items[k]? = some y → J y x Hx → φ k p → LYields P yv x (Hx ++ F p) (fun r H' => (∃ q, r = .raw (.bool true) ∧ φ (k + 1) q ∧ H' = F q) ∨ (∃ q, r = .raw (.bool false) ∧ ψ q ∧ H' = G q))) →
    ∀ p0, φ 0 p0 → LCalls P gf (.raw yv :: raws caps.toList) (Hi ++ F p0) (fun r H' => (∃ q, φ items.length q ∧ H' = Hi' ++ F q) ∨ (∃ q, ψ q ∧ H' = Hi' ++ G q))
section
variable {P : Program} {ops : Array Oper} {K : LS → Prop}
theorem getD_tf {S : Array Bool} {j : Nat} (h : S.getD j false = true) : S.getD j true = true := by
  by_cases hj : j < S.size
  · rw [Array.getD_eq_getD_getElem?, Array.getElem?_eq_getElem hj] at h ⊢; exact h
  · rw [Array.getD_eq_getD_getElem?, Array.getElem?_eq_none (by omega)]; rfl
theorem getD_ft {S : Array Bool} {j : Nat} (hj : j < S.size) (h : S.getD j true = true) : S.getD j false = true := by
  rw [Array.getD_eq_getD_getElem?, Array.getElem?_eq_getElem hj] at h ⊢; exact h
theorem LA.invM {m : Nat} (hok : DrawOk ops m) (hm : m ≤ ops.size) {I : Array Bool → LS → Prop} (l2 : List Oper) (hl2 : m + l2.length = ops.size) (hget : ∀ j, j < l2.length → ops[m + j]? = l2[j]?)
    (step : ∀ S st i, I S st → S.size = ops.size → Down ops S → i < m → i ∈ Region.ready .any ops S → ∃ o, ops[i]? = some o ∧ LP P ops o st (fun s => I (S.setIfInBounds i true) s))
    (fin : ∀ S st, I S st → (∀ j, j < m → S.getD j true = true) → LL P ops l2 st K) :
    ∀ fuel S st, S.size = ops.size → Down ops S → (∀ i, m ≤ i → i < ops.size → S.getD i true = false) → left S (List.range ops.size) ≤ fuel → I S st → LA P ops fuel S st K
  | fuel, S, st, hs, hd, hz, hf, hI => by
    by_cases hall : ∀ j, j < m → S.getD j true = true
    · intro w0 ph a w r Q kk
      refine oany_tail hok l2 m fuel S a w (Nat.le_refl _) hl2 hget hs (fun j hj => ⟨fun h => ?_, hall j⟩) ?_ (fin S st hI hall w0 ph a w r Q kk)
      · by_cases hjm : j < m
        · exact hjm
        · rw [hz j (by omega) hj] at h; cases h
      · have : ∀ (k : Nat) (l : List Nat), (∀ i ∈ l, S.getD i true = false) → l.length ≤ left S l := fun k l => by
          induction l with
          | nil => intro _; simp [left]
          | cons x l ih =>
            intro h
            have h1 := ih fun i hi => h i (by simp [hi])
            have h2 := h x (by simp)
            simp only [left, h2, List.length_cons]
            simp
            omega
        have hsplit : ∀ (a b : List Nat), left S (a ++ b) = left S a + left S b := fun a b => by
          induction a with
          | nil => simp [left]
          | cons x a ih => simp only [List.cons_append, left, ih]; omega
        have e : List.range ops.size = List.range m ++ (List.range l2.length).map (m + ·) := by rw [← hl2, List.range_add]
        rw [e, hsplit] at hf
        have h3 := this 0 ((List.range l2.length).map (m + ·)) fun i hi => by
          obtain ⟨q, hq, rfl⟩ := List.mem_map.1 hi
          exact hz _ (by omega) (by have := List.mem_range.1 hq; omega)
        simp only [List.length_map, List.length_range] at h3
        omega
    · cases hr : Region.ready .any ops S with
      | nil =>
        refine absurd (fun j hj => ?_) hall
        have hlt : ((List.range ops.size).all fun i => (direct ops i).all fun j => Nat.blt j i) = true := List.all_eq_true.2 fun i hi => List.all_eq_true.2 fun j hj => Nat.ble_eq_true_of_le (hok.less i (List.mem_range.1 hi) j hj)
        exact all_done hs hlt hr j
      | cons i rs =>
        have hmem : ∀ j ∈ i :: rs, j ∈ Region.ready .any ops S := fun j hj => by rw [hr]; exact hj
        have hlm : ∀ j ∈ Region.ready .any ops S, j < m := fun j hj => by
          obtain ⟨h1, h2, h3⟩ := ready_iff.1 hj
          by_cases hjm : j < m
          · exact hjm
          · refine absurd (fun k hk => ?_) hall
            exact getD_tf (clo_down hok hd j k h2 (by omega) (hok.last j k h2 (by omega) (by omega)) h3)
        obtain ⟨h1, h2, _⟩ := ready_iff.1 (hmem i (by simp))
        have hpos := left_set h2 h1
        cases fuel with
        | zero => omega
        | succ n =>
          refine LA.step hr ?_
          have all : ∀ l : List Nat, (∀ j ∈ l, j ∈ Region.ready .any ops S) → LAs P ops n S st K l := by
            intro l
            induction l with
            | nil => intro _; exact .nil
            | cons j l ih =>
              intro hl
              have hj := hl j (by simp)
              obtain ⟨o, ho, hp⟩ := step S st j hI hs hd (hlm j hj) hj
              obtain ⟨g1, g2, g3⟩ := ready_iff.1 hj
              have hlt := left_set g2 g1
              have hjm := hlm j hj
              refine .cons ho rfl (fun w0 ph a w r N Q k => hp w0 ph a w r N Q fun ph' st' a' w' hle r' q => k ph' st' a' w' hle r' (LA.invM hok hm l2 hl2 hget step fin n _ st' (by simp [hs]) ?_ ?_ (by omega) q)) (ih fun q hq => hl q (by simp [hq]))
              · intro x hx y hy
                rw [getD_set (by omega)] at hx ⊢
                by_cases hyj : y = j
                · rw [if_pos hyj]
                · rw [if_neg hyj]
                  by_cases hxj : x = j
                  · subst hxj; exact g3 y hy
                  · rw [if_neg hxj] at hx; exact hd x hx y hy
              · intro x hx hxs
                rw [getD_set (by omega), if_neg (by omega)]
                exact hz x hx hxs
          exact all _ hmem
theorem envS_all {val : Nat → LV} {f : Nat → Bool} {env : List (Nat × LV)} : ∀ {sl : List (Nat × Nat)}, (∀ p ∈ sl, f p.1 = true) → envS sl val f env = envS sl val (fun _ => true) env
  | [], _ => rfl
  | p :: sl, h => by
    show (p.2, cond (f p.1) (val p.2) .any) :: envS sl val f env = (p.2, val p.2) :: envS sl val (fun _ => true) env
    rw [h p (by simp), envS_all fun q hq => h q (by simp [hq])]
    rfl
/-- A region that draws its order: its first m operations each once, whatever else of them is done; then the others. -/
theorem LW.invM {id m : Nat} {n : NN} {env : List (Nat × LV)} {H : List Atom} {l : List Oper} {Q : Exit → LS → Prop} {γ : Type} (sl : List (Nat × Nat)) (val : γ → Nat → LV) (hp : γ → (Nat → Bool) → List Atom) (g0 : γ)
    (hmo : P.follows .mixedOrders = true) (hok : drawOk l.toArray m = true) (hm : Nat.ble m l.length = true) (hsl : (sl.all fun p => Nat.blt p.1 m) = true)
    (init : HSub H (hp g0 fun j => (Array.replicate l.length false).getD j true))
    (each : ∀ i, i < m → ∀ f g, f i = false → (∀ j ∈ direct l.toArray i, f j = true) → (∀ j, j < m → f j = true → ∀ k ∈ direct l.toArray j, f k = true) → ∃ o, l.toArray[i]? = some o ∧ LP P l.toArray o ⟨n, envS sl (val g) f env, hp g f⟩ (fun s => ∃ g', Weaker s ⟨n, envS sl (val g') (upd f i) env, hp g' (upd f i)⟩))
    (fin : ∀ g f, (∀ j, j < m → f j = true) → LL P l.toArray (l.drop m) ⟨n, envS sl (val g) (fun _ => true) env, hp g f⟩ (fun s => Q .normal s)) (hnd : noDefer l = true := by kernel_rfl) : LW P (.region id l.toArray true) ⟨n, env, H⟩ Q := by
  have hm' : m ≤ l.length := Nat.le_of_ble_eq_true hm
  have hO := DrawOk.of hok
  have hsz : l.toArray.size = l.length := by simp
  refine LW.all hmo (LA.invM hO (by omega) (I := fun S s => ∃ g, Weaker s ⟨n, envS sl (val g) (fun j => S.getD j true) env, hp g (fun j => S.getD j true)⟩) (l.drop m) (by simp; omega) (fun j hj => by simp) ?_ ?_ l.toArray.size _ _ (by simp) ?_ ?_ ?_ ?_) hnd
  · rintro S st i ⟨g, hw⟩ hs hd him hi
    obtain ⟨h1, h2, h3⟩ := ready_iff.1 hi
    obtain ⟨o, ho, hlp⟩ := each i him (fun j => S.getD j true) g h1 (fun j hj => getD_tf (h3 j hj)) (fun j hj hf k hk => getD_tf (hd j (getD_ft (by omega) hf) k hk))
    refine ⟨o, ho, hw.lp fun w0 ph a w r N Q' k => hlp w0 ph a w r N Q' fun ph' st' a' w' hle r' q => k ph' st' a' w' hle r' ?_⟩
    rw [getD_upd (by omega)]; exact q
  · rintro S st ⟨g, hw⟩ hall
    have e := envS_all (val := val g) (f := fun j => S.getD j true) (env := env) (sl := sl) fun p hp' => hall p.1 (Nat.le_of_ble_eq_true (List.all_eq_true.1 hsl p hp'))
    rw [e] at hw
    intro w0 ph a w r Q' kk
    exact fin g _ hall w0 ph a w (hw.rels r) Q' kk
  · intro i hi
    simp [Array.getD_eq_getD_getElem?, Array.getElem?_replicate] at hi
    split at hi <;> simp_all
  · intro i hi1 hi2
    rw [Array.getD_eq_getD_getElem?, Array.getElem?_replicate, if_pos hi2]; rfl
  · have : ∀ (S : Array Bool) (l : List Nat), left S l ≤ l.length := fun S l => by
      induction l with
      | nil => simp [left]
      | cons a l ih => simp only [left, List.length_cons]; split <;> omega
    have := this (Array.replicate l.toArray.size false) (List.range l.toArray.size)
    simpa using this
  · have hz : ∀ p ∈ sl, (Array.replicate l.toArray.size false).getD p.1 true = false := fun p hp' => by
      have := Nat.le_of_ble_eq_true (List.all_eq_true.1 hsl p hp')
      rw [Array.getD_eq_getD_getElem?, Array.getElem?_replicate, if_pos (by omega)]; rfl
    refine ⟨g0, rfl, envS_start (val g0) (fun j => (Array.replicate l.toArray.size false).getD j true) env sl hz, ?_⟩
    rw [hsz]
    exact init
end
theorem LU.nilMEqS {P : Program} {env : List (Nat × LV)} {H : List Atom} {d : Option Tmp} {ty : TypeId} {pos : String} {af : Array Edge} {g : Option (Nat × Bool)} {x y : Operand} {t t' : TypeId} {kt et : TypeId} {b : Nat} (ht : P.underlying t = some (.map kt et)) (hx : Is (ev env x) (.raw (.map (some b)))) (hy : Is (ev env y) (.raw (.map none))) : LU P env H ⟨d, .binOp .eql t x y t', ty, pos, af, g⟩ (.raw (.bool false)) := .raw fun ac hl w => by
  have h1 := hl x (by simp [Op.operands]) _ hx
  have h2 := hl y (by simp [Op.operands]) _ hy
  have he : (Op.equal t (.map (some b)) (.map none)).run P w = .ok false w := by
    rw [show Op.equal t (.map (some b)) (.map none) = Op.equalIn (9999 + 1) t (.map (some b)) (.map none) from rfl, Op.equalIn]
    rw [Sem.run_bind, run_underlying ht, Result.andThen_ok]
    rfl
  have hg : (eqGuard .eql t x y (.map (some b)) (.map none)).run P w = .ok () w := by unfold eqGuard; simp
  have hb : binOp .eql t (.map (some b)) (.map none) = (do pure (.bool ((← Op.equal t (.map (some b)) (.map none))))) := by rfl
  simp only [execOp, h1, h2, Sem.run_bind, hg, Result.andThen_ok, hb, he, Sem.run_pure] <;> rfl
end Go.L
namespace Go.L
open Go.RowKit
section
variable {P : Program} {env : List (Nat × LV)} {H : List Atom} {d : Option Tmp} {ty : TypeId} {pos : String} {af : Array Edge} {g : Option (Nat × Bool)} {st : LS} {K : LS → Prop}
/-- What a call of a function value gives. -/
def FnCalls (P : Program) (v : Value) (args : List LV) (H : List Atom) (post : LV → List Atom → Prop) : Prop :=
  ∃ (f : FuncId) (fn : Func) (first caps : Array Value), v = .func (.func f) first caps ∧ P.funcs[f]? = some fn ∧ (fn.name == "runtime.NumGoroutine") = false ∧ fn.body.isSome = true ∧ LCalls P f (raws first.toList ++ (args ++ raws caps.toList)) H post
/-- A function by its name. -/
theorem FnCalls.named {f : FuncId} {fn : Func} {args : List LV} {H : List Atom} {post : LV → List Atom → Prop} (hf : P.funcs[f]? = some fn) (hname : (fn.name == "runtime.NumGoroutine") = false) (hb : fn.body.isSome = true) (h : LCalls P f args H post) : FnCalls P (.func (.func f) #[] #[]) args H post :=
  ⟨f, fn, #[], #[], rfl, hf, hname, hb, by simpa [raws] using h⟩
/-- A method bound to its receiver. -/
theorem FnCalls.bound {f : FuncId} {fn : Func} {v : Value} {args : List LV} {H : List Atom} {post : LV → List Atom → Prop} (hf : P.funcs[f]? = some fn) (hname : (fn.name == "runtime.NumGoroutine") = false) (hb : fn.body.isSome = true) (h : LCalls P f (.raw v :: args) H post) : FnCalls P (.func (.func f) #[v] #[]) args H post :=
  ⟨f, fn, #[v], #[], rfl, hf, hname, hb, by simpa [raws] using h⟩
theorem LO.callF {v : Value} {t : Operand} {as0 : Array Operand} {ts : Array TypeId} {vs : List LV} {Hc R : List Atom} {post : LV → List Atom → Prop} {d : Tmp} (hc : FnCalls P v vs Hc post) (ht : Is (ev st.env t) (.raw v)) (hd : Nat.blt d st.n.k = true) (hsub : HSub st.heap (Hc ++ R)) (ha : Opds st.env as0.toList vs)
    (h : ∀ r H', post r H' → K ⟨st.n, (d, r) :: st.env, H' ++ R⟩) : LO P ⟨some d, .call { callee := .value t, args := as0, argTypes := ts }, ty, pos, af, g⟩ st K := fun w0 ph a w r N Q k => by
  obtain ⟨f, fn, first, caps, rfl, hf, hname, hb, hc⟩ := hc
  have hargs := ha.reps (a := a) (ph := ph) (fun x _ => r.tmps.eval x)
  have htv := (ht _ _ (r.tmps.eval t)).rawE
  have hrun : (execOp a.eval ⟨some d, .call { callee := .value t, args := as0, argTypes := ts }, ty, pos, af, g⟩).run P w = .ok (.enter f (first ++ as0.map a.eval ++ caps)) w := by
    simp [execOp, resolve, htv, Deferred.ofValue, invoke, enters hf hname hb]
  unfold owp
  rw [hrun]
  refine upon_enter ?_
  refine (hc R w0 ph w (first ++ as0.map a.eval ++ caps) (hsub.app r.inv) (by rw [map_arr a.eval as0, Array.append_assoc]; exact (reps_raws first).append (hargs.append (reps_raws caps)))).mono ?_
  rintro e w' ⟨v, ph', x, H', rfl, hle, hi, hx, hp⟩
  exact k ph' _ _ w' hle (r.put hle hi hd hx) (h x H' hp)
theorem X.callF {n : NN} {v : Value} {t : Operand} {as0 : Array Operand} {ts : Array TypeId} {vs : List LV} {Hc R : List Atom} {post : LV → List Atom → Prop} {d : Tmp} (hc : FnCalls P v vs Hc post) (ht : Is (ev env t) (.raw v)) (hd : Nat.blt d n.k = true) (hsub : HSub H (Hc ++ R)) (ha : Opds env as0.toList vs)
    (h : ∀ r H', post r H' → K ⟨n, (d, r) :: env, H' ++ R⟩) : LO P ⟨some d, .call { callee := .value t, args := as0, argTypes := ts }, ty, pos, af, g⟩ ⟨n, env, H⟩ K := LO.callF (st := ⟨n, env, H⟩) hc ht hd hsub ha h
/-- x.m, a method bound. -/
theorem LU.bound {f : FuncId} {x : Operand} {v : Value} (h : Is (ev env x) (.raw v)) : LU P env H ⟨d, .makeFunc (.func f) #[x] #[], ty, pos, af, g⟩ (.raw (.func (.func f) #[v] #[])) := .of_run fun ph a hl w0 w hi => by
  have := (h _ _ (hl x (by simp [Op.operands]))).rawE
  refine ⟨_, ?_, .raw _⟩
  simp [execOp, Instr.makeFunc, this]
end
section
variable {P : Program} {b : Frame} {a : Act} {k : List Item} {cs : List Frame} {w : World}
theorem stepR_scope {c : Code} : step P (lone (b.atR a (.code (.scope c) :: k)) cs w) = .next (lone (b.atR a (.code c :: .inScope c :: k)) cs w) :=
  step_lone_go (by simp [stepG, stepG.exec, Frame.atR])
theorem stepR_inScope {c : Code} : step P (lone (b.atR a (.inScope c :: k)) cs w) = .next (lone (b.atR a k) cs w) :=
  step_lone_go (by simp [stepG, stepG.exec, Frame.atR])
theorem wpIn_scope {F : Fence} {n : Nat} {Q : Exit → Act → World → Prop} {c : Code} (h : c.wpIn F n P (Exit.noGoto Q) a w) : (Code.scope c).wpIn F n P Q a w := by
  intro b k cs hro hb hr
  have h0 : (lone (b.atR a (.code (.scope c) :: k)) cs w).fenced P F := fenced_calm hb hr rfl
  obtain ⟨e, a₁, w₁, hq, harr⟩ := h b (.inScope c :: k) cs hro hb hr
  cases e with
  | normal => exact ⟨.normal, a₁, w₁, hq, .head h0 stepR_scope (StepsIn.trans harr (.one (fenced_calm hb hr rfl) stepR_inScope))⟩
  | exit id =>
    have hx : exitTo id (.inScope c :: k) = exitTo id k := by simp [exitTo]
    exact ⟨.exit id, a₁, w₁, hq, fun k' hk => .head h0 stepR_scope (harr.1 k' (by rw [hx]; exact hk)),
      fun hr' hk => let ⟨k₁, h1, h2⟩ := harr.2 hr' (by rw [hx]; exact hk); ⟨k₁, h1, .head h0 stepR_scope h2⟩⟩
  | goto l => exact hq.elim
  | ret => exact ⟨_, a₁, w₁, hq, .of_steps (.one h0 stepR_scope) harr⟩
  | panic ch => exact ⟨_, a₁, w₁, hq, .of_steps (.one h0 stepR_scope) harr⟩
  | outgrown => exact ⟨_, a₁, w₁, hq, .of_steps (.one h0 stepR_scope) harr⟩
end
section
variable {P : Program} {st : LS} {Q : Exit → LS → Prop} {t : List It} {c : Code}
/-- A scope through which the run goes without a jump. -/
theorem LW.scope (hg : ∀ i s, ¬ after P t Q (.goto i) s) (h : LW P c st (after P t Q)) : LW P (.scope c) st (after P t Q) := fun w0 ph a w r Q' kk => by
  refine wpIn_scope (h w0 ph a w r (Exit.noGoto Q') fun e ph' st' a' w' hle r' q => ?_)
  cases e with
  | goto i => exact (hg i st' q).elim
  | normal => exact kk _ ph' st' a' w' hle r' q
  | exit i => exact kk _ ph' st' a' w' hle r' q
  | ret => exact kk _ ph' st' a' w' hle r' q
  | panic c => exact kk _ ph' st' a' w' hle r' q
  | outgrown => exact kk _ ph' st' a' w' hle r' q
theorem LW.label {i : Nat} (h : Q .normal st) : LW P (.label i) st Q := fun w0 ph a w r Q' kk => wpIn_label (kk _ ph st a w (PH.le.refl _) r h)
theorem no_goto {rs : Array ResultVar} {R : List Atom} {post : LV → List Atom → Prop} (i : Nat) (s : LS) : ¬ after P [] (Ends P rs R post) (.goto i) s := fun h => by
  rcases h.1 with h | h <;> cases h
end
end Go.L
namespace Go.L
open Go.RowKit
variable {P : Program}
/-- A function, entered as0 a deferred call. -/
def LDef (P : Program) (f : FuncId) (args : List LV) (H H2 : List Atom) : Prop :=
  ∀ (R : List Atom) (w0 : Base) ph w (vs : Array Value) (u : FrameMode), Inv w0 ph w (H ++ R) → Reps ph vs args →
    CallsDIn Fence.wide 0 P f vs u w fun e u' w' => u' = u ∧ ∃ v ph', e = .returned v ∧ PH.le ph ph' ∧ Inv w0 ph' w' (H2 ++ R)
end Go.L
namespace Go.L
open Go.RowKit
section
variable {P : Program} {st : LS} {env : List (Nat × LV)} {H : List Atom} {K : LS → Prop} {ty : TypeId} {pos : String} {af : Array Edge} {g : Option (Nat × Bool)}
theorem Inv.putCells {w0 : Base} {ph : PH} {w : World} {b : Nat} {t : TypeId} {xs ys : List LV} (hinv : Inv w0 ph w (.cells b t xs :: H)) {news : List Value} (hc : CReps ph news.toArray ys) {off : Nat} (hlen : off + ys.length ≤ xs.length) :
    Inv w0 ph (w.setCells b off news) (.cells b t (putAt xs off ys) :: H) ∧ (∀ j, j < ys.length → (w.cell? ⟨b, off + j, none⟩).isSome = true) ∧ ∀ j, j < ys.length → w.frozen? ⟨b, off + j, none⟩ = false := by
  obtain ⟨F, hF, cs, hh, ⟨hl, hr⟩, ho⟩ := hinv.atom
  obtain ⟨⟨hn, hcr⟩, hco⟩ := hc
  simp only [List.size_toArray] at hn
  obtain ⟨cs', hh', hsz', hget⟩ := heap_setCells news off w cs hh (by omega)
  refine ⟨hinv.turn (a' := .cells b t (putAt xs off ys)) (PH.le.refl _) (fun G hG hn' => ⟨(chg_setCells _ w).mono (fun b' o' hb => (hG.1 b' o').2 hb), G, ⟨hG.1, cs', hh', ⟨by rw [putAt_length _ _ _ (by omega)]; omega, fun i c z hi hz => ?_⟩, fun i c hi => ?_⟩, fun b' o' hb => .inl hb, fun p u hp => .inl hp⟩), fun j hj => ?_, fun j hj => ?_⟩
  · rw [hget] at hi
    rw [putAt_get _ _ _ (by omega)] at hz
    by_cases hin : off ≤ i ∧ i < off + news.length
    · rw [if_pos hin] at hi
      rw [if_pos (by omega)] at hz
      exact hcr (i - off) c z (by simpa using hi) hz
    · rw [if_neg hin] at hi
      rw [if_neg (by omega)] at hz
      exact hr i c z hi hz
  · rw [hget] at hi
    by_cases hin : off ≤ i ∧ i < off + news.length
    · rw [if_pos hin] at hi
      exact hco (i - off) c (by simpa using hi)
    · rw [if_neg hin] at hi
      exact ho i c hi
  · rw [cell_of_row w b (off + j) cs t (0, 0) hh, Array.getElem?_eq_getElem (by omega)]; rfl
  · simp [World.frozen?, hh]
/-- append(s[:i], s[j:]...) within the room of an owned row. -/
theorem LO.appendIn {s x : Operand} {t tx e te : TypeId} {z : Value} {size by_ : Nat} {b off n c off2 n2 c2 : Nat} {xs : List LV} {ys : List (List LV)} {d : Tmp} (k : Nat) (hk : st.heap[k]? = some (.cells b te xs)) (hd : Nat.blt d st.n.k = true) (ht : P.underlying t = some (.slice e)) (htx : P.underlying tx = some (.slice e)) (hel : El P e z size by_)
    (hs : Is (ev st.env s) (.raw (.slice (some ⟨b, off, none⟩) n c))) (hx : Is (ev st.env x) (.raw (.slice (some ⟨b, off2, none⟩) n2 c2))) (hys : ∀ e ∈ ys, e.length = size) (hn : ys.length = n2) (hfit2 : off2 + n2 * size ≤ xs.length) (he : ys.flatten = (xs.drop off2).take (n2 * size)) (hnc : n2 ≤ c2) (hroom : n + n2 ≤ c) (hfit : off + n * size + n2 * size ≤ xs.length)
    (h : K ⟨st.n, (d, .raw (.slice (some ⟨b, off, none⟩) (n + n2) c)) :: st.env, .cells b te (putAt xs (off + n * size) ys.flatten) :: st.heap.eraseIdx k⟩) :
    LO P ⟨some d, .call { callee := .builtin .append, args := #[s, x], argTypes := #[t, tx] }, ty, pos, af, g⟩ st K := .of_run hd fun w0 ph a w rl => by
  have h1 := (hs _ _ (rl.tmps.eval s)).rawE
  obtain ⟨⟨i, hi, hz, hsz, hby⟩, hzs, hs0⟩ := hel
  have hsrc0 : SrcG P [.cells b te xs] tx size (.raw (.slice (some ⟨b, off2, none⟩) n2 c2)) ys := SrcG.cells htx hs0 hys hn hfit2 he hnc
  obtain ⟨news, hsrc, hnc2⟩ := hsrc0.2 w0 ph w st.heap (a.eval x) (fun a ha => by rw [List.mem_singleton.1 ha]; exact List.mem_of_getElem? hk) rl.inv (hx _ _ (rl.tmps.eval x))
  have hnl : news.length = ys.length * size := hsrc.newsLen
  have hfl : ys.flatten.length = n2 * size := by rw [he, List.length_take, List.length_drop]; omega
  have hinv := rl.inv.front k
  unfold L.front at hinv
  rw [hk] at hinv
  obtain ⟨hi2, hthere, hfro⟩ := hinv.putCells hnc2 (off := off + n * size) (by omega)
  have hr := run_append_room_src (P := P) w t tx ty e i ht hi b off n c (a.eval x) ys.length news (hsz ▸ hsrc) (by omega) (fun j hj => by rw [hsz]; exact hthere j (by rw [hfl, ← hn]; omega)) (fun j hj => by rw [hsz]; exact hfro j (by rw [hfl, ← hn]; omega))
  rw [hsz, hn] at hr
  exact ⟨_, _, _, ph, _, by simp [execOp, resolve, invoke, builtin, h1, hr], PH.le.refl _, hi2, .raw _, h⟩
/-- A slice asked whether it is nil: if it is, it has no elements. -/
theorem LO.nilSl {x y : Operand} {t t' e : TypeId} {size : Nat} {es : List (List LV)} {k : Cap} {d : Tmp} (hd : Nat.blt d st.n.k = true) (ht : P.underlying t = some (.slice e)) (hx : Is (ev st.env x) (.sl size es k)) (hy : Is (ev st.env y) (.raw (.slice none 0 0)))
    (h : ∀ b : Bool, (b = true → es = []) → K ⟨st.n, (d, .raw (.bool b)) :: st.env, st.heap⟩) : LO P ⟨some d, .binOp .eql t x y t', ty, pos, af, g⟩ st K := .of_run hd fun w0 ph a w rl => by
  have h1 := hx _ _ (rl.tmps.eval x)
  have h2 := (hy _ _ (rl.tmps.eval y)).rawE
  generalize hu : a.eval x = u at h1
  cases h1 with
  | sl _ _ _ A n c ad u hA hn hnc hs hcap hp hr =>
    have he : (Op.equal t (.slice A n c) (.slice none 0 0)).run P w = .ok A.isNone w := by
      rw [show Op.equal t (.slice A n c) (.slice none 0 0) = Op.equalIn (9999 + 1) t (.slice A n c) (.slice none 0 0) from rfl, Op.equalIn]
      rw [Sem.run_bind, run_underlying ht, Result.andThen_ok]
      cases A <;> rfl
    have hg : (eqGuard .eql t x y (.slice A n c) (.slice none 0 0)).run P w = .ok () w := by unfold eqGuard; simp
    have hb : binOp .eql t (.slice A n c) (.slice none 0 0) = (do pure (.bool ((← Op.equal t (.slice A n c) (.slice none 0 0))))) := by rfl
    refine ⟨_, .bool A.isNone, w, ph, _, ?_, PH.le.refl _, rl.inv, .raw _, h A.isNone fun hn' => ?_⟩
    · simp only [execOp, hu, h2, Sem.run_bind, hg, Result.andThen_ok, hb, he, Sem.run_pure] <;> rfl
    · cases A with
      | some q => cases hn'
      | none =>
        refine List.eq_nil_of_length_eq_zero (Nat.eq_zero_of_not_pos fun h0 => ?_)
        have := hA h0
        cases this
/-- An owned row, sliced. -/
theorem LU.sliceR {x : Operand} {d : Option Tmp} {t e : TypeId} {size n c : Nat} {A : Option Addr} {lo hi : Option Operand} {l h : Option Int} (hs : ∀ w, (sizeOf e).run P w = .ok size w) (ht : P.underlying t = some (.slice e)) (hx : Is (ev env x) (.raw (.slice A n c))) (hl : optInt env lo l) (hh : optInt env hi h)
    (h0 : 0 ≤ l.getD 0) (h1 : l.getD 0 ≤ h.getD n) (h2 : h.getD n ≤ c) (hnc : n ≤ c) :
    LU P env H ⟨d, .slice t x lo hi none, ty, pos, af, g⟩ (.raw (sliced A (l.getD 0).toNat (h.getD n).toNat c size)) := .of_run fun ph a hc w0 w hinv => by
  have hu := (hx _ _ (hc x (by simp [Op.operands]))).rawE
  have ht' : P.underlying t = some (.slice (P.elem t)) := by rw [elem_of ht]; exact ht
  have he : P.elem t = e := elem_of ht
  refine ⟨_, ?_, .raw _⟩
  cases lo <;> cases l <;> simp only [optInt] at hl <;> cases hi <;> cases h <;> simp only [optInt] at hh
  · simp [execOp, hu, run_sliceAt_slice w t _ _ _ _ ht', run_slice_all w t A n c ht', he, hs]
  · rename_i y i
    obtain ⟨k1, hk1⟩ := hh
    have e2 := (hk1 _ _ (hc y (by simp [Op.operands]))).rawE
    simp only [Option.getD_none, Option.getD_some] at h0 h1 h2
    simp [execOp, hu, e2, run_sliceAt_slice w t _ _ _ _ ht', run_slice_h w t A n c ht' k1 i h1 (by omega), he, hs]
  · rename_i y i
    obtain ⟨k1, hk1⟩ := hl
    have e2 := (hk1 _ _ (hc y (by simp [Op.operands]))).rawE
    simp only [Option.getD_none, Option.getD_some] at h0 h1 h2
    simp [execOp, hu, e2, run_sliceAt_slice w t _ _ _ _ ht', run_slice_l w t A n c ht' k1 i h0 (by omega), he, hs]
  · rename_i y i z j
    obtain ⟨k1, hk1⟩ := hl
    obtain ⟨k2, hk2⟩ := hh
    have e2 := (hk1 _ _ (hc y (by simp [Op.operands]))).rawE
    have e3 := (hk2 _ _ (hc z (by simp [Op.operands]))).rawE
    simp only [Option.getD_some] at h0 h1 h2
    simp [execOp, hu, e2, e3, run_sliceAt_slice w t _ _ _ _ ht', run_slice_lh w t A n c ht' k1 k2 i j h0 h1 (by omega), he, hs]
/-- s[i:j:k] of an owned row. -/
theorem LU.sliceR3 {x y z u : Operand} {d : Option Tmp} {t e : TypeId} {size n c : Nat} {A : Option Addr} {k1 k2 k3 : IntKind} {i j m : Int} (hs : ∀ w, (sizeOf e).run P w = .ok size w) (ht : P.underlying t = some (.slice e)) (hx : Is (ev env x) (.raw (.slice A n c))) (hy : Is (ev env y) (.raw (.int k1 i))) (hz : Is (ev env z) (.raw (.int k2 j))) (hu : Is (ev env u) (.raw (.int k3 m)))
    (h0 : 0 ≤ i) (h1 : i ≤ j) (h2 : j ≤ m) (h3 : m ≤ c) :
    LU P env H ⟨d, .slice t x (some y) (some z) (some u), ty, pos, af, g⟩ (.raw (sliced A i.toNat j.toNat m.toNat size)) := .of_run fun ph a hc w0 w hinv => by
  have e1 := (hx _ _ (hc x (by simp [Op.operands]))).rawE
  have e2 := (hy _ _ (hc y (by simp [Op.operands]))).rawE
  have e3 := (hz _ _ (hc z (by simp [Op.operands]))).rawE
  have e4 := (hu _ _ (hc u (by simp [Op.operands]))).rawE
  have ht' : P.underlying t = some (.slice (P.elem t)) := by rw [elem_of ht]; exact ht
  have he : P.elem t = e := elem_of ht
  refine ⟨_, ?_, .raw _⟩
  simp [execOp, e1, e2, e3, e4, run_sliceAt_slice w t _ _ _ _ ht', run_slice_lhm w t A n c ht' k1 k2 k3 i j m h0 h1 h2 (by omega), he, hs]
end
end Go.L
namespace Go.L
open Go.RowKit
theorem HSub.appR {H K : List Atom} (R : List Atom) (h : HSub K H) : HSub (K ++ R) (H ++ R) := fun ph w F s => by
  obtain ⟨F1, F2, h1, h2, hF, hd⟩ := s.split
  obtain ⟨G, g1, g2⟩ := h ph w F1 h1
  exact ⟨_, Sep.app g1 h2 (fun b o hg hf => hd b o (g2 b o hg) hf), fun b o hbo => (hF b o).2 (hbo.imp (g2 b o) id)⟩
theorem LCalls.need {P : Program} {f : FuncId} {args : List LV} {H K : List Atom} {post : LV → List Atom → Prop} (hs : HSub K H) (h : LCalls P f args H post) : LCalls P f args K post :=
  fun R w0 ph w vs i r => h R w0 ph w vs ((HSub.appR R hs).app i) r
theorem LCalls.frame {P : Program} {f : FuncId} {args : List LV} {H : List Atom} {post : LV → List Atom → Prop} (F : List Atom) (h : LCalls P f args H post) : LCalls P f args (H ++ F) (fun r H' => ∃ H0, H' = H0 ++ F ∧ post r H0) :=
  fun R w0 ph w vs i r => (h (F ++ R) w0 ph w vs (by rw [← List.append_assoc]; exact i) r).mono fun e w' ⟨v, ph', x, H', h1, h2, h3, h4, h5⟩ => ⟨v, ph', x, H' ++ F, h1, h2, by rw [List.append_assoc]; exact h3, h4, H', rfl, h5⟩
end Go.L
namespace Go.L
open Go.RowKit
variable {P : Program}
theorem arr_open {e : TypeId} {size : Nat} {Q : List LV → Prop} (hc : P.cellsOf e = size) (he : Opens P e Q) {H : Type} {enc : TypeId × Value → H} {w : World} {base : Nat} {spare : Nat → Bool} {held : Bool} {m : Nat} :
    ∀ (n : Nat) (cs : List Value), cs.length = n * size → (∀ i, i < n → ∃ y, DataW.trod enc P w base spare held m e ((cs.drop (i * size)).take size) = some y ∧ Weighs P e y.1) →
      ∃ es : List (List LV), CReps (PH.all w) cs.toArray es.flatten ∧ es.length = n ∧ ∀ c ∈ es, c.length = size ∧ Q c
  | 0, cs, hl, _ => by
    obtain rfl : cs = [] := List.eq_nil_of_length_eq_zero (by omega)
    exact ⟨[], ⟨⟨by simp, fun i c x h1 h2 => by simp at h2⟩, fun i c h1 => by simp at h1⟩, rfl, by simp⟩
  | n + 1, cs, hl, h => by
    rw [Nat.succ_mul] at hl
    obtain ⟨y, hy, hyw⟩ := h 0 (by omega)
    rw [Nat.zero_mul, List.drop_zero] at hy
    obtain ⟨ys, h3, h4⟩ := he H enc w base spare held m _ y hy hyw
    obtain ⟨es, h5, h6, h7⟩ := arr_open hc he n (cs.drop size) (by rw [List.length_drop]; omega) (fun i hi => by
      obtain ⟨z, hz, hzw⟩ := h (i + 1) (by omega)
      refine ⟨z, ?_, hzw⟩
      rwa [List.drop_drop, show size + i * size = (i + 1) * size by rw [Nat.succ_mul]; omega])
    have hlen : (cs.take size).length = size := by rw [List.length_take]; omega
    refine ⟨ys :: es, ?_, by simp [h6], fun c hc' => ?_⟩
    · have := creps_append h3 h5
      rwa [List.take_append_drop] at this
    · rcases List.mem_cons.1 hc' with rfl | hc'
      · have := h3.1.1
        simp only [List.size_toArray, hlen] at this
        exact ⟨this.symm, h4⟩
      · exact h7 c hc'
theorem Opens.array {t e : TypeId} {n size : Nat} {Q : List LV → Prop} (ht : P.underlying t = some (.array n e)) (hc : P.cellsOf e = size) (hs0 : 0 < size) (hm : P.cellsOf t = n * size) (he : Opens P e Q) : Opens P t (QArr n size Q) := fun H enc w base spare held fuel cs x hx hw => by
  obtain ⟨xs, m, _, rfl, hl, hxl, hi⟩ := DataW.trod_array ht hx
  obtain ⟨es, h1, h2, h3⟩ := arr_open hc he (H := H) (enc := enc) (w := w) (base := base) (spare := spare) (held := held) (m := m) n cs (by omega) (fun i hin => by
    have h1 := hi i hin
    have hlt : i < xs.length := by omega
    rw [List.getElem?_eq_getElem hlt, hc] at h1
    refine ⟨_, h1, fun k hk => hw k ?_⟩
    simp only [DataW.weights, ht]
    exact weightsAll_mem (List.mem_map_of_mem (List.getElem_mem hlt)) k hk)
  exact ⟨es.flatten, h1, es, rfl, h2, h3⟩
end Go.L
namespace Go.L
open Go.RowKit
def drawOkB (ops : Array Oper) (m : Nat) : Bool :=
  let B := Region.before ops
  let n := ops.size
  (List.range n).all fun i =>
    (direct ops i).all (fun j => Nat.blt j i) &&
    (List.range n).all (fun k => !(B.getD i 0).testBit k || (direct ops i).contains k || (direct ops i).any fun e => (B.getD e 0).testBit k) &&
    (Nat.blt i m || (List.range i).all fun k => (B.getD i 0).testBit k)
section
variable {P : Program} {ops : Array Oper} {K : LS → Prop}
structure DrawOkB (ops : Array Oper) (m : Nat) : Prop where
  less : ∀ i, i < ops.size → ∀ j ∈ direct ops i, j < i
  clo : ∀ i k, i < ops.size → k < ops.size → ((Region.before ops).getD i 0).testBit k = true → k ∈ direct ops i ∨ ∃ e ∈ direct ops i, ((Region.before ops).getD e 0).testBit k = true
  last : ∀ i k, i < ops.size → m ≤ i → k < i → ((Region.before ops).getD i 0).testBit k = true
theorem DrawOkB.of {m : Nat} (h : drawOkB ops m = true) : DrawOkB ops m := by
  unfold drawOkB at h
  simp only [List.all_eq_true, List.mem_range, Bool.and_eq_true] at h
  refine ⟨fun i hi j hj => ?_, fun i k hi hk hb => ?_, fun i k hi hm hk => ?_⟩
  · obtain ⟨⟨h1, _⟩, _⟩ := h i hi
    simpa [Nat.blt_eq] using h1 j hj
  · obtain ⟨⟨_, h1⟩, _⟩ := h i hi
    have := h1 k hk
    simp only [Bool.or_eq_true, hb, Bool.not_true, Bool.false_eq_true, false_or, List.contains_iff_mem, List.any_eq_true] at this
    exact this
  · obtain ⟨⟨_, _⟩, h1⟩ := h i hi
    rcases Bool.or_eq_true _ _ |>.mp h1 with h1 | h1
    · have : i < m := by simpa [Nat.blt_eq] using h1
      omega
    · exact List.all_eq_true.1 h1 k (List.mem_range.2 hk)
theorem clo_downB {m : Nat} (hok : DrawOkB ops m) {S : Array Bool} (hd : Down ops S) : ∀ i k, i < ops.size → k < ops.size → ((Region.before ops).getD i 0).testBit k = true → (∀ j ∈ direct ops i, S.getD j false = true) → S.getD k false = true := by
  intro i
  induction i using Nat.strongRecOn with
  | _ i ih =>
    intro k hi hk hb hs
    rcases hok.clo i k hi hk hb with h | ⟨e, he, hb'⟩
    · exact hs k h
    · have hlt := hok.less i hi e he
      exact ih e hlt k (by omega) hk hb' (hd e (hs e he))
theorem oany_tailB {m : Nat} {Q : Exit → Act → World → Prop} (hok : DrawOkB ops m) : ∀ (l : List Oper) (k : Nat) (fuel : Nat) (S : Array Bool) (a : Act) (w : World), m ≤ k → k + l.length = ops.size → (∀ j, j < l.length → ops[k + j]? = l[j]?) → S.size = ops.size → (∀ j, j < ops.size → (S.getD j true = true ↔ j < k)) → l.length ≤ fuel →
    olist P ops Q l a w → oany P .any ops Q fuel S a w
  | [], k, fuel, S, a, w, hm, hk, hl, hS, hs, hf, h => by
    refine oany_done ?_ h fuel
    cases hr : Region.ready .any ops S with
    | nil => rfl
    | cons i r =>
      have : i ∈ Region.ready .any ops S := by rw [hr]; simp
      obtain ⟨h1, h2, _⟩ := ready_iff.1 this
      have := (hs i h2).2 (by simp at hk; omega)
      rw [h1] at this
      cases this
  | o :: l, k, 0, S, a, w, hm, hk, hl, hS, hs, hf, h => by simp at hf
  | o :: l, k, fuel + 1, S, a, w, hm, hk, hl, hS, hs, hf, h => by
    simp only [List.length_cons] at hk hf
    have hks : k < ops.size := by omega
    have hkk : ops[k]? = some o := by have := hl 0 (by simp); simpa using this
    have hfalse : S.getD k true = false := by
      cases hb : S.getD k true with
      | false => rfl
      | true => have := (hs k hks).1 hb; omega
    have hset : ∀ j, j < ops.size → ((S.setIfInBounds k true).getD j true = true ↔ j < k + 1) := fun j hj => by
      rw [getD_set (by omega)]
      by_cases hjk : j = k
      · simp [hjk]
      · rw [if_neg hjk, hs j hj]
        omega
    have hgd : ∀ j, j < ops.size → S.getD j false = S.getD j true := fun j hj => by
      simp [show j < S.size by omega]
    refine ⟨fun hr => ?_, fun i hi => ?_⟩
    · have : k ∈ Region.ready .any ops S := ready_iff.2 ⟨hfalse, hks, fun j hj => by
        have := hok.less k hks j hj
        rw [hgd j (by omega)]
        exact (hs j (by omega)).2 this⟩
      rw [hr] at this
      cases this
    · obtain ⟨h1, h2, h3⟩ := ready_iff.1 hi
      have hik : i = k := by
        have hge : ¬ i < k := fun hlt => by
          have := (hs i h2).2 hlt
          rw [h1] at this
          cases this
        rcases Nat.lt_or_ge k i with hlt | hle
        · have hb := hok.last i k h2 (by omega) hlt
          have hdown : Down ops S := fun x hx j hj => by
            have hxs : x < ops.size := by
              rcases Nat.lt_or_ge x ops.size with h | h
              · exact h
              · rw [show S.getD x false = false by simp [show ¬ x < S.size by omega]] at hx
                cases hx
            have hlt2 := hok.less x hxs j hj
            rw [hgd j (by omega)]
            rw [hgd x hxs] at hx
            have := (hs x hxs).1 hx
            exact (hs j (by omega)).2 (by omega)
          have := clo_downB hok hdown i k h2 hks hb h3
          rw [hgd k hks, hfalse] at this
          cases this
        · omega
      subst hik
      have hrec := fun (a' : Act) (w' : World) (h' : olist P ops Q l a' w') => oany_tailB hok l (i + 1) fuel (S.setIfInBounds i true) a' w' (by omega) (by omega) (fun j hj => by
        have := hl (j + 1) (by simp; omega)
        rw [show i + 1 + j = i + (j + 1) by omega, this, List.getElem?_cons_succ]) (by simp [hS]) hset (by omega) h'
      unfold olist at h
      unfold oop
      simp only [hkk]
      split
      · rename_i hw
        rw [if_pos hw] at h
        exact owp_mono (fun a' w' h' => hrec a' w' h') h
      · rename_i hw
        rw [if_neg hw] at h
        exact hrec _ _ h
theorem LA.invB {m : Nat} (hok : DrawOkB ops m) (hm : m ≤ ops.size) {I : Array Bool → LS → Prop} (l2 : List Oper) (hl2 : m + l2.length = ops.size) (hget : ∀ j, j < l2.length → ops[m + j]? = l2[j]?)
    (step : ∀ S st i, I S st → S.size = ops.size → Down ops S → i < m → i ∈ Region.ready .any ops S → ∃ o, ops[i]? = some o ∧ LP P ops o st (fun s => I (S.setIfInBounds i true) s))
    (fin : ∀ S st, I S st → (∀ j, j < m → S.getD j true = true) → LL P ops l2 st K) :
    ∀ fuel S st, S.size = ops.size → Down ops S → (∀ i, m ≤ i → i < ops.size → S.getD i true = false) → left S (List.range ops.size) ≤ fuel → I S st → LA P ops fuel S st K
  | fuel, S, st, hs, hd, hz, hf, hI => by
    by_cases hall : ∀ j, j < m → S.getD j true = true
    · intro w0 ph a w r Q kk
      refine oany_tailB hok l2 m fuel S a w (Nat.le_refl _) hl2 hget hs (fun j hj => ⟨fun h => ?_, hall j⟩) ?_ (fin S st hI hall w0 ph a w r Q kk)
      · by_cases hjm : j < m
        · exact hjm
        · rw [hz j (by omega) hj] at h; cases h
      · have : ∀ (k : Nat) (l : List Nat), (∀ i ∈ l, S.getD i true = false) → l.length ≤ left S l := fun k l => by
          induction l with
          | nil => intro _; simp [left]
          | cons x l ih =>
            intro h
            have h1 := ih fun i hi => h i (by simp [hi])
            have h2 := h x (by simp)
            simp only [left, h2, List.length_cons]
            simp
            omega
        have hsplit : ∀ (a b : List Nat), left S (a ++ b) = left S a + left S b := fun a b => by
          induction a with
          | nil => simp [left]
          | cons x a ih => simp only [List.cons_append, left, ih]; omega
        have e : List.range ops.size = List.range m ++ (List.range l2.length).map (m + ·) := by rw [← hl2, List.range_add]
        rw [e, hsplit] at hf
        have h3 := this 0 ((List.range l2.length).map (m + ·)) fun i hi => by
          obtain ⟨q, hq, rfl⟩ := List.mem_map.1 hi
          exact hz _ (by omega) (by have := List.mem_range.1 hq; omega)
        simp only [List.length_map, List.length_range] at h3
        omega
    · cases hr : Region.ready .any ops S with
      | nil =>
        refine absurd (fun j hj => ?_) hall
        have hlt : ((List.range ops.size).all fun i => (direct ops i).all fun j => Nat.blt j i) = true := List.all_eq_true.2 fun i hi => List.all_eq_true.2 fun j hj => Nat.ble_eq_true_of_le (hok.less i (List.mem_range.1 hi) j hj)
        exact all_done hs hlt hr j
      | cons i rs =>
        have hmem : ∀ j ∈ i :: rs, j ∈ Region.ready .any ops S := fun j hj => by rw [hr]; exact hj
        have hlm : ∀ j ∈ Region.ready .any ops S, j < m := fun j hj => by
          obtain ⟨h1, h2, h3⟩ := ready_iff.1 hj
          by_cases hjm : j < m
          · exact hjm
          · refine absurd (fun k hk => ?_) hall
            exact getD_tf (clo_downB hok hd j k h2 (by omega) (hok.last j k h2 (by omega) (by omega)) h3)
        obtain ⟨h1, h2, _⟩ := ready_iff.1 (hmem i (by simp))
        have hpos := left_set h2 h1
        cases fuel with
        | zero => omega
        | succ n =>
          refine LA.step hr ?_
          have all : ∀ l : List Nat, (∀ j ∈ l, j ∈ Region.ready .any ops S) → LAs P ops n S st K l := by
            intro l
            induction l with
            | nil => intro _; exact .nil
            | cons j l ih =>
              intro hl
              have hj := hl j (by simp)
              obtain ⟨o, ho, hp⟩ := step S st j hI hs hd (hlm j hj) hj
              obtain ⟨g1, g2, g3⟩ := ready_iff.1 hj
              have hlt := left_set g2 g1
              have hjm := hlm j hj
              refine .cons ho rfl (fun w0 ph a w r N Q k => hp w0 ph a w r N Q fun ph' st' a' w' hle r' q => k ph' st' a' w' hle r' (LA.invB hok hm l2 hl2 hget step fin n _ st' (by simp [hs]) ?_ ?_ (by omega) q)) (ih fun q hq => hl q (by simp [hq]))
              · intro x hx y hy
                rw [getD_set (by omega)] at hx ⊢
                by_cases hyj : y = j
                · rw [if_pos hyj]
                · rw [if_neg hyj]
                  by_cases hxj : x = j
                  · subst hxj; exact g3 y hy
                  · rw [if_neg hxj] at hx; exact hd x hx y hy
              · intro x hx hxs
                rw [getD_set (by omega), if_neg (by omega)]
                exact hz x hx hxs
          exact all _ hmem
theorem LW.invB {id m : Nat} {n : NN} {env : List (Nat × LV)} {H : List Atom} {l : List Oper} {Q : Exit → LS → Prop} {γ : Type} (sl : List (Nat × Nat)) (val : γ → Nat → LV) (hp : γ → (Nat → Bool) → List Atom) (g0 : γ)
    (hmo : P.follows .mixedOrders = true) (hok : drawOkB l.toArray m = true) (hm : Nat.ble m l.length = true) (hsl : (sl.all fun p => Nat.blt p.1 m) = true)
    (init : HSub H (hp g0 fun j => (Array.replicate l.length false).getD j true))
    (each : ∀ i, i < m → ∀ f g, f i = false → (∀ j ∈ direct l.toArray i, f j = true) → (∀ j, j < m → f j = true → ∀ k ∈ direct l.toArray j, f k = true) → ∃ o, l.toArray[i]? = some o ∧ LP P l.toArray o ⟨n, envS sl (val g) f env, hp g f⟩ (fun s => ∃ g', Weaker s ⟨n, envS sl (val g') (upd f i) env, hp g' (upd f i)⟩))
    (fin : ∀ g f, (∀ j, j < m → f j = true) → LL P l.toArray (l.drop m) ⟨n, envS sl (val g) (fun _ => true) env, hp g f⟩ (fun s => Q .normal s)) (hnd : noDefer l = true := by kernel_rfl) : LW P (.region id l.toArray true) ⟨n, env, H⟩ Q := by
  have hm' : m ≤ l.length := Nat.le_of_ble_eq_true hm
  have hO := DrawOkB.of hok
  have hsz : l.toArray.size = l.length := by simp
  refine LW.all hmo (LA.invB hO (by omega) (I := fun S s => ∃ g, Weaker s ⟨n, envS sl (val g) (fun j => S.getD j true) env, hp g (fun j => S.getD j true)⟩) (l.drop m) (by simp; omega) (fun j hj => by simp) ?_ ?_ l.toArray.size _ _ (by simp) ?_ ?_ ?_ ?_) hnd
  · rintro S st i ⟨g, hw⟩ hs hd him hi
    obtain ⟨h1, h2, h3⟩ := ready_iff.1 hi
    obtain ⟨o, ho, hlp⟩ := each i him (fun j => S.getD j true) g h1 (fun j hj => getD_tf (h3 j hj)) (fun j hj hf k hk => getD_tf (hd j (getD_ft (by omega) hf) k hk))
    refine ⟨o, ho, hw.lp fun w0 ph a w r N Q' k => hlp w0 ph a w r N Q' fun ph' st' a' w' hle r' q => k ph' st' a' w' hle r' ?_⟩
    rw [getD_upd (by omega)]; exact q
  · rintro S st ⟨g, hw⟩ hall
    have e := envS_all (val := val g) (f := fun j => S.getD j true) (env := env) (sl := sl) fun p hp' => hall p.1 (Nat.le_of_ble_eq_true (List.all_eq_true.1 hsl p hp'))
    rw [e] at hw
    intro w0 ph a w r Q' kk
    exact fin g _ hall w0 ph a w (hw.rels r) Q' kk
  · intro i hi
    simp [Array.getD_eq_getD_getElem?, Array.getElem?_replicate] at hi
    split at hi <;> simp_all
  · intro i hi1 hi2
    rw [Array.getD_eq_getD_getElem?, Array.getElem?_replicate, if_pos hi2]; rfl
  · have : ∀ (S : Array Bool) (l : List Nat), left S l ≤ l.length := fun S l => by
      induction l with
      | nil => simp [left]
      | cons a l ih => simp only [left, List.length_cons]; split <;> omega
    have := this (Array.replicate l.toArray.size false) (List.range l.toArray.size)
    simpa using this
  · have hz : ∀ p ∈ sl, (Array.replicate l.toArray.size false).getD p.1 true = false := fun p hp' => by
      have := Nat.le_of_ble_eq_true (List.all_eq_true.1 hsl p hp')
      rw [Array.getD_eq_getD_getElem?, Array.getElem?_replicate, if_pos (by omega)]; rfl
    refine ⟨g0, rfl, envS_start (val g0) (fun j => (Array.replicate l.toArray.size false).getD j true) env sl hz, ?_⟩
    rw [hsz]
    exact init
end
end Go.L
namespace Go.L
open Go.RowKit
end Go.L
namespace Go.L
open Go.RowKit
section
variable {κ : Type} [DecidableEq κ]
def idxM : List (κ × LV) → κ → Option Nat
  | [], _ => none
  | p :: r, a => if p.1 = a then some 0 else (idxM r a).map (· + 1)
def lookM (l : List (κ × LV)) (a : κ) : Option LV := (idxM l a).bind fun i => (l[i]?).map (·.2)
def setM (l : List (κ × LV)) (a : κ) (v : LV) : List (κ × LV) := match idxM l a with
  | some i => l.set i (a, v)
  | none => l ++ [(a, v)]
def delM (l : List (κ × LV)) (a : κ) : List (κ × LV) := match idxM l a with
  | some i => l.eraseIdx i
  | none => l
theorem idxM_some : ∀ {l : List (κ × LV)} {a : κ} {i : Nat}, idxM l a = some i → ∃ v, l[i]? = some (a, v)
  | [], a, i, h => by simp [idxM] at h
  | (b, v) :: r, a, i, h => by
    rw [idxM] at h
    by_cases e : b = a
    · simp only [e, if_true, Option.some.injEq] at h
      subst h; subst e
      exact ⟨v, rfl⟩
    · simp only [e, if_false, Option.map_eq_some_iff] at h
      obtain ⟨j, hj, rfl⟩ := h
      exact idxM_some (l := r) hj
end
/-- A map's entries, told by keys. -/
abbrev mp {κ : Type} (key : κ → Value) (l : List (κ × LV)) : List (LV × LV) := l.map fun p => (.raw (key p.1), p.2)
/-- A type of keys: how they are found. -/
structure KeyOk (P : Program) (kt : TypeId) {κ : Type} [DecidableEq κ] (key : κ → Value) : Prop where
  check : ∀ (a : κ) (b : Bool) (w : World), (Instr.checkKey b 10000 kt (key a)).run P w = .ok () w
  find : ∀ (a : κ) (es : List MapEntry) (l : List (κ × LV)) (w : World), es.map (·.key) = l.map (fun p => key p.1) → (Instr.findKey kt (key a) es).run P w = .ok ((idxM l a).bind fun i => (es[i]?).map fun e => (i, e.val)) w
  stays : ∀ a : κ, Instr.sameBits 10000 (key a) (key a) = true
theorem findNow_ok {κ : Type} [DecidableEq κ] {key : κ → Value} {kind : TypeDesc} (hn : ∀ a b, Instr.sameNow kind (key a) (key b) = some (decide (b = a))) (a : κ) : ∀ (es : List MapEntry) (l : List (κ × LV)) (n : Nat), es.map (·.key) = l.map (fun p => key p.1) → Instr.findNow kind (key a) es n = some ((idxM l a).bind fun i => (es[i]?).map fun e => (n + i, e.val))
  | [], [], n, _ => by simp [Instr.findNow, idxM]
  | [], p :: l, n, h => by simp at h
  | e :: es, [], n, h => by simp at h
  | e :: es, p :: l, n, h => by
    simp only [List.map_cons, List.cons.injEq] at h
    rw [Instr.findNow, h.1, hn]
    by_cases c : p.1 = a
    · simp [idxM, c]
    · simp only [c, decide_false, idxM, if_false]
      rw [findNow_ok hn a es l (n + 1) h.2]
      cases idxM l a with
      | none => simp
      | some i => simp [show n + 1 + i = n + (i + 1) by omega]
theorem KeyOk.ofNow {P : Program} {kt : TypeId} {κ : Type} [DecidableEq κ] {key : κ → Value} {kind : TypeDesc} (hk : P.underlying kt = some kind) (hn : ∀ a b, Instr.sameNow kind (key a) (key b) = some (decide (b = a)))
    (hc : ∀ (a : κ) (b : Bool) (w : World), (Instr.checkKey b 10000 kt (key a)).run P w = .ok () w) (hs : ∀ a : κ, Instr.sameBits 10000 (key a) (key a) = true) : KeyOk P kt key := ⟨hc, fun a es l w h => by
  unfold Instr.findKey
  simp only [Sem.run_bind, run_underlying hk, Result.andThen_ok, findNow_ok hn a es l 0 h, Sem.run_pure]
  simp only [Nat.zero_add], hs⟩
theorem KeyOk.int {P : Program} {kt : TypeId} {k : IntKind} (hk : P.underlying kt = some (.int k)) : KeyOk P kt (fun n : Int => Value.int k n) :=
  KeyOk.ofNow hk (fun a b => by
    simp only [Instr.sameNow, if_true, Option.some.injEq]
    rw [Bool.eq_iff_iff]
    simp only [beq_iff_eq, decide_eq_true_eq]
    exact eq_comm) (fun a b w => by
    rw [Instr.checkKey]
    simp [run_underlying hk]) (fun a => by simp [Instr.sameBits])
section
variable {P : Program} {env : List (Nat × LV)} {H : List Atom} {d : Option Tmp} {ty : TypeId} {pos : String} {af : Array Edge} {g : Option (Nat × Bool)} {st : LS} {K : LS → Prop}
theorem run_makeMap {t : TypeId} (w : World) : (Instr.makeMap t none).run P w = .ok (.map (some w.heap.size)) (w.alloc (.map #[] 0)) := by
  simp [Instr.makeMap]
theorem LO.makeMap {t : TypeId} {d : Tmp} (hd : Nat.blt d st.n.k = true) (h : ∀ b, K ⟨st.n, (d, .raw (.map (some b))) :: st.env, .map b [] :: st.heap⟩) : LO P ⟨some d, .makeMap t none, ty, pos, af, g⟩ st K := .of_run hd fun w0 ph a w r => by
  refine ⟨.raw (.map (some w.heap.size)), _, w.alloc (.map #[] 0), ph, _, by simp [execOp, run_makeMap], PH.le.refl _, ?_, .raw _, h w.heap.size⟩
  exact r.inv.new (G := fun b _ => b = w.heap.size) (Below.alloc (Below.refl _ _) (Nat.le_refl _) _) ⟨fun _ _ => Iff.rfl, #[], 0, heap_alloc_new w _, rfl, fun i m kv h => by simp at h, List.Pairwise.nil⟩ (fun b _ hb => by rw [hb]; exact Nat.le_refl _)
theorem LU.lenMap {x : Operand} {t kt et : TypeId} {m : Nat} {es : List (LV × LV)} (k : Nat) (hk : H[k]? = some (.map m es)) (ht : P.underlying t = some (.map kt et)) (hx : Is (ev env x) (.raw (.map (some m)))) :
    LU P env H ⟨d, .call { callee := .builtin .len, args := #[x], argTypes := #[t] }, ty, pos, af, g⟩ (.raw (.int .i64 es.length)) := .of_run fun ph a hl w0 w hinv => by
  have h1 := (hx _ _ (hl x (by simp [Op.operands, Call.operands]))).rawE
  obtain ⟨F, hF, ents, clock, hh, hsz, _⟩ := hinv.atom_at hk
  refine ⟨.int .i64 es.length, ?_, .raw _⟩
  simp [execOp, resolve, invoke, builtin, h1, Builtin.len_, run_underlying ht, MapKept.run_getObj_map hh, goInt, hsz]
theorem map_keys {κ : Type} {key : κ → Value} {ph : PH} {ents : Array MapEntry} {l : List (κ × LV)} {clock : Nat} (hsz : ents.size = (mp key l).length) (h : ∀ (i : Nat) (m : MapEntry) (kv : LV × LV), ents[i]? = some m → (mp key l)[i]? = some kv → Rep ph m.key kv.1 ∧ Rep ph m.val kv.2 ∧ m.born < clock) : ents.toList.map (·.key) = l.map (fun p => key p.1) := by
  apply List.ext_getElem?
  intro i
  simp only [List.getElem?_map, Array.getElem?_toList]
  by_cases hi : i < ents.size
  · have hi2 : i < l.length := by rw [hsz, List.length_map] at hi; exact hi
    have := (h i ents[i] (.raw (key l[i].1), l[i].2) (Array.getElem?_eq_getElem hi) (by rw [List.getElem?_map, List.getElem?_eq_getElem hi2]; rfl)).1.rawE
    rw [Array.getElem?_eq_getElem hi, List.getElem?_eq_getElem hi2]
    simp [this]
  · rw [Array.getElem?_eq_none (by omega), List.getElem?_eq_none (by rw [hsz, List.length_map] at hi; omega)]; rfl
theorem look_run {kt et t : TypeId} {κ : Type} [DecidableEq κ] {key : κ → Value} (Ko : KeyOk P kt key) {m : Nat} {l : List (κ × LV)} {F : FP} {ph : PH} {w : World} (hF : Atom.at ph w (.map m (mp key l)) F) (ht : P.underlying t = some (.map kt et)) {z : Value} (hz : (zeroValue et).run P w = .ok z w) (a : κ) (ok : Bool) :
    ∃ u, (Instr.lookup t (.map (some m)) (key a) ok).run P w = .ok (if ok then .tuple #[u, .bool (lookM l a).isSome] else u) w ∧ Rep ph u ((lookM l a).getD (.raw z)) := by
  obtain ⟨_, ents, clock, hh, hsz, hreps, _⟩ := hF
  have hkeys := map_keys hsz hreps
  have hf := Ko.find a ents.toList l w hkeys
  unfold lookM
  cases hi : idxM l a with
  | none =>
    rw [hi] at hf
    refine ⟨z, ?_, .raw _⟩
    simp only [Option.bind_none] at hf
    cases ok <;> simp [Instr.lookup, run_underlying ht, MapKept.run_getObj_map hh, Ko.check, hf, hz]
  | some i =>
    rw [hi] at hf
    obtain ⟨v, hv⟩ := idxM_some hi
    have hil := (List.getElem?_eq_some_iff.1 hv).1
    have hie : i < ents.size := by rw [hsz, List.length_map]; exact hil
    simp only [Option.bind_some, Array.getElem?_toList, Array.getElem?_eq_getElem hie, Option.map_some] at hf
    have hr := (hreps i ents[i] (.raw (key a), v) (Array.getElem?_eq_getElem hie) (by rw [List.getElem?_map, hv]; rfl)).2.1
    refine ⟨ents[i].val, ?_, by simpa [hv] using hr⟩
    cases ok <;> simp [Instr.lookup, run_underlying ht, MapKept.run_getObj_map hh, Ko.check, hf, hv]
theorem LU.lookup {x y : Operand} {t kt et : TypeId} {m : Nat} {κ : Type} [DecidableEq κ] {key : κ → Value} {l : List (κ × LV)} {z : Value} {a : κ} (k : Nat) (Ko : KeyOk P kt key) (hk : H[k]? = some (.map m (mp key l))) (ht : P.underlying t = some (.map kt et)) (hz : ∀ w, (zeroValue et).run P w = .ok z w) (hx : Is (ev env x) (.raw (.map (some m)))) (hy : Is (ev env y) (.raw (key a))) :
    LU P env H ⟨d, .lookup t x y false, ty, pos, af, g⟩ ((lookM l a).getD (.raw z)) := .of_run fun ph ac hl w0 w hinv => by
  have h1 := (hx _ _ (hl x (by simp [Op.operands]))).rawE
  have h2 := (hy _ _ (hl y (by simp [Op.operands]))).rawE
  obtain ⟨F, hF⟩ := hinv.atom_at hk
  obtain ⟨u, hu, hr⟩ := look_run Ko hF ht (hz w) a false
  exact ⟨u, by simp [execOp, h1, h2, hu], hr⟩
theorem LU.lookupOk {x y : Operand} {t kt et : TypeId} {m : Nat} {κ : Type} [DecidableEq κ] {key : κ → Value} {l : List (κ × LV)} {z : Value} {a : κ} (k : Nat) (Ko : KeyOk P kt key) (hk : H[k]? = some (.map m (mp key l))) (ht : P.underlying t = some (.map kt et)) (hz : ∀ w, (zeroValue et).run P w = .ok z w) (hx : Is (ev env x) (.raw (.map (some m)))) (hy : Is (ev env y) (.raw (key a))) :
    LU P env H ⟨d, .lookup t x y true, ty, pos, af, g⟩ (.tup [(lookM l a).getD (.raw z), .raw (.bool (lookM l a).isSome)]) := .of_run fun ph ac hl w0 w hinv => by
  have h1 := (hx _ _ (hl x (by simp [Op.operands]))).rawE
  have h2 := (hy _ _ (hl y (by simp [Op.operands]))).rawE
  obtain ⟨F, hF⟩ := hinv.atom_at hk
  obtain ⟨u, hu, hr⟩ := look_run Ko hF ht (hz w) a true
  refine ⟨_, by simp [execOp, h1, h2, hu]; rfl, .tup _ _ rfl fun i c x h1 h2 => ?_⟩
  match i with
  | 0 => simp at h1 h2; subst h1; subst h2; exact hr
  | 1 => simp at h1 h2; subst h1; subst h2; exact .raw _
  | k + 2 => simp at h1
theorem Chg.put {w : World} {m : Nat} {F : FP} (o : Obj) (hF : ∀ o, F m o) : Chg w (w.putObj m o) F :=
  Chg.blocks rfl rfl rfl (by simp) (fun b => b = m) (fun b hb o => by rw [hb]; exact hF o) (fun b _ hb => World.putObj_heap_other hb)
/-- m[a] = v -/
theorem LO.mapUpdate {x y z : Operand} {t kt et : TypeId} {m : Nat} {κ : Type} [DecidableEq κ] {key : κ → Value} {l : List (κ × LV)} {a : κ} {v : LV} (k : Nat) (Ko : KeyOk P kt key) (hk : st.heap[k]? = some (.map m (mp key l))) (ht : P.underlying t = some (.map kt et)) (hx : Is (ev st.env x) (.raw (.map (some m)))) (hy : Is (ev st.env y) (.raw (key a))) (hz : Is (ev st.env z) v)
    (h : K ⟨st.n, st.env, .map m (mp key (setM l a v)) :: st.heap.eraseIdx k⟩) : LO P ⟨none, .mapUpdate t x y z, ty, pos, af, g⟩ st K := .of_skip fun w0 ph ac w r => by
  have h1 := (hx _ _ (r.tmps.eval x)).rawE
  have h2 := (hy _ _ (r.tmps.eval y)).rawE
  have h3 := hz _ _ (r.tmps.eval z)
  have hinv := r.inv.front k
  unfold L.front at hinv
  rw [hk] at hinv
  obtain ⟨F, hF, ents, clock, hh, hsz, hreps, hpw⟩ := hinv.atom
  have hkeys := map_keys hsz hreps
  have hf := Ko.find a ents.toList l w hkeys
  have hlen : ents.size = l.length := by rw [hsz, List.length_map]
  have hlt := lt_of_some hh
  cases hi : idxM l a with
  | none =>
    rw [hi] at hf
    simp only [Option.bind_none] at hf
    have hset : setM l a v = l ++ [(a, v)] := by unfold setM; rw [hi]
    refine ⟨w.putObj m (.map (ents.push { key := key a, val := ac.eval z, born := clock }) (clock + 1)), ph, _, ?_, PH.le.refl _, hinv.turn (a' := .map m (mp key (setM l a v))) (PH.le.refl _) (fun G hG hn => ⟨Chg.put _ (fun o => (hG.1 m o).2 rfl), G, ⟨hG.1, _, _, World.putObj_heap_same hlt, ?_, fun i e kv he hkv => ?_, ?_⟩, fun b o hb => .inl hb, fun p u hp => .inl hp⟩), h⟩
    · simp [execOp, h1, h2, Instr.mapUpdate, run_underlying ht, MapKept.run_getObj_map hh, Ko.check, hf, MapKept.run_setObj_map _ hh, World.putObj]
    · rw [hset]; simp [hlen]
    · rw [hset] at hkv
      simp only [mp, List.map_append, List.map_cons, List.map_nil] at hkv
      rw [Array.getElem?_push] at he
      by_cases c : i = ents.size
      · rw [if_pos c] at he
        obtain rfl := Option.some.inj he
        rw [List.getElem?_append_right (by rw [List.length_map]; omega), List.length_map, show i - l.length = 0 by omega] at hkv
        obtain rfl := Option.some.inj hkv
        exact ⟨.raw _, h3, by show clock < clock + 1; omega⟩
      · rw [if_neg c] at he
        have hil := (Array.getElem?_eq_some_iff.1 he).1
        rw [List.getElem?_append_left (by rw [List.length_map]; omega)] at hkv
        have := hreps i e kv he hkv
        exact ⟨this.1, this.2.1, by omega⟩
    · rw [Array.toList_push, List.map_append, List.pairwise_append]
      refine ⟨hpw, by simp, fun x hx y hy => ?_⟩
      simp only [List.map_cons, List.map_nil, List.mem_singleton] at hy
      subst hy
      obtain ⟨e, he, rfl⟩ := List.mem_map.1 hx
      obtain ⟨i, hi2, rfl⟩ := List.getElem_of_mem he
      have hi3 : i < ents.size := by simpa using hi2
      exact (hreps i ents[i] ((mp key l)[i]'(by omega)) (Array.getElem?_eq_getElem hi3) (List.getElem?_eq_getElem _)).2.2
  | some i =>
    rw [hi] at hf
    obtain ⟨u, hu⟩ := idxM_some hi
    have hil := (List.getElem?_eq_some_iff.1 hu).1
    have hie : i < ents.size := by omega
    simp only [Option.bind_some, Array.getElem?_toList, Array.getElem?_eq_getElem hie, Option.map_some] at hf
    have hset : setM l a v = l.set i (a, v) := by unfold setM; rw [hi]
    have hki : ents[i].key = key a := (hreps i ents[i] (.raw (key a), u) (Array.getElem?_eq_getElem hie) (by rw [List.getElem?_map, hu]; rfl)).1.rawE
    refine ⟨w.putObj m (.map (ents.modify i fun e => { e with key := key a, val := ac.eval z }) clock), ph, _, ?_, PH.le.refl _, hinv.turn (a' := .map m (mp key (setM l a v))) (PH.le.refl _) (fun G hG hn => ⟨Chg.put _ (fun o => (hG.1 m o).2 rfl), G, ⟨hG.1, _, _, World.putObj_heap_same hlt, ?_, fun j e kv he hkv => ?_, ?_⟩, fun b o hb => .inl hb, fun p u hp => .inl hp⟩), h⟩
    · simp [execOp, h1, h2, Instr.mapUpdate, run_underlying ht, MapKept.run_getObj_map hh, Ko.check, hf, Instr.keyThatStays, hie, hki, Ko.stays, MapKept.run_setObj_map _ hh, World.putObj]
    · rw [hset]; simp [hlen]
    · rw [hset] at hkv
      rw [Array.getElem?_modify] at he
      simp only [mp, List.map_set] at hkv
      by_cases c : i = j
      · subst c
        rw [if_pos rfl, Array.getElem?_eq_getElem hie] at he
        obtain rfl := Option.some.inj he
        rw [List.getElem?_set_self (by rw [List.length_map]; exact hil)] at hkv
        obtain rfl := Option.some.inj hkv
        exact ⟨.raw _, h3, (hreps i ents[i] (.raw (key a), u) (Array.getElem?_eq_getElem hie) (by rw [List.getElem?_map, hu]; rfl)).2.2⟩
      · rw [if_neg c] at he
        rw [List.getElem?_set_ne c] at hkv
        exact hreps j e kv he hkv
    · have : (ents.modify i fun e => { e with key := key a, val := ac.eval z }).toList.map (·.born) = ents.toList.map (·.born) := by
        apply List.ext_getElem?
        intro j
        simp only [List.getElem?_map, Array.getElem?_toList, Array.getElem?_modify]
        by_cases c : i = j
        · subst c; simp [hie]
        · simp [c]
      rw [this]; exact hpw
/-- range over a map -/
theorem LO.rangeMap {x : Operand} {t kt et : TypeId} {m : Nat} {es : List (LV × LV)} {d : Tmp} (k : Nat) (hd : Nat.blt d st.n.k = true) (hk : st.heap[k]? = some (.map m es)) (ht : P.underlying t = some (.map kt et)) (hx : Is (ev st.env x) (.raw (.map (some m))))
    (h : ∀ b, K ⟨st.n, (d, .raw (.pointer (some ⟨b, 0, none⟩))) :: st.env, .mapr m b es [] :: st.heap.eraseIdx k⟩) : LO P ⟨some d, .range t x, ty, pos, af, g⟩ st K := .of_run hd fun w0 ph ac w r => by
  have h1 := (hx _ _ (r.tmps.eval x)).rawE
  have hinv := r.inv.front k
  unfold L.front at hinv
  rw [hk] at hinv
  obtain ⟨F, hF, ents, clock, hh, hsz, hreps, hpw⟩ := hinv.atom
  have hlt := lt_of_some hh
  have hb : Below w.heap.size w (w.alloc (.mapIter (some m) clock #[] clock)) := Below.alloc (Below.refl _ _) (Nat.le_refl _) _
  refine ⟨.raw (.pointer (some ⟨w.heap.size, 0, none⟩)), _, _, ph, _, by simp only [execOp, h1, Sem.run_bind, run_range_map w t kt et m ents clock ht hh]; rfl, PH.le.refl _, hinv.turn (a' := .mapr m w.heap.size es []) (PH.le.refl _) (fun G hG hn => ⟨Chg.below hb _, fun b o => b = m ∨ b = w.heap.size, ⟨fun b o => Iff.rfl, by omega, ents, clock, ?_, hsz, hreps, hpw, (by simp), #[], heap_alloc_new w _, rfl⟩, fun b o hb => ?_, fun p u hp => .inl hp⟩), .raw _, h _⟩
  · rw [heap_alloc_old w _ hlt]; exact hh
  · rcases hb with rfl | rfl
    · exact .inl ((hG.1 b o).2 rfl)
    · exact .inr (Nat.le_refl _)
theorem nodup_of_pairwise_lt {l : List Nat} (h : l.Pairwise (· < ·)) : l.Nodup := h.imp fun h => Nat.ne_of_lt h
/-- The next entry, whichever; or there is none left. -/
theorem LO.nextMap {x : Operand} {m it : Nat} {es : List (LV × LV)} {seen : List Nat} {d : Tmp} (k : Nat) (hd : Nat.blt d st.n.k = true) (hk : st.heap[k]? = some (.mapr m it es seen)) (hx : Is (ev st.env x) (.raw (.pointer (some ⟨it, 0, none⟩))))
    (h1 : ∀ i kv, es[i]? = some kv → i ∉ seen → K ⟨st.n, (d, .tup [.raw (.bool true), kv.1, kv.2]) :: st.env, .mapr m it es (seen ++ [i]) :: st.heap.eraseIdx k⟩)
    (h2 : (∀ i, i < es.length → i ∈ seen) → K ⟨st.n, (d, .tup [.raw (.bool false)]) :: st.env, .mapr m it es seen :: st.heap.eraseIdx k⟩) : LO P ⟨some d, .next x false, ty, pos, af, g⟩ st K := .of_run hd fun w0 ph ac w r => by
  have hx1 := (hx _ _ (r.tmps.eval x)).rawE
  have hinv := r.inv.front k
  unfold L.front at hinv
  rw [hk] at hinv
  obtain ⟨F, hF, hne, ents, clock, hh, hsz, hreps, hpw, hsl, arr, hit, harr⟩ := hinv.atom
  have hlt := lt_of_some hit
  have hltm := lt_of_some hh
  have hold : ∀ x ∈ ents.toList, x.born < clock := fun e he => by
    obtain ⟨i, hi2, rfl⟩ := List.getElem_of_mem he
    have hi3 : i < ents.size := by simpa using hi2
    exact (hreps i ents[i] (es[i]'(by omega)) (Array.getElem?_eq_getElem hi3) (List.getElem?_eq_getElem _)).2.2
  have hborn : ∀ i j (hi : i < ents.size) (hj : j < ents.size), ents[i].born = ents[j].born → i = j := fun i j hi hj e => by
    have hnd := nodup_of_pairwise_lt hpw
    have := (List.getElem_inj (h₀ := by simpa using hi) (h₁ := by simpa using hj) hnd).1 (by simpa using e)
    exact this
  have hseen : ∀ i (hi : i < ents.size), (ents[i].born ∈ arr.toList ↔ i ∈ seen) := fun i hi => by
    rw [harr, List.mem_map]
    constructor
    · rintro ⟨j, hj, e⟩
      have hj2 : j < ents.size := by have := hsl j hj; omega
      rw [Array.getElem?_eq_getElem hj2] at e
      simp only [Option.map_some, Option.getD_some] at e
      rw [hborn i j hi hj2 e.symm]; exact hj
    · intro hi2
      exact ⟨i, hi2, by rw [Array.getElem?_eq_getElem hi]; rfl⟩
  rcases run_next_at (P := P) w ty it m clock clock arr ents clock hit hh hold (Nat.le_refl _) with ⟨hz, hrun⟩ | ⟨e, he, w1, hal, hrun⟩
  · refine ⟨.tup [.raw (.bool false)], _, w, ph, _, by simp only [execOp, hx1, Sem.run_bind, hrun]; rfl, PH.le.refl _, hinv, .tup _ _ rfl fun i c x a b => ?_, h2 fun i hi => ?_⟩
    · match i with
      | 0 => simp at a b; subst a; subst b; exact .raw _
      | i + 1 => simp at a
    · have hi3 : i < ents.size := by omega
      refine (hseen i hi3).1 ?_
      have hemp : leftOf ents arr = #[] := Array.eq_empty_of_size_eq_zero hz
      unfold leftOf at hemp
      rw [Array.filter_eq_empty_iff] at hemp
      have := hemp ents[i] (by simp)
      simpa using this
  · have hmem : e ∈ ents.toList ∧ e.born ∉ arr.toList := by
      unfold leftOf at he
      simpa using he
    obtain ⟨i, hi2, rfl⟩ := List.getElem_of_mem hmem.1
    have hi3 : i < ents.size := by simpa using hi2
    have hil : i < es.length := by omega
    have hkv : es[i]? = some es[i] := List.getElem?_eq_getElem hil
    have hrep := hreps i ents[i] es[i] (Array.getElem?_eq_getElem hi3) hkv
    have hns : i ∉ seen := fun h => hmem.2 (by have := (hseen i hi3).2 h; simpa using this)
    have hw1 : w1.heap = w.heap ∧ w1.os = w.os ∧ w1.tape = w.tape ∧ w1.output = w.output := by rcases hal with rfl | rfl <;> exact ⟨rfl, rfl, rfl, rfl⟩
    refine ⟨.tup [.raw (.bool true), es[i].1, es[i].2], _, _, ph, _, by simp only [execOp, hx1, Sem.run_bind, hrun]; rfl, PH.le.refl _, hinv.turn (a' := .mapr m it es (seen ++ [i])) (PH.le.refl _) (fun G hG hn => ⟨?_, G, ⟨hG.1, hne, ents, clock, ?_, hsz, hreps, hpw, fun j hj => ?_, arr.push ents[i].born, ?_, ?_⟩, fun b o hb => .inl hb, fun p u hp => .inl hp⟩), .tup _ _ rfl fun j c x a b => ?_, h1 i es[i] hkv hns⟩
    · refine Chg.blocks hw1.2.1 hw1.2.2.1 hw1.2.2.2 (by simp [Go.ChangeMaps.setBlock, hw1.1]) (fun b => b = it) (fun b hb o => (hG.1 b o).2 (.inr hb)) (fun b _ hb => ?_)
      simp only [Go.ChangeMaps.setBlock, hw1.1]
      rw [Array.getElem?_setIfInBounds_ne (fun h => hb h.symm)]
    · simp only [Go.ChangeMaps.setBlock, hw1.1]
      rw [Array.getElem?_setIfInBounds_ne (fun h => hne h.symm)]; exact hh
    · rcases List.mem_append.1 hj with h | h
      · exact hsl j h
      · rw [List.mem_singleton.1 h]; exact hil
    · simp only [Go.ChangeMaps.setBlock, hw1.1]
      rw [Array.getElem?_setIfInBounds_self_of_lt hlt]
      rfl
    · rw [Array.toList_push, harr, List.map_append, List.map_cons, List.map_nil, Array.getElem?_eq_getElem hi3]; rfl
    · match j with
      | 0 => simp at a b; subst a; subst b; exact .raw _
      | 1 => simp at a b; subst a; subst b; exact hrep.1
      | 2 => simp at a b; subst a; subst b; exact hrep.2.1
      | j + 3 => simp at a
/-- The entry that the last step gave. -/
theorem LU.entryMap {x : Operand} {m it i : Nat} {es : List (LV × LV)} {seen : List Nat} {kv : LV × LV} (k : Nat) (hk : H[k]? = some (.mapr m it es (seen ++ [i]))) (hi : es[i]? = some kv) (hx : Is (ev env x) (.raw (.pointer (some ⟨it, 0, none⟩)))) : LU P env H ⟨d, .entry x, ty, pos, af, g⟩ (.tup [kv.1, kv.2]) := .of_run fun ph a hl w0 w hinv => by
  have h1 := (hx _ _ (hl x (by simp [Op.operands]))).rawE
  obtain ⟨F, hF, hne, ents, clock, hh, hsz, hreps, hpw, hsl, arr, hit, harr⟩ := hinv.atom_at hk
  have hil := (List.getElem?_eq_some_iff.1 hi).1
  have hie : i < ents.size := by omega
  have hrep := hreps i ents[i] kv (Array.getElem?_eq_getElem hie) hi
  have he : arr = (seen.map fun i => ((ents[i]?).map (·.born)).getD 0).toArray.push ents[i].born := by
    apply Array.toList_inj.1
    rw [harr, List.map_append, Array.toList_push, List.map_cons, List.map_nil, Array.getElem?_eq_getElem hie]; rfl
  rw [he] at hit
  have hrun := run_entry_at (P := P) w it m clock _ ents clock ents[i] hit hh (by simp) (nodup_of_pairwise_lt hpw)
  refine ⟨_, by simp only [execOp, h1, Sem.run_bind, hrun]; rfl, .tup _ _ rfl fun j c x a b => ?_⟩
  match j with
  | 0 => simp at a b; subst a; subst b; exact hrep.1
  | 1 => simp at a b; subst a; subst b; exact hrep.2.1
  | j + 2 => simp at a
end
/-- The loop is over: the map alone. -/
theorem HSub.ranged (m it : Nat) (es : List (LV × LV)) (seen : List Nat) (H : List Atom) : HSub (.mapr m it es seen :: H) (.map m es :: H) := HSub.of fun ph w F ⟨F1, F2, ⟨h1, hne, ents, clock, h2, h3, h4, h5, _⟩, hs, hF, hd⟩ =>
  ⟨fun b o => b = m ∨ F2 b o, ⟨fun b _ => b = m, F2, ⟨fun b o => Iff.rfl, ents, clock, h2, h3, h4, h5⟩, hs, fun b o => Iff.rfl, fun b o hb h => hd b o ((h1 b o).2 (.inl hb)) h⟩, fun b o hb => (hF b o).2 (hb.imp (fun h => (h1 b o).2 (.inl h)) id)⟩
/-- How many of n entries are not seen yet. -/
def unseen (n : Nat) (seen : List Nat) : Nat := ((List.range n).filter fun k => !seen.contains k).length
theorem unseen_lt {n i : Nat} {seen : List Nat} (hi : i < n) (hn : i ∉ seen) : unseen n (seen ++ [i]) < unseen n seen := by
  unfold unseen
  have e : (List.range n).filter (fun k => !(seen ++ [i]).contains k) = ((List.range n).filter fun k => !seen.contains k).filter fun k => k != i := by
    rw [List.filter_filter]
    congr 1
    funext k
    simp only [List.contains_eq_mem, List.mem_append, List.mem_singleton]
    by_cases h1 : k ∈ seen <;> by_cases h2 : k = i <;> simp [h1, h2]
  rw [e]
  refine List.length_filter_lt_length_iff_exists.2 ⟨i, ?_, by simp⟩
  rw [List.mem_filter]
  exact ⟨List.mem_range.2 hi, by simpa using hn⟩
end Go.L
namespace Go.L
open Go.RowKit
section
variable {P : Program} {env : List (Nat × LV)} {H : List Atom} {ty : TypeId} {pos : String} {af : Array Edge} {g : Option (Nat × Bool)}
end
end Go.L
namespace Go.L
open Go.RowKit
end Go.L
namespace Go.L
open Go.RowKit
section
variable {κ : Type} [DecidableEq κ]
def entI (l : List (κ × LV)) (a : κ) : Nat := (idxM l a).getD l.length
def entM (l : List (κ × LV)) (a : κ) (z : LV) : List (κ × LV) := match idxM l a with
  | some _ => l
  | none => l ++ [(a, z)]
theorem ent_set (l : List (κ × LV)) (a : κ) (z v : LV) : (entM l a z).set (entI l a) (a, v) = setM l a v := by
  unfold entM entI setM
  cases h : idxM l a with
  | some i => rfl
  | none => simp
theorem ent_at (l : List (κ × LV)) (a : κ) (z : LV) : (entM l a z)[entI l a]? = some (a, (lookM l a).getD z) := by
  unfold entM entI lookM
  cases h : idxM l a with
  | some i => obtain ⟨v, hv⟩ := idxM_some h; simp [hv]
  | none => simp
end
section
variable {P : Program} {env : List (Nat × LV)} {H : List Atom} {d : Option Tmp} {ty : TypeId} {pos : String} {af : Array Edge} {g : Option (Nat × Bool)} {st : LS} {K : LS → Prop}
theorem LO.mapEntry {x y : Operand} {t kt et : TypeId} {m : Nat} {κ : Type} [DecidableEq κ] {key : κ → Value} {l : List (κ × LV)} {a : κ} {z : Value} {d : Tmp} (k : Nat) (hd : Nat.blt d st.n.k = true) (Ko : KeyOk P kt key) (hk : st.heap[k]? = some (.map m (mp key l))) (ht : P.underlying t = some (.map kt et)) (hz : ∀ w, (zeroValue et).run P w = .ok z w) (hx : Is (ev st.env x) (.raw (.map (some m)))) (hy : Is (ev st.env y) (.raw (key a)))
    (h : ∀ s, K ⟨st.n, (d, .tup [(lookM l a).getD (.raw z), .raw (.int .i64 (s : Nat))]) :: st.env, .mape m (mp key (entM l a (.raw z))) (entI l a) s :: st.heap.eraseIdx k⟩) : LO P ⟨some d, .mapEntry t x y, ty, pos, af, g⟩ st K := .of_run hd fun w0 ph ac w r => by
  have h1 := (hx _ _ (r.tmps.eval x)).rawE
  have h2 := (hy _ _ (r.tmps.eval y)).rawE
  have hinv := r.inv.front k
  unfold L.front at hinv
  rw [hk] at hinv
  obtain ⟨F, hF, ents, clock, hh, hsz, hreps, hpw⟩ := hinv.atom
  have hkeys := map_keys hsz hreps
  have hf := Ko.find a ents.toList l w hkeys
  have hlen : ents.size = l.length := by rw [hsz, List.length_map]
  have hlt := lt_of_some hh
  cases hi : idxM l a with
  | none =>
    rw [hi] at hf
    simp only [Option.bind_none] at hf
    have hM : entM l a (.raw z) = l ++ [(a, .raw z)] := by unfold entM; rw [hi]
    have hI : entI l a = l.length := by unfold entI; rw [hi]; rfl
    have hL : (lookM l a).getD (.raw z) = .raw z := by unfold lookM; rw [hi]; rfl
    refine ⟨_, .tuple #[z, .int .i64 (clock : Nat)], w.putObj m (.map (ents.push { key := key a, val := z, born := clock }) (clock + 1)), ph, _, ?_, PH.le.refl _, hinv.turn (a' := .mape m (mp key (entM l a (.raw z))) (entI l a) clock) (PH.le.refl _) (fun G hG hn => ⟨Chg.put _ (fun o => (hG.1 m o).2 rfl), G, ⟨hG.1, _, _, World.putObj_heap_same hlt, ?_, fun i e kv he hkv => ?_, ?_, ?_⟩, fun b o hb => .inl hb, fun p u hp => .inl hp⟩), ?_, h clock⟩
    · simp [execOp, h1, h2, Instr.mapEntry, run_underlying ht, MapKept.run_getObj_map hh, Ko.check, hf, hz, goInt, MapKept.run_setObj_map _ hh, World.putObj]
    · rw [hM]; simp [hlen]
    · rw [hM] at hkv
      simp only [mp, List.map_append, List.map_cons, List.map_nil] at hkv
      rw [Array.getElem?_push] at he
      by_cases c : i = ents.size
      · rw [if_pos c] at he
        obtain rfl := Option.some.inj he
        rw [List.getElem?_append_right (by rw [List.length_map]; omega), List.length_map, show i - l.length = 0 by omega] at hkv
        obtain rfl := Option.some.inj hkv
        exact ⟨.raw _, .raw _, by show clock < clock + 1; omega⟩
      · rw [if_neg c] at he
        have hil := (Array.getElem?_eq_some_iff.1 he).1
        rw [List.getElem?_append_left (by rw [List.length_map]; omega)] at hkv
        have := hreps i e kv he hkv
        exact ⟨this.1, this.2.1, by omega⟩
    · rw [Array.toList_push, List.map_append, List.pairwise_append]
      refine ⟨hpw, by simp, fun x hx y hy => ?_⟩
      simp only [List.map_cons, List.map_nil, List.mem_singleton] at hy
      subst hy
      obtain ⟨e, he, rfl⟩ := List.mem_map.1 hx
      obtain ⟨i, hi2, rfl⟩ := List.getElem_of_mem he
      have hi3 : i < ents.size := by simpa using hi2
      exact (hreps i ents[i] ((mp key l)[i]'(by omega)) (Array.getElem?_eq_getElem hi3) (List.getElem?_eq_getElem _)).2.2
    · rw [hI, ← hlen]; simp
    · refine .tup _ _ rfl fun i c x h1 h2 => ?_
      match i with
      | 0 => simp [hL] at h1 h2; subst h1; subst h2; exact .raw _
      | 1 => simp at h1 h2; subst h1; subst h2; exact .raw _
      | k + 2 => simp at h1
  | some i =>
    rw [hi] at hf
    obtain ⟨u, hu⟩ := idxM_some hi
    have hil := (List.getElem?_eq_some_iff.1 hu).1
    have hie : i < ents.size := by omega
    simp only [Option.bind_some, Array.getElem?_toList, Array.getElem?_eq_getElem hie, Option.map_some] at hf
    have hM : entM l a (.raw z) = l := by unfold entM; rw [hi]
    have hI : entI l a = i := by unfold entI; rw [hi]; rfl
    have hL : (lookM l a).getD (.raw z) = u := by unfold lookM; rw [hi]; simp [hu]
    have hri := hreps i ents[i] (.raw (key a), u) (Array.getElem?_eq_getElem hie) (by rw [List.getElem?_map, hu]; rfl)
    have hki : ents[i].key = key a := hri.1.rawE
    have hsame : (ents.modify i fun e => { e with key := key a }) = ents := by
      apply Array.ext_getElem?
      intro j
      rw [Array.getElem?_modify]
      by_cases c : i = j
      · subst c; rw [if_pos rfl, Array.getElem?_eq_getElem hie, ← hki]; rfl
      · rw [if_neg c]
    refine ⟨_, .tuple #[ents[i].val, .int .i64 (ents[i].born : Nat)], w.putObj m (.map (ents.modify i fun e => { e with key := key a }) clock), ph, _, ?_, PH.le.refl _, hinv.turn (a' := .mape m (mp key (entM l a (.raw z))) (entI l a) ents[i].born) (PH.le.refl _) (fun G hG hn => ⟨Chg.put _ (fun o => (hG.1 m o).2 rfl), G, ⟨hG.1, _, _, World.putObj_heap_same hlt, ?_, ?_, ?_, ?_⟩, fun b o hb => .inl hb, fun p u hp => .inl hp⟩), ?_, h ents[i].born⟩
    · simp [execOp, h1, h2, Instr.mapEntry, run_underlying ht, MapKept.run_getObj_map hh, Ko.check, hf, Instr.keyThatStays, hie, hki, Ko.stays, goInt, MapKept.run_setObj_map _ hh, World.putObj]
    · rw [hM]; simp [hlen]
    · rw [hM, hsame]; exact hreps
    · rw [hsame]; exact hpw
    · rw [hI, hsame, Array.getElem?_eq_getElem hie]; rfl
    · refine .tup _ _ rfl fun j c x h1 h2 => ?_
      match j with
      | 0 => simp [hL] at h1 h2; subst h1; subst h2; exact hri.2.1
      | 1 => simp at h1 h2; subst h1; subst h2; exact .raw _
      | k + 2 => simp at h1
theorem ent_look {κ : Type} [DecidableEq κ] (l : List (κ × LV)) (a : κ) (z : LV) : (lookM (entM l a z) a).getD z = (lookM l a).getD z := by
  unfold entM
  cases h : idxM l a with
  | some i => rfl
  | none =>
    have h1 : lookM l a = none := by unfold lookM; rw [h]; rfl
    have key : ∀ l : List (κ × LV), idxM l a = none → lookM (l ++ [(a, z)]) a = some z := by
      intro l
      induction l with
      | nil => intro _; simp [lookM, idxM]
      | cons p r ih =>
        intro hp
        rw [idxM] at hp
        by_cases c : p.1 = a
        · simp [c] at hp
        · simp only [c, if_false, Option.map_eq_none_iff] at hp
          have := ih hp
          unfold lookM at this ⊢
          rw [List.cons_append, idxM, if_neg c]
          cases hx : idxM (r ++ [(a, z)]) a with
          | none => rw [hx] at this; cases this
          | some i => rw [hx] at this; simpa using this
    show (lookM (l ++ [(a, z)]) a).getD z = _
    rw [key l h, h1]; rfl
/-- A read of a map of which the entry may be taken already, or not yet. -/
theorem LU.lookupC {x y : Operand} {t kt et : TypeId} {m s : Nat} {β : Bool} {κ : Type} [DecidableEq κ] {key : κ → Value} {l : List (κ × LV)} {z : Value} {a : κ} (k : Nat) (Ko : KeyOk P kt key) (hk : H[k]? = some (cond β (.mape m (mp key (entM l a (.raw z))) (entI l a) s) (.map m (mp key l)))) (ht : P.underlying t = some (.map kt et)) (hz : ∀ w, (zeroValue et).run P w = .ok z w) (hx : Is (ev env x) (.raw (.map (some m)))) (hy : Is (ev env y) (.raw (key a))) :
    LU P env H ⟨d, .lookup t x y false, ty, pos, af, g⟩ ((lookM l a).getD (.raw z)) := by
  cases β with
  | false => exact LU.lookup k Ko hk ht hz hx hy
  | true =>
    exact .of_run fun ph ac hl w0 w hinv => by
      have h1 := (hx _ _ (hl x (by simp [Op.operands]))).rawE
      have h2 := (hy _ _ (hl y (by simp [Op.operands]))).rawE
      obtain ⟨F, hF1, ents, clock, hF2, hF3, hF4, hF5, _⟩ := hinv.atom_at hk
      have hF : Atom.at ph w (.map m (mp key (entM l a (.raw z)))) F := ⟨hF1, ents, clock, hF2, hF3, hF4, hF5⟩
      obtain ⟨u, hu, hr⟩ := look_run Ko hF ht (hz w) a false
      rw [ent_look] at hr
      exact ⟨u, by simp [execOp, h1, h2, hu], hr⟩
theorem LO.entryStore {x y z : Operand} {t : TypeId} {m s i : Nat} {κ : Type} {key : κ → Value} {l : List (κ × LV)} {a : κ} {u v : LV} (k : Nat) (hk : st.heap[k]? = some (.mape m (mp key l) i s)) (ha : l[i]? = some (a, u)) (hx : Is (ev st.env x) (.raw (.map (some m)))) (hy : Is (ev st.env y) (.raw (.int .i64 (s : Nat)))) (hz : Is (ev st.env z) v)
    (h : K ⟨st.n, st.env, .map m (mp key (l.set i (a, v))) :: st.heap.eraseIdx k⟩) : LO P ⟨none, .entryStore t x y z, ty, pos, af, g⟩ st K := .of_skip fun w0 ph ac w r => by
  have h1 := (hx _ _ (r.tmps.eval x)).rawE
  have h2 := (hy _ _ (r.tmps.eval y)).rawE
  have h3 := hz _ _ (r.tmps.eval z)
  have hinv := r.inv.front k
  unfold L.front at hinv
  rw [hk] at hinv
  obtain ⟨F, hF, ents, clock, hh, hsz, hreps, hpw, hs⟩ := hinv.atom
  have hlen : ents.size = l.length := by rw [hsz, List.length_map]
  have hlt := lt_of_some hh
  have hil := (List.getElem?_eq_some_iff.1 ha).1
  have hie : i < ents.size := by omega
  rw [Array.getElem?_eq_getElem hie] at hs
  have hs : ents[i].born = s := Option.some.inj hs
  have hri := hreps i ents[i] (.raw (key a), u) (Array.getElem?_eq_getElem hie) (by rw [List.getElem?_map, ha]; rfl)
  have hfind : ents.findIdx? (fun e => (e.born : Int) == (s : Int)) = some i := by
    rw [Array.findIdx?_eq_some_iff_getElem]
    refine ⟨hie, by rw [hs]; simp, fun j hj => ?_⟩
    have hp := List.pairwise_iff_getElem.1 hpw j i (by simp; omega) (by simp; omega) hj
    simp at hp
    rw [hs] at hp
    simp
    omega
  refine ⟨w.putObj m (.map (ents.modify i fun e => { e with val := ac.eval z }) clock), ph, _, ?_, PH.le.refl _, hinv.turn (a' := .map m (mp key (l.set i (a, v)))) (PH.le.refl _) (fun G hG hn => ⟨Chg.put _ (fun o => (hG.1 m o).2 rfl), G, ⟨hG.1, _, _, World.putObj_heap_same hlt, ?_, fun j e kv he hkv => ?_, ?_⟩, fun b o hb => .inl hb, fun p u hp => .inl hp⟩), h⟩
  · simp [execOp, h1, h2, Instr.entryStore, MapKept.run_getObj_map hh, asInt, asIntOf, hfind, MapKept.run_setObj_map _ hh, World.putObj]
  · simp [hlen]
  · rw [Array.getElem?_modify] at he
    simp only [mp, List.map_set] at hkv
    by_cases c : i = j
    · subst c
      rw [if_pos rfl, Array.getElem?_eq_getElem hie] at he
      obtain rfl := Option.some.inj he
      rw [List.getElem?_set_self (by rw [List.length_map]; exact hil)] at hkv
      obtain rfl := Option.some.inj hkv
      exact ⟨hri.1, h3, hri.2.2⟩
    · rw [if_neg c] at he
      rw [List.getElem?_set_ne c] at hkv
      exact hreps j e kv he hkv
  · have : (ents.modify i fun e => { e with val := ac.eval z }).toList.map (·.born) = ents.toList.map (·.born) := by
      apply List.ext_getElem?
      intro j
      simp only [List.getElem?_map, Array.getElem?_toList, Array.getElem?_modify]
      by_cases c : i = j
      · subst c; simp [hie]
      · simp [c]
    rw [this]; exact hpw
end
section
variable {P : Program} {n : NN} {env : List (Nat × LV)} {H : List Atom} {K : LS → Prop} {ty : TypeId} {pos : String} {af : Array Edge} {g : Option (Nat × Bool)}
/-- The store to the entry that was taken: the map with the new value. -/
theorem X.entryStore {x y z : Operand} {t : TypeId} {m s : Nat} {κ : Type} [DecidableEq κ] {key : κ → Value} {l : List (κ × LV)} {a : κ} {z0 v : LV} (k : Nat) (hk : H[k]? = some (.mape m (mp key (entM l a z0)) (entI l a) s)) (hx : Is (ev env x) (.raw (.map (some m)))) (hy : Is (ev env y) (.raw (.int .i64 (s : Nat)))) (hz : Is (ev env z) v)
    (h : K ⟨n, env, .map m (mp key (setM l a v)) :: H.eraseIdx k⟩) : LO P ⟨none, .entryStore t x y z, ty, pos, af, g⟩ ⟨n, env, H⟩ K := LO.entryStore (st := ⟨n, env, H⟩) k hk (ent_at l a z0) hx hy hz (by rw [ent_set]; exact h)
end
end Go.L
namespace Go.L
open Go.RowKit
section
variable {P : Program} {st : LS} {env : List (Nat × LV)} {H : List Atom} {K : LS → Prop} {ty : TypeId} {pos : String} {af : Array Edge} {g : Option (Nat × Bool)}
end
section
variable {P : Program} {n : NN} {env : List (Nat × LV)} {H : List Atom} {K : LS → Prop} {ty : TypeId} {pos : String} {af : Array Edge} {g : Option (Nat × Bool)}
end
end Go.L
namespace Go.L
open Go.RowKit
abbrev Hs := {l : List UInt8 // l.length = 32}
abbrev hsV (l : List UInt8) : Value := .agg (l.map fun b => Value.int .u8 b.toNat).toArray
abbrev hsKey (a : Hs) : Value := hsV a.1
abbrev hsL (a : Hs) : List LV := a.1.map fun b => LV.raw (.int .u8 b.toNat)
theorem hs_nat (l : List UInt8) : (l.map fun b => Value.int .u8 b.toNat) = (l.map UInt8.toNat).map fun (m : Nat) => Value.int .u8 (m : Int) := by rw [List.map_map]; rfl
theorem toNat_inj {a b : List UInt8} : a.map UInt8.toNat = b.map UInt8.toNat ↔ a = b := List.map_inj_right fun x y h => UInt8.toNat_inj.1 h
section
variable {P : Program} {kt e : TypeId}
theorem hsL_nat (a : Hs) : hsL a = (a.1.map UInt8.toNat).map fun (m : Nat) => LV.raw (.int .u8 (m : Int)) := by rw [List.map_map]; rfl
theorem hs_dec (a b : Hs) : decide (a.1.map UInt8.toNat = b.1.map UInt8.toNat) = decide (a = b) := by
  rw [Bool.eq_iff_iff]
  simp only [decide_eq_true_eq, toNat_inj]
  exact ⟨fun h => Subtype.ext h, fun h => by rw [h]⟩
variable {env : List (Nat × LV)} {H : List Atom} {d : Option Tmp} {ty : TypeId} {pos : String} {af : Array Edge} {g : Option (Nat × Bool)}
theorem LU.eqlHs {x y : Operand} {t' : TypeId} {a b : Hs} (ht : P.underlying kt = some (.array 32 e)) (he : P.underlying e = some (.int .u8)) (hsz : ∀ w, (sizeOf e).run P w = .ok 1 w) (hg : P.eqGuardType P.depth kt = false) (hx : Is (ev env x) (.agg (hsL a))) (hy : Is (ev env y) (.agg (hsL b))) : LU P env H ⟨d, .binOp .eql kt x y t', ty, pos, af, g⟩ (.raw (.bool (decide (a = b)))) := by
  rw [hsL_nat] at hx hy
  rw [← hs_dec]
  exact LU.eqlArr ht he hsz hg hx hy (by rw [List.length_map]; exact a.2) (by rw [List.length_map]; exact b.2)
end
end Go.L
namespace Go.L
open Go.RowKit
abbrev ownA (A : Option Nat) (te : TypeId) (xs : List LV) : List Atom := match A with
  | none => []
  | some b => [.cells b te xs]
abbrev ownV (A : Option Nat) (off n c : Nat) : LV := .raw (.slice (A.map fun b => ⟨b, off, none⟩) n c)
/-- xs holds, from off on, room for c elements, the first n of which are es. -/
structure OwnS (size : Nat) (es : List (List LV)) (A : Option Nat) (off n c : Nat) (xs : List LV) : Prop where
  cnt : es.length = n
  le : n ≤ c
  len : off + c * size ≤ xs.length
  cells : (xs.drop off).take (n * size) = es.flatten
  sz : ∀ e ∈ es, e.length = size
  nil : A = none → c = 0
theorem OwnS.none (size : Nat) : OwnS size [] none 0 0 0 [] := ⟨rfl, Nat.le_refl _, by simp, by simp, by simp, fun _ => rfl⟩
theorem flat_len {size : Nat} : ∀ {es : List (List LV)}, (∀ e ∈ es, e.length = size) → es.flatten.length = es.length * size
  | [], _ => by simp
  | e :: es, h => by
    rw [List.flatten_cons, List.length_append, flat_len fun x hx => h x (List.mem_cons_of_mem _ hx), h e (by simp), List.length_cons, Nat.succ_mul, Nat.add_comm]
theorem OwnS.put {size : Nat} {es ys : List (List LV)} {A : Option Nat} {off n c : Nat} {xs : List LV} (h : OwnS size es A off n c xs) (hy : ∀ e ∈ ys, e.length = size) (hr : n + ys.length ≤ c) : OwnS size (es ++ ys) A off (n + ys.length) c (putAt xs (off + n * size) ys.flatten) := by
  have hyl := flat_len hy
  have hel := flat_len h.sz
  rw [h.cnt] at hel
  have hm : (n + ys.length) * size ≤ c * size := Nat.mul_le_mul_right _ hr
  have hd : (n + ys.length) * size = n * size + ys.length * size := Nat.add_mul _ _ _
  have hlen := h.len
  have hfit : off + n * size + ys.flatten.length ≤ xs.length := by omega
  refine ⟨by rw [List.length_append, h.cnt], hr, by rw [putAt_length _ _ _ hfit]; exact h.len, ?_, fun e he => (List.mem_append.1 he).elim (h.sz e) (hy e), h.nil⟩
  apply List.ext_getElem?
  intro i
  rw [List.getElem?_take, List.getElem?_drop, List.flatten_append]
  by_cases hi : i < (n + ys.length) * size
  · rw [if_pos hi, putAt_get _ _ _ hfit]
    by_cases h2 : i < n * size
    · rw [if_neg (by omega), List.getElem?_append_left (by omega), ← h.cells, List.getElem?_take, if_pos h2, List.getElem?_drop]
    · rw [if_pos (by omega), List.getElem?_append_right (by omega), hel]
      congr 1; omega
  · rw [if_neg hi, List.getElem?_eq_none]
    rw [List.length_append]; omega
section
variable {P : Program} {env : List (Nat × LV)} {H : List Atom} {K : LS → Prop} {ty : TypeId} {pos : String} {af : Array Edge} {g : Option (Nat × Bool)} {n0 : NN}
/-- append(s, x..) whose row is owned, or is not there yet. -/
theorem X.appendR {H1 : List Atom} {A : Option Nat} {te : TypeId} {off n c : Nat} {xs : List LV} {s x : Operand} {t tx e : TypeId} {z : Value} {size by_ : Nat} {es ys : List (List LV)} {y : LV} {d : Tmp} (ow : OwnS size es A off n c xs) (hh : HSub H (ownA A te xs ++ H1)) (hd : Nat.blt d n0.k = true) (ht : P.underlying t = some (.slice e)) (hel : El P e z size by_) (hz1 : ∀ (i : Nat) (c : Value), z.cells[i]? = some c → c.oneCell' = true)
    (hs : Is (ev env s) (ownV A off n c)) (hx : Is (ev env x) y) (hy : SrcL P tx size y ys) (hy0 : 0 < ys.length) (hb : (n + ys.length) * by_ ≤ 140737488355328) (hb0 : n + ys.length ≤ 9223372036854775807)
    (h : ∀ b te' off' c' xs', OwnS size (es ++ ys) (some b) off' (n + ys.length) c' xs' → K ⟨n0, (d, ownV (some b) off' (n + ys.length) c') :: env, .cells b te' xs' :: H1⟩) :
    LO P ⟨some d, .call { callee := .builtin .append, args := #[s, x], argTypes := #[t, tx] }, ty, pos, af, g⟩ ⟨n0, env, H⟩ K := .of_run hd fun w0 ph a w rl => by
  have h1 := (hs _ _ (rl.tmps.eval s)).rawE
  have ry := hx _ _ (rl.tmps.eval x)
  obtain ⟨⟨i, hi, hz, hsz, hby⟩, hzs, hs0⟩ := hel
  have hinv0 := hh.app rl.inv
  obtain ⟨news, hsrc, hnc⟩ := hy.2 w0 ph w _ (a.eval x) (by simp) rl.inv ry
  have hnl : news.length = ys.length * size := hsrc.newsLen
  have hyl := flat_len hy.1
  have hrun : ∀ v w', (Builtin.append_ #[t, tx] ty #[.slice (A.map fun b => ⟨b, off, none⟩) n c, a.eval x]).run P w = .ok v w' → (execOp a.eval ⟨some d, .call { callee := .builtin .append, args := #[s, x], argTypes := #[t, tx] }, ty, pos, af, g⟩).run P w = .ok (.value v) w' := fun v w' h => by
    simp [execOp, resolve, invoke, builtin, h1, h]
  by_cases hroom : n + ys.length ≤ c
  · cases A with
    | none => have := ow.nil rfl; omega
    | some b =>
      have hinv : Inv w0 ph w (.cells b te xs :: H1) := hinv0
      have hm : (n + ys.length) * size ≤ c * size := Nat.mul_le_mul_right _ hroom
      have hdm : (n + ys.length) * size = n * size + ys.length * size := Nat.add_mul _ _ _
      have hlen := ow.len
      obtain ⟨hi2, hthere, hfro⟩ := hinv.putCells hnc (off := off + n * size) (by omega)
      have hr := run_append_room_src (P := P) w t tx ty e i ht hi b off n c (a.eval x) ys.length news (hsz ▸ hsrc) hroom (fun j hj => by rw [hsz]; exact hthere j (by omega)) (fun j hj => by rw [hsz]; exact hfro j (by omega))
      rw [hsz] at hr
      exact ⟨_, _, _, ph, _, hrun _ _ hr, PH.le.refl _, hi2, .raw _, h b te off c _ (ow.put hy.1 hroom)⟩
  · have hold : ∃ olds : List Value, CReps ph olds.toArray es.flatten ∧ (Builtin.firstCells i.size n (.slice (A.map fun b => ⟨b, off, none⟩) n c)).run P w.drew = .ok olds.toArray w.drew := by
      have hel2 := flat_len ow.sz
      rw [ow.cnt] at hel2
      cases A with
      | none =>
        have hc0 := ow.nil rfl
        have hn0 : n = 0 := by have := ow.le; omega
        have he0 : es = [] := List.eq_nil_of_length_eq_zero (by rw [ow.cnt]; exact hn0)
        subst hn0; subst he0
        exact ⟨[], ⟨⟨rfl, by simp⟩, by simp⟩, run_firstCells_none _ _ _ _ _⟩
      | some b =>
        have hinv : Inv w0 ph w (.cells b te xs :: H1) := hinv0
        obtain ⟨F, hF, cs, hhp, hc⟩ := hinv.atom
        have hcsz : cs.size = xs.length := hc.1.1
        have hlen := ow.len
        have hm : n * size ≤ c * size := Nat.mul_le_mul_right _ ow.le
        refine ⟨(cs.extract off (off + n * size)).toList, ?_, run_firstCells_some _ _ _ _ _ _ _ (by simp [hsz]; omega) (fun j v hv => ?_)⟩
        · rw [Array.toArray_toList, ← ow.cells]
          refine ⟨⟨by simp; omega, fun i v x hv hx => ?_⟩, fun i v hv => ?_⟩
          · rw [Array.getElem?_extract] at hv
            rw [List.getElem?_take] at hx
            split at hx
            · rw [List.getElem?_drop] at hx
              split at hv
              · exact hc.1.2 _ v x hv hx
              · cases hv
            · cases hx
          · rw [Array.getElem?_extract] at hv
            split at hv
            · exact hc.2 _ v hv
            · cases hv
        · rw [Array.getElem?_toList, Array.getElem?_extract] at hv
          split at hv
          · show w.drew.cell? ((⟨b, off, none⟩ : Addr).add j) = some v
            rw [Addr.add_lit]
            show w.cell? ⟨b, off + j, none⟩ = some v
            rw [cell_of_row w b (off + j) cs te (0, 0) hhp]
            exact hv
          · cases hv
    obtain ⟨olds, ho, hold⟩ := hold
    have hr := run_append_grow_src (P := P) w t tx ty e i z ht hi hz (A.map fun b => ⟨b, off, none⟩) n c olds hold (a.eval x) ys.length news (hsz ▸ hsrc) (by omega) (by omega) (by rw [hby]; exact growslice_fits (by omega) hb)
    have hge := grownCap_ge w (n + ys.length) c e
    have hb' : Below w.heap.size w w.drew := Below.drew (Below.refl _ _)
    have hinv1 : Inv w0 ph w H1 := by
      cases A with
      | none => exact hinv0
      | some b => exact (HSub.drop (HSub.refl _)).app hinv0
    have hinv2 := hinv1.step hb'
    have hzc : CReps ph (Builtin.zeroCells z.cells (grownCap w (n + ys.length) c e - (n + ys.length))).toList.toArray (raws (Builtin.zeroCells z.cells (grownCap w (n + ys.length) c e - (n + ys.length))).toList) := by
      rw [Array.toArray_toList]
      refine raws_creps fun j c hc => ?_
      unfold Builtin.zeroCells at hc
      simp only [Array.getElem?_map, Option.map_eq_some_iff] at hc
      obtain ⟨q, _, rfl⟩ := hc
      have hlt : q % z.cells.size < z.cells.size := Nat.mod_lt _ (by omega)
      refine hz1 (q % z.cells.size) _ ?_
      rw [Array.getElem?_eq_getElem hlt, getElem!_pos z.cells _ hlt]
    have hall := creps_append (creps_append ho hnc) hzc
    have hinv3 := hinv2.block e hall
    have hel2 := flat_len ow.sz
    rw [ow.cnt] at hel2
    have hzl : (raws (Builtin.zeroCells z.cells (grownCap w (n + ys.length) c e - (n + ys.length))).toList).length = (grownCap w (n + ys.length) c e - (n + ys.length)) * size := by simp only [raws, List.length_map, Array.length_toList, size_zeros, hzs]
    refine ⟨_, _, _, ph, _, hrun _ _ hr, PH.le.refl _, ?_, .raw _, h w.heap.size e 0 (grownCap w (n + ys.length) c e) (es.flatten ++ ys.flatten ++ raws (Builtin.zeroCells z.cells (grownCap w (n + ys.length) c e - (n + ys.length))).toList) ⟨by rw [List.length_append, ow.cnt], hge, ?_, ?_, fun e he => (List.mem_append.1 he).elim (ow.sz e) (hy.1 e), fun h => by cases h⟩⟩
    · have e1 : ((olds ++ news).toArray ++ Builtin.zeroCells z.cells (grownCap w (n + ys.length) c e - (n + ys.length))) = ((olds ++ news) ++ (Builtin.zeroCells z.cells (grownCap w (n + ys.length) c e - (n + ys.length))).toList).toArray := by simp
      rw [e1]
      exact hinv3
    · refine Nat.le_of_eq (Eq.symm ?_)
      rw [List.length_append, List.length_append, hel2, hyl, hzl, Nat.zero_add, ← Nat.add_mul, ← Nat.add_mul]
      congr 1; omega
    · rw [List.drop_zero, List.flatten_append, List.take_append_of_le_length (by rw [List.length_append, hel2, hyl, ← Nat.add_mul]; exact Nat.le_refl _), List.take_of_length_le (by rw [List.length_append, hel2, hyl, ← Nat.add_mul]; exact Nat.le_refl _)]
end
end Go.L
namespace Go.L
open Go.RowKit
structure Vx where
  p : Hs
  n : Int
deriving DecidableEq
abbrev vxs1 (a : Vx) : List Value := (a.p.1.map fun b => Value.int .u8 b.toNat) ++ [.int .i64 a.n]
abbrev vxV (a : Vx) : Value := .agg (vxs1 a).toArray
abbrev vxL (a : Vx) : List LV := hsL a.p ++ [.raw (.int .i64 a.n)]
theorem vx_ext {a b : Vx} (h1 : a.p = b.p) (h2 : a.n = b.n) : a = b := by cases a; cases b; simp at h1 h2; simp [h1, h2]
theorem vx_raw (a : Vx) : RawL (vxL a) (vxs1 a) := by
  have h : vxL a = raws (vxs1 a) := by
    unfold raws vxs1
    rw [List.map_append, List.map_map]; rfl
  rw [h]
  exact RawL.raws _
theorem vxL_len (a : Vx) : (vxL a).length = 33 := by simp [a.p.2]
/-- A type of a hash and a number. -/
structure VxTy (P : Program) (kt : TypeId) : Prop where
  ex : ∃ (fs : Array Field) (f0 f1 : Field) (e : TypeId), P.underlying kt = some (.struct fs) ∧ fs.toList = [f0, f1] ∧ P.stoodInHeld kt = false ∧ P.eqGuardType P.depth kt = false ∧ (f0.name != "_") = true ∧ (f1.name != "_") = true ∧ f0.offset = 0 ∧ f1.offset = 32 ∧
    P.underlying f0.type = some (.array 32 e) ∧ P.underlying e = some (.int .u8) ∧ (∀ w, (sizeOf e).run P w = .ok 1 w) ∧ (∀ w, (sizeOf f0.type).run P w = .ok 32 w) ∧ (∀ w, (isAgg f0.type).run P w = .ok true w) ∧ P.underlying f1.type = some (.int .i64) ∧ (∀ w, (isAgg f1.type).run P w = .ok false w)
section
variable {P : Program} {kt : TypeId}
theorem vx_part0 (a : Vx) : (vxs1 a).toArray.extract 0 (0 + 32) = (a.p.1.map fun b => Value.int .u8 b.toNat).toArray := by
  rw [List.extract_toArray, List.extract_eq_take_drop]
  simp only [List.drop_zero, Nat.zero_add, Nat.sub_zero]
  rw [List.take_left' (by rw [List.length_map]; exact a.p.2)]
theorem vx_part1 (a : Vx) : (vxs1 a).toArray[32]? = some (.int .i64 a.n) := by
  rw [List.getElem?_toArray, List.getElem?_append_right (by rw [List.length_map, a.p.2]; exact Nat.le_refl _), List.length_map, a.p.2]; rfl
theorem EqR.vx (h : VxTy P kt) (a b : Vx) : EqR P 3 kt (vxV a) (vxV b) (decide (a = b)) := by
  obtain ⟨fs, f0, f1, e, ht, hfs, hst, hg, hn0, hn1, ho0, ho1, ht0, he, hse, hs0, ha0, ht1, ha1⟩ := h.ex
  have h0 : EqR P 2 f0.type (.agg (a.p.1.map fun b => Value.int .u8 b.toNat).toArray) (.agg (b.p.1.map fun b => Value.int .u8 b.toNat).toArray) (decide (a.p = b.p)) := by
    have := EqR.arr ht0 he hse (k := .u8) (a.p.1.map UInt8.toNat) (b.p.1.map UInt8.toNat) (by rw [List.length_map]; exact a.p.2) (by rw [List.length_map]; exact b.p.2)
    rw [← hs_nat, ← hs_nat, hs_dec] at this
    exact this
  have h1 : EqR P 2 f1.type (.int .i64 a.n) (.int .i64 b.n) (decide (a.n = b.n)) := EqR.up 1 (EqR.int ht1)
  have := EqR.struct (xs := (vxs1 a).toArray) (ys := (vxs1 b).toArray) ht hst (by
    rw [hfs]
    exact EqFs.cons hn0 (part_agg hs0 ha0 (by rw [ho0]; exact vx_part0 a)) (part_agg hs0 ha0 (by rw [ho0]; exact vx_part0 b)) h0
      (EqFs.one hn1 (part_one ha1 (by rw [ho1]; exact vx_part1 a)) (part_one ha1 (by rw [ho1]; exact vx_part1 b)) h1))
  have hd : (decide (a.p = b.p) && decide (a.n = b.n)) = decide (a = b) := by
    rw [Bool.eq_iff_iff]
    simp only [Bool.and_eq_true, decide_eq_true_eq]
    exact ⟨fun ⟨x, y⟩ => vx_ext x y, fun x => by rw [x]; exact ⟨rfl, rfl⟩⟩
  rw [hd] at this
  exact this
theorem eq_vx (h : VxTy P kt) (a b : Vx) (w : World) : (Op.equal kt (vxV a) (vxV b)).run P w = .ok (decide (b = a)) w := by
  have := EqR.vx h a b 9997 w
  rw [show decide (a = b) = decide (b = a) from by rw [Bool.eq_iff_iff]; simp only [decide_eq_true_eq]; exact ⟨Eq.symm, Eq.symm⟩] at this
  exact this
theorem asking_vx (h : VxTy P kt) (a : Vx) (w : World) : ∀ (es : List MapEntry) (l : List (Vx × LV)) (n : Nat), es.map (·.key) = l.map (fun p => vxV p.1) → (Instr.findAsking kt (vxV a) es n).run P w = .ok ((idxM l a).bind fun i => (es[i]?).map fun x => (n + i, x.val)) w
  | [], [], n, _ => by simp [Instr.findAsking, idxM]
  | [], p :: l, n, h => by simp at h
  | x :: es, [], n, h => by simp at h
  | x :: es, p :: l, n, hh => by
    simp only [List.map_cons, List.cons.injEq] at hh
    rw [Instr.findAsking]
    simp only [Sem.run_bind, hh.1, eq_vx h a p.1 w, Result.andThen_ok]
    by_cases c : p.1 = a
    · simp [idxM, c]
    · have ih := asking_vx h a w es l (n + 1) hh.2
      simp only [c, decide_false, Bool.false_eq_true, if_false, idxM]
      rw [ih]
      cases idxM l a with
      | none => rfl
      | some i => simp only [Option.bind_some, Option.map_some, List.getElem?_cons_succ]; rw [show n + 1 + i = n + (i + 1) by omega]
theorem check_arr {t e : TypeId} (ht : P.underlying t = some (.array 32 e)) (he : P.underlying e = some (.int .u8)) (hsz : ∀ w, (sizeOf e).run P w = .ok 1 w) (a : Hs) (n : Nat) (b : Bool) (w : World) : (Instr.checkKey b (n + 2) t (hsKey a)).run P w = .ok () w := by
  rw [Instr.checkKey]
  simp only [Sem.run_bind, run_underlying ht, Result.andThen_ok, Std.Legacy.Range.forIn_eq_forIn_range', Std.Legacy.Range.size, Nat.sub_zero, Nat.add_sub_cancel, Nat.div_one]
  have hl : ∀ i ∈ List.range' 0 32 1, i < 32 := fun i hi => by simpa using (List.mem_range'_1.1 hi).2
  have ha := a.2
  generalize List.range' 0 32 1 = l at hl ⊢
  induction l with
  | nil => simp
  | cons i l ih =>
    have hi : i < 32 := hl i (by simp)
    have px : (part e (a.1.map fun b => Value.int .u8 b.toNat).toArray (i * 1)).run P w = .ok (.int .u8 (a.1.getD i 0).toNat) w := by
      simp [part, isAgg, run_underlying he, List.getD, List.getElem?_eq_getElem (show i < a.1.length by omega)]
    have pc : ∀ v, (Instr.checkKey b (n + 1) e (.int .u8 v)).run P w = .ok () w := fun v => by
      rw [Instr.checkKey]
      simp [run_underlying he]
    simp only [List.forIn_cons, Sem.run_bind, hsz, px, pc, Result.andThen_ok, Sem.run_pure]
    exact ih fun j hj => hl j (by simp [hj])
theorem KeyOk.vx (h : VxTy P kt) : KeyOk P kt vxV where
  check a b w := by
    obtain ⟨fs, f0, f1, e, ht, hfs, hst, hg, hn0, hn1, ho0, ho1, ht0, he, hse, hs0, ha0, ht1, ha1⟩ := h.ex
    rw [Instr.checkKey]
    have p0 : (part f0.type (vxs1 a).toArray f0.offset).run P w = .ok (hsKey a.p) w := part_agg hs0 ha0 (by rw [ho0]; exact vx_part0 a) w
    have p1 : (part f1.type (vxs1 a).toArray f1.offset).run P w = .ok (.int .i64 a.n) w := part_one ha1 (by rw [ho1]; exact vx_part1 a) w
    have c0 := check_arr ht0 he hse a.p 9997 b w
    have c1 : (Instr.checkKey b 9999 f1.type (.int .i64 a.n)).run P w = .ok () w := by
      rw [Instr.checkKey]
      simp [run_underlying ht1]
    have n0 : f0.name ≠ "_" := by simpa using hn0
    have n1 : f1.name ≠ "_" := by simpa using hn1
    have hfa : fs = #[f0, f1] := by rw [← Array.toArray_toList (xs := fs), hfs]
    simp only [Sem.run_bind, run_underlying ht, Result.andThen_ok, hfa]
    simp [n0, n1, p0, p1, c0, c1]
  find a es l w hh := by
    obtain ⟨fs, f0, f1, e, ht, _⟩ := h.ex
    unfold Instr.findKey
    simp only [Sem.run_bind, run_underlying ht, Result.andThen_ok]
    cases es with
    | nil =>
      cases l with
      | nil => simp [Instr.findNow, idxM]
      | cons p l => simp at hh
    | cons x es =>
      cases l with
      | nil => simp at hh
      | cons p l =>
        have hx : x.key = vxV p.1 := by simp only [List.map_cons, List.cons.injEq] at hh; exact hh.1
        have hn : Instr.findNow (.struct fs) (vxV a) (x :: es) 0 = none := by rw [Instr.findNow, hx]; rfl
        rw [hn]
        have := asking_vx h a w (x :: es) (p :: l) 0 hh
        simpa using this
  stays a := by
    show Instr.sameBits 10000 (.agg _) (.agg _) = true
    rw [Instr.sameBits]
    simp only [beq_self_eq_true, Bool.true_and]
    rw [List.all_eq_true]
    intro q hq
    obtain ⟨i, hi, rfl⟩ := List.getElem_of_mem hq
    simp only [List.getElem_zip, List.getElem_toArray]
    have : ∀ v ∈ vxs1 a, Instr.sameBits 9999 v v = true := fun v hv => by
      rcases List.mem_append.1 hv with e | e
      · obtain ⟨x, _, rfl⟩ := List.mem_map.1 e
        simp [Instr.sameBits]
      · rw [List.mem_singleton.1 e]; simp [Instr.sameBits]
    exact this _ (List.getElem_mem _)
theorem Is.vx (a : Vx) : Is (.agg (vxL a)) (.raw (vxV a)) := by
  rw [(vx_raw a).eq]
  exact Is.agg_raw
variable {env : List (Nat × LV)} {H : List Atom} {d : Option Tmp} {ty : TypeId} {pos : String} {af : Array Edge} {g : Option (Nat × Bool)}
theorem LU.eqlVx {x y : Operand} {t' : TypeId} {a b : Vx} (h : VxTy P kt) (hx : Is (ev env x) (.agg (vxL a))) (hy : Is (ev env y) (.agg (vxL b))) : LU P env H ⟨d, .binOp .eql kt x y t', ty, pos, af, g⟩ (.raw (.bool (decide (a = b)))) := by
  obtain ⟨fs, f0, f1, e, ht, hfs, hst, hg, _⟩ := id h.ex
  exact LU.eqlA hx hy (vx_raw a) (vx_raw b) hg (by decide) (EqR.vx h a b)
theorem LU.neqVx {x y : Operand} {t' : TypeId} {a b : Vx} (h : VxTy P kt) (hx : Is (ev env x) (.agg (vxL a))) (hy : Is (ev env y) (.agg (vxL b))) : LU P env H ⟨d, .binOp .neq kt x y t', ty, pos, af, g⟩ (.raw (.bool (!decide (a = b)))) := by
  obtain ⟨fs, f0, f1, e, ht, hfs, hst, hg, _⟩ := id h.ex
  exact LU.neqA hx hy (vx_raw a) (vx_raw b) hg (by decide) (EqR.vx h a b)
end
end Go.L
namespace Go.L
open Go.RowKit Go.Lib
theorem ext_compare {P : Program} (a b : List UInt8) (pa pb : Addr) (ka kb : Nat) (W : World) (ha : ∀ j x, a[j]? = some x → W.cell? (pa.add j) = some (.int .u8 x.toNat)) (hb : ∀ j x, b[j]? = some x → W.cell? (pb.add j) = some (.int .u8 x.toNat)) :
    (Extern.BytealgCompare.compare #[.slice (some pa) a.length ka, .slice (some pb) b.length kb]).run P W = .ok (.int .i64 (compareBytes a b)) W := by
  have key : ∀ (l : List UInt8) (p : Addr), (∀ j x, l[j]? = some x → W.cell? (p.add j) = some (.int .u8 x.toNat)) → (Extern.Bytes.loadBytes p l.length .empty).run P W = .ok ⟨l.toArray⟩ W := fun l p h => by
    have h1 := run_loadBytesX (P := P) W (numsL l) p .empty (fun j x hx => by
      unfold numsL at hx
      rw [List.getElem?_map] at hx
      cases hl : l[j]? with
      | none => rw [hl] at hx; cases hx
      | some y => rw [hl] at hx; rw [h j y hl, ← Option.some.inj hx])
    rw [show (numsL l).length = l.length by unfold numsL; exact List.length_map ..] at h1
    rw [h1, bytesOf_numsL]
    congr 1
    apply ByteArray.ext
    show (#[] : Array UInt8) ++ l.toArray = l.toArray
    simp
  have h1 := key a pa ha
  have h2 := key b pb hb
  change Sem.run P (do pure (goInt (Extern.BytealgCompare.cmp (← Extern.Bytes.bytesOf (.slice (some pa) a.length ka)) (← Extern.Bytes.bytesOf (.slice (some pb) b.length kb))))) W = _
  simp only [Extern.Bytes.bytesOf, Sem.run_bind, h1, h2, Sem.run_pure, Result.andThen_ok]
  rw [cmp_eq]
  rfl
theorem bytes_form {w0 : Base} {ph : PH} {w : World} {H : List Atom} {u : Value} {l : List UInt8} {k : Cap} (hinv : Inv w0 ph w H) (h0 : l ≠ []) (r : Rep ph u (.sl 1 (byteEls l) k)) : ∃ p c, u = .slice (some p) l.length c ∧ ∀ j x, l[j]? = some x → w.cell? (p.add j) = some (.int .u8 x.toNat) := by
  obtain ⟨A, n, c, hu⟩ := rep_slice_form r
  rw [hu] at r
  obtain ⟨hn, hcell⟩ := bytes_cells hinv r
  cases A with
  | none =>
    cases l with
    | nil => exact absurd rfl h0
    | cons b l =>
      cases r with | sl _ _ _ _ _ _ ad u hA hn hnc hs hcap hp hr =>
        have := hA (by simp [byteEls])
        cases this
  | some p =>
    refine ⟨p, c, by rw [hu, hn], fun j x hx => ?_⟩
    have := hcell p rfl j (.int .u8 x.toNat) (by rw [List.getElem?_map, hx]; rfl)
    exact this
section
variable {P : Program} {env : List (Nat × LV)} {H : List Atom} {d : Option Tmp} {ty : TypeId} {pos : String} {af : Array Edge} {g : Option (Nat × Bool)}
theorem LU.bcmp {f : FuncId} {fn : Func} {x y : Operand} {ts : Array TypeId} {a b : List UInt8} {ka kb : Cap} (hf : P.funcs[f]? = some fn) (hname : (fn.name == "runtime.NumGoroutine") = false) (hb : fn.body.isNone = true) (hn : Extern.findNext fn = none) (he : Extern.find fn = some Extern.BytealgCompare.compare) (ha0 : a ≠ []) (hb0 : b ≠ [])
    (hx : Is (ev env x) (.sl 1 (byteEls a) ka)) (hy : Is (ev env y) (.sl 1 (byteEls b) kb)) : LU P env H ⟨d, .call { callee := .value (.func f), args := #[x, y], argTypes := ts }, ty, pos, af, g⟩ (.raw (.int .i64 (compareBytes a b))) := .of_run fun ph ac hl w0 w hinv => by
  obtain ⟨pa, ca, h1, h2⟩ := bytes_form hinv ha0 (hx _ _ (hl x (by simp [Op.operands, Call.operands])))
  obtain ⟨pb, cb, h3, h4⟩ := bytes_form hinv hb0 (hy _ _ (hl y (by simp [Op.operands, Call.operands])))
  refine ⟨_, ?_, .raw _⟩
  have e : (execOp ac.eval ⟨d, .call { callee := .value (.func f), args := #[x, y], argTypes := ts }, ty, pos, af, g⟩).run P w = (callFunc f #[ac.eval x, ac.eval y]).run P w := by
    simp [execOp, resolve, Deferred.ofValue, invoke, Act.eval]
  rw [e, h1, h3, run_callFunc_extern hf hname hb hn he, ext_compare a b pa pb ca cb w h2 h4]
  rfl
end
end Go.L
namespace Go.L
open Go.RowKit
theorem zero_one (zs : Array Value) : (Builtin.zeroCells zs 1).toList = zs.toList := by
  unfold Builtin.zeroCells
  apply List.ext_getElem
  · simp
  · intro i h1 h2
    have hi : i < zs.size := by simpa using h2
    simp only [Array.toList_map, Array.toList_range, List.getElem_map, List.getElem_range, Nat.mod_eq_of_lt hi]
    rw [getElem!_pos zs i hi]
    simp
theorem run_clear_one {P : Program} (w : World) (t e ty : TypeId) (z : Value) (ht : P.underlying t = some (.slice e)) (hv : ∀ w, (zeroValue e).run P w = .ok z w) (h1 : ∀ v ∈ z.cells.toList, v.oneCell' = true) (b o c : Nat)
    (hc : ∀ j, j < z.cells.toList.length → (w.cell? ⟨b, o + j, none⟩).isSome = true) (hf : ∀ j, j < z.cells.toList.length → w.frozen? ⟨b, o + j, none⟩ = false) :
    (Builtin.clear_ #[t] ty #[.slice (some ⟨b, o, none⟩) 1 c]).run P w = .ok (.tuple #[]) (w.setCells b o z.cells.toList) := by
  have hst := run_storeCells_cells (P := P) b o z.cells.toList 0 w (by simpa using hc) (by simpa using hf) h1
  simp only [Nat.add_zero] at hst
  simp [Builtin.clear_, run_underlying ht, hv, zero_one, hst]
theorem LO.clear1 {P : Program} {st : LS} {K : LS → Prop} {ty : TypeId} {pos : String} {af : Array Edge} {g : Option (Nat × Bool)} {s : Operand} {t e te : TypeId} {z : Value} {b off c : Nat} {xs : List LV} (k : Nat) (hk : st.heap[k]? = some (.cells b te xs)) (ht : P.underlying t = some (.slice e)) (hv : ∀ w, (zeroValue e).run P w = .ok z w) (h1z : ∀ (i : Nat) (c : Value), z.cells[i]? = some c → c.oneCell' = true)
    (hs : Is (ev st.env s) (.raw (.slice (some ⟨b, off, none⟩) 1 c))) (hfit : off + z.cells.toList.length ≤ xs.length)
    (h : K ⟨st.n, st.env, .cells b te (putAt xs off (raws z.cells.toList)) :: st.heap.eraseIdx k⟩) :
    LO P ⟨none, .call { callee := .builtin .clear, args := #[s], argTypes := #[t] }, ty, pos, af, g⟩ st K := fun w0 ph a w rl N Q kk => by
  have h1 := (hs _ _ (rl.tmps.eval s)).rawE
  have hinv := rl.inv.front k
  unfold L.front at hinv
  rw [hk] at hinv
  have hc : CReps ph z.cells.toList.toArray (raws z.cells.toList) := by
    rw [Array.toArray_toList]
    exact raws_creps h1z
  obtain ⟨hi2, hthere, hfro⟩ := hinv.putCells hc (off := off) (by simpa [raws] using hfit)
  have hr := run_clear_one (P := P) w t e ty z ht hv (fun v hv => by
    obtain ⟨i, hi⟩ := List.getElem?_of_mem hv
    exact h1z i v (by rw [← Array.getElem?_toList]; exact hi)) b off c (by simpa [raws] using hthere) (by simpa [raws] using hfro)
  unfold owp
  have hrun : (execOp a.eval ⟨none, .call { callee := .builtin .clear, args := #[s], argTypes := #[t] }, ty, pos, af, g⟩).run P w = .ok (.value (.tuple #[])) (w.setCells b off z.cells.toList) := by
    simp [execOp, resolve, invoke, builtin, h1, hr]
  rw [hrun]
  exact kk ph _ _ _ (PH.le.refl _) (rl.put0 (PH.le.refl _) hi2 _) h
/-- An owned slice without one of its elements, when what is behind it has moved up. -/
theorem OwnS.erase {size : Nat} {es : List (List LV)} {A : Option Nat} {off n c : Nat} {xs zs : List LV} (h : OwnS size es A off n c xs) {i : Nat} (hi : i < n) (hz : zs.length = size) :
    OwnS size (es.eraseIdx i) A off (n - 1) c (putAt (putAt xs (off + i * size) (es.drop (i + 1)).flatten) (off + (n - 1) * size) zs) := by
  have hcnt := h.cnt
  have hle := h.le
  have hlen := h.len
  have hf1 : (es.take i).flatten.length = i * size := by
    rw [flat_len fun e he => h.sz e (List.mem_of_mem_take he), List.length_take, Nat.min_eq_left (by omega)]
  have hf2 : (es.drop (i + 1)).flatten.length = (n - 1 - i) * size := by
    rw [flat_len fun e he => h.sz e (List.mem_of_mem_drop he), List.length_drop, hcnt, show n - (i + 1) = n - 1 - i by omega]
  have hs1 : (n - 1) * size = i * size + (n - 1 - i) * size := by rw [← Nat.add_mul, show i + (n - 1 - i) = n - 1 by omega]
  have hs2 : n * size = (n - 1) * size + size := by
    obtain ⟨q, rfl⟩ : ∃ q, n = q + 1 := ⟨n - 1, by omega⟩
    rw [Nat.succ_mul]; rfl
  have hs3 : n * size ≤ c * size := Nat.mul_le_mul_right _ hle
  have hfit1 : off + i * size + (es.drop (i + 1)).flatten.length ≤ xs.length := by omega
  obtain ⟨X, hX⟩ : ∃ X, X = putAt xs (off + i * size) (es.drop (i + 1)).flatten := ⟨_, rfl⟩
  have hXl : X.length = xs.length := by rw [hX]; exact putAt_length _ _ _ hfit1
  have hfit2 : off + (n - 1) * size + zs.length ≤ X.length := by omega
  rw [← hX]
  refine ⟨by rw [List.length_eraseIdx_of_lt (by omega)]; omega, by omega, by rw [putAt_length _ _ _ hfit2]; omega, ?_, fun e he => h.sz e (List.mem_of_mem_eraseIdx he), h.nil⟩
  have hold : (xs.drop off).take (i * size) = (es.take i).flatten := by
    have h2 := congrArg (List.take (i * size)) h.cells
    rw [List.take_take, Nat.min_eq_left (by omega)] at h2
    rw [h2]
    conv => lhs; rw [← List.take_append_drop i es, List.flatten_append]
    rw [List.take_left' hf1]
  have hX2 : (X.drop off).take ((n - 1) * size) = (es.take i).flatten ++ (es.drop (i + 1)).flatten := by
    rw [hX]
    unfold putAt
    have ht : (xs.take (off + i * size)).drop off = (es.take i).flatten := by
      rw [List.drop_take, Nat.add_sub_cancel_left]; exact hold
    rw [List.append_assoc, List.drop_append_of_le_length (by rw [List.length_take]; omega), ht, ← List.append_assoc, List.take_append_of_le_length (by rw [List.length_append, hf1, hf2]; omega), List.take_of_length_le (by rw [List.length_append, hf1, hf2]; omega)]
  rw [List.eraseIdx_eq_take_drop_succ, List.flatten_append, ← hX2]
  unfold putAt
  rw [List.append_assoc, List.drop_append_of_le_length (by rw [List.length_take]; omega), List.drop_take, Nat.add_sub_cancel_left, List.take_append_of_le_length (by rw [List.length_take, List.length_drop]; omega), List.take_take, Nat.min_self]
end Go.L
namespace Go.L
open Go.RowKit
section
variable {P : Program} {st : LS} {K : LS → Prop}
/-- An owned slice is from now on known: between operations. -/
theorem LL.freezeO {ops : Array Oper} {l : List Oper} {t : Nat} {b : Nat} {te : TypeId} {xs : List LV} {off n c size : Nat} {es : List (List LV)} (k : Nat) (hk : st.heap[k]? = some (.cells b te xs)) (ht : get st.env t = ownV (some b) off n c) (ow : OwnS size es (some b) off n c xs)
    (h : LL P ops l ⟨st.n, (t, .sl size es .unk) :: st.env, st.heap.eraseIdx k⟩ K) : LL P ops l st K := fun w0 ph a w r Q q => by
  have hinv := r.inv.front k
  unfold L.front at hinv
  rw [hk] at hinv
  obtain ⟨cs, ph', hle, hi, hc, hsz, hp⟩ := hinv.freeze
  refine h w0 ph' a w ⟨hi, r.defers, r.size, fun i => ?_⟩ Q fun ph2 st2 a2 w2 hle2 r2 q2 => q ph2 st2 a2 w2 (hle.trans hle2) r2 q2
  have hm : n * size ≤ c * size := Nat.mul_le_mul_right _ ow.le
  have hl := ow.len
  by_cases hit : t = i
  · subst hit
    rw [get_same]
    have := r.tmps t
    rw [ht] at this
    rw [this.rawE]
    exact freeze_rep hc hp ow.sz ow.cnt (by omega) ow.cells.symm ow.le
  · rw [get_other hit]
    exact (r.tmps i).mono hle
end
section
variable {P : Program} {st : LS} {K : LS → Prop} {ty : TypeId} {pos : String} {af : Array Edge} {g : Option (Nat × Bool)}
theorem LO.of_val0 {op : Op} (h : ∀ w0 ph a w, Rels w0 ph st a w → ∃ v w' ph' H', (execOp a.eval ⟨none, op, ty, pos, af, g⟩).run P w = .ok (.value v) w' ∧ PH.le ph ph' ∧ Inv w0 ph' w' H' ∧ K ⟨st.n, st.env, H'⟩) : LO P ⟨none, op, ty, pos, af, g⟩ st K := fun w0 ph a w rl N Q kk => by
  obtain ⟨v, w', ph', H', hrun, hle, hi, hK⟩ := h w0 ph a w rl
  unfold owp
  rw [hrun]
  exact kk ph' _ _ _ hle (rl.put0 hle hi _) hK
/-- delete(m, a), which writes no slot -/
theorem LO.mapDelete0 {x y : Operand} {t kt kt2 et : TypeId} {m : Nat} {κ : Type} [DecidableEq κ] {key : κ → Value} {l : List (κ × LV)} {a : κ} (k : Nat) (Ko : KeyOk P kt key) (hk : st.heap[k]? = some (.map m (mp key l))) (ht : P.underlying t = some (.map kt et)) (hx : Is (ev st.env x) (.raw (.map (some m)))) (hy : Is (ev st.env y) (.raw (key a)))
    (h : K ⟨st.n, st.env, .map m (mp key (delM l a)) :: st.heap.eraseIdx k⟩) : LO P ⟨none, .call { callee := .builtin .delete, args := #[x, y], argTypes := #[t, kt2] }, ty, pos, af, g⟩ st K := .of_val0 fun w0 ph ac w r => by
  have h1 := (hx _ _ (r.tmps.eval x)).rawE
  have h2 := (hy _ _ (r.tmps.eval y)).rawE
  have hinv := r.inv.front k
  unfold L.front at hinv
  rw [hk] at hinv
  obtain ⟨F, hF, ents, clock, hh, hsz, hreps, hpw⟩ := hinv.atom
  have hkeys := map_keys hsz hreps
  have hf := Ko.find a ents.toList l w hkeys
  have hlen : ents.size = l.length := by rw [hsz, List.length_map]
  have hlt := lt_of_some hh
  cases hi : idxM l a with
  | none =>
    rw [hi] at hf
    simp only [Option.bind_none] at hf
    have hset : delM l a = l := by unfold delM; rw [hi]
    refine ⟨.tuple #[], w.putObj m (.map ents clock), ph, _, ?_, PH.le.refl _, hinv.turn (a' := .map m (mp key (delM l a))) (PH.le.refl _) (fun G hG hn => ⟨Chg.put _ (fun o => (hG.1 m o).2 rfl), G, ⟨hG.1, _, _, World.putObj_heap_same hlt, by rw [hset]; exact hsz, by rw [hset]; exact hreps, hpw⟩, fun b o hb => .inl hb, fun p u hp => .inl hp⟩), h⟩
    simp [execOp, resolve, invoke, builtin, h1, h2, Builtin.delete_, run_underlying ht, MapKept.run_getObj_map hh, Ko.check, hf, MapKept.run_setObj_map _ hh, World.putObj]
  | some i =>
    rw [hi] at hf
    obtain ⟨u, hu⟩ := idxM_some hi
    have hil := (List.getElem?_eq_some_iff.1 hu).1
    have hie : i < ents.size := by omega
    simp only [Option.bind_some, Array.getElem?_toList, Array.getElem?_eq_getElem hie, Option.map_some] at hf
    have hset : delM l a = l.eraseIdx i := by unfold delM; rw [hi]
    have het : (ents.eraseIdxIfInBounds i).toList = ents.toList.eraseIdx i := by simp [Array.eraseIdxIfInBounds, hie]
    refine ⟨.tuple #[], w.putObj m (.map (ents.eraseIdxIfInBounds i) clock), ph, _, ?_, PH.le.refl _, hinv.turn (a' := .map m (mp key (delM l a))) (PH.le.refl _) (fun G hG hn => ⟨Chg.put _ (fun o => (hG.1 m o).2 rfl), G, ⟨hG.1, _, _, World.putObj_heap_same hlt, ?_, fun j e kv he hkv => ?_, ?_⟩, fun b o hb => .inl hb, fun p u hp => .inl hp⟩), h⟩
    · simp [execOp, resolve, invoke, builtin, h1, h2, Builtin.delete_, run_underlying ht, MapKept.run_getObj_map hh, Ko.check, hf, MapKept.run_setObj_map _ hh, World.putObj]
    · rw [hset, ← Array.length_toList, het, List.length_map, List.length_eraseIdx_of_lt (by simpa using hie), List.length_eraseIdx_of_lt hil, Array.length_toList, hlen]
    · rw [hset] at hkv
      rw [← Array.getElem?_toList, het, List.getElem?_eraseIdx] at he
      rw [List.getElem?_map, List.getElem?_eraseIdx] at hkv
      by_cases c : j < i
      · rw [if_pos c] at he hkv
        exact hreps j e kv (by simpa using he) (by rw [List.getElem?_map]; exact hkv)
      · rw [if_neg c] at he hkv
        exact hreps (j + 1) e kv (by simpa using he) (by rw [List.getElem?_map]; exact hkv)
    · rw [het]
      exact hpw.sublist ((List.eraseIdx_sublist _ _).map _)
end
/-- A result told otherwise. -/
theorem LCalls.isR {P : Program} {f : FuncId} {args : List LV} {H : List Atom} {Q : List Atom → Prop} {v v' : LV} (hi : Is v v') (h : LCalls P f args H (fun r H' => r = v ∧ Q H')) : LCalls P f args H (fun r H' => r = v' ∧ Q H') :=
  fun R w0 ph w vs i r => (h R w0 ph w vs i r).mono fun e w' ⟨u, ph', x, H', h1, h2, h3, h4, h5, h6⟩ => by
    subst h5
    exact ⟨u, ph', v', H', h1, h2, h3, hi _ _ h4, rfl, h6⟩
/-- What is given back may be owned in another order. -/
theorem LCalls.give {P : Program} {f : FuncId} {args : List LV} {H : List Atom} {post post' : LV → List Atom → Prop} (h : LCalls P f args H post) (hg : ∀ r H', post r H' → ∃ K, HSub H' K ∧ post' r K) : LCalls P f args H post' :=
  fun R w0 ph w vs i r => (h R w0 ph w vs i r).mono fun e w' ⟨v, ph', x, H', h1, h2, h3, h4, h5⟩ => by
    obtain ⟨K, hk, hp⟩ := hg x H' h5
    exact ⟨v, ph', x, K, h1, h2, (HSub.appR R hk).app h3, h4, hp⟩
end Go.L
namespace Go.Proofs.YtolpkeajokjbjaaDoor
open Go.RowKit Go.L
attribute [local irreducible] LL LW LO
abbrev i64 (n : Int) : LV := .raw (.int .i64 n)
abbrev bl (b : Bool) : LV := .raw (.bool b)
abbrev pt (g : Nat) : LV := .raw (.pointer (some ⟨g, 0, none⟩))
theorem at_lt {α : Type} {l : List α} {i : Nat} (h : i < l.length) : ∃ x, l[i]? = some x := ⟨_, List.getElem?_eq_getElem h⟩
theorem take_snoc {α : Type} {l : List α} {i : Nat} {x : α} (h : l[i]? = some x) : l.take (i + 1) = l.take i ++ [x] := by
  obtain ⟨h1, h2⟩ := List.getElem?_eq_some_iff.1 h
  rw [List.take_succ_eq_append_getElem h1, h2]
theorem vxty : VxTy Tryd.prog 35 := ⟨⟨_, _, _, 5, Tryd.underlying35, rfl, Tryd.stoodInHeld35, by kernel_rfl, rfl, rfl, rfl, rfl, Tryd.underlying31, Tryd.underlying5, Tryd.sizeOf5, Tryd.sizeOf31, Tryd.isAgg31, Tryd.underlying3, Tryd.isAgg3⟩⟩
abbrev vxs (l : List Vx) : List (List LV) := l.map vxL
abbrev Vxs (l : List Vx) (k : Cap) : LV := .sl 33 (vxs l) k
abbrev hss (l : List Hs) : List (List LV) := l.map hsL
theorem vxs_size (l : List Vx) : ∀ e ∈ vxs l, e.length = 33 := fun e he => by obtain ⟨x, _, rfl⟩ := List.mem_map.1 he; exact vxL_len x
theorem vxs_at {l : List Vx} {i : Nat} {x : Vx} (h : l[i]? = some x) : (vxs l)[(i : Int).toNat]? = some (vxL x) := by
  rw [Int.toNat_natCast, List.getElem?_map, h]; rfl
theorem vx_ne (x : Vx) : vxL x ≠ [] := fun c => by have := vxL_len x; rw [c] at this; cases this
theorem vxs_app (a b : List Vx) : vxs a ++ vxs b = vxs (a ++ b) := (List.map_append (f := vxL) (l₁ := a) (l₂ := b)).symm
theorem hsL_len (x : Hs) : (hsL x).length = 32 := by rw [List.length_map]; exact x.2
theorem hss_size (l : List Hs) : ∀ e ∈ hss l, e.length = 32 := fun e he => by obtain ⟨x, _, rfl⟩ := List.mem_map.1 he; exact hsL_len x
theorem hss_at {l : List Hs} {i : Nat} {x : Hs} (h : l[i]? = some x) : (hss l)[(i : Int).toNat]? = some (hsL x) := by
  rw [Int.toNat_natCast, List.getElem?_map, h]; rfl
theorem hs_ne (x : Hs) : hsL x ≠ [] := fun c => by have := hsL_len x; rw [c] at this; cases this
theorem hss_app (a b : List Hs) : hss a ++ hss b = hss (a ++ b) := (List.map_append (f := hsL) (l₁ := a) (l₂ := b)).symm
abbrev hs0 : Hs := ⟨List.replicate 32 0, rfl⟩
abbrev topV : Vx := ⟨hs0, 0⟩
abbrev botV : Vx := ⟨hs0, 1⟩
abbrev kb : Atom := .known 0 (vxL botV)
def endsB (v : Vx) : Bool := decide (v = topV) || decide (v = botV)
section
variable {κ α : Type} [DecidableEq κ]
abbrev encM (enc : α → LV) (l : List (κ × α)) : List (κ × LV) := l.map fun p => (p.1, enc p.2)
def lookA : List (κ × α) → κ → Option α
  | [], _ => none
  | p :: r, a => if p.1 = a then some p.2 else lookA r a
def setA : List (κ × α) → κ → α → List (κ × α)
  | [], a, x => [(a, x)]
  | p :: r, a, x => if p.1 = a then (a, x) :: r else p :: setA r a x
def delA : List (κ × α) → κ → List (κ × α)
  | [], _ => []
  | p :: r, a => if p.1 = a then r else p :: delA r a
theorem lookM_cons (p : κ × LV) (r : List (κ × LV)) (b : κ) : lookM (p :: r) b = if p.1 = b then some p.2 else lookM r b := by
  unfold lookM
  rw [idxM]
  by_cases c : p.1 = b
  · rw [if_pos c, if_pos c]; rfl
  · rw [if_neg c, if_neg c]
    cases idxM r b with
    | none => rfl
    | some i => rfl
theorem setM_cons (p : κ × LV) (r : List (κ × LV)) (a : κ) (v : LV) : setM (p :: r) a v = if p.1 = a then (a, v) :: r else p :: setM r a v := by
  unfold setM
  rw [idxM]
  by_cases c : p.1 = a
  · rw [if_pos c, if_pos c]; rfl
  · rw [if_neg c, if_neg c]
    cases idxM r a with
    | none => rfl
    | some i => rfl
theorem delM_cons (p : κ × LV) (r : List (κ × LV)) (a : κ) : delM (p :: r) a = if p.1 = a then r else p :: delM r a := by
  unfold delM
  rw [idxM]
  by_cases c : p.1 = a
  · rw [if_pos c, if_pos c]; rfl
  · rw [if_neg c, if_neg c]
    cases idxM r a with
    | none => rfl
    | some i => rfl
theorem look_enc (enc : α → LV) : ∀ (l : List (κ × α)) (a : κ), lookM (encM enc l) a = (lookA l a).map enc
  | [], a => rfl
  | p :: r, a => by
    rw [show encM enc (p :: r) = (p.1, enc p.2) :: encM enc r from rfl, lookM_cons, lookA]
    by_cases c : p.1 = a
    · rw [if_pos c, if_pos c]; rfl
    · rw [if_neg c, if_neg c, look_enc enc r a]
theorem set_enc (enc : α → LV) : ∀ (l : List (κ × α)) (a : κ) (x : α), setM (encM enc l) a (enc x) = encM enc (setA l a x)
  | [], a, x => rfl
  | p :: r, a, x => by
    rw [show encM enc (p :: r) = (p.1, enc p.2) :: encM enc r from rfl, setM_cons, setA]
    by_cases c : p.1 = a
    · rw [if_pos c, if_pos c]; rfl
    · rw [if_neg c, if_neg c, set_enc enc r a x]; rfl
theorem del_enc (enc : α → LV) : ∀ (l : List (κ × α)) (a : κ), delM (encM enc l) a = encM enc (delA l a)
  | [], a => rfl
  | p :: r, a => by
    rw [show encM enc (p :: r) = (p.1, enc p.2) :: encM enc r from rfl, delM_cons, delA]
    by_cases c : p.1 = a
    · rw [if_pos c, if_pos c]
    · rw [if_neg c, if_neg c, del_enc enc r a]; rfl
theorem look_setA : ∀ (l : List (κ × α)) (a b : κ) (x : α), lookA (setA l a x) b = if a = b then some x else lookA l b
  | [], a, b, x => rfl
  | p :: r, a, b, x => by
    rw [setA]
    by_cases c : p.1 = a
    · rw [if_pos c, lookA, lookA]
      by_cases d : a = b
      · rw [if_pos d, if_pos d]
      · rw [if_neg d, if_neg d, if_neg (by rw [c]; exact d)]
    · rw [if_neg c, lookA, lookA, look_setA r a b x]
      by_cases d : p.1 = b
      · rw [if_pos d, if_pos d, if_neg (fun e => c (by rw [d, e]))]
      · rw [if_neg d, if_neg d]
end
set_option maxRecDepth 100000 in
theorem ends_calls (v : Vx) : LCalls Tryd.prog 53 [.agg (vxL v)] [kb] (fun r H' => r = bl (endsB v) ∧ H' = [kb]) := by
  have hvl := vxL_len v
  have hbl := vxL_len botV
  refine LCalls.of Tryd.func53 rfl Tryd.ntmps53 Tryd.results53 rfl (fun Rf => ?_)
  refine LW.seq ?_
  refine LW.region ?_
  refine X.act (X.box rfl Is.rfl' (by exact Cells.agg) (fun b1 => ?_))
  refine X.u (LU.assignR Is.rfl') rfl ?_
  refine LL.nil (after_code ?_)
  refine LW.seq ?_
  refine LW.region ?_
  refine X.u (LU.loadO 0 rfl ⟨Tryd.sizeOf35, Tryd.isAgg35⟩ Is.rfl' (Part.whole (by assumption))) rfl ?_
  refine X.u (LU.weak (LU.build (places := #[(0, 32), (32, 1)]) Tryd.underlying35 Tryd.zeroValue35 (ones rfl) (by intro w; simp [Tryd.sizeOf3, Tryd.sizeOf31]) Parts.nil rfl) (Is.of (y := .agg (vxL topV)) (rfl))) rfl ?_
  refine X.u (LU.eqlVx vxty Is.rfl' Is.rfl') rfl ?_
  refine X.u (LU.moveR Is.rfl') rfl ?_
  refine X.gF rfl rfl (fun hg => LU.loadO 0 rfl ⟨Tryd.sizeOf35, Tryd.isAgg35⟩ (by exact Is.rfl') (Part.whole (by assumption))) rfl ?_
  refine X.gF rfl rfl (fun hg => LU.loadK 1 rfl ⟨Tryd.sizeOf35, Tryd.isAgg35⟩ (by exact Is.rfl') (by decide) (by decide) (Part.whole (by (simp; done)))) rfl ?_
  refine X.gF rfl rfl (fun hg => LU.eqlVx vxty (by exact Is.whenN hg) (by exact Is.whenN hg)) rfl ?_
  refine X.u (LU.pickOr Is.rfl' Is.rfl' (fun hq => (by exact Is.whenN hq))) rfl ?_
  refine X.u (LU.assignR Is.rfl') rfl ?_
  refine LL.nil (after_code ?_)
  refine LW.ret (after_end ?_)
  refine X.ret (H' := [kb]) (Res.one (by exact IsR rfl)) (by repeat (first | exact HSub.refl _ | refine HSub.pick 1 rfl ?_ | refine HSub.drop ?_)) ?_
  exact ⟨by unfold endsB; rfl, rfl⟩
end Go.Proofs.YtolpkeajokjbjaaDoor
namespace Go.Proofs.YtolpkeajokjbjaaDoor
open Go.RowKit Go.L
attribute [local irreducible] LL LW LO
section
variable {α : Type} [DecidableEq α]
/-- The first place of a value in a list, -1 if there is none. -/
def placeG : List α → α → Int
  | [], _ => -1
  | a :: l, h => if a = h then 0 else (if placeG l h < 0 then -1 else placeG l h + 1)
theorem placeG_none : ∀ {l : List α} {h : α}, h ∉ l → placeG l h = -1
  | [], h, _ => rfl
  | a :: l, h, hn => by
    rw [placeG, if_neg (fun e => hn (by rw [e]; simp)), placeG_none (fun e => hn (List.mem_cons_of_mem _ e)), if_pos (by decide)]
theorem placeG_at : ∀ {l : List α} {h : α} {i : Nat}, l[i]? = some h → (∀ j, j < i → ∀ y, l[j]? = some y → y ≠ h) → placeG l h = i
  | [], h, i, e, _ => by simp at e
  | a :: l, h, 0, e, _ => by rw [placeG, if_pos (Option.some.inj e)]; rfl
  | a :: l, h, i + 1, e, hf => by
    have := placeG_at (l := l) (i := i) (by simpa using e) (fun j hj y hy => hf (j + 1) (by omega) y (by simpa using hy))
    rw [placeG, if_neg (hf 0 (by omega) a rfl), this, if_neg (by omega)]
    omega
theorem placeG_range : ∀ (l : List α) (h : α), -1 ≤ placeG l h ∧ placeG l h < l.length
  | [], h => by simp [placeG]
  | a :: l, h => by
    have := placeG_range l h
    rw [placeG, List.length_cons]
    split
    · omega
    · split <;> omega
theorem placeG_neg {l : List α} {h : α} : placeG l h < 0 ↔ h ∉ l := by
  constructor
  · intro hp hm
    induction l with
    | nil => cases hm
    | cons a l ih =>
      rw [placeG] at hp
      by_cases c : a = h
      · rw [if_pos c] at hp; cases hp
      · rw [if_neg c] at hp
        rcases List.mem_cons.1 hm with e | e
        · exact c e.symm
        · by_cases d : placeG l h < 0
          · exact ih d e
          · rw [if_neg d] at hp
            have := placeG_range l h
            omega
  · intro hn; rw [placeG_none hn]; decide
theorem placeG_in {l : List α} {h : α} [Decidable (h ∈ l)] : decide (0 ≤ placeG l h) = decide (h ∈ l) := by
  rw [Bool.eq_iff_iff]
  simp only [decide_eq_true_eq]
  have := placeG_neg (l := l) (h := h)
  refine ⟨fun c => Classical.not_not.1 fun d => ?_, fun c => ?_⟩
  · have := this.2 d; omega
  · have : ¬ placeG l h < 0 := fun d => this.1 d c
    omega
end
set_option maxRecDepth 100000 in
theorem index_calls (l : List Vx) (k : Cap) (v : Vx) (hl : l.length < 9223372036854775807) : LCalls Tryd.prog 56 [Vxs l k, .agg (vxL v)] [] (fun r H' => r = i64 (placeG l v) ∧ H' = []) := by
  have hvl := vxL_len v
  refine LCalls.of Tryd.func56 rfl Tryd.ntmps56 Tryd.results56 rfl (fun Rf => ?_)
  refine LW.seq ?_
  refine LW.region ?_
  refine X.act (X.box rfl Is.rfl' (by exact Cells.agg) (fun b3 => ?_))
  refine X.u (LU.assignR Is.rfl') rfl ?_
  refine LL.nil (after_code ?_)
  refine LW.seq ?_
  refine LW.seq ?_
  refine LW.region ?_
  refine X.u (LU.moveS Is.rfl') rfl ?_
  refine X.u (LU.lenN Tryd.underlying26 Is.rfl' (by (simp only [Option.getD_some, Option.getD_none, byteEls_length, intEls_length, List.length_append, List.length_cons, List.length_nil, List.length_map, List.length_drop, List.length_take, Int.toNat_natCast]; rfl))) rfl ?_
  refine X.u (LU.moveR Is.rfl') rfl ?_
  refine LL.nil (after_code ?_)
  refine LW.block ?_
  refine X.loopK (α := Nat) (fun i => [(8, i64 i)]) [0, 3, 7] (fun i => .cells b3 35 (vxL v) :: Rf) (fun i => i ≤ l.length ∧ ∀ j, j < i → ∀ y, l[j]? = some y → y ≠ v) (fun i => l.length - i) (0) (EnvLe.cons (by rfl) (EnvLe.nil)) (by repeat (exact HSub.refl _)) ?_ ?_
  · exact ⟨Nat.zero_le _, fun j hj => by omega⟩
  · rintro i hI
    obtain ⟨hi, hf⟩ := hI
    refine LW.seq ?_
    refine LW.region ?_
    refine X.u (LU.lss Is.rfl' Is.rfl') rfl ?_
    refine LL.nil (after_code ?_)
    refine LW.seq ?_
    refine X.cond rfl (fun h2 => ?_) (fun h2 => ?_)
    · try have h2 := of_decide_eq_true h2
      refine LW.skip (after_code ?_)
      refine LW.seq ?_
      refine LW.block ?_
      refine LW.seq ?_
      refine LW.region ?_
      refine X.u (LU.moveR Is.rfl') rfl ?_
      refine X.u (LU.assignR Is.rfl') rfl ?_
      refine LL.nil (after_code ?_)
      refine LW.seq ?_
      obtain ⟨x, hx⟩ := at_lt (show i < l.length by omega)
      have hxl := vxL_len x
      refine X.drawM 6 rfl (by kernel_rfl) rfl ?_
      refine QD.u (LU.loadO 0 rfl ⟨Tryd.sizeOf35, Tryd.isAgg35⟩ Is.rfl' (Part.whole (by assumption))) rfl ?_
      refine QD.u (LU.moveS Is.rfl') rfl ?_
      refine QD.u (LU.moveR Is.rfl') rfl ?_
      refine QD.u (LU.at Tryd.underlying26 ⟨Tryd.sizeOf35, Tryd.isAgg35⟩ Is.rfl' Is.rfl' (by omega) (vxs_at hx) (vx_ne x)) rfl ?_
      refine QD.u (LU.load ⟨Tryd.sizeOf35, Tryd.isAgg35⟩ Is.rfl' (by assumption) (Part.whole (by assumption))) rfl ?_
      refine QD.u (LU.eqlVx vxty Is.rfl' Is.rfl') rfl ?_
      refine QD.nil ?_
      refine LL.nil (after_code ?_)
      refine X.cond rfl (fun h4 => ?_) (fun h4 => ?_)
      · have hne : v = x := by simpa using h4
        refine LW.seq ?_
        refine LW.region ?_
        refine X.u (LU.moveR Is.rfl') rfl ?_
        refine X.u (LU.assignR Is.rfl') rfl ?_
        refine LL.nil (after_code ?_)
        refine LW.ret (ret_blk (ret_code (ret_rnd (ret_blk (ret_code (after_end ?_))))))
        refine X.ret (H' := []) (Res.one (by exact IsR rfl)) (by repeat (first | exact HSub.refl _ | refine HSub.drop ?_)) ?_
        exact ⟨by rw [placeG_at (by rw [hne]; exact hx) hf], rfl⟩
      · have hne : v ≠ x := by simpa using h4
        refine LW.skip (after_blk (after_code ?_))
        refine LW.region ?_
        refine X.u (LU.addN Is.rfl' Is.rfl' (wrap_i64 (by omega) (by omega))) rfl ?_
        refine X.u (LU.moveR Is.rfl') rfl ?_
        refine LL.nil (after_rnd ?_)
        refine X.next (i + 1) rfl (EnvLe.cons (by rfl) (EnvLe.nil)) (Keeps.cons (by exact Eq.trans (b := .sl _ _ _) rfl rfl) (Keeps.cons (by exact Eq.trans (b := .raw _) rfl rfl) (Keeps.cons (by exact Eq.trans (b := .raw _) rfl rfl) (Keeps.nil)))) (by repeat (exact HSub.refl _)) ?_ ?_
        · refine ⟨by omega, fun j hj y hy => ?_⟩
          by_cases c : j = i
          · rw [c, hx] at hy; rw [← Option.some.inj hy]; exact fun e => hne e.symm
          · exact hf j (by omega) y hy
        · omega
    · try have h2 := of_decide_eq_false h2
      refine LW.exit (exit_code (exit_rnd (exit_blk (after_code ?_))))
      refine LW.seq ?_
      refine LW.region ?_
      refine X.u (LU.assignR Is.rfl') rfl ?_
      refine LL.nil (after_code ?_)
      refine LW.ret (after_end ?_)
      refine X.ret (H' := []) (Res.one (by exact IsR rfl)) (by repeat (first | exact HSub.refl _ | refine HSub.drop ?_)) ?_
      exact ⟨by rw [placeG_none (fun hm => by obtain ⟨j, hj, e⟩ := List.getElem_of_mem hm; exact hf j (by omega) v (by rw [List.getElem?_eq_getElem hj, e]) rfl)], rfl⟩
set_option maxRecDepth 100000 in
theorem contains_calls (l : List Vx) (k : Cap) (v : Vx) (hl : l.length < 9223372036854775807) : LCalls Tryd.prog 40 [Vxs l k, .agg (vxL v)] [] (fun r H' => r = bl (decide (v ∈ l)) ∧ H' = []) := by
  have hvl := vxL_len v
  refine LCalls.of Tryd.func40 rfl Tryd.ntmps40 Tryd.results40 rfl (fun Rf => ?_)
  refine LW.seq ?_
  refine LW.region ?_
  refine X.act (X.box rfl Is.rfl' (by exact Cells.agg) (fun b3 => ?_))
  refine X.u (LU.assignR Is.rfl') rfl ?_
  refine LL.nil (after_code ?_)
  refine LW.seq ?_
  refine LW.region ?_
  refine X.u (LU.moveS Is.rfl') rfl ?_
  refine X.u (LU.loadO 0 rfl ⟨Tryd.sizeOf35, Tryd.isAgg35⟩ Is.rfl' (Part.whole (by assumption))) rfl ?_
  refine X.u (LU.call (index_calls l k v hl) Tryd.func56 rfl rfl (Opds.cons Is.rfl' (Opds.cons Is.rfl' Opds.nil))) rfl ?_
  refine X.u (LU.geq Is.rfl' Is.rfl') rfl ?_
  refine X.u (LU.assignR Is.rfl') rfl ?_
  refine LL.nil (after_code ?_)
  refine LW.ret (after_end ?_)
  refine X.ret (H' := []) (Res.one (by exact IsR rfl)) (by repeat (first | exact HSub.refl _ | refine HSub.drop ?_)) ?_
  exact ⟨by rw [← placeG_in], rfl⟩
set_option maxRecDepth 100000 in
theorem clone_calls (l : List Vx) (k : Cap) (hl : l.length < 1000000) : LCalls Tryd.prog 36 [Vxs l k] [] (fun r H' => ∃ b o c, r = Vxs l (.tok b o c) ∧ H' = [.tail b o c]) := by
  have hls := vxs_size l
  refine LCalls.of Tryd.func36 rfl Tryd.ntmps36 Tryd.results36 rfl (fun Rf => ?_)
  refine LW.seq ?_
  refine LW.region ?_
  refine X.u (LU.assign (Is.nil 33)) rfl ?_
  refine LL.nil (after_code ?_)
  refine LW.seq ?_
  refine LW.seq ?_
  refine LW.region ?_
  refine X.u (LU.moveS Is.rfl') rfl ?_
  refine X.act (LO.nilSl (st := ⟨_, _, _⟩) rfl Tryd.underlying26 Is.rfl' Is.rfl' (fun bb hbb => ?_))
  refine LL.nil (after_code ?_)
  refine X.cond rfl (fun h1 => ?_) (fun h1 => ?_)
  · try have h1 := of_decide_eq_true h1
    refine LW.seq ?_
    refine LW.region ?_
    refine X.u (LU.assign (Is.nil 33)) rfl ?_
    refine LL.nil (after_code ?_)
    refine LW.ret (ret_code (after_end ?_))
    refine X.ret (H' := [.tail 0 0 0]) (Res.one (Is.full_tok 0 0)) (HSub.tail0 0 0 0 (Nat.le_refl _) _) ?_
    exact ⟨0, 0, 0, by rw [List.map_eq_nil_iff.1 (hbb h1)]; rfl, rfl⟩
  · try have h1 := of_decide_eq_false h1
    refine LW.skip (after_code ?_)
    refine LW.seq ?_
    refine LW.region ?_
    refine X.u (LU.lits Tryd.underlying26 Tryd.sizeOf35 Tryd.zeroValue35 (ones rfl) rfl (by decide) (by decide) Elems.nil (by intro e he; cases he) rfl) rfl ?_
    refine X.u (LU.moveS Is.rfl') rfl ?_
    refine X.act (X.appendF rfl Tryd.underlying26 (El.of (P := Tryd.prog) (z := (.agg #[(.int .u8 0), (.int .u8 0), (.int .u8 0), (.int .u8 0), (.int .u8 0), (.int .u8 0), (.int .u8 0), (.int .u8 0), (.int .u8 0), (.int .u8 0), (.int .u8 0), (.int .u8 0), (.int .u8 0), (.int .u8 0), (.int .u8 0), (.int .u8 0), (.int .u8 0), (.int .u8 0), (.int .u8 0), (.int .u8 0), (.int .u8 0), (.int .u8 0), (.int .u8 0), (.int .u8 0), (.int .u8 0), (.int .u8 0), (.int .u8 0), (.int .u8 0), (.int .u8 0), (.int .u8 0), (.int .u8 0), (.int .u8 0), (.int .i64 0)])) (size := 33) (bytes := 40) rfl rfl rfl) Is.rfl' Is.rfl' (SrcL.slice Tryd.underlying26 (by decide) hls) (by simp only [Option.getD_some, Option.getD_none, byteEls_length, intEls_length, List.length_append, List.length_cons, List.length_nil, List.length_map, List.length_drop, List.length_take, Int.toNat_natCast]; omega) (by simp only [Option.getD_some, Option.getD_none, byteEls_length, intEls_length, List.length_append, List.length_cons, List.length_nil, List.length_map, List.length_drop, List.length_take, Int.toNat_natCast]; omega) (fun b7 o7 c7 => ?_))
    refine X.weak (t := 7) (v := Vxs l (.tok b7 o7 c7)) (Is.of (rfl)) ?_
    refine X.u (LU.assignS Is.rfl') rfl ?_
    refine LL.nil (after_code ?_)
    refine LW.ret (after_end ?_)
    refine X.ret (H' := [.tail b7 o7 c7]) (Res.one Is.rfl') (by repeat (exact HSub.refl _)) ?_
    exact ⟨b7, o7, c7, rfl, rfl⟩
set_option maxRecDepth 100000 in
theorem place_calls (l : List Vx) (k : Cap) (v : Vx) (hl : l.length < 9223372036854775807) : LCalls Tryd.prog 63 [Vxs l k, .agg (vxL v)] [] (fun r H' => r = i64 (placeG l v) ∧ H' = []) := by
  have hvl := vxL_len v
  refine LCalls.of Tryd.func63 rfl Tryd.ntmps63 Tryd.results63 rfl (fun Rf => ?_)
  refine LW.seq ?_
  refine LW.region ?_
  refine X.act (X.box rfl Is.rfl' (by exact Cells.agg) (fun b3 => ?_))
  refine X.u (LU.assignR Is.rfl') rfl ?_
  refine LL.nil (after_code ?_)
  refine LW.seq ?_
  refine LW.seq ?_
  refine LW.region ?_
  refine X.u (LU.assignR Is.rfl') rfl ?_
  refine LL.nil (after_code ?_)
  refine LW.block ?_
  refine X.loopK (α := Nat) (fun i => [(5, i64 i)]) [0, 3] (fun i => .cells b3 35 (vxL v) :: Rf) (fun i => i ≤ l.length ∧ ∀ j, j < i → ∀ y, l[j]? = some y → y ≠ v) (fun i => l.length - i) (0) (EnvLe.cons (by rfl) (EnvLe.nil)) (by repeat (exact HSub.refl _)) ?_ ?_
  · exact ⟨Nat.zero_le _, fun j hj => by omega⟩
  · rintro i hI
    obtain ⟨hi, hf⟩ := hI
    refine LW.seq ?_
    refine LW.seq ?_
    refine LW.region ?_
    refine X.u (LU.moveR Is.rfl') rfl ?_
    refine X.u (LU.moveS Is.rfl') rfl ?_
    refine X.u (LU.lenN Tryd.underlying26 Is.rfl' (by (simp only [Option.getD_some, Option.getD_none, byteEls_length, intEls_length, List.length_append, List.length_cons, List.length_nil, List.length_map, List.length_drop, List.length_take, Int.toNat_natCast]; rfl))) rfl ?_
    refine X.u (LU.lss Is.rfl' Is.rfl') rfl ?_
    refine LL.nil (after_code ?_)
    refine X.cond rfl (fun h2 => ?_) (fun h2 => ?_)
    · try have h2 := of_decide_eq_true h2
      refine LW.skip (after_code ?_)
      refine LW.seq ?_
      refine LW.block ?_
      refine LW.seq ?_
      obtain ⟨x, hx⟩ := at_lt (show i < l.length by omega)
      have hxl := vxL_len x
      refine X.drawM 6 rfl (by kernel_rfl) rfl ?_
      refine QD.u (LU.moveS Is.rfl') rfl ?_
      refine QD.u (LU.moveR Is.rfl') rfl ?_
      refine QD.u (LU.at Tryd.underlying26 ⟨Tryd.sizeOf35, Tryd.isAgg35⟩ Is.rfl' Is.rfl' (by omega) (vxs_at hx) (vx_ne x)) rfl ?_
      refine QD.u (LU.load ⟨Tryd.sizeOf35, Tryd.isAgg35⟩ Is.rfl' (by assumption) (Part.whole (by assumption))) rfl ?_
      refine QD.u (LU.loadO 0 rfl ⟨Tryd.sizeOf35, Tryd.isAgg35⟩ Is.rfl' (Part.whole (by assumption))) rfl ?_
      refine QD.u (LU.eqlVx vxty Is.rfl' Is.rfl') rfl ?_
      refine QD.nil ?_
      refine LL.nil (after_code ?_)
      refine X.cond rfl (fun h4 => ?_) (fun h4 => ?_)
      · have hne : x = v := by simpa using h4
        refine LW.seq ?_
        refine LW.region ?_
        refine X.u (LU.moveR Is.rfl') rfl ?_
        refine X.u (LU.assignR Is.rfl') rfl ?_
        refine LL.nil (after_code ?_)
        refine LW.ret (ret_blk (ret_code (ret_rnd (ret_blk (ret_code (after_end ?_))))))
        refine X.ret (H' := []) (Res.one (by exact IsR rfl)) (by repeat (first | exact HSub.refl _ | refine HSub.drop ?_)) ?_
        exact ⟨by rw [placeG_at (by rw [← hne]; exact hx) hf], rfl⟩
      · have hne : x ≠ v := by simpa using h4
        refine LW.skip (after_blk (after_code ?_))
        refine LW.region ?_
        refine X.u (LU.moveR Is.rfl') rfl ?_
        refine X.u (LU.addN Is.rfl' Is.rfl' (wrap_i64 (by omega) (by omega))) rfl ?_
        refine X.u (LU.assignR Is.rfl') rfl ?_
        refine LL.nil (after_rnd ?_)
        refine X.next (i + 1) rfl (EnvLe.cons (by rfl) (EnvLe.nil)) (Keeps.cons (by exact Eq.trans (b := .sl _ _ _) rfl rfl) (Keeps.cons (by exact Eq.trans (b := .raw _) rfl rfl) (Keeps.nil))) (by repeat (exact HSub.refl _)) ?_ ?_
        · refine ⟨by omega, fun j hj y hy => ?_⟩
          by_cases c : j = i
          · rw [c, hx] at hy; rw [← Option.some.inj hy]; exact hne
          · exact hf j (by omega) y hy
        · omega
    · try have h2 := of_decide_eq_false h2
      refine LW.exit (exit_code (exit_rnd (exit_blk (after_code ?_))))
      refine LW.seq ?_
      refine LW.region ?_
      refine X.u (LU.assignR Is.rfl') rfl ?_
      refine LL.nil (after_code ?_)
      refine LW.ret (after_end ?_)
      refine X.ret (H' := []) (Res.one (by exact IsR rfl)) (by repeat (first | exact HSub.refl _ | refine HSub.drop ?_)) ?_
      exact ⟨by rw [placeG_none (fun hm => by obtain ⟨j, hj, e⟩ := List.getElem_of_mem hm; exact hf j (by omega) v (by rw [List.getElem?_eq_getElem hj, e]) rfl)], rfl⟩
set_option maxRecDepth 100000 in
theorem indexH_calls (l : List Hs) (k : Cap) (v : Hs) (hl : l.length < 9223372036854775807) : LCalls Tryd.prog 42 [.sl 32 (hss l) k, .agg (hsL v)] [] (fun r H' => r = i64 (placeG l v) ∧ H' = []) := by
  have hvl := hsL_len v
  refine LCalls.of Tryd.func42 rfl Tryd.ntmps42 Tryd.results42 rfl (fun Rf => ?_)
  refine LW.seq ?_
  refine LW.region ?_
  refine X.act (X.box rfl Is.rfl' (by exact Cells.agg) (fun b3 => ?_))
  refine X.u (LU.assignR Is.rfl') rfl ?_
  refine LL.nil (after_code ?_)
  refine LW.seq ?_
  refine LW.seq ?_
  refine LW.region ?_
  refine X.u (LU.moveS Is.rfl') rfl ?_
  refine X.u (LU.lenN Tryd.underlying71 Is.rfl' (by (simp only [Option.getD_some, Option.getD_none, byteEls_length, intEls_length, List.length_append, List.length_cons, List.length_nil, List.length_map, List.length_drop, List.length_take, Int.toNat_natCast]; rfl))) rfl ?_
  refine X.u (LU.moveR Is.rfl') rfl ?_
  refine LL.nil (after_code ?_)
  refine LW.block ?_
  refine X.loopK (α := Nat) (fun i => [(8, i64 i)]) [0, 3, 7] (fun i => .cells b3 31 (hsL v) :: Rf) (fun i => i ≤ l.length ∧ ∀ j, j < i → ∀ y, l[j]? = some y → y ≠ v) (fun i => l.length - i) (0) (EnvLe.cons (by rfl) (EnvLe.nil)) (by repeat (exact HSub.refl _)) ?_ ?_
  · exact ⟨Nat.zero_le _, fun j hj => by omega⟩
  · rintro i hI
    obtain ⟨hi, hf⟩ := hI
    refine LW.seq ?_
    refine LW.region ?_
    refine X.u (LU.lss Is.rfl' Is.rfl') rfl ?_
    refine LL.nil (after_code ?_)
    refine LW.seq ?_
    refine X.cond rfl (fun h2 => ?_) (fun h2 => ?_)
    · try have h2 := of_decide_eq_true h2
      refine LW.skip (after_code ?_)
      refine LW.seq ?_
      refine LW.block ?_
      refine LW.seq ?_
      refine LW.region ?_
      refine X.u (LU.moveR Is.rfl') rfl ?_
      refine X.u (LU.assignR Is.rfl') rfl ?_
      refine LL.nil (after_code ?_)
      refine LW.seq ?_
      obtain ⟨x, hx⟩ := at_lt (show i < l.length by omega)
      have hxl := hsL_len x
      refine X.drawM 6 rfl (by kernel_rfl) rfl ?_
      refine QD.u (LU.loadO 0 rfl ⟨Tryd.sizeOf31, Tryd.isAgg31⟩ Is.rfl' (Part.whole (by assumption))) rfl ?_
      refine QD.u (LU.moveS Is.rfl') rfl ?_
      refine QD.u (LU.moveR Is.rfl') rfl ?_
      refine QD.u (LU.at Tryd.underlying71 ⟨Tryd.sizeOf31, Tryd.isAgg31⟩ Is.rfl' Is.rfl' (by omega) (hss_at hx) (hs_ne x)) rfl ?_
      refine QD.u (LU.load ⟨Tryd.sizeOf31, Tryd.isAgg31⟩ Is.rfl' (by assumption) (Part.whole (by assumption))) rfl ?_
      refine QD.u (LU.eqlHs Tryd.underlying31 Tryd.underlying5 Tryd.sizeOf5 (by kernel_rfl) Is.rfl' Is.rfl') rfl ?_
      refine QD.nil ?_
      refine LL.nil (after_code ?_)
      refine X.cond rfl (fun h4 => ?_) (fun h4 => ?_)
      · have hne : v = x := by simpa using h4
        refine LW.seq ?_
        refine LW.region ?_
        refine X.u (LU.moveR Is.rfl') rfl ?_
        refine X.u (LU.assignR Is.rfl') rfl ?_
        refine LL.nil (after_code ?_)
        refine LW.ret (ret_blk (ret_code (ret_rnd (ret_blk (ret_code (after_end ?_))))))
        refine X.ret (H' := []) (Res.one (by exact IsR rfl)) (by repeat (first | exact HSub.refl _ | refine HSub.drop ?_)) ?_
        exact ⟨by rw [placeG_at (by rw [hne]; exact hx) hf], rfl⟩
      · have hne : v ≠ x := by simpa using h4
        refine LW.skip (after_blk (after_code ?_))
        refine LW.region ?_
        refine X.u (LU.addN Is.rfl' Is.rfl' (wrap_i64 (by omega) (by omega))) rfl ?_
        refine X.u (LU.moveR Is.rfl') rfl ?_
        refine LL.nil (after_rnd ?_)
        refine X.next (i + 1) rfl (EnvLe.cons (by rfl) (EnvLe.nil)) (Keeps.cons (by exact Eq.trans (b := .sl _ _ _) rfl rfl) (Keeps.cons (by exact Eq.trans (b := .raw _) rfl rfl) (Keeps.cons (by exact Eq.trans (b := .raw _) rfl rfl) (Keeps.nil)))) (by repeat (exact HSub.refl _)) ?_ ?_
        · refine ⟨by omega, fun j hj y hy => ?_⟩
          by_cases c : j = i
          · rw [c, hx] at hy; rw [← Option.some.inj hy]; exact fun e => hne e.symm
          · exact hf j (by omega) y hy
        · omega
    · try have h2 := of_decide_eq_false h2
      refine LW.exit (exit_code (exit_rnd (exit_blk (after_code ?_))))
      refine LW.seq ?_
      refine LW.region ?_
      refine X.u (LU.assignR Is.rfl') rfl ?_
      refine LL.nil (after_code ?_)
      refine LW.ret (after_end ?_)
      refine X.ret (H' := []) (Res.one (by exact IsR rfl)) (by repeat (first | exact HSub.refl _ | refine HSub.drop ?_)) ?_
      exact ⟨by rw [placeG_none (fun hm => by obtain ⟨j, hj, e⟩ := List.getElem_of_mem hm; exact hf j (by omega) v (by rw [List.getElem?_eq_getElem hj, e]) rfl)], rfl⟩
set_option maxRecDepth 100000 in
theorem containsH_calls (l : List Hs) (k : Cap) (v : Hs) (hl : l.length < 9223372036854775807) : LCalls Tryd.prog 31 [.sl 32 (hss l) k, .agg (hsL v)] [] (fun r H' => r = bl (decide (v ∈ l)) ∧ H' = []) := by
  have hvl := hsL_len v
  refine LCalls.of Tryd.func31 rfl Tryd.ntmps31 Tryd.results31 rfl (fun Rf => ?_)
  refine LW.seq ?_
  refine LW.region ?_
  refine X.act (X.box rfl Is.rfl' (by exact Cells.agg) (fun b3 => ?_))
  refine X.u (LU.assignR Is.rfl') rfl ?_
  refine LL.nil (after_code ?_)
  refine LW.seq ?_
  refine LW.region ?_
  refine X.u (LU.moveS Is.rfl') rfl ?_
  refine X.u (LU.loadO 0 rfl ⟨Tryd.sizeOf31, Tryd.isAgg31⟩ Is.rfl' (Part.whole (by assumption))) rfl ?_
  refine X.u (LU.call (indexH_calls l k v hl) Tryd.func42 rfl rfl (Opds.cons Is.rfl' (Opds.cons Is.rfl' Opds.nil))) rfl ?_
  refine X.u (LU.geq Is.rfl' Is.rfl') rfl ?_
  refine X.u (LU.assignR Is.rfl') rfl ?_
  refine LL.nil (after_code ?_)
  refine LW.ret (after_end ?_)
  refine X.ret (H' := []) (Res.one (by exact IsR rfl)) (by repeat (first | exact HSub.refl _ | refine HSub.drop ?_)) ?_
  exact ⟨by rw [← placeG_in], rfl⟩
set_option maxRecDepth 100000 in
theorem cloneH_calls (l : List Hs) (k : Cap) (hl : l.length < 1000000) : LCalls Tryd.prog 32 [.sl 32 (hss l) k] [] (fun r H' => ∃ b o c, r = .sl 32 (hss l) (.tok b o c) ∧ H' = [.tail b o c]) := by
  have hls := hss_size l
  refine LCalls.of Tryd.func32 rfl Tryd.ntmps32 Tryd.results32 rfl (fun Rf => ?_)
  refine LW.seq ?_
  refine LW.region ?_
  refine X.u (LU.assign (Is.nil 32)) rfl ?_
  refine LL.nil (after_code ?_)
  refine LW.seq ?_
  refine LW.seq ?_
  refine LW.region ?_
  refine X.u (LU.moveS Is.rfl') rfl ?_
  refine X.act (LO.nilSl (st := ⟨_, _, _⟩) rfl Tryd.underlying71 Is.rfl' Is.rfl' (fun bb hbb => ?_))
  refine LL.nil (after_code ?_)
  refine X.cond rfl (fun h1 => ?_) (fun h1 => ?_)
  · try have h1 := of_decide_eq_true h1
    refine LW.seq ?_
    refine LW.region ?_
    refine X.u (LU.assign (Is.nil 32)) rfl ?_
    refine LL.nil (after_code ?_)
    refine LW.ret (ret_code (after_end ?_))
    refine X.ret (H' := [.tail 0 0 0]) (Res.one (Is.full_tok 0 0)) (HSub.tail0 0 0 0 (Nat.le_refl _) _) ?_
    exact ⟨0, 0, 0, by rw [List.map_eq_nil_iff.1 (hbb h1)]; rfl, rfl⟩
  · try have h1 := of_decide_eq_false h1
    refine LW.skip (after_code ?_)
    refine LW.seq ?_
    refine LW.region ?_
    refine X.u (LU.lits Tryd.underlying71 Tryd.sizeOf31 Tryd.zeroValue31 (ones rfl) rfl (by decide) (by decide) Elems.nil (by intro e he; cases he) rfl) rfl ?_
    refine X.u (LU.moveS Is.rfl') rfl ?_
    refine X.act (X.appendF rfl Tryd.underlying71 (El.of (P := Tryd.prog) (z := (.agg #[(.int .u8 0), (.int .u8 0), (.int .u8 0), (.int .u8 0), (.int .u8 0), (.int .u8 0), (.int .u8 0), (.int .u8 0), (.int .u8 0), (.int .u8 0), (.int .u8 0), (.int .u8 0), (.int .u8 0), (.int .u8 0), (.int .u8 0), (.int .u8 0), (.int .u8 0), (.int .u8 0), (.int .u8 0), (.int .u8 0), (.int .u8 0), (.int .u8 0), (.int .u8 0), (.int .u8 0), (.int .u8 0), (.int .u8 0), (.int .u8 0), (.int .u8 0), (.int .u8 0), (.int .u8 0), (.int .u8 0), (.int .u8 0)])) (size := 32) (bytes := 32) rfl rfl rfl) Is.rfl' Is.rfl' (SrcL.slice Tryd.underlying71 (by decide) hls) (by simp only [Option.getD_some, Option.getD_none, byteEls_length, intEls_length, List.length_append, List.length_cons, List.length_nil, List.length_map, List.length_drop, List.length_take, Int.toNat_natCast]; omega) (by simp only [Option.getD_some, Option.getD_none, byteEls_length, intEls_length, List.length_append, List.length_cons, List.length_nil, List.length_map, List.length_drop, List.length_take, Int.toNat_natCast]; omega) (fun b7 o7 c7 => ?_))
    refine X.weak (t := 7) (v := .sl 32 (hss l) (.tok b7 o7 c7)) (Is.of (rfl)) ?_
    refine X.u (LU.assignS Is.rfl') rfl ?_
    refine LL.nil (after_code ?_)
    refine LW.ret (after_end ?_)
    refine X.ret (H' := [.tail b7 o7 c7]) (Res.one Is.rfl') (by repeat (exact HSub.refl _)) ?_
    exact ⟨b7, o7, c7, rfl, rfl⟩
end Go.Proofs.YtolpkeajokjbjaaDoor
namespace Go.Proofs.YtolpkeajokjbjaaDoor
open Go.RowKit Go.L
attribute [local irreducible] LL LW LO LP LA
/-- A line. -/
structure Ln where
  text : List UInt8
  kills : List Hs
  part : Int
  next : List Vx
  prev : List Vx
abbrev lnL (x : Ln) : List LV := [Str x.text, .sl 32 (hss x.kills) .unk, i64 x.part, Vxs x.next .unk, Vxs x.prev .unk]
abbrev lnE (x : Ln) : LV := .agg (lnL x)
abbrev ln0 : Ln := ⟨[], [], 0, [], []⟩
abbrev z73 : Value := .agg #[.string ⟨#[]⟩, .slice none 0 0, .int .i64 0, .slice none 0 0, .slice none 0 0]
theorem ln0_is : Is (.raw z73) (lnE ln0) := by
  have h := Is.raw_agg (vs := [.string ⟨#[]⟩, .slice none 0 0, .int .i64 0, .slice none 0 0, .slice none 0 0]) (fun v hv => by
    simp only [List.mem_cons, List.not_mem_nil, or_false] at hv
    rcases hv with rfl | rfl | rfl | rfl | rfl <;> rfl)
  refine h.trans (Is.agg rfl fun i x y hx hy => ?_)
  match i, hx, hy with
  | 0, hx, hy => cases hx; cases hy; exact Is.rfl'
  | 1, hx, hy => cases hx; cases hy; exact (Is.nil 32).trans Is.unk
  | 2, hx, hy => cases hx; cases hy; exact Is.rfl'
  | 3, hx, hy => cases hx; cases hy; exact (Is.nil 33).trans Is.unk
  | 4, hx, hy => cases hx; cases hy; exact (Is.nil 33).trans Is.unk
abbrev At := List (Vx × Ln)
def atG (m : At) (v : Vx) : Ln := (lookA m v).getD ln0
theorem at_is (m : At) (v : Vx) : Is ((lookM (encM lnE m) v).getD (.raw z73)) (lnE (atG m v)) := by
  rw [look_enc]
  unfold atG
  cases lookA m v with
  | none => exact ln0_is
  | some x => exact Is.rfl'
abbrev gC (g ma mb : Nat) (n : Int) : Atom := .cells g 68 [.raw (.map (some ma)), .raw (.map (some mb)), i64 n]
abbrev gA (ma : Nat) (m : At) : Atom := .map ma (mp vxV (encM lnE m))
set_option maxRecDepth 100000 in
theorem none_calls (g ma mb : Nat) (n : Int) : LCalls Tryd.prog 33 [pt g] [gC g ma mb n] (fun r H' => r = bl false ∧ H' = [gC g ma mb n]) := by
  refine LCalls.of Tryd.func33 rfl Tryd.ntmps33 Tryd.results33 rfl (fun Rf => ?_)
  refine LW.seq ?_
  refine LW.region ?_
  refine X.u (LU.assignR Is.rfl') rfl ?_
  refine LL.nil (after_code ?_)
  refine LW.seq ?_
  refine LW.region ?_
  refine X.u (LU.moveR Is.rfl') rfl ?_
  refine X.u (LU.nilEqS Tryd.underlying23 Is.rfl' Is.rfl') rfl ?_
  refine X.u (LU.moveR Is.rfl') rfl ?_
  refine X.doF rfl rfl (LU.moveR (by exact Is.rfl')) rfl ?_
  refine X.doF rfl rfl (LU.nilCheck (by exact Is.rfl')) rfl ?_
  refine X.doF rfl rfl (LU.fieldO Tryd.underlying68 rfl Tryd.sizeOf65 (by decide) (by exact Is.rfl')) rfl ?_
  refine X.doF rfl rfl (LU.loadO 0 rfl ⟨Tryd.sizeOf65, Tryd.isAgg65⟩ (by exact Is.rfl') (Part.one rfl)) rfl ?_
  refine X.doF rfl rfl (LU.nilMEqS Tryd.underlying65 (by exact Is.rfl') (by exact Is.rfl')) rfl ?_
  refine X.u (LU.pickF Is.rfl' (by exact Is.rfl')) rfl ?_
  refine X.u (LU.assignR Is.rfl') rfl ?_
  refine LL.nil (after_code ?_)
  refine LW.ret (after_end ?_)
  refine X.ret (H' := [gC g ma mb n]) (Res.one (by exact IsR rfl)) (by repeat (exact HSub.refl _)) ?_
  exact ⟨rfl, rfl⟩
theorem gA_set (ma : Nat) (m : At) (a : Vx) (x : Ln) : Atom.map ma (mp vxV (setM (encM lnE m) a (lnE x))) = gA ma (setA m a x) := by rw [set_enc]
def stepA (m : At) (a b : Vx) : At :=
  let m1 := setA m a { atG m a with next := (atG m a).next ++ [b] }
  setA m1 b { atG m1 b with prev := (atG m1 b).prev ++ [a] }
set_option maxHeartbeats 1000000 in
set_option maxRecDepth 100000 in
theorem step_calls (g ma mb : Nat) (n : Int) (m : At) (a b : Vx) (hn : ∀ v, (atG m v).next.length < 900000 ∧ (atG m v).prev.length < 900000) : LCalls Tryd.prog 29 [pt g, .agg (vxL a), .agg (vxL b)] [gC g ma mb n, gA ma m] (fun r H' => r = .tup [] ∧ H' = [gC g ma mb n, gA ma (stepA m a b)]) := by
  have hal := vxL_len a
  have hbl := vxL_len b
  have ha32 : a.p.1.length = 32 := a.p.2
  have hb32 : b.p.1.length = 32 := b.p.2
  obtain ⟨x, hx⟩ : ∃ x, x = atG m a := ⟨_, rfl⟩
  have hxn := (hn a).1
  rw [← hx] at hxn
  obtain ⟨m1, hm1⟩ : ∃ m1, m1 = setA m a { x with next := x.next ++ [b] } := ⟨_, rfl⟩
  obtain ⟨y, hy⟩ : ∃ y, y = atG m1 b := ⟨_, rfl⟩
  have hyn : y.prev.length < 900000 := by
    rw [hy, hm1]
    unfold atG
    rw [look_setA]
    by_cases c : a = b
    · rw [if_pos c]; show x.prev.length < _; rw [hx]; exact (hn a).2
    · rw [if_neg c]; exact (hn b).2
  have hst : stepA m a b = setA m1 b { y with prev := y.prev ++ [a] } := by
    unfold stepA
    rw [hy, hm1, hx]
  rw [hst]
  have hxi : Is ((lookM (encM lnE m) a).getD (.raw z73)) (lnE x) := by rw [hx]; exact at_is m a
  have hyi : Is ((lookM (encM lnE m1) b).getD (.raw z73)) (lnE y) := by rw [hy]; exact at_is m1 b
  refine LCalls.of Tryd.func29 rfl Tryd.ntmps29 Tryd.results29 rfl (fun Rf => ?_)
  refine LW.seq ?_
  refine LW.region ?_
  refine X.act (X.box rfl Is.rfl' (by exact Cells.agg) (fun b4 => ?_))
  refine X.act (X.box rfl Is.rfl' (by exact Cells.agg) (fun b5 => ?_))
  refine LL.nil (after_code ?_)
  refine LW.seq ?_
  refine LW.invM (m := 7) (γ := Nat × Nat) [(0, 8), (1, 9), (2, 10), (3, 11), (4, 12), (5, 13), (6, 6)] (fun g_ d => match g_ with | ⟨b_, z_⟩ => match d with | 8 => pt g | 9 => pt g | 10 => pt g | 11 => .raw (.map (some ma)) | 12 => .agg (vxL a) | 13 => lnE x | 6 => pt b_ | _ => .any) (fun g_ f => match g_ with | ⟨b_, z_⟩ => cond (f 6) (.cells b_ 73 (raws z73.cells.toList)) (.tail 0 0 0) :: .cells b4 35 (vxL a) :: .cells b5 35 (vxL b) :: gC g ma mb n :: gA ma m :: Rf) (0, 0) rfl (by kernel_rfl) rfl rfl ((HSub.trans (by repeat (first | exact HSub.refl _ | refine HSub.pick 1 rfl ?_)) (HSub.tail0 0 0 0 (Nat.le_refl _) _))) ?_ ?_
  · intro i hi f g_ hfi hdir hdown
    obtain ⟨b_, z_⟩ := g_
    have hc : i = 0 ∨ i = 1 ∨ i = 2 ∨ i = 3 ∨ i = 4 ∨ i = 5 ∨ i = 6 := by omega
    rcases hc with rfl | rfl | rfl | rfl | rfl | rfl | rfl
    · refine ⟨_, rfl, ?_⟩
      refine A.u (LU.moveR Is.rfl') rfl ?_
      refine ⟨⟨b_, z_⟩, Weaker.mk' ?_ (HSub.refl _)⟩
      refine env_back0 (envS_hit (sl := [(0, 8), (1, 9), (2, 10), (3, 11), (4, 12), (5, 13), (6, 6)]) (j := 0) (d := 8) rfl (fun _ _ h => h))  (envS_next ?_)
      · intro p hp hne; simp only [List.mem_cons, List.not_mem_nil, or_false] at hp; rcases hp with rfl | rfl | rfl | rfl | rfl | rfl | rfl <;> first | exact absurd rfl hne | exact ⟨rfl, rfl⟩
    · have d0 := hdir 0 (List.mem_of_elem_eq_true (by kernel_rfl))
      refine ⟨_, rfl, ?_⟩
      refine LP.weak (t := 8) (v := pt g) (envS_is (j := 0) rfl d0) ?_
      refine A.u (LU.nilCheck Is.rfl') rfl ?_
      refine ⟨⟨b_, z_⟩, Weaker.mk' ?_ (HSub.refl _)⟩
      refine env_back1 (envS_hit (sl := [(0, 8), (1, 9), (2, 10), (3, 11), (4, 12), (5, 13), (6, 6)]) (j := 1) (d := 9) rfl (fun _ _ h => h)) (envS_hit (sl := [(0, 8), (1, 9), (2, 10), (3, 11), (4, 12), (5, 13), (6, 6)]) (j := 0) (d := 8) rfl (fun _ _ h => h)) (envS_next ?_)
      · intro p hp hne; simp only [List.mem_cons, List.not_mem_nil, or_false] at hp; rcases hp with rfl | rfl | rfl | rfl | rfl | rfl | rfl <;> first | exact absurd rfl hne | exact ⟨rfl, rfl⟩
    · have d1 := hdir 1 (List.mem_of_elem_eq_true (by kernel_rfl))
      refine ⟨_, rfl, ?_⟩
      refine LP.weak (t := 9) (v := pt g) (envS_is (j := 1) rfl d1) ?_
      refine A.u (LU.fieldO Tryd.underlying68 rfl Tryd.sizeOf65 (by decide) Is.rfl') rfl ?_
      refine ⟨⟨b_, z_⟩, Weaker.mk' ?_ (HSub.refl _)⟩
      refine env_back1 (envS_hit (sl := [(0, 8), (1, 9), (2, 10), (3, 11), (4, 12), (5, 13), (6, 6)]) (j := 2) (d := 10) rfl (fun _ _ h => h)) (envS_hit (sl := [(0, 8), (1, 9), (2, 10), (3, 11), (4, 12), (5, 13), (6, 6)]) (j := 1) (d := 9) rfl (fun _ _ h => h)) (envS_next ?_)
      · intro p hp hne; simp only [List.mem_cons, List.not_mem_nil, or_false] at hp; rcases hp with rfl | rfl | rfl | rfl | rfl | rfl | rfl <;> first | exact absurd rfl hne | exact ⟨rfl, rfl⟩
    · have d2 := hdir 2 (List.mem_of_elem_eq_true (by kernel_rfl))
      refine ⟨_, rfl, ?_⟩
      refine LP.weak (t := 10) (v := pt g) (envS_is (j := 2) rfl d2) ?_
      refine A.u (LU.loadO 3 rfl ⟨Tryd.sizeOf65, Tryd.isAgg65⟩ Is.rfl' (Part.one rfl)) rfl ?_
      refine ⟨⟨b_, z_⟩, Weaker.mk' ?_ (HSub.refl _)⟩
      refine env_back1 (envS_hit (sl := [(0, 8), (1, 9), (2, 10), (3, 11), (4, 12), (5, 13), (6, 6)]) (j := 3) (d := 11) rfl (fun _ _ h => h)) (envS_hit (sl := [(0, 8), (1, 9), (2, 10), (3, 11), (4, 12), (5, 13), (6, 6)]) (j := 2) (d := 10) rfl (fun _ _ h => h)) (envS_next ?_)
      · intro p hp hne; simp only [List.mem_cons, List.not_mem_nil, or_false] at hp; rcases hp with rfl | rfl | rfl | rfl | rfl | rfl | rfl <;> first | exact absurd rfl hne | exact ⟨rfl, rfl⟩
    · refine ⟨_, rfl, ?_⟩
      refine A.u (LU.loadO 1 rfl ⟨Tryd.sizeOf35, Tryd.isAgg35⟩ Is.rfl' (Part.whole (by assumption))) rfl ?_
      refine ⟨⟨b_, z_⟩, Weaker.mk' ?_ (HSub.refl _)⟩
      refine env_back0 (envS_hit (sl := [(0, 8), (1, 9), (2, 10), (3, 11), (4, 12), (5, 13), (6, 6)]) (j := 4) (d := 12) rfl (fun _ _ h => h))  (envS_next ?_)
      · intro p hp hne; simp only [List.mem_cons, List.not_mem_nil, or_false] at hp; rcases hp with rfl | rfl | rfl | rfl | rfl | rfl | rfl <;> first | exact absurd rfl hne | exact ⟨rfl, rfl⟩
    · have d3 := hdir 3 (List.mem_of_elem_eq_true (by kernel_rfl))
      have d4 := hdir 4 (List.mem_of_elem_eq_true (by kernel_rfl))
      refine ⟨_, rfl, ?_⟩
      refine LP.weak (t := 11) (v := .raw (.map (some ma))) (envS_is (j := 3) rfl d3) ?_
      refine LP.weak (t := 12) (v := .agg (vxL a)) (envS_is (j := 4) rfl d4) ?_
      refine A.u (LU.weak (LU.lookup 4 (KeyOk.vx vxty) rfl Tryd.underlying65 Tryd.zeroValue73 Is.rfl' (by exact Is.vx _)) (hxi)) rfl ?_
      refine ⟨⟨b_, z_⟩, Weaker.mk' ?_ (HSub.refl _)⟩
      refine env_back2 (envS_hit (sl := [(0, 8), (1, 9), (2, 10), (3, 11), (4, 12), (5, 13), (6, 6)]) (j := 5) (d := 13) rfl (fun _ _ h => h)) (envS_hit (sl := [(0, 8), (1, 9), (2, 10), (3, 11), (4, 12), (5, 13), (6, 6)]) (j := 4) (d := 12) rfl (fun _ _ h => h)) (envS_hit (sl := [(0, 8), (1, 9), (2, 10), (3, 11), (4, 12), (5, 13), (6, 6)]) (j := 3) (d := 11) rfl (fun _ _ h => h)) (envS_next ?_)
      · intro p hp hne; simp only [List.mem_cons, List.not_mem_nil, or_false] at hp; rcases hp with rfl | rfl | rfl | rfl | rfl | rfl | rfl <;> first | exact absurd rfl hne | exact ⟨rfl, rfl⟩
    · refine ⟨_, rfl, ?_⟩
      refine A.act (X.alloc rfl Tryd.zeroValue73 (by exact Cells.rawagg (by decide)) (fun b6 => ?_))
      refine ⟨(b6, 0), Weaker.mk' ?_ (by show L.HSub (_ :: cond (f 6) _ (.tail 0 0 0) :: _) _; rw [hfi]; exact HSub.cons (HSub.drop (HSub.refl _)))⟩
      refine env_back0 (envS_hit (sl := [(0, 8), (1, 9), (2, 10), (3, 11), (4, 12), (5, 13), (6, 6)]) (j := 6) (d := 6) rfl (fun _ _ h => h))  (envS_next ?_)
      · intro p hp hne; simp only [List.mem_cons, List.not_mem_nil, or_false] at hp; rcases hp with rfl | rfl | rfl | rfl | rfl | rfl | rfl <;> first | exact absurd rfl hne | exact ⟨rfl, rfl⟩
  · intro g_ f hf_
    obtain ⟨b_, z_⟩ := g_
    refine X.ghost (H' := .cells b_ 73 (raws z73.cells.toList) :: .cells b4 35 (vxL a) :: .cells b5 35 (vxL b) :: gC g ma mb n :: gA ma m :: Rf) (by show L.HSub (cond (f 6) _ (.tail 0 0 0) :: _) _; rw [hf_ 6 (by omega)]; exact HSub.refl _) ?_
    refine X.act (X.store 0 rfl Tryd.sizeOf73 Is.rfl' Is.rfl' (by exact Cells.agg) (by (simp; done)) (by exact Nat.le_of_ble_eq_true rfl) ?_)
    refine LL.nil (after_code ?_)
    refine LW.seq ?_
    refine X.wcells (ys := lnL x) rfl ?_
    refine X.wghost (H' := .cells b_ 73 (lnL x) :: gC g ma mb n :: gA ma m :: .cells b4 35 (vxL a) :: .cells b5 35 (vxL b) :: Rf) (by repeat (first | exact HSub.refl _ | refine HSub.pick 0 rfl ?_ | refine HSub.pick 2 rfl ?_)) ?_
    refine LW.invM (m := 6) (γ := Nat × Nat × Nat × Nat × Nat × Nat) [(0, 14), (1, 15), (2, 16), (3, 17), (4, 18), (5, 19)] (fun g_ d => match g_ with | ⟨q1, q2, q3, q4, q5, q6⟩ => match d with | 14 => .raw (.pointer (some ⟨b_, 3, none⟩)) | 15 => Vxs x.next .unk | 16 => Vxs x.next (.tok q1 q2 q3) | 17 => .agg (vxL b) | 18 => .sl 33 [vxL b] .full | 19 => Vxs (x.next ++ [b]) (.tok q4 q5 q6) | _ => .any) (fun g_ f => match g_ with | ⟨q1, q2, q3, q4, q5, q6⟩ => cond (f 5) (.tail q4 q5 q6) (cond (f 2) (.tail q1 q2 q3) (.tail 0 0 0)) :: .cells b_ 73 (lnL x) :: gC g ma mb n :: gA ma m :: .cells b4 35 (vxL a) :: .cells b5 35 (vxL b) :: Rf) (0, 0, 0, 0, 0, 0) rfl (by kernel_rfl) rfl rfl ((HSub.trans (by repeat (exact HSub.refl _)) (HSub.tail0 0 0 0 (Nat.le_refl _) _))) ?_ ?_
    · intro i hi f g_ hfi hdir hdown
      obtain ⟨q1, q2, q3, q4, q5, q6⟩ := g_
      have hc : i = 0 ∨ i = 1 ∨ i = 2 ∨ i = 3 ∨ i = 4 ∨ i = 5 := by omega
      rcases hc with rfl | rfl | rfl | rfl | rfl | rfl
      · refine ⟨_, rfl, ?_⟩
        refine A.u (LU.fieldO Tryd.underlying73 rfl Tryd.sizeOf26 (by decide) Is.rfl') rfl ?_
        refine ⟨⟨q1, q2, q3, q4, q5, q6⟩, Weaker.mk' ?_ (HSub.refl _)⟩
        refine env_back0 (envS_hit (sl := [(0, 14), (1, 15), (2, 16), (3, 17), (4, 18), (5, 19)]) (j := 0) (d := 14) rfl (fun _ _ h => h))  (envS_next ?_)
        · intro p hp hne; simp only [List.mem_cons, List.not_mem_nil, or_false] at hp; rcases hp with rfl | rfl | rfl | rfl | rfl | rfl <;> first | exact absurd rfl hne | exact ⟨rfl, rfl⟩
      · have d0 := hdir 0 (List.mem_of_elem_eq_true (by kernel_rfl))
        refine ⟨_, rfl, ?_⟩
        refine LP.weak (t := 14) (v := .raw (.pointer (some ⟨b_, 3, none⟩))) (envS_is (j := 0) rfl d0) ?_
        refine A.u (LU.loadO 1 rfl ⟨Tryd.sizeOf26, Tryd.isAgg26⟩ Is.rfl' (Part.one rfl)) rfl ?_
        refine ⟨⟨q1, q2, q3, q4, q5, q6⟩, Weaker.mk' ?_ (HSub.refl _)⟩
        refine env_back1 (envS_hit (sl := [(0, 14), (1, 15), (2, 16), (3, 17), (4, 18), (5, 19)]) (j := 1) (d := 15) rfl (fun _ _ h => h)) (envS_hit (sl := [(0, 14), (1, 15), (2, 16), (3, 17), (4, 18), (5, 19)]) (j := 0) (d := 14) rfl (fun _ _ h => h)) (envS_next ?_)
        · intro p hp hne; simp only [List.mem_cons, List.not_mem_nil, or_false] at hp; rcases hp with rfl | rfl | rfl | rfl | rfl | rfl <;> first | exact absurd rfl hne | exact ⟨rfl, rfl⟩
      · have d1 := hdir 1 (List.mem_of_elem_eq_true (by kernel_rfl))
        refine ⟨_, rfl, ?_⟩
        have h6 : f 5 = false := Bool.eq_false_iff.2 (fun h => by rw [hdown 5 (by omega) h 2 (List.mem_of_elem_eq_true (by kernel_rfl))] at hfi; cases hfi)
        refine LP.ghost (H' := .cells b_ 73 (lnL x) :: gC g ma mb n :: gA ma m :: .cells b4 35 (vxL a) :: .cells b5 35 (vxL b) :: Rf) (by show L.HSub (cond (f 5) _ (cond (f 2) _ _) :: _) _; rw [h6, hfi]; exact HSub.drop (HSub.refl _)) ?_
        refine LP.weak (t := 15) (v := Vxs x.next .unk) (envS_is (j := 1) rfl d1) ?_
        refine A.act (X.call (clone_calls x.next .unk (by omega)) Tryd.func36 rfl rfl rfl (HSub.refl _) (Opds.cons Is.rfl' Opds.nil) ?_)
        rintro r H' ⟨b16, o16, c16, rfl, rfl⟩
        refine ⟨(b16, o16, c16, q4, q5, q6), Weaker.mk' ?_ (by show L.HSub _ (cond (f 5) _ (.tail b16 o16 c16) :: _); rw [h6]; exact HSub.refl _)⟩
        refine env_back1 (envS_hit (sl := [(0, 14), (1, 15), (2, 16), (3, 17), (4, 18), (5, 19)]) (j := 2) (d := 16) rfl (fun _ _ h => h)) (envS_hit (sl := [(0, 14), (1, 15), (2, 16), (3, 17), (4, 18), (5, 19)]) (j := 1) (d := 15) rfl (fun _ _ h => h)) (envS_next ?_)
        · intro p hp hne; simp only [List.mem_cons, List.not_mem_nil, or_false] at hp; rcases hp with rfl | rfl | rfl | rfl | rfl | rfl <;> first | exact absurd rfl hne | exact ⟨rfl, rfl⟩
      · refine ⟨_, rfl, ?_⟩
        refine A.u (LU.loadO 5 rfl ⟨Tryd.sizeOf35, Tryd.isAgg35⟩ Is.rfl' (Part.whole (by assumption))) rfl ?_
        refine ⟨⟨q1, q2, q3, q4, q5, q6⟩, Weaker.mk' ?_ (HSub.refl _)⟩
        refine env_back0 (envS_hit (sl := [(0, 14), (1, 15), (2, 16), (3, 17), (4, 18), (5, 19)]) (j := 3) (d := 17) rfl (fun _ _ h => h))  (envS_next ?_)
        · intro p hp hne; simp only [List.mem_cons, List.not_mem_nil, or_false] at hp; rcases hp with rfl | rfl | rfl | rfl | rfl | rfl <;> first | exact absurd rfl hne | exact ⟨rfl, rfl⟩
      · have d3 := hdir 3 (List.mem_of_elem_eq_true (by kernel_rfl))
        refine ⟨_, rfl, ?_⟩
        refine LP.weak (t := 17) (v := .agg (vxL b)) (envS_is (j := 3) rfl d3) ?_
        refine A.u (LU.lits Tryd.underlying26 Tryd.sizeOf35 Tryd.zeroValue35 (ones rfl) rfl (by decide) (by decide) (Elems.cons Is.rfl' (by exact Cells.agg) Elems.nil) (by (simp; assumption)) rfl) rfl ?_
        refine ⟨⟨q1, q2, q3, q4, q5, q6⟩, Weaker.mk' ?_ (HSub.refl _)⟩
        refine env_back1 (envS_hit (sl := [(0, 14), (1, 15), (2, 16), (3, 17), (4, 18), (5, 19)]) (j := 4) (d := 18) rfl (fun _ _ h => h)) (envS_hit (sl := [(0, 14), (1, 15), (2, 16), (3, 17), (4, 18), (5, 19)]) (j := 3) (d := 17) rfl (fun _ _ h => h)) (envS_next ?_)
        · intro p hp hne; simp only [List.mem_cons, List.not_mem_nil, or_false] at hp; rcases hp with rfl | rfl | rfl | rfl | rfl | rfl <;> first | exact absurd rfl hne | exact ⟨rfl, rfl⟩
      · have d2 := hdir 2 (List.mem_of_elem_eq_true (by kernel_rfl))
        have d4 := hdir 4 (List.mem_of_elem_eq_true (by kernel_rfl))
        refine ⟨_, rfl, ?_⟩
        have h2 : f 2 = true := hdir 2 (List.mem_of_elem_eq_true (by kernel_rfl))
        refine LP.ghost (H' := .tail q1 q2 q3 :: .cells b_ 73 (lnL x) :: gC g ma mb n :: gA ma m :: .cells b4 35 (vxL a) :: .cells b5 35 (vxL b) :: Rf) (by show L.HSub (cond (f 5) _ (cond (f 2) _ _) :: _) _; rw [h2, hfi]; exact HSub.refl _) ?_
        refine LP.weak (t := 16) (v := Vxs x.next (.tok q1 q2 q3)) (envS_is (j := 2) rfl d2) ?_
        refine LP.weak (t := 18) (v := .sl 33 [vxL b] .full) (envS_is (j := 4) rfl d4) ?_
        refine A.act (X.append 0 rfl rfl Tryd.underlying26 (El.of (P := Tryd.prog) (z := (.agg #[(.int .u8 0), (.int .u8 0), (.int .u8 0), (.int .u8 0), (.int .u8 0), (.int .u8 0), (.int .u8 0), (.int .u8 0), (.int .u8 0), (.int .u8 0), (.int .u8 0), (.int .u8 0), (.int .u8 0), (.int .u8 0), (.int .u8 0), (.int .u8 0), (.int .u8 0), (.int .u8 0), (.int .u8 0), (.int .u8 0), (.int .u8 0), (.int .u8 0), (.int .u8 0), (.int .u8 0), (.int .u8 0), (.int .u8 0), (.int .u8 0), (.int .u8 0), (.int .u8 0), (.int .u8 0), (.int .u8 0), (.int .u8 0), (.int .i64 0)])) (size := 33) (bytes := 40) rfl rfl rfl) Is.rfl' Is.rfl' (SrcL.slice Tryd.underlying26 (by decide) (by intro e he; rw [List.mem_singleton.1 he]; exact hbl)) (by simp only [Option.getD_some, Option.getD_none, byteEls_length, intEls_length, List.length_append, List.length_cons, List.length_nil, List.length_map, List.length_drop, List.length_take, Int.toNat_natCast]; omega) (by simp only [Option.getD_some, Option.getD_none, byteEls_length, intEls_length, List.length_append, List.length_cons, List.length_nil, List.length_map, List.length_drop, List.length_take, Int.toNat_natCast]; omega) (fun b19 o19 c19 => ?_))
        refine ⟨(q1, q2, q3, b19, o19, c19), Weaker.mk' ?_ (HSub.refl _)⟩
        refine env_back2 (envS_hit (sl := [(0, 14), (1, 15), (2, 16), (3, 17), (4, 18), (5, 19)]) (j := 5) (d := 19) rfl (Is.of (congrArg (fun z => LV.sl 33 z (.tok b19 o19 c19)) (vxs_app x.next [b])))) (envS_hit (sl := [(0, 14), (1, 15), (2, 16), (3, 17), (4, 18), (5, 19)]) (j := 4) (d := 18) rfl (fun _ _ h => h)) (envS_hit (sl := [(0, 14), (1, 15), (2, 16), (3, 17), (4, 18), (5, 19)]) (j := 2) (d := 16) rfl (fun _ _ h => h)) (envS_next ?_)
        · intro p hp hne; simp only [List.mem_cons, List.not_mem_nil, or_false] at hp; rcases hp with rfl | rfl | rfl | rfl | rfl | rfl <;> first | exact absurd rfl hne | exact ⟨rfl, rfl⟩
    · intro g_ f hf_
      obtain ⟨q1, q2, q3, q4, q5, q6⟩ := g_
      refine X.ghost (H' := .tail q4 q5 q6 :: .cells b_ 73 (lnL x) :: gC g ma mb n :: gA ma m :: .cells b4 35 (vxL a) :: .cells b5 35 (vxL b) :: Rf) (by show L.HSub (cond (f 5) _ _ :: _) _; rw [hf_ 5 (by omega)]; exact HSub.refl _) ?_
      refine X.u (LU.fieldO Tryd.underlying73 rfl Tryd.sizeOf26 (by decide) Is.rfl') rfl ?_
      refine X.act (X.store 1 rfl Tryd.sizeOf26 Is.rfl' Is.rfl' (by exact Cells.sl) (by (simp; done)) (by (simp; done)) ?_)
      refine LL.nil (after_code ?_)
      refine LW.seq ?_
      refine X.wcells (ys := [Str x.text, .sl 32 (hss x.kills) .unk, i64 x.part, Vxs (x.next ++ [b]) (.tok q4 q5 q6), Vxs x.prev .unk]) rfl ?_
      refine X.wghost (H' := .cells b_ 73 (lnL { x with next := x.next ++ [b] }) :: gC g ma mb n :: gA ma m :: .cells b4 35 (vxL a) :: .cells b5 35 (vxL b) :: Rf) (HSub.trans (B := .cells b_ 73 [Str x.text, .sl 32 (hss x.kills) .unk, i64 x.part, Vxs (x.next ++ [b]) (.tok q4 q5 q6), Vxs x.prev .unk] :: gC g ma mb n :: gA ma m :: .cells b4 35 (vxL a) :: .cells b5 35 (vxL b) :: Rf) (by repeat (first | exact HSub.refl _ | refine HSub.pick 0 rfl ?_ | refine HSub.pick 1 rfl ?_ | refine HSub.drop ?_)) (HSub.cell 3 rfl Is.unk)) ?_
      refine X.drawM 6 rfl (by kernel_rfl) rfl ?_
      refine QD.u (LU.moveR Is.rfl') rfl ?_
      refine QD.u (LU.nilCheck Is.rfl') rfl ?_
      refine QD.u (LU.fieldO Tryd.underlying68 rfl Tryd.sizeOf65 (by decide) Is.rfl') rfl ?_
      refine QD.u (LU.loadO 1 rfl ⟨Tryd.sizeOf65, Tryd.isAgg65⟩ Is.rfl' (Part.one rfl)) rfl ?_
      refine QD.u (LU.loadO 3 rfl ⟨Tryd.sizeOf35, Tryd.isAgg35⟩ Is.rfl' (Part.whole (by assumption))) rfl ?_
      refine QD.u (LU.loadO 0 rfl ⟨Tryd.sizeOf73, Tryd.isAgg73⟩ Is.rfl' (Part.whole (by (simp; done)))) rfl ?_
      refine QD.nil ?_
      refine X.act (LO.mapUpdate (st := ⟨_, _, _⟩) 2 (KeyOk.vx vxty) rfl Tryd.underlying65 Is.rfl' (by exact Is.vx _) Is.rfl' ?_)
      refine LL.nil (after_code ?_)
      refine LW.seq ?_
      refine X.wghost (H' := gC g ma mb n :: gA ma m1 :: .cells b4 35 (vxL a) :: .cells b5 35 (vxL b) :: Rf) (by rw [hm1, ← gA_set]; exact (by repeat (first | exact HSub.refl _ | refine HSub.pick 0 rfl ?_ | refine HSub.pick 1 rfl ?_ | refine HSub.pick 2 rfl ?_ | refine HSub.drop ?_))) ?_
      refine LW.invM (m := 7) (γ := Nat × Nat) [(0, 27), (1, 28), (2, 29), (3, 30), (4, 31), (5, 32), (6, 7)] (fun g_ d => match g_ with | ⟨c_, z_⟩ => match d with | 27 => pt g | 28 => pt g | 29 => pt g | 30 => .raw (.map (some ma)) | 31 => .agg (vxL b) | 32 => lnE y | 7 => pt c_ | _ => .any) (fun g_ f => match g_ with | ⟨c_, z_⟩ => cond (f 6) (.cells c_ 73 (raws z73.cells.toList)) (.tail 0 0 0) :: .cells b4 35 (vxL a) :: .cells b5 35 (vxL b) :: gC g ma mb n :: gA ma m1 :: Rf) (0, 0) rfl (by kernel_rfl) rfl rfl ((HSub.trans (by repeat (first | exact HSub.refl _ | refine HSub.pick 2 rfl ?_)) (HSub.tail0 0 0 0 (Nat.le_refl _) _))) ?_ ?_
      · intro i hi f g_ hfi hdir hdown
        obtain ⟨c_, z_⟩ := g_
        have hc : i = 0 ∨ i = 1 ∨ i = 2 ∨ i = 3 ∨ i = 4 ∨ i = 5 ∨ i = 6 := by omega
        rcases hc with rfl | rfl | rfl | rfl | rfl | rfl | rfl
        · refine ⟨_, rfl, ?_⟩
          refine A.u (LU.moveR Is.rfl') rfl ?_
          refine ⟨⟨c_, z_⟩, Weaker.mk' ?_ (HSub.refl _)⟩
          refine env_back0 (envS_hit (sl := [(0, 27), (1, 28), (2, 29), (3, 30), (4, 31), (5, 32), (6, 7)]) (j := 0) (d := 27) rfl (fun _ _ h => h))  (envS_next ?_)
          · intro p hp hne; simp only [List.mem_cons, List.not_mem_nil, or_false] at hp; rcases hp with rfl | rfl | rfl | rfl | rfl | rfl | rfl <;> first | exact absurd rfl hne | exact ⟨rfl, rfl⟩
        · have d0 := hdir 0 (List.mem_of_elem_eq_true (by kernel_rfl))
          refine ⟨_, rfl, ?_⟩
          refine LP.weak (t := 27) (v := pt g) (envS_is (j := 0) rfl d0) ?_
          refine A.u (LU.nilCheck Is.rfl') rfl ?_
          refine ⟨⟨c_, z_⟩, Weaker.mk' ?_ (HSub.refl _)⟩
          refine env_back1 (envS_hit (sl := [(0, 27), (1, 28), (2, 29), (3, 30), (4, 31), (5, 32), (6, 7)]) (j := 1) (d := 28) rfl (fun _ _ h => h)) (envS_hit (sl := [(0, 27), (1, 28), (2, 29), (3, 30), (4, 31), (5, 32), (6, 7)]) (j := 0) (d := 27) rfl (fun _ _ h => h)) (envS_next ?_)
          · intro p hp hne; simp only [List.mem_cons, List.not_mem_nil, or_false] at hp; rcases hp with rfl | rfl | rfl | rfl | rfl | rfl | rfl <;> first | exact absurd rfl hne | exact ⟨rfl, rfl⟩
        · have d1 := hdir 1 (List.mem_of_elem_eq_true (by kernel_rfl))
          refine ⟨_, rfl, ?_⟩
          refine LP.weak (t := 28) (v := pt g) (envS_is (j := 1) rfl d1) ?_
          refine A.u (LU.fieldO Tryd.underlying68 rfl Tryd.sizeOf65 (by decide) Is.rfl') rfl ?_
          refine ⟨⟨c_, z_⟩, Weaker.mk' ?_ (HSub.refl _)⟩
          refine env_back1 (envS_hit (sl := [(0, 27), (1, 28), (2, 29), (3, 30), (4, 31), (5, 32), (6, 7)]) (j := 2) (d := 29) rfl (fun _ _ h => h)) (envS_hit (sl := [(0, 27), (1, 28), (2, 29), (3, 30), (4, 31), (5, 32), (6, 7)]) (j := 1) (d := 28) rfl (fun _ _ h => h)) (envS_next ?_)
          · intro p hp hne; simp only [List.mem_cons, List.not_mem_nil, or_false] at hp; rcases hp with rfl | rfl | rfl | rfl | rfl | rfl | rfl <;> first | exact absurd rfl hne | exact ⟨rfl, rfl⟩
        · have d2 := hdir 2 (List.mem_of_elem_eq_true (by kernel_rfl))
          refine ⟨_, rfl, ?_⟩
          refine LP.weak (t := 29) (v := pt g) (envS_is (j := 2) rfl d2) ?_
          refine A.u (LU.loadO 3 rfl ⟨Tryd.sizeOf65, Tryd.isAgg65⟩ Is.rfl' (Part.one rfl)) rfl ?_
          refine ⟨⟨c_, z_⟩, Weaker.mk' ?_ (HSub.refl _)⟩
          refine env_back1 (envS_hit (sl := [(0, 27), (1, 28), (2, 29), (3, 30), (4, 31), (5, 32), (6, 7)]) (j := 3) (d := 30) rfl (fun _ _ h => h)) (envS_hit (sl := [(0, 27), (1, 28), (2, 29), (3, 30), (4, 31), (5, 32), (6, 7)]) (j := 2) (d := 29) rfl (fun _ _ h => h)) (envS_next ?_)
          · intro p hp hne; simp only [List.mem_cons, List.not_mem_nil, or_false] at hp; rcases hp with rfl | rfl | rfl | rfl | rfl | rfl | rfl <;> first | exact absurd rfl hne | exact ⟨rfl, rfl⟩
        · refine ⟨_, rfl, ?_⟩
          refine A.u (LU.loadO 2 rfl ⟨Tryd.sizeOf35, Tryd.isAgg35⟩ Is.rfl' (Part.whole (by assumption))) rfl ?_
          refine ⟨⟨c_, z_⟩, Weaker.mk' ?_ (HSub.refl _)⟩
          refine env_back0 (envS_hit (sl := [(0, 27), (1, 28), (2, 29), (3, 30), (4, 31), (5, 32), (6, 7)]) (j := 4) (d := 31) rfl (fun _ _ h => h))  (envS_next ?_)
          · intro p hp hne; simp only [List.mem_cons, List.not_mem_nil, or_false] at hp; rcases hp with rfl | rfl | rfl | rfl | rfl | rfl | rfl <;> first | exact absurd rfl hne | exact ⟨rfl, rfl⟩
        · have d3 := hdir 3 (List.mem_of_elem_eq_true (by kernel_rfl))
          have d4 := hdir 4 (List.mem_of_elem_eq_true (by kernel_rfl))
          refine ⟨_, rfl, ?_⟩
          refine LP.weak (t := 30) (v := .raw (.map (some ma))) (envS_is (j := 3) rfl d3) ?_
          refine LP.weak (t := 31) (v := .agg (vxL b)) (envS_is (j := 4) rfl d4) ?_
          refine A.u (LU.weak (LU.lookup 4 (KeyOk.vx vxty) rfl Tryd.underlying65 Tryd.zeroValue73 Is.rfl' (by exact Is.vx _)) (hyi)) rfl ?_
          refine ⟨⟨c_, z_⟩, Weaker.mk' ?_ (HSub.refl _)⟩
          refine env_back2 (envS_hit (sl := [(0, 27), (1, 28), (2, 29), (3, 30), (4, 31), (5, 32), (6, 7)]) (j := 5) (d := 32) rfl (fun _ _ h => h)) (envS_hit (sl := [(0, 27), (1, 28), (2, 29), (3, 30), (4, 31), (5, 32), (6, 7)]) (j := 4) (d := 31) rfl (fun _ _ h => h)) (envS_hit (sl := [(0, 27), (1, 28), (2, 29), (3, 30), (4, 31), (5, 32), (6, 7)]) (j := 3) (d := 30) rfl (fun _ _ h => h)) (envS_next ?_)
          · intro p hp hne; simp only [List.mem_cons, List.not_mem_nil, or_false] at hp; rcases hp with rfl | rfl | rfl | rfl | rfl | rfl | rfl <;> first | exact absurd rfl hne | exact ⟨rfl, rfl⟩
        · refine ⟨_, rfl, ?_⟩
          refine A.act (X.alloc rfl Tryd.zeroValue73 (by exact Cells.rawagg (by decide)) (fun b7 => ?_))
          refine ⟨(b7, 0), Weaker.mk' ?_ (by show L.HSub (_ :: cond (f 6) _ (.tail 0 0 0) :: _) _; rw [hfi]; exact HSub.cons (HSub.drop (HSub.refl _)))⟩
          refine env_back0 (envS_hit (sl := [(0, 27), (1, 28), (2, 29), (3, 30), (4, 31), (5, 32), (6, 7)]) (j := 6) (d := 7) rfl (fun _ _ h => h))  (envS_next ?_)
          · intro p hp hne; simp only [List.mem_cons, List.not_mem_nil, or_false] at hp; rcases hp with rfl | rfl | rfl | rfl | rfl | rfl | rfl <;> first | exact absurd rfl hne | exact ⟨rfl, rfl⟩
      · intro g_ f hf_
        obtain ⟨c_, z_⟩ := g_
        refine X.ghost (H' := .cells c_ 73 (raws z73.cells.toList) :: .cells b4 35 (vxL a) :: .cells b5 35 (vxL b) :: gC g ma mb n :: gA ma m1 :: Rf) (by show L.HSub (cond (f 6) _ (.tail 0 0 0) :: _) _; rw [hf_ 6 (by omega)]; exact HSub.refl _) ?_
        refine X.act (X.store 0 rfl Tryd.sizeOf73 Is.rfl' Is.rfl' (by exact Cells.agg) (by (simp; done)) (by exact Nat.le_of_ble_eq_true rfl) ?_)
        refine LL.nil (after_code ?_)
        refine LW.seq ?_
        refine X.wcells (ys := lnL y) rfl ?_
        refine X.wghost (H' := .cells c_ 73 (lnL y) :: gC g ma mb n :: gA ma m1 :: .cells b4 35 (vxL a) :: .cells b5 35 (vxL b) :: Rf) (by repeat (first | exact HSub.refl _ | refine HSub.pick 0 rfl ?_ | refine HSub.pick 2 rfl ?_)) ?_
        refine LW.invM (m := 6) (γ := Nat × Nat × Nat × Nat × Nat × Nat) [(0, 33), (1, 34), (2, 35), (3, 36), (4, 37), (5, 38)] (fun g_ d => match g_ with | ⟨r1, r2, r3, r4, r5, r6⟩ => match d with | 33 => .raw (.pointer (some ⟨c_, 4, none⟩)) | 34 => Vxs y.prev .unk | 35 => Vxs y.prev (.tok r1 r2 r3) | 36 => .agg (vxL a) | 37 => .sl 33 [vxL a] .full | 38 => Vxs (y.prev ++ [a]) (.tok r4 r5 r6) | _ => .any) (fun g_ f => match g_ with | ⟨r1, r2, r3, r4, r5, r6⟩ => cond (f 5) (.tail r4 r5 r6) (cond (f 2) (.tail r1 r2 r3) (.tail 0 0 0)) :: .cells c_ 73 (lnL y) :: gC g ma mb n :: gA ma m1 :: .cells b4 35 (vxL a) :: .cells b5 35 (vxL b) :: Rf) (0, 0, 0, 0, 0, 0) rfl (by kernel_rfl) rfl rfl ((HSub.trans (by repeat (exact HSub.refl _)) (HSub.tail0 0 0 0 (Nat.le_refl _) _))) ?_ ?_
        · intro i hi f g_ hfi hdir hdown
          obtain ⟨r1, r2, r3, r4, r5, r6⟩ := g_
          have hc : i = 0 ∨ i = 1 ∨ i = 2 ∨ i = 3 ∨ i = 4 ∨ i = 5 := by omega
          rcases hc with rfl | rfl | rfl | rfl | rfl | rfl
          · refine ⟨_, rfl, ?_⟩
            refine A.u (LU.fieldO Tryd.underlying73 rfl Tryd.sizeOf26 (by decide) Is.rfl') rfl ?_
            refine ⟨⟨r1, r2, r3, r4, r5, r6⟩, Weaker.mk' ?_ (HSub.refl _)⟩
            refine env_back0 (envS_hit (sl := [(0, 33), (1, 34), (2, 35), (3, 36), (4, 37), (5, 38)]) (j := 0) (d := 33) rfl (fun _ _ h => h))  (envS_next ?_)
            · intro p hp hne; simp only [List.mem_cons, List.not_mem_nil, or_false] at hp; rcases hp with rfl | rfl | rfl | rfl | rfl | rfl <;> first | exact absurd rfl hne | exact ⟨rfl, rfl⟩
          · have d0 := hdir 0 (List.mem_of_elem_eq_true (by kernel_rfl))
            refine ⟨_, rfl, ?_⟩
            refine LP.weak (t := 33) (v := .raw (.pointer (some ⟨c_, 4, none⟩))) (envS_is (j := 0) rfl d0) ?_
            refine A.u (LU.loadO 1 rfl ⟨Tryd.sizeOf26, Tryd.isAgg26⟩ Is.rfl' (Part.one rfl)) rfl ?_
            refine ⟨⟨r1, r2, r3, r4, r5, r6⟩, Weaker.mk' ?_ (HSub.refl _)⟩
            refine env_back1 (envS_hit (sl := [(0, 33), (1, 34), (2, 35), (3, 36), (4, 37), (5, 38)]) (j := 1) (d := 34) rfl (fun _ _ h => h)) (envS_hit (sl := [(0, 33), (1, 34), (2, 35), (3, 36), (4, 37), (5, 38)]) (j := 0) (d := 33) rfl (fun _ _ h => h)) (envS_next ?_)
            · intro p hp hne; simp only [List.mem_cons, List.not_mem_nil, or_false] at hp; rcases hp with rfl | rfl | rfl | rfl | rfl | rfl <;> first | exact absurd rfl hne | exact ⟨rfl, rfl⟩
          · have d1 := hdir 1 (List.mem_of_elem_eq_true (by kernel_rfl))
            refine ⟨_, rfl, ?_⟩
            have h6 : f 5 = false := Bool.eq_false_iff.2 (fun h => by rw [hdown 5 (by omega) h 2 (List.mem_of_elem_eq_true (by kernel_rfl))] at hfi; cases hfi)
            refine LP.ghost (H' := .cells c_ 73 (lnL y) :: gC g ma mb n :: gA ma m1 :: .cells b4 35 (vxL a) :: .cells b5 35 (vxL b) :: Rf) (by show L.HSub (cond (f 5) _ (cond (f 2) _ _) :: _) _; rw [h6, hfi]; exact HSub.drop (HSub.refl _)) ?_
            refine LP.weak (t := 34) (v := Vxs y.prev .unk) (envS_is (j := 1) rfl d1) ?_
            refine A.act (X.call (clone_calls y.prev .unk (by omega)) Tryd.func36 rfl rfl rfl (HSub.refl _) (Opds.cons Is.rfl' Opds.nil) ?_)
            rintro r H' ⟨b35, o35, c35, rfl, rfl⟩
            refine ⟨(b35, o35, c35, r4, r5, r6), Weaker.mk' ?_ (by show L.HSub _ (cond (f 5) _ (.tail b35 o35 c35) :: _); rw [h6]; exact HSub.refl _)⟩
            refine env_back1 (envS_hit (sl := [(0, 33), (1, 34), (2, 35), (3, 36), (4, 37), (5, 38)]) (j := 2) (d := 35) rfl (fun _ _ h => h)) (envS_hit (sl := [(0, 33), (1, 34), (2, 35), (3, 36), (4, 37), (5, 38)]) (j := 1) (d := 34) rfl (fun _ _ h => h)) (envS_next ?_)
            · intro p hp hne; simp only [List.mem_cons, List.not_mem_nil, or_false] at hp; rcases hp with rfl | rfl | rfl | rfl | rfl | rfl <;> first | exact absurd rfl hne | exact ⟨rfl, rfl⟩
          · refine ⟨_, rfl, ?_⟩
            refine A.u (LU.loadO 4 rfl ⟨Tryd.sizeOf35, Tryd.isAgg35⟩ Is.rfl' (Part.whole (by assumption))) rfl ?_
            refine ⟨⟨r1, r2, r3, r4, r5, r6⟩, Weaker.mk' ?_ (HSub.refl _)⟩
            refine env_back0 (envS_hit (sl := [(0, 33), (1, 34), (2, 35), (3, 36), (4, 37), (5, 38)]) (j := 3) (d := 36) rfl (fun _ _ h => h))  (envS_next ?_)
            · intro p hp hne; simp only [List.mem_cons, List.not_mem_nil, or_false] at hp; rcases hp with rfl | rfl | rfl | rfl | rfl | rfl <;> first | exact absurd rfl hne | exact ⟨rfl, rfl⟩
          · have d3 := hdir 3 (List.mem_of_elem_eq_true (by kernel_rfl))
            refine ⟨_, rfl, ?_⟩
            refine LP.weak (t := 36) (v := .agg (vxL a)) (envS_is (j := 3) rfl d3) ?_
            refine A.u (LU.lits Tryd.underlying26 Tryd.sizeOf35 Tryd.zeroValue35 (ones rfl) rfl (by decide) (by decide) (Elems.cons Is.rfl' (by exact Cells.agg) Elems.nil) (by (simp; assumption)) rfl) rfl ?_
            refine ⟨⟨r1, r2, r3, r4, r5, r6⟩, Weaker.mk' ?_ (HSub.refl _)⟩
            refine env_back1 (envS_hit (sl := [(0, 33), (1, 34), (2, 35), (3, 36), (4, 37), (5, 38)]) (j := 4) (d := 37) rfl (fun _ _ h => h)) (envS_hit (sl := [(0, 33), (1, 34), (2, 35), (3, 36), (4, 37), (5, 38)]) (j := 3) (d := 36) rfl (fun _ _ h => h)) (envS_next ?_)
            · intro p hp hne; simp only [List.mem_cons, List.not_mem_nil, or_false] at hp; rcases hp with rfl | rfl | rfl | rfl | rfl | rfl <;> first | exact absurd rfl hne | exact ⟨rfl, rfl⟩
          · have d2 := hdir 2 (List.mem_of_elem_eq_true (by kernel_rfl))
            have d4 := hdir 4 (List.mem_of_elem_eq_true (by kernel_rfl))
            refine ⟨_, rfl, ?_⟩
            have h2 : f 2 = true := hdir 2 (List.mem_of_elem_eq_true (by kernel_rfl))
            refine LP.ghost (H' := .tail r1 r2 r3 :: .cells c_ 73 (lnL y) :: gC g ma mb n :: gA ma m1 :: .cells b4 35 (vxL a) :: .cells b5 35 (vxL b) :: Rf) (by show L.HSub (cond (f 5) _ (cond (f 2) _ _) :: _) _; rw [h2, hfi]; exact HSub.refl _) ?_
            refine LP.weak (t := 35) (v := Vxs y.prev (.tok r1 r2 r3)) (envS_is (j := 2) rfl d2) ?_
            refine LP.weak (t := 37) (v := .sl 33 [vxL a] .full) (envS_is (j := 4) rfl d4) ?_
            refine A.act (X.append 0 rfl rfl Tryd.underlying26 (El.of (P := Tryd.prog) (z := (.agg #[(.int .u8 0), (.int .u8 0), (.int .u8 0), (.int .u8 0), (.int .u8 0), (.int .u8 0), (.int .u8 0), (.int .u8 0), (.int .u8 0), (.int .u8 0), (.int .u8 0), (.int .u8 0), (.int .u8 0), (.int .u8 0), (.int .u8 0), (.int .u8 0), (.int .u8 0), (.int .u8 0), (.int .u8 0), (.int .u8 0), (.int .u8 0), (.int .u8 0), (.int .u8 0), (.int .u8 0), (.int .u8 0), (.int .u8 0), (.int .u8 0), (.int .u8 0), (.int .u8 0), (.int .u8 0), (.int .u8 0), (.int .u8 0), (.int .i64 0)])) (size := 33) (bytes := 40) rfl rfl rfl) Is.rfl' Is.rfl' (SrcL.slice Tryd.underlying26 (by decide) (by intro e he; rw [List.mem_singleton.1 he]; exact hal)) (by simp only [Option.getD_some, Option.getD_none, byteEls_length, intEls_length, List.length_append, List.length_cons, List.length_nil, List.length_map, List.length_drop, List.length_take, Int.toNat_natCast]; omega) (by simp only [Option.getD_some, Option.getD_none, byteEls_length, intEls_length, List.length_append, List.length_cons, List.length_nil, List.length_map, List.length_drop, List.length_take, Int.toNat_natCast]; omega) (fun b38 o38 c38 => ?_))
            refine ⟨(r1, r2, r3, b38, o38, c38), Weaker.mk' ?_ (HSub.refl _)⟩
            refine env_back2 (envS_hit (sl := [(0, 33), (1, 34), (2, 35), (3, 36), (4, 37), (5, 38)]) (j := 5) (d := 38) rfl (Is.of (congrArg (fun z => LV.sl 33 z (.tok b38 o38 c38)) (vxs_app y.prev [a])))) (envS_hit (sl := [(0, 33), (1, 34), (2, 35), (3, 36), (4, 37), (5, 38)]) (j := 4) (d := 37) rfl (fun _ _ h => h)) (envS_hit (sl := [(0, 33), (1, 34), (2, 35), (3, 36), (4, 37), (5, 38)]) (j := 2) (d := 35) rfl (fun _ _ h => h)) (envS_next ?_)
            · intro p hp hne; simp only [List.mem_cons, List.not_mem_nil, or_false] at hp; rcases hp with rfl | rfl | rfl | rfl | rfl | rfl <;> first | exact absurd rfl hne | exact ⟨rfl, rfl⟩
        · intro g_ f hf_
          obtain ⟨r1, r2, r3, r4, r5, r6⟩ := g_
          refine X.ghost (H' := .tail r4 r5 r6 :: .cells c_ 73 (lnL y) :: gC g ma mb n :: gA ma m1 :: .cells b4 35 (vxL a) :: .cells b5 35 (vxL b) :: Rf) (by show L.HSub (cond (f 5) _ _ :: _) _; rw [hf_ 5 (by omega)]; exact HSub.refl _) ?_
          refine X.u (LU.fieldO Tryd.underlying73 rfl Tryd.sizeOf26 (by decide) Is.rfl') rfl ?_
          refine X.act (X.store 1 rfl Tryd.sizeOf26 Is.rfl' Is.rfl' (by exact Cells.sl) (by (simp; done)) (by (simp; done)) ?_)
          refine LL.nil (after_code ?_)
          refine X.wcells (ys := [Str y.text, .sl 32 (hss y.kills) .unk, i64 y.part, Vxs y.next .unk, Vxs (y.prev ++ [a]) (.tok r4 r5 r6)]) rfl ?_
          refine X.wghost (H' := .cells c_ 73 (lnL { y with prev := y.prev ++ [a] }) :: gC g ma mb n :: gA ma m1 :: .cells b4 35 (vxL a) :: .cells b5 35 (vxL b) :: Rf) (HSub.trans (B := .cells c_ 73 [Str y.text, .sl 32 (hss y.kills) .unk, i64 y.part, Vxs y.next .unk, Vxs (y.prev ++ [a]) (.tok r4 r5 r6)] :: gC g ma mb n :: gA ma m1 :: .cells b4 35 (vxL a) :: .cells b5 35 (vxL b) :: Rf) (by repeat (first | exact HSub.refl _ | refine HSub.pick 0 rfl ?_ | refine HSub.pick 1 rfl ?_ | refine HSub.drop ?_)) (HSub.cell 4 rfl Is.unk)) ?_
          refine X.drawM 6 rfl (by kernel_rfl) rfl ?_
          refine QD.u (LU.moveR Is.rfl') rfl ?_
          refine QD.u (LU.nilCheck Is.rfl') rfl ?_
          refine QD.u (LU.fieldO Tryd.underlying68 rfl Tryd.sizeOf65 (by decide) Is.rfl') rfl ?_
          refine QD.u (LU.loadO 1 rfl ⟨Tryd.sizeOf65, Tryd.isAgg65⟩ Is.rfl' (Part.one rfl)) rfl ?_
          refine QD.u (LU.loadO 4 rfl ⟨Tryd.sizeOf35, Tryd.isAgg35⟩ Is.rfl' (Part.whole (by assumption))) rfl ?_
          refine QD.u (LU.loadO 0 rfl ⟨Tryd.sizeOf73, Tryd.isAgg73⟩ Is.rfl' (Part.whole (by (simp; done)))) rfl ?_
          refine QD.nil ?_
          refine X.act (LO.mapUpdate (st := ⟨_, _, _⟩) 2 (KeyOk.vx vxty) rfl Tryd.underlying65 Is.rfl' (by exact Is.vx _) Is.rfl' ?_)
          refine LL.nil (after_end ?_)
          refine X.normal (H' := [gC g ma mb n, gA ma (setA m1 b { y with prev := y.prev ++ [a] })]) Res.none (by rw [← gA_set]; exact (by repeat (first | exact HSub.refl _ | refine HSub.pick 0 rfl ?_ | refine HSub.pick 2 rfl ?_ | refine HSub.drop ?_))) ?_
          exact ⟨rfl, rfl⟩
end Go.Proofs.YtolpkeajokjbjaaDoor
namespace Go.Proofs.YtolpkeajokjbjaaDoor
open Go.RowKit Go.L
attribute [local irreducible] LL LW LO LP LA
theorem is_tup2 {a b c d : LV} (h1 : Is a c) (h2 : Is b d) : Is (.tup [a, b]) (.tup [c, d]) := fun ph u r => by
  cases r with | tup cs _ hl hr =>
    refine .tup cs _ hl fun i v y hi hy => ?_
    match i, hy with
    | 0, hy => cases hy; exact h1 _ _ (hr 0 v a hi rfl)
    | 1, hy => cases hy; exact h2 _ _ (hr 1 v b hi rfl)
theorem ok_is (m : At) (v : Vx) : Is (.tup [(lookM (encM lnE m) v).getD (.raw z73), .raw (.bool (lookM (encM lnE m) v).isSome)]) (.tup [lnE (atG m v), bl (lookA m v).isSome]) :=
  is_tup2 (at_is m v) (by rw [look_enc, Option.isSome_map]; exact Is.rfl')
set_option maxHeartbeats 1000000 in
set_option maxRecDepth 100000 in
theorem has_calls (g ma mb : Nat) (n : Int) (m : At) (v : Vx) : LCalls Tryd.prog 20 [pt g, .agg (vxL v)] [gC g ma mb n, gA ma m] (fun r H' => r = bl (lookA m v).isSome ∧ H' = [gC g ma mb n, gA ma m]) := by
  have hvl := vxL_len v
  have hok := ok_is m v
  obtain ⟨x, hx⟩ : ∃ x, x = atG m v := ⟨_, rfl⟩
  obtain ⟨w, hw⟩ : ∃ w, w = (lookA m v).isSome := ⟨_, rfl⟩
  rw [← hx, ← hw] at hok
  rw [← hw]
  refine LCalls.of Tryd.func20 rfl Tryd.ntmps20 Tryd.results20 rfl (fun Rf => ?_)
  refine LW.seq ?_
  refine LW.region ?_
  refine X.act (X.box rfl Is.rfl' (by exact Cells.agg) (fun b3 => ?_))
  refine X.u (LU.assignR Is.rfl') rfl ?_
  refine LL.nil (after_code ?_)
  refine LW.seq ?_
  refine LW.seq ?_
  refine LW.region ?_
  refine X.u (LU.moveR Is.rfl') rfl ?_
  refine X.u (LU.call1 1 rfl (none_calls g ma mb n) Tryd.func33 rfl rfl (Opds.cons Is.rfl' Opds.nil)) rfl ?_
  refine LL.nil (after_code ?_)
  refine X.condF rfl ?_ ?_
  · rfl
  refine LW.skip (after_code ?_)
  refine LW.seq ?_
  refine LW.invB (m := 12) (γ := Nat × Nat) [(0, 10), (1, 11), (2, 12), (3, 13), (4, 14), (5, 15), (6, 9), (7, 16), (8, 17), (9, 5), (11, 6)] (fun g_ d => match g_ with | ⟨b_, z_⟩ => match d with | 10 => pt g | 11 => pt g | 12 => pt g | 13 => .raw (.map (some ma)) | 14 => .agg (vxL v) | 15 => .tup [lnE x, bl w] | 9 => .tup [lnE x, bl w] | 16 => lnE x | 17 => bl w | 5 => pt b_ | 6 => bl w | _ => .any) (fun g_ f => match g_ with | ⟨b_, z_⟩ => cond (f 9) (.cells b_ 73 (cond (f 10) (lnL x) (raws z73.cells.toList))) (.tail 0 0 0) :: .cells b3 35 (vxL v) :: gC g ma mb n :: gA ma m :: Rf) (0, 0) rfl (by kernel_rfl) rfl rfl ((HSub.trans (by repeat (exact HSub.refl _)) (HSub.tail0 0 0 0 (Nat.le_refl _) _))) ?_ ?_
  · intro i hi f g_ hfi hdir hdown
    obtain ⟨b_, z_⟩ := g_
    have hc : i = 0 ∨ i = 1 ∨ i = 2 ∨ i = 3 ∨ i = 4 ∨ i = 5 ∨ i = 6 ∨ i = 7 ∨ i = 8 ∨ i = 9 ∨ i = 10 ∨ i = 11 := by omega
    rcases hc with rfl | rfl | rfl | rfl | rfl | rfl | rfl | rfl | rfl | rfl | rfl | rfl
    · refine ⟨_, rfl, ?_⟩
      refine A.u (LU.moveR Is.rfl') rfl ?_
      refine ⟨⟨b_, z_⟩, Weaker.mk' ?_ (HSub.refl _)⟩
      refine env_back0 (envS_hit (sl := [(0, 10), (1, 11), (2, 12), (3, 13), (4, 14), (5, 15), (6, 9), (7, 16), (8, 17), (9, 5), (11, 6)]) (j := 0) (d := 10) rfl (fun _ _ h => h))  (envS_next ?_)
      · intro p hp hne; simp only [List.mem_cons, List.not_mem_nil, or_false] at hp; rcases hp with rfl | rfl | rfl | rfl | rfl | rfl | rfl | rfl | rfl | rfl | rfl <;> first | exact absurd rfl hne | exact ⟨rfl, rfl⟩
    · have d0 := hdir 0 (List.mem_of_elem_eq_true (by kernel_rfl))
      refine ⟨_, rfl, ?_⟩
      refine LP.weak (t := 10) (v := pt g) (envS_is (j := 0) rfl d0) ?_
      refine A.u (LU.nilCheck Is.rfl') rfl ?_
      refine ⟨⟨b_, z_⟩, Weaker.mk' ?_ (HSub.refl _)⟩
      refine env_back1 (envS_hit (sl := [(0, 10), (1, 11), (2, 12), (3, 13), (4, 14), (5, 15), (6, 9), (7, 16), (8, 17), (9, 5), (11, 6)]) (j := 1) (d := 11) rfl (fun _ _ h => h)) (envS_hit (sl := [(0, 10), (1, 11), (2, 12), (3, 13), (4, 14), (5, 15), (6, 9), (7, 16), (8, 17), (9, 5), (11, 6)]) (j := 0) (d := 10) rfl (fun _ _ h => h)) (envS_next ?_)
      · intro p hp hne; simp only [List.mem_cons, List.not_mem_nil, or_false] at hp; rcases hp with rfl | rfl | rfl | rfl | rfl | rfl | rfl | rfl | rfl | rfl | rfl <;> first | exact absurd rfl hne | exact ⟨rfl, rfl⟩
    · have d1 := hdir 1 (List.mem_of_elem_eq_true (by kernel_rfl))
      refine ⟨_, rfl, ?_⟩
      refine LP.weak (t := 11) (v := pt g) (envS_is (j := 1) rfl d1) ?_
      refine A.u (LU.fieldO Tryd.underlying68 rfl Tryd.sizeOf65 (by decide) Is.rfl') rfl ?_
      refine ⟨⟨b_, z_⟩, Weaker.mk' ?_ (HSub.refl _)⟩
      refine env_back1 (envS_hit (sl := [(0, 10), (1, 11), (2, 12), (3, 13), (4, 14), (5, 15), (6, 9), (7, 16), (8, 17), (9, 5), (11, 6)]) (j := 2) (d := 12) rfl (fun _ _ h => h)) (envS_hit (sl := [(0, 10), (1, 11), (2, 12), (3, 13), (4, 14), (5, 15), (6, 9), (7, 16), (8, 17), (9, 5), (11, 6)]) (j := 1) (d := 11) rfl (fun _ _ h => h)) (envS_next ?_)
      · intro p hp hne; simp only [List.mem_cons, List.not_mem_nil, or_false] at hp; rcases hp with rfl | rfl | rfl | rfl | rfl | rfl | rfl | rfl | rfl | rfl | rfl <;> first | exact absurd rfl hne | exact ⟨rfl, rfl⟩
    · have d2 := hdir 2 (List.mem_of_elem_eq_true (by kernel_rfl))
      refine ⟨_, rfl, ?_⟩
      refine LP.weak (t := 12) (v := pt g) (envS_is (j := 2) rfl d2) ?_
      refine A.u (LU.loadO 2 rfl ⟨Tryd.sizeOf65, Tryd.isAgg65⟩ Is.rfl' (Part.one rfl)) rfl ?_
      refine ⟨⟨b_, z_⟩, Weaker.mk' ?_ (HSub.refl _)⟩
      refine env_back1 (envS_hit (sl := [(0, 10), (1, 11), (2, 12), (3, 13), (4, 14), (5, 15), (6, 9), (7, 16), (8, 17), (9, 5), (11, 6)]) (j := 3) (d := 13) rfl (fun _ _ h => h)) (envS_hit (sl := [(0, 10), (1, 11), (2, 12), (3, 13), (4, 14), (5, 15), (6, 9), (7, 16), (8, 17), (9, 5), (11, 6)]) (j := 2) (d := 12) rfl (fun _ _ h => h)) (envS_next ?_)
      · intro p hp hne; simp only [List.mem_cons, List.not_mem_nil, or_false] at hp; rcases hp with rfl | rfl | rfl | rfl | rfl | rfl | rfl | rfl | rfl | rfl | rfl <;> first | exact absurd rfl hne | exact ⟨rfl, rfl⟩
    · refine ⟨_, rfl, ?_⟩
      refine A.u (LU.loadO 1 rfl ⟨Tryd.sizeOf35, Tryd.isAgg35⟩ Is.rfl' (Part.whole (by assumption))) rfl ?_
      refine ⟨⟨b_, z_⟩, Weaker.mk' ?_ (HSub.refl _)⟩
      refine env_back0 (envS_hit (sl := [(0, 10), (1, 11), (2, 12), (3, 13), (4, 14), (5, 15), (6, 9), (7, 16), (8, 17), (9, 5), (11, 6)]) (j := 4) (d := 14) rfl (fun _ _ h => h))  (envS_next ?_)
      · intro p hp hne; simp only [List.mem_cons, List.not_mem_nil, or_false] at hp; rcases hp with rfl | rfl | rfl | rfl | rfl | rfl | rfl | rfl | rfl | rfl | rfl <;> first | exact absurd rfl hne | exact ⟨rfl, rfl⟩
    · have d3 := hdir 3 (List.mem_of_elem_eq_true (by kernel_rfl))
      have d4 := hdir 4 (List.mem_of_elem_eq_true (by kernel_rfl))
      refine ⟨_, rfl, ?_⟩
      refine LP.weak (t := 13) (v := .raw (.map (some ma))) (envS_is (j := 3) rfl d3) ?_
      refine LP.weak (t := 14) (v := .agg (vxL v)) (envS_is (j := 4) rfl d4) ?_
      refine A.u (LU.lookupOk 3 (KeyOk.vx vxty) rfl Tryd.underlying65 Tryd.zeroValue73 Is.rfl' (by exact Is.vx _)) rfl ?_
      refine ⟨⟨b_, z_⟩, Weaker.mk' ?_ (HSub.refl _)⟩
      refine env_back2 (envS_hit (sl := [(0, 10), (1, 11), (2, 12), (3, 13), (4, 14), (5, 15), (6, 9), (7, 16), (8, 17), (9, 5), (11, 6)]) (j := 5) (d := 15) rfl (hok)) (envS_hit (sl := [(0, 10), (1, 11), (2, 12), (3, 13), (4, 14), (5, 15), (6, 9), (7, 16), (8, 17), (9, 5), (11, 6)]) (j := 4) (d := 14) rfl (fun _ _ h => h)) (envS_hit (sl := [(0, 10), (1, 11), (2, 12), (3, 13), (4, 14), (5, 15), (6, 9), (7, 16), (8, 17), (9, 5), (11, 6)]) (j := 3) (d := 13) rfl (fun _ _ h => h)) (envS_next ?_)
      · intro p hp hne; simp only [List.mem_cons, List.not_mem_nil, or_false] at hp; rcases hp with rfl | rfl | rfl | rfl | rfl | rfl | rfl | rfl | rfl | rfl | rfl <;> first | exact absurd rfl hne | exact ⟨rfl, rfl⟩
    · have d5 := hdir 5 (List.mem_of_elem_eq_true (by kernel_rfl))
      refine ⟨_, rfl, ?_⟩
      refine LP.weak (t := 15) (v := .tup [lnE x, bl w]) (envS_is (j := 5) rfl d5) ?_
      refine A.u (LU.moveT Is.rfl') rfl ?_
      refine ⟨⟨b_, z_⟩, Weaker.mk' ?_ (HSub.refl _)⟩
      refine env_back1 (envS_hit (sl := [(0, 10), (1, 11), (2, 12), (3, 13), (4, 14), (5, 15), (6, 9), (7, 16), (8, 17), (9, 5), (11, 6)]) (j := 6) (d := 9) rfl (fun _ _ h => h)) (envS_hit (sl := [(0, 10), (1, 11), (2, 12), (3, 13), (4, 14), (5, 15), (6, 9), (7, 16), (8, 17), (9, 5), (11, 6)]) (j := 5) (d := 15) rfl (fun _ _ h => h)) (envS_next ?_)
      · intro p hp hne; simp only [List.mem_cons, List.not_mem_nil, or_false] at hp; rcases hp with rfl | rfl | rfl | rfl | rfl | rfl | rfl | rfl | rfl | rfl | rfl <;> first | exact absurd rfl hne | exact ⟨rfl, rfl⟩
    · have d6 := hdir 6 (List.mem_of_elem_eq_true (by kernel_rfl))
      refine ⟨_, rfl, ?_⟩
      refine LP.weak (t := 9) (v := .tup [lnE x, bl w]) (envS_is (j := 6) rfl d6) ?_
      refine A.u (LU.extract Is.rfl' rfl) rfl ?_
      refine ⟨⟨b_, z_⟩, Weaker.mk' ?_ (HSub.refl _)⟩
      refine env_back1 (envS_hit (sl := [(0, 10), (1, 11), (2, 12), (3, 13), (4, 14), (5, 15), (6, 9), (7, 16), (8, 17), (9, 5), (11, 6)]) (j := 7) (d := 16) rfl (fun _ _ h => h)) (envS_hit (sl := [(0, 10), (1, 11), (2, 12), (3, 13), (4, 14), (5, 15), (6, 9), (7, 16), (8, 17), (9, 5), (11, 6)]) (j := 6) (d := 9) rfl (fun _ _ h => h)) (envS_next ?_)
      · intro p hp hne; simp only [List.mem_cons, List.not_mem_nil, or_false] at hp; rcases hp with rfl | rfl | rfl | rfl | rfl | rfl | rfl | rfl | rfl | rfl | rfl <;> first | exact absurd rfl hne | exact ⟨rfl, rfl⟩
    · have d6 := hdir 6 (List.mem_of_elem_eq_true (by kernel_rfl))
      refine ⟨_, rfl, ?_⟩
      refine LP.weak (t := 9) (v := .tup [lnE x, bl w]) (envS_is (j := 6) rfl d6) ?_
      refine A.u (LU.extract Is.rfl' rfl) rfl ?_
      refine ⟨⟨b_, z_⟩, Weaker.mk' ?_ (HSub.refl _)⟩
      refine env_back1 (envS_hit (sl := [(0, 10), (1, 11), (2, 12), (3, 13), (4, 14), (5, 15), (6, 9), (7, 16), (8, 17), (9, 5), (11, 6)]) (j := 8) (d := 17) rfl (fun _ _ h => h)) (envS_hit (sl := [(0, 10), (1, 11), (2, 12), (3, 13), (4, 14), (5, 15), (6, 9), (7, 16), (8, 17), (9, 5), (11, 6)]) (j := 6) (d := 9) rfl (fun _ _ h => h)) (envS_next ?_)
      · intro p hp hne; simp only [List.mem_cons, List.not_mem_nil, or_false] at hp; rcases hp with rfl | rfl | rfl | rfl | rfl | rfl | rfl | rfl | rfl | rfl | rfl <;> first | exact absurd rfl hne | exact ⟨rfl, rfl⟩
    · refine ⟨_, rfl, ?_⟩
      have h6 : f 10 = false := Bool.eq_false_iff.2 (fun h => by rw [hdown 10 (by omega) h 9 (List.mem_of_elem_eq_true (by kernel_rfl))] at hfi; cases hfi)
      refine LP.ghost (H' := .cells b3 35 (vxL v) :: gC g ma mb n :: gA ma m :: Rf) (by show L.HSub (cond (f 9) _ (.tail 0 0 0) :: _) _; rw [hfi]; exact HSub.drop (HSub.refl _)) ?_
      refine A.act (X.alloc rfl Tryd.zeroValue73 (by exact Cells.rawagg (by decide)) (fun b5 => ?_))
      refine ⟨(b5, 0), Weaker.mk' ?_ (by show L.HSub _ (.cells b5 _ (cond (f 10) _ _) :: _); rw [h6]; exact HSub.refl _)⟩
      refine env_back0 (envS_hit (sl := [(0, 10), (1, 11), (2, 12), (3, 13), (4, 14), (5, 15), (6, 9), (7, 16), (8, 17), (9, 5), (11, 6)]) (j := 9) (d := 5) rfl (fun _ _ h => h))  (envS_next ?_)
      · intro p hp hne; simp only [List.mem_cons, List.not_mem_nil, or_false] at hp; rcases hp with rfl | rfl | rfl | rfl | rfl | rfl | rfl | rfl | rfl | rfl | rfl <;> first | exact absurd rfl hne | exact ⟨rfl, rfl⟩
    · have d0 := hdir 0 (List.mem_of_elem_eq_true (by kernel_rfl))
      have d1 := hdir 1 (List.mem_of_elem_eq_true (by kernel_rfl))
      have d2 := hdir 2 (List.mem_of_elem_eq_true (by kernel_rfl))
      have d3 := hdir 3 (List.mem_of_elem_eq_true (by kernel_rfl))
      have d4 := hdir 4 (List.mem_of_elem_eq_true (by kernel_rfl))
      have d5 := hdir 5 (List.mem_of_elem_eq_true (by kernel_rfl))
      have d6 := hdir 6 (List.mem_of_elem_eq_true (by kernel_rfl))
      have d7 := hdir 7 (List.mem_of_elem_eq_true (by kernel_rfl))
      have d9 := hdir 9 (List.mem_of_elem_eq_true (by kernel_rfl))
      refine ⟨_, rfl, ?_⟩
      have h9 : f 9 = true := hdir 9 (List.mem_of_elem_eq_true (by kernel_rfl))
      refine LP.ghost (H' := .cells b_ 73 (raws z73.cells.toList) :: .cells b3 35 (vxL v) :: gC g ma mb n :: gA ma m :: Rf) (by show L.HSub (cond (f 9) (.cells b_ _ (cond (f 10) _ _)) _ :: _) _; rw [h9, hfi]; exact HSub.refl _) ?_
      refine LP.weak (t := 5) (v := pt b_) (envS_is (j := 9) rfl d9) ?_
      refine LP.weak (t := 16) (v := lnE x) (envS_is (j := 7) rfl d7) ?_
      refine A.act (X.store 0 rfl Tryd.sizeOf73 Is.rfl' Is.rfl' (by exact Cells.agg) (by (simp; done)) (by exact Nat.le_of_ble_eq_true rfl) ?_)
      refine ⟨(b_, z_), Weaker.mk' ?_ (by show L.HSub _ (cond (f 9) (.cells b_ _ (lnL x)) _ :: _); rw [h9]; exact HSub.refl _)⟩
      refine env_back1 (envS_hit (sl := [(0, 10), (1, 11), (2, 12), (3, 13), (4, 14), (5, 15), (6, 9), (7, 16), (8, 17), (9, 5), (11, 6)]) (j := 7) (d := 16) rfl (fun _ _ h => h)) (envS_hit (sl := [(0, 10), (1, 11), (2, 12), (3, 13), (4, 14), (5, 15), (6, 9), (7, 16), (8, 17), (9, 5), (11, 6)]) (j := 9) (d := 5) rfl (fun _ _ h => h)) (envS_next ?_)
      · intro p hp hne; simp only [List.mem_cons, List.not_mem_nil, or_false] at hp; rcases hp with rfl | rfl | rfl | rfl | rfl | rfl | rfl | rfl | rfl | rfl | rfl <;> first | exact absurd rfl hne | exact ⟨rfl, rfl⟩
    · have d0 := hdir 0 (List.mem_of_elem_eq_true (by kernel_rfl))
      have d1 := hdir 1 (List.mem_of_elem_eq_true (by kernel_rfl))
      have d2 := hdir 2 (List.mem_of_elem_eq_true (by kernel_rfl))
      have d3 := hdir 3 (List.mem_of_elem_eq_true (by kernel_rfl))
      have d4 := hdir 4 (List.mem_of_elem_eq_true (by kernel_rfl))
      have d5 := hdir 5 (List.mem_of_elem_eq_true (by kernel_rfl))
      have d6 := hdir 6 (List.mem_of_elem_eq_true (by kernel_rfl))
      have d7 := hdir 7 (List.mem_of_elem_eq_true (by kernel_rfl))
      have d8 := hdir 8 (List.mem_of_elem_eq_true (by kernel_rfl))
      have d9 := hdir 9 (List.mem_of_elem_eq_true (by kernel_rfl))
      have d10 := hdir 10 (List.mem_of_elem_eq_true (by kernel_rfl))
      refine ⟨_, rfl, ?_⟩
      refine LP.weak (t := 17) (v := bl w) (envS_is (j := 8) rfl d8) ?_
      refine A.u (LU.assignR Is.rfl') rfl ?_
      refine ⟨⟨b_, z_⟩, Weaker.mk' ?_ (HSub.refl _)⟩
      refine env_back1 (envS_hit (sl := [(0, 10), (1, 11), (2, 12), (3, 13), (4, 14), (5, 15), (6, 9), (7, 16), (8, 17), (9, 5), (11, 6)]) (j := 11) (d := 6) rfl (fun _ _ h => h)) (envS_hit (sl := [(0, 10), (1, 11), (2, 12), (3, 13), (4, 14), (5, 15), (6, 9), (7, 16), (8, 17), (9, 5), (11, 6)]) (j := 8) (d := 17) rfl (fun _ _ h => h)) (envS_next ?_)
      · intro p hp hne; simp only [List.mem_cons, List.not_mem_nil, or_false] at hp; rcases hp with rfl | rfl | rfl | rfl | rfl | rfl | rfl | rfl | rfl | rfl | rfl <;> first | exact absurd rfl hne | exact ⟨rfl, rfl⟩
  · intro g_ f hf_
    obtain ⟨b_, z_⟩ := g_
    refine X.ghost (H' := gC g ma mb n :: gA ma m :: Rf) (HSub.drop (HSub.drop (HSub.refl _))) ?_
    refine LL.nil (after_code ?_)
    refine LW.seq ?_
    refine LW.region ?_
    refine X.u (LU.moveR Is.rfl') rfl ?_
    refine X.u (LU.assignR Is.rfl') rfl ?_
    refine LL.nil (after_code ?_)
    refine LW.ret (after_end ?_)
    refine X.ret (H' := [gC g ma mb n, gA ma m]) (Res.one (by exact IsR rfl)) (by repeat (exact HSub.refl _)) ?_
    exact ⟨rfl, rfl⟩
end Go.Proofs.YtolpkeajokjbjaaDoor
namespace Go.Proofs.YtolpkeajokjbjaaDoor
open Go.RowKit Go.L
attribute [local irreducible] LL LW LO
theorem hpush (a : Atom) (R : List Atom) : ∀ L : List Atom, HSub (a :: (L ++ R)) (L ++ (a :: R))
  | [] => HSub.refl _
  | p :: r => HSub.trans (HSub.pick 1 rfl (HSub.refl _)) (HSub.cons (hpush a R r))
theorem hswap (L R : List Atom) : ∀ K : List Atom, HSub (K ++ (L ++ R)) (L ++ (K ++ R))
  | [] => HSub.refl _
  | k :: K => HSub.trans (HSub.cons (hswap L R K)) (hpush k (K ++ R) L)
/-- An addition. -/
structure Pt where
  up : Vx
  down : Vx
  ids : List Vx
abbrev ptL (p : Pt) : List LV := vxL p.up ++ (vxL p.down ++ [Vxs p.ids .unk])
abbrev ptE (p : Pt) : LV := .agg (ptL p)
theorem pt_len (p : Pt) : (ptL p).length = 67 := by simp [p.up.p.2, p.down.p.2]
theorem pt_up (p : Pt) : ((ptL p).drop 0).take 33 = vxL p.up := by rw [List.drop_zero, List.take_left' (vxL_len p.up)]
theorem pt_down (p : Pt) : ((ptL p).drop 33).take 33 = vxL p.down := by rw [List.drop_left' (vxL_len p.up), List.take_left' (vxL_len p.down)]
theorem pt_ids (p : Pt) : (ptL p)[66]? = some (Vxs p.ids .unk) := by
  rw [List.getElem?_append_right (by rw [vxL_len]; decide), vxL_len, List.getElem?_append_right (by rw [vxL_len]; decide), vxL_len]; rfl
def chainF {S : Type} (F : S → Vx → Vx → S) : S → Vx → List Vx → Vx → S
  | s, a, [], d => F s a d
  | s, a, v :: r, d => chainF F (F s a v) v r d
theorem drop_at {α : Type} {l : List α} {i : Nat} {x : α} (h : l[i]? = some x) : l.drop i = x :: l.drop (i + 1) := by
  obtain ⟨h1, h2⟩ := List.getElem?_eq_some_iff.1 h
  rw [List.drop_eq_getElem_cons h1, h2]
set_option maxHeartbeats 1000000 in
set_option maxRecDepth 100000 in
theorem chain_calls {S : Type} (Hm : S → List Atom) (F : S → Vx → Vx → S) (φ : Nat → S → Prop) (yv : Value) (p : Pt) (s0 : S) (hl : p.ids.length < 1000000)
    (hf : ∀ i s a b, i ≤ p.ids.length → φ i s → FnCalls Tryd.prog yv [.agg (vxL a), .agg (vxL b)] (Hm s) (fun r H' => r = .tup [] ∧ H' = Hm (F s a b)) ∧ φ (i + 1) (F s a b)) (h0 : φ 0 s0) :
    LCalls Tryd.prog 37 [ptE p, .raw yv] (Hm s0) (fun r H' => r = .tup [] ∧ H' = Hm (chainF F s0 p.up p.ids p.down) ∧ φ (p.ids.length + 1) (chainF F s0 p.up p.ids p.down)) := by
  have hpl := pt_len p
  have hul := vxL_len p.up
  have hdl := vxL_len p.down
  have hu32 : p.up.p.1.length = 32 := p.up.p.2
  have hd32 : p.down.p.1.length = 32 := p.down.p.2
  refine LCalls.of Tryd.func37 rfl Tryd.ntmps37 Tryd.results37 rfl (fun Rf => ?_)
  refine LW.seq ?_
  refine LW.region ?_
  refine X.act (X.box rfl Is.rfl' (by exact Cells.agg) (fun b2 => ?_))
  refine LL.nil (after_code ?_)
  refine LW.seq ?_
  refine LW.region ?_
  refine X.u (LU.fieldO Tryd.underlying82 rfl Tryd.sizeOf35 (by decide) Is.rfl') rfl ?_
  refine X.u (LU.weak (LU.loadO 0 rfl ⟨Tryd.sizeOf35, Tryd.isAgg35⟩ Is.rfl' (Part.sub (by (simp; omega)))) (Is.of (y := .agg (vxL p.up)) (congrArg LV.agg (pt_up p)))) rfl ?_
  refine X.act (X.alloc rfl Tryd.zeroValue35 (by exact Cells.rawagg (by decide)) (fun b4 => ?_))
  refine X.act (X.store 0 rfl Tryd.sizeOf35 Is.rfl' Is.rfl' (by exact Cells.agg) (by assumption) (by exact Nat.le_of_ble_eq_true rfl) ?_)
  refine LL.nil (after_code ?_)
  refine LW.seq ?_
  refine LW.seq ?_
  refine X.wcells (ys := vxL p.up) (putAt_all (by rw [hul]; rfl)) ?_
  refine LW.region ?_
  refine X.u (LU.fieldO Tryd.underlying82 rfl Tryd.sizeOf26 (by decide) Is.rfl') rfl ?_
  refine X.u (LU.loadO 1 rfl ⟨Tryd.sizeOf26, Tryd.isAgg26⟩ Is.rfl' (Part.one (pt_ids p))) rfl ?_
  refine X.u (LU.lenN Tryd.underlying26 Is.rfl' (by (simp only [Option.getD_some, Option.getD_none, byteEls_length, intEls_length, List.length_append, List.length_cons, List.length_nil, List.length_map, List.length_drop, List.length_take, Int.toNat_natCast]; rfl))) rfl ?_
  refine X.u (LU.moveR Is.rfl') rfl ?_
  refine LL.nil (after_code ?_)
  refine LW.block ?_
  refine X.loopK (α := Nat × Vx × S) (fun ⟨i, a, s⟩ => [(12, i64 i)]) [1, 2, 4, 10, 11] (fun ⟨i, a, s⟩ => .cells b4 35 (vxL a) :: .cells b2 82 (ptL p) :: (Hm s ++ Rf)) (fun ⟨i, a, s⟩ => i ≤ p.ids.length ∧ φ i s ∧ chainF F s a (p.ids.drop i) p.down = chainF F s0 p.up p.ids p.down) (fun ⟨i, a, s⟩ => p.ids.length - i) ((0, p.up, s0)) (EnvLe.cons (by rfl) (EnvLe.nil)) (by repeat (exact HSub.refl _)) ?_ ?_
  · exact ⟨Nat.zero_le _, h0, rfl⟩
  · rintro ⟨i, a, s⟩ hI
    obtain ⟨hi, hs, hc⟩ := hI
    have hal := vxL_len a
    have ha32 : a.p.1.length = 32 := a.p.2
    refine LW.seq ?_
    refine LW.region ?_
    refine X.u (LU.lss Is.rfl' Is.rfl') rfl ?_
    refine LL.nil (after_code ?_)
    refine LW.seq ?_
    refine X.cond rfl (fun h3 => ?_) (fun h3 => ?_)
    · try have h3 := of_decide_eq_true h3
      refine LW.skip (after_code ?_)
      refine LW.seq ?_
      refine LW.block ?_
      refine LW.seq ?_
      obtain ⟨v, hv⟩ := at_lt (show i < p.ids.length by omega)
      have hvl := vxL_len v
      have hfs := hf i s a v hi hs
      refine LW.region ?_
      refine X.u (LU.at Tryd.underlying26 ⟨Tryd.sizeOf35, Tryd.isAgg35⟩ Is.rfl' Is.rfl' (by omega) (vxs_at hv) (vx_ne v)) rfl ?_
      refine X.u (LU.weak (LU.load ⟨Tryd.sizeOf35, Tryd.isAgg35⟩ Is.rfl' (by assumption) (Part.whole (by assumption))) (Is.of (y := .agg (vxL v)) (rfl))) rfl ?_
      refine X.act (X.alloc rfl Tryd.zeroValue35 (by exact Cells.rawagg (by decide)) (fun b6 => ?_))
      refine X.act (X.store 0 rfl Tryd.sizeOf35 Is.rfl' Is.rfl' (by exact Cells.agg) (by assumption) (by exact Nat.le_of_ble_eq_true rfl) ?_)
      refine LL.nil (after_code ?_)
      refine LW.seq ?_
      refine X.wcells (ys := vxL v) (putAt_all (by rw [hvl]; rfl)) ?_
      refine LW.region ?_
      refine X.u (LU.moveR Is.rfl') rfl ?_
      refine X.u (LU.loadO 1 rfl ⟨Tryd.sizeOf35, Tryd.isAgg35⟩ Is.rfl' (Part.whole (by assumption))) rfl ?_
      refine X.u (LU.loadO 0 rfl ⟨Tryd.sizeOf35, Tryd.isAgg35⟩ Is.rfl' (Part.whole (by assumption))) rfl ?_
      refine X.act (X.callF (hfs.1) Is.rfl' rfl (hswap (Hm s) Rf [.cells b6 35 (vxL v), .cells b4 35 (vxL a), .cells b2 82 (ptL p)]) (Opds.cons Is.rfl' (Opds.cons Is.rfl' Opds.nil)) ?_)
      rintro r H' ⟨rfl, rfl⟩
      refine LL.nil (after_code ?_)
      refine X.wghost (hswap [.cells b6 35 (vxL v), .cells b4 35 (vxL a), .cells b2 82 (ptL p)] Rf (Hm (F s a v))) ?_
      refine LW.region ?_
      refine X.u (LU.loadO 0 rfl ⟨Tryd.sizeOf35, Tryd.isAgg35⟩ Is.rfl' (Part.whole (by assumption))) rfl ?_
      refine X.act (X.store 1 rfl Tryd.sizeOf35 Is.rfl' Is.rfl' (by exact Cells.agg) (by assumption) (by (simp; omega)) ?_)
      refine LL.nil (after_blk (after_code ?_))
      refine X.wcells (ys := vxL v) (putAt_all (by rw [hvl, hal])) ?_
      refine LW.region ?_
      refine X.u (LU.addN Is.rfl' Is.rfl' (wrap_i64 (by omega) (by omega))) rfl ?_
      refine X.u (LU.moveR Is.rfl') rfl ?_
      refine LL.nil (after_rnd ?_)
      refine X.next ((i + 1, v, F s a v)) rfl (EnvLe.cons (by rfl) (EnvLe.nil)) (Keeps.cons (by exact Eq.trans (b := .raw _) rfl rfl) (Keeps.cons (by exact Eq.trans (b := .raw _) rfl rfl) (Keeps.cons (by exact Eq.trans (b := .raw _) rfl rfl) (Keeps.cons (by exact Eq.trans (b := .sl _ _ _) rfl rfl) (Keeps.cons (by exact Eq.trans (b := .raw _) rfl rfl) (Keeps.nil)))))) (by repeat (first | exact HSub.refl _ | refine HSub.pick 0 rfl ?_ | refine HSub.pick 1 rfl ?_ | refine HSub.drop ?_)) ?_ ?_
      · refine ⟨by omega, hfs.2, ?_⟩
        rw [← hc, drop_at hv]; rfl
      · (simp; omega)
    · try have h3 := of_decide_eq_false h3
      refine LW.exit (exit_code (exit_rnd (exit_blk (after_code ?_))))
      have hfs := hf i s a p.down hi hs
      have hil : i = p.ids.length := by omega
      rw [hil, List.drop_of_length_le (Nat.le_refl _)] at hc
      refine LW.region ?_
      refine X.u (LU.moveR Is.rfl') rfl ?_
      refine X.u (LU.loadO 0 rfl ⟨Tryd.sizeOf35, Tryd.isAgg35⟩ Is.rfl' (Part.whole (by assumption))) rfl ?_
      refine X.u (LU.fieldO Tryd.underlying82 rfl Tryd.sizeOf35 (by decide) Is.rfl') rfl ?_
      refine X.u (LU.weak (LU.loadO 1 rfl ⟨Tryd.sizeOf35, Tryd.isAgg35⟩ Is.rfl' (Part.sub (by (simp; omega)))) (Is.of (y := .agg (vxL p.down)) (congrArg LV.agg (pt_down p)))) rfl ?_
      refine X.act (X.callF (hfs.1) Is.rfl' rfl (hswap (Hm s) Rf [.cells b4 35 (vxL a), .cells b2 82 (ptL p)]) (Opds.cons Is.rfl' (Opds.cons Is.rfl' Opds.nil)) ?_)
      rintro r H' ⟨rfl, rfl⟩
      refine LL.nil (after_end ?_)
      refine X.normal (H' := Hm (F s a p.down)) Res.none (HSub.trans (hswap [.cells b4 35 (vxL a), .cells b2 82 (ptL p)] Rf (Hm (F s a p.down))) (HSub.drop (HSub.drop (HSub.refl _)))) ?_
      have hc2 : F s a p.down = chainF F s0 p.up p.ids p.down := hc
      exact ⟨rfl, by rw [hc2], by rw [← hc2, ← hil]; exact hfs.2⟩
end Go.Proofs.YtolpkeajokjbjaaDoor
namespace Go.Proofs.YtolpkeajokjbjaaDoor
open Go.RowKit Go.L
attribute [local irreducible] LL LW LO LP LA
theorem atG_set (m : At) (a v : Vx) (x : Ln) : atG (setA m a x) v = if a = v then x else atG m v := by
  unfold atG
  rw [look_setA]
  split <;> rfl
theorem step_next (m : At) (a b v : Vx) : (atG (stepA m a b) v).next = (atG m v).next ++ (if a = v then [b] else []) := by
  unfold stepA
  simp only [atG_set]
  by_cases c : b = v
  · subst c
    by_cases d : a = b
    · simp [d]
    · simp [d]
  · by_cases d : a = v
    · simp [c, d]
    · simp [c, d]
theorem step_prev (m : At) (a b v : Vx) : (atG (stepA m a b) v).prev = (atG m v).prev ++ (if b = v then [a] else []) := by
  unfold stepA
  simp only [atG_set]
  by_cases c : b = v
  · subst c
    by_cases d : a = b
    · simp [d]
    · simp [d]
  · by_cases d : a = v
    · simp [c, d]
    · simp [c, d]
/-- No list of a graph is longer than k. -/
def Sz (m : At) (k : Nat) : Prop := ∀ v, (atG m v).next.length ≤ k ∧ (atG m v).prev.length ≤ k
theorem Sz.step {m : At} {k : Nat} (h : Sz m k) (a b : Vx) : Sz (stepA m a b) (k + 1) := fun v => by
  have := h v
  rw [step_next, step_prev, List.length_append, List.length_append]
  constructor
  · split <;> simp <;> omega
  · split <;> simp <;> omega
abbrev stepV (g : Nat) : Value := .func (.func 29) #[.pointer (some ⟨g, 0, none⟩)] #[]
theorem step_fn (g ma mb : Nat) (n : Int) (m : At) (a b : Vx) (k : Nat) (hz : Sz m k) (hk : k < 900000) : FnCalls Tryd.prog (stepV g) [.agg (vxL a), .agg (vxL b)] [gC g ma mb n, gA ma m] (fun r H' => r = .tup [] ∧ H' = [gC g ma mb n, gA ma (stepA m a b)]) :=
  FnCalls.bound Tryd.func29 rfl rfl (step_calls g ma mb n m a b fun v => ⟨Nat.lt_of_le_of_lt (hz v).1 hk, Nat.lt_of_le_of_lt (hz v).2 hk⟩)
theorem chain_step (g ma mb : Nat) (n : Int) (m : At) (p : Pt) (k : Nat) (hz : Sz m k) (hl : p.ids.length < 400000) (hk : k < 400000) : LCalls Tryd.prog 37 [ptE p, .raw (stepV g)] [gC g ma mb n, gA ma m] (fun r H' => r = .tup [] ∧ H' = [gC g ma mb n, gA ma (chainF stepA m p.up p.ids p.down)] ∧ Sz (chainF stepA m p.up p.ids p.down) (k + (p.ids.length + 1))) :=
  chain_calls (fun m => [gC g ma mb n, gA ma m]) stepA (fun i m => Sz m (k + i)) (stepV g) p m (by omega) (fun i s a b hi hs => ⟨step_fn g ma mb n s a b (k + i) hs (by omega), by rw [← Nat.add_assoc]; exact hs.step a b⟩) hz
abbrev intK : Int → Value := fun n => .int .i64 n
abbrev Ps := List (Int × Pt)
abbrev gP (mb : Nat) (q : Ps) : Atom := .map mb (mp intK (encM ptE q))
theorem ln0_agg : Is (.agg (raws z73.cells.toList)) (lnE ln0) := Is.agg rfl fun i x y hx hy => by
  match i, hx, hy with
  | 0, hx, hy => cases hx; cases hy; exact Is.rfl'
  | 1, hx, hy => cases hx; cases hy; exact (Is.nil 32).trans Is.unk
  | 2, hx, hy => cases hx; cases hy; exact Is.rfl'
  | 3, hx, hy => cases hx; cases hy; exact (Is.nil 33).trans Is.unk
  | 4, hx, hy => cases hx; cases hy; exact (Is.nil 33).trans Is.unk
def at0 : At := [(topV, ln0), (botV, ln0)]
theorem at0_set : setA (setA [] topV ln0) botV ln0 = at0 := by
  show (if topV = botV then (botV, ln0) :: [] else (topV, ln0) :: setA [] botV ln0) = _
  rw [if_neg (by decide +kernel)]
  rfl
theorem at0_sz : Sz at0 0 := fun v => by
  have : at0 = setA (setA [] topV ln0) botV ln0 := at0_set.symm
  rw [this, atG_set, atG_set]
  split
  · exact ⟨Nat.le_refl _, Nat.le_refl _⟩
  · split
    · exact ⟨Nat.le_refl _, Nat.le_refl _⟩
    · exact ⟨Nat.le_refl _, Nat.le_refl _⟩
theorem at1_bot : Is ((lookM (encM lnE [(topV, ln0)]) botV).getD (.raw z73)) (lnE ln0) := by
  have h := at_is [(topV, ln0)] botV
  have e : atG [(topV, ln0)] botV = ln0 := by
    unfold atG lookA
    split <;> rfl
  rwa [e] at h
set_option maxHeartbeats 1000000 in
set_option maxRecDepth 100000 in
theorem new_calls : LCalls Tryd.prog 9 [] [kb] (fun r H' => ∃ g ma mb, r = pt g ∧ H' = [gC g ma mb 0, gA ma (stepA at0 topV botV), gP mb [], kb]) := by
  have hbl := vxL_len botV
  have htl := vxL_len topV
  refine LCalls.of Tryd.func9 rfl Tryd.ntmps9 Tryd.results9 rfl (fun Rf => ?_)
  refine LW.seq ?_
  refine LW.region ?_
  refine X.u (LU.assignR Is.rfl') rfl ?_
  refine LL.nil (after_code ?_)
  refine LW.seq ?_
  refine LW.region ?_
  refine X.act (LO.makeMap (st := ⟨_, _, _⟩) rfl (fun b2 => ?_))
  refine X.act (LO.makeMap (st := ⟨_, _, _⟩) rfl (fun b3 => ?_))
  refine X.u (LU.build (places := #[(0, 1), (1, 1), (2, 1)]) Tryd.underlying68 Tryd.zeroValue68 (ones rfl) (by intro w; simp [Tryd.sizeOf3, Tryd.sizeOf65, Tryd.sizeOf66]) (Parts.cons Is.rfl' (by exact Cells.raw rfl) (Parts.cons Is.rfl' (by exact Cells.raw rfl) Parts.nil)) rfl) rfl ?_
  refine X.act (X.box rfl Is.rfl' (by exact Cells.agg) (fun b5 => ?_))
  refine X.u (LU.assignR Is.rfl') rfl ?_
  refine LL.nil (after_code ?_)
  refine LW.seq ?_
  refine X.wghost (H' := gC b5 b2 b3 0 :: gA b2 [] :: gP b3 [] :: kb :: Rf) (by repeat (first | exact HSub.refl _ | refine HSub.pick 0 rfl ?_ | refine HSub.pick 1 rfl ?_)) ?_
  refine LW.invB (m := 18) (γ := Nat × Nat × Nat × Nat) [(0, 6), (1, 7), (2, 8), (3, 9), (4, 10), (5, 11), (6, 12), (7, 13), (8, 14), (9, 15), (10, 16), (11, 17), (12, 18), (13, 19), (15, 20), (16, 21)] (fun g_ d => match g_ with | ⟨s1, q1, s2, q2⟩ => match d with | 6 => pt b5 | 7 => pt b5 | 8 => pt b5 | 9 => .raw (.map (some b2)) | 10 => .agg (vxL topV) | 11 => pt b5 | 12 => pt b5 | 13 => pt b5 | 14 => .raw (.map (some b2)) | 15 => .agg (vxL botV) | 16 => lnE ln0 | 17 => lnE ln0 | 18 => .tup [lnE ln0, i64 (s1 : Nat)] | 19 => i64 (q1 : Nat) | 20 => .tup [lnE ln0, i64 (s2 : Nat)] | 21 => i64 (q2 : Nat) | _ => .any) (fun g_ f => match g_ with | ⟨s1, q1, s2, q2⟩ => cond (f 17) (.map b2 (mp vxV (setM (encM lnE [(topV, ln0)]) botV (lnE ln0)))) (cond (f 15) (.mape b2 (mp vxV (entM (encM lnE [(topV, ln0)]) botV (.raw z73))) (entI (encM lnE [(topV, ln0)]) botV) (cond (f 16) q2 s2)) (cond (f 14) (gA b2 [(topV, ln0)]) (cond (f 12) (.mape b2 (mp vxV (entM (encM lnE []) topV (.raw z73))) (entI (encM lnE []) topV) (cond (f 13) q1 s1)) (gA b2 [])))) :: gC b5 b2 b3 0 :: gP b3 [] :: kb :: Rf) (0, 0, 0, 0) rfl (by kernel_rfl) rfl rfl ((by repeat (first | exact HSub.refl _ | refine HSub.pick 1 rfl ?_))) ?_ ?_
  · intro i hi f g_ hfi hdir hdown
    obtain ⟨s1, q1, s2, q2⟩ := g_
    have hc : i = 0 ∨ i = 1 ∨ i = 2 ∨ i = 3 ∨ i = 4 ∨ i = 5 ∨ i = 6 ∨ i = 7 ∨ i = 8 ∨ i = 9 ∨ i = 10 ∨ i = 11 ∨ i = 12 ∨ i = 13 ∨ i = 14 ∨ i = 15 ∨ i = 16 ∨ i = 17 := by omega
    rcases hc with rfl | rfl | rfl | rfl | rfl | rfl | rfl | rfl | rfl | rfl | rfl | rfl | rfl | rfl | rfl | rfl | rfl | rfl
    · refine ⟨_, rfl, ?_⟩
      refine A.u (LU.moveR Is.rfl') rfl ?_
      refine ⟨⟨s1, q1, s2, q2⟩, Weaker.mk' ?_ (HSub.refl _)⟩
      refine env_back0 (envS_hit (sl := [(0, 6), (1, 7), (2, 8), (3, 9), (4, 10), (5, 11), (6, 12), (7, 13), (8, 14), (9, 15), (10, 16), (11, 17), (12, 18), (13, 19), (15, 20), (16, 21)]) (j := 0) (d := 6) rfl (fun _ _ h => h))  (envS_next ?_)
      · intro p hp hne; simp only [List.mem_cons, List.not_mem_nil, or_false] at hp; rcases hp with rfl | rfl | rfl | rfl | rfl | rfl | rfl | rfl | rfl | rfl | rfl | rfl | rfl | rfl | rfl | rfl <;> first | exact absurd rfl hne | exact ⟨rfl, rfl⟩
    · have d0 := hdir 0 (List.mem_of_elem_eq_true (by kernel_rfl))
      refine ⟨_, rfl, ?_⟩
      refine LP.weak (t := 6) (v := pt b5) (envS_is (j := 0) rfl d0) ?_
      refine A.u (LU.nilCheck Is.rfl') rfl ?_
      refine ⟨⟨s1, q1, s2, q2⟩, Weaker.mk' ?_ (HSub.refl _)⟩
      refine env_back1 (envS_hit (sl := [(0, 6), (1, 7), (2, 8), (3, 9), (4, 10), (5, 11), (6, 12), (7, 13), (8, 14), (9, 15), (10, 16), (11, 17), (12, 18), (13, 19), (15, 20), (16, 21)]) (j := 1) (d := 7) rfl (fun _ _ h => h)) (envS_hit (sl := [(0, 6), (1, 7), (2, 8), (3, 9), (4, 10), (5, 11), (6, 12), (7, 13), (8, 14), (9, 15), (10, 16), (11, 17), (12, 18), (13, 19), (15, 20), (16, 21)]) (j := 0) (d := 6) rfl (fun _ _ h => h)) (envS_next ?_)
      · intro p hp hne; simp only [List.mem_cons, List.not_mem_nil, or_false] at hp; rcases hp with rfl | rfl | rfl | rfl | rfl | rfl | rfl | rfl | rfl | rfl | rfl | rfl | rfl | rfl | rfl | rfl <;> first | exact absurd rfl hne | exact ⟨rfl, rfl⟩
    · have d1 := hdir 1 (List.mem_of_elem_eq_true (by kernel_rfl))
      refine ⟨_, rfl, ?_⟩
      refine LP.weak (t := 7) (v := pt b5) (envS_is (j := 1) rfl d1) ?_
      refine A.u (LU.fieldO Tryd.underlying68 rfl Tryd.sizeOf65 (by decide) Is.rfl') rfl ?_
      refine ⟨⟨s1, q1, s2, q2⟩, Weaker.mk' ?_ (HSub.refl _)⟩
      refine env_back1 (envS_hit (sl := [(0, 6), (1, 7), (2, 8), (3, 9), (4, 10), (5, 11), (6, 12), (7, 13), (8, 14), (9, 15), (10, 16), (11, 17), (12, 18), (13, 19), (15, 20), (16, 21)]) (j := 2) (d := 8) rfl (fun _ _ h => h)) (envS_hit (sl := [(0, 6), (1, 7), (2, 8), (3, 9), (4, 10), (5, 11), (6, 12), (7, 13), (8, 14), (9, 15), (10, 16), (11, 17), (12, 18), (13, 19), (15, 20), (16, 21)]) (j := 1) (d := 7) rfl (fun _ _ h => h)) (envS_next ?_)
      · intro p hp hne; simp only [List.mem_cons, List.not_mem_nil, or_false] at hp; rcases hp with rfl | rfl | rfl | rfl | rfl | rfl | rfl | rfl | rfl | rfl | rfl | rfl | rfl | rfl | rfl | rfl <;> first | exact absurd rfl hne | exact ⟨rfl, rfl⟩
    · have d2 := hdir 2 (List.mem_of_elem_eq_true (by kernel_rfl))
      refine ⟨_, rfl, ?_⟩
      refine LP.weak (t := 8) (v := pt b5) (envS_is (j := 2) rfl d2) ?_
      refine A.u (LU.loadO 1 rfl ⟨Tryd.sizeOf65, Tryd.isAgg65⟩ Is.rfl' (Part.one rfl)) rfl ?_
      refine ⟨⟨s1, q1, s2, q2⟩, Weaker.mk' ?_ (HSub.refl _)⟩
      refine env_back1 (envS_hit (sl := [(0, 6), (1, 7), (2, 8), (3, 9), (4, 10), (5, 11), (6, 12), (7, 13), (8, 14), (9, 15), (10, 16), (11, 17), (12, 18), (13, 19), (15, 20), (16, 21)]) (j := 3) (d := 9) rfl (fun _ _ h => h)) (envS_hit (sl := [(0, 6), (1, 7), (2, 8), (3, 9), (4, 10), (5, 11), (6, 12), (7, 13), (8, 14), (9, 15), (10, 16), (11, 17), (12, 18), (13, 19), (15, 20), (16, 21)]) (j := 2) (d := 8) rfl (fun _ _ h => h)) (envS_next ?_)
      · intro p hp hne; simp only [List.mem_cons, List.not_mem_nil, or_false] at hp; rcases hp with rfl | rfl | rfl | rfl | rfl | rfl | rfl | rfl | rfl | rfl | rfl | rfl | rfl | rfl | rfl | rfl <;> first | exact absurd rfl hne | exact ⟨rfl, rfl⟩
    · refine ⟨_, rfl, ?_⟩
      refine A.u (LU.weak (LU.build (places := #[(0, 32), (32, 1)]) Tryd.underlying35 Tryd.zeroValue35 (ones rfl) (by intro w; simp [Tryd.sizeOf3, Tryd.sizeOf31]) Parts.nil rfl) (Is.of (y := .agg (vxL topV)) (rfl))) rfl ?_
      refine ⟨⟨s1, q1, s2, q2⟩, Weaker.mk' ?_ (HSub.refl _)⟩
      refine env_back0 (envS_hit (sl := [(0, 6), (1, 7), (2, 8), (3, 9), (4, 10), (5, 11), (6, 12), (7, 13), (8, 14), (9, 15), (10, 16), (11, 17), (12, 18), (13, 19), (15, 20), (16, 21)]) (j := 4) (d := 10) rfl (fun _ _ h => h))  (envS_next ?_)
      · intro p hp hne; simp only [List.mem_cons, List.not_mem_nil, or_false] at hp; rcases hp with rfl | rfl | rfl | rfl | rfl | rfl | rfl | rfl | rfl | rfl | rfl | rfl | rfl | rfl | rfl | rfl <;> first | exact absurd rfl hne | exact ⟨rfl, rfl⟩
    · refine ⟨_, rfl, ?_⟩
      refine A.u (LU.moveR Is.rfl') rfl ?_
      refine ⟨⟨s1, q1, s2, q2⟩, Weaker.mk' ?_ (HSub.refl _)⟩
      refine env_back0 (envS_hit (sl := [(0, 6), (1, 7), (2, 8), (3, 9), (4, 10), (5, 11), (6, 12), (7, 13), (8, 14), (9, 15), (10, 16), (11, 17), (12, 18), (13, 19), (15, 20), (16, 21)]) (j := 5) (d := 11) rfl (fun _ _ h => h))  (envS_next ?_)
      · intro p hp hne; simp only [List.mem_cons, List.not_mem_nil, or_false] at hp; rcases hp with rfl | rfl | rfl | rfl | rfl | rfl | rfl | rfl | rfl | rfl | rfl | rfl | rfl | rfl | rfl | rfl <;> first | exact absurd rfl hne | exact ⟨rfl, rfl⟩
    · have d5 := hdir 5 (List.mem_of_elem_eq_true (by kernel_rfl))
      refine ⟨_, rfl, ?_⟩
      refine LP.weak (t := 11) (v := pt b5) (envS_is (j := 5) rfl d5) ?_
      refine A.u (LU.nilCheck Is.rfl') rfl ?_
      refine ⟨⟨s1, q1, s2, q2⟩, Weaker.mk' ?_ (HSub.refl _)⟩
      refine env_back1 (envS_hit (sl := [(0, 6), (1, 7), (2, 8), (3, 9), (4, 10), (5, 11), (6, 12), (7, 13), (8, 14), (9, 15), (10, 16), (11, 17), (12, 18), (13, 19), (15, 20), (16, 21)]) (j := 6) (d := 12) rfl (fun _ _ h => h)) (envS_hit (sl := [(0, 6), (1, 7), (2, 8), (3, 9), (4, 10), (5, 11), (6, 12), (7, 13), (8, 14), (9, 15), (10, 16), (11, 17), (12, 18), (13, 19), (15, 20), (16, 21)]) (j := 5) (d := 11) rfl (fun _ _ h => h)) (envS_next ?_)
      · intro p hp hne; simp only [List.mem_cons, List.not_mem_nil, or_false] at hp; rcases hp with rfl | rfl | rfl | rfl | rfl | rfl | rfl | rfl | rfl | rfl | rfl | rfl | rfl | rfl | rfl | rfl <;> first | exact absurd rfl hne | exact ⟨rfl, rfl⟩
    · have d6 := hdir 6 (List.mem_of_elem_eq_true (by kernel_rfl))
      refine ⟨_, rfl, ?_⟩
      refine LP.weak (t := 12) (v := pt b5) (envS_is (j := 6) rfl d6) ?_
      refine A.u (LU.fieldO Tryd.underlying68 rfl Tryd.sizeOf65 (by decide) Is.rfl') rfl ?_
      refine ⟨⟨s1, q1, s2, q2⟩, Weaker.mk' ?_ (HSub.refl _)⟩
      refine env_back1 (envS_hit (sl := [(0, 6), (1, 7), (2, 8), (3, 9), (4, 10), (5, 11), (6, 12), (7, 13), (8, 14), (9, 15), (10, 16), (11, 17), (12, 18), (13, 19), (15, 20), (16, 21)]) (j := 7) (d := 13) rfl (fun _ _ h => h)) (envS_hit (sl := [(0, 6), (1, 7), (2, 8), (3, 9), (4, 10), (5, 11), (6, 12), (7, 13), (8, 14), (9, 15), (10, 16), (11, 17), (12, 18), (13, 19), (15, 20), (16, 21)]) (j := 6) (d := 12) rfl (fun _ _ h => h)) (envS_next ?_)
      · intro p hp hne; simp only [List.mem_cons, List.not_mem_nil, or_false] at hp; rcases hp with rfl | rfl | rfl | rfl | rfl | rfl | rfl | rfl | rfl | rfl | rfl | rfl | rfl | rfl | rfl | rfl <;> first | exact absurd rfl hne | exact ⟨rfl, rfl⟩
    · have d7 := hdir 7 (List.mem_of_elem_eq_true (by kernel_rfl))
      refine ⟨_, rfl, ?_⟩
      refine LP.weak (t := 13) (v := pt b5) (envS_is (j := 7) rfl d7) ?_
      refine A.u (LU.loadO 1 rfl ⟨Tryd.sizeOf65, Tryd.isAgg65⟩ Is.rfl' (Part.one rfl)) rfl ?_
      refine ⟨⟨s1, q1, s2, q2⟩, Weaker.mk' ?_ (HSub.refl _)⟩
      refine env_back1 (envS_hit (sl := [(0, 6), (1, 7), (2, 8), (3, 9), (4, 10), (5, 11), (6, 12), (7, 13), (8, 14), (9, 15), (10, 16), (11, 17), (12, 18), (13, 19), (15, 20), (16, 21)]) (j := 8) (d := 14) rfl (fun _ _ h => h)) (envS_hit (sl := [(0, 6), (1, 7), (2, 8), (3, 9), (4, 10), (5, 11), (6, 12), (7, 13), (8, 14), (9, 15), (10, 16), (11, 17), (12, 18), (13, 19), (15, 20), (16, 21)]) (j := 7) (d := 13) rfl (fun _ _ h => h)) (envS_next ?_)
      · intro p hp hne; simp only [List.mem_cons, List.not_mem_nil, or_false] at hp; rcases hp with rfl | rfl | rfl | rfl | rfl | rfl | rfl | rfl | rfl | rfl | rfl | rfl | rfl | rfl | rfl | rfl <;> first | exact absurd rfl hne | exact ⟨rfl, rfl⟩
    · refine ⟨_, rfl, ?_⟩
      refine A.u (LU.loadK 3 rfl ⟨Tryd.sizeOf35, Tryd.isAgg35⟩ Is.rfl' (by decide) (by decide) (Part.whole (by (simp; done)))) rfl ?_
      refine ⟨⟨s1, q1, s2, q2⟩, Weaker.mk' ?_ (HSub.refl _)⟩
      refine env_back0 (envS_hit (sl := [(0, 6), (1, 7), (2, 8), (3, 9), (4, 10), (5, 11), (6, 12), (7, 13), (8, 14), (9, 15), (10, 16), (11, 17), (12, 18), (13, 19), (15, 20), (16, 21)]) (j := 9) (d := 15) rfl (fun _ _ h => h))  (envS_next ?_)
      · intro p hp hne; simp only [List.mem_cons, List.not_mem_nil, or_false] at hp; rcases hp with rfl | rfl | rfl | rfl | rfl | rfl | rfl | rfl | rfl | rfl | rfl | rfl | rfl | rfl | rfl | rfl <;> first | exact absurd rfl hne | exact ⟨rfl, rfl⟩
    · refine ⟨_, rfl, ?_⟩
      refine A.u (LU.weak (LU.build (places := #[(0, 1), (1, 1), (2, 1), (3, 1), (4, 1)]) Tryd.underlying73 Tryd.zeroValue73 (ones rfl) (by intro w; simp [Tryd.sizeOf26, Tryd.sizeOf3, Tryd.sizeOf71, Tryd.sizeOf9]) Parts.nil rfl) (ln0_agg)) rfl ?_
      refine ⟨⟨s1, q1, s2, q2⟩, Weaker.mk' ?_ (HSub.refl _)⟩
      refine env_back0 (envS_hit (sl := [(0, 6), (1, 7), (2, 8), (3, 9), (4, 10), (5, 11), (6, 12), (7, 13), (8, 14), (9, 15), (10, 16), (11, 17), (12, 18), (13, 19), (15, 20), (16, 21)]) (j := 10) (d := 16) rfl (fun _ _ h => h))  (envS_next ?_)
      · intro p hp hne; simp only [List.mem_cons, List.not_mem_nil, or_false] at hp; rcases hp with rfl | rfl | rfl | rfl | rfl | rfl | rfl | rfl | rfl | rfl | rfl | rfl | rfl | rfl | rfl | rfl <;> first | exact absurd rfl hne | exact ⟨rfl, rfl⟩
    · refine ⟨_, rfl, ?_⟩
      refine A.u (LU.weak (LU.build (places := #[(0, 1), (1, 1), (2, 1), (3, 1), (4, 1)]) Tryd.underlying73 Tryd.zeroValue73 (ones rfl) (by intro w; simp [Tryd.sizeOf26, Tryd.sizeOf3, Tryd.sizeOf71, Tryd.sizeOf9]) Parts.nil rfl) (ln0_agg)) rfl ?_
      refine ⟨⟨s1, q1, s2, q2⟩, Weaker.mk' ?_ (HSub.refl _)⟩
      refine env_back0 (envS_hit (sl := [(0, 6), (1, 7), (2, 8), (3, 9), (4, 10), (5, 11), (6, 12), (7, 13), (8, 14), (9, 15), (10, 16), (11, 17), (12, 18), (13, 19), (15, 20), (16, 21)]) (j := 11) (d := 17) rfl (fun _ _ h => h))  (envS_next ?_)
      · intro p hp hne; simp only [List.mem_cons, List.not_mem_nil, or_false] at hp; rcases hp with rfl | rfl | rfl | rfl | rfl | rfl | rfl | rfl | rfl | rfl | rfl | rfl | rfl | rfl | rfl | rfl <;> first | exact absurd rfl hne | exact ⟨rfl, rfl⟩
    · have d3 := hdir 3 (List.mem_of_elem_eq_true (by kernel_rfl))
      have d4 := hdir 4 (List.mem_of_elem_eq_true (by kernel_rfl))
      have d8 := hdir 8 (List.mem_of_elem_eq_true (by kernel_rfl))
      have d9 := hdir 9 (List.mem_of_elem_eq_true (by kernel_rfl))
      refine ⟨_, rfl, ?_⟩
      have h13 : f 13 = false := Bool.eq_false_iff.2 (fun h => by rw [hdown 13 (by omega) h 12 (List.mem_of_elem_eq_true (by kernel_rfl))] at hfi; cases hfi)
      have h14 : f 14 = false := Bool.eq_false_iff.2 (fun h => by rw [hdown 14 (by omega) h 12 (List.mem_of_elem_eq_true (by kernel_rfl))] at hfi; cases hfi)
      have h15 : f 15 = false := Bool.eq_false_iff.2 (fun h => by rw [hdown 15 (by omega) h 14 (List.mem_of_elem_eq_true (by kernel_rfl))] at h14; cases h14)
      have h17 : f 17 = false := Bool.eq_false_iff.2 (fun h => by rw [hdown 17 (by omega) h 15 (List.mem_of_elem_eq_true (by kernel_rfl))] at h15; cases h15)
      refine LP.ghost (H' := gA b2 [] :: gC b5 b2 b3 0 :: gP b3 [] :: kb :: Rf) (by rw [h17, h15, h14, hfi]; exact HSub.refl _) ?_
      refine LP.weak (t := 9) (v := .raw (.map (some b2))) (envS_is (j := 3) rfl d3) ?_
      refine LP.weak (t := 10) (v := .agg (vxL topV)) (envS_is (j := 4) rfl d4) ?_
      refine A.act (LO.mapEntry (st := ⟨_, _, _⟩) 0 rfl (KeyOk.vx vxty) rfl Tryd.underlying65 Tryd.zeroValue73 Is.rfl' (by exact Is.vx _) (fun s18 => ?_))
      refine ⟨(s18, q1, s2, q2), Weaker.mk' ?_ (by show L.HSub _ (cond (f 17) (.map b2 (mp vxV (setM (encM lnE [(topV, ln0)]) botV (lnE ln0)))) (cond (f 15) (.mape b2 (mp vxV (entM (encM lnE [(topV, ln0)]) botV (.raw z73))) (entI (encM lnE [(topV, ln0)]) botV) (cond (f 16) q2 s2)) (cond (f 14) (gA b2 [(topV, ln0)]) (cond true (.mape b2 (mp vxV (entM (encM lnE []) topV (.raw z73))) (entI (encM lnE []) topV) (cond (f 13) q1 s18)) (gA b2 [])))) :: gC b5 b2 b3 0 :: gP b3 [] :: kb :: Rf); rw [h17, h15, h14, h13]; exact HSub.refl _)⟩
      refine env_back2 (envS_hit (sl := [(0, 6), (1, 7), (2, 8), (3, 9), (4, 10), (5, 11), (6, 12), (7, 13), (8, 14), (9, 15), (10, 16), (11, 17), (12, 18), (13, 19), (15, 20), (16, 21)]) (j := 12) (d := 18) rfl (is_tup2 (at_is [] topV) Is.rfl')) (envS_hit (sl := [(0, 6), (1, 7), (2, 8), (3, 9), (4, 10), (5, 11), (6, 12), (7, 13), (8, 14), (9, 15), (10, 16), (11, 17), (12, 18), (13, 19), (15, 20), (16, 21)]) (j := 4) (d := 10) rfl (fun _ _ h => h)) (envS_hit (sl := [(0, 6), (1, 7), (2, 8), (3, 9), (4, 10), (5, 11), (6, 12), (7, 13), (8, 14), (9, 15), (10, 16), (11, 17), (12, 18), (13, 19), (15, 20), (16, 21)]) (j := 3) (d := 9) rfl (fun _ _ h => h)) (envS_next ?_)
      · intro p hp hne; simp only [List.mem_cons, List.not_mem_nil, or_false] at hp; rcases hp with rfl | rfl | rfl | rfl | rfl | rfl | rfl | rfl | rfl | rfl | rfl | rfl | rfl | rfl | rfl | rfl <;> first | exact absurd rfl hne | exact ⟨rfl, rfl⟩
    · have d12 := hdir 12 (List.mem_of_elem_eq_true (by kernel_rfl))
      refine ⟨_, rfl, ?_⟩
      refine LP.weak (t := 18) (v := .tup [lnE ln0, i64 (s1 : Nat)]) (envS_is (j := 12) rfl d12) ?_
      refine A.u (LU.extract Is.rfl' rfl) rfl ?_
      refine ⟨(s1, s1, s2, q2), Weaker.mk' ?_ (by show L.HSub (cond (f 17) (.map b2 (mp vxV (setM (encM lnE [(topV, ln0)]) botV (lnE ln0)))) (cond (f 15) (.mape b2 (mp vxV (entM (encM lnE [(topV, ln0)]) botV (.raw z73))) (entI (encM lnE [(topV, ln0)]) botV) (cond (f 16) q2 s2)) (cond (f 14) (gA b2 [(topV, ln0)]) (cond (f 12) (.mape b2 (mp vxV (entM (encM lnE []) topV (.raw z73))) (entI (encM lnE []) topV) (cond (f 13) q1 s1)) (gA b2 [])))) :: gC b5 b2 b3 0 :: gP b3 [] :: kb :: Rf) (cond (f 17) (.map b2 (mp vxV (setM (encM lnE [(topV, ln0)]) botV (lnE ln0)))) (cond (f 15) (.mape b2 (mp vxV (entM (encM lnE [(topV, ln0)]) botV (.raw z73))) (entI (encM lnE [(topV, ln0)]) botV) (cond (f 16) q2 s2)) (cond (f 14) (gA b2 [(topV, ln0)]) (cond (f 12) (.mape b2 (mp vxV (entM (encM lnE []) topV (.raw z73))) (entI (encM lnE []) topV) (s1)) (gA b2 [])))) :: gC b5 b2 b3 0 :: gP b3 [] :: kb :: Rf); rw [hfi]; exact HSub.refl _)⟩
      refine env_back1 (envS_hit (sl := [(0, 6), (1, 7), (2, 8), (3, 9), (4, 10), (5, 11), (6, 12), (7, 13), (8, 14), (9, 15), (10, 16), (11, 17), (12, 18), (13, 19), (15, 20), (16, 21)]) (j := 13) (d := 19) rfl (fun _ _ h => h)) (envS_hit (sl := [(0, 6), (1, 7), (2, 8), (3, 9), (4, 10), (5, 11), (6, 12), (7, 13), (8, 14), (9, 15), (10, 16), (11, 17), (12, 18), (13, 19), (15, 20), (16, 21)]) (j := 12) (d := 18) rfl (fun _ _ h => h)) (envS_next ?_)
      · intro p hp hne; simp only [List.mem_cons, List.not_mem_nil, or_false] at hp; rcases hp with rfl | rfl | rfl | rfl | rfl | rfl | rfl | rfl | rfl | rfl | rfl | rfl | rfl | rfl | rfl | rfl <;> first | exact absurd rfl hne | exact ⟨rfl, rfl⟩
    · have d0 := hdir 0 (List.mem_of_elem_eq_true (by kernel_rfl))
      have d1 := hdir 1 (List.mem_of_elem_eq_true (by kernel_rfl))
      have d2 := hdir 2 (List.mem_of_elem_eq_true (by kernel_rfl))
      have d3 := hdir 3 (List.mem_of_elem_eq_true (by kernel_rfl))
      have d4 := hdir 4 (List.mem_of_elem_eq_true (by kernel_rfl))
      have d8 := hdir 8 (List.mem_of_elem_eq_true (by kernel_rfl))
      have d9 := hdir 9 (List.mem_of_elem_eq_true (by kernel_rfl))
      have d10 := hdir 10 (List.mem_of_elem_eq_true (by kernel_rfl))
      have d12 := hdir 12 (List.mem_of_elem_eq_true (by kernel_rfl))
      have d13 := hdir 13 (List.mem_of_elem_eq_true (by kernel_rfl))
      refine ⟨_, rfl, ?_⟩
      have h12 : f 12 = true := hdir 12 (List.mem_of_elem_eq_true (by kernel_rfl))
      have h13 : f 13 = true := hdir 13 (List.mem_of_elem_eq_true (by kernel_rfl))
      have h15 : f 15 = false := Bool.eq_false_iff.2 (fun h => by rw [hdown 15 (by omega) h 14 (List.mem_of_elem_eq_true (by kernel_rfl))] at hfi; cases hfi)
      have h17 : f 17 = false := Bool.eq_false_iff.2 (fun h => by rw [hdown 17 (by omega) h 15 (List.mem_of_elem_eq_true (by kernel_rfl))] at h15; cases h15)
      refine LP.ghost (H' := .mape b2 (mp vxV (entM (encM lnE []) topV (.raw z73))) (entI (encM lnE []) topV) (q1) :: gC b5 b2 b3 0 :: gP b3 [] :: kb :: Rf) (by rw [h17, h15, hfi, h12, h13]; exact HSub.refl _) ?_
      refine LP.weak (t := 9) (v := .raw (.map (some b2))) (envS_is (j := 3) rfl d3) ?_
      refine LP.weak (t := 16) (v := lnE ln0) (envS_is (j := 10) rfl d10) ?_
      refine LP.weak (t := 19) (v := i64 (q1 : Nat)) (envS_is (j := 13) rfl d13) ?_
      refine A.act (X.entryStore 0 rfl Is.rfl' Is.rfl' Is.rfl' ?_)
      refine ⟨(s1, q1, s2, q2), Weaker.mk' ?_ (by show L.HSub _ (cond (f 17) (.map b2 (mp vxV (setM (encM lnE [(topV, ln0)]) botV (lnE ln0)))) (cond (f 15) (.mape b2 (mp vxV (entM (encM lnE [(topV, ln0)]) botV (.raw z73))) (entI (encM lnE [(topV, ln0)]) botV) (cond (f 16) q2 s2)) (cond true (gA b2 [(topV, ln0)]) (cond (f 12) (.mape b2 (mp vxV (entM (encM lnE []) topV (.raw z73))) (entI (encM lnE []) topV) (cond (f 13) q1 s1)) (gA b2 [])))) :: gC b5 b2 b3 0 :: gP b3 [] :: kb :: Rf); rw [h17, h15]; exact HSub.refl _)⟩
      refine env_back2 (envS_hit (sl := [(0, 6), (1, 7), (2, 8), (3, 9), (4, 10), (5, 11), (6, 12), (7, 13), (8, 14), (9, 15), (10, 16), (11, 17), (12, 18), (13, 19), (15, 20), (16, 21)]) (j := 13) (d := 19) rfl (fun _ _ h => h)) (envS_hit (sl := [(0, 6), (1, 7), (2, 8), (3, 9), (4, 10), (5, 11), (6, 12), (7, 13), (8, 14), (9, 15), (10, 16), (11, 17), (12, 18), (13, 19), (15, 20), (16, 21)]) (j := 10) (d := 16) rfl (fun _ _ h => h)) (envS_hit (sl := [(0, 6), (1, 7), (2, 8), (3, 9), (4, 10), (5, 11), (6, 12), (7, 13), (8, 14), (9, 15), (10, 16), (11, 17), (12, 18), (13, 19), (15, 20), (16, 21)]) (j := 3) (d := 9) rfl (fun _ _ h => h)) (envS_next ?_)
      · intro p hp hne; simp only [List.mem_cons, List.not_mem_nil, or_false] at hp; rcases hp with rfl | rfl | rfl | rfl | rfl | rfl | rfl | rfl | rfl | rfl | rfl | rfl | rfl | rfl | rfl | rfl <;> first | exact absurd rfl hne | exact ⟨rfl, rfl⟩
    · have d0 := hdir 0 (List.mem_of_elem_eq_true (by kernel_rfl))
      have d1 := hdir 1 (List.mem_of_elem_eq_true (by kernel_rfl))
      have d2 := hdir 2 (List.mem_of_elem_eq_true (by kernel_rfl))
      have d3 := hdir 3 (List.mem_of_elem_eq_true (by kernel_rfl))
      have d4 := hdir 4 (List.mem_of_elem_eq_true (by kernel_rfl))
      have d8 := hdir 8 (List.mem_of_elem_eq_true (by kernel_rfl))
      have d9 := hdir 9 (List.mem_of_elem_eq_true (by kernel_rfl))
      have d10 := hdir 10 (List.mem_of_elem_eq_true (by kernel_rfl))
      have d12 := hdir 12 (List.mem_of_elem_eq_true (by kernel_rfl))
      have d13 := hdir 13 (List.mem_of_elem_eq_true (by kernel_rfl))
      have d14 := hdir 14 (List.mem_of_elem_eq_true (by kernel_rfl))
      refine ⟨_, rfl, ?_⟩
      have h14 : f 14 = true := hdir 14 (List.mem_of_elem_eq_true (by kernel_rfl))
      have h16 : f 16 = false := Bool.eq_false_iff.2 (fun h => by rw [hdown 16 (by omega) h 15 (List.mem_of_elem_eq_true (by kernel_rfl))] at hfi; cases hfi)
      have h17 : f 17 = false := Bool.eq_false_iff.2 (fun h => by rw [hdown 17 (by omega) h 15 (List.mem_of_elem_eq_true (by kernel_rfl))] at hfi; cases hfi)
      refine LP.ghost (H' := gA b2 [(topV, ln0)] :: gC b5 b2 b3 0 :: gP b3 [] :: kb :: Rf) (by rw [h17, hfi, h14]; exact HSub.refl _) ?_
      refine LP.weak (t := 14) (v := .raw (.map (some b2))) (envS_is (j := 8) rfl d8) ?_
      refine LP.weak (t := 15) (v := .agg (vxL botV)) (envS_is (j := 9) rfl d9) ?_
      refine A.act (LO.mapEntry (st := ⟨_, _, _⟩) 0 rfl (KeyOk.vx vxty) rfl Tryd.underlying65 Tryd.zeroValue73 Is.rfl' (by exact Is.vx _) (fun s20 => ?_))
      refine ⟨(s1, q1, s20, q2), Weaker.mk' ?_ (by show L.HSub _ (cond (f 17) (.map b2 (mp vxV (setM (encM lnE [(topV, ln0)]) botV (lnE ln0)))) (cond true (.mape b2 (mp vxV (entM (encM lnE [(topV, ln0)]) botV (.raw z73))) (entI (encM lnE [(topV, ln0)]) botV) (cond (f 16) q2 s20)) (cond (f 14) (gA b2 [(topV, ln0)]) (cond (f 12) (.mape b2 (mp vxV (entM (encM lnE []) topV (.raw z73))) (entI (encM lnE []) topV) (cond (f 13) q1 s1)) (gA b2 [])))) :: gC b5 b2 b3 0 :: gP b3 [] :: kb :: Rf); rw [h17, h16]; exact HSub.refl _)⟩
      refine env_back2 (envS_hit (sl := [(0, 6), (1, 7), (2, 8), (3, 9), (4, 10), (5, 11), (6, 12), (7, 13), (8, 14), (9, 15), (10, 16), (11, 17), (12, 18), (13, 19), (15, 20), (16, 21)]) (j := 15) (d := 20) rfl (is_tup2 at1_bot Is.rfl')) (envS_hit (sl := [(0, 6), (1, 7), (2, 8), (3, 9), (4, 10), (5, 11), (6, 12), (7, 13), (8, 14), (9, 15), (10, 16), (11, 17), (12, 18), (13, 19), (15, 20), (16, 21)]) (j := 9) (d := 15) rfl (fun _ _ h => h)) (envS_hit (sl := [(0, 6), (1, 7), (2, 8), (3, 9), (4, 10), (5, 11), (6, 12), (7, 13), (8, 14), (9, 15), (10, 16), (11, 17), (12, 18), (13, 19), (15, 20), (16, 21)]) (j := 8) (d := 14) rfl (fun _ _ h => h)) (envS_next ?_)
      · intro p hp hne; simp only [List.mem_cons, List.not_mem_nil, or_false] at hp; rcases hp with rfl | rfl | rfl | rfl | rfl | rfl | rfl | rfl | rfl | rfl | rfl | rfl | rfl | rfl | rfl | rfl <;> first | exact absurd rfl hne | exact ⟨rfl, rfl⟩
    · have d15 := hdir 15 (List.mem_of_elem_eq_true (by kernel_rfl))
      refine ⟨_, rfl, ?_⟩
      refine LP.weak (t := 20) (v := .tup [lnE ln0, i64 (s2 : Nat)]) (envS_is (j := 15) rfl d15) ?_
      refine A.u (LU.extract Is.rfl' rfl) rfl ?_
      refine ⟨(s1, q1, s2, s2), Weaker.mk' ?_ (by show L.HSub (cond (f 17) (.map b2 (mp vxV (setM (encM lnE [(topV, ln0)]) botV (lnE ln0)))) (cond (f 15) (.mape b2 (mp vxV (entM (encM lnE [(topV, ln0)]) botV (.raw z73))) (entI (encM lnE [(topV, ln0)]) botV) (cond (f 16) q2 s2)) (cond (f 14) (gA b2 [(topV, ln0)]) (cond (f 12) (.mape b2 (mp vxV (entM (encM lnE []) topV (.raw z73))) (entI (encM lnE []) topV) (cond (f 13) q1 s1)) (gA b2 [])))) :: gC b5 b2 b3 0 :: gP b3 [] :: kb :: Rf) (cond (f 17) (.map b2 (mp vxV (setM (encM lnE [(topV, ln0)]) botV (lnE ln0)))) (cond (f 15) (.mape b2 (mp vxV (entM (encM lnE [(topV, ln0)]) botV (.raw z73))) (entI (encM lnE [(topV, ln0)]) botV) (s2)) (cond (f 14) (gA b2 [(topV, ln0)]) (cond (f 12) (.mape b2 (mp vxV (entM (encM lnE []) topV (.raw z73))) (entI (encM lnE []) topV) (cond (f 13) q1 s1)) (gA b2 [])))) :: gC b5 b2 b3 0 :: gP b3 [] :: kb :: Rf); rw [hfi]; exact HSub.refl _)⟩
      refine env_back1 (envS_hit (sl := [(0, 6), (1, 7), (2, 8), (3, 9), (4, 10), (5, 11), (6, 12), (7, 13), (8, 14), (9, 15), (10, 16), (11, 17), (12, 18), (13, 19), (15, 20), (16, 21)]) (j := 16) (d := 21) rfl (fun _ _ h => h)) (envS_hit (sl := [(0, 6), (1, 7), (2, 8), (3, 9), (4, 10), (5, 11), (6, 12), (7, 13), (8, 14), (9, 15), (10, 16), (11, 17), (12, 18), (13, 19), (15, 20), (16, 21)]) (j := 15) (d := 20) rfl (fun _ _ h => h)) (envS_next ?_)
      · intro p hp hne; simp only [List.mem_cons, List.not_mem_nil, or_false] at hp; rcases hp with rfl | rfl | rfl | rfl | rfl | rfl | rfl | rfl | rfl | rfl | rfl | rfl | rfl | rfl | rfl | rfl <;> first | exact absurd rfl hne | exact ⟨rfl, rfl⟩
    · have d0 := hdir 0 (List.mem_of_elem_eq_true (by kernel_rfl))
      have d1 := hdir 1 (List.mem_of_elem_eq_true (by kernel_rfl))
      have d2 := hdir 2 (List.mem_of_elem_eq_true (by kernel_rfl))
      have d3 := hdir 3 (List.mem_of_elem_eq_true (by kernel_rfl))
      have d4 := hdir 4 (List.mem_of_elem_eq_true (by kernel_rfl))
      have d5 := hdir 5 (List.mem_of_elem_eq_true (by kernel_rfl))
      have d6 := hdir 6 (List.mem_of_elem_eq_true (by kernel_rfl))
      have d7 := hdir 7 (List.mem_of_elem_eq_true (by kernel_rfl))
      have d8 := hdir 8 (List.mem_of_elem_eq_true (by kernel_rfl))
      have d9 := hdir 9 (List.mem_of_elem_eq_true (by kernel_rfl))
      have d10 := hdir 10 (List.mem_of_elem_eq_true (by kernel_rfl))
      have d11 := hdir 11 (List.mem_of_elem_eq_true (by kernel_rfl))
      have d12 := hdir 12 (List.mem_of_elem_eq_true (by kernel_rfl))
      have d13 := hdir 13 (List.mem_of_elem_eq_true (by kernel_rfl))
      have d14 := hdir 14 (List.mem_of_elem_eq_true (by kernel_rfl))
      have d15 := hdir 15 (List.mem_of_elem_eq_true (by kernel_rfl))
      have d16 := hdir 16 (List.mem_of_elem_eq_true (by kernel_rfl))
      refine ⟨_, rfl, ?_⟩
      have h15 : f 15 = true := hdir 15 (List.mem_of_elem_eq_true (by kernel_rfl))
      have h16 : f 16 = true := hdir 16 (List.mem_of_elem_eq_true (by kernel_rfl))
      refine LP.ghost (H' := .mape b2 (mp vxV (entM (encM lnE [(topV, ln0)]) botV (.raw z73))) (entI (encM lnE [(topV, ln0)]) botV) (q2) :: gC b5 b2 b3 0 :: gP b3 [] :: kb :: Rf) (by rw [hfi, h15, h16]; exact HSub.refl _) ?_
      refine LP.weak (t := 14) (v := .raw (.map (some b2))) (envS_is (j := 8) rfl d8) ?_
      refine LP.weak (t := 17) (v := lnE ln0) (envS_is (j := 11) rfl d11) ?_
      refine LP.weak (t := 21) (v := i64 (q2 : Nat)) (envS_is (j := 16) rfl d16) ?_
      refine A.act (X.entryStore 0 rfl Is.rfl' Is.rfl' Is.rfl' ?_)
      refine ⟨(s1, q1, s2, q2), Weaker.mk' ?_ (HSub.refl _)⟩
      refine env_back2 (envS_hit (sl := [(0, 6), (1, 7), (2, 8), (3, 9), (4, 10), (5, 11), (6, 12), (7, 13), (8, 14), (9, 15), (10, 16), (11, 17), (12, 18), (13, 19), (15, 20), (16, 21)]) (j := 16) (d := 21) rfl (fun _ _ h => h)) (envS_hit (sl := [(0, 6), (1, 7), (2, 8), (3, 9), (4, 10), (5, 11), (6, 12), (7, 13), (8, 14), (9, 15), (10, 16), (11, 17), (12, 18), (13, 19), (15, 20), (16, 21)]) (j := 11) (d := 17) rfl (fun _ _ h => h)) (envS_hit (sl := [(0, 6), (1, 7), (2, 8), (3, 9), (4, 10), (5, 11), (6, 12), (7, 13), (8, 14), (9, 15), (10, 16), (11, 17), (12, 18), (13, 19), (15, 20), (16, 21)]) (j := 8) (d := 14) rfl (fun _ _ h => h)) (envS_next ?_)
      · intro p hp hne; simp only [List.mem_cons, List.not_mem_nil, or_false] at hp; rcases hp with rfl | rfl | rfl | rfl | rfl | rfl | rfl | rfl | rfl | rfl | rfl | rfl | rfl | rfl | rfl | rfl <;> first | exact absurd rfl hne | exact ⟨rfl, rfl⟩
  · intro g_ f hf_
    obtain ⟨s1, q1, s2, q2⟩ := g_
    refine X.ghost (H' := .map b2 (mp vxV (setM (encM lnE [(topV, ln0)]) botV (lnE ln0))) :: gC b5 b2 b3 0 :: gP b3 [] :: kb :: Rf) (by show L.HSub (cond (f 17) _ _ :: _) _; rw [hf_ 17 (by omega)]; exact HSub.refl _) ?_
    refine LL.nil (after_code ?_)
    refine LW.seq ?_
    refine X.wghost (H' := kb :: gC b5 b2 b3 0 :: gA b2 at0 :: gP b3 [] :: Rf) (by rw [← at0_set, ← gA_set]; exact (by repeat (first | exact HSub.refl _ | refine HSub.pick 1 rfl ?_ | refine HSub.pick 3 rfl ?_))) ?_
    refine LW.region ?_
    refine X.u (LU.moveR Is.rfl') rfl ?_
    refine X.u (LU.weak (LU.build (places := #[(0, 32), (32, 1)]) Tryd.underlying35 Tryd.zeroValue35 (ones rfl) (by intro w; simp [Tryd.sizeOf3, Tryd.sizeOf31]) Parts.nil rfl) (Is.of (y := .agg (vxL topV)) (rfl))) rfl ?_
    refine X.u (LU.loadK 0 rfl ⟨Tryd.sizeOf35, Tryd.isAgg35⟩ Is.rfl' (by decide) (by decide) (Part.whole (by (simp; done)))) rfl ?_
    refine X.act (X.call (step_calls b5 b2 b3 0 at0 topV botV (fun v => ⟨Nat.lt_of_le_of_lt (at0_sz v).1 (by decide), Nat.lt_of_le_of_lt (at0_sz v).2 (by decide)⟩)) Tryd.func29 rfl rfl rfl (HSub.pick 1 rfl (HSub.pick 1 rfl (HSub.refl _))) (Opds.cons Is.rfl' (Opds.cons Is.rfl' (Opds.cons Is.rfl' Opds.nil))) ?_)
    rintro r H' ⟨rfl, rfl⟩
    refine LL.nil (after_code ?_)
    refine LW.seq ?_
    refine LW.region ?_
    refine X.u (LU.moveR Is.rfl') rfl ?_
    refine X.u (LU.assignR Is.rfl') rfl ?_
    refine LL.nil (after_code ?_)
    refine LW.ret (after_end ?_)
    refine X.ret (H' := [gC b5 b2 b3 0, gA b2 (stepA at0 topV botV), gP b3 [], kb]) (Res.one (by exact IsR rfl)) (by repeat (first | exact HSub.refl _ | refine HSub.pick 0 rfl ?_ | refine HSub.pick 1 rfl ?_)) ?_
    exact ⟨b5, b2, b3, rfl, rfl⟩
end Go.Proofs.YtolpkeajokjbjaaDoor
namespace Go.Proofs.YtolpkeajokjbjaaDoor
open Go.RowKit Go.L
attribute [local irreducible] LL LW LO
set_option maxRecDepth 100000 in
theorem len_calls (g ma mb : Nat) (n : Int) (m : At) (hm : m.length < 1000000) : LCalls Tryd.prog 19 [pt g] [gC g ma mb n, gA ma m] (fun r H' => r = i64 ((m.length : Int) - 2) ∧ H' = [gC g ma mb n, gA ma m]) := by
  refine LCalls.of Tryd.func19 rfl Tryd.ntmps19 Tryd.results19 rfl (fun Rf => ?_)
  refine LW.seq ?_
  refine LW.region ?_
  refine X.u (LU.assignR Is.rfl') rfl ?_
  refine LL.nil (after_code ?_)
  refine LW.seq ?_
  refine LW.seq ?_
  refine LW.region ?_
  refine X.u (LU.moveR Is.rfl') rfl ?_
  refine X.u (LU.call1 0 rfl (none_calls g ma mb n) Tryd.func33 rfl rfl (Opds.cons Is.rfl' Opds.nil)) rfl ?_
  refine LL.nil (after_code ?_)
  refine X.condF rfl ?_ ?_
  · rfl
  refine LW.skip (after_code ?_)
  refine LW.seq ?_
  refine LW.region ?_
  refine X.u (LU.moveR Is.rfl') rfl ?_
  refine X.u (LU.nilCheck Is.rfl') rfl ?_
  refine X.u (LU.fieldO Tryd.underlying68 rfl Tryd.sizeOf65 (by decide) Is.rfl') rfl ?_
  refine X.u (LU.loadO 0 rfl ⟨Tryd.sizeOf65, Tryd.isAgg65⟩ Is.rfl' (Part.one rfl)) rfl ?_
  refine X.u (LU.lenMap 1 rfl Tryd.underlying65 Is.rfl') rfl ?_
  refine X.u (LU.sub Is.rfl' Is.rfl') rfl ?_
  refine X.u (LU.assignR Is.rfl') rfl ?_
  refine LL.nil (after_code ?_)
  refine LW.ret (after_end ?_)
  refine X.ret (H' := [gC g ma mb n, gA ma m]) (Res.one (by exact IsR rfl)) (by repeat (exact HSub.refl _)) ?_
  exact ⟨by simp; exact wrap_i64 (by omega) (by omega), rfl⟩
def wrongB (l : List Vx) : Bool := (!decide l.Nodup || l.any endsB) || decide (l.length = 0)
theorem nodup_snoc {α : Type} {l : List α} {a : α} : (l ++ [a]).Nodup ↔ l.Nodup ∧ a ∉ l := by
  rw [List.nodup_append]
  exact ⟨fun ⟨h1, _, h3⟩ => ⟨h1, fun hm => h3 a hm a (by simp) rfl⟩, fun ⟨h1, h2⟩ => ⟨h1, by simp, fun x hx y hy => by rw [List.mem_singleton.1 hy]; rintro rfl; exact h2 hx⟩⟩
theorem wrong_bad {l : List Vx} {i : Nat} {v : Vx} (hv : l[i]? = some v) (h : (endsB v || decide (v ∈ l.take i)) = true) : wrongB l = true := by
  unfold wrongB
  rcases Bool.or_eq_true _ _ |>.mp h with e | e
  · rw [List.any_eq_true.2 ⟨v, List.mem_of_getElem? hv, e⟩]; simp
  · have : ¬ l.Nodup := fun c => by
      have h2 := (List.take_sublist (i + 1) l).nodup c
      rw [take_snoc hv] at h2
      exact (nodup_snoc.1 h2).2 (of_decide_eq_true e)
    rw [decide_eq_false this]; simp
theorem wrong_end {l : List Vx} (h1 : l.Nodup) (h2 : ∀ v ∈ l, endsB v = false) : wrongB l = decide (l.length = 0) := by
  unfold wrongB
  rw [decide_eq_true h1, List.any_eq_false.2 fun v hv => by rw [h2 v hv]; decide]
  rfl
set_option maxHeartbeats 1000000 in
set_option maxRecDepth 100000 in
theorem wrong_calls (l : List Vx) (k : Cap) (hl : l.length < 1000000) : LCalls Tryd.prog 34 [Vxs l k] [kb] (fun r H' => r = bl (wrongB l) ∧ H' = [kb]) := by
  refine LCalls.of Tryd.func34 rfl Tryd.ntmps34 Tryd.results34 rfl (fun Rf => ?_)
  refine LW.seq ?_
  refine LW.region ?_
  refine X.u (LU.assignR Is.rfl') rfl ?_
  refine LL.nil (after_code ?_)
  refine LW.seq ?_
  refine LW.seq ?_
  refine LW.region ?_
  refine X.u (LU.moveS Is.rfl') rfl ?_
  refine X.u (LU.lenN Tryd.underlying26 Is.rfl' (by (simp only [Option.getD_some, Option.getD_none, byteEls_length, intEls_length, List.length_append, List.length_cons, List.length_nil, List.length_map, List.length_drop, List.length_take, Int.toNat_natCast]; rfl))) rfl ?_
  refine X.u (LU.moveR Is.rfl') rfl ?_
  refine LL.nil (after_code ?_)
  refine LW.block ?_
  refine X.loopK (α := Nat) (fun i => [(7, i64 i)]) [0, 5, 6] (fun i => kb :: Rf) (fun i => i ≤ l.length ∧ (l.take i).Nodup ∧ ∀ v ∈ l.take i, endsB v = false) (fun i => l.length - i) (0) (EnvLe.cons (by rfl) (EnvLe.nil)) (by repeat (exact HSub.refl _)) ?_ ?_
  · exact ⟨Nat.zero_le _, by simp, by simp⟩
  · rintro i hI
    obtain ⟨hi, hn, he⟩ := hI
    refine LW.seq ?_
    refine LW.region ?_
    refine X.u (LU.lss Is.rfl' Is.rfl') rfl ?_
    refine LL.nil (after_code ?_)
    refine LW.seq ?_
    refine X.cond rfl (fun h2 => ?_) (fun h2 => ?_)
    · try have h2 := of_decide_eq_true h2
      refine LW.skip (after_code ?_)
      refine LW.seq ?_
      refine LW.block ?_
      refine LW.seq ?_
      obtain ⟨v, hv⟩ := at_lt (show i < l.length by omega)
      have hvl := vxL_len v
      refine LW.region ?_
      refine X.u (LU.moveR Is.rfl') rfl ?_
      refine X.u (LU.at Tryd.underlying26 ⟨Tryd.sizeOf35, Tryd.isAgg35⟩ Is.rfl' Is.rfl' (by omega) (vxs_at hv) (vx_ne v)) rfl ?_
      refine X.u (LU.weak (LU.load ⟨Tryd.sizeOf35, Tryd.isAgg35⟩ Is.rfl' (by assumption) (Part.whole (by assumption))) (Is.of (y := .agg (vxL v)) (rfl))) rfl ?_
      refine X.act (X.alloc rfl Tryd.zeroValue35 (by exact Cells.rawagg (by decide)) (fun b4 => ?_))
      refine X.u (LU.assignR Is.rfl') rfl ?_
      refine X.act (X.store 0 rfl Tryd.sizeOf35 Is.rfl' Is.rfl' (by exact Cells.agg) (by assumption) (by exact Nat.le_of_ble_eq_true rfl) ?_)
      refine LL.nil (after_code ?_)
      refine LW.seq ?_
      refine X.wcells (ys := vxL v) (putAt_all (by rw [hvl]; rfl)) ?_
      refine X.drawM 9 rfl (by kernel_rfl) rfl ?_
      refine QD.u (LU.loadO 0 rfl ⟨Tryd.sizeOf35, Tryd.isAgg35⟩ Is.rfl' (Part.whole (by assumption))) rfl ?_
      refine QD.u (LU.call1 1 rfl (ends_calls v) Tryd.func53 rfl rfl (Opds.cons Is.rfl' Opds.nil)) rfl ?_
      refine QD.u (LU.moveR Is.rfl') rfl ?_
      refine QD.gF rfl rfl (fun hg => LU.moveS (by exact Is.rfl')) rfl ?_
      refine QD.gF rfl rfl (fun hg => LU.moveR (by exact Is.rfl')) rfl ?_
      refine QD.gF rfl rfl (fun hg => LU.weak (LU.slice (lo := none) (hi := some _) (l := none) (h := some ((i : Nat) : Int)) Tryd.sizeOf35 (by decide) Tryd.underlying26 (by exact Is.whenN hg) trivial ⟨_, (by exact Is.whenN hg)⟩ (by simp) (by simp) (by simp only [Option.getD_some, Option.getD_none, List.length_map]; try omega) .unk (.inl rfl)) (Is.of (y := Vxs (l.take i) .unk) (congrArg (fun z => LV.sl 33 z .unk) (by simp only [Option.getD_some, Option.getD_none, Int.toNat_natCast, Int.toNat_zero, List.drop_zero, Nat.sub_zero, vxs, List.map_take] <;> (try rfl))))) rfl ?_
      refine QD.gF rfl rfl (fun hg => LU.loadO 0 rfl ⟨Tryd.sizeOf35, Tryd.isAgg35⟩ (by exact Is.rfl') (Part.whole (by assumption))) rfl ?_
      refine QD.gF rfl rfl (fun hg => LU.call (contains_calls (l.take i) .unk v (by rw [List.length_take]; omega)) Tryd.func40 rfl rfl (Opds.cons (by exact Is.whenN hg) (Opds.cons (by exact Is.whenN hg) Opds.nil))) rfl ?_
      refine QD.u (LU.pickOr Is.rfl' Is.rfl' (fun hq => (by exact Is.whenN hq))) rfl ?_
      refine QD.nil ?_
      refine LL.nil (after_code ?_)
      refine X.cond rfl (fun h4 => ?_) (fun h4 => ?_)
      · have hw := wrong_bad hv h4
        refine LW.seq ?_
        refine LW.region ?_
        refine X.u (LU.assignR Is.rfl') rfl ?_
        refine LL.nil (after_code ?_)
        refine LW.ret (ret_blk (ret_code (ret_rnd (ret_blk (ret_code (after_end ?_))))))
        refine X.ret (H' := [kb]) (Res.one (by exact IsR rfl)) (by repeat (first | exact HSub.refl _ | refine HSub.pick 1 rfl ?_ | refine HSub.drop ?_)) ?_
        exact ⟨by rw [hw], rfl⟩
      · have h4 : endsB v = false ∧ v ∉ l.take i := by simpa using h4
        have hz0 : (0 : Nat) = 0 := rfl
        refine LW.skip (after_blk (after_code ?_))
        refine LW.region ?_
        refine X.u (LU.addN Is.rfl' Is.rfl' (wrap_i64 (by omega) (by omega))) rfl ?_
        refine X.u (LU.moveR Is.rfl') rfl ?_
        refine LL.nil (after_rnd ?_)
        refine X.next (i + 1) rfl (EnvLe.cons (by rfl) (EnvLe.nil)) (Keeps.cons (by exact Eq.trans (b := .sl _ _ _) rfl rfl) (Keeps.cons (by exact Eq.trans (b := .sl _ _ _) rfl rfl) (Keeps.cons (by exact Eq.trans (b := .raw _) rfl rfl) (Keeps.nil)))) (by repeat (first | exact HSub.refl _ | refine HSub.pick 1 rfl ?_ | refine HSub.drop ?_)) ?_ ?_
        · refine ⟨by omega, ?_, fun y hy => ?_⟩
          · rw [take_snoc hv]; exact nodup_snoc.2 ⟨hn, h4.2⟩
          · rw [take_snoc hv, List.mem_append, List.mem_singleton] at hy
            rcases hy with e | e
            · exact he y e
            · rw [e]; exact h4.1
        · omega
    · try have h2 := of_decide_eq_false h2
      refine LW.exit (exit_code (exit_rnd (exit_blk (after_code ?_))))
      refine LW.seq ?_
      refine LW.region ?_
      refine X.u (LU.moveS Is.rfl') rfl ?_
      refine X.u (LU.lenN Tryd.underlying26 Is.rfl' (by (simp only [Option.getD_some, Option.getD_none, byteEls_length, intEls_length, List.length_append, List.length_cons, List.length_nil, List.length_map, List.length_drop, List.length_take, Int.toNat_natCast]; rfl))) rfl ?_
      refine X.u (LU.eql Is.rfl' Is.rfl') rfl ?_
      refine X.u (LU.assignR Is.rfl') rfl ?_
      refine LL.nil (after_code ?_)
      refine LW.ret (after_end ?_)
      refine X.ret (H' := [kb]) (Res.one (by exact IsR rfl)) (by repeat (exact HSub.refl _)) ?_
      have hil : i = l.length := by omega
      rw [hil, List.take_length] at hn he
      refine ⟨?_, rfl⟩
      rw [wrong_end hn he]
      congr 2
      exact decide_eq_decide.2 ⟨fun c => by omega, fun c => by omega⟩
def fiV (f : Vx → Bool) : List Vx → Int
  | [] => -1
  | a :: l => if f a then 0 else (if fiV f l < 0 then -1 else fiV f l + 1)
theorem fi_none {f : Vx → Bool} : ∀ {l : List Vx}, (∀ x ∈ l, f x = false) → fiV f l = -1
  | [], _ => rfl
  | a :: l, h => by rw [fiV, if_neg (by rw [h a (by simp)]; decide), fi_none (fun x hx => h x (List.mem_cons_of_mem _ hx)), if_pos (by decide)]
theorem fi_at {f : Vx → Bool} : ∀ {l : List Vx} {i : Nat} {x : Vx}, l[i]? = some x → f x = true → (∀ j, j < i → ∀ y, l[j]? = some y → f y = false) → fiV f l = i
  | [], i, x, e, _, _ => by simp at e
  | a :: l, 0, x, e, h, _ => by
    obtain rfl : a = x := by simpa using e
    rw [fiV, if_pos h]; rfl
  | a :: l, i + 1, x, e, h, hf => by
    have := fi_at (l := l) (i := i) (by simpa using e) h (fun j hj y hy => hf (j + 1) (by omega) y (by simpa using hy))
    rw [fiV, if_neg (by rw [hf 0 (by omega) a rfl]; decide), this, if_neg (by omega)]
    omega
theorem fi_any {f : Vx → Bool} {l : List Vx} : decide (0 ≤ fiV f l) = l.any f := by
  have hge : ∀ l : List Vx, -1 ≤ fiV f l := fun l => by
    induction l with
    | nil => exact Int.le_refl _
    | cons a l ih =>
      rw [fiV]
      split
      · omega
      · split <;> omega
  induction l with
  | nil => rfl
  | cons a l ih =>
    rw [fiV, List.any_cons]
    cases h : f a with
    | true => simp
    | false =>
      have := hge l
      rw [if_neg (by decide), Bool.false_or, ← ih]
      refine decide_eq_decide.2 ⟨fun c => ?_, fun c => ?_⟩
      · split at c <;> omega
      · rw [if_neg (by omega)]; omega
set_option maxRecDepth 100000 in
theorem indexF_calls (l : List Vx) (k : Cap) (yv : Value) (f : Vx → Bool) (H : List Atom) (hl : l.length < 1000000) (hf : ∀ v, FnCalls Tryd.prog yv [.agg (vxL v)] H (fun r H' => r = bl (f v) ∧ H = H')) : LCalls Tryd.prog 54 [Vxs l k, .raw yv] H (fun r H' => r = i64 (fiV f l) ∧ H = H') := by
  refine LCalls.of Tryd.func54 rfl Tryd.ntmps54 Tryd.results54 rfl (fun Rf => ?_)
  refine LW.seq ?_
  refine LW.region ?_
  refine X.u (LU.assignR Is.rfl') rfl ?_
  refine LL.nil (after_code ?_)
  refine LW.seq ?_
  refine LW.seq ?_
  refine LW.region ?_
  refine X.u (LU.moveS Is.rfl') rfl ?_
  refine X.u (LU.lenN Tryd.underlying26 Is.rfl' (by (simp only [Option.getD_some, Option.getD_none, byteEls_length, intEls_length, List.length_append, List.length_cons, List.length_nil, List.length_map, List.length_drop, List.length_take, Int.toNat_natCast]; rfl))) rfl ?_
  refine X.u (LU.moveR Is.rfl') rfl ?_
  refine LL.nil (after_code ?_)
  refine LW.block ?_
  refine X.loopK (α := Nat) (fun i => [(8, i64 i)]) [0, 1, 7] (fun i => H ++ Rf) (fun i => i ≤ l.length ∧ ∀ j, j < i → ∀ y, l[j]? = some y → f y = false) (fun i => l.length - i) (0) (EnvLe.cons (by rfl) (EnvLe.nil)) (by repeat (exact HSub.refl _)) ?_ ?_
  · exact ⟨Nat.zero_le _, fun j hj => by omega⟩
  · rintro i hI
    obtain ⟨hi, hfa⟩ := hI
    refine LW.seq ?_
    refine LW.region ?_
    refine X.u (LU.lss Is.rfl' Is.rfl') rfl ?_
    refine LL.nil (after_code ?_)
    refine LW.seq ?_
    refine X.cond rfl (fun h2 => ?_) (fun h2 => ?_)
    · try have h2 := of_decide_eq_true h2
      refine LW.skip (after_code ?_)
      refine LW.seq ?_
      refine LW.block ?_
      refine LW.seq ?_
      refine LW.region ?_
      refine X.u (LU.moveR Is.rfl') rfl ?_
      refine X.u (LU.assignR Is.rfl') rfl ?_
      refine LL.nil (after_code ?_)
      refine LW.seq ?_
      obtain ⟨v, hv⟩ := at_lt (show i < l.length by omega)
      have hfv := hf v
      have hvl := vxL_len v
      refine LW.region ?_
      refine X.u (LU.moveR Is.rfl') rfl ?_
      refine X.u (LU.moveS Is.rfl') rfl ?_
      refine X.u (LU.moveR Is.rfl') rfl ?_
      refine X.u (LU.at Tryd.underlying26 ⟨Tryd.sizeOf35, Tryd.isAgg35⟩ Is.rfl' Is.rfl' (by omega) (vxs_at hv) (vx_ne v)) rfl ?_
      refine X.u (LU.weak (LU.load ⟨Tryd.sizeOf35, Tryd.isAgg35⟩ Is.rfl' (by assumption) (Part.whole (by assumption))) (Is.of (y := .agg (vxL v)) (rfl))) rfl ?_
      refine X.act (X.callF (hfv) Is.rfl' rfl (HSub.refl _) (Opds.cons Is.rfl' Opds.nil) ?_)
      rintro r H' ⟨rfl, rfl⟩
      refine LL.nil (after_code ?_)
      refine X.cond rfl (fun h4 => ?_) (fun h4 => ?_)
      · try have h4 := of_decide_eq_true h4
        refine LW.seq ?_
        refine LW.region ?_
        refine X.u (LU.moveR Is.rfl') rfl ?_
        refine X.u (LU.assignR Is.rfl') rfl ?_
        refine LL.nil (after_code ?_)
        refine LW.ret (ret_blk (ret_code (ret_rnd (ret_blk (ret_code (after_end ?_))))))
        refine X.ret (H' := H) (Res.one (by exact IsR rfl)) (HSub.refl _) ?_
        exact ⟨by rw [fi_at hv h4 hfa], rfl⟩
      · try have h4 := of_decide_eq_false h4
        refine LW.skip (after_blk (after_code ?_))
        refine LW.region ?_
        refine X.u (LU.addN Is.rfl' Is.rfl' (wrap_i64 (by omega) (by omega))) rfl ?_
        refine X.u (LU.moveR Is.rfl') rfl ?_
        refine LL.nil (after_rnd ?_)
        refine X.next (i + 1) rfl (EnvLe.cons (by rfl) (EnvLe.nil)) (Keeps.cons (by exact Eq.trans (b := .sl _ _ _) rfl rfl) (Keeps.cons (by exact Eq.trans (b := .raw _) rfl rfl) (Keeps.cons (by exact Eq.trans (b := .raw _) rfl rfl) (Keeps.nil)))) (by repeat (exact HSub.refl _)) ?_ ?_
        · refine ⟨by omega, fun j hj y hy => ?_⟩
          by_cases c : j = i
          · rw [c, hv] at hy; rw [← Option.some.inj hy]; exact h4
          · exact hfa j (by omega) y hy
        · omega
    · try have h2 := of_decide_eq_false h2
      refine LW.exit (exit_code (exit_rnd (exit_blk (after_code ?_))))
      refine LW.seq ?_
      refine LW.region ?_
      refine X.u (LU.assignR Is.rfl') rfl ?_
      refine LL.nil (after_code ?_)
      refine LW.ret (after_end ?_)
      refine X.ret (H' := H) (Res.one (by exact IsR rfl)) (HSub.refl _) ?_
      exact ⟨by rw [fi_none (fun x hx => by obtain ⟨j, hj⟩ := List.getElem?_of_mem hx; exact hfa j (by have := (List.getElem?_eq_some_iff.1 hj).1; omega) x hj)], rfl⟩
set_option maxRecDepth 100000 in
theorem containsF_calls (l : List Vx) (k : Cap) (yv : Value) (f : Vx → Bool) (H : List Atom) (hl : l.length < 1000000) (hf : ∀ v, FnCalls Tryd.prog yv [.agg (vxL v)] H (fun r H' => r = bl (f v) ∧ H = H')) : LCalls Tryd.prog 35 [Vxs l k, .raw yv] H (fun r H' => r = bl (l.any f) ∧ H = H') := by
  refine LCalls.of Tryd.func35 rfl Tryd.ntmps35 Tryd.results35 rfl (fun Rf => ?_)
  refine LW.seq ?_
  refine LW.region ?_
  refine X.u (LU.assignR Is.rfl') rfl ?_
  refine LL.nil (after_code ?_)
  refine LW.seq ?_
  refine LW.region ?_
  refine X.u (LU.moveS Is.rfl') rfl ?_
  refine X.u (LU.moveR Is.rfl') rfl ?_
  refine X.act (X.call (indexF_calls l k yv f H hl hf) Tryd.func54 rfl rfl rfl (HSub.refl _) (Opds.cons Is.rfl' (Opds.cons Is.rfl' Opds.nil)) ?_)
  rintro r H' ⟨rfl, rfl⟩
  refine X.u (LU.geq Is.rfl' Is.rfl') rfl ?_
  refine X.u (LU.assignR Is.rfl') rfl ?_
  refine LL.nil (after_code ?_)
  refine LW.ret (after_end ?_)
  refine X.ret (H' := H) (Res.one (by exact IsR rfl)) (HSub.refl _) ?_
  exact ⟨by rw [← fi_any], rfl⟩
end Go.Proofs.YtolpkeajokjbjaaDoor
