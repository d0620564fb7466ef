/- What LinesPlays needs, part 3. -/
import Derived.Below
import Derived.WalkKit
import Derived.OwnWalk
import Derived.Deep.LoopGhost
import Derived.RangeFuncIn
import Derived.RangeFuncLeaves
import Derived.TacticsIn
import Derived.OrdersIn
import Derived.LoopIn
import Derived.LoopNIn
import Derived.Laws.Entries
import Derived.Laws.Slices
import Derived.Laws.Cells
import Derived.Deep.AppendSrc
import Derived.Deep.MidRow
import Derived.Laws.AppendOwn
import Derived.Laws.MakeOwn
import Derived.Laws.IdiomCopy
import Derived.Lib.ConvBytes
import Derived.Lib.SlBytesConst
import Derived.Laws.BytesArg
import Derived.Deep.Upon
import Derived.Laws.StructEq
import Derived.Laws.Small
import Derived.SizedLaws
import Derived.ChangeSlices
import Derived.Lib.SmallJoins
import Derived.MakeChecks
import Derived.ChangeBears2
import Derived.Laws.CopyRow
import Derived.RangeFuncRecord
import Derived.Laws.Externs
import Derived.Lib.Bytealg
import Derived.Lib.IndexLaws
import Derived.DefersIn
import Derived.Lib.SliceRun
import Derived.OpenShut
import Derived.WideShapes
import Derived.Maps.RangeRun
import Derived.Sort.Row
import Derived.Lib.BytesEntry
import Derived.Lib.SlFresh
import Derived.Test.YtolpkeajokjbjaaDoorProg
import Derived.Test.YtolpkeajokjbjaaDoorRows
import Derived.LaidMore
import Derived.LaidHandle
import Derived.ChangeSame
import Derived.Test.YtolpkeajokjbjaaDoorBLinesPlays2
set_option linter.unusedVariables false
set_option linter.unusedSimpArgs false
namespace Go.Proofs.YtolpkeajokjbjaaDoor
open Go.RowKit Go.L
attribute [local irreducible] LL LW LO
inductive Rch (f : Vx → List Vx) (h : Vx) : Vx → Prop
  | one {d : Vx} : d ∈ f h → Rch f h d
  | step {y d : Vx} : Rch f h y → d ∈ f y → Rch f h d
theorem Rch.closed {f : Vx → List Vx} {h : Vx} {S : Vx → Prop} (h0 : ∀ d ∈ f h, S d) (h1 : ∀ y, S y → ∀ d ∈ f y, S d) : ∀ {x : Vx}, Rch f h x → S x
  | _, .one hd => h0 _ hd
  | _, .step hy hd => h1 _ (Rch.closed h0 h1 hy) _ hd
theorem Rch.last {f : Vx → List Vx} {h : Vx} {x : Vx} (hx : Rch f h x) : ∃ y, x ∈ f y := by
  cases hx with
  | one hd => exact ⟨_, hd⟩
  | step _ hd => exact ⟨_, hd⟩
abbrev nx (m : At) (v : Vx) : List Vx := (atG m v).next
theorem nodup_len {α : Type} [DecidableEq α] : ∀ {k l : List α}, k.Nodup → (∀ x, x ∈ k → x ∈ l) → k.length ≤ l.length
  | [], l, _, _ => Nat.zero_le _
  | a :: k, l, hk, hs => by
    have ha := hs a (by simp)
    obtain ⟨h1, h2⟩ := List.nodup_cons.1 hk
    have hl := (List.perm_cons_erase ha).length_eq
    have := nodup_len (l := l.erase a) h2 (fun x hx => by
      have : x ≠ a := fun e => h1 (e ▸ hx)
      exact (List.mem_erase_of_ne this).2 (hs x (List.mem_cons_of_mem _ hx)))
    simp only [List.length_cons] at hl ⊢
    omega
def allN (m : At) : List Vx := m.flatMap fun p => p.2.next
theorem look_mem : ∀ {m : At} {v : Vx} {x : Ln}, lookA m v = some x → (v, x) ∈ m
  | p :: r, v, x, h => by
    rw [lookA] at h
    split at h
    · rename_i c
      have := Option.some.inj h
      rw [← c, ← this]; simp
    · exact List.mem_cons_of_mem _ (look_mem h)
theorem nx_all {m : At} {v d : Vx} (h : d ∈ nx m v) : d ∈ allN m := by
  unfold nx atG at h
  cases hq : lookA m v with
  | none => rw [hq] at h; cases h
  | some x => rw [hq] at h; exact List.mem_flatMap.2 ⟨(v, x), look_mem hq, h⟩
/-- The search: what was looked at, what was seen, what is to be looked at. -/
structure Sk (m : At) (a b : Vx) (D ks todo : List Vx) (S : List (Vx × Int)) : Prop where
  nd : ks.Nodup
  perm : (a :: ks).Perm (D ++ todo)
  cl : ∀ v ∈ D, b ∉ nx m v ∧ ∀ w ∈ nx m v, w ∈ ks
  rch : ∀ v ∈ ks, Rch (nx m) a v
  look : ∀ w, lookA S w = if w ∈ ks then some 1 else none
theorem Sk.len {m : At} {a b : Vx} {D ks todo : List Vx} {S : List (Vx × Int)} (h : Sk m a b D ks todo S) : ks.length ≤ (allN m).length ∧ todo.length ≤ ks.length + 1 := by
  refine ⟨nodup_len h.nd fun x hx => by obtain ⟨y, hy⟩ := (h.rch x hx).last; exact nx_all hy, ?_⟩
  have := h.perm.length_eq
  rw [List.length_append, List.length_cons] at this
  omega
theorem Sk.none {m : At} {a b : Vx} {D ks : List Vx} {S : List (Vx × Int)} (h : Sk m a b D ks [] S) : ¬ Rch (nx m) a b := fun hr => by
  have hm : ∀ x, x ∈ a :: ks → x ∈ D := fun x hx => by have := h.perm.mem_iff.1 hx; simpa using this
  have hb : ∀ y, y ∈ a :: ks → b ∉ nx m y := fun y hy => (h.cl y (hm y hy)).1
  cases hr with
  | one hd => exact hb a (by simp) hd
  | step hy hd =>
    refine hb _ (List.mem_cons_of_mem _ ?_) hd
    exact Rch.closed (S := fun x => x ∈ ks) (fun d hd => (h.cl a (hm a (by simp))).2 d hd) (fun y hy d hd => (h.cl y (hm y (List.mem_cons_of_mem _ hy))).2 d hd) hy
/-- Within the search at v: the first j of those behind it are seen. -/
structure Si (m : At) (a b v : Vx) (j : Nat) (D ks todo : List Vx) (S : List (Vx × Int)) : Prop where
  nd : ks.Nodup
  perm : (a :: ks).Perm ((v :: D) ++ todo)
  cl : ∀ v ∈ D, b ∉ nx m v ∧ ∀ w ∈ nx m v, w ∈ ks
  now : ∀ w ∈ (nx m v).take j, w ≠ b ∧ w ∈ ks
  rch : ∀ v ∈ ks, Rch (nx m) a v
  look : ∀ w, lookA S w = if w ∈ ks then some 1 else none
theorem Sk.pop {m : At} {a b v : Vx} {D ks todo : List Vx} {S : List (Vx × Int)} (h : Sk m a b D ks (todo ++ [v]) S) : Si m a b v 0 D ks todo S :=
  ⟨h.nd, h.perm.trans (by
    have := (List.perm_append_comm (l₁ := D ++ todo) (l₂ := [v]))
    rw [← List.append_assoc]
    exact this), h.cl, fun w hw => by simp at hw, h.rch, h.look⟩
theorem Si.mem {m : At} {a b v : Vx} {j : Nat} {D ks todo : List Vx} {S : List (Vx × Int)} (h : Si m a b v j D ks todo S) {w : Vx} (hw : w ∈ nx m v) : Rch (nx m) a w := by
  have : v ∈ a :: ks := h.perm.mem_iff.2 (by simp)
  rcases List.mem_cons.1 this with e | e
  · rw [e] at hw; exact .one hw
  · exact .step (h.rch v e) hw
theorem Si.old {m : At} {a b v w : Vx} {j : Nat} {D ks todo : List Vx} {S : List (Vx × Int)} (h : Si m a b v j D ks todo S) (hw : (nx m v)[j]? = some w) (hb : w ≠ b) (hk : w ∈ ks) : Si m a b v (j + 1) D ks todo S :=
  ⟨h.nd, h.perm, h.cl, fun x hx => by
    rw [take_snoc hw, List.mem_append, List.mem_singleton] at hx
    rcases hx with e | e
    · exact h.now x e
    · rw [e]; exact ⟨hb, hk⟩, h.rch, h.look⟩
theorem Si.new {m : At} {a b v w : Vx} {j : Nat} {D ks todo : List Vx} {S : List (Vx × Int)} (h : Si m a b v j D ks todo S) (hw : (nx m v)[j]? = some w) (hb : w ≠ b) (hk : w ∉ ks) : Si m a b v (j + 1) D (ks ++ [w]) (todo ++ [w]) (setA S w 1) :=
  ⟨nodup_snoc.2 ⟨h.nd, hk⟩, by
    have := h.perm.append_right [w]
    rw [List.append_assoc] at this
    exact this, fun x hx => ⟨(h.cl x hx).1, fun y hy => List.mem_append_left _ ((h.cl x hx).2 y hy)⟩, fun x hx => by
    rw [take_snoc hw, List.mem_append, List.mem_singleton] at hx
    rcases hx with e | e
    · exact ⟨(h.now x e).1, List.mem_append_left _ (h.now x e).2⟩
    · rw [e]; exact ⟨hb, by simp⟩, fun x hx => by
    rcases List.mem_append.1 hx with e | e
    · exact h.rch x e
    · rw [List.mem_singleton.1 e]; exact h.mem (List.mem_of_getElem? hw), fun x => by
    rw [look_setA, h.look]
    by_cases c : w = x
    · subst c; simp
    · rw [if_neg c]
      have : (x ∈ ks ++ [w]) ↔ x ∈ ks := by
        rw [List.mem_append, List.mem_singleton]
        exact ⟨fun e => e.elim id fun e => absurd e.symm c, .inl⟩
      by_cases d : x ∈ ks
      · rw [if_pos d, if_pos (this.2 d)]
      · rw [if_neg d, if_neg (fun e => d (this.1 e))]⟩
theorem Si.done {m : At} {a b v : Vx} {D ks todo : List Vx} {S : List (Vx × Int)} (h : Si m a b v (nx m v).length D ks todo S) : Sk m a b (v :: D) ks todo S :=
  ⟨h.nd, h.perm, fun x hx => by
    rcases List.mem_cons.1 hx with e | e
    · rw [e]
      exact ⟨fun hb => (h.now b (by rw [List.take_length]; exact hb)).1 rfl, fun w hw => (h.now w (by rw [List.take_length]; exact hw)).2⟩
    · exact h.cl x e, h.rch, h.look⟩
theorem OwnS.pop {size : Nat} {e : List LV} {es : List (List LV)} {A : Option Nat} {off n c : Nat} {xs : List LV} (h : OwnS size (es ++ [e]) A off n c xs) : OwnS size es A off (n - 1) c xs ∧ (xs.drop (off + (n - 1) * size)).take size = e ∧ 0 < n := by
  have hn : n = es.length + 1 := by have := h.cnt; rw [List.length_append, List.length_singleton] at this; omega
  have he : e.length = size := h.sz e (by simp)
  have hf : es.flatten.length = (n - 1) * size := by
    rw [flat_len fun x hx => h.sz x (List.mem_append_left _ hx), hn]; rfl
  have hc := h.cells
  rw [List.flatten_append] at hc
  have hns : n * size = (n - 1) * size + size := by rw [hn, Nat.succ_mul]; rfl
  refine ⟨⟨by omega, by have := h.le; omega, h.len, ?_, fun x hx => h.sz x (List.mem_append_left _ hx), h.nil⟩, ?_, by omega⟩
  · have h2 := congrArg (List.take ((n - 1) * size)) hc
    rw [List.take_take, Nat.min_eq_left (by omega), List.take_left' hf] at h2
    exact h2
  · have h2 := congrArg (List.drop ((n - 1) * size)) hc
    rw [List.drop_left' hf, List.drop_take, List.drop_drop, hns, Nat.add_sub_cancel_left] at h2
    simpa using h2
end Go.Proofs.YtolpkeajokjbjaaDoor
namespace Go.Proofs.YtolpkeajokjbjaaDoor
open Go.RowKit Go.L
attribute [local irreducible] LL LW LO
abbrev sE (n : Int) : LV := i64 n
theorem seen_is (S : List (Vx × Int)) (ks : List Vx) (h : ∀ w, lookA S w = if w ∈ ks then some 1 else none) (w : Vx) : (lookM (encM sE S) w).getD (.raw (.int .i64 0)) = i64 (if w ∈ ks then 1 else 0) := by
  rw [look_enc, h]
  split <;> rfl
theorem own1 (a : Vx) (b : Nat) : OwnS 33 (vxs [a]) (some b) 0 1 1 [vxL a].flatten := by
  rw [show [vxL a].flatten = vxL a by simp]
  exact ⟨rfl, Nat.le_refl _, by rw [vxL_len]; decide, by rw [List.drop_zero, List.take_of_length_le (by rw [vxL_len]; decide)]; simp, vxs_size [a], fun h => by cases h⟩
theorem sliced0 (b off n c : Nat) : sliced ((some b).map fun b => (⟨b, off, none⟩ : Addr)) 0 n c 33 = .slice (some ⟨b, off, none⟩) n c := by
  unfold sliced
  by_cases h : c = 0
  · rw [if_pos h]; rfl
  · rw [if_neg h]; simp [add_lit]
set_option maxHeartbeats 2000000 in
set_option maxRecDepth 100000 in
theorem ahead_calls (g ma mb : Nat) (n : Int) (m : At) (a b : Vx) (t : Bool) (hT : (allN m).length < 900000) (hN : ∀ v, (nx m v).length < 900000) (ht : t = true ↔ (lookA m a).isSome = true ∧ (lookA m b).isSome = true ∧ Rch (nx m) a b) : LCalls Tryd.prog 21 [pt g, .agg (vxL a), .agg (vxL b)] [gC g ma mb n, gA ma m] (fun r H' => r = bl t ∧ H' = [gC g ma mb n, gA ma m]) := by
  have hal := vxL_len a
  have hbl := vxL_len b
  have ha32 : a.p.1.length = 32 := a.p.2
  have hb32 : b.p.1.length = 32 := b.p.2
  refine LCalls.of Tryd.func21 rfl Tryd.ntmps21 Tryd.results21 rfl (fun Rf => ?_)
  refine LW.seq ?_
  refine LW.region ?_
  refine X.act (X.box rfl Is.rfl' (by exact Cells.agg) (fun b4 => ?_))
  refine X.act (X.box rfl Is.rfl' (by exact Cells.agg) (fun b5 => ?_))
  refine X.u (LU.assignR Is.rfl') rfl ?_
  refine LL.nil (after_code ?_)
  refine LW.seq ?_
  refine LW.seq ?_
  refine LW.region ?_
  refine X.u (LU.moveR Is.rfl') rfl ?_
  refine X.u (LU.loadO 1 rfl ⟨Tryd.sizeOf35, Tryd.isAgg35⟩ Is.rfl' (Part.whole (by assumption))) rfl ?_
  refine X.u (LU.callP (show List.Perm _ ([gC g ma mb n, gA ma m] ++ (.cells b5 35 (vxL b) :: .cells b4 35 (vxL a) :: Rf)) from perm_of fun x => (by simp only [List.count_append, List.count_cons, List.count_nil]; omega)) (has_calls g ma mb n m a) Tryd.func20 rfl rfl (Opds.cons Is.rfl' (Opds.cons Is.rfl' Opds.nil))) rfl ?_
  refine X.u (LU.not Is.rfl') rfl ?_
  refine X.u (LU.moveR Is.rfl') rfl ?_
  refine X.gF rfl rfl (fun hg => LU.moveR (by exact Is.rfl')) rfl ?_
  refine X.gF rfl rfl (fun hg => LU.loadO 0 rfl ⟨Tryd.sizeOf35, Tryd.isAgg35⟩ (by exact Is.rfl') (Part.whole (by assumption))) rfl ?_
  refine X.gF rfl rfl (fun hg => LU.callP (show List.Perm _ ([gC g ma mb n, gA ma m] ++ (.cells b5 35 (vxL b) :: .cells b4 35 (vxL a) :: Rf)) from perm_of fun x => (by simp only [List.count_append, List.count_cons, List.count_nil]; omega)) (has_calls g ma mb n m b) Tryd.func20 rfl rfl (Opds.cons (by exact Is.whenN hg) (Opds.cons (by exact Is.whenN hg) Opds.nil))) rfl ?_
  refine X.gF rfl rfl (fun hg => LU.not (by exact Is.whenN hg)) rfl ?_
  refine X.u (LU.pickOr Is.rfl' Is.rfl' (fun hq => (by exact Is.whenN hq))) rfl ?_
  refine LL.nil (after_code ?_)
  refine X.cond rfl (fun h1 => ?_) (fun h1 => ?_)
  · have h1 : (lookA m a).isSome = false ∨ (lookA m b).isSome = false := by simpa using h1
    have htf : t = false := Bool.eq_false_iff.2 (fun e => by obtain ⟨x1, x2, _⟩ := ht.1 e; rcases h1 with e | e <;> simp_all)
    refine LW.seq ?_
    refine LW.region ?_
    refine X.u (LU.assignR Is.rfl') rfl ?_
    refine LL.nil (after_code ?_)
    refine LW.ret (ret_code (after_end ?_))
    refine X.ret (H' := [gC g ma mb n, gA ma m]) (Res.one (by exact IsR rfl)) (by repeat (first | exact HSub.refl _ | refine HSub.pick 2 rfl ?_ | refine HSub.drop ?_)) ?_
    exact ⟨by rw [htf], rfl⟩
  · have h1 : (lookA m a).isSome = true ∧ (lookA m b).isSome = true := by simpa using h1
    have hz0 : (0 : Nat) = 0 := rfl
    refine LW.skip (after_code ?_)
    refine LW.seq ?_
    refine LW.region ?_
    refine X.act (LO.makeMap (st := ⟨_, _, _⟩) rfl (fun b22 => ?_))
    refine X.u (LU.assignR Is.rfl') rfl ?_
    refine LL.nil (after_code ?_)
    refine LW.seq ?_
    refine LW.region ?_
    refine X.u (LU.loadO 2 rfl ⟨Tryd.sizeOf35, Tryd.isAgg35⟩ Is.rfl' (Part.whole (by assumption))) rfl ?_
    refine X.act (X.litO rfl Tryd.underlying26 Tryd.sizeOf35 Tryd.zeroValue35 (ones rfl) rfl (by decide) (by decide) (Elems.cons Is.rfl' Cells.agg Elems.nil) (by intro e he; rw [List.mem_singleton.1 he]; exact hal) rfl (fun b24 => ?_))
    refine X.u (LU.assignR Is.rfl') rfl ?_
    refine LL.nil (after_code ?_)
    refine LW.seq ?_
    refine LW.block ?_
    refine X.wghost (H' := .map b22 (mp vxV (encM sE [])) :: .cells b5 35 (vxL b) :: gC g ma mb n :: gA ma m :: .cells b24 35 [vxL a].flatten :: Rf) (by repeat (first | exact HSub.refl _ | refine HSub.pick 0 rfl ?_ | refine HSub.pick 1 rfl ?_ | refine HSub.pick 2 rfl ?_ | refine HSub.drop ?_)) ?_
    refine X.loopK (α := List Vx × List Vx × List Vx × List (Vx × Int) × Nat × TypeId × Nat × Nat × List LV) (fun ⟨D, ks, todo, S, bA, te, off, c, xs⟩ => [(8, ownV (some bA) off todo.length c)]) [0, 5, 7] (fun ⟨D, ks, todo, S, bA, te, off, c, xs⟩ => .map b22 (mp vxV (encM sE S)) :: .cells b5 35 (vxL b) :: gC g ma mb n :: gA ma m :: .cells bA te xs :: Rf) (fun ⟨D, ks, todo, S, bA, te, off, c, xs⟩ => Sk m a b D ks todo S ∧ OwnS 33 (vxs todo) (some bA) off todo.length c xs) (fun ⟨D, ks, todo, S, bA, te, off, c, xs⟩ => 2 * ((allN m).length - ks.length) + todo.length) (([], [], [a], [], b24, 35, 0, 1, [vxL a].flatten)) (EnvLe.cons (by rfl) (EnvLe.nil)) (by repeat (exact HSub.refl _)) ?_ ?_
    · exact ⟨⟨List.nodup_nil, List.Perm.refl _, (fun v hv => by cases hv), (fun v hv => by cases hv), fun w => rfl⟩, own1 a b24⟩
    · rintro ⟨D, ks, todo, S, bA, te, off, c, xs⟩ hI
      obtain ⟨hS, ow⟩ := hI
      have hsl := hS.len
      refine LW.seq ?_
      refine LW.seq ?_
      refine LW.region ?_
      refine X.u (LU.moveR Is.rfl') rfl ?_
      refine X.u (LU.lenO Tryd.underlying26 Is.rfl') rfl ?_
      refine X.u (LU.gtr Is.rfl' Is.rfl') rfl ?_
      refine LL.nil (after_code ?_)
      refine X.cond rfl (fun h5 => ?_) (fun h5 => ?_)
      · obtain ⟨td, v, htd⟩ : ∃ td v, todo = td ++ [v] := ⟨todo.dropLast, todo.getLast (by intro e; rw [e] at h5; simp at h5), (List.dropLast_concat_getLast _).symm⟩
        have hvl := vxL_len v
        have hv32 : v.p.1.length = 32 := v.p.2
        have htl : todo.length = td.length + 1 := by rw [htd, List.length_append]; rfl
        have hS0 := hS
        rw [htd] at hS0
        have hpop := hS0.pop
        have ow0 := ow
        rw [htd, ← vxs_app] at ow0
        obtain ⟨owp, hlast, hn0⟩ := OwnS.pop ow0
        rw [List.length_append, List.length_singleton, Nat.add_sub_cancel] at hlast
        have howl := ow.len
        have howle := ow.le
        have hbd : off + td.length * 33 + 33 ≤ xs.length := by omega
        refine LW.skip (after_code ?_)
        refine LW.block ?_
        refine LW.seq ?_
        refine LW.region ?_
        refine X.u (LU.moveR Is.rfl') rfl ?_
        refine X.u (LU.moveR Is.rfl') rfl ?_
        refine X.u (LU.lenO Tryd.underlying26 Is.rfl') rfl ?_
        refine X.u (LU.weak (LU.subN Is.rfl' Is.rfl' (wrap_i64 (by omega) (by omega))) (Is.of (y := i64 (td.length : Nat)) (congrArg i64 (by omega)))) rfl ?_
        refine X.u (LU.atO Tryd.underlying26 Tryd.sizeOf35 Is.rfl' Is.rfl' (by omega) (by omega)) rfl ?_
        refine X.u (LU.weak (LU.loadO 4 rfl ⟨Tryd.sizeOf35, Tryd.isAgg35⟩ Is.rfl' (Part.sub (by (simp; omega)))) (Is.of (y := .agg (vxL v)) (congrArg LV.agg hlast))) rfl ?_
        refine X.act (X.alloc rfl Tryd.zeroValue35 (by exact Cells.rawagg (by decide)) (fun b9 => ?_))
        refine X.act (X.store 0 rfl Tryd.sizeOf35 Is.rfl' Is.rfl' (by exact Cells.agg) (by assumption) (by exact Nat.le_of_ble_eq_true rfl) ?_)
        refine LL.nil (after_code ?_)
        refine LW.seq ?_
        refine X.wcells (ys := vxL v) (putAt_all (by rw [hvl]; rfl)) ?_
        refine LW.region ?_
        refine X.u (LU.moveR Is.rfl') rfl ?_
        refine X.u (LU.moveR Is.rfl') rfl ?_
        refine X.u (LU.lenO Tryd.underlying26 Is.rfl') rfl ?_
        refine X.u (LU.weak (LU.subN Is.rfl' Is.rfl' (wrap_i64 (by omega) (by omega))) (Is.of (y := i64 (td.length : Nat)) (congrArg i64 (by omega)))) rfl ?_
        refine X.u (LU.weak (LU.sliceR (l := none) (h := some ((td.length : Nat) : Int)) Tryd.sizeOf35 Tryd.underlying26 Is.rfl' trivial ⟨_, Is.rfl'⟩ (by simp) (by simp) (by simp; omega) (by omega)) (Is.of (y := ownV (some bA) off td.length c) (congrArg LV.raw ((sliced0 bA off _ c).trans (by simp))))) rfl ?_
        refine X.u (LU.assignR Is.rfl') rfl ?_
        refine LL.nil (after_code ?_)
        refine LW.seq ?_
        refine X.drawM 9 rfl (by kernel_rfl) rfl ?_
        refine QD.u (LU.moveR Is.rfl') rfl ?_
        refine QD.u (LU.nilCheck Is.rfl') rfl ?_
        refine QD.u (LU.fieldO Tryd.underlying68 rfl Tryd.sizeOf65 (by decide) Is.rfl') rfl ?_
        refine QD.u (LU.loadO 3 rfl ⟨Tryd.sizeOf65, Tryd.isAgg65⟩ Is.rfl' (Part.one rfl)) rfl ?_
        refine QD.u (LU.loadO 0 rfl ⟨Tryd.sizeOf35, Tryd.isAgg35⟩ Is.rfl' (Part.whole (by assumption))) rfl ?_
        refine QD.u (LU.weak (LU.lookup 4 (KeyOk.vx vxty) rfl Tryd.underlying65 Tryd.zeroValue73 Is.rfl' (by exact Is.vx _)) (at_is m v)) rfl ?_
        refine QD.u (LU.field Tryd.underlying73 rfl ⟨Tryd.sizeOf26, Tryd.isAgg26⟩ Is.rfl' (Part.one rfl)) rfl ?_
        refine QD.u (LU.lenN Tryd.underlying26 Is.rfl' (by (simp only [Option.getD_some, Option.getD_none, byteEls_length, intEls_length, List.length_append, List.length_cons, List.length_nil, List.length_map, List.length_drop, List.length_take, Int.toNat_natCast]; rfl))) rfl ?_
        refine QD.u (LU.moveR Is.rfl') rfl ?_
        refine QD.nil ?_
        refine LL.nil (after_code ?_)
        refine LW.block ?_
        refine X.wghost (H' := .map b22 (mp vxV (encM sE S)) :: .cells b5 35 (vxL b) :: gC g ma mb n :: gA ma m :: .cells bA te xs :: Rf) (by repeat (first | exact HSub.refl _ | refine HSub.pick 1 rfl ?_ | refine HSub.drop ?_)) ?_
        refine X.loopK (α := Nat × List Vx × List Vx × List (Vx × Int) × Nat × TypeId × Nat × Nat × List LV) (fun ⟨j, ks2, td2, S2, bB, te2, off2, c2, xs2⟩ => [(47, i64 j), (8, ownV (some bB) off2 td2.length c2)]) [0, 5, 7, 45, 46] (fun ⟨j, ks2, td2, S2, bB, te2, off2, c2, xs2⟩ => .map b22 (mp vxV (encM sE S2)) :: .cells b5 35 (vxL b) :: gC g ma mb n :: gA ma m :: .cells bB te2 xs2 :: Rf) (fun ⟨j, ks2, td2, S2, bB, te2, off2, c2, xs2⟩ => j ≤ (atG m v).next.length ∧ Si m a b v j D ks2 td2 S2 ∧ OwnS 33 (vxs td2) (some bB) off2 td2.length c2 xs2 ∧ ks.length ≤ ks2.length ∧ td2.length + ks.length = td.length + ks2.length) (fun ⟨j, ks2, td2, S2, bB, te2, off2, c2, xs2⟩ => (atG m v).next.length - j) ((0, ks, td, S, bA, te, off, c, xs)) (EnvLe.cons (by rfl) (EnvLe.cons (by rfl) (EnvLe.nil))) (by repeat (exact HSub.refl _)) ?_ ?_
        · exact ⟨Nat.zero_le _, hpop, (by rw [show td.length = (td ++ [v]).length - 1 by simp]; exact owp), Nat.le_refl _, rfl⟩
        · rintro ⟨j, ks2, td2, S2, bB, te2, off2, c2, xs2⟩ hI
          obtain ⟨hj, hS2, ow2, hkk, htk⟩ := hI
          have hNv : (atG m v).next.length < 900000 := hN v
          have hks2 := nodup_len hS2.nd fun x hx => by obtain ⟨y, hy⟩ := (hS2.rch x hx).last; exact nx_all hy
          have htd2 : td2.length ≤ ks2.length + 1 := by have := hS2.perm.length_eq; rw [List.length_append, List.length_cons, List.length_cons] at this; omega
          refine LW.seq ?_
          refine LW.region ?_
          refine X.u (LU.lss Is.rfl' Is.rfl') rfl ?_
          refine LL.nil (after_code ?_)
          refine LW.seq ?_
          refine X.cond rfl (fun h9 => ?_) (fun h9 => ?_)
          · try have h9 := of_decide_eq_true h9
            refine LW.skip (after_code ?_)
            refine LW.seq ?_
            refine LW.block ?_
            refine LW.seq ?_
            obtain ⟨w, hw⟩ := at_lt (show j < (atG m v).next.length by omega)
            have hwl := vxL_len w
            have hw32 : w.p.1.length = 32 := w.p.2
            refine LW.region ?_
            refine X.u (LU.at Tryd.underlying26 ⟨Tryd.sizeOf35, Tryd.isAgg35⟩ Is.rfl' Is.rfl' (by omega) (vxs_at hw) (vx_ne w)) rfl ?_
            refine X.u (LU.weak (LU.load ⟨Tryd.sizeOf35, Tryd.isAgg35⟩ Is.rfl' (by assumption) (Part.whole (by assumption))) (Is.of (y := .agg (vxL w)) (rfl))) rfl ?_
            refine X.act (X.alloc rfl Tryd.zeroValue35 (by exact Cells.rawagg (by decide)) (fun b11 => ?_))
            refine X.act (X.store 0 rfl Tryd.sizeOf35 Is.rfl' Is.rfl' (by exact Cells.agg) (by assumption) (by exact Nat.le_of_ble_eq_true rfl) ?_)
            refine LL.nil (after_code ?_)
            refine LW.seq ?_
            refine LW.seq ?_
            refine X.wcells (ys := vxL w) (putAt_all (by rw [hwl]; rfl)) ?_
            refine X.wghost (H' := .map b22 (mp vxV (encM sE S2)) :: .cells b11 35 (vxL w) :: .cells b5 35 (vxL b) :: gC g ma mb n :: gA ma m :: .cells bB te2 xs2 :: Rf) (by repeat (first | exact HSub.refl _ | refine HSub.pick 1 rfl ?_)) ?_
            refine LW.region ?_
            refine X.u (LU.loadO 1 rfl ⟨Tryd.sizeOf35, Tryd.isAgg35⟩ Is.rfl' (Part.whole (by assumption))) rfl ?_
            refine X.u (LU.loadO 2 rfl ⟨Tryd.sizeOf35, Tryd.isAgg35⟩ Is.rfl' (Part.whole (by assumption))) rfl ?_
            refine X.u (LU.eqlVx vxty Is.rfl' Is.rfl') rfl ?_
            refine LL.nil (after_code ?_)
            refine X.cond rfl (fun h11 => ?_) (fun h11 => ?_)
            · have h11 : w = b := by simpa using h11
              have htt : t = true := ht.2 ⟨h1.1, h1.2, by rw [← h11]; exact hS2.mem (List.mem_of_getElem? hw)⟩
              refine LW.seq ?_
              refine LW.region ?_
              refine X.u (LU.assignR Is.rfl') rfl ?_
              refine LL.nil (after_code ?_)
              refine LW.ret (ret_code (ret_blk (ret_code (ret_rnd (ret_blk (ret_blk (ret_rnd (ret_blk (ret_code (after_end ?_))))))))))
              refine X.ret (H' := [gC g ma mb n, gA ma m]) (Res.one (by exact IsR rfl)) (by repeat (first | exact HSub.refl _ | refine HSub.pick 3 rfl ?_ | refine HSub.drop ?_)) ?_
              exact ⟨by rw [htt], rfl⟩
            · have h11 : w ≠ b := by simpa using h11
              have hz0 : (0 : Nat) = 0 := rfl
              refine LW.skip (after_code ?_)
              refine LW.seq ?_
              refine LW.region ?_
              refine X.u (LU.moveR Is.rfl') rfl ?_
              refine X.u (LU.loadO 1 rfl ⟨Tryd.sizeOf35, Tryd.isAgg35⟩ Is.rfl' (Part.whole (by assumption))) rfl ?_
              refine X.u (LU.weak (LU.lookup 0 (KeyOk.vx vxty) rfl Tryd.underlying87 Tryd.zeroValue3 Is.rfl' (by exact Is.vx _)) (Is.of (y := i64 (if w ∈ ks2 then 1 else 0)) (seen_is S2 ks2 hS2.look w))) rfl ?_
              refine X.u (LU.eql Is.rfl' Is.rfl') rfl ?_
              refine LL.nil (after_code ?_)
              refine X.cond rfl (fun h13 => ?_) (fun h13 => ?_)
              · have h13 : w ∉ ks2 := fun c => by rw [if_pos c] at h13; simp at h13
                have hz0 : (0 : Nat) = 0 := rfl
                refine LW.seq ?_
                refine LW.region ?_
                refine X.u (LU.moveR Is.rfl') rfl ?_
                refine X.u (LU.loadO 1 rfl ⟨Tryd.sizeOf35, Tryd.isAgg35⟩ Is.rfl' (Part.whole (by assumption))) rfl ?_
                refine X.act (LO.mapUpdate (st := ⟨_, _, _⟩) 0 (KeyOk.vx vxty) rfl Tryd.underlying87 Is.rfl' (by exact Is.vx _) Is.rfl' ?_)
                refine LL.nil (after_code ?_)
                refine X.wghost (H' := .map b22 (mp vxV (encM sE (setA S2 w 1))) :: .cells b11 35 (vxL w) :: .cells b5 35 (vxL b) :: gC g ma mb n :: gA ma m :: .cells bB te2 xs2 :: Rf) (by rw [← set_enc sE]; exact (by repeat (exact HSub.refl _))) ?_
                refine LW.region ?_
                refine X.u (LU.moveR Is.rfl') rfl ?_
                refine X.u (LU.loadO 1 rfl ⟨Tryd.sizeOf35, Tryd.isAgg35⟩ Is.rfl' (Part.whole (by assumption))) rfl ?_
                refine X.u (LU.lits Tryd.underlying26 Tryd.sizeOf35 Tryd.zeroValue35 (ones rfl) rfl (by decide) (by decide) (Elems.cons Is.rfl' (by exact Cells.agg) Elems.nil) (by (simp; assumption)) rfl) rfl ?_
                refine X.act (X.appendR ow2 (HSub.pick 5 rfl (HSub.refl _)) rfl Tryd.underlying26 (El.of (P := Tryd.prog) (z := (.agg #[(.int .u8 0), (.int .u8 0), (.int .u8 0), (.int .u8 0), (.int .u8 0), (.int .u8 0), (.int .u8 0), (.int .u8 0), (.int .u8 0), (.int .u8 0), (.int .u8 0), (.int .u8 0), (.int .u8 0), (.int .u8 0), (.int .u8 0), (.int .u8 0), (.int .u8 0), (.int .u8 0), (.int .u8 0), (.int .u8 0), (.int .u8 0), (.int .u8 0), (.int .u8 0), (.int .u8 0), (.int .u8 0), (.int .u8 0), (.int .u8 0), (.int .u8 0), (.int .u8 0), (.int .u8 0), (.int .u8 0), (.int .u8 0), (.int .i64 0)])) (size := 33) (bytes := 40) rfl rfl rfl) (ones rfl) Is.rfl' Is.rfl' (SrcL.slice Tryd.underlying26 (by decide) (vxs_size [w])) (by simp) (by simp; omega) (by simp; omega) (fun b63 te63 off63 c63 xs63 ow63 => ?_))
                refine X.u (LU.assignR Is.rfl') rfl ?_
                refine LL.nil (after_blk (after_code ?_))
                refine LW.region ?_
                refine X.u (LU.addN Is.rfl' Is.rfl' (wrap_i64 (by omega) (by omega))) rfl ?_
                refine X.u (LU.moveR Is.rfl') rfl ?_
                refine LL.nil (after_rnd ?_)
                refine X.next ((j + 1, ks2 ++ [w], td2 ++ [w], setA S2 w 1, b63, te63, off63, c63, xs63)) rfl (EnvLe.cons (by rfl) (EnvLe.cons (by exact (by rw [List.length_append]; rfl)) (EnvLe.nil))) (Keeps.cons (by exact Eq.trans (b := .raw _) rfl rfl) (Keeps.cons (by exact Eq.trans (b := .raw _) rfl rfl) (Keeps.cons (by exact Eq.trans (b := .raw _) rfl rfl) (Keeps.cons (by exact Eq.trans (b := .sl _ _ _) rfl rfl) (Keeps.cons (by exact Eq.trans (b := .raw _) rfl rfl) (Keeps.nil)))))) (by repeat (first | exact HSub.refl _ | refine HSub.pick 0 rfl ?_ | refine HSub.pick 1 rfl ?_ | refine HSub.pick 2 rfl ?_ | refine HSub.drop ?_)) ?_ ?_
                · exact ⟨by omega, hS2.new hw h11 h13, by rw [← vxs_app, List.length_append]; exact ow63, by rw [List.length_append]; omega, by rw [List.length_append, List.length_append]; omega⟩
                · (simp; omega)
              · have h13 : w ∈ ks2 := Classical.byContradiction fun c => by rw [if_neg c] at h13; simp at h13
                have hz0 : (0 : Nat) = 0 := rfl
                refine LW.skip (after_blk (after_code ?_))
                refine LW.region ?_
                refine X.u (LU.addN Is.rfl' Is.rfl' (wrap_i64 (by omega) (by omega))) rfl ?_
                refine X.u (LU.moveR Is.rfl') rfl ?_
                refine LL.nil (after_rnd ?_)
                refine X.next ((j + 1, ks2, td2, S2, bB, te2, off2, c2, xs2)) rfl (EnvLe.cons (by rfl) (EnvLe.cons (by rfl) (EnvLe.nil))) (Keeps.cons (by exact Eq.trans (b := .raw _) rfl rfl) (Keeps.cons (by exact Eq.trans (b := .raw _) rfl rfl) (Keeps.cons (by exact Eq.trans (b := .raw _) rfl rfl) (Keeps.cons (by exact Eq.trans (b := .sl _ _ _) rfl rfl) (Keeps.cons (by exact Eq.trans (b := .raw _) rfl rfl) (Keeps.nil)))))) (by repeat (first | exact HSub.refl _ | refine HSub.pick 0 rfl ?_ | refine HSub.pick 1 rfl ?_ | refine HSub.drop ?_)) ?_ ?_
                · exact ⟨by omega, hS2.old hw h11 h13, ow2, hkk, htk⟩
                · (simp; omega)
          · try have h9 := of_decide_eq_false h9
            refine LW.exit (exit_code (exit_rnd (exit_blk (after_blk (after_rnd ?_)))))
            refine X.next ((v :: D, ks2, td2, S2, bB, te2, off2, c2, xs2)) rfl (EnvLe.cons (by rfl) (EnvLe.nil)) (Keeps.cons (by exact Eq.trans (b := .raw _) rfl rfl) (Keeps.cons (by exact Eq.trans (b := .raw _) rfl rfl) (Keeps.cons (by exact Eq.trans (b := .raw _) rfl rfl) (Keeps.nil)))) (by repeat (exact HSub.refl _)) ?_ ?_
            · exact ⟨(by rw [show j = (atG m v).next.length by omega] at hS2; exact hS2.done), ow2⟩
            · (simp; omega)
      · have h5 : todo = [] := by simp at h5; exact h5
        have htf : t = false := Bool.eq_false_iff.2 (fun e => by rw [h5] at hS; exact hS.none (ht.1 e).2.2)
        refine LW.exit (exit_code (exit_rnd (exit_blk (after_code ?_))))
        refine LW.seq ?_
        refine LW.region ?_
        refine X.u (LU.assignR Is.rfl') rfl ?_
        refine LL.nil (after_code ?_)
        refine LW.ret (after_end ?_)
        refine X.ret (H' := [gC g ma mb n, gA ma m]) (Res.one (by exact IsR rfl)) (by repeat (first | exact HSub.refl _ | refine HSub.pick 2 rfl ?_ | refine HSub.drop ?_)) ?_
        exact ⟨by rw [htf], rfl⟩
end Go.Proofs.YtolpkeajokjbjaaDoor
namespace Go.Proofs.YtolpkeajokjbjaaDoor
open Go.RowKit Go.L
attribute [local irreducible] LL LW LO
abbrev strsL (l : List (List UInt8)) : List (List LV) := l.map fun s => [Str s]
theorem strsL_at {l : List (List UInt8)} {i : Nat} {x : List UInt8} (h : l[i]? = some x) : (strsL l)[(i : Int).toNat]? = some [Str x] := by
  rw [Int.toNat_natCast, List.getElem?_map, h]; rfl
theorem laid_pt {a b zs : List LV} {c : LV} (ha : a.length = 33) (hb : b.length = 33) (hz : zs.length = 67) : laid (#[(0, 33), (33, 33), (66, 1)][·]?) zs [(0, a), (1, b), (2, [c])] = some (a ++ (b ++ [c])) := by
  have h1 : putAt zs 0 a = a ++ zs.drop 33 := by simp [putAt, ha]
  have h2 : putAt (a ++ zs.drop 33) 33 b = a ++ (b ++ zs.drop 66) := by
    unfold putAt
    rw [List.take_left' ha, hb, ← List.drop_drop (i := 33) (j := 33), List.drop_left' ha, List.drop_drop, List.append_assoc]
  have h3 : putAt (a ++ (b ++ zs.drop 66)) 66 [c] = a ++ (b ++ [c]) := by
    unfold putAt
    rw [show a ++ (b ++ zs.drop 66) = (a ++ b) ++ zs.drop 66 by simp, List.take_left' (by simp [ha, hb]), List.drop_of_length_le (by simp [ha, hb, hz])]
    simp
  have l1 : (a ++ zs.drop 33).length = 67 := by simp [ha, hz]
  have l2 : (a ++ (b ++ zs.drop 66)).length = 67 := by simp [ha, hb, hz]
  show (bif (Nat.beq a.length 33 && Nat.ble (0 + a.length) zs.length) then laid _ (putAt zs 0 a) [(1, b), (2, [c])] else none) = _
  rw [ha, hz, h1]
  show (bif (Nat.beq b.length 33 && Nat.ble (33 + b.length) (a ++ zs.drop 33).length) then laid _ (putAt (a ++ zs.drop 33) 33 b) [(2, [c])] else none) = _
  rw [hb, l1, h2]
  show (bif (Nat.beq 1 1 && Nat.ble (66 + 1) (a ++ (b ++ zs.drop 66)).length) then laid _ (putAt (a ++ (b ++ zs.drop 66)) 66 [c]) [] else none) = _
  rw [l2, h3]
  rfl
theorem has_fn (g ma mb : Nat) (n : Int) (m : At) (v : Vx) : FnCalls Tryd.prog (.func (.func 20) #[.pointer (some ⟨g, 0, none⟩)] #[]) [.agg (vxL v)] [gC g ma mb n, gA ma m] (fun r H' => r = bl (lookA m v).isSome ∧ [gC g ma mb n, gA ma m] = H') :=
  FnCalls.bound Tryd.func20 rfl rfl ((has_calls g ma mb n m v).mono fun r H' ⟨a, b⟩ => ⟨a, b.symm⟩)
/-- New lines, laid into the map. -/
def layA (m : At) (part : Int) : List Vx → List (List UInt8) → At
  | v :: vs, t :: ts => layA (setA m v ⟨t, [], part, [], []⟩) part vs ts
  | _, _ => m
theorem lay_snoc (part : Int) : ∀ (vs : List Vx) (ts : List (List UInt8)) (m : At) (v : Vx) (t : List UInt8), vs.length = ts.length → layA m part (vs ++ [v]) (ts ++ [t]) = setA (layA m part vs ts) v ⟨t, [], part, [], []⟩
  | [], [], m, v, t, _ => rfl
  | [], _ :: _, m, v, t, h => by cases h
  | _ :: _, [], m, v, t, h => by cases h
  | a :: vs, b :: ts, m, v, t, h => lay_snoc part vs ts _ v t (by simpa using h)
theorem Sz.lay {k : Nat} (part : Int) : ∀ (vs : List Vx) (ts : List (List UInt8)) {m : At}, Sz m k → Sz (layA m part vs ts) k
  | [], _, m, h => by unfold layA; exact h
  | _ :: _, [], m, h => by unfold layA; exact h
  | v :: vs, t :: ts, m, h => Sz.lay part vs ts fun x => by
    rw [atG_set]
    split
    · exact ⟨Nat.zero_le _, Nat.zero_le _⟩
    · exact h x
def addE (m : At) (up down : Vx) (ids : List Vx) (ts : List (List UInt8)) (t : Bool) : Nat :=
  if (wrongB ids || !decide ((ts.length : Int) = ids.length)) = true then 2 else if ids.any (fun v => (lookA m v).isSome) = true then 110 else if (!(lookA m up).isSome || !(lookA m down).isSome) = true then 111 else if (!t) = true then 112 else if 512 < (m.length : Int) - 2 + ids.length then 3 else 0
def addM (m : At) (part : Int) (up down : Vx) (ids : List Vx) (ts : List (List UInt8)) : At := chainF stepA (layA m part ids ts) up ids down
theorem gP_set (mb : Nat) (q : Ps) (a : Int) (x : Pt) : Atom.map mb (mp intK (setM (encM ptE q) a (ptE x))) = gP mb (setA q a x) := by rw [set_enc]
theorem lay_is (t : List UInt8) (n : Int) : Is (.agg [Str t, .raw (.slice none 0 0), i64 n, .raw (.slice none 0 0), .raw (.slice none 0 0)]) (lnE ⟨t, [], n, [], []⟩) := Is.agg rfl fun i x y hx hy => by
  match i, hx, hy with
  | 0, hx, hy => cases hx; cases hy; exact Is.rfl'
  | 1, hx, hy => cases hx; cases hy; exact (Is.nil 32).trans Is.unk
  | 2, hx, hy => cases hx; cases hy; exact Is.rfl'
  | 3, hx, hy => cases hx; cases hy; exact (Is.nil 33).trans Is.unk
  | 4, hx, hy => cases hx; cases hy; exact (Is.nil 33).trans Is.unk
end Go.Proofs.YtolpkeajokjbjaaDoor
namespace Go.Proofs.YtolpkeajokjbjaaDoor
open Go.RowKit Go.L
attribute [local irreducible] LL LW LO LP LA
abbrev z82 : Value := (.agg #[(.int .u8 0), (.int .u8 0), (.int .u8 0), (.int .u8 0), (.int .u8 0), (.int .u8 0), (.int .u8 0), (.int .u8 0), (.int .u8 0), (.int .u8 0), (.int .u8 0), (.int .u8 0), (.int .u8 0), (.int .u8 0), (.int .u8 0), (.int .u8 0), (.int .u8 0), (.int .u8 0), (.int .u8 0), (.int .u8 0), (.int .u8 0), (.int .u8 0), (.int .u8 0), (.int .u8 0), (.int .u8 0), (.int .u8 0), (.int .u8 0), (.int .u8 0), (.int .u8 0), (.int .u8 0), (.int .u8 0), (.int .u8 0), (.int .i64 0), (.int .u8 0), (.int .u8 0), (.int .u8 0), (.int .u8 0), (.int .u8 0), (.int .u8 0), (.int .u8 0), (.int .u8 0), (.int .u8 0), (.int .u8 0), (.int .u8 0), (.int .u8 0), (.int .u8 0), (.int .u8 0), (.int .u8 0), (.int .u8 0), (.int .u8 0), (.int .u8 0), (.int .u8 0), (.int .u8 0), (.int .u8 0), (.int .u8 0), (.int .u8 0), (.int .u8 0), (.int .u8 0), (.int .u8 0), (.int .u8 0), (.int .u8 0), (.int .u8 0), (.int .u8 0), (.int .u8 0), (.int .u8 0), (.int .i64 0), (.slice none 0 0)])
abbrev H5 (g ma mb : Nat) (n : Int) (m : At) (q : Ps) : List Atom := [gC g ma mb n, gA ma m, gP mb q, kb]
set_option maxHeartbeats 4000000 in
set_option maxRecDepth 100000 in
theorem add_calls (g ma mb : Nat) (n : Int) (m : At) (q : Ps) (up down : Vx) (ids : List Vx) (ts : List (List UInt8)) (k1 k2 : Cap) (t : Bool) (k : Nat) (hT : (allN m).length < 900000) (hz : Sz m k) (hk : k < 100000) (hm : m.length < 100000) (hn0 : 0 ≤ n) (hn : n < 100000) (hi : ids.length < 100000) (hts : ts.length < 100000) (ht : (lookA m up).isSome = true → (lookA m down).isSome = true → (t = true ↔ Rch (nx m) up down)) :
    LCalls Tryd.prog 11 [pt g, .agg (vxL up), .agg (vxL down), Vxs ids k1, .sl 1 (strsL ts) k2] (H5 g ma mb n m q) (fun r H' => r = i64 (addE m up down ids ts t : Nat) ∧ H' = if addE m up down ids ts t = 0 then H5 g ma mb (n + 1) (addM m (n + 1) up down ids ts) (setA q (n + 1) ⟨up, down, ids⟩) else H5 g ma mb n m q) := by
  have hul := vxL_len up
  have hdl := vxL_len down
  have hu32 : up.p.1.length = 32 := up.p.2
  have hd32 : down.p.1.length = 32 := down.p.2
  obtain ⟨E, hE⟩ : ∃ E, E = addE m up down ids ts t := ⟨_, rfl⟩
  rw [← hE]
  unfold addE at hE
  have hcf := (containsF_calls ids k1 _ (fun v => (lookA m v).isSome) [gC g ma mb n, gA ma m] (by omega) (fun v => has_fn g ma mb n m v)).mono (post' := fun r H' => r = bl (ids.any fun v => (lookA m v).isSome) ∧ H' = [gC g ma mb n, gA ma m]) fun r H' ⟨a, b⟩ => ⟨a, b.symm⟩
  refine LCalls.of Tryd.func11 rfl Tryd.ntmps11 Tryd.results11 rfl (fun Rf => ?_)
  refine LW.seq ?_
  refine LW.region ?_
  refine X.act (X.box rfl Is.rfl' (by exact Cells.agg) (fun b6 => ?_))
  refine X.act (X.box rfl Is.rfl' (by exact Cells.agg) (fun b7 => ?_))
  refine X.u (LU.assignR Is.rfl') rfl ?_
  refine LL.nil (after_code ?_)
  refine LW.seq ?_
  refine LW.block ?_
  refine LW.seq ?_
  refine LW.region ?_
  refine X.u (LU.moveR Is.rfl') rfl ?_
  refine X.u (LU.callP (show List.Perm _ ([gC g ma mb n] ++ (.cells b7 35 (vxL down) :: .cells b6 35 (vxL up) :: gA ma m :: gP mb q :: kb :: Rf)) from perm_of fun x => (by simp only [List.count_append, List.count_cons, List.count_nil]; omega)) (none_calls g ma mb n) Tryd.func33 rfl rfl (Opds.cons Is.rfl' Opds.nil)) rfl ?_
  refine X.u (LU.assignR Is.rfl') rfl ?_
  refine LL.nil (after_code ?_)
  refine X.condF rfl ?_ ?_
  · rfl
  refine LW.seq ?_
  refine LW.region ?_
  refine X.u (LU.moveS Is.rfl') rfl ?_
  refine X.u (LU.callP (show List.Perm _ ([kb] ++ (.cells b7 35 (vxL down) :: .cells b6 35 (vxL up) :: gC g ma mb n :: gA ma m :: gP mb q :: Rf)) from perm_of fun x => (by simp only [List.count_append, List.count_cons, List.count_nil]; omega)) (wrong_calls ids k1 (by omega)) Tryd.func34 rfl rfl (Opds.cons Is.rfl' Opds.nil)) rfl ?_
  refine X.u (LU.moveR Is.rfl') rfl ?_
  refine X.gF rfl rfl (fun hg => LU.moveS (by exact Is.rfl')) rfl ?_
  refine X.gF rfl rfl (fun hg => LU.lenN Tryd.underlying25 (by exact Is.whenN hg) (by (simp only [Option.getD_some, Option.getD_none, byteEls_length, intEls_length, List.length_append, List.length_cons, List.length_nil, List.length_map, List.length_drop, List.length_take, Int.toNat_natCast]; rfl))) rfl ?_
  refine X.gF rfl rfl (fun hg => LU.moveS (by exact Is.rfl')) rfl ?_
  refine X.gF rfl rfl (fun hg => LU.lenN Tryd.underlying26 (by exact Is.whenN hg) (by (simp only [Option.getD_some, Option.getD_none, byteEls_length, intEls_length, List.length_append, List.length_cons, List.length_nil, List.length_map, List.length_drop, List.length_take, Int.toNat_natCast]; rfl))) rfl ?_
  refine X.gF rfl rfl (fun hg => LU.neq (by exact Is.whenN hg) (by exact Is.whenN hg)) rfl ?_
  refine X.u (LU.pickOr Is.rfl' Is.rfl' (fun hq => (by exact Is.whenN hq))) rfl ?_
  refine X.u (LU.assignR Is.rfl') rfl ?_
  refine LL.nil (after_code ?_)
  refine X.cond rfl (fun h3 => ?_) (fun h3 => ?_)
  · have h3 : (wrongB ids || !decide ((ts.length : Int) = ids.length)) = true := by simpa using h3
    rw [if_pos h3] at hE
    refine LW.seq ?_
    refine LW.region ?_
    refine X.u (LU.assignR Is.rfl') rfl ?_
    refine LL.nil (after_code ?_)
    refine LW.ret (ret_blk (ret_code (after_end ?_)))
    refine X.ret (H' := H5 g ma mb n m q) (Res.one (by exact IsR rfl)) (by repeat (first | exact HSub.refl _ | refine HSub.pick 2 rfl ?_ | refine HSub.drop ?_)) ?_
    exact ⟨by rw [hE]; rfl, by rw [hE, if_neg (by decide)]⟩
  · have h3 : (wrongB ids || !decide ((ts.length : Int) = ids.length)) = false := by simpa using h3
    rw [if_neg (by rw [h3]; decide)] at hE
    refine LW.seq ?_
    refine LW.region ?_
    refine X.u (LU.moveS Is.rfl') rfl ?_
    refine X.u (LU.moveR Is.rfl') rfl ?_
    refine X.u (LU.bound (Is.rfl')) rfl ?_
    refine X.u (LU.callP (show List.Perm _ ([gC g ma mb n, gA ma m] ++ (.cells b7 35 (vxL down) :: .cells b6 35 (vxL up) :: gP mb q :: kb :: Rf)) from perm_of fun x => (by simp only [List.count_append, List.count_cons, List.count_nil]; omega)) (hcf) Tryd.func35 rfl rfl (Opds.cons Is.rfl' (Opds.cons Is.rfl' Opds.nil))) rfl ?_
    refine X.u (LU.assignR Is.rfl') rfl ?_
    refine LL.nil (after_code ?_)
    refine X.cond rfl (fun h5 => ?_) (fun h5 => ?_)
    · rw [if_pos h5] at hE
      refine LW.seq ?_
      refine LW.region ?_
      refine X.u (LU.assignR Is.rfl') rfl ?_
      refine LL.nil (after_code ?_)
      refine LW.ret (ret_blk (ret_code (after_end ?_)))
      refine X.ret (H' := H5 g ma mb n m q) (Res.one (by exact IsR rfl)) (by repeat (first | exact HSub.refl _ | refine HSub.pick 2 rfl ?_ | refine HSub.drop ?_)) ?_
      exact ⟨by rw [hE]; rfl, by rw [hE, if_neg (by decide)]⟩
    · rw [if_neg (by rw [h5]; decide)] at hE
      refine LW.seq ?_
      refine LW.region ?_
      refine X.u (LU.moveR Is.rfl') rfl ?_
      refine X.u (LU.loadO 1 rfl ⟨Tryd.sizeOf35, Tryd.isAgg35⟩ Is.rfl' (Part.whole (by assumption))) rfl ?_
      refine X.u (LU.callP (show List.Perm _ ([gC g ma mb n, gA ma m] ++ (.cells b7 35 (vxL down) :: .cells b6 35 (vxL up) :: gP mb q :: kb :: Rf)) from perm_of fun x => (by simp only [List.count_append, List.count_cons, List.count_nil]; omega)) (has_calls g ma mb n m up) Tryd.func20 rfl rfl (Opds.cons Is.rfl' (Opds.cons Is.rfl' Opds.nil))) rfl ?_
      refine X.u (LU.not Is.rfl') rfl ?_
      refine X.u (LU.moveR Is.rfl') rfl ?_
      refine X.gF rfl rfl (fun hg => LU.moveR (by exact Is.rfl')) rfl ?_
      refine X.gF rfl rfl (fun hg => LU.loadO 0 rfl ⟨Tryd.sizeOf35, Tryd.isAgg35⟩ (by exact Is.rfl') (Part.whole (by assumption))) rfl ?_
      refine X.gF rfl rfl (fun hg => LU.callP (show List.Perm _ ([gC g ma mb n, gA ma m] ++ (.cells b7 35 (vxL down) :: .cells b6 35 (vxL up) :: gP mb q :: kb :: Rf)) from perm_of fun x => (by simp only [List.count_append, List.count_cons, List.count_nil]; omega)) (has_calls g ma mb n m down) Tryd.func20 rfl rfl (Opds.cons (by exact Is.whenN hg) (Opds.cons (by exact Is.whenN hg) Opds.nil))) rfl ?_
      refine X.gF rfl rfl (fun hg => LU.not (by exact Is.whenN hg)) rfl ?_
      refine X.u (LU.pickOr Is.rfl' Is.rfl' (fun hq => (by exact Is.whenN hq))) rfl ?_
      refine X.u (LU.assignR Is.rfl') rfl ?_
      refine LL.nil (after_code ?_)
      refine X.cond rfl (fun h7 => ?_) (fun h7 => ?_)
      · have h7 : (!(lookA m up).isSome || !(lookA m down).isSome) = true := by simpa using h7
        rw [if_pos h7] at hE
        refine LW.seq ?_
        refine LW.region ?_
        refine X.u (LU.assignR Is.rfl') rfl ?_
        refine LL.nil (after_code ?_)
        refine LW.ret (ret_blk (ret_code (after_end ?_)))
        refine X.ret (H' := H5 g ma mb n m q) (Res.one (by exact IsR rfl)) (by repeat (first | exact HSub.refl _ | refine HSub.pick 2 rfl ?_ | refine HSub.drop ?_)) ?_
        exact ⟨by rw [hE]; rfl, by rw [hE, if_neg (by decide)]⟩
      · have h7 : (!(lookA m up).isSome || !(lookA m down).isSome) = false := by simpa using h7
        rw [if_neg (by rw [h7]; decide)] at hE
        have h7b : (lookA m up).isSome = true ∧ (lookA m down).isSome = true := by simpa using h7
        refine LW.seq ?_
        refine LW.region ?_
        refine X.u (LU.moveR Is.rfl') rfl ?_
        refine X.u (LU.loadO 1 rfl ⟨Tryd.sizeOf35, Tryd.isAgg35⟩ Is.rfl' (Part.whole (by assumption))) rfl ?_
        refine X.u (LU.loadO 0 rfl ⟨Tryd.sizeOf35, Tryd.isAgg35⟩ Is.rfl' (Part.whole (by assumption))) rfl ?_
        refine X.u (LU.callP (show List.Perm _ ([gC g ma mb n, gA ma m] ++ (.cells b7 35 (vxL down) :: .cells b6 35 (vxL up) :: gP mb q :: kb :: Rf)) from perm_of fun x => (by simp only [List.count_append, List.count_cons, List.count_nil]; omega)) (ahead_calls g ma mb n m up down t hT (fun v => Nat.lt_of_le_of_lt (hz v).1 (by omega)) ⟨fun e => ⟨h7b.1, h7b.2, (ht h7b.1 h7b.2).1 e⟩, fun e => (ht h7b.1 h7b.2).2 e.2.2⟩) Tryd.func21 rfl rfl (Opds.cons Is.rfl' (Opds.cons Is.rfl' (Opds.cons Is.rfl' Opds.nil)))) rfl ?_
        refine X.u (LU.not Is.rfl') rfl ?_
        refine X.u (LU.assignR Is.rfl') rfl ?_
        refine LL.nil (after_code ?_)
        refine X.cond rfl (fun h9 => ?_) (fun h9 => ?_)
        · rw [if_pos h9] at hE
          refine LW.seq ?_
          refine LW.region ?_
          refine X.u (LU.assignR Is.rfl') rfl ?_
          refine LL.nil (after_code ?_)
          refine LW.ret (ret_blk (ret_code (after_end ?_)))
          refine X.ret (H' := H5 g ma mb n m q) (Res.one (by exact IsR rfl)) (by repeat (first | exact HSub.refl _ | refine HSub.pick 2 rfl ?_ | refine HSub.drop ?_)) ?_
          exact ⟨by rw [hE]; rfl, by rw [hE, if_neg (by decide)]⟩
        · rw [if_neg (by rw [h9]; decide)] at hE
          refine LW.seq ?_
          refine LW.region ?_
          refine X.u (LU.moveR Is.rfl') rfl ?_
          refine X.u (LU.callP (show List.Perm _ ([gC g ma mb n, gA ma m] ++ (.cells b7 35 (vxL down) :: .cells b6 35 (vxL up) :: gP mb q :: kb :: Rf)) from perm_of fun x => (by simp only [List.count_append, List.count_cons, List.count_nil]; omega)) (len_calls g ma mb n m (by omega)) Tryd.func19 rfl rfl (Opds.cons Is.rfl' Opds.nil)) rfl ?_
          refine X.u (LU.moveS Is.rfl') rfl ?_
          refine X.u (LU.lenN Tryd.underlying26 Is.rfl' (by (simp only [Option.getD_some, Option.getD_none, byteEls_length, intEls_length, List.length_append, List.length_cons, List.length_nil, List.length_map, List.length_drop, List.length_take, Int.toNat_natCast]; rfl))) rfl ?_
          refine X.u (LU.addN Is.rfl' Is.rfl' (wrap_i64 (by omega) (by omega))) rfl ?_
          refine X.u (LU.gtr Is.rfl' Is.rfl') rfl ?_
          refine X.u (LU.assignR Is.rfl') rfl ?_
          refine LL.nil (after_code ?_)
          refine X.cond rfl (fun h11 => ?_) (fun h11 => ?_)
          · have h11 : 512 < (m.length : Int) - 2 + ids.length := by have := of_decide_eq_true h11; omega
            rw [if_pos h11] at hE
            refine LW.seq ?_
            refine LW.region ?_
            refine X.u (LU.assignR Is.rfl') rfl ?_
            refine LL.nil (after_code ?_)
            refine LW.ret (ret_blk (ret_code (after_end ?_)))
            refine X.ret (H' := H5 g ma mb n m q) (Res.one (by exact IsR rfl)) (by repeat (first | exact HSub.refl _ | refine HSub.pick 2 rfl ?_ | refine HSub.drop ?_)) ?_
            exact ⟨by rw [hE]; rfl, by rw [hE, if_neg (by decide)]⟩
          · have h11 : ¬ 512 < (m.length : Int) - 2 + ids.length := by have := of_decide_eq_false h11; omega
            rw [if_neg h11] at hE
            have htl : ts.length = ids.length := by simp at h3; omega
            refine LW.skip (after_blk (after_code ?_))
            refine LW.seq ?_
            refine LW.region ?_
            refine X.u (LU.moveR Is.rfl') rfl ?_
            refine X.u (LU.nilCheck Is.rfl') rfl ?_
            refine X.u (LU.fieldO Tryd.underlying68 rfl Tryd.sizeOf3 (by decide) Is.rfl') rfl ?_
            refine X.u (LU.loadO 2 rfl ⟨Tryd.sizeOf3, Tryd.isAgg3⟩ Is.rfl' (Part.one rfl)) rfl ?_
            refine X.u (LU.addN Is.rfl' Is.rfl' (wrap_i64 (by omega) (by omega))) rfl ?_
            refine X.u (LU.nilCheck Is.rfl') rfl ?_
            refine X.u (LU.fieldO Tryd.underlying68 rfl Tryd.sizeOf3 (by decide) Is.rfl') rfl ?_
            refine X.act (X.store 2 rfl Tryd.sizeOf3 Is.rfl' Is.rfl' (by exact Cells.raw rfl) (by (simp; done)) (by (simp; done)) ?_)
            refine LL.nil (after_code ?_)
            refine LW.seq ?_
            refine X.wcells (ys := [.raw (.map (some ma)), .raw (.map (some mb)), i64 (n + 1)]) rfl ?_
            refine LW.invM (m := 6) (γ := Nat × Nat × Nat × Nat) [(0, 63), (1, 64), (2, 65), (3, 66), (4, 67), (5, 11)] (fun g_ d => match g_ with | ⟨c_, q1, q2, q3⟩ => match d with | 63 => .agg (vxL up) | 64 => .agg (vxL down) | 65 => Vxs ids k1 | 66 => Vxs ids .unk | 67 => ptE ⟨up, down, ids⟩ | 11 => pt c_ | _ => .any) (fun g_ f => match g_ with | ⟨c_, q1, q2, q3⟩ => cond (f 5) (.cells c_ 82 (raws z82.cells.toList)) (.tail 0 0 0) :: cond (f 3) (.tail q1 q2 q3) (.tail 0 0 0) :: .cells b7 35 (vxL down) :: .cells b6 35 (vxL up) :: gC g ma mb (n + 1) :: gA ma m :: gP mb q :: kb :: Rf) (0, 0, 0, 0) rfl (by kernel_rfl) rfl rfl ((HSub.trans (by repeat (first | exact HSub.refl _ | refine HSub.pick 1 rfl ?_)) (HSub.trans (HSub.tail0 0 0 0 (Nat.le_refl _) _) (HSub.tail0 0 0 0 (Nat.le_refl _) _)))) ?_ ?_
            · intro i hi f g_ hfi hdir hdown
              obtain ⟨c_, q1, q2, q3⟩ := g_
              have hc : i = 0 ∨ i = 1 ∨ i = 2 ∨ i = 3 ∨ i = 4 ∨ i = 5 := by omega
              rcases hc with rfl | rfl | rfl | rfl | rfl | rfl
              · refine ⟨_, rfl, ?_⟩
                refine A.u (LU.loadO 3 rfl ⟨Tryd.sizeOf35, Tryd.isAgg35⟩ Is.rfl' (Part.whole (by assumption))) rfl ?_
                refine ⟨⟨c_, q1, q2, q3⟩, Weaker.mk' ?_ (HSub.refl _)⟩
                refine env_back0 (envS_hit (sl := [(0, 63), (1, 64), (2, 65), (3, 66), (4, 67), (5, 11)]) (j := 0) (d := 63) rfl (fun _ _ h => h))  (envS_next ?_)
                · intro p hp hne; simp only [List.mem_cons, List.not_mem_nil, or_false] at hp; rcases hp with rfl | rfl | rfl | rfl | rfl | rfl <;> first | exact absurd rfl hne | exact ⟨rfl, rfl⟩
              · refine ⟨_, rfl, ?_⟩
                refine A.u (LU.loadO 2 rfl ⟨Tryd.sizeOf35, Tryd.isAgg35⟩ Is.rfl' (Part.whole (by assumption))) rfl ?_
                refine ⟨⟨c_, q1, q2, q3⟩, Weaker.mk' ?_ (HSub.refl _)⟩
                refine env_back0 (envS_hit (sl := [(0, 63), (1, 64), (2, 65), (3, 66), (4, 67), (5, 11)]) (j := 1) (d := 64) rfl (fun _ _ h => h))  (envS_next ?_)
                · intro p hp hne; simp only [List.mem_cons, List.not_mem_nil, or_false] at hp; rcases hp with rfl | rfl | rfl | rfl | rfl | rfl <;> first | exact absurd rfl hne | exact ⟨rfl, rfl⟩
              · refine ⟨_, rfl, ?_⟩
                refine A.u (LU.moveS Is.rfl') rfl ?_
                refine ⟨⟨c_, q1, q2, q3⟩, Weaker.mk' ?_ (HSub.refl _)⟩
                refine env_back0 (envS_hit (sl := [(0, 63), (1, 64), (2, 65), (3, 66), (4, 67), (5, 11)]) (j := 2) (d := 65) rfl (fun _ _ h => h))  (envS_next ?_)
                · intro p hp hne; simp only [List.mem_cons, List.not_mem_nil, or_false] at hp; rcases hp with rfl | rfl | rfl | rfl | rfl | rfl <;> first | exact absurd rfl hne | exact ⟨rfl, rfl⟩
              · have d2 := hdir 2 (List.mem_of_elem_eq_true (by kernel_rfl))
                refine ⟨_, rfl, ?_⟩
                refine LP.ghost (H' := cond (f 5) (.cells c_ 82 (raws z82.cells.toList)) (.tail 0 0 0) :: .cells b7 35 (vxL down) :: .cells b6 35 (vxL up) :: gC g ma mb (n + 1) :: gA ma m :: gP mb q :: kb :: Rf) (by show L.HSub (_ :: cond (f 3) _ _ :: _) _; rw [hfi]; exact HSub.cons (HSub.drop (HSub.refl _))) ?_
                refine LP.weak (t := 65) (v := Vxs ids k1) (envS_is (j := 2) rfl d2) ?_
                refine A.act (X.call (clone_calls ids k1 (by omega)) Tryd.func36 rfl rfl rfl (HSub.refl _) (Opds.cons Is.rfl' Opds.nil) ?_)
                rintro r H' ⟨b66, o66, c66, rfl, rfl⟩
                refine ⟨(c_, b66, o66, c66), Weaker.mk' ?_ (HSub.pick 1 rfl (HSub.refl _))⟩
                refine env_back1 (envS_hit (sl := [(0, 63), (1, 64), (2, 65), (3, 66), (4, 67), (5, 11)]) (j := 3) (d := 66) rfl (Is.unk)) (envS_hit (sl := [(0, 63), (1, 64), (2, 65), (3, 66), (4, 67), (5, 11)]) (j := 2) (d := 65) rfl (fun _ _ h => h)) (envS_next ?_)
                · intro p hp hne; simp only [List.mem_cons, List.not_mem_nil, or_false] at hp; rcases hp with rfl | rfl | rfl | rfl | rfl | rfl <;> first | exact absurd rfl hne | exact ⟨rfl, rfl⟩
              · have d0 := hdir 0 (List.mem_of_elem_eq_true (by kernel_rfl))
                have d1 := hdir 1 (List.mem_of_elem_eq_true (by kernel_rfl))
                have d3 := hdir 3 (List.mem_of_elem_eq_true (by kernel_rfl))
                refine ⟨_, rfl, ?_⟩
                refine LP.weak (t := 63) (v := .agg (vxL up)) (envS_is (j := 0) rfl d0) ?_
                refine LP.weak (t := 64) (v := .agg (vxL down)) (envS_is (j := 1) rfl d1) ?_
                refine LP.weak (t := 66) (v := Vxs ids .unk) (envS_is (j := 3) rfl d3) ?_
                refine A.u (LU.build (places := #[(0, 33), (33, 33), (66, 1)]) Tryd.underlying82 Tryd.zeroValue82 (ones rfl) (by intro w; simp [Tryd.sizeOf26, Tryd.sizeOf35]) (Parts.cons Is.rfl' (by exact Cells.agg) (Parts.cons Is.rfl' (by exact Cells.agg) (Parts.cons Is.rfl' (by exact Cells.sl) Parts.nil))) (laid_pt hul hdl rfl)) rfl ?_
                refine ⟨⟨c_, q1, q2, q3⟩, Weaker.mk' ?_ (HSub.refl _)⟩
                refine env_back3 (envS_hit (sl := [(0, 63), (1, 64), (2, 65), (3, 66), (4, 67), (5, 11)]) (j := 4) (d := 67) rfl (fun _ _ h => h)) (envS_hit (sl := [(0, 63), (1, 64), (2, 65), (3, 66), (4, 67), (5, 11)]) (j := 3) (d := 66) rfl (fun _ _ h => h)) (envS_hit (sl := [(0, 63), (1, 64), (2, 65), (3, 66), (4, 67), (5, 11)]) (j := 1) (d := 64) rfl (fun _ _ h => h)) (envS_hit (sl := [(0, 63), (1, 64), (2, 65), (3, 66), (4, 67), (5, 11)]) (j := 0) (d := 63) rfl (fun _ _ h => h)) (envS_next ?_)
                · intro p hp hne; simp only [List.mem_cons, List.not_mem_nil, or_false] at hp; rcases hp with rfl | rfl | rfl | rfl | rfl | rfl <;> first | exact absurd rfl hne | exact ⟨rfl, rfl⟩
              · refine ⟨_, rfl, ?_⟩
                refine LP.ghost (H' := cond (f 3) (.tail q1 q2 q3) (.tail 0 0 0) :: .cells b7 35 (vxL down) :: .cells b6 35 (vxL up) :: gC g ma mb (n + 1) :: gA ma m :: gP mb q :: kb :: Rf) (by show L.HSub (cond (f 5) _ _ :: _) _; rw [hfi]; exact HSub.drop (HSub.refl _)) ?_
                refine A.act (X.alloc rfl Tryd.zeroValue82 (by exact Cells.rawagg (by decide)) (fun b11 => ?_))
                refine ⟨(b11, q1, q2, q3), Weaker.mk' ?_ (HSub.refl _)⟩
                refine env_back0 (envS_hit (sl := [(0, 63), (1, 64), (2, 65), (3, 66), (4, 67), (5, 11)]) (j := 5) (d := 11) rfl (fun _ _ h => h))  (envS_next ?_)
                · intro p hp hne; simp only [List.mem_cons, List.not_mem_nil, or_false] at hp; rcases hp with rfl | rfl | rfl | rfl | rfl | rfl <;> first | exact absurd rfl hne | exact ⟨rfl, rfl⟩
            · intro g_ f hf_
              obtain ⟨c_, q1, q2, q3⟩ := g_
              refine X.ghost (H' := .cells c_ 82 (raws z82.cells.toList) :: .cells b7 35 (vxL down) :: .cells b6 35 (vxL up) :: gC g ma mb (n + 1) :: gA ma m :: gP mb q :: kb :: Rf) (by show L.HSub (cond (f 5) _ _ :: _) _; rw [hf_ 5 (by omega)]; exact HSub.cons (HSub.drop (HSub.refl _))) ?_
              refine X.act (X.store 0 rfl Tryd.sizeOf82 Is.rfl' Is.rfl' (by exact Cells.agg) (by (simp; omega)) (by exact Nat.le_of_ble_eq_true rfl) ?_)
              refine LL.nil (after_code ?_)
              refine LW.seq ?_
              have hpl := pt_len ⟨up, down, ids⟩
              refine X.wcells (ys := ptL ⟨up, down, ids⟩) (putAt_all (by rw [hpl]; rfl)) ?_
              refine X.drawM 9 rfl (by kernel_rfl) rfl ?_
              refine QD.u (LU.moveR Is.rfl') rfl ?_
              refine QD.u (LU.nilCheck Is.rfl') rfl ?_
              refine QD.u (LU.fieldO Tryd.underlying68 rfl Tryd.sizeOf66 (by decide) Is.rfl') rfl ?_
              refine QD.u (LU.loadO 3 rfl ⟨Tryd.sizeOf66, Tryd.isAgg66⟩ Is.rfl' (Part.one rfl)) rfl ?_
              refine QD.u (LU.moveR Is.rfl') rfl ?_
              refine QD.u (LU.nilCheck Is.rfl') rfl ?_
              refine QD.u (LU.fieldO Tryd.underlying68 rfl Tryd.sizeOf3 (by decide) Is.rfl') rfl ?_
              refine QD.u (LU.loadO 3 rfl ⟨Tryd.sizeOf3, Tryd.isAgg3⟩ Is.rfl' (Part.one rfl)) rfl ?_
              refine QD.u (LU.loadO 0 rfl ⟨Tryd.sizeOf82, Tryd.isAgg82⟩ Is.rfl' (Part.whole (by assumption))) rfl ?_
              refine QD.nil ?_
              refine X.act (LO.mapUpdate (st := ⟨_, _, _⟩) 5 (KeyOk.int Tryd.underlying3) rfl Tryd.underlying66 Is.rfl' Is.rfl' Is.rfl' ?_)
              refine LL.nil (after_code ?_)
              refine LW.seq ?_
              refine LW.seq ?_
              refine X.wghost (H' := .cells c_ 82 (ptL ⟨up, down, ids⟩) :: .cells b7 35 (vxL down) :: .cells b6 35 (vxL up) :: gC g ma mb (n + 1) :: gA ma m :: gP mb (setA q (n + 1) ⟨up, down, ids⟩) :: kb :: Rf) (by rw [← gP_set]; exact (by repeat (first | exact HSub.refl _ | refine HSub.pick 1 rfl ?_))) ?_
              refine LW.region ?_
              refine X.u (LU.moveS Is.rfl') rfl ?_
              refine X.u (LU.lenN Tryd.underlying26 Is.rfl' (by (simp only [Option.getD_some, Option.getD_none, byteEls_length, intEls_length, List.length_append, List.length_cons, List.length_nil, List.length_map, List.length_drop, List.length_take, Int.toNat_natCast]; rfl))) rfl ?_
              refine X.u (LU.moveR Is.rfl') rfl ?_
              refine LL.nil (after_code ?_)
              refine LW.block ?_
              refine X.loopK (α := Nat) (fun i => [(79, i64 i)]) [0, 4, 10, 11, 77, 78] (fun i => .cells c_ 82 (ptL ⟨up, down, ids⟩) :: .cells b7 35 (vxL down) :: .cells b6 35 (vxL up) :: gC g ma mb (n + 1) :: gA ma (layA m (n + 1) (ids.take i) (ts.take i)) :: gP mb (setA q (n + 1) ⟨up, down, ids⟩) :: kb :: Rf) (fun i => i ≤ ids.length) (fun i => ids.length - i) (0) (EnvLe.cons (by rfl) (EnvLe.nil)) (by repeat (exact HSub.refl _)) ?_ ?_
              · exact Nat.zero_le _
              · rintro i hI
                refine LW.seq ?_
                refine LW.region ?_
                refine X.u (LU.lss Is.rfl' Is.rfl') rfl ?_
                refine LL.nil (after_code ?_)
                refine LW.seq ?_
                refine X.cond rfl (fun h17 => ?_) (fun h17 => ?_)
                · try have h17 := of_decide_eq_true h17
                  refine LW.skip (after_code ?_)
                  refine LW.seq ?_
                  refine LW.block ?_
                  refine LW.seq ?_
                  obtain ⟨v, hv⟩ := at_lt (show i < ids.length by omega)
                  obtain ⟨x, hx⟩ := at_lt (show i < ts.length by omega)
                  have hvl := vxL_len v
                  have hv32 : v.p.1.length = 32 := v.p.2
                  have hlay : layA m (n + 1) (ids.take (i + 1)) (ts.take (i + 1)) = setA (layA m (n + 1) (ids.take i) (ts.take i)) v ⟨x, [], n + 1, [], []⟩ := by
                    rw [take_snoc hv, take_snoc hx]
                    exact lay_snoc (n + 1) _ _ _ _ _ (by rw [List.length_take, List.length_take]; omega)
                  refine LW.region ?_
                  refine X.u (LU.moveR Is.rfl') rfl ?_
                  refine X.u (LU.at Tryd.underlying26 ⟨Tryd.sizeOf35, Tryd.isAgg35⟩ Is.rfl' Is.rfl' (by omega) (vxs_at hv) (vx_ne v)) rfl ?_
                  refine X.u (LU.weak (LU.load ⟨Tryd.sizeOf35, Tryd.isAgg35⟩ Is.rfl' (by assumption) (Part.whole (by assumption))) (Is.of (y := .agg (vxL v)) (rfl))) rfl ?_
                  refine X.act (X.alloc rfl Tryd.zeroValue35 (by exact Cells.rawagg (by decide)) (fun b13 => ?_))
                  refine X.u (LU.assignR Is.rfl') rfl ?_
                  refine X.act (X.store 0 rfl Tryd.sizeOf35 Is.rfl' Is.rfl' (by exact Cells.agg) (by assumption) (by exact Nat.le_of_ble_eq_true rfl) ?_)
                  refine LL.nil (after_code ?_)
                  refine X.wcells (ys := vxL v) (putAt_all (by rw [hvl]; rfl)) ?_
                  refine X.drawM 14 rfl (by kernel_rfl) rfl ?_
                  refine QD.u (LU.moveR Is.rfl') rfl ?_
                  refine QD.u (LU.nilCheck Is.rfl') rfl ?_
                  refine QD.u (LU.fieldO Tryd.underlying68 rfl Tryd.sizeOf65 (by decide) Is.rfl') rfl ?_
                  refine QD.u (LU.loadO 4 rfl ⟨Tryd.sizeOf65, Tryd.isAgg65⟩ Is.rfl' (Part.one rfl)) rfl ?_
                  refine QD.u (LU.loadO 0 rfl ⟨Tryd.sizeOf35, Tryd.isAgg35⟩ Is.rfl' (Part.whole (by assumption))) rfl ?_
                  refine QD.u (LU.moveS Is.rfl') rfl ?_
                  refine QD.u (LU.moveR Is.rfl') rfl ?_
                  refine QD.u (LU.at Tryd.underlying25 ⟨Tryd.sizeOf9, Tryd.isAgg9⟩ Is.rfl' Is.rfl' (by omega) (strsL_at hx) (by simp)) rfl ?_
                  refine QD.u (LU.load ⟨Tryd.sizeOf9, Tryd.isAgg9⟩ Is.rfl' (by (simp; done)) (Part.one rfl)) rfl ?_
                  refine QD.u (LU.moveR Is.rfl') rfl ?_
                  refine QD.u (LU.nilCheck Is.rfl') rfl ?_
                  refine QD.u (LU.fieldO Tryd.underlying68 rfl Tryd.sizeOf3 (by decide) Is.rfl') rfl ?_
                  refine QD.u (LU.loadO 4 rfl ⟨Tryd.sizeOf3, Tryd.isAgg3⟩ Is.rfl' (Part.one rfl)) rfl ?_
                  refine QD.u (LU.weak (LU.build (places := #[(0, 1), (1, 1), (2, 1), (3, 1), (4, 1)]) Tryd.underlying73 Tryd.zeroValue73 (ones rfl) (by intro w; simp [Tryd.sizeOf26, Tryd.sizeOf3, Tryd.sizeOf71, Tryd.sizeOf9]) (Parts.cons Is.rfl' (by exact Cells.raw rfl) (Parts.cons Is.rfl' (by exact Cells.raw rfl) Parts.nil)) rfl) (lay_is x (n + 1))) rfl ?_
                  refine QD.nil ?_
                  refine X.act (LO.mapUpdate (st := ⟨_, _, _⟩) 5 (KeyOk.vx vxty) rfl Tryd.underlying65 Is.rfl' (by exact Is.vx _) Is.rfl' ?_)
                  refine LL.nil (after_blk (after_code ?_))
                  refine X.wghost (H' := .cells c_ 82 (ptL ⟨up, down, ids⟩) :: .cells b7 35 (vxL down) :: .cells b6 35 (vxL up) :: gC g ma mb (n + 1) :: gA ma (layA m (n + 1) (ids.take (i + 1)) (ts.take (i + 1))) :: gP mb (setA q (n + 1) ⟨up, down, ids⟩) :: kb :: Rf) (by rw [hlay, ← gA_set]; exact (by repeat (first | exact HSub.refl _ | refine HSub.pick 0 rfl ?_ | refine HSub.pick 1 rfl ?_ | refine HSub.pick 2 rfl ?_ | refine HSub.drop ?_))) ?_
                  refine LW.region ?_
                  refine X.u (LU.addN Is.rfl' Is.rfl' (wrap_i64 (by omega) (by omega))) rfl ?_
                  refine X.u (LU.moveR Is.rfl') rfl ?_
                  refine LL.nil (after_rnd ?_)
                  refine X.next (i + 1) rfl (EnvLe.cons (by rfl) (EnvLe.nil)) (Keeps.cons (by exact Eq.trans (b := .raw _) rfl rfl) (Keeps.cons (by exact Eq.trans (b := .sl _ _ _) rfl rfl) (Keeps.cons (by exact Eq.trans (b := .raw _) rfl rfl) (Keeps.cons (by exact Eq.trans (b := .raw _) rfl rfl) (Keeps.cons (by exact Eq.trans (b := .sl _ _ _) rfl rfl) (Keeps.cons (by exact Eq.trans (b := .raw _) rfl rfl) (Keeps.nil))))))) (by repeat (exact HSub.refl _)) ?_ ?_
                  · omega
                  · omega
                · try have h17 := of_decide_eq_false h17
                  refine LW.exit (exit_code (exit_rnd (exit_blk (after_code ?_))))
                  refine LW.seq ?_
                  have hil : i = ids.length := by omega
                  have hpl2 := pt_len ⟨up, down, ids⟩
                  rw [hil, List.take_length, List.take_of_length_le (by omega)]
                  have hch := chain_step g ma mb (n + 1) (layA m (n + 1) ids ts) ⟨up, down, ids⟩ k (Sz.lay (n + 1) ids ts hz) (show ids.length < _ by omega) (by omega)
                  refine X.wghost (H' := gC g ma mb (n + 1) :: gA ma (layA m (n + 1) ids ts) :: .cells c_ 82 (ptL ⟨up, down, ids⟩) :: gP mb (setA q (n + 1) ⟨up, down, ids⟩) :: kb :: Rf) (by repeat (first | exact HSub.refl _ | refine HSub.pick 0 rfl ?_ | refine HSub.pick 2 rfl ?_ | refine HSub.pick 3 rfl ?_ | refine HSub.drop ?_)) ?_
                  refine LW.region ?_
                  refine X.u (LU.loadO 2 rfl ⟨Tryd.sizeOf82, Tryd.isAgg82⟩ Is.rfl' (Part.whole (by assumption))) rfl ?_
                  refine X.u (LU.moveR Is.rfl') rfl ?_
                  refine X.u (LU.bound (Is.rfl')) rfl ?_
                  refine X.act (X.call (hch) Tryd.func37 rfl rfl rfl (HSub.refl _) (Opds.cons Is.rfl' (Opds.cons Is.rfl' Opds.nil)) ?_)
                  rintro r H' ⟨rfl, rfl, hsz⟩
                  refine LL.nil (after_code ?_)
                  refine LW.seq ?_
                  refine LW.region ?_
                  refine X.u (LU.assignR Is.rfl') rfl ?_
                  refine LL.nil (after_code ?_)
                  refine LW.ret (after_end ?_)
                  refine X.ret (H' := H5 g ma mb (n + 1) (addM m (n + 1) up down ids ts) (setA q (n + 1) ⟨up, down, ids⟩)) (Res.one (by exact IsR rfl)) (by repeat (first | exact HSub.refl _ | refine HSub.pick 0 rfl ?_ | refine HSub.pick 1 rfl ?_ | refine HSub.drop ?_)) ?_
                  exact ⟨by rw [hE]; rfl, by rw [hE, if_pos rfl]⟩
end Go.Proofs.YtolpkeajokjbjaaDoor
namespace Go.Proofs.YtolpkeajokjbjaaDoor
open Go.RowKit Go.L
attribute [local irreducible] LL LW LO LP LA
def woundE (m : At) (v : Vx) : Nat := if endsB v = true then 2 else if (lookA m v).isSome = true then 0 else 111
set_option maxRecDepth 100000 in
theorem wound_calls (g ma mb : Nat) (n : Int) (m : At) (v : Vx) : LCalls Tryd.prog 30 [pt g, .agg (vxL v)] [gC g ma mb n, gA ma m, kb] (fun r H' => r = i64 (woundE m v : Nat) ∧ H' = [gC g ma mb n, gA ma m, kb]) := by
  have hvl := vxL_len v
  refine LCalls.of Tryd.func30 rfl Tryd.ntmps30 Tryd.results30 rfl (fun Rf => ?_)
  refine LW.seq ?_
  refine LW.region ?_
  refine X.act (X.box rfl Is.rfl' (by exact Cells.agg) (fun b3 => ?_))
  refine X.u (LU.assignR Is.rfl') rfl ?_
  refine LL.nil (after_code ?_)
  refine LW.seq ?_
  refine LW.block ?_
  refine LW.seq ?_
  refine LW.region ?_
  refine X.u (LU.moveR Is.rfl') rfl ?_
  refine X.u (LU.callP (show List.Perm _ ([gC g ma mb n] ++ (.cells b3 35 (vxL v) :: gA ma m :: kb :: Rf)) from perm_of fun x => (by simp only [List.count_append, List.count_cons, List.count_nil]; omega)) (none_calls g ma mb n) Tryd.func33 rfl rfl (Opds.cons Is.rfl' Opds.nil)) rfl ?_
  refine X.u (LU.assignR Is.rfl') rfl ?_
  refine LL.nil (after_code ?_)
  refine X.condF rfl ?_ ?_
  · rfl
  refine LW.seq ?_
  refine LW.region ?_
  refine X.u (LU.loadO 0 rfl ⟨Tryd.sizeOf35, Tryd.isAgg35⟩ Is.rfl' (Part.whole (by assumption))) rfl ?_
  refine X.u (LU.callP (show List.Perm _ ([kb] ++ (.cells b3 35 (vxL v) :: gC g ma mb n :: gA ma m :: Rf)) from perm_of fun x => (by simp only [List.count_append, List.count_cons, List.count_nil]; omega)) (ends_calls v) Tryd.func53 rfl rfl (Opds.cons Is.rfl' Opds.nil)) rfl ?_
  refine X.u (LU.assignR Is.rfl') rfl ?_
  refine LL.nil (after_code ?_)
  refine X.cond rfl (fun h3 => ?_) (fun h3 => ?_)
  · try have h3 := of_decide_eq_true h3
    refine LW.seq ?_
    refine LW.region ?_
    refine X.u (LU.assignR Is.rfl') rfl ?_
    refine LL.nil (after_code ?_)
    refine LW.ret (ret_blk (ret_code (after_end ?_)))
    refine X.ret (H' := [gC g ma mb n, gA ma m, kb]) (Res.one (by exact IsR rfl)) (by repeat (first | exact HSub.refl _ | refine HSub.pick 1 rfl ?_ | refine HSub.drop ?_)) ?_
    exact ⟨by unfold woundE; rw [if_pos h3]; rfl, rfl⟩
  · try have h3 := of_decide_eq_false h3
    refine LW.seq ?_
    refine LW.region ?_
    refine X.u (LU.moveR Is.rfl') rfl ?_
    refine X.u (LU.loadO 0 rfl ⟨Tryd.sizeOf35, Tryd.isAgg35⟩ Is.rfl' (Part.whole (by assumption))) rfl ?_
    refine X.u (LU.callP (show List.Perm _ ([gC g ma mb n, gA ma m] ++ (.cells b3 35 (vxL v) :: kb :: Rf)) from perm_of fun x => (by simp only [List.count_append, List.count_cons, List.count_nil]; omega)) (has_calls g ma mb n m v) Tryd.func20 rfl rfl (Opds.cons Is.rfl' (Opds.cons Is.rfl' Opds.nil))) rfl ?_
    refine X.u (LU.not Is.rfl') rfl ?_
    refine X.u (LU.assignR Is.rfl') rfl ?_
    refine LL.nil (after_code ?_)
    refine X.cond rfl (fun h5 => ?_) (fun h5 => ?_)
    · have h5 : (lookA m v).isSome = false := by simpa using h5
      have hz0 : (0 : Nat) = 0 := rfl
      refine LW.seq ?_
      refine LW.region ?_
      refine X.u (LU.assignR Is.rfl') rfl ?_
      refine LL.nil (after_code ?_)
      refine LW.ret (ret_blk (ret_code (after_end ?_)))
      refine X.ret (H' := [gC g ma mb n, gA ma m, kb]) (Res.one (by exact IsR rfl)) (by repeat (first | exact HSub.refl _ | refine HSub.pick 1 rfl ?_ | refine HSub.drop ?_)) ?_
      exact ⟨by unfold woundE; rw [if_neg (by rw [h3]; decide), if_neg (by rw [h5]; decide)]; rfl, rfl⟩
    · have h5 : (lookA m v).isSome = true := by simpa using h5
      have hz0 : (0 : Nat) = 0 := rfl
      refine LW.skip (after_blk (after_code ?_))
      refine LW.seq ?_
      refine LW.region ?_
      refine X.u (LU.assignR Is.rfl') rfl ?_
      refine LL.nil (after_code ?_)
      refine LW.ret (after_end ?_)
      refine X.ret (H' := [gC g ma mb n, gA ma m, kb]) (Res.one (by exact IsR rfl)) (by repeat (first | exact HSub.refl _ | refine HSub.pick 1 rfl ?_ | refine HSub.drop ?_)) ?_
      exact ⟨by unfold woundE; rw [if_neg (by rw [h3]; decide), if_pos h5]; rfl, rfl⟩
def killE (m : At) (v : Vx) (h : Hs) : Nat := if woundE m v ≠ 0 then woundE m v else if h ∈ (atG m v).kills then 110 else 0
def killA (m : At) (v : Vx) (h : Hs) : At := if killE m v h = 0 then setA m v { atG m v with kills := (atG m v).kills ++ [h] } else m
set_option maxHeartbeats 2000000 in
set_option maxRecDepth 100000 in
theorem kill_calls (g ma mb : Nat) (n : Int) (m : At) (v : Vx) (by_ : Hs) (hk : (atG m v).kills.length < 900000) : LCalls Tryd.prog 10 [pt g, .agg (vxL v), .agg (hsL by_)] [gC g ma mb n, gA ma m, kb] (fun r H' => r = i64 (killE m v by_ : Nat) ∧ H' = [gC g ma mb n, gA ma (killA m v by_), kb]) := by
  have hvl := vxL_len v
  have hbl := hsL_len by_
  have hb32 : by_.1.length = 32 := by_.2
  have hgi := at_is m v
  obtain ⟨x, hx⟩ : ∃ x, x = atG m v := ⟨_, rfl⟩
  obtain ⟨W, hW⟩ : ∃ W, W = woundE m v := ⟨_, rfl⟩
  have hwc := wound_calls g ma mb n m v
  rw [← hx] at hk hgi
  rw [← hW] at hwc
  have hE : killE m v by_ = if W ≠ 0 then W else if by_ ∈ x.kills then 110 else 0 := by unfold killE; rw [hx, hW]
  have hA : killA m v by_ = if killE m v by_ = 0 then setA m v { x with kills := x.kills ++ [by_] } else m := by unfold killA; rw [hx]
  rw [hA, hE]
  refine LCalls.of Tryd.func10 rfl Tryd.ntmps10 Tryd.results10 rfl (fun Rf => ?_)
  refine LW.seq ?_
  refine LW.region ?_
  refine X.act (X.box rfl Is.rfl' (by exact Cells.agg) (fun b4 => ?_))
  refine X.act (X.box rfl Is.rfl' (by exact Cells.agg) (fun b5 => ?_))
  refine X.u (LU.assignR Is.rfl') rfl ?_
  refine LL.nil (after_code ?_)
  refine LW.seq ?_
  refine LW.seq ?_
  refine LW.region ?_
  refine X.u (LU.moveR Is.rfl') rfl ?_
  refine X.u (LU.loadO 1 rfl ⟨Tryd.sizeOf35, Tryd.isAgg35⟩ Is.rfl' (Part.whole (by assumption))) rfl ?_
  refine X.u (LU.callP (show List.Perm _ ([gC g ma mb n, gA ma m, kb] ++ (.cells b5 31 (hsL by_) :: .cells b4 35 (vxL v) :: Rf)) from perm_of fun x => (by simp only [List.count_append, List.count_cons, List.count_nil]; omega)) (hwc) Tryd.func30 rfl rfl (Opds.cons Is.rfl' (Opds.cons Is.rfl' Opds.nil))) rfl ?_
  refine X.u (LU.assignR Is.rfl') rfl ?_
  refine LL.nil (after_code ?_)
  refine LW.seq ?_
  refine LW.region ?_
  refine X.u (LU.moveR Is.rfl') rfl ?_
  refine X.u (LU.neq Is.rfl' Is.rfl') rfl ?_
  refine LL.nil (after_code ?_)
  refine X.cond rfl (fun h2 => ?_) (fun h2 => ?_)
  · have h2 : W ≠ 0 := by simp at h2; omega
    refine LW.seq ?_
    refine LW.region ?_
    refine X.u (LU.moveR Is.rfl') rfl ?_
    refine X.u (LU.assignR Is.rfl') rfl ?_
    refine LL.nil (after_code ?_)
    refine LW.ret (ret_code (after_end ?_))
    refine X.ret (H' := [gC g ma mb n, gA ma m, kb]) (Res.one (by exact IsR rfl)) (by repeat (first | exact HSub.refl _ | refine HSub.pick 2 rfl ?_ | refine HSub.drop ?_)) ?_
    exact ⟨by rw [if_pos h2], by rw [if_pos h2, if_neg h2]⟩
  · have h2 : ¬ W ≠ 0 := by simp at h2; omega
    refine LW.skip (after_code ?_)
    refine LW.seq ?_
    refine LW.invM (m := 7) (γ := Nat × Nat) [(0, 15), (1, 16), (2, 17), (3, 18), (4, 19), (5, 20), (6, 8)] (fun g_ d => match g_ with | ⟨b_, z_⟩ => match d with | 15 => pt g | 16 => pt g | 17 => pt g | 18 => .raw (.map (some ma)) | 19 => .agg (vxL v) | 20 => lnE x | 8 => pt b_ | _ => .any) (fun g_ f => match g_ with | ⟨b_, z_⟩ => cond (f 6) (.cells b_ 73 (raws z73.cells.toList)) (.tail 0 0 0) :: .cells b5 31 (hsL by_) :: .cells b4 35 (vxL v) :: gC g ma mb n :: gA ma m :: kb :: Rf) (0, 0) rfl (by kernel_rfl) rfl rfl ((HSub.trans (by repeat (exact HSub.refl _)) (HSub.tail0 0 0 0 (Nat.le_refl _) _))) ?_ ?_
    · intro i hi f g_ hfi hdir hdown
      obtain ⟨b_, z_⟩ := g_
      have hc : i = 0 ∨ i = 1 ∨ i = 2 ∨ i = 3 ∨ i = 4 ∨ i = 5 ∨ i = 6 := by omega
      rcases hc with rfl | rfl | rfl | rfl | rfl | rfl | rfl
      · refine ⟨_, rfl, ?_⟩
        refine A.u (LU.moveR Is.rfl') rfl ?_
        refine ⟨⟨b_, z_⟩, Weaker.mk' ?_ (HSub.refl _)⟩
        refine env_back0 (envS_hit (sl := [(0, 15), (1, 16), (2, 17), (3, 18), (4, 19), (5, 20), (6, 8)]) (j := 0) (d := 15) rfl (fun _ _ h => h))  (envS_next ?_)
        · intro p hp hne; simp only [List.mem_cons, List.not_mem_nil, or_false] at hp; rcases hp with rfl | rfl | rfl | rfl | rfl | rfl | rfl <;> first | exact absurd rfl hne | exact ⟨rfl, rfl⟩
      · have d0 := hdir 0 (List.mem_of_elem_eq_true (by kernel_rfl))
        refine ⟨_, rfl, ?_⟩
        refine LP.weak (t := 15) (v := pt g) (envS_is (j := 0) rfl d0) ?_
        refine A.u (LU.nilCheck Is.rfl') rfl ?_
        refine ⟨⟨b_, z_⟩, Weaker.mk' ?_ (HSub.refl _)⟩
        refine env_back1 (envS_hit (sl := [(0, 15), (1, 16), (2, 17), (3, 18), (4, 19), (5, 20), (6, 8)]) (j := 1) (d := 16) rfl (fun _ _ h => h)) (envS_hit (sl := [(0, 15), (1, 16), (2, 17), (3, 18), (4, 19), (5, 20), (6, 8)]) (j := 0) (d := 15) rfl (fun _ _ h => h)) (envS_next ?_)
        · intro p hp hne; simp only [List.mem_cons, List.not_mem_nil, or_false] at hp; rcases hp with rfl | rfl | rfl | rfl | rfl | rfl | rfl <;> first | exact absurd rfl hne | exact ⟨rfl, rfl⟩
      · have d1 := hdir 1 (List.mem_of_elem_eq_true (by kernel_rfl))
        refine ⟨_, rfl, ?_⟩
        refine LP.weak (t := 16) (v := pt g) (envS_is (j := 1) rfl d1) ?_
        refine A.u (LU.fieldO Tryd.underlying68 rfl Tryd.sizeOf65 (by decide) Is.rfl') rfl ?_
        refine ⟨⟨b_, z_⟩, Weaker.mk' ?_ (HSub.refl _)⟩
        refine env_back1 (envS_hit (sl := [(0, 15), (1, 16), (2, 17), (3, 18), (4, 19), (5, 20), (6, 8)]) (j := 2) (d := 17) rfl (fun _ _ h => h)) (envS_hit (sl := [(0, 15), (1, 16), (2, 17), (3, 18), (4, 19), (5, 20), (6, 8)]) (j := 1) (d := 16) rfl (fun _ _ h => h)) (envS_next ?_)
        · intro p hp hne; simp only [List.mem_cons, List.not_mem_nil, or_false] at hp; rcases hp with rfl | rfl | rfl | rfl | rfl | rfl | rfl <;> first | exact absurd rfl hne | exact ⟨rfl, rfl⟩
      · have d2 := hdir 2 (List.mem_of_elem_eq_true (by kernel_rfl))
        refine ⟨_, rfl, ?_⟩
        refine LP.weak (t := 17) (v := pt g) (envS_is (j := 2) rfl d2) ?_
        refine A.u (LU.loadO 3 rfl ⟨Tryd.sizeOf65, Tryd.isAgg65⟩ Is.rfl' (Part.one rfl)) rfl ?_
        refine ⟨⟨b_, z_⟩, Weaker.mk' ?_ (HSub.refl _)⟩
        refine env_back1 (envS_hit (sl := [(0, 15), (1, 16), (2, 17), (3, 18), (4, 19), (5, 20), (6, 8)]) (j := 3) (d := 18) rfl (fun _ _ h => h)) (envS_hit (sl := [(0, 15), (1, 16), (2, 17), (3, 18), (4, 19), (5, 20), (6, 8)]) (j := 2) (d := 17) rfl (fun _ _ h => h)) (envS_next ?_)
        · intro p hp hne; simp only [List.mem_cons, List.not_mem_nil, or_false] at hp; rcases hp with rfl | rfl | rfl | rfl | rfl | rfl | rfl <;> first | exact absurd rfl hne | exact ⟨rfl, rfl⟩
      · refine ⟨_, rfl, ?_⟩
        refine A.u (LU.loadO 2 rfl ⟨Tryd.sizeOf35, Tryd.isAgg35⟩ Is.rfl' (Part.whole (by assumption))) rfl ?_
        refine ⟨⟨b_, z_⟩, Weaker.mk' ?_ (HSub.refl _)⟩
        refine env_back0 (envS_hit (sl := [(0, 15), (1, 16), (2, 17), (3, 18), (4, 19), (5, 20), (6, 8)]) (j := 4) (d := 19) rfl (fun _ _ h => h))  (envS_next ?_)
        · intro p hp hne; simp only [List.mem_cons, List.not_mem_nil, or_false] at hp; rcases hp with rfl | rfl | rfl | rfl | rfl | rfl | rfl <;> first | exact absurd rfl hne | exact ⟨rfl, rfl⟩
      · have d3 := hdir 3 (List.mem_of_elem_eq_true (by kernel_rfl))
        have d4 := hdir 4 (List.mem_of_elem_eq_true (by kernel_rfl))
        refine ⟨_, rfl, ?_⟩
        refine LP.weak (t := 18) (v := .raw (.map (some ma))) (envS_is (j := 3) rfl d3) ?_
        refine LP.weak (t := 19) (v := .agg (vxL v)) (envS_is (j := 4) rfl d4) ?_
        refine A.u (LU.weak (LU.lookup 4 (KeyOk.vx vxty) rfl Tryd.underlying65 Tryd.zeroValue73 Is.rfl' (by exact Is.vx _)) (hgi)) rfl ?_
        refine ⟨⟨b_, z_⟩, Weaker.mk' ?_ (HSub.refl _)⟩
        refine env_back2 (envS_hit (sl := [(0, 15), (1, 16), (2, 17), (3, 18), (4, 19), (5, 20), (6, 8)]) (j := 5) (d := 20) rfl (fun _ _ h => h)) (envS_hit (sl := [(0, 15), (1, 16), (2, 17), (3, 18), (4, 19), (5, 20), (6, 8)]) (j := 4) (d := 19) rfl (fun _ _ h => h)) (envS_hit (sl := [(0, 15), (1, 16), (2, 17), (3, 18), (4, 19), (5, 20), (6, 8)]) (j := 3) (d := 18) rfl (fun _ _ h => h)) (envS_next ?_)
        · intro p hp hne; simp only [List.mem_cons, List.not_mem_nil, or_false] at hp; rcases hp with rfl | rfl | rfl | rfl | rfl | rfl | rfl <;> first | exact absurd rfl hne | exact ⟨rfl, rfl⟩
      · refine ⟨_, rfl, ?_⟩
        refine A.act (X.alloc rfl Tryd.zeroValue73 (by exact Cells.rawagg (by decide)) (fun b8 => ?_))
        refine ⟨(b8, 0), Weaker.mk' ?_ (by show L.HSub (_ :: cond (f 6) _ (.tail 0 0 0) :: _) _; rw [hfi]; exact HSub.cons (HSub.drop (HSub.refl _)))⟩
        refine env_back0 (envS_hit (sl := [(0, 15), (1, 16), (2, 17), (3, 18), (4, 19), (5, 20), (6, 8)]) (j := 6) (d := 8) rfl (fun _ _ h => h))  (envS_next ?_)
        · intro p hp hne; simp only [List.mem_cons, List.not_mem_nil, or_false] at hp; rcases hp with rfl | rfl | rfl | rfl | rfl | rfl | rfl <;> first | exact absurd rfl hne | exact ⟨rfl, rfl⟩
    · intro g_ f hf_
      obtain ⟨b_, z_⟩ := g_
      refine X.ghost (H' := .cells b_ 73 (raws z73.cells.toList) :: .cells b5 31 (hsL by_) :: .cells b4 35 (vxL v) :: gC g ma mb n :: gA ma m :: kb :: Rf) (by show L.HSub (cond (f 6) _ (.tail 0 0 0) :: _) _; rw [hf_ 6 (by omega)]; exact HSub.refl _) ?_
      refine X.act (X.store 0 rfl Tryd.sizeOf73 Is.rfl' Is.rfl' (by exact Cells.agg) (by (simp; done)) (by exact Nat.le_of_ble_eq_true rfl) ?_)
      refine LL.nil (after_code ?_)
      refine LW.seq ?_
      refine LW.seq ?_
      refine X.wcells (ys := lnL x) rfl ?_
      refine LW.region ?_
      refine X.u (LU.fieldO Tryd.underlying73 rfl Tryd.sizeOf71 (by decide) Is.rfl') rfl ?_
      refine X.u (LU.loadO 0 rfl ⟨Tryd.sizeOf71, Tryd.isAgg71⟩ Is.rfl' (Part.one rfl)) rfl ?_
      refine X.u (LU.loadO 1 rfl ⟨Tryd.sizeOf31, Tryd.isAgg31⟩ Is.rfl' (Part.whole (by assumption))) rfl ?_
      refine X.u (LU.call (containsH_calls x.kills .unk by_ (by omega)) Tryd.func31 rfl rfl (Opds.cons Is.rfl' (Opds.cons Is.rfl' Opds.nil))) rfl ?_
      refine LL.nil (after_code ?_)
      refine X.cond rfl (fun h5 => ?_) (fun h5 => ?_)
      · have h5 : by_ ∈ x.kills := by simpa using h5
        refine LW.seq ?_
        refine LW.region ?_
        refine X.u (LU.assignR Is.rfl') rfl ?_
        refine LL.nil (after_code ?_)
        refine LW.ret (ret_code (after_end ?_))
        refine X.ret (H' := [gC g ma mb n, gA ma m, kb]) (Res.one (by exact IsR rfl)) (by repeat (first | exact HSub.refl _ | refine HSub.pick 3 rfl ?_ | refine HSub.drop ?_)) ?_
        exact ⟨by rw [if_neg h2, if_pos h5]; rfl, by rw [if_neg h2, if_pos h5, if_neg (by decide)]⟩
      · have h5 : by_ ∉ x.kills := by simpa using h5
        refine LW.skip (after_code ?_)
        refine LW.seq ?_
        refine LW.invM (m := 6) (γ := Nat × Nat × Nat × Nat × Nat × Nat) [(0, 25), (1, 26), (2, 27), (3, 28), (4, 29), (5, 30)] (fun g_ d => match g_ with | ⟨q1, q2, q3, q4, q5, q6⟩ => match d with | 25 => .raw (.pointer (some ⟨b_, 1, none⟩)) | 26 => .sl 32 (hss x.kills) .unk | 27 => .sl 32 (hss x.kills) (.tok q1 q2 q3) | 28 => .agg (hsL by_) | 29 => .sl 32 [hsL by_] .full | 30 => .sl 32 (hss (x.kills ++ [by_])) (.tok q4 q5 q6) | _ => .any) (fun g_ f => match g_ with | ⟨q1, q2, q3, q4, q5, q6⟩ => cond (f 5) (.tail q4 q5 q6) (cond (f 2) (.tail q1 q2 q3) (.tail 0 0 0)) :: .cells b_ 73 (lnL x) :: .cells b5 31 (hsL by_) :: .cells b4 35 (vxL v) :: gC g ma mb n :: gA ma m :: kb :: Rf) (0, 0, 0, 0, 0, 0) rfl (by kernel_rfl) rfl rfl ((HSub.trans (by repeat (exact HSub.refl _)) (HSub.tail0 0 0 0 (Nat.le_refl _) _))) ?_ ?_
        · intro i hi f g_ hfi hdir hdown
          obtain ⟨q1, q2, q3, q4, q5, q6⟩ := g_
          have hc : i = 0 ∨ i = 1 ∨ i = 2 ∨ i = 3 ∨ i = 4 ∨ i = 5 := by omega
          rcases hc with rfl | rfl | rfl | rfl | rfl | rfl
          · refine ⟨_, rfl, ?_⟩
            refine A.u (LU.fieldO Tryd.underlying73 rfl Tryd.sizeOf71 (by decide) Is.rfl') rfl ?_
            refine ⟨⟨q1, q2, q3, q4, q5, q6⟩, Weaker.mk' ?_ (HSub.refl _)⟩
            refine env_back0 (envS_hit (sl := [(0, 25), (1, 26), (2, 27), (3, 28), (4, 29), (5, 30)]) (j := 0) (d := 25) rfl (fun _ _ h => h))  (envS_next ?_)
            · intro p hp hne; simp only [List.mem_cons, List.not_mem_nil, or_false] at hp; rcases hp with rfl | rfl | rfl | rfl | rfl | rfl <;> first | exact absurd rfl hne | exact ⟨rfl, rfl⟩
          · have d0 := hdir 0 (List.mem_of_elem_eq_true (by kernel_rfl))
            refine ⟨_, rfl, ?_⟩
            refine LP.weak (t := 25) (v := .raw (.pointer (some ⟨b_, 1, none⟩))) (envS_is (j := 0) rfl d0) ?_
            refine A.u (LU.loadO 1 rfl ⟨Tryd.sizeOf71, Tryd.isAgg71⟩ Is.rfl' (Part.one rfl)) rfl ?_
            refine ⟨⟨q1, q2, q3, q4, q5, q6⟩, Weaker.mk' ?_ (HSub.refl _)⟩
            refine env_back1 (envS_hit (sl := [(0, 25), (1, 26), (2, 27), (3, 28), (4, 29), (5, 30)]) (j := 1) (d := 26) rfl (fun _ _ h => h)) (envS_hit (sl := [(0, 25), (1, 26), (2, 27), (3, 28), (4, 29), (5, 30)]) (j := 0) (d := 25) rfl (fun _ _ h => h)) (envS_next ?_)
            · intro p hp hne; simp only [List.mem_cons, List.not_mem_nil, or_false] at hp; rcases hp with rfl | rfl | rfl | rfl | rfl | rfl <;> first | exact absurd rfl hne | exact ⟨rfl, rfl⟩
          · have d1 := hdir 1 (List.mem_of_elem_eq_true (by kernel_rfl))
            refine ⟨_, rfl, ?_⟩
            have h6 : f 5 = false := Bool.eq_false_iff.2 (fun h => by rw [hdown 5 (by omega) h 2 (List.mem_of_elem_eq_true (by kernel_rfl))] at hfi; cases hfi)
            refine LP.ghost (H' := .cells b_ 73 (lnL x) :: .cells b5 31 (hsL by_) :: .cells b4 35 (vxL v) :: gC g ma mb n :: gA ma m :: kb :: Rf) (by show L.HSub (cond (f 5) _ (cond (f 2) _ _) :: _) _; rw [h6, hfi]; exact HSub.drop (HSub.refl _)) ?_
            refine LP.weak (t := 26) (v := .sl 32 (hss x.kills) .unk) (envS_is (j := 1) rfl d1) ?_
            refine A.act (X.call (cloneH_calls x.kills .unk (by omega)) Tryd.func32 rfl rfl rfl (HSub.refl _) (Opds.cons Is.rfl' Opds.nil) ?_)
            rintro r H' ⟨b27, o27, c27, rfl, rfl⟩
            refine ⟨(b27, o27, c27, q4, q5, q6), Weaker.mk' ?_ (by show L.HSub _ (cond (f 5) _ (.tail b27 o27 c27) :: _); rw [h6]; exact HSub.refl _)⟩
            refine env_back1 (envS_hit (sl := [(0, 25), (1, 26), (2, 27), (3, 28), (4, 29), (5, 30)]) (j := 2) (d := 27) rfl (fun _ _ h => h)) (envS_hit (sl := [(0, 25), (1, 26), (2, 27), (3, 28), (4, 29), (5, 30)]) (j := 1) (d := 26) rfl (fun _ _ h => h)) (envS_next ?_)
            · intro p hp hne; simp only [List.mem_cons, List.not_mem_nil, or_false] at hp; rcases hp with rfl | rfl | rfl | rfl | rfl | rfl <;> first | exact absurd rfl hne | exact ⟨rfl, rfl⟩
          · refine ⟨_, rfl, ?_⟩
            refine A.u (LU.loadO 2 rfl ⟨Tryd.sizeOf31, Tryd.isAgg31⟩ Is.rfl' (Part.whole (by assumption))) rfl ?_
            refine ⟨⟨q1, q2, q3, q4, q5, q6⟩, Weaker.mk' ?_ (HSub.refl _)⟩
            refine env_back0 (envS_hit (sl := [(0, 25), (1, 26), (2, 27), (3, 28), (4, 29), (5, 30)]) (j := 3) (d := 28) rfl (fun _ _ h => h))  (envS_next ?_)
            · intro p hp hne; simp only [List.mem_cons, List.not_mem_nil, or_false] at hp; rcases hp with rfl | rfl | rfl | rfl | rfl | rfl <;> first | exact absurd rfl hne | exact ⟨rfl, rfl⟩
          · have d3 := hdir 3 (List.mem_of_elem_eq_true (by kernel_rfl))
            refine ⟨_, rfl, ?_⟩
            refine LP.weak (t := 28) (v := .agg (hsL by_)) (envS_is (j := 3) rfl d3) ?_
            refine A.u (LU.lits Tryd.underlying71 Tryd.sizeOf31 Tryd.zeroValue31 (ones rfl) rfl (by decide) (by decide) (Elems.cons Is.rfl' (by exact Cells.agg) Elems.nil) (by (simp; assumption)) rfl) rfl ?_
            refine ⟨⟨q1, q2, q3, q4, q5, q6⟩, Weaker.mk' ?_ (HSub.refl _)⟩
            refine env_back1 (envS_hit (sl := [(0, 25), (1, 26), (2, 27), (3, 28), (4, 29), (5, 30)]) (j := 4) (d := 29) rfl (fun _ _ h => h)) (envS_hit (sl := [(0, 25), (1, 26), (2, 27), (3, 28), (4, 29), (5, 30)]) (j := 3) (d := 28) rfl (fun _ _ h => h)) (envS_next ?_)
            · intro p hp hne; simp only [List.mem_cons, List.not_mem_nil, or_false] at hp; rcases hp with rfl | rfl | rfl | rfl | rfl | rfl <;> first | exact absurd rfl hne | exact ⟨rfl, rfl⟩
          · have d2 := hdir 2 (List.mem_of_elem_eq_true (by kernel_rfl))
            have d4 := hdir 4 (List.mem_of_elem_eq_true (by kernel_rfl))
            refine ⟨_, rfl, ?_⟩
            have h2 : f 2 = true := hdir 2 (List.mem_of_elem_eq_true (by kernel_rfl))
            refine LP.ghost (H' := .tail q1 q2 q3 :: .cells b_ 73 (lnL x) :: .cells b5 31 (hsL by_) :: .cells b4 35 (vxL v) :: gC g ma mb n :: gA ma m :: kb :: Rf) (by show L.HSub (cond (f 5) _ (cond (f 2) _ _) :: _) _; rw [h2, hfi]; exact HSub.refl _) ?_
            refine LP.weak (t := 27) (v := .sl 32 (hss x.kills) (.tok q1 q2 q3)) (envS_is (j := 2) rfl d2) ?_
            refine LP.weak (t := 29) (v := .sl 32 [hsL by_] .full) (envS_is (j := 4) rfl d4) ?_
            refine A.act (X.append 0 rfl rfl Tryd.underlying71 (El.of (P := Tryd.prog) (z := (.agg #[(.int .u8 0), (.int .u8 0), (.int .u8 0), (.int .u8 0), (.int .u8 0), (.int .u8 0), (.int .u8 0), (.int .u8 0), (.int .u8 0), (.int .u8 0), (.int .u8 0), (.int .u8 0), (.int .u8 0), (.int .u8 0), (.int .u8 0), (.int .u8 0), (.int .u8 0), (.int .u8 0), (.int .u8 0), (.int .u8 0), (.int .u8 0), (.int .u8 0), (.int .u8 0), (.int .u8 0), (.int .u8 0), (.int .u8 0), (.int .u8 0), (.int .u8 0), (.int .u8 0), (.int .u8 0), (.int .u8 0), (.int .u8 0)])) (size := 32) (bytes := 32) rfl rfl rfl) Is.rfl' Is.rfl' (SrcL.slice Tryd.underlying71 (by decide) (by intro e he; rw [List.mem_singleton.1 he]; exact hbl)) (by simp only [Option.getD_some, Option.getD_none, byteEls_length, intEls_length, List.length_append, List.length_cons, List.length_nil, List.length_map, List.length_drop, List.length_take, Int.toNat_natCast]; omega) (by simp only [Option.getD_some, Option.getD_none, byteEls_length, intEls_length, List.length_append, List.length_cons, List.length_nil, List.length_map, List.length_drop, List.length_take, Int.toNat_natCast]; omega) (fun b30 o30 c30 => ?_))
            refine ⟨(q1, q2, q3, b30, o30, c30), Weaker.mk' ?_ (HSub.refl _)⟩
            refine env_back2 (envS_hit (sl := [(0, 25), (1, 26), (2, 27), (3, 28), (4, 29), (5, 30)]) (j := 5) (d := 30) rfl (Is.of (congrArg (fun z => LV.sl 32 z (.tok b30 o30 c30)) (hss_app x.kills [by_])))) (envS_hit (sl := [(0, 25), (1, 26), (2, 27), (3, 28), (4, 29), (5, 30)]) (j := 4) (d := 29) rfl (fun _ _ h => h)) (envS_hit (sl := [(0, 25), (1, 26), (2, 27), (3, 28), (4, 29), (5, 30)]) (j := 2) (d := 27) rfl (fun _ _ h => h)) (envS_next ?_)
            · intro p hp hne; simp only [List.mem_cons, List.not_mem_nil, or_false] at hp; rcases hp with rfl | rfl | rfl | rfl | rfl | rfl <;> first | exact absurd rfl hne | exact ⟨rfl, rfl⟩
        · intro g_ f hf_
          obtain ⟨q1, q2, q3, q4, q5, q6⟩ := g_
          refine X.ghost (H' := .tail q4 q5 q6 :: .cells b_ 73 (lnL x) :: .cells b5 31 (hsL by_) :: .cells b4 35 (vxL v) :: gC g ma mb n :: gA ma m :: kb :: Rf) (by show L.HSub (cond (f 5) _ _ :: _) _; rw [hf_ 5 (by omega)]; exact HSub.refl _) ?_
          refine X.u (LU.fieldO Tryd.underlying73 rfl Tryd.sizeOf71 (by decide) Is.rfl') rfl ?_
          refine X.act (X.store 1 rfl Tryd.sizeOf71 Is.rfl' Is.rfl' (by exact Cells.sl) (by (simp; done)) (by (simp; done)) ?_)
          refine LL.nil (after_code ?_)
          refine LW.seq ?_
          refine X.wcells (ys := [Str x.text, .sl 32 (hss (x.kills ++ [by_])) (.tok q4 q5 q6), i64 x.part, Vxs x.next .unk, Vxs x.prev .unk]) rfl ?_
          refine X.wghost (H' := .cells b_ 73 (lnL { x with kills := x.kills ++ [by_] }) :: .cells b5 31 (hsL by_) :: .cells b4 35 (vxL v) :: gC g ma mb n :: gA ma m :: kb :: Rf) (HSub.trans (B := .cells b_ 73 [Str x.text, .sl 32 (hss (x.kills ++ [by_])) (.tok q4 q5 q6), i64 x.part, Vxs x.next .unk, Vxs x.prev .unk] :: .cells b5 31 (hsL by_) :: .cells b4 35 (vxL v) :: gC g ma mb n :: gA ma m :: kb :: Rf) (by repeat (first | exact HSub.refl _ | refine HSub.pick 0 rfl ?_ | refine HSub.pick 1 rfl ?_ | refine HSub.drop ?_)) (HSub.cell 1 rfl Is.unk)) ?_
          refine X.drawM 6 rfl (by kernel_rfl) rfl ?_
          refine QD.u (LU.moveR Is.rfl') rfl ?_
          refine QD.u (LU.nilCheck Is.rfl') rfl ?_
          refine QD.u (LU.fieldO Tryd.underlying68 rfl Tryd.sizeOf65 (by decide) Is.rfl') rfl ?_
          refine QD.u (LU.loadO 3 rfl ⟨Tryd.sizeOf65, Tryd.isAgg65⟩ Is.rfl' (Part.one rfl)) rfl ?_
          refine QD.u (LU.loadO 2 rfl ⟨Tryd.sizeOf35, Tryd.isAgg35⟩ Is.rfl' (Part.whole (by assumption))) rfl ?_
          refine QD.u (LU.loadO 0 rfl ⟨Tryd.sizeOf73, Tryd.isAgg73⟩ Is.rfl' (Part.whole (by (simp; done)))) rfl ?_
          refine QD.nil ?_
          refine X.act (LO.mapUpdate (st := ⟨_, _, _⟩) 4 (KeyOk.vx vxty) rfl Tryd.underlying65 Is.rfl' (by exact Is.vx _) Is.rfl' ?_)
          refine LL.nil (after_code ?_)
          refine LW.seq ?_
          refine LW.region ?_
          refine X.u (LU.assignR Is.rfl') rfl ?_
          refine LL.nil (after_code ?_)
          refine LW.ret (after_end ?_)
          refine X.ret (H' := [gC g ma mb n, gA ma (setA m v { x with kills := x.kills ++ [by_] }), kb]) (Res.one (by exact IsR rfl)) (by rw [← gA_set]; exact (by repeat (first | exact HSub.refl _ | refine HSub.pick 0 rfl ?_ | refine HSub.pick 3 rfl ?_ | refine HSub.pick 4 rfl ?_ | refine HSub.drop ?_))) ?_
          exact ⟨by rw [if_neg h2, if_neg h5]; rfl, by rw [if_neg h2, if_neg h5, if_pos rfl]⟩
end Go.Proofs.YtolpkeajokjbjaaDoor
namespace Go.Proofs.YtolpkeajokjbjaaDoor
open Go.RowKit Go.L Go.Lib
attribute [local irreducible] LL LW LO
theorem bc1 : (Tryd.f75.name == "runtime.NumGoroutine") = false := by kernel_rfl
theorem bc2 : Tryd.f75.body.isNone = true := by kernel_rfl
theorem bc3 : Extern.findNext Tryd.f75 = none := by kernel_rfl
theorem bc4 : Extern.find Tryd.f75 = some Extern.BytealgCompare.compare := by kernel_rfl
set_option maxRecDepth 100000 in
theorem bcmp_calls (a b : List UInt8) (ka kb : Cap) (ha : a ≠ []) (hb : b ≠ []) : LCalls Tryd.prog 69 [.sl 1 (byteEls a) ka, .sl 1 (byteEls b) kb] [] (fun r H' => r = i64 (compareBytes a b) ∧ H' = []) := by
  refine LCalls.of Tryd.func69 rfl Tryd.ntmps69 Tryd.results69 rfl (fun Rf => ?_)
  refine LW.seq ?_
  refine LW.region ?_
  refine X.u (LU.assignR Is.rfl') rfl ?_
  refine LL.nil (after_code ?_)
  refine LW.seq ?_
  refine LW.region ?_
  refine X.u (LU.moveS Is.rfl') rfl ?_
  refine X.u (LU.moveS Is.rfl') rfl ?_
  refine X.u (LU.bcmp Tryd.func75 bc1 bc2 bc3 bc4 ha hb Is.rfl' Is.rfl') rfl ?_
  refine X.u (LU.assignR Is.rfl') rfl ?_
  refine LL.nil (after_code ?_)
  refine LW.ret (after_end ?_)
  refine X.ret (H' := []) (Res.one (by exact IsR rfl)) (by repeat (exact HSub.refl _)) ?_
  exact ⟨rfl, rfl⟩
def cmpI (x y : Int) : Int := if x < y then -1 else if y < x then 1 else 0
set_option maxRecDepth 100000 in
theorem isnan_calls (x : Int) : LCalls Tryd.prog 76 [i64 x] [] (fun r H' => r = bl false ∧ H' = []) := by
  refine LCalls.of Tryd.func76 rfl Tryd.ntmps76 Tryd.results76 rfl (fun Rf => ?_)
  refine LW.seq ?_
  refine LW.region ?_
  refine X.u (LU.assignR Is.rfl') rfl ?_
  refine LL.nil (after_code ?_)
  refine LW.seq ?_
  refine LW.region ?_
  refine X.u (LU.moveR Is.rfl') rfl ?_
  refine X.u (LU.moveR Is.rfl') rfl ?_
  refine X.u (LU.neq Is.rfl' Is.rfl') rfl ?_
  refine X.u (LU.assignR Is.rfl') rfl ?_
  refine LL.nil (after_code ?_)
  refine LW.ret (after_end ?_)
  refine X.ret (H' := []) (Res.one (by exact IsR rfl)) (by repeat (exact HSub.refl _)) ?_
  exact ⟨by simp, rfl⟩
set_option maxRecDepth 100000 in
theorem cmpi_calls (x y : Int) : LCalls Tryd.prog 70 [i64 x, i64 y] [] (fun r H' => r = i64 (cmpI x y) ∧ H' = []) := by
  refine LCalls.of Tryd.func70 rfl Tryd.ntmps70 Tryd.results70 rfl (fun Rf => ?_)
  refine LW.seq ?_
  refine LW.region ?_
  refine X.u (LU.assignR Is.rfl') rfl ?_
  refine LL.nil (after_code ?_)
  refine LW.seq ?_
  refine LW.region ?_
  refine X.u (LU.moveR Is.rfl') rfl ?_
  refine X.u (LU.call (isnan_calls x) Tryd.func76 rfl rfl (Opds.cons Is.rfl' Opds.nil)) rfl ?_
  refine X.u (LU.assignR Is.rfl') rfl ?_
  refine LL.nil (after_code ?_)
  refine LW.seq ?_
  refine LW.region ?_
  refine X.u (LU.moveR Is.rfl') rfl ?_
  refine X.u (LU.call (isnan_calls y) Tryd.func76 rfl rfl (Opds.cons Is.rfl' Opds.nil)) rfl ?_
  refine X.u (LU.assignR Is.rfl') rfl ?_
  refine LL.nil (after_code ?_)
  refine LW.seq ?_
  refine LW.seq ?_
  refine LW.region ?_
  refine X.u (LU.moveR Is.rfl') rfl ?_
  refine LL.nil (after_code ?_)
  refine X.condF rfl ?_ ?_
  · rfl
  refine LW.skip (after_code ?_)
  refine LW.seq ?_
  refine LW.seq ?_
  refine LW.region ?_
  refine X.u (LU.moveR Is.rfl') rfl ?_
  refine LL.nil (after_code ?_)
  refine X.condF rfl ?_ ?_
  · rfl
  refine LW.skip (after_code ?_)
  refine LW.seq ?_
  refine LW.seq ?_
  refine LW.region ?_
  refine X.u (LU.moveR Is.rfl') rfl ?_
  refine X.u (LU.moveR Is.rfl') rfl ?_
  refine X.u (LU.lss Is.rfl' Is.rfl') rfl ?_
  refine LL.nil (after_code ?_)
  refine X.cond rfl (fun h9 => ?_) (fun h9 => ?_)
  · have h9 : x < y := of_decide_eq_true h9
    have hz0 : (0 : Nat) = 0 := rfl
    refine LW.seq ?_
    refine LW.region ?_
    refine X.u (LU.assignR Is.rfl') rfl ?_
    refine LL.nil (after_code ?_)
    refine LW.ret (ret_code (after_end ?_))
    refine X.ret (H' := []) (Res.one (by exact IsR rfl)) (by repeat (exact HSub.refl _)) ?_
    exact ⟨by unfold cmpI; rw [if_pos h9], rfl⟩
  · have h9 : ¬ x < y := of_decide_eq_false h9
    have hz0 : (0 : Nat) = 0 := rfl
    refine LW.skip (after_code ?_)
    refine LW.seq ?_
    refine LW.seq ?_
    refine LW.region ?_
    refine X.u (LU.moveR Is.rfl') rfl ?_
    refine X.u (LU.moveR Is.rfl') rfl ?_
    refine X.u (LU.gtr Is.rfl' Is.rfl') rfl ?_
    refine LL.nil (after_code ?_)
    refine X.cond rfl (fun h11 => ?_) (fun h11 => ?_)
    · have h11 : y < x := of_decide_eq_true h11
      have hz0 : (0 : Nat) = 0 := rfl
      refine LW.seq ?_
      refine LW.region ?_
      refine X.u (LU.assignR Is.rfl') rfl ?_
      refine LL.nil (after_code ?_)
      refine LW.ret (ret_code (after_end ?_))
      refine X.ret (H' := []) (Res.one (by exact IsR rfl)) (by repeat (exact HSub.refl _)) ?_
      exact ⟨by unfold cmpI; rw [if_neg h9, if_pos h11], rfl⟩
    · have h11 : ¬ y < x := of_decide_eq_false h11
      have hz0 : (0 : Nat) = 0 := rfl
      refine LW.skip (after_code ?_)
      refine LW.seq ?_
      refine LW.region ?_
      refine X.u (LU.assignR Is.rfl') rfl ?_
      refine LL.nil (after_code ?_)
      refine LW.ret (after_end ?_)
      refine X.ret (H' := []) (Res.one (by exact IsR rfl)) (by repeat (exact HSub.refl _)) ?_
      exact ⟨by unfold cmpI; rw [if_neg h9, if_neg h11], rfl⟩
def cmpV (a b : Vx) : Int := if compareBytes a.p.1 b.p.1 ≠ 0 then compareBytes a.p.1 b.p.1 else cmpI a.n b.n
theorem vx_els (a : Vx) : singles (((vxL a).drop 0).take 32) = byteEls a.p.1 := by
  rw [List.drop_zero, List.take_left' (hsL_len a.p)]
  show (a.p.1.map _).map _ = _
  rw [List.map_map]; rfl
theorem vx_num (a : Vx) : (vxL a)[32]? = some (i64 a.n) := by
  rw [List.getElem?_append_right (by rw [hsL_len]; exact Nat.le_refl _), hsL_len]; rfl
theorem hs_nonnil (a : Hs) : a.1 ≠ [] := fun c => by have := a.2; rw [c] at this; cases this
set_option maxHeartbeats 1000000 in
set_option maxRecDepth 100000 in
theorem cmpv_calls (a b : Vx) : LCalls Tryd.prog 68 [.agg (vxL a), .agg (vxL b)] [] (fun r H' => r = i64 (cmpV a b) ∧ H' = []) := by
  have hal := vxL_len a
  have hbl := vxL_len b
  have ha32 : a.p.1.length = 32 := a.p.2
  have hb32 : b.p.1.length = 32 := b.p.2
  refine LCalls.of Tryd.func68 rfl Tryd.ntmps68 Tryd.results68 rfl (fun Rf => ?_)
  refine LW.seq ?_
  refine LW.region ?_
  refine X.act (X.box rfl Is.rfl' (by exact Cells.agg) (fun b2 => ?_))
  refine X.act (X.box rfl Is.rfl' (by exact Cells.agg) (fun b3 => ?_))
  refine X.u (LU.assignR Is.rfl') rfl ?_
  refine LL.nil (after_code ?_)
  refine LW.seq ?_
  refine LW.seq ?_
  refine LW.know 0 rfl ?_
  refine LW.know 1 rfl ?_
  refine X.drawM 6 rfl (by kernel_rfl) rfl ?_
  refine QD.u (LU.fieldO Tryd.underlying35 rfl Tryd.sizeOf31 (by decide) Is.rfl') rfl ?_
  refine QD.u (LU.weak (LU.sliceKA 0 rfl Tryd.underlying31 Tryd.sizeOf5 Is.rfl' (by (rw [vxL_len]; decide))) (Is.of (y := .sl 1 (byteEls a.p.1) .full) (congrArg (fun z => LV.sl 1 z .full) (vx_els a)))) rfl ?_
  refine QD.u (LU.fieldO Tryd.underlying35 rfl Tryd.sizeOf31 (by decide) Is.rfl') rfl ?_
  refine QD.u (LU.weak (LU.sliceKA 1 rfl Tryd.underlying31 Tryd.sizeOf5 Is.rfl' (by (rw [vxL_len]; decide))) (Is.of (y := .sl 1 (byteEls b.p.1) .full) (congrArg (fun z => LV.sl 1 z .full) (vx_els b)))) rfl ?_
  refine QD.u (LU.call (bcmp_calls a.p.1 b.p.1 .full .full (hs_nonnil a.p) (hs_nonnil b.p)) Tryd.func69 rfl rfl (Opds.cons Is.rfl' (Opds.cons Is.rfl' Opds.nil))) rfl ?_
  refine QD.u (LU.assignR Is.rfl') rfl ?_
  refine QD.nil ?_
  refine LL.nil (after_code ?_)
  refine LW.seq ?_
  refine LW.region ?_
  refine X.u (LU.moveR Is.rfl') rfl ?_
  refine X.u (LU.neq Is.rfl' Is.rfl') rfl ?_
  refine LL.nil (after_code ?_)
  refine X.cond rfl (fun h2 => ?_) (fun h2 => ?_)
  · have h2 : compareBytes a.p.1 b.p.1 ≠ 0 := by simpa using h2
    refine LW.seq ?_
    refine LW.region ?_
    refine X.u (LU.moveR Is.rfl') rfl ?_
    refine X.u (LU.assignR Is.rfl') rfl ?_
    refine LL.nil (after_code ?_)
    refine LW.ret (ret_code (after_end ?_))
    refine X.ret (H' := []) (Res.one (by exact IsR rfl)) (by repeat (first | exact HSub.refl _ | refine HSub.drop ?_)) ?_
    exact ⟨by unfold cmpV; rw [if_pos h2], rfl⟩
  · have h2 : ¬ compareBytes a.p.1 b.p.1 ≠ 0 := by simpa using h2
    refine LW.skip (after_code ?_)
    refine LW.seq ?_
    refine LW.region ?_
    refine X.u (LU.fieldO Tryd.underlying35 rfl Tryd.sizeOf3 (by decide) Is.rfl') rfl ?_
    refine X.u (LU.loadK 0 rfl ⟨Tryd.sizeOf3, Tryd.isAgg3⟩ Is.rfl' (by decide) (by (simp; omega)) (Part.one (vx_num a))) rfl ?_
    refine X.u (LU.fieldO Tryd.underlying35 rfl Tryd.sizeOf3 (by decide) Is.rfl') rfl ?_
    refine X.u (LU.loadK 1 rfl ⟨Tryd.sizeOf3, Tryd.isAgg3⟩ Is.rfl' (by decide) (by (simp; omega)) (Part.one (vx_num b))) rfl ?_
    refine X.u (LU.call (cmpi_calls a.n b.n) Tryd.func70 rfl rfl (Opds.cons Is.rfl' (Opds.cons Is.rfl' Opds.nil))) rfl ?_
    refine X.u (LU.assignR Is.rfl') rfl ?_
    refine LL.nil (after_code ?_)
    refine LW.ret (after_end ?_)
    refine X.ret (H' := []) (Res.one (by exact IsR rfl)) (by repeat (first | exact HSub.refl _ | refine HSub.drop ?_)) ?_
    exact ⟨by unfold cmpV; rw [if_neg h2], rfl⟩
def minV : Vx → List Vx → Vx
  | a, [] => a
  | a, x :: l => minV (if cmpV x a < 0 then x else a) l
end Go.Proofs.YtolpkeajokjbjaaDoor
namespace Go.Proofs.YtolpkeajokjbjaaDoor
open Go.RowKit Go.L Go.Lib
attribute [local irreducible] LL LW LO
abbrev z35 : Value := Value.agg #[(.int .u8 0), (.int .u8 0), (.int .u8 0), (.int .u8 0), (.int .u8 0), (.int .u8 0), (.int .u8 0), (.int .u8 0), (.int .u8 0), (.int .u8 0), (.int .u8 0), (.int .u8 0), (.int .u8 0), (.int .u8 0), (.int .u8 0), (.int .u8 0), (.int .u8 0), (.int .u8 0), (.int .u8 0), (.int .u8 0), (.int .u8 0), (.int .u8 0), (.int .u8 0), (.int .u8 0), (.int .u8 0), (.int .u8 0), (.int .u8 0), (.int .u8 0), (.int .u8 0), (.int .u8 0), (.int .u8 0), (.int .u8 0), (.int .i64 0)]
theorem cmp_fn (a b : Vx) : FnCalls Tryd.prog (.func (.func 68) #[] #[]) [.agg (vxL a), .agg (vxL b)] [] (fun r H' => r = i64 (cmpV a b) ∧ H' = []) :=
  FnCalls.named Tryd.func68 rfl rfl (cmpv_calls a b)
set_option maxHeartbeats 1000000 in
set_option maxRecDepth 100000 in
theorem minfunc_calls (a : Vx) (l : List Vx) (k : Cap) (hl : l.length < 1000000) : LCalls Tryd.prog 67 [Vxs (a :: l) k, .raw (.func (.func 68) #[] #[])] [] (fun r H' => r = .agg (vxL (minV a l)) ∧ H' = []) := by
  have hal := vxL_len a
  obtain ⟨L, hL⟩ : ∃ L, L = a :: l := ⟨_, rfl⟩
  have hLl : L.length = l.length + 1 := by rw [hL]; rfl
  have hL0 : L[0]? = some a := by rw [hL]; rfl
  have hL1 : L.drop 1 = l := by rw [hL]; rfl
  rw [← hL]
  refine LCalls.of Tryd.func67 rfl Tryd.ntmps67 Tryd.results67 rfl (fun Rf => ?_)
  refine LW.seq ?_
  refine LW.region ?_
  refine X.act (X.alloc rfl Tryd.zeroValue35 (by exact Cells.rawagg (by decide)) (fun b4 => ?_))
  refine LL.nil (after_code ?_)
  refine LW.seq ?_
  refine LW.seq ?_
  refine LW.region ?_
  refine X.u (LU.moveS Is.rfl') rfl ?_
  refine X.u (LU.lenN Tryd.underlying26 Is.rfl' (by (simp only [Option.getD_some, Option.getD_none, byteEls_length, intEls_length, List.length_append, List.length_cons, List.length_nil, List.length_map, List.length_drop, List.length_take, Int.toNat_natCast]; rfl))) rfl ?_
  refine X.u (LU.weak (LU.lss Is.rfl' Is.rfl') (asB (c := false) rfl (by simp; omega))) rfl ?_
  refine LL.nil (after_code ?_)
  refine X.condF rfl ?_ ?_
  · rfl
  refine LW.skip (after_code ?_)
  refine LW.seq ?_
  refine LW.region ?_
  refine X.u (LU.moveS Is.rfl') rfl ?_
  refine X.u (LU.at Tryd.underlying26 ⟨Tryd.sizeOf35, Tryd.isAgg35⟩ Is.rfl' Is.rfl' (by omega) (show (vxs L)[(0 : Int).toNat]? = some (vxL a) from vxs_at (i := 0) hL0) (vx_ne a)) rfl ?_
  refine X.u (LU.weak (LU.load ⟨Tryd.sizeOf35, Tryd.isAgg35⟩ Is.rfl' (by assumption) (Part.whole (by assumption))) (Is.of (y := .agg (vxL a)) (rfl))) rfl ?_
  refine X.act (X.alloc rfl Tryd.zeroValue35 (by exact Cells.rawagg (by decide)) (fun b5 => ?_))
  refine X.act (X.store 0 rfl Tryd.sizeOf35 Is.rfl' Is.rfl' (by exact Cells.agg) (by assumption) (by exact Nat.le_of_ble_eq_true rfl) ?_)
  refine LL.nil (after_code ?_)
  refine LW.seq ?_
  refine LW.seq ?_
  refine X.wcells (ys := vxL a) (putAt_all (by rw [hal]; rfl)) ?_
  refine LW.region ?_
  refine X.u (LU.assignR Is.rfl') rfl ?_
  refine LL.nil (after_code ?_)
  refine LW.block ?_
  obtain ⟨Z, hZ⟩ : ∃ Z, Z = raws z35.cells.toList := ⟨_, rfl⟩
  have hZl : Z.length = 33 := by rw [hZ]; rfl
  refine X.wghost (H' := .cells b5 35 (vxL a) :: .cells b4 35 Z :: Rf) (by rw [hZ]; exact (by repeat (exact HSub.refl _))) ?_
  refine X.loopK (α := Nat × Vx) (fun ⟨i, c⟩ => [(6, i64 i)]) [0, 1, 4, 5] (fun ⟨i, c⟩ => .cells b5 35 (vxL c) :: .cells b4 35 Z :: Rf) (fun ⟨i, c⟩ => 1 ≤ i ∧ i ≤ L.length ∧ minV c (L.drop i) = minV a l) (fun ⟨i, c⟩ => L.length - i) ((1, a)) (EnvLe.cons (by rfl) (EnvLe.nil)) (by repeat (exact HSub.refl _)) ?_ ?_
  · exact ⟨Nat.le_refl _, by omega, by rw [hL1]⟩
  · rintro ⟨i, c⟩ hI
    obtain ⟨hi1, hi2, hmin⟩ := hI
    have hcl := vxL_len c
    have hc32 : c.p.1.length = 32 := c.p.2
    refine LW.seq ?_
    refine LW.seq ?_
    refine LW.region ?_
    refine X.u (LU.moveR Is.rfl') rfl ?_
    refine X.u (LU.moveS Is.rfl') rfl ?_
    refine X.u (LU.lenN Tryd.underlying26 Is.rfl' (by (simp only [Option.getD_some, Option.getD_none, byteEls_length, intEls_length, List.length_append, List.length_cons, List.length_nil, List.length_map, List.length_drop, List.length_take, Int.toNat_natCast]; rfl))) rfl ?_
    refine X.u (LU.lss Is.rfl' Is.rfl') rfl ?_
    refine LL.nil (after_code ?_)
    refine X.cond rfl (fun h5 => ?_) (fun h5 => ?_)
    · try have h5 := of_decide_eq_true h5
      refine LW.skip (after_code ?_)
      refine LW.seq ?_
      refine LW.block ?_
      refine LW.seq ?_
      obtain ⟨x, hx⟩ := at_lt (show i < L.length by omega)
      have hxl := vxL_len x
      have hx32 : x.p.1.length = 32 := x.p.2
      have hcx := cmp_fn x c
      rw [drop_at hx] at hmin
      have hmin2 : minV (if cmpV x c < 0 then x else c) (L.drop (i + 1)) = minV a l := hmin
      refine X.drawM 6 rfl (by kernel_rfl) rfl ?_
      refine QD.u (LU.moveR Is.rfl') rfl ?_
      refine QD.u (LU.moveS Is.rfl') rfl ?_
      refine QD.u (LU.moveR Is.rfl') rfl ?_
      refine QD.u (LU.at Tryd.underlying26 ⟨Tryd.sizeOf35, Tryd.isAgg35⟩ Is.rfl' Is.rfl' (by omega) (vxs_at hx) (vx_ne x)) rfl ?_
      refine QD.u (LU.weak (LU.load ⟨Tryd.sizeOf35, Tryd.isAgg35⟩ Is.rfl' (by assumption) (Part.whole (by assumption))) (Is.of (y := .agg (vxL x)) (rfl))) rfl ?_
      refine QD.u (LU.loadO 0 rfl ⟨Tryd.sizeOf35, Tryd.isAgg35⟩ Is.rfl' (Part.whole (by assumption))) rfl ?_
      refine QD.nil ?_
      refine X.act (X.callF (hcx) Is.rfl' rfl (HSub.refl _) (Opds.cons Is.rfl' (Opds.cons Is.rfl' Opds.nil)) ?_)
      rintro r H' ⟨rfl, rfl⟩
      refine X.u (LU.lss Is.rfl' Is.rfl') rfl ?_
      refine LL.nil (after_code ?_)
      refine X.cond rfl (fun h7 => ?_) (fun h7 => ?_)
      · have h7 : cmpV x c < 0 := of_decide_eq_true h7
        rw [if_pos h7] at hmin2
        refine LW.region ?_
        refine X.u (LU.moveS Is.rfl') rfl ?_
        refine X.u (LU.moveR Is.rfl') rfl ?_
        refine X.u (LU.at Tryd.underlying26 ⟨Tryd.sizeOf35, Tryd.isAgg35⟩ Is.rfl' Is.rfl' (by omega) (vxs_at hx) (vx_ne x)) rfl ?_
        refine X.u (LU.weak (LU.load ⟨Tryd.sizeOf35, Tryd.isAgg35⟩ Is.rfl' (by assumption) (Part.whole (by assumption))) (Is.of (y := .agg (vxL x)) (rfl))) rfl ?_
        refine X.act (X.store 0 rfl Tryd.sizeOf35 Is.rfl' Is.rfl' (by exact Cells.agg) (by assumption) (by (simp; omega)) ?_)
        refine LL.nil (after_blk (after_code ?_))
        refine X.wcells (ys := vxL x) (putAt_all (by rw [hxl, hcl])) ?_
        refine LW.region ?_
        refine X.u (LU.moveR Is.rfl') rfl ?_
        refine X.u (LU.addN Is.rfl' Is.rfl' (wrap_i64 (by omega) (by omega))) rfl ?_
        refine X.u (LU.assignR Is.rfl') rfl ?_
        refine LL.nil (after_rnd ?_)
        refine X.next ((i + 1, x)) rfl (EnvLe.cons (by rfl) (EnvLe.nil)) (Keeps.cons (by exact Eq.trans (b := .sl _ _ _) rfl rfl) (Keeps.cons (by exact Eq.trans (b := .raw _) rfl rfl) (Keeps.cons (by exact Eq.trans (b := .raw _) rfl rfl) (Keeps.cons (by exact Eq.trans (b := .raw _) rfl rfl) (Keeps.nil))))) (by repeat (exact HSub.refl _)) ?_ ?_
        · exact ⟨by omega, by omega, hmin2⟩
        · (simp; omega)
      · have h7 : ¬ cmpV x c < 0 := of_decide_eq_false h7
        rw [if_neg h7] at hmin2
        refine LW.skip (after_blk (after_code ?_))
        refine LW.region ?_
        refine X.u (LU.moveR Is.rfl') rfl ?_
        refine X.u (LU.addN Is.rfl' Is.rfl' (wrap_i64 (by omega) (by omega))) rfl ?_
        refine X.u (LU.assignR Is.rfl') rfl ?_
        refine LL.nil (after_rnd ?_)
        refine X.next ((i + 1, c)) rfl (EnvLe.cons (by rfl) (EnvLe.nil)) (Keeps.cons (by exact Eq.trans (b := .sl _ _ _) rfl rfl) (Keeps.cons (by exact Eq.trans (b := .raw _) rfl rfl) (Keeps.cons (by exact Eq.trans (b := .raw _) rfl rfl) (Keeps.cons (by exact Eq.trans (b := .raw _) rfl rfl) (Keeps.nil))))) (by repeat (exact HSub.refl _)) ?_ ?_
        · exact ⟨by omega, by omega, hmin2⟩
        · (simp; omega)
    · try have h5 := of_decide_eq_false h5
      refine LW.exit (exit_code (exit_rnd (exit_blk (after_code ?_))))
      refine LW.seq ?_
      rw [show i = L.length by omega, List.drop_length] at hmin
      have hmin3 : c = minV a l := hmin
      refine LW.region ?_
      refine X.u (LU.loadO 0 rfl ⟨Tryd.sizeOf35, Tryd.isAgg35⟩ Is.rfl' (Part.whole (by assumption))) rfl ?_
      refine X.act (X.store 1 rfl Tryd.sizeOf35 Is.rfl' Is.rfl' (by exact Cells.agg) (by assumption) (by (simp; omega)) ?_)
      refine LL.nil (after_code ?_)
      refine LW.ret (after_end ?_)
      rw [putAt_all (by rw [hcl, hZl])]
      refine X.ret (H' := []) (Res.cell1 0 rfl rfl ⟨Tryd.sizeOf35, Tryd.isAgg35⟩ (Part.whole hcl) (IsA rfl)) (by repeat (first | exact HSub.refl _ | refine HSub.drop ?_)) ?_
      exact ⟨by rw [hmin3], rfl⟩
end Go.Proofs.YtolpkeajokjbjaaDoor
namespace Go.Proofs.YtolpkeajokjbjaaDoor
open Go.RowKit Go.L Go.Lib
attribute [local irreducible] LL LW LO
set_option maxRecDepth 100000 in
theorem least_calls (a : Vx) (l : List Vx) (k : Cap) (hl : l.length < 1000000) : LCalls Tryd.prog 55 [Vxs (a :: l) k] [] (fun r H' => r = .agg (vxL (minV a l)) ∧ H' = []) := by
  have hml := vxL_len (minV a l)
  refine LCalls.of Tryd.func55 rfl Tryd.ntmps55 Tryd.results55 rfl (fun Rf => ?_)
  refine LW.seq ?_
  refine LW.region ?_
  refine X.act (X.alloc rfl Tryd.zeroValue35 (by exact Cells.rawagg (by decide)) (fun b2 => ?_))
  refine LL.nil (after_code ?_)
  refine LW.seq ?_
  refine LW.region ?_
  refine X.u (LU.moveS Is.rfl') rfl ?_
  refine X.u (LU.call (minfunc_calls a l k hl) Tryd.func67 rfl rfl (Opds.cons Is.rfl' (Opds.cons Is.rfl' Opds.nil))) rfl ?_
  refine X.act (X.store 0 rfl Tryd.sizeOf35 Is.rfl' Is.rfl' (by exact Cells.agg) (by assumption) (by exact Nat.le_of_ble_eq_true rfl) ?_)
  refine LL.nil (after_code ?_)
  refine LW.ret (after_end ?_)
  rw [putAt_all (by rw [hml]; rfl)]
  refine X.ret (H' := []) (Res.cell1 0 rfl rfl ⟨Tryd.sizeOf35, Tryd.isAgg35⟩ (Part.whole hml) (IsA rfl)) (by repeat (first | exact HSub.refl _ | refine HSub.drop ?_)) ?_
  exact ⟨rfl, rfl⟩
set_option maxRecDepth 100000 in
theorem top_calls : LCalls Tryd.prog 71 [] [] (fun r H' => r = .agg (vxL topV) ∧ H' = []) := by
  refine LCalls.of Tryd.func71 rfl Tryd.ntmps71 Tryd.results71 rfl (fun Rf => ?_)
  refine LW.seq ?_
  refine LW.region ?_
  refine X.act (X.alloc rfl Tryd.zeroValue35 (by exact Cells.rawagg (by decide)) (fun b0 => ?_))
  refine LL.nil (after_code ?_)
  refine LW.seq ?_
  refine LW.region ?_
  refine X.u (LU.weak (LU.build (places := #[(0, 32), (32, 1)]) Tryd.underlying35 Tryd.zeroValue35 (ones rfl) (by intro w; simp [Tryd.sizeOf3, Tryd.sizeOf31]) Parts.nil rfl) (Is.of (y := .agg (vxL topV)) (rfl))) rfl ?_
  refine X.act (X.store 0 rfl Tryd.sizeOf35 Is.rfl' Is.rfl' (by exact Cells.agg) (by (simp; done)) (by exact Nat.le_of_ble_eq_true rfl) ?_)
  refine LL.nil (after_code ?_)
  refine LW.ret (after_end ?_)
  refine X.ret (H' := []) (by exact Res.cell1 0 rfl rfl ⟨Tryd.sizeOf35, Tryd.isAgg35⟩ (Part.whole (by rfl)) (by exact IsA rfl)) (by repeat (first | exact HSub.refl _ | refine HSub.drop ?_)) ?_
  exact ⟨rfl, rfl⟩
set_option maxRecDepth 100000 in
theorem bottom_calls : LCalls Tryd.prog 74 [] [] (fun r H' => r = .agg (vxL botV) ∧ H' = []) := by
  refine LCalls.of Tryd.func74 rfl Tryd.ntmps74 Tryd.results74 rfl (fun Rf => ?_)
  refine LW.seq ?_
  refine LW.region ?_
  refine X.act (X.alloc rfl Tryd.zeroValue35 (by exact Cells.rawagg (by decide)) (fun b0 => ?_))
  refine LL.nil (after_code ?_)
  refine LW.seq ?_
  refine LW.region ?_
  refine X.u (LU.weak (LU.build (places := #[(0, 32), (32, 1)]) Tryd.underlying35 Tryd.zeroValue35 (ones rfl) (by intro w; simp [Tryd.sizeOf3, Tryd.sizeOf31]) (Parts.cons Is.rfl' (by exact Cells.raw rfl) Parts.nil) rfl) (Is.of (y := .agg (vxL botV)) (rfl))) rfl ?_
  refine X.act (X.store 0 rfl Tryd.sizeOf35 Is.rfl' Is.rfl' (by exact Cells.agg) (by (simp; done)) (by exact Nat.le_of_ble_eq_true rfl) ?_)
  refine LL.nil (after_code ?_)
  refine LW.ret (after_end ?_)
  refine X.ret (H' := []) (by exact Res.cell1 0 rfl rfl ⟨Tryd.sizeOf35, Tryd.isAgg35⟩ (Part.whole (by rfl)) (by exact IsA rfl)) (by repeat (first | exact HSub.refl _ | refine HSub.drop ?_)) ?_
  exact ⟨rfl, rfl⟩
set_option maxRecDepth 100000 in
theorem rends_calls (v : Vx) : LCalls Tryd.prog 64 [.agg (vxL v)] [] (fun r H' => r = bl (endsB v) ∧ H' = []) := by
  have hvl := vxL_len v
  refine LCalls.of Tryd.func64 rfl Tryd.ntmps64 Tryd.results64 rfl (fun Rf => ?_)
  refine LW.seq ?_
  refine LW.region ?_
  refine X.act (X.box rfl Is.rfl' (by exact Cells.agg) (fun b1 => ?_))
  refine X.u (LU.assignR Is.rfl') rfl ?_
  refine LL.nil (after_code ?_)
  refine LW.seq ?_
  refine X.drawM 9 rfl (by kernel_rfl) rfl ?_
  refine QD.u (LU.loadO 0 rfl ⟨Tryd.sizeOf35, Tryd.isAgg35⟩ Is.rfl' (Part.whole (by assumption))) rfl ?_
  refine QD.u (LU.call (top_calls) Tryd.func71 rfl rfl Opds.nil) rfl ?_
  refine QD.u (LU.eqlVx vxty Is.rfl' Is.rfl') rfl ?_
  refine QD.u (LU.moveR Is.rfl') rfl ?_
  refine QD.gF rfl rfl (fun hg => LU.loadO 0 rfl ⟨Tryd.sizeOf35, Tryd.isAgg35⟩ (by exact Is.rfl') (Part.whole (by assumption))) rfl ?_
  refine QD.gF rfl rfl (fun hg => LU.call (bottom_calls) Tryd.func74 rfl rfl Opds.nil) rfl ?_
  refine QD.gF rfl rfl (fun hg => LU.eqlVx vxty (by exact Is.whenN hg) (by exact Is.whenN hg)) rfl ?_
  refine QD.u (LU.pickOr Is.rfl' Is.rfl' (fun hq => (by exact Is.whenN hq))) rfl ?_
  refine QD.u (LU.assignR Is.rfl') rfl ?_
  refine QD.nil ?_
  refine LL.nil (after_code ?_)
  refine LW.ret (after_end ?_)
  refine X.ret (H' := []) (Res.one (by exact IsR rfl)) (by repeat (first | exact HSub.refl _ | refine HSub.drop ?_)) ?_
  exact ⟨by unfold endsB; rfl, rfl⟩
set_option maxHeartbeats 1000000 in
set_option maxRecDepth 100000 in
theorem rwrong_calls (l : List Vx) (k : Cap) (hl : l.length < 1000000) : LCalls Tryd.prog 65 [Vxs l k] [] (fun r H' => r = bl (wrongB l) ∧ H' = []) := by
  refine LCalls.of Tryd.func65 rfl Tryd.ntmps65 Tryd.results65 rfl (fun Rf => ?_)
  refine LW.seq ?_
  refine LW.region ?_
  refine X.u (LU.assignR Is.rfl') rfl ?_
  refine LL.nil (after_code ?_)
  refine LW.seq ?_
  refine LW.seq ?_
  refine LW.region ?_
  refine X.u (LU.assignR Is.rfl') rfl ?_
  refine LL.nil (after_code ?_)
  refine LW.block ?_
  refine X.loopK (α := Nat) (fun i => [(3, i64 i)]) [0] (fun _ => _) (fun i => i ≤ l.length ∧ (l.take i).Nodup ∧ ∀ v ∈ l.take i, endsB v = false) (fun i => l.length - i) (0) (EnvLe.cons (by rfl) (EnvLe.nil)) (HSub.refl _) ?_ ?_
  · exact ⟨Nat.zero_le _, by simp, by simp⟩
  · rintro i hI
    obtain ⟨hi, hn, he⟩ := hI
    refine LW.seq ?_
    refine LW.seq ?_
    refine LW.region ?_
    refine X.u (LU.moveR Is.rfl') rfl ?_
    refine X.u (LU.moveS Is.rfl') rfl ?_
    refine X.u (LU.lenN Tryd.underlying26 Is.rfl' (by (simp only [Option.getD_some, Option.getD_none, byteEls_length, intEls_length, List.length_append, List.length_cons, List.length_nil, List.length_map, List.length_drop, List.length_take, Int.toNat_natCast]; rfl))) rfl ?_
    refine X.u (LU.lss Is.rfl' Is.rfl') rfl ?_
    refine LL.nil (after_code ?_)
    refine X.cond rfl (fun h2 => ?_) (fun h2 => ?_)
    · try have h2 := of_decide_eq_true h2
      refine LW.skip (after_code ?_)
      refine LW.seq ?_
      refine LW.block ?_
      refine LW.seq ?_
      obtain ⟨v, hv⟩ := at_lt (show i < l.length by omega)
      have hvl := vxL_len v
      refine X.drawM 16 rfl (by kernel_rfl) rfl ?_
      refine QD.u (LU.moveS Is.rfl') rfl ?_
      refine QD.u (LU.moveR Is.rfl') rfl ?_
      refine QD.u (LU.at Tryd.underlying26 ⟨Tryd.sizeOf35, Tryd.isAgg35⟩ Is.rfl' Is.rfl' (by omega) (vxs_at hv) (vx_ne v)) rfl ?_
      refine QD.u (LU.load ⟨Tryd.sizeOf35, Tryd.isAgg35⟩ Is.rfl' (by assumption) (Part.whole (by assumption))) rfl ?_
      refine QD.u (LU.call (rends_calls v) Tryd.func64 rfl rfl (Opds.cons Is.rfl' Opds.nil)) rfl ?_
      refine QD.u (LU.moveR Is.rfl') rfl ?_
      refine QD.gF rfl rfl (fun hg => LU.moveS (by exact Is.rfl')) rfl ?_
      refine QD.gF rfl rfl (fun hg => LU.moveR (by exact Is.rfl')) rfl ?_
      refine QD.gF rfl rfl (fun hg => LU.weak (LU.slice (lo := none) (hi := some _) (l := none) (h := some ((i : Nat) : Int)) Tryd.sizeOf35 (by decide) Tryd.underlying26 (by exact Is.whenN hg) trivial ⟨_, (by exact Is.whenN hg)⟩ (by simp) (by simp) (by simp only [Option.getD_some, Option.getD_none, List.length_map]; try omega) .unk (.inl rfl)) (Is.of (y := Vxs (l.take i) .unk) (congrArg (fun z => LV.sl 33 z .unk) (by simp only [Option.getD_some, Option.getD_none, Int.toNat_natCast, Int.toNat_zero, List.drop_zero, Nat.sub_zero, vxs, List.map_take] <;> (try rfl))))) rfl ?_
      refine QD.gF rfl rfl (fun hg => LU.moveS (by exact Is.rfl')) rfl ?_
      refine QD.gF rfl rfl (fun hg => LU.moveR (by exact Is.rfl')) rfl ?_
      refine QD.gF rfl rfl (fun hg => LU.at Tryd.underlying26 ⟨Tryd.sizeOf35, Tryd.isAgg35⟩ (by exact Is.whenN hg) (by exact Is.whenN hg) (by omega) (vxs_at hv) (vx_ne v)) rfl ?_
      refine QD.gF rfl rfl (fun hg => LU.load ⟨Tryd.sizeOf35, Tryd.isAgg35⟩ (by exact Is.whenN hg) (by assumption) (Part.whole (by assumption))) rfl ?_
      refine QD.gF rfl rfl (fun hg => LU.call (place_calls (l.take i) .unk v (by rw [List.length_take]; omega)) Tryd.func63 rfl rfl (Opds.cons (by exact Is.whenN hg) (Opds.cons (by exact Is.whenN hg) Opds.nil))) rfl ?_
      refine QD.gF rfl rfl (fun hg => LU.geq (by exact Is.whenN hg) (by exact Is.rfl')) rfl ?_
      refine QD.u (LU.weak (LU.pickOr Is.rfl' Is.rfl' (fun hq => (by exact Is.whenN hq))) (Is.of (y := bl (endsB v || decide (v ∈ l.take i))) (by rw [← placeG_in]; try (cases endsB v <;> rfl)))) rfl ?_
      refine QD.nil ?_
      refine LL.nil (after_code ?_)
      refine X.cond rfl (fun h4 => ?_) (fun h4 => ?_)
      · have hw := wrong_bad hv h4
        refine LW.seq ?_
        refine LW.region ?_
        refine X.u (LU.assignR Is.rfl') rfl ?_
        refine LL.nil (after_code ?_)
        refine LW.ret (ret_blk (ret_code (ret_rnd (ret_blk (ret_code (after_end ?_))))))
        refine X.ret (H' := []) (Res.one (by exact IsR rfl)) (by repeat (exact HSub.refl _)) ?_
        exact ⟨by rw [hw], rfl⟩
      · have h4 : endsB v = false ∧ v ∉ l.take i := by simpa using h4
        have hz0 : (0 : Nat) = 0 := rfl
        refine LW.skip (after_blk (after_code ?_))
        refine LW.region ?_
        refine X.u (LU.moveR Is.rfl') rfl ?_
        refine X.u (LU.addN Is.rfl' Is.rfl' (wrap_i64 (by omega) (by omega))) rfl ?_
        refine X.u (LU.assignR Is.rfl') rfl ?_
        refine LL.nil (after_rnd ?_)
        refine X.next (i + 1) rfl (EnvLe.cons (by rfl) (EnvLe.nil)) (Keeps.cons (by exact Eq.trans (b := .sl _ _ _) rfl rfl) (Keeps.nil)) (HSub.refl _) ?_ ?_
        · refine ⟨by omega, ?_, fun y hy => ?_⟩
          · rw [take_snoc hv]; exact nodup_snoc.2 ⟨hn, h4.2⟩
          · rw [take_snoc hv, List.mem_append, List.mem_singleton] at hy
            rcases hy with e | e
            · exact he y e
            · rw [e]; exact h4.1
        · omega
    · try have h2 := of_decide_eq_false h2
      refine LW.exit (exit_code (exit_rnd (exit_blk (after_code ?_))))
      refine LW.seq ?_
      refine LW.region ?_
      refine X.u (LU.moveS Is.rfl') rfl ?_
      refine X.u (LU.lenN Tryd.underlying26 Is.rfl' (by (simp only [Option.getD_some, Option.getD_none, byteEls_length, intEls_length, List.length_append, List.length_cons, List.length_nil, List.length_map, List.length_drop, List.length_take, Int.toNat_natCast]; rfl))) rfl ?_
      refine X.u (LU.eql Is.rfl' Is.rfl') rfl ?_
      refine X.u (LU.assignR Is.rfl') rfl ?_
      refine LL.nil (after_code ?_)
      refine LW.ret (after_end ?_)
      refine X.ret (H' := []) (Res.one (by exact IsR rfl)) (by repeat (exact HSub.refl _)) ?_
      have hil : i = l.length := by omega
      rw [hil, List.take_length] at hn he
      refine ⟨?_, rfl⟩
      rw [wrong_end hn he]
      congr 2
      exact decide_eq_decide.2 ⟨fun c => by omega, fun c => by omega⟩
end Go.Proofs.YtolpkeajokjbjaaDoor
namespace Go.Proofs.YtolpkeajokjbjaaDoor
open Go.RowKit Go.L Go.Lib
attribute [local irreducible] LL LW LO
structure Ad where
  up : Vx
  down : Vx
  ids : List Vx
  texts : List (List UInt8)
structure De where
  v : Vx
  by_ : Hs
deriving DecidableEq
structure Rg where
  L : List Ad
  D : List De
abbrev adL (a : Ad) : List LV := vxL a.up ++ (vxL a.down ++ [Vxs a.ids .unk, .sl 1 (strsL a.texts) .unk])
abbrev deL (d : De) : List LV := vxL d.v ++ hsL d.by_
abbrev ads (l : List Ad) : List (List LV) := l.map adL
abbrev des (l : List De) : List (List LV) := l.map deL
abbrev rgL (r : Rg) : List LV := [.sl 68 (ads r.L) .unk, .sl 65 (des r.D) .unk]
theorem ad_len (a : Ad) : (adL a).length = 68 := by simp [a.up.p.2, a.down.p.2]
theorem de_len (d : De) : (deL d).length = 65 := by simp [d.v.p.2, d.by_.2]
theorem ad_ne (a : Ad) : adL a ≠ [] := fun c => by have := ad_len a; rw [c] at this; cases this
theorem de_ne (d : De) : deL d ≠ [] := fun c => by have := de_len d; rw [c] at this; cases this
theorem ads_at {l : List Ad} {i : Nat} {x : Ad} (h : l[i]? = some x) : (ads l)[(i : Int).toNat]? = some (adL x) := by
  rw [Int.toNat_natCast, List.getElem?_map, h]; rfl
theorem des_at {l : List De} {i : Nat} {x : De} (h : l[i]? = some x) : (des l)[(i : Int).toNat]? = some (deL x) := by
  rw [Int.toNat_natCast, List.getElem?_map, h]; rfl
theorem ad_up (a : Ad) : ((adL a).drop 0).take 33 = vxL a.up := by rw [List.drop_zero, List.take_left' (vxL_len a.up)]
theorem ad_down (a : Ad) : ((adL a).drop 33).take 33 = vxL a.down := by rw [List.drop_left' (vxL_len a.up), List.take_left' (vxL_len a.down)]
theorem ad_ids (a : Ad) : ((adL a).drop 66).take 1 = [Vxs a.ids .unk] := by
  rw [show (66 : Nat) = 33 + 33 from rfl, ← List.drop_drop, List.drop_left' (vxL_len a.up), List.drop_left' (vxL_len a.down)]; rfl
theorem ad_ids2 (a : Ad) : (adL a)[66]? = some (Vxs a.ids .unk) := by
  rw [List.getElem?_append_right (by rw [vxL_len]; decide), vxL_len, List.getElem?_append_right (by rw [vxL_len]; decide), vxL_len]; rfl
theorem de_v (d : De) : ((deL d).drop 0).take 33 = vxL d.v := by rw [List.drop_zero, List.take_left' (vxL_len d.v)]
theorem de_by (d : De) : ((deL d).drop 33).take 32 = hsL d.by_ := by rw [List.drop_left' (vxL_len d.v), List.take_of_length_le (by rw [hsL_len]; exact Nat.le_refl _)]
def idsG (l : List Ad) : List Vx := l.flatMap (·.ids)
theorem ids_snoc (l : List Ad) (a : Ad) : idsG (l ++ [a]) = idsG l ++ a.ids := by unfold idsG; rw [List.flatMap_append]; simp
theorem ids_take_le (l : List Ad) (i : Nat) : (idsG (l.take i)).length ≤ (idsG l).length := by
  conv => rhs; rw [← List.take_append_drop i l]
  unfold idsG
  rw [List.flatMap_append, List.length_append]
  omega
set_option maxHeartbeats 1000000 in
set_option maxRecDepth 100000 in
theorem ids_calls (r : Rg) (hl : r.L.length < 1000000) (hi : (idsG r.L).length < 1000000) : LCalls Tryd.prog 61 [.agg (rgL r)] [] (fun x H' => x = Vxs (idsG r.L) .unk ∧ H' = []) := by
  refine LCalls.of Tryd.func61 rfl Tryd.ntmps61 Tryd.results61 rfl (fun Rf => ?_)
  refine LW.seq ?_
  refine LW.region ?_
  refine X.act (X.box rfl Is.rfl' (by exact Cells.agg) (fun b1 => ?_))
  refine X.u (LU.assign (Is.nil 33)) rfl ?_
  refine LL.nil (after_code ?_)
  refine LW.seq ?_
  refine LW.region ?_
  refine X.u (LU.assign (Is.nil 33)) rfl ?_
  refine LL.nil (after_code ?_)
  refine LW.seq ?_
  refine LW.seq ?_
  refine LW.region ?_
  refine X.u (LU.assignR Is.rfl') rfl ?_
  refine LL.nil (after_code ?_)
  refine LW.block ?_
  refine X.wweak (t := 3) (v := Vxs [] (.tok 0 0 0)) (Is.full_tok 0 0) ?_
  refine X.wghost (HSub.tail0 0 0 0 (Nat.le_refl _) _) ?_
  refine X.loopK (α := Nat × Nat × Nat × Nat) (fun ⟨i, b, o, c⟩ => [(4, i64 i), (3, Vxs (idsG (r.L.take i)) (.tok b o c))]) [1, 2] (fun ⟨i, b, o, c⟩ => .tail b o c :: .cells b1 59 (rgL r) :: Rf) (fun ⟨i, b, o, c⟩ => i ≤ r.L.length) (fun ⟨i, b, o, c⟩ => r.L.length - i) ((0, 0, 0, 0)) (EnvLe.cons (by rfl) (EnvLe.cons (by rfl) (EnvLe.nil))) (by repeat (exact HSub.refl _)) ?_ ?_
  · exact Nat.zero_le _
  · rintro ⟨i, b, o, c⟩ hI
    refine LW.seq ?_
    refine LW.seq ?_
    refine LW.region ?_
    refine X.u (LU.moveR Is.rfl') rfl ?_
    refine X.u (LU.fieldO Tryd.underlying59 rfl Tryd.sizeOf56 (by decide) Is.rfl') rfl ?_
    refine X.u (LU.loadO 1 rfl ⟨Tryd.sizeOf56, Tryd.isAgg56⟩ Is.rfl' (Part.one rfl)) rfl ?_
    refine X.u (LU.lenN Tryd.underlying56 Is.rfl' (by (simp only [Option.getD_some, Option.getD_none, byteEls_length, intEls_length, List.length_append, List.length_cons, List.length_nil, List.length_map, List.length_drop, List.length_take, Int.toNat_natCast]; rfl))) rfl ?_
    refine X.u (LU.lss Is.rfl' Is.rfl') rfl ?_
    refine LL.nil (after_code ?_)
    refine X.cond rfl (fun h3 => ?_) (fun h3 => ?_)
    · try have h3 := of_decide_eq_true h3
      refine LW.skip (after_code ?_)
      refine LW.seq ?_
      refine LW.block ?_
      obtain ⟨a, ha⟩ := at_lt (show i < r.L.length by omega)
      have hal := ad_len a
      have ha1 : a.up.p.1.length = 32 := a.up.p.2
      have ha2 : a.down.p.1.length = 32 := a.down.p.2
      have h1 := ids_take_le r.L i
      have h2 := ids_take_le r.L (i + 1)
      rw [take_snoc ha, ids_snoc, List.length_append] at h2
      refine LW.region ?_
      refine X.u (LU.moveS Is.rfl') rfl ?_
      refine X.u (LU.fieldO Tryd.underlying59 rfl Tryd.sizeOf56 (by decide) Is.rfl') rfl ?_
      refine X.u (LU.loadO 1 rfl ⟨Tryd.sizeOf56, Tryd.isAgg56⟩ Is.rfl' (Part.one rfl)) rfl ?_
      refine X.u (LU.moveR Is.rfl') rfl ?_
      refine X.u (LU.at Tryd.underlying56 ⟨Tryd.sizeOf104, Tryd.isAgg104⟩ Is.rfl' Is.rfl' (by omega) (ads_at ha) (ad_ne a)) rfl ?_
      refine X.u (LU.weak (LU.fieldP Tryd.underlying104 rfl ⟨Tryd.sizeOf26, Tryd.isAgg26⟩ (by decide) Is.rfl' (by (simp; omega))) (Is.of (y := .pin [Vxs a.ids .unk]) (congrArg LV.pin (ad_ids a)))) rfl ?_
      refine X.u (LU.load ⟨Tryd.sizeOf26, Tryd.isAgg26⟩ Is.rfl' (by (simp; done)) (Part.one rfl)) rfl ?_
      refine X.act (X.append 0 rfl rfl Tryd.underlying26 (El.of (P := Tryd.prog) (z := (.agg #[(.int .u8 0), (.int .u8 0), (.int .u8 0), (.int .u8 0), (.int .u8 0), (.int .u8 0), (.int .u8 0), (.int .u8 0), (.int .u8 0), (.int .u8 0), (.int .u8 0), (.int .u8 0), (.int .u8 0), (.int .u8 0), (.int .u8 0), (.int .u8 0), (.int .u8 0), (.int .u8 0), (.int .u8 0), (.int .u8 0), (.int .u8 0), (.int .u8 0), (.int .u8 0), (.int .u8 0), (.int .u8 0), (.int .u8 0), (.int .u8 0), (.int .u8 0), (.int .u8 0), (.int .u8 0), (.int .u8 0), (.int .u8 0), (.int .i64 0)])) (size := 33) (bytes := 40) rfl rfl rfl) Is.rfl' Is.rfl' (SrcL.slice Tryd.underlying26 (by decide) (vxs_size a.ids)) (by simp only [Option.getD_some, Option.getD_none, byteEls_length, intEls_length, List.length_append, List.length_cons, List.length_nil, List.length_map, List.length_drop, List.length_take, Int.toNat_natCast]; omega) (by simp only [Option.getD_some, Option.getD_none, byteEls_length, intEls_length, List.length_append, List.length_cons, List.length_nil, List.length_map, List.length_drop, List.length_take, Int.toNat_natCast]; omega) (fun b19 o19 c19 => X.weak (t := 19) (Is.of (y := Vxs (idsG (r.L.take (i + 1))) (.tok b19 o19 c19)) (congrArg (fun z => LV.sl 33 z (.tok b19 o19 c19)) (by rw [take_snoc ha, ids_snoc]; exact vxs_app _ _))) ?_))
      refine X.u (LU.assignS Is.rfl') rfl ?_
      refine LL.nil (after_blk (after_code ?_))
      refine LW.region ?_
      refine X.u (LU.moveR Is.rfl') rfl ?_
      refine X.u (LU.addN Is.rfl' Is.rfl' (wrap_i64 (by omega) (by omega))) rfl ?_
      refine X.u (LU.assignR Is.rfl') rfl ?_
      refine LL.nil (after_rnd ?_)
      refine X.next ((i + 1, b19, o19, c19)) rfl (EnvLe.cons (by rfl) (EnvLe.cons (by rfl) (EnvLe.nil))) (Keeps.cons (by exact Eq.trans (b := .raw _) rfl rfl) (Keeps.cons (by exact Eq.trans (b := .sl _ _ _) rfl rfl) (Keeps.nil))) (by repeat (exact HSub.refl _)) ?_ ?_
      · omega
      · (simp; omega)
    · try have h3 := of_decide_eq_false h3
      refine LW.exit (exit_code (exit_rnd (exit_blk (after_code ?_))))
      refine LW.seq ?_
      refine LW.region ?_
      refine X.u (LU.moveS Is.rfl') rfl ?_
      refine X.u (LU.assignS Is.rfl') rfl ?_
      refine LL.nil (after_code ?_)
      refine LW.ret (after_end ?_)
      refine X.ret (H' := []) (Res.one (by exact IsS rfl)) (by repeat (first | exact HSub.refl _ | refine HSub.drop ?_)) ?_
      exact ⟨by rw [List.take_of_length_le (by omega)], rfl⟩
def hasG (r : Rg) (v : Vx) : Bool := endsB v || decide (v ∈ idsG r.L)
set_option maxHeartbeats 1000000 in
set_option maxRecDepth 100000 in
theorem rhas_calls (r : Rg) (v : Vx) (hl : r.L.length < 1000000) (hi : (idsG r.L).length < 1000000) : LCalls Tryd.prog 47 [.agg (rgL r), .agg (vxL v)] [] (fun x H' => x = bl (hasG r v) ∧ H' = []) := by
  have hvl := vxL_len v
  refine LCalls.of Tryd.func47 rfl Tryd.ntmps47 Tryd.results47 rfl (fun Rf => ?_)
  refine LW.seq ?_
  refine LW.region ?_
  refine X.act (X.box rfl Is.rfl' (by exact Cells.agg) (fun b2 => ?_))
  refine X.act (X.box rfl Is.rfl' (by exact Cells.agg) (fun b3 => ?_))
  refine X.u (LU.assignR Is.rfl') rfl ?_
  refine LL.nil (after_code ?_)
  refine LW.seq ?_
  refine X.drawM 10 rfl (by kernel_rfl) rfl ?_
  refine QD.u (LU.loadO 0 rfl ⟨Tryd.sizeOf35, Tryd.isAgg35⟩ Is.rfl' (Part.whole (by assumption))) rfl ?_
  refine QD.u (LU.call (rends_calls v) Tryd.func64 rfl rfl (Opds.cons Is.rfl' Opds.nil)) rfl ?_
  refine QD.u (LU.moveR Is.rfl') rfl ?_
  refine QD.gF rfl rfl (fun hg => LU.loadO 1 rfl ⟨Tryd.sizeOf59, Tryd.isAgg59⟩ (by exact Is.rfl') (Part.whole (by (simp; done)))) rfl ?_
  refine QD.gF rfl rfl (fun hg => LU.call (ids_calls r hl hi) Tryd.func61 rfl rfl (Opds.cons (by exact Is.whenN hg) Opds.nil)) rfl ?_
  refine QD.gF rfl rfl (fun hg => LU.loadO 0 rfl ⟨Tryd.sizeOf35, Tryd.isAgg35⟩ (by exact Is.rfl') (Part.whole (by assumption))) rfl ?_
  refine QD.gF rfl rfl (fun hg => LU.call (place_calls (idsG r.L) .unk v (by omega)) Tryd.func63 rfl rfl (Opds.cons (by exact Is.whenN hg) (Opds.cons (by exact Is.whenN hg) Opds.nil))) rfl ?_
  refine QD.gF rfl rfl (fun hg => LU.geq (by exact Is.whenN hg) (by exact Is.rfl')) rfl ?_
  refine QD.u (LU.weak (LU.pickOr Is.rfl' Is.rfl' (fun hq => (by exact Is.whenN hq))) (Is.of (y := bl (hasG r v)) (by unfold hasG; rw [← placeG_in]; try (cases endsB v <;> rfl)))) rfl ?_
  refine QD.u (LU.assignR Is.rfl') rfl ?_
  refine QD.nil ?_
  refine LL.nil (after_code ?_)
  refine LW.ret (after_end ?_)
  refine X.ret (H' := []) (Res.one (by exact IsR rfl)) (by repeat (first | exact HSub.refl _ | refine HSub.drop ?_)) ?_
  exact ⟨rfl, rfl⟩
def killsG (r : Rg) (v : Vx) : Nat := (r.D.filter fun d => decide (d.v = v)).length
set_option maxHeartbeats 1000000 in
set_option maxRecDepth 100000 in
theorem rkills_calls (r : Rg) (v : Vx) (hl : r.D.length < 1000000) : LCalls Tryd.prog 60 [.agg (rgL r), .agg (vxL v)] [] (fun x H' => x = i64 (killsG r v : Nat) ∧ H' = []) := by
  have hvl := vxL_len v
  refine LCalls.of Tryd.func60 rfl Tryd.ntmps60 Tryd.results60 rfl (fun Rf => ?_)
  refine LW.seq ?_
  refine LW.region ?_
  refine X.act (X.box rfl Is.rfl' (by exact Cells.agg) (fun b2 => ?_))
  refine X.act (X.box rfl Is.rfl' (by exact Cells.agg) (fun b3 => ?_))
  refine X.u (LU.assignR Is.rfl') rfl ?_
  refine LL.nil (after_code ?_)
  refine LW.seq ?_
  refine LW.region ?_
  refine X.u (LU.assignR Is.rfl') rfl ?_
  refine LL.nil (after_code ?_)
  refine LW.seq ?_
  refine LW.seq ?_
  refine LW.region ?_
  refine X.u (LU.assignR Is.rfl') rfl ?_
  refine LL.nil (after_code ?_)
  refine LW.block ?_
  refine X.loopK (α := Nat × Nat) (fun ⟨i, n⟩ => [(6, i64 i), (5, i64 n)]) [2, 3, 4] (fun ⟨i, n⟩ => .cells b3 35 (vxL v) :: .cells b2 59 (rgL r) :: Rf) (fun ⟨i, n⟩ => i ≤ r.D.length ∧ n = ((r.D.take i).filter fun d => decide (d.v = v)).length ∧ n ≤ i) (fun ⟨i, n⟩ => r.D.length - i) ((0, 0)) (EnvLe.cons (by rfl) (EnvLe.cons (by rfl) (EnvLe.nil))) (by repeat (exact HSub.refl _)) ?_ ?_
  · exact ⟨Nat.zero_le _, by simp, Nat.le_refl _⟩
  · rintro ⟨i, n⟩ hI
    obtain ⟨hi, hn, hni⟩ := hI
    refine LW.seq ?_
    refine LW.seq ?_
    refine LW.region ?_
    refine X.u (LU.moveR Is.rfl') rfl ?_
    refine X.u (LU.fieldO Tryd.underlying59 rfl Tryd.sizeOf57 (by decide) Is.rfl') rfl ?_
    refine X.u (LU.loadO 1 rfl ⟨Tryd.sizeOf57, Tryd.isAgg57⟩ Is.rfl' (Part.one rfl)) rfl ?_
    refine X.u (LU.lenN Tryd.underlying57 Is.rfl' (by (simp only [Option.getD_some, Option.getD_none, byteEls_length, intEls_length, List.length_append, List.length_cons, List.length_nil, List.length_map, List.length_drop, List.length_take, Int.toNat_natCast]; rfl))) rfl ?_
    refine X.u (LU.lss Is.rfl' Is.rfl') rfl ?_
    refine LL.nil (after_code ?_)
    refine X.cond rfl (fun h3 => ?_) (fun h3 => ?_)
    · try have h3 := of_decide_eq_true h3
      refine LW.skip (after_code ?_)
      refine LW.seq ?_
      refine LW.block ?_
      refine LW.seq ?_
      obtain ⟨d_, hd⟩ := at_lt (show i < r.D.length by omega)
      have hdl := de_len d_
      have hd1 : d_.v.p.1.length = 32 := d_.v.p.2
      have hd2 : d_.by_.1.length = 32 := d_.by_.2
      refine X.drawM 8 rfl (by kernel_rfl) rfl ?_
      refine QD.u (LU.fieldO Tryd.underlying59 rfl Tryd.sizeOf57 (by decide) Is.rfl') rfl ?_
      refine QD.u (LU.loadO 1 rfl ⟨Tryd.sizeOf57, Tryd.isAgg57⟩ Is.rfl' (Part.one rfl)) rfl ?_
      refine QD.u (LU.moveR Is.rfl') rfl ?_
      refine QD.u (LU.at Tryd.underlying57 ⟨Tryd.sizeOf106, Tryd.isAgg106⟩ Is.rfl' Is.rfl' (by omega) (des_at hd) (de_ne d_)) rfl ?_
      refine QD.u (LU.fieldP Tryd.underlying106 rfl ⟨Tryd.sizeOf35, Tryd.isAgg35⟩ (by decide) Is.rfl' (by (simp; omega))) rfl ?_
      refine QD.u (LU.weak (LU.load ⟨Tryd.sizeOf35, Tryd.isAgg35⟩ Is.rfl' (by (simp; omega)) (Part.whole (by (simp; omega)))) (Is.of (y := .agg (vxL d_.v)) (congrArg LV.agg (de_v d_)))) rfl ?_
      refine QD.u (LU.loadO 0 rfl ⟨Tryd.sizeOf35, Tryd.isAgg35⟩ Is.rfl' (Part.whole (by assumption))) rfl ?_
      refine QD.u (LU.eqlVx vxty Is.rfl' Is.rfl') rfl ?_
      refine QD.nil ?_
      refine LL.nil (after_code ?_)
      refine X.cond rfl (fun h5 => ?_) (fun h5 => ?_)
      · have h5 : d_.v = v := by simpa using h5
        have hz0 : (0 : Nat) = 0 := rfl
        refine LW.region ?_
        refine X.u (LU.moveR Is.rfl') rfl ?_
        refine X.u (LU.addN Is.rfl' Is.rfl' (wrap_i64 (by omega) (by omega))) rfl ?_
        refine X.u (LU.assignR Is.rfl') rfl ?_
        refine LL.nil (after_blk (after_code ?_))
        refine LW.region ?_
        refine X.u (LU.moveR Is.rfl') rfl ?_
        refine X.u (LU.addN Is.rfl' Is.rfl' (wrap_i64 (by omega) (by omega))) rfl ?_
        refine X.u (LU.assignR Is.rfl') rfl ?_
        refine LL.nil (after_rnd ?_)
        refine X.next ((i + 1, n + 1)) rfl (EnvLe.cons (by rfl) (EnvLe.cons (by rfl) (EnvLe.nil))) (Keeps.cons (by exact Eq.trans (b := .raw _) rfl rfl) (Keeps.cons (by exact Eq.trans (b := .raw _) rfl rfl) (Keeps.cons (by exact Eq.trans (b := .raw _) rfl rfl) (Keeps.nil)))) (by repeat (exact HSub.refl _)) ?_ ?_
        · exact ⟨by omega, by rw [take_snoc hd, List.filter_append, List.length_append, ← hn, List.filter_cons, if_pos (decide_eq_true h5)]; rfl, by omega⟩
        · (simp; omega)
      · have h5 : d_.v ≠ v := by simpa using h5
        have hz0 : (0 : Nat) = 0 := rfl
        refine LW.skip (after_blk (after_code ?_))
        refine LW.region ?_
        refine X.u (LU.moveR Is.rfl') rfl ?_
        refine X.u (LU.addN Is.rfl' Is.rfl' (wrap_i64 (by omega) (by omega))) rfl ?_
        refine X.u (LU.assignR Is.rfl') rfl ?_
        refine LL.nil (after_rnd ?_)
        refine X.next ((i + 1, n)) rfl (EnvLe.cons (by rfl) (EnvLe.cons (by rfl) (EnvLe.nil))) (Keeps.cons (by exact Eq.trans (b := .raw _) rfl rfl) (Keeps.cons (by exact Eq.trans (b := .raw _) rfl rfl) (Keeps.cons (by exact Eq.trans (b := .raw _) rfl rfl) (Keeps.nil)))) (by repeat (exact HSub.refl _)) ?_ ?_
        · exact ⟨by omega, by rw [take_snoc hd, List.filter_append, List.length_append, ← hn, List.filter_cons, if_neg (by rw [decide_eq_false h5]; decide)]; rfl, by omega⟩
        · (simp; omega)
    · try have h3 := of_decide_eq_false h3
      refine LW.exit (exit_code (exit_rnd (exit_blk (after_code ?_))))
      refine LW.seq ?_
      refine LW.region ?_
      refine X.u (LU.moveR Is.rfl') rfl ?_
      refine X.u (LU.assignR Is.rfl') rfl ?_
      refine LL.nil (after_code ?_)
      refine LW.ret (after_end ?_)
      refine X.ret (H' := []) (Res.one (by exact IsR rfl)) (by repeat (first | exact HSub.refl _ | refine HSub.drop ?_)) ?_
      exact ⟨by rw [hn, List.take_of_length_le (by omega)]; rfl, rfl⟩
end Go.Proofs.YtolpkeajokjbjaaDoor
namespace Go.Proofs.YtolpkeajokjbjaaDoor
open Go.RowKit Go.L Go.Lib
attribute [local irreducible] LL LW LO
def st1 (a : Ad) (v : Vx) : List Vx := if a.up = v then [a.ids.headD topV] else []
def st2 (a : Ad) (v : Vx) : List Vx := if (decide (0 ≤ placeG a.ids v) && decide (placeG a.ids v + 1 < a.ids.length)) = true then [a.ids.getD (placeG a.ids v + 1).toNat topV] else []
def st3 (a : Ad) (v : Vx) : List Vx := if (decide (0 ≤ placeG a.ids v) && decide (placeG a.ids v + 1 = a.ids.length)) = true then [a.down] else []
def st0 (v : Vx) : List Vx := if v = topV then [botV] else []
def stepsG (r : Rg) (v : Vx) : List Vx := st0 v ++ r.L.flatMap fun a => st1 a v ++ (st2 a v ++ st3 a v)
theorem st1_len (a : Ad) (v : Vx) : (st1 a v).length ≤ 1 := by unfold st1; split <;> simp
theorem st2_len (a : Ad) (v : Vx) : (st2 a v).length ≤ 1 := by unfold st2; split <;> simp
theorem st3_len (a : Ad) (v : Vx) : (st3 a v).length ≤ 1 := by unfold st3; split <;> simp
theorem st0_len (v : Vx) : (st0 v).length ≤ 1 := by unfold st0; split <;> simp
set_option maxHeartbeats 2000000 in
set_option maxRecDepth 100000 in
theorem steps_calls (r : Rg) (v : Vx) (hl : r.L.length < 1000000) (hne : ∀ a ∈ r.L, a.ids ≠ [] ∧ a.ids.length < 1000000) : LCalls Tryd.prog 72 [.agg (rgL r), .agg (vxL v)] [] (fun x H' => ∃ b o c, x = Vxs (stepsG r v) (.tok b o c) ∧ H' = [.tail b o c]) := by
  have hvl := vxL_len v
  have hbl := vxL_len botV
  have h00 := st0_len v
  refine LCalls.of Tryd.func72 rfl Tryd.ntmps72 Tryd.results72 rfl (fun Rf => ?_)
  refine LW.seq ?_
  refine LW.region ?_
  refine X.act (X.box rfl Is.rfl' (by exact Cells.agg) (fun b2 => ?_))
  refine X.act (X.box rfl Is.rfl' (by exact Cells.agg) (fun b3 => ?_))
  refine X.u (LU.assign (Is.nil 33)) rfl ?_
  refine LL.nil (after_code ?_)
  refine LW.seq ?_
  refine LW.region ?_
  refine X.u (LU.assign (Is.nil 33)) rfl ?_
  refine LL.nil (after_code ?_)
  refine X.meetK (α := List Vx × Nat × Nat × Nat) (fun ⟨o0, b, o, c⟩ => [(5, Vxs o0 (.tok b o c))]) [2, 3, 4] (fun ⟨o0, b, o, c⟩ => .tail b o c :: .cells b3 35 (vxL v) :: .cells b2 59 (rgL r) :: Rf) (fun ⟨o0, b, o, c⟩ => o0 = st0 v) ?_ ?_
  · refine LW.seq ?_
    refine X.wweak (t := 5) (v := Vxs [] (.tok 0 0 0)) (Is.full_tok 0 0) ?_
    refine X.wghost (HSub.tail0 0 0 0 (Nat.le_refl _) _) ?_
    refine X.drawM 3 rfl (by kernel_rfl) rfl ?_
    refine QD.u (LU.loadO 1 rfl ⟨Tryd.sizeOf35, Tryd.isAgg35⟩ Is.rfl' (Part.whole (by assumption))) rfl ?_
    refine QD.u (LU.call (top_calls) Tryd.func71 rfl rfl Opds.nil) rfl ?_
    refine QD.u (LU.eqlVx vxty Is.rfl' Is.rfl') rfl ?_
    refine QD.nil ?_
    refine LL.nil (after_code ?_)
    refine X.cond rfl (fun h2 => ?_) (fun h2 => ?_)
    · have h2 : v = topV := by simpa using h2
      have hz0 : (0 : Nat) = 0 := rfl
      refine LW.region ?_
      refine X.u (LU.moveS Is.rfl') rfl ?_
      refine X.u (LU.call (bottom_calls) Tryd.func74 rfl rfl Opds.nil) rfl ?_
      refine X.u (LU.lits Tryd.underlying26 Tryd.sizeOf35 Tryd.zeroValue35 (ones rfl) rfl (by decide) (by decide) (Elems.cons Is.rfl' (by exact Cells.agg) Elems.nil) (by (simp; done)) rfl) rfl ?_
      refine X.act (X.append 0 rfl rfl Tryd.underlying26 (El.of (P := Tryd.prog) (z := (.agg #[(.int .u8 0), (.int .u8 0), (.int .u8 0), (.int .u8 0), (.int .u8 0), (.int .u8 0), (.int .u8 0), (.int .u8 0), (.int .u8 0), (.int .u8 0), (.int .u8 0), (.int .u8 0), (.int .u8 0), (.int .u8 0), (.int .u8 0), (.int .u8 0), (.int .u8 0), (.int .u8 0), (.int .u8 0), (.int .u8 0), (.int .u8 0), (.int .u8 0), (.int .u8 0), (.int .u8 0), (.int .u8 0), (.int .u8 0), (.int .u8 0), (.int .u8 0), (.int .u8 0), (.int .u8 0), (.int .u8 0), (.int .u8 0), (.int .i64 0)])) (size := 33) (bytes := 40) rfl rfl rfl) Is.rfl' Is.rfl' (SrcL.slice Tryd.underlying26 (by decide) (by intro e he; rw [List.mem_singleton.1 he]; exact hbl)) (by simp only [Option.getD_some, Option.getD_none, byteEls_length, intEls_length, List.length_append, List.length_cons, List.length_nil, List.length_map, List.length_drop, List.length_take, Int.toNat_natCast]; omega) (by simp only [Option.getD_some, Option.getD_none, byteEls_length, intEls_length, List.length_append, List.length_cons, List.length_nil, List.length_map, List.length_drop, List.length_take, Int.toNat_natCast]; omega) (fun b15 o15 c15 => X.weak (t := 15) (Is.of (y := Vxs [botV] (.tok b15 o15 c15)) (rfl)) ?_))
      refine X.u (LU.assignS Is.rfl') rfl ?_
      refine LL.nil (after_rnd ?_)
      refine X.meets (([botV], b15, o15, c15)) rfl (EnvLe.cons (by rfl) (EnvLe.nil)) (Keeps.cons (by exact Eq.trans (b := .raw _) rfl rfl) (Keeps.cons (by exact Eq.trans (b := .raw _) rfl rfl) (Keeps.cons (by exact Eq.trans (b := .sl _ _ _) rfl rfl) (Keeps.nil)))) (by repeat (exact HSub.refl _)) ?_
      unfold st0; rw [if_pos h2]
    · have h2 : v ≠ topV := by simpa using h2
      have hz0 : (0 : Nat) = 0 := rfl
      refine LW.skip (after_rnd ?_)
      refine X.meets (([], 0, 0, 0)) rfl (EnvLe.cons (by rfl) (EnvLe.nil)) (Keeps.cons (by exact Eq.trans (b := .raw _) rfl rfl) (Keeps.cons (by exact Eq.trans (b := .raw _) rfl rfl) (Keeps.cons (by exact Eq.trans (b := .sl _ _ _) rfl rfl) (Keeps.nil)))) (by repeat (exact HSub.refl _)) ?_
      unfold st0; rw [if_neg h2]
  · rintro ⟨o0, b, o, c⟩ hI
    refine LW.seq ?_
    refine LW.seq ?_
    refine LW.region ?_
    refine X.u (LU.assignR Is.rfl') rfl ?_
    refine LL.nil (after_code ?_)
    refine LW.block ?_
    refine X.loopK (α := Nat × List Vx × Nat × Nat × Nat) (fun ⟨i, out, b_, o_, c_⟩ => [(6, i64 i), (5, Vxs out (.tok b_ o_ c_))]) [2, 3, 4] (fun ⟨i, out, b_, o_, c_⟩ => .tail b_ o_ c_ :: .cells b3 35 (vxL v) :: .cells b2 59 (rgL r) :: Rf) (fun ⟨i, out, b_, o_, c_⟩ => i ≤ r.L.length ∧ (out = st0 v ++ (r.L.take i).flatMap fun a => st1 a v ++ (st2 a v ++ st3 a v)) ∧ out.length ≤ 3 * i + 1) (fun ⟨i, out, b_, o_, c_⟩ => r.L.length - i) ((0, o0, b, o, c)) (EnvLe.cons (by rfl) (EnvLe.cons (by rfl) (EnvLe.nil))) (by repeat (exact HSub.refl _)) ?_ ?_
    · exact ⟨Nat.zero_le _, by rw [hI]; simp, by rw [hI]; omega⟩
    · rintro ⟨i, out, b_, o_, c_⟩ hI
      obtain ⟨hi, ho, hol⟩ := hI
      refine LW.seq ?_
      refine LW.seq ?_
      refine LW.region ?_
      refine X.u (LU.moveR Is.rfl') rfl ?_
      refine X.u (LU.fieldO Tryd.underlying59 rfl Tryd.sizeOf56 (by decide) Is.rfl') rfl ?_
      refine X.u (LU.loadO 2 rfl ⟨Tryd.sizeOf56, Tryd.isAgg56⟩ Is.rfl' (Part.one rfl)) rfl ?_
      refine X.u (LU.lenN Tryd.underlying56 Is.rfl' (by (simp only [Option.getD_some, Option.getD_none, byteEls_length, intEls_length, List.length_append, List.length_cons, List.length_nil, List.length_map, List.length_drop, List.length_take, Int.toNat_natCast]; rfl))) rfl ?_
      refine X.u (LU.lss Is.rfl' Is.rfl') rfl ?_
      refine LL.nil (after_code ?_)
      refine X.cond rfl (fun h5 => ?_) (fun h5 => ?_)
      · try have h5 := of_decide_eq_true h5
        refine LW.skip (after_code ?_)
        refine LW.seq ?_
        refine LW.block ?_
        refine LW.seq ?_
        obtain ⟨a, ha⟩ := at_lt (show i < r.L.length by omega)
        obtain ⟨hne1, hal3⟩ := hne a (List.mem_of_getElem? ha)
        have hal := ad_len a
        have ha1 : a.up.p.1.length = 32 := a.up.p.2
        have ha2 : a.down.p.1.length = 32 := a.down.p.2
        have hdl := vxL_len a.down
        have hpr := placeG_range a.ids v
        have hpos : 0 < a.ids.length := List.length_pos_iff.2 hne1
        have hhd : a.ids[0]? = some (a.ids.headD topV) := by
          cases hq : a.ids with
          | nil => exact absurd hq hne1
          | cons x y => rfl
        obtain ⟨w0, hw0⟩ : ∃ w0, w0 = a.ids.headD topV := ⟨_, rfl⟩
        rw [← hw0] at hhd
        have hhl := vxL_len w0
        have hw32 : w0.p.1.length = 32 := w0.p.2
        have e1 := st1_len a v
        have e2 := st2_len a v
        have e3 := st3_len a v
        refine LW.region ?_
        refine X.u (LU.fieldO Tryd.underlying59 rfl Tryd.sizeOf56 (by decide) Is.rfl') rfl ?_
        refine X.u (LU.loadO 2 rfl ⟨Tryd.sizeOf56, Tryd.isAgg56⟩ Is.rfl' (Part.one rfl)) rfl ?_
        refine X.u (LU.moveR Is.rfl') rfl ?_
        refine X.u (LU.at Tryd.underlying56 ⟨Tryd.sizeOf104, Tryd.isAgg104⟩ Is.rfl' Is.rfl' (by omega) (ads_at ha) (ad_ne a)) rfl ?_
        refine X.u (LU.weak (LU.load ⟨Tryd.sizeOf104, Tryd.isAgg104⟩ Is.rfl' (by assumption) (Part.whole (by assumption))) (Is.of (y := .agg (adL a)) (rfl))) rfl ?_
        refine X.act (X.alloc rfl Tryd.zeroValue104 (by exact Cells.rawagg (by decide)) (fun b7 => ?_))
        refine X.act (X.store 0 rfl Tryd.sizeOf104 Is.rfl' Is.rfl' (by exact Cells.agg) (by assumption) (by exact Nat.le_of_ble_eq_true rfl) ?_)
        refine LL.nil (after_code ?_)
        refine X.meetK (α := List Vx × Nat × Nat × Nat) (fun ⟨u1, p1, p2, p3⟩ => [(5, Vxs u1 (.tok p1 p2 p3))]) [2, 3, 4, 6, 7] (fun ⟨u1, p1, p2, p3⟩ => .tail p1 p2 p3 :: .cells b7 104 (adL a) :: .cells b3 35 (vxL v) :: .cells b2 59 (rgL r) :: Rf) (fun ⟨u1, p1, p2, p3⟩ => u1 = out ++ st1 a v) ?_ ?_
        · refine LW.seq ?_
          refine X.wcells (ys := adL a) (putAt_all (by rw [hal]; rfl)) ?_
          refine X.wghost (H' := .tail b_ o_ c_ :: .cells b7 104 (adL a) :: .cells b3 35 (vxL v) :: .cells b2 59 (rgL r) :: Rf) (by repeat (first | exact HSub.refl _ | refine HSub.pick 1 rfl ?_)) ?_
          refine LW.region ?_
          refine X.u (LU.fieldO Tryd.underlying104 rfl Tryd.sizeOf35 (by decide) Is.rfl') rfl ?_
          refine X.u (LU.weak (LU.loadO 1 rfl ⟨Tryd.sizeOf35, Tryd.isAgg35⟩ Is.rfl' (Part.sub (by (simp; omega)))) (Is.of (y := .agg (vxL a.up)) (congrArg LV.agg (ad_up a)))) rfl ?_
          refine X.u (LU.loadO 2 rfl ⟨Tryd.sizeOf35, Tryd.isAgg35⟩ Is.rfl' (Part.whole (by assumption))) rfl ?_
          refine X.u (LU.eqlVx vxty Is.rfl' Is.rfl') rfl ?_
          refine LL.nil (after_code ?_)
          refine X.cond rfl (fun h8 => ?_) (fun h8 => ?_)
          · have h8 : a.up = v := by simpa using h8
            have hz0 : (0 : Nat) = 0 := rfl
            refine LW.region ?_
            refine X.u (LU.moveS Is.rfl') rfl ?_
            refine X.u (LU.fieldO Tryd.underlying104 rfl Tryd.sizeOf26 (by decide) Is.rfl') rfl ?_
            refine X.u (LU.loadO 1 rfl ⟨Tryd.sizeOf26, Tryd.isAgg26⟩ Is.rfl' (Part.one ((show (adL a)[66]? = some (Vxs a.ids .unk) from ad_ids2 a)))) rfl ?_
            refine X.u (LU.at Tryd.underlying26 ⟨Tryd.sizeOf35, Tryd.isAgg35⟩ Is.rfl' Is.rfl' (by omega) (show (vxs a.ids)[(0 : Int).toNat]? = some (vxL w0) from vxs_at (i := 0) hhd) (vx_ne _)) rfl ?_
            refine X.u (LU.weak (LU.load ⟨Tryd.sizeOf35, Tryd.isAgg35⟩ Is.rfl' (by assumption) (Part.whole (by assumption))) (Is.of (y := .agg (vxL w0)) (rfl))) rfl ?_
            refine X.u (LU.lits Tryd.underlying26 Tryd.sizeOf35 Tryd.zeroValue35 (ones rfl) rfl (by decide) (by decide) (Elems.cons Is.rfl' (by exact Cells.agg) Elems.nil) (by (simp; assumption)) rfl) rfl ?_
            refine X.act (X.append 0 rfl rfl Tryd.underlying26 (El.of (P := Tryd.prog) (z := (.agg #[(.int .u8 0), (.int .u8 0), (.int .u8 0), (.int .u8 0), (.int .u8 0), (.int .u8 0), (.int .u8 0), (.int .u8 0), (.int .u8 0), (.int .u8 0), (.int .u8 0), (.int .u8 0), (.int .u8 0), (.int .u8 0), (.int .u8 0), (.int .u8 0), (.int .u8 0), (.int .u8 0), (.int .u8 0), (.int .u8 0), (.int .u8 0), (.int .u8 0), (.int .u8 0), (.int .u8 0), (.int .u8 0), (.int .u8 0), (.int .u8 0), (.int .u8 0), (.int .u8 0), (.int .u8 0), (.int .u8 0), (.int .u8 0), (.int .i64 0)])) (size := 33) (bytes := 40) rfl rfl rfl) Is.rfl' Is.rfl' (SrcL.slice Tryd.underlying26 (by decide) (by intro e he; rw [List.mem_singleton.1 he]; exact vxL_len _)) (by simp only [Option.getD_some, Option.getD_none, byteEls_length, intEls_length, List.length_append, List.length_cons, List.length_nil, List.length_map, List.length_drop, List.length_take, Int.toNat_natCast]; omega) (by simp only [Option.getD_some, Option.getD_none, byteEls_length, intEls_length, List.length_append, List.length_cons, List.length_nil, List.length_map, List.length_drop, List.length_take, Int.toNat_natCast]; omega) (fun b38 o38 c38 => X.weak (t := 38) (Is.of (y := Vxs (out ++ [w0]) (.tok b38 o38 c38)) (congrArg (fun z => LV.sl 33 z (.tok b38 o38 c38)) (vxs_app out [w0]))) ?_))
            refine X.u (LU.assignS Is.rfl') rfl ?_
            refine LL.nil (after_rnd ?_)
            refine X.meets ((out ++ [w0], b38, o38, c38)) rfl (EnvLe.cons (by rfl) (EnvLe.nil)) (Keeps.cons (by exact Eq.trans (b := .raw _) rfl rfl) (Keeps.cons (by exact Eq.trans (b := .raw _) rfl rfl) (Keeps.cons (by exact Eq.trans (b := .sl _ _ _) rfl rfl) (Keeps.cons (by exact Eq.trans (b := .raw _) rfl rfl) (Keeps.cons (by exact Eq.trans (b := .raw _) rfl rfl) (Keeps.nil)))))) (by repeat (exact HSub.refl _)) ?_
            unfold st1; rw [if_pos h8, ← hw0]
          · have h8 : a.up ≠ v := by simpa using h8
            have hz0 : (0 : Nat) = 0 := rfl
            refine LW.skip (after_rnd ?_)
            refine X.meets ((out, b_, o_, c_)) rfl (EnvLe.cons (by rfl) (EnvLe.nil)) (Keeps.cons (by exact Eq.trans (b := .raw _) rfl rfl) (Keeps.cons (by exact Eq.trans (b := .raw _) rfl rfl) (Keeps.cons (by exact Eq.trans (b := .sl _ _ _) rfl rfl) (Keeps.cons (by exact Eq.trans (b := .raw _) rfl rfl) (Keeps.cons (by exact Eq.trans (b := .raw _) rfl rfl) (Keeps.nil)))))) (by repeat (exact HSub.refl _)) ?_
            unfold st1; rw [if_neg h8, List.append_nil]
        · rintro ⟨u1, p1, p2, p3⟩ hI
          have hu1 : u1.length = out.length + (st1 a v).length := by rw [hI, List.length_append]
          have hI1 := hI
          refine LW.seq ?_
          refine LW.region ?_
          refine X.u (LU.fieldO Tryd.underlying104 rfl Tryd.sizeOf26 (by decide) Is.rfl') rfl ?_
          refine X.u (LU.loadO 1 rfl ⟨Tryd.sizeOf26, Tryd.isAgg26⟩ Is.rfl' (Part.one ((show (adL a)[66]? = some (Vxs a.ids .unk) from ad_ids2 a)))) rfl ?_
          refine X.u (LU.loadO 2 rfl ⟨Tryd.sizeOf35, Tryd.isAgg35⟩ Is.rfl' (Part.whole (by assumption))) rfl ?_
          refine X.u (LU.call (place_calls a.ids .unk v (by omega)) Tryd.func63 rfl rfl (Opds.cons Is.rfl' (Opds.cons Is.rfl' Opds.nil))) rfl ?_
          refine X.u (LU.assignR Is.rfl') rfl ?_
          refine LL.nil (after_code ?_)
          refine X.meetK (α := List Vx × Nat × Nat × Nat) (fun ⟨u2, p4, p5, p6⟩ => [(5, Vxs u2 (.tok p4 p5 p6))]) [2, 3, 4, 6, 7, 8] (fun ⟨u2, p4, p5, p6⟩ => .tail p4 p5 p6 :: .cells b7 104 (adL a) :: .cells b3 35 (vxL v) :: .cells b2 59 (rgL r) :: Rf) (fun ⟨u2, p4, p5, p6⟩ => u2 = u1 ++ st2 a v) ?_ ?_
          · refine LW.seq ?_
            refine LW.region ?_
            refine X.u (LU.moveR Is.rfl') rfl ?_
            refine X.u (LU.geq Is.rfl' Is.rfl') rfl ?_
            refine X.u (LU.moveR Is.rfl') rfl ?_
            refine X.gT rfl rfl (fun hg => LU.moveR (by exact Is.rfl')) rfl ?_
            refine X.gT rfl rfl (fun hg => LU.addN (by exact Is.whenE hg) (by exact Is.rfl') (wrap_i64 (by omega) (by omega))) rfl ?_
            refine X.gT rfl rfl (fun hg => LU.fieldO Tryd.underlying104 rfl Tryd.sizeOf26 (by decide) (by exact Is.rfl')) rfl ?_
            refine X.gT rfl rfl (fun hg => LU.loadO 1 rfl ⟨Tryd.sizeOf26, Tryd.isAgg26⟩ (by exact Is.whenE hg) (Part.one ((show (adL a)[66]? = some (Vxs a.ids .unk) from ad_ids2 a)))) rfl ?_
            refine X.gT rfl rfl (fun hg => LU.lenN Tryd.underlying26 (by exact Is.whenE hg) (by (simp only [Option.getD_some, Option.getD_none, byteEls_length, intEls_length, List.length_append, List.length_cons, List.length_nil, List.length_map, List.length_drop, List.length_take, Int.toNat_natCast]; rfl))) rfl ?_
            refine X.gT rfl rfl (fun hg => LU.lss (by exact Is.whenE hg) (by exact Is.whenE hg)) rfl ?_
            refine X.u (LU.pickAnd Is.rfl' (fun hq => (by exact Is.whenE hq)) Is.rfl') rfl ?_
            refine LL.nil (after_code ?_)
            refine X.cond rfl (fun h11 => ?_) (fun h11 => ?_)
            · have h11 : (decide (0 ≤ placeG a.ids v) && decide (placeG a.ids v + 1 < a.ids.length)) = true := by simpa using h11
              have h11b : 0 ≤ placeG a.ids v ∧ placeG a.ids v + 1 < a.ids.length := by simpa using h11
              obtain ⟨kk, hkk⟩ : ∃ kk : Nat, placeG a.ids v + 1 = kk := ⟨(placeG a.ids v + 1).toNat, by omega⟩
              obtain ⟨z, hz⟩ := at_lt (show kk < a.ids.length by omega)
              have hzl := vxL_len z
              have hz32 : z.p.1.length = 32 := z.p.2
              have hst : st2 a v = [z] := by
                unfold st2
                rw [if_pos h11, hkk, Int.toNat_natCast, List.getD_eq_getElem?_getD, hz]; rfl
              refine LW.region ?_
              refine X.u (LU.moveS Is.rfl') rfl ?_
              refine X.u (LU.fieldO Tryd.underlying104 rfl Tryd.sizeOf26 (by decide) Is.rfl') rfl ?_
              refine X.u (LU.loadO 1 rfl ⟨Tryd.sizeOf26, Tryd.isAgg26⟩ Is.rfl' (Part.one ((show (adL a)[66]? = some (Vxs a.ids .unk) from ad_ids2 a)))) rfl ?_
              refine X.u (LU.moveR Is.rfl') rfl ?_
              refine X.u (LU.weak (LU.addN Is.rfl' Is.rfl' (wrap_i64 (by omega) (by omega))) (Is.of (y := i64 (kk : Nat)) (congrArg i64 hkk))) rfl ?_
              refine X.u (LU.at Tryd.underlying26 ⟨Tryd.sizeOf35, Tryd.isAgg35⟩ Is.rfl' Is.rfl' (by omega) (vxs_at hz) (vx_ne z)) rfl ?_
              refine X.u (LU.weak (LU.load ⟨Tryd.sizeOf35, Tryd.isAgg35⟩ Is.rfl' (by assumption) (Part.whole (by assumption))) (Is.of (y := .agg (vxL z)) (rfl))) rfl ?_
              refine X.u (LU.lits Tryd.underlying26 Tryd.sizeOf35 Tryd.zeroValue35 (ones rfl) rfl (by decide) (by decide) (Elems.cons Is.rfl' (by exact Cells.agg) Elems.nil) (by (simp; assumption)) rfl) rfl ?_
              refine X.act (X.append 0 rfl rfl Tryd.underlying26 (El.of (P := Tryd.prog) (z := (.agg #[(.int .u8 0), (.int .u8 0), (.int .u8 0), (.int .u8 0), (.int .u8 0), (.int .u8 0), (.int .u8 0), (.int .u8 0), (.int .u8 0), (.int .u8 0), (.int .u8 0), (.int .u8 0), (.int .u8 0), (.int .u8 0), (.int .u8 0), (.int .u8 0), (.int .u8 0), (.int .u8 0), (.int .u8 0), (.int .u8 0), (.int .u8 0), (.int .u8 0), (.int .u8 0), (.int .u8 0), (.int .u8 0), (.int .u8 0), (.int .u8 0), (.int .u8 0), (.int .u8 0), (.int .u8 0), (.int .u8 0), (.int .u8 0), (.int .i64 0)])) (size := 33) (bytes := 40) rfl rfl rfl) Is.rfl' Is.rfl' (SrcL.slice Tryd.underlying26 (by decide) (by intro e he; rw [List.mem_singleton.1 he]; exact hzl)) (by simp only [Option.getD_some, Option.getD_none, byteEls_length, intEls_length, List.length_append, List.length_cons, List.length_nil, List.length_map, List.length_drop, List.length_take, Int.toNat_natCast]; omega) (by simp only [Option.getD_some, Option.getD_none, byteEls_length, intEls_length, List.length_append, List.length_cons, List.length_nil, List.length_map, List.length_drop, List.length_take, Int.toNat_natCast]; omega) (fun b61 o61 c61 => X.weak (t := 61) (Is.of (y := Vxs (u1 ++ [z]) (.tok b61 o61 c61)) (congrArg (fun z => LV.sl 33 z (.tok b61 o61 c61)) (vxs_app u1 [z]))) ?_))
              refine X.u (LU.assignS Is.rfl') rfl ?_
              refine LL.nil (after_rnd ?_)
              refine X.meets ((u1 ++ [z], b61, o61, c61)) rfl (EnvLe.cons (by rfl) (EnvLe.nil)) (Keeps.cons (by exact Eq.trans (b := .raw _) rfl rfl) (Keeps.cons (by exact Eq.trans (b := .raw _) rfl rfl) (Keeps.cons (by exact Eq.trans (b := .sl _ _ _) rfl rfl) (Keeps.cons (by exact Eq.trans (b := .raw _) rfl rfl) (Keeps.cons (by exact Eq.trans (b := .raw _) rfl rfl) (Keeps.cons (by exact Eq.trans (b := .raw _) rfl rfl) (Keeps.nil))))))) (by repeat (exact HSub.refl _)) ?_
              rw [hst]
            · have h11 : (decide (0 ≤ placeG a.ids v) && decide (placeG a.ids v + 1 < a.ids.length)) = false := by simpa using h11
              have hst : st2 a v = [] := by unfold st2; rw [if_neg (by rw [h11]; decide)]
              refine LW.skip (after_rnd ?_)
              refine X.meets ((u1, p1, p2, p3)) rfl (EnvLe.cons (by rfl) (EnvLe.nil)) (Keeps.cons (by exact Eq.trans (b := .raw _) rfl rfl) (Keeps.cons (by exact Eq.trans (b := .raw _) rfl rfl) (Keeps.cons (by exact Eq.trans (b := .sl _ _ _) rfl rfl) (Keeps.cons (by exact Eq.trans (b := .raw _) rfl rfl) (Keeps.cons (by exact Eq.trans (b := .raw _) rfl rfl) (Keeps.cons (by exact Eq.trans (b := .raw _) rfl rfl) (Keeps.nil))))))) (by repeat (exact HSub.refl _)) ?_
              rw [hst, List.append_nil]
          · rintro ⟨u2, p4, p5, p6⟩ hI
            have hu2 : u2.length = u1.length + (st2 a v).length := by rw [hI, List.length_append]
            have hI2 := hI
            refine LW.seq ?_
            refine LW.region ?_
            refine X.u (LU.moveR Is.rfl') rfl ?_
            refine X.u (LU.geq Is.rfl' Is.rfl') rfl ?_
            refine X.u (LU.moveR Is.rfl') rfl ?_
            refine X.gT rfl rfl (fun hg => LU.moveR (by exact Is.rfl')) rfl ?_
            refine X.gT rfl rfl (fun hg => LU.addN (by exact Is.whenE hg) (by exact Is.rfl') (wrap_i64 (by omega) (by omega))) rfl ?_
            refine X.gT rfl rfl (fun hg => LU.fieldO Tryd.underlying104 rfl Tryd.sizeOf26 (by decide) (by exact Is.rfl')) rfl ?_
            refine X.gT rfl rfl (fun hg => LU.loadO 1 rfl ⟨Tryd.sizeOf26, Tryd.isAgg26⟩ (by exact Is.whenE hg) (Part.one ((show (adL a)[66]? = some (Vxs a.ids .unk) from ad_ids2 a)))) rfl ?_
            refine X.gT rfl rfl (fun hg => LU.lenN Tryd.underlying26 (by exact Is.whenE hg) (by (simp only [Option.getD_some, Option.getD_none, byteEls_length, intEls_length, List.length_append, List.length_cons, List.length_nil, List.length_map, List.length_drop, List.length_take, Int.toNat_natCast]; rfl))) rfl ?_
            refine X.gT rfl rfl (fun hg => LU.eql (by exact Is.whenE hg) (by exact Is.whenE hg)) rfl ?_
            refine X.u (LU.pickAnd Is.rfl' (fun hq => (by exact Is.whenE hq)) Is.rfl') rfl ?_
            refine LL.nil (after_code ?_)
            refine X.cond rfl (fun h13 => ?_) (fun h13 => ?_)
            · have h13 : (decide (0 ≤ placeG a.ids v) && decide (placeG a.ids v + 1 = a.ids.length)) = true := by simpa using h13
              have hs3 : st3 a v = [a.down] := by unfold st3; rw [if_pos h13]
              refine LW.region ?_
              refine X.u (LU.moveS Is.rfl') rfl ?_
              refine X.u (LU.fieldO Tryd.underlying104 rfl Tryd.sizeOf35 (by decide) Is.rfl') rfl ?_
              refine X.u (LU.weak (LU.loadO 1 rfl ⟨Tryd.sizeOf35, Tryd.isAgg35⟩ Is.rfl' (Part.sub (by (simp; omega)))) (Is.of (y := .agg (vxL a.down)) (congrArg LV.agg (ad_down a)))) rfl ?_
              refine X.u (LU.lits Tryd.underlying26 Tryd.sizeOf35 Tryd.zeroValue35 (ones rfl) rfl (by decide) (by decide) (Elems.cons Is.rfl' (by exact Cells.agg) Elems.nil) (by (simp; assumption)) rfl) rfl ?_
              refine X.act (X.append 0 rfl rfl Tryd.underlying26 (El.of (P := Tryd.prog) (z := (.agg #[(.int .u8 0), (.int .u8 0), (.int .u8 0), (.int .u8 0), (.int .u8 0), (.int .u8 0), (.int .u8 0), (.int .u8 0), (.int .u8 0), (.int .u8 0), (.int .u8 0), (.int .u8 0), (.int .u8 0), (.int .u8 0), (.int .u8 0), (.int .u8 0), (.int .u8 0), (.int .u8 0), (.int .u8 0), (.int .u8 0), (.int .u8 0), (.int .u8 0), (.int .u8 0), (.int .u8 0), (.int .u8 0), (.int .u8 0), (.int .u8 0), (.int .u8 0), (.int .u8 0), (.int .u8 0), (.int .u8 0), (.int .u8 0), (.int .i64 0)])) (size := 33) (bytes := 40) rfl rfl rfl) Is.rfl' Is.rfl' (SrcL.slice Tryd.underlying26 (by decide) (by intro e he; rw [List.mem_singleton.1 he]; exact hdl)) (by simp only [Option.getD_some, Option.getD_none, byteEls_length, intEls_length, List.length_append, List.length_cons, List.length_nil, List.length_map, List.length_drop, List.length_take, Int.toNat_natCast]; omega) (by simp only [Option.getD_some, Option.getD_none, byteEls_length, intEls_length, List.length_append, List.length_cons, List.length_nil, List.length_map, List.length_drop, List.length_take, Int.toNat_natCast]; omega) (fun b76 o76 c76 => X.weak (t := 76) (Is.of (y := Vxs (u2 ++ [a.down]) (.tok b76 o76 c76)) (congrArg (fun z => LV.sl 33 z (.tok b76 o76 c76)) (vxs_app u2 [a.down]))) ?_))
              refine X.u (LU.assignS Is.rfl') rfl ?_
              refine LL.nil (after_blk (after_code ?_))
              refine LW.region ?_
              refine X.u (LU.moveR Is.rfl') rfl ?_
              refine X.u (LU.addN Is.rfl' Is.rfl' (wrap_i64 (by omega) (by omega))) rfl ?_
              refine X.u (LU.assignR Is.rfl') rfl ?_
              refine LL.nil (after_rnd ?_)
              refine X.next ((i + 1, u2 ++ [a.down], b76, o76, c76)) rfl (EnvLe.cons (by rfl) (EnvLe.cons (by rfl) (EnvLe.nil))) (Keeps.cons (by exact Eq.trans (b := .raw _) rfl rfl) (Keeps.cons (by exact Eq.trans (b := .raw _) rfl rfl) (Keeps.cons (by exact Eq.trans (b := .sl _ _ _) rfl rfl) (Keeps.nil)))) (by repeat (first | exact HSub.refl _ | refine HSub.pick 0 rfl ?_ | refine HSub.pick 1 rfl ?_ | refine HSub.drop ?_)) ?_ ?_
              · refine ⟨by omega, ?_, by rw [List.length_append, List.length_singleton]; omega⟩
                rw [take_snoc ha, List.flatMap_append, ← List.append_assoc, ← ho, hI2, hI1]; simp [hs3]
              · (simp; omega)
            · have h13 : (decide (0 ≤ placeG a.ids v) && decide (placeG a.ids v + 1 = a.ids.length)) = false := by simpa using h13
              have hs3 : st3 a v = [] := by unfold st3; rw [if_neg (by rw [h13]; decide)]
              refine LW.skip (after_blk (after_code ?_))
              refine LW.region ?_
              refine X.u (LU.moveR Is.rfl') rfl ?_
              refine X.u (LU.addN Is.rfl' Is.rfl' (wrap_i64 (by omega) (by omega))) rfl ?_
              refine X.u (LU.assignR Is.rfl') rfl ?_
              refine LL.nil (after_rnd ?_)
              refine X.next ((i + 1, u2, p4, p5, p6)) rfl (EnvLe.cons (by rfl) (EnvLe.cons (by rfl) (EnvLe.nil))) (Keeps.cons (by exact Eq.trans (b := .raw _) rfl rfl) (Keeps.cons (by exact Eq.trans (b := .raw _) rfl rfl) (Keeps.cons (by exact Eq.trans (b := .sl _ _ _) rfl rfl) (Keeps.nil)))) (by repeat (first | exact HSub.refl _ | refine HSub.pick 0 rfl ?_ | refine HSub.pick 1 rfl ?_ | refine HSub.drop ?_)) ?_ ?_
              · refine ⟨by omega, ?_, by omega⟩
                rw [take_snoc ha, List.flatMap_append, ← List.append_assoc, ← ho, hI2, hI1]; simp [hs3]
              · (simp; omega)
      · try have h5 := of_decide_eq_false h5
        refine LW.exit (exit_code (exit_rnd (exit_blk (after_code ?_))))
        refine LW.seq ?_
        refine LW.region ?_
        refine X.u (LU.moveS Is.rfl') rfl ?_
        refine X.u (LU.assignS Is.rfl') rfl ?_
        refine LL.nil (after_code ?_)
        refine LW.ret (after_end ?_)
        refine X.ret (H' := [.tail b_ o_ c_]) (Res.one Is.rfl') (by repeat (first | exact HSub.refl _ | refine HSub.pick 0 rfl ?_ | refine HSub.drop ?_)) ?_
        exact ⟨b_, o_, c_, by rw [ho, List.take_of_length_le (by omega)]; rfl, rfl⟩
end Go.Proofs.YtolpkeajokjbjaaDoor
namespace Go.Proofs.YtolpkeajokjbjaaDoor
open Go.RowKit Go.L Go.Lib
attribute [local irreducible] LL LW LO
def addN (out : List Vx) : List Vx → List Vx
  | [] => out
  | w :: r => addN (if w ∈ out then out else out ++ [w]) r
def bhG (f : Vx → List Vx) : Nat → Nat → List Vx → List Vx
  | 0, _, out => out
  | n + 1, i, out => match out[i]? with
    | none => out
    | some x => bhG f n (i + 1) (addN out (f x))
def allT (r : Rg) : List Vx := botV :: r.L.flatMap fun a => a.ids ++ [a.down]
def behindG (r : Rg) (v : Vx) : List Vx := bhG (stepsG r) ((stepsG r v).length + (allT r).length) 0 (stepsG r v)
theorem steps_all {r : Rg} (hne : ∀ a ∈ r.L, a.ids ≠ []) {v w : Vx} (h : w ∈ stepsG r v) : w ∈ allT r := by
  unfold stepsG at h
  unfold allT
  rcases List.mem_append.1 h with e | e
  · unfold st0 at e
    split at e
    · rw [List.mem_singleton.1 e]; simp
    · cases e
  · obtain ⟨a, ha, hw⟩ := List.mem_flatMap.1 e
    refine List.mem_cons_of_mem _ (List.mem_flatMap.2 ⟨a, ha, ?_⟩)
    have hget : ∀ i, i < a.ids.length → a.ids.getD i topV ∈ a.ids := fun i hi => by
      rw [List.getD_eq_getElem?_getD, List.getElem?_eq_getElem hi]; exact List.getElem_mem hi
    rcases List.mem_append.1 hw with e | e
    · unfold st1 at e
      split at e
      · rw [List.mem_singleton.1 e]
        cases hq : a.ids with
        | nil => exact absurd hq (hne a ha)
        | cons x y => simp
      · cases e
    · rcases List.mem_append.1 e with e | e
      · unfold st2 at e
        split at e
        · rename_i c
          simp only [Bool.and_eq_true, decide_eq_true_eq] at c
          rw [List.mem_singleton.1 e]
          exact List.mem_append_left _ (hget _ (by omega))
        · cases e
      · unfold st3 at e
        split at e
        · rw [List.mem_singleton.1 e]; simp
        · cases e
theorem steps_len (r : Rg) (v : Vx) : (stepsG r v).length ≤ 3 * r.L.length + 1 := by
  unfold stepsG
  rw [List.length_append]
  have h0 := st0_len v
  have : ∀ l : List Ad, (l.flatMap fun a => st1 a v ++ (st2 a v ++ st3 a v)).length ≤ 3 * l.length := fun l => by
    induction l with
    | nil => simp
    | cons a l ih =>
      have h1 := st1_len a v
      have h2 := st2_len a v
      have h3 := st3_len a v
      rw [List.flatMap_cons, List.length_append, List.length_append, List.length_append, List.length_cons]
      omega
  have := this r.L
  omega
theorem addN_snoc (out : List Vx) : ∀ (l : List Vx) (w : Vx), addN out (l ++ [w]) = if w ∈ addN out l then addN out l else addN out l ++ [w]
  | [], w => rfl
  | a :: l, w => addN_snoc _ l w
/-- What Behind has found: the first steps, and others, each once. -/
def Bh (r : Rg) (s out : List Vx) : Prop := ∃ ex : List Vx, out = s ++ ex ∧ ex.Nodup ∧ ∀ x ∈ ex, x ∈ allT r
theorem Bh.len {r : Rg} {s out : List Vx} (h : Bh r s out) : out.length ≤ s.length + (allT r).length := by
  obtain ⟨ex, e, hn, hs⟩ := h
  have := nodup_len hn hs
  rw [e, List.length_append]
  omega
theorem Bh.add {r : Rg} {s out : List Vx} (h : Bh r s out) {w : Vx} (hw : w ∉ out) (ht : w ∈ allT r) : Bh r s (out ++ [w]) := by
  obtain ⟨ex, e, hn, hs⟩ := h
  refine ⟨ex ++ [w], by rw [e, List.append_assoc], nodup_snoc.2 ⟨hn, fun c => hw (by rw [e]; exact List.mem_append_right _ c)⟩, fun x hx => ?_⟩
  rcases List.mem_append.1 hx with a | a
  · exact hs x a
  · rw [List.mem_singleton.1 a]; exact ht
set_option maxHeartbeats 2000000 in
set_option maxRecDepth 100000 in
theorem behind_calls (r : Rg) (v : Vx) (hl : r.L.length < 100000) (hne : ∀ a ∈ r.L, a.ids ≠ [] ∧ a.ids.length < 1000000) (hT : (allT r).length < 400000) : LCalls Tryd.prog 62 [.agg (rgL r), .agg (vxL v)] [] (fun x H' => x = Vxs (behindG r v) .unk ∧ H' = []) := by
  have hvl := vxL_len v
  have hsl := steps_len r v
  have hsc := steps_calls r v (by omega) hne
  obtain ⟨s0, hs0⟩ : ∃ s0, s0 = stepsG r v := ⟨_, rfl⟩
  obtain ⟨B, hB⟩ : ∃ B, B = behindG r v := ⟨_, rfl⟩
  have hB0 : bhG (stepsG r) (s0.length + (allT r).length) 0 s0 = B := by rw [hB, hs0]; rfl
  rw [← hs0] at hsl hsc
  rw [← hB]
  refine LCalls.of Tryd.func62 rfl Tryd.ntmps62 Tryd.results62 rfl (fun Rf => ?_)
  refine LW.seq ?_
  refine LW.region ?_
  refine X.act (X.box rfl Is.rfl' (by exact Cells.agg) (fun b2 => ?_))
  refine X.act (X.box rfl Is.rfl' (by exact Cells.agg) (fun b3 => ?_))
  refine X.u (LU.assign (Is.nil 33)) rfl ?_
  refine LL.nil (after_code ?_)
  refine LW.seq ?_
  refine LW.region ?_
  refine X.u (LU.loadO 1 rfl ⟨Tryd.sizeOf59, Tryd.isAgg59⟩ Is.rfl' (Part.whole (by (simp; done)))) rfl ?_
  refine X.u (LU.loadO 0 rfl ⟨Tryd.sizeOf35, Tryd.isAgg35⟩ Is.rfl' (Part.whole (by assumption))) rfl ?_
  refine X.act (X.call (hsc) Tryd.func72 rfl rfl rfl (HSub.refl _) (Opds.cons Is.rfl' (Opds.cons Is.rfl' Opds.nil)) ?_)
  rintro r H' ⟨b11, o11, c11, rfl, rfl⟩
  refine X.u (LU.assignS Is.rfl') rfl ?_
  refine LL.nil (after_code ?_)
  refine LW.seq ?_
  refine LW.seq ?_
  refine LW.region ?_
  refine X.u (LU.assignR Is.rfl') rfl ?_
  refine LL.nil (after_code ?_)
  refine LW.block ?_
  refine X.loopK (α := Nat × List Vx × Nat × Nat × Nat) (fun ⟨i, out, b, o, c⟩ => [(6, i64 i), (5, Vxs out (.tok b o c))]) [2, 4] (fun ⟨i, out, b, o, c⟩ => .tail b o c :: .cells b3 35 (vxL v) :: .cells b2 59 (rgL r) :: Rf) (fun ⟨i, out, b, o, c⟩ => i ≤ out.length ∧ Bh r s0 out ∧ bhG (stepsG r) (s0.length + (allT r).length - i) i out = B) (fun ⟨i, out, b, o, c⟩ => s0.length + (allT r).length - i) ((0, s0, b11, o11, c11)) (EnvLe.cons (by rfl) (EnvLe.cons (by rfl) (EnvLe.nil))) (by repeat (exact HSub.refl _)) ?_ ?_
  · exact ⟨Nat.zero_le _, ⟨[], by simp, List.nodup_nil, fun x hx => by cases hx⟩, hB0⟩
  · rintro ⟨i, out, b, o, c⟩ hI
    obtain ⟨hi, hbh, hbe⟩ := hI
    have hbl := hbh.len
    refine LW.seq ?_
    refine LW.seq ?_
    refine LW.region ?_
    refine X.u (LU.moveR Is.rfl') rfl ?_
    refine X.u (LU.moveS Is.rfl') rfl ?_
    refine X.u (LU.lenN Tryd.underlying26 Is.rfl' (by (simp only [Option.getD_some, Option.getD_none, byteEls_length, intEls_length, List.length_append, List.length_cons, List.length_nil, List.length_map, List.length_drop, List.length_take, Int.toNat_natCast]; rfl))) rfl ?_
    refine X.u (LU.lss Is.rfl' Is.rfl') rfl ?_
    refine LL.nil (after_code ?_)
    refine X.cond rfl (fun h3 => ?_) (fun h3 => ?_)
    · have h3 : i < out.length := by simp at h3; omega
      obtain ⟨x, hx⟩ := at_lt h3
      have hxl := vxL_len x
      have hx32 : x.p.1.length = 32 := x.p.2
      have hsc2 := steps_calls r x (by omega) hne
      have hxln := steps_len r x
      have hxall : ∀ w ∈ stepsG r x, w ∈ allT r := fun w hw => steps_all (fun a ha => (hne a ha).1) hw
      obtain ⟨nx_, hnx⟩ : ∃ nx_, nx_ = stepsG r x := ⟨_, rfl⟩
      have hbe2 : bhG (stepsG r) (s0.length + (allT r).length - (i + 1)) (i + 1) (addN out nx_) = B := by
        rw [← hbe, show s0.length + (allT r).length - i = (s0.length + (allT r).length - (i + 1)) + 1 by omega]
        show _ = (match out[i]? with | none => out | some x => bhG (stepsG r) _ (i + 1) (addN out (stepsG r x)))
        rw [hx, hnx]
      rw [← hnx] at hsc2 hxln hxall
      refine LW.skip (after_code ?_)
      refine LW.seq ?_
      refine LW.block ?_
      refine LW.seq ?_
      refine X.drawM 5 rfl (by kernel_rfl) rfl ?_
      refine QD.u (LU.loadO 2 rfl ⟨Tryd.sizeOf59, Tryd.isAgg59⟩ Is.rfl' (Part.whole (by (simp; done)))) rfl ?_
      refine QD.u (LU.moveS Is.rfl') rfl ?_
      refine QD.u (LU.moveR Is.rfl') rfl ?_
      refine QD.u (LU.at Tryd.underlying26 ⟨Tryd.sizeOf35, Tryd.isAgg35⟩ Is.rfl' Is.rfl' (by omega) (vxs_at hx) (vx_ne x)) rfl ?_
      refine QD.u (LU.load ⟨Tryd.sizeOf35, Tryd.isAgg35⟩ Is.rfl' (by assumption) (Part.whole (by assumption))) rfl ?_
      refine QD.nil ?_
      refine X.act (X.call (hsc2) Tryd.func72 rfl rfl rfl (HSub.refl _) (Opds.cons Is.rfl' (Opds.cons Is.rfl' Opds.nil)) ?_)
      rintro r H' ⟨b23, o23, c23, rfl, rfl⟩
      refine X.u (LU.assignS Is.rfl') rfl ?_
      refine LL.nil (after_code ?_)
      refine LW.seq ?_
      refine LW.region ?_
      refine X.u (LU.assignR Is.rfl') rfl ?_
      refine LL.nil (after_code ?_)
      refine LW.block ?_
      refine X.loopK (α := Nat × List Vx × Nat × Nat × Nat) (fun ⟨j, o2, p1, p2, p3⟩ => [(8, i64 j), (5, Vxs o2 (.tok p1 p2 p3))]) [2, 4, 6, 7] (fun ⟨j, o2, p1, p2, p3⟩ => .tail p1 p2 p3 :: .cells b3 35 (vxL v) :: .cells b2 59 (rgL r) :: Rf) (fun ⟨j, o2, p1, p2, p3⟩ => j ≤ nx_.length ∧ Bh r s0 o2 ∧ o2 = addN out (nx_.take j) ∧ i < o2.length) (fun ⟨j, o2, p1, p2, p3⟩ => nx_.length - j) ((0, out, b, o, c)) (EnvLe.cons (by rfl) (EnvLe.cons (by rfl) (EnvLe.nil))) (by repeat (first | exact HSub.refl _ | refine HSub.pick 1 rfl ?_ | refine HSub.drop ?_)) ?_ ?_
      · exact ⟨Nat.zero_le _, hbh, by simp [addN], h3⟩
      · rintro ⟨j, o2, p1, p2, p3⟩ hI
        obtain ⟨hj, hb2, ho2, hio⟩ := hI
        have hbl2 := hb2.len
        refine LW.seq ?_
        refine LW.seq ?_
        refine LW.region ?_
        refine X.u (LU.moveR Is.rfl') rfl ?_
        refine X.u (LU.moveS Is.rfl') rfl ?_
        refine X.u (LU.lenN Tryd.underlying26 Is.rfl' (by (simp only [Option.getD_some, Option.getD_none, byteEls_length, intEls_length, List.length_append, List.length_cons, List.length_nil, List.length_map, List.length_drop, List.length_take, Int.toNat_natCast]; rfl))) rfl ?_
        refine X.u (LU.lss Is.rfl' Is.rfl') rfl ?_
        refine LL.nil (after_code ?_)
        refine X.cond rfl (fun h7 => ?_) (fun h7 => ?_)
        · try have h7 := of_decide_eq_true h7
          refine LW.skip (after_code ?_)
          refine LW.seq ?_
          refine LW.block ?_
          refine LW.seq ?_
          obtain ⟨w, hw⟩ := at_lt (show j < nx_.length by omega)
          have hwl := vxL_len w
          have hw32 : w.p.1.length = 32 := w.p.2
          refine LW.region ?_
          refine X.u (LU.moveS Is.rfl') rfl ?_
          refine X.u (LU.moveS Is.rfl') rfl ?_
          refine X.u (LU.moveR Is.rfl') rfl ?_
          refine X.u (LU.at Tryd.underlying26 ⟨Tryd.sizeOf35, Tryd.isAgg35⟩ Is.rfl' Is.rfl' (by omega) (vxs_at hw) (vx_ne w)) rfl ?_
          refine X.u (LU.weak (LU.load ⟨Tryd.sizeOf35, Tryd.isAgg35⟩ Is.rfl' (by assumption) (Part.whole (by assumption))) (Is.of (y := .agg (vxL w)) (rfl))) rfl ?_
          refine X.u (LU.call (place_calls o2 _ w (by omega)) Tryd.func63 rfl rfl (Opds.cons Is.rfl' (Opds.cons Is.rfl' Opds.nil))) rfl ?_
          refine X.u (LU.lss Is.rfl' Is.rfl') rfl ?_
          refine LL.nil (after_code ?_)
          refine X.cond rfl (fun h9 => ?_) (fun h9 => ?_)
          · have h9 : w ∉ o2 := placeG_neg.1 (of_decide_eq_true h9)
            have hz0 : (0 : Nat) = 0 := rfl
            refine LW.region ?_
            refine X.u (LU.moveS Is.rfl') rfl ?_
            refine X.u (LU.moveS Is.rfl') rfl ?_
            refine X.u (LU.moveR Is.rfl') rfl ?_
            refine X.u (LU.at Tryd.underlying26 ⟨Tryd.sizeOf35, Tryd.isAgg35⟩ Is.rfl' Is.rfl' (by omega) (vxs_at hw) (vx_ne w)) rfl ?_
            refine X.u (LU.weak (LU.load ⟨Tryd.sizeOf35, Tryd.isAgg35⟩ Is.rfl' (by assumption) (Part.whole (by assumption))) (Is.of (y := .agg (vxL w)) (rfl))) rfl ?_
            refine X.u (LU.lits Tryd.underlying26 Tryd.sizeOf35 Tryd.zeroValue35 (ones rfl) rfl (by decide) (by decide) (Elems.cons Is.rfl' (by exact Cells.agg) Elems.nil) (by (simp; assumption)) rfl) rfl ?_
            refine X.act (X.append 0 rfl rfl Tryd.underlying26 (El.of (P := Tryd.prog) (z := (.agg #[(.int .u8 0), (.int .u8 0), (.int .u8 0), (.int .u8 0), (.int .u8 0), (.int .u8 0), (.int .u8 0), (.int .u8 0), (.int .u8 0), (.int .u8 0), (.int .u8 0), (.int .u8 0), (.int .u8 0), (.int .u8 0), (.int .u8 0), (.int .u8 0), (.int .u8 0), (.int .u8 0), (.int .u8 0), (.int .u8 0), (.int .u8 0), (.int .u8 0), (.int .u8 0), (.int .u8 0), (.int .u8 0), (.int .u8 0), (.int .u8 0), (.int .u8 0), (.int .u8 0), (.int .u8 0), (.int .u8 0), (.int .u8 0), (.int .i64 0)])) (size := 33) (bytes := 40) rfl rfl rfl) Is.rfl' Is.rfl' (SrcL.slice Tryd.underlying26 (by decide) (by intro e he; rw [List.mem_singleton.1 he]; exact hwl)) (by simp only [Option.getD_some, Option.getD_none, byteEls_length, intEls_length, List.length_append, List.length_cons, List.length_nil, List.length_map, List.length_drop, List.length_take, Int.toNat_natCast]; omega) (by simp only [Option.getD_some, Option.getD_none, byteEls_length, intEls_length, List.length_append, List.length_cons, List.length_nil, List.length_map, List.length_drop, List.length_take, Int.toNat_natCast]; omega) (fun b43 o43 c43 => X.weak (t := 43) (Is.of (y := Vxs (o2 ++ [w]) (.tok b43 o43 c43)) (congrArg (fun z => LV.sl 33 z (.tok b43 o43 c43)) (vxs_app o2 [w]))) ?_))
            refine X.u (LU.assignS Is.rfl') rfl ?_
            refine LL.nil (after_blk (after_code ?_))
            refine LW.region ?_
            refine X.u (LU.moveR Is.rfl') rfl ?_
            refine X.u (LU.addN Is.rfl' Is.rfl' (wrap_i64 (by omega) (by omega))) rfl ?_
            refine X.u (LU.assignR Is.rfl') rfl ?_
            refine LL.nil (after_rnd ?_)
            refine X.next ((j + 1, o2 ++ [w], b43, o43, c43)) rfl (EnvLe.cons (by rfl) (EnvLe.cons (by rfl) (EnvLe.nil))) (Keeps.cons (by exact Eq.trans (b := .raw _) rfl rfl) (Keeps.cons (by exact Eq.trans (b := .sl _ _ _) rfl rfl) (Keeps.cons (by exact Eq.trans (b := .raw _) rfl rfl) (Keeps.cons (by exact Eq.trans (b := .sl _ _ _) rfl rfl) (Keeps.nil))))) (by repeat (exact HSub.refl _)) ?_ ?_
            · exact ⟨by omega, hb2.add h9 (hxall w (List.mem_of_getElem? hw)), by rw [take_snoc hw, addN_snoc, ← ho2, if_neg h9], by rw [List.length_append]; omega⟩
            · (simp; omega)
          · have h9 : w ∈ o2 := Classical.not_not.1 (fun c => of_decide_eq_false h9 (placeG_neg.2 c))
            have hz0 : (0 : Nat) = 0 := rfl
            refine LW.skip (after_blk (after_code ?_))
            refine LW.region ?_
            refine X.u (LU.moveR Is.rfl') rfl ?_
            refine X.u (LU.addN Is.rfl' Is.rfl' (wrap_i64 (by omega) (by omega))) rfl ?_
            refine X.u (LU.assignR Is.rfl') rfl ?_
            refine LL.nil (after_rnd ?_)
            refine X.next ((j + 1, o2, p1, p2, p3)) rfl (EnvLe.cons (by rfl) (EnvLe.cons (by rfl) (EnvLe.nil))) (Keeps.cons (by exact Eq.trans (b := .raw _) rfl rfl) (Keeps.cons (by exact Eq.trans (b := .sl _ _ _) rfl rfl) (Keeps.cons (by exact Eq.trans (b := .raw _) rfl rfl) (Keeps.cons (by exact Eq.trans (b := .sl _ _ _) rfl rfl) (Keeps.nil))))) (by repeat (exact HSub.refl _)) ?_ ?_
            · exact ⟨by omega, hb2, by rw [take_snoc hw, addN_snoc, ← ho2, if_pos h9], hio⟩
            · (simp; omega)
        · try have h7 := of_decide_eq_false h7
          refine LW.exit (exit_code (exit_rnd (exit_blk (after_blk (after_code ?_)))))
          refine LW.region ?_
          refine X.u (LU.moveR Is.rfl') rfl ?_
          refine X.u (LU.addN Is.rfl' Is.rfl' (wrap_i64 (by omega) (by omega))) rfl ?_
          refine X.u (LU.assignR Is.rfl') rfl ?_
          refine LL.nil (after_rnd ?_)
          refine X.next ((i + 1, o2, p1, p2, p3)) rfl (EnvLe.cons (by rfl) (EnvLe.cons (by rfl) (EnvLe.nil))) (Keeps.cons (by exact Eq.trans (b := .raw _) rfl rfl) (Keeps.cons (by exact Eq.trans (b := .sl _ _ _) rfl rfl) (Keeps.nil))) (by repeat (exact HSub.refl _)) ?_ ?_
          · have hjl : j = nx_.length := by omega
            rw [hjl, List.take_length] at ho2
            exact ⟨by omega, hb2, by rw [ho2]; exact hbe2⟩
          · (simp; omega)
    · have h3 : out.length ≤ i := by simp at h3; omega
      have hfin : out = B := by
        rw [← hbe]
        cases s0.length + (allT r).length - i with
        | zero => rfl
        | succ n =>
          show _ = (match out[i]? with | none => out | some x => bhG (stepsG r) _ (i + 1) (addN out (stepsG r x)))
          rw [List.getElem?_eq_none h3]
      refine LW.exit (exit_code (exit_rnd (exit_blk (after_code ?_))))
      refine LW.seq ?_
      refine LW.region ?_
      refine X.u (LU.moveS Is.rfl') rfl ?_
      refine X.u (LU.assignS Is.rfl') rfl ?_
      refine LL.nil (after_code ?_)
      refine LW.ret (after_end ?_)
      refine X.ret (H' := []) (Res.one (by exact IsS rfl)) (by repeat (first | exact HSub.refl _ | refine HSub.drop ?_)) ?_
      exact ⟨by rw [hfin], rfl⟩
end Go.Proofs.YtolpkeajokjbjaaDoor
namespace Go.Proofs.YtolpkeajokjbjaaDoor
open Go.RowKit Go.L Go.Lib
attribute [local irreducible] LL LW LO
def aheadG (r : Rg) (a b : Vx) : Bool := hasG r a && decide (b ∈ behindG r a)
theorem behind_len (r : Rg) (v : Vx) (hne : ∀ a ∈ r.L, a.ids ≠ []) : (behindG r v).length ≤ 3 * r.L.length + 1 + (allT r).length := by
  have key : ∀ (n i : Nat) (out : List Vx), Bh r (stepsG r v) out → Bh r (stepsG r v) (bhG (stepsG r) n i out) := fun n => by
    have hadd : ∀ (l out : List Vx), (∀ w ∈ l, w ∈ allT r) → Bh r (stepsG r v) out → Bh r (stepsG r v) (addN out l) := fun l => by
      induction l with
      | nil => intro out _ h; exact h
      | cons w l ih =>
        intro out hl h
        show Bh r _ (addN (if w ∈ out then out else out ++ [w]) l)
        refine ih _ (fun x hx => hl x (List.mem_cons_of_mem _ hx)) ?_
        split
        · exact h
        · rename_i c; exact h.add c (hl w (by simp))
    induction n with
    | zero => intro i out h; exact h
    | succ n ih =>
      intro i out h
      show Bh r _ (match out[i]? with | none => out | some x => bhG (stepsG r) n (i + 1) (addN out (stepsG r x)))
      cases out[i]? with
      | none => exact h
      | some x => exact ih _ _ (hadd _ _ (fun w hw => steps_all hne hw) h)
  have h := (key ((stepsG r v).length + (allT r).length) 0 (stepsG r v) ⟨[], by simp, List.nodup_nil, fun x hx => by cases hx⟩).len
  have := steps_len r v
  unfold behindG
  omega
theorem addN_mem : ∀ (l out : List Vx) (w : Vx), w ∈ addN out l ↔ w ∈ out ∨ w ∈ l
  | [], out, w => by simp [addN]
  | a :: l, out, w => by
    show w ∈ addN (if a ∈ out then out else out ++ [a]) l ↔ _
    rw [addN_mem l, List.mem_cons]
    split
    · rename_i c
      constructor
      · rintro (e | e)
        · exact .inl e
        · exact .inr (.inr e)
      · rintro (e | e | e)
        · exact .inl e
        · exact .inl (by rw [e]; exact c)
        · exact .inr e
    · rw [List.mem_append, List.mem_singleton, or_assoc]
theorem addN_pre : ∀ (l out : List Vx), ∃ more, addN out l = out ++ more
  | [], out => ⟨[], by simp [addN]⟩
  | a :: l, out => by
    obtain ⟨more, h⟩ := addN_pre l (if a ∈ out then out else out ++ [a])
    show ∃ more, addN (if a ∈ out then out else out ++ [a]) l = _
    rw [h]
    split
    · exact ⟨more, rfl⟩
    · exact ⟨a :: more, by simp⟩
theorem take_pre {out more : List Vx} {i : Nat} (h : i ≤ out.length) : (out ++ more).take i = out.take i := List.take_append_of_le_length h
theorem Bh.addN {r : Rg} {s : List Vx} : ∀ (l out : List Vx), (∀ w ∈ l, w ∈ allT r) → Bh r s out → Bh r s (addN out l)
  | [], out, _, h => h
  | w :: l, out, hl, h => by
    show Bh r _ (Go.Proofs.YtolpkeajokjbjaaDoor.addN (if w ∈ out then out else out ++ [w]) l)
    refine Bh.addN l _ (fun x hx => hl x (List.mem_cons_of_mem _ hx)) ?_
    split
    · exact h
    · rename_i c; exact h.add c (hl w (by simp))
/-- Behind holds just what is reached. -/
theorem bh_mem {r : Rg} (hne : ∀ a ∈ r.L, a.ids ≠ []) {v : Vx} {s : List Vx} : ∀ (n i : Nat) (out : List Vx), n + i = s.length + (allT r).length → Bh r s out → i ≤ out.length → (∀ w ∈ stepsG r v, w ∈ out) → (∀ x ∈ out.take i, ∀ w ∈ stepsG r x, w ∈ out) → (∀ w ∈ out, Rch (stepsG r) v w) → ∀ w, w ∈ bhG (stepsG r) n i out ↔ Rch (stepsG r) v w
  | n, i, out, hf, hb, hi, h1, h2, h3, w => by
    have stop : out.length ≤ i → (w ∈ out ↔ Rch (stepsG r) v w) := fun hle => ⟨h3 w, fun hr => by
      rw [List.take_of_length_le hle] at h2
      exact Rch.closed (S := fun x => x ∈ out) h1 h2 hr⟩
    cases n with
    | zero => exact stop (by have := hb.len; omega)
    | succ n =>
      show w ∈ (match out[i]? with | none => out | some x => bhG (stepsG r) n (i + 1) (Go.Proofs.YtolpkeajokjbjaaDoor.addN out (stepsG r x))) ↔ _
      cases hq : out[i]? with
      | none => exact stop (List.getElem?_eq_none_iff.1 hq)
      | some x =>
        obtain ⟨hil, hix⟩ := List.getElem?_eq_some_iff.1 hq
        obtain ⟨more, hm⟩ := addN_pre (stepsG r x) out
        have hxo : x ∈ out := List.mem_of_getElem? hq
        refine bh_mem hne n (i + 1) (Go.Proofs.YtolpkeajokjbjaaDoor.addN out (stepsG r x)) (by omega) (Bh.addN _ _ (fun w hw => steps_all hne hw) hb) (by rw [hm, List.length_append]; omega) (fun w hw => (addN_mem _ _ _).2 (.inl (h1 w hw))) (fun y hy z hz => ?_) (fun w hw => ?_) w
        · rw [hm, take_pre (by omega), take_snoc hq] at hy
          rcases List.mem_append.1 hy with e | e
          · exact (addN_mem _ _ _).2 (.inl (h2 y e z hz))
          · rw [List.mem_singleton.1 e] at hz
            exact (addN_mem _ _ _).2 (.inr hz)
        · rcases (addN_mem _ _ _).1 hw with e | e
          · exact h3 w e
          · exact .step (h3 x hxo) e
theorem behind_mem {r : Rg} (hne : ∀ a ∈ r.L, a.ids ≠ []) (v w : Vx) : w ∈ behindG r v ↔ Rch (stepsG r) v w :=
  bh_mem (s := stepsG r v) hne ((stepsG r v).length + (allT r).length) 0 (stepsG r v) (by omega) ⟨[], by simp, List.nodup_nil, fun x hx => by cases hx⟩ (Nat.zero_le _) (fun w hw => hw) (fun x hx => by simp at hx) (fun w hw => .one hw) w
set_option maxHeartbeats 1000000 in
set_option maxRecDepth 100000 in
theorem rahead_calls (r : Rg) (a b : Vx) (hl : r.L.length < 100000) (hi : (idsG r.L).length < 1000000) (hne : ∀ a ∈ r.L, a.ids ≠ [] ∧ a.ids.length < 1000000) (hT : (allT r).length < 400000) : LCalls Tryd.prog 48 [.agg (rgL r), .agg (vxL a), .agg (vxL b)] [] (fun x H' => x = bl (aheadG r a b) ∧ H' = []) := by
  have hal := vxL_len a
  have hbl := vxL_len b
  have hbn := behind_len r a fun a ha => (hne a ha).1
  refine LCalls.of Tryd.func48 rfl Tryd.ntmps48 Tryd.results48 rfl (fun Rf => ?_)
  refine LW.seq ?_
  refine LW.region ?_
  refine X.act (X.box rfl Is.rfl' (by exact Cells.agg) (fun b3 => ?_))
  refine X.act (X.box rfl Is.rfl' (by exact Cells.agg) (fun b4 => ?_))
  refine X.act (X.box rfl Is.rfl' (by exact Cells.agg) (fun b5 => ?_))
  refine X.u (LU.assignR Is.rfl') rfl ?_
  refine LL.nil (after_code ?_)
  refine LW.seq ?_
  refine X.drawM 12 rfl (by kernel_rfl) rfl ?_
  refine QD.u (LU.loadO 2 rfl ⟨Tryd.sizeOf59, Tryd.isAgg59⟩ Is.rfl' (Part.whole (by (simp; done)))) rfl ?_
  refine QD.u (LU.loadO 1 rfl ⟨Tryd.sizeOf35, Tryd.isAgg35⟩ Is.rfl' (Part.whole (by assumption))) rfl ?_
  refine QD.u (LU.call (rhas_calls r a (by omega) hi) Tryd.func47 rfl rfl (Opds.cons Is.rfl' (Opds.cons Is.rfl' Opds.nil))) rfl ?_
  refine QD.u (LU.moveR Is.rfl') rfl ?_
  refine QD.gT rfl rfl (fun hg => LU.loadO 2 rfl ⟨Tryd.sizeOf59, Tryd.isAgg59⟩ (by exact Is.rfl') (Part.whole (by (simp; done)))) rfl ?_
  refine QD.gT rfl rfl (fun hg => LU.loadO 1 rfl ⟨Tryd.sizeOf35, Tryd.isAgg35⟩ (by exact Is.rfl') (Part.whole (by assumption))) rfl ?_
  refine QD.gT rfl rfl (fun hg => LU.call (behind_calls r a hl hne hT) Tryd.func62 rfl rfl (Opds.cons (by exact Is.whenE hg) (Opds.cons (by exact Is.whenE hg) Opds.nil))) rfl ?_
  refine QD.gT rfl rfl (fun hg => LU.loadO 0 rfl ⟨Tryd.sizeOf35, Tryd.isAgg35⟩ (by exact Is.rfl') (Part.whole (by assumption))) rfl ?_
  refine QD.gT rfl rfl (fun hg => LU.call (place_calls (behindG r a) .unk b (by omega)) Tryd.func63 rfl rfl (Opds.cons (by exact Is.whenE hg) (Opds.cons (by exact Is.whenE hg) Opds.nil))) rfl ?_
  refine QD.gT rfl rfl (fun hg => LU.geq (by exact Is.whenE hg) (by exact Is.rfl')) rfl ?_
  refine QD.u (LU.weak (LU.pickAnd Is.rfl' (fun hq => (by exact Is.whenE hq)) Is.rfl') (Is.of (y := bl (aheadG r a b)) (by unfold aheadG; rw [← placeG_in]; try (cases hasG r a <;> rfl)))) rfl ?_
  refine QD.u (LU.assignR Is.rfl') rfl ?_
  refine QD.nil ?_
  refine LL.nil (after_code ?_)
  refine LW.ret (after_end ?_)
  refine X.ret (H' := []) (Res.one (by exact IsR rfl)) (by repeat (first | exact HSub.refl _ | refine HSub.drop ?_)) ?_
  exact ⟨rfl, rfl⟩
end Go.Proofs.YtolpkeajokjbjaaDoor
namespace Go.Proofs.YtolpkeajokjbjaaDoor
open Go.RowKit Go.L Go.Lib
attribute [local irreducible] LL LW LO
section
variable (E : Vx → Vx → Prop) (S : Vx → Prop)
/-- May come next behind out. -/
def Rdy (out : List Vx) (v : Vx) : Prop := S v ∧ v ∉ out ∧ ∀ u, S u → E u v → u ∈ out
abbrev lastO (out : List Vx) : Vx := out.getLastD topV
def Nea (out : List Vx) (v : Vx) : Prop := Rdy E S out v ∧ E (lastO out) v
def ltV (a b : Vx) : Prop := cmpV a b < 0
def Least (C : Vx → Prop) (v : Vx) : Prop := C v ∧ ∀ w, C w → w = v ∨ ltV v w
def Pick (out : List Vx) (v : Vx) : Prop := ((∃ w, Nea E S out w) → Least (Nea E S out) v) ∧ ((¬ ∃ w, Nea E S out w) → Least (Rdy E S out) v)
inductive Run : List Vx → Prop
  | nil : Run []
  | snoc {out : List Vx} {v : Vx} : Run out → Pick E S out v → Run (out ++ [v])
def Ord (out : List Vx) : Prop := Run E S out ∧ ∀ v, ¬ Rdy E S out v
end
theorem cmpI_anti (x y : Int) : cmpI x y < 0 → cmpI y x < 0 → False := by
  unfold cmpI
  split <;> split <;> (try split) <;> omega
theorem cmpB_anti : ∀ (a b : List UInt8), compareBytes a b = - compareBytes b a
  | [], [] => rfl
  | [], _ :: _ => rfl
  | _ :: _, [] => rfl
  | a :: ar, b :: br => by
    unfold compareBytes
    have ih := cmpB_anti ar br
    by_cases h : a < b
    · have h2 : ¬ b < a := fun c => absurd (UInt8.lt_trans h c) (UInt8.lt_irrefl a)
      simp [h, h2]
    · by_cases h2 : b < a
      · simp [h, h2]
      · simp [h, h2, ih]
theorem ltV_asymm {a b : Vx} (h : ltV a b) (h2 : ltV b a) : False := by
  unfold ltV cmpV at h h2
  have := cmpB_anti a.p.1 b.p.1
  by_cases c : compareBytes a.p.1 b.p.1 = 0
  · have c2 : compareBytes b.p.1 a.p.1 = 0 := by omega
    rw [if_neg (fun d => d c)] at h
    rw [if_neg (fun d => d c2)] at h2
    exact cmpI_anti _ _ h h2
  · have c2 : compareBytes b.p.1 a.p.1 ≠ 0 := by omega
    rw [if_pos c] at h
    rw [if_pos c2] at h2
    omega
theorem Least.uniq {C : Vx → Prop} {a b : Vx} (ha : Least C a) (hb : Least C b) : a = b := by
  rcases ha.2 b hb.1 with e | e
  · exact e.symm
  · rcases hb.2 a ha.1 with f | f
    · exact f
    · exact (ltV_asymm e f).elim
section
variable {E : Vx → Vx → Prop} {S : Vx → Prop}
theorem Pick.uniq {out : List Vx} {a b : Vx} (ha : Pick E S out a) (hb : Pick E S out b) : a = b := by
  by_cases c : ∃ w, Nea E S out w
  · exact (ha.1 c).uniq (hb.1 c)
  · exact (ha.2 c).uniq (hb.2 c)
theorem Pick.rdy {out : List Vx} {a : Vx} (ha : Pick E S out a) : Rdy E S out a := by
  by_cases c : ∃ w, Nea E S out w
  · exact (ha.1 c).1.1
  · exact (ha.2 c).1
theorem Run.uniq : ∀ {o1 o2 : List Vx}, Run E S o1 → Run E S o2 → o1.length = o2.length → o1 = o2
  | _, _, .nil, .nil, _ => rfl
  | _, _, .nil, .snoc _ _, h => by simp at h
  | _, _, .snoc _ _, .nil, h => by simp at h
  | _, _, .snoc h1 p1, .snoc h2 p2, h => by
    have e := Run.uniq h1 h2 (by simpa using h)
    subst e
    rw [p1.uniq p2]
theorem Run.take : ∀ {o : List Vx}, Run E S o → ∀ i, i < o.length → ∃ v, Run E S (o.take i) ∧ Pick E S (o.take i) v
  | _, .nil, i, hi => by simp at hi
  | _, .snoc (out := out) (v := v) h p, i, hi => by
    rw [List.length_append, List.length_singleton] at hi
    by_cases c : i < out.length
    · obtain ⟨w, a, b⟩ := h.take i c
      rw [List.take_append_of_le_length (by omega)]
      exact ⟨w, a, b⟩
    · rw [show i = out.length by omega, List.take_left']
      · exact ⟨v, h, p⟩
      · rfl
theorem Ord.uniq {o1 o2 : List Vx} (h1 : Ord E S o1) (h2 : Ord E S o2) : o1 = o2 := by
  have key : ∀ {a b : List Vx}, Ord E S a → Ord E S b → ¬ a.length < b.length := fun {a b} ha hb hl => by
    obtain ⟨v, r, p⟩ := hb.1.take a.length hl
    have e := ha.1.uniq r (by rw [List.length_take]; omega)
    rw [← e] at p
    exact ha.2 v p.rdy
  exact h1.1.uniq h2.1 (by have := key h1 h2; have := key h2 h1; omega)
theorem Run.nodup : ∀ {o : List Vx}, Run E S o → o.Nodup
  | _, .nil => List.nodup_nil
  | _, .snoc h p => nodup_snoc.2 ⟨h.nodup, p.rdy.2.1⟩
theorem Run.mem : ∀ {o : List Vx}, Run E S o → ∀ v ∈ o, S v
  | _, .nil, v, hv => by cases hv
  | _, .snoc h p, v, hv => by
    rcases List.mem_append.1 hv with e | e
    · exact h.mem v e
    · rw [List.mem_singleton.1 e]; exact p.rdy.1
/-- What leads to a told one was told ahead of it. -/
theorem Run.before : ∀ {o : List Vx}, Run E S o → ∀ {i : Nat} {v u : Vx}, o[i]? = some v → S u → E u v → u ∈ o.take i
  | _, .nil, i, v, u, hv, _, _ => by simp at hv
  | _, .snoc (out := out) (v := w) h p, i, v, u, hv, hu, he => by
    by_cases c : i < out.length
    · rw [List.getElem?_append_left c] at hv
      rw [List.take_append_of_le_length (by omega)]
      exact h.before hv hu he
    · rw [List.getElem?_append_right (by omega)] at hv
      have hi : i = out.length := by
        have := (List.getElem?_eq_some_iff.1 hv).1
        simp at this; omega
      subst hi
      rw [Nat.sub_self] at hv
      obtain rfl := Option.some.inj (show some w = some v from hv)
      rw [List.take_left' rfl]
      exact p.rdy.2.2 u hu he
end
end Go.Proofs.YtolpkeajokjbjaaDoor
namespace Go.Proofs.YtolpkeajokjbjaaDoor
open Go.RowKit Go.L Go.Lib
attribute [local irreducible] LL LW LO
abbrev Ed := List (Vx × Vx)
def nxE (E : Ed) (v : Vx) : List Vx := (E.filter fun e => decide (e.1 = v)).map (·.2)
def pvE (E : Ed) (v : Vx) : List Vx := (E.filter fun e => decide (e.2 = v)).map (·.1)
theorem nxE_mem {E : Ed} {v w : Vx} : w ∈ nxE E v ↔ (v, w) ∈ E := by
  unfold nxE
  rw [List.mem_map]
  constructor
  · rintro ⟨⟨a, b⟩, h, rfl⟩
    rw [List.mem_filter] at h
    have := of_decide_eq_true h.2
    simp only at this
    rw [← this]; exact h.1
  · intro h
    exact ⟨(v, w), List.mem_filter.2 ⟨h, by simp⟩, rfl⟩
theorem pvE_mem {E : Ed} {v u : Vx} : u ∈ pvE E v ↔ (u, v) ∈ E := by
  unfold pvE
  rw [List.mem_map]
  constructor
  · rintro ⟨⟨a, b⟩, h, rfl⟩
    rw [List.mem_filter] at h
    have := of_decide_eq_true h.2
    simp only at this
    rw [← this]; exact h.1
  · intro h
    exact ⟨(u, v), List.mem_filter.2 ⟨h, by simp⟩, rfl⟩
theorem nxE_cons (a b : Vx) (E : Ed) (v : Vx) : nxE ((a, b) :: E) v = (if a = v then [b] else []) ++ nxE E v := by
  unfold nxE
  by_cases c : a = v
  · rw [List.filter_cons, if_pos (decide_eq_true c), if_pos c]; rfl
  · rw [List.filter_cons, if_neg (by simpa using c), if_neg c]; rfl
theorem pvE_cons (a b : Vx) (E : Ed) (v : Vx) : pvE ((a, b) :: E) v = (if b = v then [a] else []) ++ pvE E v := by
  unfold pvE
  by_cases c : b = v
  · rw [List.filter_cons, if_pos (decide_eq_true c), if_pos c]; rfl
  · rw [List.filter_cons, if_neg (by simpa using c), if_neg c]; rfl
theorem nxE_app (E F : Ed) (v : Vx) : nxE (E ++ F) v = nxE E v ++ nxE F v := by
  unfold nxE; rw [List.filter_append, List.map_append]
theorem pvE_app (E F : Ed) (v : Vx) : pvE (E ++ F) v = pvE E v ++ pvE F v := by
  unfold pvE; rw [List.filter_append, List.map_append]
theorem nodup_map_in {α β : Type} {f : α → β} : ∀ {l : List α}, l.Nodup → (∀ x ∈ l, ∀ y ∈ l, f x = f y → x = y) → (l.map f).Nodup
  | [], _, _ => List.nodup_nil
  | a :: l, h, hi => by
    obtain ⟨h1, h2⟩ := List.nodup_cons.1 h
    rw [List.map_cons, List.nodup_cons]
    refine ⟨fun c => ?_, nodup_map_in h2 fun x hx y hy => hi x (List.mem_cons_of_mem _ hx) y (List.mem_cons_of_mem _ hy)⟩
    obtain ⟨y, hy, e⟩ := List.mem_map.1 c
    have := hi y (List.mem_cons_of_mem _ hy) a (by simp) e
    exact h1 (this ▸ hy)
theorem nxE_nodup {E : Ed} (h : E.Nodup) (v : Vx) : (nxE E v).Nodup := by
  unfold nxE
  refine nodup_map_in (List.filter_sublist.nodup h) fun x hx y hy e => ?_
  have h1 := of_decide_eq_true (List.mem_filter.1 hx).2
  have h2 := of_decide_eq_true (List.mem_filter.1 hy).2
  exact Prod.ext (h1.trans h2.symm) e
theorem pvE_nodup {E : Ed} (h : E.Nodup) (v : Vx) : (pvE E v).Nodup := by
  unfold pvE
  refine nodup_map_in (List.filter_sublist.nodup h) fun x hx y hy e => ?_
  have h1 := of_decide_eq_true (List.mem_filter.1 hx).2
  have h2 := of_decide_eq_true (List.mem_filter.1 hy).2
  exact Prod.ext e (h1.trans h2.symm)
/-- A chain's steps. -/
def edP : Vx → List Vx → Vx → Ed
  | a, [], d => [(a, d)]
  | a, v :: r, d => (a, v) :: edP v r d
theorem chain_fold {S : Type} (F : S → Vx → Vx → S) : ∀ (ids : List Vx) (s : S) (a d : Vx), chainF F s a ids d = (edP a ids d).foldl (fun s e => F s e.1 e.2) s
  | [], s, a, d => rfl
  | v :: r, s, a, d => chain_fold F r (F s a v) v d
theorem edP_mem : ∀ {ids : List Vx} {a d x y : Vx}, (x, y) ∈ edP a ids d ↔ ∃ i : Nat, (a :: ids)[i]? = some x ∧ (ids ++ [d])[i]? = some y
  | [], a, d, x, y => by
    constructor
    · intro h
      have := List.mem_singleton.1 (show (x, y) ∈ [(a, d)] from h)
      obtain ⟨rfl, rfl⟩ := Prod.mk.inj this
      exact ⟨0, rfl, rfl⟩
    · rintro ⟨i, h1, h2⟩
      cases i with
      | zero => cases h1; cases h2; simp [edP]
      | succ i => simp at h1
  | v :: r, a, d, x, y => by
    show (x, y) ∈ (a, v) :: edP v r d ↔ _
    rw [List.mem_cons, edP_mem]
    constructor
    · rintro (h | ⟨i, h1, h2⟩)
      · obtain ⟨rfl, rfl⟩ := Prod.mk.inj h
        exact ⟨0, rfl, rfl⟩
      · exact ⟨i + 1, h1, h2⟩
    · rintro ⟨i, h1, h2⟩
      cases i with
      | zero => cases h1; cases h2; exact .inl rfl
      | succ i => exact .inr ⟨i, h1, h2⟩
theorem edP_fst {ids : List Vx} {a d x y : Vx} (h : (x, y) ∈ edP a ids d) : x = a ∨ x ∈ ids := by
  obtain ⟨i, h1, _⟩ := edP_mem.1 h
  exact List.mem_cons.1 (List.mem_of_getElem? h1)
theorem edP_snd {ids : List Vx} {a d x y : Vx} (h : (x, y) ∈ edP a ids d) : y ∈ ids ∨ y = d := by
  obtain ⟨i, _, h2⟩ := edP_mem.1 h
  have := List.mem_of_getElem? h2
  rw [List.mem_append, List.mem_singleton] at this
  exact this
/-- From the start of a chain of new ones, only to the first. -/
theorem edP_up {ids : List Vx} {a d y : Vx} (hn : ids ≠ []) (ha : a ∉ ids) (h : (a, y) ∈ edP a ids d) : y ∈ ids := by
  obtain ⟨i, h1, h2⟩ := edP_mem.1 h
  cases i with
  | zero =>
    cases ids with
    | nil => exact absurd rfl hn
    | cons v r => cases h2; simp
  | succ i => exact absurd (List.mem_of_getElem? (show ids[i]? = some a from h1)) ha
theorem Rch.trans {f : Vx → List Vx} {a b c : Vx} (h1 : Rch f a b) : Rch f b c → Rch f a c
  | .one hd => .step h1 hd
  | .step hy hd => .step (Rch.trans h1 hy) hd
theorem Rch.mono {f g : Vx → List Vx} (h : ∀ v w, w ∈ f v → w ∈ g v) {a b : Vx} : Rch f a b → Rch g a b
  | .one hd => .one (h _ _ hd)
  | .step hy hd => .step (Rch.mono h hy) (h _ _ hd)
theorem Rch.congr {f g : Vx → List Vx} (h : ∀ v w, w ∈ f v ↔ w ∈ g v) {a b : Vx} : Rch f a b ↔ Rch g a b :=
  ⟨Rch.mono fun v w => (h v w).1, Rch.mono fun v w => (h v w).2⟩
theorem Rch.first {f : Vx → List Vx} {a b : Vx} : Rch f a b → ∃ y, y ∈ f a ∧ (y = b ∨ Rch f y b)
  | .one hd => ⟨_, hd, .inl rfl⟩
  | .step hy hd => by
    obtain ⟨y, h1, h2⟩ := Rch.first hy
    refine ⟨y, h1, .inr ?_⟩
    rcases h2 with rfl | h2
    · exact .one hd
    · exact .step h2 hd
section
variable {E : Ed} {up down : Vx} {ids : List Vx}
/-- New lines' steps: none of them was there. -/
structure Fresh (E : Ed) (up : Vx) (ids : List Vx) (down : Vx) : Prop where
  ne : ids ≠ []
  nd : ids.Nodup
  hup : up ∉ ids
  hdown : down ∉ ids
  fst : ∀ e ∈ E, e.1 ∉ ids
  snd : ∀ e ∈ E, e.2 ∉ ids
  rch : Rch (nxE E) up down
abbrev E2 (E : Ed) (up : Vx) (ids : List Vx) (down : Vx) : Ed := E ++ edP up ids down
theorem e2_mem {x y : Vx} : y ∈ nxE (E2 E up ids down) x ↔ (x, y) ∈ E ∨ (x, y) ∈ edP up ids down := by rw [nxE_mem, List.mem_append]
theorem Fresh.old (h : Fresh E up ids down) {x : Vx} (hx : x ∉ ids) : ∀ {y : Vx}, Rch (nxE (E2 E up ids down)) x y → (y ∉ ids → Rch (nxE E) x y) ∧ (y ∈ ids → x = up ∨ Rch (nxE E) x up)
  | y, .one hd => by
    rcases e2_mem.1 hd with e | e
    · exact ⟨fun _ => .one (nxE_mem.2 e), fun c => absurd c (h.snd _ e)⟩
    · rcases edP_fst e with f | f
      · subst f; exact ⟨fun c => absurd (edP_up h.ne h.hup e) c, fun _ => .inl rfl⟩
      · exact absurd f hx
  | y, .step (y := z) hz hd => by
    have ih := Fresh.old h hx hz
    rcases e2_mem.1 hd with e | e
    · exact ⟨fun _ => .step (ih.1 (h.fst _ e)) (nxE_mem.2 e), fun c => absurd c (h.snd _ e)⟩
    · rcases edP_fst e with f | f
      · subst f; exact ⟨fun c => absurd (edP_up h.ne h.hup e) c, fun _ => .inr (ih.1 h.hup)⟩
      · have ih2 := ih.2 f
        refine ⟨fun c => ?_, fun _ => ih2⟩
        rcases edP_snd e with g | g
        · exact absurd g c
        · subst g
          rcases ih2 with k | k
          · rw [k]; exact h.rch
          · exact k.trans h.rch
theorem Fresh.new (h : Fresh E up ids down) (hac : ∀ v, ¬ Rch (nxE E) v v) {i : Nat} {x : Vx} (hx : ids[i]? = some x) : ∀ {y : Vx}, Rch (nxE (E2 E up ids down)) x y → (∃ j, i < j ∧ ids[j]? = some y) ∨ ((y = down ∨ Rch (nxE E) down y) ∧ y ∉ ids) := by
  have hxm : x ∈ ids := List.mem_of_getElem? hx
  have edge : ∀ {j : Nat} {z y : Vx}, ids[j]? = some z → (z, y) ∈ edP up ids down → ids[j + 1]? = some y ∨ y = down := fun {j z y} hz he => by
    obtain ⟨k, h1, h2⟩ := edP_mem.1 he
    cases k with
    | zero => cases h1; exact absurd (List.mem_of_getElem? hz) h.hup
    | succ k =>
      have h1 : ids[k]? = some z := h1
      have hjk : j = k := by
        obtain ⟨a1, a2⟩ := List.getElem?_eq_some_iff.1 hz
        obtain ⟨b1, b2⟩ := List.getElem?_eq_some_iff.1 h1
        exact (List.getElem_inj h.nd).1 (a2.trans b2.symm)
      subst hjk
      by_cases c : j + 1 < ids.length
      · rw [List.getElem?_append_left c] at h2; exact .inl h2
      · rw [List.getElem?_append_right (by omega)] at h2
        right
        have := List.mem_of_getElem? h2
        exact List.mem_singleton.1 this
  have back : ∀ {z y : Vx}, (z = down ∨ Rch (nxE E) down z) → z ∉ ids → (z, y) ∈ edP up ids down → False := fun {z y} hz hn he => by
    rcases edP_fst he with f | f
    · subst f
      rcases hz with k | k
      · rw [k] at h; exact hac _ h.rch
      · exact hac _ (h.rch.trans k)
    · exact hn f
  intro y hr
  induction hr with
  | one hd =>
    rcases e2_mem.1 hd with e | e
    · exact absurd hxm (h.fst _ e)
    · rcases edge hx e with f | f
      · exact .inl ⟨i + 1, by omega, f⟩
      · subst f; exact .inr ⟨.inl rfl, h.hdown⟩
  | step hz hd ih =>
    rcases ih with ⟨j, hj, hzj⟩ | ⟨hz2, hn⟩
    · rcases e2_mem.1 hd with e | e
      · exact absurd (List.mem_of_getElem? hzj) (h.fst _ e)
      · rcases edge hzj e with f | f
        · exact .inl ⟨j + 1, by omega, f⟩
        · subst f; exact .inr ⟨.inl rfl, h.hdown⟩
    · rcases e2_mem.1 hd with e | e
      · refine .inr ⟨.inr ?_, h.snd _ e⟩
        rcases hz2 with k | k
        · subst k; exact .one (nxE_mem.2 e)
        · exact .step k (nxE_mem.2 e)
      · exact (back hz2 hn e).elim
theorem Fresh.acy (h : Fresh E up ids down) (hac : ∀ v, ¬ Rch (nxE E) v v) : ∀ v, ¬ Rch (nxE (E2 E up ids down)) v v := fun v hr => by
  by_cases c : v ∈ ids
  · obtain ⟨i, hi⟩ := List.getElem?_of_mem c
    rcases h.new hac hi hr with ⟨j, hj, e⟩ | ⟨_, e⟩
    · obtain ⟨a1, a2⟩ := List.getElem?_eq_some_iff.1 hi
      obtain ⟨b1, b2⟩ := List.getElem?_eq_some_iff.1 e
      have := (List.getElem_inj h.nd).1 (a2.trans b2.symm)
      omega
    · exact e c
  · exact hac v ((h.old c hr).1 c)
theorem chain_rch : ∀ {ids : List Vx} {a d : Vx} {F : Ed}, (∀ e ∈ edP a ids d, e ∈ F) → (∀ v ∈ ids, Rch (nxE F) a v ∧ Rch (nxE F) v d) ∧ Rch (nxE F) a d
  | [], a, d, F, h => ⟨fun v hv => (by cases hv), .one (nxE_mem.2 (h _ (by simp [edP])))⟩
  | v :: r, a, d, F, h => by
    have hav : Rch (nxE F) a v := .one (nxE_mem.2 (h (a, v) (by simp [edP])))
    obtain ⟨ih1, ih2⟩ := chain_rch (ids := r) (a := v) (d := d) (F := F) fun e he => h e (by simp [edP, he])
    refine ⟨fun w hw => ?_, hav.trans ih2⟩
    rcases List.mem_cons.1 hw with e | e
    · rw [e]; exact ⟨hav, ih2⟩
    · exact ⟨hav.trans (ih1 w e).1, (ih1 w e).2⟩
end
end Go.Proofs.YtolpkeajokjbjaaDoor
namespace Go.Proofs.YtolpkeajokjbjaaDoor
open Go.RowKit Go.L Go.Lib
attribute [local irreducible] LL LW LO
theorem fin_ind {α : Type} [DecidableEq α] {R : α → α → Prop} (irr : ∀ v, ¬ R v v) (tr : ∀ {a b c}, R a b → R b c → R a c) {S : List α} (hS : S.Nodup) {P : α → Prop} (h : ∀ v ∈ S, (∀ u ∈ S, R u v → P u) → P v) : ∀ v ∈ S, P v := by
  classical
  have key : ∀ n : Nat, ∀ v ∈ S, (S.filter fun u => decide (R u v)).length < n → P v := fun n => by
    induction n with
    | zero => intro v _ hl; omega
    | succ n ih =>
      intro v hv hl
      refine h v hv fun u hu hr => ih u hu ?_
      have hn : (u :: S.filter fun w => decide (R w u)).Nodup := List.nodup_cons.2 ⟨fun c => irr u (by simpa using (List.mem_filter.1 c).2), List.filter_sublist.nodup hS⟩
      have := nodup_len hn (l := S.filter fun w => decide (R w v)) fun x hx => by
        rcases List.mem_cons.1 hx with e | e
        · subst e; exact List.mem_filter.2 ⟨hu, decide_eq_true hr⟩
        · obtain ⟨a, b⟩ := List.mem_filter.1 e
          exact List.mem_filter.2 ⟨a, decide_eq_true (tr (by simpa using b) hr)⟩
      rw [List.length_cons] at this
      omega
  intro v hv
  exact key _ v hv (Nat.lt_succ_self _)
def Er (r : Rg) : Ed := (topV, botV) :: r.L.flatMap fun a => edP a.up a.ids a.down
structure Ok (r : Rg) : Prop where
  nd : (idsG r.L).Nodup
  ends : ∀ v ∈ idsG r.L, endsB v = false
  ne : ∀ a ∈ r.L, a.ids ≠ [] ∧ a.texts.length = a.ids.length
  inn : ∀ a ∈ r.L, (a.up = topV ∨ a.up ∈ idsG r.L) ∧ (a.down = botV ∨ a.down ∈ idsG r.L)
  acy : ∀ v, ¬ Rch (nxE (Er r)) v v
  end_ : (Er r).Nodup
  len : (idsG r.L).length ≤ 512
  dv : ∀ d ∈ r.D, d.v ∈ idsG r.L
  dn : r.D.Nodup
theorem er_mem {r : Rg} {x y : Vx} : (x, y) ∈ Er r ↔ (x = topV ∧ y = botV) ∨ ∃ a ∈ r.L, (x, y) ∈ edP a.up a.ids a.down := by
  unfold Er
  rw [List.mem_cons, List.mem_flatMap, Prod.mk.injEq]
theorem ids_mem {l : List Ad} {v : Vx} : v ∈ idsG l ↔ ∃ a ∈ l, v ∈ a.ids := List.mem_flatMap
theorem top_bot : topV ≠ botV := fun h => by have := congrArg Vx.n h; exact absurd this (by decide)
theorem endsB_iff {v : Vx} : endsB v = false ↔ v ≠ topV ∧ v ≠ botV := by
  unfold endsB; simp
theorem endsB_true {v : Vx} : endsB v = true ↔ v = topV ∨ v = botV := by
  unfold endsB; simp
section
variable {r : Rg}
theorem Ok.top (h : Ok r) : topV ∉ idsG r.L := fun c => (endsB_iff.1 (h.ends _ c)).1 rfl
theorem Ok.bot (h : Ok r) : botV ∉ idsG r.L := fun c => (endsB_iff.1 (h.ends _ c)).2 rfl
theorem Ok.fst (h : Ok r) {x y : Vx} (he : (x, y) ∈ Er r) : x = topV ∨ x ∈ idsG r.L := by
  rcases er_mem.1 he with e | ⟨a, ha, e⟩
  · exact .inl e.1
  · rcases edP_fst e with f | f
    · rw [f]; exact (h.inn a ha).1
    · exact .inr (ids_mem.2 ⟨a, ha, f⟩)
theorem Ok.snd (h : Ok r) {x y : Vx} (he : (x, y) ∈ Er r) : y = botV ∨ y ∈ idsG r.L := by
  rcases er_mem.1 he with e | ⟨a, ha, e⟩
  · exact .inl e.2
  · rcases edP_snd e with f | f
    · exact .inr (ids_mem.2 ⟨a, ha, f⟩)
    · rw [f]; exact (h.inn a ha).2
theorem Ok.from_bot (h : Ok r) {y : Vx} : (botV, y) ∉ Er r := fun c => by
  rcases h.fst c with e | e
  · exact top_bot e.symm
  · exact h.bot e
theorem Ok.to_top (h : Ok r) {x : Vx} : (x, topV) ∉ Er r := fun c => by
  rcases h.snd c with e | e
  · exact top_bot e
  · exact h.top e
theorem Ok.rch_last (h : Ok r) {x y : Vx} (hr : Rch (nxE (Er r)) x y) : y = botV ∨ y ∈ idsG r.L := by
  obtain ⟨z, hz⟩ := hr.last
  exact h.snd (nxE_mem.1 hz)
theorem Ok.rch_first (h : Ok r) {x y : Vx} (hr : Rch (nxE (Er r)) x y) : x = topV ∨ x ∈ idsG r.L := by
  obtain ⟨z, hz, _⟩ := hr.first
  exact h.fst (nxE_mem.1 hz)
theorem Ok.chain (h : Ok r) {a : Ad} (ha : a ∈ r.L) : (∀ v ∈ a.ids, Rch (nxE (Er r)) a.up v ∧ Rch (nxE (Er r)) v a.down) ∧ Rch (nxE (Er r)) a.up a.down :=
  chain_rch fun e he => er_mem.2 (.inr ⟨a, ha, he⟩)
theorem Ok.from_top (h : Ok r) : ∀ v ∈ idsG r.L, Rch (nxE (Er r)) topV v :=
  fin_ind (R := Rch (nxE (Er r))) h.acy (fun a b => a.trans b) h.nd fun v hv ih => by
    obtain ⟨a, ha, hva⟩ := ids_mem.1 hv
    have hu := ((h.chain ha).1 v hva).1
    rcases (h.inn a ha).1 with e | e
    · rw [e] at hu; exact hu
    · exact (ih _ e hu).trans hu
/-- The document's order, in plain words. -/
def OrdR (r : Rg) (out : List Vx) : Prop := Ord (fun u v => v ∈ nxE (Er r) u) (fun v => v ∈ idsG r.L) out
theorem OrdR.all {out : List Vx} (ho : OrdR r out) (h : Ok r) : ∀ v ∈ idsG r.L, v ∈ out :=
  fin_ind (R := Rch (nxE (Er r))) h.acy (fun a b => a.trans b) h.nd fun v hv ih => Classical.byContradiction fun c =>
    ho.2 v ⟨hv, c, fun u hu he => ih u hu (.one he)⟩
theorem perm_same {α : Type} [DecidableEq α] {k l : List α} (hk : k.Nodup) (hl : l.Nodup) (h : ∀ x, x ∈ k ↔ x ∈ l) : k.Perm l := (List.perm_ext_iff_of_nodup hk hl).2 h
theorem OrdR.perm {out : List Vx} (ho : OrdR r out) (h : Ok r) : out.Perm (idsG r.L) :=
  perm_same ho.1.nodup h.nd fun x => ⟨ho.1.mem x, ho.all h x⟩
theorem OrdR.before {out : List Vx} (ho : OrdR r out) (h : Ok r) {u v : Vx} (hu : u ∈ idsG r.L) (hr : Rch (nxE (Er r)) u v) : ∀ {i : Nat}, out[i]? = some v → u ∈ out.take i := by
  induction hr with
  | one hd => intro i hi; exact ho.1.before hi hu hd
  | step hz hd ih =>
    rename_i z y
    intro i hi
    rcases h.rch_last hz with e | e
    · rw [e] at hd; exact absurd (nxE_mem.1 hd) h.from_bot
    · have hm := ho.1.before hi e hd
      obtain ⟨j, hj⟩ := List.getElem?_of_mem hm
      have hji : j < i := by
        have := (List.getElem?_eq_some_iff.1 hj).1
        rw [List.length_take] at this; omega
      rw [List.getElem?_take_of_lt hji] at hj
      have := ih hj
      exact (List.take_sublist_take_left (by omega)).subset this
end
theorem er_snoc (l : List Ad) (D D2 : List De) (a : Ad) : Er ⟨l ++ [a], D2⟩ = E2 (Er ⟨l, D⟩) a.up a.ids a.down := by
  unfold Er E2
  simp
theorem edP_nodup : ∀ {ids : List Vx} {a d : Vx}, (a :: ids).Nodup → (edP a ids d).Nodup
  | [], a, d, _ => by simp [edP]
  | v :: r, a, d, h => by
    obtain ⟨h1, h2⟩ := List.nodup_cons.1 h
    show ((a, v) :: edP v r d).Nodup
    refine List.nodup_cons.2 ⟨fun c => ?_, edP_nodup h2⟩
    rcases edP_fst c with e | e
    · exact h1 (by rw [e]; simp)
    · exact h1 (List.mem_cons_of_mem _ e)
theorem Ok.add {r : Rg} (h : Ok r) {a : Ad} (hne : a.ids ≠ []) (hnd : a.ids.Nodup) (hen : ∀ v ∈ a.ids, endsB v = false) (htx : a.texts.length = a.ids.length) (hnew : ∀ v ∈ a.ids, v ∉ idsG r.L)
    (hup : hasG r a.up = true) (hdn : hasG r a.down = true) (hr : Rch (nxE (Er r)) a.up a.down) (hl : (idsG r.L).length + a.ids.length ≤ 512) : Ok ⟨r.L ++ [a], r.D⟩ := by
  have hold : ∀ v, (v = topV ∨ v = botV ∨ v ∈ idsG r.L) → v ∉ a.ids := fun v hv c => by
    rcases hv with e | e | e
    · exact (endsB_iff.1 (hen v c)).1 e
    · exact (endsB_iff.1 (hen v c)).2 e
    · exact hnew v c e
  have hup2 : a.up = topV ∨ a.up ∈ idsG r.L := h.rch_first hr
  have hdn2 : a.down = botV ∨ a.down ∈ idsG r.L := h.rch_last hr
  have hupi : a.up ∉ a.ids := hold _ (hup2.elim .inl fun e => .inr (.inr e))
  have hfr : Fresh (Er r) a.up a.ids a.down := ⟨hne, hnd, hupi, hold _ (hdn2.elim (fun e => .inr (.inl e)) fun e => .inr (.inr e)), fun e he => hold _ ((h.fst (x := e.1) (y := e.2) he).elim .inl fun e => .inr (.inr e)), fun e he => hold _ ((h.snd (x := e.1) (y := e.2) he).elim (fun e => .inr (.inl e)) fun e => .inr (.inr e)), hr⟩
  have hEr : Er ⟨r.L ++ [a], r.D⟩ = E2 (Er r) a.up a.ids a.down := er_snoc r.L r.D r.D a
  refine ⟨?_, fun v hv => ?_, fun b hb => ?_, fun b hb => ?_, ?_, ?_, ?_, fun d hd => ?_, h.dn⟩
  · show (idsG (r.L ++ [a])).Nodup
    rw [ids_snoc, List.nodup_append]
    exact ⟨h.nd, hnd, fun x hx y hy e => hnew y hy (e ▸ hx)⟩
  · rw [show idsG _ = _ from ids_snoc r.L a] at hv
    rcases List.mem_append.1 hv with e | e
    · exact h.ends v e
    · exact hen v e
  · rcases List.mem_append.1 hb with e | e
    · exact h.ne b e
    · rw [List.mem_singleton.1 e]; exact ⟨hne, htx⟩
  · show (_ ∨ _ ∈ idsG (r.L ++ [a])) ∧ (_ ∨ _ ∈ idsG (r.L ++ [a]))
    rw [ids_snoc]
    rcases List.mem_append.1 hb with e | e
    · exact ⟨(h.inn b e).1.imp id (List.mem_append_left _), (h.inn b e).2.imp id (List.mem_append_left _)⟩
    · rw [List.mem_singleton.1 e]
      exact ⟨hup2.imp id (List.mem_append_left _), hdn2.imp id (List.mem_append_left _)⟩
  · rw [hEr]; exact hfr.acy h.acy
  · rw [hEr]
    refine List.nodup_append.2 ⟨h.end_, edP_nodup (List.nodup_cons.2 ⟨hupi, hnd⟩), fun x hx y hy e => ?_⟩
    subst e
    obtain ⟨x1, x2⟩ := x
    rcases edP_fst hy with f | f
    · subst f; exact hfr.snd _ hx (edP_up hne hupi hy)
    · exact hfr.fst _ hx f
  · show (idsG (r.L ++ [a])).length ≤ 512
    rw [ids_snoc, List.length_append]; exact hl
  · show _ ∈ idsG (r.L ++ [a])
    rw [ids_snoc]; exact List.mem_append_left _ (h.dv d hd)
end Go.Proofs.YtolpkeajokjbjaaDoor
namespace Go.Proofs.YtolpkeajokjbjaaDoor
open Go.RowKit Go.L Go.Lib
attribute [local irreducible] LL LW LO
def textG : List Ad → Vx → List UInt8
  | [], _ => []
  | a :: l, v => if 0 ≤ placeG a.ids v then a.texts.getD (placeG a.ids v).toNat [] else textG l v
def killsOf (D : List De) (v : Vx) : List Hs := (D.filter fun d => decide (d.v = v)).map (·.by_)
abbrev ptOf (a : Ad) : Pt := ⟨a.up, a.down, a.ids⟩
structure Rel (m : At) (q : Ps) (n : Int) (r : Rg) : Prop where
  keys : (m.map (·.1)).Perm (topV :: botV :: idsG r.L)
  next : ∀ v, (atG m v).next = nxE (Er r) v
  prev : ∀ v, (atG m v).prev = pvE (Er r) v
  text : ∀ v, (atG m v).text = textG r.L v
  kills : ∀ v, (atG m v).kills = killsOf r.D v
  parts : ∃ z : List (Int × Ad), r.L = z.map (·.2) ∧ q.Perm (z.map (fun p => (p.1, ptOf p.2))) ∧ (z.map (·.1)).Nodup ∧ (∀ p ∈ z, 0 < p.1 ∧ p.1 ≤ n) ∧ ∀ p ∈ z, ∀ v ∈ p.2.ids, (atG m v).part = p.1
section
variable {κ α : Type} [DecidableEq κ]
theorem look_keys : ∀ {l : List (κ × α)} {a : κ}, (lookA l a).isSome = true ↔ a ∈ l.map (·.1)
  | [], a => by simp [lookA]
  | p :: r, a => by
    rw [lookA, List.map_cons, List.mem_cons, ← look_keys (l := r)]
    by_cases c : p.1 = a
    · simp [c]
    · have : ¬ a = p.1 := fun e => c e.symm
      simp [c, this]
theorem keys_set : ∀ (l : List (κ × α)) (a : κ) (x : α), (setA l a x).map (·.1) = if a ∈ l.map (·.1) then l.map (·.1) else l.map (·.1) ++ [a]
  | [], a, x => by simp [setA]
  | p :: r, a, x => by
    rw [setA]
    by_cases c : p.1 = a
    · subst c; simp
    · have c2 : ¬ a = p.1 := fun e => c e.symm
      rw [if_neg c, List.map_cons, keys_set r a x, List.map_cons]
      by_cases d : a ∈ r.map (·.1)
      · rw [if_pos d, if_pos (List.mem_cons_of_mem _ d)]
      · rw [if_neg d, if_neg (fun e => (List.mem_cons.1 e).elim c2 d)]; rfl
theorem set_new : ∀ {l : List (κ × α)} {a : κ} {x : α}, a ∉ l.map (·.1) → setA l a x = l ++ [(a, x)]
  | [], a, x, _ => rfl
  | p :: r, a, x, h => by
    rw [List.map_cons, List.mem_cons, not_or] at h
    rw [setA, if_neg (fun e => h.1 e.symm), set_new h.2]; rfl
end
theorem Rel.has {m : At} {q : Ps} {n : Int} {r : Rg} (h : Rel m q n r) (v : Vx) : (lookA m v).isSome = hasG r v := by
  rw [Bool.eq_iff_iff, look_keys, h.keys.mem_iff]
  unfold hasG
  rw [Bool.or_eq_true, decide_eq_true_eq, endsB_true, List.mem_cons, List.mem_cons, or_assoc]
theorem fold_next : ∀ (E : Ed) (m : At) (v : Vx), (atG (E.foldl (fun s e => stepA s e.1 e.2) m) v).next = (atG m v).next ++ nxE E v
  | [], m, v => by simp [nxE]
  | (a, b) :: E, m, v => by
    show (atG (E.foldl _ (stepA m a b)) v).next = _
    rw [fold_next E, step_next, nxE_cons, List.append_assoc]
theorem fold_prev : ∀ (E : Ed) (m : At) (v : Vx), (atG (E.foldl (fun s e => stepA s e.1 e.2) m) v).prev = (atG m v).prev ++ pvE E v
  | [], m, v => by simp [pvE]
  | (a, b) :: E, m, v => by
    show (atG (E.foldl _ (stepA m a b)) v).prev = _
    rw [fold_prev E, step_prev, pvE_cons, List.append_assoc]
theorem step_rest (m : At) (a b v : Vx) : (atG (stepA m a b) v).text = (atG m v).text ∧ (atG (stepA m a b) v).kills = (atG m v).kills ∧ (atG (stepA m a b) v).part = (atG m v).part := by
  unfold stepA
  simp only [atG_set]
  by_cases c : b = v
  · subst c
    by_cases d : a = b
    · simp [d]
    · simp [d]
  · by_cases d : a = v
    · simp [c, d]
    · simp [c, d]
theorem fold_rest : ∀ (E : Ed) (m : At) (v : Vx), (atG (E.foldl (fun s e => stepA s e.1 e.2) m) v).text = (atG m v).text ∧ (atG (E.foldl (fun s e => stepA s e.1 e.2) m) v).kills = (atG m v).kills ∧ (atG (E.foldl (fun s e => stepA s e.1 e.2) m) v).part = (atG m v).part
  | [], m, v => ⟨rfl, rfl, rfl⟩
  | (a, b) :: E, m, v => by
    have h1 := fold_rest E (stepA m a b) v
    have h2 := step_rest m a b v
    exact ⟨h1.1.trans h2.1, h1.2.1.trans h2.2.1, h1.2.2.trans h2.2.2⟩
theorem step_keys {m : At} {a b : Vx} (ha : a ∈ m.map (·.1)) (hb : b ∈ m.map (·.1)) : (stepA m a b).map (·.1) = m.map (·.1) := by
  unfold stepA
  simp only [keys_set, if_pos ha, if_pos hb]
theorem fold_keys : ∀ {E : Ed} {m : At}, (∀ e ∈ E, e.1 ∈ m.map (·.1) ∧ e.2 ∈ m.map (·.1)) → (E.foldl (fun s e => stepA s e.1 e.2) m).map (·.1) = m.map (·.1)
  | [], m, _ => rfl
  | (a, b) :: E, m, h => by
    have h1 := h (a, b) (by simp)
    have hk := step_keys h1.1 h1.2
    show (E.foldl _ (stepA m a b)).map (·.1) = _
    rw [fold_keys (m := stepA m a b) fun e he => by rw [hk]; exact h e (List.mem_cons_of_mem _ he), hk]
theorem lay_keys (part : Int) : ∀ {ids : List Vx} {ts : List (List UInt8)} {m : At}, ids.length = ts.length → ids.Nodup → (∀ v ∈ ids, v ∉ m.map (·.1)) → (layA m part ids ts).map (·.1) = m.map (·.1) ++ ids
  | [], [], m, _, _, _ => by simp [layA]
  | [], _ :: _, m, h, _, _ => by cases h
  | _ :: _, [], m, h, _, _ => by cases h
  | v :: vs, t :: ts, m, h, hn, hv => by
    obtain ⟨h1, h2⟩ := List.nodup_cons.1 hn
    have hk : (setA m v (⟨t, [], part, [], []⟩ : Ln)).map (·.1) = m.map (·.1) ++ [v] := by rw [keys_set, if_neg (hv v (by simp))]
    show (layA (setA m v ⟨t, [], part, [], []⟩) part vs ts).map (·.1) = _
    rw [lay_keys part (by simpa using h) h2 fun w hw => by
      rw [hk, List.mem_append, List.mem_singleton, not_or]
      exact ⟨hv w (List.mem_cons_of_mem _ hw), fun e => h1 (e ▸ hw)⟩, hk, List.append_assoc]
    rfl
theorem lay_old (part : Int) : ∀ {ids : List Vx} {ts : List (List UInt8)} {m : At} {v : Vx}, v ∉ ids → atG (layA m part ids ts) v = atG m v
  | [], _, m, v, _ => by simp [layA]
  | _ :: _, [], m, v, _ => by simp [layA]
  | a :: vs, t :: ts, m, v, h => by
    rw [List.mem_cons, not_or] at h
    show atG (layA (setA m a ⟨t, [], part, [], []⟩) part vs ts) v = _
    rw [lay_old part h.2, atG_set, if_neg fun e => h.1 e.symm]
theorem lay_new (part : Int) : ∀ {ids : List Vx} {ts : List (List UInt8)} {m : At} {v : Vx}, ids.length = ts.length → ids.Nodup → v ∈ ids → atG (layA m part ids ts) v = ⟨ts.getD (placeG ids v).toNat [], [], part, [], []⟩
  | [], _, m, v, _, _, h => by cases h
  | _ :: _, [], m, v, h, _, _ => by cases h
  | a :: vs, t :: ts, m, v, hl, hn, h => by
    obtain ⟨h1, h2⟩ := List.nodup_cons.1 hn
    show atG (layA (setA m a ⟨t, [], part, [], []⟩) part vs ts) v = _
    by_cases c : a = v
    · subst c
      rw [lay_old part h1, atG_set, if_pos rfl, placeG, if_pos rfl]
      rfl
    · have hv : v ∈ vs := (List.mem_cons.1 h).resolve_left fun e => c e.symm
      rw [lay_new part (by simpa using hl) h2 hv, placeG, if_neg c]
      have hp : ¬ placeG vs v < 0 := fun e => placeG_neg.1 e hv
      rw [if_neg hp, show (placeG vs v + 1).toNat = (placeG vs v).toNat + 1 by omega]
      rfl
theorem at0_all (v : Vx) : atG at0 v = ln0 := by
  have : at0 = setA (setA [] topV ln0) botV ln0 := at0_set.symm
  rw [this, atG_set, atG_set]
  split
  · rfl
  · split <;> rfl
theorem ok0 : Ok ⟨[], []⟩ := by
  have hE : Er ⟨[], []⟩ = [(topV, botV)] := rfl
  have hlast : ∀ {v w : Vx}, Rch (nxE (Er ⟨[], []⟩)) v w → w = botV := fun hr => by
    obtain ⟨y, hy⟩ := hr.last
    have := nxE_mem.1 hy
    rw [hE, List.mem_singleton] at this
    exact (Prod.mk.inj this).2
  refine ⟨List.nodup_nil, (fun v hv => by cases hv), (fun a ha => by cases ha), (fun a ha => by cases ha), (fun v hr => ?_), (by rw [hE]; simp), Nat.zero_le _, (fun d hd => by cases hd), List.nodup_nil⟩
  obtain ⟨y, hy, _⟩ := hr.first
  have h1 := nxE_mem.1 hy
  rw [hE, List.mem_singleton] at h1
  have h2 := hlast hr
  exact top_bot ((Prod.mk.inj h1).1.symm.trans h2)
theorem rel0 : Rel (stepA at0 topV botV) [] 0 ⟨[], []⟩ := by
  have hE : Er ⟨[], []⟩ = [(topV, botV)] := rfl
  have hk : at0.map (·.1) = [topV, botV] := rfl
  refine ⟨?_, fun v => ?_, fun v => ?_, fun v => ?_, fun v => ?_, [], rfl, List.Perm.refl _, List.nodup_nil, (fun p hp => by cases hp), (fun p hp => by cases hp)⟩
  · rw [step_keys (by rw [hk]; simp) (by rw [hk]; simp), hk]; exact List.Perm.refl _
  · rw [step_next, at0_all, hE, nxE_cons]; simp [nxE]
  · rw [step_prev, at0_all, hE, pvE_cons]; simp [pvE]
  · rw [(step_rest _ _ _ _).1, at0_all]; rfl
  · rw [(step_rest _ _ _ _).2.1, at0_all]; rfl
end Go.Proofs.YtolpkeajokjbjaaDoor
namespace Go.Proofs.YtolpkeajokjbjaaDoor
open Go.RowKit Go.L Go.Lib
attribute [local irreducible] LL LW LO
theorem placeG_nn {α : Type} [DecidableEq α] {l : List α} {v : α} (h : v ∈ l) : 0 ≤ placeG l v := Int.not_lt.1 fun c => placeG_neg.1 c h
theorem nxE_edP : ∀ {ids : List Vx} {a d v : Vx}, (a :: ids).Nodup → nxE (edP a ids d) v = if 0 ≤ placeG (a :: ids) v then [(ids ++ [d]).getD (placeG (a :: ids) v).toNat topV] else []
  | [], a, d, v, _ => by
    show nxE [(a, d)] v = _
    rw [nxE_cons]
    by_cases c : a = v
    · simp [c, placeG, nxE]
    · simp [c, placeG, nxE]
  | x :: r, a, d, v, h => by
    obtain ⟨h1, h2⟩ := List.nodup_cons.1 h
    show nxE ((a, x) :: edP x r d) v = _
    rw [nxE_cons, nxE_edP h2]
    by_cases c : a = v
    · subst c
      have hp := placeG_none h1
      rw [if_pos rfl, hp, if_neg (by decide)]
      simp [placeG]
    · rw [if_neg c, List.nil_append]
      have e : placeG (a :: x :: r) v = if placeG (x :: r) v < 0 then -1 else placeG (x :: r) v + 1 := by
        rw [placeG.eq_2, if_neg c]
      rw [e]
      by_cases n : placeG (x :: r) v < 0
      · rw [if_neg (by omega), if_pos n, if_neg (by decide)]
      · rw [if_neg n, if_pos (by omega), if_pos (by omega), show (placeG (x :: r) v + 1).toNat = (placeG (x :: r) v).toNat + 1 by omega]
        rfl
theorem st_edP {a : Ad} (hne : a.ids ≠ []) (hnd : a.ids.Nodup) (hup : a.up ∉ a.ids) (v : Vx) : st1 a v ++ (st2 a v ++ st3 a v) = nxE (edP a.up a.ids a.down) v := by
  rw [nxE_edP (List.nodup_cons.2 ⟨hup, hnd⟩)]
  by_cases c : a.up = v
  · have hp := placeG_none (show v ∉ a.ids by rw [← c]; exact hup)
    have hp2 : placeG (a.up :: a.ids) v = 0 := by rw [placeG, if_pos c]
    unfold st1 st2 st3
    rw [hp, hp2, if_pos c, if_neg (by simp), if_neg (by simp), if_pos (by decide)]
    cases hq : a.ids with
    | nil => exact absurd hq hne
    | cons x y => rfl
  · have e : placeG (a.up :: a.ids) v = if placeG a.ids v < 0 then -1 else placeG a.ids v + 1 := by rw [placeG.eq_2, if_neg c]
    have hr := placeG_range a.ids v
    unfold st1 st2 st3
    rw [e, if_neg c]
    by_cases n : placeG a.ids v < 0
    · have n2 : ¬ 0 ≤ placeG a.ids v := by omega
      simp [n, n2]
    · have n2 : 0 ≤ placeG a.ids v := by omega
      rw [if_neg n, if_pos (show 0 ≤ placeG a.ids v + 1 by omega)]
      by_cases m : placeG a.ids v + 1 < a.ids.length
      · have m2 : ¬ placeG a.ids v + 1 = a.ids.length := by omega
        rw [if_pos (by simp [n2, m]), if_neg (by simp [m2])]
        simp only [List.nil_append, List.append_nil]
        rw [List.getD_eq_getElem?_getD, List.getD_eq_getElem?_getD, List.getElem?_append_left (by omega)]
      · have m2 : placeG a.ids v + 1 = a.ids.length := by omega
        rw [if_neg (by simp [m]), if_pos (by simp [n2, m2])]
        simp only [List.nil_append]
        rw [List.getD_eq_getElem?_getD, List.getElem?_append_right (by omega), m2]
        simp
theorem Ok.idsOf {r : Rg} (h : Ok r) {a : Ad} (ha : a ∈ r.L) : a.ids.Nodup := by
  have := h.nd
  obtain ⟨s, t, e⟩ := List.append_of_mem ha
  unfold idsG at this
  rw [e, List.flatMap_append, List.flatMap_cons] at this
  exact (List.nodup_append.1 (List.nodup_append.1 this).2.1).1
theorem Ok.upOf {r : Rg} (h : Ok r) {a : Ad} (ha : a ∈ r.L) : a.up ∉ a.ids := fun c => h.acy a.up ((h.chain ha).1 _ c).1
theorem Ok.steps {r : Rg} (h : Ok r) (v : Vx) : stepsG r v = nxE (Er r) v := by
  unfold stepsG Er
  rw [nxE_cons]
  have h0 : st0 v = if topV = v then [botV] else [] := by
    unfold st0
    by_cases c : v = topV
    · rw [if_pos c, if_pos c.symm]
    · rw [if_neg c, if_neg fun e => c e.symm]
  rw [h0]
  congr 1
  have key : ∀ l : List Ad, (∀ a ∈ l, a ∈ r.L) → (l.flatMap fun a => st1 a v ++ (st2 a v ++ st3 a v)) = nxE (l.flatMap fun a => edP a.up a.ids a.down) v := fun l => by
    induction l with
    | nil => intro _; rfl
    | cons a l ih =>
      intro hl
      have ha := hl a (by simp)
      rw [List.flatMap_cons, List.flatMap_cons, nxE_app, ih fun b hb => hl b (List.mem_cons_of_mem _ hb), st_edP (h.ne a ha).1 (h.idsOf ha) (h.upOf ha)]
  exact key r.L fun a ha => ha
theorem Ok.rchS {r : Rg} (h : Ok r) {a b : Vx} : Rch (stepsG r) a b ↔ Rch (nxE (Er r)) a b := Rch.congr fun v w => by rw [h.steps]
theorem hasG_iff {r : Rg} {v : Vx} : hasG r v = true ↔ v = topV ∨ v = botV ∨ v ∈ idsG r.L := by
  unfold hasG
  rw [Bool.or_eq_true, decide_eq_true_eq, endsB_true, or_assoc]
theorem Ok.ahead {r : Rg} (h : Ok r) (a b : Vx) : aheadG r a b = true ↔ Rch (nxE (Er r)) a b := by
  unfold aheadG
  rw [Bool.and_eq_true, decide_eq_true_eq, behind_mem (fun a ha => (h.ne a ha).1), h.rchS]
  refine ⟨fun e => e.2, fun e => ⟨hasG_iff.2 ?_, e⟩⟩
  rcases h.rch_first e with f | f
  · exact .inl f
  · exact .inr (.inr f)
theorem Ok.hasR {r : Rg} (h : Ok r) {a b : Vx} (hr : Rch (nxE (Er r)) a b) : hasG r a = true ∧ hasG r b = true := by
  refine ⟨hasG_iff.2 ?_, hasG_iff.2 ?_⟩
  · rcases h.rch_first hr with f | f
    · exact .inl f
    · exact .inr (.inr f)
  · rcases h.rch_last hr with f | f
    · exact .inr (.inl f)
    · exact .inr (.inr f)
theorem ids_cnt : ∀ {l : List Ad}, (∀ a ∈ l, a.ids ≠ []) → l.length ≤ (idsG l).length ∧ (l.flatMap fun a => edP a.up a.ids a.down).length ≤ 2 * (idsG l).length
  | [], _ => ⟨Nat.le_refl _, Nat.le_refl _⟩
  | a :: l, h => by
    obtain ⟨h1, h2⟩ := ids_cnt (l := l) fun b hb => h b (List.mem_cons_of_mem _ hb)
    have hp := List.length_pos_iff.2 (h a (by simp))
    have he : ∀ (ids : List Vx) (u d : Vx), (edP u ids d).length = ids.length + 1 := fun ids => by
      induction ids with
      | nil => intro u d; rfl
      | cons x y ih => intro u d; show (edP x y d).length + 1 = _; rw [ih]; rfl
    unfold idsG at h1 h2 ⊢
    rw [List.flatMap_cons, List.flatMap_cons, List.length_append, List.length_append, List.length_cons, he]
    omega
theorem Ok.sizes {r : Rg} (h : Ok r) : r.L.length ≤ 512 ∧ (Er r).length ≤ 1025 := by
  have h1 := ids_cnt fun a ha => (h.ne a ha).1
  have h2 := h.len
  unfold Er
  rw [List.length_cons]
  omega
theorem Rel.sz {m : At} {q : Ps} {n : Int} {r : Rg} (h : Rel m q n r) (ho : Ok r) : Sz m 1025 := fun v => by
  rw [h.next, h.prev]
  unfold nxE pvE
  rw [List.length_map, List.length_map]
  have h1 := ho.sizes.2
  exact ⟨Nat.le_trans (List.length_filter_le _ _) h1, Nat.le_trans (List.length_filter_le _ _) h1⟩
theorem Rel.mlen {m : At} {q : Ps} {n : Int} {r : Rg} (h : Rel m q n r) : m.length = (idsG r.L).length + 2 := by
  have := h.keys.length_eq
  rw [List.length_map] at this
  exact this
theorem mem_look {κ α : Type} [DecidableEq κ] : ∀ {m : List (κ × α)} {v : κ} {x : α}, (m.map (·.1)).Nodup → (v, x) ∈ m → lookA m v = some x
  | p :: r, v, x, hn, h => by
    rw [List.map_cons, List.nodup_cons] at hn
    rw [lookA]
    rcases List.mem_cons.1 h with e | e
    · rw [← e, if_pos rfl]
    · rw [if_neg (fun c => hn.1 (by rw [c]; exact List.mem_map.2 ⟨_, e, rfl⟩)), mem_look hn.2 e]
theorem Ok.keysNd {r : Rg} (h : Ok r) : (topV :: botV :: idsG r.L).Nodup := by
  rw [List.nodup_cons, List.nodup_cons, List.mem_cons, not_or]
  exact ⟨⟨top_bot, h.top⟩, h.bot, h.nd⟩
theorem Rel.knd {m : At} {q : Ps} {n : Int} {r : Rg} (h : Rel m q n r) (ho : Ok r) : (m.map (·.1)).Nodup := h.keys.nodup_iff.2 ho.keysNd
theorem Rel.alln {m : At} {q : Ps} {n : Int} {r : Rg} (h : Rel m q n r) (ho : Ok r) : (allN m).length < 900000 := by
  have hz := h.sz ho
  have hl := h.mlen
  have h5 := ho.len
  have key : ∀ l : At, (∀ p ∈ l, p.2.next.length ≤ 1025) → (l.flatMap fun p => p.2.next).length ≤ 1025 * l.length := fun l => by
    induction l with
    | nil => intro _; simp
    | cons p l ih =>
      intro hp
      have h1 := ih fun p hq => hp p (List.mem_cons_of_mem _ hq)
      have h2 := hp p (by simp)
      rw [List.flatMap_cons, List.length_append, List.length_cons]
      omega
  have := key m fun p hp => by
    have := (hz p.1).1
    unfold atG at this
    rw [mem_look (h.knd ho) (show (p.1, p.2) ∈ m from hp)] at this
    exact this
  unfold allN
  omega
theorem Rel.nx {m : At} {q : Ps} {n : Int} {r : Rg} (h : Rel m q n r) : nx m = nxE (Er r) := funext h.next
def raddE (r : Rg) (up down : Vx) (ids : List Vx) (ts : List (List UInt8)) : Nat :=
  if (wrongB ids || !decide ((ts.length : Int) = ids.length)) = true then 2 else if ids.any (fun v => decide (v ∈ idsG r.L)) = true then 110 else if (!hasG r up || !hasG r down) = true then 111 else if (!aheadG r up down) = true then 112 else if 512 < (idsG r.L).length + ids.length then 3 else 0
def raddG (r : Rg) (up down : Vx) (ids : List Vx) (ts : List (List UInt8)) : Rg := if raddE r up down ids ts = 0 then ⟨r.L ++ [⟨up, down, ids, ts⟩], r.D⟩ else r
theorem wrongB_false {l : List Vx} (h : wrongB l = false) : l.Nodup ∧ (∀ v ∈ l, endsB v = false) ∧ l ≠ [] := by
  unfold wrongB at h
  simp only [Bool.or_eq_false_iff, Bool.not_eq_false', decide_eq_true_eq, decide_eq_false_iff_not, List.any_eq_false, Bool.not_eq_true] at h
  exact ⟨h.1.1, h.1.2, fun e => h.2 (by rw [e]; rfl)⟩
theorem Rel.addE {m : At} {q : Ps} {n : Int} {r : Rg} (h : Rel m q n r) (up down : Vx) (ids : List Vx) (ts : List (List UInt8)) : addE m up down ids ts (aheadG r up down) = raddE r up down ids ts := by
  unfold Go.Proofs.YtolpkeajokjbjaaDoor.addE raddE
  by_cases c : (wrongB ids || !decide ((ts.length : Int) = ids.length)) = true
  · rw [if_pos c, if_pos c]
  · rw [if_neg c, if_neg c, h.has, h.has, h.mlen]
    have hw : wrongB ids = false := by
      cases hq : wrongB ids with
      | false => rfl
      | true => rw [hq] at c; simp at c
    have hen := (wrongB_false hw).2.1
    have ha : (ids.any fun v => (lookA m v).isSome) = ids.any fun v => decide (v ∈ idsG r.L) := by
      rw [Bool.eq_iff_iff, List.any_eq_true, List.any_eq_true]
      refine exists_congr fun v => and_congr_right fun hv => ?_
      rw [h.has, hasG, hen v hv, Bool.false_or]
    rw [ha]
    have : (512 < (((idsG r.L).length + 2 : Nat) : Int) - 2 + ids.length) ↔ 512 < (idsG r.L).length + ids.length := by omega
    simp only [this]
theorem raddE_zero {r : Rg} {up down : Vx} {ids : List Vx} {ts : List (List UInt8)} (h : raddE r up down ids ts = 0) : wrongB ids = false ∧ ts.length = ids.length ∧ (∀ v ∈ ids, v ∉ idsG r.L) ∧ hasG r up = true ∧ hasG r down = true ∧ aheadG r up down = true ∧ (idsG r.L).length + ids.length ≤ 512 := by
  unfold raddE at h
  split at h
  · cases h
  · rename_i c1
    split at h
    · cases h
    · rename_i c2
      split at h
      · cases h
      · rename_i c3
        split at h
        · cases h
        · rename_i c4
          split at h
          · cases h
          · rename_i c5
            simp only [Bool.or_eq_true, not_or, Bool.not_eq_true, Bool.not_eq_false', decide_eq_true_eq, List.any_eq_true, not_exists, not_and, Bool.not_eq_true'] at c1 c2 c3 c4
            exact ⟨c1.1, by have := c1.2; simp at this; omega, fun v hv => c2 v hv, by simpa using c3.1, by simpa using c3.2, by simpa using c4, by omega⟩
theorem Ok.radd {r : Rg} (h : Ok r) (up down : Vx) (ids : List Vx) (ts : List (List UInt8)) : Ok (raddG r up down ids ts) := by
  unfold raddG
  split
  · rename_i c
    obtain ⟨h1, h2, h3, h4, h5, h6, h7⟩ := raddE_zero c
    obtain ⟨g1, g2, g3⟩ := wrongB_false h1
    exact h.add (a := ⟨up, down, ids, ts⟩) g3 g1 g2 h2 h3 h4 h5 ((h.ahead _ _).1 h6) h7
  · exact h
theorem text_snoc : ∀ (l : List Ad) (a : Ad) (v : Vx), textG (l ++ [a]) v = if v ∈ idsG l then textG l v else if 0 ≤ placeG a.ids v then a.texts.getD (placeG a.ids v).toNat [] else []
  | [], a, v => by simp [textG, idsG]
  | b :: l, a, v => by
    show (if 0 ≤ placeG b.ids v then _ else textG (l ++ [a]) v) = _
    rw [text_snoc l a v]
    have hm : v ∈ idsG (b :: l) ↔ v ∈ b.ids ∨ v ∈ idsG l := by unfold idsG; rw [List.flatMap_cons, List.mem_append]
    by_cases c : v ∈ b.ids
    · have := placeG_nn c
      rw [if_pos (hm.2 (.inl c)), if_pos this, textG, if_pos this]
    · have : ¬ 0 ≤ placeG b.ids v := by have := placeG_neg.2 c; omega
      rw [if_neg this]
      by_cases d : v ∈ idsG l
      · rw [if_pos d, if_pos (hm.2 (.inr d)), textG, if_neg this]
      · rw [if_neg d, if_neg (fun e => (hm.1 e).elim c d)]
theorem text_none : ∀ {l : List Ad} {v : Vx}, v ∉ idsG l → textG l v = []
  | [], v, _ => rfl
  | a :: l, v, h => by
    have hm : v ∈ idsG (a :: l) ↔ v ∈ a.ids ∨ v ∈ idsG l := by unfold idsG; rw [List.flatMap_cons, List.mem_append]
    have h1 : v ∉ a.ids := fun c => h (hm.2 (.inl c))
    have h2 : v ∉ idsG l := fun c => h (hm.2 (.inr c))
    rw [textG, if_neg (by have := placeG_neg.2 h1; omega), text_none h2]
theorem nxE_nil {E : Ed} {v : Vx} (h : ∀ w, (v, w) ∉ E) : nxE E v = [] := List.eq_nil_iff_forall_not_mem.2 fun w hw => h w (nxE_mem.1 hw)
theorem pvE_nil {E : Ed} {v : Vx} (h : ∀ w, (w, v) ∉ E) : pvE E v = [] := List.eq_nil_iff_forall_not_mem.2 fun w hw => h w (pvE_mem.1 hw)
theorem Rel.add {m : At} {q : Ps} {n : Int} {r : Rg} (h : Rel m q n r) (ho : Ok r) (hn0 : 0 ≤ n) {up down : Vx} {ids : List Vx} {ts : List (List UInt8)} (he : raddE r up down ids ts = 0) : Rel (addM m (n + 1) up down ids ts) (setA q (n + 1) ⟨up, down, ids⟩) (n + 1) (raddG r up down ids ts) := by
  obtain ⟨h1, h2, h3, h4, h5, h6, h7⟩ := raddE_zero he
  obtain ⟨g1, g2, g3⟩ := wrongB_false h1
  unfold raddG
  rw [if_pos he]
  have hfresh : ∀ v ∈ ids, v ∉ m.map (·.1) := fun v hv c => by
    have c := h.keys.mem_iff.1 c
    rw [List.mem_cons, List.mem_cons] at c
    have := endsB_iff.1 (g2 v hv)
    rcases c with e | e | e
    · exact this.1 e
    · exact this.2 e
    · exact h3 v hv e
  have hlk := lay_keys (n + 1) h2.symm g1 hfresh
  have hkeys : ∀ v, hasG r v = true → v ∈ m.map (·.1) := fun v hv => by
    rw [← look_keys, h.has]; exact hv
  have hEr : Er ⟨r.L ++ [⟨up, down, ids, ts⟩], r.D⟩ = Er r ++ edP up ids down := er_snoc r.L r.D r.D _
  have hfk : (addM m (n + 1) up down ids ts).map (·.1) = m.map (·.1) ++ ids := by
    unfold addM
    rw [chain_fold, fold_keys, hlk]
    intro e hm
    rw [hlk]
    obtain ⟨x, y⟩ := e
    constructor
    · rcases edP_fst hm with f | f
      · rw [show (x, y).1 = up from f]; exact List.mem_append_left _ (hkeys _ h4)
      · exact List.mem_append_right _ f
    · rcases edP_snd hm with f | f
      · exact List.mem_append_right _ f
      · rw [show (x, y).2 = down from f]; exact List.mem_append_left _ (hkeys _ h5)
  have hnoE : ∀ v ∈ ids, (∀ w, (v, w) ∉ Er r) ∧ ∀ w, (w, v) ∉ Er r := fun v hv => by
    have he := endsB_iff.1 (g2 v hv)
    exact ⟨fun w c => (ho.fst c).elim he.1 (h3 v hv), fun w c => (ho.snd c).elim he.2 (h3 v hv)⟩
  have hat : ∀ v, (atG (addM m (n + 1) up down ids ts) v).next = (atG (layA m (n + 1) ids ts) v).next ++ nxE (edP up ids down) v ∧ (atG (addM m (n + 1) up down ids ts) v).prev = (atG (layA m (n + 1) ids ts) v).prev ++ pvE (edP up ids down) v := fun v => by
    unfold addM
    rw [chain_fold]
    exact ⟨fold_next _ _ v, fold_prev _ _ v⟩
  have hrest : ∀ v, (atG (addM m (n + 1) up down ids ts) v).text = (atG (layA m (n + 1) ids ts) v).text ∧ (atG (addM m (n + 1) up down ids ts) v).kills = (atG (layA m (n + 1) ids ts) v).kills ∧ (atG (addM m (n + 1) up down ids ts) v).part = (atG (layA m (n + 1) ids ts) v).part := fun v => by
    unfold addM
    rw [chain_fold]
    exact fold_rest _ _ v
  have hk0 : ∀ v ∈ ids, killsOf r.D v = [] := fun v hv => by
    unfold killsOf
    rw [List.filter_eq_nil_iff.2 fun d hd => by
      have := ho.dv d hd
      simp only [decide_eq_true_eq]
      intro e
      exact h3 v hv (e ▸ this)]
    rfl
  obtain ⟨z, z1, z2, z3, z4, z5⟩ := h.parts
  refine ⟨?_, fun v => ?_, fun v => ?_, fun v => ?_, fun v => ?_, z ++ [(n + 1, ⟨up, down, ids, ts⟩)], ?_, ?_, ?_, fun p hp => ?_, fun p hp v hv => ?_⟩
  · rw [hfk]
    show List.Perm _ (topV :: botV :: idsG (r.L ++ [_]))
    rw [ids_snoc]; exact h.keys.append_right ids
  · rw [(hat v).1, hEr, nxE_app]
    by_cases c : v ∈ ids
    · rw [lay_new (n + 1) h2.symm g1 c, nxE_nil (hnoE v c).1]
    · rw [lay_old (n + 1) c, h.next]
  · rw [(hat v).2, hEr, pvE_app]
    by_cases c : v ∈ ids
    · rw [lay_new (n + 1) h2.symm g1 c, pvE_nil (hnoE v c).2]
    · rw [lay_old (n + 1) c, h.prev]
  · rw [(hrest v).1]
    show _ = textG (r.L ++ [_]) v
    rw [text_snoc]
    by_cases c : v ∈ ids
    · rw [lay_new (n + 1) h2.symm g1 c, if_neg (h3 v c), if_pos (show 0 ≤ placeG ids v from placeG_nn c)]
    · rw [lay_old (n + 1) c, h.text]
      split
      · rfl
      · rename_i d
        rw [if_neg (by have := placeG_neg.2 c; show ¬ 0 ≤ placeG ids v; omega), text_none d]
  · rw [(hrest v).2.1]
    by_cases c : v ∈ ids
    · rw [lay_new (n + 1) h2.symm g1 c, hk0 v c]
    · rw [lay_old (n + 1) c, h.kills]
  · rw [List.map_append, ← z1]; rfl
  · rw [set_new, List.map_append]
    · exact z2.append_right _
    intro c
    have c := (z2.map (·.1)).mem_iff.1 c
    rw [List.map_map] at c
    obtain ⟨p, hp, e⟩ := List.mem_map.1 c
    have := (z4 p hp).2
    have e : p.1 = n + 1 := e
    omega
  · rw [List.map_append, List.map_cons, List.map_nil]
    refine nodup_snoc.2 ⟨z3, fun c => ?_⟩
    obtain ⟨p, hp, e⟩ := List.mem_map.1 c
    have := (z4 p hp).2
    have e : p.1 = n + 1 := e
    omega
  · rcases List.mem_append.1 hp with e | e
    · have := z4 p e; omega
    · rw [List.mem_singleton.1 e]
      show 0 < n + 1 ∧ n + 1 ≤ n + 1
      omega
  · rw [(hrest v).2.2]
    rcases List.mem_append.1 hp with e | e
    · have hvm : v ∈ idsG r.L := ids_mem.2 ⟨p.2, by rw [z1]; exact List.mem_map.2 ⟨p, e, rfl⟩, hv⟩
      rw [lay_old (n + 1) fun c => h3 v c hvm, z5 p e v hv]
    · rw [List.mem_singleton.1 e] at hv ⊢
      rw [lay_new (n + 1) h2.symm g1 hv]
end Go.Proofs.YtolpkeajokjbjaaDoor
namespace Go.Proofs.YtolpkeajokjbjaaDoor
open Go.RowKit Go.L Go.Lib
attribute [local irreducible] LL LW LO
theorem slicedV (b off l h m sz : Nat) : sliced ((some b).map fun b => (⟨b, off, none⟩ : Addr)) l h m sz = .slice (some ⟨b, if m = l then off else off + l * sz, none⟩) (h - l) (m - l) := by
  unfold sliced
  by_cases e : m = l
  · rw [if_pos e, if_pos e]; rfl
  · rw [if_neg e, if_neg e]; simp [add_lit]
theorem del_src {size : Nat} {es : List (List LV)} {A : Option Nat} {off n c i : Nat} {xs : List LV} (h : OwnS size es A off n c xs) (hi : i < n) : (if c = i + 1 then off else off + (i + 1) * size) + (n - (i + 1)) * size ≤ xs.length ∧ (es.drop (i + 1)).flatten = (xs.drop (if c = i + 1 then off else off + (i + 1) * size)).take ((n - (i + 1)) * size) := by
  have hcnt := h.cnt
  have hle := h.le
  have hlen := h.len
  have hs3 : n * size ≤ c * size := Nat.mul_le_mul_right _ hle
  by_cases e : c = i + 1
  · rw [if_pos e, show n - (i + 1) = 0 by omega, List.drop_of_length_le (by omega)]
    exact ⟨by omega, by simp⟩
  · have hs : n * size = (i + 1) * size + (n - (i + 1)) * size := by rw [← Nat.add_mul, show i + 1 + (n - (i + 1)) = n by omega]
    rw [if_neg e]
    refine ⟨by omega, ?_⟩
    have hf1 : (es.take (i + 1)).flatten.length = (i + 1) * size := by
      rw [flat_len fun e he => h.sz e (List.mem_of_mem_take he), List.length_take, Nat.min_eq_left (by omega)]
    have h2 := congrArg (List.drop ((i + 1) * size)) h.cells
    rw [List.drop_take, List.drop_drop, hs, Nat.add_sub_cancel_left] at h2
    rw [h2]
    conv => rhs; rw [← List.take_append_drop (i + 1) es, List.flatten_append]
    rw [List.drop_left' hf1]
theorem vxs_erase (es : List Vx) (i : Nat) : vxs (es.eraseIdx i) = (vxs es).eraseIdx i := by
  rw [List.eraseIdx_eq_take_drop_succ, List.eraseIdx_eq_take_drop_succ, ← vxs_app]
  show List.map vxL (es.take i) ++ List.map vxL (es.drop (i + 1)) = _
  rw [List.map_take, List.map_drop]
set_option maxHeartbeats 2000000 in
set_option maxRecDepth 100000 in
theorem delete_calls (es : List Vx) (b off n c i : Nat) (te : TypeId) (xs : List LV) (ow : OwnS 33 (vxs es) (some b) off n c xs) (hi : i < n) (hn : n < 1000000) : LCalls Tryd.prog 57 [ownV (some b) off n c, i64 (i : Nat), i64 ((i + 1 : Nat) : Int)] [.cells b te xs] (fun r H' => r = ownV (some b) off (n - 1) c ∧ ∃ xs', H' = [.cells b te xs'] ∧ OwnS 33 (vxs (es.eraseIdx i)) (some b) off (n - 1) c xs') := by
  have hle := ow.le
  have hlen := ow.len
  have hs3 : n * 33 ≤ c * 33 := Nat.mul_le_mul_right _ hle
  obtain ⟨hsr1, hsr2⟩ := del_src ow hi
  rw [← List.map_drop] at hsr2
  have hcnt : es.length = n := by have := ow.cnt; rwa [List.length_map] at this
  have hsr3 : (vxs (es.drop (i + 1))).length = n - (i + 1) := by rw [List.length_map, List.length_drop, hcnt]
  have hsr4 : off + i * 33 + (n - (i + 1)) * 33 ≤ xs.length := by omega
  have hfl : (vxs (es.drop (i + 1))).flatten.length = (n - (i + 1)) * 33 := by rw [flat_len (vxs_size _), hsr3]
  have her := ow.erase (zs := raws z35.cells.toList) hi rfl
  rw [← List.map_drop, ← vxs_erase] at her
  refine LCalls.of Tryd.func57 rfl Tryd.ntmps57 Tryd.results57 rfl (fun Rf => ?_)
  refine LW.seq ?_
  refine LW.region ?_
  refine X.u (LU.assign (Is.nil 33)) rfl ?_
  refine LL.nil (after_code ?_)
  refine LW.seq ?_
  refine LW.region ?_
  refine X.u (LU.moveR Is.rfl') rfl ?_
  refine X.u (LU.moveR Is.rfl') rfl ?_
  refine X.u (LU.moveR Is.rfl') rfl ?_
  refine X.u (LU.moveR Is.rfl') rfl ?_
  refine X.u (LU.lenO Tryd.underlying26 Is.rfl') rfl ?_
  refine X.u (LU.sliceR3 Tryd.sizeOf35 Tryd.underlying26 Is.rfl' Is.rfl' Is.rfl' Is.rfl' (by omega) (by omega) (by omega) (by omega)) rfl ?_
  refine LL.nil (after_code ?_)
  refine LW.seq ?_
  refine LW.seq ?_
  refine LW.region ?_
  refine X.u (LU.moveR Is.rfl') rfl ?_
  refine X.u (LU.moveR Is.rfl') rfl ?_
  refine X.u (LU.weak (LU.eql Is.rfl' Is.rfl') (asB (c := false) rfl (by simp; omega))) rfl ?_
  refine LL.nil (after_code ?_)
  refine X.condF rfl ?_ ?_
  · rfl
  refine LW.skip (after_code ?_)
  refine LW.seq ?_
  refine LW.region ?_
  refine X.u (LU.moveR Is.rfl') rfl ?_
  refine X.u (LU.lenO Tryd.underlying26 Is.rfl') rfl ?_
  refine X.u (LU.assignR Is.rfl') rfl ?_
  refine LL.nil (after_code ?_)
  refine LW.seq ?_
  refine X.drawM 6 rfl (by kernel_rfl) rfl ?_
  refine QD.u (LU.moveR Is.rfl') rfl ?_
  refine QD.u (LU.moveR Is.rfl') rfl ?_
  refine QD.u (LU.weak (LU.sliceR (l := none) (h := some ((i : Nat) : Int)) Tryd.sizeOf35 Tryd.underlying26 Is.rfl' trivial ⟨_, Is.rfl'⟩ (by simp) (by simp) (by simp; omega) (by omega)) (Is.of (y := ownV (some b) off i c) (congrArg LV.raw ((slicedV b off _ _ _ _).trans (by simp))))) rfl ?_
  refine QD.u (LU.moveR Is.rfl') rfl ?_
  refine QD.u (LU.moveR Is.rfl') rfl ?_
  refine QD.u (LU.weak (LU.sliceR (l := some ((i + 1 : Nat) : Int)) (h := none) Tryd.sizeOf35 Tryd.underlying26 Is.rfl' ⟨_, Is.rfl'⟩ trivial (by simp; omega) (by simp; omega) (by simp; omega) (by omega)) (Is.of (y := .raw (.slice (some ⟨b, if c = i + 1 then off else off + (i + 1) * 33, none⟩) (n - (i + 1)) (c - (i + 1)))) (congrArg LV.raw ((slicedV b off _ _ _ _).trans (by simp))))) rfl ?_
  refine QD.nil ?_
  refine X.act (LO.appendIn (st := ⟨_, _, _⟩) (ys := vxs (es.drop (i + 1))) (b := b) (off := off) (n := i) (c := c) (off2 := if c = i + 1 then off else off + (i + 1) * 33) (n2 := n - (i + 1)) (c2 := c - (i + 1)) 0 rfl rfl Tryd.underlying26 Tryd.underlying26 (El.of (P := Tryd.prog) (z := z35) (size := 33) (bytes := 40) rfl rfl rfl) Is.rfl' Is.rfl' (vxs_size _) hsr3 hsr1 hsr2 (by omega) (by omega) hsr4 ?_)
  refine X.weak (t := 26) (v := ownV (some b) off (n - 1) c) (Is.of (congrArg (fun n => LV.raw (.slice (some ⟨b, off, none⟩) n c)) (show i + (n - (i + 1)) = n - 1 by omega))) ?_
  refine X.u (LU.assignR Is.rfl') rfl ?_
  refine LL.nil (after_code ?_)
  refine LW.seq ?_
  obtain ⟨Xr, hX⟩ : ∃ Xr, Xr = putAt xs (off + i * 33) (vxs (es.drop (i + 1))).flatten := ⟨_, rfl⟩
  have hXl : Xr.length = xs.length := by rw [hX]; exact putAt_length _ _ _ (by rw [hfl]; omega)
  rw [← hX] at her ⊢
  refine LW.region ?_
  refine X.u (LU.moveR Is.rfl') rfl ?_
  refine X.u (LU.moveR Is.rfl') rfl ?_
  refine X.u (LU.lenO Tryd.underlying26 Is.rfl') rfl ?_
  refine X.u (LU.moveR Is.rfl') rfl ?_
  refine X.u (LU.weak (LU.sliceR (l := some ((n - 1 : Nat) : Int)) (h := some ((n : Nat) : Int)) Tryd.sizeOf35 Tryd.underlying26 Is.rfl' ⟨_, Is.rfl'⟩ ⟨_, Is.rfl'⟩ (by simp) (by simp) (by simp; omega) (by omega)) (Is.of (y := .raw (.slice (some ⟨b, off + (n - 1) * 33, none⟩) 1 (c - (n - 1)))) (congrArg LV.raw ((slicedV b off _ _ _ _).trans (by rw [if_neg (by simp; omega)]; (simp; omega)))))) rfl ?_
  refine X.act (LO.clear1 (st := ⟨_, _, _⟩) 0 rfl Tryd.underlying26 Tryd.zeroValue35 (ones rfl) Is.rfl' (by show off + (n - 1) * 33 + 33 ≤ Xr.length; omega) ?_)
  refine LL.nil (after_code ?_)
  refine LW.seq ?_
  refine LW.region ?_
  refine X.u (LU.moveR Is.rfl') rfl ?_
  refine X.u (LU.assignR Is.rfl') rfl ?_
  refine LL.nil (after_code ?_)
  refine LW.ret (after_end ?_)
  refine X.ret (H' := [.cells b te (putAt Xr (off + (n - 1) * 33) (raws z35.cells.toList))]) (Res.one (by exact IsR rfl)) (by repeat (exact HSub.refl _)) ?_
  exact ⟨rfl, _, rfl, her⟩
end Go.Proofs.YtolpkeajokjbjaaDoor
namespace Go.Proofs.YtolpkeajokjbjaaDoor
open Go.RowKit Go.L Go.Lib
attribute [local irreducible] LL LW LO
theorem own_fresh {size : Nat} {es : List (List LV)} (b : Nat) {c : Nat} {rest : List Value} (hs : ∀ e ∈ es, e.length = size) (hc : es.length ≤ c) (hr : rest.length = (c - es.length) * size) : OwnS size es (some b) 0 es.length c (es.flatten ++ raws rest) := by
  have hf := flat_len hs
  have hm : es.length * size ≤ c * size := Nat.mul_le_mul_right _ hc
  refine ⟨rfl, hc, ?_, ?_, hs, fun h => by cases h⟩
  · have hl : (raws rest).length = rest.length := by simp [raws]
    rw [List.length_append, hf, hl, hr, Nat.zero_add, ← Nat.add_mul]
    rw [show es.length + (c - es.length) = c by omega]
    exact Nat.le_refl _
  · rw [List.drop_zero, ← hf, List.take_left' rfl]
abbrev z36 : Value := Value.agg (Array.replicate 32 (.int .u8 0))
set_option maxHeartbeats 1000000 in
set_option maxRecDepth 100000 in
theorem cloneO_calls (l : List Vx) (k : Cap) (hl : l.length < 1000000) (h0 : 0 < l.length) : LCalls Tryd.prog 36 [Vxs l k] [] (fun r H' => ∃ b c xs, r = ownV (some b) 0 l.length c ∧ H' = [.cells b 35 xs] ∧ OwnS 33 (vxs l) (some b) 0 l.length c xs) := by
  have hls := vxs_size l
  have hlen : (vxs l).length = l.length := List.length_map ..
  refine LCalls.of Tryd.func36 rfl Tryd.ntmps36 Tryd.results36 rfl (fun Rf => ?_)
  refine LW.seq ?_
  refine LW.region ?_
  refine X.u (LU.assign (Is.nil 33)) rfl ?_
  refine LL.nil (after_code ?_)
  refine LW.seq ?_
  refine LW.seq ?_
  refine LW.region ?_
  refine X.u (LU.moveS Is.rfl') rfl ?_
  refine X.act (LO.nilSl (st := ⟨_, _, _⟩) rfl Tryd.underlying26 Is.rfl' Is.rfl' (fun bb hbb => ?_))
  refine LL.nil (after_code ?_)
  refine X.cond rfl (fun h1 => ?_) (fun h1 => ?_)
  · try have h1 := of_decide_eq_true h1
    refine LW.seq ?_
    refine LW.region ?_
    refine X.u (LU.assign (Is.nil 33)) rfl ?_
    refine LL.nil (after_code ?_)
    refine LW.ret (ret_code (after_end ?_))
    refine X.ret (H' := []) (Res.one (by exact IsS rfl)) (by repeat (exact HSub.refl _)) ?_
    exfalso; have hq := congrArg List.length (hbb h1); rw [hlen] at hq; have hq2 : l.length = 0 := hq; omega
  · try have h1 := of_decide_eq_false h1
    refine LW.skip (after_code ?_)
    refine LW.seq ?_
    refine LW.region ?_
    refine X.act (X.litO rfl Tryd.underlying26 Tryd.sizeOf35 Tryd.zeroValue35 (ones rfl) rfl (by decide) (by decide) Elems.nil (by simp) rfl (fun b5 => ?_))
    refine X.u (LU.moveS Is.rfl') rfl ?_
    refine X.act (X.appendO (z := (.agg #[(.int .u8 0), (.int .u8 0), (.int .u8 0), (.int .u8 0), (.int .u8 0), (.int .u8 0), (.int .u8 0), (.int .u8 0), (.int .u8 0), (.int .u8 0), (.int .u8 0), (.int .u8 0), (.int .u8 0), (.int .u8 0), (.int .u8 0), (.int .u8 0), (.int .u8 0), (.int .u8 0), (.int .u8 0), (.int .u8 0), (.int .u8 0), (.int .u8 0), (.int .u8 0), (.int .u8 0), (.int .u8 0), (.int .u8 0), (.int .u8 0), (.int .u8 0), (.int .u8 0), (.int .u8 0), (.int .u8 0), (.int .u8 0), (.int .i64 0)])) 0 rfl rfl Tryd.underlying26 (El.of (P := Tryd.prog) (z := (.agg #[(.int .u8 0), (.int .u8 0), (.int .u8 0), (.int .u8 0), (.int .u8 0), (.int .u8 0), (.int .u8 0), (.int .u8 0), (.int .u8 0), (.int .u8 0), (.int .u8 0), (.int .u8 0), (.int .u8 0), (.int .u8 0), (.int .u8 0), (.int .u8 0), (.int .u8 0), (.int .u8 0), (.int .u8 0), (.int .u8 0), (.int .u8 0), (.int .u8 0), (.int .u8 0), (.int .u8 0), (.int .u8 0), (.int .u8 0), (.int .u8 0), (.int .u8 0), (.int .u8 0), (.int .u8 0), (.int .u8 0), (.int .u8 0), (.int .i64 0)])) (size := 33) (bytes := 40) rfl rfl rfl) (ones rfl) Is.rfl' Is.rfl' (by simp) (SrcL.slice Tryd.underlying26 (by decide) hls) (by simp only [Option.getD_some, Option.getD_none, byteEls_length, intEls_length, List.length_append, List.length_cons, List.length_nil, List.length_map, List.length_drop, List.length_take, Int.toNat_natCast]; omega) (by simp only [Option.getD_some, Option.getD_none, byteEls_length, intEls_length, List.length_append, List.length_cons, List.length_nil, List.length_map, List.length_drop, List.length_take, Int.toNat_natCast]; omega) (fun b7 c7 rest7 hc7 hr7 => ?_))
    refine X.u (LU.assignR Is.rfl') rfl ?_
    refine LL.nil (after_code ?_)
    refine LW.ret (after_end ?_)
    refine X.ret (H' := [.cells b7 35 ((vxs l).flatten ++ raws rest7)]) (Res.one (by exact IsR rfl)) (by repeat (exact HSub.refl _)) ?_
    have hof := own_fresh b7 hls hc7 hr7
    rw [hlen] at hof
    exact ⟨b7, c7, _, by rw [hlen]; rfl, rfl, hof⟩
set_option maxHeartbeats 1000000 in
set_option maxRecDepth 100000 in
theorem cloneOH_calls (l : List Hs) (k : Cap) (hl : l.length < 1000000) (h0 : 0 < l.length) : LCalls Tryd.prog 32 [.sl 32 (hss l) k] [] (fun r H' => ∃ b c xs, r = ownV (some b) 0 l.length c ∧ H' = [.cells b 31 xs] ∧ OwnS 32 (hss l) (some b) 0 l.length c xs) := by
  have hls := hss_size l
  have hlen : (hss l).length = l.length := List.length_map ..
  refine LCalls.of Tryd.func32 rfl Tryd.ntmps32 Tryd.results32 rfl (fun Rf => ?_)
  refine LW.seq ?_
  refine LW.region ?_
  refine X.u (LU.assign (Is.nil 32)) rfl ?_
  refine LL.nil (after_code ?_)
  refine LW.seq ?_
  refine LW.seq ?_
  refine LW.region ?_
  refine X.u (LU.moveS Is.rfl') rfl ?_
  refine X.act (LO.nilSl (st := ⟨_, _, _⟩) rfl Tryd.underlying71 Is.rfl' Is.rfl' (fun bb hbb => ?_))
  refine LL.nil (after_code ?_)
  refine X.cond rfl (fun h1 => ?_) (fun h1 => ?_)
  · try have h1 := of_decide_eq_true h1
    refine LW.seq ?_
    refine LW.region ?_
    refine X.u (LU.assign (Is.nil 32)) rfl ?_
    refine LL.nil (after_code ?_)
    refine LW.ret (ret_code (after_end ?_))
    refine X.ret (H' := []) (Res.one (by exact IsS rfl)) (by repeat (exact HSub.refl _)) ?_
    exfalso; have hq := congrArg List.length (hbb h1); rw [hlen] at hq; have hq2 : l.length = 0 := hq; omega
  · try have h1 := of_decide_eq_false h1
    refine LW.skip (after_code ?_)
    refine LW.seq ?_
    refine LW.region ?_
    refine X.act (X.litO rfl Tryd.underlying71 Tryd.sizeOf31 Tryd.zeroValue31 (ones rfl) rfl (by decide) (by decide) Elems.nil (by simp) rfl (fun b5 => ?_))
    refine X.u (LU.moveS Is.rfl') rfl ?_
    refine X.act (X.appendO (z := (.agg #[(.int .u8 0), (.int .u8 0), (.int .u8 0), (.int .u8 0), (.int .u8 0), (.int .u8 0), (.int .u8 0), (.int .u8 0), (.int .u8 0), (.int .u8 0), (.int .u8 0), (.int .u8 0), (.int .u8 0), (.int .u8 0), (.int .u8 0), (.int .u8 0), (.int .u8 0), (.int .u8 0), (.int .u8 0), (.int .u8 0), (.int .u8 0), (.int .u8 0), (.int .u8 0), (.int .u8 0), (.int .u8 0), (.int .u8 0), (.int .u8 0), (.int .u8 0), (.int .u8 0), (.int .u8 0), (.int .u8 0), (.int .u8 0)])) 0 rfl rfl Tryd.underlying71 (El.of (P := Tryd.prog) (z := (.agg #[(.int .u8 0), (.int .u8 0), (.int .u8 0), (.int .u8 0), (.int .u8 0), (.int .u8 0), (.int .u8 0), (.int .u8 0), (.int .u8 0), (.int .u8 0), (.int .u8 0), (.int .u8 0), (.int .u8 0), (.int .u8 0), (.int .u8 0), (.int .u8 0), (.int .u8 0), (.int .u8 0), (.int .u8 0), (.int .u8 0), (.int .u8 0), (.int .u8 0), (.int .u8 0), (.int .u8 0), (.int .u8 0), (.int .u8 0), (.int .u8 0), (.int .u8 0), (.int .u8 0), (.int .u8 0), (.int .u8 0), (.int .u8 0)])) (size := 32) (bytes := 32) rfl rfl rfl) (ones rfl) Is.rfl' Is.rfl' (by simp) (SrcL.slice Tryd.underlying71 (by decide) hls) (by simp only [Option.getD_some, Option.getD_none, byteEls_length, intEls_length, List.length_append, List.length_cons, List.length_nil, List.length_map, List.length_drop, List.length_take, Int.toNat_natCast]; omega) (by simp only [Option.getD_some, Option.getD_none, byteEls_length, intEls_length, List.length_append, List.length_cons, List.length_nil, List.length_map, List.length_drop, List.length_take, Int.toNat_natCast]; omega) (fun b7 c7 rest7 hc7 hr7 => ?_))
    refine X.u (LU.assignR Is.rfl') rfl ?_
    refine LL.nil (after_code ?_)
    refine LW.ret (after_end ?_)
    refine X.ret (H' := [.cells b7 31 ((hss l).flatten ++ raws rest7)]) (Res.one (by exact IsR rfl)) (by repeat (exact HSub.refl _)) ?_
    have hof := own_fresh b7 hls hc7 hr7
    rw [hlen] at hof
    exact ⟨b7, c7, _, by rw [hlen]; rfl, rfl, hof⟩
theorem hss_erase (es : List Hs) (i : Nat) : hss (es.eraseIdx i) = (hss es).eraseIdx i := by
  rw [List.eraseIdx_eq_take_drop_succ, List.eraseIdx_eq_take_drop_succ, ← hss_app]
  show List.map hsL (es.take i) ++ List.map hsL (es.drop (i + 1)) = _
  rw [List.map_take, List.map_drop]
set_option maxHeartbeats 2000000 in
set_option maxRecDepth 100000 in
theorem deleteH_calls (es : List Hs) (b off n c i : Nat) (te : TypeId) (xs : List LV) (ow : OwnS 32 (hss es) (some b) off n c xs) (hi : i < n) (hn : n < 1000000) : LCalls Tryd.prog 43 [ownV (some b) off n c, i64 (i : Nat), i64 ((i + 1 : Nat) : Int)] [.cells b te xs] (fun r H' => r = ownV (some b) off (n - 1) c ∧ ∃ xs', H' = [.cells b te xs'] ∧ OwnS 32 (hss (es.eraseIdx i)) (some b) off (n - 1) c xs') := by
  have hle := ow.le
  have hlen := ow.len
  have hs3 : n * 32 ≤ c * 32 := Nat.mul_le_mul_right _ hle
  obtain ⟨hsr1, hsr2⟩ := del_src ow hi
  rw [← List.map_drop] at hsr2
  have hcnt : es.length = n := by have := ow.cnt; rwa [List.length_map] at this
  have hsr3 : (hss (es.drop (i + 1))).length = n - (i + 1) := by rw [List.length_map, List.length_drop, hcnt]
  have hsr4 : off + i * 32 + (n - (i + 1)) * 32 ≤ xs.length := by omega
  have hfl : (hss (es.drop (i + 1))).flatten.length = (n - (i + 1)) * 32 := by rw [flat_len (hss_size _), hsr3]
  have her := ow.erase (zs := raws z36.cells.toList) hi rfl
  rw [← List.map_drop, ← hss_erase] at her
  refine LCalls.of Tryd.func43 rfl Tryd.ntmps43 Tryd.results43 rfl (fun Rf => ?_)
  refine LW.seq ?_
  refine LW.region ?_
  refine X.u (LU.assign (Is.nil 32)) rfl ?_
  refine LL.nil (after_code ?_)
  refine LW.seq ?_
  refine LW.region ?_
  refine X.u (LU.moveR Is.rfl') rfl ?_
  refine X.u (LU.moveR Is.rfl') rfl ?_
  refine X.u (LU.moveR Is.rfl') rfl ?_
  refine X.u (LU.moveR Is.rfl') rfl ?_
  refine X.u (LU.lenO Tryd.underlying71 Is.rfl') rfl ?_
  refine X.u (LU.sliceR3 Tryd.sizeOf31 Tryd.underlying71 Is.rfl' Is.rfl' Is.rfl' Is.rfl' (by omega) (by omega) (by omega) (by omega)) rfl ?_
  refine LL.nil (after_code ?_)
  refine LW.seq ?_
  refine LW.seq ?_
  refine LW.region ?_
  refine X.u (LU.moveR Is.rfl') rfl ?_
  refine X.u (LU.moveR Is.rfl') rfl ?_
  refine X.u (LU.weak (LU.eql Is.rfl' Is.rfl') (asB (c := false) rfl (by simp; omega))) rfl ?_
  refine LL.nil (after_code ?_)
  refine X.condF rfl ?_ ?_
  · rfl
  refine LW.skip (after_code ?_)
  refine LW.seq ?_
  refine LW.region ?_
  refine X.u (LU.moveR Is.rfl') rfl ?_
  refine X.u (LU.lenO Tryd.underlying71 Is.rfl') rfl ?_
  refine X.u (LU.assignR Is.rfl') rfl ?_
  refine LL.nil (after_code ?_)
  refine LW.seq ?_
  refine X.drawM 6 rfl (by kernel_rfl) rfl ?_
  refine QD.u (LU.moveR Is.rfl') rfl ?_
  refine QD.u (LU.moveR Is.rfl') rfl ?_
  refine QD.u (LU.weak (LU.sliceR (l := none) (h := some ((i : Nat) : Int)) Tryd.sizeOf31 Tryd.underlying71 Is.rfl' trivial ⟨_, Is.rfl'⟩ (by simp) (by simp) (by simp; omega) (by omega)) (Is.of (y := ownV (some b) off i c) (congrArg LV.raw ((slicedV b off _ _ _ _).trans (by simp))))) rfl ?_
  refine QD.u (LU.moveR Is.rfl') rfl ?_
  refine QD.u (LU.moveR Is.rfl') rfl ?_
  refine QD.u (LU.weak (LU.sliceR (l := some ((i + 1 : Nat) : Int)) (h := none) Tryd.sizeOf31 Tryd.underlying71 Is.rfl' ⟨_, Is.rfl'⟩ trivial (by simp; omega) (by simp; omega) (by simp; omega) (by omega)) (Is.of (y := .raw (.slice (some ⟨b, if c = i + 1 then off else off + (i + 1) * 32, none⟩) (n - (i + 1)) (c - (i + 1)))) (congrArg LV.raw ((slicedV b off _ _ _ _).trans (by simp))))) rfl ?_
  refine QD.nil ?_
  refine X.act (LO.appendIn (st := ⟨_, _, _⟩) (ys := hss (es.drop (i + 1))) (b := b) (off := off) (n := i) (c := c) (off2 := if c = i + 1 then off else off + (i + 1) * 32) (n2 := n - (i + 1)) (c2 := c - (i + 1)) 0 rfl rfl Tryd.underlying71 Tryd.underlying71 (El.of (P := Tryd.prog) (z := z36) (size := 32) (bytes := 32) rfl rfl rfl) Is.rfl' Is.rfl' (hss_size _) hsr3 hsr1 hsr2 (by omega) (by omega) hsr4 ?_)
  refine X.weak (t := 26) (v := ownV (some b) off (n - 1) c) (Is.of (congrArg (fun n => LV.raw (.slice (some ⟨b, off, none⟩) n c)) (show i + (n - (i + 1)) = n - 1 by omega))) ?_
  refine X.u (LU.assignR Is.rfl') rfl ?_
  refine LL.nil (after_code ?_)
  refine LW.seq ?_
  obtain ⟨Xr, hX⟩ : ∃ Xr, Xr = putAt xs (off + i * 32) (hss (es.drop (i + 1))).flatten := ⟨_, rfl⟩
  have hXl : Xr.length = xs.length := by rw [hX]; exact putAt_length _ _ _ (by rw [hfl]; omega)
  rw [← hX] at her ⊢
  refine LW.region ?_
  refine X.u (LU.moveR Is.rfl') rfl ?_
  refine X.u (LU.moveR Is.rfl') rfl ?_
  refine X.u (LU.lenO Tryd.underlying71 Is.rfl') rfl ?_
  refine X.u (LU.moveR Is.rfl') rfl ?_
  refine X.u (LU.weak (LU.sliceR (l := some ((n - 1 : Nat) : Int)) (h := some ((n : Nat) : Int)) Tryd.sizeOf31 Tryd.underlying71 Is.rfl' ⟨_, Is.rfl'⟩ ⟨_, Is.rfl'⟩ (by simp) (by simp) (by simp; omega) (by omega)) (Is.of (y := .raw (.slice (some ⟨b, off + (n - 1) * 32, none⟩) 1 (c - (n - 1)))) (congrArg LV.raw ((slicedV b off _ _ _ _).trans (by rw [if_neg (by simp; omega)]; (simp; omega)))))) rfl ?_
  refine X.act (LO.clear1 (st := ⟨_, _, _⟩) 0 rfl Tryd.underlying71 Tryd.zeroValue31 (ones rfl) Is.rfl' (by show off + (n - 1) * 32 + 32 ≤ Xr.length; omega) ?_)
  refine LL.nil (after_code ?_)
  refine LW.seq ?_
  refine LW.region ?_
  refine X.u (LU.moveR Is.rfl') rfl ?_
  refine X.u (LU.assignR Is.rfl') rfl ?_
  refine LL.nil (after_code ?_)
  refine LW.ret (after_end ?_)
  refine X.ret (H' := [.cells b te (putAt Xr (off + (n - 1) * 32) (raws z36.cells.toList))]) (Res.one (by exact IsR rfl)) (by repeat (exact HSub.refl _)) ?_
  exact ⟨rfl, _, rfl, her⟩
end Go.Proofs.YtolpkeajokjbjaaDoor
namespace Go.Proofs.YtolpkeajokjbjaaDoor
open Go.RowKit Go.L Go.Lib
attribute [local irreducible] LL LW LO LP LA
def cutN (x : Ln) (b : Vx) : Ln := { x with next := x.next.eraseIdx (placeG x.next b).toNat }
def cutP (y : Ln) (a : Vx) : Ln := { y with prev := y.prev.eraseIdx (placeG y.prev a).toNat }
def unN (m : At) (a b : Vx) : At := if 0 ≤ placeG (atG m a).next b then setA m a (cutN (atG m a) b) else m
def unP (m : At) (a b : Vx) : At := if 0 ≤ placeG (atG m b).prev a then setA m b (cutP (atG m b) a) else m
def unstepA (m : At) (a b : Vx) : At := unP (unN m a b) a b
theorem unN_len (m : At) (a b v : Vx) {k : Nat} (h : Sz m k) : (atG (unN m a b) v).next.length ≤ k ∧ (atG (unN m a b) v).prev.length ≤ k := by
  unfold unN
  split
  · rw [atG_set]
    split
    · rename_i e
      subst e
      refine ⟨?_, (h a).2⟩
      exact Nat.le_trans (List.length_eraseIdx_le _ _) (h a).1
    · exact h v
  · exact h v
set_option maxHeartbeats 2000000 in
set_option maxRecDepth 100000 in
theorem unstep_calls (g ma mb : Nat) (n : Int) (m : At) (a b : Vx) (k : Nat) (hz : Sz m k) (hk : k < 900000) : LCalls Tryd.prog 41 [pt g, .agg (vxL a), .agg (vxL b)] [gC g ma mb n, gA ma m] (fun r H' => r = .tup [] ∧ H' = [gC g ma mb n, gA ma (unstepA m a b)]) := by
  have hal := vxL_len a
  have hbl := vxL_len b
  have ha32 : a.p.1.length = 32 := a.p.2
  have hb32 : b.p.1.length = 32 := b.p.2
  obtain ⟨x, hx⟩ : ∃ x, x = atG m a := ⟨_, rfl⟩
  have hxn := (hz a).1
  rw [← hx] at hxn
  obtain ⟨m1, hm1⟩ : ∃ m1, m1 = unN m a b := ⟨_, rfl⟩
  obtain ⟨y, hy⟩ : ∃ y, y = atG m1 b := ⟨_, rfl⟩
  have hyn : y.prev.length ≤ k := by rw [hy, hm1]; exact (unN_len m a b b hz).2
  have hm1b : m1 = if 0 ≤ placeG x.next b then setA m a (cutN x b) else m := by rw [hm1, unN, hx]
  obtain ⟨m2, hm2⟩ : ∃ m2, m2 = unstepA m a b := ⟨_, rfl⟩
  have hm2b : m2 = if 0 ≤ placeG y.prev a then setA m1 b (cutP y a) else m1 := by rw [hm2, unstepA, ← hm1, unP, hy]
  rw [← hm2]
  have hxi : Is ((lookM (encM lnE m) a).getD (.raw z73)) (lnE x) := by rw [hx]; exact at_is m a
  have hyi : Is ((lookM (encM lnE m1) b).getD (.raw z73)) (lnE y) := by rw [hy]; exact at_is m1 b
  refine LCalls.of Tryd.func41 rfl Tryd.ntmps41 Tryd.results41 rfl (fun Rf => ?_)
  refine LW.seq ?_
  refine LW.region ?_
  refine X.act (X.box rfl Is.rfl' (by exact Cells.agg) (fun b4 => ?_))
  refine X.act (X.box rfl Is.rfl' (by exact Cells.agg) (fun b5 => ?_))
  refine LL.nil (after_code ?_)
  refine LW.seq ?_
  refine LW.invM (m := 7) (γ := Nat × Nat) [(0, 10), (1, 11), (2, 12), (3, 13), (4, 14), (5, 15), (6, 6)] (fun g_ d => match g_ with | ⟨b_, z_⟩ => match d with | 10 => pt g | 11 => pt g | 12 => pt g | 13 => .raw (.map (some ma)) | 14 => .agg (vxL a) | 15 => lnE x | 6 => pt b_ | _ => .any) (fun g_ f => match g_ with | ⟨b_, z_⟩ => cond (f 6) (.cells b_ 73 (raws z73.cells.toList)) (.tail 0 0 0) :: .cells b4 35 (vxL a) :: .cells b5 35 (vxL b) :: gC g ma mb n :: gA ma m :: Rf) (0, 0) rfl (by kernel_rfl) rfl rfl ((HSub.trans (by repeat (first | exact HSub.refl _ | refine HSub.pick 1 rfl ?_)) (HSub.tail0 0 0 0 (Nat.le_refl _) _))) ?_ ?_
  · intro i hi f g_ hfi hdir hdown
    obtain ⟨b_, z_⟩ := g_
    have hc : i = 0 ∨ i = 1 ∨ i = 2 ∨ i = 3 ∨ i = 4 ∨ i = 5 ∨ i = 6 := by omega
    rcases hc with rfl | rfl | rfl | rfl | rfl | rfl | rfl
    · refine ⟨_, rfl, ?_⟩
      refine A.u (LU.moveR Is.rfl') rfl ?_
      refine ⟨⟨b_, z_⟩, Weaker.mk' ?_ (HSub.refl _)⟩
      refine env_back0 (envS_hit (sl := [(0, 10), (1, 11), (2, 12), (3, 13), (4, 14), (5, 15), (6, 6)]) (j := 0) (d := 10) rfl (fun _ _ h => h))  (envS_next ?_)
      · intro p hp hne; simp only [List.mem_cons, List.not_mem_nil, or_false] at hp; rcases hp with rfl | rfl | rfl | rfl | rfl | rfl | rfl <;> first | exact absurd rfl hne | exact ⟨rfl, rfl⟩
    · have d0 := hdir 0 (List.mem_of_elem_eq_true (by kernel_rfl))
      refine ⟨_, rfl, ?_⟩
      refine LP.weak (t := 10) (v := pt g) (envS_is (j := 0) rfl d0) ?_
      refine A.u (LU.nilCheck Is.rfl') rfl ?_
      refine ⟨⟨b_, z_⟩, Weaker.mk' ?_ (HSub.refl _)⟩
      refine env_back1 (envS_hit (sl := [(0, 10), (1, 11), (2, 12), (3, 13), (4, 14), (5, 15), (6, 6)]) (j := 1) (d := 11) rfl (fun _ _ h => h)) (envS_hit (sl := [(0, 10), (1, 11), (2, 12), (3, 13), (4, 14), (5, 15), (6, 6)]) (j := 0) (d := 10) rfl (fun _ _ h => h)) (envS_next ?_)
      · intro p hp hne; simp only [List.mem_cons, List.not_mem_nil, or_false] at hp; rcases hp with rfl | rfl | rfl | rfl | rfl | rfl | rfl <;> first | exact absurd rfl hne | exact ⟨rfl, rfl⟩
    · have d1 := hdir 1 (List.mem_of_elem_eq_true (by kernel_rfl))
      refine ⟨_, rfl, ?_⟩
      refine LP.weak (t := 11) (v := pt g) (envS_is (j := 1) rfl d1) ?_
      refine A.u (LU.fieldO Tryd.underlying68 rfl Tryd.sizeOf65 (by decide) Is.rfl') rfl ?_
      refine ⟨⟨b_, z_⟩, Weaker.mk' ?_ (HSub.refl _)⟩
      refine env_back1 (envS_hit (sl := [(0, 10), (1, 11), (2, 12), (3, 13), (4, 14), (5, 15), (6, 6)]) (j := 2) (d := 12) rfl (fun _ _ h => h)) (envS_hit (sl := [(0, 10), (1, 11), (2, 12), (3, 13), (4, 14), (5, 15), (6, 6)]) (j := 1) (d := 11) rfl (fun _ _ h => h)) (envS_next ?_)
      · intro p hp hne; simp only [List.mem_cons, List.not_mem_nil, or_false] at hp; rcases hp with rfl | rfl | rfl | rfl | rfl | rfl | rfl <;> first | exact absurd rfl hne | exact ⟨rfl, rfl⟩
    · have d2 := hdir 2 (List.mem_of_elem_eq_true (by kernel_rfl))
      refine ⟨_, rfl, ?_⟩
      refine LP.weak (t := 12) (v := pt g) (envS_is (j := 2) rfl d2) ?_
      refine A.u (LU.loadO 3 rfl ⟨Tryd.sizeOf65, Tryd.isAgg65⟩ Is.rfl' (Part.one rfl)) rfl ?_
      refine ⟨⟨b_, z_⟩, Weaker.mk' ?_ (HSub.refl _)⟩
      refine env_back1 (envS_hit (sl := [(0, 10), (1, 11), (2, 12), (3, 13), (4, 14), (5, 15), (6, 6)]) (j := 3) (d := 13) rfl (fun _ _ h => h)) (envS_hit (sl := [(0, 10), (1, 11), (2, 12), (3, 13), (4, 14), (5, 15), (6, 6)]) (j := 2) (d := 12) rfl (fun _ _ h => h)) (envS_next ?_)
      · intro p hp hne; simp only [List.mem_cons, List.not_mem_nil, or_false] at hp; rcases hp with rfl | rfl | rfl | rfl | rfl | rfl | rfl <;> first | exact absurd rfl hne | exact ⟨rfl, rfl⟩
    · refine ⟨_, rfl, ?_⟩
      refine A.u (LU.loadO 1 rfl ⟨Tryd.sizeOf35, Tryd.isAgg35⟩ Is.rfl' (Part.whole (by assumption))) rfl ?_
      refine ⟨⟨b_, z_⟩, Weaker.mk' ?_ (HSub.refl _)⟩
      refine env_back0 (envS_hit (sl := [(0, 10), (1, 11), (2, 12), (3, 13), (4, 14), (5, 15), (6, 6)]) (j := 4) (d := 14) rfl (fun _ _ h => h))  (envS_next ?_)
      · intro p hp hne; simp only [List.mem_cons, List.not_mem_nil, or_false] at hp; rcases hp with rfl | rfl | rfl | rfl | rfl | rfl | rfl <;> first | exact absurd rfl hne | exact ⟨rfl, rfl⟩
    · have d3 := hdir 3 (List.mem_of_elem_eq_true (by kernel_rfl))
      have d4 := hdir 4 (List.mem_of_elem_eq_true (by kernel_rfl))
      refine ⟨_, rfl, ?_⟩
      refine LP.weak (t := 13) (v := .raw (.map (some ma))) (envS_is (j := 3) rfl d3) ?_
      refine LP.weak (t := 14) (v := .agg (vxL a)) (envS_is (j := 4) rfl d4) ?_
      refine A.u (LU.weak (LU.lookup 4 (KeyOk.vx vxty) rfl Tryd.underlying65 Tryd.zeroValue73 Is.rfl' (by exact Is.vx _)) (hxi)) rfl ?_
      refine ⟨⟨b_, z_⟩, Weaker.mk' ?_ (HSub.refl _)⟩
      refine env_back2 (envS_hit (sl := [(0, 10), (1, 11), (2, 12), (3, 13), (4, 14), (5, 15), (6, 6)]) (j := 5) (d := 15) rfl (fun _ _ h => h)) (envS_hit (sl := [(0, 10), (1, 11), (2, 12), (3, 13), (4, 14), (5, 15), (6, 6)]) (j := 4) (d := 14) rfl (fun _ _ h => h)) (envS_hit (sl := [(0, 10), (1, 11), (2, 12), (3, 13), (4, 14), (5, 15), (6, 6)]) (j := 3) (d := 13) rfl (fun _ _ h => h)) (envS_next ?_)
      · intro p hp hne; simp only [List.mem_cons, List.not_mem_nil, or_false] at hp; rcases hp with rfl | rfl | rfl | rfl | rfl | rfl | rfl <;> first | exact absurd rfl hne | exact ⟨rfl, rfl⟩
    · refine ⟨_, rfl, ?_⟩
      refine A.act (X.alloc rfl Tryd.zeroValue73 (by exact Cells.rawagg (by decide)) (fun b6 => ?_))
      refine ⟨(b6, 0), Weaker.mk' ?_ (by show L.HSub (_ :: cond (f 6) _ (.tail 0 0 0) :: _) _; rw [hfi]; exact HSub.cons (HSub.drop (HSub.refl _)))⟩
      refine env_back0 (envS_hit (sl := [(0, 10), (1, 11), (2, 12), (3, 13), (4, 14), (5, 15), (6, 6)]) (j := 6) (d := 6) rfl (fun _ _ h => h))  (envS_next ?_)
      · intro p hp hne; simp only [List.mem_cons, List.not_mem_nil, or_false] at hp; rcases hp with rfl | rfl | rfl | rfl | rfl | rfl | rfl <;> first | exact absurd rfl hne | exact ⟨rfl, rfl⟩
  · intro g_ f hf_
    obtain ⟨b_, z_⟩ := g_
    refine X.ghost (H' := .cells b_ 73 (raws z73.cells.toList) :: .cells b4 35 (vxL a) :: .cells b5 35 (vxL b) :: gC g ma mb n :: gA ma m :: Rf) (by show L.HSub (cond (f 6) _ (.tail 0 0 0) :: _) _; rw [hf_ 6 (by omega)]; exact HSub.refl _) ?_
    refine X.act (X.store 0 rfl Tryd.sizeOf73 Is.rfl' Is.rfl' (by exact Cells.agg) (by (simp; done)) (by exact Nat.le_of_ble_eq_true rfl) ?_)
    refine LL.nil (after_code ?_)
    refine X.meetK (α := Unit) (fun u_ => []) [0, 4, 5] (fun u_ => .cells b4 35 (vxL a) :: .cells b5 35 (vxL b) :: gC g ma mb n :: gA ma m1 :: Rf) (fun u_ => True) ?_ ?_
    · refine LW.seq ?_
      refine X.wcells (ys := lnL x) rfl ?_
      refine X.wghost (H' := .cells b_ 73 (lnL x) :: gC g ma mb n :: gA ma m :: .cells b4 35 (vxL a) :: .cells b5 35 (vxL b) :: Rf) (by repeat (first | exact HSub.refl _ | refine HSub.pick 0 rfl ?_ | refine HSub.pick 2 rfl ?_)) ?_
      refine LW.region ?_
      refine X.u (LU.fieldO Tryd.underlying73 rfl Tryd.sizeOf26 (by decide) Is.rfl') rfl ?_
      refine X.u (LU.loadO 0 rfl ⟨Tryd.sizeOf26, Tryd.isAgg26⟩ Is.rfl' (Part.one rfl)) rfl ?_
      refine X.u (LU.loadO 4 rfl ⟨Tryd.sizeOf35, Tryd.isAgg35⟩ Is.rfl' (Part.whole (by assumption))) rfl ?_
      refine X.u (LU.call (index_calls x.next .unk b (by omega)) Tryd.func56 rfl rfl (Opds.cons Is.rfl' (Opds.cons Is.rfl' Opds.nil))) rfl ?_
      refine X.u (LU.assignR Is.rfl') rfl ?_
      refine LL.nil (after_code ?_)
      refine LW.seq ?_
      refine LW.region ?_
      refine X.u (LU.moveR Is.rfl') rfl ?_
      refine X.u (LU.geq Is.rfl' Is.rfl') rfl ?_
      refine LL.nil (after_code ?_)
      refine X.cond rfl (fun h3 => ?_) (fun h3 => ?_)
      · have h3 : 0 ≤ placeG x.next b := by simpa using h3
        rw [if_pos h3] at hm1b
        have hpr := placeG_range x.next b
        obtain ⟨ix, hix⟩ : ∃ ix : Nat, placeG x.next b = ix := ⟨(placeG x.next b).toNat, by omega⟩
        have hcut : cutN x b = { x with next := x.next.eraseIdx ix } := by unfold cutN; rw [hix, Int.toNat_natCast]
        refine LW.seq ?_
        refine LW.region ?_
        refine X.u (LU.fieldO Tryd.underlying73 rfl Tryd.sizeOf26 (by decide) Is.rfl') rfl ?_
        refine X.u (LU.loadO 0 rfl ⟨Tryd.sizeOf26, Tryd.isAgg26⟩ Is.rfl' (Part.one rfl)) rfl ?_
        refine X.act (X.call (cloneO_calls x.next .unk (by omega) (by omega)) Tryd.func36 rfl rfl rfl (HSub.refl _) (Opds.cons Is.rfl' Opds.nil) ?_)
        rintro r H' ⟨b24, c24, xs24, rfl, rfl, ow24⟩
        refine X.u (LU.weak (LU.moveR Is.rfl') (Is.of (y := i64 (ix : Nat)) (congrArg i64 hix))) rfl ?_
        refine X.u (LU.moveR Is.rfl') rfl ?_
        refine X.u (LU.weak (LU.addN Is.rfl' Is.rfl' (wrap_i64 (by omega) (by omega))) (Is.of (y := i64 ((ix + 1 : Nat) : Int)) (congrArg i64 (by rw [hix]; rfl)))) rfl ?_
        refine X.act (X.call (delete_calls x.next b24 0 x.next.length c24 ix _ xs24 ow24 (by omega) (by omega)) Tryd.func57 rfl rfl rfl (by (refine HSub.pick 0 rfl ?_); exact HSub.refl _) (Opds.cons Is.rfl' (Opds.cons Is.rfl' (Opds.cons Is.rfl' Opds.nil))) ?_)
        rintro r H' ⟨rfl, xs28, rfl, ow28⟩
        refine LL.freezeO (t := 28) 0 rfl rfl ow28 ?_
        refine X.u (LU.fieldO Tryd.underlying73 rfl Tryd.sizeOf26 (by decide) Is.rfl') rfl ?_
        refine X.act (X.store 0 rfl Tryd.sizeOf26 Is.rfl' Is.rfl' (by exact Cells.sl) (by (simp; done)) (by (simp; done)) ?_)
        refine LL.nil (after_code ?_)
        refine X.wcells (ys := [Str x.text, .sl 32 (hss x.kills) .unk, i64 x.part, Vxs (x.next.eraseIdx ix) .unk, Vxs x.prev .unk]) rfl ?_
        refine X.wghost (H' := .cells b_ 73 (lnL (cutN x b)) :: gC g ma mb n :: gA ma m :: .cells b4 35 (vxL a) :: .cells b5 35 (vxL b) :: Rf) (by rw [hcut]; exact (by repeat (exact HSub.refl _))) ?_
        refine X.drawM 6 rfl (by kernel_rfl) rfl ?_
        refine QD.u (LU.moveR Is.rfl') rfl ?_
        refine QD.u (LU.nilCheck Is.rfl') rfl ?_
        refine QD.u (LU.fieldO Tryd.underlying68 rfl Tryd.sizeOf65 (by decide) Is.rfl') rfl ?_
        refine QD.u (LU.loadO 1 rfl ⟨Tryd.sizeOf65, Tryd.isAgg65⟩ Is.rfl' (Part.one rfl)) rfl ?_
        refine QD.u (LU.loadO 3 rfl ⟨Tryd.sizeOf35, Tryd.isAgg35⟩ Is.rfl' (Part.whole (by assumption))) rfl ?_
        refine QD.u (LU.loadO 0 rfl ⟨Tryd.sizeOf73, Tryd.isAgg73⟩ Is.rfl' (Part.whole (by (simp; done)))) rfl ?_
        refine QD.nil ?_
        refine X.act (LO.mapUpdate (st := ⟨_, _, _⟩) 2 (KeyOk.vx vxty) rfl Tryd.underlying65 Is.rfl' (by exact Is.vx _) Is.rfl' ?_)
        refine LL.nil (after_rnd ?_)
        refine X.meets (()) rfl (EnvLe.nil) (Keeps.cons (by exact Eq.trans (b := .raw _) rfl rfl) (Keeps.cons (by exact Eq.trans (b := .raw _) rfl rfl) (Keeps.cons (by exact Eq.trans (b := .raw _) rfl rfl) (Keeps.nil)))) (by (rw [hm1b, ← gA_set]; exact (by repeat (first | exact HSub.refl _ | refine HSub.pick 0 rfl ?_ | refine HSub.pick 2 rfl ?_ | refine HSub.pick 3 rfl ?_ | refine HSub.drop ?_)))) ?_
        trivial
      · have h3 : ¬ 0 ≤ placeG x.next b := by simp at h3; omega
        rw [if_neg h3] at hm1b
        refine LW.skip (after_rnd ?_)
        refine X.meets (()) rfl (EnvLe.nil) (Keeps.cons (by exact Eq.trans (b := .raw _) rfl rfl) (Keeps.cons (by exact Eq.trans (b := .raw _) rfl rfl) (Keeps.cons (by exact Eq.trans (b := .raw _) rfl rfl) (Keeps.nil)))) (by (rw [hm1b]; exact (by repeat (first | exact HSub.refl _ | refine HSub.pick 1 rfl ?_ | refine HSub.pick 3 rfl ?_ | refine HSub.drop ?_)))) ?_
        trivial
    · rintro u_ hI
      refine LW.seq ?_
      refine LW.invM (m := 7) (γ := Nat × Nat) [(0, 36), (1, 37), (2, 38), (3, 39), (4, 40), (5, 41), (6, 8)] (fun g_ d => match g_ with | ⟨c_, z_⟩ => match d with | 36 => pt g | 37 => pt g | 38 => pt g | 39 => .raw (.map (some ma)) | 40 => .agg (vxL b) | 41 => lnE y | 8 => pt c_ | _ => .any) (fun g_ f => match g_ with | ⟨c_, z_⟩ => cond (f 6) (.cells c_ 73 (raws z73.cells.toList)) (.tail 0 0 0) :: .cells b4 35 (vxL a) :: .cells b5 35 (vxL b) :: gC g ma mb n :: gA ma m1 :: Rf) (0, 0) rfl (by kernel_rfl) rfl rfl ((HSub.trans (by repeat (exact HSub.refl _)) (HSub.tail0 0 0 0 (Nat.le_refl _) _))) ?_ ?_
      · intro i hi f g_ hfi hdir hdown
        obtain ⟨c_, z_⟩ := g_
        have hc : i = 0 ∨ i = 1 ∨ i = 2 ∨ i = 3 ∨ i = 4 ∨ i = 5 ∨ i = 6 := by omega
        rcases hc with rfl | rfl | rfl | rfl | rfl | rfl | rfl
        · refine ⟨_, rfl, ?_⟩
          refine A.u (LU.moveR Is.rfl') rfl ?_
          refine ⟨⟨c_, z_⟩, Weaker.mk' ?_ (HSub.refl _)⟩
          refine env_back0 (envS_hit (sl := [(0, 36), (1, 37), (2, 38), (3, 39), (4, 40), (5, 41), (6, 8)]) (j := 0) (d := 36) rfl (fun _ _ h => h))  (envS_next ?_)
          · intro p hp hne; simp only [List.mem_cons, List.not_mem_nil, or_false] at hp; rcases hp with rfl | rfl | rfl | rfl | rfl | rfl | rfl <;> first | exact absurd rfl hne | exact ⟨rfl, rfl⟩
        · have d0 := hdir 0 (List.mem_of_elem_eq_true (by kernel_rfl))
          refine ⟨_, rfl, ?_⟩
          refine LP.weak (t := 36) (v := pt g) (envS_is (j := 0) rfl d0) ?_
          refine A.u (LU.nilCheck Is.rfl') rfl ?_
          refine ⟨⟨c_, z_⟩, Weaker.mk' ?_ (HSub.refl _)⟩
          refine env_back1 (envS_hit (sl := [(0, 36), (1, 37), (2, 38), (3, 39), (4, 40), (5, 41), (6, 8)]) (j := 1) (d := 37) rfl (fun _ _ h => h)) (envS_hit (sl := [(0, 36), (1, 37), (2, 38), (3, 39), (4, 40), (5, 41), (6, 8)]) (j := 0) (d := 36) rfl (fun _ _ h => h)) (envS_next ?_)
          · intro p hp hne; simp only [List.mem_cons, List.not_mem_nil, or_false] at hp; rcases hp with rfl | rfl | rfl | rfl | rfl | rfl | rfl <;> first | exact absurd rfl hne | exact ⟨rfl, rfl⟩
        · have d1 := hdir 1 (List.mem_of_elem_eq_true (by kernel_rfl))
          refine ⟨_, rfl, ?_⟩
          refine LP.weak (t := 37) (v := pt g) (envS_is (j := 1) rfl d1) ?_
          refine A.u (LU.fieldO Tryd.underlying68 rfl Tryd.sizeOf65 (by decide) Is.rfl') rfl ?_
          refine ⟨⟨c_, z_⟩, Weaker.mk' ?_ (HSub.refl _)⟩
          refine env_back1 (envS_hit (sl := [(0, 36), (1, 37), (2, 38), (3, 39), (4, 40), (5, 41), (6, 8)]) (j := 2) (d := 38) rfl (fun _ _ h => h)) (envS_hit (sl := [(0, 36), (1, 37), (2, 38), (3, 39), (4, 40), (5, 41), (6, 8)]) (j := 1) (d := 37) rfl (fun _ _ h => h)) (envS_next ?_)
          · intro p hp hne; simp only [List.mem_cons, List.not_mem_nil, or_false] at hp; rcases hp with rfl | rfl | rfl | rfl | rfl | rfl | rfl <;> first | exact absurd rfl hne | exact ⟨rfl, rfl⟩
        · have d2 := hdir 2 (List.mem_of_elem_eq_true (by kernel_rfl))
          refine ⟨_, rfl, ?_⟩
          refine LP.weak (t := 38) (v := pt g) (envS_is (j := 2) rfl d2) ?_
          refine A.u (LU.loadO 3 rfl ⟨Tryd.sizeOf65, Tryd.isAgg65⟩ Is.rfl' (Part.one rfl)) rfl ?_
          refine ⟨⟨c_, z_⟩, Weaker.mk' ?_ (HSub.refl _)⟩
          refine env_back1 (envS_hit (sl := [(0, 36), (1, 37), (2, 38), (3, 39), (4, 40), (5, 41), (6, 8)]) (j := 3) (d := 39) rfl (fun _ _ h => h)) (envS_hit (sl := [(0, 36), (1, 37), (2, 38), (3, 39), (4, 40), (5, 41), (6, 8)]) (j := 2) (d := 38) rfl (fun _ _ h => h)) (envS_next ?_)
          · intro p hp hne; simp only [List.mem_cons, List.not_mem_nil, or_false] at hp; rcases hp with rfl | rfl | rfl | rfl | rfl | rfl | rfl <;> first | exact absurd rfl hne | exact ⟨rfl, rfl⟩
        · refine ⟨_, rfl, ?_⟩
          refine A.u (LU.loadO 2 rfl ⟨Tryd.sizeOf35, Tryd.isAgg35⟩ Is.rfl' (Part.whole (by assumption))) rfl ?_
          refine ⟨⟨c_, z_⟩, Weaker.mk' ?_ (HSub.refl _)⟩
          refine env_back0 (envS_hit (sl := [(0, 36), (1, 37), (2, 38), (3, 39), (4, 40), (5, 41), (6, 8)]) (j := 4) (d := 40) rfl (fun _ _ h => h))  (envS_next ?_)
          · intro p hp hne; simp only [List.mem_cons, List.not_mem_nil, or_false] at hp; rcases hp with rfl | rfl | rfl | rfl | rfl | rfl | rfl <;> first | exact absurd rfl hne | exact ⟨rfl, rfl⟩
        · have d3 := hdir 3 (List.mem_of_elem_eq_true (by kernel_rfl))
          have d4 := hdir 4 (List.mem_of_elem_eq_true (by kernel_rfl))
          refine ⟨_, rfl, ?_⟩
          refine LP.weak (t := 39) (v := .raw (.map (some ma))) (envS_is (j := 3) rfl d3) ?_
          refine LP.weak (t := 40) (v := .agg (vxL b)) (envS_is (j := 4) rfl d4) ?_
          refine A.u (LU.weak (LU.lookup 4 (KeyOk.vx vxty) rfl Tryd.underlying65 Tryd.zeroValue73 Is.rfl' (by exact Is.vx _)) (hyi)) rfl ?_
          refine ⟨⟨c_, z_⟩, Weaker.mk' ?_ (HSub.refl _)⟩
          refine env_back2 (envS_hit (sl := [(0, 36), (1, 37), (2, 38), (3, 39), (4, 40), (5, 41), (6, 8)]) (j := 5) (d := 41) rfl (fun _ _ h => h)) (envS_hit (sl := [(0, 36), (1, 37), (2, 38), (3, 39), (4, 40), (5, 41), (6, 8)]) (j := 4) (d := 40) rfl (fun _ _ h => h)) (envS_hit (sl := [(0, 36), (1, 37), (2, 38), (3, 39), (4, 40), (5, 41), (6, 8)]) (j := 3) (d := 39) rfl (fun _ _ h => h)) (envS_next ?_)
          · intro p hp hne; simp only [List.mem_cons, List.not_mem_nil, or_false] at hp; rcases hp with rfl | rfl | rfl | rfl | rfl | rfl | rfl <;> first | exact absurd rfl hne | exact ⟨rfl, rfl⟩
        · refine ⟨_, rfl, ?_⟩
          refine A.act (X.alloc rfl Tryd.zeroValue73 (by exact Cells.rawagg (by decide)) (fun b8 => ?_))
          refine ⟨(b8, 0), Weaker.mk' ?_ (by show L.HSub (_ :: cond (f 6) _ (.tail 0 0 0) :: _) _; rw [hfi]; exact HSub.cons (HSub.drop (HSub.refl _)))⟩
          refine env_back0 (envS_hit (sl := [(0, 36), (1, 37), (2, 38), (3, 39), (4, 40), (5, 41), (6, 8)]) (j := 6) (d := 8) rfl (fun _ _ h => h))  (envS_next ?_)
          · intro p hp hne; simp only [List.mem_cons, List.not_mem_nil, or_false] at hp; rcases hp with rfl | rfl | rfl | rfl | rfl | rfl | rfl <;> first | exact absurd rfl hne | exact ⟨rfl, rfl⟩
      · intro g_ f hf_
        obtain ⟨c_, z_⟩ := g_
        refine X.ghost (H' := .cells c_ 73 (raws z73.cells.toList) :: .cells b4 35 (vxL a) :: .cells b5 35 (vxL b) :: gC g ma mb n :: gA ma m1 :: Rf) (by show L.HSub (cond (f 6) _ (.tail 0 0 0) :: _) _; rw [hf_ 6 (by omega)]; exact HSub.refl _) ?_
        refine X.act (X.store 0 rfl Tryd.sizeOf73 Is.rfl' Is.rfl' (by exact Cells.agg) (by (simp; done)) (by exact Nat.le_of_ble_eq_true rfl) ?_)
        refine LL.nil (after_code ?_)
        refine LW.seq ?_
        refine X.wcells (ys := lnL y) rfl ?_
        refine X.wghost (H' := .cells c_ 73 (lnL y) :: gC g ma mb n :: gA ma m1 :: .cells b4 35 (vxL a) :: .cells b5 35 (vxL b) :: Rf) (by repeat (first | exact HSub.refl _ | refine HSub.pick 0 rfl ?_ | refine HSub.pick 2 rfl ?_)) ?_
        refine LW.region ?_
        refine X.u (LU.fieldO Tryd.underlying73 rfl Tryd.sizeOf26 (by decide) Is.rfl') rfl ?_
        refine X.u (LU.loadO 0 rfl ⟨Tryd.sizeOf26, Tryd.isAgg26⟩ Is.rfl' (Part.one rfl)) rfl ?_
        refine X.u (LU.loadO 3 rfl ⟨Tryd.sizeOf35, Tryd.isAgg35⟩ Is.rfl' (Part.whole (by assumption))) rfl ?_
        refine X.u (LU.call (index_calls y.prev .unk a (by omega)) Tryd.func56 rfl rfl (Opds.cons Is.rfl' (Opds.cons Is.rfl' Opds.nil))) rfl ?_
        refine X.u (LU.assignR Is.rfl') rfl ?_
        refine LL.nil (after_code ?_)
        refine LW.seq ?_
        refine LW.region ?_
        refine X.u (LU.moveR Is.rfl') rfl ?_
        refine X.u (LU.geq Is.rfl' Is.rfl') rfl ?_
        refine LL.nil (after_code ?_)
        refine X.cond rfl (fun h8 => ?_) (fun h8 => ?_)
        · have h8 : 0 ≤ placeG y.prev a := by simpa using h8
          rw [if_pos h8] at hm2b
          have hpr2 := placeG_range y.prev a
          obtain ⟨iy, hiy⟩ : ∃ iy : Nat, placeG y.prev a = iy := ⟨(placeG y.prev a).toNat, by omega⟩
          have hcut2 : cutP y a = { y with prev := y.prev.eraseIdx iy } := by unfold cutP; rw [hiy, Int.toNat_natCast]
          refine LW.seq ?_
          refine LW.region ?_
          refine X.u (LU.fieldO Tryd.underlying73 rfl Tryd.sizeOf26 (by decide) Is.rfl') rfl ?_
          refine X.u (LU.loadO 0 rfl ⟨Tryd.sizeOf26, Tryd.isAgg26⟩ Is.rfl' (Part.one rfl)) rfl ?_
          refine X.act (X.call (cloneO_calls y.prev .unk (by omega) (by omega)) Tryd.func36 rfl rfl rfl (HSub.refl _) (Opds.cons Is.rfl' Opds.nil) ?_)
          rintro r H' ⟨b50, c50, xs50, rfl, rfl, ow50⟩
          refine X.u (LU.weak (LU.moveR Is.rfl') (Is.of (y := i64 (iy : Nat)) (congrArg i64 hiy))) rfl ?_
          refine X.u (LU.moveR Is.rfl') rfl ?_
          refine X.u (LU.weak (LU.addN Is.rfl' Is.rfl' (wrap_i64 (by omega) (by omega))) (Is.of (y := i64 ((iy + 1 : Nat) : Int)) (congrArg i64 (by rw [hiy]; rfl)))) rfl ?_
          refine X.act (X.call (delete_calls y.prev b50 0 y.prev.length c50 iy _ xs50 ow50 (by omega) (by omega)) Tryd.func57 rfl rfl rfl (by (refine HSub.pick 0 rfl ?_); exact HSub.refl _) (Opds.cons Is.rfl' (Opds.cons Is.rfl' (Opds.cons Is.rfl' Opds.nil))) ?_)
          rintro r H' ⟨rfl, xs54, rfl, ow54⟩
          refine LL.freezeO (t := 54) 0 rfl rfl ow54 ?_
          refine X.u (LU.fieldO Tryd.underlying73 rfl Tryd.sizeOf26 (by decide) Is.rfl') rfl ?_
          refine X.act (X.store 0 rfl Tryd.sizeOf26 Is.rfl' Is.rfl' (by exact Cells.sl) (by (simp; done)) (by (simp; done)) ?_)
          refine LL.nil (after_code ?_)
          refine X.wcells (ys := [Str y.text, .sl 32 (hss y.kills) .unk, i64 y.part, Vxs y.next .unk, Vxs (y.prev.eraseIdx iy) .unk]) rfl ?_
          refine X.wghost (H' := .cells c_ 73 (lnL (cutP y a)) :: gC g ma mb n :: gA ma m1 :: .cells b4 35 (vxL a) :: .cells b5 35 (vxL b) :: Rf) (by rw [hcut2]; exact (by repeat (exact HSub.refl _))) ?_
          refine X.drawM 6 rfl (by kernel_rfl) rfl ?_
          refine QD.u (LU.moveR Is.rfl') rfl ?_
          refine QD.u (LU.nilCheck Is.rfl') rfl ?_
          refine QD.u (LU.fieldO Tryd.underlying68 rfl Tryd.sizeOf65 (by decide) Is.rfl') rfl ?_
          refine QD.u (LU.loadO 1 rfl ⟨Tryd.sizeOf65, Tryd.isAgg65⟩ Is.rfl' (Part.one rfl)) rfl ?_
          refine QD.u (LU.loadO 4 rfl ⟨Tryd.sizeOf35, Tryd.isAgg35⟩ Is.rfl' (Part.whole (by assumption))) rfl ?_
          refine QD.u (LU.loadO 0 rfl ⟨Tryd.sizeOf73, Tryd.isAgg73⟩ Is.rfl' (Part.whole (by (simp; done)))) rfl ?_
          refine QD.nil ?_
          refine X.act (LO.mapUpdate (st := ⟨_, _, _⟩) 2 (KeyOk.vx vxty) rfl Tryd.underlying65 Is.rfl' (by exact Is.vx _) Is.rfl' ?_)
          refine LL.nil (after_end ?_)
          refine X.normal (H' := [gC g ma mb n, gA ma m2]) Res.none (by rw [hm2b, ← gA_set]; exact (by repeat (first | exact HSub.refl _ | refine HSub.pick 0 rfl ?_ | refine HSub.pick 2 rfl ?_ | refine HSub.drop ?_))) ?_
          exact ⟨rfl, rfl⟩
        · have h8 : ¬ 0 ≤ placeG y.prev a := by simp at h8; omega
          rw [if_neg h8] at hm2b
          refine LW.skip (after_end ?_)
          refine X.normal (H' := [gC g ma mb n, gA ma m2]) Res.none (by rw [hm2b]; exact (by repeat (first | exact HSub.refl _ | refine HSub.pick 1 rfl ?_ | refine HSub.drop ?_))) ?_
          exact ⟨rfl, rfl⟩
end Go.Proofs.YtolpkeajokjbjaaDoor
