/- Lines: graphs that calls make; all lines are told, each behind what is ahead of it. -/
import Derived.Test.YtolpkeajokjbjaaDoorLoB
set_option linter.unusedVariables false
set_option linter.unusedSimpArgs false
namespace Go.Proofs.YtolpkeajokjbjaaDoor
open Go.RowKit Go.L Go.Lib
attribute [local irreducible] LL LW LO
theorem fin_ind {α : Type} [DecidableEq α] {R : α → α → Prop} (irr : ∀ v, ¬ R v v) (tr : ∀ {a b c}, R a b → R b c → R a c) {S : List α} (hS : S.Nodup) {P : α → Prop} (h : ∀ v ∈ S, (∀ u ∈ S, R u v → P u) → P v) : ∀ v ∈ S, P v := by
  classical
  have key : ∀ n : Nat, ∀ v ∈ S, (S.filter fun u => decide (R u v)).length < n → P v := fun n => by
    induction n with
    | zero => intro v _ hl; omega
    | succ n ih =>
      intro v hv hl
      refine h v hv fun u hu hr => ih u hu ?_
      have hn : (u :: S.filter fun w => decide (R w u)).Nodup := List.nodup_cons.2 ⟨fun c => irr u (by simpa using (List.mem_filter.1 c).2), List.filter_sublist.nodup hS⟩
      have := nodup_len hn (l := S.filter fun w => decide (R w v)) fun x hx => by
        rcases List.mem_cons.1 hx with e | e
        · subst e; exact List.mem_filter.2 ⟨hu, decide_eq_true hr⟩
        · obtain ⟨a, b⟩ := List.mem_filter.1 e
          exact List.mem_filter.2 ⟨a, decide_eq_true (tr (by simpa using b) hr)⟩
      rw [List.length_cons] at this
      omega
  intro v hv
  exact key _ v hv (Nat.lt_succ_self _)
def Er (r : Rg) : Ed := (topV, botV) :: r.L.flatMap fun a => edP a.up a.ids a.down
structure Ok (r : Rg) : Prop where
  nd : (idsG r.L).Nodup
  ends : ∀ v ∈ idsG r.L, endsB v = false
  ne : ∀ a ∈ r.L, a.ids ≠ [] ∧ a.texts.length = a.ids.length
  inn : ∀ a ∈ r.L, (a.up = topV ∨ a.up ∈ idsG r.L) ∧ (a.down = botV ∨ a.down ∈ idsG r.L)
  acy : ∀ v, ¬ Rch (nxE (Er r)) v v
  end_ : (Er r).Nodup
  len : (idsG r.L).length ≤ 512
  dv : ∀ d ∈ r.D, d.v ∈ idsG r.L
  dn : r.D.Nodup
theorem er_mem {r : Rg} {x y : Vx} : (x, y) ∈ Er r ↔ (x = topV ∧ y = botV) ∨ ∃ a ∈ r.L, (x, y) ∈ edP a.up a.ids a.down := by
  unfold Er
  rw [List.mem_cons, List.mem_flatMap, Prod.mk.injEq]
theorem ids_mem {l : List Ad} {v : Vx} : v ∈ idsG l ↔ ∃ a ∈ l, v ∈ a.ids := List.mem_flatMap
theorem top_bot : topV ≠ botV := fun h => by have := congrArg Vx.n h; exact absurd this (by decide)
theorem endsB_iff {v : Vx} : endsB v = false ↔ v ≠ topV ∧ v ≠ botV := by
  unfold endsB; simp
theorem endsB_true {v : Vx} : endsB v = true ↔ v = topV ∨ v = botV := by
  unfold endsB; simp
section
variable {r : Rg}
theorem Ok.top (h : Ok r) : topV ∉ idsG r.L := fun c => (endsB_iff.1 (h.ends _ c)).1 rfl
theorem Ok.bot (h : Ok r) : botV ∉ idsG r.L := fun c => (endsB_iff.1 (h.ends _ c)).2 rfl
theorem Ok.fst (h : Ok r) {x y : Vx} (he : (x, y) ∈ Er r) : x = topV ∨ x ∈ idsG r.L := by
  rcases er_mem.1 he with e | ⟨a, ha, e⟩
  · exact .inl e.1
  · rcases edP_fst e with f | f
    · rw [f]; exact (h.inn a ha).1
    · exact .inr (ids_mem.2 ⟨a, ha, f⟩)
theorem Ok.snd (h : Ok r) {x y : Vx} (he : (x, y) ∈ Er r) : y = botV ∨ y ∈ idsG r.L := by
  rcases er_mem.1 he with e | ⟨a, ha, e⟩
  · exact .inl e.2
  · rcases edP_snd e with f | f
    · exact .inr (ids_mem.2 ⟨a, ha, f⟩)
    · rw [f]; exact (h.inn a ha).2
theorem Ok.from_bot (h : Ok r) {y : Vx} : (botV, y) ∉ Er r := fun c => by
  rcases h.fst c with e | e
  · exact top_bot e.symm
  · exact h.bot e
theorem Ok.to_top (h : Ok r) {x : Vx} : (x, topV) ∉ Er r := fun c => by
  rcases h.snd c with e | e
  · exact top_bot e
  · exact h.top e
theorem Ok.rch_last (h : Ok r) {x y : Vx} (hr : Rch (nxE (Er r)) x y) : y = botV ∨ y ∈ idsG r.L := by
  obtain ⟨z, hz⟩ := hr.last
  exact h.snd (nxE_mem.1 hz)
theorem Ok.rch_first (h : Ok r) {x y : Vx} (hr : Rch (nxE (Er r)) x y) : x = topV ∨ x ∈ idsG r.L := by
  obtain ⟨z, hz, _⟩ := hr.first
  exact h.fst (nxE_mem.1 hz)
theorem Ok.chain (h : Ok r) {a : Ad} (ha : a ∈ r.L) : (∀ v ∈ a.ids, Rch (nxE (Er r)) a.up v ∧ Rch (nxE (Er r)) v a.down) ∧ Rch (nxE (Er r)) a.up a.down :=
  chain_rch fun e he => er_mem.2 (.inr ⟨a, ha, he⟩)
theorem Ok.from_top (h : Ok r) : ∀ v ∈ idsG r.L, Rch (nxE (Er r)) topV v :=
  fin_ind (R := Rch (nxE (Er r))) h.acy (fun a b => a.trans b) h.nd fun v hv ih => by
    obtain ⟨a, ha, hva⟩ := ids_mem.1 hv
    have hu := ((h.chain ha).1 v hva).1
    rcases (h.inn a ha).1 with e | e
    · rw [e] at hu; exact hu
    · exact (ih _ e hu).trans hu
theorem Ok.to_bot (h : Ok r) : ∀ v ∈ idsG r.L, Rch (nxE (Er r)) v botV :=
  fin_ind (R := fun a b => Rch (nxE (Er r)) b a) h.acy (fun a b => b.trans a) h.nd fun v hv ih => by
    obtain ⟨a, ha, hva⟩ := ids_mem.1 hv
    have hu := ((h.chain ha).1 v hva).2
    rcases (h.inn a ha).2 with e | e
    · rw [e] at hu; exact hu
    · exact hu.trans (ih _ e hu)
theorem Ok.top_to_bot (h : Ok r) : Rch (nxE (Er r)) topV botV := .one (nxE_mem.2 (er_mem.2 (.inl ⟨rfl, rfl⟩)))
/-- The document's order, in plain words. -/
def OrdR (r : Rg) (out : List Vx) : Prop := Ord (fun u v => v ∈ nxE (Er r) u) (fun v => v ∈ idsG r.L) out
theorem OrdR.all {out : List Vx} (ho : OrdR r out) (h : Ok r) : ∀ v ∈ idsG r.L, v ∈ out :=
  fin_ind (R := Rch (nxE (Er r))) h.acy (fun a b => a.trans b) h.nd fun v hv ih => Classical.byContradiction fun c =>
    ho.2 v ⟨hv, c, fun u hu he => ih u hu (.one he)⟩
theorem perm_same {α : Type} [DecidableEq α] {k l : List α} (hk : k.Nodup) (hl : l.Nodup) (h : ∀ x, x ∈ k ↔ x ∈ l) : k.Perm l := (List.perm_ext_iff_of_nodup hk hl).2 h
theorem OrdR.perm {out : List Vx} (ho : OrdR r out) (h : Ok r) : out.Perm (idsG r.L) :=
  perm_same ho.1.nodup h.nd fun x => ⟨ho.1.mem x, ho.all h x⟩
theorem OrdR.before {out : List Vx} (ho : OrdR r out) (h : Ok r) {u v : Vx} (hu : u ∈ idsG r.L) (hr : Rch (nxE (Er r)) u v) : ∀ {i : Nat}, out[i]? = some v → u ∈ out.take i := by
  induction hr with
  | one hd => intro i hi; exact ho.1.before hi hu hd
  | step hz hd ih =>
    rename_i z y
    intro i hi
    rcases h.rch_last hz with e | e
    · rw [e] at hd; exact absurd (nxE_mem.1 hd) h.from_bot
    · have hm := ho.1.before hi e hd
      obtain ⟨j, hj⟩ := List.getElem?_of_mem hm
      have hji : j < i := by
        have := (List.getElem?_eq_some_iff.1 hj).1
        rw [List.length_take] at this; omega
      rw [List.getElem?_take_of_lt hji] at hj
      have := ih hj
      exact (List.take_sublist_take_left (by omega)).subset this
end
/-! ### new lines -/
theorem er_snoc (l : List Ad) (D D2 : List De) (a : Ad) : Er ⟨l ++ [a], D2⟩ = E2 (Er ⟨l, D⟩) a.up a.ids a.down := by
  unfold Er E2
  simp
theorem edP_nodup : ∀ {ids : List Vx} {a d : Vx}, (a :: ids).Nodup → (edP a ids d).Nodup
  | [], a, d, _ => by simp [edP]
  | v :: r, a, d, h => by
    obtain ⟨h1, h2⟩ := List.nodup_cons.1 h
    show ((a, v) :: edP v r d).Nodup
    refine List.nodup_cons.2 ⟨fun c => ?_, edP_nodup h2⟩
    rcases edP_fst c with e | e
    · exact h1 (by rw [e]; simp)
    · exact h1 (List.mem_cons_of_mem _ e)
theorem Ok.add {r : Rg} (h : Ok r) {a : Ad} (hne : a.ids ≠ []) (hnd : a.ids.Nodup) (hen : ∀ v ∈ a.ids, endsB v = false) (htx : a.texts.length = a.ids.length) (hnew : ∀ v ∈ a.ids, v ∉ idsG r.L)
    (hup : hasG r a.up = true) (hdn : hasG r a.down = true) (hr : Rch (nxE (Er r)) a.up a.down) (hl : (idsG r.L).length + a.ids.length ≤ 512) : Ok ⟨r.L ++ [a], r.D⟩ := by
  have hold : ∀ v, (v = topV ∨ v = botV ∨ v ∈ idsG r.L) → v ∉ a.ids := fun v hv c => by
    rcases hv with e | e | e
    · exact (endsB_iff.1 (hen v c)).1 e
    · exact (endsB_iff.1 (hen v c)).2 e
    · exact hnew v c e
  have hup2 : a.up = topV ∨ a.up ∈ idsG r.L := h.rch_first hr
  have hdn2 : a.down = botV ∨ a.down ∈ idsG r.L := h.rch_last hr
  have hupi : a.up ∉ a.ids := hold _ (hup2.elim .inl fun e => .inr (.inr e))
  have hfr : Fresh (Er r) a.up a.ids a.down := ⟨hne, hnd, hupi, hold _ (hdn2.elim (fun e => .inr (.inl e)) fun e => .inr (.inr e)), fun e he => hold _ ((h.fst (x := e.1) (y := e.2) he).elim .inl fun e => .inr (.inr e)), fun e he => hold _ ((h.snd (x := e.1) (y := e.2) he).elim (fun e => .inr (.inl e)) fun e => .inr (.inr e)), hr⟩
  have hEr : Er ⟨r.L ++ [a], r.D⟩ = E2 (Er r) a.up a.ids a.down := er_snoc r.L r.D r.D a
  refine ⟨?_, fun v hv => ?_, fun b hb => ?_, fun b hb => ?_, ?_, ?_, ?_, fun d hd => ?_, h.dn⟩
  · show (idsG (r.L ++ [a])).Nodup
    rw [ids_snoc, List.nodup_append]
    exact ⟨h.nd, hnd, fun x hx y hy e => hnew y hy (e ▸ hx)⟩
  · rw [show idsG _ = _ from ids_snoc r.L a] at hv
    rcases List.mem_append.1 hv with e | e
    · exact h.ends v e
    · exact hen v e
  · rcases List.mem_append.1 hb with e | e
    · exact h.ne b e
    · rw [List.mem_singleton.1 e]; exact ⟨hne, htx⟩
  · show (_ ∨ _ ∈ idsG (r.L ++ [a])) ∧ (_ ∨ _ ∈ idsG (r.L ++ [a]))
    rw [ids_snoc]
    rcases List.mem_append.1 hb with e | e
    · exact ⟨(h.inn b e).1.imp id (List.mem_append_left _), (h.inn b e).2.imp id (List.mem_append_left _)⟩
    · rw [List.mem_singleton.1 e]
      exact ⟨hup2.imp id (List.mem_append_left _), hdn2.imp id (List.mem_append_left _)⟩
  · rw [hEr]; exact hfr.acy h.acy
  · rw [hEr]
    refine List.nodup_append.2 ⟨h.end_, edP_nodup (List.nodup_cons.2 ⟨hupi, hnd⟩), fun x hx y hy e => ?_⟩
    subst e
    obtain ⟨x1, x2⟩ := x
    rcases edP_fst hy with f | f
    · subst f; exact hfr.snd _ hx (edP_up hne hupi hy)
    · exact hfr.fst _ hx f
  · show (idsG (r.L ++ [a])).length ≤ 512
    rw [ids_snoc, List.length_append]; exact hl
  · show _ ∈ idsG (r.L ++ [a])
    rw [ids_snoc]; exact List.mem_append_left _ (h.dv d hd)
end Go.Proofs.YtolpkeajokjbjaaDoor
