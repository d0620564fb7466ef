/- Lines: a graph by its steps as pairs; what new lines do to what is reached. -/
import Derived.Test.YtolpkeajokjbjaaDoorLoA
set_option linter.unusedVariables false
set_option linter.unusedSimpArgs false
namespace Go.Proofs.YtolpkeajokjbjaaDoor
open Go.RowKit Go.L Go.Lib
attribute [local irreducible] LL LW LO
abbrev Ed := List (Vx × Vx)
def nxE (E : Ed) (v : Vx) : List Vx := (E.filter fun e => decide (e.1 = v)).map (·.2)
def pvE (E : Ed) (v : Vx) : List Vx := (E.filter fun e => decide (e.2 = v)).map (·.1)
theorem nxE_mem {E : Ed} {v w : Vx} : w ∈ nxE E v ↔ (v, w) ∈ E := by
  unfold nxE
  rw [List.mem_map]
  constructor
  · rintro ⟨⟨a, b⟩, h, rfl⟩
    rw [List.mem_filter] at h
    have := of_decide_eq_true h.2
    simp only at this
    rw [← this]; exact h.1
  · intro h
    exact ⟨(v, w), List.mem_filter.2 ⟨h, by simp⟩, rfl⟩
theorem pvE_mem {E : Ed} {v u : Vx} : u ∈ pvE E v ↔ (u, v) ∈ E := by
  unfold pvE
  rw [List.mem_map]
  constructor
  · rintro ⟨⟨a, b⟩, h, rfl⟩
    rw [List.mem_filter] at h
    have := of_decide_eq_true h.2
    simp only at this
    rw [← this]; exact h.1
  · intro h
    exact ⟨(u, v), List.mem_filter.2 ⟨h, by simp⟩, rfl⟩
theorem nxE_cons (a b : Vx) (E : Ed) (v : Vx) : nxE ((a, b) :: E) v = (if a = v then [b] else []) ++ nxE E v := by
  unfold nxE
  by_cases c : a = v
  · rw [List.filter_cons, if_pos (decide_eq_true c), if_pos c]; rfl
  · rw [List.filter_cons, if_neg (by simpa using c), if_neg c]; rfl
theorem pvE_cons (a b : Vx) (E : Ed) (v : Vx) : pvE ((a, b) :: E) v = (if b = v then [a] else []) ++ pvE E v := by
  unfold pvE
  by_cases c : b = v
  · rw [List.filter_cons, if_pos (decide_eq_true c), if_pos c]; rfl
  · rw [List.filter_cons, if_neg (by simpa using c), if_neg c]; rfl
theorem nxE_app (E F : Ed) (v : Vx) : nxE (E ++ F) v = nxE E v ++ nxE F v := by
  unfold nxE; rw [List.filter_append, List.map_append]
theorem pvE_app (E F : Ed) (v : Vx) : pvE (E ++ F) v = pvE E v ++ pvE F v := by
  unfold pvE; rw [List.filter_append, List.map_append]
theorem nodup_map_in {α β : Type} {f : α → β} : ∀ {l : List α}, l.Nodup → (∀ x ∈ l, ∀ y ∈ l, f x = f y → x = y) → (l.map f).Nodup
  | [], _, _ => List.nodup_nil
  | a :: l, h, hi => by
    obtain ⟨h1, h2⟩ := List.nodup_cons.1 h
    rw [List.map_cons, List.nodup_cons]
    refine ⟨fun c => ?_, nodup_map_in h2 fun x hx y hy => hi x (List.mem_cons_of_mem _ hx) y (List.mem_cons_of_mem _ hy)⟩
    obtain ⟨y, hy, e⟩ := List.mem_map.1 c
    have := hi y (List.mem_cons_of_mem _ hy) a (by simp) e
    exact h1 (this ▸ hy)
theorem nxE_nodup {E : Ed} (h : E.Nodup) (v : Vx) : (nxE E v).Nodup := by
  unfold nxE
  refine nodup_map_in (List.filter_sublist.nodup h) fun x hx y hy e => ?_
  have h1 := of_decide_eq_true (List.mem_filter.1 hx).2
  have h2 := of_decide_eq_true (List.mem_filter.1 hy).2
  exact Prod.ext (h1.trans h2.symm) e
theorem pvE_nodup {E : Ed} (h : E.Nodup) (v : Vx) : (pvE E v).Nodup := by
  unfold pvE
  refine nodup_map_in (List.filter_sublist.nodup h) fun x hx y hy e => ?_
  have h1 := of_decide_eq_true (List.mem_filter.1 hx).2
  have h2 := of_decide_eq_true (List.mem_filter.1 hy).2
  exact Prod.ext e (h1.trans h2.symm)
/-- A chain's steps. -/
def edP : Vx → List Vx → Vx → Ed
  | a, [], d => [(a, d)]
  | a, v :: r, d => (a, v) :: edP v r d
theorem chain_fold {S : Type} (F : S → Vx → Vx → S) : ∀ (ids : List Vx) (s : S) (a d : Vx), chainF F s a ids d = (edP a ids d).foldl (fun s e => F s e.1 e.2) s
  | [], s, a, d => rfl
  | v :: r, s, a, d => chain_fold F r (F s a v) v d
theorem edP_mem : ∀ {ids : List Vx} {a d x y : Vx}, (x, y) ∈ edP a ids d ↔ ∃ i : Nat, (a :: ids)[i]? = some x ∧ (ids ++ [d])[i]? = some y
  | [], a, d, x, y => by
    constructor
    · intro h
      have := List.mem_singleton.1 (show (x, y) ∈ [(a, d)] from h)
      obtain ⟨rfl, rfl⟩ := Prod.mk.inj this
      exact ⟨0, rfl, rfl⟩
    · rintro ⟨i, h1, h2⟩
      cases i with
      | zero => cases h1; cases h2; simp [edP]
      | succ i => simp at h1
  | v :: r, a, d, x, y => by
    show (x, y) ∈ (a, v) :: edP v r d ↔ _
    rw [List.mem_cons, edP_mem]
    constructor
    · rintro (h | ⟨i, h1, h2⟩)
      · obtain ⟨rfl, rfl⟩ := Prod.mk.inj h
        exact ⟨0, rfl, rfl⟩
      · exact ⟨i + 1, h1, h2⟩
    · rintro ⟨i, h1, h2⟩
      cases i with
      | zero => cases h1; cases h2; exact .inl rfl
      | succ i => exact .inr ⟨i, h1, h2⟩
theorem edP_fst {ids : List Vx} {a d x y : Vx} (h : (x, y) ∈ edP a ids d) : x = a ∨ x ∈ ids := by
  obtain ⟨i, h1, _⟩ := edP_mem.1 h
  exact List.mem_cons.1 (List.mem_of_getElem? h1)
theorem edP_snd {ids : List Vx} {a d x y : Vx} (h : (x, y) ∈ edP a ids d) : y ∈ ids ∨ y = d := by
  obtain ⟨i, _, h2⟩ := edP_mem.1 h
  have := List.mem_of_getElem? h2
  rw [List.mem_append, List.mem_singleton] at this
  exact this
/-- From the start of a chain of new ones, only to the first. -/
theorem edP_up {ids : List Vx} {a d y : Vx} (hn : ids ≠ []) (ha : a ∉ ids) (h : (a, y) ∈ edP a ids d) : y ∈ ids := by
  obtain ⟨i, h1, h2⟩ := edP_mem.1 h
  cases i with
  | zero =>
    cases ids with
    | nil => exact absurd rfl hn
    | cons v r => cases h2; simp
  | succ i => exact absurd (List.mem_of_getElem? (show ids[i]? = some a from h1)) ha
theorem Rch.trans {f : Vx → List Vx} {a b c : Vx} (h1 : Rch f a b) : Rch f b c → Rch f a c
  | .one hd => .step h1 hd
  | .step hy hd => .step (Rch.trans h1 hy) hd
theorem Rch.mono {f g : Vx → List Vx} (h : ∀ v w, w ∈ f v → w ∈ g v) {a b : Vx} : Rch f a b → Rch g a b
  | .one hd => .one (h _ _ hd)
  | .step hy hd => .step (Rch.mono h hy) (h _ _ hd)
theorem Rch.congr {f g : Vx → List Vx} (h : ∀ v w, w ∈ f v ↔ w ∈ g v) {a b : Vx} : Rch f a b ↔ Rch g a b :=
  ⟨Rch.mono fun v w => (h v w).1, Rch.mono fun v w => (h v w).2⟩
theorem Rch.first {f : Vx → List Vx} {a b : Vx} : Rch f a b → ∃ y, y ∈ f a ∧ (y = b ∨ Rch f y b)
  | .one hd => ⟨_, hd, .inl rfl⟩
  | .step hy hd => by
    obtain ⟨y, h1, h2⟩ := Rch.first hy
    refine ⟨y, h1, .inr ?_⟩
    rcases h2 with rfl | h2
    · exact .one hd
    · exact .step h2 hd
section
variable {E : Ed} {up down : Vx} {ids : List Vx}
/-- New lines' steps: none of them was there. -/
structure Fresh (E : Ed) (up : Vx) (ids : List Vx) (down : Vx) : Prop where
  ne : ids ≠ []
  nd : ids.Nodup
  hup : up ∉ ids
  hdown : down ∉ ids
  fst : ∀ e ∈ E, e.1 ∉ ids
  snd : ∀ e ∈ E, e.2 ∉ ids
  rch : Rch (nxE E) up down
abbrev E2 (E : Ed) (up : Vx) (ids : List Vx) (down : Vx) : Ed := E ++ edP up ids down
theorem e2_mem {x y : Vx} : y ∈ nxE (E2 E up ids down) x ↔ (x, y) ∈ E ∨ (x, y) ∈ edP up ids down := by rw [nxE_mem, List.mem_append]
theorem Fresh.old (h : Fresh E up ids down) {x : Vx} (hx : x ∉ ids) : ∀ {y : Vx}, Rch (nxE (E2 E up ids down)) x y → (y ∉ ids → Rch (nxE E) x y) ∧ (y ∈ ids → x = up ∨ Rch (nxE E) x up)
  | y, .one hd => by
    rcases e2_mem.1 hd with e | e
    · exact ⟨fun _ => .one (nxE_mem.2 e), fun c => absurd c (h.snd _ e)⟩
    · rcases edP_fst e with f | f
      · subst f; exact ⟨fun c => absurd (edP_up h.ne h.hup e) c, fun _ => .inl rfl⟩
      · exact absurd f hx
  | y, .step (y := z) hz hd => by
    have ih := Fresh.old h hx hz
    rcases e2_mem.1 hd with e | e
    · exact ⟨fun _ => .step (ih.1 (h.fst _ e)) (nxE_mem.2 e), fun c => absurd c (h.snd _ e)⟩
    · rcases edP_fst e with f | f
      · subst f; exact ⟨fun c => absurd (edP_up h.ne h.hup e) c, fun _ => .inr (ih.1 h.hup)⟩
      · have ih2 := ih.2 f
        refine ⟨fun c => ?_, fun _ => ih2⟩
        rcases edP_snd e with g | g
        · exact absurd g c
        · subst g
          rcases ih2 with k | k
          · rw [k]; exact h.rch
          · exact k.trans h.rch
theorem Fresh.new (h : Fresh E up ids down) (hac : ∀ v, ¬ Rch (nxE E) v v) {i : Nat} {x : Vx} (hx : ids[i]? = some x) : ∀ {y : Vx}, Rch (nxE (E2 E up ids down)) x y → (∃ j, i < j ∧ ids[j]? = some y) ∨ ((y = down ∨ Rch (nxE E) down y) ∧ y ∉ ids) := by
  have hxm : x ∈ ids := List.mem_of_getElem? hx
  have edge : ∀ {j : Nat} {z y : Vx}, ids[j]? = some z → (z, y) ∈ edP up ids down → ids[j + 1]? = some y ∨ y = down := fun {j z y} hz he => by
    obtain ⟨k, h1, h2⟩ := edP_mem.1 he
    cases k with
    | zero => cases h1; exact absurd (List.mem_of_getElem? hz) h.hup
    | succ k =>
      have h1 : ids[k]? = some z := h1
      have hjk : j = k := by
        obtain ⟨a1, a2⟩ := List.getElem?_eq_some_iff.1 hz
        obtain ⟨b1, b2⟩ := List.getElem?_eq_some_iff.1 h1
        exact (List.getElem_inj h.nd).1 (a2.trans b2.symm)
      subst hjk
      by_cases c : j + 1 < ids.length
      · rw [List.getElem?_append_left c] at h2; exact .inl h2
      · rw [List.getElem?_append_right (by omega)] at h2
        right
        have := List.mem_of_getElem? h2
        exact List.mem_singleton.1 this
  have back : ∀ {z y : Vx}, (z = down ∨ Rch (nxE E) down z) → z ∉ ids → (z, y) ∈ edP up ids down → False := fun {z y} hz hn he => by
    rcases edP_fst he with f | f
    · subst f
      rcases hz with k | k
      · rw [k] at h; exact hac _ h.rch
      · exact hac _ (h.rch.trans k)
    · exact hn f
  intro y hr
  induction hr with
  | one hd =>
    rcases e2_mem.1 hd with e | e
    · exact absurd hxm (h.fst _ e)
    · rcases edge hx e with f | f
      · exact .inl ⟨i + 1, by omega, f⟩
      · subst f; exact .inr ⟨.inl rfl, h.hdown⟩
  | step hz hd ih =>
    rcases ih with ⟨j, hj, hzj⟩ | ⟨hz2, hn⟩
    · rcases e2_mem.1 hd with e | e
      · exact absurd (List.mem_of_getElem? hzj) (h.fst _ e)
      · rcases edge hzj e with f | f
        · exact .inl ⟨j + 1, by omega, f⟩
        · subst f; exact .inr ⟨.inl rfl, h.hdown⟩
    · rcases e2_mem.1 hd with e | e
      · refine .inr ⟨.inr ?_, h.snd _ e⟩
        rcases hz2 with k | k
        · subst k; exact .one (nxE_mem.2 e)
        · exact .step k (nxE_mem.2 e)
      · exact (back hz2 hn e).elim
theorem Fresh.acy (h : Fresh E up ids down) (hac : ∀ v, ¬ Rch (nxE E) v v) : ∀ v, ¬ Rch (nxE (E2 E up ids down)) v v := fun v hr => by
  by_cases c : v ∈ ids
  · obtain ⟨i, hi⟩ := List.getElem?_of_mem c
    rcases h.new hac hi hr with ⟨j, hj, e⟩ | ⟨_, e⟩
    · obtain ⟨a1, a2⟩ := List.getElem?_eq_some_iff.1 hi
      obtain ⟨b1, b2⟩ := List.getElem?_eq_some_iff.1 e
      have := (List.getElem_inj h.nd).1 (a2.trans b2.symm)
      omega
    · exact e c
  · exact hac v ((h.old c hr).1 c)
theorem E2.rch_old {x y : Vx} (hr : Rch (nxE E) x y) : Rch (nxE (E2 E up ids down)) x y := hr.mono fun v w hw => e2_mem.2 (.inl (nxE_mem.1 hw))
theorem chain_rch : ∀ {ids : List Vx} {a d : Vx} {F : Ed}, (∀ e ∈ edP a ids d, e ∈ F) → (∀ v ∈ ids, Rch (nxE F) a v ∧ Rch (nxE F) v d) ∧ Rch (nxE F) a d
  | [], a, d, F, h => ⟨fun v hv => (by cases hv), .one (nxE_mem.2 (h _ (by simp [edP])))⟩
  | v :: r, a, d, F, h => by
    have hav : Rch (nxE F) a v := .one (nxE_mem.2 (h (a, v) (by simp [edP])))
    obtain ⟨ih1, ih2⟩ := chain_rch (ids := r) (a := v) (d := d) (F := F) fun e he => h e (by simp [edP, he])
    refine ⟨fun w hw => ?_, hav.trans ih2⟩
    rcases List.mem_cons.1 hw with e | e
    · rw [e]; exact ⟨hav, ih2⟩
    · exact ⟨hav.trans (ih1 w e).1, (ih1 w e).2⟩
end
end Go.Proofs.YtolpkeajokjbjaaDoor
