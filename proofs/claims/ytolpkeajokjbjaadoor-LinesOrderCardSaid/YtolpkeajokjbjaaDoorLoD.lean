/- Lines: what the program keeps and the document's graph: the same. -/
import Derived.Test.YtolpkeajokjbjaaDoorLoC
set_option linter.unusedVariables false
set_option linter.unusedSimpArgs false
namespace Go.Proofs.YtolpkeajokjbjaaDoor
open Go.RowKit Go.L Go.Lib
attribute [local irreducible] LL LW LO
def textG : List Ad → Vx → List UInt8
  | [], _ => []
  | a :: l, v => if 0 ≤ placeG a.ids v then a.texts.getD (placeG a.ids v).toNat [] else textG l v
def killsOf (D : List De) (v : Vx) : List Hs := (D.filter fun d => decide (d.v = v)).map (·.by_)
abbrev ptOf (a : Ad) : Pt := ⟨a.up, a.down, a.ids⟩
structure Rel (m : At) (q : Ps) (n : Int) (r : Rg) : Prop where
  keys : (m.map (·.1)).Perm (topV :: botV :: idsG r.L)
  next : ∀ v, (atG m v).next = nxE (Er r) v
  prev : ∀ v, (atG m v).prev = pvE (Er r) v
  text : ∀ v, (atG m v).text = textG r.L v
  kills : ∀ v, (atG m v).kills = killsOf r.D v
  parts : ∃ z : List (Int × Ad), r.L = z.map (·.2) ∧ q.Perm (z.map (fun p => (p.1, ptOf p.2))) ∧ (z.map (·.1)).Nodup ∧ (∀ p ∈ z, 0 < p.1 ∧ p.1 ≤ n) ∧ ∀ p ∈ z, ∀ v ∈ p.2.ids, (atG m v).part = p.1
section
variable {κ α : Type} [DecidableEq κ]
theorem look_keys : ∀ {l : List (κ × α)} {a : κ}, (lookA l a).isSome = true ↔ a ∈ l.map (·.1)
  | [], a => by simp [lookA]
  | p :: r, a => by
    rw [lookA, List.map_cons, List.mem_cons, ← look_keys (l := r)]
    by_cases c : p.1 = a
    · simp [c]
    · have : ¬ a = p.1 := fun e => c e.symm
      simp [c, this]
theorem keys_set : ∀ (l : List (κ × α)) (a : κ) (x : α), (setA l a x).map (·.1) = if a ∈ l.map (·.1) then l.map (·.1) else l.map (·.1) ++ [a]
  | [], a, x => by simp [setA]
  | p :: r, a, x => by
    rw [setA]
    by_cases c : p.1 = a
    · subst c; simp
    · have c2 : ¬ a = p.1 := fun e => c e.symm
      rw [if_neg c, List.map_cons, keys_set r a x, List.map_cons]
      by_cases d : a ∈ r.map (·.1)
      · rw [if_pos d, if_pos (List.mem_cons_of_mem _ d)]
      · rw [if_neg d, if_neg (fun e => (List.mem_cons.1 e).elim c2 d)]; rfl
theorem set_new : ∀ {l : List (κ × α)} {a : κ} {x : α}, a ∉ l.map (·.1) → setA l a x = l ++ [(a, x)]
  | [], a, x, _ => rfl
  | p :: r, a, x, h => by
    rw [List.map_cons, List.mem_cons, not_or] at h
    rw [setA, if_neg (fun e => h.1 e.symm), set_new h.2]; rfl
end
theorem Rel.has {m : At} {q : Ps} {n : Int} {r : Rg} (h : Rel m q n r) (v : Vx) : (lookA m v).isSome = hasG r v := by
  rw [Bool.eq_iff_iff, look_keys, h.keys.mem_iff]
  unfold hasG
  rw [Bool.or_eq_true, decide_eq_true_eq, endsB_true, List.mem_cons, List.mem_cons, or_assoc]
/-! ### steps, many at once -/
theorem fold_next : ∀ (E : Ed) (m : At) (v : Vx), (atG (E.foldl (fun s e => stepA s e.1 e.2) m) v).next = (atG m v).next ++ nxE E v
  | [], m, v => by simp [nxE]
  | (a, b) :: E, m, v => by
    show (atG (E.foldl _ (stepA m a b)) v).next = _
    rw [fold_next E, step_next, nxE_cons, List.append_assoc]
theorem fold_prev : ∀ (E : Ed) (m : At) (v : Vx), (atG (E.foldl (fun s e => stepA s e.1 e.2) m) v).prev = (atG m v).prev ++ pvE E v
  | [], m, v => by simp [pvE]
  | (a, b) :: E, m, v => by
    show (atG (E.foldl _ (stepA m a b)) v).prev = _
    rw [fold_prev E, step_prev, pvE_cons, List.append_assoc]
theorem step_rest (m : At) (a b v : Vx) : (atG (stepA m a b) v).text = (atG m v).text ∧ (atG (stepA m a b) v).kills = (atG m v).kills ∧ (atG (stepA m a b) v).part = (atG m v).part := by
  unfold stepA
  simp only [atG_set]
  by_cases c : b = v
  · subst c
    by_cases d : a = b
    · simp [d]
    · simp [d]
  · by_cases d : a = v
    · simp [c, d]
    · simp [c, d]
theorem fold_rest : ∀ (E : Ed) (m : At) (v : Vx), (atG (E.foldl (fun s e => stepA s e.1 e.2) m) v).text = (atG m v).text ∧ (atG (E.foldl (fun s e => stepA s e.1 e.2) m) v).kills = (atG m v).kills ∧ (atG (E.foldl (fun s e => stepA s e.1 e.2) m) v).part = (atG m v).part
  | [], m, v => ⟨rfl, rfl, rfl⟩
  | (a, b) :: E, m, v => by
    have h1 := fold_rest E (stepA m a b) v
    have h2 := step_rest m a b v
    exact ⟨h1.1.trans h2.1, h1.2.1.trans h2.2.1, h1.2.2.trans h2.2.2⟩
theorem step_keys {m : At} {a b : Vx} (ha : a ∈ m.map (·.1)) (hb : b ∈ m.map (·.1)) : (stepA m a b).map (·.1) = m.map (·.1) := by
  unfold stepA
  simp only [keys_set, if_pos ha, if_pos hb]
theorem fold_keys : ∀ {E : Ed} {m : At}, (∀ e ∈ E, e.1 ∈ m.map (·.1) ∧ e.2 ∈ m.map (·.1)) → (E.foldl (fun s e => stepA s e.1 e.2) m).map (·.1) = m.map (·.1)
  | [], m, _ => rfl
  | (a, b) :: E, m, h => by
    have h1 := h (a, b) (by simp)
    have hk := step_keys h1.1 h1.2
    show (E.foldl _ (stepA m a b)).map (·.1) = _
    rw [fold_keys (m := stepA m a b) fun e he => by rw [hk]; exact h e (List.mem_cons_of_mem _ he), hk]
/-! ### new lines laid -/
theorem lay_keys (part : Int) : ∀ {ids : List Vx} {ts : List (List UInt8)} {m : At}, ids.length = ts.length → ids.Nodup → (∀ v ∈ ids, v ∉ m.map (·.1)) → (layA m part ids ts).map (·.1) = m.map (·.1) ++ ids
  | [], [], m, _, _, _ => by simp [layA]
  | [], _ :: _, m, h, _, _ => by cases h
  | _ :: _, [], m, h, _, _ => by cases h
  | v :: vs, t :: ts, m, h, hn, hv => by
    obtain ⟨h1, h2⟩ := List.nodup_cons.1 hn
    have hk : (setA m v (⟨t, [], part, [], []⟩ : Ln)).map (·.1) = m.map (·.1) ++ [v] := by rw [keys_set, if_neg (hv v (by simp))]
    show (layA (setA m v ⟨t, [], part, [], []⟩) part vs ts).map (·.1) = _
    rw [lay_keys part (by simpa using h) h2 fun w hw => by
      rw [hk, List.mem_append, List.mem_singleton, not_or]
      exact ⟨hv w (List.mem_cons_of_mem _ hw), fun e => h1 (e ▸ hw)⟩, hk, List.append_assoc]
    rfl
theorem lay_old (part : Int) : ∀ {ids : List Vx} {ts : List (List UInt8)} {m : At} {v : Vx}, v ∉ ids → atG (layA m part ids ts) v = atG m v
  | [], _, m, v, _ => by simp [layA]
  | _ :: _, [], m, v, _ => by simp [layA]
  | a :: vs, t :: ts, m, v, h => by
    rw [List.mem_cons, not_or] at h
    show atG (layA (setA m a ⟨t, [], part, [], []⟩) part vs ts) v = _
    rw [lay_old part h.2, atG_set, if_neg fun e => h.1 e.symm]
theorem lay_new (part : Int) : ∀ {ids : List Vx} {ts : List (List UInt8)} {m : At} {v : Vx}, ids.length = ts.length → ids.Nodup → v ∈ ids → atG (layA m part ids ts) v = ⟨ts.getD (placeG ids v).toNat [], [], part, [], []⟩
  | [], _, m, v, _, _, h => by cases h
  | _ :: _, [], m, v, h, _, _ => by cases h
  | a :: vs, t :: ts, m, v, hl, hn, h => by
    obtain ⟨h1, h2⟩ := List.nodup_cons.1 hn
    show atG (layA (setA m a ⟨t, [], part, [], []⟩) part vs ts) v = _
    by_cases c : a = v
    · subst c
      rw [lay_old part h1, atG_set, if_pos rfl, placeG, if_pos rfl]
      rfl
    · have hv : v ∈ vs := (List.mem_cons.1 h).resolve_left fun e => c e.symm
      rw [lay_new part (by simpa using hl) h2 hv, placeG, if_neg c]
      have hp : ¬ placeG vs v < 0 := fun e => placeG_neg.1 e hv
      rw [if_neg hp, show (placeG vs v + 1).toNat = (placeG vs v).toNat + 1 by omega]
      rfl
/-! ### the calls -/
theorem at0_all (v : Vx) : atG at0 v = ln0 := by
  have : at0 = setA (setA [] topV ln0) botV ln0 := at0_set.symm
  rw [this, atG_set, atG_set]
  split
  · rfl
  · split <;> rfl
theorem ok0 : Ok ⟨[], []⟩ := by
  have hE : Er ⟨[], []⟩ = [(topV, botV)] := rfl
  have hlast : ∀ {v w : Vx}, Rch (nxE (Er ⟨[], []⟩)) v w → w = botV := fun hr => by
    obtain ⟨y, hy⟩ := hr.last
    have := nxE_mem.1 hy
    rw [hE, List.mem_singleton] at this
    exact (Prod.mk.inj this).2
  refine ⟨List.nodup_nil, (fun v hv => by cases hv), (fun a ha => by cases ha), (fun a ha => by cases ha), (fun v hr => ?_), (by rw [hE]; simp), Nat.zero_le _, (fun d hd => by cases hd), List.nodup_nil⟩
  obtain ⟨y, hy, _⟩ := hr.first
  have h1 := nxE_mem.1 hy
  rw [hE, List.mem_singleton] at h1
  have h2 := hlast hr
  exact top_bot ((Prod.mk.inj h1).1.symm.trans h2)
theorem rel0 : Rel (stepA at0 topV botV) [] 0 ⟨[], []⟩ := by
  have hE : Er ⟨[], []⟩ = [(topV, botV)] := rfl
  have hk : at0.map (·.1) = [topV, botV] := rfl
  refine ⟨?_, fun v => ?_, fun v => ?_, fun v => ?_, fun v => ?_, [], rfl, List.Perm.refl _, List.nodup_nil, (fun p hp => by cases hp), (fun p hp => by cases hp)⟩
  · rw [step_keys (by rw [hk]; simp) (by rw [hk]; simp), hk]; exact List.Perm.refl _
  · rw [step_next, at0_all, hE, nxE_cons]; simp [nxE]
  · rw [step_prev, at0_all, hE, pvE_cons]; simp [pvE]
  · rw [(step_rest _ _ _ _).1, at0_all]; rfl
  · rw [(step_rest _ _ _ _).2.1, at0_all]; rfl
end Go.Proofs.YtolpkeajokjbjaaDoor
