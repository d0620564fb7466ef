/- Lines: Kill, Unkill; the calls in terms of the document's graph. -/
import Derived.Test.YtolpkeajokjbjaaDoorLpG
set_option linter.unusedVariables false
set_option linter.unusedSimpArgs false
namespace Go.Proofs.YtolpkeajokjbjaaDoor
open Go.RowKit Go.L Go.Lib
attribute [local irreducible] LL LW LO
def rkE (r : Rg) (v : Vx) (h : Hs) : Nat := if endsB v = true then 2 else if hasG r v = false then 111 else if (⟨v, h⟩ : De) ∈ r.D then 110 else 0
def rkG (r : Rg) (v : Vx) (h : Hs) : Rg := if rkE r v h = 0 then ⟨r.L, r.D ++ [⟨v, h⟩]⟩ else r
def ukE (r : Rg) (v : Vx) (h : Hs) : Nat := if endsB v = true then 2 else if (⟨v, h⟩ : De) ∈ r.D then 0 else 111
def ukG (r : Rg) (v : Vx) (h : Hs) : Rg := if ukE r v h = 0 then ⟨r.L, r.D.eraseIdx (placeG r.D ⟨v, h⟩).toNat⟩ else r
theorem kills_mem {D : List De} {v : Vx} {h : Hs} : h ∈ killsOf D v ↔ (⟨v, h⟩ : De) ∈ D := by
  unfold killsOf
  rw [List.mem_map]
  constructor
  · rintro ⟨d, hd, rfl⟩
    obtain ⟨a, b⟩ := List.mem_filter.1 hd
    have := of_decide_eq_true b
    subst this
    exact a
  · intro hm; exact ⟨_, List.mem_filter.2 ⟨hm, by simp⟩, rfl⟩
theorem kills_nodup {D : List De} (hn : D.Nodup) (v : Vx) : (killsOf D v).Nodup := by
  unfold killsOf
  refine nodup_map_in (List.filter_sublist.nodup hn) fun x hx y hy e => ?_
  have h1 := of_decide_eq_true (List.mem_filter.1 hx).2
  have h2 := of_decide_eq_true (List.mem_filter.1 hy).2
  cases x; cases y
  simp only [De.mk.injEq]
  exact ⟨h1.trans h2.symm, e⟩
theorem kills_len (D : List De) (v : Vx) : (killsOf D v).length ≤ D.length := by
  unfold killsOf; rw [List.length_map]; exact List.length_filter_le _ _
theorem kills_snoc (D : List De) (v u : Vx) (h : Hs) : killsOf (D ++ [⟨v, h⟩]) u = killsOf D u ++ if v = u then [h] else [] := by
  unfold killsOf
  rw [List.filter_append, List.map_append]
  congr 1
  by_cases c : v = u
  · simp [c]
  · simp [c]
theorem kills_erase {D : List De} (hn : D.Nodup) {v : Vx} {h : Hs} (hm : (⟨v, h⟩ : De) ∈ D) (u : Vx) : killsOf (D.eraseIdx (placeG D ⟨v, h⟩).toNat) u = if v = u then (killsOf D v).eraseIdx (placeG (killsOf D v) h).toNat else killsOf D u := by
  rw [place_erase hn (placeG_nn hm)]
  by_cases c : v = u
  · subst c
    rw [if_pos rfl, place_erase (kills_nodup hn v) (placeG_nn (kills_mem.2 hm))]
    unfold killsOf
    rw [List.filter_filter, List.filter_map, List.filter_filter]
    congr 1
    refine List.filter_congr fun d hd => ?_
    rw [Bool.eq_iff_iff]; simp only [Bool.and_eq_true, decide_eq_true_eq, Function.comp]
    constructor
    · rintro ⟨a, b⟩
      refine ⟨fun e => b ?_, a⟩
      cases d; simp only at a e; rw [a, e]
    · rintro ⟨a, b⟩
      exact ⟨b, fun e => a (by rw [e])⟩
  · rw [if_neg c]
    unfold killsOf
    rw [List.filter_filter]
    congr 1
    refine List.filter_congr fun d hd => ?_
    rw [Bool.eq_iff_iff]; simp only [Bool.and_eq_true, decide_eq_true_eq]
    constructor
    · rintro ⟨a, _⟩; exact a
    · intro a; exact ⟨a, fun e => c (by rw [← a, e])⟩
section
variable {m : At} {q : Ps} {n : Int} {r : Rg}
theorem Rel.woundE (h : Rel m q n r) (v : Vx) : woundE m v = if endsB v = true then 2 else if hasG r v = true then 0 else 111 := by
  unfold Go.Proofs.YtolpkeajokjbjaaDoor.woundE; rw [h.has]
theorem Rel.setK {x : Ln} {v : Vx} {D : List De} (h : Rel m q n r) (hv : v ∈ m.map (·.1)) (hx : x = { atG m v with kills := killsOf D v }) (hD : ∀ u, u ≠ v → killsOf D u = killsOf r.D u) : Rel (setA m v x) q n ⟨r.L, D⟩ := by
  have hat : ∀ u, atG (setA m v x) u = { atG m u with kills := killsOf D u } := fun u => by
    rw [atG_set]
    by_cases c : v = u
    · subst c; rw [if_pos rfl, hx]
    · rw [if_neg c, hD u fun e => c e.symm, ← h.kills u]
  obtain ⟨z, z1, z2, z3, z4, z5⟩ := h.parts
  refine ⟨by rw [keys_set, if_pos hv]; exact h.keys, fun u => ?_, fun u => ?_, fun u => ?_, fun u => ?_, z, z1, z2, z3, z4, fun p hp u hu => ?_⟩
  · rw [hat]; exact h.next u
  · rw [hat]; exact h.prev u
  · rw [hat]; exact h.text u
  · rw [hat]
  · rw [hat]; exact z5 p hp u hu
theorem Rel.killE (h : Rel m q n r) (v : Vx) (b : Hs) : killE m v b = rkE r v b := by
  unfold Go.Proofs.YtolpkeajokjbjaaDoor.killE rkE
  rw [h.woundE, h.kills]
  by_cases c : endsB v = true
  · rw [if_pos c, if_pos c]; rfl
  · rw [if_neg c, if_neg c]
    cases hg : hasG r v with
    | false => rfl
    | true =>
      simp only [if_true]
      by_cases d : (⟨v, b⟩ : De) ∈ r.D
      · rw [if_neg (by decide), if_pos (kills_mem.2 d), if_neg (by decide), if_pos d]
      · rw [if_neg (by decide), if_neg (fun e => d (kills_mem.1 e)), if_neg (by decide), if_neg d]
theorem rkE_zero {v : Vx} {b : Hs} (h : rkE r v b = 0) : endsB v = false ∧ v ∈ idsG r.L ∧ (⟨v, b⟩ : De) ∉ r.D := by
  unfold rkE at h
  split at h
  · cases h
  · rename_i c
    split at h
    · cases h
    · rename_i d
      split at h
      · cases h
      · rename_i e
        have c' : endsB v = false := by simpa using c
        refine ⟨c', ?_, e⟩
        have d' : hasG r v = true := by simpa using d
        unfold hasG at d'
        rw [c'] at d'
        simpa using d'
theorem Rel.kill (h : Rel m q n r) (ho : Ok r) (v : Vx) (b : Hs) : Rel (killA m v b) q n (rkG r v b) := by
  unfold killA rkG
  rw [h.killE]
  by_cases c : rkE r v b = 0
  · rw [if_pos c, if_pos c]
    obtain ⟨h1, h2, h3⟩ := rkE_zero c
    refine h.setK ?_ ?_ fun u hu => ?_
    · exact h.keys.mem_iff.2 (List.mem_cons_of_mem _ (List.mem_cons_of_mem _ h2))
    · rw [kills_snoc, if_pos rfl, h.kills]
    · rw [kills_snoc, if_neg fun e => hu e.symm, List.append_nil]
  · rw [if_neg c, if_neg c]; exact h
theorem Ok.rkill (ho : Ok r) (v : Vx) (b : Hs) : Ok (rkG r v b) := by
  unfold rkG
  split
  · rename_i c
    obtain ⟨h1, h2, h3⟩ := rkE_zero c
    exact ⟨ho.nd, ho.ends, ho.ne, ho.inn, ho.acy, ho.end_, ho.len, fun d hd => by
      rcases List.mem_append.1 hd with e | e
      · exact ho.dv d e
      · rw [List.mem_singleton.1 e]; exact h2, nodup_snoc.2 ⟨ho.dn, h3⟩⟩
  · exact ho
theorem ukE_zero {v : Vx} {b : Hs} (h : ukE r v b = 0) : (⟨v, b⟩ : De) ∈ r.D := by
  unfold ukE at h
  split at h
  · cases h
  · split at h
    · assumption
    · cases h
theorem Rel.unkillE (h : Rel m q n r) (ho : Ok r) (v : Vx) (b : Hs) : unkillE m v b = ukE r v b := by
  unfold Go.Proofs.YtolpkeajokjbjaaDoor.unkillE ukE
  rw [h.woundE, h.kills]
  by_cases c : endsB v = true
  · rw [if_pos c, if_pos c]; rfl
  · rw [if_neg c, if_neg c]
    by_cases d : (⟨v, b⟩ : De) ∈ r.D
    · have hv : hasG r v = true := hasG_iff.2 (.inr (.inr (ho.dv _ d)))
      have hp := placeG_nn (kills_mem.2 d)
      rw [if_pos d, hv, if_pos rfl, if_neg (by decide), if_neg (by omega)]
    · have hp := placeG_neg.2 fun e => d (kills_mem.1 e)
      rw [if_neg d]
      cases hg : hasG r v with
      | false => rfl
      | true => rw [if_pos rfl, if_neg (by decide), if_pos hp]
theorem Rel.unkill (h : Rel m q n r) (ho : Ok r) (v : Vx) (b : Hs) : Rel (unkillA m v b) q n (ukG r v b) := by
  unfold unkillA ukG
  rw [h.unkillE ho]
  by_cases c : ukE r v b = 0
  · rw [if_pos c, if_pos c]
    have hd := ukE_zero c
    refine h.setK ?_ ?_ fun u hu => ?_
    · exact h.keys.mem_iff.2 (List.mem_cons_of_mem _ (List.mem_cons_of_mem _ (ho.dv _ hd)))
    · rw [kills_erase ho.dn hd, if_pos rfl, h.kills]
    · rw [kills_erase ho.dn hd, if_neg fun e => hu e.symm]
  · rw [if_neg c, if_neg c]; exact h
theorem Ok.runkill (ho : Ok r) (v : Vx) (b : Hs) : Ok (ukG r v b) := by
  unfold ukG
  split
  · exact ⟨ho.nd, ho.ends, ho.ne, ho.inn, ho.acy, ho.end_, ho.len, fun d hd => ho.dv d ((List.eraseIdx_sublist _ _).subset hd), (List.eraseIdx_sublist _ _).nodup ho.dn⟩
  · exact ho
end
/-! ### the calls -/
/-- What a graph keeps. -/
structure St where
  ma : Nat
  mb : Nat
  n : Int
  m : At
  q : Ps
abbrev H4 (g : Nat) (s : St) : List Atom := [gC g s.ma s.mb s.n, gA s.ma s.m, gP s.mb s.q, kb]
structure StR (s : St) (r : Rg) (c : Nat) : Prop where
  rel : Rel s.m s.q s.n r
  ok : Ok r
  n0 : 0 ≤ s.n
  nc : s.n ≤ c
  dc : r.D.length ≤ c
theorem StR.mono {s : St} {r : Rg} {c d : Nat} (h : StR s r c) (hc : c ≤ d) : StR s r d := ⟨h.rel, h.ok, h.n0, by have := h.nc; omega, by have := h.dc; omega⟩
theorem StR.szl {s : St} {r : Rg} {c : Nat} (h : StR s r c) : SzL s.m 1025 := fun p hp => by
  have := h.rel.sz h.ok p.1
  unfold atG at this
  rw [mem_look (h.rel.knd h.ok) (show (p.1, p.2) ∈ s.m from hp)] at this
  exact this
theorem new_r : LCalls Tryd.prog 9 [] [kb] (fun x H' => ∃ g s, x = pt g ∧ H' = H4 g s ∧ StR s ⟨[], []⟩ 0) :=
  new_calls.mono fun x H' ⟨g, ma, mb, h1, h2⟩ => ⟨g, ⟨ma, mb, 0, stepA at0 topV botV, []⟩, h1, h2, ⟨rel0, ok0, Int.le_refl _, Int.le_refl _, Nat.le_refl _⟩⟩
end Go.Proofs.YtolpkeajokjbjaaDoor
