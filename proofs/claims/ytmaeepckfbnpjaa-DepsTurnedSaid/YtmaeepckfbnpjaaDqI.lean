/- In the order each is told behind all that it needs. -/
import Derived.Test.YtmaeepckfbnpjaaDqH
set_option linter.unusedVariables false
set_option linter.unusedSimpArgs false
namespace Go.Proofs.Ytmaeepckfbnpjaa
open Go.RowKit Go.L Go.Lib
attribute [local irreducible] LL LW LO
theorem goO_end (l : List It) : ∀ (f : Nat) (out : List Hs), nextO l (goO l f out) = none ∨ (goO l f out).length = out.length + f
  | 0, out => .inr rfl
  | f + 1, out => by
    show nextO l (match nextO l out with | none => out | some h => goO l f (out ++ [h])) = none ∨ (match nextO l out with | none => out | some h => goO l f (out ++ [h])).length = _
    cases hq : nextO l out with
    | none => exact .inl hq
    | some h =>
      have := goO_end l f (out ++ [h])
      rw [List.length_append, List.length_singleton] at this
      exact this.imp id fun e => by show (goO l f (out ++ [h])).length = _; omega
theorem goO_told {l : List It} : ∀ (f : Nat) {out : List Hs}, Told l out → Told l (goO l f out)
  | 0, out, h => h
  | f + 1, out, h => by
    show Told l (match nextO l out with | none => out | some h => goO l f (out ++ [h]))
    cases hq : nextO l out with
    | none => exact h
    | some a => exact goO_told f (h.snoc hq)
theorem Told.kh {l : List It} : ∀ {out : List Hs}, Told l out → out.Nodup ∧ ∀ y ∈ out, y ∈ names l
  | _, .nil => ⟨List.nodup_nil, fun y hy => by cases hy⟩
  | _, .snoc ht hq => by
    obtain ⟨h1, h2⟩ := ht.kh
    obtain ⟨x, hx, e, ho, _⟩ := readyL_mem.1 (nextO_mem hq)
    refine ⟨nodup_snoc.2 ⟨h1, ho⟩, fun y hy => ?_⟩
    rcases List.mem_append.1 hy with a | a
    · exact h2 y a
    · rw [List.mem_singleton.1 a, ← e]; exact List.mem_map.2 ⟨x, hx, rfl⟩
theorem full_of {a b : List Hs} (ha : a.Nodup) (hs : ∀ x ∈ a, x ∈ b) (hl : b.length ≤ a.length) : ∀ x ∈ b, x ∈ a := fun x hx => Classical.byContradiction fun c => by
  have := (nodup_len (k := x :: a) (l := b) (List.nodup_cons.2 ⟨c, ha⟩) (fun y hy => by
    rcases List.mem_cons.1 hy with e | e
    · rw [e]; exact hx
    · exact hs y e)).1
  rw [List.length_cons] at this
  omega
/-- A set each of whose members needs another one of it holds a round. -/
theorem round_of {l : List It} (hl : l.length ≤ 256) {S : Hs → Prop} (hS : ∀ y, S y → ∃ d ∈ depsOf l y, S d) : ∀ (n : Nat) (y : Hs) (ns : List Hs), S y → IsN l y ns → ns.length ≤ n → ∃ z, S z ∧ Rch (depsOf l) z z
  | n, y, ns, hy, hns, hn => by
    obtain ⟨d, hd, hSd⟩ := hS y hy
    by_cases c : Rch (depsOf l) d d
    · exact ⟨d, hSd, c⟩
    · obtain ⟨ms, hms⟩ := isN_ex l d
      have j1 := hns.2 hl
      have j2 := hms.2 hl
      have hdn : d ∉ ms := fun e => c ((j2.2 d).1 e)
      have hlen := (nodup_len (k := d :: ms) (l := ns) (List.nodup_cons.2 ⟨hdn, j2.nodup⟩) (fun z hz => by
        rcases List.mem_cons.1 hz with e | e
        · rw [e]; exact (j1.2 d).2 (.one hd)
        · exact (j1.2 z).2 (Rch.ahead hd ((j2.2 z).1 e)))).1
      rw [List.length_cons] at hlen
      cases n with
      | zero => omega
      | succ n => exact round_of hl hS n d ms hSd hms (by omega)
theorem missS_nil {l : List It} (hl : l.length ≤ 256) (h : (missS l).length = 0) : ∀ x ∈ l, ∀ d ∈ x.deps, d ∈ names l := fun x hx d hd => Classical.byContradiction fun c => by
  have hm : d ∈ missS l := by
    unfold missS
    rw [if_neg (by omega), sortU_mem]
    unfold missO
    exact List.mem_filter.2 ⟨List.mem_flatMap.2 ⟨x, hx, hd⟩, decide_eq_true c⟩
  rw [List.eq_nil_of_length_eq_zero h] at hm
  cases hm
/-- What the order says if it is one, and if it is none. -/
theorem order_bad {l : List It} (hl : l.length ≤ 256) (h : (orderS l).2 ≠ 0) : (orderS l).1 = [] ∧ (closedS l = true → ∃ x ∈ l, Rch (depsOf l) x.name x.name) := by
  unfold orderS at h ⊢
  rw [if_neg (by omega)] at h ⊢
  by_cases c1 : (names l).Nodup
  · rw [if_neg (fun e => e c1)] at h ⊢
    by_cases c2 : 0 < (missS l).length
    · rw [if_pos c2]
      refine ⟨rfl, fun hc => ?_⟩
      simp only [closedS, Bool.and_eq_true, decide_eq_true_eq] at hc
      omega
    · rw [if_neg c2] at h ⊢
      by_cases c3 : (goO l l.length []).length < l.length
      · rw [if_pos c3]
        refine ⟨rfl, fun _ => ?_⟩
        have ht : Told l (goO l l.length []) := goO_told l.length Told.nil
        obtain ⟨hnd, hsub⟩ := ht.kh
        have hend : nextO l (goO l l.length []) = none := (goO_end l l.length []).resolve_right (by simp; omega)
        obtain ⟨out, ho⟩ : ∃ out, out = goO l l.length [] := ⟨_, rfl⟩
        rw [← ho] at ht hnd hsub hend c3
        have hR : readyL l out = [] := by
          apply List.eq_nil_iff_forall_not_mem.2
          intro y hy
          unfold nextO at hend
          have : y ∈ sortH (readyL l out) := sortH_mem.2 hy
          rw [List.head?_eq_none_iff.1 hend] at this
          cases this
        have hS : ∀ y, (y ∈ names l ∧ y ∉ out) → ∃ d ∈ depsOf l y, d ∈ names l ∧ d ∉ out := fun y ⟨hy, hyo⟩ => by
          obtain ⟨x, hx, rfl⟩ := List.mem_map.1 hy
          apply Classical.byContradiction
          intro c
          have hall : ∀ d ∈ x.deps, d ∈ out := fun d hd => Classical.byContradiction fun hdo =>
            c ⟨d, depsOf_mem.2 ⟨x, hx, rfl, hd⟩, missS_nil hl (by omega) x hx d hd, hdo⟩
          have : x.name ∈ readyL l out := readyL_mem.2 ⟨x, hx, rfl, hyo, hall⟩
          rw [hR] at this
          cases this
        have hex : ∃ y ∈ names l, y ∉ out := Classical.byContradiction fun c => by
          have := (nodup_len (k := names l) (l := out) c1 fun y hy => Classical.byContradiction fun hyo => c ⟨y, hy, hyo⟩).1
          rw [List.length_map] at this
          omega
        obtain ⟨y, hy, hyo⟩ := hex
        obtain ⟨ns, hns⟩ := isN_ex l y
        obtain ⟨z, ⟨hz, _⟩, hr⟩ := round_of hl (S := fun y => y ∈ names l ∧ y ∉ out) hS ns.length y ns ⟨hy, hyo⟩ hns (Nat.le_refl _)
        obtain ⟨x, hx, rfl⟩ := List.mem_map.1 hz
        exact ⟨x, hx, hr⟩
      · rw [if_neg c3] at h
        exact absurd rfl h
  · rw [if_pos c1]
    refine ⟨rfl, fun hc => ?_⟩
    simp only [closedS, Bool.and_eq_true, decide_eq_true_eq] at hc
    exact absurd hc.1.2 c1
theorem place_app {out : List Hs} (r : List Hs) : ∀ {z : Hs}, z ∈ out → placeS (out ++ r) z = placeS out z := by
  induction out with
  | nil => intro z hz; cases hz
  | cons a out ih =>
    intro z hz
    show placeS (a :: (out ++ r)) z = _
    rw [placeS, placeS]
    by_cases c : a = z
    · rw [if_pos c, if_pos c]
    · rw [if_neg c, if_neg c, ih ((List.mem_cons.1 hz).resolve_left fun e => c e.symm)]
theorem place_lt : ∀ {out : List Hs} {z : Hs}, z ∈ out → 0 ≤ placeS out z ∧ placeS out z < out.length
  | a :: out, z, hz => by
    rw [placeS, List.length_cons]
    by_cases c : a = z
    · rw [if_pos c]; omega
    · have := place_lt ((List.mem_cons.1 hz).resolve_left fun e => c e.symm)
      rw [if_neg c, if_neg (by omega)]
      omega
theorem place_new : ∀ {out : List Hs} {h : Hs}, h ∉ out → placeS (out ++ [h]) h = out.length
  | [], h, _ => by show placeS [h] h = 0; rw [placeS, if_pos rfl]
  | a :: out, h, hn => by
    have := place_new (out := out) (h := h) fun e => hn (List.mem_cons_of_mem _ e)
    show placeS (a :: (out ++ [h])) h = _
    rw [placeS, if_neg (fun e => hn (by rw [e]; simp)), this, if_neg (by omega), List.length_cons]
    omega
theorem Told.behind {l : List It} (hn : (names l).Nodup) : ∀ {out : List Hs}, Told l out → ∀ {y d : Hs}, y ∈ out → d ∈ depsOf l y → d ∈ out ∧ placeS out d < placeS out y
  | _, .nil, y, d, hy, _ => by cases hy
  | _, .snoc (out := out) (h := h) ht hq, y, d, hy, hd => by
    obtain ⟨z, hz, e2, hho, hall⟩ := readyL_mem.1 (nextO_mem hq)
    rcases List.mem_append.1 hy with e | e
    · obtain ⟨h1, h2⟩ := ht.behind hn e hd
      exact ⟨List.mem_append_left _ h1, by rw [place_app _ h1, place_app _ e]; exact h2⟩
    · rw [List.mem_singleton] at e
      subst e
      obtain ⟨x, hx, e3, hdx⟩ := depsOf_mem.1 hd
      have := item_uniq hn hx hz (e3.trans e2.symm)
      subst this
      have h1 := hall d hdx
      exact ⟨List.mem_append_left _ h1, by rw [place_app _ h1, place_new hho]; exact (place_lt h1).2⟩
theorem Told.behindR {l : List It} (hn : (names l).Nodup) {out : List Hs} (ht : Told l out) {y : Hs} (hy : y ∈ out) : ∀ {d : Hs}, Rch (depsOf l) y d → d ∈ out ∧ placeS out d < placeS out y
  | _, .one hd => ht.behind hn hy hd
  | _, .step hr hd => by
    obtain ⟨h1, h2⟩ := ht.behindR hn hy hr
    obtain ⟨h3, h4⟩ := ht.behind hn h1 hd
    exact ⟨h3, by omega⟩
theorem order_good {l : List It} (hl : l.length ≤ 256) (h : (orderS l).2 = 0) : (orderS l).1.length = l.length ∧ closedS l = true ∧ ∀ x ∈ l, x.name ∈ (orderS l).1 ∧ ∀ d, Rch (depsOf l) x.name d → d ∈ (orderS l).1 ∧ placeS (orderS l).1 d < placeS (orderS l).1 x.name := by
  have hle := orderS_len l
  unfold orderS at h hle ⊢
  rw [if_neg (by omega)] at h hle ⊢
  by_cases c1 : (names l).Nodup
  · rw [if_neg (fun e => e c1)] at h hle ⊢
    by_cases c2 : 0 < (missS l).length
    · rw [if_pos c2] at h; cases h
    · rw [if_neg c2] at h hle ⊢
      by_cases c3 : (goO l l.length []).length < l.length
      · rw [if_pos c3] at h; cases h
      · rw [if_neg c3] at hle ⊢
        have ht : Told l (goO l l.length []) := goO_told l.length Told.nil
        obtain ⟨hnd, hsub⟩ := ht.kh
        have hle : (goO l l.length []).length ≤ l.length := hle
        refine ⟨by show (goO l l.length []).length = _; omega, ?_, fun x hx => ?_⟩
        · simp only [closedS, Bool.and_eq_true, decide_eq_true_eq]
          exact ⟨⟨hl, c1⟩, by omega⟩
        · have hx2 : x.name ∈ goO l l.length [] := full_of hnd hsub (by rw [List.length_map]; omega) x.name (List.mem_map.2 ⟨x, hx, rfl⟩)
          exact ⟨hx2, fun d hd => ht.behindR c1 hx2 hd⟩
  · rw [if_pos c1] at h; cases h
end Go.Proofs.Ytmaeepckfbnpjaa
