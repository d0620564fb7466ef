/- The order by counting what each one still waits for: in plain words. -/
import Derived.Test.YtmaeepckfbnpjaaDqA
set_option linter.unusedVariables false
set_option linter.unusedSimpArgs false
namespace Go.Proofs.Ytmaeepckfbnpjaa
open Go.RowKit Go.L Go.Lib
attribute [local irreducible] LL LW LO
theorem hpush (a : Atom) (R : List Atom) : ∀ L : List Atom, HSub (a :: (L ++ R)) (L ++ (a :: R))
  | [] => HSub.refl _
  | p :: r => HSub.trans (HSub.pick 1 rfl (HSub.refl _)) (HSub.cons (hpush a R r))
theorem hswap (L R : List Atom) : ∀ K : List Atom, HSub (K ++ (L ++ R)) (L ++ (K ++ R))
  | [] => HSub.refl _
  | k :: K => HSub.trans (HSub.cons (hswap L R K)) (hpush k (K ++ R) L)
theorem item_uniq : ∀ {l : List It}, (names l).Nodup → ∀ {x z : It}, x ∈ l → z ∈ l → x.name = z.name → x = z
  | [], _, x, z, hx, _, _ => by cases hx
  | a :: l, hn, x, z, hx, hz, h => by
    obtain ⟨h1, h2⟩ := List.nodup_cons.1 (show (a.name :: names l).Nodup from hn)
    rcases List.mem_cons.1 hx with e | e <;> rcases List.mem_cons.1 hz with f | f
    · rw [e, f]
    · rw [e] at h; exact absurd (h ▸ List.mem_map.2 ⟨z, f, rfl⟩) h1
    · rw [f] at h; exact absurd (h ▸ List.mem_map.2 ⟨x, e, rfl⟩) h1
    · exact item_uniq h2 e f h
def rem (x : It) (out : List Hs) : Nat := x.deps.countP fun d => decide (d ∉ out)
theorem cnt_step {out : List Hs} {h : Hs} (hh : h ∉ out) : ∀ l : List Hs, l.countP (fun d => decide (d ∉ out)) = l.countP (fun d => decide (d ∉ out ++ [h])) + l.count h
  | [] => rfl
  | a :: l => by
    rw [List.countP_cons, List.countP_cons, List.count_cons, cnt_step hh l]
    by_cases c : a = h
    · subst c; simp [hh]; omega
    · have : (a ∉ out ++ [h]) ↔ a ∉ out := by simp [c]
      simp only [this, beq_eq_false_iff_ne.2 c]
      simp; omega
theorem rem_step {out : List Hs} {h : Hs} (hh : h ∉ out) (x : It) : rem x out = rem x (out ++ [h]) + x.deps.count h := cnt_step hh _
theorem rem_zero {x : It} {out : List Hs} : rem x out = 0 ↔ ∀ d ∈ x.deps, d ∈ out := by unfold rem; rw [List.countP_eq_zero]; simp
theorem rem_le (x : It) (out : List Hs) : rem x out ≤ x.deps.length := List.countP_le_length
theorem byX_count (x : It) (h n : Hs) : ∀ ds : List Hs, (byX x ds h).count n = if x.name = n then ds.count h else 0
  | [] => by simp [byX]
  | a :: ds => by
    have ih := byX_count x h n ds
    unfold byX at ih ⊢
    by_cases c : a = h
    · subst c
      rw [List.filter_cons, if_pos (decide_eq_true rfl), List.map_cons]
      by_cases d : x.name = n
      · subst d
        rw [List.count_cons_self, ih, if_pos rfl, if_pos rfl, List.count_cons_self]
      · rw [List.count_cons_of_ne d, ih, if_neg d, if_neg d]
    · rw [List.filter_cons, if_neg (by rw [decide_eq_false c]; decide), ih, List.count_cons_of_ne c]
theorem by_count {h : Hs} : ∀ {l : List It}, (names l).Nodup → ∀ {x : It}, x ∈ l → (byOf l h).count x.name = x.deps.count h
  | [], _, x, hx => by cases hx
  | a :: l, hn, x, hx => by
    obtain ⟨h1, h2⟩ := List.nodup_cons.1 (show (a.name :: names l).Nodup from hn)
    rw [show byOf (a :: l) h = byX a a.deps h ++ byOf l h from rfl, List.count_append, byX_count]
    rcases List.mem_cons.1 hx with e | e
    · subst e
      have h0 : (byOf l h).count x.name = 0 := List.count_eq_zero.2 fun hm => by
        obtain ⟨z, a, b, _⟩ := depsOf_mem.1 (byOf_mem.1 hm)
        exact h1 (b ▸ List.mem_map.2 ⟨z, a, rfl⟩)
      rw [if_pos rfl, h0, Nat.add_zero]
    · have hne : ¬ a.name = x.name := fun c => h1 (by rw [c]; exact List.mem_map.2 ⟨x, e, rfl⟩)
      rw [if_neg hne, by_count h2 e, Nat.zero_add]
/-- Told one by one, the least ready one each time. -/
inductive Told (l : List It) : List Hs → Prop
  | nil : Told l []
  | snoc {out : List Hs} {h : Hs} : Told l out → nextO l out = some h → Told l (out ++ [h])
theorem Told.clo {l : List It} (hn : (names l).Nodup) : ∀ {out : List Hs}, Told l out → ∀ x ∈ l, x.name ∈ out → ∀ d ∈ x.deps, d ∈ out
  | _, .nil => fun x hx hm => by cases hm
  | _, .snoc (out := out) (h := h) ht hq => fun x hx hm d hd => by
    rcases List.mem_append.1 hm with e | e
    · exact List.mem_append_left _ (ht.clo hn x hx e d hd)
    · obtain ⟨z, hz, e2, _, hall⟩ := readyL_mem.1 (nextO_mem hq)
      rw [List.mem_singleton] at e
      have := item_uniq hn hx hz (e.trans e2.symm)
      subst this
      exact List.mem_append_left _ (hall d hd)
/-- Between two steps. -/
structure KO (l : List It) (out : List Hs) (W : List (Hs × LV)) (R : List Hs) : Prop where
  nd : R.Nodup
  w : ∀ x ∈ l, lookM W x.name = some (i64 (rem x out : Nat))
  r : ∀ y, y ∈ R ↔ y ∈ readyL l out
/-- Within a step: the first j of those that need h are looked at. -/
structure KI (l : List It) (out B : List Hs) (W : List (Hs × LV)) (R : List Hs) : Prop where
  nd : R.Nodup
  w : ∀ x ∈ l, lookM W x.name = some (i64 ((rem x out + B.count x.name : Nat) : Int))
  r : ∀ y, y ∈ R ↔ ∃ x ∈ l, x.name = y ∧ y ∉ out ∧ rem x out + B.count y = 0
theorem KO.next {l : List It} {out : List Hs} {W : List (Hs × LV)} {R : List Hs} (k : KO l out W R) (hn : (names l).Nodup) {h : Hs} {rest : List Hs} (hs : sortH R = h :: rest) : nextO l out = some h ∧ KI l (out ++ [h]) (byOf l h) W rest := by
  have hp : sortH R = sortH (readyL l out) := sortH_perm_eq (same_perm k.nd (readyL_nodup hn out) k.r)
  have hq : nextO l out = some h := by unfold nextO; rw [← hp, hs]; rfl
  obtain ⟨z, hz, hzn, hho, hzd⟩ := readyL_mem.1 (nextO_mem hq)
  have hnd : (h :: rest).Nodup := by rw [← hs]; exact (sortH_perm R).nodup_iff.2 k.nd
  obtain ⟨n1, n2⟩ := List.nodup_cons.1 hnd
  have hstep : ∀ x ∈ l, rem x out = rem x (out ++ [h]) + (byOf l h).count x.name := fun x hx => by rw [by_count hn hx]; exact rem_step hho x
  refine ⟨hq, n2, fun x hx => by rw [k.w x hx, hstep x hx], fun y => ?_⟩
  have hm : y ∈ rest ↔ y ∈ readyL l out ∧ y ≠ h := by
    rw [← k.r, ← sortH_mem (l := R), hs, List.mem_cons]
    constructor
    · intro e; exact ⟨.inr e, fun c => n1 (c ▸ e)⟩
    · rintro ⟨e | e, c⟩
      · exact absurd e c
      · exact e
  rw [hm, readyL_mem]
  constructor
  · rintro ⟨⟨x, hx, rfl, a, b⟩, c⟩
    exact ⟨x, hx, rfl, by simp [a, c], by rw [← hstep x hx]; exact rem_zero.2 b⟩
  · rintro ⟨x, hx, rfl, a, b⟩
    rw [← hstep x hx] at b
    simp only [List.mem_append, List.mem_singleton, not_or] at a
    exact ⟨⟨x, hx, rfl, a.1, rem_zero.1 b⟩, a.2⟩
theorem KI.done {l : List It} {out : List Hs} {W : List (Hs × LV)} {R : List Hs} (k : KI l out [] W R) : KO l out W R :=
  ⟨k.nd, fun x hx => by rw [k.w x hx]; rfl, fun y => by
    rw [k.r, readyL_mem]
    constructor
    · rintro ⟨x, hx, a, b, c⟩; exact ⟨x, hx, a, b, rem_zero.1 (by simpa using c)⟩
    · rintro ⟨x, hx, a, b, c⟩; exact ⟨x, hx, a, b, by simpa using rem_zero.2 c⟩⟩
/-- The next of those that need h. -/
theorem KI.step {l : List It} {out B : List Hs} {n : Hs} {W : List (Hs × LV)} {R : List Hs} (k : KI l out (n :: B) W R) (hn : (names l).Nodup) {z : It} (hz : z ∈ l) (hzn : z.name = n) (ho : n ∉ out) :
    (lookM W n = some (i64 ((rem z out + B.count n + 1 : Nat) : Int))) ∧ KI l out B (setM W n (i64 ((rem z out + B.count n : Nat) : Int))) (if rem z out + B.count n = 0 then R ++ [n] else R) := by
  have hw := k.w z hz
  rw [hzn, List.count_cons_self] at hw
  have hnR : n ∉ R := fun c => by
    obtain ⟨x, hx, a, b, e⟩ := (k.r n).1 c
    rw [List.count_cons_self] at e
    omega
  have hcount : ∀ y, y ≠ n → (n :: B).count y = B.count y := fun y hy => List.count_cons_of_ne (Ne.symm hy)
  refine ⟨hw, ?_, fun x hx => ?_, fun y => ?_⟩
  · split
    · exact nodup_snoc.2 ⟨k.nd, hnR⟩
    · exact k.nd
  · rw [look_set]
    by_cases c : n = x.name
    · have := item_uniq hn hz hx (hzn.trans c)
      subst this
      rw [if_pos c, ← c]
    · rw [if_neg c, k.w x hx, hcount _ fun e => c e.symm]
  · by_cases c : y = n
    · subst c
      have hr : (∃ x ∈ l, x.name = y ∧ y ∉ out ∧ rem x out + B.count y = 0) ↔ rem z out + B.count y = 0 := by
        constructor
        · rintro ⟨x, hx, a, b, e⟩
          have := item_uniq hn hx hz (a.trans hzn.symm)
          subst this
          exact e
        · intro e; exact ⟨z, hz, hzn, ho, e⟩
      rw [hr]
      split
      · rename_i e; exact ⟨fun _ => e, fun _ => by simp⟩
      · rename_i e; exact ⟨fun c => absurd c hnR, fun c => absurd c e⟩
    · have hr : (∃ x ∈ l, x.name = y ∧ y ∉ out ∧ rem x out + B.count y = 0) ↔ y ∈ R := by rw [k.r, hcount y c]
      rw [hr]
      split
      · rw [List.mem_append, List.mem_singleton]; exact ⟨fun e => e.elim id fun e => absurd e c, .inl⟩
      · exact Iff.rfl
/-- Who needs what was just told was not told. -/
theorem by_out {l : List It} (hn : (names l).Nodup) {out : List Hs} {h n : Hs} (ht : Told l out) (hq : nextO l out = some h) (hb : n ∈ byOf l h) : ∃ z ∈ l, z.name = n ∧ n ∉ out ++ [h] := by
  obtain ⟨z, hz, e, hd⟩ := depsOf_mem.1 (byOf_mem.1 hb)
  obtain ⟨y, hy, e2, hho, hall⟩ := readyL_mem.1 (nextO_mem hq)
  refine ⟨z, hz, e, fun c => ?_⟩
  rcases List.mem_append.1 c with c | c
  · exact hho (ht.clo hn z hz (e ▸ c) h hd)
  · rw [List.mem_singleton] at c
    have := item_uniq hn hz hy ((e.trans c).trans e2.symm)
    subst this
    exact hho (hall h hd)
end Go.Proofs.Ytmaeepckfbnpjaa
