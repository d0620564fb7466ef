/- Lines: the order by counting, in plain words. -/
import Derived.Test.YtolpkeajokjbjaaDoorLpI
set_option linter.unusedVariables false
set_option linter.unusedSimpArgs false
namespace Go.Proofs.YtolpkeajokjbjaaDoor
open Go.RowKit Go.L Go.Lib
attribute [local irreducible] LL LW LO
theorem u8_tri (a b : UInt8) : a < b ∨ a = b ∨ b < a := by
  rcases Nat.lt_trichotomy a.toNat b.toNat with h | h | h
  · exact .inl (UInt8.lt_iff_toNat_lt.2 h)
  · exact .inr (.inl (UInt8.toNat_inj.1 h))
  · exact .inr (.inr (UInt8.lt_iff_toNat_lt.2 h))
theorem cb_eq : ∀ {x y : List UInt8}, compareBytes x y = 0 → x = y
  | [], [], _ => rfl
  | [], _ :: _, h => by simp [compareBytes] at h
  | _ :: _, [], h => by simp [compareBytes] at h
  | a :: x, b :: y, h => by
    rw [compareBytes] at h
    split at h
    · cases h
    · split at h
      · cases h
      · rename_i h1 h2
        rcases u8_tri a b with c | c | c
        · exact (h1 c).elim
        · rw [c, cb_eq h]
        · exact (h2 c).elim
theorem cb_trans : ∀ {x y z : List UInt8}, compareBytes x y < 0 → compareBytes y z < 0 → compareBytes x z < 0
  | [], [], _, h, _ => by simp [compareBytes] at h
  | [], _ :: _, [], _, h => by simp [compareBytes] at h
  | [], _ :: _, _ :: _, _, _ => by simp [compareBytes]
  | _ :: _, [], _, h, _ => by simp [compareBytes] at h
  | _ :: _, _ :: _, [], _, h => by simp [compareBytes] at h
  | a :: x, b :: y, c :: z, h, k => by
    rw [compareBytes] at h k ⊢
    rcases u8_tri a b with p | p | p
    · rcases u8_tri b c with q | q | q
      · rw [if_pos (UInt8.lt_trans p q)]; decide
      · subst q; rw [if_pos p]; decide
      · rw [if_neg (UInt8.lt_asymm q), if_pos q] at k; cases k
    · subst p
      rcases u8_tri a c with q | q | q
      · rw [if_pos q]; decide
      · subst q
        rw [if_neg (UInt8.lt_irrefl a), if_neg (UInt8.lt_irrefl a)] at h k ⊢
        exact cb_trans h k
      · rw [if_neg (UInt8.lt_asymm q), if_pos q] at k; cases k
    · rw [if_neg (UInt8.lt_asymm p), if_pos p] at h; cases h
theorem ltV_iff {a b : Vx} : ltV a b ↔ compareBytes a.p.1 b.p.1 < 0 ∨ (a.p = b.p ∧ a.n < b.n) := by
  unfold ltV cmpV
  by_cases c : compareBytes a.p.1 b.p.1 = 0
  · have hp : a.p = b.p := Subtype.ext (cb_eq c)
    rw [if_neg (fun d => d c)]
    unfold cmpI
    constructor
    · intro h
      split at h
      · exact .inr ⟨hp, by assumption⟩
      · split at h <;> omega
    · rintro (h | ⟨_, h⟩)
      · omega
      · rw [if_pos h]; decide
  · rw [if_pos c]
    constructor
    · exact .inl
    · rintro (h | ⟨h, _⟩)
      · exact h
      · exact absurd (by rw [h]; have := cmpB_anti b.p.1 b.p.1; omega) c
theorem ltV_trans {a b c : Vx} (h1 : ltV a b) (h2 : ltV b c) : ltV a c := by
  rw [ltV_iff] at *
  rcases h1 with h1 | ⟨h1, k1⟩ <;> rcases h2 with h2 | ⟨h2, k2⟩
  · exact .inl (cb_trans h1 h2)
  · rw [← h2]; exact .inl h1
  · rw [h1]; exact .inl h2
  · exact .inr ⟨h1.trans h2, by omega⟩
theorem ltV_tri (a b : Vx) : ltV a b ∨ a = b ∨ ltV b a := by
  simp only [ltV_iff]
  have := cmpB_anti a.p.1 b.p.1
  rcases Int.lt_trichotomy (compareBytes a.p.1 b.p.1) 0 with h | h | h
  · exact .inl (.inl h)
  · have hp : a.p = b.p := Subtype.ext (cb_eq h)
    rcases Int.lt_trichotomy a.n b.n with k | k | k
    · exact .inl (.inr ⟨hp, k⟩)
    · exact .inr (.inl (vx_ext hp k))
    · exact .inr (.inr (.inr ⟨hp.symm, k⟩))
  · exact .inr (.inr (.inl (by omega)))
theorem minV_spec : ∀ (l : List Vx) (a : Vx), minV a l ∈ a :: l ∧ ∀ w ∈ a :: l, w = minV a l ∨ ltV (minV a l) w
  | [], a => ⟨by simp [minV], fun w hw => .inl (List.mem_singleton.1 hw)⟩
  | x :: l, a => by
    obtain ⟨h1, h2⟩ := minV_spec l (if cmpV x a < 0 then x else a)
    rw [minV]
    by_cases c : cmpV x a < 0
    · rw [if_pos c] at h1 h2 ⊢
      refine ⟨List.mem_cons_of_mem _ h1, fun w hw => ?_⟩
      rcases List.mem_cons.1 hw with e | e
      · subst e
        rcases h2 x (by simp) with f | f
        · rw [← f]; exact .inr c
        · exact .inr (ltV_trans f c)
      · exact h2 w e
    · rw [if_neg c] at h1 h2 ⊢
      refine ⟨(List.mem_cons.1 h1).elim (fun e => by rw [e]; simp) fun e => List.mem_cons_of_mem _ (List.mem_cons_of_mem _ e), fun w hw => ?_⟩
      rcases List.mem_cons.1 hw with e | e
      · exact h2 w (by rw [e]; simp)
      · rcases List.mem_cons.1 e with f | f
        · subst f
          rcases h2 a (by simp) with g | g
          · rw [← g]
            rcases ltV_tri a w with k | k | k
            · exact .inr k
            · exact .inl k.symm
            · exact absurd k c
          · rcases ltV_tri a w with k | k | k
            · exact .inr (ltV_trans g k)
            · rw [← k]; exact .inr g
            · exact absurd k c
        · exact h2 w (List.mem_cons_of_mem _ f)
theorem minV_least {C : Vx → Prop} {a : Vx} {l : List Vx} (h : ∀ v, C v ↔ v ∈ a :: l) : Least C (minV a l) :=
  ⟨(h _).2 (minV_spec l a).1, fun w hw => (minV_spec l a).2 w ((h w).1 hw)⟩
/-! ### counting -/
abbrev Ee (r : Rg) : Vx → Vx → Prop := fun u v => v ∈ nxE (Er r) u
abbrev Ss (r : Rg) : Vx → Prop := fun v => v ∈ idsG r.L
def remE (r : Rg) (v : Vx) (P : List Vx) : Nat := (pvE (Er r) v).countP fun u => decide (u ∉ P)
theorem cnt_step {out : List Vx} {h : Vx} (hh : h ∉ out) : ∀ l : List Vx, l.countP (fun d => decide (d ∉ out)) = l.countP (fun d => decide (d ∉ out ++ [h])) + l.count h
  | [] => rfl
  | a :: l => by
    rw [List.countP_cons, List.countP_cons, List.count_cons, cnt_step hh l]
    by_cases c : a = h
    · subst c; simp [hh]; omega
    · have : (a ∉ out ++ [h]) ↔ a ∉ out := by simp [c]
      simp only [this, beq_eq_false_iff_ne.2 c]
      simp; omega
theorem remE_zero {r : Rg} {v : Vx} {P : List Vx} : remE r v P = 0 ↔ ∀ u, (u, v) ∈ Er r → u ∈ P := by
  unfold remE
  rw [List.countP_eq_zero]
  simp only [decide_eq_true_eq, Classical.not_not, pvE_mem]
theorem remE_le (r : Rg) (v : Vx) (P : List Vx) : remE r v P ≤ (pvE (Er r) v).length := List.countP_le_length
theorem last_snoc (o : List Vx) (v : Vx) : lastO (o ++ [v]) = v := by unfold lastO; simp
theorem snoc_ex {out : List Vx} (h : out ≠ []) : ∃ o v, out = o ++ [v] := ⟨out.dropLast, out.getLast h, (List.dropLast_concat_getLast h).symm⟩
theorem top_out (out : List Vx) : topV :: out = (topV :: out).dropLast ++ [lastO out] := by
  by_cases h : out = []
  · subst h; rfl
  · obtain ⟨o, v, rfl⟩ := snoc_ex h
    rw [last_snoc, ← List.cons_append, List.dropLast_concat]
theorem count_nodup {l : List Vx} (h : l.Nodup) (a : Vx) : l.count a = if a ∈ l then 1 else 0 := by
  by_cases c : a ∈ l
  · rw [if_pos c]
    have h1 := List.nodup_iff_count.1 h a
    have h2 := List.count_pos_iff.2 c
    omega
  · rw [if_neg c]; exact List.count_eq_zero.2 c
/-- Between two steps. -/
structure KO (r : Rg) (out : List Vx) (W : List (Vx × Int)) (R : List Vx) : Prop where
  nd : R.Nodup
  w : ∀ v ∈ topV :: botV :: idsG r.L, lookA W v = some ((remE r v (topV :: out).dropLast : Nat) : Int)
  r : ∀ y, y ∈ R ↔ y ∈ idsG r.L ∧ y ∉ out ∧ remE r y (topV :: out).dropLast = 0
/-- Within a step: of those behind the last one, B are still to be counted. -/
structure KI (r : Rg) (out B : List Vx) (W : List (Vx × Int)) (R : List Vx) : Prop where
  nd : R.Nodup
  w : ∀ v ∈ topV :: botV :: idsG r.L, lookA W v = some ((remE r v (topV :: out) + B.count v : Nat) : Int)
  r : ∀ y, y ∈ R ↔ y ∈ idsG r.L ∧ y ∉ out ∧ remE r y (topV :: out) + B.count y = 0
section
variable {r : Rg} {out : List Vx} {W : List (Vx × Int)} {R : List Vx}
theorem run_top (ho : Ok r) (hr : Run (Ee r) (Ss r) out) : (topV :: out).Nodup := List.nodup_cons.2 ⟨fun c => ho.top (hr.mem _ c), hr.nodup⟩
theorem KO.opened (k : KO r out W R) (ho : Ok r) (hr : Run (Ee r) (Ss r) out) : KI r out (nxE (Er r) (lastO out)) W R := by
  have hn := run_top ho hr
  have hto := top_out out
  have hl : lastO out ∉ (topV :: out).dropLast := by
    rw [hto] at hn
    exact (nodup_snoc.1 hn).2
  have hs : ∀ v, remE r v (topV :: out).dropLast = remE r v (topV :: out) + (nxE (Er r) (lastO out)).count v := fun v => by
    have := cnt_step hl (pvE (Er r) v)
    rw [← hto] at this
    unfold remE
    rw [this, count_nodup (pvE_nodup ho.end_ v), count_nodup (nxE_nodup ho.end_ _)]
    have : lastO out ∈ pvE (Er r) v ↔ v ∈ nxE (Er r) (lastO out) := by rw [pvE_mem, nxE_mem]
    by_cases c : lastO out ∈ pvE (Er r) v
    · rw [if_pos c, if_pos (this.1 c)]
    · rw [if_neg c, if_neg fun e => c (this.2 e)]
  exact ⟨k.nd, fun v hv => by rw [k.w v hv, hs], fun y => by rw [k.r, hs]⟩
theorem next_new (ho : Ok r) (hr : Run (Ee r) (Ss r) out) {w : Vx} (hw : w ∈ nxE (Er r) (lastO out)) : w ∉ out ∧ w ∈ topV :: botV :: idsG r.L := by
  refine ⟨fun c => ?_, ?_⟩
  · obtain ⟨i, hi⟩ := List.getElem?_of_mem c
    obtain ⟨o, v, rfl⟩ := snoc_ex (out := out) fun e => by rw [e] at c; cases c
    rw [last_snoc] at hw
    have hb := hr.before hi (hr.mem v (by simp)) hw
    have hil := (List.getElem?_eq_some_iff.1 hi).1
    rw [List.length_append, List.length_singleton] at hil
    rw [List.take_append_of_le_length (by omega)] at hb
    exact (nodup_snoc.1 hr.nodup).2 (List.mem_of_mem_take hb)
  · rcases ho.snd (nxE_mem.1 hw) with e | e
    · rw [e]; simp
    · exact List.mem_cons_of_mem _ (List.mem_cons_of_mem _ e)
theorem KI.step {w : Vx} {B : List Vx} (k : KI r out (w :: B) W R) (ho : Ok r) (hwo : w ∉ out) (hwk : w ∈ topV :: botV :: idsG r.L) (hwt : w ≠ topV) :
    lookA W w = some (((remE r w (topV :: out) + B.count w) + 1 : Nat) : Int) ∧ KI r out B (setA W w ((remE r w (topV :: out) + B.count w : Nat) : Int)) (if remE r w (topV :: out) + B.count w = 0 ∧ w ≠ botV then R ++ [w] else R) := by
  have hw := k.w w hwk
  rw [List.count_cons_self] at hw
  have hnR : w ∉ R := fun c => by
    obtain ⟨_, _, e⟩ := (k.r w).1 c
    rw [List.count_cons_self] at e
    omega
  have hcount : ∀ y, y ≠ w → (w :: B).count y = B.count y := fun y hy => List.count_cons_of_ne (Ne.symm hy)
  refine ⟨hw, ?_, fun v hv => ?_, fun y => ?_⟩
  · split
    · exact nodup_snoc.2 ⟨k.nd, hnR⟩
    · exact k.nd
  · rw [look_setA]
    by_cases c : w = v
    · subst c; rw [if_pos rfl]
    · rw [if_neg c, k.w v hv, hcount v fun e => c e.symm]
  · by_cases c : y = w
    · subst c
      have hS : y ∈ idsG r.L ↔ y ≠ botV := by
        constructor
        · intro e f; rw [f] at e; exact ho.bot e
        · intro e
          rcases List.mem_cons.1 hwk with f | f
          · exact absurd f hwt
          · rcases List.mem_cons.1 f with g | g
            · exact absurd g e
            · exact g
      rw [hS]
      split
      · rename_i e; exact ⟨fun _ => ⟨e.2, hwo, e.1⟩, fun _ => by simp⟩
      · rename_i e; exact ⟨fun c => absurd c hnR, fun c => absurd ⟨c.2.2, c.1⟩ e⟩
    · have hr2 : (y ∈ idsG r.L ∧ y ∉ out ∧ remE r y (topV :: out) + B.count y = 0) ↔ y ∈ R := by rw [k.r, hcount y c]
      rw [hr2]
      split
      · rw [List.mem_append, List.mem_singleton]; exact ⟨fun e => e.elim id fun e => absurd e c, .inl⟩
      · exact Iff.rfl
theorem KI.done (k : KI r out [] W R) (ho : Ok r) : ∀ y, y ∈ R ↔ Rdy (Ee r) (Ss r) out y := fun y => by
  rw [k.r]
  unfold Rdy
  refine and_congr_right fun hy => and_congr_right fun _ => ?_
  rw [List.count_nil, Nat.add_zero, remE_zero]
  constructor
  · intro h u hu he
    rcases List.mem_cons.1 (h u (nxE_mem.1 he)) with e | e
    · rw [e] at hu; exact absurd hu ho.top
    · exact e
  · intro h u he
    rcases ho.fst he with e | e
    · rw [e]; simp
    · exact List.mem_cons_of_mem _ (h u e (nxE_mem.2 he))
theorem KI.next (k : KI r out [] W R) {v : Vx} (hv : v ∈ R) {R2 : List Vx} (hn2 : R2.Nodup) (h2 : ∀ y, y ∈ R2 ↔ y ∈ R ∧ y ≠ v) : KO r (out ++ [v]) W R2 := by
  have hd : (topV :: (out ++ [v])).dropLast = topV :: out := by
    rw [← List.cons_append, List.dropLast_concat]
  refine ⟨hn2, fun u hu => by rw [hd, k.w u hu]; rfl, fun y => ?_⟩
  rw [hd, h2, k.r, List.mem_append, List.mem_singleton, not_or, List.count_nil, Nat.add_zero]
  constructor
  · rintro ⟨⟨a, b, c⟩, d⟩; exact ⟨a, ⟨b, d⟩, c⟩
  · rintro ⟨a, ⟨b, d⟩, c⟩; exact ⟨⟨a, b, c⟩, d⟩
theorem KO.first (ho : Ok r) (hw : ∀ v ∈ topV :: botV :: idsG r.L, lookA W v = some (((pvE (Er r) v).length : Nat) : Int)) : KO r [] W [] := by
  refine ⟨List.nodup_nil, fun v hv => ?_, fun y => ⟨(fun c => by cases c), fun ⟨a, _, c⟩ => ?_⟩⟩
  · rw [hw v hv]
    unfold remE
    simp
  · obtain ⟨u, hu⟩ := (ho.from_top y a).last
    have := remE_zero.1 c u (nxE_mem.1 hu)
    cases this
end
end Go.Proofs.YtolpkeajokjbjaaDoor
