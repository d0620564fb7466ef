/- The document's book. -/
import Derived.Test.YtnfeepmgdahmgaaDoorTkF
import Derived.Test.YtnfeepmgdahmgaaDoorLgC
set_option linter.unusedVariables false
set_option linter.unusedSimpArgs false
namespace Go.Proofs.YtnfeepmgdahmgaaDoor
open Go.RowKit Go.L
attribute [local irreducible] LL LW LO
abbrev tkL (p : List UInt8 × En) : List LV := [Str p.1, Str p.2.user, i64 p.2.till, bl (decide (0 < p.2.gone))]
abbrev tks (l : Bk) : List (List LV) := l.map tkL
abbrev rb (sec : List UInt8) (l : Bk) : List LV := [Str sec, .sl 4 (tks l) .unk]
abbrev rbz : List LV := raws [.string ⟨[].toArray⟩, .slice none 0 0]
theorem tks_size (l : Bk) : ∀ e ∈ tks l, e.length = 4 := fun e he => by
  obtain ⟨x, _, rfl⟩ := List.mem_map.1 he
  rfl
theorem tks_at {l : Bk} {i : Nat} {p : List UInt8 × En} (h : l[i]? = some p) : (tks l)[(i : Int).toNat]? = some (tkL p) := by
  rw [Int.toNat_natCast, List.getElem?_map, h]; rfl
theorem tks_snoc (l : Bk) (p : List UInt8 × En) (k : Cap) : LV.sl 4 (tks l ++ [tkL p]) k = LV.sl 4 (tks (l ++ [p])) k := by
  rw [tks, tks, List.map_append]; rfl
set_option maxRecDepth 100000 in
theorem plain16_calls (s : List UInt8) (hs : s.length < 9223372036854775807) : LCalls Tryd.prog 47 [Str s] [] (fun r H' => r = bl (!s.contains 46 && !decide (s = [])) ∧ H' = []) := by
  refine LCalls.of Tryd.func47 rfl Tryd.ntmps47 Tryd.results47 rfl (fun Rf => ?_)
  refine LW.seq ?_
  refine LW.region ?_
  refine X.u (LU.assignR Is.rfl') rfl ?_
  refine LL.nil (after_code ?_)
  refine LW.seq ?_
  refine LW.seq ?_
  refine LW.region ?_
  refine X.u (LU.assignR Is.rfl') rfl ?_
  refine LL.nil (after_code ?_)
  refine LW.block ?_
  refine X.loopK (α := Nat) (fun i => [(3, i64 i)]) [0] (fun _ => _) (fun i => i ≤ s.length ∧ ∀ j, j < i → s.getD j 0 ≠ 46) (fun i => s.length - i) (0) (EnvLe.cons (by rfl) (EnvLe.nil)) (HSub.refl _) ?_ ?_
  · exact ⟨Nat.zero_le _, fun j hj => by omega⟩
  · rintro i hI
    obtain ⟨hi, hf⟩ := hI
    refine LW.seq ?_
    refine LW.seq ?_
    refine LW.region ?_
    refine X.u (LU.moveR Is.rfl') rfl ?_
    refine X.u (LU.moveR Is.rfl') rfl ?_
    refine X.u (LU.strlenN Tryd.underlying9 Is.rfl') rfl ?_
    refine X.u (LU.lss Is.rfl' Is.rfl') rfl ?_
    refine LL.nil (after_code ?_)
    refine X.cond rfl (fun h2 => ?_) (fun h2 => ?_)
    · try have h2 := of_decide_eq_true h2
      refine LW.skip (after_code ?_)
      refine LW.seq ?_
      refine LW.block ?_
      refine LW.seq ?_
      refine LW.region ?_
      refine X.u (LU.moveR Is.rfl') rfl ?_
      refine X.u (LU.moveR Is.rfl') rfl ?_
      refine X.u (LU.stratN Tryd.underlying9 Is.rfl' Is.rfl' (by omega) (by omega)) rfl ?_
      refine X.u (LU.eql Is.rfl' Is.rfl') rfl ?_
      refine LL.nil (after_code ?_)
      refine X.cond rfl (fun h4 => ?_) (fun h4 => ?_)
      · have hc : s.contains 46 = true := by
          have h5 : (s.getD i 0).toNat = 46 := by have := of_decide_eq_true h4; simp only [Int.toNat_natCast] at this; omega
          have h6 : s.getD i 0 = 46 := UInt8.toNat_inj.1 (by rw [h5]; rfl)
          rw [List.contains_iff_mem, ← h6, List.getD_eq_getElem?_getD, List.getElem?_eq_getElem (by omega)]
          exact List.getElem_mem _
        have hd : (0 : Nat) = 0 := rfl
        refine LW.seq ?_
        refine LW.region ?_
        refine X.u (LU.assignR Is.rfl') rfl ?_
        refine LL.nil (after_code ?_)
        refine LW.ret (ret_blk (ret_code (ret_rnd (ret_blk (ret_code (after_end ?_))))))
        refine X.ret (H' := []) (Res.one (by exact IsR rfl)) (by repeat (exact HSub.refl _)) ?_
        exact ⟨by rw [hc]; rfl, rfl⟩
      · have hne : s.getD i 0 ≠ 46 := fun c => by have := of_decide_eq_false h4; simp only [Int.toNat_natCast] at this; rw [c] at this; exact this rfl
        refine LW.skip (after_blk (after_code ?_))
        refine LW.region ?_
        refine X.u (LU.moveR Is.rfl') rfl ?_
        refine X.u (LU.addN Is.rfl' Is.rfl' (wrap_i64 (by omega) (by omega))) rfl ?_
        refine X.u (LU.assignR Is.rfl') rfl ?_
        refine LL.nil (after_rnd ?_)
        refine X.next (i + 1) rfl (EnvLe.cons (by rfl) (EnvLe.nil)) (Keeps.cons (by exact Eq.trans (b := .raw _) rfl rfl) (Keeps.nil)) (HSub.refl _) ?_ ?_
        · refine ⟨by omega, fun j hj => ?_⟩
          by_cases hji : j = i
          · rw [hji]; exact hne
          · exact hf j (by omega)
        · omega
    · try have h2 := of_decide_eq_false h2
      refine LW.exit (exit_code (exit_rnd (exit_blk (after_code ?_))))
      refine LW.seq ?_
      refine LW.region ?_
      refine X.u (LU.moveR Is.rfl') rfl ?_
      refine X.u (LU.strneN Is.rfl' Is.rfl') rfl ?_
      refine X.u (LU.assignR Is.rfl') rfl ?_
      refine LL.nil (after_code ?_)
      refine LW.ret (after_end ?_)
      refine X.ret (H' := []) (Res.one (by exact IsR rfl)) (by repeat (exact HSub.refl _)) ?_
      refine ⟨?_, rfl⟩
      have hc : s.contains 46 = false := by
        rw [Bool.eq_false_iff]
        intro c
        rw [List.contains_iff_mem] at c
        obtain ⟨j, hj, he⟩ := List.getElem_of_mem c
        exact hf j (by omega) (by rw [List.getD_eq_getElem?_getD, List.getElem?_eq_getElem hj]; exact he)
      rw [hc]; simp
def atI (l : Bk) (t : List UInt8) : Int := match idxB l t with
  | some i => (i : Int)
  | none => -1
theorem idxB_first {l : Bk} {t : List UInt8} {i : Nat} {e : En} (h : l[i]? = some (t, e)) (hf : ∀ j, j < i → ∀ p, l[j]? = some p → p.1 ≠ t) : idxB l t = some i := by
  induction l generalizing i with
  | nil => simp at h
  | cons p r ih =>
    unfold idxB
    rw [show enM (p :: r) = (p.1, .agg (enL p.2)) :: enM r from rfl, idxM]
    cases i with
    | zero =>
      simp only [List.getElem?_cons_zero, Option.some.injEq] at h
      rw [if_pos (by rw [h])]
    | succ i =>
      rw [if_neg (hf 0 (by omega) p rfl)]
      have := ih (i := i) (by simpa using h) (fun j hj q hq => hf (j + 1) (by omega) q (by simpa using hq))
      unfold idxB at this
      rw [this]; rfl
theorem idxB_no {l : Bk} {t : List UInt8} (hf : ∀ (j : Nat) p, l[j]? = some p → p.1 ≠ t) : idxB l t = none := by
  cases hx : idxB l t with
  | none => rfl
  | some i =>
    obtain ⟨e, he⟩ := idxB_some hx
    exact (hf i _ he rfl).elim
set_option maxRecDepth 100000 in
theorem at16_calls (sec t : List UInt8) (l : Bk) (hl : l.length < 1000000) : LCalls Tryd.prog 51 [.agg (rb sec l), Str t] [] (fun r H' => r = i64 (atI l t) ∧ H' = []) := by
  refine LCalls.of Tryd.func51 rfl Tryd.ntmps51 Tryd.results51 rfl (fun Rf => ?_)
  refine LW.seq ?_
  refine LW.region ?_
  refine X.act (X.box rfl Is.rfl' (by exact Cells.agg) (fun b2 => ?_))
  refine X.u (LU.assignR Is.rfl') rfl ?_
  refine LL.nil (after_code ?_)
  refine LW.seq ?_
  refine LW.seq ?_
  refine LW.region ?_
  refine X.u (LU.assignR Is.rfl') rfl ?_
  refine LL.nil (after_code ?_)
  refine LW.block ?_
  refine X.loopK (α := Nat) (fun i => [(5, i64 i)]) [1, 2] (fun _ => _) (fun i => i ≤ l.length ∧ ∀ j, j < i → ∀ p, l[j]? = some p → p.1 ≠ t) (fun i => l.length - i) (0) (EnvLe.cons (by rfl) (EnvLe.nil)) (HSub.refl _) ?_ ?_
  · exact ⟨Nat.zero_le _, fun j hj => by omega⟩
  · rintro i hI
    obtain ⟨hi, hf⟩ := hI
    refine LW.seq ?_
    refine LW.seq ?_
    refine LW.region ?_
    refine X.u (LU.moveR Is.rfl') rfl ?_
    refine X.u (LU.fieldO Tryd.underlying42 rfl Tryd.sizeOf40 (by decide) Is.rfl') rfl ?_
    refine X.u (LU.loadO 0 rfl ⟨Tryd.sizeOf40, Tryd.isAgg40⟩ Is.rfl' (Part.one rfl)) rfl ?_
    refine X.u (LU.lenN Tryd.underlying40 Is.rfl' (by (simp only [Option.getD_some, Option.getD_none, byteEls_length, intEls_length, List.length_append, List.length_cons, List.length_nil, List.length_map, List.length_drop, List.length_take, Int.toNat_natCast]; rfl))) rfl ?_
    refine X.u (LU.lss Is.rfl' Is.rfl') rfl ?_
    refine LL.nil (after_code ?_)
    refine X.cond rfl (fun h2 => ?_) (fun h2 => ?_)
    · try have h2 := of_decide_eq_true h2
      refine LW.skip (after_code ?_)
      refine LW.seq ?_
      refine LW.block ?_
      refine LW.seq ?_
      obtain ⟨⟨s, e⟩, hp⟩ := at_lt (show i < l.length by omega)
      refine LW.region ?_
      refine X.u (LU.fieldO Tryd.underlying42 rfl Tryd.sizeOf40 (by decide) Is.rfl') rfl ?_
      refine X.u (LU.loadO 0 rfl ⟨Tryd.sizeOf40, Tryd.isAgg40⟩ Is.rfl' (Part.one rfl)) rfl ?_
      refine X.u (LU.moveR Is.rfl') rfl ?_
      refine X.u (LU.at Tryd.underlying40 ⟨Tryd.sizeOf99, Tryd.isAgg99⟩ Is.rfl' Is.rfl' (by omega) (tks_at hp) (by simp)) rfl ?_
      refine X.u (LU.fieldP Tryd.underlying99 rfl ⟨Tryd.sizeOf9, Tryd.isAgg9⟩ (by decide) Is.rfl' (by (simp; done))) rfl ?_
      refine X.u (LU.load ⟨Tryd.sizeOf9, Tryd.isAgg9⟩ Is.rfl' (by (simp; done)) (Part.one rfl)) rfl ?_
      refine X.u (LU.moveR Is.rfl') rfl ?_
      refine X.u (LU.streqN Is.rfl' Is.rfl') rfl ?_
      refine LL.nil (after_code ?_)
      refine X.cond rfl (fun h4 => ?_) (fun h4 => ?_)
      · have heq : s = t := of_decide_eq_true h4
        refine LW.seq ?_
        refine LW.region ?_
        refine X.u (LU.moveR Is.rfl') rfl ?_
        refine X.u (LU.assignR Is.rfl') rfl ?_
        refine LL.nil (after_code ?_)
        refine LW.ret (ret_blk (ret_code (ret_rnd (ret_blk (ret_code (after_end ?_))))))
        refine X.ret (H' := []) (Res.one (by exact IsR rfl)) (by repeat (first | exact HSub.refl _ | refine HSub.drop ?_)) ?_
        exact ⟨by unfold atI; rw [idxB_first (by rw [← heq]; exact hp) hf], rfl⟩
      · have hne : s ≠ t := of_decide_eq_false h4
        refine LW.skip (after_blk (after_code ?_))
        refine LW.region ?_
        refine X.u (LU.moveR Is.rfl') rfl ?_
        refine X.u (LU.addN Is.rfl' Is.rfl' (wrap_i64 (by omega) (by omega))) rfl ?_
        refine X.u (LU.assignR Is.rfl') rfl ?_
        refine LL.nil (after_rnd ?_)
        refine X.next (i + 1) rfl (EnvLe.cons (by rfl) (EnvLe.nil)) (Keeps.cons (by exact Eq.trans (b := .raw _) rfl rfl) (Keeps.cons (by exact Eq.trans (b := .raw _) rfl rfl) (Keeps.nil))) (HSub.refl _) ?_ ?_
        · refine ⟨by omega, fun j hj q hq => ?_⟩
          by_cases hji : j = i
          · rw [hji, hp] at hq
            rw [← Option.some.inj hq]; exact hne
          · exact hf j (by omega) q hq
        · omega
    · try have h2 := of_decide_eq_false h2
      refine LW.exit (exit_code (exit_rnd (exit_blk (after_code ?_))))
      refine LW.seq ?_
      refine LW.region ?_
      refine X.u (LU.assignR Is.rfl') rfl ?_
      refine LL.nil (after_code ?_)
      refine LW.ret (after_end ?_)
      refine X.ret (H' := []) (Res.one (by exact IsR rfl)) (by repeat (first | exact HSub.refl _ | refine HSub.drop ?_)) ?_
      exact ⟨by unfold atI; rw [idxB_no fun j p hj => hf j (by have := (List.getElem?_eq_some_iff.1 hj).1; omega) p hj], rfl⟩
theorem atI_cases (l : Bk) (t : List UInt8) : (atI l t = -1 ∧ fP l t = 160 ∧ idxB l t = none) ∨ ∃ (i : Nat) (e : En), atI l t = i ∧ l[i]? = some (t, e) ∧ fP l t = 0 ∧ fE l t = e ∧ idxB l t = some i := by
  cases hx : idxB l t with
  | none => exact .inl ⟨by unfold atI; rw [hx], by unfold fP; rw [hx]; rfl, rfl⟩
  | some i =>
    obtain ⟨e, he⟩ := idxB_some hx
    exact .inr ⟨i, e, by unfold atI; rw [hx], he, by unfold fP; rw [hx]; rfl, by unfold fE; rw [hx]; show (l.getD i ([], zE)).2 = e; rw [List.getD_eq_getElem?_getD, he]; rfl, rfl⟩
set_option maxRecDepth 100000 in
theorem rcheck16_calls (sec t : List UInt8) (l : Bk) (now : Int) (hl : l.length < 1000000) : LCalls Tryd.prog 24 [.agg (rb sec l), Str t, i64 now] [] (fun r H' => r = .tup [Str (chkU l t now), i64 (chkE l t now)] ∧ H' = []) := by
  rcases atI_cases l t with ⟨ha, hp, _⟩ | ⟨i, e, ha, he, hp, hf, _⟩
  · have hE : chkE l t now = 160 := by unfold chkE; rw [hp]; rfl
    have hU : chkU l t now = [] := by unfold chkU; rw [hE]; rfl
    have hat := at16_calls sec t l hl
    rw [ha] at hat
    refine LCalls.of Tryd.func24 rfl Tryd.ntmps24 Tryd.results24 rfl (fun Rf => ?_)
    refine LW.seq ?_
    refine LW.region ?_
    refine X.act (X.box rfl Is.rfl' (by exact Cells.agg) (fun b3 => ?_))
    refine X.u (LU.assignR Is.rfl') rfl ?_
    refine X.u (LU.assignR Is.rfl') rfl ?_
    refine LL.nil (after_code ?_)
    refine LW.seq ?_
    refine LW.region ?_
    refine X.u (LU.loadO 0 rfl ⟨Tryd.sizeOf42, Tryd.isAgg42⟩ Is.rfl' (Part.whole (by (simp; done)))) rfl ?_
    refine X.u (LU.moveR Is.rfl') rfl ?_
    refine X.u (LU.call (hat) Tryd.func51 rfl rfl (Opds.cons Is.rfl' (Opds.cons Is.rfl' Opds.nil))) rfl ?_
    refine X.u (LU.assignR Is.rfl') rfl ?_
    refine LL.nil (after_code ?_)
    refine LW.seq ?_
    refine LW.seq ?_
    refine LW.region ?_
    refine X.u (LU.moveR Is.rfl') rfl ?_
    refine X.u (LU.lss Is.rfl' Is.rfl') rfl ?_
    refine LL.nil (after_code ?_)
    refine X.condT rfl ?_ ?_
    · rfl
    refine LW.seq ?_
    refine LW.region ?_
    refine X.u (LU.assignR Is.rfl') rfl ?_
    refine X.u (LU.assignR Is.rfl') rfl ?_
    refine LL.nil (after_code ?_)
    refine LW.ret (ret_code (after_end ?_))
    refine X.ret (H' := []) (Res.two (by exact IsR rfl) (by exact IsR rfl)) (by repeat (first | exact HSub.refl _ | refine HSub.drop ?_)) ?_
    exact ⟨by rw [hE, hU]; rfl, rfl⟩
  · have hE : chkE l t now = barE e now := by unfold chkE; rw [if_pos hp, hf]
    have hB : barE e now = if 0 < e.gone then 161 else if e.till ≤ now then 162 else 0 := rfl
    have hat := at16_calls sec t l hl
    rw [ha] at hat
    have hil := (List.getElem?_eq_some_iff.1 he).1
    refine LCalls.of Tryd.func24 rfl Tryd.ntmps24 Tryd.results24 rfl (fun Rf => ?_)
    refine LW.seq ?_
    refine LW.region ?_
    refine X.act (X.box rfl Is.rfl' (by exact Cells.agg) (fun b3 => ?_))
    refine X.u (LU.assignR Is.rfl') rfl ?_
    refine X.u (LU.assignR Is.rfl') rfl ?_
    refine LL.nil (after_code ?_)
    refine LW.seq ?_
    refine LW.region ?_
    refine X.u (LU.loadO 0 rfl ⟨Tryd.sizeOf42, Tryd.isAgg42⟩ Is.rfl' (Part.whole (by (simp; done)))) rfl ?_
    refine X.u (LU.moveR Is.rfl') rfl ?_
    refine X.u (LU.call (hat) Tryd.func51 rfl rfl (Opds.cons Is.rfl' (Opds.cons Is.rfl' Opds.nil))) rfl ?_
    refine X.u (LU.assignR Is.rfl') rfl ?_
    refine LL.nil (after_code ?_)
    refine LW.seq ?_
    refine LW.seq ?_
    refine LW.region ?_
    refine X.u (LU.moveR Is.rfl') rfl ?_
    refine X.u (LU.lss Is.rfl' Is.rfl') rfl ?_
    refine LL.nil (after_code ?_)
    refine X.condF rfl ?_ ?_
    · exact decide_eq_false (by omega)
    refine LW.skip (after_code ?_)
    refine LW.seq ?_
    refine LW.seq ?_
    refine LW.region ?_
    refine X.u (LU.fieldO Tryd.underlying42 rfl Tryd.sizeOf40 (by decide) Is.rfl') rfl ?_
    refine X.u (LU.loadO 0 rfl ⟨Tryd.sizeOf40, Tryd.isAgg40⟩ Is.rfl' (Part.one rfl)) rfl ?_
    refine X.u (LU.moveR Is.rfl') rfl ?_
    refine X.u (LU.at Tryd.underlying40 ⟨Tryd.sizeOf99, Tryd.isAgg99⟩ Is.rfl' Is.rfl' (by omega) (tks_at he) (by simp)) rfl ?_
    refine X.u (LU.fieldP Tryd.underlying99 rfl ⟨Tryd.sizeOf4, Tryd.isAgg4⟩ (by decide) Is.rfl' (by (simp; done))) rfl ?_
    refine X.u (LU.load ⟨Tryd.sizeOf4, Tryd.isAgg4⟩ Is.rfl' (by (simp; done)) (Part.one rfl)) rfl ?_
    refine LL.nil (after_code ?_)
    refine X.cond rfl (fun h4 => ?_) (fun h4 => ?_)
    · have h4 : 0 < e.gone := of_decide_eq_true h4
      have hz : chkE l t now = 161 := by rw [hE, hB, if_pos h4]
      have hU : chkU l t now = [] := by unfold chkU; rw [hz]; rfl
      refine LW.seq ?_
      refine LW.region ?_
      refine X.u (LU.assignR Is.rfl') rfl ?_
      refine X.u (LU.assignR Is.rfl') rfl ?_
      refine LL.nil (after_code ?_)
      refine LW.ret (ret_code (after_end ?_))
      refine X.ret (H' := []) (Res.two (by exact IsR rfl) (by exact IsR rfl)) (by repeat (first | exact HSub.refl _ | refine HSub.drop ?_)) ?_
      exact ⟨by rw [hz, hU]; rfl, rfl⟩
    · have h4 : ¬ 0 < e.gone := of_decide_eq_false h4
      refine LW.skip (after_code ?_)
      refine LW.seq ?_
      refine LW.seq ?_
      refine LW.region ?_
      refine X.u (LU.moveR Is.rfl') rfl ?_
      refine X.u (LU.fieldO Tryd.underlying42 rfl Tryd.sizeOf40 (by decide) Is.rfl') rfl ?_
      refine X.u (LU.loadO 0 rfl ⟨Tryd.sizeOf40, Tryd.isAgg40⟩ Is.rfl' (Part.one rfl)) rfl ?_
      refine X.u (LU.moveR Is.rfl') rfl ?_
      refine X.u (LU.at Tryd.underlying40 ⟨Tryd.sizeOf99, Tryd.isAgg99⟩ Is.rfl' Is.rfl' (by omega) (tks_at he) (by simp)) rfl ?_
      refine X.u (LU.fieldP Tryd.underlying99 rfl ⟨Tryd.sizeOf3, Tryd.isAgg3⟩ (by decide) Is.rfl' (by (simp; done))) rfl ?_
      refine X.u (LU.load ⟨Tryd.sizeOf3, Tryd.isAgg3⟩ Is.rfl' (by (simp; done)) (Part.one rfl)) rfl ?_
      refine X.u (LU.geq Is.rfl' Is.rfl') rfl ?_
      refine LL.nil (after_code ?_)
      refine X.cond rfl (fun h6 => ?_) (fun h6 => ?_)
      · have h6 : e.till ≤ now := of_decide_eq_true h6
        have hz : chkE l t now = 162 := by rw [hE, hB, if_neg h4, if_pos h6]
        have hU : chkU l t now = [] := by unfold chkU; rw [hz]; rfl
        refine LW.seq ?_
        refine LW.region ?_
        refine X.u (LU.assignR Is.rfl') rfl ?_
        refine X.u (LU.assignR Is.rfl') rfl ?_
        refine LL.nil (after_code ?_)
        refine LW.ret (ret_code (after_end ?_))
        refine X.ret (H' := []) (Res.two (by exact IsR rfl) (by exact IsR rfl)) (by repeat (first | exact HSub.refl _ | refine HSub.drop ?_)) ?_
        exact ⟨by rw [hz, hU]; rfl, rfl⟩
      · have h6 : ¬ e.till ≤ now := of_decide_eq_false h6
        have hz : chkE l t now = 0 := by rw [hE, hB, if_neg h4, if_neg h6]
        have hU : chkU l t now = e.user := by unfold chkU; rw [if_pos hz, hf]
        refine LW.skip (after_code ?_)
        refine LW.seq ?_
        refine LW.region ?_
        refine X.u (LU.fieldO Tryd.underlying42 rfl Tryd.sizeOf40 (by decide) Is.rfl') rfl ?_
        refine X.u (LU.loadO 0 rfl ⟨Tryd.sizeOf40, Tryd.isAgg40⟩ Is.rfl' (Part.one rfl)) rfl ?_
        refine X.u (LU.moveR Is.rfl') rfl ?_
        refine X.u (LU.at Tryd.underlying40 ⟨Tryd.sizeOf99, Tryd.isAgg99⟩ Is.rfl' Is.rfl' (by omega) (tks_at he) (by simp)) rfl ?_
        refine X.u (LU.fieldP Tryd.underlying99 rfl ⟨Tryd.sizeOf9, Tryd.isAgg9⟩ (by decide) Is.rfl' (by (simp; done))) rfl ?_
        refine X.u (LU.load ⟨Tryd.sizeOf9, Tryd.isAgg9⟩ Is.rfl' (by (simp; done)) (Part.one rfl)) rfl ?_
        refine X.u (LU.assignR Is.rfl') rfl ?_
        refine X.u (LU.assignR Is.rfl') rfl ?_
        refine LL.nil (after_code ?_)
        refine LW.ret (after_end ?_)
        refine X.ret (H' := []) (Res.two (by exact IsR rfl) (by exact IsR rfl)) (by repeat (first | exact HSub.refl _ | refine HSub.drop ?_)) ?_
        exact ⟨by rw [hz, hU]; rfl, rfl⟩
theorem flat_set (s : Nat) : ∀ (L : List (List LV)) (i j : Nat) (e : List LV) (v : LV) (rest : List LV), (∀ e ∈ L, e.length = s) → L[i]? = some e → j < s → (L.flatten ++ rest).set (i * s + j) v = (L.set i (e.set j v)).flatten ++ rest
  | [], i, j, e, v, rest, _, h, _ => by simp at h
  | a :: L, 0, j, e, v, rest, hs, h, hj => by
    obtain rfl := Option.some.inj h
    have ha := hs a (by simp)
    rw [List.flatten_cons, List.append_assoc, List.set_append_left _ _ (by omega), List.set_cons_zero, List.flatten_cons, List.append_assoc]
    congr 2; omega
  | a :: L, i + 1, j, e, v, rest, hs, h, hj => by
    have ha := hs a (by simp)
    have := flat_set s L i j e v rest (fun x hx => hs x (List.mem_cons_of_mem _ hx)) (by simpa using h) hj
    have hm : (i + 1) * s = i * s + s := Nat.succ_mul i s
    rw [List.flatten_cons, List.append_assoc, List.set_append_right _ _ (by omega), List.set_cons_succ, List.flatten_cons, List.append_assoc, ha, show (i + 1) * s + j - s = i * s + j by omega, this]
theorem tks_flen (l : Bk) : (tks l).flatten.length = l.length * 4 := by
  induction l with
  | nil => rfl
  | cons a l ih => simp only [List.map_cons, List.flatten_cons, List.length_append, ih, List.length_cons, List.length_nil]; omega
theorem tks_put {l : Bk} {i : Nat} {t : List UInt8} {e : En} (h : l[i]? = some (t, e)) (hg : 0 ≤ e.gone) (rest : List LV) : putAt ((tks l).flatten ++ rest) (i * 4 + 3) [bl true] = (tks (l.set i (t, { e with gone := e.gone + 1 }))).flatten ++ rest := by
  have hil := (List.getElem?_eq_some_iff.1 h).1
  rw [putAt_one _ _ _ (by rw [List.length_append, tks_flen]; omega), flat_set 4 (tks l) i 3 (tkL (t, e)) (bl true) rest (tks_size l) (by rw [List.getElem?_map, h]; rfl) (by omega)]
  congr 2
  show (tks l).set i _ = List.map tkL (l.set i _)
  rw [List.map_set]
  congr 1
  show [Str t, Str e.user, i64 e.till, bl true] = [Str t, Str e.user, i64 e.till, bl (decide (0 < e.gone + 1))]
  rw [decide_eq_true (by omega)]
theorem rhex_calls16 (sec s : List UInt8) : LCalls Tryd.prog 50 [Bytes (tagB sec s) .unk] [] (fun r H' => r = Str (hexB (tagB sec s)) ∧ H' = []) := rhex_calls (tagB sec s) (by rw [tagB_len]; omega)
set_option maxHeartbeats 1000000 in
set_option maxRecDepth 100000 in
theorem rissue16_calls (sec user : List UInt8) (now till : Int) (l : Bk) (hs : sec.length ≤ 100000) (hu : user.length ≤ 100000) (hl : l.length ≤ 1000000) : LCalls Tryd.prog 22 [.agg (rb sec l), Str user, i64 now, i64 till] [] (fun r H' => r = .tup [.agg (rb sec (issL sec l user now till)), Str (issT sec l.length user now till), i64 (issE l.length user now till)] ∧ H' = []) := by
  have hE : issE l.length user now till = if user = [] ∨ user.contains 46 = true ∨ now < 0 ∨ 1099511627776 < till then 2 else if till ≤ now then 162 else if 256 ≤ l.length then 3 else 0 := rfl
  have hbad : issE l.length user now till ≠ 0 → issT sec l.length user now till = [] ∧ issL sec l user now till = l := fun h => ⟨by unfold issT; rw [if_neg h], by unfold issL; rw [if_neg h]⟩
  refine LCalls.of Tryd.func22 rfl Tryd.ntmps22 Tryd.results22 rfl (fun Rf => ?_)
  refine LW.seq ?_
  refine LW.region ?_
  refine X.act (X.box rfl Is.rfl' (by exact Cells.agg) (fun b4 => ?_))
  refine X.act (X.alloc rfl Tryd.zeroValue42 (by exact Cells.rawagg (by decide)) (fun b8 => ?_))
  refine X.u (LU.assignR Is.rfl') rfl ?_
  refine X.u (LU.assignR Is.rfl') rfl ?_
  refine LL.nil (after_code ?_)
  refine LW.seq ?_
  refine LW.seq ?_
  refine LW.region ?_
  refine X.u (LU.moveR Is.rfl') rfl ?_
  refine X.u (LU.call (plain16_calls user (by omega)) Tryd.func47 rfl rfl (Opds.cons Is.rfl' Opds.nil)) rfl ?_
  refine X.u (LU.not Is.rfl') rfl ?_
  refine X.u (LU.moveR Is.rfl') rfl ?_
  refine X.gF rfl rfl (fun hg => LU.moveR (by exact Is.rfl')) rfl ?_
  refine X.gF rfl rfl (fun hg => LU.lss (by exact Is.whenN hg) (by exact Is.rfl')) rfl ?_
  refine X.u (LU.pickOr Is.rfl' Is.rfl' (fun hq => (by exact Is.whenN hq))) rfl ?_
  refine X.u (LU.moveR Is.rfl') rfl ?_
  refine X.gF rfl rfl (fun hg => LU.moveR (by exact Is.rfl')) rfl ?_
  refine X.gF rfl rfl (fun hg => LU.gtr (by exact Is.whenN hg) (by exact Is.rfl')) rfl ?_
  refine X.u (LU.pickOr Is.rfl' Is.rfl' (fun hq => (by exact Is.whenN hq))) rfl ?_
  refine LL.nil (after_code ?_)
  refine X.cond rfl (fun h1 => ?_) (fun h1 => ?_)
  · have hc : user = [] ∨ user.contains 46 = true ∨ now < 0 ∨ 1099511627776 < till := by
      by_cases hz : user = []
      · exact .inl hz
      · cases hcc : user.contains 46 with
        | true => exact .inr (.inl rfl)
        | false => rw [hcc, decide_eq_false hz] at h1; simp at h1; exact .inr (.inr h1)
    have hz : issE l.length user now till = 2 := by rw [hE, if_pos hc]
    obtain ⟨hb1, hb2⟩ := hbad (by omega)
    refine LW.seq ?_
    refine LW.region ?_
    refine X.u (LU.loadO 1 rfl ⟨Tryd.sizeOf42, Tryd.isAgg42⟩ Is.rfl' (Part.whole (by (simp; done)))) rfl ?_
    refine X.act (X.store 0 rfl Tryd.sizeOf42 Is.rfl' Is.rfl' (by exact Cells.agg) (by (simp; done)) (by exact Nat.le_of_ble_eq_true rfl) ?_)
    refine X.u (LU.assignR Is.rfl') rfl ?_
    refine X.u (LU.assignR Is.rfl') rfl ?_
    refine LL.nil (after_code ?_)
    refine LW.ret (ret_code (after_end ?_))
    refine X.ret (H' := []) (by exact Res.ct3 0 rfl rfl ⟨Tryd.sizeOf42, Tryd.isAgg42⟩ (Part.whole rfl) (IsA rfl) (IsR rfl) (IsR rfl)) (by repeat (first | exact HSub.refl _ | refine HSub.drop ?_)) ?_
    exact ⟨by rw [hz, hb1, hb2]; rfl, rfl⟩
  · have hc : ¬ (user = [] ∨ user.contains 46 = true ∨ now < 0 ∨ 1099511627776 < till) := by
      intro c
      rcases c with c | c | c | c
      · rw [decide_eq_true c] at h1; simp at h1
      · rw [c] at h1; simp at h1
      · rw [decide_eq_true c] at h1; simp at h1
      · rw [decide_eq_true c] at h1; simp at h1
    rw [if_neg hc] at hE
    refine LW.skip (after_code ?_)
    refine LW.seq ?_
    refine LW.seq ?_
    refine LW.region ?_
    refine X.u (LU.moveR Is.rfl') rfl ?_
    refine X.u (LU.moveR Is.rfl') rfl ?_
    refine X.u (LU.leq Is.rfl' Is.rfl') rfl ?_
    refine LL.nil (after_code ?_)
    refine X.cond rfl (fun h3 => ?_) (fun h3 => ?_)
    · have hz : issE l.length user now till = 162 := by rw [hE, if_pos (of_decide_eq_true h3)]
      obtain ⟨hb1, hb2⟩ := hbad (by omega)
      refine LW.seq ?_
      refine LW.region ?_
      refine X.u (LU.loadO 1 rfl ⟨Tryd.sizeOf42, Tryd.isAgg42⟩ Is.rfl' (Part.whole (by (simp; done)))) rfl ?_
      refine X.act (X.store 0 rfl Tryd.sizeOf42 Is.rfl' Is.rfl' (by exact Cells.agg) (by (simp; done)) (by exact Nat.le_of_ble_eq_true rfl) ?_)
      refine X.u (LU.assignR Is.rfl') rfl ?_
      refine X.u (LU.assignR Is.rfl') rfl ?_
      refine LL.nil (after_code ?_)
      refine LW.ret (ret_code (after_end ?_))
      refine X.ret (H' := []) (by exact Res.ct3 0 rfl rfl ⟨Tryd.sizeOf42, Tryd.isAgg42⟩ (Part.whole rfl) (IsA rfl) (IsR rfl) (IsR rfl)) (by repeat (first | exact HSub.refl _ | refine HSub.drop ?_)) ?_
      exact ⟨by rw [hz, hb1, hb2]; rfl, rfl⟩
    · have h3 := of_decide_eq_false h3
      rw [if_neg h3] at hE
      refine LW.skip (after_code ?_)
      refine LW.seq ?_
      refine LW.seq ?_
      refine LW.region ?_
      refine X.u (LU.fieldO Tryd.underlying42 rfl Tryd.sizeOf40 (by decide) Is.rfl') rfl ?_
      refine X.u (LU.loadO 1 rfl ⟨Tryd.sizeOf40, Tryd.isAgg40⟩ Is.rfl' (Part.one rfl)) rfl ?_
      refine X.u (LU.lenN Tryd.underlying40 Is.rfl' (by (simp only [Option.getD_some, Option.getD_none, byteEls_length, intEls_length, List.length_append, List.length_cons, List.length_nil, List.length_map, List.length_drop, List.length_take, Int.toNat_natCast]; rfl))) rfl ?_
      refine X.u (LU.geq Is.rfl' Is.rfl') rfl ?_
      refine LL.nil (after_code ?_)
      refine X.cond rfl (fun h5 => ?_) (fun h5 => ?_)
      · have hz : issE l.length user now till = 3 := by rw [hE, if_pos (by have := of_decide_eq_true h5; omega)]
        obtain ⟨hb1, hb2⟩ := hbad (by omega)
        refine LW.seq ?_
        refine LW.region ?_
        refine X.u (LU.loadO 1 rfl ⟨Tryd.sizeOf42, Tryd.isAgg42⟩ Is.rfl' (Part.whole (by (simp; done)))) rfl ?_
        refine X.act (X.store 0 rfl Tryd.sizeOf42 Is.rfl' Is.rfl' (by exact Cells.agg) (by (simp; done)) (by exact Nat.le_of_ble_eq_true rfl) ?_)
        refine X.u (LU.assignR Is.rfl') rfl ?_
        refine X.u (LU.assignR Is.rfl') rfl ?_
        refine LL.nil (after_code ?_)
        refine LW.ret (ret_code (after_end ?_))
        refine X.ret (H' := []) (by exact Res.ct3 0 rfl rfl ⟨Tryd.sizeOf42, Tryd.isAgg42⟩ (Part.whole rfl) (IsA rfl) (IsR rfl) (IsR rfl)) (by repeat (first | exact HSub.refl _ | refine HSub.drop ?_)) ?_
        exact ⟨by rw [hz, hb1, hb2]; rfl, rfl⟩
      · have hz : issE l.length user now till = 0 := by rw [hE, if_neg (by have := of_decide_eq_false h5; omega)]
        obtain ⟨k1, k2, k3, k4, k5, k6⟩ := iss0 hz
        obtain ⟨tn, rfl⟩ := Int.eq_ofNat_of_zero_le (show 0 ≤ till by omega)
        have hT : issT sec l.length user now tn = ttext sec (l.length + 1) user tn := by unfold issT; rw [if_pos hz, Int.toNat_natCast]
        have hL : issL sec l user now tn = l ++ [(ttext sec (l.length + 1) user tn, ⟨user, tn, 0⟩)] := by unfold issL; rw [if_pos hz, Int.toNat_natCast]
        have hd1 := dec_len (show l.length + 1 < 9223372036854775808 by omega)
        have hd2 := dec_len (show tn < 9223372036854775808 by omega)
        have hpl := tpre_len (user := user) (show l.length + 1 < 9223372036854775808 by omega) (show tn < 9223372036854775808 by omega)
        have hib := singles_bytes (tag_len32 sec (tpre (l.length + 1) user tn)) (tag_lt _ _)
        have hhl := hexB_len (tagB sec (tpre (l.length + 1) user tn))
        rw [tagB_len] at hhl
        have hsz := tks_size l
        refine LW.skip (after_code ?_)
        refine LW.seq ?_
        refine LW.region ?_
        refine X.u (LU.fieldO Tryd.underlying42 rfl Tryd.sizeOf40 (by decide) Is.rfl') rfl ?_
        refine X.u (LU.loadO 1 rfl ⟨Tryd.sizeOf40, Tryd.isAgg40⟩ Is.rfl' (Part.one rfl)) rfl ?_
        refine X.u (LU.lenN Tryd.underlying40 Is.rfl' (by (simp only [Option.getD_some, Option.getD_none, byteEls_length, intEls_length, List.length_append, List.length_cons, List.length_nil, List.length_map, List.length_drop, List.length_take, Int.toNat_natCast]; rfl))) rfl ?_
        refine X.u (LU.weak (LU.add Is.rfl' Is.rfl') (Is.of (y := i64 ((l.length + 1 : Nat) : Int)) (congrArg i64 (by exact (wrap_i64 (by omega) (by omega)).trans (by omega))))) rfl ?_
        refine X.u (LU.call (dec_calls (l.length + 1) (l.length + 1) (Nat.le_refl _) (by omega)) Tryd.func48 rfl rfl (Opds.cons Is.rfl' Opds.nil)) rfl ?_
        refine X.u (LU.strcatN Is.rfl' Is.rfl' (by (simp; omega))) rfl ?_
        refine X.u (LU.moveR Is.rfl') rfl ?_
        refine X.u (LU.strcatN Is.rfl' Is.rfl' (by (simp; omega))) rfl ?_
        refine X.u (LU.strcatN Is.rfl' Is.rfl' (by (simp; omega))) rfl ?_
        refine X.u (LU.moveR Is.rfl') rfl ?_
        refine X.u (LU.call (dec_calls tn tn (Nat.le_refl _) (by omega)) Tryd.func48 rfl rfl (Opds.cons Is.rfl' Opds.nil)) rfl ?_
        refine X.u (LU.weak (LU.strcatN Is.rfl' Is.rfl' (by (simp; omega))) (Is.of (y := Str (tpre (l.length + 1) user tn)) (rfl))) rfl ?_
        refine X.u (LU.assignR Is.rfl') rfl ?_
        refine LL.nil (after_code ?_)
        refine LW.seq ?_
        refine LW.region ?_
        refine X.u (LU.fieldO Tryd.underlying42 rfl Tryd.sizeOf9 (by decide) Is.rfl') rfl ?_
        refine X.u (LU.loadO 1 rfl ⟨Tryd.sizeOf9, Tryd.isAgg9⟩ Is.rfl' (Part.one rfl)) rfl ?_
        refine X.u (LU.tobytes Tryd.underlying9 Tryd.underlying22 Tryd.underlying5 Is.rfl') rfl ?_
        refine X.u (LU.moveR Is.rfl') rfl ?_
        refine X.u (LU.tobytes Tryd.underlying9 Tryd.underlying22 Tryd.underlying5 Is.rfl') rfl ?_
        refine X.u (LU.call (rtag_calls sec (tpre (l.length + 1) user tn) .unk .unk (by omega) (by omega)) Tryd.func49 rfl rfl (Opds.cons Is.rfl' (Opds.cons Is.rfl' Opds.nil))) rfl ?_
        refine X.act (X.alloc rfl Tryd.zeroValue95 (by exact Cells.rawagg (by decide)) (fun b12 => ?_))
        refine X.act (X.store 0 rfl Tryd.sizeOf95 Is.rfl' Is.rfl' (by exact Cells.agg) (by (simp; done)) (by exact Nat.le_of_ble_eq_true rfl) ?_)
        refine LL.nil (after_code ?_)
        refine LW.seq ?_
        rw [putAt_all (by simp [raws, tag_len32])]
        refine LW.know 0 rfl ?_
        refine LW.region ?_
        refine X.u (LU.moveR Is.rfl') rfl ?_
        refine X.u (LU.strcatN Is.rfl' Is.rfl' (by (simp; omega))) rfl ?_
        refine X.u (LU.weak (LU.sliceKA 0 rfl Tryd.underlying95 Tryd.sizeOf5 Is.rfl' (by (simp; done))) ((Is.of (congrArg (fun z => LV.sl 1 z .full) hib)).trans Is.unk)) rfl ?_
        refine X.u (LU.call (rhex_calls16 sec (tpre (l.length + 1) user tn)) Tryd.func50 rfl rfl (Opds.cons Is.rfl' Opds.nil)) rfl ?_
        refine X.u (LU.weak (LU.strcatN Is.rfl' Is.rfl' (by (simp; omega))) (Is.of (y := Str (ttext sec (l.length + 1) user tn)) (rfl))) rfl ?_
        refine X.u (LU.assignR Is.rfl') rfl ?_
        refine LL.nil (after_code ?_)
        refine LW.seq ?_
        refine LW.region ?_
        refine X.u (LU.lits Tryd.underlying40 Tryd.sizeOf99 Tryd.zeroValue99 (ones rfl) rfl (by decide) (by decide) Elems.nil (by intro e he; cases he) rfl) rfl ?_
        refine X.u (LU.fieldO Tryd.underlying42 rfl Tryd.sizeOf40 (by decide) Is.rfl') rfl ?_
        refine X.u (LU.loadO 2 rfl ⟨Tryd.sizeOf40, Tryd.isAgg40⟩ Is.rfl' (Part.one rfl)) rfl ?_
        refine X.act (X.appendF rfl Tryd.underlying40 (El.of (P := Tryd.prog) (z := (.agg #[(.string ByteArray.empty), (.string ByteArray.empty), (.int .i64 0), (.bool false)])) (size := 4) (bytes := 48) rfl rfl rfl) Is.rfl' Is.rfl' (SrcL.slice Tryd.underlying40 (by decide) hsz) (by simp only [Option.getD_some, Option.getD_none, byteEls_length, intEls_length, List.length_append, List.length_cons, List.length_nil, List.length_map, List.length_drop, List.length_take, Int.toNat_natCast]; omega) (by simp only [Option.getD_some, Option.getD_none, byteEls_length, intEls_length, List.length_append, List.length_cons, List.length_nil, List.length_map, List.length_drop, List.length_take, Int.toNat_natCast]; omega) (fun b60 o60 c60 => ?_))
        refine X.weak (t := 60) (v := .sl 4 (tks l) (.tok b60 o60 c60)) (Is.of (rfl)) ?_
        refine X.u (LU.moveR Is.rfl') rfl ?_
        refine X.u (LU.moveR Is.rfl') rfl ?_
        refine X.u (LU.moveR Is.rfl') rfl ?_
        refine X.u (LU.weak (LU.build (places := #[(0, 1), (1, 1), (2, 1), (3, 1)]) Tryd.underlying99 Tryd.zeroValue99 (ones rfl) (by intro w; simp [Tryd.sizeOf3, Tryd.sizeOf4, Tryd.sizeOf9]) (Parts.cons Is.rfl' (by exact Cells.raw rfl) (Parts.cons Is.rfl' (by exact Cells.raw rfl) (Parts.cons Is.rfl' (by exact Cells.raw rfl) Parts.nil))) rfl) (Is.of (y := .agg (tkL (ttext sec (l.length + 1) user tn, (⟨user, tn, 0⟩ : En)))) (rfl))) rfl ?_
        refine X.u (LU.lits Tryd.underlying40 Tryd.sizeOf99 Tryd.zeroValue99 (ones rfl) rfl (by decide) (by decide) (Elems.cons Is.rfl' (by exact Cells.agg) Elems.nil) (by (simp; done)) rfl) rfl ?_
        refine X.act (X.append 0 rfl rfl Tryd.underlying40 (El.of (P := Tryd.prog) (z := (.agg #[(.string ByteArray.empty), (.string ByteArray.empty), (.int .i64 0), (.bool false)])) (size := 4) (bytes := 48) rfl rfl rfl) Is.rfl' Is.rfl' (SrcL.slice Tryd.underlying40 (by decide) (by simp)) (by simp only [Option.getD_some, Option.getD_none, byteEls_length, intEls_length, List.length_append, List.length_cons, List.length_nil, List.length_map, List.length_drop, List.length_take, Int.toNat_natCast]; omega) (by simp only [Option.getD_some, Option.getD_none, byteEls_length, intEls_length, List.length_append, List.length_cons, List.length_nil, List.length_map, List.length_drop, List.length_take, Int.toNat_natCast]; omega) (fun b66 o66 c66 => X.weak (t := 66) (Is.of (y := .sl 4 (tks (l ++ [(ttext sec (l.length + 1) user tn, (⟨user, tn, 0⟩ : En))])) (.tok b66 o66 c66)) (tks_snoc l (ttext sec (l.length + 1) user tn, (⟨user, tn, 0⟩ : En)) (.tok b66 o66 c66))) ?_))
        refine X.u (LU.fieldO Tryd.underlying42 rfl Tryd.sizeOf40 (by decide) Is.rfl') rfl ?_
        refine X.act (X.store 3 rfl Tryd.sizeOf40 Is.rfl' Is.rfl' (by exact Cells.sl) (by (simp; done)) (by (simp; done)) ?_)
        refine LL.nil (after_code ?_)
        refine LW.seq ?_
        refine X.wghost (HSub.trans (B := .cells b4 42 [Str sec, .sl 4 (tks (l ++ [(ttext sec (l.length + 1) user tn, (⟨user, tn, 0⟩ : En))])) (.tok b66 o66 c66)] :: .cells b8 42 rbz :: Rf) (by repeat (first | exact HSub.refl _ | refine HSub.pick 0 rfl ?_ | refine HSub.pick 2 rfl ?_ | refine HSub.drop ?_)) (HSub.cell 1 rfl Is.unk)) ?_
        refine LW.region ?_
        refine X.u (LU.loadO 0 rfl ⟨Tryd.sizeOf42, Tryd.isAgg42⟩ Is.rfl' (Part.whole (by (simp; done)))) rfl ?_
        refine X.u (LU.moveR Is.rfl') rfl ?_
        refine X.act (X.store 1 rfl Tryd.sizeOf42 Is.rfl' Is.rfl' (by exact Cells.agg) (by (simp; done)) (by exact Nat.le_of_ble_eq_true rfl) ?_)
        refine X.u (LU.assignR Is.rfl') rfl ?_
        refine X.u (LU.assignR Is.rfl') rfl ?_
        refine LL.nil (after_code ?_)
        refine LW.ret (after_end ?_)
        refine X.ret (H' := []) (by exact Res.ct3 0 rfl rfl ⟨Tryd.sizeOf42, Tryd.isAgg42⟩ (Part.whole rfl) (IsA rfl) (IsR rfl) (IsR rfl)) (by repeat (first | exact HSub.refl _ | refine HSub.drop ?_)) ?_
        exact ⟨by rw [hz, hT, hL]; rfl, rfl⟩
set_option maxHeartbeats 1000000 in
set_option maxRecDepth 100000 in
theorem rrevoke16_calls (sec t : List UInt8) (l : Bk) (hl : l.length < 1000000) (hg : Gone0 l) : LCalls Tryd.prog 25 [.agg (rb sec l), Str t] [] (fun r H' => r = .tup [.agg (rb sec (revL l t)), i64 (revE l t)] ∧ H' = []) := by
  rcases atI_cases l t with ⟨ha, hp, _⟩ | ⟨i, e, ha, he, hp, hf, hx⟩
  · have hE : revE l t = 160 := by unfold revE; rw [hp]; rfl
    have hL : revL l t = l := by unfold revL; rw [if_neg (by omega)]
    have hat := at16_calls sec t l hl
    rw [ha] at hat
    refine LCalls.of Tryd.func25 rfl Tryd.ntmps25 Tryd.results25 rfl (fun Rf => ?_)
    refine LW.seq ?_
    refine LW.region ?_
    refine X.act (X.box rfl Is.rfl' (by exact Cells.agg) (fun b2 => ?_))
    refine X.act (X.alloc rfl Tryd.zeroValue42 (by exact Cells.rawagg (by decide)) (fun b4 => ?_))
    refine X.u (LU.assignR Is.rfl') rfl ?_
    refine LL.nil (after_code ?_)
    refine LW.seq ?_
    refine LW.region ?_
    refine X.u (LU.loadO 1 rfl ⟨Tryd.sizeOf42, Tryd.isAgg42⟩ Is.rfl' (Part.whole (by (simp; done)))) rfl ?_
    refine X.u (LU.moveR Is.rfl') rfl ?_
    refine X.u (LU.call (hat) Tryd.func51 rfl rfl (Opds.cons Is.rfl' (Opds.cons Is.rfl' Opds.nil))) rfl ?_
    refine X.u (LU.assignR Is.rfl') rfl ?_
    refine LL.nil (after_code ?_)
    refine LW.seq ?_
    refine LW.seq ?_
    refine LW.region ?_
    refine X.u (LU.moveR Is.rfl') rfl ?_
    refine X.u (LU.lss Is.rfl' Is.rfl') rfl ?_
    refine LL.nil (after_code ?_)
    refine X.condT rfl ?_ ?_
    · rfl
    refine LW.seq ?_
    refine LW.region ?_
    refine X.u (LU.loadO 1 rfl ⟨Tryd.sizeOf42, Tryd.isAgg42⟩ Is.rfl' (Part.whole (by (simp; done)))) rfl ?_
    refine X.act (X.store 0 rfl Tryd.sizeOf42 Is.rfl' Is.rfl' (by exact Cells.agg) (by (simp; done)) (by exact Nat.le_of_ble_eq_true rfl) ?_)
    refine X.u (LU.assignR Is.rfl') rfl ?_
    refine LL.nil (after_code ?_)
    refine LW.ret (ret_code (after_end ?_))
    refine X.ret (H' := []) (by exact Res.cell2 0 rfl rfl ⟨Tryd.sizeOf42, Tryd.isAgg42⟩ (Part.whole (by rfl)) (by exact IsA rfl) (by exact IsR rfl)) (by repeat (first | exact HSub.refl _ | refine HSub.drop ?_)) ?_
    exact ⟨by rw [hE, hL]; rfl, rfl⟩
  · have hE : revE l t = barR e := by unfold revE; rw [if_pos hp, hf]
    have hB : barR e = if 0 < e.gone then 161 else 0 := rfl
    have hat := at16_calls sec t l hl
    rw [ha] at hat
    have hil := (List.getElem?_eq_some_iff.1 he).1
    have hg0 := hg i _ he
    have hsz := tks_size l
    have hi2 : i < (tks l).length := by rw [List.length_map]; exact hil
    refine LCalls.of Tryd.func25 rfl Tryd.ntmps25 Tryd.results25 rfl (fun Rf => ?_)
    refine LW.seq ?_
    refine LW.region ?_
    refine X.act (X.box rfl Is.rfl' (by exact Cells.agg) (fun b2 => ?_))
    refine X.act (X.alloc rfl Tryd.zeroValue42 (by exact Cells.rawagg (by decide)) (fun b4 => ?_))
    refine X.u (LU.assignR Is.rfl') rfl ?_
    refine LL.nil (after_code ?_)
    refine LW.seq ?_
    refine LW.region ?_
    refine X.u (LU.loadO 1 rfl ⟨Tryd.sizeOf42, Tryd.isAgg42⟩ Is.rfl' (Part.whole (by (simp; done)))) rfl ?_
    refine X.u (LU.moveR Is.rfl') rfl ?_
    refine X.u (LU.call (hat) Tryd.func51 rfl rfl (Opds.cons Is.rfl' (Opds.cons Is.rfl' Opds.nil))) rfl ?_
    refine X.u (LU.assignR Is.rfl') rfl ?_
    refine LL.nil (after_code ?_)
    refine LW.seq ?_
    refine LW.seq ?_
    refine LW.region ?_
    refine X.u (LU.moveR Is.rfl') rfl ?_
    refine X.u (LU.lss Is.rfl' Is.rfl') rfl ?_
    refine LL.nil (after_code ?_)
    refine X.condF rfl ?_ ?_
    · exact decide_eq_false (by omega)
    refine LW.skip (after_code ?_)
    refine LW.seq ?_
    refine LW.seq ?_
    refine LW.region ?_
    refine X.u (LU.fieldO Tryd.underlying42 rfl Tryd.sizeOf40 (by decide) Is.rfl') rfl ?_
    refine X.u (LU.loadO 1 rfl ⟨Tryd.sizeOf40, Tryd.isAgg40⟩ Is.rfl' (Part.one rfl)) rfl ?_
    refine X.u (LU.moveR Is.rfl') rfl ?_
    refine X.u (LU.at Tryd.underlying40 ⟨Tryd.sizeOf99, Tryd.isAgg99⟩ Is.rfl' Is.rfl' (by omega) (tks_at he) (by simp)) rfl ?_
    refine X.u (LU.fieldP Tryd.underlying99 rfl ⟨Tryd.sizeOf4, Tryd.isAgg4⟩ (by decide) Is.rfl' (by (simp; done))) rfl ?_
    refine X.u (LU.load ⟨Tryd.sizeOf4, Tryd.isAgg4⟩ Is.rfl' (by (simp; done)) (Part.one rfl)) rfl ?_
    refine LL.nil (after_code ?_)
    refine X.cond rfl (fun h4 => ?_) (fun h4 => ?_)
    · have h4 : 0 < e.gone := of_decide_eq_true h4
      have hz : revE l t = 161 := by rw [hE, hB, if_pos h4]
      have hL : revL l t = l := by unfold revL; rw [if_neg (by omega)]
      refine LW.seq ?_
      refine LW.region ?_
      refine X.u (LU.loadO 1 rfl ⟨Tryd.sizeOf42, Tryd.isAgg42⟩ Is.rfl' (Part.whole (by (simp; done)))) rfl ?_
      refine X.act (X.store 0 rfl Tryd.sizeOf42 Is.rfl' Is.rfl' (by exact Cells.agg) (by (simp; done)) (by exact Nat.le_of_ble_eq_true rfl) ?_)
      refine X.u (LU.assignR Is.rfl') rfl ?_
      refine LL.nil (after_code ?_)
      refine LW.ret (ret_code (after_end ?_))
      refine X.ret (H' := []) (by exact Res.cell2 0 rfl rfl ⟨Tryd.sizeOf42, Tryd.isAgg42⟩ (Part.whole (by rfl)) (by exact IsA rfl) (by exact IsR rfl)) (by repeat (first | exact HSub.refl _ | refine HSub.drop ?_)) ?_
      exact ⟨by rw [hz, hL]; rfl, rfl⟩
    · have h4 : ¬ 0 < e.gone := of_decide_eq_false h4
      have hz : revE l t = 0 := by rw [hE, hB, if_neg h4]
      have hL : revL l t = l.set i (t, { e with gone := e.gone + 1 }) := by unfold revL; rw [if_pos hz, hx, hf]
      refine LW.skip (after_code ?_)
      refine LW.seq ?_
      refine LW.region ?_
      refine X.act (X.litO rfl Tryd.underlying40 Tryd.sizeOf99 Tryd.zeroValue99 (ones rfl) rfl (by decide) (by decide) Elems.nil (by simp) rfl (fun b20 => ?_))
      refine X.u (LU.fieldO Tryd.underlying42 rfl Tryd.sizeOf40 (by decide) Is.rfl') rfl ?_
      refine X.u (LU.loadO 2 rfl ⟨Tryd.sizeOf40, Tryd.isAgg40⟩ Is.rfl' (Part.one rfl)) rfl ?_
      refine X.act (X.appendO (z := (.agg #[(.string ByteArray.empty), (.string ByteArray.empty), (.int .i64 0), (.bool false)])) 0 rfl rfl Tryd.underlying40 (El.of (P := Tryd.prog) (z := (.agg #[(.string ByteArray.empty), (.string ByteArray.empty), (.int .i64 0), (.bool false)])) (size := 4) (bytes := 48) rfl rfl rfl) (ones rfl) Is.rfl' Is.rfl' (by simp) (SrcL.slice Tryd.underlying40 (by decide) hsz) (by simp only [Option.getD_some, Option.getD_none, byteEls_length, intEls_length, List.length_append, List.length_cons, List.length_nil, List.length_map, List.length_drop, List.length_take, Int.toNat_natCast]; omega) (by simp only [Option.getD_some, Option.getD_none, byteEls_length, intEls_length, List.length_append, List.length_cons, List.length_nil, List.length_map, List.length_drop, List.length_take, Int.toNat_natCast]; omega) (fun b23 c23 rest23 hc23 hr23 => ?_))
      refine X.weak (t := 23) (v := .raw (.slice (some ⟨b23, 0, none⟩) l.length c23)) (Is.of (congrArg (fun n => LV.raw (.slice (some ⟨b23, 0, none⟩) n c23)) (List.length_map ..))) ?_
      refine X.u (LU.fieldO Tryd.underlying42 rfl Tryd.sizeOf40 (by decide) Is.rfl') rfl ?_
      refine X.act (X.store 2 rfl Tryd.sizeOf40 Is.rfl' Is.rfl' (by exact Cells.raw rfl) (by (simp; done)) (by (simp; done)) ?_)
      refine LL.nil (after_code ?_)
      refine LW.seq ?_
      have hput := tks_put (t := t) he hg0 (raws rest23)
      have hfl := tks_flen l
      have hfl2 := tks_flen (revL l t)
      have hll : (revL l t).length = l.length := by rw [hL, List.length_set]
      rw [← hL] at hput
      obtain ⟨F, hF⟩ : ∃ F, F = (tks l).flatten := ⟨_, rfl⟩
      rw [← hF] at hput hfl ⊢
      refine LW.region ?_
      refine X.u (LU.fieldO Tryd.underlying42 rfl Tryd.sizeOf40 (by decide) Is.rfl') rfl ?_
      refine X.u (LU.loadO 0 rfl ⟨Tryd.sizeOf40, Tryd.isAgg40⟩ Is.rfl' (Part.one rfl)) rfl ?_
      refine X.u (LU.moveR Is.rfl') rfl ?_
      refine X.u (LU.atO Tryd.underlying40 Tryd.sizeOf99 Is.rfl' Is.rfl' (by omega) (by omega)) rfl ?_
      refine X.u (LU.fieldO Tryd.underlying99 rfl Tryd.sizeOf4 (by decide) Is.rfl') rfl ?_
      refine X.act (X.store 1 rfl Tryd.sizeOf4 Is.rfl' Is.rfl' (by exact Cells.raw rfl) (by (simp; done)) (by (simp; omega)) ?_)
      refine LL.nil (after_code ?_)
      refine LW.seq ?_
      refine X.wcells ((congrArg (fun o => putAt (F ++ raws rest23) o [bl true]) (by simp)).trans hput) ?_
      refine X.wghost (H' := .cells b23 99 ((tks (revL l t)).flatten ++ raws rest23) :: .cells b2 42 [Str sec, .raw (.slice (some ⟨b23, 0, none⟩) l.length c23)] :: .cells b4 42 rbz :: Rf) (by repeat (exact HSub.refl _)) ?_
      refine LW.freezeCell (i := 1) (size := 4) (es := tks (revL l t)) (m := l.length) rfl (tks_size _) (by rw [List.length_map, hll]) (by rw [List.length_append, hfl2]; omega) (by rw [List.take_append_of_le_length (by rw [hfl2, hll]; exact Nat.le_refl _), List.take_of_length_le (by rw [hfl2, hll]; exact Nat.le_refl _)]) (by have := hc23; (simp only [List.length_map] at this; omega)) ?_
      refine LW.region ?_
      refine X.u (LU.loadO 0 rfl ⟨Tryd.sizeOf42, Tryd.isAgg42⟩ Is.rfl' (Part.whole (by (simp; done)))) rfl ?_
      refine X.act (X.store 1 rfl Tryd.sizeOf42 Is.rfl' Is.rfl' (by exact Cells.agg) (by (simp; done)) (by exact Nat.le_of_ble_eq_true rfl) ?_)
      refine X.u (LU.assignR Is.rfl') rfl ?_
      refine LL.nil (after_code ?_)
      refine LW.ret (after_end ?_)
      refine X.ret (H' := []) (by exact Res.cell2 0 rfl rfl ⟨Tryd.sizeOf42, Tryd.isAgg42⟩ (Part.whole (by rfl)) (by exact IsA rfl) (by exact IsR rfl)) (by repeat (first | exact HSub.refl _ | refine HSub.drop ?_)) ?_
      exact ⟨by rw [hz, hL]; rfl, rfl⟩
end Go.Proofs.YtnfeepmgdahmgaaDoor
