/- Which texts are paths. -/
import Derived.Test.YtcemodldbfiomaaNmB
set_option linter.unusedVariables false
set_option linter.unusedSimpArgs false
namespace Go.Proofs.Ytcemodldbfiomaa
open Go.RowKit Go.L
attribute [local irreducible] LL LW LO
def partB (p : List UInt8) : Bool := wordB p true && !decide (p = [46]) && !decide (p = [46, 46])
def pathB (s : List UInt8) : Bool := decide (s.length ≤ 64) && decide ((splits s).length ≤ 8) && (splits s).all partB
theorem head_le : ∀ (l : List UInt8), (headB l).length ≤ l.length
  | [] => by simp [headB]
  | c :: l => by
    unfold headB
    split
    · simp
    · have := head_le l
      simp; omega
theorem splits_get : ∀ (n : Nat) (l : List UInt8) (i : Nat) (p : List UInt8), l.length ≤ n → (splits l)[i]? = some p → p.length ≤ l.length
  | n, l, 0, p, hn, h => by
    rw [splits_eq, List.getElem?_cons_zero, Option.some_inj] at h
    rw [← h]; exact head_le l
  | 0, l, i + 1, p, hn, h => by
    have : l = [] := List.length_eq_zero_iff.1 (by omega)
    subst this
    simp [splits] at h
  | n + 1, l, i + 1, p, hn, h => by
    rw [splits_eq, List.getElem?_cons_succ] at h
    split at h
    · rename_i hm
      have h1 := rest_len hm
      have := splits_get n (restB l) i p (by omega) h
      omega
    · simp at h
theorem pcs_get0 {l : List (List UInt8)} {i : Nat} {x : List LV} (h : (pcs 0 l)[i]? = some x) : ∃ p, l[i]? = some p ∧ x = [i64 i, Str p] := by
  obtain ⟨p, h1, h2⟩ := pcs_get l 0 i x h
  exact ⟨p, h1, by rw [h2, Nat.zero_add]⟩
/-- The iterator of a text's pieces. -/
abbrev piecesF (b : Nat) : LV := .raw (.func (.func 30) #[] #[.pointer (some ⟨b, 0, none⟩)])
set_option maxRecDepth 100000 in
theorem pieces_calls (s : List UInt8) : LCalls Try.prog 24 [Str s] [] (fun r H' => ∃ b, r = piecesF b ∧ H' = [.cells b 9 [Str s]]) := by
  refine LCalls.of Try.func24 rfl Try.ntmps24 Try.results24 rfl (fun Rf => ?_)
  refine LW.seq ?_
  refine LW.region ?_
  refine X.act (X.box rfl Is.rfl' (by exact Cells.raw rfl) (fun b1 => ?_))
  refine X.u (LU.assignR Is.rfl') rfl ?_
  refine LL.nil (after_code ?_)
  refine LW.seq ?_
  refine LW.region ?_
  refine X.u (LU.closure (vs := [_]) (Opds.cons Is.rfl' Opds.nil)) rfl ?_
  refine X.u (LU.assignR Is.rfl') rfl ?_
  refine LL.nil (after_code ?_)
  refine LW.ret (after_end ?_)
  refine X.ret (H' := [.cells b1 9 [Str s]]) (Res.one (by exact IsR rfl)) (by repeat (exact HSub.refl _)) ?_
  exact ⟨b1, rfl, rfl⟩
theorem part_bad {s p : List UInt8} {k : Nat} (hp : (splits s)[k]? = some p) (h : (((decide (8 ≤ (k : Int)) || !wordB p true) || decide (p = [46])) || decide (p = [46, 46])) = true) : pathB s = false := by
  have hlt := (List.getElem?_eq_some_iff.1 hp).1
  simp only [Bool.or_eq_true, decide_eq_true_eq] at h
  by_cases h8 : (splits s).length ≤ 8
  · have hm : p ∈ splits s := List.mem_of_getElem? hp
    have hb : partB p = false := by
      unfold partB
      rcases h with (((h | h) | h) | h)
      · omega
      · simp at h; rw [h]; rfl
      · simp [h]
      · simp [h]
    have : (splits s).all partB = false := List.all_eq_false.2 ⟨p, hm, by simp [hb]⟩
    simp [pathB, this]
  · simp [pathB, h8]
theorem part_next {s p : List UInt8} {k : Nat} (hp : (splits s)[k]? = some p) (h : (((decide (8 ≤ (k : Int)) || !wordB p true) || decide (p = [46])) || decide (p = [46, 46])) = false) (ha : ((splits s).take k).all partB = true) : k + 1 ≤ 8 ∧ ((splits s).take (k + 1)).all partB = true := by
  obtain ⟨hlt, hg⟩ := List.getElem?_eq_some_iff.1 hp
  simp only [Bool.or_eq_false_iff, decide_eq_false_iff_not, Bool.not_eq_false'] at h
  obtain ⟨⟨⟨h1, h2⟩, h3⟩, h4⟩ := h
  refine ⟨by omega, ?_⟩
  rw [List.take_succ_eq_append_getElem hlt, List.all_append, ha, hg]
  simp [partB, h2, h3, h4]
theorem path_good {s : List UInt8} (hl : s.length ≤ 64) (hk : (splits s).length ≤ 8) (ha : ((splits s).take (splits s).length).all partB = true) : pathB s = true := by
  rw [List.take_length] at ha
  simp [pathB, hl, hk, ha]
set_option maxRecDepth 100000 in
theorem path_calls (s : List UInt8) : LCalls Try.prog 11 [Str s] [] (fun r H' => r = bl (pathB s) ∧ H' = []) := by
  refine LCalls.of Try.func11 rfl Try.ntmps11 Try.results11 rfl (fun Rf => ?_)
  refine LW.seq ?_
  refine LW.region ?_
  refine X.act (X.alloc rfl Try.zeroValue4 (by exact Cells.raw rfl) (fun b2 => ?_))
  refine LL.nil (after_code ?_)
  refine LW.seq ?_
  refine LW.seq ?_
  refine LW.region ?_
  refine X.u (LU.moveR Is.rfl') rfl ?_
  refine X.u (LU.strlenN Try.underlying9 Is.rfl') rfl ?_
  refine X.u (LU.gtr Is.rfl' Is.rfl') rfl ?_
  refine LL.nil (after_code ?_)
  refine X.cond rfl (fun h1 => ?_) (fun h1 => ?_)
  · try have h1 := of_decide_eq_true h1
    refine LW.seq ?_
    refine LW.region ?_
    refine X.act (X.store 0 rfl Try.sizeOf4 Is.rfl' Is.rfl' (by exact Cells.raw rfl) (by (simp; done)) (by (simp; done)) ?_)
    refine LL.nil (after_code ?_)
    refine LW.ret (ret_code (after_end ?_))
    refine X.ret (H' := []) (by exact Res.cell1 0 rfl rfl ⟨Try.sizeOf4, Try.isAgg4⟩ (Part.one rfl) (by exact IsR rfl)) (by repeat (first | exact HSub.refl _ | refine HSub.drop ?_)) ?_
    exact ⟨by rw [show pathB s = false by simp [pathB]; intro h; omega], rfl⟩
  · try have h1 := of_decide_eq_false h1
    refine LW.skip (after_code ?_)
    refine LW.seq ?_
    refine LW.seq ?_
    refine LW.region ?_
    refine X.u (LU.moveR Is.rfl') rfl ?_
    refine X.act (X.call (pieces_calls s) Try.func24 rfl rfl rfl (HSub.refl _) (Opds.cons Is.rfl' Opds.nil) ?_)
    rintro r H' ⟨b9, rfl, rfl⟩
    refine LL.nil (after_code ?_)
    refine LW.block ?_
    refine X.range (items := pcs 0 (splits s)) Is.rfl' Try.func30 rfl rfl (pieces_iter s (by omega) b9) rfl (by intro x hx; obtain ⟨i, hi⟩ := List.getElem?_of_mem hx; obtain ⟨p, _, rfl⟩ := pcs_get0 hi; rfl) (α := Unit) (β := Unit) (fun u => [.cells b2 4 [bl false]]) (fun u => [.cells b2 4 [bl false]]) (fun k u => k ≤ 8 ∧ ((splits s).take k).all partB = true) (fun c u => c = .ret ∧ (pathB s = false)) (()) ?_ (by (refine HSub.pick 0 rfl ?_); (refine HSub.pick 0 rfl ?_); exact HSub.refl _) ?_ ?_ ?_
    · exact ⟨by omega, by simp⟩
    · rintro k u x hx hI R1
      obtain ⟨hk, hall⟩ := hI
      obtain ⟨p, hp, rfl⟩ := pcs_get0 hx
      have hpl := splits_get _ s _ _ (Nat.le_refl _) hp
      refine LW.seq ?_
      refine LW.region ?_
      refine X.u (LU.assignR Is.rfl') rfl ?_
      refine LL.nil (after_code ?_)
      refine LW.region ?_
      refine X.u (LU.assignR Is.rfl') rfl ?_
      refine LL.nil (after_end ?_)
      refine ⟨rfl, _, _, rfl, fun R2 => ?_⟩
      refine LW.block ?_
      refine LW.seq ?_
      refine LW.region ?_
      refine X.u (LU.moveR Is.rfl') rfl ?_
      refine X.u (LU.geq Is.rfl' Is.rfl') rfl ?_
      refine X.u (LU.moveR Is.rfl') rfl ?_
      refine X.gF rfl rfl (fun hg => LU.moveR (by exact Is.rfl')) rfl ?_
      refine X.gF rfl rfl (fun hg => LU.call (word_calls p true (by omega)) Try.func21 rfl rfl (Opds.cons (by exact Is.whenN hg) (Opds.cons (by exact Is.rfl') Opds.nil))) rfl ?_
      refine X.gF rfl rfl (fun hg => LU.not (by exact Is.whenN hg)) rfl ?_
      refine X.u (LU.pickOr Is.rfl' Is.rfl' (fun hq => (by exact Is.whenN hq))) rfl ?_
      refine X.u (LU.moveR Is.rfl') rfl ?_
      refine X.gF rfl rfl (fun hg => LU.moveR (by exact Is.rfl')) rfl ?_
      refine X.gF rfl rfl (fun hg => LU.streqN (by exact Is.whenN hg) (by exact Is.rfl')) rfl ?_
      refine X.u (LU.pickOr Is.rfl' Is.rfl' (fun hq => (by exact Is.whenN hq))) rfl ?_
      refine X.u (LU.moveR Is.rfl') rfl ?_
      refine X.gF rfl rfl (fun hg => LU.moveR (by exact Is.rfl')) rfl ?_
      refine X.gF rfl rfl (fun hg => LU.streqN (by exact Is.whenN hg) (by exact Is.rfl')) rfl ?_
      refine X.u (LU.pickOr Is.rfl' Is.rfl' (fun hq => (by exact Is.whenN hq))) rfl ?_
      refine LL.nil (after_code ?_)
      refine X.cond rfl (fun h6 => ?_) (fun h6 => ?_)
      · try have h6 := of_decide_eq_true h6
        refine LW.seq ?_
        refine LW.region ?_
        refine X.act (X.store 0 rfl Try.sizeOf4 Is.rfl' Is.rfl' (by exact Cells.raw rfl) (by (simp; done)) (by (simp; done)) ?_)
        refine LL.nil (after_code ?_)
        refine LW.ret (ret_blk (after_end ?_))
        refine ⟨(), ⟨rfl, ?_⟩, (by repeat (exact HSub.refl _))⟩
        exact part_bad hp h6
      · try have h6 := of_decide_eq_false h6
        refine LW.skip (after_blk (after_end ?_))
        refine ⟨(), ?_, (by repeat (exact HSub.refl _))⟩
        exact part_next hp h6 hall
    · rintro D u hI
      obtain ⟨hk, hall⟩ := hI
      refine after_blk (after_code ?_)
      refine LW.seq ?_
      refine LW.region ?_
      refine X.act (X.store 1 rfl Try.sizeOf4 Is.rfl' Is.rfl' (by exact Cells.raw rfl) (by (simp; done)) (by (simp; done)) ?_)
      refine LL.nil (after_code ?_)
      refine LW.ret (after_end ?_)
      refine X.retM (H' := []) 2 rfl (by exact Res.cell1 0 rfl rfl ⟨Try.sizeOf4, Try.isAgg4⟩ (Part.one rfl) (by exact IsR rfl)) (by repeat (first | exact HSub.refl _ | refine HSub.drop ?_)) ?_
      exact ⟨by rw [path_good (by omega) (by rw [pcs_len] at hk; exact hk) (by rw [pcs_len] at hall; exact hall)], rfl⟩
    · rintro D c u ⟨rfl, hL⟩
      refine LW.ret (ret_blk (ret_code (after_end ?_)))
      refine X.retM (H' := []) 2 rfl (by exact Res.cell1 1 rfl rfl ⟨Try.sizeOf4, Try.isAgg4⟩ (Part.one rfl) (by exact IsR rfl)) (by repeat (first | exact HSub.refl _ | refine HSub.drop ?_)) ?_
      exact ⟨by rw [hL], rfl⟩
end Go.Proofs.Ytcemodldbfiomaa
