/- What covers a path; the longest prefix; a path's parent. -/
import Derived.Test.YtcemodldbfiomaaNmD
set_option linter.unusedVariables false
set_option linter.unusedSimpArgs false
namespace Go.Proofs.Ytcemodldbfiomaa
open Go.RowKit Go.L
attribute [local irreducible] LL LW LO
theorem strEls_at {l : List (List UInt8)} {i : Nat} (h : i < l.length) : (strEls l)[(i : Int).toNat]? = some [Str (l.getD i [])] := by
  rw [Int.toNat_natCast, strEls, List.getElem?_map, List.getElem?_eq_getElem h, List.getD_eq_getElem?_getD, List.getElem?_eq_getElem h]; rfl
theorem splits_le : ∀ (l : List UInt8), (splits l).length ≤ l.length + 1
  | [] => by simp [splits]
  | c :: l => by
    have := splits_le l
    unfold splits
    split
    · simp; omega
    · split
      · rename_i h t he
        rw [he] at this
        simp at this ⊢; omega
      · simp
theorem getD_some {l : List (List UInt8)} {i : Nat} (h : i < l.length) : l[i]? = some (l.getD i []) := by rw [List.getD_eq_getElem?_getD, List.getElem?_eq_getElem h]; rfl
theorem part_bad2 {s : List UInt8} {i : Nat} (h : i < (splits s).length) (hb : (!partB ((splits s).getD i [])) = true) : pathB s = false := by
  have : (splits s).all partB = false := List.all_eq_false.2 ⟨_, List.getElem_mem h, by rw [List.getD_eq_getElem?_getD, List.getElem?_eq_getElem h] at hb; simpa using hb⟩
  simp [pathB, this]
theorem part_next2 {s : List UInt8} {i : Nat} (h : i < (splits s).length) (hb : (!partB ((splits s).getD i [])) = false) (ha : ((splits s).take i).all partB = true) : ((splits s).take (i + 1)).all partB = true := by
  rw [List.getD_eq_getElem?_getD, List.getElem?_eq_getElem h] at hb
  rw [List.take_succ_eq_append_getElem h, List.all_append, ha]
  simpa using hb
theorem path_eq {s : List UInt8} {i : Nat} (hl : ¬ 64 < (s.length : Int)) (hi : ¬ (i : Int) < (splits s).length) (ha : ((splits s).take i).all partB = true) : pathB s = decide (((splits s).length : Int) ≤ 8) := by
  rw [List.take_of_length_le (by omega)] at ha
  have h64 : s.length ≤ 64 := by omega
  unfold pathB
  rw [ha, decide_eq_true h64, Bool.true_and, Bool.and_true]
  exact decide_eq_decide.2 (by omega)
set_option maxRecDepth 100000 in
theorem rpath_calls (s : List UInt8) : LCalls Try.prog 12 [Str s] [] (fun r H' => r = bl (pathB s) ∧ H' = []) := by
  have hsl := splits_le s
  refine LCalls.of Try.func12 rfl Try.ntmps12 Try.results12 rfl (fun Rf => ?_)
  refine LW.seq ?_
  refine LW.region ?_
  refine X.u (LU.assignR Is.rfl') rfl ?_
  refine LL.nil (after_code ?_)
  refine LW.seq ?_
  refine LW.seq ?_
  refine LW.region ?_
  refine X.u (LU.moveR Is.rfl') rfl ?_
  refine X.u (LU.strlenN Try.underlying9 Is.rfl') rfl ?_
  refine X.u (LU.gtr Is.rfl' Is.rfl') rfl ?_
  refine LL.nil (after_code ?_)
  refine X.cond rfl (fun h1 => ?_) (fun h1 => ?_)
  · try have h1 := of_decide_eq_true h1
    refine LW.seq ?_
    refine LW.region ?_
    refine X.u (LU.assignR Is.rfl') rfl ?_
    refine LL.nil (after_code ?_)
    refine LW.ret (ret_code (after_end ?_))
    refine X.ret (H' := []) (Res.one (by exact IsR rfl)) (by repeat (exact HSub.refl _)) ?_
    exact ⟨by rw [show pathB s = false by simp [pathB]; intro h; omega], rfl⟩
  · try have h1 := of_decide_eq_false h1
    refine LW.skip (after_code ?_)
    refine LW.seq ?_
    refine LW.region ?_
    refine X.u (LU.moveR Is.rfl') rfl ?_
    refine X.u (LU.call (split_calls s (by omega)) Try.func18 rfl rfl (Opds.cons Is.rfl' Opds.nil)) rfl ?_
    refine X.u (LU.assignS Is.rfl') rfl ?_
    refine LL.nil (after_code ?_)
    refine LW.seq ?_
    refine LW.seq ?_
    refine LW.region ?_
    refine X.u (LU.assignR Is.rfl') rfl ?_
    refine LL.nil (after_code ?_)
    refine LW.block ?_
    refine X.loopK (α := Nat) (fun i => [(4, i64 i)]) [3] (fun _ => _) (fun i => i ≤ (splits s).length ∧ ((splits s).take i).all partB = true) (fun i => (splits s).length - i) (0) (EnvLe.cons (by rfl) (EnvLe.nil)) (HSub.refl _) ?_ ?_
    · exact ⟨by omega, by simp⟩
    · rintro i hI
      obtain ⟨hk, hall⟩ := hI
      refine LW.seq ?_
      refine LW.seq ?_
      refine LW.region ?_
      refine X.u (LU.moveR Is.rfl') rfl ?_
      refine X.u (LU.moveS Is.rfl') rfl ?_
      refine X.u (LU.lenN Try.underlying24 Is.rfl' (by (simp only [Option.getD_some, Option.getD_none, byteEls_length, intEls_length, List.length_append, List.length_cons, List.length_nil, List.length_map, List.length_drop, List.length_take, Int.toNat_natCast]; rfl))) rfl ?_
      refine X.u (LU.lss Is.rfl' Is.rfl') rfl ?_
      refine LL.nil (after_code ?_)
      refine X.cond rfl (fun h5 => ?_) (fun h5 => ?_)
      · try have h5 := of_decide_eq_true h5
        refine LW.skip (after_code ?_)
        refine LW.seq ?_
        refine LW.block ?_
        refine LW.seq ?_
        have hlt : i < (splits s).length := by omega
        refine LW.region ?_
        refine X.u (LU.moveS Is.rfl') rfl ?_
        refine X.u (LU.moveR Is.rfl') rfl ?_
        refine X.u (LU.at Try.underlying24 ⟨Try.sizeOf9, Try.isAgg9⟩ Is.rfl' Is.rfl' (by omega) (strEls_at (by omega)) (by simp)) rfl ?_
        refine X.u (LU.load ⟨Try.sizeOf9, Try.isAgg9⟩ Is.rfl' (by (simp; done)) (Part.one rfl)) rfl ?_
        refine X.u (LU.call (rpart_calls _ (by have := splits_get _ s i _ (Nat.le_refl _) (getD_some hlt); omega)) Try.func25 rfl rfl (Opds.cons Is.rfl' Opds.nil)) rfl ?_
        refine X.u (LU.not Is.rfl') rfl ?_
        refine LL.nil (after_code ?_)
        refine X.cond rfl (fun h7 => ?_) (fun h7 => ?_)
        · try have h7 := of_decide_eq_true h7
          refine LW.seq ?_
          refine LW.region ?_
          refine X.u (LU.assignR Is.rfl') rfl ?_
          refine LL.nil (after_code ?_)
          refine LW.ret (ret_blk (ret_code (ret_rnd (ret_blk (ret_code (after_end ?_))))))
          refine X.ret (H' := []) (Res.one (by exact IsR rfl)) (by repeat (exact HSub.refl _)) ?_
          exact ⟨by rw [part_bad2 hlt h7], rfl⟩
        · try have h7 := of_decide_eq_false h7
          refine LW.skip (after_blk (after_code ?_))
          refine LW.region ?_
          refine X.u (LU.moveR Is.rfl') rfl ?_
          refine X.u (LU.addN Is.rfl' Is.rfl' (wrap_i64 (by omega) (by omega))) rfl ?_
          refine X.u (LU.assignR Is.rfl') rfl ?_
          refine LL.nil (after_rnd ?_)
          refine X.next (i + 1) rfl (EnvLe.cons (by rfl) (EnvLe.nil)) (Keeps.cons (by exact Eq.trans (b := .sl _ _ _) rfl rfl) (Keeps.nil)) (HSub.refl _) ?_ ?_
          · exact ⟨by omega, part_next2 hlt h7 hall⟩
          · omega
      · try have h5 := of_decide_eq_false h5
        refine LW.exit (exit_code (exit_rnd (exit_blk (after_code ?_))))
        refine LW.seq ?_
        refine LW.region ?_
        refine X.u (LU.moveS Is.rfl') rfl ?_
        refine X.u (LU.lenN Try.underlying24 Is.rfl' (by (simp only [Option.getD_some, Option.getD_none, byteEls_length, intEls_length, List.length_append, List.length_cons, List.length_nil, List.length_map, List.length_drop, List.length_take, Int.toNat_natCast]; rfl))) rfl ?_
        refine X.u (LU.leq Is.rfl' Is.rfl') rfl ?_
        refine X.u (LU.assignR Is.rfl') rfl ?_
        refine LL.nil (after_code ?_)
        refine LW.ret (after_end ?_)
        refine X.ret (H' := []) (Res.one (by exact IsR rfl)) (by repeat (exact HSub.refl _)) ?_
        exact ⟨by rw [path_eq h1 h5 hall], rfl⟩
/-- Whether a text is the beginning of another one, up to its end or a slash. -/
def under : List UInt8 → List UInt8 → Bool
  | [], [] => true
  | [], d :: _ => decide (d = 47)
  | _ :: _, [] => false
  | c :: p, d :: s => decide (c = d) && under p s
def hasP (s p : List UInt8) : Bool := decide ((p.length : Int) ≤ s.length) && decide (s.take p.length = p)
def coversB (p s : List UInt8) : Bool := pathB s && (decide (p = []) || (pathB p && under p s))
theorem under_eq : ∀ (p s : List UInt8), under p s = (hasP s p && (decide ((s.length : Int) = p.length) || decide (((s.getD p.length 0).toNat : Int) = 47)))
  | [], [] => rfl
  | [], d :: s => by
    have : decide (d = 47) = decide ((d.toNat : Int) = 47) := decide_eq_decide.2 ⟨fun h => by rw [h]; rfl, fun h => UInt8.toNat_inj.1 (by show d.toNat = 47; omega)⟩
    have h3 : decide (((d :: s).length : Int) = ([] : List UInt8).length) = false := decide_eq_false (by simp; omega)
    have h4 : hasP (d :: s) [] = true := by unfold hasP; simp; omega
    rw [under, this, h3, h4]; simp
  | c :: p, [] => by
    have h4 : hasP [] (c :: p) = false := by unfold hasP; simp
    rw [under, h4]; rfl
  | c :: p, d :: s => by
    rw [under, under_eq p s]
    have h1 : hasP (d :: s) (c :: p) = (decide (c = d) && hasP s p) := by
      unfold hasP
      by_cases hc : c = d
      · subst hc
        simp
      · have : ¬ d = c := fun h => hc h.symm
        simp [hc, this]
    rw [h1, Bool.and_assoc]
    congr 2
    have h2 : decide (((d :: s).length : Int) = (c :: p).length) = decide ((s.length : Int) = p.length) := decide_eq_decide.2 (by simp)
    rw [h2]; simp
theorem splits_ne (l : List UInt8) : splits l ≠ [] := by rw [splits_eq]; simp
theorem under_splits : ∀ (p s : List UInt8), under p s = (splits p).isPrefixOf (splits s)
  | [], [] => rfl
  | [], d :: s => by
    by_cases hd : d = 47
    · subst hd; simp [under, splits]
    · have hne := splits_ne s
      simp only [under, splits, hd, if_false, decide_false]
      cases he : splits s with
      | nil => exact absurd he hne
      | cons h t => simp [List.isPrefixOf]
  | c :: p, [] => by
    by_cases hc : c = 47
    · subst hc
      have hne := splits_ne p
      simp only [under, splits, if_true]
      cases he : splits p with
      | nil => exact absurd he hne
      | cons h t => simp [List.isPrefixOf]
    · have hne := splits_ne p
      simp only [under, splits, hc, if_false]
      cases he : splits p with
      | nil => exact absurd he hne
      | cons h t => simp [List.isPrefixOf]
  | c :: p, d :: s => by
    have ih := under_splits p s
    have hnp := splits_ne p
    have hns := splits_ne s
    rw [under, ih]
    cases hp : splits p with
    | nil => exact absurd hp hnp
    | cons h t => cases hs : splits s with
      | nil => exact absurd hs hns
      | cons h2 t2 =>
        by_cases hc : c = 47
        · by_cases hd : d = 47
          · subst hc; subst hd
            simp [splits, hp, hs, List.isPrefixOf]
          · have : ¬ c = d := fun h => hd (h ▸ hc)
            subst hc
            simp [splits, hp, hs, List.isPrefixOf, hd, this]
        · by_cases hd : d = 47
          · have : ¬ c = d := fun h => hc (h ▸ hd)
            simp [splits, hp, hs, List.isPrefixOf, hc, hd, this]
          · simp [splits, hp, hs, List.isPrefixOf, hc, hd, Bool.and_assoc]
            rfl
set_option maxRecDepth 100000 in
theorem lhas_calls (s p : List UInt8) : LCalls Try.prog 32 [Str s, Str p] [] (fun r H' => r = bl (hasP s p) ∧ H' = []) := by
  refine LCalls.of Try.func32 rfl Try.ntmps32 Try.results32 rfl (fun Rf => ?_)
  refine LW.seq ?_
  refine LW.region ?_
  refine X.u (LU.assignR Is.rfl') rfl ?_
  refine LL.nil (after_code ?_)
  refine LW.seq ?_
  refine LW.region ?_
  refine X.u (LU.moveR Is.rfl') rfl ?_
  refine X.u (LU.strlenN Try.underlying9 Is.rfl') rfl ?_
  refine X.u (LU.moveR Is.rfl') rfl ?_
  refine X.u (LU.strlenN Try.underlying9 Is.rfl') rfl ?_
  refine X.u (LU.geq Is.rfl' Is.rfl') rfl ?_
  refine X.u (LU.moveR Is.rfl') rfl ?_
  refine X.gT rfl rfl (fun hg => LU.moveR (by exact Is.rfl')) rfl ?_
  refine X.gT rfl rfl (fun hg => LU.moveR (by exact Is.rfl')) rfl ?_
  refine X.gT rfl rfl (fun hg => LU.strlenN Try.underlying9 (by exact Is.whenE hg)) rfl ?_
  refine X.gT rfl rfl (fun hg => LU.strsliceN (l := none) (h := some _) Try.underlying9 trivial ⟨_, (by exact Is.whenE hg)⟩ (by simp only [Option.getD_none]; omega) (by have := of_decide_eq_true hg; simp only [Option.getD_some, Option.getD_none]; omega) (by have := of_decide_eq_true hg; simp only [Option.getD_some, Option.getD_none]; omega) (by exact Is.whenE hg)) rfl ?_
  refine X.gT rfl rfl (fun hg => LU.moveR (by exact Is.rfl')) rfl ?_
  refine X.gT rfl rfl (fun hg => LU.streqN (by exact Is.whenE hg) (by exact Is.whenE hg)) rfl ?_
  refine X.u (LU.pickAnd Is.rfl' (fun hq => (by exact Is.whenE hq)) Is.rfl') rfl ?_
  refine X.u (LU.assignR Is.rfl') rfl ?_
  refine LL.nil (after_code ?_)
  refine LW.ret (after_end ?_)
  refine X.ret (H' := []) (Res.one (by exact IsR rfl)) (by repeat (exact HSub.refl _)) ?_
  exact ⟨by unfold hasP; simp, rfl⟩
set_option maxRecDepth 100000 in
theorem has_calls (s p : List UInt8) : LCalls Try.prog 26 [Str s, Str p] [] (fun r H' => r = bl (hasP s p) ∧ H' = []) := by
  refine LCalls.of Try.func26 rfl Try.ntmps26 Try.results26 rfl (fun Rf => ?_)
  refine LW.seq ?_
  refine LW.region ?_
  refine X.u (LU.assignR Is.rfl') rfl ?_
  refine LL.nil (after_code ?_)
  refine LW.seq ?_
  refine LW.region ?_
  refine X.u (LU.moveR Is.rfl') rfl ?_
  refine X.u (LU.moveR Is.rfl') rfl ?_
  refine X.u (LU.call (lhas_calls s p) Try.func32 rfl rfl (Opds.cons Is.rfl' (Opds.cons Is.rfl' Opds.nil))) rfl ?_
  refine X.u (LU.assignR Is.rfl') rfl ?_
  refine LL.nil (after_code ?_)
  refine LW.ret (after_end ?_)
  refine X.ret (H' := []) (Res.one (by exact IsR rfl)) (by repeat (exact HSub.refl _)) ?_
  exact ⟨rfl, rfl⟩
theorem hasP_le {s p : List UInt8} (h : hasP s p = true) : p.length ≤ s.length := by
  simp only [hasP, Bool.and_eq_true, decide_eq_true_eq] at h
  omega
set_option maxRecDepth 100000 in
theorem covers_calls (p s : List UInt8) : LCalls Try.prog 15 [Str p, Str s] [] (fun r H' => r = bl (coversB p s) ∧ H' = []) := by
  refine LCalls.of Try.func15 rfl Try.ntmps15 Try.results15 rfl (fun Rf => ?_)
  refine LW.seq ?_
  refine LW.region ?_
  refine X.u (LU.assignR Is.rfl') rfl ?_
  refine LL.nil (after_code ?_)
  refine LW.seq ?_
  refine LW.seq ?_
  refine LW.region ?_
  refine X.u (LU.moveR Is.rfl') rfl ?_
  refine X.u (LU.call (path_calls s) Try.func11 rfl rfl (Opds.cons Is.rfl' Opds.nil)) rfl ?_
  refine X.u (LU.not Is.rfl') rfl ?_
  refine LL.nil (after_code ?_)
  refine X.cond rfl (fun h1 => ?_) (fun h1 => ?_)
  · try have h1 := of_decide_eq_true h1
    refine LW.seq ?_
    refine LW.region ?_
    refine X.u (LU.assignR Is.rfl') rfl ?_
    refine LL.nil (after_code ?_)
    refine LW.ret (ret_code (after_end ?_))
    refine X.ret (H' := []) (Res.one (by exact IsR rfl)) (by repeat (exact HSub.refl _)) ?_
    exact ⟨by unfold coversB; simp at h1; rw [h1]; rfl, rfl⟩
  · try have h1 := of_decide_eq_false h1
    refine LW.skip (after_code ?_)
    refine LW.seq ?_
    refine LW.seq ?_
    refine LW.region ?_
    refine X.u (LU.moveR Is.rfl') rfl ?_
    refine X.u (LU.streqN Is.rfl' Is.rfl') rfl ?_
    refine LL.nil (after_code ?_)
    refine X.cond rfl (fun h3 => ?_) (fun h3 => ?_)
    · try have h3 := of_decide_eq_true h3
      refine LW.seq ?_
      refine LW.region ?_
      refine X.u (LU.assignR Is.rfl') rfl ?_
      refine LL.nil (after_code ?_)
      refine LW.ret (ret_code (after_end ?_))
      refine X.ret (H' := []) (Res.one (by exact IsR rfl)) (by repeat (exact HSub.refl _)) ?_
      exact ⟨by unfold coversB; simp at h1; rw [h1, h3]; rfl, rfl⟩
    · try have h3 := of_decide_eq_false h3
      refine LW.skip (after_code ?_)
      refine LW.seq ?_
      refine LW.seq ?_
      refine LW.region ?_
      refine X.u (LU.moveR Is.rfl') rfl ?_
      refine X.u (LU.call (path_calls p) Try.func11 rfl rfl (Opds.cons Is.rfl' Opds.nil)) rfl ?_
      refine X.u (LU.not Is.rfl') rfl ?_
      refine X.u (LU.moveR Is.rfl') rfl ?_
      refine X.gF rfl rfl (fun hg => LU.moveR (by exact Is.rfl')) rfl ?_
      refine X.gF rfl rfl (fun hg => LU.moveR (by exact Is.rfl')) rfl ?_
      refine X.gF rfl rfl (fun hg => LU.call (has_calls s p) Try.func26 rfl rfl (Opds.cons (by exact Is.whenN hg) (Opds.cons (by exact Is.whenN hg) Opds.nil))) rfl ?_
      refine X.gF rfl rfl (fun hg => LU.not (by exact Is.whenN hg)) rfl ?_
      refine X.u (LU.pickOr Is.rfl' Is.rfl' (fun hq => (by exact Is.whenN hq))) rfl ?_
      refine LL.nil (after_code ?_)
      refine X.cond rfl (fun h5 => ?_) (fun h5 => ?_)
      · try have h5 := of_decide_eq_true h5
        refine LW.seq ?_
        refine LW.region ?_
        refine X.u (LU.assignR Is.rfl') rfl ?_
        refine LL.nil (after_code ?_)
        refine LW.ret (ret_code (after_end ?_))
        refine X.ret (H' := []) (Res.one (by exact IsR rfl)) (by repeat (exact HSub.refl _)) ?_
        exact ⟨by unfold coversB; rw [under_eq]; simp only [Bool.or_eq_true] at h5; rcases h5 with h | h <;> simp at h <;> simp [h, h3], rfl⟩
      · have hpp : pathB p = true := by simp only [Bool.or_eq_false_iff] at h5; simpa using h5.1
        have hhp : hasP s p = true := by simp only [Bool.or_eq_false_iff] at h5; simpa using h5.2
        have hle := hasP_le hhp
        refine LW.skip (after_code ?_)
        refine LW.seq ?_
        refine LW.region ?_
        refine X.u (LU.moveR Is.rfl') rfl ?_
        refine X.u (LU.strlenN Try.underlying9 Is.rfl') rfl ?_
        refine X.u (LU.moveR Is.rfl') rfl ?_
        refine X.u (LU.strlenN Try.underlying9 Is.rfl') rfl ?_
        refine X.u (LU.eql Is.rfl' Is.rfl') rfl ?_
        refine X.u (LU.moveR Is.rfl') rfl ?_
        refine X.gF rfl rfl (fun hg => LU.moveR (by exact Is.rfl')) rfl ?_
        refine X.gF rfl rfl (fun hg => LU.moveR (by exact Is.rfl')) rfl ?_
        refine X.gF rfl rfl (fun hg => LU.strlenN Try.underlying9 (by exact Is.whenN hg)) rfl ?_
        refine X.gF rfl rfl (fun hg => LU.stratN Try.underlying9 (by exact Is.whenN hg) (by exact Is.whenN hg) (by omega) (by have := of_decide_eq_false hg; omega)) rfl ?_
        refine X.gF rfl rfl (fun hg => LU.eql (by exact Is.whenN hg) (by exact Is.rfl')) rfl ?_
        refine X.u (LU.pickOr Is.rfl' Is.rfl' (fun hq => (by exact Is.whenN hq))) rfl ?_
        refine X.u (LU.assignR Is.rfl') rfl ?_
        refine LL.nil (after_code ?_)
        refine LW.ret (after_end ?_)
        refine X.ret (H' := []) (Res.one (by exact IsR rfl)) (by repeat (exact HSub.refl _)) ?_
        exact ⟨by unfold coversB; rw [under_eq]; simp at h1; simp [h1, h3, hpp, hhp], rfl⟩
theorem getD_eq {l : List (List UInt8)} {i : Nat} (h : i < l.length) : l.getD i [] = l[i] := by rw [List.getD_eq_getElem?_getD, List.getElem?_eq_getElem h]; rfl
theorem pre_bad {a b : List (List UInt8)} {i : Nat} (hi : i < a.length) (hp : a.take i = b.take i) (h : (decide ((b.length : Int) ≤ i) || decide (a.getD i [] ≠ b.getD i [])) = true) : a.isPrefixOf b = false := by
  rw [Bool.eq_false_iff]
  intro hpr
  obtain ⟨t, rfl⟩ := List.isPrefixOf_iff_prefix.1 hpr
  simp only [Bool.or_eq_true, decide_eq_true_eq] at h
  rcases h with h | h
  · simp at h; omega
  · exact h (by rw [getD_eq hi, getD_eq (by simp; omega), List.getElem_append_left hi])
theorem pre_next {a b : List (List UInt8)} {i : Nat} (hi : i < a.length) (hp : a.take i = b.take i) (h : (decide ((b.length : Int) ≤ i) || decide (a.getD i [] ≠ b.getD i [])) = false) : a.take (i + 1) = b.take (i + 1) := by
  simp only [Bool.or_eq_false_iff, decide_eq_false_iff_not, Decidable.not_not] at h
  have hb : i < b.length := by omega
  rw [List.take_succ_eq_append_getElem hi, List.take_succ_eq_append_getElem hb, hp]
  rw [getD_eq hi, getD_eq hb] at h
  rw [h.2]
theorem pre_good {a b : List (List UInt8)} {i : Nat} (hi : ¬ (i : Int) < a.length) (hp : a.take i = b.take i) : a.isPrefixOf b = true := by
  rw [List.take_of_length_le (by omega)] at hp
  rw [hp]
  exact List.isPrefixOf_iff_prefix.2 (List.take_prefix _ _)
set_option maxRecDepth 100000 in
theorem rcovers_calls (p s : List UInt8) : LCalls Try.prog 16 [Str p, Str s] [] (fun r H' => r = bl (coversB p s) ∧ H' = []) := by
  have hsl := splits_le s
  have hpl := splits_le p
  refine LCalls.of Try.func16 rfl Try.ntmps16 Try.results16 rfl (fun Rf => ?_)
  refine LW.seq ?_
  refine LW.region ?_
  refine X.u (LU.assignR Is.rfl') rfl ?_
  refine LL.nil (after_code ?_)
  refine LW.seq ?_
  refine LW.seq ?_
  refine LW.region ?_
  refine X.u (LU.moveR Is.rfl') rfl ?_
  refine X.u (LU.call (rpath_calls s) Try.func12 rfl rfl (Opds.cons Is.rfl' Opds.nil)) rfl ?_
  refine X.u (LU.not Is.rfl') rfl ?_
  refine LL.nil (after_code ?_)
  refine X.cond rfl (fun h1 => ?_) (fun h1 => ?_)
  · try have h1 := of_decide_eq_true h1
    refine LW.seq ?_
    refine LW.region ?_
    refine X.u (LU.assignR Is.rfl') rfl ?_
    refine LL.nil (after_code ?_)
    refine LW.ret (ret_code (after_end ?_))
    refine X.ret (H' := []) (Res.one (by exact IsR rfl)) (by repeat (exact HSub.refl _)) ?_
    exact ⟨by unfold coversB; simp at h1; rw [h1]; rfl, rfl⟩
  · have h1 : pathB s = true := by simpa using h1
    have h64 : s.length ≤ 64 := by simp only [pathB, Bool.and_eq_true, decide_eq_true_eq] at h1; omega
    refine LW.skip (after_code ?_)
    refine LW.seq ?_
    refine LW.seq ?_
    refine LW.region ?_
    refine X.u (LU.moveR Is.rfl') rfl ?_
    refine X.u (LU.streqN Is.rfl' Is.rfl') rfl ?_
    refine LL.nil (after_code ?_)
    refine X.cond rfl (fun h3 => ?_) (fun h3 => ?_)
    · try have h3 := of_decide_eq_true h3
      refine LW.seq ?_
      refine LW.region ?_
      refine X.u (LU.assignR Is.rfl') rfl ?_
      refine LL.nil (after_code ?_)
      refine LW.ret (ret_code (after_end ?_))
      refine X.ret (H' := []) (Res.one (by exact IsR rfl)) (by repeat (exact HSub.refl _)) ?_
      exact ⟨by unfold coversB; rw [h1, h3]; rfl, rfl⟩
    · try have h3 := of_decide_eq_false h3
      refine LW.skip (after_code ?_)
      refine LW.seq ?_
      refine LW.seq ?_
      refine LW.region ?_
      refine X.u (LU.moveR Is.rfl') rfl ?_
      refine X.u (LU.call (rpath_calls p) Try.func12 rfl rfl (Opds.cons Is.rfl' Opds.nil)) rfl ?_
      refine X.u (LU.not Is.rfl') rfl ?_
      refine LL.nil (after_code ?_)
      refine X.cond rfl (fun h5 => ?_) (fun h5 => ?_)
      · try have h5 := of_decide_eq_true h5
        refine LW.seq ?_
        refine LW.region ?_
        refine X.u (LU.assignR Is.rfl') rfl ?_
        refine LL.nil (after_code ?_)
        refine LW.ret (ret_code (after_end ?_))
        refine X.ret (H' := []) (Res.one (by exact IsR rfl)) (by repeat (exact HSub.refl _)) ?_
        exact ⟨by unfold coversB; simp at h5; simp [h5, h3], rfl⟩
      · have h5 : pathB p = true := by simpa using h5
        have h64p : p.length ≤ 64 := by simp only [pathB, Bool.and_eq_true, decide_eq_true_eq] at h5; omega
        refine LW.skip (after_code ?_)
        refine LW.seq ?_
        refine LW.region ?_
        refine X.u (LU.moveR Is.rfl') rfl ?_
        refine X.u (LU.call (split_calls p (by omega)) Try.func18 rfl rfl (Opds.cons Is.rfl' Opds.nil)) rfl ?_
        refine X.u (LU.assignS Is.rfl') rfl ?_
        refine LL.nil (after_code ?_)
        refine LW.seq ?_
        refine LW.region ?_
        refine X.u (LU.moveR Is.rfl') rfl ?_
        refine X.u (LU.call (split_calls s (by omega)) Try.func18 rfl rfl (Opds.cons Is.rfl' Opds.nil)) rfl ?_
        refine X.u (LU.assignS Is.rfl') rfl ?_
        refine LL.nil (after_code ?_)
        refine LW.seq ?_
        refine LW.seq ?_
        refine LW.region ?_
        refine X.u (LU.assignR Is.rfl') rfl ?_
        refine LL.nil (after_code ?_)
        refine LW.block ?_
        refine X.loopK (α := Nat) (fun i => [(7, i64 i)]) [5, 6] (fun _ => _) (fun i => i ≤ (splits p).length ∧ (splits p).take i = (splits s).take i) (fun i => (splits p).length - i) (0) (EnvLe.cons (by rfl) (EnvLe.nil)) (HSub.refl _) ?_ ?_
        · exact ⟨by omega, by simp⟩
        · rintro i hI
          obtain ⟨hk, hpre⟩ := hI
          refine LW.seq ?_
          refine LW.seq ?_
          refine LW.region ?_
          refine X.u (LU.moveR Is.rfl') rfl ?_
          refine X.u (LU.moveS Is.rfl') rfl ?_
          refine X.u (LU.lenN Try.underlying24 Is.rfl' (by (simp only [Option.getD_some, Option.getD_none, byteEls_length, intEls_length, List.length_append, List.length_cons, List.length_nil, List.length_map, List.length_drop, List.length_take, Int.toNat_natCast]; rfl))) rfl ?_
          refine X.u (LU.lss Is.rfl' Is.rfl') rfl ?_
          refine LL.nil (after_code ?_)
          refine X.cond rfl (fun h10 => ?_) (fun h10 => ?_)
          · try have h10 := of_decide_eq_true h10
            refine LW.skip (after_code ?_)
            refine LW.seq ?_
            refine LW.block ?_
            refine LW.seq ?_
            refine X.drawM 15 rfl (by kernel_rfl) rfl ?_
            refine QD.u (LU.moveR Is.rfl') rfl ?_
            refine QD.u (LU.moveS Is.rfl') rfl ?_
            refine QD.u (LU.lenN Try.underlying24 Is.rfl' (by (simp only [Option.getD_some, Option.getD_none, byteEls_length, intEls_length, List.length_append, List.length_cons, List.length_nil, List.length_map, List.length_drop, List.length_take, Int.toNat_natCast]; rfl))) rfl ?_
            refine QD.u (LU.geq Is.rfl' Is.rfl') rfl ?_
            refine QD.u (LU.moveR Is.rfl') rfl ?_
            refine QD.gF rfl rfl (fun hg => LU.moveS (by exact Is.rfl')) rfl ?_
            refine QD.gF rfl rfl (fun hg => LU.moveR (by exact Is.rfl')) rfl ?_
            refine QD.gF rfl rfl (fun hg => LU.at Try.underlying24 ⟨Try.sizeOf9, Try.isAgg9⟩ (by exact Is.whenN hg) (by exact Is.whenN hg) (by omega) (strEls_at (by omega)) (by simp)) rfl ?_
            refine QD.gF rfl rfl (fun hg => LU.load ⟨Try.sizeOf9, Try.isAgg9⟩ (by exact Is.whenN hg) (by (simp; done)) (Part.one rfl)) rfl ?_
            refine QD.gF rfl rfl (fun hg => LU.moveS (by exact Is.rfl')) rfl ?_
            refine QD.gF rfl rfl (fun hg => LU.moveR (by exact Is.rfl')) rfl ?_
            refine QD.gF rfl rfl (fun hg => LU.at Try.underlying24 ⟨Try.sizeOf9, Try.isAgg9⟩ (by exact Is.whenN hg) (by exact Is.whenN hg) (by omega) (strEls_at (by (simp only [Bool.or_eq_false_iff, Bool.and_eq_true, Bool.or_eq_true, Bool.and_eq_false_imp, Bool.not_eq_true', Bool.not_eq_false', decide_eq_true_eq, decide_eq_false_iff_not] at hg; omega))) (by simp)) rfl ?_
            refine QD.gF rfl rfl (fun hg => LU.load ⟨Try.sizeOf9, Try.isAgg9⟩ (by exact Is.whenN hg) (by (simp; done)) (Part.one rfl)) rfl ?_
            refine QD.gF rfl rfl (fun hg => LU.strneN (by exact Is.whenN hg) (by exact Is.whenN hg)) rfl ?_
            refine QD.u (LU.pickOr Is.rfl' Is.rfl' (fun hq => (by exact Is.whenN hq))) rfl ?_
            refine QD.nil ?_
            refine LL.nil (after_code ?_)
            refine X.cond rfl (fun h12 => ?_) (fun h12 => ?_)
            · try have h12 := of_decide_eq_true h12
              refine LW.seq ?_
              refine LW.region ?_
              refine X.u (LU.assignR Is.rfl') rfl ?_
              refine LL.nil (after_code ?_)
              refine LW.ret (ret_blk (ret_code (ret_rnd (ret_blk (ret_code (after_end ?_))))))
              refine X.ret (H' := []) (Res.one (by exact IsR rfl)) (by repeat (exact HSub.refl _)) ?_
              exact ⟨by unfold coversB; rw [under_splits, pre_bad (by omega) hpre h12]; simp [h3], rfl⟩
            · try have h12 := of_decide_eq_false h12
              refine LW.skip (after_blk (after_code ?_))
              refine LW.region ?_
              refine X.u (LU.moveR Is.rfl') rfl ?_
              refine X.u (LU.addN Is.rfl' Is.rfl' (wrap_i64 (by omega) (by omega))) rfl ?_
              refine X.u (LU.assignR Is.rfl') rfl ?_
              refine LL.nil (after_rnd ?_)
              refine X.next (i + 1) rfl (EnvLe.cons (by rfl) (EnvLe.nil)) (Keeps.cons (by exact Eq.trans (b := .sl _ _ _) rfl rfl) (Keeps.cons (by exact Eq.trans (b := .sl _ _ _) rfl rfl) (Keeps.nil))) (HSub.refl _) ?_ ?_
              · exact ⟨by omega, pre_next (by omega) hpre h12⟩
              · omega
          · try have h10 := of_decide_eq_false h10
            refine LW.exit (exit_code (exit_rnd (exit_blk (after_code ?_))))
            refine LW.seq ?_
            refine LW.region ?_
            refine X.u (LU.assignR Is.rfl') rfl ?_
            refine LL.nil (after_code ?_)
            refine LW.ret (after_end ?_)
            refine X.ret (H' := []) (Res.one (by exact IsR rfl)) (by repeat (exact HSub.refl _)) ?_
            exact ⟨by unfold coversB; rw [under_splits, pre_good h10 hpre]; simp [h1, h5], rfl⟩
end Go.Proofs.Ytcemodldbfiomaa
