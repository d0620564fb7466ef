/- The merge queue: one of a list goes. -/
import Derived.Test.YtpimalihpnfdkaaQuA
set_option linter.unusedVariables false
set_option linter.unusedSimpArgs false
namespace Go.Proofs.Ytpimalihpnfdkaa
open Go.RowKit Go.L
attribute [local irreducible] LL LW LO
abbrev ir (l : List Int) : List LV := l.map fun x => i64 x
theorem intEls_flat (l : List Int) : (intEls l).flatten = ir l := by
  induction l with
  | nil => rfl
  | cons a r ih => show [i64 a] ++ (intEls r).flatten = _; rw [ih]; rfl
set_option maxRecDepth 100000 in
theorem cloneO_calls (l : List Int) (k : Cap) (hl : l.length < 1099511627776) (h0 : 0 < l.length) : LCalls Try.prog 59 [Ints l k] [] (fun r H' => ∃ b c rest, r = .raw (.slice (some ⟨b, 0, none⟩) l.length c) ∧ l.length ≤ c ∧ rest.length = c - l.length ∧ H' = [.cells b 3 (ir l ++ raws rest)]) := by
  have hel := intEls_length l
  refine LCalls.of Try.func59 rfl Try.ntmps59 Try.results59 rfl (fun Rf => ?_)
  refine LW.seq ?_
  refine LW.region ?_
  refine X.u (LU.assign (Is.nil 1)) rfl ?_
  refine LL.nil (after_code ?_)
  refine LW.seq ?_
  refine LW.seq ?_
  refine LW.region ?_
  refine X.u (LU.moveS Is.rfl') rfl ?_
  refine X.act (LO.nilSl (st := ⟨_, _, _⟩) rfl Try.underlying24 Is.rfl' Is.rfl' (fun bb hbb => ?_))
  refine LL.nil (after_code ?_)
  refine X.cond rfl (fun h1 => ?_) (fun h1 => ?_)
  · try have h1 := of_decide_eq_true h1
    refine LW.seq ?_
    refine LW.region ?_
    refine X.u (LU.assign (Is.nil 1)) rfl ?_
    refine LL.nil (after_code ?_)
    refine LW.ret (ret_code (after_end ?_))
    refine X.ret (H' := []) (Res.one (by exact IsS rfl)) (by repeat (exact HSub.refl _)) ?_
    exfalso; have hq := congrArg List.length (hbb h1); rw [hel] at hq; have hq2 : l.length = 0 := hq; omega
  · try have h1 := of_decide_eq_false h1
    refine LW.skip (after_code ?_)
    refine LW.seq ?_
    refine LW.region ?_
    refine X.act (X.litO rfl Try.underlying24 Try.sizeOf3 Try.zeroValue3 (ones rfl) rfl (by decide) (by decide) Elems.nil (by simp) rfl (fun b5 => ?_))
    refine X.u (LU.moveS Is.rfl') rfl ?_
    refine X.act (X.appendO (z := (.int .i64 0)) 0 rfl rfl Try.underlying24 (El.of (P := Try.prog) (z := (.int .i64 0)) (size := 1) (bytes := 8) rfl rfl rfl) (ones rfl) Is.rfl' Is.rfl' (by simp) (SrcL.slice Try.underlying24 (by decide) (by exact intEls_size _)) (by simp only [Option.getD_some, Option.getD_none, byteEls_length, intEls_length, List.length_append, List.length_cons, List.length_nil, List.length_map, List.length_drop, List.length_take, Int.toNat_natCast]; omega) (by simp only [Option.getD_some, Option.getD_none, byteEls_length, intEls_length, List.length_append, List.length_cons, List.length_nil, List.length_map, List.length_drop, List.length_take, Int.toNat_natCast]; omega) (fun b7 c7 rest7 hc7 hr7 => ?_))
    refine X.weak (t := 7) (v := .raw (.slice (some ⟨b7, 0, none⟩) l.length c7)) (Is.of (congrArg (fun n => LV.raw (.slice (some ⟨b7, 0, none⟩) n c7)) hel)) ?_
    refine X.u (LU.assignR Is.rfl') rfl ?_
    refine LL.nil (after_code ?_)
    refine LW.ret (after_end ?_)
    refine X.ret (H' := [.cells b7 3 ((intEls l).flatten ++ raws rest7)]) (Res.one (by exact IsR rfl)) (by repeat (exact HSub.refl _)) ?_
    exact ⟨b7, c7, rest7, rfl, by omega, by omega, by rw [intEls_flat]⟩
theorem putAt_app (A B C : List LV) : putAt (A ++ B) A.length C = A ++ C ++ B.drop C.length := by
  unfold putAt
  rw [List.take_left, ← List.drop_drop, List.drop_left]
theorem del_put {l : List Int} {i : Nat} (hi : i < l.length) (rest : List LV) : putAt (putAt (ir l ++ rest) i (ir (l.drop (i + 1)))) (l.length - 1) [i64 0] = ir (l.eraseIdx i) ++ i64 0 :: rest := by
  have e1 : l = l.take i ++ l[i] :: l.drop (i + 1) := by rw [← List.drop_eq_getElem_cons hi, List.take_append_drop]
  have e2 : l.eraseIdx i = l.take i ++ l.drop (i + 1) := List.eraseIdx_eq_take_drop_succ l i
  have e3 : ir l ++ rest = ir (l.take i) ++ (i64 l[i] :: (ir (l.drop (i + 1)) ++ rest)) := by
    have := congrArg (fun z => ir z ++ rest) e1
    refine this.trans ?_
    show List.map _ (l.take i ++ l[i] :: l.drop (i + 1)) ++ rest = _
    rw [List.map_append, List.map_cons, List.append_assoc]; rfl
  rw [e3, e2]
  have hA : (ir (l.take i)).length = i := by rw [List.length_map, List.length_take]; omega
  have hB : (ir (l.drop (i + 1))).length = l.length - (i + 1) := by rw [List.length_map, List.length_drop]
  have hm : ir (l.take i ++ l.drop (i + 1)) = ir (l.take i) ++ ir (l.drop (i + 1)) := List.map_append ..
  rw [hm]
  generalize ir (l.take i) = A at *
  generalize ir (l.drop (i + 1)) = C at *
  have h1 := putAt_app A (i64 l[i] :: (C ++ rest)) C
  rw [hA] at h1
  rw [h1]
  obtain ⟨v, hv⟩ : ∃ v, (i64 l[i] :: (C ++ rest)).drop C.length = v :: rest := by
    have h2 : i64 l[i] :: (C ++ rest) = (i64 l[i] :: C) ++ rest := rfl
    rw [h2, List.drop_append_of_le_length (by simp)]
    obtain ⟨v, hv⟩ := List.length_eq_one_iff.1 (show ((i64 l[i] :: C).drop C.length).length = 1 by rw [List.length_drop, List.length_cons]; omega)
    exact ⟨v, by rw [hv]; rfl⟩
  rw [hv]
  have h3 := putAt_app (A ++ C) (v :: rest) [i64 0]
  rw [List.length_append, hA, hB, show i + (l.length - (i + 1)) = l.length - 1 by omega] at h3
  rw [h3]
  simp
theorem sliced_lit (b l h m : Nat) : sliced (some ⟨b, 0, none⟩) l h m 1 = .slice (some ⟨b, if m = l then 0 else l, none⟩) (h - l) (m - l) := by
  unfold sliced
  by_cases e : m = l
  · rw [if_pos e, if_pos e]
  · rw [if_neg e, if_neg e]; simp [add_lit]
theorem del_src {l : List Int} {i c : Nat} (hi : i < l.length) (hc : l.length ≤ c) (rest : List LV) : (if c = i + 1 then 0 else i + 1) + (l.length - (i + 1)) * 1 ≤ (ir l ++ rest).length ∧ (intEls (l.drop (i + 1))).flatten = ((ir l ++ rest).drop (if c = i + 1 then 0 else i + 1)).take ((l.length - (i + 1)) * 1) := by
  rw [intEls_flat, List.length_append, List.length_map]
  by_cases e : c = i + 1
  · rw [if_pos e, show l.length - (i + 1) = 0 by omega, List.drop_of_length_le (by omega)]
    exact ⟨by omega, by simp⟩
  · rw [if_neg e]
    refine ⟨by omega, ?_⟩
    rw [List.drop_append_of_le_length (by simp; omega), List.take_append_of_le_length (by simp), List.take_of_length_le (by simp)]
    simp [ir]
set_option maxRecDepth 100000 in
theorem delete_calls (b c : Nat) (l : List Int) (rest : List LV) (i : Nat) (hi : i < l.length) (hc : l.length ≤ c) (hl : l.length < 1099511627776) : LCalls Try.prog 67 [.raw (.slice (some ⟨b, 0, none⟩) l.length c), i64 (i : Nat), i64 ((i + 1 : Nat) : Int)] [.cells b 3 (ir l ++ rest)] (fun r H' => r = .raw (.slice (some ⟨b, 0, none⟩) (l.length - 1) c) ∧ H' = [.cells b 3 (ir (l.eraseIdx i) ++ i64 0 :: rest)]) := by
  refine LCalls.of Try.func67 rfl Try.ntmps67 Try.results67 rfl (fun Rf => ?_)
  refine LW.seq ?_
  refine LW.region ?_
  refine X.u (LU.assign (Is.nil 1)) rfl ?_
  refine LL.nil (after_code ?_)
  refine LW.seq ?_
  refine LW.region ?_
  refine X.u (LU.moveR Is.rfl') rfl ?_
  refine X.u (LU.moveR Is.rfl') rfl ?_
  refine X.u (LU.moveR Is.rfl') rfl ?_
  refine X.u (LU.moveR Is.rfl') rfl ?_
  refine X.u (LU.lenO Try.underlying24 Is.rfl') rfl ?_
  refine X.u (LU.sliceR3 Try.sizeOf3 Try.underlying24 Is.rfl' Is.rfl' Is.rfl' Is.rfl' (by omega) (by omega) (by omega) (by omega)) rfl ?_
  refine LL.nil (after_code ?_)
  refine LW.seq ?_
  refine LW.seq ?_
  refine LW.region ?_
  refine X.u (LU.moveR Is.rfl') rfl ?_
  refine X.u (LU.moveR Is.rfl') rfl ?_
  refine X.u (LU.weak (LU.eql Is.rfl' Is.rfl') (asB (c := false) rfl (by simp; omega))) rfl ?_
  refine LL.nil (after_code ?_)
  refine X.condF rfl ?_ ?_
  · rfl
  refine LW.skip (after_code ?_)
  refine LW.seq ?_
  refine LW.region ?_
  refine X.u (LU.moveR Is.rfl') rfl ?_
  refine X.u (LU.lenO Try.underlying24 Is.rfl') rfl ?_
  refine X.u (LU.assignR Is.rfl') rfl ?_
  refine LL.nil (after_code ?_)
  refine LW.seq ?_
  obtain ⟨hsr1, hsr2⟩ := del_src hi hc rest
  have hsr3 : (intEls (l.drop (i + 1))).length = l.length - (i + 1) := by rw [intEls_length, List.length_drop]
  have hsr4 : 0 + i * 1 + (l.length - (i + 1)) * 1 ≤ (ir l ++ rest).length := by rw [List.length_append, List.length_map]; omega
  refine X.drawM 6 rfl (by kernel_rfl) rfl ?_
  refine QD.u (LU.moveR Is.rfl') rfl ?_
  refine QD.u (LU.moveR Is.rfl') rfl ?_
  refine QD.u (LU.weak (LU.sliceR (l := none) (h := some ((i : Nat) : Int)) Try.sizeOf3 Try.underlying24 Is.rfl' trivial ⟨_, Is.rfl'⟩ (by simp) (by simp) (by simp; omega) (by omega)) (Is.of (y := .raw (.slice (some ⟨b, 0, none⟩) i c)) (congrArg LV.raw ((sliced_lit b _ _ _).trans (by simp))))) rfl ?_
  refine QD.u (LU.moveR Is.rfl') rfl ?_
  refine QD.u (LU.moveR Is.rfl') rfl ?_
  refine QD.u (LU.weak (LU.sliceR (l := some ((i + 1 : Nat) : Int)) (h := none) Try.sizeOf3 Try.underlying24 Is.rfl' ⟨_, Is.rfl'⟩ trivial (by simp; omega) (by simp; omega) (by simp; omega) (by omega)) (Is.of (y := .raw (.slice (some ⟨b, if c = i + 1 then 0 else i + 1, none⟩) (l.length - (i + 1)) (c - (i + 1)))) (congrArg LV.raw ((sliced_lit b _ _ _).trans (by simp))))) rfl ?_
  refine QD.nil ?_
  refine X.act (LO.appendIn (st := ⟨_, _, _⟩) (ys := intEls (l.drop (i + 1))) (b := b) (off := 0) (n := i) (c := c) (off2 := if c = i + 1 then 0 else (i + 1)) (n2 := l.length - (i + 1)) (c2 := c - (i + 1)) 0 rfl rfl Try.underlying24 Try.underlying24 (El.of (P := Try.prog) (z := (.int .i64 0)) (size := 1) (bytes := 8) rfl rfl rfl) Is.rfl' Is.rfl' (intEls_size _) hsr3 hsr1 hsr2 (by omega) (by omega) hsr4 ?_)
  refine X.weak (t := 26) (v := .raw (.slice (some ⟨b, 0, none⟩) (l.length - 1) c)) (Is.of (congrArg (fun n => LV.raw (.slice (some ⟨b, 0, none⟩) n c)) (show i + (l.length - (i + 1)) = _ by omega))) ?_
  refine X.u (LU.assignR Is.rfl') rfl ?_
  refine LL.nil (after_code ?_)
  refine LW.seq ?_
  refine X.wcells (show putAt (ir l ++ rest) (0 + i * 1) (intEls (l.drop (i + 1))).flatten = putAt (ir l ++ rest) i (ir (l.drop (i + 1))) by rw [intEls_flat]; simp) ?_
  have hXl : l.length ≤ (putAt (ir l ++ rest) i (ir (l.drop (i + 1)))).length := by rw [putAt_length _ _ _ (by simp; omega), List.length_append, List.length_map]; omega
  have hXp := del_put hi rest
  obtain ⟨Xr, hX⟩ : ∃ Xr, Xr = putAt (ir l ++ rest) i (ir (l.drop (i + 1))) := ⟨_, rfl⟩
  rw [← hX] at hXl hXp ⊢
  refine LW.region ?_
  refine X.u (LU.moveR Is.rfl') rfl ?_
  refine X.u (LU.moveR Is.rfl') rfl ?_
  refine X.u (LU.lenO Try.underlying24 Is.rfl') rfl ?_
  refine X.u (LU.moveR Is.rfl') rfl ?_
  refine X.u (LU.weak (LU.sliceR (l := some ((l.length - 1 : Nat) : Int)) (h := some ((l.length : Nat) : Int)) Try.sizeOf3 Try.underlying24 Is.rfl' ⟨_, Is.rfl'⟩ ⟨_, Is.rfl'⟩ (by simp) (by simp) (by simp; omega) (by omega)) (Is.of (y := .raw (.slice (some ⟨b, l.length - 1, none⟩) 1 (c - (l.length - 1)))) (congrArg LV.raw ((sliced_lit b _ _ _).trans (by rw [if_neg (by simp; omega)]; (simp; omega)))))) rfl ?_
  refine X.act (LO.clear (st := ⟨_, _, _⟩) 0 rfl Try.underlying24 Try.zeroValue3 rfl rfl Is.rfl' (by decide) (by omega) ?_)
  refine LL.nil (after_code ?_)
  refine LW.seq ?_
  refine X.wcells hXp ?_
  refine LW.region ?_
  refine X.u (LU.moveR Is.rfl') rfl ?_
  refine X.u (LU.assignR Is.rfl') rfl ?_
  refine LL.nil (after_code ?_)
  refine LW.ret (after_end ?_)
  refine X.ret (H' := [.cells b 3 (ir (l.eraseIdx i) ++ i64 0 :: rest)]) (Res.one (by exact IsR rfl)) (by repeat (exact HSub.refl _)) ?_
  exact ⟨rfl, rfl⟩
end Go.Proofs.Ytpimalihpnfdkaa
