/- Lines: Add, the walk. -/
import Derived.Test.YtolpkeajokjbjaaDoorLnJ
set_option linter.unusedVariables false
set_option linter.unusedSimpArgs false
namespace Go.Proofs.YtolpkeajokjbjaaDoor
open Go.RowKit Go.L
attribute [local irreducible] LL LW LO LP LA
abbrev z82 : Value := (.agg #[(.int .u8 0), (.int .u8 0), (.int .u8 0), (.int .u8 0), (.int .u8 0), (.int .u8 0), (.int .u8 0), (.int .u8 0), (.int .u8 0), (.int .u8 0), (.int .u8 0), (.int .u8 0), (.int .u8 0), (.int .u8 0), (.int .u8 0), (.int .u8 0), (.int .u8 0), (.int .u8 0), (.int .u8 0), (.int .u8 0), (.int .u8 0), (.int .u8 0), (.int .u8 0), (.int .u8 0), (.int .u8 0), (.int .u8 0), (.int .u8 0), (.int .u8 0), (.int .u8 0), (.int .u8 0), (.int .u8 0), (.int .u8 0), (.int .i64 0), (.int .u8 0), (.int .u8 0), (.int .u8 0), (.int .u8 0), (.int .u8 0), (.int .u8 0), (.int .u8 0), (.int .u8 0), (.int .u8 0), (.int .u8 0), (.int .u8 0), (.int .u8 0), (.int .u8 0), (.int .u8 0), (.int .u8 0), (.int .u8 0), (.int .u8 0), (.int .u8 0), (.int .u8 0), (.int .u8 0), (.int .u8 0), (.int .u8 0), (.int .u8 0), (.int .u8 0), (.int .u8 0), (.int .u8 0), (.int .u8 0), (.int .u8 0), (.int .u8 0), (.int .u8 0), (.int .u8 0), (.int .u8 0), (.int .i64 0), (.slice none 0 0)])
abbrev H5 (g ma mb : Nat) (n : Int) (m : At) (q : Ps) : List Atom := [gC g ma mb n, gA ma m, gP mb q, kb]
set_option maxHeartbeats 4000000 in
set_option maxRecDepth 100000 in
theorem add_calls (g ma mb : Nat) (n : Int) (m : At) (q : Ps) (up down : Vx) (ids : List Vx) (ts : List (List UInt8)) (k1 k2 : Cap) (t : Bool) (k : Nat) (hT : (allN m).length < 900000) (hz : Sz m k) (hk : k < 100000) (hm : m.length < 100000) (hn0 : 0 ≤ n) (hn : n < 100000) (hi : ids.length < 100000) (hts : ts.length < 100000) (ht : (lookA m up).isSome = true → (lookA m down).isSome = true → (t = true ↔ Rch (nx m) up down)) :
    LCalls Tryd.prog 11 [pt g, .agg (vxL up), .agg (vxL down), Vxs ids k1, .sl 1 (strsL ts) k2] (H5 g ma mb n m q) (fun r H' => r = i64 (addE m up down ids ts t : Nat) ∧ H' = if addE m up down ids ts t = 0 then H5 g ma mb (n + 1) (addM m (n + 1) up down ids ts) (setA q (n + 1) ⟨up, down, ids⟩) else H5 g ma mb n m q) := by
  have hul := vxL_len up
  have hdl := vxL_len down
  have hu32 : up.p.1.length = 32 := up.p.2
  have hd32 : down.p.1.length = 32 := down.p.2
  obtain ⟨E, hE⟩ : ∃ E, E = addE m up down ids ts t := ⟨_, rfl⟩
  rw [← hE]
  unfold addE at hE
  have hcf := (containsF_calls ids k1 _ (fun v => (lookA m v).isSome) [gC g ma mb n, gA ma m] (by omega) (fun v => has_fn g ma mb n m v)).mono (post' := fun r H' => r = bl (ids.any fun v => (lookA m v).isSome) ∧ H' = [gC g ma mb n, gA ma m]) fun r H' ⟨a, b⟩ => ⟨a, b.symm⟩
  refine LCalls.of Tryd.func11 rfl Tryd.ntmps11 Tryd.results11 rfl (fun Rf => ?_)
  refine LW.seq ?_
  refine LW.region ?_
  refine X.act (X.box rfl Is.rfl' (by exact Cells.agg) (fun b6 => ?_))
  refine X.act (X.box rfl Is.rfl' (by exact Cells.agg) (fun b7 => ?_))
  refine X.u (LU.assignR Is.rfl') rfl ?_
  refine LL.nil (after_code ?_)
  refine LW.seq ?_
  refine LW.block ?_
  refine LW.seq ?_
  refine LW.region ?_
  refine X.u (LU.moveR Is.rfl') rfl ?_
  refine X.u (LU.callP (show List.Perm _ ([gC g ma mb n] ++ (.cells b7 35 (vxL down) :: .cells b6 35 (vxL up) :: gA ma m :: gP mb q :: kb :: Rf)) from perm_of fun x => (by simp only [List.count_append, List.count_cons, List.count_nil]; omega)) (none_calls g ma mb n) Tryd.func33 rfl rfl (Opds.cons Is.rfl' Opds.nil)) rfl ?_
  refine X.u (LU.assignR Is.rfl') rfl ?_
  refine LL.nil (after_code ?_)
  refine X.condF rfl ?_ ?_
  · rfl
  refine LW.seq ?_
  refine LW.region ?_
  refine X.u (LU.moveS Is.rfl') rfl ?_
  refine X.u (LU.callP (show List.Perm _ ([kb] ++ (.cells b7 35 (vxL down) :: .cells b6 35 (vxL up) :: gC g ma mb n :: gA ma m :: gP mb q :: Rf)) from perm_of fun x => (by simp only [List.count_append, List.count_cons, List.count_nil]; omega)) (wrong_calls ids k1 (by omega)) Tryd.func34 rfl rfl (Opds.cons Is.rfl' Opds.nil)) rfl ?_
  refine X.u (LU.moveR Is.rfl') rfl ?_
  refine X.gF rfl rfl (fun hg => LU.moveS (by exact Is.rfl')) rfl ?_
  refine X.gF rfl rfl (fun hg => LU.lenN Tryd.underlying25 (by exact Is.whenN hg) (by (simp only [Option.getD_some, Option.getD_none, byteEls_length, intEls_length, List.length_append, List.length_cons, List.length_nil, List.length_map, List.length_drop, List.length_take, Int.toNat_natCast]; rfl))) rfl ?_
  refine X.gF rfl rfl (fun hg => LU.moveS (by exact Is.rfl')) rfl ?_
  refine X.gF rfl rfl (fun hg => LU.lenN Tryd.underlying26 (by exact Is.whenN hg) (by (simp only [Option.getD_some, Option.getD_none, byteEls_length, intEls_length, List.length_append, List.length_cons, List.length_nil, List.length_map, List.length_drop, List.length_take, Int.toNat_natCast]; rfl))) rfl ?_
  refine X.gF rfl rfl (fun hg => LU.neq (by exact Is.whenN hg) (by exact Is.whenN hg)) rfl ?_
  refine X.u (LU.pickOr Is.rfl' Is.rfl' (fun hq => (by exact Is.whenN hq))) rfl ?_
  refine X.u (LU.assignR Is.rfl') rfl ?_
  refine LL.nil (after_code ?_)
  refine X.cond rfl (fun h3 => ?_) (fun h3 => ?_)
  · have h3 : (wrongB ids || !decide ((ts.length : Int) = ids.length)) = true := by simpa using h3
    rw [if_pos h3] at hE
    refine LW.seq ?_
    refine LW.region ?_
    refine X.u (LU.assignR Is.rfl') rfl ?_
    refine LL.nil (after_code ?_)
    refine LW.ret (ret_blk (ret_code (after_end ?_)))
    refine X.ret (H' := H5 g ma mb n m q) (Res.one (by exact IsR rfl)) (by repeat (first | exact HSub.refl _ | refine HSub.pick 2 rfl ?_ | refine HSub.drop ?_)) ?_
    exact ⟨by rw [hE]; rfl, by rw [hE, if_neg (by decide)]⟩
  · have h3 : (wrongB ids || !decide ((ts.length : Int) = ids.length)) = false := by simpa using h3
    rw [if_neg (by rw [h3]; decide)] at hE
    refine LW.seq ?_
    refine LW.region ?_
    refine X.u (LU.moveS Is.rfl') rfl ?_
    refine X.u (LU.moveR Is.rfl') rfl ?_
    refine X.u (LU.bound (Is.rfl')) rfl ?_
    refine X.u (LU.callP (show List.Perm _ ([gC g ma mb n, gA ma m] ++ (.cells b7 35 (vxL down) :: .cells b6 35 (vxL up) :: gP mb q :: kb :: Rf)) from perm_of fun x => (by simp only [List.count_append, List.count_cons, List.count_nil]; omega)) (hcf) Tryd.func35 rfl rfl (Opds.cons Is.rfl' (Opds.cons Is.rfl' Opds.nil))) rfl ?_
    refine X.u (LU.assignR Is.rfl') rfl ?_
    refine LL.nil (after_code ?_)
    refine X.cond rfl (fun h5 => ?_) (fun h5 => ?_)
    · rw [if_pos h5] at hE
      refine LW.seq ?_
      refine LW.region ?_
      refine X.u (LU.assignR Is.rfl') rfl ?_
      refine LL.nil (after_code ?_)
      refine LW.ret (ret_blk (ret_code (after_end ?_)))
      refine X.ret (H' := H5 g ma mb n m q) (Res.one (by exact IsR rfl)) (by repeat (first | exact HSub.refl _ | refine HSub.pick 2 rfl ?_ | refine HSub.drop ?_)) ?_
      exact ⟨by rw [hE]; rfl, by rw [hE, if_neg (by decide)]⟩
    · rw [if_neg (by rw [h5]; decide)] at hE
      refine LW.seq ?_
      refine LW.region ?_
      refine X.u (LU.moveR Is.rfl') rfl ?_
      refine X.u (LU.loadO 1 rfl ⟨Tryd.sizeOf35, Tryd.isAgg35⟩ Is.rfl' (Part.whole (by assumption))) rfl ?_
      refine X.u (LU.callP (show List.Perm _ ([gC g ma mb n, gA ma m] ++ (.cells b7 35 (vxL down) :: .cells b6 35 (vxL up) :: gP mb q :: kb :: Rf)) from perm_of fun x => (by simp only [List.count_append, List.count_cons, List.count_nil]; omega)) (has_calls g ma mb n m up) Tryd.func20 rfl rfl (Opds.cons Is.rfl' (Opds.cons Is.rfl' Opds.nil))) rfl ?_
      refine X.u (LU.not Is.rfl') rfl ?_
      refine X.u (LU.moveR Is.rfl') rfl ?_
      refine X.gF rfl rfl (fun hg => LU.moveR (by exact Is.rfl')) rfl ?_
      refine X.gF rfl rfl (fun hg => LU.loadO 0 rfl ⟨Tryd.sizeOf35, Tryd.isAgg35⟩ (by exact Is.rfl') (Part.whole (by assumption))) rfl ?_
      refine X.gF rfl rfl (fun hg => LU.callP (show List.Perm _ ([gC g ma mb n, gA ma m] ++ (.cells b7 35 (vxL down) :: .cells b6 35 (vxL up) :: gP mb q :: kb :: Rf)) from perm_of fun x => (by simp only [List.count_append, List.count_cons, List.count_nil]; omega)) (has_calls g ma mb n m down) Tryd.func20 rfl rfl (Opds.cons (by exact Is.whenN hg) (Opds.cons (by exact Is.whenN hg) Opds.nil))) rfl ?_
      refine X.gF rfl rfl (fun hg => LU.not (by exact Is.whenN hg)) rfl ?_
      refine X.u (LU.pickOr Is.rfl' Is.rfl' (fun hq => (by exact Is.whenN hq))) rfl ?_
      refine X.u (LU.assignR Is.rfl') rfl ?_
      refine LL.nil (after_code ?_)
      refine X.cond rfl (fun h7 => ?_) (fun h7 => ?_)
      · have h7 : (!(lookA m up).isSome || !(lookA m down).isSome) = true := by simpa using h7
        rw [if_pos h7] at hE
        refine LW.seq ?_
        refine LW.region ?_
        refine X.u (LU.assignR Is.rfl') rfl ?_
        refine LL.nil (after_code ?_)
        refine LW.ret (ret_blk (ret_code (after_end ?_)))
        refine X.ret (H' := H5 g ma mb n m q) (Res.one (by exact IsR rfl)) (by repeat (first | exact HSub.refl _ | refine HSub.pick 2 rfl ?_ | refine HSub.drop ?_)) ?_
        exact ⟨by rw [hE]; rfl, by rw [hE, if_neg (by decide)]⟩
      · have h7 : (!(lookA m up).isSome || !(lookA m down).isSome) = false := by simpa using h7
        rw [if_neg (by rw [h7]; decide)] at hE
        have h7b : (lookA m up).isSome = true ∧ (lookA m down).isSome = true := by simpa using h7
        refine LW.seq ?_
        refine LW.region ?_
        refine X.u (LU.moveR Is.rfl') rfl ?_
        refine X.u (LU.loadO 1 rfl ⟨Tryd.sizeOf35, Tryd.isAgg35⟩ Is.rfl' (Part.whole (by assumption))) rfl ?_
        refine X.u (LU.loadO 0 rfl ⟨Tryd.sizeOf35, Tryd.isAgg35⟩ Is.rfl' (Part.whole (by assumption))) rfl ?_
        refine X.u (LU.callP (show List.Perm _ ([gC g ma mb n, gA ma m] ++ (.cells b7 35 (vxL down) :: .cells b6 35 (vxL up) :: gP mb q :: kb :: Rf)) from perm_of fun x => (by simp only [List.count_append, List.count_cons, List.count_nil]; omega)) (ahead_calls g ma mb n m up down t hT (fun v => Nat.lt_of_le_of_lt (hz v).1 (by omega)) ⟨fun e => ⟨h7b.1, h7b.2, (ht h7b.1 h7b.2).1 e⟩, fun e => (ht h7b.1 h7b.2).2 e.2.2⟩) Tryd.func21 rfl rfl (Opds.cons Is.rfl' (Opds.cons Is.rfl' (Opds.cons Is.rfl' Opds.nil)))) rfl ?_
        refine X.u (LU.not Is.rfl') rfl ?_
        refine X.u (LU.assignR Is.rfl') rfl ?_
        refine LL.nil (after_code ?_)
        refine X.cond rfl (fun h9 => ?_) (fun h9 => ?_)
        · rw [if_pos h9] at hE
          refine LW.seq ?_
          refine LW.region ?_
          refine X.u (LU.assignR Is.rfl') rfl ?_
          refine LL.nil (after_code ?_)
          refine LW.ret (ret_blk (ret_code (after_end ?_)))
          refine X.ret (H' := H5 g ma mb n m q) (Res.one (by exact IsR rfl)) (by repeat (first | exact HSub.refl _ | refine HSub.pick 2 rfl ?_ | refine HSub.drop ?_)) ?_
          exact ⟨by rw [hE]; rfl, by rw [hE, if_neg (by decide)]⟩
        · rw [if_neg (by rw [h9]; decide)] at hE
          refine LW.seq ?_
          refine LW.region ?_
          refine X.u (LU.moveR Is.rfl') rfl ?_
          refine X.u (LU.callP (show List.Perm _ ([gC g ma mb n, gA ma m] ++ (.cells b7 35 (vxL down) :: .cells b6 35 (vxL up) :: gP mb q :: kb :: Rf)) from perm_of fun x => (by simp only [List.count_append, List.count_cons, List.count_nil]; omega)) (len_calls g ma mb n m (by omega)) Tryd.func19 rfl rfl (Opds.cons Is.rfl' Opds.nil)) rfl ?_
          refine X.u (LU.moveS Is.rfl') rfl ?_
          refine X.u (LU.lenN Tryd.underlying26 Is.rfl' (by (simp only [Option.getD_some, Option.getD_none, byteEls_length, intEls_length, List.length_append, List.length_cons, List.length_nil, List.length_map, List.length_drop, List.length_take, Int.toNat_natCast]; rfl))) rfl ?_
          refine X.u (LU.addN Is.rfl' Is.rfl' (wrap_i64 (by omega) (by omega))) rfl ?_
          refine X.u (LU.gtr Is.rfl' Is.rfl') rfl ?_
          refine X.u (LU.assignR Is.rfl') rfl ?_
          refine LL.nil (after_code ?_)
          refine X.cond rfl (fun h11 => ?_) (fun h11 => ?_)
          · have h11 : 512 < (m.length : Int) - 2 + ids.length := by have := of_decide_eq_true h11; omega
            rw [if_pos h11] at hE
            refine LW.seq ?_
            refine LW.region ?_
            refine X.u (LU.assignR Is.rfl') rfl ?_
            refine LL.nil (after_code ?_)
            refine LW.ret (ret_blk (ret_code (after_end ?_)))
            refine X.ret (H' := H5 g ma mb n m q) (Res.one (by exact IsR rfl)) (by repeat (first | exact HSub.refl _ | refine HSub.pick 2 rfl ?_ | refine HSub.drop ?_)) ?_
            exact ⟨by rw [hE]; rfl, by rw [hE, if_neg (by decide)]⟩
          · have h11 : ¬ 512 < (m.length : Int) - 2 + ids.length := by have := of_decide_eq_false h11; omega
            rw [if_neg h11] at hE
            have htl : ts.length = ids.length := by simp at h3; omega
            refine LW.skip (after_blk (after_code ?_))
            refine LW.seq ?_
            refine LW.region ?_
            refine X.u (LU.moveR Is.rfl') rfl ?_
            refine X.u (LU.nilCheck Is.rfl') rfl ?_
            refine X.u (LU.fieldO Tryd.underlying68 rfl Tryd.sizeOf3 (by decide) Is.rfl') rfl ?_
            refine X.u (LU.loadO 2 rfl ⟨Tryd.sizeOf3, Tryd.isAgg3⟩ Is.rfl' (Part.one rfl)) rfl ?_
            refine X.u (LU.addN Is.rfl' Is.rfl' (wrap_i64 (by omega) (by omega))) rfl ?_
            refine X.u (LU.nilCheck Is.rfl') rfl ?_
            refine X.u (LU.fieldO Tryd.underlying68 rfl Tryd.sizeOf3 (by decide) Is.rfl') rfl ?_
            refine X.act (X.store 2 rfl Tryd.sizeOf3 Is.rfl' Is.rfl' (by exact Cells.raw rfl) (by (simp; done)) (by (simp; done)) ?_)
            refine LL.nil (after_code ?_)
            refine LW.seq ?_
            refine X.wcells (ys := [.raw (.map (some ma)), .raw (.map (some mb)), i64 (n + 1)]) rfl ?_
            refine LW.invM (m := 6) (γ := Nat × Nat × Nat × Nat) [(0, 63), (1, 64), (2, 65), (3, 66), (4, 67), (5, 11)] (fun g_ d => match g_ with | ⟨c_, q1, q2, q3⟩ => match d with | 63 => .agg (vxL up) | 64 => .agg (vxL down) | 65 => Vxs ids k1 | 66 => Vxs ids .unk | 67 => ptE ⟨up, down, ids⟩ | 11 => pt c_ | _ => .any) (fun g_ f => match g_ with | ⟨c_, q1, q2, q3⟩ => cond (f 5) (.cells c_ 82 (raws z82.cells.toList)) (.tail 0 0 0) :: cond (f 3) (.tail q1 q2 q3) (.tail 0 0 0) :: .cells b7 35 (vxL down) :: .cells b6 35 (vxL up) :: gC g ma mb (n + 1) :: gA ma m :: gP mb q :: kb :: Rf) (0, 0, 0, 0) rfl (by kernel_rfl) rfl rfl ((HSub.trans (by repeat (first | exact HSub.refl _ | refine HSub.pick 1 rfl ?_)) (HSub.trans (HSub.tail0 0 0 0 (Nat.le_refl _) _) (HSub.tail0 0 0 0 (Nat.le_refl _) _)))) ?_ ?_
            · intro i hi f g_ hfi hdir hdown
              obtain ⟨c_, q1, q2, q3⟩ := g_
              have hc : i = 0 ∨ i = 1 ∨ i = 2 ∨ i = 3 ∨ i = 4 ∨ i = 5 := by omega
              rcases hc with rfl | rfl | rfl | rfl | rfl | rfl
              · refine ⟨_, rfl, ?_⟩
                refine A.u (LU.loadO 3 rfl ⟨Tryd.sizeOf35, Tryd.isAgg35⟩ Is.rfl' (Part.whole (by assumption))) rfl ?_
                refine ⟨⟨c_, q1, q2, q3⟩, Weaker.mk' ?_ (HSub.refl _)⟩
                refine env_back0 (envS_hit (sl := [(0, 63), (1, 64), (2, 65), (3, 66), (4, 67), (5, 11)]) (j := 0) (d := 63) rfl (fun _ _ h => h))  (envS_next ?_)
                · intro p hp hne; simp only [List.mem_cons, List.not_mem_nil, or_false] at hp; rcases hp with rfl | rfl | rfl | rfl | rfl | rfl <;> first | exact absurd rfl hne | exact ⟨rfl, rfl⟩
              · refine ⟨_, rfl, ?_⟩
                refine A.u (LU.loadO 2 rfl ⟨Tryd.sizeOf35, Tryd.isAgg35⟩ Is.rfl' (Part.whole (by assumption))) rfl ?_
                refine ⟨⟨c_, q1, q2, q3⟩, Weaker.mk' ?_ (HSub.refl _)⟩
                refine env_back0 (envS_hit (sl := [(0, 63), (1, 64), (2, 65), (3, 66), (4, 67), (5, 11)]) (j := 1) (d := 64) rfl (fun _ _ h => h))  (envS_next ?_)
                · intro p hp hne; simp only [List.mem_cons, List.not_mem_nil, or_false] at hp; rcases hp with rfl | rfl | rfl | rfl | rfl | rfl <;> first | exact absurd rfl hne | exact ⟨rfl, rfl⟩
              · refine ⟨_, rfl, ?_⟩
                refine A.u (LU.moveS Is.rfl') rfl ?_
                refine ⟨⟨c_, q1, q2, q3⟩, Weaker.mk' ?_ (HSub.refl _)⟩
                refine env_back0 (envS_hit (sl := [(0, 63), (1, 64), (2, 65), (3, 66), (4, 67), (5, 11)]) (j := 2) (d := 65) rfl (fun _ _ h => h))  (envS_next ?_)
                · intro p hp hne; simp only [List.mem_cons, List.not_mem_nil, or_false] at hp; rcases hp with rfl | rfl | rfl | rfl | rfl | rfl <;> first | exact absurd rfl hne | exact ⟨rfl, rfl⟩
              · have d2 := hdir 2 (List.mem_of_elem_eq_true (by kernel_rfl))
                refine ⟨_, rfl, ?_⟩
                refine LP.ghost (H' := cond (f 5) (.cells c_ 82 (raws z82.cells.toList)) (.tail 0 0 0) :: .cells b7 35 (vxL down) :: .cells b6 35 (vxL up) :: gC g ma mb (n + 1) :: gA ma m :: gP mb q :: kb :: Rf) (by show L.HSub (_ :: cond (f 3) _ _ :: _) _; rw [hfi]; exact HSub.cons (HSub.drop (HSub.refl _))) ?_
                refine LP.weak (t := 65) (v := Vxs ids k1) (envS_is (j := 2) rfl d2) ?_
                refine A.act (X.call (clone_calls ids k1 (by omega)) Tryd.func36 rfl rfl rfl (HSub.refl _) (Opds.cons Is.rfl' Opds.nil) ?_)
                rintro r H' ⟨b66, o66, c66, rfl, rfl⟩
                refine ⟨(c_, b66, o66, c66), Weaker.mk' ?_ (HSub.pick 1 rfl (HSub.refl _))⟩
                refine env_back1 (envS_hit (sl := [(0, 63), (1, 64), (2, 65), (3, 66), (4, 67), (5, 11)]) (j := 3) (d := 66) rfl (Is.unk)) (envS_hit (sl := [(0, 63), (1, 64), (2, 65), (3, 66), (4, 67), (5, 11)]) (j := 2) (d := 65) rfl (fun _ _ h => h)) (envS_next ?_)
                · intro p hp hne; simp only [List.mem_cons, List.not_mem_nil, or_false] at hp; rcases hp with rfl | rfl | rfl | rfl | rfl | rfl <;> first | exact absurd rfl hne | exact ⟨rfl, rfl⟩
              · have d0 := hdir 0 (List.mem_of_elem_eq_true (by kernel_rfl))
                have d1 := hdir 1 (List.mem_of_elem_eq_true (by kernel_rfl))
                have d3 := hdir 3 (List.mem_of_elem_eq_true (by kernel_rfl))
                refine ⟨_, rfl, ?_⟩
                refine LP.weak (t := 63) (v := .agg (vxL up)) (envS_is (j := 0) rfl d0) ?_
                refine LP.weak (t := 64) (v := .agg (vxL down)) (envS_is (j := 1) rfl d1) ?_
                refine LP.weak (t := 66) (v := Vxs ids .unk) (envS_is (j := 3) rfl d3) ?_
                refine A.u (LU.build (places := #[(0, 33), (33, 33), (66, 1)]) Tryd.underlying82 Tryd.zeroValue82 (ones rfl) (by intro w; simp [Tryd.sizeOf26, Tryd.sizeOf35]) (Parts.cons Is.rfl' (by exact Cells.agg) (Parts.cons Is.rfl' (by exact Cells.agg) (Parts.cons Is.rfl' (by exact Cells.sl) Parts.nil))) (laid_pt hul hdl rfl)) rfl ?_
                refine ⟨⟨c_, q1, q2, q3⟩, Weaker.mk' ?_ (HSub.refl _)⟩
                refine env_back3 (envS_hit (sl := [(0, 63), (1, 64), (2, 65), (3, 66), (4, 67), (5, 11)]) (j := 4) (d := 67) rfl (fun _ _ h => h)) (envS_hit (sl := [(0, 63), (1, 64), (2, 65), (3, 66), (4, 67), (5, 11)]) (j := 3) (d := 66) rfl (fun _ _ h => h)) (envS_hit (sl := [(0, 63), (1, 64), (2, 65), (3, 66), (4, 67), (5, 11)]) (j := 1) (d := 64) rfl (fun _ _ h => h)) (envS_hit (sl := [(0, 63), (1, 64), (2, 65), (3, 66), (4, 67), (5, 11)]) (j := 0) (d := 63) rfl (fun _ _ h => h)) (envS_next ?_)
                · intro p hp hne; simp only [List.mem_cons, List.not_mem_nil, or_false] at hp; rcases hp with rfl | rfl | rfl | rfl | rfl | rfl <;> first | exact absurd rfl hne | exact ⟨rfl, rfl⟩
              · refine ⟨_, rfl, ?_⟩
                refine LP.ghost (H' := cond (f 3) (.tail q1 q2 q3) (.tail 0 0 0) :: .cells b7 35 (vxL down) :: .cells b6 35 (vxL up) :: gC g ma mb (n + 1) :: gA ma m :: gP mb q :: kb :: Rf) (by show L.HSub (cond (f 5) _ _ :: _) _; rw [hfi]; exact HSub.drop (HSub.refl _)) ?_
                refine A.act (X.alloc rfl Tryd.zeroValue82 (by exact Cells.rawagg (by decide)) (fun b11 => ?_))
                refine ⟨(b11, q1, q2, q3), Weaker.mk' ?_ (HSub.refl _)⟩
                refine env_back0 (envS_hit (sl := [(0, 63), (1, 64), (2, 65), (3, 66), (4, 67), (5, 11)]) (j := 5) (d := 11) rfl (fun _ _ h => h))  (envS_next ?_)
                · intro p hp hne; simp only [List.mem_cons, List.not_mem_nil, or_false] at hp; rcases hp with rfl | rfl | rfl | rfl | rfl | rfl <;> first | exact absurd rfl hne | exact ⟨rfl, rfl⟩
            · intro g_ f hf_
              obtain ⟨c_, q1, q2, q3⟩ := g_
              refine X.ghost (H' := .cells c_ 82 (raws z82.cells.toList) :: .cells b7 35 (vxL down) :: .cells b6 35 (vxL up) :: gC g ma mb (n + 1) :: gA ma m :: gP mb q :: kb :: Rf) (by show L.HSub (cond (f 5) _ _ :: _) _; rw [hf_ 5 (by omega)]; exact HSub.cons (HSub.drop (HSub.refl _))) ?_
              refine X.act (X.store 0 rfl Tryd.sizeOf82 Is.rfl' Is.rfl' (by exact Cells.agg) (by (simp; omega)) (by exact Nat.le_of_ble_eq_true rfl) ?_)
              refine LL.nil (after_code ?_)
              refine LW.seq ?_
              have hpl := pt_len ⟨up, down, ids⟩
              refine X.wcells (ys := ptL ⟨up, down, ids⟩) (putAt_all (by rw [hpl]; rfl)) ?_
              refine X.drawM 9 rfl (by kernel_rfl) rfl ?_
              refine QD.u (LU.moveR Is.rfl') rfl ?_
              refine QD.u (LU.nilCheck Is.rfl') rfl ?_
              refine QD.u (LU.fieldO Tryd.underlying68 rfl Tryd.sizeOf66 (by decide) Is.rfl') rfl ?_
              refine QD.u (LU.loadO 3 rfl ⟨Tryd.sizeOf66, Tryd.isAgg66⟩ Is.rfl' (Part.one rfl)) rfl ?_
              refine QD.u (LU.moveR Is.rfl') rfl ?_
              refine QD.u (LU.nilCheck Is.rfl') rfl ?_
              refine QD.u (LU.fieldO Tryd.underlying68 rfl Tryd.sizeOf3 (by decide) Is.rfl') rfl ?_
              refine QD.u (LU.loadO 3 rfl ⟨Tryd.sizeOf3, Tryd.isAgg3⟩ Is.rfl' (Part.one rfl)) rfl ?_
              refine QD.u (LU.loadO 0 rfl ⟨Tryd.sizeOf82, Tryd.isAgg82⟩ Is.rfl' (Part.whole (by assumption))) rfl ?_
              refine QD.nil ?_
              refine X.act (LO.mapUpdate (st := ⟨_, _, _⟩) 5 (KeyOk.int Tryd.underlying3) rfl Tryd.underlying66 Is.rfl' Is.rfl' Is.rfl' ?_)
              refine LL.nil (after_code ?_)
              refine LW.seq ?_
              refine LW.seq ?_
              refine X.wghost (H' := .cells c_ 82 (ptL ⟨up, down, ids⟩) :: .cells b7 35 (vxL down) :: .cells b6 35 (vxL up) :: gC g ma mb (n + 1) :: gA ma m :: gP mb (setA q (n + 1) ⟨up, down, ids⟩) :: kb :: Rf) (by rw [← gP_set]; exact (by repeat (first | exact HSub.refl _ | refine HSub.pick 1 rfl ?_))) ?_
              refine LW.region ?_
              refine X.u (LU.moveS Is.rfl') rfl ?_
              refine X.u (LU.lenN Tryd.underlying26 Is.rfl' (by (simp only [Option.getD_some, Option.getD_none, byteEls_length, intEls_length, List.length_append, List.length_cons, List.length_nil, List.length_map, List.length_drop, List.length_take, Int.toNat_natCast]; rfl))) rfl ?_
              refine X.u (LU.moveR Is.rfl') rfl ?_
              refine LL.nil (after_code ?_)
              refine LW.block ?_
              refine X.loopK (α := Nat) (fun i => [(79, i64 i)]) [0, 4, 10, 11, 77, 78] (fun i => .cells c_ 82 (ptL ⟨up, down, ids⟩) :: .cells b7 35 (vxL down) :: .cells b6 35 (vxL up) :: gC g ma mb (n + 1) :: gA ma (layA m (n + 1) (ids.take i) (ts.take i)) :: gP mb (setA q (n + 1) ⟨up, down, ids⟩) :: kb :: Rf) (fun i => i ≤ ids.length) (fun i => ids.length - i) (0) (EnvLe.cons (by rfl) (EnvLe.nil)) (by repeat (exact HSub.refl _)) ?_ ?_
              · exact Nat.zero_le _
              · rintro i hI
                refine LW.seq ?_
                refine LW.region ?_
                refine X.u (LU.lss Is.rfl' Is.rfl') rfl ?_
                refine LL.nil (after_code ?_)
                refine LW.seq ?_
                refine X.cond rfl (fun h17 => ?_) (fun h17 => ?_)
                · try have h17 := of_decide_eq_true h17
                  refine LW.skip (after_code ?_)
                  refine LW.seq ?_
                  refine LW.block ?_
                  refine LW.seq ?_
                  obtain ⟨v, hv⟩ := at_lt (show i < ids.length by omega)
                  obtain ⟨x, hx⟩ := at_lt (show i < ts.length by omega)
                  have hvl := vxL_len v
                  have hv32 : v.p.1.length = 32 := v.p.2
                  have hlay : layA m (n + 1) (ids.take (i + 1)) (ts.take (i + 1)) = setA (layA m (n + 1) (ids.take i) (ts.take i)) v ⟨x, [], n + 1, [], []⟩ := by
                    rw [take_snoc hv, take_snoc hx]
                    exact lay_snoc (n + 1) _ _ _ _ _ (by rw [List.length_take, List.length_take]; omega)
                  refine LW.region ?_
                  refine X.u (LU.moveR Is.rfl') rfl ?_
                  refine X.u (LU.at Tryd.underlying26 ⟨Tryd.sizeOf35, Tryd.isAgg35⟩ Is.rfl' Is.rfl' (by omega) (vxs_at hv) (vx_ne v)) rfl ?_
                  refine X.u (LU.weak (LU.load ⟨Tryd.sizeOf35, Tryd.isAgg35⟩ Is.rfl' (by assumption) (Part.whole (by assumption))) (Is.of (y := .agg (vxL v)) (rfl))) rfl ?_
                  refine X.act (X.alloc rfl Tryd.zeroValue35 (by exact Cells.rawagg (by decide)) (fun b13 => ?_))
                  refine X.u (LU.assignR Is.rfl') rfl ?_
                  refine X.act (X.store 0 rfl Tryd.sizeOf35 Is.rfl' Is.rfl' (by exact Cells.agg) (by assumption) (by exact Nat.le_of_ble_eq_true rfl) ?_)
                  refine LL.nil (after_code ?_)
                  refine X.wcells (ys := vxL v) (putAt_all (by rw [hvl]; rfl)) ?_
                  refine X.drawM 14 rfl (by kernel_rfl) rfl ?_
                  refine QD.u (LU.moveR Is.rfl') rfl ?_
                  refine QD.u (LU.nilCheck Is.rfl') rfl ?_
                  refine QD.u (LU.fieldO Tryd.underlying68 rfl Tryd.sizeOf65 (by decide) Is.rfl') rfl ?_
                  refine QD.u (LU.loadO 4 rfl ⟨Tryd.sizeOf65, Tryd.isAgg65⟩ Is.rfl' (Part.one rfl)) rfl ?_
                  refine QD.u (LU.loadO 0 rfl ⟨Tryd.sizeOf35, Tryd.isAgg35⟩ Is.rfl' (Part.whole (by assumption))) rfl ?_
                  refine QD.u (LU.moveS Is.rfl') rfl ?_
                  refine QD.u (LU.moveR Is.rfl') rfl ?_
                  refine QD.u (LU.at Tryd.underlying25 ⟨Tryd.sizeOf9, Tryd.isAgg9⟩ Is.rfl' Is.rfl' (by omega) (strsL_at hx) (by simp)) rfl ?_
                  refine QD.u (LU.load ⟨Tryd.sizeOf9, Tryd.isAgg9⟩ Is.rfl' (by (simp; done)) (Part.one rfl)) rfl ?_
                  refine QD.u (LU.moveR Is.rfl') rfl ?_
                  refine QD.u (LU.nilCheck Is.rfl') rfl ?_
                  refine QD.u (LU.fieldO Tryd.underlying68 rfl Tryd.sizeOf3 (by decide) Is.rfl') rfl ?_
                  refine QD.u (LU.loadO 4 rfl ⟨Tryd.sizeOf3, Tryd.isAgg3⟩ Is.rfl' (Part.one rfl)) rfl ?_
                  refine QD.u (LU.weak (LU.build (places := #[(0, 1), (1, 1), (2, 1), (3, 1), (4, 1)]) Tryd.underlying73 Tryd.zeroValue73 (ones rfl) (by intro w; simp [Tryd.sizeOf26, Tryd.sizeOf3, Tryd.sizeOf71, Tryd.sizeOf9]) (Parts.cons Is.rfl' (by exact Cells.raw rfl) (Parts.cons Is.rfl' (by exact Cells.raw rfl) Parts.nil)) rfl) (lay_is x (n + 1))) rfl ?_
                  refine QD.nil ?_
                  refine X.act (LO.mapUpdate (st := ⟨_, _, _⟩) 5 (KeyOk.vx vxty) rfl Tryd.underlying65 Is.rfl' (by exact Is.vx _) Is.rfl' ?_)
                  refine LL.nil (after_blk (after_code ?_))
                  refine X.wghost (H' := .cells c_ 82 (ptL ⟨up, down, ids⟩) :: .cells b7 35 (vxL down) :: .cells b6 35 (vxL up) :: gC g ma mb (n + 1) :: gA ma (layA m (n + 1) (ids.take (i + 1)) (ts.take (i + 1))) :: gP mb (setA q (n + 1) ⟨up, down, ids⟩) :: kb :: Rf) (by rw [hlay, ← gA_set]; exact (by repeat (first | exact HSub.refl _ | refine HSub.pick 0 rfl ?_ | refine HSub.pick 1 rfl ?_ | refine HSub.pick 2 rfl ?_ | refine HSub.drop ?_))) ?_
                  refine LW.region ?_
                  refine X.u (LU.addN Is.rfl' Is.rfl' (wrap_i64 (by omega) (by omega))) rfl ?_
                  refine X.u (LU.moveR Is.rfl') rfl ?_
                  refine LL.nil (after_rnd ?_)
                  refine X.next (i + 1) rfl (EnvLe.cons (by rfl) (EnvLe.nil)) (Keeps.cons (by exact Eq.trans (b := .raw _) rfl rfl) (Keeps.cons (by exact Eq.trans (b := .sl _ _ _) rfl rfl) (Keeps.cons (by exact Eq.trans (b := .raw _) rfl rfl) (Keeps.cons (by exact Eq.trans (b := .raw _) rfl rfl) (Keeps.cons (by exact Eq.trans (b := .sl _ _ _) rfl rfl) (Keeps.cons (by exact Eq.trans (b := .raw _) rfl rfl) (Keeps.nil))))))) (by repeat (exact HSub.refl _)) ?_ ?_
                  · omega
                  · omega
                · try have h17 := of_decide_eq_false h17
                  refine LW.exit (exit_code (exit_rnd (exit_blk (after_code ?_))))
                  refine LW.seq ?_
                  have hil : i = ids.length := by omega
                  have hpl2 := pt_len ⟨up, down, ids⟩
                  rw [hil, List.take_length, List.take_of_length_le (by omega)]
                  have hch := chain_step g ma mb (n + 1) (layA m (n + 1) ids ts) ⟨up, down, ids⟩ k (Sz.lay (n + 1) ids ts hz) (show ids.length < _ by omega) (by omega)
                  refine X.wghost (H' := gC g ma mb (n + 1) :: gA ma (layA m (n + 1) ids ts) :: .cells c_ 82 (ptL ⟨up, down, ids⟩) :: gP mb (setA q (n + 1) ⟨up, down, ids⟩) :: kb :: Rf) (by repeat (first | exact HSub.refl _ | refine HSub.pick 0 rfl ?_ | refine HSub.pick 2 rfl ?_ | refine HSub.pick 3 rfl ?_ | refine HSub.drop ?_)) ?_
                  refine LW.region ?_
                  refine X.u (LU.loadO 2 rfl ⟨Tryd.sizeOf82, Tryd.isAgg82⟩ Is.rfl' (Part.whole (by assumption))) rfl ?_
                  refine X.u (LU.moveR Is.rfl') rfl ?_
                  refine X.u (LU.bound (Is.rfl')) rfl ?_
                  refine X.act (X.call (hch) Tryd.func37 rfl rfl rfl (HSub.refl _) (Opds.cons Is.rfl' (Opds.cons Is.rfl' Opds.nil)) ?_)
                  rintro r H' ⟨rfl, rfl, hsz⟩
                  refine LL.nil (after_code ?_)
                  refine LW.seq ?_
                  refine LW.region ?_
                  refine X.u (LU.assignR Is.rfl') rfl ?_
                  refine LL.nil (after_code ?_)
                  refine LW.ret (after_end ?_)
                  refine X.ret (H' := H5 g ma mb (n + 1) (addM m (n + 1) up down ids ts) (setA q (n + 1) ⟨up, down, ids⟩)) (Res.one (by exact IsR rfl)) (by repeat (first | exact HSub.refl _ | refine HSub.pick 0 rfl ?_ | refine HSub.pick 1 rfl ?_ | refine HSub.drop ?_)) ?_
                  exact ⟨by rw [hE]; rfl, by rw [hE, if_pos rfl]⟩
end Go.Proofs.YtolpkeajokjbjaaDoor
