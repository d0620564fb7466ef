/- Lines: wound, Kill. -/
import Derived.Test.YtolpkeajokjbjaaDoorLnK
set_option linter.unusedVariables false
set_option linter.unusedSimpArgs false
namespace Go.Proofs.YtolpkeajokjbjaaDoor
open Go.RowKit Go.L
attribute [local irreducible] LL LW LO LP LA
def woundE (m : At) (v : Vx) : Nat := if endsB v = true then 2 else if (lookA m v).isSome = true then 0 else 111
set_option maxRecDepth 100000 in
theorem wound_calls (g ma mb : Nat) (n : Int) (m : At) (v : Vx) : LCalls Tryd.prog 30 [pt g, .agg (vxL v)] [gC g ma mb n, gA ma m, kb] (fun r H' => r = i64 (woundE m v : Nat) ∧ H' = [gC g ma mb n, gA ma m, kb]) := by
  have hvl := vxL_len v
  refine LCalls.of Tryd.func30 rfl Tryd.ntmps30 Tryd.results30 rfl (fun Rf => ?_)
  refine LW.seq ?_
  refine LW.region ?_
  refine X.act (X.box rfl Is.rfl' (by exact Cells.agg) (fun b3 => ?_))
  refine X.u (LU.assignR Is.rfl') rfl ?_
  refine LL.nil (after_code ?_)
  refine LW.seq ?_
  refine LW.block ?_
  refine LW.seq ?_
  refine LW.region ?_
  refine X.u (LU.moveR Is.rfl') rfl ?_
  refine X.u (LU.callP (show List.Perm _ ([gC g ma mb n] ++ (.cells b3 35 (vxL v) :: gA ma m :: kb :: Rf)) from perm_of fun x => (by simp only [List.count_append, List.count_cons, List.count_nil]; omega)) (none_calls g ma mb n) Tryd.func33 rfl rfl (Opds.cons Is.rfl' Opds.nil)) rfl ?_
  refine X.u (LU.assignR Is.rfl') rfl ?_
  refine LL.nil (after_code ?_)
  refine X.condF rfl ?_ ?_
  · rfl
  refine LW.seq ?_
  refine LW.region ?_
  refine X.u (LU.loadO 0 rfl ⟨Tryd.sizeOf35, Tryd.isAgg35⟩ Is.rfl' (Part.whole (by assumption))) rfl ?_
  refine X.u (LU.callP (show List.Perm _ ([kb] ++ (.cells b3 35 (vxL v) :: gC g ma mb n :: gA ma m :: Rf)) from perm_of fun x => (by simp only [List.count_append, List.count_cons, List.count_nil]; omega)) (ends_calls v) Tryd.func53 rfl rfl (Opds.cons Is.rfl' Opds.nil)) rfl ?_
  refine X.u (LU.assignR Is.rfl') rfl ?_
  refine LL.nil (after_code ?_)
  refine X.cond rfl (fun h3 => ?_) (fun h3 => ?_)
  · try have h3 := of_decide_eq_true h3
    refine LW.seq ?_
    refine LW.region ?_
    refine X.u (LU.assignR Is.rfl') rfl ?_
    refine LL.nil (after_code ?_)
    refine LW.ret (ret_blk (ret_code (after_end ?_)))
    refine X.ret (H' := [gC g ma mb n, gA ma m, kb]) (Res.one (by exact IsR rfl)) (by repeat (first | exact HSub.refl _ | refine HSub.pick 1 rfl ?_ | refine HSub.drop ?_)) ?_
    exact ⟨by unfold woundE; rw [if_pos h3]; rfl, rfl⟩
  · try have h3 := of_decide_eq_false h3
    refine LW.seq ?_
    refine LW.region ?_
    refine X.u (LU.moveR Is.rfl') rfl ?_
    refine X.u (LU.loadO 0 rfl ⟨Tryd.sizeOf35, Tryd.isAgg35⟩ Is.rfl' (Part.whole (by assumption))) rfl ?_
    refine X.u (LU.callP (show List.Perm _ ([gC g ma mb n, gA ma m] ++ (.cells b3 35 (vxL v) :: kb :: Rf)) from perm_of fun x => (by simp only [List.count_append, List.count_cons, List.count_nil]; omega)) (has_calls g ma mb n m v) Tryd.func20 rfl rfl (Opds.cons Is.rfl' (Opds.cons Is.rfl' Opds.nil))) rfl ?_
    refine X.u (LU.not Is.rfl') rfl ?_
    refine X.u (LU.assignR Is.rfl') rfl ?_
    refine LL.nil (after_code ?_)
    refine X.cond rfl (fun h5 => ?_) (fun h5 => ?_)
    · have h5 : (lookA m v).isSome = false := by simpa using h5
      have hz0 : (0 : Nat) = 0 := rfl
      refine LW.seq ?_
      refine LW.region ?_
      refine X.u (LU.assignR Is.rfl') rfl ?_
      refine LL.nil (after_code ?_)
      refine LW.ret (ret_blk (ret_code (after_end ?_)))
      refine X.ret (H' := [gC g ma mb n, gA ma m, kb]) (Res.one (by exact IsR rfl)) (by repeat (first | exact HSub.refl _ | refine HSub.pick 1 rfl ?_ | refine HSub.drop ?_)) ?_
      exact ⟨by unfold woundE; rw [if_neg (by rw [h3]; decide), if_neg (by rw [h5]; decide)]; rfl, rfl⟩
    · have h5 : (lookA m v).isSome = true := by simpa using h5
      have hz0 : (0 : Nat) = 0 := rfl
      refine LW.skip (after_blk (after_code ?_))
      refine LW.seq ?_
      refine LW.region ?_
      refine X.u (LU.assignR Is.rfl') rfl ?_
      refine LL.nil (after_code ?_)
      refine LW.ret (after_end ?_)
      refine X.ret (H' := [gC g ma mb n, gA ma m, kb]) (Res.one (by exact IsR rfl)) (by repeat (first | exact HSub.refl _ | refine HSub.pick 1 rfl ?_ | refine HSub.drop ?_)) ?_
      exact ⟨by unfold woundE; rw [if_neg (by rw [h3]; decide), if_pos h5]; rfl, rfl⟩
def killE (m : At) (v : Vx) (h : Hs) : Nat := if woundE m v ≠ 0 then woundE m v else if h ∈ (atG m v).kills then 110 else 0
def killA (m : At) (v : Vx) (h : Hs) : At := if killE m v h = 0 then setA m v { atG m v with kills := (atG m v).kills ++ [h] } else m
set_option maxHeartbeats 2000000 in
set_option maxRecDepth 100000 in
theorem kill_calls (g ma mb : Nat) (n : Int) (m : At) (v : Vx) (by_ : Hs) (hk : (atG m v).kills.length < 900000) : LCalls Tryd.prog 10 [pt g, .agg (vxL v), .agg (hsL by_)] [gC g ma mb n, gA ma m, kb] (fun r H' => r = i64 (killE m v by_ : Nat) ∧ H' = [gC g ma mb n, gA ma (killA m v by_), kb]) := by
  have hvl := vxL_len v
  have hbl := hsL_len by_
  have hb32 : by_.1.length = 32 := by_.2
  have hgi := at_is m v
  obtain ⟨x, hx⟩ : ∃ x, x = atG m v := ⟨_, rfl⟩
  obtain ⟨W, hW⟩ : ∃ W, W = woundE m v := ⟨_, rfl⟩
  have hwc := wound_calls g ma mb n m v
  rw [← hx] at hk hgi
  rw [← hW] at hwc
  have hE : killE m v by_ = if W ≠ 0 then W else if by_ ∈ x.kills then 110 else 0 := by unfold killE; rw [hx, hW]
  have hA : killA m v by_ = if killE m v by_ = 0 then setA m v { x with kills := x.kills ++ [by_] } else m := by unfold killA; rw [hx]
  rw [hA, hE]
  refine LCalls.of Tryd.func10 rfl Tryd.ntmps10 Tryd.results10 rfl (fun Rf => ?_)
  refine LW.seq ?_
  refine LW.region ?_
  refine X.act (X.box rfl Is.rfl' (by exact Cells.agg) (fun b4 => ?_))
  refine X.act (X.box rfl Is.rfl' (by exact Cells.agg) (fun b5 => ?_))
  refine X.u (LU.assignR Is.rfl') rfl ?_
  refine LL.nil (after_code ?_)
  refine LW.seq ?_
  refine LW.seq ?_
  refine LW.region ?_
  refine X.u (LU.moveR Is.rfl') rfl ?_
  refine X.u (LU.loadO 1 rfl ⟨Tryd.sizeOf35, Tryd.isAgg35⟩ Is.rfl' (Part.whole (by assumption))) rfl ?_
  refine X.u (LU.callP (show List.Perm _ ([gC g ma mb n, gA ma m, kb] ++ (.cells b5 31 (hsL by_) :: .cells b4 35 (vxL v) :: Rf)) from perm_of fun x => (by simp only [List.count_append, List.count_cons, List.count_nil]; omega)) (hwc) Tryd.func30 rfl rfl (Opds.cons Is.rfl' (Opds.cons Is.rfl' Opds.nil))) rfl ?_
  refine X.u (LU.assignR Is.rfl') rfl ?_
  refine LL.nil (after_code ?_)
  refine LW.seq ?_
  refine LW.region ?_
  refine X.u (LU.moveR Is.rfl') rfl ?_
  refine X.u (LU.neq Is.rfl' Is.rfl') rfl ?_
  refine LL.nil (after_code ?_)
  refine X.cond rfl (fun h2 => ?_) (fun h2 => ?_)
  · have h2 : W ≠ 0 := by simp at h2; omega
    refine LW.seq ?_
    refine LW.region ?_
    refine X.u (LU.moveR Is.rfl') rfl ?_
    refine X.u (LU.assignR Is.rfl') rfl ?_
    refine LL.nil (after_code ?_)
    refine LW.ret (ret_code (after_end ?_))
    refine X.ret (H' := [gC g ma mb n, gA ma m, kb]) (Res.one (by exact IsR rfl)) (by repeat (first | exact HSub.refl _ | refine HSub.pick 2 rfl ?_ | refine HSub.drop ?_)) ?_
    exact ⟨by rw [if_pos h2], by rw [if_pos h2, if_neg h2]⟩
  · have h2 : ¬ W ≠ 0 := by simp at h2; omega
    refine LW.skip (after_code ?_)
    refine LW.seq ?_
    refine LW.invM (m := 7) (γ := Nat × Nat) [(0, 15), (1, 16), (2, 17), (3, 18), (4, 19), (5, 20), (6, 8)] (fun g_ d => match g_ with | ⟨b_, z_⟩ => match d with | 15 => pt g | 16 => pt g | 17 => pt g | 18 => .raw (.map (some ma)) | 19 => .agg (vxL v) | 20 => lnE x | 8 => pt b_ | _ => .any) (fun g_ f => match g_ with | ⟨b_, z_⟩ => cond (f 6) (.cells b_ 73 (raws z73.cells.toList)) (.tail 0 0 0) :: .cells b5 31 (hsL by_) :: .cells b4 35 (vxL v) :: gC g ma mb n :: gA ma m :: kb :: Rf) (0, 0) rfl (by kernel_rfl) rfl rfl ((HSub.trans (by repeat (exact HSub.refl _)) (HSub.tail0 0 0 0 (Nat.le_refl _) _))) ?_ ?_
    · intro i hi f g_ hfi hdir hdown
      obtain ⟨b_, z_⟩ := g_
      have hc : i = 0 ∨ i = 1 ∨ i = 2 ∨ i = 3 ∨ i = 4 ∨ i = 5 ∨ i = 6 := by omega
      rcases hc with rfl | rfl | rfl | rfl | rfl | rfl | rfl
      · refine ⟨_, rfl, ?_⟩
        refine A.u (LU.moveR Is.rfl') rfl ?_
        refine ⟨⟨b_, z_⟩, Weaker.mk' ?_ (HSub.refl _)⟩
        refine env_back0 (envS_hit (sl := [(0, 15), (1, 16), (2, 17), (3, 18), (4, 19), (5, 20), (6, 8)]) (j := 0) (d := 15) rfl (fun _ _ h => h))  (envS_next ?_)
        · intro p hp hne; simp only [List.mem_cons, List.not_mem_nil, or_false] at hp; rcases hp with rfl | rfl | rfl | rfl | rfl | rfl | rfl <;> first | exact absurd rfl hne | exact ⟨rfl, rfl⟩
      · have d0 := hdir 0 (List.mem_of_elem_eq_true (by kernel_rfl))
        refine ⟨_, rfl, ?_⟩
        refine LP.weak (t := 15) (v := pt g) (envS_is (j := 0) rfl d0) ?_
        refine A.u (LU.nilCheck Is.rfl') rfl ?_
        refine ⟨⟨b_, z_⟩, Weaker.mk' ?_ (HSub.refl _)⟩
        refine env_back1 (envS_hit (sl := [(0, 15), (1, 16), (2, 17), (3, 18), (4, 19), (5, 20), (6, 8)]) (j := 1) (d := 16) rfl (fun _ _ h => h)) (envS_hit (sl := [(0, 15), (1, 16), (2, 17), (3, 18), (4, 19), (5, 20), (6, 8)]) (j := 0) (d := 15) rfl (fun _ _ h => h)) (envS_next ?_)
        · intro p hp hne; simp only [List.mem_cons, List.not_mem_nil, or_false] at hp; rcases hp with rfl | rfl | rfl | rfl | rfl | rfl | rfl <;> first | exact absurd rfl hne | exact ⟨rfl, rfl⟩
      · have d1 := hdir 1 (List.mem_of_elem_eq_true (by kernel_rfl))
        refine ⟨_, rfl, ?_⟩
        refine LP.weak (t := 16) (v := pt g) (envS_is (j := 1) rfl d1) ?_
        refine A.u (LU.fieldO Tryd.underlying68 rfl Tryd.sizeOf65 (by decide) Is.rfl') rfl ?_
        refine ⟨⟨b_, z_⟩, Weaker.mk' ?_ (HSub.refl _)⟩
        refine env_back1 (envS_hit (sl := [(0, 15), (1, 16), (2, 17), (3, 18), (4, 19), (5, 20), (6, 8)]) (j := 2) (d := 17) rfl (fun _ _ h => h)) (envS_hit (sl := [(0, 15), (1, 16), (2, 17), (3, 18), (4, 19), (5, 20), (6, 8)]) (j := 1) (d := 16) rfl (fun _ _ h => h)) (envS_next ?_)
        · intro p hp hne; simp only [List.mem_cons, List.not_mem_nil, or_false] at hp; rcases hp with rfl | rfl | rfl | rfl | rfl | rfl | rfl <;> first | exact absurd rfl hne | exact ⟨rfl, rfl⟩
      · have d2 := hdir 2 (List.mem_of_elem_eq_true (by kernel_rfl))
        refine ⟨_, rfl, ?_⟩
        refine LP.weak (t := 17) (v := pt g) (envS_is (j := 2) rfl d2) ?_
        refine A.u (LU.loadO 3 rfl ⟨Tryd.sizeOf65, Tryd.isAgg65⟩ Is.rfl' (Part.one rfl)) rfl ?_
        refine ⟨⟨b_, z_⟩, Weaker.mk' ?_ (HSub.refl _)⟩
        refine env_back1 (envS_hit (sl := [(0, 15), (1, 16), (2, 17), (3, 18), (4, 19), (5, 20), (6, 8)]) (j := 3) (d := 18) rfl (fun _ _ h => h)) (envS_hit (sl := [(0, 15), (1, 16), (2, 17), (3, 18), (4, 19), (5, 20), (6, 8)]) (j := 2) (d := 17) rfl (fun _ _ h => h)) (envS_next ?_)
        · intro p hp hne; simp only [List.mem_cons, List.not_mem_nil, or_false] at hp; rcases hp with rfl | rfl | rfl | rfl | rfl | rfl | rfl <;> first | exact absurd rfl hne | exact ⟨rfl, rfl⟩
      · refine ⟨_, rfl, ?_⟩
        refine A.u (LU.loadO 2 rfl ⟨Tryd.sizeOf35, Tryd.isAgg35⟩ Is.rfl' (Part.whole (by assumption))) rfl ?_
        refine ⟨⟨b_, z_⟩, Weaker.mk' ?_ (HSub.refl _)⟩
        refine env_back0 (envS_hit (sl := [(0, 15), (1, 16), (2, 17), (3, 18), (4, 19), (5, 20), (6, 8)]) (j := 4) (d := 19) rfl (fun _ _ h => h))  (envS_next ?_)
        · intro p hp hne; simp only [List.mem_cons, List.not_mem_nil, or_false] at hp; rcases hp with rfl | rfl | rfl | rfl | rfl | rfl | rfl <;> first | exact absurd rfl hne | exact ⟨rfl, rfl⟩
      · have d3 := hdir 3 (List.mem_of_elem_eq_true (by kernel_rfl))
        have d4 := hdir 4 (List.mem_of_elem_eq_true (by kernel_rfl))
        refine ⟨_, rfl, ?_⟩
        refine LP.weak (t := 18) (v := .raw (.map (some ma))) (envS_is (j := 3) rfl d3) ?_
        refine LP.weak (t := 19) (v := .agg (vxL v)) (envS_is (j := 4) rfl d4) ?_
        refine A.u (LU.weak (LU.lookup 4 (KeyOk.vx vxty) rfl Tryd.underlying65 Tryd.zeroValue73 Is.rfl' (by exact Is.vx _)) (hgi)) rfl ?_
        refine ⟨⟨b_, z_⟩, Weaker.mk' ?_ (HSub.refl _)⟩
        refine env_back2 (envS_hit (sl := [(0, 15), (1, 16), (2, 17), (3, 18), (4, 19), (5, 20), (6, 8)]) (j := 5) (d := 20) rfl (fun _ _ h => h)) (envS_hit (sl := [(0, 15), (1, 16), (2, 17), (3, 18), (4, 19), (5, 20), (6, 8)]) (j := 4) (d := 19) rfl (fun _ _ h => h)) (envS_hit (sl := [(0, 15), (1, 16), (2, 17), (3, 18), (4, 19), (5, 20), (6, 8)]) (j := 3) (d := 18) rfl (fun _ _ h => h)) (envS_next ?_)
        · intro p hp hne; simp only [List.mem_cons, List.not_mem_nil, or_false] at hp; rcases hp with rfl | rfl | rfl | rfl | rfl | rfl | rfl <;> first | exact absurd rfl hne | exact ⟨rfl, rfl⟩
      · refine ⟨_, rfl, ?_⟩
        refine A.act (X.alloc rfl Tryd.zeroValue73 (by exact Cells.rawagg (by decide)) (fun b8 => ?_))
        refine ⟨(b8, 0), Weaker.mk' ?_ (by show L.HSub (_ :: cond (f 6) _ (.tail 0 0 0) :: _) _; rw [hfi]; exact HSub.cons (HSub.drop (HSub.refl _)))⟩
        refine env_back0 (envS_hit (sl := [(0, 15), (1, 16), (2, 17), (3, 18), (4, 19), (5, 20), (6, 8)]) (j := 6) (d := 8) rfl (fun _ _ h => h))  (envS_next ?_)
        · intro p hp hne; simp only [List.mem_cons, List.not_mem_nil, or_false] at hp; rcases hp with rfl | rfl | rfl | rfl | rfl | rfl | rfl <;> first | exact absurd rfl hne | exact ⟨rfl, rfl⟩
    · intro g_ f hf_
      obtain ⟨b_, z_⟩ := g_
      refine X.ghost (H' := .cells b_ 73 (raws z73.cells.toList) :: .cells b5 31 (hsL by_) :: .cells b4 35 (vxL v) :: gC g ma mb n :: gA ma m :: kb :: Rf) (by show L.HSub (cond (f 6) _ (.tail 0 0 0) :: _) _; rw [hf_ 6 (by omega)]; exact HSub.refl _) ?_
      refine X.act (X.store 0 rfl Tryd.sizeOf73 Is.rfl' Is.rfl' (by exact Cells.agg) (by (simp; done)) (by exact Nat.le_of_ble_eq_true rfl) ?_)
      refine LL.nil (after_code ?_)
      refine LW.seq ?_
      refine LW.seq ?_
      refine X.wcells (ys := lnL x) rfl ?_
      refine LW.region ?_
      refine X.u (LU.fieldO Tryd.underlying73 rfl Tryd.sizeOf71 (by decide) Is.rfl') rfl ?_
      refine X.u (LU.loadO 0 rfl ⟨Tryd.sizeOf71, Tryd.isAgg71⟩ Is.rfl' (Part.one rfl)) rfl ?_
      refine X.u (LU.loadO 1 rfl ⟨Tryd.sizeOf31, Tryd.isAgg31⟩ Is.rfl' (Part.whole (by assumption))) rfl ?_
      refine X.u (LU.call (containsH_calls x.kills .unk by_ (by omega)) Tryd.func31 rfl rfl (Opds.cons Is.rfl' (Opds.cons Is.rfl' Opds.nil))) rfl ?_
      refine LL.nil (after_code ?_)
      refine X.cond rfl (fun h5 => ?_) (fun h5 => ?_)
      · have h5 : by_ ∈ x.kills := by simpa using h5
        refine LW.seq ?_
        refine LW.region ?_
        refine X.u (LU.assignR Is.rfl') rfl ?_
        refine LL.nil (after_code ?_)
        refine LW.ret (ret_code (after_end ?_))
        refine X.ret (H' := [gC g ma mb n, gA ma m, kb]) (Res.one (by exact IsR rfl)) (by repeat (first | exact HSub.refl _ | refine HSub.pick 3 rfl ?_ | refine HSub.drop ?_)) ?_
        exact ⟨by rw [if_neg h2, if_pos h5]; rfl, by rw [if_neg h2, if_pos h5, if_neg (by decide)]⟩
      · have h5 : by_ ∉ x.kills := by simpa using h5
        refine LW.skip (after_code ?_)
        refine LW.seq ?_
        refine LW.invM (m := 6) (γ := Nat × Nat × Nat × Nat × Nat × Nat) [(0, 25), (1, 26), (2, 27), (3, 28), (4, 29), (5, 30)] (fun g_ d => match g_ with | ⟨q1, q2, q3, q4, q5, q6⟩ => match d with | 25 => .raw (.pointer (some ⟨b_, 1, none⟩)) | 26 => .sl 32 (hss x.kills) .unk | 27 => .sl 32 (hss x.kills) (.tok q1 q2 q3) | 28 => .agg (hsL by_) | 29 => .sl 32 [hsL by_] .full | 30 => .sl 32 (hss (x.kills ++ [by_])) (.tok q4 q5 q6) | _ => .any) (fun g_ f => match g_ with | ⟨q1, q2, q3, q4, q5, q6⟩ => cond (f 5) (.tail q4 q5 q6) (cond (f 2) (.tail q1 q2 q3) (.tail 0 0 0)) :: .cells b_ 73 (lnL x) :: .cells b5 31 (hsL by_) :: .cells b4 35 (vxL v) :: gC g ma mb n :: gA ma m :: kb :: Rf) (0, 0, 0, 0, 0, 0) rfl (by kernel_rfl) rfl rfl ((HSub.trans (by repeat (exact HSub.refl _)) (HSub.tail0 0 0 0 (Nat.le_refl _) _))) ?_ ?_
        · intro i hi f g_ hfi hdir hdown
          obtain ⟨q1, q2, q3, q4, q5, q6⟩ := g_
          have hc : i = 0 ∨ i = 1 ∨ i = 2 ∨ i = 3 ∨ i = 4 ∨ i = 5 := by omega
          rcases hc with rfl | rfl | rfl | rfl | rfl | rfl
          · refine ⟨_, rfl, ?_⟩
            refine A.u (LU.fieldO Tryd.underlying73 rfl Tryd.sizeOf71 (by decide) Is.rfl') rfl ?_
            refine ⟨⟨q1, q2, q3, q4, q5, q6⟩, Weaker.mk' ?_ (HSub.refl _)⟩
            refine env_back0 (envS_hit (sl := [(0, 25), (1, 26), (2, 27), (3, 28), (4, 29), (5, 30)]) (j := 0) (d := 25) rfl (fun _ _ h => h))  (envS_next ?_)
            · intro p hp hne; simp only [List.mem_cons, List.not_mem_nil, or_false] at hp; rcases hp with rfl | rfl | rfl | rfl | rfl | rfl <;> first | exact absurd rfl hne | exact ⟨rfl, rfl⟩
          · have d0 := hdir 0 (List.mem_of_elem_eq_true (by kernel_rfl))
            refine ⟨_, rfl, ?_⟩
            refine LP.weak (t := 25) (v := .raw (.pointer (some ⟨b_, 1, none⟩))) (envS_is (j := 0) rfl d0) ?_
            refine A.u (LU.loadO 1 rfl ⟨Tryd.sizeOf71, Tryd.isAgg71⟩ Is.rfl' (Part.one rfl)) rfl ?_
            refine ⟨⟨q1, q2, q3, q4, q5, q6⟩, Weaker.mk' ?_ (HSub.refl _)⟩
            refine env_back1 (envS_hit (sl := [(0, 25), (1, 26), (2, 27), (3, 28), (4, 29), (5, 30)]) (j := 1) (d := 26) rfl (fun _ _ h => h)) (envS_hit (sl := [(0, 25), (1, 26), (2, 27), (3, 28), (4, 29), (5, 30)]) (j := 0) (d := 25) rfl (fun _ _ h => h)) (envS_next ?_)
            · intro p hp hne; simp only [List.mem_cons, List.not_mem_nil, or_false] at hp; rcases hp with rfl | rfl | rfl | rfl | rfl | rfl <;> first | exact absurd rfl hne | exact ⟨rfl, rfl⟩
          · have d1 := hdir 1 (List.mem_of_elem_eq_true (by kernel_rfl))
            refine ⟨_, rfl, ?_⟩
            have h6 : f 5 = false := Bool.eq_false_iff.2 (fun h => by rw [hdown 5 (by omega) h 2 (List.mem_of_elem_eq_true (by kernel_rfl))] at hfi; cases hfi)
            refine LP.ghost (H' := .cells b_ 73 (lnL x) :: .cells b5 31 (hsL by_) :: .cells b4 35 (vxL v) :: gC g ma mb n :: gA ma m :: kb :: Rf) (by show L.HSub (cond (f 5) _ (cond (f 2) _ _) :: _) _; rw [h6, hfi]; exact HSub.drop (HSub.refl _)) ?_
            refine LP.weak (t := 26) (v := .sl 32 (hss x.kills) .unk) (envS_is (j := 1) rfl d1) ?_
            refine A.act (X.call (cloneH_calls x.kills .unk (by omega)) Tryd.func32 rfl rfl rfl (HSub.refl _) (Opds.cons Is.rfl' Opds.nil) ?_)
            rintro r H' ⟨b27, o27, c27, rfl, rfl⟩
            refine ⟨(b27, o27, c27, q4, q5, q6), Weaker.mk' ?_ (by show L.HSub _ (cond (f 5) _ (.tail b27 o27 c27) :: _); rw [h6]; exact HSub.refl _)⟩
            refine env_back1 (envS_hit (sl := [(0, 25), (1, 26), (2, 27), (3, 28), (4, 29), (5, 30)]) (j := 2) (d := 27) rfl (fun _ _ h => h)) (envS_hit (sl := [(0, 25), (1, 26), (2, 27), (3, 28), (4, 29), (5, 30)]) (j := 1) (d := 26) rfl (fun _ _ h => h)) (envS_next ?_)
            · intro p hp hne; simp only [List.mem_cons, List.not_mem_nil, or_false] at hp; rcases hp with rfl | rfl | rfl | rfl | rfl | rfl <;> first | exact absurd rfl hne | exact ⟨rfl, rfl⟩
          · refine ⟨_, rfl, ?_⟩
            refine A.u (LU.loadO 2 rfl ⟨Tryd.sizeOf31, Tryd.isAgg31⟩ Is.rfl' (Part.whole (by assumption))) rfl ?_
            refine ⟨⟨q1, q2, q3, q4, q5, q6⟩, Weaker.mk' ?_ (HSub.refl _)⟩
            refine env_back0 (envS_hit (sl := [(0, 25), (1, 26), (2, 27), (3, 28), (4, 29), (5, 30)]) (j := 3) (d := 28) rfl (fun _ _ h => h))  (envS_next ?_)
            · intro p hp hne; simp only [List.mem_cons, List.not_mem_nil, or_false] at hp; rcases hp with rfl | rfl | rfl | rfl | rfl | rfl <;> first | exact absurd rfl hne | exact ⟨rfl, rfl⟩
          · have d3 := hdir 3 (List.mem_of_elem_eq_true (by kernel_rfl))
            refine ⟨_, rfl, ?_⟩
            refine LP.weak (t := 28) (v := .agg (hsL by_)) (envS_is (j := 3) rfl d3) ?_
            refine A.u (LU.lits Tryd.underlying71 Tryd.sizeOf31 Tryd.zeroValue31 (ones rfl) rfl (by decide) (by decide) (Elems.cons Is.rfl' (by exact Cells.agg) Elems.nil) (by (simp; assumption)) rfl) rfl ?_
            refine ⟨⟨q1, q2, q3, q4, q5, q6⟩, Weaker.mk' ?_ (HSub.refl _)⟩
            refine env_back1 (envS_hit (sl := [(0, 25), (1, 26), (2, 27), (3, 28), (4, 29), (5, 30)]) (j := 4) (d := 29) rfl (fun _ _ h => h)) (envS_hit (sl := [(0, 25), (1, 26), (2, 27), (3, 28), (4, 29), (5, 30)]) (j := 3) (d := 28) rfl (fun _ _ h => h)) (envS_next ?_)
            · intro p hp hne; simp only [List.mem_cons, List.not_mem_nil, or_false] at hp; rcases hp with rfl | rfl | rfl | rfl | rfl | rfl <;> first | exact absurd rfl hne | exact ⟨rfl, rfl⟩
          · have d2 := hdir 2 (List.mem_of_elem_eq_true (by kernel_rfl))
            have d4 := hdir 4 (List.mem_of_elem_eq_true (by kernel_rfl))
            refine ⟨_, rfl, ?_⟩
            have h2 : f 2 = true := hdir 2 (List.mem_of_elem_eq_true (by kernel_rfl))
            refine LP.ghost (H' := .tail q1 q2 q3 :: .cells b_ 73 (lnL x) :: .cells b5 31 (hsL by_) :: .cells b4 35 (vxL v) :: gC g ma mb n :: gA ma m :: kb :: Rf) (by show L.HSub (cond (f 5) _ (cond (f 2) _ _) :: _) _; rw [h2, hfi]; exact HSub.refl _) ?_
            refine LP.weak (t := 27) (v := .sl 32 (hss x.kills) (.tok q1 q2 q3)) (envS_is (j := 2) rfl d2) ?_
            refine LP.weak (t := 29) (v := .sl 32 [hsL by_] .full) (envS_is (j := 4) rfl d4) ?_
            refine A.act (X.append 0 rfl rfl Tryd.underlying71 (El.of (P := Tryd.prog) (z := (.agg #[(.int .u8 0), (.int .u8 0), (.int .u8 0), (.int .u8 0), (.int .u8 0), (.int .u8 0), (.int .u8 0), (.int .u8 0), (.int .u8 0), (.int .u8 0), (.int .u8 0), (.int .u8 0), (.int .u8 0), (.int .u8 0), (.int .u8 0), (.int .u8 0), (.int .u8 0), (.int .u8 0), (.int .u8 0), (.int .u8 0), (.int .u8 0), (.int .u8 0), (.int .u8 0), (.int .u8 0), (.int .u8 0), (.int .u8 0), (.int .u8 0), (.int .u8 0), (.int .u8 0), (.int .u8 0), (.int .u8 0), (.int .u8 0)])) (size := 32) (bytes := 32) rfl rfl rfl) Is.rfl' Is.rfl' (SrcL.slice Tryd.underlying71 (by decide) (by intro e he; rw [List.mem_singleton.1 he]; exact hbl)) (by simp only [Option.getD_some, Option.getD_none, byteEls_length, intEls_length, List.length_append, List.length_cons, List.length_nil, List.length_map, List.length_drop, List.length_take, Int.toNat_natCast]; omega) (by simp only [Option.getD_some, Option.getD_none, byteEls_length, intEls_length, List.length_append, List.length_cons, List.length_nil, List.length_map, List.length_drop, List.length_take, Int.toNat_natCast]; omega) (fun b30 o30 c30 => ?_))
            refine ⟨(q1, q2, q3, b30, o30, c30), Weaker.mk' ?_ (HSub.refl _)⟩
            refine env_back2 (envS_hit (sl := [(0, 25), (1, 26), (2, 27), (3, 28), (4, 29), (5, 30)]) (j := 5) (d := 30) rfl (Is.of (congrArg (fun z => LV.sl 32 z (.tok b30 o30 c30)) (hss_app x.kills [by_])))) (envS_hit (sl := [(0, 25), (1, 26), (2, 27), (3, 28), (4, 29), (5, 30)]) (j := 4) (d := 29) rfl (fun _ _ h => h)) (envS_hit (sl := [(0, 25), (1, 26), (2, 27), (3, 28), (4, 29), (5, 30)]) (j := 2) (d := 27) rfl (fun _ _ h => h)) (envS_next ?_)
            · intro p hp hne; simp only [List.mem_cons, List.not_mem_nil, or_false] at hp; rcases hp with rfl | rfl | rfl | rfl | rfl | rfl <;> first | exact absurd rfl hne | exact ⟨rfl, rfl⟩
        · intro g_ f hf_
          obtain ⟨q1, q2, q3, q4, q5, q6⟩ := g_
          refine X.ghost (H' := .tail q4 q5 q6 :: .cells b_ 73 (lnL x) :: .cells b5 31 (hsL by_) :: .cells b4 35 (vxL v) :: gC g ma mb n :: gA ma m :: kb :: Rf) (by show L.HSub (cond (f 5) _ _ :: _) _; rw [hf_ 5 (by omega)]; exact HSub.refl _) ?_
          refine X.u (LU.fieldO Tryd.underlying73 rfl Tryd.sizeOf71 (by decide) Is.rfl') rfl ?_
          refine X.act (X.store 1 rfl Tryd.sizeOf71 Is.rfl' Is.rfl' (by exact Cells.sl) (by (simp; done)) (by (simp; done)) ?_)
          refine LL.nil (after_code ?_)
          refine LW.seq ?_
          refine X.wcells (ys := [Str x.text, .sl 32 (hss (x.kills ++ [by_])) (.tok q4 q5 q6), i64 x.part, Vxs x.next .unk, Vxs x.prev .unk]) rfl ?_
          refine X.wghost (H' := .cells b_ 73 (lnL { x with kills := x.kills ++ [by_] }) :: .cells b5 31 (hsL by_) :: .cells b4 35 (vxL v) :: gC g ma mb n :: gA ma m :: kb :: Rf) (HSub.trans (B := .cells b_ 73 [Str x.text, .sl 32 (hss (x.kills ++ [by_])) (.tok q4 q5 q6), i64 x.part, Vxs x.next .unk, Vxs x.prev .unk] :: .cells b5 31 (hsL by_) :: .cells b4 35 (vxL v) :: gC g ma mb n :: gA ma m :: kb :: Rf) (by repeat (first | exact HSub.refl _ | refine HSub.pick 0 rfl ?_ | refine HSub.pick 1 rfl ?_ | refine HSub.drop ?_)) (HSub.cell 1 rfl Is.unk)) ?_
          refine X.drawM 6 rfl (by kernel_rfl) rfl ?_
          refine QD.u (LU.moveR Is.rfl') rfl ?_
          refine QD.u (LU.nilCheck Is.rfl') rfl ?_
          refine QD.u (LU.fieldO Tryd.underlying68 rfl Tryd.sizeOf65 (by decide) Is.rfl') rfl ?_
          refine QD.u (LU.loadO 3 rfl ⟨Tryd.sizeOf65, Tryd.isAgg65⟩ Is.rfl' (Part.one rfl)) rfl ?_
          refine QD.u (LU.loadO 2 rfl ⟨Tryd.sizeOf35, Tryd.isAgg35⟩ Is.rfl' (Part.whole (by assumption))) rfl ?_
          refine QD.u (LU.loadO 0 rfl ⟨Tryd.sizeOf73, Tryd.isAgg73⟩ Is.rfl' (Part.whole (by (simp; done)))) rfl ?_
          refine QD.nil ?_
          refine X.act (LO.mapUpdate (st := ⟨_, _, _⟩) 4 (KeyOk.vx vxty) rfl Tryd.underlying65 Is.rfl' (by exact Is.vx _) Is.rfl' ?_)
          refine LL.nil (after_code ?_)
          refine LW.seq ?_
          refine LW.region ?_
          refine X.u (LU.assignR Is.rfl') rfl ?_
          refine LL.nil (after_code ?_)
          refine LW.ret (after_end ?_)
          refine X.ret (H' := [gC g ma mb n, gA ma (setA m v { x with kills := x.kills ++ [by_] }), kb]) (Res.one (by exact IsR rfl)) (by rw [← gA_set]; exact (by repeat (first | exact HSub.refl _ | refine HSub.pick 0 rfl ?_ | refine HSub.pick 3 rfl ?_ | refine HSub.pick 4 rfl ?_ | refine HSub.drop ?_))) ?_
          exact ⟨by rw [if_neg h2, if_neg h5]; rfl, by rw [if_neg h2, if_neg h5, if_pos rfl]⟩
end Go.Proofs.YtolpkeajokjbjaaDoor
