/- Lines: Has. -/
import Derived.Test.YtolpkeajokjbjaaDoorLnC
import Derived.Test.YtolpkeajokjbjaaDoorLgC
set_option linter.unusedVariables false
set_option linter.unusedSimpArgs false
namespace Go.Proofs.YtolpkeajokjbjaaDoor
open Go.RowKit Go.L
attribute [local irreducible] LL LW LO LP LA
theorem is_tup2 {a b c d : LV} (h1 : Is a c) (h2 : Is b d) : Is (.tup [a, b]) (.tup [c, d]) := fun ph u r => by
  cases r with | tup cs _ hl hr =>
    refine .tup cs _ hl fun i v y hi hy => ?_
    match i, hy with
    | 0, hy => cases hy; exact h1 _ _ (hr 0 v a hi rfl)
    | 1, hy => cases hy; exact h2 _ _ (hr 1 v b hi rfl)
theorem ok_is (m : At) (v : Vx) : Is (.tup [(lookM (encM lnE m) v).getD (.raw z73), .raw (.bool (lookM (encM lnE m) v).isSome)]) (.tup [lnE (atG m v), bl (lookA m v).isSome]) :=
  is_tup2 (at_is m v) (by rw [look_enc, Option.isSome_map]; exact Is.rfl')
set_option maxHeartbeats 1000000 in
set_option maxRecDepth 100000 in
theorem has_calls (g ma mb : Nat) (n : Int) (m : At) (v : Vx) : LCalls Tryd.prog 20 [pt g, .agg (vxL v)] [gC g ma mb n, gA ma m] (fun r H' => r = bl (lookA m v).isSome ∧ H' = [gC g ma mb n, gA ma m]) := by
  have hvl := vxL_len v
  have hok := ok_is m v
  obtain ⟨x, hx⟩ : ∃ x, x = atG m v := ⟨_, rfl⟩
  obtain ⟨w, hw⟩ : ∃ w, w = (lookA m v).isSome := ⟨_, rfl⟩
  rw [← hx, ← hw] at hok
  rw [← hw]
  refine LCalls.of Tryd.func20 rfl Tryd.ntmps20 Tryd.results20 rfl (fun Rf => ?_)
  refine LW.seq ?_
  refine LW.region ?_
  refine X.act (X.box rfl Is.rfl' (by exact Cells.agg) (fun b3 => ?_))
  refine X.u (LU.assignR Is.rfl') rfl ?_
  refine LL.nil (after_code ?_)
  refine LW.seq ?_
  refine LW.seq ?_
  refine LW.region ?_
  refine X.u (LU.moveR Is.rfl') rfl ?_
  refine X.u (LU.call1 1 rfl (none_calls g ma mb n) Tryd.func33 rfl rfl (Opds.cons Is.rfl' Opds.nil)) rfl ?_
  refine LL.nil (after_code ?_)
  refine X.condF rfl ?_ ?_
  · rfl
  refine LW.skip (after_code ?_)
  refine LW.seq ?_
  refine LW.invB (m := 12) (γ := Nat × Nat) [(0, 10), (1, 11), (2, 12), (3, 13), (4, 14), (5, 15), (6, 9), (7, 16), (8, 17), (9, 5), (11, 6)] (fun g_ d => match g_ with | ⟨b_, z_⟩ => match d with | 10 => pt g | 11 => pt g | 12 => pt g | 13 => .raw (.map (some ma)) | 14 => .agg (vxL v) | 15 => .tup [lnE x, bl w] | 9 => .tup [lnE x, bl w] | 16 => lnE x | 17 => bl w | 5 => pt b_ | 6 => bl w | _ => .any) (fun g_ f => match g_ with | ⟨b_, z_⟩ => cond (f 9) (.cells b_ 73 (cond (f 10) (lnL x) (raws z73.cells.toList))) (.tail 0 0 0) :: .cells b3 35 (vxL v) :: gC g ma mb n :: gA ma m :: Rf) (0, 0) rfl (by kernel_rfl) rfl rfl ((HSub.trans (by repeat (exact HSub.refl _)) (HSub.tail0 0 0 0 (Nat.le_refl _) _))) ?_ ?_
  · intro i hi f g_ hfi hdir hdown
    obtain ⟨b_, z_⟩ := g_
    have hc : i = 0 ∨ i = 1 ∨ i = 2 ∨ i = 3 ∨ i = 4 ∨ i = 5 ∨ i = 6 ∨ i = 7 ∨ i = 8 ∨ i = 9 ∨ i = 10 ∨ i = 11 := by omega
    rcases hc with rfl | rfl | rfl | rfl | rfl | rfl | rfl | rfl | rfl | rfl | rfl | rfl
    · refine ⟨_, rfl, ?_⟩
      refine A.u (LU.moveR Is.rfl') rfl ?_
      refine ⟨⟨b_, z_⟩, Weaker.mk' ?_ (HSub.refl _)⟩
      refine env_back0 (envS_hit (sl := [(0, 10), (1, 11), (2, 12), (3, 13), (4, 14), (5, 15), (6, 9), (7, 16), (8, 17), (9, 5), (11, 6)]) (j := 0) (d := 10) rfl (fun _ _ h => h))  (envS_next ?_)
      · intro p hp hne; simp only [List.mem_cons, List.not_mem_nil, or_false] at hp; rcases hp with rfl | rfl | rfl | rfl | rfl | rfl | rfl | rfl | rfl | rfl | rfl <;> first | exact absurd rfl hne | exact ⟨rfl, rfl⟩
    · have d0 := hdir 0 (List.mem_of_elem_eq_true (by kernel_rfl))
      refine ⟨_, rfl, ?_⟩
      refine LP.weak (t := 10) (v := pt g) (envS_is (j := 0) rfl d0) ?_
      refine A.u (LU.nilCheck Is.rfl') rfl ?_
      refine ⟨⟨b_, z_⟩, Weaker.mk' ?_ (HSub.refl _)⟩
      refine env_back1 (envS_hit (sl := [(0, 10), (1, 11), (2, 12), (3, 13), (4, 14), (5, 15), (6, 9), (7, 16), (8, 17), (9, 5), (11, 6)]) (j := 1) (d := 11) rfl (fun _ _ h => h)) (envS_hit (sl := [(0, 10), (1, 11), (2, 12), (3, 13), (4, 14), (5, 15), (6, 9), (7, 16), (8, 17), (9, 5), (11, 6)]) (j := 0) (d := 10) rfl (fun _ _ h => h)) (envS_next ?_)
      · intro p hp hne; simp only [List.mem_cons, List.not_mem_nil, or_false] at hp; rcases hp with rfl | rfl | rfl | rfl | rfl | rfl | rfl | rfl | rfl | rfl | rfl <;> first | exact absurd rfl hne | exact ⟨rfl, rfl⟩
    · have d1 := hdir 1 (List.mem_of_elem_eq_true (by kernel_rfl))
      refine ⟨_, rfl, ?_⟩
      refine LP.weak (t := 11) (v := pt g) (envS_is (j := 1) rfl d1) ?_
      refine A.u (LU.fieldO Tryd.underlying68 rfl Tryd.sizeOf65 (by decide) Is.rfl') rfl ?_
      refine ⟨⟨b_, z_⟩, Weaker.mk' ?_ (HSub.refl _)⟩
      refine env_back1 (envS_hit (sl := [(0, 10), (1, 11), (2, 12), (3, 13), (4, 14), (5, 15), (6, 9), (7, 16), (8, 17), (9, 5), (11, 6)]) (j := 2) (d := 12) rfl (fun _ _ h => h)) (envS_hit (sl := [(0, 10), (1, 11), (2, 12), (3, 13), (4, 14), (5, 15), (6, 9), (7, 16), (8, 17), (9, 5), (11, 6)]) (j := 1) (d := 11) rfl (fun _ _ h => h)) (envS_next ?_)
      · intro p hp hne; simp only [List.mem_cons, List.not_mem_nil, or_false] at hp; rcases hp with rfl | rfl | rfl | rfl | rfl | rfl | rfl | rfl | rfl | rfl | rfl <;> first | exact absurd rfl hne | exact ⟨rfl, rfl⟩
    · have d2 := hdir 2 (List.mem_of_elem_eq_true (by kernel_rfl))
      refine ⟨_, rfl, ?_⟩
      refine LP.weak (t := 12) (v := pt g) (envS_is (j := 2) rfl d2) ?_
      refine A.u (LU.loadO 2 rfl ⟨Tryd.sizeOf65, Tryd.isAgg65⟩ Is.rfl' (Part.one rfl)) rfl ?_
      refine ⟨⟨b_, z_⟩, Weaker.mk' ?_ (HSub.refl _)⟩
      refine env_back1 (envS_hit (sl := [(0, 10), (1, 11), (2, 12), (3, 13), (4, 14), (5, 15), (6, 9), (7, 16), (8, 17), (9, 5), (11, 6)]) (j := 3) (d := 13) rfl (fun _ _ h => h)) (envS_hit (sl := [(0, 10), (1, 11), (2, 12), (3, 13), (4, 14), (5, 15), (6, 9), (7, 16), (8, 17), (9, 5), (11, 6)]) (j := 2) (d := 12) rfl (fun _ _ h => h)) (envS_next ?_)
      · intro p hp hne; simp only [List.mem_cons, List.not_mem_nil, or_false] at hp; rcases hp with rfl | rfl | rfl | rfl | rfl | rfl | rfl | rfl | rfl | rfl | rfl <;> first | exact absurd rfl hne | exact ⟨rfl, rfl⟩
    · refine ⟨_, rfl, ?_⟩
      refine A.u (LU.loadO 1 rfl ⟨Tryd.sizeOf35, Tryd.isAgg35⟩ Is.rfl' (Part.whole (by assumption))) rfl ?_
      refine ⟨⟨b_, z_⟩, Weaker.mk' ?_ (HSub.refl _)⟩
      refine env_back0 (envS_hit (sl := [(0, 10), (1, 11), (2, 12), (3, 13), (4, 14), (5, 15), (6, 9), (7, 16), (8, 17), (9, 5), (11, 6)]) (j := 4) (d := 14) rfl (fun _ _ h => h))  (envS_next ?_)
      · intro p hp hne; simp only [List.mem_cons, List.not_mem_nil, or_false] at hp; rcases hp with rfl | rfl | rfl | rfl | rfl | rfl | rfl | rfl | rfl | rfl | rfl <;> first | exact absurd rfl hne | exact ⟨rfl, rfl⟩
    · have d3 := hdir 3 (List.mem_of_elem_eq_true (by kernel_rfl))
      have d4 := hdir 4 (List.mem_of_elem_eq_true (by kernel_rfl))
      refine ⟨_, rfl, ?_⟩
      refine LP.weak (t := 13) (v := .raw (.map (some ma))) (envS_is (j := 3) rfl d3) ?_
      refine LP.weak (t := 14) (v := .agg (vxL v)) (envS_is (j := 4) rfl d4) ?_
      refine A.u (LU.lookupOk 3 (KeyOk.vx vxty) rfl Tryd.underlying65 Tryd.zeroValue73 Is.rfl' (by exact Is.vx _)) rfl ?_
      refine ⟨⟨b_, z_⟩, Weaker.mk' ?_ (HSub.refl _)⟩
      refine env_back2 (envS_hit (sl := [(0, 10), (1, 11), (2, 12), (3, 13), (4, 14), (5, 15), (6, 9), (7, 16), (8, 17), (9, 5), (11, 6)]) (j := 5) (d := 15) rfl (hok)) (envS_hit (sl := [(0, 10), (1, 11), (2, 12), (3, 13), (4, 14), (5, 15), (6, 9), (7, 16), (8, 17), (9, 5), (11, 6)]) (j := 4) (d := 14) rfl (fun _ _ h => h)) (envS_hit (sl := [(0, 10), (1, 11), (2, 12), (3, 13), (4, 14), (5, 15), (6, 9), (7, 16), (8, 17), (9, 5), (11, 6)]) (j := 3) (d := 13) rfl (fun _ _ h => h)) (envS_next ?_)
      · intro p hp hne; simp only [List.mem_cons, List.not_mem_nil, or_false] at hp; rcases hp with rfl | rfl | rfl | rfl | rfl | rfl | rfl | rfl | rfl | rfl | rfl <;> first | exact absurd rfl hne | exact ⟨rfl, rfl⟩
    · have d5 := hdir 5 (List.mem_of_elem_eq_true (by kernel_rfl))
      refine ⟨_, rfl, ?_⟩
      refine LP.weak (t := 15) (v := .tup [lnE x, bl w]) (envS_is (j := 5) rfl d5) ?_
      refine A.u (LU.moveT Is.rfl') rfl ?_
      refine ⟨⟨b_, z_⟩, Weaker.mk' ?_ (HSub.refl _)⟩
      refine env_back1 (envS_hit (sl := [(0, 10), (1, 11), (2, 12), (3, 13), (4, 14), (5, 15), (6, 9), (7, 16), (8, 17), (9, 5), (11, 6)]) (j := 6) (d := 9) rfl (fun _ _ h => h)) (envS_hit (sl := [(0, 10), (1, 11), (2, 12), (3, 13), (4, 14), (5, 15), (6, 9), (7, 16), (8, 17), (9, 5), (11, 6)]) (j := 5) (d := 15) rfl (fun _ _ h => h)) (envS_next ?_)
      · intro p hp hne; simp only [List.mem_cons, List.not_mem_nil, or_false] at hp; rcases hp with rfl | rfl | rfl | rfl | rfl | rfl | rfl | rfl | rfl | rfl | rfl <;> first | exact absurd rfl hne | exact ⟨rfl, rfl⟩
    · have d6 := hdir 6 (List.mem_of_elem_eq_true (by kernel_rfl))
      refine ⟨_, rfl, ?_⟩
      refine LP.weak (t := 9) (v := .tup [lnE x, bl w]) (envS_is (j := 6) rfl d6) ?_
      refine A.u (LU.extract Is.rfl' rfl) rfl ?_
      refine ⟨⟨b_, z_⟩, Weaker.mk' ?_ (HSub.refl _)⟩
      refine env_back1 (envS_hit (sl := [(0, 10), (1, 11), (2, 12), (3, 13), (4, 14), (5, 15), (6, 9), (7, 16), (8, 17), (9, 5), (11, 6)]) (j := 7) (d := 16) rfl (fun _ _ h => h)) (envS_hit (sl := [(0, 10), (1, 11), (2, 12), (3, 13), (4, 14), (5, 15), (6, 9), (7, 16), (8, 17), (9, 5), (11, 6)]) (j := 6) (d := 9) rfl (fun _ _ h => h)) (envS_next ?_)
      · intro p hp hne; simp only [List.mem_cons, List.not_mem_nil, or_false] at hp; rcases hp with rfl | rfl | rfl | rfl | rfl | rfl | rfl | rfl | rfl | rfl | rfl <;> first | exact absurd rfl hne | exact ⟨rfl, rfl⟩
    · have d6 := hdir 6 (List.mem_of_elem_eq_true (by kernel_rfl))
      refine ⟨_, rfl, ?_⟩
      refine LP.weak (t := 9) (v := .tup [lnE x, bl w]) (envS_is (j := 6) rfl d6) ?_
      refine A.u (LU.extract Is.rfl' rfl) rfl ?_
      refine ⟨⟨b_, z_⟩, Weaker.mk' ?_ (HSub.refl _)⟩
      refine env_back1 (envS_hit (sl := [(0, 10), (1, 11), (2, 12), (3, 13), (4, 14), (5, 15), (6, 9), (7, 16), (8, 17), (9, 5), (11, 6)]) (j := 8) (d := 17) rfl (fun _ _ h => h)) (envS_hit (sl := [(0, 10), (1, 11), (2, 12), (3, 13), (4, 14), (5, 15), (6, 9), (7, 16), (8, 17), (9, 5), (11, 6)]) (j := 6) (d := 9) rfl (fun _ _ h => h)) (envS_next ?_)
      · intro p hp hne; simp only [List.mem_cons, List.not_mem_nil, or_false] at hp; rcases hp with rfl | rfl | rfl | rfl | rfl | rfl | rfl | rfl | rfl | rfl | rfl <;> first | exact absurd rfl hne | exact ⟨rfl, rfl⟩
    · refine ⟨_, rfl, ?_⟩
      have h6 : f 10 = false := Bool.eq_false_iff.2 (fun h => by rw [hdown 10 (by omega) h 9 (List.mem_of_elem_eq_true (by kernel_rfl))] at hfi; cases hfi)
      refine LP.ghost (H' := .cells b3 35 (vxL v) :: gC g ma mb n :: gA ma m :: Rf) (by show L.HSub (cond (f 9) _ (.tail 0 0 0) :: _) _; rw [hfi]; exact HSub.drop (HSub.refl _)) ?_
      refine A.act (X.alloc rfl Tryd.zeroValue73 (by exact Cells.rawagg (by decide)) (fun b5 => ?_))
      refine ⟨(b5, 0), Weaker.mk' ?_ (by show L.HSub _ (.cells b5 _ (cond (f 10) _ _) :: _); rw [h6]; exact HSub.refl _)⟩
      refine env_back0 (envS_hit (sl := [(0, 10), (1, 11), (2, 12), (3, 13), (4, 14), (5, 15), (6, 9), (7, 16), (8, 17), (9, 5), (11, 6)]) (j := 9) (d := 5) rfl (fun _ _ h => h))  (envS_next ?_)
      · intro p hp hne; simp only [List.mem_cons, List.not_mem_nil, or_false] at hp; rcases hp with rfl | rfl | rfl | rfl | rfl | rfl | rfl | rfl | rfl | rfl | rfl <;> first | exact absurd rfl hne | exact ⟨rfl, rfl⟩
    · have d0 := hdir 0 (List.mem_of_elem_eq_true (by kernel_rfl))
      have d1 := hdir 1 (List.mem_of_elem_eq_true (by kernel_rfl))
      have d2 := hdir 2 (List.mem_of_elem_eq_true (by kernel_rfl))
      have d3 := hdir 3 (List.mem_of_elem_eq_true (by kernel_rfl))
      have d4 := hdir 4 (List.mem_of_elem_eq_true (by kernel_rfl))
      have d5 := hdir 5 (List.mem_of_elem_eq_true (by kernel_rfl))
      have d6 := hdir 6 (List.mem_of_elem_eq_true (by kernel_rfl))
      have d7 := hdir 7 (List.mem_of_elem_eq_true (by kernel_rfl))
      have d9 := hdir 9 (List.mem_of_elem_eq_true (by kernel_rfl))
      refine ⟨_, rfl, ?_⟩
      have h9 : f 9 = true := hdir 9 (List.mem_of_elem_eq_true (by kernel_rfl))
      refine LP.ghost (H' := .cells b_ 73 (raws z73.cells.toList) :: .cells b3 35 (vxL v) :: gC g ma mb n :: gA ma m :: Rf) (by show L.HSub (cond (f 9) (.cells b_ _ (cond (f 10) _ _)) _ :: _) _; rw [h9, hfi]; exact HSub.refl _) ?_
      refine LP.weak (t := 5) (v := pt b_) (envS_is (j := 9) rfl d9) ?_
      refine LP.weak (t := 16) (v := lnE x) (envS_is (j := 7) rfl d7) ?_
      refine A.act (X.store 0 rfl Tryd.sizeOf73 Is.rfl' Is.rfl' (by exact Cells.agg) (by (simp; done)) (by exact Nat.le_of_ble_eq_true rfl) ?_)
      refine ⟨(b_, z_), Weaker.mk' ?_ (by show L.HSub _ (cond (f 9) (.cells b_ _ (lnL x)) _ :: _); rw [h9]; exact HSub.refl _)⟩
      refine env_back1 (envS_hit (sl := [(0, 10), (1, 11), (2, 12), (3, 13), (4, 14), (5, 15), (6, 9), (7, 16), (8, 17), (9, 5), (11, 6)]) (j := 7) (d := 16) rfl (fun _ _ h => h)) (envS_hit (sl := [(0, 10), (1, 11), (2, 12), (3, 13), (4, 14), (5, 15), (6, 9), (7, 16), (8, 17), (9, 5), (11, 6)]) (j := 9) (d := 5) rfl (fun _ _ h => h)) (envS_next ?_)
      · intro p hp hne; simp only [List.mem_cons, List.not_mem_nil, or_false] at hp; rcases hp with rfl | rfl | rfl | rfl | rfl | rfl | rfl | rfl | rfl | rfl | rfl <;> first | exact absurd rfl hne | exact ⟨rfl, rfl⟩
    · have d0 := hdir 0 (List.mem_of_elem_eq_true (by kernel_rfl))
      have d1 := hdir 1 (List.mem_of_elem_eq_true (by kernel_rfl))
      have d2 := hdir 2 (List.mem_of_elem_eq_true (by kernel_rfl))
      have d3 := hdir 3 (List.mem_of_elem_eq_true (by kernel_rfl))
      have d4 := hdir 4 (List.mem_of_elem_eq_true (by kernel_rfl))
      have d5 := hdir 5 (List.mem_of_elem_eq_true (by kernel_rfl))
      have d6 := hdir 6 (List.mem_of_elem_eq_true (by kernel_rfl))
      have d7 := hdir 7 (List.mem_of_elem_eq_true (by kernel_rfl))
      have d8 := hdir 8 (List.mem_of_elem_eq_true (by kernel_rfl))
      have d9 := hdir 9 (List.mem_of_elem_eq_true (by kernel_rfl))
      have d10 := hdir 10 (List.mem_of_elem_eq_true (by kernel_rfl))
      refine ⟨_, rfl, ?_⟩
      refine LP.weak (t := 17) (v := bl w) (envS_is (j := 8) rfl d8) ?_
      refine A.u (LU.assignR Is.rfl') rfl ?_
      refine ⟨⟨b_, z_⟩, Weaker.mk' ?_ (HSub.refl _)⟩
      refine env_back1 (envS_hit (sl := [(0, 10), (1, 11), (2, 12), (3, 13), (4, 14), (5, 15), (6, 9), (7, 16), (8, 17), (9, 5), (11, 6)]) (j := 11) (d := 6) rfl (fun _ _ h => h)) (envS_hit (sl := [(0, 10), (1, 11), (2, 12), (3, 13), (4, 14), (5, 15), (6, 9), (7, 16), (8, 17), (9, 5), (11, 6)]) (j := 8) (d := 17) rfl (fun _ _ h => h)) (envS_next ?_)
      · intro p hp hne; simp only [List.mem_cons, List.not_mem_nil, or_false] at hp; rcases hp with rfl | rfl | rfl | rfl | rfl | rfl | rfl | rfl | rfl | rfl | rfl <;> first | exact absurd rfl hne | exact ⟨rfl, rfl⟩
  · intro g_ f hf_
    obtain ⟨b_, z_⟩ := g_
    refine X.ghost (H' := gC g ma mb n :: gA ma m :: Rf) (HSub.drop (HSub.drop (HSub.refl _))) ?_
    refine LL.nil (after_code ?_)
    refine LW.seq ?_
    refine LW.region ?_
    refine X.u (LU.moveR Is.rfl') rfl ?_
    refine X.u (LU.assignR Is.rfl') rfl ?_
    refine LL.nil (after_code ?_)
    refine LW.ret (after_end ?_)
    refine X.ret (H' := [gC g ma mb n, gA ma m]) (Res.one (by exact IsR rfl)) (by repeat (exact HSub.refl _)) ?_
    exact ⟨rfl, rfl⟩
end Go.Proofs.YtolpkeajokjbjaaDoor
