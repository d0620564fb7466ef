/- Lines: Drop, the walk. -/
import Derived.Test.YtolpkeajokjbjaaDoorLpD
set_option linter.unusedVariables false
set_option linter.unusedSimpArgs false
namespace Go.Proofs.YtolpkeajokjbjaaDoor
open Go.RowKit Go.L Go.Lib
attribute [local irreducible] LL LW LO LP LA
abbrev gG (b : Nat) (G : List (Int × Int)) : Atom := .map b (mp intK (encM iE G))
theorem gG_set (b : Nat) (G : List (Int × Int)) (k n : Int) : Atom.map b (mp intK (setM (encM iE G) k (i64 n))) = gG b (setA G k n) := congrArg (fun z => Atom.map b (mp intK z)) (set_enc iE G k n)
theorem ent_at {κ α : Type} {key : κ → Value} {enc : α → LV} {l : List (κ × α)} {i : Nat} {kv : LV × LV} (h : (mp key (encM enc l))[i]? = some kv) : ∃ p, l[i]? = some p ∧ kv = (.raw (key p.1), enc p.2) := by
  rw [List.getElem?_map, List.getElem?_map] at h
  cases hq : l[i]? with
  | none => rw [hq] at h; cases h
  | some p => rw [hq] at h; exact ⟨p, rfl, (Option.some.inj h).symm⟩
theorem mp_len {κ α : Type} {key : κ → Value} {enc : α → LV} {l : List (κ × α)} : (mp key (encM enc l)).length = l.length := by rw [List.length_map, List.length_map]
set_option maxHeartbeats 4000000 in
set_option maxRecDepth 100000 in
theorem drop_calls (g ma mb : Nat) (n : Int) (m : At) (q : Ps) (ids : List Vx) (k1 : Cap) (k : Nat) (hz : SzL m k) (hk : k < 100000) (hi : ids.length < 100000) (hq : ∀ p ∈ q, p.2.ids.length < 100000) :
    LCalls Tryd.prog 22 [pt g, Vxs ids k1] (H5 g ma mb n m q) (fun r H' => r = i64 (dropE m q ids : Nat) ∧ (dropE m q ids ≠ 0 → H' = H5 g ma mb n m q) ∧ (dropE m q ids = 0 → ∃ ks : List Int, ks.Nodup ∧ (∀ k, k ∈ ks ↔ 0 < cntP m ids k) ∧ H' = H5 g ma mb n (ks.foldl dropK (m, q)).1 (ks.foldl dropK (m, q)).2)) := by
  obtain ⟨E, hE⟩ : ∃ E, E = dropE m q ids := ⟨_, rfl⟩
  rw [← hE]
  unfold dropE at hE
  refine LCalls.of Tryd.func22 rfl Tryd.ntmps22 Tryd.results22 rfl (fun Rf => ?_)
  refine LW.seq ?_
  refine LW.region ?_
  refine X.u (LU.assignR Is.rfl') rfl ?_
  refine LL.nil (after_code ?_)
  refine LW.seq ?_
  refine LW.block ?_
  refine LW.seq ?_
  refine LW.region ?_
  refine X.u (LU.moveR Is.rfl') rfl ?_
  refine X.u (LU.callP (show List.Perm _ ([gC g ma mb n] ++ (gA ma m :: gP mb q :: kb :: Rf)) from perm_of fun x => (by simp only [List.count_append, List.count_cons, List.count_nil]; omega)) (none_calls g ma mb n) Tryd.func33 rfl rfl (Opds.cons Is.rfl' Opds.nil)) rfl ?_
  refine X.u (LU.assignR Is.rfl') rfl ?_
  refine LL.nil (after_code ?_)
  refine X.condF rfl ?_ ?_
  · rfl
  refine LW.seq ?_
  refine LW.region ?_
  refine X.u (LU.moveS Is.rfl') rfl ?_
  refine X.u (LU.callP (show List.Perm _ ([kb] ++ (gC g ma mb n :: gA ma m :: gP mb q :: Rf)) from perm_of fun x => (by simp only [List.count_append, List.count_cons, List.count_nil]; omega)) (wrong_calls ids k1 (by omega)) Tryd.func34 rfl rfl (Opds.cons Is.rfl' Opds.nil)) rfl ?_
  refine X.u (LU.assignR Is.rfl') rfl ?_
  refine LL.nil (after_code ?_)
  refine X.cond rfl (fun h3 => ?_) (fun h3 => ?_)
  · rw [if_pos h3] at hE
    refine LW.seq ?_
    refine LW.region ?_
    refine X.u (LU.assignR Is.rfl') rfl ?_
    refine LL.nil (after_code ?_)
    refine LW.ret (ret_blk (ret_code (after_end ?_)))
    refine X.ret (H' := H5 g ma mb n m q) (Res.one (by exact IsR rfl)) (by repeat (exact HSub.refl _)) ?_
    exact ⟨by rw [hE]; rfl, fun _ => rfl, fun c => by rw [hE] at c; cases c⟩
  · rw [if_neg (by rw [h3]; decide)] at hE
    refine LW.skip (after_blk (after_code ?_))
    refine LW.seq ?_
    refine LW.region ?_
    refine X.act (LO.makeMap (st := ⟨_, _, _⟩) rfl (fun b22 => ?_))
    refine X.u (LU.assignR Is.rfl') rfl ?_
    refine LL.nil (after_code ?_)
    refine LW.seq ?_
    refine LW.seq ?_
    refine X.wghost (H' := gG b22 [] :: gC g ma mb n :: gA ma m :: gP mb q :: kb :: Rf) (by repeat (exact HSub.refl _)) ?_
    refine LW.region ?_
    refine X.u (LU.moveS Is.rfl') rfl ?_
    refine X.u (LU.lenN Tryd.underlying26 Is.rfl' (by (simp only [Option.getD_some, Option.getD_none, byteEls_length, intEls_length, List.length_append, List.length_cons, List.length_nil, List.length_map, List.length_drop, List.length_take, Int.toNat_natCast]; rfl))) rfl ?_
    refine X.u (LU.moveR Is.rfl') rfl ?_
    refine LL.nil (after_code ?_)
    refine LW.block ?_
    refine X.loopK (α := Nat × List (Int × Int)) (fun ⟨i, G⟩ => [(25, i64 i)]) [0, 1, 5, 23, 24] (fun ⟨i, G⟩ => gG b22 G :: gC g ma mb n :: gA ma m :: gP mb q :: kb :: Rf) (fun ⟨i, G⟩ => i ≤ ids.length ∧ Gn m (ids.take i) G ∧ ∀ v ∈ ids.take i, (lookA m v).isSome = true) (fun ⟨i, G⟩ => ids.length - i) ((0, [])) (EnvLe.cons (by rfl) (EnvLe.nil)) (by repeat (exact HSub.refl _)) ?_ ?_
    · exact ⟨Nat.zero_le _, Gn.nil m, by simp⟩
    · rintro ⟨i, G⟩ hI
      obtain ⟨hi2, hG, hS⟩ := hI
      refine LW.seq ?_
      refine LW.region ?_
      refine X.u (LU.lss Is.rfl' Is.rfl') rfl ?_
      refine LL.nil (after_code ?_)
      refine LW.seq ?_
      refine X.cond rfl (fun h7 => ?_) (fun h7 => ?_)
      · try have h7 := of_decide_eq_true h7
        refine LW.skip (after_code ?_)
        refine LW.seq ?_
        refine LW.block ?_
        refine LW.seq ?_
        obtain ⟨v, hv⟩ := at_lt (show i < ids.length by omega)
        have hvl := vxL_len v
        have hv32 : v.p.1.length = 32 := v.p.2
        have hok := ok_is m v
        obtain ⟨x, hx⟩ : ∃ x, x = atG m v := ⟨_, rfl⟩
        obtain ⟨w, hw⟩ : ∃ w, w = (lookA m v).isSome := ⟨_, rfl⟩
        rw [← hx, ← hw] at hok
        have hc1 := cntP_le m (ids.take i) (atG m v).part
        rw [List.length_take] at hc1
        obtain ⟨cn, hcn⟩ : ∃ cn, cn = cntP m (ids.take i) (atG m v).part := ⟨_, rfl⟩
        have hget := hG.get (atG m v).part
        rw [← hcn] at hget hc1
        rw [← hx] at hget
        refine LW.region ?_
        refine X.u (LU.at Tryd.underlying26 ⟨Tryd.sizeOf35, Tryd.isAgg35⟩ Is.rfl' Is.rfl' (by omega) (vxs_at hv) (vx_ne v)) rfl ?_
        refine X.u (LU.weak (LU.load ⟨Tryd.sizeOf35, Tryd.isAgg35⟩ Is.rfl' (by assumption) (Part.whole (by assumption))) (Is.of (y := .agg (vxL v)) (rfl))) rfl ?_
        refine X.act (X.alloc rfl Tryd.zeroValue35 (by exact Cells.rawagg (by decide)) (fun b7 => ?_))
        refine X.act (X.store 0 rfl Tryd.sizeOf35 Is.rfl' Is.rfl' (by exact Cells.agg) (by assumption) (by exact Nat.le_of_ble_eq_true rfl) ?_)
        refine LL.nil (after_code ?_)
        refine LW.seq ?_
        refine X.wcells (ys := vxL v) (putAt_all (by rw [hvl]; rfl)) ?_
        refine LW.invB (m := 12) (γ := Nat × Nat) [(0, 30), (1, 31), (2, 32), (3, 33), (4, 34), (5, 35), (6, 29), (7, 36), (8, 37), (9, 8), (11, 9)] (fun g_ d => match g_ with | ⟨b_, z_⟩ => match d with | 30 => pt g | 31 => pt g | 32 => pt g | 33 => .raw (.map (some ma)) | 34 => .agg (vxL v) | 35 => .tup [lnE x, bl w] | 29 => .tup [lnE x, bl w] | 36 => lnE x | 37 => bl w | 8 => pt b_ | 9 => bl w | _ => .any) (fun g_ f => match g_ with | ⟨b_, z_⟩ => cond (f 9) (.cells b_ 73 (cond (f 10) (lnL x) (raws z73.cells.toList))) (.tail 0 0 0) :: .cells b7 35 (vxL v) :: gG b22 G :: gC g ma mb n :: gA ma m :: gP mb q :: kb :: Rf) (0, 0) rfl (by kernel_rfl) rfl rfl ((HSub.trans (by repeat (exact HSub.refl _)) (HSub.tail0 0 0 0 (Nat.le_refl _) _))) ?_ ?_
        · intro i hi f g_ hfi hdir hdown
          obtain ⟨b_, z_⟩ := g_
          have hc : i = 0 ∨ i = 1 ∨ i = 2 ∨ i = 3 ∨ i = 4 ∨ i = 5 ∨ i = 6 ∨ i = 7 ∨ i = 8 ∨ i = 9 ∨ i = 10 ∨ i = 11 := by omega
          rcases hc with rfl | rfl | rfl | rfl | rfl | rfl | rfl | rfl | rfl | rfl | rfl | rfl
          · refine ⟨_, rfl, ?_⟩
            refine A.u (LU.moveR Is.rfl') rfl ?_
            refine ⟨⟨b_, z_⟩, Weaker.mk' ?_ (HSub.refl _)⟩
            refine env_back0 (envS_hit (sl := [(0, 30), (1, 31), (2, 32), (3, 33), (4, 34), (5, 35), (6, 29), (7, 36), (8, 37), (9, 8), (11, 9)]) (j := 0) (d := 30) rfl (fun _ _ h => h))  (envS_next ?_)
            · intro p hp hne; simp only [List.mem_cons, List.not_mem_nil, or_false] at hp; rcases hp with rfl | rfl | rfl | rfl | rfl | rfl | rfl | rfl | rfl | rfl | rfl <;> first | exact absurd rfl hne | exact ⟨rfl, rfl⟩
          · have d0 := hdir 0 (List.mem_of_elem_eq_true (by kernel_rfl))
            refine ⟨_, rfl, ?_⟩
            refine LP.weak (t := 30) (v := pt g) (envS_is (j := 0) rfl d0) ?_
            refine A.u (LU.nilCheck Is.rfl') rfl ?_
            refine ⟨⟨b_, z_⟩, Weaker.mk' ?_ (HSub.refl _)⟩
            refine env_back1 (envS_hit (sl := [(0, 30), (1, 31), (2, 32), (3, 33), (4, 34), (5, 35), (6, 29), (7, 36), (8, 37), (9, 8), (11, 9)]) (j := 1) (d := 31) rfl (fun _ _ h => h)) (envS_hit (sl := [(0, 30), (1, 31), (2, 32), (3, 33), (4, 34), (5, 35), (6, 29), (7, 36), (8, 37), (9, 8), (11, 9)]) (j := 0) (d := 30) rfl (fun _ _ h => h)) (envS_next ?_)
            · intro p hp hne; simp only [List.mem_cons, List.not_mem_nil, or_false] at hp; rcases hp with rfl | rfl | rfl | rfl | rfl | rfl | rfl | rfl | rfl | rfl | rfl <;> first | exact absurd rfl hne | exact ⟨rfl, rfl⟩
          · have d1 := hdir 1 (List.mem_of_elem_eq_true (by kernel_rfl))
            refine ⟨_, rfl, ?_⟩
            refine LP.weak (t := 31) (v := pt g) (envS_is (j := 1) rfl d1) ?_
            refine A.u (LU.fieldO Tryd.underlying68 rfl Tryd.sizeOf65 (by decide) Is.rfl') rfl ?_
            refine ⟨⟨b_, z_⟩, Weaker.mk' ?_ (HSub.refl _)⟩
            refine env_back1 (envS_hit (sl := [(0, 30), (1, 31), (2, 32), (3, 33), (4, 34), (5, 35), (6, 29), (7, 36), (8, 37), (9, 8), (11, 9)]) (j := 2) (d := 32) rfl (fun _ _ h => h)) (envS_hit (sl := [(0, 30), (1, 31), (2, 32), (3, 33), (4, 34), (5, 35), (6, 29), (7, 36), (8, 37), (9, 8), (11, 9)]) (j := 1) (d := 31) rfl (fun _ _ h => h)) (envS_next ?_)
            · intro p hp hne; simp only [List.mem_cons, List.not_mem_nil, or_false] at hp; rcases hp with rfl | rfl | rfl | rfl | rfl | rfl | rfl | rfl | rfl | rfl | rfl <;> first | exact absurd rfl hne | exact ⟨rfl, rfl⟩
          · have d2 := hdir 2 (List.mem_of_elem_eq_true (by kernel_rfl))
            refine ⟨_, rfl, ?_⟩
            refine LP.weak (t := 32) (v := pt g) (envS_is (j := 2) rfl d2) ?_
            refine A.u (LU.loadO 3 rfl ⟨Tryd.sizeOf65, Tryd.isAgg65⟩ Is.rfl' (Part.one rfl)) rfl ?_
            refine ⟨⟨b_, z_⟩, Weaker.mk' ?_ (HSub.refl _)⟩
            refine env_back1 (envS_hit (sl := [(0, 30), (1, 31), (2, 32), (3, 33), (4, 34), (5, 35), (6, 29), (7, 36), (8, 37), (9, 8), (11, 9)]) (j := 3) (d := 33) rfl (fun _ _ h => h)) (envS_hit (sl := [(0, 30), (1, 31), (2, 32), (3, 33), (4, 34), (5, 35), (6, 29), (7, 36), (8, 37), (9, 8), (11, 9)]) (j := 2) (d := 32) rfl (fun _ _ h => h)) (envS_next ?_)
            · intro p hp hne; simp only [List.mem_cons, List.not_mem_nil, or_false] at hp; rcases hp with rfl | rfl | rfl | rfl | rfl | rfl | rfl | rfl | rfl | rfl | rfl <;> first | exact absurd rfl hne | exact ⟨rfl, rfl⟩
          · refine ⟨_, rfl, ?_⟩
            refine A.u (LU.loadO 1 rfl ⟨Tryd.sizeOf35, Tryd.isAgg35⟩ Is.rfl' (Part.whole (by assumption))) rfl ?_
            refine ⟨⟨b_, z_⟩, Weaker.mk' ?_ (HSub.refl _)⟩
            refine env_back0 (envS_hit (sl := [(0, 30), (1, 31), (2, 32), (3, 33), (4, 34), (5, 35), (6, 29), (7, 36), (8, 37), (9, 8), (11, 9)]) (j := 4) (d := 34) rfl (fun _ _ h => h))  (envS_next ?_)
            · intro p hp hne; simp only [List.mem_cons, List.not_mem_nil, or_false] at hp; rcases hp with rfl | rfl | rfl | rfl | rfl | rfl | rfl | rfl | rfl | rfl | rfl <;> first | exact absurd rfl hne | exact ⟨rfl, rfl⟩
          · have d3 := hdir 3 (List.mem_of_elem_eq_true (by kernel_rfl))
            have d4 := hdir 4 (List.mem_of_elem_eq_true (by kernel_rfl))
            refine ⟨_, rfl, ?_⟩
            refine LP.weak (t := 33) (v := .raw (.map (some ma))) (envS_is (j := 3) rfl d3) ?_
            refine LP.weak (t := 34) (v := .agg (vxL v)) (envS_is (j := 4) rfl d4) ?_
            refine A.u (LU.lookupOk 4 (KeyOk.vx vxty) rfl Tryd.underlying65 Tryd.zeroValue73 Is.rfl' (by exact Is.vx _)) rfl ?_
            refine ⟨⟨b_, z_⟩, Weaker.mk' ?_ (HSub.refl _)⟩
            refine env_back2 (envS_hit (sl := [(0, 30), (1, 31), (2, 32), (3, 33), (4, 34), (5, 35), (6, 29), (7, 36), (8, 37), (9, 8), (11, 9)]) (j := 5) (d := 35) rfl (hok)) (envS_hit (sl := [(0, 30), (1, 31), (2, 32), (3, 33), (4, 34), (5, 35), (6, 29), (7, 36), (8, 37), (9, 8), (11, 9)]) (j := 4) (d := 34) rfl (fun _ _ h => h)) (envS_hit (sl := [(0, 30), (1, 31), (2, 32), (3, 33), (4, 34), (5, 35), (6, 29), (7, 36), (8, 37), (9, 8), (11, 9)]) (j := 3) (d := 33) rfl (fun _ _ h => h)) (envS_next ?_)
            · intro p hp hne; simp only [List.mem_cons, List.not_mem_nil, or_false] at hp; rcases hp with rfl | rfl | rfl | rfl | rfl | rfl | rfl | rfl | rfl | rfl | rfl <;> first | exact absurd rfl hne | exact ⟨rfl, rfl⟩
          · have d5 := hdir 5 (List.mem_of_elem_eq_true (by kernel_rfl))
            refine ⟨_, rfl, ?_⟩
            refine LP.weak (t := 35) (v := .tup [lnE x, bl w]) (envS_is (j := 5) rfl d5) ?_
            refine A.u (LU.moveT Is.rfl') rfl ?_
            refine ⟨⟨b_, z_⟩, Weaker.mk' ?_ (HSub.refl _)⟩
            refine env_back1 (envS_hit (sl := [(0, 30), (1, 31), (2, 32), (3, 33), (4, 34), (5, 35), (6, 29), (7, 36), (8, 37), (9, 8), (11, 9)]) (j := 6) (d := 29) rfl (fun _ _ h => h)) (envS_hit (sl := [(0, 30), (1, 31), (2, 32), (3, 33), (4, 34), (5, 35), (6, 29), (7, 36), (8, 37), (9, 8), (11, 9)]) (j := 5) (d := 35) rfl (fun _ _ h => h)) (envS_next ?_)
            · intro p hp hne; simp only [List.mem_cons, List.not_mem_nil, or_false] at hp; rcases hp with rfl | rfl | rfl | rfl | rfl | rfl | rfl | rfl | rfl | rfl | rfl <;> first | exact absurd rfl hne | exact ⟨rfl, rfl⟩
          · have d6 := hdir 6 (List.mem_of_elem_eq_true (by kernel_rfl))
            refine ⟨_, rfl, ?_⟩
            refine LP.weak (t := 29) (v := .tup [lnE x, bl w]) (envS_is (j := 6) rfl d6) ?_
            refine A.u (LU.extract Is.rfl' rfl) rfl ?_
            refine ⟨⟨b_, z_⟩, Weaker.mk' ?_ (HSub.refl _)⟩
            refine env_back1 (envS_hit (sl := [(0, 30), (1, 31), (2, 32), (3, 33), (4, 34), (5, 35), (6, 29), (7, 36), (8, 37), (9, 8), (11, 9)]) (j := 7) (d := 36) rfl (fun _ _ h => h)) (envS_hit (sl := [(0, 30), (1, 31), (2, 32), (3, 33), (4, 34), (5, 35), (6, 29), (7, 36), (8, 37), (9, 8), (11, 9)]) (j := 6) (d := 29) rfl (fun _ _ h => h)) (envS_next ?_)
            · intro p hp hne; simp only [List.mem_cons, List.not_mem_nil, or_false] at hp; rcases hp with rfl | rfl | rfl | rfl | rfl | rfl | rfl | rfl | rfl | rfl | rfl <;> first | exact absurd rfl hne | exact ⟨rfl, rfl⟩
          · have d6 := hdir 6 (List.mem_of_elem_eq_true (by kernel_rfl))
            refine ⟨_, rfl, ?_⟩
            refine LP.weak (t := 29) (v := .tup [lnE x, bl w]) (envS_is (j := 6) rfl d6) ?_
            refine A.u (LU.extract Is.rfl' rfl) rfl ?_
            refine ⟨⟨b_, z_⟩, Weaker.mk' ?_ (HSub.refl _)⟩
            refine env_back1 (envS_hit (sl := [(0, 30), (1, 31), (2, 32), (3, 33), (4, 34), (5, 35), (6, 29), (7, 36), (8, 37), (9, 8), (11, 9)]) (j := 8) (d := 37) rfl (fun _ _ h => h)) (envS_hit (sl := [(0, 30), (1, 31), (2, 32), (3, 33), (4, 34), (5, 35), (6, 29), (7, 36), (8, 37), (9, 8), (11, 9)]) (j := 6) (d := 29) rfl (fun _ _ h => h)) (envS_next ?_)
            · intro p hp hne; simp only [List.mem_cons, List.not_mem_nil, or_false] at hp; rcases hp with rfl | rfl | rfl | rfl | rfl | rfl | rfl | rfl | rfl | rfl | rfl <;> first | exact absurd rfl hne | exact ⟨rfl, rfl⟩
          · refine ⟨_, rfl, ?_⟩
            have h6 : f 10 = false := Bool.eq_false_iff.2 (fun h => by rw [hdown 10 (by omega) h 9 (List.mem_of_elem_eq_true (by kernel_rfl))] at hfi; cases hfi)
            refine LP.ghost (H' := .cells b7 35 (vxL v) :: gG b22 G :: gC g ma mb n :: gA ma m :: gP mb q :: kb :: Rf) (by show L.HSub (cond (f 9) _ (.tail 0 0 0) :: _) _; rw [hfi]; exact HSub.drop (HSub.refl _)) ?_
            refine A.act (X.alloc rfl Tryd.zeroValue73 (by exact Cells.rawagg (by decide)) (fun b8 => ?_))
            refine ⟨(b8, 0), Weaker.mk' ?_ (by show L.HSub _ (.cells b8 _ (cond (f 10) _ _) :: _); rw [h6]; exact HSub.refl _)⟩
            refine env_back0 (envS_hit (sl := [(0, 30), (1, 31), (2, 32), (3, 33), (4, 34), (5, 35), (6, 29), (7, 36), (8, 37), (9, 8), (11, 9)]) (j := 9) (d := 8) rfl (fun _ _ h => h))  (envS_next ?_)
            · intro p hp hne; simp only [List.mem_cons, List.not_mem_nil, or_false] at hp; rcases hp with rfl | rfl | rfl | rfl | rfl | rfl | rfl | rfl | rfl | rfl | rfl <;> first | exact absurd rfl hne | exact ⟨rfl, rfl⟩
          · have d0 := hdir 0 (List.mem_of_elem_eq_true (by kernel_rfl))
            have d1 := hdir 1 (List.mem_of_elem_eq_true (by kernel_rfl))
            have d2 := hdir 2 (List.mem_of_elem_eq_true (by kernel_rfl))
            have d3 := hdir 3 (List.mem_of_elem_eq_true (by kernel_rfl))
            have d4 := hdir 4 (List.mem_of_elem_eq_true (by kernel_rfl))
            have d5 := hdir 5 (List.mem_of_elem_eq_true (by kernel_rfl))
            have d6 := hdir 6 (List.mem_of_elem_eq_true (by kernel_rfl))
            have d7 := hdir 7 (List.mem_of_elem_eq_true (by kernel_rfl))
            have d9 := hdir 9 (List.mem_of_elem_eq_true (by kernel_rfl))
            refine ⟨_, rfl, ?_⟩
            have h9 : f 9 = true := hdir 9 (List.mem_of_elem_eq_true (by kernel_rfl))
            refine LP.ghost (H' := .cells b_ 73 (raws z73.cells.toList) :: .cells b7 35 (vxL v) :: gG b22 G :: gC g ma mb n :: gA ma m :: gP mb q :: kb :: Rf) (by show L.HSub (cond (f 9) (.cells b_ _ (cond (f 10) _ _)) _ :: _) _; rw [h9, hfi]; exact HSub.refl _) ?_
            refine LP.weak (t := 8) (v := pt b_) (envS_is (j := 9) rfl d9) ?_
            refine LP.weak (t := 36) (v := lnE x) (envS_is (j := 7) rfl d7) ?_
            refine A.act (X.store 0 rfl Tryd.sizeOf73 Is.rfl' Is.rfl' (by exact Cells.agg) (by (simp; done)) (by exact Nat.le_of_ble_eq_true rfl) ?_)
            refine ⟨(b_, z_), Weaker.mk' ?_ (by show L.HSub _ (cond (f 9) (.cells b_ _ (lnL x)) _ :: _); rw [h9]; exact HSub.refl _)⟩
            refine env_back1 (envS_hit (sl := [(0, 30), (1, 31), (2, 32), (3, 33), (4, 34), (5, 35), (6, 29), (7, 36), (8, 37), (9, 8), (11, 9)]) (j := 7) (d := 36) rfl (fun _ _ h => h)) (envS_hit (sl := [(0, 30), (1, 31), (2, 32), (3, 33), (4, 34), (5, 35), (6, 29), (7, 36), (8, 37), (9, 8), (11, 9)]) (j := 9) (d := 8) rfl (fun _ _ h => h)) (envS_next ?_)
            · intro p hp hne; simp only [List.mem_cons, List.not_mem_nil, or_false] at hp; rcases hp with rfl | rfl | rfl | rfl | rfl | rfl | rfl | rfl | rfl | rfl | rfl <;> first | exact absurd rfl hne | exact ⟨rfl, rfl⟩
          · have d0 := hdir 0 (List.mem_of_elem_eq_true (by kernel_rfl))
            have d1 := hdir 1 (List.mem_of_elem_eq_true (by kernel_rfl))
            have d2 := hdir 2 (List.mem_of_elem_eq_true (by kernel_rfl))
            have d3 := hdir 3 (List.mem_of_elem_eq_true (by kernel_rfl))
            have d4 := hdir 4 (List.mem_of_elem_eq_true (by kernel_rfl))
            have d5 := hdir 5 (List.mem_of_elem_eq_true (by kernel_rfl))
            have d6 := hdir 6 (List.mem_of_elem_eq_true (by kernel_rfl))
            have d7 := hdir 7 (List.mem_of_elem_eq_true (by kernel_rfl))
            have d8 := hdir 8 (List.mem_of_elem_eq_true (by kernel_rfl))
            have d9 := hdir 9 (List.mem_of_elem_eq_true (by kernel_rfl))
            have d10 := hdir 10 (List.mem_of_elem_eq_true (by kernel_rfl))
            refine ⟨_, rfl, ?_⟩
            refine LP.weak (t := 37) (v := bl w) (envS_is (j := 8) rfl d8) ?_
            refine A.u (LU.assignR Is.rfl') rfl ?_
            refine ⟨⟨b_, z_⟩, Weaker.mk' ?_ (HSub.refl _)⟩
            refine env_back1 (envS_hit (sl := [(0, 30), (1, 31), (2, 32), (3, 33), (4, 34), (5, 35), (6, 29), (7, 36), (8, 37), (9, 8), (11, 9)]) (j := 11) (d := 9) rfl (fun _ _ h => h)) (envS_hit (sl := [(0, 30), (1, 31), (2, 32), (3, 33), (4, 34), (5, 35), (6, 29), (7, 36), (8, 37), (9, 8), (11, 9)]) (j := 8) (d := 37) rfl (fun _ _ h => h)) (envS_next ?_)
            · intro p hp hne; simp only [List.mem_cons, List.not_mem_nil, or_false] at hp; rcases hp with rfl | rfl | rfl | rfl | rfl | rfl | rfl | rfl | rfl | rfl | rfl <;> first | exact absurd rfl hne | exact ⟨rfl, rfl⟩
        · intro g_ f hf_
          obtain ⟨b_, z_⟩ := g_
          refine X.ghost (H' := .cells b_ 73 (lnL x) :: .cells b7 35 (vxL v) :: gG b22 G :: gC g ma mb n :: gA ma m :: gP mb q :: kb :: Rf) (by show L.HSub (cond (f 9) (.cells b_ _ (cond (f 10) _ _)) _ :: _) _; rw [hf_ 9 (by omega), hf_ 10 (by omega)]; exact HSub.refl _) ?_
          refine LL.nil (after_code ?_)
          refine LW.seq ?_
          refine LW.seq ?_
          refine LW.region ?_
          refine X.u (LU.moveR Is.rfl') rfl ?_
          refine X.u (LU.not Is.rfl') rfl ?_
          refine LL.nil (after_code ?_)
          refine X.cond rfl (fun h10 => ?_) (fun h10 => ?_)
          · have h10 : w = false := by simpa using h10
            have hbad : ids.any (fun v => !(lookA m v).isSome) = true := List.any_eq_true.2 ⟨v, List.mem_of_getElem? hv, by rw [← hw, h10]; rfl⟩
            rw [if_pos hbad] at hE
            refine LW.seq ?_
            refine LW.region ?_
            refine X.u (LU.assignR Is.rfl') rfl ?_
            refine LL.nil (after_code ?_)
            refine LW.ret (ret_code (ret_blk (ret_code (ret_rnd (ret_blk (ret_code (after_end ?_)))))))
            refine X.ret (H' := H5 g ma mb n m q) (Res.one (by exact IsR rfl)) (by repeat (first | exact HSub.refl _ | refine HSub.pick 3 rfl ?_ | refine HSub.drop ?_)) ?_
            exact ⟨by rw [hE]; rfl, fun _ => rfl, fun c => by rw [hE] at c; cases c⟩
          · have h10 : w = true := by simpa using h10
            have hz0 : (0 : Nat) = 0 := rfl
            refine LW.skip (after_code ?_)
            refine LW.region ?_
            refine X.u (LU.moveR Is.rfl') rfl ?_
            refine X.u (LU.fieldO Tryd.underlying73 rfl Tryd.sizeOf3 (by decide) Is.rfl') rfl ?_
            refine X.u (LU.loadO 0 rfl ⟨Tryd.sizeOf3, Tryd.isAgg3⟩ Is.rfl' (Part.one rfl)) rfl ?_
            refine X.u (LU.weak (LU.lookup 2 (KeyOk.int Tryd.underlying3) rfl Tryd.underlying88 Tryd.zeroValue3 Is.rfl' Is.rfl') (Is.of (y := i64 (cn : Nat)) (hget))) rfl ?_
            refine X.u (LU.weak (LU.add Is.rfl' Is.rfl') (Is.of (y := i64 ((cn + 1 : Nat) : Int)) (congrArg i64 ((wrap_i64 (by omega) (by omega)).trans (by omega))))) rfl ?_
            refine X.act (LO.mapUpdate (st := ⟨_, _, _⟩) 2 (KeyOk.int Tryd.underlying3) rfl Tryd.underlying88 Is.rfl' Is.rfl' Is.rfl' ?_)
            refine LL.nil (after_blk (after_code ?_))
            refine X.wghost (H' := gG b22 (setA G (atG m v).part ((cntP m (ids.take i) (atG m v).part + 1 : Nat) : Int)) :: gC g ma mb n :: gA ma m :: gP mb q :: kb :: Rf) (by rw [← gG_set, ← hcn, ← hx]; exact (by repeat (first | exact HSub.refl _ | refine HSub.pick 0 rfl ?_ | refine HSub.pick 2 rfl ?_ | refine HSub.drop ?_))) ?_
            refine LW.region ?_
            refine X.u (LU.addN Is.rfl' Is.rfl' (wrap_i64 (by omega) (by omega))) rfl ?_
            refine X.u (LU.moveR Is.rfl') rfl ?_
            refine LL.nil (after_rnd ?_)
            refine X.next ((i + 1, setA G (atG m v).part ((cntP m (ids.take i) (atG m v).part + 1 : Nat) : Int))) rfl (EnvLe.cons (by rfl) (EnvLe.nil)) (Keeps.cons (by exact Eq.trans (b := .raw _) rfl rfl) (Keeps.cons (by exact Eq.trans (b := .sl _ _ _) rfl rfl) (Keeps.cons (by exact Eq.trans (b := .raw _) rfl rfl) (Keeps.cons (by exact Eq.trans (b := .sl _ _ _) rfl rfl) (Keeps.cons (by exact Eq.trans (b := .raw _) rfl rfl) (Keeps.nil)))))) (by repeat (exact HSub.refl _)) ?_ ?_
            · refine ⟨by omega, by rw [take_snoc hv]; exact hG.add v, fun y hy => ?_⟩
              rw [take_snoc hv, List.mem_append, List.mem_singleton] at hy
              rcases hy with e | e
              · exact hS y e
              · rw [e, ← hw]; simpa using h10
            · (simp; omega)
      · try have h7 := of_decide_eq_false h7
        refine LW.exit (exit_code (exit_rnd (exit_blk (after_code ?_))))
        refine LW.seq ?_
        refine LW.seq ?_
        have hil : i = ids.length := by omega
        rw [hil, List.take_length] at hG hS
        have hall1 : ¬ ids.any (fun v => !(lookA m v).isSome) = true := fun c => by
          obtain ⟨y, hy, e⟩ := List.any_eq_true.1 c
          rw [hS y hy] at e; cases e
        rw [if_neg hall1] at hE
        refine LW.region ?_
        refine X.u (LU.moveR Is.rfl') rfl ?_
        refine X.u (LU.nilCheck Is.rfl') rfl ?_
        refine X.u (LU.fieldO Tryd.underlying68 rfl Tryd.sizeOf66 (by decide) Is.rfl') rfl ?_
        refine X.u (LU.loadO 1 rfl ⟨Tryd.sizeOf66, Tryd.isAgg66⟩ Is.rfl' (Part.one rfl)) rfl ?_
        refine X.act (LO.rangeMap (st := ⟨_, _, _⟩) 3 rfl rfl Tryd.underlying66 Is.rfl' (fun b50 => ?_))
        refine LL.nil (after_code ?_)
        refine LW.block ?_
        refine X.loopK (α := List Nat) (fun seen => []) [0, 1, 5, 50] (fun seen => .mapr mb b50 (mp intK (encM ptE q)) seen :: gG b22 G :: gC g ma mb n :: gA ma m :: kb :: Rf) (fun seen => (∀ i ∈ seen, i < q.length) ∧ ∀ i ∈ seen, ∀ p, q[i]? = some p → badP m ids p = false) (fun seen => unseen q.length seen) ([]) (EnvLe.nil) (by repeat (exact HSub.refl _)) ?_ ?_
        · exact ⟨(fun i hi => by cases hi), (fun i hi => by cases hi)⟩
        · rintro seen hI
          obtain ⟨hsl, hsb⟩ := hI
          refine LW.seq ?_
          refine LW.region ?_
          refine X.act (LO.nextMap (st := ⟨_, _, _⟩) 0 rfl rfl Is.rfl' (fun i51 kv51 hi51 hn51 => ?_) (fun hall51 => ?_))
          · refine X.u (LU.extract Is.rfl' rfl) rfl ?_
            refine LL.nil (after_code ?_)
            refine LW.seq ?_
            refine X.condT rfl ?_ ?_
            · rfl
            refine LW.skip (after_code ?_)
            refine LW.block ?_
            refine LW.seq ?_
            obtain ⟨p, hp, rfl⟩ := ent_at hi51
            have hil2 := (List.getElem?_eq_some_iff.1 hp).1
            have hmu := unseen_lt hil2 hn51
            have hpm := List.mem_of_getElem? hp
            have hpl := pt_len p.2
            have hpi := hq p hpm
            have hpu := p.2.up.p.2
            have hpd := p.2.down.p.2
            have hget2 := hG.get p.1
            have hcl := cntP_le m ids p.1
            obtain ⟨cn, hcn⟩ : ∃ cn, cn = cntP m ids p.1 := ⟨_, rfl⟩
            rw [← hcn] at hget2 hcl
            have hbd : badP m ids p = (!decide (cn = p.2.ids.length) && ((decide (0 < cn) || decide (p.2.up ∈ ids)) || decide (p.2.down ∈ ids))) := by unfold badP; rw [hcn]
            refine LW.region ?_
            refine X.u (LU.entryMap 0 rfl (by assumption) Is.rfl') rfl ?_
            refine X.u (LU.extract Is.rfl' rfl) rfl ?_
            refine X.u (LU.extract Is.rfl' rfl) rfl ?_
            refine X.act (X.alloc rfl Tryd.zeroValue82 (by exact Cells.rawagg (by decide)) (fun b11 => ?_))
            refine X.u (LU.assignR Is.rfl') rfl ?_
            refine X.act (X.store 0 rfl Tryd.sizeOf82 Is.rfl' Is.rfl' (by exact Cells.agg) (by assumption) (by exact Nat.le_of_ble_eq_true rfl) ?_)
            refine LL.nil (after_code ?_)
            refine LW.seq ?_
            refine LW.seq ?_
            refine X.wcells (ys := ptL p.2) (putAt_all (by rw [hpl]; rfl)) ?_
            refine X.wghost (H' := gG b22 G :: .cells b11 82 (ptL p.2) :: .mapr mb b50 (mp intK (encM ptE q)) (seen ++ [i51]) :: gC g ma mb n :: gA ma m :: kb :: Rf) (by repeat (first | exact HSub.refl _ | refine HSub.pick 2 rfl ?_)) ?_
            refine LW.region ?_
            refine X.u (LU.moveR Is.rfl') rfl ?_
            refine X.u (LU.moveR Is.rfl') rfl ?_
            refine X.u (LU.weak (LU.lookup 0 (KeyOk.int Tryd.underlying3) rfl Tryd.underlying88 Tryd.zeroValue3 Is.rfl' Is.rfl') (Is.of (y := i64 (cn : Nat)) (hget2))) rfl ?_
            refine X.u (LU.fieldO Tryd.underlying82 rfl Tryd.sizeOf26 (by decide) Is.rfl') rfl ?_
            refine X.u (LU.loadO 1 rfl ⟨Tryd.sizeOf26, Tryd.isAgg26⟩ Is.rfl' (Part.one (pt_ids p.2))) rfl ?_
            refine X.u (LU.lenN Tryd.underlying26 Is.rfl' (by (simp only [Option.getD_some, Option.getD_none, byteEls_length, intEls_length, List.length_append, List.length_cons, List.length_nil, List.length_map, List.length_drop, List.length_take, Int.toNat_natCast]; rfl))) rfl ?_
            refine X.u (LU.eql Is.rfl' Is.rfl') rfl ?_
            refine LL.nil (after_code ?_)
            refine X.cond rfl (fun h17 => ?_) (fun h17 => ?_)
            · have h17 : cn = p.2.ids.length := by simp at h17; omega
              have hgood : badP m ids p = false := by rw [hbd, decide_eq_true h17]; rfl
              refine LW.exit (exit_code (exit_blk (after_rnd ?_)))
              refine X.next (seen ++ [i51]) rfl (EnvLe.nil) (Keeps.cons (by exact Eq.trans (b := .raw _) rfl rfl) (Keeps.cons (by exact Eq.trans (b := .sl _ _ _) rfl rfl) (Keeps.cons (by exact Eq.trans (b := .raw _) rfl rfl) (Keeps.cons (by exact Eq.trans (b := .raw _) rfl rfl) (Keeps.nil))))) (by repeat (first | exact HSub.refl _ | refine HSub.pick 0 rfl ?_ | refine HSub.pick 1 rfl ?_ | refine HSub.pick 2 rfl ?_ | refine HSub.drop ?_)) ?_ ?_
              · refine ⟨fun i hi => ?_, fun i hi p' hp' => ?_⟩
                · rcases List.mem_append.1 hi with h | h
                  · exact hsl i h
                  · rw [List.mem_singleton.1 h]; exact hil2
                · rcases List.mem_append.1 hi with h | h
                  · exact hsb i h p' hp'
                  · rw [List.mem_singleton.1 h, hp] at hp'
                    rw [← Option.some.inj hp']; exact hgood
              · omega
            · have h17 : ¬ cn = p.2.ids.length := by simp at h17; omega
              have hz0 : (0 : Nat) = 0 := rfl
              refine LW.skip (after_code ?_)
              refine LW.seq ?_
              refine LW.region ?_
              refine X.u (LU.moveR Is.rfl') rfl ?_
              refine X.u (LU.moveR Is.rfl') rfl ?_
              refine X.u (LU.weak (LU.lookup 0 (KeyOk.int Tryd.underlying3) rfl Tryd.underlying88 Tryd.zeroValue3 Is.rfl' Is.rfl') (Is.of (y := i64 (cn : Nat)) (hget2))) rfl ?_
              refine X.u (LU.gtr Is.rfl' Is.rfl') rfl ?_
              refine X.u (LU.moveR Is.rfl') rfl ?_
              refine X.gF rfl rfl (fun hg => LU.moveS (by exact Is.rfl')) rfl ?_
              refine X.gF rfl rfl (fun hg => LU.fieldO Tryd.underlying82 rfl Tryd.sizeOf35 (by decide) (by exact Is.rfl')) rfl ?_
              refine X.gF rfl rfl (fun hg => LU.weak (LU.loadO 1 rfl ⟨Tryd.sizeOf35, Tryd.isAgg35⟩ (by exact Is.whenN hg) (Part.sub (by (simp; omega)))) (Is.of (y := .agg (vxL p.2.up)) (congrArg LV.agg (pt_up p.2)))) rfl ?_
              refine X.gF rfl rfl (fun hg => LU.call (contains_calls ids k1 p.2.up (by omega)) Tryd.func40 rfl rfl (Opds.cons (by exact Is.whenN hg) (Opds.cons (by exact Is.whenN hg) Opds.nil))) rfl ?_
              refine X.u (LU.pickOr Is.rfl' Is.rfl' (fun hq => (by exact Is.whenN hq))) rfl ?_
              refine X.u (LU.moveR Is.rfl') rfl ?_
              refine X.gF rfl rfl (fun hg => LU.moveS (by exact Is.rfl')) rfl ?_
              refine X.gF rfl rfl (fun hg => LU.fieldO Tryd.underlying82 rfl Tryd.sizeOf35 (by decide) (by exact Is.rfl')) rfl ?_
              refine X.gF rfl rfl (fun hg => LU.weak (LU.loadO 1 rfl ⟨Tryd.sizeOf35, Tryd.isAgg35⟩ (by exact Is.whenN hg) (Part.sub (by (simp; omega)))) (Is.of (y := .agg (vxL p.2.down)) (congrArg LV.agg (pt_down p.2)))) rfl ?_
              refine X.gF rfl rfl (fun hg => LU.call (contains_calls ids k1 p.2.down (by omega)) Tryd.func40 rfl rfl (Opds.cons (by exact Is.whenN hg) (Opds.cons (by exact Is.whenN hg) Opds.nil))) rfl ?_
              refine X.u (LU.pickOr Is.rfl' Is.rfl' (fun hq => (by exact Is.whenN hq))) rfl ?_
              refine LL.nil (after_code ?_)
              refine X.cond rfl (fun h18 => ?_) (fun h18 => ?_)
              · have hbad : badP m ids p = true := by rw [hbd, decide_eq_false h17]; simpa using h18
                rw [if_pos (List.any_eq_true.2 ⟨p, hpm, hbad⟩)] at hE
                refine LW.seq ?_
                refine LW.region ?_
                refine X.u (LU.assignR Is.rfl') rfl ?_
                refine LL.nil (after_code ?_)
                refine LW.ret (ret_blk (ret_rnd (ret_blk (ret_code (after_end ?_)))))
                refine X.ret (H' := H5 g ma mb n m q) (Res.one (by exact IsR rfl)) (HSub.trans (B := .mapr mb b50 (mp intK (encM ptE q)) (seen ++ [i51]) :: gC g ma mb n :: gA ma m :: kb :: Rf) (by repeat (first | exact HSub.refl _ | refine HSub.pick 2 rfl ?_ | refine HSub.drop ?_)) (HSub.trans (HSub.ranged _ _ _ _ _) (by repeat (first | exact HSub.refl _ | refine HSub.pick 1 rfl ?_)))) ?_
                exact ⟨by rw [hE]; rfl, fun _ => rfl, fun c => by rw [hE] at c; cases c⟩
              · have hgood : badP m ids p = false := by rw [hbd, decide_eq_false h17]; simpa using h18
                have hz0 : (0 : Nat) = 0 := rfl
                refine LW.skip (after_blk (after_rnd ?_))
                refine X.next (seen ++ [i51]) rfl (EnvLe.nil) (Keeps.cons (by exact Eq.trans (b := .raw _) rfl rfl) (Keeps.cons (by exact Eq.trans (b := .sl _ _ _) rfl rfl) (Keeps.cons (by exact Eq.trans (b := .raw _) rfl rfl) (Keeps.cons (by exact Eq.trans (b := .raw _) rfl rfl) (Keeps.nil))))) (by repeat (first | exact HSub.refl _ | refine HSub.pick 0 rfl ?_ | refine HSub.pick 1 rfl ?_ | refine HSub.pick 2 rfl ?_ | refine HSub.drop ?_)) ?_ ?_
                · refine ⟨fun i hi => ?_, fun i hi p' hp' => ?_⟩
                  · rcases List.mem_append.1 hi with h | h
                    · exact hsl i h
                    · rw [List.mem_singleton.1 h]; exact hil2
                  · rcases List.mem_append.1 hi with h | h
                    · exact hsb i h p' hp'
                    · rw [List.mem_singleton.1 h, hp] at hp'
                      rw [← Option.some.inj hp']; exact hgood
                · omega
          · refine X.u (LU.extract Is.rfl' rfl) rfl ?_
            refine LL.nil (after_code ?_)
            refine LW.seq ?_
            refine X.condF rfl ?_ ?_
            · rfl
            refine LW.exit (exit_code (exit_rnd (exit_blk (after_code ?_))))
            refine LW.seq ?_
            refine LW.seq ?_
            have hgo : ¬ q.any (badP m ids) = true := fun c => by
              obtain ⟨p, hpm, e⟩ := List.any_eq_true.1 c
              obtain ⟨i, hi⟩ := List.getElem?_of_mem hpm
              rw [hsb i (hall51 i (by rw [mp_len]; exact (List.getElem?_eq_some_iff.1 hi).1)) p hi] at e; cases e
            rw [if_neg hgo] at hE
            refine X.wghost (H' := gG b22 G :: gC g ma mb n :: gA ma m :: gP mb q :: kb :: Rf) (HSub.trans (HSub.ranged _ _ _ _ _) (by repeat (first | exact HSub.refl _ | refine HSub.pick 1 rfl ?_))) ?_
            refine LW.region ?_
            refine X.u (LU.moveR Is.rfl') rfl ?_
            refine X.act (LO.rangeMap (st := ⟨_, _, _⟩) 0 rfl rfl Tryd.underlying88 Is.rfl' (fun b80 => ?_))
            refine LL.nil (after_code ?_)
            refine LW.block ?_
            refine X.loopK (α := List Nat × At × Ps) (fun ⟨seen, m2, q2⟩ => []) [0, 80] (fun ⟨seen, m2, q2⟩ => .mapr b22 b80 (mp intK (encM iE G)) seen :: gC g ma mb n :: gA ma m2 :: gP mb q2 :: kb :: Rf) (fun ⟨seen, m2, q2⟩ => (∀ i ∈ seen, i < G.length) ∧ seen.Nodup ∧ (m2, q2) = (pickI (G.map (·.1)) seen).foldl dropK (m, q) ∧ SzL m2 k ∧ ∀ p ∈ q2, p.2.ids.length < 100000) (fun ⟨seen, m2, q2⟩ => unseen G.length seen) (([], m, q)) (EnvLe.nil) (by repeat (exact HSub.refl _)) ?_ ?_
            · exact ⟨(fun i hi => by cases hi), List.nodup_nil, rfl, hz, hq⟩
            · rintro ⟨seen, m2, q2⟩ hI
              obtain ⟨hsl2, hsn, hmq, hz2, hq2⟩ := hI
              refine LW.seq ?_
              refine LW.region ?_
              refine X.act (LO.nextMap (st := ⟨_, _, _⟩) 0 rfl rfl Is.rfl' (fun i81 kv81 hi81 hn81 => ?_) (fun hall81 => ?_))
              · refine X.u (LU.extract Is.rfl' rfl) rfl ?_
                refine LL.nil (after_code ?_)
                refine LW.seq ?_
                refine X.condT rfl ?_ ?_
                · rfl
                refine LW.skip (after_code ?_)
                refine LW.block ?_
                refine LW.seq ?_
                obtain ⟨p, hp, rfl⟩ := ent_at hi81
                have hil2 := (List.getElem?_eq_some_iff.1 hp).1
                have hmu := unseen_lt hil2 hn81
                have hka : (G.map (·.1))[i81]? = some p.1 := by rw [List.getElem?_map, hp]; rfl
                obtain ⟨P, hP⟩ : ∃ P, P = lkP q2 p.1 := ⟨_, rfl⟩
                have hPl := pt_len P
                have hpi : P.ids.length < 100000 := by
                  rw [hP]; unfold lkP
                  cases hc : lookA q2 p.1 with
                  | none => show pt0.ids.length < _; decide
                  | some y =>
                    have hm : (p.1, y) ∈ q2 := by
                      have key : ∀ {l : Ps} {a : Int} {x : Pt}, lookA l a = some x → (a, x) ∈ l := fun {l} => by
                        induction l with
                        | nil => intro a x h; cases h
                        | cons z l ih =>
                          intro a x h
                          rw [lookA] at h
                          split at h
                          · rename_i e
                            rw [← Option.some.inj h, ← e]; simp
                          · exact List.mem_cons_of_mem _ (ih h)
                      exact key hc
                    exact hq2 _ hm
                have hPi : Is ((lookM (encM ptE q2) p.1).getD (.raw z82)) (ptE P) := by rw [hP]; exact lkP_is q2 p.1
                obtain ⟨mC, hmC⟩ : ∃ mC, mC = chainF unstepA m2 P.up P.ids P.down := ⟨_, rfl⟩
                obtain ⟨mD, hmD⟩ : ∃ mD, mD = dropP (m2, q2) p.1 := ⟨_, rfl⟩
                have hmD2 : mD = P.ids.foldl delA mC := by rw [hmD, hmC, hP]; rfl
                have hch := chain_unstep g ma mb n m2 P k hz2 (by omega) (by omega)
                rw [← hmC] at hch
                have hzD : SzL mD k := by
                  have h1 : SzL mC k := by
                    have key : ∀ (ids : List Vx) (s : At) (a d : Vx), SzL s k → SzL (chainF unstepA s a ids d) k := fun ids => by
                      induction ids with
                      | nil => intro s a d h; exact h.unstep a d
                      | cons v r ih => intro s a d h; exact ih _ _ _ (h.unstep a v)
                    rw [hmC]; exact key _ _ _ _ hz2
                  rw [hmD2]
                  have key : ∀ (ids : List Vx) (s : At), SzL s k → SzL (ids.foldl delA s) k := fun ids => by
                    induction ids with
                    | nil => intro s h; exact h
                    | cons v r ih => intro s h; exact ih _ (h.del v)
                  exact key _ _ h1
                refine LW.region ?_
                refine X.u (LU.entryMap 0 rfl (by assumption) Is.rfl') rfl ?_
                refine X.u (LU.extract Is.rfl' rfl) rfl ?_
                refine X.u (LU.assignR Is.rfl') rfl ?_
                refine LL.nil (after_code ?_)
                refine LW.seq ?_
                refine LW.region ?_
                refine X.u (LU.moveR Is.rfl') rfl ?_
                refine X.u (LU.nilCheck Is.rfl') rfl ?_
                refine X.u (LU.fieldO Tryd.underlying68 rfl Tryd.sizeOf66 (by decide) Is.rfl') rfl ?_
                refine X.u (LU.loadO 1 rfl ⟨Tryd.sizeOf66, Tryd.isAgg66⟩ Is.rfl' (Part.one rfl)) rfl ?_
                refine X.u (LU.moveR Is.rfl') rfl ?_
                refine X.u (LU.weak (LU.lookup 3 (KeyOk.int Tryd.underlying3) rfl Tryd.underlying66 Tryd.zeroValue82 Is.rfl' Is.rfl') (hPi)) rfl ?_
                refine X.act (X.alloc rfl Tryd.zeroValue82 (by exact Cells.rawagg (by decide)) (fun b13 => ?_))
                refine X.act (X.store 0 rfl Tryd.sizeOf82 Is.rfl' Is.rfl' (by exact Cells.agg) (by assumption) (by exact Nat.le_of_ble_eq_true rfl) ?_)
                refine LL.nil (after_code ?_)
                refine LW.seq ?_
                refine X.wcells (ys := ptL P) (putAt_all (by rw [hPl]; rfl)) ?_
                refine X.wghost (H' := gC g ma mb n :: gA ma m2 :: .cells b13 82 (ptL P) :: .mapr b22 b80 (mp intK (encM iE G)) (seen ++ [i81]) :: gP mb q2 :: kb :: Rf) (by repeat (first | exact HSub.refl _ | refine HSub.pick 2 rfl ?_)) ?_
                refine LW.region ?_
                refine X.u (LU.loadO 2 rfl ⟨Tryd.sizeOf82, Tryd.isAgg82⟩ Is.rfl' (Part.whole (by assumption))) rfl ?_
                refine X.u (LU.moveR Is.rfl') rfl ?_
                refine X.u (LU.bound (Is.rfl')) rfl ?_
                refine X.act (X.call (hch) Tryd.func37 rfl rfl rfl (HSub.refl _) (Opds.cons Is.rfl' (Opds.cons Is.rfl' Opds.nil)) ?_)
                rintro r H' ⟨rfl, rfl, hsz⟩
                refine LL.nil (after_code ?_)
                refine LW.seq ?_
                refine LW.seq ?_
                refine LW.region ?_
                refine X.u (LU.fieldO Tryd.underlying82 rfl Tryd.sizeOf26 (by decide) Is.rfl') rfl ?_
                refine X.u (LU.loadO 2 rfl ⟨Tryd.sizeOf26, Tryd.isAgg26⟩ Is.rfl' (Part.one (pt_ids P))) rfl ?_
                refine X.u (LU.lenN Tryd.underlying26 Is.rfl' (by (simp only [Option.getD_some, Option.getD_none, byteEls_length, intEls_length, List.length_append, List.length_cons, List.length_nil, List.length_map, List.length_drop, List.length_take, Int.toNat_natCast]; rfl))) rfl ?_
                refine X.u (LU.moveR Is.rfl') rfl ?_
                refine LL.nil (after_code ?_)
                refine LW.block ?_
                refine X.loopK (α := Nat) (fun j => [(98, i64 j)]) [0, 12, 80, 96, 97] (fun j => gA ma ((P.ids.take j).foldl delA mC) :: gC g ma mb n :: .cells b13 82 (ptL P) :: .mapr b22 b80 (mp intK (encM iE G)) (seen ++ [i81]) :: gP mb q2 :: kb :: Rf) (fun j => j ≤ P.ids.length) (fun j => P.ids.length - j) (0) (EnvLe.cons (by rfl) (EnvLe.nil)) (by repeat (first | exact HSub.refl _ | refine HSub.pick 1 rfl ?_)) ?_ ?_
                · exact Nat.zero_le _
                · rintro j hI
                  refine LW.seq ?_
                  refine LW.region ?_
                  refine X.u (LU.lss Is.rfl' Is.rfl') rfl ?_
                  refine LL.nil (after_code ?_)
                  refine LW.seq ?_
                  refine X.cond rfl (fun h26 => ?_) (fun h26 => ?_)
                  · try have h26 := of_decide_eq_true h26
                    refine LW.skip (after_code ?_)
                    refine LW.seq ?_
                    refine LW.block ?_
                    refine LW.seq ?_
                    obtain ⟨u, hu⟩ := at_lt (show j < P.ids.length by omega)
                    have hul := vxL_len u
                    have hu32 : u.p.1.length = 32 := u.p.2
                    refine LW.region ?_
                    refine X.u (LU.at Tryd.underlying26 ⟨Tryd.sizeOf35, Tryd.isAgg35⟩ Is.rfl' Is.rfl' (by omega) (vxs_at hu) (vx_ne u)) rfl ?_
                    refine X.u (LU.weak (LU.load ⟨Tryd.sizeOf35, Tryd.isAgg35⟩ Is.rfl' (by assumption) (Part.whole (by assumption))) (Is.of (y := .agg (vxL u)) (rfl))) rfl ?_
                    refine X.act (X.alloc rfl Tryd.zeroValue35 (by exact Cells.rawagg (by decide)) (fun b15 => ?_))
                    refine X.act (X.store 0 rfl Tryd.sizeOf35 Is.rfl' Is.rfl' (by exact Cells.agg) (by assumption) (by exact Nat.le_of_ble_eq_true rfl) ?_)
                    refine LL.nil (after_code ?_)
                    refine X.wcells (ys := vxL u) (putAt_all (by rw [hul]; rfl)) ?_
                    refine X.drawM 5 rfl (by kernel_rfl) rfl ?_
                    refine QD.u (LU.moveR Is.rfl') rfl ?_
                    refine QD.u (LU.nilCheck Is.rfl') rfl ?_
                    refine QD.u (LU.fieldO Tryd.underlying68 rfl Tryd.sizeOf65 (by decide) Is.rfl') rfl ?_
                    refine QD.u (LU.loadO 2 rfl ⟨Tryd.sizeOf65, Tryd.isAgg65⟩ Is.rfl' (Part.one rfl)) rfl ?_
                    refine QD.u (LU.loadO 0 rfl ⟨Tryd.sizeOf35, Tryd.isAgg35⟩ Is.rfl' (Part.whole (by assumption))) rfl ?_
                    refine QD.nil ?_
                    refine X.act (LO.mapDelete0 (st := ⟨_, _, _⟩) 1 (KeyOk.vx vxty) rfl Tryd.underlying65 Is.rfl' (by exact Is.vx _) ?_)
                    refine LL.nil (after_blk (after_code ?_))
                    refine X.wghost (H' := gA ma ((P.ids.take (j + 1)).foldl delA mC) :: gC g ma mb n :: .cells b13 82 (ptL P) :: .mapr b22 b80 (mp intK (encM iE G)) (seen ++ [i81]) :: gP mb q2 :: kb :: Rf) (by rw [take_snoc hu, foldl_snoc, ← gA_del]; exact (by repeat (first | exact HSub.refl _ | refine HSub.pick 0 rfl ?_ | refine HSub.pick 1 rfl ?_ | refine HSub.drop ?_))) ?_
                    refine LW.region ?_
                    refine X.u (LU.addN Is.rfl' Is.rfl' (wrap_i64 (by omega) (by omega))) rfl ?_
                    refine X.u (LU.moveR Is.rfl') rfl ?_
                    refine LL.nil (after_rnd ?_)
                    refine X.next (j + 1) rfl (EnvLe.cons (by rfl) (EnvLe.nil)) (Keeps.cons (by exact Eq.trans (b := .raw _) rfl rfl) (Keeps.cons (by exact Eq.trans (b := .raw _) rfl rfl) (Keeps.cons (by exact Eq.trans (b := .raw _) rfl rfl) (Keeps.cons (by exact Eq.trans (b := .sl _ _ _) rfl rfl) (Keeps.cons (by exact Eq.trans (b := .raw _) rfl rfl) (Keeps.nil)))))) (by repeat (exact HSub.refl _)) ?_ ?_
                    · omega
                    · omega
                  · try have h26 := of_decide_eq_false h26
                    refine LW.exit (exit_code (exit_rnd (exit_blk (after_code ?_))))
                    have hjl : j = P.ids.length := by omega
                    refine X.wghost (H' := gP mb q2 :: .mapr b22 b80 (mp intK (encM iE G)) (seen ++ [i81]) :: gC g ma mb n :: gA ma mD :: kb :: Rf) (by rw [hmD2, hjl, List.take_length]; exact (by repeat (first | exact HSub.refl _ | refine HSub.pick 0 rfl ?_ | refine HSub.pick 1 rfl ?_ | refine HSub.pick 3 rfl ?_ | refine HSub.pick 4 rfl ?_ | refine HSub.drop ?_))) ?_
                    refine LW.region ?_
                    refine X.u (LU.moveR Is.rfl') rfl ?_
                    refine X.u (LU.nilCheck Is.rfl') rfl ?_
                    refine X.u (LU.fieldO Tryd.underlying68 rfl Tryd.sizeOf66 (by decide) Is.rfl') rfl ?_
                    refine X.u (LU.loadO 2 rfl ⟨Tryd.sizeOf66, Tryd.isAgg66⟩ Is.rfl' (Part.one rfl)) rfl ?_
                    refine X.u (LU.moveR Is.rfl') rfl ?_
                    refine X.act (LO.mapDelete0 (st := ⟨_, _, _⟩) 0 (KeyOk.int Tryd.underlying3) rfl Tryd.underlying66 Is.rfl' Is.rfl' ?_)
                    refine LL.nil (after_blk (after_rnd ?_))
                    refine X.next ((seen ++ [i81], mD, delA q2 p.1)) rfl (EnvLe.nil) (Keeps.cons (by exact Eq.trans (b := .raw _) rfl rfl) (Keeps.cons (by exact Eq.trans (b := .raw _) rfl rfl) (Keeps.nil))) (by show L.HSub _ (.mapr b22 b80 (mp intK (encM iE G)) (seen ++ [i81]) :: gC g ma mb n :: gA ma mD :: gP mb (delA q2 p.1) :: kb :: Rf); rw [← gP_del]; exact (by repeat (first | exact HSub.refl _ | refine HSub.pick 1 rfl ?_))) ?_ ?_
                    · refine ⟨fun i hi => ?_, ?_, ?_, hzD, fun p' hp' => hq2 p' (mem_delA hp')⟩
                      · rcases List.mem_append.1 hi with h | h
                        · exact hsl2 i h
                        · rw [List.mem_singleton.1 h]; exact hil2
                      · rw [List.nodup_append]; exact ⟨hsn, by simp, fun x hx y hy => by rw [List.mem_singleton.1 hy]; rintro rfl; exact hn81 hx⟩
                      · rw [pickI_snoc hka, foldl_snoc, ← hmq, hmD]; rfl
                    · omega
              · refine X.u (LU.extract Is.rfl' rfl) rfl ?_
                refine LL.nil (after_code ?_)
                refine LW.seq ?_
                refine X.condF rfl ?_ ?_
                · rfl
                refine LW.exit (exit_code (exit_rnd (exit_blk (after_code ?_))))
                refine LW.seq ?_
                refine LW.region ?_
                refine X.u (LU.assignR Is.rfl') rfl ?_
                refine LL.nil (after_code ?_)
                refine LW.ret (after_end ?_)
                refine X.ret (H' := H5 g ma mb n m2 q2) (Res.one (by exact IsR rfl)) (by repeat (first | exact HSub.refl _ | refine HSub.pick 1 rfl ?_ | refine HSub.drop ?_)) ?_
                refine ⟨by rw [hE]; rfl, fun c => absurd hE c, fun _ => ⟨pickI (G.map (·.1)) seen, pickI_nodup hG.nd hsn (by rw [List.length_map]; exact hsl2), fun k => ?_, by rw [← hmq]⟩⟩
                rw [pickI_mem (by rw [List.length_map]; exact hsl2) (fun i hi => hall81 i (by rw [mp_len]; simpa using hi)), hG.mem]
end Go.Proofs.YtolpkeajokjbjaaDoor
