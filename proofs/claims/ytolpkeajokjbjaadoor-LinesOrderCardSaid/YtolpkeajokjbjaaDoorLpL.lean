/- Lines: what is shown. -/
import Derived.Test.YtolpkeajokjbjaaDoorLpK
set_option linter.unusedVariables false
set_option linter.unusedSimpArgs false
namespace Go.Proofs.YtolpkeajokjbjaaDoor
open Go.RowKit Go.L Go.Lib
attribute [local irreducible] LL LW LO LP LA
def rdyF (nx : Vx → List Vx) (S out : List Vx) : List Vx := S.filter fun v => decide (v ∉ out) && S.all fun u => !decide (v ∈ nx u) || decide (u ∈ out)
def ordF (nx : Vx → List Vx) (S : List Vx) : Nat → List Vx → List Vx
  | 0, out => out
  | n + 1, out => match (if ((rdyF nx S out).filter fun v => decide (v ∈ nx (lastO out))).isEmpty then rdyF nx S out else (rdyF nx S out).filter fun v => decide (v ∈ nx (lastO out))) with
    | [] => out
    | a :: l => ordF nx S n (out ++ [minV a l])
def orderG (r : Rg) : List Vx := ordF (nxE (Er r)) (idsG r.L) (idsG r.L).length []
theorem rdyF_mem {nx : Vx → List Vx} {S out : List Vx} {v : Vx} : v ∈ rdyF nx S out ↔ Rdy (fun u v => v ∈ nx u) (fun v => v ∈ S) out v := by
  unfold rdyF Rdy
  rw [List.mem_filter, Bool.and_eq_true, decide_eq_true_eq, List.all_eq_true]
  refine and_congr_right fun _ => and_congr_right fun _ => forall_congr' fun u => forall_congr' fun _ => ?_
  rw [Bool.or_eq_true, Bool.not_eq_true', decide_eq_false_iff_not, decide_eq_true_eq]
  exact ⟨fun h e => h.elim (fun c => absurd e c) id, fun h => Classical.byCases (fun e => .inr (h e)) .inl⟩
theorem ordF_ord {nx : Vx → List Vx} {S : List Vx} : ∀ (n : Nat) (out : List Vx), S.length ≤ n + out.length → Run (fun u v => v ∈ nx u) (fun v => v ∈ S) out → Ord (fun u v => v ∈ nx u) (fun v => v ∈ S) (ordF nx S n out)
  | 0, out, h, hr => show Ord _ _ out from ⟨hr, fun v hv => by
    have := nodup_len (List.nodup_cons.2 ⟨hv.2.1, hr.nodup⟩) (l := S) fun x hx => by
      rcases List.mem_cons.1 hx with e | e
      · rw [e]; exact hv.1
      · exact hr.mem x e
    rw [List.length_cons] at this
    omega⟩
  | n + 1, out, h, hr => by
    have hN : ∀ v, Nea (fun u v => v ∈ nx u) (fun v => v ∈ S) out v ↔ v ∈ (rdyF nx S out).filter fun v => decide (v ∈ nx (lastO out)) := fun v => by
      unfold Nea
      rw [List.mem_filter, rdyF_mem, decide_eq_true_eq]
    rw [ordF]
    cases hc : ((rdyF nx S out).filter fun v => decide (v ∈ nx (lastO out))) with
    | nil =>
      rw [hc] at hN
      simp only [List.isEmpty_nil, if_true]
      have hno : ¬ ∃ w, Nea (fun u v => v ∈ nx u) (fun v => v ∈ S) out w := fun ⟨w, hw⟩ => by have := (hN w).1 hw; cases this
      cases hq : rdyF nx S out with
      | nil => exact ⟨hr, fun v hv => by have := rdyF_mem.2 hv; rw [hq] at this; cases this⟩
      | cons a l => exact ordF_ord n _ (by rw [List.length_append, List.length_singleton]; omega) (hr.snoc ⟨fun c => absurd c hno, fun _ => minV_least fun v => by rw [← rdyF_mem, hq]⟩)
    | cons a l =>
      rw [hc] at hN
      rw [if_neg (by simp)]
      exact ordF_ord n _ (by rw [List.length_append, List.length_singleton]; omega) (hr.snoc ⟨fun _ => minV_least hN, fun c => absurd ⟨a, (hN a).2 (by simp)⟩ c⟩)
theorem orderG_ord (r : Rg) : OrdR r (orderG r) := ordF_ord _ [] (by simp) .nil
theorem OrdR.eq {r : Rg} {out : List Vx} (h : OrdR r out) : out = orderG r := Ord.uniq h (orderG_ord r)
structure Sh where
  v : Vx
  text : List UInt8
  kills : Nat
deriving DecidableEq
abbrev shL (x : Sh) : List LV := vxL x.v ++ [Str x.text, i64 (x.kills : Nat)]
abbrev shs (l : List Sh) : List (List LV) := l.map shL
theorem sh_len (x : Sh) : (shL x).length = 35 := by simp [x.v.p.2]
theorem sh_ne (x : Sh) : shL x ≠ [] := fun c => by have := sh_len x; rw [c] at this; cases this
theorem shs_size (l : List Sh) : ∀ e ∈ shs l, e.length = 35 := fun e he => by obtain ⟨x, _, rfl⟩ := List.mem_map.1 he; exact sh_len x
theorem shs_at {l : List Sh} {i : Nat} {x : Sh} (h : l[i]? = some x) : (shs l)[(i : Int).toNat]? = some (shL x) := by
  rw [Int.toNat_natCast, List.getElem?_map, h]; rfl
theorem shs_app (a b : List Sh) : shs a ++ shs b = shs (a ++ b) := (List.map_append (f := shL) (l₁ := a) (l₂ := b)).symm
theorem sh_v (x : Sh) : ((shL x).drop 0).take 33 = vxL x.v := by rw [List.drop_zero, List.take_left' (vxL_len x.v)]
theorem sh_text (x : Sh) : (shL x)[33]? = some (Str x.text) := by
  rw [List.getElem?_append_right (by rw [vxL_len]; decide), vxL_len]; rfl
theorem sh_kills (x : Sh) : (shL x)[34]? = some (i64 (x.kills : Nat)) := by
  rw [List.getElem?_append_right (by rw [vxL_len]; decide), vxL_len]; rfl
def shG (r : Rg) (v : Vx) : Sh := ⟨v, textG r.L v, (killsOf r.D v).length⟩
def shownG (r : Rg) : List Sh := (orderG r).map (shG r)
theorem laid_sh {a zs : List LV} {b c : LV} (ha : a.length = 33) (hz : zs.length = 35) : laid (#[(0, 33), (33, 1), (34, 1)][·]?) zs [(0, a), (1, [b]), (2, [c])] = some (a ++ [b, c]) := by
  have h1 : putAt zs 0 a = a ++ zs.drop 33 := by simp [putAt, ha]
  have h2 : putAt (a ++ zs.drop 33) 33 [b] = a ++ ([b] ++ zs.drop 34) := by
    unfold putAt
    rw [List.take_left' ha, List.length_singleton, ← List.drop_drop (i := 1) (j := 33), List.drop_left' ha, List.drop_drop, List.append_assoc]
  have h3 : putAt (a ++ ([b] ++ zs.drop 34)) 34 [c] = a ++ [b, c] := by
    unfold putAt
    rw [show a ++ ([b] ++ zs.drop 34) = (a ++ [b]) ++ zs.drop 34 by simp, List.take_left' (by simp [ha]), List.drop_of_length_le (by simp [ha, hz])]
    simp
  have l1 : (a ++ zs.drop 33).length = 35 := by simp [ha, hz]
  have l2 : (a ++ ([b] ++ zs.drop 34)).length = 35 := by simp [ha, hz]
  show (bif (Nat.beq a.length 33 && Nat.ble (0 + a.length) zs.length) then laid _ (putAt zs 0 a) [(1, [b]), (2, [c])] else none) = _
  rw [ha, hz, h1]
  show (bif (Nat.beq 1 1 && Nat.ble (33 + 1) (a ++ zs.drop 33).length) then laid _ (putAt (a ++ zs.drop 33) 33 [b]) [(2, [c])] else none) = _
  rw [l1, h2]
  show (bif (Nat.beq 1 1 && Nat.ble (34 + 1) (a ++ ([b] ++ zs.drop 34)).length) then laid _ (putAt (a ++ ([b] ++ zs.drop 34)) 34 [c]) [] else none) = _
  rw [l2, h3]
  rfl
theorem order_len {r : Rg} (ho : Ok r) : (orderG r).length ≤ 512 := Nat.le_trans (run_len ho (orderG_ord r).1) ho.len
abbrev Shs (l : List Sh) (k : Cap) : LV := .sl 35 (shs l) k
set_option maxHeartbeats 2000000 in
set_option maxRecDepth 100000 in
theorem shown_calls (g ma mb : Nat) (n : Int) (m : At) (q : Ps) (r : Rg) (hrel : Rel m q n r) (ho : Ok r) (hD : r.D.length < 900000) : LCalls Tryd.prog 18 [pt g] [gC g ma mb n, gA ma m, kb] (fun x H' => x = Shs (shownG r) .unk ∧ H' = [gC g ma mb n, gA ma m, kb]) := by
  have hord := order_calls g ma mb n m q r hrel ho
  have hol := order_len ho
  have hord2 : LCalls Tryd.prog 39 [pt g] [gC g ma mb n, gA ma m, kb] (fun x H' => x = Vxs (orderG r) .unk ∧ H' = [gC g ma mb n, gA ma m, kb]) := hord.mono fun x H' ⟨out, h1, h2, h3⟩ => ⟨by rw [← h3.eq]; exact h1, h2⟩
  obtain ⟨O, hO⟩ : ∃ O, O = orderG r := ⟨_, rfl⟩
  have hS : shownG r = O.map (shG r) := by unfold shownG; rw [hO]
  rw [← hO] at hord2 hol
  rw [hS]
  refine LCalls.of Tryd.func18 rfl Tryd.ntmps18 Tryd.results18 rfl (fun Rf => ?_)
  refine LW.seq ?_
  refine LW.region ?_
  refine X.u (LU.assign (Is.nil 35)) rfl ?_
  refine LL.nil (after_code ?_)
  refine LW.seq ?_
  refine LW.seq ?_
  refine LW.region ?_
  refine X.u (LU.moveR Is.rfl') rfl ?_
  refine X.u (LU.call1 0 rfl (none_calls g ma mb n) Tryd.func33 rfl rfl (Opds.cons Is.rfl' Opds.nil)) rfl ?_
  refine LL.nil (after_code ?_)
  refine X.condF rfl ?_ ?_
  · rfl
  refine LW.skip (after_code ?_)
  refine LW.seq ?_
  refine LW.region ?_
  refine X.u (LU.assign (Is.nil 35)) rfl ?_
  refine LL.nil (after_code ?_)
  refine LW.seq ?_
  refine LW.seq ?_
  refine LW.region ?_
  refine X.u (LU.moveR Is.rfl') rfl ?_
  refine X.u (LU.callP (List.Perm.refl _) (hord2) Tryd.func39 rfl rfl (Opds.cons Is.rfl' Opds.nil)) rfl ?_
  refine X.u (LU.lenN Tryd.underlying26 Is.rfl' (by (simp only [Option.getD_some, Option.getD_none, byteEls_length, intEls_length, List.length_append, List.length_cons, List.length_nil, List.length_map, List.length_drop, List.length_take, Int.toNat_natCast]; rfl))) rfl ?_
  refine X.u (LU.moveR Is.rfl') rfl ?_
  refine LL.nil (after_code ?_)
  refine LW.block ?_
  refine X.wweak (t := 3) (v := Shs [] (.tok 0 0 0)) (Is.full_tok 0 0) ?_
  refine X.wghost (HSub.tail0 0 0 0 (Nat.le_refl _) _) ?_
  refine X.loopK (α := Nat × Nat × Nat × Nat) (fun ⟨i, b, o, c⟩ => [(12, i64 i), (3, Shs ((O.take i).map (shG r)) (.tok b o c))]) [0, 2, 10, 11] (fun ⟨i, b, o, c⟩ => .tail b o c :: gC g ma mb n :: gA ma m :: kb :: Rf) (fun ⟨i, b, o, c⟩ => i ≤ O.length) (fun ⟨i, b, o, c⟩ => O.length - i) ((0, 0, 0, 0)) (EnvLe.cons (by rfl) (EnvLe.cons (by rfl) (EnvLe.nil))) (by repeat (exact HSub.refl _)) ?_ ?_
  · exact Nat.zero_le _
  · rintro ⟨i, b, o, c⟩ hI
    refine LW.seq ?_
    refine LW.region ?_
    refine X.u (LU.lss Is.rfl' Is.rfl') rfl ?_
    refine LL.nil (after_code ?_)
    refine LW.seq ?_
    refine X.cond rfl (fun h5 => ?_) (fun h5 => ?_)
    · try have h5 := of_decide_eq_true h5
      refine LW.skip (after_code ?_)
      refine LW.seq ?_
      refine LW.block ?_
      refine LW.seq ?_
      obtain ⟨v, hv⟩ := at_lt (show i < O.length by omega)
      have hvl := vxL_len v
      have hv32 : v.p.1.length = 32 := v.p.2
      obtain ⟨x, hx⟩ : ∃ x, x = atG m v := ⟨_, rfl⟩
      have hxi : Is ((lookM (encM lnE m) v).getD (.raw z73)) (lnE x) := by rw [hx]; exact at_is m v
      have hxt : x.text = textG r.L v := by rw [hx]; exact hrel.text v
      have hxk : x.kills = killsOf r.D v := by rw [hx]; exact hrel.kills v
      have hxl : x.kills.length < 900000 := by rw [hxk]; have := kills_len r.D v; omega
      have hshl := sh_len (shG r v)
      have htk : ((O.take i).map (shG r)).length = i := by rw [List.length_map, List.length_take]; omega
      refine LW.region ?_
      refine X.u (LU.at Tryd.underlying26 ⟨Tryd.sizeOf35, Tryd.isAgg35⟩ Is.rfl' Is.rfl' (by omega) (vxs_at hv) (vx_ne v)) rfl ?_
      refine X.u (LU.weak (LU.load ⟨Tryd.sizeOf35, Tryd.isAgg35⟩ Is.rfl' (by assumption) (Part.whole (by assumption))) (Is.of (y := .agg (vxL v)) (rfl))) rfl ?_
      refine X.act (X.alloc rfl Tryd.zeroValue35 (by exact Cells.rawagg (by decide)) (fun b5 => ?_))
      refine X.act (X.store 0 rfl Tryd.sizeOf35 Is.rfl' Is.rfl' (by exact Cells.agg) (by assumption) (by exact Nat.le_of_ble_eq_true rfl) ?_)
      refine LL.nil (after_code ?_)
      refine LW.seq ?_
      refine X.wcells (ys := vxL v) (putAt_all (by rw [hvl]; rfl)) ?_
      refine LW.invM (m := 7) (γ := Nat × Nat) [(0, 16), (1, 17), (2, 18), (3, 19), (4, 20), (5, 21), (6, 6)] (fun g_ d => match g_ with | ⟨b_, z_⟩ => match d with | 16 => pt g | 17 => pt g | 18 => pt g | 19 => .raw (.map (some ma)) | 20 => .agg (vxL v) | 21 => lnE x | 6 => pt b_ | _ => .any) (fun g_ f => match g_ with | ⟨b_, z_⟩ => cond (f 6) (.cells b_ 73 (raws z73.cells.toList)) (.tail 0 0 0) :: .tail b o c :: .cells b5 35 (vxL v) :: gC g ma mb n :: gA ma m :: kb :: Rf) (0, 0) rfl (by kernel_rfl) rfl rfl ((HSub.trans (by repeat (first | exact HSub.refl _ | refine HSub.pick 1 rfl ?_)) (HSub.tail0 0 0 0 (Nat.le_refl _) _))) ?_ ?_
      · intro i hi f g_ hfi hdir hdown
        obtain ⟨b_, z_⟩ := g_
        have hc : i = 0 ∨ i = 1 ∨ i = 2 ∨ i = 3 ∨ i = 4 ∨ i = 5 ∨ i = 6 := by omega
        rcases hc with rfl | rfl | rfl | rfl | rfl | rfl | rfl
        · refine ⟨_, rfl, ?_⟩
          refine A.u (LU.moveR Is.rfl') rfl ?_
          refine ⟨⟨b_, z_⟩, Weaker.mk' ?_ (HSub.refl _)⟩
          refine env_back0 (envS_hit (sl := [(0, 16), (1, 17), (2, 18), (3, 19), (4, 20), (5, 21), (6, 6)]) (j := 0) (d := 16) rfl (fun _ _ h => h))  (envS_next ?_)
          · intro p hp hne; simp only [List.mem_cons, List.not_mem_nil, or_false] at hp; rcases hp with rfl | rfl | rfl | rfl | rfl | rfl | rfl <;> first | exact absurd rfl hne | exact ⟨rfl, rfl⟩
        · have d0 := hdir 0 (List.mem_of_elem_eq_true (by kernel_rfl))
          refine ⟨_, rfl, ?_⟩
          refine LP.weak (t := 16) (v := pt g) (envS_is (j := 0) rfl d0) ?_
          refine A.u (LU.nilCheck Is.rfl') rfl ?_
          refine ⟨⟨b_, z_⟩, Weaker.mk' ?_ (HSub.refl _)⟩
          refine env_back1 (envS_hit (sl := [(0, 16), (1, 17), (2, 18), (3, 19), (4, 20), (5, 21), (6, 6)]) (j := 1) (d := 17) rfl (fun _ _ h => h)) (envS_hit (sl := [(0, 16), (1, 17), (2, 18), (3, 19), (4, 20), (5, 21), (6, 6)]) (j := 0) (d := 16) rfl (fun _ _ h => h)) (envS_next ?_)
          · intro p hp hne; simp only [List.mem_cons, List.not_mem_nil, or_false] at hp; rcases hp with rfl | rfl | rfl | rfl | rfl | rfl | rfl <;> first | exact absurd rfl hne | exact ⟨rfl, rfl⟩
        · have d1 := hdir 1 (List.mem_of_elem_eq_true (by kernel_rfl))
          refine ⟨_, rfl, ?_⟩
          refine LP.weak (t := 17) (v := pt g) (envS_is (j := 1) rfl d1) ?_
          refine A.u (LU.fieldO Tryd.underlying68 rfl Tryd.sizeOf65 (by decide) Is.rfl') rfl ?_
          refine ⟨⟨b_, z_⟩, Weaker.mk' ?_ (HSub.refl _)⟩
          refine env_back1 (envS_hit (sl := [(0, 16), (1, 17), (2, 18), (3, 19), (4, 20), (5, 21), (6, 6)]) (j := 2) (d := 18) rfl (fun _ _ h => h)) (envS_hit (sl := [(0, 16), (1, 17), (2, 18), (3, 19), (4, 20), (5, 21), (6, 6)]) (j := 1) (d := 17) rfl (fun _ _ h => h)) (envS_next ?_)
          · intro p hp hne; simp only [List.mem_cons, List.not_mem_nil, or_false] at hp; rcases hp with rfl | rfl | rfl | rfl | rfl | rfl | rfl <;> first | exact absurd rfl hne | exact ⟨rfl, rfl⟩
        · have d2 := hdir 2 (List.mem_of_elem_eq_true (by kernel_rfl))
          refine ⟨_, rfl, ?_⟩
          refine LP.weak (t := 18) (v := pt g) (envS_is (j := 2) rfl d2) ?_
          refine A.u (LU.loadO 3 rfl ⟨Tryd.sizeOf65, Tryd.isAgg65⟩ Is.rfl' (Part.one rfl)) rfl ?_
          refine ⟨⟨b_, z_⟩, Weaker.mk' ?_ (HSub.refl _)⟩
          refine env_back1 (envS_hit (sl := [(0, 16), (1, 17), (2, 18), (3, 19), (4, 20), (5, 21), (6, 6)]) (j := 3) (d := 19) rfl (fun _ _ h => h)) (envS_hit (sl := [(0, 16), (1, 17), (2, 18), (3, 19), (4, 20), (5, 21), (6, 6)]) (j := 2) (d := 18) rfl (fun _ _ h => h)) (envS_next ?_)
          · intro p hp hne; simp only [List.mem_cons, List.not_mem_nil, or_false] at hp; rcases hp with rfl | rfl | rfl | rfl | rfl | rfl | rfl <;> first | exact absurd rfl hne | exact ⟨rfl, rfl⟩
        · refine ⟨_, rfl, ?_⟩
          refine A.u (LU.loadO 2 rfl ⟨Tryd.sizeOf35, Tryd.isAgg35⟩ Is.rfl' (Part.whole (by assumption))) rfl ?_
          refine ⟨⟨b_, z_⟩, Weaker.mk' ?_ (HSub.refl _)⟩
          refine env_back0 (envS_hit (sl := [(0, 16), (1, 17), (2, 18), (3, 19), (4, 20), (5, 21), (6, 6)]) (j := 4) (d := 20) rfl (fun _ _ h => h))  (envS_next ?_)
          · intro p hp hne; simp only [List.mem_cons, List.not_mem_nil, or_false] at hp; rcases hp with rfl | rfl | rfl | rfl | rfl | rfl | rfl <;> first | exact absurd rfl hne | exact ⟨rfl, rfl⟩
        · have d3 := hdir 3 (List.mem_of_elem_eq_true (by kernel_rfl))
          have d4 := hdir 4 (List.mem_of_elem_eq_true (by kernel_rfl))
          refine ⟨_, rfl, ?_⟩
          refine LP.weak (t := 19) (v := .raw (.map (some ma))) (envS_is (j := 3) rfl d3) ?_
          refine LP.weak (t := 20) (v := .agg (vxL v)) (envS_is (j := 4) rfl d4) ?_
          refine A.u (LU.weak (LU.lookup 4 (KeyOk.vx vxty) rfl Tryd.underlying65 Tryd.zeroValue73 Is.rfl' (by exact Is.vx _)) (hxi)) rfl ?_
          refine ⟨⟨b_, z_⟩, Weaker.mk' ?_ (HSub.refl _)⟩
          refine env_back2 (envS_hit (sl := [(0, 16), (1, 17), (2, 18), (3, 19), (4, 20), (5, 21), (6, 6)]) (j := 5) (d := 21) rfl (fun _ _ h => h)) (envS_hit (sl := [(0, 16), (1, 17), (2, 18), (3, 19), (4, 20), (5, 21), (6, 6)]) (j := 4) (d := 20) rfl (fun _ _ h => h)) (envS_hit (sl := [(0, 16), (1, 17), (2, 18), (3, 19), (4, 20), (5, 21), (6, 6)]) (j := 3) (d := 19) rfl (fun _ _ h => h)) (envS_next ?_)
          · intro p hp hne; simp only [List.mem_cons, List.not_mem_nil, or_false] at hp; rcases hp with rfl | rfl | rfl | rfl | rfl | rfl | rfl <;> first | exact absurd rfl hne | exact ⟨rfl, rfl⟩
        · refine ⟨_, rfl, ?_⟩
          refine A.act (X.alloc rfl Tryd.zeroValue73 (by exact Cells.rawagg (by decide)) (fun b6 => ?_))
          refine ⟨(b6, 0), Weaker.mk' ?_ (by show L.HSub (_ :: cond (f 6) _ (.tail 0 0 0) :: _) _; rw [hfi]; exact HSub.cons (HSub.drop (HSub.refl _)))⟩
          refine env_back0 (envS_hit (sl := [(0, 16), (1, 17), (2, 18), (3, 19), (4, 20), (5, 21), (6, 6)]) (j := 6) (d := 6) rfl (fun _ _ h => h))  (envS_next ?_)
          · intro p hp hne; simp only [List.mem_cons, List.not_mem_nil, or_false] at hp; rcases hp with rfl | rfl | rfl | rfl | rfl | rfl | rfl <;> first | exact absurd rfl hne | exact ⟨rfl, rfl⟩
      · intro g_ f hf_
        obtain ⟨b_, z_⟩ := g_
        refine X.ghost (H' := .cells b_ 73 (raws z73.cells.toList) :: .tail b o c :: .cells b5 35 (vxL v) :: gC g ma mb n :: gA ma m :: kb :: Rf) (by show L.HSub (cond (f 6) _ (.tail 0 0 0) :: _) _; rw [hf_ 6 (by omega)]; exact HSub.refl _) ?_
        refine X.act (X.store 0 rfl Tryd.sizeOf73 Is.rfl' Is.rfl' (by exact Cells.agg) (by (simp; done)) (by exact Nat.le_of_ble_eq_true rfl) ?_)
        refine LL.nil (after_code ?_)
        refine X.wcells (ys := lnL x) rfl ?_
        refine X.wghost (H' := .tail b o c :: .cells b_ 73 (lnL x) :: .cells b5 35 (vxL v) :: gC g ma mb n :: gA ma m :: kb :: Rf) (by repeat (first | exact HSub.refl _ | refine HSub.pick 1 rfl ?_)) ?_
        refine LW.region ?_
        refine X.u (LU.moveS Is.rfl') rfl ?_
        refine X.u (LU.loadO 2 rfl ⟨Tryd.sizeOf35, Tryd.isAgg35⟩ Is.rfl' (Part.whole (by assumption))) rfl ?_
        refine X.u (LU.fieldO Tryd.underlying73 rfl Tryd.sizeOf9 (by decide) Is.rfl') rfl ?_
        refine X.u (LU.loadO 1 rfl ⟨Tryd.sizeOf9, Tryd.isAgg9⟩ Is.rfl' (Part.one rfl)) rfl ?_
        refine X.u (LU.fieldO Tryd.underlying73 rfl Tryd.sizeOf71 (by decide) Is.rfl') rfl ?_
        refine X.u (LU.loadO 1 rfl ⟨Tryd.sizeOf71, Tryd.isAgg71⟩ Is.rfl' (Part.one rfl)) rfl ?_
        refine X.u (LU.weak (LU.lenN Tryd.underlying71 Is.rfl' (by (simp only [Option.getD_some, Option.getD_none, byteEls_length, intEls_length, List.length_append, List.length_cons, List.length_nil, List.length_map, List.length_drop, List.length_take, Int.toNat_natCast]; rfl))) (Is.of (y := i64 ((killsOf r.D v).length : Nat)) (congrArg i64 (by rw [← hxk]; try first | rfl | simp)))) rfl ?_
        refine X.u (LU.weak (LU.build (places := #[(0, 33), (33, 1), (34, 1)]) Tryd.underlying49 Tryd.zeroValue49 (ones rfl) (by intro w; simp [Tryd.sizeOf3, Tryd.sizeOf35, Tryd.sizeOf9]) (Parts.cons Is.rfl' (by exact Cells.agg) (Parts.cons Is.rfl' (by exact Cells.raw rfl) (Parts.cons Is.rfl' (by exact Cells.raw rfl) Parts.nil))) (laid_sh hvl rfl)) (Is.of (y := .agg (shL (shG r v))) (congrArg LV.agg (by rw [hxt]; rfl)))) rfl ?_
        refine X.u (LU.lits Tryd.underlying45 Tryd.sizeOf49 Tryd.zeroValue49 (ones rfl) rfl (by decide) (by decide) (Elems.cons Is.rfl' (by exact Cells.agg) Elems.nil) (by (simp; assumption)) rfl) rfl ?_
        refine X.act (X.append 0 rfl rfl Tryd.underlying45 (El.of (P := Tryd.prog) (z := (.agg #[(.int .u8 0), (.int .u8 0), (.int .u8 0), (.int .u8 0), (.int .u8 0), (.int .u8 0), (.int .u8 0), (.int .u8 0), (.int .u8 0), (.int .u8 0), (.int .u8 0), (.int .u8 0), (.int .u8 0), (.int .u8 0), (.int .u8 0), (.int .u8 0), (.int .u8 0), (.int .u8 0), (.int .u8 0), (.int .u8 0), (.int .u8 0), (.int .u8 0), (.int .u8 0), (.int .u8 0), (.int .u8 0), (.int .u8 0), (.int .u8 0), (.int .u8 0), (.int .u8 0), (.int .u8 0), (.int .u8 0), (.int .u8 0), (.int .i64 0), (.string ByteArray.empty), (.int .i64 0)])) (size := 35) (bytes := 64) rfl rfl rfl) Is.rfl' Is.rfl' (SrcL.slice Tryd.underlying45 (by decide) (by intro e he; rw [List.mem_singleton.1 he]; exact sh_len _)) (by simp only [Option.getD_some, Option.getD_none, byteEls_length, intEls_length, List.length_append, List.length_cons, List.length_nil, List.length_map, List.length_drop, List.length_take, Int.toNat_natCast]; omega) (by simp only [Option.getD_some, Option.getD_none, byteEls_length, intEls_length, List.length_append, List.length_cons, List.length_nil, List.length_map, List.length_drop, List.length_take, Int.toNat_natCast]; omega) (fun b31 o31 c31 => X.weak (t := 31) (Is.of (y := Shs ((O.take (i + 1)).map (shG r)) (.tok b31 o31 c31)) (congrArg (fun z => LV.sl 35 z (.tok b31 o31 c31)) (by rw [take_snoc hv, List.map_append]; exact shs_app _ [shG r v]))) ?_))
        refine X.u (LU.assignS Is.rfl') rfl ?_
        refine LL.nil (after_blk (after_code ?_))
        refine LW.region ?_
        refine X.u (LU.addN Is.rfl' Is.rfl' (wrap_i64 (by omega) (by omega))) rfl ?_
        refine X.u (LU.moveR Is.rfl') rfl ?_
        refine LL.nil (after_rnd ?_)
        refine X.next ((i + 1, b31, o31, c31)) rfl (EnvLe.cons (by rfl) (EnvLe.cons (by rfl) (EnvLe.nil))) (Keeps.cons (by exact Eq.trans (b := .raw _) rfl rfl) (Keeps.cons (by exact Eq.trans (b := .sl _ _ _) rfl rfl) (Keeps.cons (by exact Eq.trans (b := .sl _ _ _) rfl rfl) (Keeps.cons (by exact Eq.trans (b := .raw _) rfl rfl) (Keeps.nil))))) (by repeat (first | exact HSub.refl _ | refine HSub.pick 0 rfl ?_ | refine HSub.pick 2 rfl ?_ | refine HSub.drop ?_)) ?_ ?_
        · omega
        · (simp; omega)
    · try have h5 := of_decide_eq_false h5
      refine LW.exit (exit_code (exit_rnd (exit_blk (after_code ?_))))
      refine LW.seq ?_
      refine LW.region ?_
      refine X.u (LU.moveS Is.rfl') rfl ?_
      refine X.u (LU.assignS Is.rfl') rfl ?_
      refine LL.nil (after_code ?_)
      refine LW.ret (after_end ?_)
      refine X.ret (H' := [gC g ma mb n, gA ma m, kb]) (Res.one (by exact IsS rfl)) (by repeat (first | exact HSub.refl _ | refine HSub.pick 1 rfl ?_ | refine HSub.drop ?_)) ?_
      exact ⟨by rw [List.take_of_length_le (by omega)], rfl⟩
end Go.Proofs.YtolpkeajokjbjaaDoor
