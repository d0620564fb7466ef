/- The merge queue: one that ends. -/
import Derived.Test.YtpimalihpnfdkaaQuB
set_option linter.unusedVariables false
set_option linter.unusedSimpArgs false
namespace Go.Proofs.Ytpimalihpnfdkaa
open Go.RowKit Go.L
attribute [local irreducible] LL LW LO LP LA
theorem eds_snoc (l : List Ed) (e : Ed) (k : Cap) : LV.sl 3 (eds l ++ [edL e]) k = LV.sl 3 (eds (l ++ [e])) k := by
  show LV.sl 3 (l.map edL ++ [edL e]) k = LV.sl 3 ((l ++ [e]).map edL) k
  rw [List.map_append]; rfl
def outE (why : Int) : Int := if why = 0 then 1 else 2
set_option maxRecDepth 100000 in
theorem end_calls (g : Nat) (ws : List Int) (es : List Ed) (tv : Value) (b o c b2 o2 c2 : Nat) (i : Nat) (x : Int) (why : Int) (hx : ws[i]? = some x) (hw : ws.length ≤ 1000) (he : es.length ≤ 3000000000000) : LCalls Try.prog 64 [pt g, i64 (i : Nat), i64 why] [qa g ws es tv b o c b2 o2 c2, .tail b o c, .tail b2 o2 c2] (fun r H' => ∃ b' o' c' b2' o2' c2', r = .agg (edL (x, outE why, why)) ∧ H' = [qa g (ws.eraseIdx i) (es ++ [(x, outE why, why)]) tv b' o' c' b2' o2' c2', .tail b' o' c', .tail b2' o2' c2']) := by
  have hi := (List.getElem?_eq_some_iff.1 hx).1
  have hel : (ws.eraseIdx i).length = ws.length - 1 := List.length_eraseIdx_of_lt hi
  have hsz := eds_size es
  refine LCalls.of Try.func64 rfl Try.ntmps64 Try.results64 rfl (fun Rf => ?_)
  refine LW.seq ?_
  refine LW.region ?_
  refine X.act (X.alloc rfl Try.zeroValue58 (by exact Cells.rawagg (by decide)) (fun b6 => ?_))
  refine LL.nil (after_code ?_)
  refine LW.seq ?_
  refine LW.region ?_
  refine X.u (LU.moveR Is.rfl') rfl ?_
  refine X.u (LU.nilCheck Is.rfl') rfl ?_
  refine X.u (LU.fieldO Try.underlying77 rfl Try.sizeOf24 (by decide) Is.rfl') rfl ?_
  refine X.u (LU.loadO 1 rfl ⟨Try.sizeOf24, Try.isAgg24⟩ Is.rfl' (Part.one rfl)) rfl ?_
  refine X.u (LU.moveR Is.rfl') rfl ?_
  refine X.u (LU.at Try.underlying24 ⟨Try.sizeOf3, Try.isAgg3⟩ Is.rfl' Is.rfl' (by omega) (ints_at hx) (by simp)) rfl ?_
  refine X.u (LU.load ⟨Try.sizeOf3, Try.isAgg3⟩ Is.rfl' (by (simp; done)) (Part.one rfl)) rfl ?_
  refine X.u (LU.moveR Is.rfl') rfl ?_
  refine X.u (LU.build (places := #[(0, 1), (1, 1), (2, 1)]) Try.underlying58 Try.zeroValue58 (ones rfl) (by intro w; simp [Try.sizeOf26, Try.sizeOf3]) (Parts.cons Is.rfl' (by exact Cells.raw rfl) (Parts.cons Is.rfl' (by exact Cells.raw rfl) (Parts.cons Is.rfl' (by exact Cells.raw rfl) Parts.nil))) rfl) rfl ?_
  refine X.act (X.alloc rfl Try.zeroValue58 (by exact Cells.rawagg (by decide)) (fun b7 => ?_))
  refine X.act (X.store 0 rfl Try.sizeOf58 Is.rfl' Is.rfl' (by exact Cells.agg) (by rfl) (by exact Nat.le_of_ble_eq_true rfl) ?_)
  refine LL.nil (after_code ?_)
  refine X.meetK (α := Int) (fun u => []) [0, 1, 6, 7] (fun u => .cells b7 58 (edL (x, u, why)) :: qa g ws es tv b o c b2 o2 c2 :: .tail b o c :: .tail b2 o2 c2 :: .cells b6 58 (edL (0, 0, 0)) :: Rf) (fun u => u = outE why) ?_ ?_
  · refine LW.seq ?_
    refine X.wcells (ys := edL (x, 2, why)) rfl ?_
    refine LW.region ?_
    refine X.u (LU.moveR Is.rfl') rfl ?_
    refine X.u (LU.eql Is.rfl' Is.rfl') rfl ?_
    refine LL.nil (after_code ?_)
    refine X.cond rfl (fun h2 => ?_) (fun h2 => ?_)
    · try have h2 := of_decide_eq_true h2
      refine LW.region ?_
      refine X.u (LU.fieldO Try.underlying58 rfl Try.sizeOf3 (by decide) Is.rfl') rfl ?_
      refine X.act (X.store 0 rfl Try.sizeOf3 Is.rfl' Is.rfl' (by exact Cells.raw rfl) (by (simp; done)) (by (simp; done)) ?_)
      refine LL.nil (after_rnd ?_)
      refine X.meets (1) rfl (EnvLe.nil) (Keeps.cons (by exact Eq.trans (b := .raw _) rfl rfl) (Keeps.cons (by exact Eq.trans (b := .raw _) rfl rfl) (Keeps.cons (by exact Eq.trans (b := .raw _) rfl rfl) (Keeps.cons (by exact Eq.trans (b := .raw _) rfl rfl) (Keeps.nil))))) (by repeat (first | exact HSub.refl _ | refine HSub.pick 0 rfl ?_ | refine HSub.pick 1 rfl ?_)) ?_
      unfold outE; rw [if_pos h2]
    · try have h2 := of_decide_eq_false h2
      refine LW.skip (after_rnd ?_)
      refine X.meets (2) rfl (EnvLe.nil) (Keeps.cons (by exact Eq.trans (b := .raw _) rfl rfl) (Keeps.cons (by exact Eq.trans (b := .raw _) rfl rfl) (Keeps.cons (by exact Eq.trans (b := .raw _) rfl rfl) (Keeps.cons (by exact Eq.trans (b := .raw _) rfl rfl) (Keeps.nil))))) (by repeat (first | exact HSub.refl _ | refine HSub.pick 0 rfl ?_ | refine HSub.pick 1 rfl ?_)) ?_
      unfold outE; rw [if_neg h2]
  · rintro u hI
    have hu := hI
    refine LW.seq ?_
    refine LW.region ?_
    refine X.u (LU.moveR Is.rfl') rfl ?_
    refine X.u (LU.moveR Is.rfl') rfl ?_
    refine X.u (LU.nilCheck Is.rfl') rfl ?_
    refine X.u (LU.fieldO Try.underlying77 rfl Try.sizeOf24 (by decide) Is.rfl') rfl ?_
    refine X.u (LU.loadO 1 rfl ⟨Try.sizeOf24, Try.isAgg24⟩ Is.rfl' (Part.one rfl)) rfl ?_
    refine X.act (X.call (cloneO_calls ws (.tok b o c) (by omega) (by omega)) Try.func59 rfl rfl rfl (HSub.refl _) (Opds.cons Is.rfl' Opds.nil) ?_)
    rintro r H' ⟨b5, c5, rest5, rfl, hc5, hr5, rfl⟩
    refine X.u (LU.moveR Is.rfl') rfl ?_
    refine X.u (LU.moveR Is.rfl') rfl ?_
    refine X.u (LU.weak (LU.addN Is.rfl' Is.rfl' (wrap_i64 (by omega) (by omega))) (Is.of (y := i64 ((i + 1 : Nat) : Int)) (rfl))) rfl ?_
    refine X.act (X.call (delete_calls b5 c5 ws (raws rest5) i hi hc5 (by omega)) Try.func67 rfl rfl rfl (by (refine HSub.pick 0 rfl ?_); exact HSub.refl _) (Opds.cons Is.rfl' (Opds.cons Is.rfl' (Opds.cons Is.rfl' Opds.nil))) ?_)
    rintro r H' ⟨rfl, rfl⟩
    have hrl : (raws rest5).length = rest5.length := by simp [raws]
    refine LL.freezeT (t := 29) 0 rfl rfl (es := intEls (ws.eraseIdx i)) (size := 1) (n := ws.length - 1) (c := c5) (intEls_size _) (by rw [intEls_length, hel]) (by rw [List.length_append, List.length_map, hel, List.length_cons, hrl]; omega) (by rw [intEls_flat, List.take_append_of_le_length (by simp [hel]), List.take_of_length_le (by simp [hel])]) (by omega) ?_
    refine X.u (LU.nilCheck Is.rfl') rfl ?_
    refine X.u (LU.fieldO Try.underlying77 rfl Try.sizeOf24 (by decide) Is.rfl') rfl ?_
    refine X.act (X.store 2 rfl Try.sizeOf24 Is.rfl' Is.rfl' (by exact Cells.sl) (by (simp; done)) (by (simp; done)) ?_)
    refine LL.nil (after_code ?_)
    refine LW.seq ?_
    refine LW.invM (m := 8) (γ := Nat × Nat × Nat) [(0, 32), (1, 33), (2, 34), (3, 35), (4, 36), (5, 37), (6, 38), (7, 39)] (fun g_ d => match g_ with | ⟨p, q, r⟩ => match d with | 32 => pt g | 33 => pt g | 34 => pt g | 35 => .raw (.pointer (some ⟨g, 1, none⟩)) | 36 => .sl 3 (eds es) (.tok b2 o2 c2) | 37 => .agg (edL (x, u, why)) | 38 => .sl 3 [edL (x, u, why)] .full | 39 => .sl 3 (eds (es ++ [(x, u, why)])) (.tok p q r) | _ => .any) (fun g_ f => match g_ with | ⟨p, q, r⟩ => cond (f 7) (.tail p q r) (.tail b2 o2 c2) :: .cells b7 58 (edL (x, u, why)) :: qa g (ws.eraseIdx i) es tv b5 ((ws.length - 1) * 1) (c5 * 1) b2 o2 c2 :: .tail b5 ((ws.length - 1) * 1) (c5 * 1) :: .cells b6 58 (edL (0, 0, 0)) :: Rf) (0, 0, 0) rfl (by kernel_rfl) rfl rfl ((by repeat (first | exact HSub.refl _ | refine HSub.pick 0 rfl ?_ | refine HSub.pick 1 rfl ?_ | refine HSub.pick 2 rfl ?_ | refine HSub.pick 4 rfl ?_ | refine HSub.drop ?_))) ?_ ?_
    · intro i hi f g_ hfi hdir hdown
      obtain ⟨p, q, r⟩ := g_
      have hc : i = 0 ∨ i = 1 ∨ i = 2 ∨ i = 3 ∨ i = 4 ∨ i = 5 ∨ i = 6 ∨ i = 7 := by omega
      rcases hc with rfl | rfl | rfl | rfl | rfl | rfl | rfl | rfl
      · refine ⟨_, rfl, ?_⟩
        refine A.u (LU.moveR Is.rfl') rfl ?_
        refine ⟨⟨p, q, r⟩, Weaker.mk' ?_ (HSub.refl _)⟩
        refine env_back0 (envS_hit (sl := [(0, 32), (1, 33), (2, 34), (3, 35), (4, 36), (5, 37), (6, 38), (7, 39)]) (j := 0) (d := 32) rfl (fun _ _ h => h))  (envS_next ?_)
        · intro p hp hne; simp only [List.mem_cons, List.not_mem_nil, or_false] at hp; rcases hp with rfl | rfl | rfl | rfl | rfl | rfl | rfl | rfl <;> first | exact absurd rfl hne | exact ⟨rfl, rfl⟩
      · refine ⟨_, rfl, ?_⟩
        refine A.u (LU.moveR Is.rfl') rfl ?_
        refine ⟨⟨p, q, r⟩, Weaker.mk' ?_ (HSub.refl _)⟩
        refine env_back0 (envS_hit (sl := [(0, 32), (1, 33), (2, 34), (3, 35), (4, 36), (5, 37), (6, 38), (7, 39)]) (j := 1) (d := 33) rfl (fun _ _ h => h))  (envS_next ?_)
        · intro p hp hne; simp only [List.mem_cons, List.not_mem_nil, or_false] at hp; rcases hp with rfl | rfl | rfl | rfl | rfl | rfl | rfl | rfl <;> first | exact absurd rfl hne | exact ⟨rfl, rfl⟩
      · have d1 := hdir 1 (List.mem_of_elem_eq_true (by kernel_rfl))
        refine ⟨_, rfl, ?_⟩
        refine LP.weak (t := 33) (v := pt g) (envS_is (j := 1) rfl d1) ?_
        refine A.u (LU.nilCheck Is.rfl') rfl ?_
        refine ⟨⟨p, q, r⟩, Weaker.mk' ?_ (HSub.refl _)⟩
        refine env_back1 (envS_hit (sl := [(0, 32), (1, 33), (2, 34), (3, 35), (4, 36), (5, 37), (6, 38), (7, 39)]) (j := 2) (d := 34) rfl (fun _ _ h => h)) (envS_hit (sl := [(0, 32), (1, 33), (2, 34), (3, 35), (4, 36), (5, 37), (6, 38), (7, 39)]) (j := 1) (d := 33) rfl (fun _ _ h => h)) (envS_next ?_)
        · intro p hp hne; simp only [List.mem_cons, List.not_mem_nil, or_false] at hp; rcases hp with rfl | rfl | rfl | rfl | rfl | rfl | rfl | rfl <;> first | exact absurd rfl hne | exact ⟨rfl, rfl⟩
      · have d2 := hdir 2 (List.mem_of_elem_eq_true (by kernel_rfl))
        refine ⟨_, rfl, ?_⟩
        refine LP.weak (t := 34) (v := pt g) (envS_is (j := 2) rfl d2) ?_
        refine A.u (LU.fieldO Try.underlying77 rfl Try.sizeOf54 (by decide) Is.rfl') rfl ?_
        refine ⟨⟨p, q, r⟩, Weaker.mk' ?_ (HSub.refl _)⟩
        refine env_back1 (envS_hit (sl := [(0, 32), (1, 33), (2, 34), (3, 35), (4, 36), (5, 37), (6, 38), (7, 39)]) (j := 3) (d := 35) rfl (fun _ _ h => h)) (envS_hit (sl := [(0, 32), (1, 33), (2, 34), (3, 35), (4, 36), (5, 37), (6, 38), (7, 39)]) (j := 2) (d := 34) rfl (fun _ _ h => h)) (envS_next ?_)
        · intro p hp hne; simp only [List.mem_cons, List.not_mem_nil, or_false] at hp; rcases hp with rfl | rfl | rfl | rfl | rfl | rfl | rfl | rfl <;> first | exact absurd rfl hne | exact ⟨rfl, rfl⟩
      · have d3 := hdir 3 (List.mem_of_elem_eq_true (by kernel_rfl))
        refine ⟨_, rfl, ?_⟩
        refine LP.weak (t := 35) (v := .raw (.pointer (some ⟨g, 1, none⟩))) (envS_is (j := 3) rfl d3) ?_
        refine A.u (LU.loadO 2 rfl ⟨Try.sizeOf54, Try.isAgg54⟩ Is.rfl' (Part.one rfl)) rfl ?_
        refine ⟨⟨p, q, r⟩, Weaker.mk' ?_ (HSub.refl _)⟩
        refine env_back1 (envS_hit (sl := [(0, 32), (1, 33), (2, 34), (3, 35), (4, 36), (5, 37), (6, 38), (7, 39)]) (j := 4) (d := 36) rfl (fun _ _ h => h)) (envS_hit (sl := [(0, 32), (1, 33), (2, 34), (3, 35), (4, 36), (5, 37), (6, 38), (7, 39)]) (j := 3) (d := 35) rfl (fun _ _ h => h)) (envS_next ?_)
        · intro p hp hne; simp only [List.mem_cons, List.not_mem_nil, or_false] at hp; rcases hp with rfl | rfl | rfl | rfl | rfl | rfl | rfl | rfl <;> first | exact absurd rfl hne | exact ⟨rfl, rfl⟩
      · refine ⟨_, rfl, ?_⟩
        refine A.u (LU.loadO 1 rfl ⟨Try.sizeOf58, Try.isAgg58⟩ Is.rfl' (Part.whole (by (simp; done)))) rfl ?_
        refine ⟨⟨p, q, r⟩, Weaker.mk' ?_ (HSub.refl _)⟩
        refine env_back0 (envS_hit (sl := [(0, 32), (1, 33), (2, 34), (3, 35), (4, 36), (5, 37), (6, 38), (7, 39)]) (j := 5) (d := 37) rfl (fun _ _ h => h))  (envS_next ?_)
        · intro p hp hne; simp only [List.mem_cons, List.not_mem_nil, or_false] at hp; rcases hp with rfl | rfl | rfl | rfl | rfl | rfl | rfl | rfl <;> first | exact absurd rfl hne | exact ⟨rfl, rfl⟩
      · have d5 := hdir 5 (List.mem_of_elem_eq_true (by kernel_rfl))
        refine ⟨_, rfl, ?_⟩
        refine LP.weak (t := 37) (v := .agg (edL (x, u, why))) (envS_is (j := 5) rfl d5) ?_
        refine A.u (LU.lits Try.underlying54 Try.sizeOf58 Try.zeroValue58 (ones rfl) rfl (by decide) (by decide) (Elems.cons Is.rfl' (by exact Cells.agg) Elems.nil) (by (simp; done)) rfl) rfl ?_
        refine ⟨⟨p, q, r⟩, Weaker.mk' ?_ (HSub.refl _)⟩
        refine env_back1 (envS_hit (sl := [(0, 32), (1, 33), (2, 34), (3, 35), (4, 36), (5, 37), (6, 38), (7, 39)]) (j := 6) (d := 38) rfl (fun _ _ h => h)) (envS_hit (sl := [(0, 32), (1, 33), (2, 34), (3, 35), (4, 36), (5, 37), (6, 38), (7, 39)]) (j := 5) (d := 37) rfl (fun _ _ h => h)) (envS_next ?_)
        · intro p hp hne; simp only [List.mem_cons, List.not_mem_nil, or_false] at hp; rcases hp with rfl | rfl | rfl | rfl | rfl | rfl | rfl | rfl <;> first | exact absurd rfl hne | exact ⟨rfl, rfl⟩
      · have d4 := hdir 4 (List.mem_of_elem_eq_true (by kernel_rfl))
        have d6 := hdir 6 (List.mem_of_elem_eq_true (by kernel_rfl))
        refine ⟨_, rfl, ?_⟩
        refine LP.ghost (H' := .tail b2 o2 c2 :: .cells b7 58 (edL (x, u, why)) :: qa g (ws.eraseIdx i) es tv b5 ((ws.length - 1) * 1) (c5 * 1) b2 o2 c2 :: .tail b5 ((ws.length - 1) * 1) (c5 * 1) :: .cells b6 58 (edL (0, 0, 0)) :: Rf) (by show HSub (cond (f 7) _ _ :: _) _; rw [hfi]; exact HSub.refl _) ?_
        refine LP.weak (t := 36) (v := .sl 3 (eds es) (.tok b2 o2 c2)) (envS_is (j := 4) rfl d4) ?_
        refine LP.weak (t := 38) (v := .sl 3 [edL (x, u, why)] .full) (envS_is (j := 6) rfl d6) ?_
        refine A.act (X.append 0 rfl rfl Try.underlying54 (El.of (P := Try.prog) (z := (.agg #[(.int .i64 0), (.int .i64 0), (.int .i64 0)])) (size := 3) (bytes := 24) rfl rfl rfl) Is.rfl' Is.rfl' (SrcL.slice Try.underlying54 (by decide) (by simp)) (by simp only [Option.getD_some, Option.getD_none, byteEls_length, intEls_length, List.length_append, List.length_cons, List.length_nil, List.length_map, List.length_drop, List.length_take, Int.toNat_natCast]; omega) (by simp only [Option.getD_some, Option.getD_none, byteEls_length, intEls_length, List.length_append, List.length_cons, List.length_nil, List.length_map, List.length_drop, List.length_take, Int.toNat_natCast]; omega) (fun b39 o39 c39 => ?_))
        refine ⟨(b39, o39, c39), Weaker.mk' ?_ (HSub.refl _)⟩
        refine env_back2 (envS_hit (sl := [(0, 32), (1, 33), (2, 34), (3, 35), (4, 36), (5, 37), (6, 38), (7, 39)]) (j := 7) (d := 39) rfl (Is.of (eds_snoc es (x, u, why) (.tok b39 o39 c39)))) (envS_hit (sl := [(0, 32), (1, 33), (2, 34), (3, 35), (4, 36), (5, 37), (6, 38), (7, 39)]) (j := 6) (d := 38) rfl (fun _ _ h => h)) (envS_hit (sl := [(0, 32), (1, 33), (2, 34), (3, 35), (4, 36), (5, 37), (6, 38), (7, 39)]) (j := 4) (d := 36) rfl (fun _ _ h => h)) (envS_next ?_)
        · intro p hp hne; simp only [List.mem_cons, List.not_mem_nil, or_false] at hp; rcases hp with rfl | rfl | rfl | rfl | rfl | rfl | rfl | rfl <;> first | exact absurd rfl hne | exact ⟨rfl, rfl⟩
    · intro g_ f hf_
      obtain ⟨p, q, r⟩ := g_
      refine X.ghost (H' := .tail p q r :: .cells b7 58 (edL (x, u, why)) :: qa g (ws.eraseIdx i) es tv b5 ((ws.length - 1) * 1) (c5 * 1) b2 o2 c2 :: .tail b5 ((ws.length - 1) * 1) (c5 * 1) :: .cells b6 58 (edL (0, 0, 0)) :: Rf) (by show HSub (cond (f 7) _ _ :: _) _; rw [hf_ 7 (by omega)]; exact HSub.refl _) ?_
      refine X.u (LU.nilCheck Is.rfl') rfl ?_
      refine X.u (LU.fieldO Try.underlying77 rfl Try.sizeOf54 (by decide) Is.rfl') rfl ?_
      refine X.act (X.store 2 rfl Try.sizeOf54 Is.rfl' Is.rfl' (by exact Cells.sl) (by (simp; done)) (by (simp; done)) ?_)
      refine LL.nil (after_code ?_)
      refine LW.seq ?_
      refine LW.region ?_
      refine X.u (LU.loadO 2 rfl ⟨Try.sizeOf58, Try.isAgg58⟩ Is.rfl' (Part.whole (by (simp; done)))) rfl ?_
      refine X.act (X.store 4 rfl Try.sizeOf58 Is.rfl' Is.rfl' (by exact Cells.agg) (by (simp; done)) (by (simp; done)) ?_)
      refine LL.nil (after_code ?_)
      refine LW.ret (after_end ?_)
      rw [putAt_all (xs := edL (0, 0, 0)) (ys := edL (x, u, why)) rfl]
      refine X.ret (H' := [qa g (ws.eraseIdx i) (es ++ [(x, u, why)]) tv b5 ((ws.length - 1) * 1) (c5 * 1) p q r, .tail b5 ((ws.length - 1) * 1) (c5 * 1), .tail p q r]) (by exact Res.cell1 0 rfl rfl ⟨Try.sizeOf58, Try.isAgg58⟩ (Part.whole (by rfl)) (by exact IsA rfl)) (by repeat (first | exact HSub.refl _ | refine HSub.pick 1 rfl ?_ | refine HSub.pick 3 rfl ?_ | refine HSub.drop ?_)) ?_
      rw [hu]; exact ⟨b5, _, _, p, q, r, rfl, rfl⟩
end Go.Proofs.Ytpimalihpnfdkaa
