/- Tokens play as the document's book does. -/
import Derived.Test.YtnfeepmgdahmgaaDoorTkI
set_option linter.unusedVariables false
set_option linter.unusedSimpArgs false
namespace Go.Proofs.YtnfeepmgdahmgaaDoor
open Go.RowKit Go.L
attribute [local irreducible] LL LW LO LP LA
theorem u8s_step16 {l : List UInt8} {rest : List LV} {k : Nat} {v : Nat} (hv : v < 256) (h : k < l.length) : putAt (u8s l ++ rest) (0 + (k : Int).toNat * 1) [u8 v] = u8s (l.set k (UInt8.ofNat v)) ++ rest := by
  have := u8s_put (l := l) (rest := rest) (i := (k : Int)) hv (by omega) (by omega)
  simpa using this
set_option maxHeartbeats 2000000 in
set_option maxRecDepth 100000 in
theorem plays16_calls (sec : List UInt8) (l : List Ac) (hs : sec.length < 140737488355328) (hl : l.length < 140737488355328) (hok : ∀ a ∈ l, AcOk a) : LCalls Tryd.prog 5 [Bytes sec .unk, .sl 7 (acs l) .unk] [kw, pw] (fun r H' => r = bl true ∧ H' = [kw, pw]) := by
  have hbl := byteEls_length sec
  refine LCalls.of Tryd.func5 rfl Tryd.ntmps5 Tryd.results5 rfl (fun Rf => ?_)
  refine LW.seq ?_
  refine LW.region ?_
  refine X.u (LU.assignR Is.rfl') rfl ?_
  refine LL.nil (after_code ?_)
  refine LW.seq ?_
  refine LW.seq ?_
  refine LW.region ?_
  refine X.u (LU.moveS Is.rfl') rfl ?_
  refine X.act (X.call (few16_calls l .unk (by omega) hok) Tryd.func21 rfl rfl rfl (HSub.refl _) (Opds.cons Is.rfl' Opds.nil) ?_)
  rintro r H' ⟨fb, rfl, rfl, hfew⟩
  refine X.u (LU.not Is.rfl') rfl ?_
  refine X.u (LU.moveR Is.rfl') rfl ?_
  refine X.gF rfl rfl (fun hg => LU.moveS (by exact Is.rfl')) rfl ?_
  refine X.gF rfl rfl (fun hg => LU.lenN Tryd.underlying22 (by exact Is.whenN hg) (by (simp only [Option.getD_some, Option.getD_none, byteEls_length, intEls_length, List.length_append, List.length_cons, List.length_nil, List.length_map, List.length_drop, List.length_take, Int.toNat_natCast]; rfl))) rfl ?_
  refine X.gF rfl rfl (fun hg => LU.gtr (by exact Is.whenN hg) (by exact Is.rfl')) rfl ?_
  refine X.u (LU.pickOr Is.rfl' Is.rfl' (fun hq => (by exact Is.whenN hq))) rfl ?_
  refine LL.nil (after_code ?_)
  refine X.cond rfl (fun h1 => ?_) (fun h1 => ?_)
  · try have h1 := of_decide_eq_true h1
    refine LW.seq ?_
    refine LW.region ?_
    refine X.act (X.call (lives16_calls) Tryd.func14 rfl rfl rfl (by (refine HSub.pick 0 rfl ?_); (refine HSub.pick 0 rfl ?_); exact HSub.refl _) Opds.nil ?_)
    rintro r H' ⟨rfl, rfl⟩
    refine X.u (LU.assignR Is.rfl') rfl ?_
    refine LL.nil (after_code ?_)
    refine LW.ret (ret_code (after_end ?_))
    refine X.ret (H' := [kw, pw]) (Res.one (by exact IsR rfl)) (by repeat (exact HSub.refl _)) ?_
    exact ⟨rfl, rfl⟩
  · obtain ⟨hfb, hs2⟩ : fb = true ∧ sec.length ≤ 10000 := by simp at h1; exact ⟨h1.1, by omega⟩
    have hfw := hfew hfb
    refine LW.skip (after_code ?_)
    refine LW.seq ?_
    refine LW.region ?_
    refine X.act (X.litO rfl Tryd.underlying22 Tryd.sizeOf5 Tryd.zeroValue5 (ones rfl) rfl (by decide) (by decide) Elems.nil (by simp) rfl (fun b32 => ?_))
    refine X.u (LU.moveS Is.rfl') rfl ?_
    refine X.act (X.appendO (z := (.int .u8 0)) 0 rfl rfl Tryd.underlying22 (El.of (P := Tryd.prog) (z := (.int .u8 0)) (size := 1) (bytes := 1) rfl rfl rfl) (ones rfl) Is.rfl' Is.rfl' (by simp) (SrcL.slice Tryd.underlying22 (by decide) (byteEls_size sec)) (by simp only [Option.getD_some, Option.getD_none, byteEls_length, intEls_length, List.length_append, List.length_cons, List.length_nil, List.length_map, List.length_drop, List.length_take, Int.toNat_natCast]; omega) (by simp only [Option.getD_some, Option.getD_none, byteEls_length, intEls_length, List.length_append, List.length_cons, List.length_nil, List.length_map, List.length_drop, List.length_take, Int.toNat_natCast]; omega) (fun b34 c34 rest34 hc34 hr34 => ?_))
    refine X.weak (t := 34) (v := .raw (.slice (some ⟨b34, 0, none⟩) sec.length c34)) (Is.of (congrArg (fun n => LV.raw (.slice (some ⟨b34, 0, none⟩) n c34)) hbl)) ?_
    refine X.u (LU.assignR Is.rfl') rfl ?_
    refine LL.nil (after_code ?_)
    refine LW.seq ?_
    rw [byteEls_length] at hc34
    refine X.wghost (H' := .cells b34 5 (u8s sec ++ raws rest34) :: kw :: pw :: Rf) (by rw [byteEls_flat]; exact (by repeat (exact HSub.refl _))) ?_
    refine LW.invB (m := 8) (γ := Nat × Nat × Nat × Nat) [(0, 35), (1, 36), (2, 37), (3, 38), (4, 39), (5, 7), (6, 6)] (fun g_ d => match g_ with | ⟨g, m, bx, gx⟩ => match d with | 35 => .raw (.slice (some ⟨b34, 0, none⟩) sec.length c34) | 36 => pt g | 37 => Bytes sec .unk | 38 => Str sec | 39 => .agg [Str sec, .raw (.slice none 0 0)] | 7 => pt bx | 6 => pt gx | _ => .any) (fun g_ f => match g_ with | ⟨g, m, bx, gx⟩ => .cells b34 5 (u8s sec ++ raws rest34) :: (cond (f 1) [bkC (cond (f 6) gx g) m sec, bkM m []] [] ++ (cond (f 5) [.cells bx 42 (cond (f 7) [Str sec, .raw (.slice none 0 0)] rbz)] [] ++ (kw :: pw :: Rf)))) (0, 0, 0, 0) rfl (by kernel_rfl) rfl rfl ((HSub.refl _)) ?_ ?_
    · intro i hi f g_ hfi hdir hdown
      obtain ⟨g, m, bx, gx⟩ := g_
      have hc : i = 0 ∨ i = 1 ∨ i = 2 ∨ i = 3 ∨ i = 4 ∨ i = 5 ∨ i = 6 ∨ i = 7 := by omega
      rcases hc with rfl | rfl | rfl | rfl | rfl | rfl | rfl | rfl
      · refine ⟨_, rfl, ?_⟩
        refine A.u (LU.moveR Is.rfl') rfl ?_
        refine ⟨⟨g, m, bx, gx⟩, Weaker.mk' ?_ (HSub.refl _)⟩
        refine env_back0 (envS_hit (sl := [(0, 35), (1, 36), (2, 37), (3, 38), (4, 39), (5, 7), (6, 6)]) (j := 0) (d := 35) rfl (fun _ _ h => h))  (envS_next ?_)
        · intro p hp hne; simp only [List.mem_cons, List.not_mem_nil, or_false] at hp; rcases hp with rfl | rfl | rfl | rfl | rfl | rfl | rfl <;> first | exact absurd rfl hne | exact ⟨rfl, rfl⟩
      · have d0 := hdir 0 (List.mem_of_elem_eq_true (by kernel_rfl))
        refine ⟨_, rfl, ?_⟩
        have h6 : f 6 = false := Bool.eq_false_iff.2 (fun h => by rw [hdown 6 (by omega) h 1 (List.mem_of_elem_eq_true (by kernel_rfl))] at hfi; cases hfi)
        refine LP.ghost (H' := .cells b34 5 (u8s sec ++ raws rest34) :: (cond (f 5) [.cells bx 42 (cond (f 7) [Str sec, .raw (.slice none 0 0)] rbz)] [] ++ (kw :: pw :: Rf))) (by rw [hfi]; exact HSub.refl _) ?_
        refine LP.weak (t := 35) (v := .raw (.slice (some ⟨b34, 0, none⟩) sec.length c34)) (envS_is (j := 0) rfl d0) ?_
        refine A.act (X.call (newbO_calls sec b34 c34 (raws rest34) (by omega) (by omega)) Tryd.func15 rfl rfl rfl (HSub.refl _) (Opds.cons Is.rfl' Opds.nil) ?_)
        rintro r H' ⟨g_, m_, rfl, rfl⟩
        refine ⟨(g_, m_, bx, gx), Weaker.mk' ?_ (by show L.HSub ([bkC g_ m_ sec, bkM m_ [], .cells b34 5 (u8s sec ++ raws rest34)] ++ (cond (f 5) [.cells bx 42 (cond (f 7) [Str sec, .raw (.slice none 0 0)] rbz)] [] ++ (kw :: pw :: Rf))) (.cells b34 5 (u8s sec ++ raws rest34) :: ([bkC (cond (f 6) gx g_) m_ sec, bkM m_ []] ++ (cond (f 5) [.cells bx 42 (cond (f 7) [Str sec, .raw (.slice none 0 0)] rbz)] [] ++ (kw :: pw :: Rf)))); rw [h6]; exact HSub.pick 2 rfl (HSub.pick 0 rfl (HSub.pick 0 rfl (HSub.refl _))))⟩
        refine env_back1 (envS_hit (sl := [(0, 35), (1, 36), (2, 37), (3, 38), (4, 39), (5, 7), (6, 6)]) (j := 1) (d := 36) rfl (fun _ _ h => h)) (envS_hit (sl := [(0, 35), (1, 36), (2, 37), (3, 38), (4, 39), (5, 7), (6, 6)]) (j := 0) (d := 35) rfl (fun _ _ h => h)) (envS_next ?_)
        · intro p hp hne; simp only [List.mem_cons, List.not_mem_nil, or_false] at hp; rcases hp with rfl | rfl | rfl | rfl | rfl | rfl | rfl <;> first | exact absurd rfl hne | exact ⟨rfl, rfl⟩
      · refine ⟨_, rfl, ?_⟩
        refine A.u (LU.moveS Is.rfl') rfl ?_
        refine ⟨⟨g, m, bx, gx⟩, Weaker.mk' ?_ (HSub.refl _)⟩
        refine env_back0 (envS_hit (sl := [(0, 35), (1, 36), (2, 37), (3, 38), (4, 39), (5, 7), (6, 6)]) (j := 2) (d := 37) rfl (fun _ _ h => h))  (envS_next ?_)
        · intro p hp hne; simp only [List.mem_cons, List.not_mem_nil, or_false] at hp; rcases hp with rfl | rfl | rfl | rfl | rfl | rfl | rfl <;> first | exact absurd rfl hne | exact ⟨rfl, rfl⟩
      · have d2 := hdir 2 (List.mem_of_elem_eq_true (by kernel_rfl))
        refine ⟨_, rfl, ?_⟩
        refine LP.weak (t := 37) (v := Bytes sec .unk) (envS_is (j := 2) rfl d2) ?_
        refine A.u (LU.tostr Tryd.underlying22 Tryd.underlying5 Tryd.underlying9 Is.rfl') rfl ?_
        refine ⟨⟨g, m, bx, gx⟩, Weaker.mk' ?_ (HSub.refl _)⟩
        refine env_back1 (envS_hit (sl := [(0, 35), (1, 36), (2, 37), (3, 38), (4, 39), (5, 7), (6, 6)]) (j := 3) (d := 38) rfl (fun _ _ h => h)) (envS_hit (sl := [(0, 35), (1, 36), (2, 37), (3, 38), (4, 39), (5, 7), (6, 6)]) (j := 2) (d := 37) rfl (fun _ _ h => h)) (envS_next ?_)
        · intro p hp hne; simp only [List.mem_cons, List.not_mem_nil, or_false] at hp; rcases hp with rfl | rfl | rfl | rfl | rfl | rfl | rfl <;> first | exact absurd rfl hne | exact ⟨rfl, rfl⟩
      · have d3 := hdir 3 (List.mem_of_elem_eq_true (by kernel_rfl))
        refine ⟨_, rfl, ?_⟩
        refine LP.weak (t := 38) (v := Str sec) (envS_is (j := 3) rfl d3) ?_
        refine A.u (LU.build (places := #[(0, 1), (1, 1)]) Tryd.underlying42 Tryd.zeroValue42 (ones rfl) (by intro w; simp [Tryd.sizeOf40, Tryd.sizeOf9]) (Parts.cons Is.rfl' (by exact Cells.raw rfl) Parts.nil) rfl) rfl ?_
        refine ⟨⟨g, m, bx, gx⟩, Weaker.mk' ?_ (HSub.refl _)⟩
        refine env_back1 (envS_hit (sl := [(0, 35), (1, 36), (2, 37), (3, 38), (4, 39), (5, 7), (6, 6)]) (j := 4) (d := 39) rfl (fun _ _ h => h)) (envS_hit (sl := [(0, 35), (1, 36), (2, 37), (3, 38), (4, 39), (5, 7), (6, 6)]) (j := 3) (d := 38) rfl (fun _ _ h => h)) (envS_next ?_)
        · intro p hp hne; simp only [List.mem_cons, List.not_mem_nil, or_false] at hp; rcases hp with rfl | rfl | rfl | rfl | rfl | rfl | rfl <;> first | exact absurd rfl hne | exact ⟨rfl, rfl⟩
      · refine ⟨_, rfl, ?_⟩
        have h7 : f 7 = false := Bool.eq_false_iff.2 (fun h => by rw [hdown 7 (by omega) h 5 (List.mem_of_elem_eq_true (by kernel_rfl))] at hfi; cases hfi)
        refine LP.ghost (H' := .cells b34 5 (u8s sec ++ raws rest34) :: (cond (f 1) [bkC (cond (f 6) gx g) m sec, bkM m []] [] ++ (kw :: pw :: Rf))) (by rw [hfi]; exact HSub.refl _) ?_
        refine A.act (X.alloc rfl Tryd.zeroValue42 (by exact Cells.rawagg (by decide)) (fun b7 => ?_))
        refine ⟨(g, m, b7, gx), Weaker.mk' ?_ (by show L.HSub (.cells b7 42 rbz :: .cells b34 5 (u8s sec ++ raws rest34) :: (cond (f 1) [bkC (cond (f 6) gx g) m sec, bkM m []] [] ++ (kw :: pw :: Rf))) (.cells b34 5 (u8s sec ++ raws rest34) :: (cond (f 1) [bkC (cond (f 6) gx g) m sec, bkM m []] [] ++ (.cells b7 42 (cond (f 7) [Str sec, .raw (.slice none 0 0)] rbz) :: kw :: pw :: Rf))); rw [h7]; cases f 1 with | false => exact HSub.pick 1 rfl (HSub.refl _) | true => exact HSub.pick 1 rfl (HSub.pick 1 rfl (HSub.pick 1 rfl (HSub.refl _))))⟩
        refine env_back0 (envS_hit (sl := [(0, 35), (1, 36), (2, 37), (3, 38), (4, 39), (5, 7), (6, 6)]) (j := 5) (d := 7) rfl (fun _ _ h => h))  (envS_next ?_)
        · intro p hp hne; simp only [List.mem_cons, List.not_mem_nil, or_false] at hp; rcases hp with rfl | rfl | rfl | rfl | rfl | rfl | rfl <;> first | exact absurd rfl hne | exact ⟨rfl, rfl⟩
      · have d0 := hdir 0 (List.mem_of_elem_eq_true (by kernel_rfl))
        have d1 := hdir 1 (List.mem_of_elem_eq_true (by kernel_rfl))
        have d5 := hdir 5 (List.mem_of_elem_eq_true (by kernel_rfl))
        refine ⟨_, rfl, ?_⟩
        refine LP.weak (t := 36) (v := pt g) (envS_is (j := 1) rfl d1) ?_
        refine A.u (LU.assignR Is.rfl') rfl ?_
        refine ⟨(g, m, bx, g), Weaker.mk' ?_ (by show L.HSub (.cells b34 5 (u8s sec ++ raws rest34) :: (cond (f 1) [bkC (cond (f 6) gx g) m sec, bkM m []] [] ++ (cond (f 5) [.cells bx 42 (cond (f 7) [Str sec, .raw (.slice none 0 0)] rbz)] [] ++ (kw :: pw :: Rf)))) (.cells b34 5 (u8s sec ++ raws rest34) :: (cond (f 1) [bkC g m sec, bkM m []] [] ++ (cond (f 5) [.cells bx 42 (cond (f 7) [Str sec, .raw (.slice none 0 0)] rbz)] [] ++ (kw :: pw :: Rf)))); rw [hfi]; exact HSub.refl _)⟩
        refine env_back1 (envS_hit (sl := [(0, 35), (1, 36), (2, 37), (3, 38), (4, 39), (5, 7), (6, 6)]) (j := 6) (d := 6) rfl (fun _ _ h => h)) (envS_hit (sl := [(0, 35), (1, 36), (2, 37), (3, 38), (4, 39), (5, 7), (6, 6)]) (j := 1) (d := 36) rfl (fun _ _ h => h)) (envS_next ?_)
        · intro p hp hne; simp only [List.mem_cons, List.not_mem_nil, or_false] at hp; rcases hp with rfl | rfl | rfl | rfl | rfl | rfl | rfl <;> first | exact absurd rfl hne | exact ⟨rfl, rfl⟩
      · have d0 := hdir 0 (List.mem_of_elem_eq_true (by kernel_rfl))
        have d1 := hdir 1 (List.mem_of_elem_eq_true (by kernel_rfl))
        have d2 := hdir 2 (List.mem_of_elem_eq_true (by kernel_rfl))
        have d3 := hdir 3 (List.mem_of_elem_eq_true (by kernel_rfl))
        have d4 := hdir 4 (List.mem_of_elem_eq_true (by kernel_rfl))
        have d5 := hdir 5 (List.mem_of_elem_eq_true (by kernel_rfl))
        have d6 := hdir 6 (List.mem_of_elem_eq_true (by kernel_rfl))
        refine ⟨_, rfl, ?_⟩
        refine LP.ghost (H' := .cells bx 42 rbz :: .cells b34 5 (u8s sec ++ raws rest34) :: bkC gx m sec :: bkM m [] :: kw :: pw :: Rf) (by rw [d1, d5, d6, hfi]; exact HSub.pick 3 rfl (HSub.refl _)) ?_
        refine LP.weak (t := 7) (v := pt bx) (envS_is (j := 5) rfl d5) ?_
        refine LP.weak (t := 39) (v := .agg [Str sec, .raw (.slice none 0 0)]) (envS_is (j := 4) rfl d4) ?_
        refine A.act (X.store 0 rfl Tryd.sizeOf42 Is.rfl' Is.rfl' (by exact Cells.agg) (by (simp; done)) (by exact Nat.le_of_ble_eq_true rfl) ?_)
        refine ⟨⟨g, m, bx, gx⟩, Weaker.mk' ?_ (by rw [putAt_all (xs := rbz) (ys := [Str sec, .raw (.slice none 0 0)]) rfl]; show L.HSub _ (.cells b34 5 (u8s sec ++ raws rest34) :: (cond (f 1) [bkC (cond (f 6) gx g) m sec, bkM m []] [] ++ (cond (f 5) [.cells bx 42 [Str sec, .raw (.slice none 0 0)]] [] ++ (kw :: pw :: Rf)))); rw [d1, d5, d6]; exact HSub.pick 1 rfl (HSub.pick 1 rfl (HSub.pick 1 rfl (HSub.refl _))))⟩
        refine env_back1 (envS_hit (sl := [(0, 35), (1, 36), (2, 37), (3, 38), (4, 39), (5, 7), (6, 6)]) (j := 4) (d := 39) rfl (fun _ _ h => h)) (envS_hit (sl := [(0, 35), (1, 36), (2, 37), (3, 38), (4, 39), (5, 7), (6, 6)]) (j := 5) (d := 7) rfl (fun _ _ h => h)) (envS_next ?_)
        · intro p hp hne; simp only [List.mem_cons, List.not_mem_nil, or_false] at hp; rcases hp with rfl | rfl | rfl | rfl | rfl | rfl | rfl <;> first | exact absurd rfl hne | exact ⟨rfl, rfl⟩
    · intro g_ f hf_
      obtain ⟨g, m, bx, gx⟩ := g_
      refine X.ghost (H' := .cells bx 42 [Str sec, .raw (.slice none 0 0)] :: .cells b34 5 (u8s sec ++ raws rest34) :: bkC gx m sec :: bkM m [] :: kw :: pw :: Rf) (by show L.HSub (.cells b34 _ _ :: (cond (f 1) [bkC (cond (f 6) gx g) m sec, bkM m []] _ ++ (cond (f 5) [.cells bx _ (cond (f 7) _ _)] _ ++ _))) _; rw [hf_ 1 (by omega), hf_ 5 (by omega), hf_ 6 (by omega), hf_ 7 (by omega)]; exact HSub.pick 3 rfl (HSub.refl _)) ?_
      refine LL.nil (after_code ?_)
      refine LW.seq ?_
      refine LW.seq ?_
      refine LW.region ?_
      refine X.u (LU.moveR Is.rfl') rfl ?_
      refine X.u (LU.lenO Tryd.underlying22 Is.rfl') rfl ?_
      refine X.u (LU.moveR Is.rfl') rfl ?_
      refine LL.nil (after_code ?_)
      refine LW.block ?_
      refine X.loopK (α := Nat × List UInt8) (fun ⟨k, xs⟩ => [(42, i64 k)]) [1, 4, 5, 6, 7, 41] (fun ⟨k, xs⟩ => .cells b34 5 (u8s xs ++ raws rest34) :: .cells bx 42 [Str sec, .raw (.slice none 0 0)] :: bkC gx m sec :: bkM m [] :: kw :: pw :: Rf) (fun ⟨k, xs⟩ => k ≤ sec.length ∧ xs.length = sec.length) (fun ⟨k, xs⟩ => sec.length - k) ((0, sec)) (EnvLe.cons (by rfl) (EnvLe.nil)) (by repeat (first | exact HSub.refl _ | refine HSub.pick 1 rfl ?_)) ?_ ?_
      · exact ⟨Nat.zero_le _, rfl⟩
      · rintro ⟨k, xs⟩ hI
        refine LW.seq ?_
        refine LW.region ?_
        refine X.u (LU.lss Is.rfl' Is.rfl') rfl ?_
        refine LL.nil (after_code ?_)
        refine LW.seq ?_
        refine X.cond rfl (fun h6 => ?_) (fun h6 => ?_)
        · try have h6 := of_decide_eq_true h6
          refine LW.skip (after_code ?_)
          refine LW.seq ?_
          refine LW.block ?_
          refine LW.seq ?_
          refine LW.region ?_
          refine X.u (LU.moveR Is.rfl') rfl ?_
          refine X.u (LU.assignR Is.rfl') rfl ?_
          refine LL.nil (after_code ?_)
          refine LW.region ?_
          refine X.u (LU.moveR Is.rfl') rfl ?_
          refine X.u (LU.moveR Is.rfl') rfl ?_
          refine X.u (LU.atO Tryd.underlying22 Tryd.sizeOf5 Is.rfl' Is.rfl' (by omega) (by omega)) rfl ?_
          refine X.u (LU.loadO 0 rfl ⟨Tryd.sizeOf5, Tryd.isAgg5⟩ Is.rfl' (Part.one ((u8s_get (i := (k : Int)) (by omega) (by omega))))) rfl ?_
          refine X.u (LU.xor8 Is.rfl' Is.rfl') rfl ?_
          refine X.u (LU.atO Tryd.underlying22 Tryd.sizeOf5 Is.rfl' Is.rfl' (by omega) (by omega)) rfl ?_
          refine X.act (X.store 0 rfl Tryd.sizeOf5 Is.rfl' Is.rfl' (by exact Cells.raw rfl) (by (simp; done)) (by (simp; omega)) ?_)
          refine LL.nil (after_blk (after_code ?_))
          refine X.wcells (u8s_step16 (xor8_lt _ _) (by omega)) ?_
          refine LW.region ?_
          refine X.u (LU.addN Is.rfl' Is.rfl' (wrap_i64 (by omega) (by omega))) rfl ?_
          refine X.u (LU.moveR Is.rfl') rfl ?_
          refine LL.nil (after_rnd ?_)
          refine X.next ((k + 1, xs.set k (UInt8.ofNat (xor8 (xs.getD k 0).toNat 85)))) rfl (EnvLe.cons (by rfl) (EnvLe.nil)) (Keeps.cons (by exact Eq.trans (b := .sl _ _ _) rfl rfl) (Keeps.cons (by exact Eq.trans (b := .raw _) rfl rfl) (Keeps.cons (by exact Eq.trans (b := .raw _) rfl rfl) (Keeps.cons (by exact Eq.trans (b := .raw _) rfl rfl) (Keeps.cons (by exact Eq.trans (b := .raw _) rfl rfl) (Keeps.cons (by exact Eq.trans (b := .raw _) rfl rfl) (Keeps.nil))))))) (by repeat (exact HSub.refl _)) ?_ ?_
          · exact ⟨by omega, by simp; omega⟩
          · (simp; omega)
        · try have h6 := of_decide_eq_false h6
          refine LW.exit (exit_code (exit_rnd (exit_blk (after_code ?_))))
          refine LW.seq ?_
          refine LW.seq ?_
          refine LW.region ?_
          refine X.u (LU.moveS Is.rfl') rfl ?_
          refine X.u (LU.lenN Tryd.underlying38 Is.rfl' (by (simp only [Option.getD_some, Option.getD_none, byteEls_length, intEls_length, List.length_append, List.length_cons, List.length_nil, List.length_map, List.length_drop, List.length_take, Int.toNat_natCast]; rfl))) rfl ?_
          refine X.u (LU.moveR Is.rfl') rfl ?_
          refine LL.nil (after_code ?_)
          refine LW.block ?_
          refine X.wghost (HSub.trans (B := .cells bx 42 [Str sec, .raw (.slice none 0 0)] :: bkC gx m sec :: bkM m [] :: kw :: pw :: Rf) (by repeat (first | exact HSub.refl _ | refine HSub.pick 1 rfl ?_ | refine HSub.drop ?_)) (HSub.cell 1 rfl ((Is.nil 4).trans Is.unk))) ?_
          refine X.loopK (α := Nat × Bk) (fun ⟨k, bk⟩ => [(54, i64 k)]) [6, 7, 52, 53] (fun ⟨k, bk⟩ => bkC gx m sec :: bkM m bk :: .cells bx 42 (rb sec bk) :: kw :: pw :: Rf) (fun ⟨k, bk⟩ => k ≤ l.length ∧ BkI sec bk) (fun ⟨k, bk⟩ => l.length - k) ((0, [])) (EnvLe.cons (by rfl) (EnvLe.nil)) (by repeat (first | exact HSub.refl _ | refine HSub.pick 1 rfl ?_)) ?_ ?_
          · exact ⟨Nat.zero_le _, BkI.nil sec⟩
          · rintro ⟨k, bk⟩ hI
            obtain ⟨hk, hB⟩ := hI
            refine LW.seq ?_
            refine LW.region ?_
            refine X.u (LU.lss Is.rfl' Is.rfl') rfl ?_
            refine LL.nil (after_code ?_)
            refine LW.seq ?_
            refine X.cond rfl (fun h11 => ?_) (fun h11 => ?_)
            · try have h11 := of_decide_eq_true h11
              refine LW.skip (after_code ?_)
              refine LW.seq ?_
              refine LW.block ?_
              refine LW.seq ?_
              obtain ⟨x, hx⟩ := at_lt (show k < l.length by omega)
              have hxl := hfw x (List.mem_of_getElem? hx)
              have hbl2 := hB.1
              refine LW.region ?_
              refine X.u (LU.at Tryd.underlying38 ⟨Tryd.sizeOf33, Tryd.isAgg33⟩ Is.rfl' Is.rfl' (by omega) (acs_at hx) (by simp)) rfl ?_
              refine X.u (LU.load ⟨Tryd.sizeOf33, Tryd.isAgg33⟩ Is.rfl' (by (simp; done)) (Part.whole (by (simp; done)))) rfl ?_
              refine X.act (X.alloc rfl Tryd.zeroValue33 (by exact Cells.rawagg (by decide)) (fun b10 => ?_))
              refine X.act (X.store 0 rfl Tryd.sizeOf33 Is.rfl' Is.rfl' (by exact Cells.agg) (by (simp; done)) (by exact Nat.le_of_ble_eq_true rfl) ?_)
              refine LL.nil (after_code ?_)
              refine X.meetK (α := Bk) (fun bk2 => []) [6, 7, 52, 53, 54] (fun bk2 => bkC gx m sec :: bkM m bk2 :: .cells bx 42 (rb sec bk2) :: .cells b10 33 (acL x) :: kw :: pw :: Rf) (fun bk2 => BkI sec bk2) ?_ ?_
              · refine LW.seq ?_
                refine X.wghost (H' := bkC gx m sec :: bkM m bk :: .cells bx 42 (rb sec bk) :: .cells b10 33 (acL x) :: kw :: pw :: Rf) (by repeat (first | exact HSub.refl _ | refine HSub.pick 1 rfl ?_)) ?_
                refine LW.region ?_
                refine X.u (LU.fieldO Tryd.underlying33 rfl Tryd.sizeOf3 (by decide) Is.rfl') rfl ?_
                refine X.u (LU.loadO 3 rfl ⟨Tryd.sizeOf3, Tryd.isAgg3⟩ Is.rfl' (Part.one rfl)) rfl ?_
                refine LL.nil (after_code ?_)
                refine LW.block ?_
                refine X.meetK (α := Bool) (fun isb => [(75, bl isb)]) [6, 7, 10, 52, 53, 54, 59] (fun isb => bkC gx m sec :: bkM m bk :: .cells bx 42 (rb sec bk) :: .cells b10 33 (acL x) :: kw :: pw :: Rf) (fun isb => True) ?_ ?_
                · refine LW.seq ?_
                  refine LW.region ?_
                  refine X.u (LU.eql Is.rfl' Is.rfl') rfl ?_
                  refine X.u (LU.assignR Is.rfl') rfl ?_
                  refine LL.nil (after_code ?_)
                  refine X.cond rfl (fun h20 => ?_) (fun h20 => ?_)
                  · try have h20 := of_decide_eq_true h20
                    refine LW.skip (after_rnd ?_)
                    refine X.meets (decide (x.kind = 0)) rfl (EnvLe.cons (by rfl) (EnvLe.nil)) (Keeps.cons (by exact Eq.trans (b := .raw _) rfl rfl) (Keeps.cons (by exact Eq.trans (b := .raw _) rfl rfl) (Keeps.cons (by exact Eq.trans (b := .raw _) rfl rfl) (Keeps.cons (by exact Eq.trans (b := .sl _ _ _) rfl rfl) (Keeps.cons (by exact Eq.trans (b := .raw _) rfl rfl) (Keeps.cons (by exact Eq.trans (b := .raw _) rfl rfl) (Keeps.cons (by exact Eq.trans (b := .raw _) rfl rfl) (Keeps.nil)))))))) (by repeat (exact HSub.refl _)) ?_
                    trivial
                  · try have h20 := of_decide_eq_false h20
                    refine LW.region ?_
                    refine X.u (LU.eql Is.rfl' Is.rfl') rfl ?_
                    refine X.u (LU.assignR Is.rfl') rfl ?_
                    refine LL.nil (after_rnd ?_)
                    refine X.meets (decide (x.kind = 3)) rfl (EnvLe.cons (by rfl) (EnvLe.nil)) (Keeps.cons (by exact Eq.trans (b := .raw _) rfl rfl) (Keeps.cons (by exact Eq.trans (b := .raw _) rfl rfl) (Keeps.cons (by exact Eq.trans (b := .raw _) rfl rfl) (Keeps.cons (by exact Eq.trans (b := .sl _ _ _) rfl rfl) (Keeps.cons (by exact Eq.trans (b := .raw _) rfl rfl) (Keeps.cons (by exact Eq.trans (b := .raw _) rfl rfl) (Keeps.cons (by exact Eq.trans (b := .raw _) rfl rfl) (Keeps.nil)))))))) (by repeat (exact HSub.refl _)) ?_
                    trivial
                · rintro isb hI
                  refine X.cond rfl (fun h21 => ?_) (fun h21 => ?_)
                  · try have h21 := of_decide_eq_true h21
                    refine LW.seq ?_
                    refine LW.region ?_
                    refine X.u (LU.assignR Is.rfl') rfl ?_
                    refine LL.nil (after_code ?_)
                    refine LW.block ?_
                    refine X.loopK (α := Nat × Bk) (fun ⟨j, bk3⟩ => [(11, i64 j)]) [6, 7, 10, 52, 53, 54] (fun ⟨j, bk3⟩ => bkC gx m sec :: bkM m bk3 :: .cells bx 42 (rb sec bk3) :: .cells b10 33 (acL x) :: kw :: pw :: Rf) (fun ⟨j, bk3⟩ => j ≤ 260 ∧ BkI sec bk3) (fun ⟨j, bk3⟩ => 260 - j) ((0, bk)) (EnvLe.cons (by rfl) (EnvLe.nil)) (by repeat (exact HSub.refl _)) ?_ ?_
                    · exact ⟨Nat.zero_le _, hB⟩
                    · rintro ⟨j, bk3⟩ hI
                      obtain ⟨hj, hB3⟩ := hI
                      have hbl4 := hB3.1
                      refine LW.seq ?_
                      refine LW.seq ?_
                      refine LW.region ?_
                      refine X.u (LU.moveR Is.rfl') rfl ?_
                      refine X.u (LU.lss Is.rfl' Is.rfl') rfl ?_
                      refine X.u (LU.moveR Is.rfl') rfl ?_
                      refine X.gF rfl rfl (fun hg => LU.fieldO Tryd.underlying33 rfl Tryd.sizeOf3 (by decide) (by exact Is.rfl')) rfl ?_
                      refine X.gF rfl rfl (fun hg => LU.loadO 3 rfl ⟨Tryd.sizeOf3, Tryd.isAgg3⟩ (by exact Is.whenN hg) (Part.one rfl)) rfl ?_
                      refine X.gF rfl rfl (fun hg => LU.eql (by exact Is.whenN hg) (by exact Is.rfl')) rfl ?_
                      refine X.gF rfl rfl (fun hg => LU.moveR (by exact Is.whenN hg)) rfl ?_
                      refine X.gT2 rfl rfl (fun hg0 hg => LU.moveR (by exact Is.rfl')) rfl ?_
                      refine X.gT2 rfl rfl (fun hg0 hg => LU.fieldO Tryd.underlying33 rfl Tryd.sizeOf3 (by decide) (by exact Is.rfl')) rfl ?_
                      refine X.gT2 rfl rfl (fun hg0 hg => LU.loadO 3 rfl ⟨Tryd.sizeOf3, Tryd.isAgg3⟩ (by exact Is.whenE (by rw [hg0, hg]; rfl)) (Part.one rfl)) rfl ?_
                      refine X.gT2 rfl rfl (fun hg0 hg => LU.lss (by exact Is.whenE (by rw [hg0, hg]; rfl)) (by exact Is.whenE (by rw [hg0, hg]; rfl))) rfl ?_
                      refine X.gF rfl rfl (fun hg => LU.pickAnd (by exact Is.whenN hg) (fun hq => (by exact Is.whenE (by rw [hg, hq]; rfl))) (by exact Is.rfl')) rfl ?_
                      refine X.gF rfl rfl (fun hg => LU.moveR (by exact Is.whenN hg)) rfl ?_
                      refine X.gT2 rfl rfl (fun hg0 hg => LU.moveR (by exact Is.rfl')) rfl ?_
                      refine X.gT2 rfl rfl (fun hg0 hg => LU.lss (by exact Is.whenE (by rw [hg0, hg]; rfl)) (by exact Is.rfl')) rfl ?_
                      refine X.gF rfl rfl (fun hg => LU.pickAnd (by exact Is.whenN hg) (fun hq => (by exact Is.whenE (by rw [hg, hq]; rfl))) (by exact Is.rfl')) rfl ?_
                      refine X.u (LU.pickOr Is.rfl' Is.rfl' (fun hq => (by exact Is.whenN hq))) rfl ?_
                      refine LL.nil (after_code ?_)
                      refine X.cond rfl (fun h23 => ?_) (fun h23 => ?_)
                      · have h23 : j < 260 := by simp at h23; omega
                        refine LW.skip (after_code ?_)
                        refine LW.seq ?_
                        refine LW.block ?_
                        refine LW.seq ?_
                        refine LW.region ?_
                        refine X.u (LU.assignR Is.rfl') rfl ?_
                        refine LL.nil (after_code ?_)
                        refine LW.seq ?_
                        refine LW.region ?_
                        refine X.u (LU.assignR Is.rfl') rfl ?_
                        refine LL.nil (after_code ?_)
                        refine LW.seq ?_
                        refine LW.region ?_
                        refine X.u (LU.moveR Is.rfl') rfl ?_
                        refine X.u (LU.fieldO Tryd.underlying33 rfl Tryd.sizeOf9 (by decide) Is.rfl') rfl ?_
                        refine X.u (LU.loadO 3 rfl ⟨Tryd.sizeOf9, Tryd.isAgg9⟩ Is.rfl' (Part.one rfl)) rfl ?_
                        refine X.u (LU.fieldO Tryd.underlying33 rfl Tryd.sizeOf3 (by decide) Is.rfl') rfl ?_
                        refine X.u (LU.loadO 3 rfl ⟨Tryd.sizeOf3, Tryd.isAgg3⟩ Is.rfl' (Part.one rfl)) rfl ?_
                        refine X.u (LU.fieldO Tryd.underlying33 rfl Tryd.sizeOf3 (by decide) Is.rfl') rfl ?_
                        refine X.u (LU.loadO 3 rfl ⟨Tryd.sizeOf3, Tryd.isAgg3⟩ Is.rfl' (Part.one rfl)) rfl ?_
                        refine X.act (X.call (issueI gx m hB3 x.user x.now x.till (by omega) (by omega)) Tryd.func16 rfl rfl rfl (by (refine HSub.pick 0 rfl ?_); (refine HSub.pick 0 rfl ?_); (refine HSub.pick 2 rfl ?_); (refine HSub.pick 2 rfl ?_); exact HSub.refl _) (Opds.cons Is.rfl' (Opds.cons Is.rfl' (Opds.cons Is.rfl' (Opds.cons Is.rfl' Opds.nil)))) ?_)
                        rintro r H' ⟨rfl, rfl⟩
                        refine X.u (LU.moveT Is.rfl') rfl ?_
                        refine X.u (LU.extract Is.rfl' rfl) rfl ?_
                        refine X.u (LU.extract Is.rfl' rfl) rfl ?_
                        refine X.u (LU.assignR Is.rfl') rfl ?_
                        refine X.u (LU.assignR Is.rfl') rfl ?_
                        refine LL.nil (after_code ?_)
                        refine LW.seq ?_
                        refine LW.region ?_
                        refine X.u (LU.loadO 4 rfl ⟨Tryd.sizeOf42, Tryd.isAgg42⟩ Is.rfl' (Part.whole (by (simp; done)))) rfl ?_
                        refine X.u (LU.fieldO Tryd.underlying33 rfl Tryd.sizeOf9 (by decide) Is.rfl') rfl ?_
                        refine X.u (LU.loadO 5 rfl ⟨Tryd.sizeOf9, Tryd.isAgg9⟩ Is.rfl' (Part.one rfl)) rfl ?_
                        refine X.u (LU.fieldO Tryd.underlying33 rfl Tryd.sizeOf3 (by decide) Is.rfl') rfl ?_
                        refine X.u (LU.loadO 5 rfl ⟨Tryd.sizeOf3, Tryd.isAgg3⟩ Is.rfl' (Part.one rfl)) rfl ?_
                        refine X.u (LU.fieldO Tryd.underlying33 rfl Tryd.sizeOf3 (by decide) Is.rfl') rfl ?_
                        refine X.u (LU.loadO 5 rfl ⟨Tryd.sizeOf3, Tryd.isAgg3⟩ Is.rfl' (Part.one rfl)) rfl ?_
                        refine X.u (LU.call (rissue16_calls sec x.user x.now x.till bk3 (by omega) (by omega) (by omega)) Tryd.func22 rfl rfl (Opds.cons Is.rfl' (Opds.cons Is.rfl' (Opds.cons Is.rfl' (Opds.cons Is.rfl' Opds.nil))))) rfl ?_
                        refine X.u (LU.moveT Is.rfl') rfl ?_
                        refine X.u (LU.extract Is.rfl' rfl) rfl ?_
                        refine X.u (LU.extract Is.rfl' rfl) rfl ?_
                        refine X.u (LU.extract Is.rfl' rfl) rfl ?_
                        refine X.act (X.store 4 rfl Tryd.sizeOf42 Is.rfl' Is.rfl' (by exact Cells.agg) (by (simp; done)) (by (simp; done)) ?_)
                        refine X.u (LU.assignR Is.rfl') rfl ?_
                        refine X.u (LU.assignR Is.rfl') rfl ?_
                        refine LL.nil (after_code ?_)
                        refine LW.seq ?_
                        refine LW.region ?_
                        refine X.u (LU.moveR Is.rfl') rfl ?_
                        refine X.u (LU.moveR Is.rfl') rfl ?_
                        refine X.u (LU.strneN Is.rfl' Is.rfl') rfl ?_
                        refine X.u (LU.moveR Is.rfl') rfl ?_
                        refine X.gF rfl rfl (fun hg => LU.moveR (by exact Is.rfl')) rfl ?_
                        refine X.gF rfl rfl (fun hg => LU.moveR (by exact Is.rfl')) rfl ?_
                        refine X.gF rfl rfl (fun hg => LU.neq (by exact Is.whenN hg) (by exact Is.whenN hg)) rfl ?_
                        refine X.u (LU.weak (LU.pickOr Is.rfl' Is.rfl' (fun hq => (by exact Is.whenN hq))) (asB (c := false) rfl (by simp))) rfl ?_
                        refine LL.nil (after_code ?_)
                        refine X.condF rfl ?_ ?_
                        · rfl
                        refine LW.skip (after_blk (after_code ?_))
                        refine LW.region ?_
                        refine X.u (LU.moveR Is.rfl') rfl ?_
                        refine X.u (LU.addN Is.rfl' Is.rfl' (wrap_i64 (by omega) (by omega))) rfl ?_
                        refine X.u (LU.assignR Is.rfl') rfl ?_
                        refine LL.nil (after_rnd ?_)
                        refine X.next ((j + 1, issL sec bk3 x.user x.now x.till)) rfl (EnvLe.cons (by rfl) (EnvLe.nil)) (Keeps.cons (by exact Eq.trans (b := .raw _) rfl rfl) (Keeps.cons (by exact Eq.trans (b := .raw _) rfl rfl) (Keeps.cons (by exact Eq.trans (b := .raw _) rfl rfl) (Keeps.cons (by exact Eq.trans (b := .sl _ _ _) rfl rfl) (Keeps.cons (by exact Eq.trans (b := .raw _) rfl rfl) (Keeps.cons (by exact Eq.trans (b := .raw _) rfl rfl) (Keeps.nil))))))) (by repeat (first | exact HSub.refl _ | refine HSub.pick 0 rfl ?_ | refine HSub.pick 1 rfl ?_ | refine HSub.pick 2 rfl ?_)) ?_ ?_
                        · exact ⟨by omega, hB3.issue x.user x.now x.till (by omega)⟩
                        · (simp; omega)
                      · try have h23 := of_decide_eq_false h23
                        refine LW.exit (exit_code (exit_rnd (exit_blk (after_blk (after_rnd ?_)))))
                        refine X.meets (bk3) rfl (EnvLe.nil) (Keeps.cons (by exact Eq.trans (b := .raw _) rfl rfl) (Keeps.cons (by exact Eq.trans (b := .raw _) rfl rfl) (Keeps.cons (by exact Eq.trans (b := .sl _ _ _) rfl rfl) (Keeps.cons (by exact Eq.trans (b := .raw _) rfl rfl) (Keeps.cons (by exact Eq.trans (b := .raw _) rfl rfl) (Keeps.nil)))))) (by repeat (exact HSub.refl _)) ?_
                        exact hB3
                  · try have h21 := of_decide_eq_false h21
                    refine LW.seq ?_
                    refine LW.region ?_
                    refine X.u (LU.eql Is.rfl' Is.rfl') rfl ?_
                    refine X.u (LU.assignR Is.rfl') rfl ?_
                    refine LL.nil (after_code ?_)
                    refine X.cond rfl (fun h31 => ?_) (fun h31 => ?_)
                    · try have h31 := of_decide_eq_true h31
                      refine LW.seq ?_
                      have hsl := shE_len hB.lens (a := x) (by omega)
                      have hsh := shown_calls sec bk x (by omega)
                      obtain ⟨T, hT⟩ : ∃ T, T = shE bk x := ⟨_, rfl⟩
                      rw [← hT] at hsh hsl
                      have hck := checkI gx m hB T x.now hsl
                      have hrc := rcheck16_calls sec T bk x.now (by omega)
                      refine LW.invM (m := 12) (γ := Unit × Unit) [(0, 131), (1, 132), (2, 133), (3, 134), (4, 135), (5, 136), (6, 137), (7, 130), (8, 138), (9, 139), (10, 16), (11, 17)] (fun g_ d => match g_ with | ⟨za, zb⟩ => match d with | 131 => pt gx | 132 => .agg (rb sec bk) | 133 => .agg (acL x) | 134 => Str T | 135 => .raw (.pointer (some ⟨b10, 3, none⟩)) | 136 => i64 x.now | 137 => .tup [Str (chkU bk T x.now), i64 (chkE bk T x.now)] | 130 => .tup [Str (chkU bk T x.now), i64 (chkE bk T x.now)] | 138 => Str (chkU bk T x.now) | 139 => i64 (chkE bk T x.now) | 16 => Str (chkU bk T x.now) | 17 => i64 (chkE bk T x.now) | _ => .any) (fun g_ f => match g_ with | ⟨za, zb⟩ => bkC gx m sec :: bkM m bk :: .cells bx 42 (rb sec bk) :: .cells b10 33 (acL x) :: kw :: pw :: Rf) ((), ()) rfl (by kernel_rfl) rfl rfl ((HSub.refl _)) ?_ ?_
                      · intro i hi f g_ hfi hdir hdown
                        obtain ⟨za, zb⟩ := g_
                        have hc : i = 0 ∨ i = 1 ∨ i = 2 ∨ i = 3 ∨ i = 4 ∨ i = 5 ∨ i = 6 ∨ i = 7 ∨ i = 8 ∨ i = 9 ∨ i = 10 ∨ i = 11 := by omega
                        rcases hc with rfl | rfl | rfl | rfl | rfl | rfl | rfl | rfl | rfl | rfl | rfl | rfl
                        · refine ⟨_, rfl, ?_⟩
                          refine A.u (LU.moveR Is.rfl') rfl ?_
                          refine ⟨⟨za, zb⟩, Weaker.mk' ?_ (HSub.refl _)⟩
                          refine env_back0 (envS_hit (sl := [(0, 131), (1, 132), (2, 133), (3, 134), (4, 135), (5, 136), (6, 137), (7, 130), (8, 138), (9, 139), (10, 16), (11, 17)]) (j := 0) (d := 131) rfl (fun _ _ h => h))  (envS_next ?_)
                          · intro p hp hne; simp only [List.mem_cons, List.not_mem_nil, or_false] at hp; rcases hp with rfl | rfl | rfl | rfl | rfl | rfl | rfl | rfl | rfl | rfl | rfl | rfl <;> first | exact absurd rfl hne | exact ⟨rfl, rfl⟩
                        · refine ⟨_, rfl, ?_⟩
                          refine A.u (LU.loadO 2 rfl ⟨Tryd.sizeOf42, Tryd.isAgg42⟩ Is.rfl' (Part.whole (by (simp; done)))) rfl ?_
                          refine ⟨⟨za, zb⟩, Weaker.mk' ?_ (HSub.refl _)⟩
                          refine env_back0 (envS_hit (sl := [(0, 131), (1, 132), (2, 133), (3, 134), (4, 135), (5, 136), (6, 137), (7, 130), (8, 138), (9, 139), (10, 16), (11, 17)]) (j := 1) (d := 132) rfl (fun _ _ h => h))  (envS_next ?_)
                          · intro p hp hne; simp only [List.mem_cons, List.not_mem_nil, or_false] at hp; rcases hp with rfl | rfl | rfl | rfl | rfl | rfl | rfl | rfl | rfl | rfl | rfl | rfl <;> first | exact absurd rfl hne | exact ⟨rfl, rfl⟩
                        · refine ⟨_, rfl, ?_⟩
                          refine A.u (LU.loadO 3 rfl ⟨Tryd.sizeOf33, Tryd.isAgg33⟩ Is.rfl' (Part.whole (by (simp; done)))) rfl ?_
                          refine ⟨⟨za, zb⟩, Weaker.mk' ?_ (HSub.refl _)⟩
                          refine env_back0 (envS_hit (sl := [(0, 131), (1, 132), (2, 133), (3, 134), (4, 135), (5, 136), (6, 137), (7, 130), (8, 138), (9, 139), (10, 16), (11, 17)]) (j := 2) (d := 133) rfl (fun _ _ h => h))  (envS_next ?_)
                          · intro p hp hne; simp only [List.mem_cons, List.not_mem_nil, or_false] at hp; rcases hp with rfl | rfl | rfl | rfl | rfl | rfl | rfl | rfl | rfl | rfl | rfl | rfl <;> first | exact absurd rfl hne | exact ⟨rfl, rfl⟩
                        · have d1 := hdir 1 (List.mem_of_elem_eq_true (by kernel_rfl))
                          have d2 := hdir 2 (List.mem_of_elem_eq_true (by kernel_rfl))
                          refine ⟨_, rfl, ?_⟩
                          refine LP.weak (t := 132) (v := .agg (rb sec bk)) (envS_is (j := 1) rfl d1) ?_
                          refine LP.weak (t := 133) (v := .agg (acL x)) (envS_is (j := 2) rfl d2) ?_
                          refine A.u (LU.call (hsh) Tryd.func23 rfl rfl (Opds.cons Is.rfl' (Opds.cons Is.rfl' Opds.nil))) rfl ?_
                          refine ⟨⟨za, zb⟩, Weaker.mk' ?_ (HSub.refl _)⟩
                          refine env_back2 (envS_hit (sl := [(0, 131), (1, 132), (2, 133), (3, 134), (4, 135), (5, 136), (6, 137), (7, 130), (8, 138), (9, 139), (10, 16), (11, 17)]) (j := 3) (d := 134) rfl (fun _ _ h => h)) (envS_hit (sl := [(0, 131), (1, 132), (2, 133), (3, 134), (4, 135), (5, 136), (6, 137), (7, 130), (8, 138), (9, 139), (10, 16), (11, 17)]) (j := 2) (d := 133) rfl (fun _ _ h => h)) (envS_hit (sl := [(0, 131), (1, 132), (2, 133), (3, 134), (4, 135), (5, 136), (6, 137), (7, 130), (8, 138), (9, 139), (10, 16), (11, 17)]) (j := 1) (d := 132) rfl (fun _ _ h => h)) (envS_next ?_)
                          · intro p hp hne; simp only [List.mem_cons, List.not_mem_nil, or_false] at hp; rcases hp with rfl | rfl | rfl | rfl | rfl | rfl | rfl | rfl | rfl | rfl | rfl | rfl <;> first | exact absurd rfl hne | exact ⟨rfl, rfl⟩
                        · refine ⟨_, rfl, ?_⟩
                          refine A.u (LU.fieldO Tryd.underlying33 rfl Tryd.sizeOf3 (by decide) Is.rfl') rfl ?_
                          refine ⟨⟨za, zb⟩, Weaker.mk' ?_ (HSub.refl _)⟩
                          refine env_back0 (envS_hit (sl := [(0, 131), (1, 132), (2, 133), (3, 134), (4, 135), (5, 136), (6, 137), (7, 130), (8, 138), (9, 139), (10, 16), (11, 17)]) (j := 4) (d := 135) rfl (fun _ _ h => h))  (envS_next ?_)
                          · intro p hp hne; simp only [List.mem_cons, List.not_mem_nil, or_false] at hp; rcases hp with rfl | rfl | rfl | rfl | rfl | rfl | rfl | rfl | rfl | rfl | rfl | rfl <;> first | exact absurd rfl hne | exact ⟨rfl, rfl⟩
                        · have d4 := hdir 4 (List.mem_of_elem_eq_true (by kernel_rfl))
                          refine ⟨_, rfl, ?_⟩
                          refine LP.weak (t := 135) (v := .raw (.pointer (some ⟨b10, 3, none⟩))) (envS_is (j := 4) rfl d4) ?_
                          refine A.u (LU.loadO 3 rfl ⟨Tryd.sizeOf3, Tryd.isAgg3⟩ Is.rfl' (Part.one rfl)) rfl ?_
                          refine ⟨⟨za, zb⟩, Weaker.mk' ?_ (HSub.refl _)⟩
                          refine env_back1 (envS_hit (sl := [(0, 131), (1, 132), (2, 133), (3, 134), (4, 135), (5, 136), (6, 137), (7, 130), (8, 138), (9, 139), (10, 16), (11, 17)]) (j := 5) (d := 136) rfl (fun _ _ h => h)) (envS_hit (sl := [(0, 131), (1, 132), (2, 133), (3, 134), (4, 135), (5, 136), (6, 137), (7, 130), (8, 138), (9, 139), (10, 16), (11, 17)]) (j := 4) (d := 135) rfl (fun _ _ h => h)) (envS_next ?_)
                          · intro p hp hne; simp only [List.mem_cons, List.not_mem_nil, or_false] at hp; rcases hp with rfl | rfl | rfl | rfl | rfl | rfl | rfl | rfl | rfl | rfl | rfl | rfl <;> first | exact absurd rfl hne | exact ⟨rfl, rfl⟩
                        · have d0 := hdir 0 (List.mem_of_elem_eq_true (by kernel_rfl))
                          have d3 := hdir 3 (List.mem_of_elem_eq_true (by kernel_rfl))
                          have d5 := hdir 5 (List.mem_of_elem_eq_true (by kernel_rfl))
                          refine ⟨_, rfl, ?_⟩
                          refine LP.weak (t := 131) (v := pt gx) (envS_is (j := 0) rfl d0) ?_
                          refine LP.weak (t := 134) (v := Str T) (envS_is (j := 3) rfl d3) ?_
                          refine LP.weak (t := 136) (v := i64 x.now) (envS_is (j := 5) rfl d5) ?_
                          refine A.act (X.call (hck) Tryd.func19 rfl rfl rfl (HSub.refl _) (Opds.cons Is.rfl' (Opds.cons Is.rfl' (Opds.cons Is.rfl' Opds.nil))) ?_)
                          rintro r H' ⟨rfl, rfl⟩
                          refine ⟨⟨za, zb⟩, Weaker.mk' ?_ (HSub.refl _)⟩
                          refine env_back3 (envS_hit (sl := [(0, 131), (1, 132), (2, 133), (3, 134), (4, 135), (5, 136), (6, 137), (7, 130), (8, 138), (9, 139), (10, 16), (11, 17)]) (j := 6) (d := 137) rfl (fun _ _ h => h)) (envS_hit (sl := [(0, 131), (1, 132), (2, 133), (3, 134), (4, 135), (5, 136), (6, 137), (7, 130), (8, 138), (9, 139), (10, 16), (11, 17)]) (j := 5) (d := 136) rfl (fun _ _ h => h)) (envS_hit (sl := [(0, 131), (1, 132), (2, 133), (3, 134), (4, 135), (5, 136), (6, 137), (7, 130), (8, 138), (9, 139), (10, 16), (11, 17)]) (j := 3) (d := 134) rfl (fun _ _ h => h)) (envS_hit (sl := [(0, 131), (1, 132), (2, 133), (3, 134), (4, 135), (5, 136), (6, 137), (7, 130), (8, 138), (9, 139), (10, 16), (11, 17)]) (j := 0) (d := 131) rfl (fun _ _ h => h)) (envS_next ?_)
                          · intro p hp hne; simp only [List.mem_cons, List.not_mem_nil, or_false] at hp; rcases hp with rfl | rfl | rfl | rfl | rfl | rfl | rfl | rfl | rfl | rfl | rfl | rfl <;> first | exact absurd rfl hne | exact ⟨rfl, rfl⟩
                        · have d6 := hdir 6 (List.mem_of_elem_eq_true (by kernel_rfl))
                          refine ⟨_, rfl, ?_⟩
                          refine LP.weak (t := 137) (v := .tup [Str (chkU bk T x.now), i64 (chkE bk T x.now)]) (envS_is (j := 6) rfl d6) ?_
                          refine A.u (LU.moveT Is.rfl') rfl ?_
                          refine ⟨⟨za, zb⟩, Weaker.mk' ?_ (HSub.refl _)⟩
                          refine env_back1 (envS_hit (sl := [(0, 131), (1, 132), (2, 133), (3, 134), (4, 135), (5, 136), (6, 137), (7, 130), (8, 138), (9, 139), (10, 16), (11, 17)]) (j := 7) (d := 130) rfl (fun _ _ h => h)) (envS_hit (sl := [(0, 131), (1, 132), (2, 133), (3, 134), (4, 135), (5, 136), (6, 137), (7, 130), (8, 138), (9, 139), (10, 16), (11, 17)]) (j := 6) (d := 137) rfl (fun _ _ h => h)) (envS_next ?_)
                          · intro p hp hne; simp only [List.mem_cons, List.not_mem_nil, or_false] at hp; rcases hp with rfl | rfl | rfl | rfl | rfl | rfl | rfl | rfl | rfl | rfl | rfl | rfl <;> first | exact absurd rfl hne | exact ⟨rfl, rfl⟩
                        · have d7 := hdir 7 (List.mem_of_elem_eq_true (by kernel_rfl))
                          refine ⟨_, rfl, ?_⟩
                          refine LP.weak (t := 130) (v := .tup [Str (chkU bk T x.now), i64 (chkE bk T x.now)]) (envS_is (j := 7) rfl d7) ?_
                          refine A.u (LU.extract Is.rfl' rfl) rfl ?_
                          refine ⟨⟨za, zb⟩, Weaker.mk' ?_ (HSub.refl _)⟩
                          refine env_back1 (envS_hit (sl := [(0, 131), (1, 132), (2, 133), (3, 134), (4, 135), (5, 136), (6, 137), (7, 130), (8, 138), (9, 139), (10, 16), (11, 17)]) (j := 8) (d := 138) rfl (fun _ _ h => h)) (envS_hit (sl := [(0, 131), (1, 132), (2, 133), (3, 134), (4, 135), (5, 136), (6, 137), (7, 130), (8, 138), (9, 139), (10, 16), (11, 17)]) (j := 7) (d := 130) rfl (fun _ _ h => h)) (envS_next ?_)
                          · intro p hp hne; simp only [List.mem_cons, List.not_mem_nil, or_false] at hp; rcases hp with rfl | rfl | rfl | rfl | rfl | rfl | rfl | rfl | rfl | rfl | rfl | rfl <;> first | exact absurd rfl hne | exact ⟨rfl, rfl⟩
                        · have d7 := hdir 7 (List.mem_of_elem_eq_true (by kernel_rfl))
                          refine ⟨_, rfl, ?_⟩
                          refine LP.weak (t := 130) (v := .tup [Str (chkU bk T x.now), i64 (chkE bk T x.now)]) (envS_is (j := 7) rfl d7) ?_
                          refine A.u (LU.extract Is.rfl' rfl) rfl ?_
                          refine ⟨⟨za, zb⟩, Weaker.mk' ?_ (HSub.refl _)⟩
                          refine env_back1 (envS_hit (sl := [(0, 131), (1, 132), (2, 133), (3, 134), (4, 135), (5, 136), (6, 137), (7, 130), (8, 138), (9, 139), (10, 16), (11, 17)]) (j := 9) (d := 139) rfl (fun _ _ h => h)) (envS_hit (sl := [(0, 131), (1, 132), (2, 133), (3, 134), (4, 135), (5, 136), (6, 137), (7, 130), (8, 138), (9, 139), (10, 16), (11, 17)]) (j := 7) (d := 130) rfl (fun _ _ h => h)) (envS_next ?_)
                          · intro p hp hne; simp only [List.mem_cons, List.not_mem_nil, or_false] at hp; rcases hp with rfl | rfl | rfl | rfl | rfl | rfl | rfl | rfl | rfl | rfl | rfl | rfl <;> first | exact absurd rfl hne | exact ⟨rfl, rfl⟩
                        · have d0 := hdir 0 (List.mem_of_elem_eq_true (by kernel_rfl))
                          have d1 := hdir 1 (List.mem_of_elem_eq_true (by kernel_rfl))
                          have d2 := hdir 2 (List.mem_of_elem_eq_true (by kernel_rfl))
                          have d3 := hdir 3 (List.mem_of_elem_eq_true (by kernel_rfl))
                          have d4 := hdir 4 (List.mem_of_elem_eq_true (by kernel_rfl))
                          have d5 := hdir 5 (List.mem_of_elem_eq_true (by kernel_rfl))
                          have d6 := hdir 6 (List.mem_of_elem_eq_true (by kernel_rfl))
                          have d7 := hdir 7 (List.mem_of_elem_eq_true (by kernel_rfl))
                          have d8 := hdir 8 (List.mem_of_elem_eq_true (by kernel_rfl))
                          refine ⟨_, rfl, ?_⟩
                          refine LP.weak (t := 138) (v := Str (chkU bk T x.now)) (envS_is (j := 8) rfl d8) ?_
                          refine A.u (LU.assignR Is.rfl') rfl ?_
                          refine ⟨⟨za, zb⟩, Weaker.mk' ?_ (HSub.refl _)⟩
                          refine env_back1 (envS_hit (sl := [(0, 131), (1, 132), (2, 133), (3, 134), (4, 135), (5, 136), (6, 137), (7, 130), (8, 138), (9, 139), (10, 16), (11, 17)]) (j := 10) (d := 16) rfl (fun _ _ h => h)) (envS_hit (sl := [(0, 131), (1, 132), (2, 133), (3, 134), (4, 135), (5, 136), (6, 137), (7, 130), (8, 138), (9, 139), (10, 16), (11, 17)]) (j := 8) (d := 138) rfl (fun _ _ h => h)) (envS_next ?_)
                          · intro p hp hne; simp only [List.mem_cons, List.not_mem_nil, or_false] at hp; rcases hp with rfl | rfl | rfl | rfl | rfl | rfl | rfl | rfl | rfl | rfl | rfl | rfl <;> first | exact absurd rfl hne | exact ⟨rfl, rfl⟩
                        · have d0 := hdir 0 (List.mem_of_elem_eq_true (by kernel_rfl))
                          have d1 := hdir 1 (List.mem_of_elem_eq_true (by kernel_rfl))
                          have d2 := hdir 2 (List.mem_of_elem_eq_true (by kernel_rfl))
                          have d3 := hdir 3 (List.mem_of_elem_eq_true (by kernel_rfl))
                          have d4 := hdir 4 (List.mem_of_elem_eq_true (by kernel_rfl))
                          have d5 := hdir 5 (List.mem_of_elem_eq_true (by kernel_rfl))
                          have d6 := hdir 6 (List.mem_of_elem_eq_true (by kernel_rfl))
                          have d7 := hdir 7 (List.mem_of_elem_eq_true (by kernel_rfl))
                          have d8 := hdir 8 (List.mem_of_elem_eq_true (by kernel_rfl))
                          have d9 := hdir 9 (List.mem_of_elem_eq_true (by kernel_rfl))
                          have d10 := hdir 10 (List.mem_of_elem_eq_true (by kernel_rfl))
                          refine ⟨_, rfl, ?_⟩
                          refine LP.weak (t := 139) (v := i64 (chkE bk T x.now)) (envS_is (j := 9) rfl d9) ?_
                          refine A.u (LU.assignR Is.rfl') rfl ?_
                          refine ⟨⟨za, zb⟩, Weaker.mk' ?_ (HSub.refl _)⟩
                          refine env_back1 (envS_hit (sl := [(0, 131), (1, 132), (2, 133), (3, 134), (4, 135), (5, 136), (6, 137), (7, 130), (8, 138), (9, 139), (10, 16), (11, 17)]) (j := 11) (d := 17) rfl (fun _ _ h => h)) (envS_hit (sl := [(0, 131), (1, 132), (2, 133), (3, 134), (4, 135), (5, 136), (6, 137), (7, 130), (8, 138), (9, 139), (10, 16), (11, 17)]) (j := 9) (d := 139) rfl (fun _ _ h => h)) (envS_next ?_)
                          · intro p hp hne; simp only [List.mem_cons, List.not_mem_nil, or_false] at hp; rcases hp with rfl | rfl | rfl | rfl | rfl | rfl | rfl | rfl | rfl | rfl | rfl | rfl <;> first | exact absurd rfl hne | exact ⟨rfl, rfl⟩
                      · intro g_ f hf_
                        obtain ⟨za, zb⟩ := g_
                        refine LL.nil (after_code ?_)
                        refine LW.seq ?_
                        refine LW.invM (m := 12) (γ := Unit × Unit) [(0, 141), (1, 142), (2, 143), (3, 144), (4, 145), (5, 146), (6, 147), (7, 140), (8, 148), (9, 149), (10, 18), (11, 19)] (fun g_ d => match g_ with | ⟨za, zb⟩ => match d with | 141 => .agg (rb sec bk) | 142 => .agg (rb sec bk) | 143 => .agg (acL x) | 144 => Str T | 145 => .raw (.pointer (some ⟨b10, 3, none⟩)) | 146 => i64 x.now | 147 => .tup [Str (chkU bk T x.now), i64 (chkE bk T x.now)] | 140 => .tup [Str (chkU bk T x.now), i64 (chkE bk T x.now)] | 148 => Str (chkU bk T x.now) | 149 => i64 (chkE bk T x.now) | 18 => Str (chkU bk T x.now) | 19 => i64 (chkE bk T x.now) | _ => .any) (fun g_ f => match g_ with | ⟨za, zb⟩ => bkC gx m sec :: bkM m bk :: .cells bx 42 (rb sec bk) :: .cells b10 33 (acL x) :: kw :: pw :: Rf) ((), ()) rfl (by kernel_rfl) rfl rfl ((HSub.refl _)) ?_ ?_
                        · intro i hi f g_ hfi hdir hdown
                          obtain ⟨za, zb⟩ := g_
                          have hc : i = 0 ∨ i = 1 ∨ i = 2 ∨ i = 3 ∨ i = 4 ∨ i = 5 ∨ i = 6 ∨ i = 7 ∨ i = 8 ∨ i = 9 ∨ i = 10 ∨ i = 11 := by omega
                          rcases hc with rfl | rfl | rfl | rfl | rfl | rfl | rfl | rfl | rfl | rfl | rfl | rfl
                          · refine ⟨_, rfl, ?_⟩
                            refine A.u (LU.loadO 2 rfl ⟨Tryd.sizeOf42, Tryd.isAgg42⟩ Is.rfl' (Part.whole (by (simp; done)))) rfl ?_
                            refine ⟨⟨za, zb⟩, Weaker.mk' ?_ (HSub.refl _)⟩
                            refine env_back0 (envS_hit (sl := [(0, 141), (1, 142), (2, 143), (3, 144), (4, 145), (5, 146), (6, 147), (7, 140), (8, 148), (9, 149), (10, 18), (11, 19)]) (j := 0) (d := 141) rfl (fun _ _ h => h))  (envS_next ?_)
                            · intro p hp hne; simp only [List.mem_cons, List.not_mem_nil, or_false] at hp; rcases hp with rfl | rfl | rfl | rfl | rfl | rfl | rfl | rfl | rfl | rfl | rfl | rfl <;> first | exact absurd rfl hne | exact ⟨rfl, rfl⟩
                          · refine ⟨_, rfl, ?_⟩
                            refine A.u (LU.loadO 2 rfl ⟨Tryd.sizeOf42, Tryd.isAgg42⟩ Is.rfl' (Part.whole (by (simp; done)))) rfl ?_
                            refine ⟨⟨za, zb⟩, Weaker.mk' ?_ (HSub.refl _)⟩
                            refine env_back0 (envS_hit (sl := [(0, 141), (1, 142), (2, 143), (3, 144), (4, 145), (5, 146), (6, 147), (7, 140), (8, 148), (9, 149), (10, 18), (11, 19)]) (j := 1) (d := 142) rfl (fun _ _ h => h))  (envS_next ?_)
                            · intro p hp hne; simp only [List.mem_cons, List.not_mem_nil, or_false] at hp; rcases hp with rfl | rfl | rfl | rfl | rfl | rfl | rfl | rfl | rfl | rfl | rfl | rfl <;> first | exact absurd rfl hne | exact ⟨rfl, rfl⟩
                          · refine ⟨_, rfl, ?_⟩
                            refine A.u (LU.loadO 3 rfl ⟨Tryd.sizeOf33, Tryd.isAgg33⟩ Is.rfl' (Part.whole (by (simp; done)))) rfl ?_
                            refine ⟨⟨za, zb⟩, Weaker.mk' ?_ (HSub.refl _)⟩
                            refine env_back0 (envS_hit (sl := [(0, 141), (1, 142), (2, 143), (3, 144), (4, 145), (5, 146), (6, 147), (7, 140), (8, 148), (9, 149), (10, 18), (11, 19)]) (j := 2) (d := 143) rfl (fun _ _ h => h))  (envS_next ?_)
                            · intro p hp hne; simp only [List.mem_cons, List.not_mem_nil, or_false] at hp; rcases hp with rfl | rfl | rfl | rfl | rfl | rfl | rfl | rfl | rfl | rfl | rfl | rfl <;> first | exact absurd rfl hne | exact ⟨rfl, rfl⟩
                          · have d1 := hdir 1 (List.mem_of_elem_eq_true (by kernel_rfl))
                            have d2 := hdir 2 (List.mem_of_elem_eq_true (by kernel_rfl))
                            refine ⟨_, rfl, ?_⟩
                            refine LP.weak (t := 142) (v := .agg (rb sec bk)) (envS_is (j := 1) rfl d1) ?_
                            refine LP.weak (t := 143) (v := .agg (acL x)) (envS_is (j := 2) rfl d2) ?_
                            refine A.u (LU.call (hsh) Tryd.func23 rfl rfl (Opds.cons Is.rfl' (Opds.cons Is.rfl' Opds.nil))) rfl ?_
                            refine ⟨⟨za, zb⟩, Weaker.mk' ?_ (HSub.refl _)⟩
                            refine env_back2 (envS_hit (sl := [(0, 141), (1, 142), (2, 143), (3, 144), (4, 145), (5, 146), (6, 147), (7, 140), (8, 148), (9, 149), (10, 18), (11, 19)]) (j := 3) (d := 144) rfl (fun _ _ h => h)) (envS_hit (sl := [(0, 141), (1, 142), (2, 143), (3, 144), (4, 145), (5, 146), (6, 147), (7, 140), (8, 148), (9, 149), (10, 18), (11, 19)]) (j := 2) (d := 143) rfl (fun _ _ h => h)) (envS_hit (sl := [(0, 141), (1, 142), (2, 143), (3, 144), (4, 145), (5, 146), (6, 147), (7, 140), (8, 148), (9, 149), (10, 18), (11, 19)]) (j := 1) (d := 142) rfl (fun _ _ h => h)) (envS_next ?_)
                            · intro p hp hne; simp only [List.mem_cons, List.not_mem_nil, or_false] at hp; rcases hp with rfl | rfl | rfl | rfl | rfl | rfl | rfl | rfl | rfl | rfl | rfl | rfl <;> first | exact absurd rfl hne | exact ⟨rfl, rfl⟩
                          · refine ⟨_, rfl, ?_⟩
                            refine A.u (LU.fieldO Tryd.underlying33 rfl Tryd.sizeOf3 (by decide) Is.rfl') rfl ?_
                            refine ⟨⟨za, zb⟩, Weaker.mk' ?_ (HSub.refl _)⟩
                            refine env_back0 (envS_hit (sl := [(0, 141), (1, 142), (2, 143), (3, 144), (4, 145), (5, 146), (6, 147), (7, 140), (8, 148), (9, 149), (10, 18), (11, 19)]) (j := 4) (d := 145) rfl (fun _ _ h => h))  (envS_next ?_)
                            · intro p hp hne; simp only [List.mem_cons, List.not_mem_nil, or_false] at hp; rcases hp with rfl | rfl | rfl | rfl | rfl | rfl | rfl | rfl | rfl | rfl | rfl | rfl <;> first | exact absurd rfl hne | exact ⟨rfl, rfl⟩
                          · have d4 := hdir 4 (List.mem_of_elem_eq_true (by kernel_rfl))
                            refine ⟨_, rfl, ?_⟩
                            refine LP.weak (t := 145) (v := .raw (.pointer (some ⟨b10, 3, none⟩))) (envS_is (j := 4) rfl d4) ?_
                            refine A.u (LU.loadO 3 rfl ⟨Tryd.sizeOf3, Tryd.isAgg3⟩ Is.rfl' (Part.one rfl)) rfl ?_
                            refine ⟨⟨za, zb⟩, Weaker.mk' ?_ (HSub.refl _)⟩
                            refine env_back1 (envS_hit (sl := [(0, 141), (1, 142), (2, 143), (3, 144), (4, 145), (5, 146), (6, 147), (7, 140), (8, 148), (9, 149), (10, 18), (11, 19)]) (j := 5) (d := 146) rfl (fun _ _ h => h)) (envS_hit (sl := [(0, 141), (1, 142), (2, 143), (3, 144), (4, 145), (5, 146), (6, 147), (7, 140), (8, 148), (9, 149), (10, 18), (11, 19)]) (j := 4) (d := 145) rfl (fun _ _ h => h)) (envS_next ?_)
                            · intro p hp hne; simp only [List.mem_cons, List.not_mem_nil, or_false] at hp; rcases hp with rfl | rfl | rfl | rfl | rfl | rfl | rfl | rfl | rfl | rfl | rfl | rfl <;> first | exact absurd rfl hne | exact ⟨rfl, rfl⟩
                          · have d0 := hdir 0 (List.mem_of_elem_eq_true (by kernel_rfl))
                            have d3 := hdir 3 (List.mem_of_elem_eq_true (by kernel_rfl))
                            have d5 := hdir 5 (List.mem_of_elem_eq_true (by kernel_rfl))
                            refine ⟨_, rfl, ?_⟩
                            refine LP.weak (t := 141) (v := .agg (rb sec bk)) (envS_is (j := 0) rfl d0) ?_
                            refine LP.weak (t := 144) (v := Str T) (envS_is (j := 3) rfl d3) ?_
                            refine LP.weak (t := 146) (v := i64 x.now) (envS_is (j := 5) rfl d5) ?_
                            refine A.u (LU.call (hrc) Tryd.func24 rfl rfl (Opds.cons Is.rfl' (Opds.cons Is.rfl' (Opds.cons Is.rfl' Opds.nil)))) rfl ?_
                            refine ⟨⟨za, zb⟩, Weaker.mk' ?_ (HSub.refl _)⟩
                            refine env_back3 (envS_hit (sl := [(0, 141), (1, 142), (2, 143), (3, 144), (4, 145), (5, 146), (6, 147), (7, 140), (8, 148), (9, 149), (10, 18), (11, 19)]) (j := 6) (d := 147) rfl (fun _ _ h => h)) (envS_hit (sl := [(0, 141), (1, 142), (2, 143), (3, 144), (4, 145), (5, 146), (6, 147), (7, 140), (8, 148), (9, 149), (10, 18), (11, 19)]) (j := 5) (d := 146) rfl (fun _ _ h => h)) (envS_hit (sl := [(0, 141), (1, 142), (2, 143), (3, 144), (4, 145), (5, 146), (6, 147), (7, 140), (8, 148), (9, 149), (10, 18), (11, 19)]) (j := 3) (d := 144) rfl (fun _ _ h => h)) (envS_hit (sl := [(0, 141), (1, 142), (2, 143), (3, 144), (4, 145), (5, 146), (6, 147), (7, 140), (8, 148), (9, 149), (10, 18), (11, 19)]) (j := 0) (d := 141) rfl (fun _ _ h => h)) (envS_next ?_)
                            · intro p hp hne; simp only [List.mem_cons, List.not_mem_nil, or_false] at hp; rcases hp with rfl | rfl | rfl | rfl | rfl | rfl | rfl | rfl | rfl | rfl | rfl | rfl <;> first | exact absurd rfl hne | exact ⟨rfl, rfl⟩
                          · have d6 := hdir 6 (List.mem_of_elem_eq_true (by kernel_rfl))
                            refine ⟨_, rfl, ?_⟩
                            refine LP.weak (t := 147) (v := .tup [Str (chkU bk T x.now), i64 (chkE bk T x.now)]) (envS_is (j := 6) rfl d6) ?_
                            refine A.u (LU.moveT Is.rfl') rfl ?_
                            refine ⟨⟨za, zb⟩, Weaker.mk' ?_ (HSub.refl _)⟩
                            refine env_back1 (envS_hit (sl := [(0, 141), (1, 142), (2, 143), (3, 144), (4, 145), (5, 146), (6, 147), (7, 140), (8, 148), (9, 149), (10, 18), (11, 19)]) (j := 7) (d := 140) rfl (fun _ _ h => h)) (envS_hit (sl := [(0, 141), (1, 142), (2, 143), (3, 144), (4, 145), (5, 146), (6, 147), (7, 140), (8, 148), (9, 149), (10, 18), (11, 19)]) (j := 6) (d := 147) rfl (fun _ _ h => h)) (envS_next ?_)
                            · intro p hp hne; simp only [List.mem_cons, List.not_mem_nil, or_false] at hp; rcases hp with rfl | rfl | rfl | rfl | rfl | rfl | rfl | rfl | rfl | rfl | rfl | rfl <;> first | exact absurd rfl hne | exact ⟨rfl, rfl⟩
                          · have d7 := hdir 7 (List.mem_of_elem_eq_true (by kernel_rfl))
                            refine ⟨_, rfl, ?_⟩
                            refine LP.weak (t := 140) (v := .tup [Str (chkU bk T x.now), i64 (chkE bk T x.now)]) (envS_is (j := 7) rfl d7) ?_
                            refine A.u (LU.extract Is.rfl' rfl) rfl ?_
                            refine ⟨⟨za, zb⟩, Weaker.mk' ?_ (HSub.refl _)⟩
                            refine env_back1 (envS_hit (sl := [(0, 141), (1, 142), (2, 143), (3, 144), (4, 145), (5, 146), (6, 147), (7, 140), (8, 148), (9, 149), (10, 18), (11, 19)]) (j := 8) (d := 148) rfl (fun _ _ h => h)) (envS_hit (sl := [(0, 141), (1, 142), (2, 143), (3, 144), (4, 145), (5, 146), (6, 147), (7, 140), (8, 148), (9, 149), (10, 18), (11, 19)]) (j := 7) (d := 140) rfl (fun _ _ h => h)) (envS_next ?_)
                            · intro p hp hne; simp only [List.mem_cons, List.not_mem_nil, or_false] at hp; rcases hp with rfl | rfl | rfl | rfl | rfl | rfl | rfl | rfl | rfl | rfl | rfl | rfl <;> first | exact absurd rfl hne | exact ⟨rfl, rfl⟩
                          · have d7 := hdir 7 (List.mem_of_elem_eq_true (by kernel_rfl))
                            refine ⟨_, rfl, ?_⟩
                            refine LP.weak (t := 140) (v := .tup [Str (chkU bk T x.now), i64 (chkE bk T x.now)]) (envS_is (j := 7) rfl d7) ?_
                            refine A.u (LU.extract Is.rfl' rfl) rfl ?_
                            refine ⟨⟨za, zb⟩, Weaker.mk' ?_ (HSub.refl _)⟩
                            refine env_back1 (envS_hit (sl := [(0, 141), (1, 142), (2, 143), (3, 144), (4, 145), (5, 146), (6, 147), (7, 140), (8, 148), (9, 149), (10, 18), (11, 19)]) (j := 9) (d := 149) rfl (fun _ _ h => h)) (envS_hit (sl := [(0, 141), (1, 142), (2, 143), (3, 144), (4, 145), (5, 146), (6, 147), (7, 140), (8, 148), (9, 149), (10, 18), (11, 19)]) (j := 7) (d := 140) rfl (fun _ _ h => h)) (envS_next ?_)
                            · intro p hp hne; simp only [List.mem_cons, List.not_mem_nil, or_false] at hp; rcases hp with rfl | rfl | rfl | rfl | rfl | rfl | rfl | rfl | rfl | rfl | rfl | rfl <;> first | exact absurd rfl hne | exact ⟨rfl, rfl⟩
                          · have d0 := hdir 0 (List.mem_of_elem_eq_true (by kernel_rfl))
                            have d1 := hdir 1 (List.mem_of_elem_eq_true (by kernel_rfl))
                            have d2 := hdir 2 (List.mem_of_elem_eq_true (by kernel_rfl))
                            have d3 := hdir 3 (List.mem_of_elem_eq_true (by kernel_rfl))
                            have d4 := hdir 4 (List.mem_of_elem_eq_true (by kernel_rfl))
                            have d5 := hdir 5 (List.mem_of_elem_eq_true (by kernel_rfl))
                            have d6 := hdir 6 (List.mem_of_elem_eq_true (by kernel_rfl))
                            have d7 := hdir 7 (List.mem_of_elem_eq_true (by kernel_rfl))
                            have d8 := hdir 8 (List.mem_of_elem_eq_true (by kernel_rfl))
                            refine ⟨_, rfl, ?_⟩
                            refine LP.weak (t := 148) (v := Str (chkU bk T x.now)) (envS_is (j := 8) rfl d8) ?_
                            refine A.u (LU.assignR Is.rfl') rfl ?_
                            refine ⟨⟨za, zb⟩, Weaker.mk' ?_ (HSub.refl _)⟩
                            refine env_back1 (envS_hit (sl := [(0, 141), (1, 142), (2, 143), (3, 144), (4, 145), (5, 146), (6, 147), (7, 140), (8, 148), (9, 149), (10, 18), (11, 19)]) (j := 10) (d := 18) rfl (fun _ _ h => h)) (envS_hit (sl := [(0, 141), (1, 142), (2, 143), (3, 144), (4, 145), (5, 146), (6, 147), (7, 140), (8, 148), (9, 149), (10, 18), (11, 19)]) (j := 8) (d := 148) rfl (fun _ _ h => h)) (envS_next ?_)
                            · intro p hp hne; simp only [List.mem_cons, List.not_mem_nil, or_false] at hp; rcases hp with rfl | rfl | rfl | rfl | rfl | rfl | rfl | rfl | rfl | rfl | rfl | rfl <;> first | exact absurd rfl hne | exact ⟨rfl, rfl⟩
                          · have d0 := hdir 0 (List.mem_of_elem_eq_true (by kernel_rfl))
                            have d1 := hdir 1 (List.mem_of_elem_eq_true (by kernel_rfl))
                            have d2 := hdir 2 (List.mem_of_elem_eq_true (by kernel_rfl))
                            have d3 := hdir 3 (List.mem_of_elem_eq_true (by kernel_rfl))
                            have d4 := hdir 4 (List.mem_of_elem_eq_true (by kernel_rfl))
                            have d5 := hdir 5 (List.mem_of_elem_eq_true (by kernel_rfl))
                            have d6 := hdir 6 (List.mem_of_elem_eq_true (by kernel_rfl))
                            have d7 := hdir 7 (List.mem_of_elem_eq_true (by kernel_rfl))
                            have d8 := hdir 8 (List.mem_of_elem_eq_true (by kernel_rfl))
                            have d9 := hdir 9 (List.mem_of_elem_eq_true (by kernel_rfl))
                            have d10 := hdir 10 (List.mem_of_elem_eq_true (by kernel_rfl))
                            refine ⟨_, rfl, ?_⟩
                            refine LP.weak (t := 149) (v := i64 (chkE bk T x.now)) (envS_is (j := 9) rfl d9) ?_
                            refine A.u (LU.assignR Is.rfl') rfl ?_
                            refine ⟨⟨za, zb⟩, Weaker.mk' ?_ (HSub.refl _)⟩
                            refine env_back1 (envS_hit (sl := [(0, 141), (1, 142), (2, 143), (3, 144), (4, 145), (5, 146), (6, 147), (7, 140), (8, 148), (9, 149), (10, 18), (11, 19)]) (j := 11) (d := 19) rfl (fun _ _ h => h)) (envS_hit (sl := [(0, 141), (1, 142), (2, 143), (3, 144), (4, 145), (5, 146), (6, 147), (7, 140), (8, 148), (9, 149), (10, 18), (11, 19)]) (j := 9) (d := 149) rfl (fun _ _ h => h)) (envS_next ?_)
                            · intro p hp hne; simp only [List.mem_cons, List.not_mem_nil, or_false] at hp; rcases hp with rfl | rfl | rfl | rfl | rfl | rfl | rfl | rfl | rfl | rfl | rfl | rfl <;> first | exact absurd rfl hne | exact ⟨rfl, rfl⟩
                        · intro g_ f hf_
                          obtain ⟨za, zb⟩ := g_
                          refine LL.nil (after_code ?_)
                          refine LW.seq ?_
                          refine LW.region ?_
                          refine X.u (LU.moveR Is.rfl') rfl ?_
                          refine X.u (LU.moveR Is.rfl') rfl ?_
                          refine X.u (LU.strneN Is.rfl' Is.rfl') rfl ?_
                          refine X.u (LU.moveR Is.rfl') rfl ?_
                          refine X.gF rfl rfl (fun hg => LU.moveR (by exact Is.rfl')) rfl ?_
                          refine X.gF rfl rfl (fun hg => LU.moveR (by exact Is.rfl')) rfl ?_
                          refine X.gF rfl rfl (fun hg => LU.neq (by exact Is.whenN hg) (by exact Is.whenN hg)) rfl ?_
                          refine X.u (LU.weak (LU.pickOr Is.rfl' Is.rfl' (fun hq => (by exact Is.whenN hq))) (asB (c := false) rfl (by simp))) rfl ?_
                          refine LL.nil (after_code ?_)
                          refine X.condF rfl ?_ ?_
                          · rfl
                          refine LW.skip (after_blk (after_rnd ?_))
                          refine X.meets (bk) rfl (EnvLe.nil) (Keeps.cons (by exact Eq.trans (b := .raw _) rfl rfl) (Keeps.cons (by exact Eq.trans (b := .raw _) rfl rfl) (Keeps.cons (by exact Eq.trans (b := .sl _ _ _) rfl rfl) (Keeps.cons (by exact Eq.trans (b := .raw _) rfl rfl) (Keeps.cons (by exact Eq.trans (b := .raw _) rfl rfl) (Keeps.nil)))))) (by repeat (exact HSub.refl _)) ?_
                          exact hB
                    · try have h31 := of_decide_eq_false h31
                      refine LW.seq ?_
                      refine LW.region ?_
                      refine X.u (LU.assignR Is.rfl') rfl ?_
                      refine LL.nil (after_code ?_)
                      refine LW.seq ?_
                      have hsl := shE_len hB.lens (a := x) (by omega)
                      have hsh := shown_calls sec bk x (by omega)
                      obtain ⟨T, hT⟩ : ∃ T, T = shE bk x := ⟨_, rfl⟩
                      rw [← hT] at hsh hsl
                      have hrv := revokeI gx m hB T hsl
                      have hrr := rrevoke16_calls sec T bk (by omega) hB.gone
                      have hBr := hB.revoke T
                      refine LW.region ?_
                      refine X.u (LU.loadO 2 rfl ⟨Tryd.sizeOf42, Tryd.isAgg42⟩ Is.rfl' (Part.whole (by (simp; done)))) rfl ?_
                      refine X.u (LU.loadO 3 rfl ⟨Tryd.sizeOf33, Tryd.isAgg33⟩ Is.rfl' (Part.whole (by (simp; done)))) rfl ?_
                      refine X.u (LU.call (hsh) Tryd.func23 rfl rfl (Opds.cons Is.rfl' (Opds.cons Is.rfl' Opds.nil))) rfl ?_
                      refine X.u (LU.assignR Is.rfl') rfl ?_
                      refine LL.nil (after_code ?_)
                      refine LW.seq ?_
                      refine LW.region ?_
                      refine X.u (LU.moveR Is.rfl') rfl ?_
                      refine X.u (LU.moveR Is.rfl') rfl ?_
                      refine X.act (X.call (hrv) Tryd.func20 rfl rfl rfl (by (refine HSub.pick 0 rfl ?_); (refine HSub.pick 0 rfl ?_); exact HSub.refl _) (Opds.cons Is.rfl' (Opds.cons Is.rfl' Opds.nil)) ?_)
                      rintro r H' ⟨rfl, rfl⟩
                      refine X.u (LU.assignR Is.rfl') rfl ?_
                      refine LL.nil (after_code ?_)
                      refine LW.seq ?_
                      refine LW.region ?_
                      refine X.u (LU.loadO 2 rfl ⟨Tryd.sizeOf42, Tryd.isAgg42⟩ Is.rfl' (Part.whole (by (simp; done)))) rfl ?_
                      refine X.u (LU.moveR Is.rfl') rfl ?_
                      refine X.u (LU.call (hrr) Tryd.func25 rfl rfl (Opds.cons Is.rfl' (Opds.cons Is.rfl' Opds.nil))) rfl ?_
                      refine X.u (LU.moveT Is.rfl') rfl ?_
                      refine X.u (LU.extract Is.rfl' rfl) rfl ?_
                      refine X.u (LU.extract Is.rfl' rfl) rfl ?_
                      refine X.act (X.store 2 rfl Tryd.sizeOf42 Is.rfl' Is.rfl' (by exact Cells.agg) (by (simp; done)) (by (simp; done)) ?_)
                      refine X.u (LU.assignR Is.rfl') rfl ?_
                      refine LL.nil (after_code ?_)
                      refine LW.seq ?_
                      refine LW.region ?_
                      refine X.u (LU.moveR Is.rfl') rfl ?_
                      refine X.u (LU.moveR Is.rfl') rfl ?_
                      refine X.u (LU.weak (LU.neq Is.rfl' Is.rfl') (asB (c := false) rfl (by simp))) rfl ?_
                      refine LL.nil (after_code ?_)
                      refine X.condF rfl ?_ ?_
                      · rfl
                      refine LW.skip (after_blk (after_rnd ?_))
                      refine X.meets (revL bk T) rfl (EnvLe.nil) (Keeps.cons (by exact Eq.trans (b := .raw _) rfl rfl) (Keeps.cons (by exact Eq.trans (b := .raw _) rfl rfl) (Keeps.cons (by exact Eq.trans (b := .sl _ _ _) rfl rfl) (Keeps.cons (by exact Eq.trans (b := .raw _) rfl rfl) (Keeps.cons (by exact Eq.trans (b := .raw _) rfl rfl) (Keeps.nil)))))) (by repeat (first | exact HSub.refl _ | refine HSub.pick 1 rfl ?_)) ?_
                      exact hBr
              · rintro bk2 hI
                have hB2 := hI
                have hbl3 := hB2.1
                refine LW.seq ?_
                refine LW.invM (m := 6) (γ := Unit × Unit) [(0, 158), (1, 159), (2, 160), (3, 161), (4, 162), (5, 163)] (fun g_ d => match g_ with | ⟨za, zb⟩ => match d with | 158 => pt gx | 159 => i64 (bk2.length : Nat) | 160 => .raw (.pointer (some ⟨bx, 1, none⟩)) | 161 => .sl 4 (tks bk2) .unk | 162 => i64 (bk2.length : Nat) | 163 => bl false | _ => .any) (fun g_ f => match g_ with | ⟨za, zb⟩ => bkC gx m sec :: bkM m bk2 :: .cells bx 42 (rb sec bk2) :: .cells b10 33 (acL x) :: kw :: pw :: Rf) ((), ()) rfl (by kernel_rfl) rfl rfl ((HSub.refl _)) ?_ ?_
                · intro i hi f g_ hfi hdir hdown
                  obtain ⟨za, zb⟩ := g_
                  have hc : i = 0 ∨ i = 1 ∨ i = 2 ∨ i = 3 ∨ i = 4 ∨ i = 5 := by omega
                  rcases hc with rfl | rfl | rfl | rfl | rfl | rfl
                  · refine ⟨_, rfl, ?_⟩
                    refine A.u (LU.moveR Is.rfl') rfl ?_
                    refine ⟨⟨za, zb⟩, Weaker.mk' ?_ (HSub.refl _)⟩
                    refine env_back0 (envS_hit (sl := [(0, 158), (1, 159), (2, 160), (3, 161), (4, 162), (5, 163)]) (j := 0) (d := 158) rfl (fun _ _ h => h))  (envS_next ?_)
                    · intro p hp hne; simp only [List.mem_cons, List.not_mem_nil, or_false] at hp; rcases hp with rfl | rfl | rfl | rfl | rfl | rfl <;> first | exact absurd rfl hne | exact ⟨rfl, rfl⟩
                  · have d0 := hdir 0 (List.mem_of_elem_eq_true (by kernel_rfl))
                    refine ⟨_, rfl, ?_⟩
                    refine LP.weak (t := 158) (v := pt gx) (envS_is (j := 0) rfl d0) ?_
                    refine A.act (X.call (len16_calls gx m sec bk2) Tryd.func17 rfl rfl rfl (HSub.refl _) (Opds.cons Is.rfl' Opds.nil) ?_)
                    rintro r H' ⟨rfl, rfl⟩
                    refine ⟨⟨za, zb⟩, Weaker.mk' ?_ (HSub.refl _)⟩
                    refine env_back1 (envS_hit (sl := [(0, 158), (1, 159), (2, 160), (3, 161), (4, 162), (5, 163)]) (j := 1) (d := 159) rfl (fun _ _ h => h)) (envS_hit (sl := [(0, 158), (1, 159), (2, 160), (3, 161), (4, 162), (5, 163)]) (j := 0) (d := 158) rfl (fun _ _ h => h)) (envS_next ?_)
                    · intro p hp hne; simp only [List.mem_cons, List.not_mem_nil, or_false] at hp; rcases hp with rfl | rfl | rfl | rfl | rfl | rfl <;> first | exact absurd rfl hne | exact ⟨rfl, rfl⟩
                  · refine ⟨_, rfl, ?_⟩
                    refine A.u (LU.fieldO Tryd.underlying42 rfl Tryd.sizeOf40 (by decide) Is.rfl') rfl ?_
                    refine ⟨⟨za, zb⟩, Weaker.mk' ?_ (HSub.refl _)⟩
                    refine env_back0 (envS_hit (sl := [(0, 158), (1, 159), (2, 160), (3, 161), (4, 162), (5, 163)]) (j := 2) (d := 160) rfl (fun _ _ h => h))  (envS_next ?_)
                    · intro p hp hne; simp only [List.mem_cons, List.not_mem_nil, or_false] at hp; rcases hp with rfl | rfl | rfl | rfl | rfl | rfl <;> first | exact absurd rfl hne | exact ⟨rfl, rfl⟩
                  · have d2 := hdir 2 (List.mem_of_elem_eq_true (by kernel_rfl))
                    refine ⟨_, rfl, ?_⟩
                    refine LP.weak (t := 160) (v := .raw (.pointer (some ⟨bx, 1, none⟩))) (envS_is (j := 2) rfl d2) ?_
                    refine A.u (LU.loadO 2 rfl ⟨Tryd.sizeOf40, Tryd.isAgg40⟩ Is.rfl' (Part.one rfl)) rfl ?_
                    refine ⟨⟨za, zb⟩, Weaker.mk' ?_ (HSub.refl _)⟩
                    refine env_back1 (envS_hit (sl := [(0, 158), (1, 159), (2, 160), (3, 161), (4, 162), (5, 163)]) (j := 3) (d := 161) rfl (fun _ _ h => h)) (envS_hit (sl := [(0, 158), (1, 159), (2, 160), (3, 161), (4, 162), (5, 163)]) (j := 2) (d := 160) rfl (fun _ _ h => h)) (envS_next ?_)
                    · intro p hp hne; simp only [List.mem_cons, List.not_mem_nil, or_false] at hp; rcases hp with rfl | rfl | rfl | rfl | rfl | rfl <;> first | exact absurd rfl hne | exact ⟨rfl, rfl⟩
                  · have d3 := hdir 3 (List.mem_of_elem_eq_true (by kernel_rfl))
                    refine ⟨_, rfl, ?_⟩
                    refine LP.weak (t := 161) (v := .sl 4 (tks bk2) .unk) (envS_is (j := 3) rfl d3) ?_
                    refine A.u (LU.weak (LU.lenN Tryd.underlying40 Is.rfl' (by (simp only [Option.getD_some, Option.getD_none, byteEls_length, intEls_length, List.length_append, List.length_cons, List.length_nil, List.length_map, List.length_drop, List.length_take, Int.toNat_natCast]; rfl))) (Is.of (y := i64 (bk2.length : Nat)) (congrArg i64 (by simp)))) rfl ?_
                    refine ⟨⟨za, zb⟩, Weaker.mk' ?_ (HSub.refl _)⟩
                    refine env_back1 (envS_hit (sl := [(0, 158), (1, 159), (2, 160), (3, 161), (4, 162), (5, 163)]) (j := 4) (d := 162) rfl (fun _ _ h => h)) (envS_hit (sl := [(0, 158), (1, 159), (2, 160), (3, 161), (4, 162), (5, 163)]) (j := 3) (d := 161) rfl (fun _ _ h => h)) (envS_next ?_)
                    · intro p hp hne; simp only [List.mem_cons, List.not_mem_nil, or_false] at hp; rcases hp with rfl | rfl | rfl | rfl | rfl | rfl <;> first | exact absurd rfl hne | exact ⟨rfl, rfl⟩
                  · have d1 := hdir 1 (List.mem_of_elem_eq_true (by kernel_rfl))
                    have d4 := hdir 4 (List.mem_of_elem_eq_true (by kernel_rfl))
                    refine ⟨_, rfl, ?_⟩
                    refine LP.weak (t := 159) (v := i64 (bk2.length : Nat)) (envS_is (j := 1) rfl d1) ?_
                    refine LP.weak (t := 162) (v := i64 (bk2.length : Nat)) (envS_is (j := 4) rfl d4) ?_
                    refine A.u (LU.weak (LU.neq Is.rfl' Is.rfl') (asB (c := false) rfl (by simp))) rfl ?_
                    refine ⟨⟨za, zb⟩, Weaker.mk' ?_ (HSub.refl _)⟩
                    refine env_back2 (envS_hit (sl := [(0, 158), (1, 159), (2, 160), (3, 161), (4, 162), (5, 163)]) (j := 5) (d := 163) rfl (fun _ _ h => h)) (envS_hit (sl := [(0, 158), (1, 159), (2, 160), (3, 161), (4, 162), (5, 163)]) (j := 4) (d := 162) rfl (fun _ _ h => h)) (envS_hit (sl := [(0, 158), (1, 159), (2, 160), (3, 161), (4, 162), (5, 163)]) (j := 1) (d := 159) rfl (fun _ _ h => h)) (envS_next ?_)
                    · intro p hp hne; simp only [List.mem_cons, List.not_mem_nil, or_false] at hp; rcases hp with rfl | rfl | rfl | rfl | rfl | rfl <;> first | exact absurd rfl hne | exact ⟨rfl, rfl⟩
                · intro g_ f hf_
                  obtain ⟨za, zb⟩ := g_
                  refine LL.nil (after_code ?_)
                  refine X.condF rfl ?_ ?_
                  · rfl
                  refine LW.skip (after_blk (after_code ?_))
                  refine LW.region ?_
                  refine X.u (LU.addN Is.rfl' Is.rfl' (wrap_i64 (by omega) (by omega))) rfl ?_
                  refine X.u (LU.moveR Is.rfl') rfl ?_
                  refine LL.nil (after_rnd ?_)
                  refine X.next ((k + 1, bk2)) rfl (EnvLe.cons (by rfl) (EnvLe.nil)) (Keeps.cons (by exact Eq.trans (b := .raw _) rfl rfl) (Keeps.cons (by exact Eq.trans (b := .raw _) rfl rfl) (Keeps.cons (by exact Eq.trans (b := .sl _ _ _) rfl rfl) (Keeps.cons (by exact Eq.trans (b := .raw _) rfl rfl) (Keeps.nil))))) (by repeat (first | exact HSub.refl _ | refine HSub.pick 0 rfl ?_ | refine HSub.pick 1 rfl ?_ | refine HSub.drop ?_)) ?_ ?_
                  · exact ⟨by omega, hB2⟩
                  · (simp; omega)
            · try have h11 := of_decide_eq_false h11
              refine LW.exit (exit_code (exit_rnd (exit_blk (after_code ?_))))
              refine LW.seq ?_
              refine LW.region ?_
              refine X.act (X.call (lives16_calls) Tryd.func14 rfl rfl rfl (by (refine HSub.pick 3 rfl ?_); (refine HSub.pick 3 rfl ?_); exact HSub.refl _) Opds.nil ?_)
              rintro r H' ⟨rfl, rfl⟩
              refine X.u (LU.assignR Is.rfl') rfl ?_
              refine LL.nil (after_code ?_)
              refine LW.ret (after_end ?_)
              refine X.ret (H' := [kw, pw]) (Res.one (by exact IsR rfl)) (by repeat (first | exact HSub.refl _ | refine HSub.pick 0 rfl ?_ | refine HSub.drop ?_)) ?_
              exact ⟨rfl, rfl⟩
theorem TokenPlays_row (x0 x1 : List (List LV)) (h0 : ∀ c ∈ x0, QInt .u8 c) (h1 : x0.length * 1 ≤ reachBytes) (h2 : ∀ c ∈ x1, QAc c) (h3 : x1.length * 72 ≤ reachBytes) : LCalls Tryd.prog 5 [.sl 1 x0 .unk, .sl 7 x1 .unk] [kw, pw] (fun r H' => r = .raw (.bool true) ∧ H' = [kw, pw]) := by
  obtain ⟨sec, rfl⟩ := decode_bytes h0
  obtain ⟨l, rfl, hl⟩ := acs_of h2
  rw [byteEls_length] at h1
  rw [List.length_map] at h3
  have hr := reachBytes_lt
  exact plays16_calls sec l (by omega) (by omega) hl
end Go.Proofs.YtnfeepmgdahmgaaDoor
