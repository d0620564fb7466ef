/- DepsTurned. -/
import Derived.Test.YtmaeepckfbnpjaaDqK
set_option linter.unusedVariables false
set_option linter.unusedSimpArgs false
namespace Go.Proofs.Ytmaeepckfbnpjaa
open Go.RowKit Go.L Go.Lib
attribute [local irreducible] LL LW LO
theorem tmod_nat (a b c : Nat) : ((a : Int) + b).tmod (c : Int) = (((a + b) % c : Nat) : Int) := by
  rw [← Int.natCast_add, Int.ofNat_tmod]
theorem its_size (l : List It) : ∀ e ∈ its l, e.length = 33 := fun e he => by obtain ⟨x, _, rfl⟩ := List.mem_map.1 he; exact it_len x
set_option maxHeartbeats 4000000 in
set_option maxRecDepth 100000 in
theorem dq_calls (l : List It) (turn : Int) (h : Hs) (k0 : Cap) (hl : l.length < 140737488355328) (hin : ∀ x ∈ l, x.deps.length < 140737488355328) : LCalls Try.prog 6 [.sl 33 (its l) k0, i64 turn, .agg (hsL h)] [] (fun r _ => r = .raw (.bool true)) := by
  have hx2 : h.1.length = 32 := h.2
  obtain ⟨ns, hns⟩ := isN_ex l h
  obtain ⟨az, haz⟩ := isA_ex l h
  have hnl := hns.len
  have hal := haz.len
  have hml := missS_len l
  have hol := orderS_len l
  refine LCalls.of Try.func6 rfl Try.ntmps6 Try.results6 rfl (fun Rf => ?_)
  refine LW.seq ?_
  refine LW.region ?_
  refine X.act (X.box rfl Is.rfl' (by exact Cells.agg) (fun b5 => ?_))
  refine X.u (LU.assignR Is.rfl') rfl ?_
  refine LL.nil (after_code ?_)
  refine LW.seq ?_
  refine LW.seq ?_
  refine LW.region ?_
  refine X.u (LU.moveS Is.rfl') rfl ?_
  refine X.u (LU.call (light_calls l k0 hl hin) Try.func8 rfl rfl (Opds.cons Is.rfl' Opds.nil)) rfl ?_
  refine X.u (LU.not Is.rfl') rfl ?_
  refine X.u (LU.moveR Is.rfl') rfl ?_
  refine X.gF rfl rfl (fun hg => LU.moveS (by exact Is.rfl')) rfl ?_
  refine X.gF rfl rfl (fun hg => LU.lenN Try.underlying22 (by exact Is.whenN hg) (by (simp only [Option.getD_some, Option.getD_none, byteEls_length, intEls_length, List.length_append, List.length_cons, List.length_nil, List.length_map, List.length_drop, List.length_take, Int.toNat_natCast]; rfl))) rfl ?_
  refine X.gF rfl rfl (fun hg => LU.gtr (by exact Is.whenN hg) (by exact Is.rfl')) rfl ?_
  refine X.u (LU.pickOr Is.rfl' Is.rfl' (fun hq => (by exact Is.whenN hq))) rfl ?_
  refine LL.nil (after_code ?_)
  refine X.cond rfl (fun h1 => ?_) (fun h1 => ?_)
  · have h1 : True := trivial
    refine LW.seq ?_
    refine LW.region ?_
    refine X.u (LU.call (lives_calls) Try.func9 rfl rfl Opds.nil) rfl ?_
    refine X.u (LU.assignR Is.rfl') rfl ?_
    refine LL.nil (after_code ?_)
    refine LW.ret (ret_code (after_end ?_))
    refine X.ret (H' := []) (Res.one (by exact IsR rfl)) (by repeat (first | exact HSub.refl _ | refine HSub.drop ?_)) ?_
    exact rfl
  · have h1 : lightS l = true ∧ l.length ≤ 60 := by simp at h1; exact ⟨h1.1, by omega⟩
    have h2 : totalD l ≤ 400 ∧ l.length ≤ 300 := by simpa [lightS] using h1.1
    obtain ⟨hd1, hl1⟩ := h2
    have hl6 := h1.2
    obtain ⟨k, hk1⟩ : ∃ k : Nat, 0 < l.length → (IntKind.u64.wrap turn).tmod (l.length : Int) = k ∧ k < l.length := by
      by_cases c : 0 < l.length
      · obtain ⟨k, hk⟩ := turn_k turn l.length c
        exact ⟨k, fun _ => hk⟩
      · exact ⟨0, fun e => absurd e c⟩
    refine LW.skip (after_code ?_)
    refine LW.seq ?_
    refine LW.region ?_
    refine X.u (LU.assign (Is.nil 33)) rfl ?_
    refine LL.nil (after_code ?_)
    refine LW.seq ?_
    refine LW.seq ?_
    refine LW.region ?_
    refine X.u (LU.moveS Is.rfl') rfl ?_
    refine X.u (LU.lenN Try.underlying22 Is.rfl' (by (simp only [Option.getD_some, Option.getD_none, byteEls_length, intEls_length, List.length_append, List.length_cons, List.length_nil, List.length_map, List.length_drop, List.length_take, Int.toNat_natCast]; rfl))) rfl ?_
    refine X.u (LU.moveR Is.rfl') rfl ?_
    refine LL.nil (after_code ?_)
    refine LW.block ?_
    refine X.wweak (t := 7) (v := .sl 33 (its []) .unk) Is.unk ?_
    refine X.loopK (α := Nat) (fun i => [(27, i64 i), (7, .sl 33 (its (turnI l k i)) .unk)]) [0, 1, 5, 6, 26] (fun i => .cells b5 34 (hsL h) :: Rf) (fun i => i ≤ l.length) (fun i => l.length - i) (0) (EnvLe.cons (by rfl) (EnvLe.cons (by rfl) (EnvLe.nil))) (by repeat (exact HSub.refl _)) ?_ ?_
    · exact Nat.zero_le _
    · rintro i hI
      refine LW.seq ?_
      refine LW.region ?_
      refine X.u (LU.lss Is.rfl' Is.rfl') rfl ?_
      refine LL.nil (after_code ?_)
      refine LW.seq ?_
      refine X.cond rfl (fun h5 => ?_) (fun h5 => ?_)
      · try have h5 := of_decide_eq_true h5
        refine LW.skip (after_code ?_)
        refine LW.seq ?_
        refine LW.block ?_
        refine LW.seq ?_
        have hne : 0 < l.length := by omega
        obtain ⟨hk2, hk3⟩ := hk1 hne
        obtain ⟨j, hj⟩ : ∃ j, j = (i + k) % l.length := ⟨_, rfl⟩
        have hjl : j < l.length := hj ▸ Nat.mod_lt _ hne
        obtain ⟨x, hx⟩ := at_lt hjl
        have hrx : (rotI l k)[i]? = some x := by rw [rot_at (by omega) hk3, ← hj]; exact hx
        have htot := totalD_at hx
        have hxl := it_len x
        have hxn : x.name.1.length = 32 := x.name.2
        have htl := turn_len (l := l) (k := k) (i := i) hI
        refine LW.region ?_
        refine X.u (LU.moveR Is.rfl') rfl ?_
        refine X.u (LU.assignR Is.rfl') rfl ?_
        refine LL.nil (after_code ?_)
        refine LW.seq ?_
        refine LW.region ?_
        refine X.u (LU.moveS Is.rfl') rfl ?_
        refine X.u (LU.moveR Is.rfl') rfl ?_
        refine X.u (LU.moveR Is.rfl') rfl ?_
        refine X.u (LU.conv Try.underlying3 Try.underlying41 Is.rfl') rfl ?_
        refine X.u (LU.moveS Is.rfl') rfl ?_
        refine X.u (LU.lenN Try.underlying22 Is.rfl' (by (simp only [Option.getD_some, Option.getD_none, byteEls_length, intEls_length, List.length_append, List.length_cons, List.length_nil, List.length_map, List.length_drop, List.length_take, Int.toNat_natCast]; rfl))) rfl ?_
        refine X.u (LU.convN Try.underlying3 Try.underlying41 Is.rfl' (wrap_u64 (by omega) (by omega))) rfl ?_
        refine X.u (LU.weak (LU.rem Is.rfl' Is.rfl' (by omega)) (Is.of (y := .raw (.int .u64 ((k : Nat) : Int))) (congrArg (fun z => LV.raw (.int .u64 z)) hk2))) rfl ?_
        refine X.u (LU.convN Try.underlying41 Try.underlying3 Is.rfl' (wrap_i64 (by omega) (by omega))) rfl ?_
        refine X.u (LU.addN Is.rfl' Is.rfl' (wrap_i64 (by omega) (by omega))) rfl ?_
        refine X.u (LU.moveS Is.rfl') rfl ?_
        refine X.u (LU.lenN Try.underlying22 Is.rfl' (by (simp only [Option.getD_some, Option.getD_none, byteEls_length, intEls_length, List.length_append, List.length_cons, List.length_nil, List.length_map, List.length_drop, List.length_take, Int.toNat_natCast]; rfl))) rfl ?_
        refine X.u (LU.weak (LU.rem Is.rfl' Is.rfl' (by omega)) (Is.of (y := .raw (.int .i64 ((j : Nat) : Int))) (congrArg (fun z => LV.raw (.int .i64 z)) (by rw [tmod_nat, hj])))) rfl ?_
        refine X.u (LU.at Try.underlying22 ⟨Try.sizeOf36, Try.isAgg36⟩ Is.rfl' Is.rfl' (by omega) (its_at hx) (by simp)) rfl ?_
        refine X.u (LU.load ⟨Try.sizeOf36, Try.isAgg36⟩ Is.rfl' (by assumption) (Part.whole (by assumption))) rfl ?_
        refine X.act (X.alloc rfl Try.zeroValue36 (by exact Cells.rawagg (by decide)) (fun b9 => ?_))
        refine X.act (X.store 0 rfl Try.sizeOf36 Is.rfl' Is.rfl' (by exact Cells.agg) (by assumption) (by exact Nat.le_of_ble_eq_true rfl) ?_)
        refine LL.nil (after_code ?_)
        refine LW.seq ?_
        refine X.wcells (ys := itL x) (putAt_all (by rw [hxl]; rfl)) ?_
        refine LW.region ?_
        refine X.u (LU.assign (Is.nil 32)) rfl ?_
        refine LL.nil (after_code ?_)
        refine LW.seq ?_
        refine LW.seq ?_
        refine LW.region ?_
        refine X.u (LU.fieldO Try.underlying36 rfl Try.sizeOf26 (by decide) Is.rfl') rfl ?_
        refine X.u (LU.loadO 0 rfl ⟨Try.sizeOf26, Try.isAgg26⟩ Is.rfl' (Part.one (it_deps x))) rfl ?_
        refine X.u (LU.lenN Try.underlying26 Is.rfl' (by (simp only [Option.getD_some, Option.getD_none, byteEls_length, intEls_length, List.length_append, List.length_cons, List.length_nil, List.length_map, List.length_drop, List.length_take, Int.toNat_natCast]; rfl))) rfl ?_
        refine X.u (LU.moveR Is.rfl') rfl ?_
        refine LL.nil (after_code ?_)
        refine LW.block ?_
        refine X.wweak (t := 10) (v := .sl 32 (hss []) (.tok 0 0 0)) (Is.full_tok 0 0) ?_
        refine X.wghost (HSub.tail0 0 0 0 (Nat.le_refl _) _) ?_
        refine X.loopK (α := Nat × Nat × Nat × Nat) (fun ⟨q, tb, to, tc⟩ => [(48, i64 q), (10, .sl 32 (hss (x.deps.reverse.take q)) (.tok tb to tc))]) [0, 1, 5, 6, 7, 9, 26, 27, 47] (fun ⟨q, tb, to, tc⟩ => .tail tb to tc :: .cells b9 36 (itL x) :: .cells b5 34 (hsL h) :: Rf) (fun ⟨q, tb, to, tc⟩ => q ≤ x.deps.length) (fun ⟨q, tb, to, tc⟩ => x.deps.length - q) ((0, 0, 0, 0)) (EnvLe.cons (by rfl) (EnvLe.cons (by rfl) (EnvLe.nil))) (by repeat (exact HSub.refl _)) ?_ ?_
        · exact Nat.zero_le _
        · rintro ⟨q, tb, to, tc⟩ hI
          have hq := hI
          refine LW.seq ?_
          refine LW.region ?_
          refine X.u (LU.lss Is.rfl' Is.rfl') rfl ?_
          refine LL.nil (after_code ?_)
          refine LW.seq ?_
          refine X.cond rfl (fun h10 => ?_) (fun h10 => ?_)
          · try have h10 := of_decide_eq_true h10
            refine LW.skip (after_code ?_)
            refine LW.seq ?_
            refine LW.block ?_
            refine LW.seq ?_
            refine LW.region ?_
            refine X.u (LU.moveR Is.rfl') rfl ?_
            refine X.u (LU.assignR Is.rfl') rfl ?_
            refine LL.nil (after_code ?_)
            have hql : q < x.deps.length := by omega
            obtain ⟨e_, hd2⟩ := at_lt (show x.deps.length - 1 - q < x.deps.length by omega)
            have hdl : e_.1.length = 32 := e_.2
            have hd3 : x.deps.reverse[q]? = some e_ := by rw [← rev_at hql]; exact hd2
            have htk : (x.deps.reverse.take q).length ≤ 400 := by rw [List.length_take, List.length_reverse]; omega
            refine LW.region ?_
            refine X.u (LU.moveS Is.rfl') rfl ?_
            refine X.u (LU.fieldO Try.underlying36 rfl Try.sizeOf26 (by decide) Is.rfl') rfl ?_
            refine X.u (LU.loadO 1 rfl ⟨Try.sizeOf26, Try.isAgg26⟩ Is.rfl' (Part.one (it_deps x))) rfl ?_
            refine X.u (LU.fieldO Try.underlying36 rfl Try.sizeOf26 (by decide) Is.rfl') rfl ?_
            refine X.u (LU.loadO 1 rfl ⟨Try.sizeOf26, Try.isAgg26⟩ Is.rfl' (Part.one (it_deps x))) rfl ?_
            refine X.u (LU.lenN Try.underlying26 Is.rfl' (by (simp only [Option.getD_some, Option.getD_none, byteEls_length, intEls_length, List.length_append, List.length_cons, List.length_nil, List.length_map, List.length_drop, List.length_take, Int.toNat_natCast]; rfl))) rfl ?_
            refine X.u (LU.subN Is.rfl' Is.rfl' (wrap_i64 (by omega) (by omega))) rfl ?_
            refine X.u (LU.moveR Is.rfl') rfl ?_
            refine X.u (LU.weak (LU.subN Is.rfl' Is.rfl' (wrap_i64 (by omega) (by omega))) (Is.of (y := i64 ((x.deps.length - 1 - q : Nat) : Int)) (congrArg i64 (by omega)))) rfl ?_
            refine X.u (LU.at Try.underlying26 ⟨Try.sizeOf34, Try.isAgg34⟩ Is.rfl' Is.rfl' (by omega) (hss_at hd2) (hs_ne e_)) rfl ?_
            refine X.u (LU.weak (LU.load ⟨Try.sizeOf34, Try.isAgg34⟩ Is.rfl' (by (simp; omega)) (Part.whole (by (simp; omega)))) (Is.of (y := .agg (hsL e_)) (rfl))) rfl ?_
            refine X.u (LU.lits Try.underlying26 Try.sizeOf34 Try.zeroValue34 (ones rfl) rfl (by decide) (by decide) (Elems.cons Is.rfl' (by exact Cells.agg) Elems.nil) (by (simp; assumption)) rfl) rfl ?_
            refine X.act (X.append 0 rfl rfl Try.underlying26 (El.of (P := Try.prog) (z := (.agg #[(.int .u8 0), (.int .u8 0), (.int .u8 0), (.int .u8 0), (.int .u8 0), (.int .u8 0), (.int .u8 0), (.int .u8 0), (.int .u8 0), (.int .u8 0), (.int .u8 0), (.int .u8 0), (.int .u8 0), (.int .u8 0), (.int .u8 0), (.int .u8 0), (.int .u8 0), (.int .u8 0), (.int .u8 0), (.int .u8 0), (.int .u8 0), (.int .u8 0), (.int .u8 0), (.int .u8 0), (.int .u8 0), (.int .u8 0), (.int .u8 0), (.int .u8 0), (.int .u8 0), (.int .u8 0), (.int .u8 0), (.int .u8 0)])) (size := 32) (bytes := 32) rfl rfl rfl) Is.rfl' Is.rfl' (SrcL.slice Try.underlying26 (by decide) (by intro e he; rw [List.mem_singleton.1 he, List.length_map]; exact hdl)) (by simp only [Option.getD_some, Option.getD_none, byteEls_length, intEls_length, List.length_append, List.length_cons, List.length_nil, List.length_map, List.length_drop, List.length_take, Int.toNat_natCast]; omega) (by simp only [Option.getD_some, Option.getD_none, byteEls_length, intEls_length, List.length_append, List.length_cons, List.length_nil, List.length_map, List.length_drop, List.length_take, Int.toNat_natCast]; omega) (fun b63 o63 c63 => X.weak (t := 63) (Is.of (y := .sl 32 (hss (x.deps.reverse.take (q + 1))) (.tok b63 o63 c63)) (congrArg (fun z => LV.sl 32 z (.tok b63 o63 c63)) (by rw [take_snoc hd3]; exact hss_app _ [e_]))) ?_))
            refine X.u (LU.assignS Is.rfl') rfl ?_
            refine LL.nil (after_blk (after_code ?_))
            refine LW.region ?_
            refine X.u (LU.addN Is.rfl' Is.rfl' (wrap_i64 (by omega) (by omega))) rfl ?_
            refine X.u (LU.moveR Is.rfl') rfl ?_
            refine LL.nil (after_rnd ?_)
            refine X.next ((q + 1, b63, o63, c63)) rfl (EnvLe.cons (by rfl) (EnvLe.cons (by rfl) (EnvLe.nil))) (Keeps.cons (by exact Eq.trans (b := .sl _ _ _) rfl rfl) (Keeps.cons (by exact Eq.trans (b := .raw _) rfl rfl) (Keeps.cons (by exact Eq.trans (b := .raw _) rfl rfl) (Keeps.cons (by exact Eq.trans (b := .raw _) rfl rfl) (Keeps.cons (by exact Eq.trans (b := .sl _ _ _) rfl rfl) (Keeps.cons (by exact Eq.trans (b := .raw _) rfl rfl) (Keeps.cons (by exact Eq.trans (b := .raw _) rfl rfl) (Keeps.cons (by exact Eq.trans (b := .raw _) rfl rfl) (Keeps.cons (by exact Eq.trans (b := .raw _) rfl rfl) (Keeps.nil)))))))))) (by repeat (exact HSub.refl _)) ?_ ?_
            · omega
            · (simp; omega)
          · try have h10 := of_decide_eq_false h10
            refine LW.exit (exit_code (exit_rnd (exit_blk (after_code ?_))))
            refine LW.region ?_
            refine X.u (LU.fieldO Try.underlying36 rfl Try.sizeOf34 (by decide) Is.rfl') rfl ?_
            refine X.u (LU.weak (LU.loadO 1 rfl ⟨Try.sizeOf34, Try.isAgg34⟩ Is.rfl' (Part.sub (by (simp; omega)))) (Is.of (y := .agg (hsL x.name)) (congrArg LV.agg (it_name x)))) rfl ?_
            refine X.u (LU.moveS Is.rfl') rfl ?_
            refine X.u (LU.weak (LU.weak (LU.build (places := #[(0, 32), (32, 1)]) Try.underlying36 Try.zeroValue36 (ones rfl) (by intro w; simp [Try.sizeOf26, Try.sizeOf34]) (Parts.cons Is.rfl' (by exact Cells.agg) (Parts.cons Is.rfl' (by exact Cells.sl) Parts.nil)) (laid_it (by rw [List.length_map, hxn]) rfl)) (Is.of (y := .agg (hsL x.name ++ [.sl 32 (hss (x.deps.reverse)) (.tok tb to tc)])) (by rw [List.take_of_length_le (by rw [List.length_reverse]; omega)]))) (is_last Is.unk)) rfl ?_
            refine X.u (LU.lits Try.underlying22 Try.sizeOf36 Try.zeroValue36 (ones rfl) rfl (by decide) (by decide) (Elems.cons Is.rfl' (by exact Cells.agg) Elems.nil) (by (simp; assumption)) rfl) rfl ?_
            refine X.u (LU.moveS Is.rfl') rfl ?_
            refine X.u (LU.weak (LU.append Try.underlying22 (El.of (P := Try.prog) (z := (.agg #[(.int .u8 0), (.int .u8 0), (.int .u8 0), (.int .u8 0), (.int .u8 0), (.int .u8 0), (.int .u8 0), (.int .u8 0), (.int .u8 0), (.int .u8 0), (.int .u8 0), (.int .u8 0), (.int .u8 0), (.int .u8 0), (.int .u8 0), (.int .u8 0), (.int .u8 0), (.int .u8 0), (.int .u8 0), (.int .u8 0), (.int .u8 0), (.int .u8 0), (.int .u8 0), (.int .u8 0), (.int .u8 0), (.int .u8 0), (.int .u8 0), (.int .u8 0), (.int .u8 0), (.int .u8 0), (.int .u8 0), (.int .u8 0), (.slice none 0 0)])) (size := 33) (bytes := 56) rfl rfl rfl) Is.rfl' Is.rfl' (SrcL.slice Try.underlying22 (by decide) (its_size (turnI l k i))) (by simp only [Option.getD_some, Option.getD_none, byteEls_length, intEls_length, List.length_append, List.length_cons, List.length_nil, List.length_map, List.length_drop, List.length_take, Int.toNat_natCast]; omega) (by simp only [Option.getD_some, Option.getD_none, byteEls_length, intEls_length, List.length_append, List.length_cons, List.length_nil, List.length_map, List.length_drop, List.length_take, Int.toNat_natCast]; omega)) (Is.of (y := .sl 33 (its (turnI l k (i + 1))) .unk) (congrArg (fun z => LV.sl 33 z .unk) (by rw [turn_step hrx]; rfl)))) rfl ?_
            refine X.u (LU.assignS Is.rfl') rfl ?_
            refine LL.nil (after_blk (after_code ?_))
            refine LW.region ?_
            refine X.u (LU.addN Is.rfl' Is.rfl' (wrap_i64 (by omega) (by omega))) rfl ?_
            refine X.u (LU.moveR Is.rfl') rfl ?_
            refine LL.nil (after_rnd ?_)
            refine X.next (i + 1) rfl (EnvLe.cons (by rfl) (EnvLe.cons (by rfl) (EnvLe.nil))) (Keeps.cons (by exact Eq.trans (b := .sl _ _ _) rfl rfl) (Keeps.cons (by exact Eq.trans (b := .raw _) rfl rfl) (Keeps.cons (by exact Eq.trans (b := .raw _) rfl rfl) (Keeps.cons (by exact Eq.trans (b := .raw _) rfl rfl) (Keeps.cons (by exact Eq.trans (b := .raw _) rfl rfl) (Keeps.nil)))))) (by repeat (first | exact HSub.refl _ | refine HSub.pick 2 rfl ?_ | refine HSub.drop ?_)) ?_ ?_
            · omega
            · omega
      · try have h5 := of_decide_eq_false h5
        refine LW.exit (exit_code (exit_rnd (exit_blk (after_code ?_))))
        refine LW.seq ?_
        have hil : i = l.length := by omega
        have hp := turn_perm l k
        have hpt := turn_total l k
        rw [hil]
        obtain ⟨m, hm⟩ : ∃ m, m = turnI l k l.length := ⟨_, rfl⟩
        rw [← hm] at hp hpt ⊢
        have hpl := tn_len hp
        obtain ⟨O, hO⟩ : ∃ O, O = orderS l := ⟨_, rfl⟩
        have ho1 := order_calls l k0 hl (by omega)
        have ho2 := order_calls m .unk (by omega) (by omega)
        rw [tn_order hp, ← hO] at ho2
        rw [← hO] at ho1 hol
        have hn2 := needs_calls m h ns .unk (by omega) (by omega) (tn_isN hp hns)
        have ha2 := above_calls m h az .unk (by omega) (by omega) (tn_isA hp haz)
        have hm2 := missing_calls m .unk (by omega) (by omega)
        rw [tn_miss hp] at hm2
        have hc2 := closed_calls m .unk (by omega) (by omega)
        rw [tn_closed hp] at hc2
        have hs0 := same_calls O.1 .unk .unk (by omega)
        have hs1 := same_calls ns .unk .unk (by omega)
        have hs2 := same_calls az .unk .unk (by omega)
        have hs3 := same_calls (missS l) .unk .unk (by omega)
        refine LW.region ?_
        refine X.u (LU.moveS Is.rfl') rfl ?_
        refine X.u (LU.call (ho1) Try.func11 rfl rfl (Opds.cons Is.rfl' Opds.nil)) rfl ?_
        refine X.u (LU.moveT Is.rfl') rfl ?_
        refine X.u (LU.extract Is.rfl' rfl) rfl ?_
        refine X.u (LU.extract Is.rfl' rfl) rfl ?_
        refine X.u (LU.assignS Is.rfl') rfl ?_
        refine X.u (LU.assignR Is.rfl') rfl ?_
        refine LL.nil (after_code ?_)
        refine LW.seq ?_
        refine LW.region ?_
        refine X.u (LU.moveS Is.rfl') rfl ?_
        refine X.u (LU.call (ho2) Try.func11 rfl rfl (Opds.cons Is.rfl' Opds.nil)) rfl ?_
        refine X.u (LU.moveT Is.rfl') rfl ?_
        refine X.u (LU.extract Is.rfl' rfl) rfl ?_
        refine X.u (LU.extract Is.rfl' rfl) rfl ?_
        refine X.u (LU.assignS Is.rfl') rfl ?_
        refine X.u (LU.assignR Is.rfl') rfl ?_
        refine LL.nil (after_code ?_)
        refine LW.seq ?_
        refine X.drawM 44 rfl (by kernel_rfl) rfl ?_
        refine QD.u (LU.moveR Is.rfl') rfl ?_
        refine QD.u (LU.moveR Is.rfl') rfl ?_
        refine QD.u (LU.weak (LU.eql Is.rfl' Is.rfl') (asB (c := true) rfl (by simp))) rfl ?_
        refine QD.u (LU.moveR Is.rfl') rfl ?_
        refine QD.doT rfl rfl (LU.moveS (by exact Is.rfl')) rfl ?_
        refine QD.doT rfl rfl (LU.moveS (by exact Is.rfl')) rfl ?_
        refine QD.doT rfl rfl (LU.call (hs0) Try.func13 rfl rfl (Opds.cons (by exact Is.rfl') (Opds.cons (by exact Is.rfl') Opds.nil))) rfl ?_
        refine QD.u (LU.pickT Is.rfl' (by exact Is.rfl')) rfl ?_
        refine QD.u (LU.moveR Is.rfl') rfl ?_
        refine QD.doT rfl rfl (LU.moveS (by exact Is.rfl')) rfl ?_
        refine QD.doT rfl rfl (LU.weak (LU.loadO 0 rfl ⟨Try.sizeOf34, Try.isAgg34⟩ (by exact Is.rfl') (Part.sub (by (simp; omega)))) (Is.of (y := .agg (hsL h)) (hs_whole h))) rfl ?_
        refine QD.doT rfl rfl (LU.call (needs_calls l h ns k0 hl (by omega) hns) Try.func14 rfl rfl (Opds.cons (by exact Is.rfl') (Opds.cons (by exact Is.rfl') Opds.nil))) rfl ?_
        refine QD.doT rfl rfl (LU.moveS (by exact Is.rfl')) rfl ?_
        refine QD.doT rfl rfl (LU.weak (LU.loadO 0 rfl ⟨Try.sizeOf34, Try.isAgg34⟩ (by exact Is.rfl') (Part.sub (by (simp; omega)))) (Is.of (y := .agg (hsL h)) (hs_whole h))) rfl ?_
        refine QD.doT rfl rfl (LU.call (hn2) Try.func14 rfl rfl (Opds.cons (by exact Is.rfl') (Opds.cons (by exact Is.rfl') Opds.nil))) rfl ?_
        refine QD.doT rfl rfl (LU.call (hs1) Try.func13 rfl rfl (Opds.cons (by exact Is.rfl') (Opds.cons (by exact Is.rfl') Opds.nil))) rfl ?_
        refine QD.u (LU.pickT Is.rfl' (by exact Is.rfl')) rfl ?_
        refine QD.u (LU.moveR Is.rfl') rfl ?_
        refine QD.doT rfl rfl (LU.moveS (by exact Is.rfl')) rfl ?_
        refine QD.doT rfl rfl (LU.weak (LU.loadO 0 rfl ⟨Try.sizeOf34, Try.isAgg34⟩ (by exact Is.rfl') (Part.sub (by (simp; omega)))) (Is.of (y := .agg (hsL h)) (hs_whole h))) rfl ?_
        refine QD.doT rfl rfl (LU.call (above_calls l h az k0 hl (by omega) haz) Try.func16 rfl rfl (Opds.cons (by exact Is.rfl') (Opds.cons (by exact Is.rfl') Opds.nil))) rfl ?_
        refine QD.doT rfl rfl (LU.moveS (by exact Is.rfl')) rfl ?_
        refine QD.doT rfl rfl (LU.weak (LU.loadO 0 rfl ⟨Try.sizeOf34, Try.isAgg34⟩ (by exact Is.rfl') (Part.sub (by (simp; omega)))) (Is.of (y := .agg (hsL h)) (hs_whole h))) rfl ?_
        refine QD.doT rfl rfl (LU.call (ha2) Try.func16 rfl rfl (Opds.cons (by exact Is.rfl') (Opds.cons (by exact Is.rfl') Opds.nil))) rfl ?_
        refine QD.doT rfl rfl (LU.call (hs2) Try.func13 rfl rfl (Opds.cons (by exact Is.rfl') (Opds.cons (by exact Is.rfl') Opds.nil))) rfl ?_
        refine QD.u (LU.pickT Is.rfl' (by exact Is.rfl')) rfl ?_
        refine QD.u (LU.moveR Is.rfl') rfl ?_
        refine QD.doT rfl rfl (LU.moveS (by exact Is.rfl')) rfl ?_
        refine QD.doT rfl rfl (LU.call (missing_calls l k0 hl (by omega)) Try.func18 rfl rfl (Opds.cons (by exact Is.rfl') Opds.nil)) rfl ?_
        refine QD.doT rfl rfl (LU.moveS (by exact Is.rfl')) rfl ?_
        refine QD.doT rfl rfl (LU.call (hm2) Try.func18 rfl rfl (Opds.cons (by exact Is.rfl') Opds.nil)) rfl ?_
        refine QD.doT rfl rfl (LU.call (hs3) Try.func13 rfl rfl (Opds.cons (by exact Is.rfl') (Opds.cons (by exact Is.rfl') Opds.nil))) rfl ?_
        refine QD.u (LU.pickT Is.rfl' (by exact Is.rfl')) rfl ?_
        refine QD.u (LU.moveR Is.rfl') rfl ?_
        refine QD.doT rfl rfl (LU.moveS (by exact Is.rfl')) rfl ?_
        refine QD.doT rfl rfl (LU.call (closed_calls l k0 hl (by omega)) Try.func20 rfl rfl (Opds.cons (by exact Is.rfl') Opds.nil)) rfl ?_
        refine QD.doT rfl rfl (LU.moveS (by exact Is.rfl')) rfl ?_
        refine QD.doT rfl rfl (LU.call (hc2) Try.func20 rfl rfl (Opds.cons (by exact Is.rfl') Opds.nil)) rfl ?_
        refine QD.doT rfl rfl (LU.weak (LU.booleq Try.underlying4 (by exact Is.rfl') (by exact Is.rfl')) (asB (c := true) rfl (by simp))) rfl ?_
        refine QD.u (LU.pickT Is.rfl' (by exact Is.rfl')) rfl ?_
        refine QD.u (LU.moveR Is.rfl') rfl ?_
        refine QD.doT rfl rfl (LU.call (lives_calls) Try.func9 rfl rfl Opds.nil) rfl ?_
        refine QD.u (LU.pickT Is.rfl' (by exact Is.rfl')) rfl ?_
        refine QD.u (LU.assignR Is.rfl') rfl ?_
        refine QD.nil ?_
        refine LL.nil (after_code ?_)
        refine LW.ret (after_end ?_)
        refine X.ret (H' := []) (Res.one (by exact IsR rfl)) (by repeat (first | exact HSub.refl _ | refine HSub.drop ?_)) ?_
        exact rfl
theorem DepsTurned_row (es : List (List LV)) (n : Int) (hc : List LV) (hq : ∀ c ∈ es, QItem c) (hb : es.length * 56 ≤ reachBytes) (hw : (Lit.int .i64 n).wf = true) (hh : QArr 32 1 (QInt .u8) hc) : LCalls Try.prog 6 [.sl 33 es .unk, i64 n, .agg hc] [] (fun r _ => r = .raw (.bool true)) := by
  obtain ⟨l, rfl, hl⟩ := its_of hq
  obtain ⟨h, rfl⟩ := hs_of hh
  exact dq_calls l n h .unk (by have := reach_lt; simp at hb; omega) (in_lt hl)
end Go.Proofs.Ytmaeepckfbnpjaa
