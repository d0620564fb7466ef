/- Tokens' plays. -/
import Derived.Test.YtnfeepmgdahmgaaDoorTkH
set_option linter.unusedVariables false
set_option linter.unusedSimpArgs false
namespace Go.Proofs.YtnfeepmgdahmgaaDoor
open Go.RowKit Go.L
attribute [local irreducible] LL LW LO
set_option maxRecDepth 100000 in
theorem newbO_calls (sec : List UInt8) (bb cap : Nat) (rst : List LV) (hcap : sec.length ≤ cap) (hs : sec.length ≤ 100000) : LCalls Tryd.prog 15 [.raw (.slice (some ⟨bb, 0, none⟩) sec.length cap)] [.cells bb 5 (u8s sec ++ rst)] (fun r H' => ∃ g m, r = pt g ∧ H' = [bkC g m sec, bkM m [], .cells bb 5 (u8s sec ++ rst)]) := by
  have hbl := byteEls_length sec
  have hfl : (byteEls sec).flatten.length = sec.length := by rw [byteEls_flat]; exact List.length_map ..
  refine LCalls.of Tryd.func15 rfl Tryd.ntmps15 Tryd.results15 rfl (fun Rf => ?_)
  refine LW.seq ?_
  refine LW.region ?_
  refine X.u (LU.assignR Is.rfl') rfl ?_
  refine LL.nil (after_code ?_)
  refine LW.seq ?_
  refine LW.region ?_
  refine X.act (X.litO rfl Tryd.underlying22 Tryd.sizeOf5 Tryd.zeroValue5 (ones rfl) rfl (by decide) (by decide) Elems.nil (by simp) rfl (fun b3 => ?_))
  refine X.u (LU.moveR Is.rfl') rfl ?_
  refine X.act (X.appendO (z := (.int .u8 0)) 0 rfl rfl Tryd.underlying22 (El.of (P := Tryd.prog) (z := (.int .u8 0)) (size := 1) (bytes := 1) rfl rfl rfl) (ones rfl) Is.rfl' Is.rfl' (show ∀ a ∈ [Atom.cells bb 5 (u8s sec ++ rst)], a ∈ _ by simp) (SrcG.cells Tryd.underlying22 (by decide) (byteEls_size sec) (byteEls_length sec) (by simp) (by rw [byteEls_flat, List.drop_zero, Nat.mul_one]; simp) hcap) (by simp only [Option.getD_some, Option.getD_none, byteEls_length, intEls_length, List.length_append, List.length_cons, List.length_nil, List.length_map, List.length_drop, List.length_take, Int.toNat_natCast]; omega) (by simp only [Option.getD_some, Option.getD_none, byteEls_length, intEls_length, List.length_append, List.length_cons, List.length_nil, List.length_map, List.length_drop, List.length_take, Int.toNat_natCast]; omega) (fun b5 c5 rest5 hc5 hr5 => ?_))
  refine X.weak (t := 5) (v := .raw (.slice (some ⟨b5, 0, none⟩) sec.length c5)) (Is.of (congrArg (fun n => LV.raw (.slice (some ⟨b5, 0, none⟩) n c5)) hbl)) ?_
  refine X.act (LO.makeMap (st := ⟨_, _, _⟩) rfl (fun b6 => ?_))
  refine X.u (LU.build (places := #[(0, 1), (1, 1)]) Tryd.underlying57 Tryd.zeroValue57 (ones rfl) (by intro w; simp [Tryd.sizeOf22, Tryd.sizeOf55]) (Parts.cons Is.rfl' (by exact Cells.raw rfl) (Parts.cons Is.rfl' (by exact Cells.raw rfl) Parts.nil)) rfl) rfl ?_
  refine X.act (X.box rfl Is.rfl' (by exact Cells.agg) (fun b8 => ?_))
  refine X.u (LU.assignR Is.rfl') rfl ?_
  refine LL.nil (after_code ?_)
  refine X.wghost (H' := .cells b5 5 ((byteEls sec).flatten ++ raws rest5) :: .cells b8 57 [.raw (.slice (some ⟨b5, 0, none⟩) sec.length c5), .raw (.map (some b6))] :: bkM b6 [] :: .cells bb 5 (u8s sec ++ rst) :: Rf) (by repeat (first | exact HSub.refl _ | refine HSub.pick 2 rfl ?_)) ?_
  refine LW.freezeCell (i := 0) (size := 1) (es := byteEls sec) (m := sec.length) rfl (byteEls_size sec) hbl (by rw [List.length_append, hfl]; omega) (by rw [List.take_append_of_le_length (by rw [hfl]; omega), List.take_of_length_le (by rw [hfl]; omega)]) (by omega) ?_
  refine LW.ret (after_end ?_)
  refine X.ret (H' := [bkC b8 b6 sec, bkM b6 [], .cells bb 5 (u8s sec ++ rst)]) (Res.one (by exact IsR rfl)) (by repeat (exact HSub.refl _)) ?_
  exact ⟨b8, b6, rfl, rfl⟩
abbrev acs (l : List Ac) : List (List LV) := l.map acL
theorem acs_at {l : List Ac} {i : Nat} {x : Ac} (h : l[i]? = some x) : (acs l)[(i : Int).toNat]? = some (acL x) := by
  rw [Int.toNat_natCast, List.getElem?_map, h]; rfl
theorem turn_k16 (t : Int) (n : Nat) (h : 0 < n) : ∃ k : Nat, (IntKind.u64.wrap t).tmod (n : Int) = k ∧ k < n := by
  have h0 : 0 ≤ IntKind.u64.wrap t := by
    show (0 : Int) ≤ t % 18446744073709551616
    omega
  obtain ⟨m, hm⟩ := Int.eq_ofNat_of_zero_le h0
  refine ⟨m % n, ?_, Nat.mod_lt _ h⟩
  rw [hm, Int.ofNat_tmod]
def shE (l : Bk) (a : Ac) : List UInt8 := if a.odd = true ∨ l = [] then a.text else (l.getD ((IntKind.u64.wrap a.n).tmod (l.length : Int)).toNat ([], zE)).1
theorem shE_len {l : Bk} (hl : ∀ p ∈ l, p.1.length < 140737488355328) {a : Ac} (ha : a.text.length < 140737488355328) : (shE l a).length < 140737488355328 := by
  unfold shE
  split
  · exact ha
  · rename_i h
    have hn : 0 < l.length := List.length_pos_iff.2 fun c => h (.inr c)
    obtain ⟨k, hk1, hk2⟩ := turn_k16 a.n l.length hn
    rw [hk1, Int.toNat_natCast, List.getD_eq_getElem?_getD, List.getElem?_eq_getElem hk2]
    exact hl _ (List.getElem_mem hk2)
set_option maxRecDepth 100000 in
theorem shown_calls (sec : List UInt8) (l : Bk) (a : Ac) (hl : l.length ≤ 1000000) : LCalls Tryd.prog 23 [.agg (rb sec l), .agg (acL a)] [] (fun r H' => r = Str (shE l a) ∧ H' = []) := by
  refine LCalls.of Tryd.func23 rfl Tryd.ntmps23 Tryd.results23 rfl (fun Rf => ?_)
  refine LW.seq ?_
  refine LW.region ?_
  refine X.act (X.box rfl Is.rfl' (by exact Cells.agg) (fun b2 => ?_))
  refine X.act (X.box rfl Is.rfl' (by exact Cells.agg) (fun b3 => ?_))
  refine X.u (LU.assignR Is.rfl') rfl ?_
  refine LL.nil (after_code ?_)
  refine LW.seq ?_
  refine LW.seq ?_
  refine LW.region ?_
  refine X.u (LU.fieldO Tryd.underlying33 rfl Tryd.sizeOf4 (by decide) Is.rfl') rfl ?_
  refine X.u (LU.loadO 0 rfl ⟨Tryd.sizeOf4, Tryd.isAgg4⟩ Is.rfl' (Part.one rfl)) rfl ?_
  refine X.u (LU.moveR Is.rfl') rfl ?_
  refine X.gF rfl rfl (fun hg => LU.fieldO Tryd.underlying42 rfl Tryd.sizeOf40 (by decide) (by exact Is.rfl')) rfl ?_
  refine X.gF rfl rfl (fun hg => LU.loadO 1 rfl ⟨Tryd.sizeOf40, Tryd.isAgg40⟩ (by exact Is.whenN hg) (Part.one rfl)) rfl ?_
  refine X.gF rfl rfl (fun hg => LU.lenN Tryd.underlying40 (by exact Is.whenN hg) (by (simp only [Option.getD_some, Option.getD_none, byteEls_length, intEls_length, List.length_append, List.length_cons, List.length_nil, List.length_map, List.length_drop, List.length_take, Int.toNat_natCast]; rfl))) rfl ?_
  refine X.gF rfl rfl (fun hg => LU.eql (by exact Is.whenN hg) (by exact Is.rfl')) rfl ?_
  refine X.u (LU.pickOr Is.rfl' Is.rfl' (fun hq => (by exact Is.whenN hq))) rfl ?_
  refine LL.nil (after_code ?_)
  refine X.cond rfl (fun h1 => ?_) (fun h1 => ?_)
  · have hc : a.odd = true ∨ l = [] := by
      cases ho : a.odd with
      | true => exact .inl rfl
      | false => rw [ho] at h1; simp at h1; exact .inr h1
    have hd : (0 : Nat) = 0 := rfl
    refine LW.seq ?_
    refine LW.region ?_
    refine X.u (LU.fieldO Tryd.underlying33 rfl Tryd.sizeOf9 (by decide) Is.rfl') rfl ?_
    refine X.u (LU.loadO 0 rfl ⟨Tryd.sizeOf9, Tryd.isAgg9⟩ Is.rfl' (Part.one rfl)) rfl ?_
    refine X.u (LU.assignR Is.rfl') rfl ?_
    refine LL.nil (after_code ?_)
    refine LW.ret (ret_code (after_end ?_))
    refine X.ret (H' := []) (Res.one (by exact IsR rfl)) (by repeat (first | exact HSub.refl _ | refine HSub.drop ?_)) ?_
    exact ⟨by unfold shE; rw [if_pos hc], rfl⟩
  · have hc : ¬ (a.odd = true ∨ l = []) := by
      intro c
      rcases c with c | c
      · rw [c] at h1; simp at h1
      · rw [c] at h1; simp at h1
    have hn : 0 < l.length := List.length_pos_iff.2 fun c => hc (.inr c)
    obtain ⟨k, hk1, hk2⟩ := turn_k16 a.n l.length hn
    obtain ⟨p, hp⟩ := at_lt hk2
    refine LW.skip (after_code ?_)
    refine LW.seq ?_
    refine X.drawM 15 rfl (by kernel_rfl) rfl ?_
    refine QD.u (LU.fieldO Tryd.underlying42 rfl Tryd.sizeOf40 (by decide) Is.rfl') rfl ?_
    refine QD.u (LU.loadO 1 rfl ⟨Tryd.sizeOf40, Tryd.isAgg40⟩ Is.rfl' (Part.one rfl)) rfl ?_
    refine QD.u (LU.fieldO Tryd.underlying33 rfl Tryd.sizeOf3 (by decide) Is.rfl') rfl ?_
    refine QD.u (LU.loadO 0 rfl ⟨Tryd.sizeOf3, Tryd.isAgg3⟩ Is.rfl' (Part.one rfl)) rfl ?_
    refine QD.u (LU.conv Tryd.underlying3 Tryd.underlying53 Is.rfl') rfl ?_
    refine QD.u (LU.fieldO Tryd.underlying42 rfl Tryd.sizeOf40 (by decide) Is.rfl') rfl ?_
    refine QD.u (LU.loadO 1 rfl ⟨Tryd.sizeOf40, Tryd.isAgg40⟩ Is.rfl' (Part.one rfl)) rfl ?_
    refine QD.u (LU.lenN Tryd.underlying40 Is.rfl' (by (simp only [Option.getD_some, Option.getD_none, byteEls_length, intEls_length, List.length_append, List.length_cons, List.length_nil, List.length_map, List.length_drop, List.length_take, Int.toNat_natCast]; rfl))) rfl ?_
    refine QD.u (LU.convN Tryd.underlying3 Tryd.underlying53 Is.rfl' (wrap_u64 (by omega) (by omega))) rfl ?_
    refine QD.u (LU.weak (LU.rem Is.rfl' Is.rfl' (by omega)) (Is.of (y := .raw (.int .u64 ((k : Nat) : Int))) (congrArg (fun z => LV.raw (.int .u64 z)) hk1))) rfl ?_
    refine QD.u (LU.convN Tryd.underlying53 Tryd.underlying3 Is.rfl' (wrap_i64 (by omega) (by omega))) rfl ?_
    refine QD.u (LU.at Tryd.underlying40 ⟨Tryd.sizeOf99, Tryd.isAgg99⟩ Is.rfl' Is.rfl' (by omega) (tks_at hp) (by simp)) rfl ?_
    refine QD.u (LU.fieldP Tryd.underlying99 rfl ⟨Tryd.sizeOf9, Tryd.isAgg9⟩ (by decide) Is.rfl' (by (simp; done))) rfl ?_
    refine QD.u (LU.load ⟨Tryd.sizeOf9, Tryd.isAgg9⟩ Is.rfl' (by (simp; done)) (Part.one rfl)) rfl ?_
    refine QD.u (LU.assignR Is.rfl') rfl ?_
    refine QD.nil ?_
    refine LL.nil (after_code ?_)
    refine LW.ret (after_end ?_)
    refine X.ret (H' := []) (Res.one (by exact IsR rfl)) (by repeat (first | exact HSub.refl _ | refine HSub.drop ?_)) ?_
    exact ⟨by unfold shE; rw [if_neg hc, hk1, Int.toNat_natCast, List.getD_eq_getElem?_getD, hp]; rfl, rfl⟩
set_option maxRecDepth 100000 in
theorem few16_calls (l : List Ac) (k : Cap) (hl : l.length < 140737488355328) (hok : ∀ a ∈ l, AcOk a) : LCalls Tryd.prog 21 [.sl 7 (acs l) k] [] (fun r H' => ∃ fb, r = bl fb ∧ H' = [] ∧ (fb = true → ∀ a ∈ l, a.user.length + a.text.length < 10100)) := by
  have hr := reachBytes_lt
  refine LCalls.of Tryd.func21 rfl Tryd.ntmps21 Tryd.results21 rfl (fun Rf => ?_)
  refine LW.seq ?_
  refine LW.region ?_
  refine X.u (LU.assignR Is.rfl') rfl ?_
  refine LL.nil (after_code ?_)
  refine LW.seq ?_
  refine LW.region ?_
  refine X.u (LU.assignR Is.rfl') rfl ?_
  refine LL.nil (after_code ?_)
  refine LW.seq ?_
  refine LW.seq ?_
  refine LW.region ?_
  refine X.u (LU.moveS Is.rfl') rfl ?_
  refine X.u (LU.lenN Tryd.underlying38 Is.rfl' (by (simp only [Option.getD_some, Option.getD_none, byteEls_length, intEls_length, List.length_append, List.length_cons, List.length_nil, List.length_map, List.length_drop, List.length_take, Int.toNat_natCast]; rfl))) rfl ?_
  refine X.u (LU.moveR Is.rfl') rfl ?_
  refine LL.nil (after_code ?_)
  refine LW.block ?_
  refine X.loopK (α := Nat × Nat) (fun ⟨i, n⟩ => [(8, i64 i), (3, i64 n)]) [6, 7] (fun ⟨i, n⟩ => Rf) (fun ⟨i, n⟩ => i ≤ l.length ∧ n ≤ 100 ∧ ∀ j a, j < i → l[j]? = some a → a.user.length + a.text.length < 10100) (fun ⟨i, n⟩ => l.length - i) ((0, 0)) (EnvLe.cons (by rfl) (EnvLe.cons (by rfl) (EnvLe.nil))) (by repeat (exact HSub.refl _)) ?_ ?_
  · exact ⟨Nat.zero_le _, Nat.zero_le _, fun j a hj => by omega⟩
  · rintro ⟨i, n⟩ hI
    obtain ⟨hi, hn, hf⟩ := hI
    refine LW.seq ?_
    refine LW.region ?_
    refine X.u (LU.lss Is.rfl' Is.rfl') rfl ?_
    refine LL.nil (after_code ?_)
    refine LW.seq ?_
    refine X.cond rfl (fun h3 => ?_) (fun h3 => ?_)
    · try have h3 := of_decide_eq_true h3
      refine LW.skip (after_code ?_)
      refine LW.seq ?_
      refine LW.block ?_
      refine LW.seq ?_
      obtain ⟨x, hx⟩ := at_lt (show i < l.length by omega)
      obtain ⟨hu, ht⟩ := hok x (List.mem_of_getElem? hx)
      obtain ⟨q, hq⟩ : ∃ q, q = (x.user.length + x.text.length) / 100 := ⟨_, rfl⟩
      refine LW.region ?_
      refine X.u (LU.at Tryd.underlying38 ⟨Tryd.sizeOf33, Tryd.isAgg33⟩ Is.rfl' Is.rfl' (by omega) (acs_at hx) (by simp)) rfl ?_
      refine X.u (LU.load ⟨Tryd.sizeOf33, Tryd.isAgg33⟩ Is.rfl' (by (simp; done)) (Part.whole (by (simp; done)))) rfl ?_
      refine X.act (X.alloc rfl Tryd.zeroValue33 (by exact Cells.rawagg (by decide)) (fun b5 => ?_))
      refine X.act (X.store 0 rfl Tryd.sizeOf33 Is.rfl' Is.rfl' (by exact Cells.agg) (by (simp; done)) (by exact Nat.le_of_ble_eq_true rfl) ?_)
      refine LL.nil (after_code ?_)
      refine LW.seq ?_
      refine X.wcells (ys := acL x) rfl ?_
      refine LW.region ?_
      refine X.u (LU.moveR Is.rfl') rfl ?_
      refine X.u (LU.fieldO Tryd.underlying33 rfl Tryd.sizeOf9 (by decide) Is.rfl') rfl ?_
      refine X.u (LU.loadO 0 rfl ⟨Tryd.sizeOf9, Tryd.isAgg9⟩ Is.rfl' (Part.one rfl)) rfl ?_
      refine X.u (LU.strlenN Tryd.underlying9 Is.rfl') rfl ?_
      refine X.u (LU.fieldO Tryd.underlying33 rfl Tryd.sizeOf9 (by decide) Is.rfl') rfl ?_
      refine X.u (LU.loadO 0 rfl ⟨Tryd.sizeOf9, Tryd.isAgg9⟩ Is.rfl' (Part.one rfl)) rfl ?_
      refine X.u (LU.strlenN Tryd.underlying9 Is.rfl') rfl ?_
      refine X.u (LU.weak (LU.add Is.rfl' Is.rfl') (asI (b := ((x.user.length + x.text.length : Nat) : Int)) rfl (by rw [wrap_i64 (by omega) (by omega)]; omega))) rfl ?_
      refine X.u (LU.weak (LU.quo Is.rfl' Is.rfl' (by omega)) (asI (b := ((q : Nat) : Int)) rfl (by rw [Int.tdiv_eq_ediv_of_nonneg (by omega), wrap_i64 (by omega) (by omega)]; omega))) rfl ?_
      refine X.u (LU.weak (LU.add Is.rfl' Is.rfl') (asI (b := ((1 + q : Nat) : Int)) rfl (by rw [wrap_i64 (by omega) (by omega)]; omega))) rfl ?_
      refine X.u (LU.weak (LU.add Is.rfl' Is.rfl') (asI (b := ((n + (1 + q) : Nat) : Int)) rfl (by rw [wrap_i64 (by omega) (by omega)]; omega))) rfl ?_
      refine X.u (LU.assignR Is.rfl') rfl ?_
      refine LL.nil (after_code ?_)
      refine LW.seq ?_
      refine LW.seq ?_
      refine LW.region ?_
      refine X.u (LU.fieldO Tryd.underlying33 rfl Tryd.sizeOf3 (by decide) Is.rfl') rfl ?_
      refine X.u (LU.loadO 0 rfl ⟨Tryd.sizeOf3, Tryd.isAgg3⟩ Is.rfl' (Part.one rfl)) rfl ?_
      refine X.u (LU.eql Is.rfl' Is.rfl') rfl ?_
      refine LL.nil (after_code ?_)
      refine X.cond rfl (fun h6 => ?_) (fun h6 => ?_)
      · try have h6 := of_decide_eq_true h6
        refine LW.region ?_
        refine X.u (LU.moveR Is.rfl') rfl ?_
        refine X.u (LU.weak (LU.add Is.rfl' Is.rfl') (asI (b := ((n + (1 + q) + 20 : Nat) : Int)) rfl (by rw [wrap_i64 (by omega) (by omega)]; omega))) rfl ?_
        refine X.u (LU.assignR Is.rfl') rfl ?_
        refine LL.nil (after_code ?_)
        refine LW.seq ?_
        refine LW.region ?_
        refine X.u (LU.moveR Is.rfl') rfl ?_
        refine X.u (LU.gtr Is.rfl' Is.rfl') rfl ?_
        refine LL.nil (after_code ?_)
        refine X.cond rfl (fun h8 => ?_) (fun h8 => ?_)
        · try have h8 := of_decide_eq_true h8
          refine LW.seq ?_
          refine LW.region ?_
          refine X.u (LU.assignR Is.rfl') rfl ?_
          refine LL.nil (after_code ?_)
          refine LW.ret (ret_blk (ret_code (ret_rnd (ret_blk (ret_code (after_end ?_))))))
          refine X.ret (H' := []) (Res.one (by exact IsR rfl)) (by repeat (first | exact HSub.refl _ | refine HSub.drop ?_)) ?_
          exact ⟨false, rfl, rfl, fun h => by cases h⟩
        · try have h8 := of_decide_eq_false h8
          refine LW.skip (after_blk (after_code ?_))
          refine LW.region ?_
          refine X.u (LU.addN Is.rfl' Is.rfl' (wrap_i64 (by omega) (by omega))) rfl ?_
          refine X.u (LU.moveR Is.rfl') rfl ?_
          refine LL.nil (after_rnd ?_)
          refine X.next ((i + 1, n + (1 + q) + 20)) rfl (EnvLe.cons (by rfl) (EnvLe.cons (by rfl) (EnvLe.nil))) (Keeps.cons (by exact Eq.trans (b := .sl _ _ _) rfl rfl) (Keeps.cons (by exact Eq.trans (b := .raw _) rfl rfl) (Keeps.nil))) (by repeat (first | exact HSub.refl _ | refine HSub.drop ?_)) ?_ ?_
          · refine ⟨by omega, by omega, fun j a hj ha => ?_⟩
            by_cases hji : j = i
            · rw [hji, hx] at ha
              obtain rfl := Option.some.inj ha
              omega
            · exact hf j a (by omega) ha
          · (simp; omega)
      · try have h6 := of_decide_eq_false h6
        refine LW.skip (after_code ?_)
        refine LW.seq ?_
        refine LW.region ?_
        refine X.u (LU.moveR Is.rfl') rfl ?_
        refine X.u (LU.gtr Is.rfl' Is.rfl') rfl ?_
        refine LL.nil (after_code ?_)
        refine X.cond rfl (fun h8 => ?_) (fun h8 => ?_)
        · try have h8 := of_decide_eq_true h8
          refine LW.seq ?_
          refine LW.region ?_
          refine X.u (LU.assignR Is.rfl') rfl ?_
          refine LL.nil (after_code ?_)
          refine LW.ret (ret_blk (ret_code (ret_rnd (ret_blk (ret_code (after_end ?_))))))
          refine X.ret (H' := []) (Res.one (by exact IsR rfl)) (by repeat (first | exact HSub.refl _ | refine HSub.drop ?_)) ?_
          exact ⟨false, rfl, rfl, fun h => by cases h⟩
        · try have h8 := of_decide_eq_false h8
          refine LW.skip (after_blk (after_code ?_))
          refine LW.region ?_
          refine X.u (LU.addN Is.rfl' Is.rfl' (wrap_i64 (by omega) (by omega))) rfl ?_
          refine X.u (LU.moveR Is.rfl') rfl ?_
          refine LL.nil (after_rnd ?_)
          refine X.next ((i + 1, n + (1 + q))) rfl (EnvLe.cons (by rfl) (EnvLe.cons (by rfl) (EnvLe.nil))) (Keeps.cons (by exact Eq.trans (b := .sl _ _ _) rfl rfl) (Keeps.cons (by exact Eq.trans (b := .raw _) rfl rfl) (Keeps.nil))) (by repeat (first | exact HSub.refl _ | refine HSub.drop ?_)) ?_ ?_
          · refine ⟨by omega, by omega, fun j a hj ha => ?_⟩
            by_cases hji : j = i
            · rw [hji, hx] at ha
              obtain rfl := Option.some.inj ha
              omega
            · exact hf j a (by omega) ha
          · (simp; omega)
    · try have h3 := of_decide_eq_false h3
      refine LW.exit (exit_code (exit_rnd (exit_blk (after_code ?_))))
      refine LW.seq ?_
      refine LW.region ?_
      refine X.u (LU.assignR Is.rfl') rfl ?_
      refine LL.nil (after_code ?_)
      refine LW.ret (after_end ?_)
      refine X.ret (H' := []) (Res.one (by exact IsR rfl)) (by repeat (exact HSub.refl _)) ?_
      exact ⟨true, rfl, rfl, fun _ a ha => by
      obtain ⟨j, hj, he⟩ := List.getElem_of_mem ha
      exact hf j a (by omega) (by rw [List.getElem?_eq_getElem hj, he])⟩
end Go.Proofs.YtnfeepmgdahmgaaDoor
