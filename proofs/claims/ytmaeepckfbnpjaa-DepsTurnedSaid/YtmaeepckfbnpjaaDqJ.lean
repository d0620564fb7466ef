/- DepsBehind. -/
import Derived.Test.YtmaeepckfbnpjaaDqI
set_option linter.unusedVariables false
set_option linter.unusedSimpArgs false
namespace Go.Proofs.Ytmaeepckfbnpjaa
open Go.RowKit Go.L Go.Lib
attribute [local irreducible] LL LW LO
set_option maxHeartbeats 2000000 in
set_option maxRecDepth 100000 in
theorem db_calls (l : List It) (k : Cap) (hl : l.length < 140737488355328) (hin : ∀ x ∈ l, x.deps.length < 140737488355328) : LCalls Try.prog 5 [.sl 33 (its l) k] [] (fun r _ => r = .raw (.bool true)) := by
  have hol := orderS_len l
  have hbad := order_bad (l := l)
  have hgood := order_good (l := l)
  have hord := order_calls l k hl
  obtain ⟨O, hO⟩ : ∃ O, O = orderS l := ⟨_, rfl⟩
  rw [← hO] at hol hbad hgood hord
  refine LCalls.of Try.func5 rfl Try.ntmps5 Try.results5 rfl (fun Rf => ?_)
  refine LW.seq ?_
  refine LW.region ?_
  refine X.u (LU.assignR Is.rfl') rfl ?_
  refine LL.nil (after_code ?_)
  refine LW.seq ?_
  refine LW.seq ?_
  refine LW.region ?_
  refine X.u (LU.moveS Is.rfl') rfl ?_
  refine X.u (LU.call (light_calls l k hl hin) Try.func8 rfl rfl (Opds.cons Is.rfl' Opds.nil)) rfl ?_
  refine X.u (LU.not Is.rfl') rfl ?_
  refine X.u (LU.moveR Is.rfl') rfl ?_
  refine X.gF rfl rfl (fun hg => LU.moveS (by exact Is.rfl')) rfl ?_
  refine X.gF rfl rfl (fun hg => LU.lenN Try.underlying22 (by exact Is.whenN hg) (by (simp only [Option.getD_some, Option.getD_none, byteEls_length, intEls_length, List.length_append, List.length_cons, List.length_nil, List.length_map, List.length_drop, List.length_take, Int.toNat_natCast]; rfl))) rfl ?_
  refine X.gF rfl rfl (fun hg => LU.gtr (by exact Is.whenN hg) (by exact Is.rfl')) rfl ?_
  refine X.u (LU.pickOr Is.rfl' Is.rfl' (fun hq => (by exact Is.whenN hq))) rfl ?_
  refine LL.nil (after_code ?_)
  refine X.cond rfl (fun h1 => ?_) (fun h1 => ?_)
  · have h1 : True := trivial
    refine LW.seq ?_
    refine LW.region ?_
    refine X.u (LU.call (lives_calls) Try.func9 rfl rfl Opds.nil) rfl ?_
    refine X.u (LU.assignR Is.rfl') rfl ?_
    refine LL.nil (after_code ?_)
    refine LW.ret (ret_code (after_end ?_))
    refine X.ret (H' := []) (Res.one (by exact IsR rfl)) (by repeat (exact HSub.refl _)) ?_
    exact rfl
  · have h1 : lightS l = true ∧ l.length ≤ 60 := by simp at h1; exact ⟨h1.1, by omega⟩
    have h2 : totalD l ≤ 400 ∧ l.length ≤ 300 := by simpa [lightS] using h1.1
    obtain ⟨hd1, hl1⟩ := h2
    have hl6 := h1.2
    refine LW.skip (after_code ?_)
    refine LW.seq ?_
    refine LW.region ?_
    refine X.u (LU.moveS Is.rfl') rfl ?_
    refine X.u (LU.call (hord (by omega)) Try.func11 rfl rfl (Opds.cons Is.rfl' Opds.nil)) rfl ?_
    refine X.u (LU.moveT Is.rfl') rfl ?_
    refine X.u (LU.extract Is.rfl' rfl) rfl ?_
    refine X.u (LU.extract Is.rfl' rfl) rfl ?_
    refine X.u (LU.assignS Is.rfl') rfl ?_
    refine X.u (LU.assignR Is.rfl') rfl ?_
    refine LL.nil (after_code ?_)
    refine LW.seq ?_
    refine LW.seq ?_
    refine LW.region ?_
    refine X.u (LU.moveR Is.rfl') rfl ?_
    refine X.u (LU.neq Is.rfl' Is.rfl') rfl ?_
    refine LL.nil (after_code ?_)
    refine X.cond rfl (fun h4 => ?_) (fun h4 => ?_)
    · have h4 : O.2 ≠ 0 := by simp at h4; omega
      have hb := hbad (by omega) h4
      refine LW.seq ?_
      refine LW.region ?_
      refine X.u (LU.assignR Is.rfl') rfl ?_
      refine LL.nil (after_code ?_)
      refine LW.seq ?_
      refine LW.seq ?_
      refine LW.region ?_
      refine X.u (LU.moveS Is.rfl') rfl ?_
      refine X.u (LU.lenN Try.underlying22 Is.rfl' (by (simp only [Option.getD_some, Option.getD_none, byteEls_length, intEls_length, List.length_append, List.length_cons, List.length_nil, List.length_map, List.length_drop, List.length_take, Int.toNat_natCast]; rfl))) rfl ?_
      refine X.u (LU.moveR Is.rfl') rfl ?_
      refine LL.nil (after_code ?_)
      refine LW.block ?_
      refine X.loopK (α := Nat × Bool) (fun ⟨i, rd⟩ => [(32, i64 i), (5, bl rd)]) [0, 2, 3, 30, 31] (fun ⟨i, rd⟩ => Rf) (fun ⟨i, rd⟩ => i ≤ l.length ∧ (rd = true ↔ ∃ x ∈ l.take i, Rch (depsOf l) x.name x.name)) (fun ⟨i, rd⟩ => l.length - i) ((0, false)) (EnvLe.cons (by rfl) (EnvLe.cons (by rfl) (EnvLe.nil))) (by repeat (exact HSub.refl _)) ?_ ?_
      · exact ⟨Nat.zero_le _, by simp⟩
      · rintro ⟨i, rd⟩ hI
        obtain ⟨hi, hrd⟩ := hI
        refine LW.seq ?_
        refine LW.region ?_
        refine X.u (LU.lss Is.rfl' Is.rfl') rfl ?_
        refine LL.nil (after_code ?_)
        refine LW.seq ?_
        refine X.cond rfl (fun h7 => ?_) (fun h7 => ?_)
        · try have h7 := of_decide_eq_true h7
          refine LW.skip (after_code ?_)
          refine LW.seq ?_
          refine LW.block ?_
          refine LW.seq ?_
          obtain ⟨x, hx⟩ := at_lt (show i < l.length by omega)
          have hxl := it_len x
          have hxn : x.name.1.length = 32 := x.name.2
          obtain ⟨ns, hns⟩ := isN_ex l x.name
          have hnl := hns.len
          refine LW.region ?_
          refine X.u (LU.at Try.underlying22 ⟨Try.sizeOf36, Try.isAgg36⟩ Is.rfl' Is.rfl' (by omega) (its_at hx) (by simp)) rfl ?_
          refine X.u (LU.load ⟨Try.sizeOf36, Try.isAgg36⟩ Is.rfl' (by assumption) (Part.whole (by assumption))) rfl ?_
          refine X.act (X.alloc rfl Try.zeroValue36 (by exact Cells.rawagg (by decide)) (fun b7 => ?_))
          refine X.act (X.store 0 rfl Try.sizeOf36 Is.rfl' Is.rfl' (by exact Cells.agg) (by assumption) (by exact Nat.le_of_ble_eq_true rfl) ?_)
          refine LL.nil (after_code ?_)
          refine X.wcells (ys := itL x) (putAt_all (by rw [hxl]; rfl)) ?_
          refine X.drawM 12 rfl (by kernel_rfl) rfl ?_
          refine QD.u (LU.moveR Is.rfl') rfl ?_
          refine QD.u (LU.moveR Is.rfl') rfl ?_
          refine QD.gF rfl rfl (fun hg => LU.moveS (by exact Is.rfl')) rfl ?_
          refine QD.gF rfl rfl (fun hg => LU.fieldO Try.underlying36 rfl Try.sizeOf34 (by decide) (by exact Is.rfl')) rfl ?_
          refine QD.gF rfl rfl (fun hg => LU.weak (LU.loadO 0 rfl ⟨Try.sizeOf34, Try.isAgg34⟩ (by exact Is.whenN hg) (Part.sub (by (simp; omega)))) (Is.of (y := .agg (hsL x.name)) (congrArg LV.agg (it_name x)))) rfl ?_
          refine QD.gF rfl rfl (fun hg => LU.call (needs_calls l x.name ns k hl (by omega) hns) Try.func14 rfl rfl (Opds.cons (by exact Is.whenN hg) (Opds.cons (by exact Is.whenN hg) Opds.nil))) rfl ?_
          refine QD.gF rfl rfl (fun hg => LU.fieldO Try.underlying36 rfl Try.sizeOf34 (by decide) (by exact Is.rfl')) rfl ?_
          refine QD.gF rfl rfl (fun hg => LU.weak (LU.loadO 0 rfl ⟨Try.sizeOf34, Try.isAgg34⟩ (by exact Is.whenN hg) (Part.sub (by (simp; omega)))) (Is.of (y := .agg (hsL x.name)) (congrArg LV.agg (it_name x)))) rfl ?_
          refine QD.gF rfl rfl (fun hg => LU.call (place_calls ns x.name .unk (by omega)) Try.func22 rfl rfl (Opds.cons (by exact Is.whenN hg) (Opds.cons (by exact Is.whenN hg) Opds.nil))) rfl ?_
          refine QD.gF rfl rfl (fun hg => LU.geq (by exact Is.whenN hg) (by exact Is.rfl')) rfl ?_
          refine QD.u (LU.weak (LU.pickOr Is.rfl' Is.rfl' (fun hq => (by exact Is.whenN hq))) (Is.of (y := bl (rd || decide (x.name ∈ ns))) (by rw [← place_in]; try (cases rd <;> rfl)))) rfl ?_
          refine QD.u (LU.assignR Is.rfl') rfl ?_
          refine QD.nil ?_
          refine LL.nil (after_blk (after_code ?_))
          refine LW.region ?_
          refine X.u (LU.addN Is.rfl' Is.rfl' (wrap_i64 (by omega) (by omega))) rfl ?_
          refine X.u (LU.moveR Is.rfl') rfl ?_
          refine LL.nil (after_rnd ?_)
          refine X.next ((i + 1, rd || decide (x.name ∈ ns))) rfl (EnvLe.cons (by rfl) (EnvLe.cons (by rfl) (EnvLe.nil))) (Keeps.cons (by exact Eq.trans (b := .sl _ _ _) rfl rfl) (Keeps.cons (by exact Eq.trans (b := .raw _) rfl rfl) (Keeps.cons (by exact Eq.trans (b := .sl _ _ _) rfl rfl) (Keeps.cons (by exact Eq.trans (b := .sl _ _ _) rfl rfl) (Keeps.cons (by exact Eq.trans (b := .raw _) rfl rfl) (Keeps.nil)))))) (by repeat (first | exact HSub.refl _ | refine HSub.drop ?_)) ?_ ?_
          · refine ⟨by omega, ?_⟩
            rw [Bool.or_eq_true, hrd, decide_eq_true_eq, (hns.2 (by omega)).2, take_snoc hx]
            constructor
            · rintro (⟨y, hy, e⟩ | e)
              · exact ⟨y, List.mem_append_left _ hy, e⟩
              · exact ⟨x, by simp, e⟩
            · rintro ⟨y, hy, e⟩
              rcases List.mem_append.1 hy with a | a
              · exact .inl ⟨y, a, e⟩
              · rw [List.mem_singleton.1 a] at e; exact .inr e
          · (simp; omega)
        · try have h7 := of_decide_eq_false h7
          refine LW.exit (exit_code (exit_rnd (exit_blk (after_code ?_))))
          refine LW.seq ?_
          have hO1 : O.1.length = 0 := by rw [hb.1]; rfl
          have hfin : closedS l = true → rd = true := fun hc => hrd.2 (by
            obtain ⟨x, hx, e⟩ := hb.2 hc
            exact ⟨x, by rw [List.take_of_length_le (by omega)]; exact hx, e⟩)
          refine LW.region ?_
          refine X.u (LU.moveS Is.rfl') rfl ?_
          refine X.u (LU.lenN Try.underlying26 Is.rfl' (by (simp only [Option.getD_some, Option.getD_none, byteEls_length, intEls_length, List.length_append, List.length_cons, List.length_nil, List.length_map, List.length_drop, List.length_take, Int.toNat_natCast]; rfl))) rfl ?_
          refine X.u (LU.weak (LU.eql Is.rfl' Is.rfl') (asB (c := true) rfl (by simp [hO1]))) rfl ?_
          refine X.u (LU.moveR Is.rfl') rfl ?_
          refine X.doT rfl rfl (LU.moveS (by exact Is.rfl')) rfl ?_
          refine X.doT rfl rfl (LU.call (closed_calls l k hl (by omega)) Try.func20 rfl rfl (Opds.cons (by exact Is.rfl') Opds.nil)) rfl ?_
          refine X.doT rfl rfl (LU.not (by exact Is.rfl')) rfl ?_
          refine X.doT rfl rfl (LU.moveR (by exact Is.rfl')) rfl ?_
          refine X.gF rfl rfl (fun hg => LU.moveR (by exact Is.rfl')) rfl ?_
          refine X.doT rfl rfl (LU.weak (LU.pickOr (by exact Is.rfl') (by exact Is.rfl') (fun hq => (by exact Is.whenN hq))) (asB (c := true) rfl (by cases hq : closedS l <;> simp [hq, hfin]))) rfl ?_
          refine X.u (LU.pickT Is.rfl' (by exact Is.rfl')) rfl ?_
          refine X.u (LU.moveR Is.rfl') rfl ?_
          refine X.doT rfl rfl (LU.call (lives_calls) Try.func9 rfl rfl Opds.nil) rfl ?_
          refine X.u (LU.pickT Is.rfl' (by exact Is.rfl')) rfl ?_
          refine X.u (LU.assignR Is.rfl') rfl ?_
          refine LL.nil (after_code ?_)
          refine LW.ret (ret_code (after_end ?_))
          refine X.ret (H' := []) (Res.one (by exact IsR rfl)) (by repeat (exact HSub.refl _)) ?_
          exact rfl
    · have h4 : O.2 = 0 := by simp at h4; omega
      have hg4 := hgood (by omega) h4
      refine LW.skip (after_code ?_)
      refine LW.seq ?_
      refine LW.seq ?_
      refine LW.region ?_
      refine X.u (LU.moveS Is.rfl') rfl ?_
      refine X.u (LU.lenN Try.underlying26 Is.rfl' (by (simp only [Option.getD_some, Option.getD_none, byteEls_length, intEls_length, List.length_append, List.length_cons, List.length_nil, List.length_map, List.length_drop, List.length_take, Int.toNat_natCast]; rfl))) rfl ?_
      refine X.u (LU.moveS Is.rfl') rfl ?_
      refine X.u (LU.lenN Try.underlying22 Is.rfl' (by (simp only [Option.getD_some, Option.getD_none, byteEls_length, intEls_length, List.length_append, List.length_cons, List.length_nil, List.length_map, List.length_drop, List.length_take, Int.toNat_natCast]; rfl))) rfl ?_
      refine X.u (LU.weak (LU.neq Is.rfl' Is.rfl') (asB (c := false) rfl (by simp [hg4.1]))) rfl ?_
      refine X.u (LU.moveR Is.rfl') rfl ?_
      refine X.doF rfl rfl (LU.moveS (by exact Is.rfl')) rfl ?_
      refine X.doF rfl rfl (LU.call (closed_calls l k hl (by omega)) Try.func20 rfl rfl (Opds.cons (by exact Is.rfl') Opds.nil)) rfl ?_
      refine X.doF rfl rfl (LU.weak (LU.not (by exact Is.rfl')) (asB (c := false) rfl (by simp [hg4.2.1]))) rfl ?_
      refine X.u (LU.pickF Is.rfl' (by exact Is.rfl')) rfl ?_
      refine LL.nil (after_code ?_)
      refine X.condF rfl ?_ ?_
      · rfl
      refine LW.skip (after_code ?_)
      refine LW.seq ?_
      refine LW.seq ?_
      refine LW.region ?_
      refine X.u (LU.moveS Is.rfl') rfl ?_
      refine X.u (LU.lenN Try.underlying22 Is.rfl' (by (simp only [Option.getD_some, Option.getD_none, byteEls_length, intEls_length, List.length_append, List.length_cons, List.length_nil, List.length_map, List.length_drop, List.length_take, Int.toNat_natCast]; rfl))) rfl ?_
      refine X.u (LU.moveR Is.rfl') rfl ?_
      refine LL.nil (after_code ?_)
      refine LW.block ?_
      refine X.loopK (α := Nat) (fun i => [(74, i64 i)]) [0, 3, 72, 73] (fun i => Rf) (fun i => i ≤ l.length) (fun i => l.length - i) (0) (EnvLe.cons (by rfl) (EnvLe.nil)) (by repeat (exact HSub.refl _)) ?_ ?_
      · exact Nat.zero_le _
      · rintro i hI
        refine LW.seq ?_
        refine LW.region ?_
        refine X.u (LU.lss Is.rfl' Is.rfl') rfl ?_
        refine LL.nil (after_code ?_)
        refine LW.seq ?_
        refine X.cond rfl (fun h15 => ?_) (fun h15 => ?_)
        · try have h15 := of_decide_eq_true h15
          refine LW.skip (after_code ?_)
          refine LW.seq ?_
          refine LW.block ?_
          refine LW.seq ?_
          obtain ⟨x, hx⟩ := at_lt (show i < l.length by omega)
          have hxl := it_len x
          have hxn : x.name.1.length = 32 := x.name.2
          obtain ⟨ns, hns⟩ := isN_ex l x.name
          have hnl := hns.len
          have hxg := hg4.2.2 x (List.mem_of_getElem? hx)
          have hpl := place_lt hxg.1
          refine LW.region ?_
          refine X.u (LU.at Try.underlying22 ⟨Try.sizeOf36, Try.isAgg36⟩ Is.rfl' Is.rfl' (by omega) (its_at hx) (by simp)) rfl ?_
          refine X.u (LU.load ⟨Try.sizeOf36, Try.isAgg36⟩ Is.rfl' (by assumption) (Part.whole (by assumption))) rfl ?_
          refine X.act (X.alloc rfl Try.zeroValue36 (by exact Cells.rawagg (by decide)) (fun b9 => ?_))
          refine X.act (X.store 0 rfl Try.sizeOf36 Is.rfl' Is.rfl' (by exact Cells.agg) (by assumption) (by exact Nat.le_of_ble_eq_true rfl) ?_)
          refine LL.nil (after_code ?_)
          refine LW.seq ?_
          refine X.wcells (ys := itL x) (putAt_all (by rw [hxl]; rfl)) ?_
          refine LW.region ?_
          refine X.u (LU.moveS Is.rfl') rfl ?_
          refine X.u (LU.fieldO Try.underlying36 rfl Try.sizeOf34 (by decide) Is.rfl') rfl ?_
          refine X.u (LU.weak (LU.loadO 0 rfl ⟨Try.sizeOf34, Try.isAgg34⟩ Is.rfl' (Part.sub (by (simp; omega)))) (Is.of (y := .agg (hsL x.name)) (congrArg LV.agg (it_name x)))) rfl ?_
          refine X.u (LU.call (place_calls O.1 x.name .unk (by omega)) Try.func22 rfl rfl (Opds.cons Is.rfl' (Opds.cons Is.rfl' Opds.nil))) rfl ?_
          refine X.u (LU.assignR Is.rfl') rfl ?_
          refine LL.nil (after_code ?_)
          refine LW.seq ?_
          refine LW.seq ?_
          refine LW.region ?_
          refine X.u (LU.moveR Is.rfl') rfl ?_
          refine X.u (LU.weak (LU.lss Is.rfl' Is.rfl') (asB (c := false) rfl (by simp; omega))) rfl ?_
          refine LL.nil (after_code ?_)
          refine X.condF rfl ?_ ?_
          · rfl
          refine LW.skip (after_code ?_)
          refine LW.seq ?_
          refine LW.region ?_
          refine X.u (LU.moveS Is.rfl') rfl ?_
          refine X.u (LU.fieldO Try.underlying36 rfl Try.sizeOf34 (by decide) Is.rfl') rfl ?_
          refine X.u (LU.weak (LU.loadO 0 rfl ⟨Try.sizeOf34, Try.isAgg34⟩ Is.rfl' (Part.sub (by (simp; omega)))) (Is.of (y := .agg (hsL x.name)) (congrArg LV.agg (it_name x)))) rfl ?_
          refine X.u (LU.call (needs_calls l x.name ns k hl (by omega) hns) Try.func14 rfl rfl (Opds.cons Is.rfl' (Opds.cons Is.rfl' Opds.nil))) rfl ?_
          refine X.u (LU.lenN Try.underlying26 Is.rfl' (by (simp only [Option.getD_some, Option.getD_none, byteEls_length, intEls_length, List.length_append, List.length_cons, List.length_nil, List.length_map, List.length_drop, List.length_take, Int.toNat_natCast]; rfl))) rfl ?_
          refine X.u (LU.moveR Is.rfl') rfl ?_
          refine LL.nil (after_code ?_)
          refine LW.block ?_
          refine X.loopK (α := Nat) (fun j => [(89, i64 j)]) [0, 3, 10, 72, 73, 74, 87, 88] (fun j => Rf) (fun j => j ≤ ns.length) (fun j => ns.length - j) (0) (EnvLe.cons (by rfl) (EnvLe.nil)) (by repeat (first | exact HSub.refl _ | refine HSub.drop ?_)) ?_ ?_
          · exact Nat.zero_le _
          · rintro j hI
            refine LW.seq ?_
            refine LW.region ?_
            refine X.u (LU.lss Is.rfl' Is.rfl') rfl ?_
            refine LL.nil (after_code ?_)
            refine LW.seq ?_
            refine X.cond rfl (fun h21 => ?_) (fun h21 => ?_)
            · try have h21 := of_decide_eq_true h21
              refine LW.skip (after_code ?_)
              refine LW.seq ?_
              refine LW.block ?_
              refine LW.seq ?_
              obtain ⟨d_, hd2⟩ := at_lt (show j < ns.length by omega)
              have hdl : d_.1.length = 32 := d_.2
              have hdg := hxg.2 d_ (((hns.2 (by omega)).2 d_).1 (List.mem_of_getElem? hd2))
              have hpd := place_lt hdg.1
              refine LW.region ?_
              refine X.u (LU.at Try.underlying26 ⟨Try.sizeOf34, Try.isAgg34⟩ Is.rfl' Is.rfl' (by omega) (hss_at hd2) (hs_ne d_)) rfl ?_
              refine X.u (LU.weak (LU.load ⟨Try.sizeOf34, Try.isAgg34⟩ Is.rfl' (by (simp; omega)) (Part.whole (by (simp; omega)))) (Is.of (y := .agg (hsL d_)) (rfl))) rfl ?_
              refine X.act (X.alloc rfl Try.zeroValue34 (by exact Cells.rawagg (by decide)) (fun b12 => ?_))
              refine X.act (X.store 0 rfl Try.sizeOf34 Is.rfl' Is.rfl' (by exact Cells.agg) (by (simp; omega)) (by exact Nat.le_of_ble_eq_true rfl) ?_)
              refine LL.nil (after_code ?_)
              refine LW.seq ?_
              refine X.wcells (ys := hsL d_) (putAt_all (by rw [List.length_map, hdl]; rfl)) ?_
              refine LW.region ?_
              refine X.u (LU.moveS Is.rfl') rfl ?_
              refine X.u (LU.weak (LU.loadO 0 rfl ⟨Try.sizeOf34, Try.isAgg34⟩ Is.rfl' (Part.sub (by (simp; omega)))) (Is.of (y := .agg (hsL d_)) (hs_whole d_))) rfl ?_
              refine X.u (LU.call (place_calls O.1 d_ .unk (by omega)) Try.func22 rfl rfl (Opds.cons Is.rfl' (Opds.cons Is.rfl' Opds.nil))) rfl ?_
              refine X.u (LU.assignR Is.rfl') rfl ?_
              refine LL.nil (after_code ?_)
              refine LW.seq ?_
              refine LW.region ?_
              refine X.u (LU.moveR Is.rfl') rfl ?_
              refine X.u (LU.weak (LU.lss Is.rfl' Is.rfl') (asB (c := false) rfl (by simp; omega))) rfl ?_
              refine X.u (LU.moveR Is.rfl') rfl ?_
              refine X.doF rfl rfl (LU.moveR (by exact Is.rfl')) rfl ?_
              refine X.doF rfl rfl (LU.moveR (by exact Is.rfl')) rfl ?_
              refine X.doF rfl rfl (LU.weak (LU.geq (by exact Is.rfl') (by exact Is.rfl')) (asB (c := false) rfl (by simp; omega))) rfl ?_
              refine X.u (LU.pickF Is.rfl' (by exact Is.rfl')) rfl ?_
              refine LL.nil (after_code ?_)
              refine X.condF rfl ?_ ?_
              · rfl
              refine LW.skip (after_blk (after_code ?_))
              refine LW.region ?_
              refine X.u (LU.addN Is.rfl' Is.rfl' (wrap_i64 (by omega) (by omega))) rfl ?_
              refine X.u (LU.moveR Is.rfl') rfl ?_
              refine LL.nil (after_rnd ?_)
              refine X.next (j + 1) rfl (EnvLe.cons (by rfl) (EnvLe.nil)) (Keeps.cons (by exact Eq.trans (b := .sl _ _ _) rfl rfl) (Keeps.cons (by exact Eq.trans (b := .sl _ _ _) rfl rfl) (Keeps.cons (by exact Eq.trans (b := .raw _) rfl rfl) (Keeps.cons (by exact Eq.trans (b := .sl _ _ _) rfl rfl) (Keeps.cons (by exact Eq.trans (b := .raw _) rfl rfl) (Keeps.cons (by exact Eq.trans (b := .raw _) rfl rfl) (Keeps.cons (by exact Eq.trans (b := .sl _ _ _) rfl rfl) (Keeps.cons (by exact Eq.trans (b := .raw _) rfl rfl) (Keeps.nil))))))))) (by repeat (first | exact HSub.refl _ | refine HSub.drop ?_)) ?_ ?_
              · omega
              · omega
            · try have h21 := of_decide_eq_false h21
              refine LW.exit (exit_code (exit_rnd (exit_blk (after_blk (after_code ?_)))))
              refine LW.region ?_
              refine X.u (LU.addN Is.rfl' Is.rfl' (wrap_i64 (by omega) (by omega))) rfl ?_
              refine X.u (LU.moveR Is.rfl') rfl ?_
              refine LL.nil (after_rnd ?_)
              refine X.next (i + 1) rfl (EnvLe.cons (by rfl) (EnvLe.nil)) (Keeps.cons (by exact Eq.trans (b := .sl _ _ _) rfl rfl) (Keeps.cons (by exact Eq.trans (b := .sl _ _ _) rfl rfl) (Keeps.cons (by exact Eq.trans (b := .sl _ _ _) rfl rfl) (Keeps.cons (by exact Eq.trans (b := .raw _) rfl rfl) (Keeps.nil))))) (by repeat (exact HSub.refl _)) ?_ ?_
              · omega
              · omega
        · try have h15 := of_decide_eq_false h15
          refine LW.exit (exit_code (exit_rnd (exit_blk (after_code ?_))))
          refine LW.seq ?_
          refine LW.region ?_
          refine X.u (LU.call (lives_calls) Try.func9 rfl rfl Opds.nil) rfl ?_
          refine X.u (LU.assignR Is.rfl') rfl ?_
          refine LL.nil (after_code ?_)
          refine LW.ret (after_end ?_)
          refine X.ret (H' := []) (Res.one (by exact IsR rfl)) (by repeat (exact HSub.refl _)) ?_
          exact rfl
theorem DepsBehind_row (es : List (List LV)) (hq : ∀ c ∈ es, QItem c) (hb : es.length * 56 ≤ reachBytes) : LCalls Try.prog 5 [.sl 33 es .unk] [] (fun r _ => r = .raw (.bool true)) := by
  obtain ⟨l, rfl, hl⟩ := its_of hq
  exact db_calls l .unk (by have := reach_lt; simp at hb; omega) (in_lt hl)
end Go.Proofs.Ytmaeepckfbnpjaa
