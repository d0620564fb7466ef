/- Lines: the living texts; conflicts. -/
import Derived.Test.YtolpkeajokjbjaaDoorLpL
set_option linter.unusedVariables false
set_option linter.unusedSimpArgs false
namespace Go.Proofs.YtolpkeajokjbjaaDoor
open Go.RowKit Go.L Go.Lib
attribute [local irreducible] LL LW LO
def livF (l : List Sh) : List Sh := l.filter fun x => decide (x.kills = 0)
def textsG (r : Rg) : List (List UInt8) := (livF (shownG r)).map (·.text)
def liveG (r : Rg) : List Vx := (livF (shownG r)).map (·.v)
def conF (ah : Vx → Vx → Bool) : List Vx → Nat
  | [] => 0
  | v :: l => (l.filter fun w => !ah v w).length + conF ah l
def conflG (r : Rg) : Nat := conF (aheadG r) (liveG r)
theorem livF_snoc (l : List Sh) (x : Sh) : livF (l ++ [x]) = livF l ++ if x.kills = 0 then [x] else [] := by
  unfold livF
  rw [List.filter_append]
  congr 1
  by_cases c : x.kills = 0
  · simp [c]
  · simp [c]
theorem livF_len (l : List Sh) : (livF l).length ≤ l.length := List.length_filter_le _ _
theorem shown_len {r : Rg} (ho : Ok r) : (shownG r).length ≤ 512 := by unfold shownG; rw [List.length_map]; exact order_len ho
set_option maxHeartbeats 2000000 in
set_option maxRecDepth 100000 in
theorem text_calls (g ma mb : Nat) (n : Int) (m : At) (q : Ps) (r : Rg) (hrel : Rel m q n r) (ho : Ok r) (hD : r.D.length < 900000) : LCalls Tryd.prog 13 [pt g] [gC g ma mb n, gA ma m, kb] (fun x H' => x = .sl 1 (strsL (textsG r)) .unk ∧ H' = [gC g ma mb n, gA ma m, kb]) := by
  have hsc := shown_calls g ma mb n m q r hrel ho hD
  have hol := shown_len ho
  obtain ⟨O, hO⟩ : ∃ O, O = shownG r := ⟨_, rfl⟩
  have hS : textsG r = (livF O).map (·.text) := by unfold textsG; rw [hO]
  rw [← hO] at hsc hol
  rw [hS]
  refine LCalls.of Tryd.func13 rfl Tryd.ntmps13 Tryd.results13 rfl (fun Rf => ?_)
  refine LW.seq ?_
  refine LW.region ?_
  refine X.u (LU.assign (Is.nil 1)) rfl ?_
  refine LL.nil (after_code ?_)
  refine LW.seq ?_
  refine LW.region ?_
  refine X.u (LU.assign (Is.nil 1)) rfl ?_
  refine LL.nil (after_code ?_)
  refine LW.seq ?_
  refine LW.seq ?_
  refine LW.region ?_
  refine X.u (LU.moveR Is.rfl') rfl ?_
  refine X.u (LU.callP (List.Perm.refl _) (hsc) Tryd.func18 rfl rfl (Opds.cons Is.rfl' Opds.nil)) rfl ?_
  refine X.u (LU.lenN Tryd.underlying45 Is.rfl' (by (simp only [Option.getD_some, Option.getD_none, byteEls_length, intEls_length, List.length_append, List.length_cons, List.length_nil, List.length_map, List.length_drop, List.length_take, Int.toNat_natCast]; rfl))) rfl ?_
  refine X.u (LU.moveR Is.rfl') rfl ?_
  refine LL.nil (after_code ?_)
  refine LW.block ?_
  refine X.wweak (t := 3) (v := .sl 1 (strsL []) (.tok 0 0 0)) (Is.full_tok 0 0) ?_
  refine X.wghost (HSub.tail0 0 0 0 (Nat.le_refl _) _) ?_
  refine X.loopK (α := Nat × List (List UInt8) × Nat × Nat × Nat) (fun ⟨i, T, b, o, c⟩ => [(9, i64 i), (3, .sl 1 (strsL T) (.tok b o c))]) [2, 7, 8] (fun ⟨i, T, b, o, c⟩ => .tail b o c :: gC g ma mb n :: gA ma m :: kb :: Rf) (fun ⟨i, T, b, o, c⟩ => i ≤ O.length ∧ T = (livF (O.take i)).map (·.text)) (fun ⟨i, T, b, o, c⟩ => O.length - i) ((0, [], 0, 0, 0)) (EnvLe.cons (by rfl) (EnvLe.cons (by rfl) (EnvLe.nil))) (by repeat (exact HSub.refl _)) ?_ ?_
  · exact ⟨Nat.zero_le _, rfl⟩
  · rintro ⟨i, T, b, o, c⟩ hI
    obtain ⟨hi, hT⟩ := hI
    refine LW.seq ?_
    refine LW.region ?_
    refine X.u (LU.lss Is.rfl' Is.rfl') rfl ?_
    refine LL.nil (after_code ?_)
    refine LW.seq ?_
    refine X.cond rfl (fun h3 => ?_) (fun h3 => ?_)
    · try have h3 := of_decide_eq_true h3
      refine LW.skip (after_code ?_)
      refine LW.seq ?_
      refine LW.block ?_
      refine LW.seq ?_
      obtain ⟨x, hx⟩ := at_lt (show i < O.length by omega)
      have hxl := sh_len x
      have hv32 : x.v.p.1.length = 32 := x.v.p.2
      have htk : T.length ≤ i := by
        rw [hT, List.length_map]
        refine Nat.le_trans (livF_len _) ?_
        rw [List.length_take]; omega
      refine LW.region ?_
      refine X.u (LU.at Tryd.underlying45 ⟨Tryd.sizeOf49, Tryd.isAgg49⟩ Is.rfl' Is.rfl' (by omega) (shs_at hx) (sh_ne x)) rfl ?_
      refine X.u (LU.weak (LU.load ⟨Tryd.sizeOf49, Tryd.isAgg49⟩ Is.rfl' (by assumption) (Part.whole (by assumption))) (Is.of (y := .agg (shL x)) (rfl))) rfl ?_
      refine X.act (X.alloc rfl Tryd.zeroValue49 (by exact Cells.rawagg (by decide)) (fun b5 => ?_))
      refine X.act (X.store 0 rfl Tryd.sizeOf49 Is.rfl' Is.rfl' (by exact Cells.agg) (by assumption) (by exact Nat.le_of_ble_eq_true rfl) ?_)
      refine LL.nil (after_code ?_)
      refine LW.seq ?_
      refine X.wcells (ys := shL x) (putAt_all (by rw [hxl]; rfl)) ?_
      refine X.wghost (H' := .tail b o c :: .cells b5 49 (shL x) :: gC g ma mb n :: gA ma m :: kb :: Rf) (by repeat (first | exact HSub.refl _ | refine HSub.pick 1 rfl ?_)) ?_
      refine LW.region ?_
      refine X.u (LU.fieldO Tryd.underlying49 rfl Tryd.sizeOf3 (by decide) Is.rfl') rfl ?_
      refine X.u (LU.loadO 1 rfl ⟨Tryd.sizeOf3, Tryd.isAgg3⟩ Is.rfl' (Part.one ((show (shL x)[34]? = some (i64 (x.kills : Nat)) from sh_kills x)))) rfl ?_
      refine X.u (LU.eql Is.rfl' Is.rfl') rfl ?_
      refine LL.nil (after_code ?_)
      refine X.cond rfl (fun h5 => ?_) (fun h5 => ?_)
      · have h5 : x.kills = 0 := by simp at h5; omega
        have hz0 : (0 : Nat) = 0 := rfl
        refine LW.region ?_
        refine X.u (LU.moveS Is.rfl') rfl ?_
        refine X.u (LU.fieldO Tryd.underlying49 rfl Tryd.sizeOf9 (by decide) Is.rfl') rfl ?_
        refine X.u (LU.loadO 1 rfl ⟨Tryd.sizeOf9, Tryd.isAgg9⟩ Is.rfl' (Part.one ((show (shL x)[33]? = some (Str x.text) from sh_text x)))) rfl ?_
        refine X.u (LU.lits Tryd.underlying25 Tryd.sizeOf9 Tryd.zeroValue9 (ones rfl) rfl (by decide) (by decide) (Elems.cons Is.rfl' (by exact Cells.raw rfl) Elems.nil) (by (simp; done)) rfl) rfl ?_
        refine X.act (X.append 0 rfl rfl Tryd.underlying25 (El.of (P := Tryd.prog) (z := (.string ByteArray.empty)) (size := 1) (bytes := 16) rfl rfl rfl) Is.rfl' Is.rfl' (SrcL.slice Tryd.underlying25 (by decide) (by (intro e he; simp [chunks] at he; simp [he]; done))) (by simp only [Option.getD_some, Option.getD_none, byteEls_length, intEls_length, List.length_append, List.length_cons, List.length_nil, List.length_map, List.length_drop, List.length_take, Int.toNat_natCast]; omega) (by simp only [Option.getD_some, Option.getD_none, byteEls_length, intEls_length, List.length_append, List.length_cons, List.length_nil, List.length_map, List.length_drop, List.length_take, Int.toNat_natCast]; omega) (fun b20 o20 c20 => X.weak (t := 20) (Is.of (y := .sl 1 (strsL (T ++ [x.text])) (.tok b20 o20 c20)) (congrArg (fun z => LV.sl 1 z (.tok b20 o20 c20)) (by simp))) ?_))
        refine X.u (LU.assignS Is.rfl') rfl ?_
        refine LL.nil (after_blk (after_code ?_))
        refine LW.region ?_
        refine X.u (LU.addN Is.rfl' Is.rfl' (wrap_i64 (by omega) (by omega))) rfl ?_
        refine X.u (LU.moveR Is.rfl') rfl ?_
        refine LL.nil (after_rnd ?_)
        refine X.next ((i + 1, T ++ [x.text], b20, o20, c20)) rfl (EnvLe.cons (by rfl) (EnvLe.cons (by rfl) (EnvLe.nil))) (Keeps.cons (by exact Eq.trans (b := .sl _ _ _) rfl rfl) (Keeps.cons (by exact Eq.trans (b := .sl _ _ _) rfl rfl) (Keeps.cons (by exact Eq.trans (b := .raw _) rfl rfl) (Keeps.nil)))) (by repeat (first | exact HSub.refl _ | refine HSub.pick 0 rfl ?_ | refine HSub.pick 1 rfl ?_ | refine HSub.drop ?_)) ?_ ?_
        · exact ⟨by omega, by rw [take_snoc hx, livF_snoc, if_pos h5, List.map_append, ← hT]; rfl⟩
        · (simp; omega)
      · have h5 : ¬ x.kills = 0 := by simp at h5; omega
        have hz0 : (0 : Nat) = 0 := rfl
        refine LW.skip (after_blk (after_code ?_))
        refine LW.region ?_
        refine X.u (LU.addN Is.rfl' Is.rfl' (wrap_i64 (by omega) (by omega))) rfl ?_
        refine X.u (LU.moveR Is.rfl') rfl ?_
        refine LL.nil (after_rnd ?_)
        refine X.next ((i + 1, T, b, o, c)) rfl (EnvLe.cons (by rfl) (EnvLe.cons (by rfl) (EnvLe.nil))) (Keeps.cons (by exact Eq.trans (b := .sl _ _ _) rfl rfl) (Keeps.cons (by exact Eq.trans (b := .sl _ _ _) rfl rfl) (Keeps.cons (by exact Eq.trans (b := .raw _) rfl rfl) (Keeps.nil)))) (by repeat (first | exact HSub.refl _ | refine HSub.pick 0 rfl ?_ | refine HSub.pick 1 rfl ?_ | refine HSub.drop ?_)) ?_ ?_
        · exact ⟨by omega, by rw [take_snoc hx, livF_snoc, if_neg h5, List.append_nil, hT]⟩
        · (simp; omega)
    · try have h3 := of_decide_eq_false h3
      refine LW.exit (exit_code (exit_rnd (exit_blk (after_code ?_))))
      refine LW.seq ?_
      refine LW.region ?_
      refine X.u (LU.moveS Is.rfl') rfl ?_
      refine X.u (LU.assignS Is.rfl') rfl ?_
      refine LL.nil (after_code ?_)
      refine LW.ret (after_end ?_)
      refine X.ret (H' := [gC g ma mb n, gA ma m, kb]) (Res.one (by exact IsS rfl)) (by repeat (first | exact HSub.refl _ | refine HSub.pick 1 rfl ?_ | refine HSub.drop ?_)) ?_
      exact ⟨by rw [hT, List.take_of_length_le (by omega)], rfl⟩
theorem conF_le (ah : Vx → Vx → Bool) : ∀ l : List Vx, conF ah l ≤ l.length * l.length
  | [] => Nat.le_refl _
  | v :: l => by
    have h1 := List.length_filter_le (fun w => !ah v w) l
    have h2 := conF_le ah l
    rw [conF, List.length_cons, Nat.succ_mul, Nat.mul_succ]
    omega
theorem ahead_rel (g ma mb : Nat) (n : Int) (m : At) (q : Ps) (r : Rg) (hrel : Rel m q n r) (ho : Ok r) (a b : Vx) : LCalls Tryd.prog 21 [pt g, .agg (vxL a), .agg (vxL b)] [gC g ma mb n, gA ma m] (fun x H' => x = bl (aheadG r a b) ∧ H' = [gC g ma mb n, gA ma m]) :=
  ahead_calls g ma mb n m a b (aheadG r a b) (hrel.alln ho) (fun v => Nat.lt_of_le_of_lt (hrel.sz ho v).1 (by decide)) (by
    rw [hrel.has, hrel.has, hrel.nx, ho.ahead]
    exact ⟨fun e => ⟨(ho.hasR e).1, (ho.hasR e).2, e⟩, fun e => e.2.2⟩)
set_option maxHeartbeats 2000000 in
set_option maxRecDepth 100000 in
theorem conflicts_calls (g ma mb : Nat) (n : Int) (m : At) (q : Ps) (r : Rg) (hrel : Rel m q n r) (ho : Ok r) (hD : r.D.length < 900000) : LCalls Tryd.prog 14 [pt g] [gC g ma mb n, gA ma m, kb] (fun x H' => x = i64 (conflG r : Nat) ∧ H' = [gC g ma mb n, gA ma m, kb]) := by
  have hsc := shown_calls g ma mb n m q r hrel ho hD
  have hol := shown_len ho
  obtain ⟨O, hO⟩ : ∃ O, O = shownG r := ⟨_, rfl⟩
  obtain ⟨ah, hah⟩ : ∃ ah, ah = aheadG r := ⟨_, rfl⟩
  have hS : conflG r = conF ah ((livF O).map (·.v)) := by unfold conflG liveG; rw [hO, hah]
  have hac := fun a b => ahead_rel g ma mb n m q r hrel ho a b
  rw [← hah] at hac
  rw [← hO] at hsc hol
  rw [hS]
  refine LCalls.of Tryd.func14 rfl Tryd.ntmps14 Tryd.results14 rfl (fun Rf => ?_)
  refine LW.seq ?_
  refine LW.region ?_
  refine X.u (LU.assignR Is.rfl') rfl ?_
  refine LL.nil (after_code ?_)
  refine LW.seq ?_
  refine LW.region ?_
  refine X.u (LU.assign (Is.nil 33)) rfl ?_
  refine LL.nil (after_code ?_)
  refine LW.seq ?_
  refine LW.seq ?_
  refine LW.region ?_
  refine X.u (LU.moveR Is.rfl') rfl ?_
  refine X.u (LU.callP (List.Perm.refl _) (hsc) Tryd.func18 rfl rfl (Opds.cons Is.rfl' Opds.nil)) rfl ?_
  refine X.u (LU.lenN Tryd.underlying45 Is.rfl' (by (simp only [Option.getD_some, Option.getD_none, byteEls_length, intEls_length, List.length_append, List.length_cons, List.length_nil, List.length_map, List.length_drop, List.length_take, Int.toNat_natCast]; rfl))) rfl ?_
  refine X.u (LU.moveR Is.rfl') rfl ?_
  refine LL.nil (after_code ?_)
  refine LW.block ?_
  refine X.wweak (t := 3) (v := Vxs [] (.tok 0 0 0)) (Is.full_tok 0 0) ?_
  refine X.wghost (HSub.tail0 0 0 0 (Nat.le_refl _) _) ?_
  refine X.loopK (α := Nat × List Vx × Nat × Nat × Nat) (fun ⟨i, L, b, o, c⟩ => [(14, i64 i), (3, Vxs L (.tok b o c))]) [0, 2, 12, 13] (fun ⟨i, L, b, o, c⟩ => .tail b o c :: gC g ma mb n :: gA ma m :: kb :: Rf) (fun ⟨i, L, b, o, c⟩ => i ≤ O.length ∧ L = (livF (O.take i)).map (·.v)) (fun ⟨i, L, b, o, c⟩ => O.length - i) ((0, [], 0, 0, 0)) (EnvLe.cons (by rfl) (EnvLe.cons (by rfl) (EnvLe.nil))) (by repeat (exact HSub.refl _)) ?_ ?_
  · exact ⟨Nat.zero_le _, rfl⟩
  · rintro ⟨i, L, b, o, c⟩ hI
    obtain ⟨hi, hT⟩ := hI
    refine LW.seq ?_
    refine LW.region ?_
    refine X.u (LU.lss Is.rfl' Is.rfl') rfl ?_
    refine LL.nil (after_code ?_)
    refine LW.seq ?_
    refine X.cond rfl (fun h3 => ?_) (fun h3 => ?_)
    · try have h3 := of_decide_eq_true h3
      refine LW.skip (after_code ?_)
      refine LW.seq ?_
      refine LW.block ?_
      refine LW.seq ?_
      obtain ⟨x, hx⟩ := at_lt (show i < O.length by omega)
      have hxl := sh_len x
      have hv32 : x.v.p.1.length = 32 := x.v.p.2
      have hxvl := vxL_len x.v
      have htk : L.length ≤ i := by
        rw [hT, List.length_map]
        refine Nat.le_trans (livF_len _) ?_
        rw [List.length_take]; omega
      refine LW.region ?_
      refine X.u (LU.at Tryd.underlying45 ⟨Tryd.sizeOf49, Tryd.isAgg49⟩ Is.rfl' Is.rfl' (by omega) (shs_at hx) (sh_ne x)) rfl ?_
      refine X.u (LU.weak (LU.load ⟨Tryd.sizeOf49, Tryd.isAgg49⟩ Is.rfl' (by assumption) (Part.whole (by assumption))) (Is.of (y := .agg (shL x)) (rfl))) rfl ?_
      refine X.act (X.alloc rfl Tryd.zeroValue49 (by exact Cells.rawagg (by decide)) (fun b5 => ?_))
      refine X.act (X.store 0 rfl Tryd.sizeOf49 Is.rfl' Is.rfl' (by exact Cells.agg) (by assumption) (by exact Nat.le_of_ble_eq_true rfl) ?_)
      refine LL.nil (after_code ?_)
      refine LW.seq ?_
      refine X.wcells (ys := shL x) (putAt_all (by rw [hxl]; rfl)) ?_
      refine X.wghost (H' := .tail b o c :: .cells b5 49 (shL x) :: gC g ma mb n :: gA ma m :: kb :: Rf) (by repeat (first | exact HSub.refl _ | refine HSub.pick 1 rfl ?_)) ?_
      refine LW.region ?_
      refine X.u (LU.fieldO Tryd.underlying49 rfl Tryd.sizeOf3 (by decide) Is.rfl') rfl ?_
      refine X.u (LU.loadO 1 rfl ⟨Tryd.sizeOf3, Tryd.isAgg3⟩ Is.rfl' (Part.one ((show (shL x)[34]? = some (i64 (x.kills : Nat)) from sh_kills x)))) rfl ?_
      refine X.u (LU.eql Is.rfl' Is.rfl') rfl ?_
      refine LL.nil (after_code ?_)
      refine X.cond rfl (fun h5 => ?_) (fun h5 => ?_)
      · have h5 : x.kills = 0 := by simp at h5; omega
        have hz0 : (0 : Nat) = 0 := rfl
        refine LW.region ?_
        refine X.u (LU.moveS Is.rfl') rfl ?_
        refine X.u (LU.fieldO Tryd.underlying49 rfl Tryd.sizeOf35 (by decide) Is.rfl') rfl ?_
        refine X.u (LU.weak (LU.loadO 1 rfl ⟨Tryd.sizeOf35, Tryd.isAgg35⟩ Is.rfl' (Part.sub (by (simp; omega)))) (Is.of (y := .agg (vxL x.v)) (congrArg LV.agg (sh_v x)))) rfl ?_
        refine X.u (LU.lits Tryd.underlying26 Tryd.sizeOf35 Tryd.zeroValue35 (ones rfl) rfl (by decide) (by decide) (Elems.cons Is.rfl' (by exact Cells.agg) Elems.nil) (by (simp; assumption)) rfl) rfl ?_
        refine X.act (X.append 0 rfl rfl Tryd.underlying26 (El.of (P := Tryd.prog) (z := (.agg #[(.int .u8 0), (.int .u8 0), (.int .u8 0), (.int .u8 0), (.int .u8 0), (.int .u8 0), (.int .u8 0), (.int .u8 0), (.int .u8 0), (.int .u8 0), (.int .u8 0), (.int .u8 0), (.int .u8 0), (.int .u8 0), (.int .u8 0), (.int .u8 0), (.int .u8 0), (.int .u8 0), (.int .u8 0), (.int .u8 0), (.int .u8 0), (.int .u8 0), (.int .u8 0), (.int .u8 0), (.int .u8 0), (.int .u8 0), (.int .u8 0), (.int .u8 0), (.int .u8 0), (.int .u8 0), (.int .u8 0), (.int .u8 0), (.int .i64 0)])) (size := 33) (bytes := 40) rfl rfl rfl) Is.rfl' Is.rfl' (SrcL.slice Tryd.underlying26 (by decide) (by intro e he; rw [List.mem_singleton.1 he]; exact hxvl)) (by simp only [Option.getD_some, Option.getD_none, byteEls_length, intEls_length, List.length_append, List.length_cons, List.length_nil, List.length_map, List.length_drop, List.length_take, Int.toNat_natCast]; omega) (by simp only [Option.getD_some, Option.getD_none, byteEls_length, intEls_length, List.length_append, List.length_cons, List.length_nil, List.length_map, List.length_drop, List.length_take, Int.toNat_natCast]; omega) (fun b25 o25 c25 => X.weak (t := 25) (Is.of (y := Vxs (L ++ [x.v]) (.tok b25 o25 c25)) (congrArg (fun z => LV.sl 33 z (.tok b25 o25 c25)) (vxs_app L [x.v]))) ?_))
        refine X.u (LU.assignS Is.rfl') rfl ?_
        refine LL.nil (after_blk (after_code ?_))
        refine LW.region ?_
        refine X.u (LU.addN Is.rfl' Is.rfl' (wrap_i64 (by omega) (by omega))) rfl ?_
        refine X.u (LU.moveR Is.rfl') rfl ?_
        refine LL.nil (after_rnd ?_)
        refine X.next ((i + 1, L ++ [x.v], b25, o25, c25)) rfl (EnvLe.cons (by rfl) (EnvLe.cons (by rfl) (EnvLe.nil))) (Keeps.cons (by exact Eq.trans (b := .raw _) rfl rfl) (Keeps.cons (by exact Eq.trans (b := .raw _) rfl rfl) (Keeps.cons (by exact Eq.trans (b := .sl _ _ _) rfl rfl) (Keeps.cons (by exact Eq.trans (b := .raw _) rfl rfl) (Keeps.nil))))) (by repeat (first | exact HSub.refl _ | refine HSub.pick 0 rfl ?_ | refine HSub.pick 1 rfl ?_ | refine HSub.drop ?_)) ?_ ?_
        · exact ⟨by omega, by rw [take_snoc hx, livF_snoc, if_pos h5, List.map_append, ← hT]; rfl⟩
        · (simp; omega)
      · have h5 : ¬ x.kills = 0 := by simp at h5; omega
        have hz0 : (0 : Nat) = 0 := rfl
        refine LW.skip (after_blk (after_code ?_))
        refine LW.region ?_
        refine X.u (LU.addN Is.rfl' Is.rfl' (wrap_i64 (by omega) (by omega))) rfl ?_
        refine X.u (LU.moveR Is.rfl') rfl ?_
        refine LL.nil (after_rnd ?_)
        refine X.next ((i + 1, L, b, o, c)) rfl (EnvLe.cons (by rfl) (EnvLe.cons (by rfl) (EnvLe.nil))) (Keeps.cons (by exact Eq.trans (b := .raw _) rfl rfl) (Keeps.cons (by exact Eq.trans (b := .raw _) rfl rfl) (Keeps.cons (by exact Eq.trans (b := .sl _ _ _) rfl rfl) (Keeps.cons (by exact Eq.trans (b := .raw _) rfl rfl) (Keeps.nil))))) (by repeat (first | exact HSub.refl _ | refine HSub.pick 0 rfl ?_ | refine HSub.pick 1 rfl ?_ | refine HSub.drop ?_)) ?_ ?_
        · exact ⟨by omega, by rw [take_snoc hx, livF_snoc, if_neg h5, List.append_nil, hT]⟩
        · (simp; omega)
    · try have h3 := of_decide_eq_false h3
      refine LW.exit (exit_code (exit_rnd (exit_blk (after_code ?_))))
      refine LW.seq ?_
      rw [List.take_of_length_le (by omega)] at hT
      have hLl : L.length ≤ 512 := by
        rw [hT, List.length_map]
        exact Nat.le_trans (livF_len _) hol
      have hcl := conF_le ah L
      have hcl2 : L.length * L.length ≤ 512 * 512 := Nat.mul_le_mul hLl hLl
      refine LW.region ?_
      refine X.u (LU.assignR Is.rfl') rfl ?_
      refine LL.nil (after_code ?_)
      refine LW.seq ?_
      refine LW.seq ?_
      refine LW.region ?_
      refine X.u (LU.moveS Is.rfl') rfl ?_
      refine X.u (LU.lenN Tryd.underlying26 Is.rfl' (by (simp only [Option.getD_some, Option.getD_none, byteEls_length, intEls_length, List.length_append, List.length_cons, List.length_nil, List.length_map, List.length_drop, List.length_take, Int.toNat_natCast]; rfl))) rfl ?_
      refine X.u (LU.moveR Is.rfl') rfl ?_
      refine LL.nil (after_code ?_)
      refine LW.block ?_
      refine X.loopK (α := Nat × Nat) (fun ⟨i, k⟩ => [(29, i64 i), (6, i64 k)]) [0, 2, 3, 27, 28] (fun ⟨i, k⟩ => .tail b o c :: gC g ma mb n :: gA ma m :: kb :: Rf) (fun ⟨i, k⟩ => i ≤ L.length ∧ k + conF ah (L.drop i) = conF ah L) (fun ⟨i, k⟩ => L.length - i) ((0, 0)) (EnvLe.cons (by rfl) (EnvLe.cons (by rfl) (EnvLe.nil))) (by repeat (exact HSub.refl _)) ?_ ?_
      · exact ⟨Nat.zero_le _, by rw [List.drop_zero, Nat.zero_add]⟩
      · rintro ⟨i, k⟩ hI
        obtain ⟨hi, hk⟩ := hI
        refine LW.seq ?_
        refine LW.region ?_
        refine X.u (LU.lss Is.rfl' Is.rfl') rfl ?_
        refine LL.nil (after_code ?_)
        refine LW.seq ?_
        refine X.cond rfl (fun h10 => ?_) (fun h10 => ?_)
        · try have h10 := of_decide_eq_true h10
          refine LW.skip (after_code ?_)
          refine LW.seq ?_
          refine LW.block ?_
          refine LW.seq ?_
          obtain ⟨v, hv⟩ := at_lt (show i < L.length by omega)
          have hvl := vxL_len v
          have hv32 : v.p.1.length = 32 := v.p.2
          rw [drop_at hv, conF] at hk
          have hdl : (L.drop (i + 1)).length = L.length - (i + 1) := List.length_drop ..
          refine LW.region ?_
          refine X.u (LU.moveR Is.rfl') rfl ?_
          refine X.u (LU.at Tryd.underlying26 ⟨Tryd.sizeOf35, Tryd.isAgg35⟩ Is.rfl' Is.rfl' (by omega) (vxs_at hv) (vx_ne v)) rfl ?_
          refine X.u (LU.weak (LU.load ⟨Tryd.sizeOf35, Tryd.isAgg35⟩ Is.rfl' (by assumption) (Part.whole (by assumption))) (Is.of (y := .agg (vxL v)) (rfl))) rfl ?_
          refine X.act (X.alloc rfl Tryd.zeroValue35 (by exact Cells.rawagg (by decide)) (fun b8 => ?_))
          refine X.u (LU.assignR Is.rfl') rfl ?_
          refine X.act (X.store 0 rfl Tryd.sizeOf35 Is.rfl' Is.rfl' (by exact Cells.agg) (by assumption) (by exact Nat.le_of_ble_eq_true rfl) ?_)
          refine LL.nil (after_code ?_)
          refine LW.seq ?_
          refine X.wcells (ys := vxL v) (putAt_all (by rw [hvl]; rfl)) ?_
          refine LW.region ?_
          refine X.u (LU.moveS Is.rfl') rfl ?_
          refine X.u (LU.moveR Is.rfl') rfl ?_
          refine X.u (LU.weak (LU.addN Is.rfl' Is.rfl' (wrap_i64 (by omega) (by omega))) (Is.of (y := i64 ((i + 1 : Nat) : Int)) (rfl))) rfl ?_
          refine X.u (LU.weak (LU.slice (lo := some _) (hi := none) (l := some ((i + 1 : Nat) : Int)) (h := none) Tryd.sizeOf35 (by decide) Tryd.underlying26 Is.rfl' ⟨_, Is.rfl'⟩ trivial (by simp; omega) (by simp only [Option.getD_some, Option.getD_none, List.length_map]; omega) (by simp only [Option.getD_some, Option.getD_none, List.length_map]; try omega) .unk (.inl rfl)) (Is.of (y := Vxs (L.drop (i + 1)) .unk) (congrArg (fun z => LV.sl 33 z .unk) (by simp only [Option.getD_some, Option.getD_none, Int.toNat_natCast, vxs, List.map_drop, List.length_map]; rw [List.take_of_length_le (by simp)])))) rfl ?_
          refine X.u (LU.weak (LU.lenN Tryd.underlying26 Is.rfl' (by (simp only [Option.getD_some, Option.getD_none, byteEls_length, intEls_length, List.length_append, List.length_cons, List.length_nil, List.length_map, List.length_drop, List.length_take, Int.toNat_natCast]; rfl))) (Is.of (y := i64 ((L.drop (i + 1)).length : Nat)) (congrArg i64 (by simp)))) rfl ?_
          refine X.u (LU.moveR Is.rfl') rfl ?_
          refine LL.nil (after_code ?_)
          refine LW.block ?_
          refine X.loopK (α := Nat × Nat) (fun ⟨j, k2⟩ => [(39, i64 j), (6, i64 k2)]) [0, 2, 3, 8, 27, 28, 29, 37, 38] (fun ⟨j, k2⟩ => .cells b8 35 (vxL v) :: .tail b o c :: gC g ma mb n :: gA ma m :: kb :: Rf) (fun ⟨j, k2⟩ => j ≤ (L.drop (i + 1)).length ∧ k2 + (((L.drop (i + 1)).drop j).filter (fun w => !ah v w)).length + conF ah (L.drop (i + 1)) = conF ah L) (fun ⟨j, k2⟩ => (L.drop (i + 1)).length - j) ((0, k)) (EnvLe.cons (by rfl) (EnvLe.cons (by rfl) (EnvLe.nil))) (by repeat (exact HSub.refl _)) ?_ ?_
          · exact ⟨Nat.zero_le _, by rw [List.drop_zero]; omega⟩
          · rintro ⟨j, k2⟩ hI
            obtain ⟨hj, hk2⟩ := hI
            refine LW.seq ?_
            refine LW.region ?_
            refine X.u (LU.lss Is.rfl' Is.rfl') rfl ?_
            refine LL.nil (after_code ?_)
            refine LW.seq ?_
            refine X.cond rfl (fun h13 => ?_) (fun h13 => ?_)
            · try have h13 := of_decide_eq_true h13
              refine LW.skip (after_code ?_)
              refine LW.seq ?_
              refine LW.block ?_
              refine LW.seq ?_
              obtain ⟨w, hw⟩ := at_lt (show j < (L.drop (i + 1)).length by omega)
              have hwl := vxL_len w
              have hw32 : w.p.1.length = 32 := w.p.2
              rw [drop_at hw, List.filter_cons] at hk2
              refine LW.region ?_
              refine X.u (LU.at Tryd.underlying26 ⟨Tryd.sizeOf35, Tryd.isAgg35⟩ Is.rfl' Is.rfl' (by omega) (vxs_at hw) (vx_ne w)) rfl ?_
              refine X.u (LU.weak (LU.load ⟨Tryd.sizeOf35, Tryd.isAgg35⟩ Is.rfl' (by assumption) (Part.whole (by assumption))) (Is.of (y := .agg (vxL w)) (rfl))) rfl ?_
              refine X.act (X.alloc rfl Tryd.zeroValue35 (by exact Cells.rawagg (by decide)) (fun b10 => ?_))
              refine X.act (X.store 0 rfl Tryd.sizeOf35 Is.rfl' Is.rfl' (by exact Cells.agg) (by assumption) (by exact Nat.le_of_ble_eq_true rfl) ?_)
              refine LL.nil (after_code ?_)
              refine LW.seq ?_
              refine X.wcells (ys := vxL w) (putAt_all (by rw [hwl]; rfl)) ?_
              refine X.wghost (H' := .cells b10 35 (vxL w) :: .cells b8 35 (vxL v) :: .tail b o c :: gC g ma mb n :: gA ma m :: kb :: Rf) (by repeat (exact HSub.refl _)) ?_
              refine LW.region ?_
              refine X.u (LU.moveR Is.rfl') rfl ?_
              refine X.u (LU.loadO 1 rfl ⟨Tryd.sizeOf35, Tryd.isAgg35⟩ Is.rfl' (Part.whole (by assumption))) rfl ?_
              refine X.u (LU.loadO 0 rfl ⟨Tryd.sizeOf35, Tryd.isAgg35⟩ Is.rfl' (Part.whole (by assumption))) rfl ?_
              refine X.u (LU.callP (show List.Perm _ ([gC g ma mb n, gA ma m] ++ (.cells b10 35 (vxL w) :: .cells b8 35 (vxL v) :: .tail b o c :: kb :: Rf)) from perm_of fun x => (by simp only [List.count_append, List.count_cons, List.count_nil]; omega)) (hac v w) Tryd.func21 rfl rfl (Opds.cons Is.rfl' (Opds.cons Is.rfl' (Opds.cons Is.rfl' Opds.nil)))) rfl ?_
              refine X.u (LU.not Is.rfl') rfl ?_
              refine LL.nil (after_code ?_)
              refine X.cond rfl (fun h15 => ?_) (fun h15 => ?_)
              · have h15 : ah v w = false := by simpa using h15
                simp only [h15, Bool.not_false, if_true, List.length_cons] at hk2
                refine LW.region ?_
                refine X.u (LU.moveR Is.rfl') rfl ?_
                refine X.u (LU.addN Is.rfl' Is.rfl' (wrap_i64 (by omega) (by omega))) rfl ?_
                refine X.u (LU.assignR Is.rfl') rfl ?_
                refine LL.nil (after_blk (after_code ?_))
                refine LW.region ?_
                refine X.u (LU.addN Is.rfl' Is.rfl' (wrap_i64 (by omega) (by omega))) rfl ?_
                refine X.u (LU.moveR Is.rfl') rfl ?_
                refine LL.nil (after_rnd ?_)
                refine X.next ((j + 1, k2 + 1)) rfl (EnvLe.cons (by rfl) (EnvLe.cons (by rfl) (EnvLe.nil))) (Keeps.cons (by exact Eq.trans (b := .raw _) rfl rfl) (Keeps.cons (by exact Eq.trans (b := .raw _) rfl rfl) (Keeps.cons (by exact Eq.trans (b := .sl _ _ _) rfl rfl) (Keeps.cons (by exact Eq.trans (b := .raw _) rfl rfl) (Keeps.cons (by exact Eq.trans (b := .sl _ _ _) rfl rfl) (Keeps.cons (by exact Eq.trans (b := .raw _) rfl rfl) (Keeps.cons (by exact Eq.trans (b := .raw _) rfl rfl) (Keeps.cons (by exact Eq.trans (b := .sl _ _ _) rfl rfl) (Keeps.cons (by exact Eq.trans (b := .raw _) rfl rfl) (Keeps.nil)))))))))) (by repeat (first | exact HSub.refl _ | refine HSub.pick 1 rfl ?_ | refine HSub.drop ?_)) ?_ ?_
                · exact ⟨by omega, by omega⟩
                · (simp; omega)
              · have h15 : ah v w = true := by simpa using h15
                simp only [h15, Bool.not_true, Bool.false_eq_true, if_false] at hk2
                refine LW.skip (after_blk (after_code ?_))
                refine LW.region ?_
                refine X.u (LU.addN Is.rfl' Is.rfl' (wrap_i64 (by omega) (by omega))) rfl ?_
                refine X.u (LU.moveR Is.rfl') rfl ?_
                refine LL.nil (after_rnd ?_)
                refine X.next ((j + 1, k2)) rfl (EnvLe.cons (by rfl) (EnvLe.cons (by rfl) (EnvLe.nil))) (Keeps.cons (by exact Eq.trans (b := .raw _) rfl rfl) (Keeps.cons (by exact Eq.trans (b := .raw _) rfl rfl) (Keeps.cons (by exact Eq.trans (b := .sl _ _ _) rfl rfl) (Keeps.cons (by exact Eq.trans (b := .raw _) rfl rfl) (Keeps.cons (by exact Eq.trans (b := .sl _ _ _) rfl rfl) (Keeps.cons (by exact Eq.trans (b := .raw _) rfl rfl) (Keeps.cons (by exact Eq.trans (b := .raw _) rfl rfl) (Keeps.cons (by exact Eq.trans (b := .sl _ _ _) rfl rfl) (Keeps.cons (by exact Eq.trans (b := .raw _) rfl rfl) (Keeps.nil)))))))))) (by repeat (first | exact HSub.refl _ | refine HSub.pick 1 rfl ?_ | refine HSub.drop ?_)) ?_ ?_
                · exact ⟨by omega, by omega⟩
                · (simp; omega)
            · try have h13 := of_decide_eq_false h13
              refine LW.exit (exit_code (exit_rnd (exit_blk (after_blk (after_code ?_)))))
              refine LW.region ?_
              refine X.u (LU.addN Is.rfl' Is.rfl' (wrap_i64 (by omega) (by omega))) rfl ?_
              refine X.u (LU.moveR Is.rfl') rfl ?_
              refine LL.nil (after_rnd ?_)
              refine X.next ((i + 1, k2)) rfl (EnvLe.cons (by rfl) (EnvLe.cons (by rfl) (EnvLe.nil))) (Keeps.cons (by exact Eq.trans (b := .raw _) rfl rfl) (Keeps.cons (by exact Eq.trans (b := .raw _) rfl rfl) (Keeps.cons (by exact Eq.trans (b := .sl _ _ _) rfl rfl) (Keeps.cons (by exact Eq.trans (b := .sl _ _ _) rfl rfl) (Keeps.cons (by exact Eq.trans (b := .raw _) rfl rfl) (Keeps.nil)))))) (by repeat (first | exact HSub.refl _ | refine HSub.pick 1 rfl ?_ | refine HSub.drop ?_)) ?_ ?_
              · refine ⟨by omega, ?_⟩
                rw [List.drop_drop, List.drop_of_length_le (by omega)] at hk2
                simpa using hk2
              · (simp; omega)
        · try have h10 := of_decide_eq_false h10
          refine LW.exit (exit_code (exit_rnd (exit_blk (after_code ?_))))
          refine LW.seq ?_
          refine LW.region ?_
          refine X.u (LU.moveR Is.rfl') rfl ?_
          refine X.u (LU.assignR Is.rfl') rfl ?_
          refine LL.nil (after_code ?_)
          refine LW.ret (after_end ?_)
          refine X.ret (H' := [gC g ma mb n, gA ma m, kb]) (Res.one (by exact IsR rfl)) (by repeat (first | exact HSub.refl _ | refine HSub.pick 1 rfl ?_ | refine HSub.drop ?_)) ?_
          rw [List.drop_of_length_le (by omega)] at hk
          exact ⟨by rw [← hT, ← hk]; simp [conF], rfl⟩
end Go.Proofs.YtolpkeajokjbjaaDoor
