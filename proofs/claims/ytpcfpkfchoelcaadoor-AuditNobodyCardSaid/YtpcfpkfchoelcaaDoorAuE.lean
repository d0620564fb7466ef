/- Entries gone through as a chain. -/
import Derived.Test.YtpcfpkfchoelcaaDoorAuD
set_option linter.unusedVariables false
set_option linter.unusedSimpArgs false
namespace Go.Proofs.YtpcfpkfchoelcaaDoor
open Go.RowKit Go.L
attribute [local irreducible] LL LW LO LP LA
theorem Res.tct {P : Program} {x a t : Tmp} {ta : TypeId} {st : LS} {b off : Nat} {tb : TypeId} {xs : List LV} {size : Nat} {agg : Bool} {u v r s : LV} (k : Nat) (hk : st.heap[k]? = some (.cells b tb xs)) (ha : get st.env a = .raw (.pointer (some ⟨b, off, Option.none⟩))) (ht : Ty P ta size agg) (hv : Part size agg xs off v) (hu : Is (get st.env x) u) (hr : Is v r) (hs : Is (get st.env t) s) : Res P #[.tmp x, .cell a ta, .tmp t] st (.tup [u, r, s]) := fun w0 ph ac w fn h rl => by
  obtain ⟨F, hF, cs, hh, hc⟩ := rl.inv.atom_at hk
  have h1 := rl.tmps a
  rw [ha] at h1
  obtain ⟨z, hrun, hrep⟩ := creps_part (P := P) hc ht hv (w := w) (b := b) (fun i c hi => by rw [cell_of_row w b i cs tb (0, 0) hh]; exact hi)
  refine ⟨.tuple #[ac.tmps.getD x undef, z, ac.tmps.getD t undef], by
    have h2 := h1.rawE
    rw [Array.getD_eq_getD_getElem?] at h2
    simp [results, h, h2, asAddr, hrun], .tup _ _ rfl fun i c x h2 h3 => ?_⟩
  match i with
  | 0 => simp at h2 h3; subst h2; subst h3; exact hu _ _ (by simpa using rl.tmps _)
  | 1 => simp at h2 h3; subst h2; subst h3; exact hr _ _ hrep
  | 2 => simp at h2 h3; subst h2; subst h3; exact hs _ _ (by simpa using rl.tmps t)
  | k + 3 => simp at h2
def verL (l : List Ent) : Int := match (List.range l.length).find? (fun i => !fitE (l.take i) (l.getD i zeroE)) with
  | some i => (i : Int)
  | none => -1
theorem ver_bad {l : List Ent} {i : Nat} (hi : i < l.length) (h1 : ∀ j, j < i → fitE (l.take j) (l.getD j zeroE) = true) (h2 : fitE (l.take i) (l.getD i zeroE) = false) : verL l = i := by
  have : (List.range l.length).find? (fun i => !fitE (l.take i) (l.getD i zeroE)) = some i := by
    rw [List.find?_range_eq_some]
    refine ⟨by rw [h2]; rfl, List.mem_range.2 hi, fun j hj => by rw [h1 j hj]; rfl⟩
  unfold verL; rw [this]
theorem ver_good {l : List Ent} (h1 : ∀ j, j < l.length → fitE (l.take j) (l.getD j zeroE) = true) : verL l = -1 := by
  have : (List.range l.length).find? (fun i => !fitE (l.take i) (l.getD i zeroE)) = none := by
    rw [List.find?_eq_none]
    intro j hj
    rw [h1 j (List.mem_range.1 hj)]; simp
  unfold verL; rw [this]
theorem ver_cases (l : List Ent) : (verL l = -1 ∧ ∀ j, j < l.length → fitE (l.take j) (l.getD j zeroE) = true) ∨ ∃ i : Nat, i < l.length ∧ verL l = i ∧ (∀ j, j < i → fitE (l.take j) (l.getD j zeroE) = true) ∧ fitE (l.take i) (l.getD i zeroE) = false := by
  cases hf : (List.range l.length).find? (fun i => !fitE (l.take i) (l.getD i zeroE)) with
  | none =>
    refine .inl ⟨by unfold verL; rw [hf], fun j hj => ?_⟩
    have := List.find?_eq_none.1 hf j (List.mem_range.2 hj)
    simpa using this
  | some i =>
    obtain ⟨h1, h2, h3⟩ := List.find?_range_eq_some.1 hf
    exact .inr ⟨i, List.mem_range.1 h2, by unfold verL; rw [hf], fun j hj => by simpa using h3 j hj, by simpa using h1⟩
theorem getD_get {l : List Ent} {i : Nat} {x : Ent} (h : l[i]? = some x) : l.getD i zeroE = x := by rw [List.getD_eq_getElem?_getD, h]; rfl
theorem ents_at {l : List Ent} {i : Nat} {x : Ent} (h : l[i]? = some x) : (ents l)[(i : Int).toNat]? = some (entL x) := by
  rw [Int.toNat_natCast, List.getElem?_map, h]; rfl
theorem ents_take (l : List Ent) (i : Nat) (k : Cap) : LV.sl 36 ((ents l).take i) k = LV.sl 36 (ents (l.take i)) k := by
  show LV.sl 36 ((l.map entL).take i) k = LV.sl 36 ((l.take i).map entL) k
  rw [List.map_take]
theorem LU.takeEnt {env : List (Nat × LV)} {H : List Atom} {d : Option Tmp} {ty : TypeId} {pos : String} {af : Array Edge} {g : Option (Nat × Bool)} {x y : Operand} {l : List Ent} {k : Cap} {ki : IntKind} {i : Nat} (hx : Is (ev env x) (.sl 36 (ents l) k)) (hy : Is (ev env y) (.raw (.int ki (i : Nat)))) (h : i ≤ l.length) : LU Tryd.prog env H ⟨d, .slice 22 x none (some y) none, ty, pos, af, g⟩ (.sl 36 (ents (l.take i)) .unk) := by
  have := LU.slice (P := Tryd.prog) (H := H) (d := d) (ty := ty) (pos := pos) (af := af) (g := g) (lo := none) (hi := some y) (l := none) (h := some (i : Int)) Tryd.sizeOf28 (by decide) Tryd.underlying22 hx trivial ⟨ki, hy⟩ (by simp) (by simp) (by simp; omega) .unk (.inl rfl)
  rw [← ents_take]
  simpa using this
theorem take_snoc' {l : List Ent} {i : Nat} {x : Ent} (h : l[i]? = some x) : l.take (i + 1) = l.take i ++ [x] := by
  obtain ⟨h1, h2⟩ := List.getElem?_eq_some_iff.1 h
  rw [List.take_succ_eq_append_getElem h1, h2]
set_option maxRecDepth 100000 in
theorem rverify_calls (l : List Ent) (k : Cap) (hl : l.length < 140737488355328) (hok : ∀ e ∈ l, EntOk e) : LCalls Tryd.prog 23 [.sl 36 (ents l) k] [] (fun r H' => r = i64 (verL l) ∧ H' = []) := by
  refine LCalls.of Tryd.func23 rfl Tryd.ntmps23 Tryd.results23 rfl (fun Rf => ?_)
  refine LW.seq ?_
  refine LW.region ?_
  refine X.u (LU.assignR Is.rfl') rfl ?_
  refine LL.nil (after_code ?_)
  refine LW.seq ?_
  refine LW.seq ?_
  refine LW.region ?_
  refine X.u (LU.assignR Is.rfl') rfl ?_
  refine LL.nil (after_code ?_)
  refine LW.block ?_
  refine X.loopK (α := Nat) (fun i => [(3, i64 i)]) [0] (fun _ => _) (fun i => i ≤ l.length ∧ ∀ j, j < i → fitE (l.take j) (l.getD j zeroE) = true) (fun i => l.length - i) (0) (EnvLe.cons (by rfl) (EnvLe.nil)) (HSub.refl _) ?_ ?_
  · exact ⟨Nat.zero_le _, fun j hj => by omega⟩
  · rintro i hI
    obtain ⟨hi, hf⟩ := hI
    refine LW.seq ?_
    refine LW.seq ?_
    refine LW.region ?_
    refine X.u (LU.moveR Is.rfl') rfl ?_
    refine X.u (LU.moveS Is.rfl') rfl ?_
    refine X.u (LU.lenN Tryd.underlying22 Is.rfl' (by (simp only [Option.getD_some, Option.getD_none, byteEls_length, intEls_length, List.length_append, List.length_cons, List.length_nil, List.length_map, List.length_drop, List.length_take, Int.toNat_natCast]; rfl))) rfl ?_
    refine X.u (LU.lss Is.rfl' Is.rfl') rfl ?_
    refine LL.nil (after_code ?_)
    refine X.cond rfl (fun h2 => ?_) (fun h2 => ?_)
    · try have h2 := of_decide_eq_true h2
      refine LW.skip (after_code ?_)
      refine LW.seq ?_
      refine LW.block ?_
      refine LW.seq ?_
      obtain ⟨x, hx⟩ := at_lt (show i < l.length by omega)
      have hxo := hok x (List.mem_of_getElem? hx)
      have hfc := fits_calls (l.take i) .unk x (by simp; omega) (fun e he => hok e (List.mem_of_mem_take he)) hxo.2.2.2.2
      have hxl : (entL x).length = 36 := by simp [hxo.2.2.2.2]
      refine X.drawM 9 rfl (by kernel_rfl) rfl ?_
      refine QD.u (LU.moveS Is.rfl') rfl ?_
      refine QD.u (LU.moveR Is.rfl') rfl ?_
      refine QD.u (LU.takeEnt Is.rfl' Is.rfl' (by omega)) rfl ?_
      refine QD.u (LU.moveS Is.rfl') rfl ?_
      refine QD.u (LU.moveR Is.rfl') rfl ?_
      refine QD.u (LU.at Tryd.underlying22 ⟨Tryd.sizeOf28, Tryd.isAgg28⟩ Is.rfl' Is.rfl' (by omega) (ents_at hx) (by simp)) rfl ?_
      refine QD.u (LU.load ⟨Tryd.sizeOf28, Tryd.isAgg28⟩ Is.rfl' (by assumption) (Part.whole (by assumption))) rfl ?_
      refine QD.u (LU.call (hfc) Tryd.func32 rfl rfl (Opds.cons Is.rfl' (Opds.cons Is.rfl' Opds.nil))) rfl ?_
      refine QD.u (LU.not Is.rfl') rfl ?_
      refine QD.nil ?_
      refine LL.nil (after_code ?_)
      refine X.cond rfl (fun h4 => ?_) (fun h4 => ?_)
      · have hfx : fitE (l.take i) x = false := by simpa using h4
        refine LW.seq ?_
        refine LW.region ?_
        refine X.u (LU.moveR Is.rfl') rfl ?_
        refine X.u (LU.assignR Is.rfl') rfl ?_
        refine LL.nil (after_code ?_)
        refine LW.ret (ret_blk (ret_code (ret_rnd (ret_blk (ret_code (after_end ?_))))))
        refine X.ret (H' := []) (Res.one (by exact IsR rfl)) (by repeat (exact HSub.refl _)) ?_
        exact ⟨by rw [ver_bad (by omega) hf (by rw [getD_get hx]; exact hfx)]; try rfl, rfl⟩
      · have hfx : fitE (l.take i) x = true := by simpa using h4
        refine LW.skip (after_blk (after_code ?_))
        refine LW.region ?_
        refine X.u (LU.moveR Is.rfl') rfl ?_
        refine X.u (LU.addN Is.rfl' Is.rfl' (wrap_i64 (by omega) (by omega))) rfl ?_
        refine X.u (LU.assignR Is.rfl') rfl ?_
        refine LL.nil (after_rnd ?_)
        refine X.next (i + 1) rfl (EnvLe.cons (by rfl) (EnvLe.nil)) (Keeps.cons (by exact Eq.trans (b := .sl _ _ _) rfl rfl) (Keeps.nil)) (HSub.refl _) ?_ ?_
        · refine ⟨by omega, fun j hj => ?_⟩
          by_cases hji : j = i
          · rw [hji, getD_get hx]; exact hfx
          · exact hf j (by omega)
        · omega
    · try have h2 := of_decide_eq_false h2
      refine LW.exit (exit_code (exit_rnd (exit_blk (after_code ?_))))
      refine LW.seq ?_
      refine LW.region ?_
      refine X.u (LU.assignR Is.rfl') rfl ?_
      refine LL.nil (after_code ?_)
      refine LW.ret (after_end ?_)
      refine X.ret (H' := []) (Res.one (by exact IsR rfl)) (by repeat (exact HSub.refl _)) ?_
      exact ⟨by rw [ver_good fun j hj => hf j (by omega)]; try rfl, rfl⟩
set_option maxRecDepth 100000 in
theorem same_calls (a b : List Ent) (ka kb : Cap) (ha : a.length < 140737488355328) (hb : b.length < 140737488355328) (hao : PrevOk a) (hbo : PrevOk b) : LCalls Tryd.prog 14 [.sl 36 (ents a) ka, .sl 36 (ents b) kb] [] (fun r H' => r = bl (decide (a = b)) ∧ H' = []) := by
  refine LCalls.of Tryd.func14 rfl Tryd.ntmps14 Tryd.results14 rfl (fun Rf => ?_)
  refine LW.seq ?_
  refine LW.region ?_
  refine X.u (LU.assignR Is.rfl') rfl ?_
  refine LL.nil (after_code ?_)
  refine LW.seq ?_
  refine LW.seq ?_
  refine LW.region ?_
  refine X.u (LU.moveS Is.rfl') rfl ?_
  refine X.u (LU.lenN Tryd.underlying22 Is.rfl' (by (simp only [Option.getD_some, Option.getD_none, byteEls_length, intEls_length, List.length_append, List.length_cons, List.length_nil, List.length_map, List.length_drop, List.length_take, Int.toNat_natCast]; rfl))) rfl ?_
  refine X.u (LU.moveS Is.rfl') rfl ?_
  refine X.u (LU.lenN Tryd.underlying22 Is.rfl' (by (simp only [Option.getD_some, Option.getD_none, byteEls_length, intEls_length, List.length_append, List.length_cons, List.length_nil, List.length_map, List.length_drop, List.length_take, Int.toNat_natCast]; rfl))) rfl ?_
  refine X.u (LU.neq Is.rfl' Is.rfl') rfl ?_
  refine LL.nil (after_code ?_)
  refine X.cond rfl (fun h1 => ?_) (fun h1 => ?_)
  · have h1 : a.length ≠ b.length := by simp only [Bool.not_eq_true', decide_eq_false_iff_not] at h1; omega
    refine LW.seq ?_
    refine LW.region ?_
    refine X.u (LU.assignR Is.rfl') rfl ?_
    refine LL.nil (after_code ?_)
    refine LW.ret (ret_code (after_end ?_))
    refine X.ret (H' := []) (Res.one (by exact IsR rfl)) (by repeat (exact HSub.refl _)) ?_
    exact ⟨by rw [decide_eq_false (fun h => h1 (by rw [h]))], rfl⟩
  · have h1 : a.length = b.length := by simp only [Bool.not_eq_false', decide_eq_true_eq] at h1; omega
    refine LW.skip (after_code ?_)
    refine LW.seq ?_
    refine LW.seq ?_
    refine LW.region ?_
    refine X.u (LU.assignR Is.rfl') rfl ?_
    refine LL.nil (after_code ?_)
    refine LW.block ?_
    refine X.loopK (α := Nat) (fun i => [(5, i64 i)]) [0, 1] (fun _ => _) (fun i => i ≤ a.length ∧ a.take i = b.take i) (fun i => a.length - i) (0) (EnvLe.cons (by rfl) (EnvLe.nil)) (HSub.refl _) ?_ ?_
    · exact ⟨Nat.zero_le _, by simp⟩
    · rintro i hI
      obtain ⟨hk, htk⟩ := hI
      refine LW.seq ?_
      refine LW.seq ?_
      refine LW.region ?_
      refine X.u (LU.moveR Is.rfl') rfl ?_
      refine X.u (LU.moveS Is.rfl') rfl ?_
      refine X.u (LU.lenN Tryd.underlying22 Is.rfl' (by (simp only [Option.getD_some, Option.getD_none, byteEls_length, intEls_length, List.length_append, List.length_cons, List.length_nil, List.length_map, List.length_drop, List.length_take, Int.toNat_natCast]; rfl))) rfl ?_
      refine X.u (LU.lss Is.rfl' Is.rfl') rfl ?_
      refine LL.nil (after_code ?_)
      refine X.cond rfl (fun h4 => ?_) (fun h4 => ?_)
      · try have h4 := of_decide_eq_true h4
        refine LW.skip (after_code ?_)
        refine LW.seq ?_
        refine LW.block ?_
        refine LW.seq ?_
        obtain ⟨x, hx⟩ := at_lt (show i < a.length by omega)
        obtain ⟨y, hy⟩ := at_lt (show i < b.length by omega)
        have hxl : (entL x).length = 36 := by simp [hao x (List.mem_of_getElem? hx)]
        have hyl : (entL y).length = 36 := by simp [hbo y (List.mem_of_getElem? hy)]
        refine X.drawM 9 rfl (by kernel_rfl) rfl ?_
        refine QD.u (LU.moveS Is.rfl') rfl ?_
        refine QD.u (LU.moveR Is.rfl') rfl ?_
        refine QD.u (LU.at Tryd.underlying22 ⟨Tryd.sizeOf28, Tryd.isAgg28⟩ Is.rfl' Is.rfl' (by omega) (ents_at hx) (by simp)) rfl ?_
        refine QD.u (LU.load ⟨Tryd.sizeOf28, Tryd.isAgg28⟩ Is.rfl' (by assumption) (Part.whole (by assumption))) rfl ?_
        refine QD.u (LU.moveS Is.rfl') rfl ?_
        refine QD.u (LU.moveR Is.rfl') rfl ?_
        refine QD.u (LU.at Tryd.underlying22 ⟨Tryd.sizeOf28, Tryd.isAgg28⟩ Is.rfl' Is.rfl' (by omega) (ents_at hy) (by simp)) rfl ?_
        refine QD.u (LU.load ⟨Tryd.sizeOf28, Tryd.isAgg28⟩ Is.rfl' (by assumption) (Part.whole (by assumption))) rfl ?_
        refine QD.u (LU.neqEnt (hao x (List.mem_of_getElem? hx)) (hbo y (List.mem_of_getElem? hy)) Is.rfl' Is.rfl') rfl ?_
        refine QD.nil ?_
        refine LL.nil (after_code ?_)
        refine X.cond rfl (fun h6 => ?_) (fun h6 => ?_)
        · have hxy : x ≠ y := by simpa using h6
          refine LW.seq ?_
          refine LW.region ?_
          refine X.u (LU.assignR Is.rfl') rfl ?_
          refine LL.nil (after_code ?_)
          refine LW.ret (ret_blk (ret_code (ret_rnd (ret_blk (ret_code (after_end ?_))))))
          refine X.ret (H' := []) (Res.one (by exact IsR rfl)) (by repeat (exact HSub.refl _)) ?_
          exact ⟨by rw [decide_eq_false (fun h => by rw [h, hy] at hx; exact hxy (Option.some.inj hx).symm)], rfl⟩
        · have hxy : x = y := by simpa using h6
          refine LW.skip (after_blk (after_code ?_))
          refine LW.region ?_
          refine X.u (LU.moveR Is.rfl') rfl ?_
          refine X.u (LU.addN Is.rfl' Is.rfl' (wrap_i64 (by omega) (by omega))) rfl ?_
          refine X.u (LU.assignR Is.rfl') rfl ?_
          refine LL.nil (after_rnd ?_)
          refine X.next (i + 1) rfl (EnvLe.cons (by rfl) (EnvLe.nil)) (Keeps.cons (by exact Eq.trans (b := .sl _ _ _) rfl rfl) (Keeps.cons (by exact Eq.trans (b := .sl _ _ _) rfl rfl) (Keeps.nil))) (HSub.refl _) ?_ ?_
          · exact ⟨by omega, by rw [take_snoc' hx, take_snoc' hy, htk, hxy]⟩
          · omega
      · try have h4 := of_decide_eq_false h4
        refine LW.exit (exit_code (exit_rnd (exit_blk (after_code ?_))))
        refine LW.seq ?_
        refine LW.region ?_
        refine X.u (LU.assignR Is.rfl') rfl ?_
        refine LL.nil (after_code ?_)
        refine LW.ret (after_end ?_)
        refine X.ret (H' := []) (Res.one (by exact IsR rfl)) (by repeat (exact HSub.refl _)) ?_
        exact ⟨by rw [decide_eq_true (by rw [List.take_of_length_le (by omega), List.take_of_length_le (by omega)] at htk; exact htk)], rfl⟩
set_option maxHeartbeats 2000000 in
set_option maxRecDepth 100000 in
theorem replay_calls (l : List Ent) (k : Cap) (hl : l.length < 140737488355328) (hok : ∀ e ∈ l, EntOk e) : LCalls Tryd.prog 25 [.sl 36 (ents l) k] [kw] (fun r H' => ∃ g hv b o c m, HeadOk hv (l.take m) ∧ m ≤ 4096 ∧ r = .tup [pt g, i64 (verL l)] ∧ (verL l < 0 → m = l.length) ∧ H' = [lg g (l.take m) hv b o c, .tail b o c, kw]) := by
  refine LCalls.of Tryd.func25 rfl Tryd.ntmps25 Tryd.results25 rfl (fun Rf => ?_)
  refine LW.seq ?_
  refine LW.region ?_
  refine X.u (LU.assignR Is.rfl') rfl ?_
  refine X.u (LU.assignR Is.rfl') rfl ?_
  refine LL.nil (after_code ?_)
  refine LW.scope (fun i s h => by exact no_goto i s h) ?_
  refine LW.seq ?_
  refine LW.region ?_
  refine X.act (X.call (new_calls19) Tryd.func20 rfl rfl rfl (HSub.refl _) Opds.nil ?_)
  rintro r H' ⟨g, hv0, hh0, rfl, rfl⟩
  refine X.u (LU.assignR Is.rfl') rfl ?_
  refine LL.nil (after_code ?_)
  refine LW.seq ?_
  refine LW.region ?_
  refine X.u (LU.assignR Is.rfl') rfl ?_
  refine LL.nil (after_code ?_)
  refine LW.seq ?_
  refine LW.label (after_code ?_)
  refine LW.seq ?_
  refine LW.seq ?_
  refine LW.region ?_
  refine X.u (LU.moveS Is.rfl') rfl ?_
  refine X.u (LU.lenN Tryd.underlying22 Is.rfl' (by (simp only [Option.getD_some, Option.getD_none, byteEls_length, intEls_length, List.length_append, List.length_cons, List.length_nil, List.length_map, List.length_drop, List.length_take, Int.toNat_natCast]; rfl))) rfl ?_
  refine X.u (LU.moveR Is.rfl') rfl ?_
  refine LL.nil (after_code ?_)
  refine LW.block ?_
  refine X.loopK (α := Nat × Value × Nat × Nat × Nat) (fun ⟨i, hv, b, o, c⟩ => [(13, i64 i), (5, i64 (-1))]) [2, 3, 4, 11, 12] (fun ⟨i, hv, b, o, c⟩ => lg g (l.take i) hv b o c :: .tail b o c :: kw :: Rf) (fun ⟨i, hv, b, o, c⟩ => i ≤ l.length ∧ i ≤ 4096 ∧ HeadOk hv (l.take i) ∧ ∀ j, j < i → fitE (l.take j) (l.getD j zeroE) = true) (fun ⟨i, hv, b, o, c⟩ => l.length - i) ((0, hv0, 0, 0, 0)) (EnvLe.cons (by rfl) (EnvLe.cons (by rfl) (EnvLe.nil))) (by repeat (exact HSub.refl _)) ?_ ?_
  · exact ⟨Nat.zero_le _, Nat.zero_le _, hh0, fun j hj => by omega⟩
  · rintro ⟨i, hv, b, o, c⟩ hI
    obtain ⟨hi, hi2, hh, hf⟩ := hI
    have htl : (l.take i).length = i := by simp; omega
    refine LW.seq ?_
    refine LW.region ?_
    refine X.u (LU.lss Is.rfl' Is.rfl') rfl ?_
    refine LL.nil (after_code ?_)
    refine LW.seq ?_
    refine X.cond rfl (fun h4 => ?_) (fun h4 => ?_)
    · try have h4 := of_decide_eq_true h4
      refine LW.skip (after_code ?_)
      refine LW.seq ?_
      refine LW.block ?_
      refine LW.seq ?_
      obtain ⟨x, hx⟩ := at_lt (show i < l.length by omega)
      have hxo := hok x (List.mem_of_getElem? hx)
      have hx32 := hxo.2.2.2.2
      have hxl : (entL x).length = 36 := by simp [hx32]
      have hnc := next_calls g (l.take i) hv b o c x.tick x.who x.what hh (by omega) hxo.2.1.1 hxo.2.1.2
      have hNl := nxtE_len (l.take i) x.tick x.who x.what
      refine LW.region ?_
      refine X.u (LU.moveR Is.rfl') rfl ?_
      refine X.u (LU.at Tryd.underlying22 ⟨Tryd.sizeOf28, Tryd.isAgg28⟩ Is.rfl' Is.rfl' (by omega) (ents_at hx) (by simp)) rfl ?_
      refine X.u (LU.load ⟨Tryd.sizeOf28, Tryd.isAgg28⟩ Is.rfl' (by assumption) (Part.whole (by assumption))) rfl ?_
      refine X.act (X.alloc rfl Tryd.zeroValue28 (by exact Cells.rawagg (by decide)) (fun b7 => ?_))
      refine X.u (LU.assignR Is.rfl') rfl ?_
      refine X.act (X.store 0 rfl Tryd.sizeOf28 Is.rfl' Is.rfl' (by exact Cells.agg) (by assumption) (by exact Nat.le_of_ble_eq_true rfl) ?_)
      refine LL.nil (after_code ?_)
      refine LW.seq ?_
      refine X.wcells (ys := entL x) (putAt_all (by simp [raws, hx32])) ?_
      obtain ⟨N, hN⟩ : ∃ N, N = nxtE (l.take i) x.tick x.who x.what := ⟨_, rfl⟩
      obtain ⟨E, hE⟩ : ∃ E, E = errN (l.take i) x.tick x.who x.what := ⟨_, rfl⟩
      rw [← hN] at hNl
      rw [← hN, ← hE] at hnc
      refine LW.region ?_
      refine X.u (LU.moveR Is.rfl') rfl ?_
      refine X.u (LU.fieldO Tryd.underlying28 rfl Tryd.sizeOf3 (by decide) Is.rfl') rfl ?_
      refine X.u (LU.loadO 0 rfl ⟨Tryd.sizeOf3, Tryd.isAgg3⟩ Is.rfl' (Part.one rfl)) rfl ?_
      refine X.u (LU.fieldO Tryd.underlying28 rfl Tryd.sizeOf9 (by decide) Is.rfl') rfl ?_
      refine X.u (LU.loadO 0 rfl ⟨Tryd.sizeOf9, Tryd.isAgg9⟩ Is.rfl' (Part.one rfl)) rfl ?_
      refine X.u (LU.fieldO Tryd.underlying28 rfl Tryd.sizeOf9 (by decide) Is.rfl') rfl ?_
      refine X.u (LU.loadO 0 rfl ⟨Tryd.sizeOf9, Tryd.isAgg9⟩ Is.rfl' (Part.one rfl)) rfl ?_
      refine X.act (X.call (hnc) Tryd.func29 rfl rfl rfl (by (refine HSub.pick 1 rfl ?_); (refine HSub.pick 2 rfl ?_); exact HSub.refl _) (Opds.cons Is.rfl' (Opds.cons Is.rfl' (Opds.cons Is.rfl' (Opds.cons Is.rfl' Opds.nil)))) ?_)
      rintro r H' ⟨rfl, rfl⟩
      refine X.u (LU.moveT Is.rfl') rfl ?_
      refine X.u (LU.extract Is.rfl' rfl) rfl ?_
      refine X.u (LU.extract Is.rfl' rfl) rfl ?_
      refine X.act (X.alloc rfl Tryd.zeroValue28 (by exact Cells.rawagg (by decide)) (fun b8 => ?_))
      refine X.act (X.store 0 rfl Tryd.sizeOf28 Is.rfl' Is.rfl' (by exact Cells.agg) (by (simp; omega)) (by exact Nat.le_of_ble_eq_true rfl) ?_)
      refine X.u (LU.assignR Is.rfl') rfl ?_
      refine LL.nil (after_code ?_)
      refine LW.seq ?_
      refine LW.seq ?_
      refine X.wcells (ys := entL N) (putAt_all (by simp [raws, hNl])) ?_
      refine LW.region ?_
      refine X.u (LU.moveR Is.rfl') rfl ?_
      refine X.u (LU.neq Is.rfl' Is.rfl') rfl ?_
      refine X.u (LU.moveR Is.rfl') rfl ?_
      refine X.gF rfl rfl (fun hg => LU.loadO 0 rfl ⟨Tryd.sizeOf28, Tryd.isAgg28⟩ (by exact Is.rfl') (Part.whole (by (simp; omega)))) rfl ?_
      refine X.gF rfl rfl (fun hg => LU.loadO 3 rfl ⟨Tryd.sizeOf28, Tryd.isAgg28⟩ (by exact Is.rfl') (Part.whole (by assumption))) rfl ?_
      refine X.gF rfl rfl (fun hg => LU.neqEnt hNl hx32 (by exact Is.whenN hg) (by exact Is.whenN hg)) rfl ?_
      refine X.u (LU.pickOr Is.rfl' Is.rfl' (fun hq => (by exact Is.whenN hq))) rfl ?_
      refine LL.nil (after_code ?_)
      refine X.cond rfl (fun h7 => ?_) (fun h7 => ?_)
      · have hfx : fitE (l.take i) x = false := by unfold fitE; rw [← hE, ← hN]; simp only [Bool.or_eq_true, Bool.not_eq_true', decide_eq_false_iff_not] at h7; rcases h7 with h | h; rw [decide_eq_false (by omega)]; rfl; rw [decide_eq_false h]; simp
        refine LW.seq ?_
        refine LW.region ?_
        refine X.u (LU.moveR Is.rfl') rfl ?_
        refine X.u (LU.assignR Is.rfl') rfl ?_
        refine LL.nil (after_code ?_)
        refine LW.exit (exit_code (exit_blk' rfl (exit_code (exit_rnd (exit_blk (after_code ?_))))))
        refine LW.seq ?_
        refine LW.region ?_
        refine X.u (LU.moveR Is.rfl') rfl ?_
        refine X.u (LU.moveR Is.rfl') rfl ?_
        refine X.u (LU.assignR Is.rfl') rfl ?_
        refine X.u (LU.assignR Is.rfl') rfl ?_
        refine LL.nil (after_code ?_)
        refine LW.ret (after_end ?_)
        refine X.ret (H' := [lg g (l.take i) hv b o c, .tail b o c, kw]) (Res.two (by exact IsR rfl) (by exact IsR rfl)) (by repeat (first | exact HSub.refl _ | refine HSub.pick 1 rfl ?_ | refine HSub.pick 3 rfl ?_ | refine HSub.drop ?_)) ?_
        have hv1 := ver_bad (by omega) hf (by rw [getD_get hx]; exact hfx)
        exact ⟨g, hv, b, o, c, i, hh, hi2, by rw [hv1]; try rfl, fun h => by rw [hv1] at h; omega, rfl⟩
      · have hfx : fitE (l.take i) x = true := by unfold fitE; rw [← hE, ← hN]; simp only [Bool.or_eq_false_iff, Bool.not_eq_false', decide_eq_true_eq] at h7; rw [decide_eq_true (by omega), decide_eq_true h7.2]; rfl
        have hE0 := (fit_of hfx).1
        refine LW.skip (after_code ?_)
        refine LW.seq ?_
        refine LW.invM (m := 10) (γ := Nat × Nat × Nat) [(0, 37), (1, 38), (2, 39), (3, 40), (4, 41), (5, 42), (6, 43), (7, 44), (8, 45), (9, 46)] (fun g_ d => match g_ with | ⟨p, q, r⟩ => match d with | 37 => pt g | 38 => pt g | 39 => pt g | 40 => .raw (.pointer (some ⟨g, 0, none⟩)) | 41 => .sl 36 (ents (l.take i)) (.tok b o c) | 42 => .agg (entL x) | 43 => .sl 36 [entL x] .full | 44 => .sl 36 (ents (l.take i ++ [x])) (.tok p q r) | 45 => pt g | 46 => .raw (.pointer (some ⟨g, 0, none⟩)) | _ => .any) (fun g_ f => match g_ with | ⟨p, q, r⟩ => cond (f 7) (.tail p q r) (.tail b o c) :: .cells b8 28 (entL N) :: .cells b7 28 (entL x) :: lg g (l.take i) hv b o c :: kw :: Rf) (0, 0, 0) rfl (by kernel_rfl) rfl rfl ((by repeat (first | exact HSub.refl _ | refine HSub.pick 0 rfl ?_ | refine HSub.pick 2 rfl ?_ | refine HSub.pick 4 rfl ?_))) ?_ ?_
        · intro i hi f g_ hfi hdir hdown
          obtain ⟨p, q, r⟩ := g_
          have hc : i = 0 ∨ i = 1 ∨ i = 2 ∨ i = 3 ∨ i = 4 ∨ i = 5 ∨ i = 6 ∨ i = 7 ∨ i = 8 ∨ i = 9 := by omega
          rcases hc with rfl | rfl | rfl | rfl | rfl | rfl | rfl | rfl | rfl | rfl
          · refine ⟨_, rfl, ?_⟩
            refine A.u (LU.moveR Is.rfl') rfl ?_
            refine ⟨⟨p, q, r⟩, Weaker.mk' ?_ (HSub.refl _)⟩
            refine env_back0 (envS_hit (sl := [(0, 37), (1, 38), (2, 39), (3, 40), (4, 41), (5, 42), (6, 43), (7, 44), (8, 45), (9, 46)]) (j := 0) (d := 37) rfl (fun _ _ h => h))  (envS_next ?_)
            · intro p hp hne; simp only [List.mem_cons, List.not_mem_nil, or_false] at hp; rcases hp with rfl | rfl | rfl | rfl | rfl | rfl | rfl | rfl | rfl | rfl <;> first | exact absurd rfl hne | exact ⟨rfl, rfl⟩
          · refine ⟨_, rfl, ?_⟩
            refine A.u (LU.moveR Is.rfl') rfl ?_
            refine ⟨⟨p, q, r⟩, Weaker.mk' ?_ (HSub.refl _)⟩
            refine env_back0 (envS_hit (sl := [(0, 37), (1, 38), (2, 39), (3, 40), (4, 41), (5, 42), (6, 43), (7, 44), (8, 45), (9, 46)]) (j := 1) (d := 38) rfl (fun _ _ h => h))  (envS_next ?_)
            · intro p hp hne; simp only [List.mem_cons, List.not_mem_nil, or_false] at hp; rcases hp with rfl | rfl | rfl | rfl | rfl | rfl | rfl | rfl | rfl | rfl <;> first | exact absurd rfl hne | exact ⟨rfl, rfl⟩
          · have d1 := hdir 1 (List.mem_of_elem_eq_true (by kernel_rfl))
            refine ⟨_, rfl, ?_⟩
            refine LP.weak (t := 38) (v := pt g) (envS_is (j := 1) rfl d1) ?_
            refine A.u (LU.nilCheck Is.rfl') rfl ?_
            refine ⟨⟨p, q, r⟩, Weaker.mk' ?_ (HSub.refl _)⟩
            refine env_back1 (envS_hit (sl := [(0, 37), (1, 38), (2, 39), (3, 40), (4, 41), (5, 42), (6, 43), (7, 44), (8, 45), (9, 46)]) (j := 2) (d := 39) rfl (fun _ _ h => h)) (envS_hit (sl := [(0, 37), (1, 38), (2, 39), (3, 40), (4, 41), (5, 42), (6, 43), (7, 44), (8, 45), (9, 46)]) (j := 1) (d := 38) rfl (fun _ _ h => h)) (envS_next ?_)
            · intro p hp hne; simp only [List.mem_cons, List.not_mem_nil, or_false] at hp; rcases hp with rfl | rfl | rfl | rfl | rfl | rfl | rfl | rfl | rfl | rfl <;> first | exact absurd rfl hne | exact ⟨rfl, rfl⟩
          · have d2 := hdir 2 (List.mem_of_elem_eq_true (by kernel_rfl))
            refine ⟨_, rfl, ?_⟩
            refine LP.weak (t := 39) (v := pt g) (envS_is (j := 2) rfl d2) ?_
            refine A.u (LU.fieldO Tryd.underlying39 rfl Tryd.sizeOf22 (by decide) Is.rfl') rfl ?_
            refine ⟨⟨p, q, r⟩, Weaker.mk' ?_ (HSub.refl _)⟩
            refine env_back1 (envS_hit (sl := [(0, 37), (1, 38), (2, 39), (3, 40), (4, 41), (5, 42), (6, 43), (7, 44), (8, 45), (9, 46)]) (j := 3) (d := 40) rfl (fun _ _ h => h)) (envS_hit (sl := [(0, 37), (1, 38), (2, 39), (3, 40), (4, 41), (5, 42), (6, 43), (7, 44), (8, 45), (9, 46)]) (j := 2) (d := 39) rfl (fun _ _ h => h)) (envS_next ?_)
            · intro p hp hne; simp only [List.mem_cons, List.not_mem_nil, or_false] at hp; rcases hp with rfl | rfl | rfl | rfl | rfl | rfl | rfl | rfl | rfl | rfl <;> first | exact absurd rfl hne | exact ⟨rfl, rfl⟩
          · have d3 := hdir 3 (List.mem_of_elem_eq_true (by kernel_rfl))
            refine ⟨_, rfl, ?_⟩
            refine LP.weak (t := 40) (v := .raw (.pointer (some ⟨g, 0, none⟩))) (envS_is (j := 3) rfl d3) ?_
            refine A.u (LU.loadO 3 rfl ⟨Tryd.sizeOf22, Tryd.isAgg22⟩ Is.rfl' (Part.one rfl)) rfl ?_
            refine ⟨⟨p, q, r⟩, Weaker.mk' ?_ (HSub.refl _)⟩
            refine env_back1 (envS_hit (sl := [(0, 37), (1, 38), (2, 39), (3, 40), (4, 41), (5, 42), (6, 43), (7, 44), (8, 45), (9, 46)]) (j := 4) (d := 41) rfl (fun _ _ h => h)) (envS_hit (sl := [(0, 37), (1, 38), (2, 39), (3, 40), (4, 41), (5, 42), (6, 43), (7, 44), (8, 45), (9, 46)]) (j := 3) (d := 40) rfl (fun _ _ h => h)) (envS_next ?_)
            · intro p hp hne; simp only [List.mem_cons, List.not_mem_nil, or_false] at hp; rcases hp with rfl | rfl | rfl | rfl | rfl | rfl | rfl | rfl | rfl | rfl <;> first | exact absurd rfl hne | exact ⟨rfl, rfl⟩
          · refine ⟨_, rfl, ?_⟩
            refine A.u (LU.loadO 2 rfl ⟨Tryd.sizeOf28, Tryd.isAgg28⟩ Is.rfl' (Part.whole (by assumption))) rfl ?_
            refine ⟨⟨p, q, r⟩, Weaker.mk' ?_ (HSub.refl _)⟩
            refine env_back0 (envS_hit (sl := [(0, 37), (1, 38), (2, 39), (3, 40), (4, 41), (5, 42), (6, 43), (7, 44), (8, 45), (9, 46)]) (j := 5) (d := 42) rfl (fun _ _ h => h))  (envS_next ?_)
            · intro p hp hne; simp only [List.mem_cons, List.not_mem_nil, or_false] at hp; rcases hp with rfl | rfl | rfl | rfl | rfl | rfl | rfl | rfl | rfl | rfl <;> first | exact absurd rfl hne | exact ⟨rfl, rfl⟩
          · have d5 := hdir 5 (List.mem_of_elem_eq_true (by kernel_rfl))
            refine ⟨_, rfl, ?_⟩
            refine LP.weak (t := 42) (v := .agg (entL x)) (envS_is (j := 5) rfl d5) ?_
            refine A.u (LU.lits Tryd.underlying22 Tryd.sizeOf28 Tryd.zeroValue28 (ones rfl) rfl (by decide) (by decide) (Elems.cons Is.rfl' (by exact Cells.agg) Elems.nil) (by (simp; assumption)) rfl) rfl ?_
            refine ⟨⟨p, q, r⟩, Weaker.mk' ?_ (HSub.refl _)⟩
            refine env_back1 (envS_hit (sl := [(0, 37), (1, 38), (2, 39), (3, 40), (4, 41), (5, 42), (6, 43), (7, 44), (8, 45), (9, 46)]) (j := 6) (d := 43) rfl (fun _ _ h => h)) (envS_hit (sl := [(0, 37), (1, 38), (2, 39), (3, 40), (4, 41), (5, 42), (6, 43), (7, 44), (8, 45), (9, 46)]) (j := 5) (d := 42) rfl (fun _ _ h => h)) (envS_next ?_)
            · intro p hp hne; simp only [List.mem_cons, List.not_mem_nil, or_false] at hp; rcases hp with rfl | rfl | rfl | rfl | rfl | rfl | rfl | rfl | rfl | rfl <;> first | exact absurd rfl hne | exact ⟨rfl, rfl⟩
          · have d4 := hdir 4 (List.mem_of_elem_eq_true (by kernel_rfl))
            have d6 := hdir 6 (List.mem_of_elem_eq_true (by kernel_rfl))
            refine ⟨_, rfl, ?_⟩
            refine LP.ghost (H' := .tail b o c :: .cells b8 28 (entL N) :: .cells b7 28 (entL x) :: lg g (l.take i) hv b o c :: kw :: Rf) (by show HSub (cond (f 7) _ _ :: _) _; rw [hfi]; exact HSub.refl _) ?_
            refine LP.weak (t := 41) (v := .sl 36 (ents (l.take i)) (.tok b o c)) (envS_is (j := 4) rfl d4) ?_
            refine LP.weak (t := 43) (v := .sl 36 [entL x] .full) (envS_is (j := 6) rfl d6) ?_
            refine A.act (X.append 0 rfl rfl Tryd.underlying22 (El.of (P := Tryd.prog) (z := (.agg #[(.int .i64 0), (.int .i64 0), (.string ByteArray.empty), (.string ByteArray.empty), (.int .u8 0), (.int .u8 0), (.int .u8 0), (.int .u8 0), (.int .u8 0), (.int .u8 0), (.int .u8 0), (.int .u8 0), (.int .u8 0), (.int .u8 0), (.int .u8 0), (.int .u8 0), (.int .u8 0), (.int .u8 0), (.int .u8 0), (.int .u8 0), (.int .u8 0), (.int .u8 0), (.int .u8 0), (.int .u8 0), (.int .u8 0), (.int .u8 0), (.int .u8 0), (.int .u8 0), (.int .u8 0), (.int .u8 0), (.int .u8 0), (.int .u8 0), (.int .u8 0), (.int .u8 0), (.int .u8 0), (.int .u8 0)])) (size := 36) (bytes := 80) rfl rfl rfl) Is.rfl' Is.rfl' (SrcL.slice Tryd.underlying22 (by decide) (by simp [hx32])) (by simp only [Option.getD_some, Option.getD_none, byteEls_length, intEls_length, List.length_append, List.length_cons, List.length_nil, List.length_map, List.length_drop, List.length_take, Int.toNat_natCast]; omega) (by simp only [Option.getD_some, Option.getD_none, byteEls_length, intEls_length, List.length_append, List.length_cons, List.length_nil, List.length_map, List.length_drop, List.length_take, Int.toNat_natCast]; omega) (fun b44 o44 c44 => ?_))
            refine ⟨(b44, o44, c44), Weaker.mk' ?_ (HSub.refl _)⟩
            refine env_back2 (envS_hit (sl := [(0, 37), (1, 38), (2, 39), (3, 40), (4, 41), (5, 42), (6, 43), (7, 44), (8, 45), (9, 46)]) (j := 7) (d := 44) rfl (Is.of (ents_snoc (l.take i) x (.tok b44 o44 c44)))) (envS_hit (sl := [(0, 37), (1, 38), (2, 39), (3, 40), (4, 41), (5, 42), (6, 43), (7, 44), (8, 45), (9, 46)]) (j := 6) (d := 43) rfl (fun _ _ h => h)) (envS_hit (sl := [(0, 37), (1, 38), (2, 39), (3, 40), (4, 41), (5, 42), (6, 43), (7, 44), (8, 45), (9, 46)]) (j := 4) (d := 41) rfl (fun _ _ h => h)) (envS_next ?_)
            · intro p hp hne; simp only [List.mem_cons, List.not_mem_nil, or_false] at hp; rcases hp with rfl | rfl | rfl | rfl | rfl | rfl | rfl | rfl | rfl | rfl <;> first | exact absurd rfl hne | exact ⟨rfl, rfl⟩
          · have d0 := hdir 0 (List.mem_of_elem_eq_true (by kernel_rfl))
            have d1 := hdir 1 (List.mem_of_elem_eq_true (by kernel_rfl))
            have d2 := hdir 2 (List.mem_of_elem_eq_true (by kernel_rfl))
            have d3 := hdir 3 (List.mem_of_elem_eq_true (by kernel_rfl))
            have d4 := hdir 4 (List.mem_of_elem_eq_true (by kernel_rfl))
            have d5 := hdir 5 (List.mem_of_elem_eq_true (by kernel_rfl))
            have d6 := hdir 6 (List.mem_of_elem_eq_true (by kernel_rfl))
            have d7 := hdir 7 (List.mem_of_elem_eq_true (by kernel_rfl))
            refine ⟨_, rfl, ?_⟩
            refine LP.weak (t := 37) (v := pt g) (envS_is (j := 0) rfl d0) ?_
            refine A.u (LU.nilCheck Is.rfl') rfl ?_
            refine ⟨⟨p, q, r⟩, Weaker.mk' ?_ (HSub.refl _)⟩
            refine env_back1 (envS_hit (sl := [(0, 37), (1, 38), (2, 39), (3, 40), (4, 41), (5, 42), (6, 43), (7, 44), (8, 45), (9, 46)]) (j := 8) (d := 45) rfl (fun _ _ h => h)) (envS_hit (sl := [(0, 37), (1, 38), (2, 39), (3, 40), (4, 41), (5, 42), (6, 43), (7, 44), (8, 45), (9, 46)]) (j := 0) (d := 37) rfl (fun _ _ h => h)) (envS_next ?_)
            · intro p hp hne; simp only [List.mem_cons, List.not_mem_nil, or_false] at hp; rcases hp with rfl | rfl | rfl | rfl | rfl | rfl | rfl | rfl | rfl | rfl <;> first | exact absurd rfl hne | exact ⟨rfl, rfl⟩
          · have d0 := hdir 0 (List.mem_of_elem_eq_true (by kernel_rfl))
            have d1 := hdir 1 (List.mem_of_elem_eq_true (by kernel_rfl))
            have d2 := hdir 2 (List.mem_of_elem_eq_true (by kernel_rfl))
            have d3 := hdir 3 (List.mem_of_elem_eq_true (by kernel_rfl))
            have d4 := hdir 4 (List.mem_of_elem_eq_true (by kernel_rfl))
            have d5 := hdir 5 (List.mem_of_elem_eq_true (by kernel_rfl))
            have d6 := hdir 6 (List.mem_of_elem_eq_true (by kernel_rfl))
            have d7 := hdir 7 (List.mem_of_elem_eq_true (by kernel_rfl))
            have d8 := hdir 8 (List.mem_of_elem_eq_true (by kernel_rfl))
            refine ⟨_, rfl, ?_⟩
            refine LP.weak (t := 45) (v := pt g) (envS_is (j := 8) rfl d8) ?_
            refine A.u (LU.fieldO Tryd.underlying39 rfl Tryd.sizeOf22 (by decide) Is.rfl') rfl ?_
            refine ⟨⟨p, q, r⟩, Weaker.mk' ?_ (HSub.refl _)⟩
            refine env_back1 (envS_hit (sl := [(0, 37), (1, 38), (2, 39), (3, 40), (4, 41), (5, 42), (6, 43), (7, 44), (8, 45), (9, 46)]) (j := 9) (d := 46) rfl (fun _ _ h => h)) (envS_hit (sl := [(0, 37), (1, 38), (2, 39), (3, 40), (4, 41), (5, 42), (6, 43), (7, 44), (8, 45), (9, 46)]) (j := 8) (d := 45) rfl (fun _ _ h => h)) (envS_next ?_)
            · intro p hp hne; simp only [List.mem_cons, List.not_mem_nil, or_false] at hp; rcases hp with rfl | rfl | rfl | rfl | rfl | rfl | rfl | rfl | rfl | rfl <;> first | exact absurd rfl hne | exact ⟨rfl, rfl⟩
        · intro g_ f hf_
          obtain ⟨p, q, r⟩ := g_
          refine X.ghost (H' := .tail p q r :: .cells b8 28 (entL N) :: .cells b7 28 (entL x) :: lg g (l.take i) hv b o c :: kw :: Rf) (by show HSub (cond (f 7) _ _ :: _) _; rw [hf_ 7 (by omega)]; exact HSub.refl _) ?_
          refine X.act (X.store 3 rfl Tryd.sizeOf22 Is.rfl' Is.rfl' (by exact Cells.sl) (by (simp; done)) (by (simp; done)) ?_)
          refine LL.nil (after_code ?_)
          refine LW.region ?_
          refine X.u (LU.moveR Is.rfl') rfl ?_
          refine X.u (LU.loadO 3 rfl ⟨Tryd.sizeOf28, Tryd.isAgg28⟩ Is.rfl' (Part.whole (by assumption))) rfl ?_
          refine X.u (LU.bound (ent_raw x)) rfl ?_
          refine X.u (LU.nilCheck Is.rfl') rfl ?_
          refine X.u (LU.fieldO Tryd.underlying39 rfl Tryd.sizeOf37 (by decide) Is.rfl') rfl ?_
          refine X.act (X.store 0 rfl Tryd.sizeOf37 Is.rfl' Is.rfl' (by exact Cells.raw rfl) (by (simp; done)) (by exact Nat.le_of_ble_eq_true rfl) ?_)
          refine LL.nil (after_blk (after_code ?_))
          refine LW.region ?_
          refine X.u (LU.addN Is.rfl' Is.rfl' (wrap_i64 (by omega) (by omega))) rfl ?_
          refine X.u (LU.moveR Is.rfl') rfl ?_
          refine LL.nil (after_rnd ?_)
          rw [← take_snoc' hx]
          refine X.next ((i + 1, .func (.func 30) #[entV x] #[], p, q, r)) rfl (EnvLe.cons (by rfl) (EnvLe.cons (by rfl) (EnvLe.nil))) (Keeps.cons (by exact Eq.trans (b := .raw _) rfl rfl) (Keeps.cons (by exact Eq.trans (b := .raw _) rfl rfl) (Keeps.cons (by exact Eq.trans (b := .raw _) rfl rfl) (Keeps.cons (by exact Eq.trans (b := .sl _ _ _) rfl rfl) (Keeps.cons (by exact Eq.trans (b := .raw _) rfl rfl) (Keeps.nil)))))) (by repeat (first | exact HSub.refl _ | refine HSub.pick 0 rfl ?_ | refine HSub.pick 2 rfl ?_ | refine HSub.drop ?_)) ?_ ?_
          · refine ⟨by omega, by have := (nxtE_ok hE0).2.2; omega, by rw [take_snoc' hx]; exact head_bound hxo _, fun j hj => ?_⟩
            by_cases hji : j = i
            · rw [hji, getD_get hx]; exact hfx
            · exact hf j (by omega)
          · (simp; omega)
    · try have h4 := of_decide_eq_false h4
      refine LW.exit (exit_code (exit_rnd (exit_blk (after_code ?_))))
      refine LW.seq ?_
      refine LW.region ?_
      refine X.u (LU.moveR Is.rfl') rfl ?_
      refine X.u (LU.moveR Is.rfl') rfl ?_
      refine X.u (LU.assignR Is.rfl') rfl ?_
      refine X.u (LU.assignR Is.rfl') rfl ?_
      refine LL.nil (after_code ?_)
      refine LW.ret (after_end ?_)
      refine X.ret (H' := [lg g (l.take i) hv b o c, .tail b o c, kw]) (Res.two (by exact IsR rfl) (by exact IsR rfl)) (by repeat (exact HSub.refl _)) ?_
      have hv1 := ver_good (l := l) fun j hj => hf j (by omega)
      exact ⟨g, hv, b, o, c, i, hh, hi2, by rw [hv1]; try rfl, fun h => by omega, rfl⟩
end Go.Proofs.YtpcfpkfchoelcaaDoor
