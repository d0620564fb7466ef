/- Lines: how many; ids that may not be; functions over ids. -/
import Derived.Test.YtolpkeajokjbjaaDoorLnF
set_option linter.unusedVariables false
set_option linter.unusedSimpArgs false
namespace Go.Proofs.YtolpkeajokjbjaaDoor
open Go.RowKit Go.L
attribute [local irreducible] LL LW LO
set_option maxRecDepth 100000 in
theorem len_calls (g ma mb : Nat) (n : Int) (m : At) (hm : m.length < 1000000) : LCalls Tryd.prog 19 [pt g] [gC g ma mb n, gA ma m] (fun r H' => r = i64 ((m.length : Int) - 2) ∧ H' = [gC g ma mb n, gA ma m]) := by
  refine LCalls.of Tryd.func19 rfl Tryd.ntmps19 Tryd.results19 rfl (fun Rf => ?_)
  refine LW.seq ?_
  refine LW.region ?_
  refine X.u (LU.assignR Is.rfl') rfl ?_
  refine LL.nil (after_code ?_)
  refine LW.seq ?_
  refine LW.seq ?_
  refine LW.region ?_
  refine X.u (LU.moveR Is.rfl') rfl ?_
  refine X.u (LU.call1 0 rfl (none_calls g ma mb n) Tryd.func33 rfl rfl (Opds.cons Is.rfl' Opds.nil)) rfl ?_
  refine LL.nil (after_code ?_)
  refine X.condF rfl ?_ ?_
  · rfl
  refine LW.skip (after_code ?_)
  refine LW.seq ?_
  refine LW.region ?_
  refine X.u (LU.moveR Is.rfl') rfl ?_
  refine X.u (LU.nilCheck Is.rfl') rfl ?_
  refine X.u (LU.fieldO Tryd.underlying68 rfl Tryd.sizeOf65 (by decide) Is.rfl') rfl ?_
  refine X.u (LU.loadO 0 rfl ⟨Tryd.sizeOf65, Tryd.isAgg65⟩ Is.rfl' (Part.one rfl)) rfl ?_
  refine X.u (LU.lenMap 1 rfl Tryd.underlying65 Is.rfl') rfl ?_
  refine X.u (LU.sub Is.rfl' Is.rfl') rfl ?_
  refine X.u (LU.assignR Is.rfl') rfl ?_
  refine LL.nil (after_code ?_)
  refine LW.ret (after_end ?_)
  refine X.ret (H' := [gC g ma mb n, gA ma m]) (Res.one (by exact IsR rfl)) (by repeat (exact HSub.refl _)) ?_
  exact ⟨by simp; exact wrap_i64 (by omega) (by omega), rfl⟩
def wrongB (l : List Vx) : Bool := (!decide l.Nodup || l.any endsB) || decide (l.length = 0)
theorem nodup_snoc {α : Type} {l : List α} {a : α} : (l ++ [a]).Nodup ↔ l.Nodup ∧ a ∉ l := by
  rw [List.nodup_append]
  exact ⟨fun ⟨h1, _, h3⟩ => ⟨h1, fun hm => h3 a hm a (by simp) rfl⟩, fun ⟨h1, h2⟩ => ⟨h1, by simp, fun x hx y hy => by rw [List.mem_singleton.1 hy]; rintro rfl; exact h2 hx⟩⟩
theorem wrong_bad {l : List Vx} {i : Nat} {v : Vx} (hv : l[i]? = some v) (h : (endsB v || decide (v ∈ l.take i)) = true) : wrongB l = true := by
  unfold wrongB
  rcases Bool.or_eq_true _ _ |>.mp h with e | e
  · rw [List.any_eq_true.2 ⟨v, List.mem_of_getElem? hv, e⟩]; simp
  · have : ¬ l.Nodup := fun c => by
      have h2 := (List.take_sublist (i + 1) l).nodup c
      rw [take_snoc hv] at h2
      exact (nodup_snoc.1 h2).2 (of_decide_eq_true e)
    rw [decide_eq_false this]; simp
theorem wrong_end {l : List Vx} (h1 : l.Nodup) (h2 : ∀ v ∈ l, endsB v = false) : wrongB l = decide (l.length = 0) := by
  unfold wrongB
  rw [decide_eq_true h1, List.any_eq_false.2 fun v hv => by rw [h2 v hv]; decide]
  rfl
set_option maxHeartbeats 1000000 in
set_option maxRecDepth 100000 in
theorem wrong_calls (l : List Vx) (k : Cap) (hl : l.length < 1000000) : LCalls Tryd.prog 34 [Vxs l k] [kb] (fun r H' => r = bl (wrongB l) ∧ H' = [kb]) := by
  refine LCalls.of Tryd.func34 rfl Tryd.ntmps34 Tryd.results34 rfl (fun Rf => ?_)
  refine LW.seq ?_
  refine LW.region ?_
  refine X.u (LU.assignR Is.rfl') rfl ?_
  refine LL.nil (after_code ?_)
  refine LW.seq ?_
  refine LW.seq ?_
  refine LW.region ?_
  refine X.u (LU.moveS Is.rfl') rfl ?_
  refine X.u (LU.lenN Tryd.underlying26 Is.rfl' (by (simp only [Option.getD_some, Option.getD_none, byteEls_length, intEls_length, List.length_append, List.length_cons, List.length_nil, List.length_map, List.length_drop, List.length_take, Int.toNat_natCast]; rfl))) rfl ?_
  refine X.u (LU.moveR Is.rfl') rfl ?_
  refine LL.nil (after_code ?_)
  refine LW.block ?_
  refine X.loopK (α := Nat) (fun i => [(7, i64 i)]) [0, 5, 6] (fun i => kb :: Rf) (fun i => i ≤ l.length ∧ (l.take i).Nodup ∧ ∀ v ∈ l.take i, endsB v = false) (fun i => l.length - i) (0) (EnvLe.cons (by rfl) (EnvLe.nil)) (by repeat (exact HSub.refl _)) ?_ ?_
  · exact ⟨Nat.zero_le _, by simp, by simp⟩
  · rintro i hI
    obtain ⟨hi, hn, he⟩ := hI
    refine LW.seq ?_
    refine LW.region ?_
    refine X.u (LU.lss Is.rfl' Is.rfl') rfl ?_
    refine LL.nil (after_code ?_)
    refine LW.seq ?_
    refine X.cond rfl (fun h2 => ?_) (fun h2 => ?_)
    · try have h2 := of_decide_eq_true h2
      refine LW.skip (after_code ?_)
      refine LW.seq ?_
      refine LW.block ?_
      refine LW.seq ?_
      obtain ⟨v, hv⟩ := at_lt (show i < l.length by omega)
      have hvl := vxL_len v
      refine LW.region ?_
      refine X.u (LU.moveR Is.rfl') rfl ?_
      refine X.u (LU.at Tryd.underlying26 ⟨Tryd.sizeOf35, Tryd.isAgg35⟩ Is.rfl' Is.rfl' (by omega) (vxs_at hv) (vx_ne v)) rfl ?_
      refine X.u (LU.weak (LU.load ⟨Tryd.sizeOf35, Tryd.isAgg35⟩ Is.rfl' (by assumption) (Part.whole (by assumption))) (Is.of (y := .agg (vxL v)) (rfl))) rfl ?_
      refine X.act (X.alloc rfl Tryd.zeroValue35 (by exact Cells.rawagg (by decide)) (fun b4 => ?_))
      refine X.u (LU.assignR Is.rfl') rfl ?_
      refine X.act (X.store 0 rfl Tryd.sizeOf35 Is.rfl' Is.rfl' (by exact Cells.agg) (by assumption) (by exact Nat.le_of_ble_eq_true rfl) ?_)
      refine LL.nil (after_code ?_)
      refine LW.seq ?_
      refine X.wcells (ys := vxL v) (putAt_all (by rw [hvl]; rfl)) ?_
      refine X.drawM 9 rfl (by kernel_rfl) rfl ?_
      refine QD.u (LU.loadO 0 rfl ⟨Tryd.sizeOf35, Tryd.isAgg35⟩ Is.rfl' (Part.whole (by assumption))) rfl ?_
      refine QD.u (LU.call1 1 rfl (ends_calls v) Tryd.func53 rfl rfl (Opds.cons Is.rfl' Opds.nil)) rfl ?_
      refine QD.u (LU.moveR Is.rfl') rfl ?_
      refine QD.gF rfl rfl (fun hg => LU.moveS (by exact Is.rfl')) rfl ?_
      refine QD.gF rfl rfl (fun hg => LU.moveR (by exact Is.rfl')) rfl ?_
      refine QD.gF rfl rfl (fun hg => LU.weak (LU.slice (lo := none) (hi := some _) (l := none) (h := some ((i : Nat) : Int)) Tryd.sizeOf35 (by decide) Tryd.underlying26 (by exact Is.whenN hg) trivial ⟨_, (by exact Is.whenN hg)⟩ (by simp) (by simp) (by simp only [Option.getD_some, Option.getD_none, List.length_map]; try omega) .unk (.inl rfl)) (Is.of (y := Vxs (l.take i) .unk) (congrArg (fun z => LV.sl 33 z .unk) (by simp only [Option.getD_some, Option.getD_none, Int.toNat_natCast, Int.toNat_zero, List.drop_zero, Nat.sub_zero, vxs, List.map_take] <;> (try rfl))))) rfl ?_
      refine QD.gF rfl rfl (fun hg => LU.loadO 0 rfl ⟨Tryd.sizeOf35, Tryd.isAgg35⟩ (by exact Is.rfl') (Part.whole (by assumption))) rfl ?_
      refine QD.gF rfl rfl (fun hg => LU.call (contains_calls (l.take i) .unk v (by rw [List.length_take]; omega)) Tryd.func40 rfl rfl (Opds.cons (by exact Is.whenN hg) (Opds.cons (by exact Is.whenN hg) Opds.nil))) rfl ?_
      refine QD.u (LU.pickOr Is.rfl' Is.rfl' (fun hq => (by exact Is.whenN hq))) rfl ?_
      refine QD.nil ?_
      refine LL.nil (after_code ?_)
      refine X.cond rfl (fun h4 => ?_) (fun h4 => ?_)
      · have hw := wrong_bad hv h4
        refine LW.seq ?_
        refine LW.region ?_
        refine X.u (LU.assignR Is.rfl') rfl ?_
        refine LL.nil (after_code ?_)
        refine LW.ret (ret_blk (ret_code (ret_rnd (ret_blk (ret_code (after_end ?_))))))
        refine X.ret (H' := [kb]) (Res.one (by exact IsR rfl)) (by repeat (first | exact HSub.refl _ | refine HSub.pick 1 rfl ?_ | refine HSub.drop ?_)) ?_
        exact ⟨by rw [hw], rfl⟩
      · have h4 : endsB v = false ∧ v ∉ l.take i := by simpa using h4
        have hz0 : (0 : Nat) = 0 := rfl
        refine LW.skip (after_blk (after_code ?_))
        refine LW.region ?_
        refine X.u (LU.addN Is.rfl' Is.rfl' (wrap_i64 (by omega) (by omega))) rfl ?_
        refine X.u (LU.moveR Is.rfl') rfl ?_
        refine LL.nil (after_rnd ?_)
        refine X.next (i + 1) rfl (EnvLe.cons (by rfl) (EnvLe.nil)) (Keeps.cons (by exact Eq.trans (b := .sl _ _ _) rfl rfl) (Keeps.cons (by exact Eq.trans (b := .sl _ _ _) rfl rfl) (Keeps.cons (by exact Eq.trans (b := .raw _) rfl rfl) (Keeps.nil)))) (by repeat (first | exact HSub.refl _ | refine HSub.pick 1 rfl ?_ | refine HSub.drop ?_)) ?_ ?_
        · refine ⟨by omega, ?_, fun y hy => ?_⟩
          · rw [take_snoc hv]; exact nodup_snoc.2 ⟨hn, h4.2⟩
          · rw [take_snoc hv, List.mem_append, List.mem_singleton] at hy
            rcases hy with e | e
            · exact he y e
            · rw [e]; exact h4.1
        · omega
    · try have h2 := of_decide_eq_false h2
      refine LW.exit (exit_code (exit_rnd (exit_blk (after_code ?_))))
      refine LW.seq ?_
      refine LW.region ?_
      refine X.u (LU.moveS Is.rfl') rfl ?_
      refine X.u (LU.lenN Tryd.underlying26 Is.rfl' (by (simp only [Option.getD_some, Option.getD_none, byteEls_length, intEls_length, List.length_append, List.length_cons, List.length_nil, List.length_map, List.length_drop, List.length_take, Int.toNat_natCast]; rfl))) rfl ?_
      refine X.u (LU.eql Is.rfl' Is.rfl') rfl ?_
      refine X.u (LU.assignR Is.rfl') rfl ?_
      refine LL.nil (after_code ?_)
      refine LW.ret (after_end ?_)
      refine X.ret (H' := [kb]) (Res.one (by exact IsR rfl)) (by repeat (exact HSub.refl _)) ?_
      have hil : i = l.length := by omega
      rw [hil, List.take_length] at hn he
      refine ⟨?_, rfl⟩
      rw [wrong_end hn he]
      congr 2
      exact decide_eq_decide.2 ⟨fun c => by omega, fun c => by omega⟩
def fiV (f : Vx → Bool) : List Vx → Int
  | [] => -1
  | a :: l => if f a then 0 else (if fiV f l < 0 then -1 else fiV f l + 1)
theorem fi_none {f : Vx → Bool} : ∀ {l : List Vx}, (∀ x ∈ l, f x = false) → fiV f l = -1
  | [], _ => rfl
  | a :: l, h => by rw [fiV, if_neg (by rw [h a (by simp)]; decide), fi_none (fun x hx => h x (List.mem_cons_of_mem _ hx)), if_pos (by decide)]
theorem fi_at {f : Vx → Bool} : ∀ {l : List Vx} {i : Nat} {x : Vx}, l[i]? = some x → f x = true → (∀ j, j < i → ∀ y, l[j]? = some y → f y = false) → fiV f l = i
  | [], i, x, e, _, _ => by simp at e
  | a :: l, 0, x, e, h, _ => by
    obtain rfl : a = x := by simpa using e
    rw [fiV, if_pos h]; rfl
  | a :: l, i + 1, x, e, h, hf => by
    have := fi_at (l := l) (i := i) (by simpa using e) h (fun j hj y hy => hf (j + 1) (by omega) y (by simpa using hy))
    rw [fiV, if_neg (by rw [hf 0 (by omega) a rfl]; decide), this, if_neg (by omega)]
    omega
theorem fi_any {f : Vx → Bool} {l : List Vx} : decide (0 ≤ fiV f l) = l.any f := by
  have hge : ∀ l : List Vx, -1 ≤ fiV f l := fun l => by
    induction l with
    | nil => exact Int.le_refl _
    | cons a l ih =>
      rw [fiV]
      split
      · omega
      · split <;> omega
  induction l with
  | nil => rfl
  | cons a l ih =>
    rw [fiV, List.any_cons]
    cases h : f a with
    | true => simp
    | false =>
      have := hge l
      rw [if_neg (by decide), Bool.false_or, ← ih]
      refine decide_eq_decide.2 ⟨fun c => ?_, fun c => ?_⟩
      · split at c <;> omega
      · rw [if_neg (by omega)]; omega
set_option maxRecDepth 100000 in
theorem indexF_calls (l : List Vx) (k : Cap) (yv : Value) (f : Vx → Bool) (H : List Atom) (hl : l.length < 1000000) (hf : ∀ v, FnCalls Tryd.prog yv [.agg (vxL v)] H (fun r H' => r = bl (f v) ∧ H = H')) : LCalls Tryd.prog 54 [Vxs l k, .raw yv] H (fun r H' => r = i64 (fiV f l) ∧ H = H') := by
  refine LCalls.of Tryd.func54 rfl Tryd.ntmps54 Tryd.results54 rfl (fun Rf => ?_)
  refine LW.seq ?_
  refine LW.region ?_
  refine X.u (LU.assignR Is.rfl') rfl ?_
  refine LL.nil (after_code ?_)
  refine LW.seq ?_
  refine LW.seq ?_
  refine LW.region ?_
  refine X.u (LU.moveS Is.rfl') rfl ?_
  refine X.u (LU.lenN Tryd.underlying26 Is.rfl' (by (simp only [Option.getD_some, Option.getD_none, byteEls_length, intEls_length, List.length_append, List.length_cons, List.length_nil, List.length_map, List.length_drop, List.length_take, Int.toNat_natCast]; rfl))) rfl ?_
  refine X.u (LU.moveR Is.rfl') rfl ?_
  refine LL.nil (after_code ?_)
  refine LW.block ?_
  refine X.loopK (α := Nat) (fun i => [(8, i64 i)]) [0, 1, 7] (fun i => H ++ Rf) (fun i => i ≤ l.length ∧ ∀ j, j < i → ∀ y, l[j]? = some y → f y = false) (fun i => l.length - i) (0) (EnvLe.cons (by rfl) (EnvLe.nil)) (by repeat (exact HSub.refl _)) ?_ ?_
  · exact ⟨Nat.zero_le _, fun j hj => by omega⟩
  · rintro i hI
    obtain ⟨hi, hfa⟩ := hI
    refine LW.seq ?_
    refine LW.region ?_
    refine X.u (LU.lss Is.rfl' Is.rfl') rfl ?_
    refine LL.nil (after_code ?_)
    refine LW.seq ?_
    refine X.cond rfl (fun h2 => ?_) (fun h2 => ?_)
    · try have h2 := of_decide_eq_true h2
      refine LW.skip (after_code ?_)
      refine LW.seq ?_
      refine LW.block ?_
      refine LW.seq ?_
      refine LW.region ?_
      refine X.u (LU.moveR Is.rfl') rfl ?_
      refine X.u (LU.assignR Is.rfl') rfl ?_
      refine LL.nil (after_code ?_)
      refine LW.seq ?_
      obtain ⟨v, hv⟩ := at_lt (show i < l.length by omega)
      have hfv := hf v
      have hvl := vxL_len v
      refine LW.region ?_
      refine X.u (LU.moveR Is.rfl') rfl ?_
      refine X.u (LU.moveS Is.rfl') rfl ?_
      refine X.u (LU.moveR Is.rfl') rfl ?_
      refine X.u (LU.at Tryd.underlying26 ⟨Tryd.sizeOf35, Tryd.isAgg35⟩ Is.rfl' Is.rfl' (by omega) (vxs_at hv) (vx_ne v)) rfl ?_
      refine X.u (LU.weak (LU.load ⟨Tryd.sizeOf35, Tryd.isAgg35⟩ Is.rfl' (by assumption) (Part.whole (by assumption))) (Is.of (y := .agg (vxL v)) (rfl))) rfl ?_
      refine X.act (X.callF (hfv) Is.rfl' rfl (HSub.refl _) (Opds.cons Is.rfl' Opds.nil) ?_)
      rintro r H' ⟨rfl, rfl⟩
      refine LL.nil (after_code ?_)
      refine X.cond rfl (fun h4 => ?_) (fun h4 => ?_)
      · try have h4 := of_decide_eq_true h4
        refine LW.seq ?_
        refine LW.region ?_
        refine X.u (LU.moveR Is.rfl') rfl ?_
        refine X.u (LU.assignR Is.rfl') rfl ?_
        refine LL.nil (after_code ?_)
        refine LW.ret (ret_blk (ret_code (ret_rnd (ret_blk (ret_code (after_end ?_))))))
        refine X.ret (H' := H) (Res.one (by exact IsR rfl)) (HSub.refl _) ?_
        exact ⟨by rw [fi_at hv h4 hfa], rfl⟩
      · try have h4 := of_decide_eq_false h4
        refine LW.skip (after_blk (after_code ?_))
        refine LW.region ?_
        refine X.u (LU.addN Is.rfl' Is.rfl' (wrap_i64 (by omega) (by omega))) rfl ?_
        refine X.u (LU.moveR Is.rfl') rfl ?_
        refine LL.nil (after_rnd ?_)
        refine X.next (i + 1) rfl (EnvLe.cons (by rfl) (EnvLe.nil)) (Keeps.cons (by exact Eq.trans (b := .sl _ _ _) rfl rfl) (Keeps.cons (by exact Eq.trans (b := .raw _) rfl rfl) (Keeps.cons (by exact Eq.trans (b := .raw _) rfl rfl) (Keeps.nil)))) (by repeat (exact HSub.refl _)) ?_ ?_
        · refine ⟨by omega, fun j hj y hy => ?_⟩
          by_cases c : j = i
          · rw [c, hv] at hy; rw [← Option.some.inj hy]; exact h4
          · exact hfa j (by omega) y hy
        · omega
    · try have h2 := of_decide_eq_false h2
      refine LW.exit (exit_code (exit_rnd (exit_blk (after_code ?_))))
      refine LW.seq ?_
      refine LW.region ?_
      refine X.u (LU.assignR Is.rfl') rfl ?_
      refine LL.nil (after_code ?_)
      refine LW.ret (after_end ?_)
      refine X.ret (H' := H) (Res.one (by exact IsR rfl)) (HSub.refl _) ?_
      exact ⟨by rw [fi_none (fun x hx => by obtain ⟨j, hj⟩ := List.getElem?_of_mem hx; exact hfa j (by have := (List.getElem?_eq_some_iff.1 hj).1; omega) x hj)], rfl⟩
set_option maxRecDepth 100000 in
theorem containsF_calls (l : List Vx) (k : Cap) (yv : Value) (f : Vx → Bool) (H : List Atom) (hl : l.length < 1000000) (hf : ∀ v, FnCalls Tryd.prog yv [.agg (vxL v)] H (fun r H' => r = bl (f v) ∧ H = H')) : LCalls Tryd.prog 35 [Vxs l k, .raw yv] H (fun r H' => r = bl (l.any f) ∧ H = H') := by
  refine LCalls.of Tryd.func35 rfl Tryd.ntmps35 Tryd.results35 rfl (fun Rf => ?_)
  refine LW.seq ?_
  refine LW.region ?_
  refine X.u (LU.assignR Is.rfl') rfl ?_
  refine LL.nil (after_code ?_)
  refine LW.seq ?_
  refine LW.region ?_
  refine X.u (LU.moveS Is.rfl') rfl ?_
  refine X.u (LU.moveR Is.rfl') rfl ?_
  refine X.act (X.call (indexF_calls l k yv f H hl hf) Tryd.func54 rfl rfl rfl (HSub.refl _) (Opds.cons Is.rfl' (Opds.cons Is.rfl' Opds.nil)) ?_)
  rintro r H' ⟨rfl, rfl⟩
  refine X.u (LU.geq Is.rfl' Is.rfl') rfl ?_
  refine X.u (LU.assignR Is.rfl') rfl ?_
  refine LL.nil (after_code ?_)
  refine LW.ret (after_end ?_)
  refine X.ret (H' := H) (Res.one (by exact IsR rfl)) (HSub.refl _) ?_
  exact ⟨by rw [← fi_any], rfl⟩
end Go.Proofs.YtolpkeajokjbjaaDoor
