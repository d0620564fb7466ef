/- Lines: places in lists, copies of lists. -/
import Derived.Test.YtolpkeajokjbjaaDoorLnA
set_option linter.unusedVariables false
set_option linter.unusedSimpArgs false
namespace Go.Proofs.YtolpkeajokjbjaaDoor
open Go.RowKit Go.L
attribute [local irreducible] LL LW LO
section
variable {α : Type} [DecidableEq α]
/-- The first place of a value in a list, -1 if there is none. -/
def placeG : List α → α → Int
  | [], _ => -1
  | a :: l, h => if a = h then 0 else (if placeG l h < 0 then -1 else placeG l h + 1)
theorem placeG_none : ∀ {l : List α} {h : α}, h ∉ l → placeG l h = -1
  | [], h, _ => rfl
  | a :: l, h, hn => by
    rw [placeG, if_neg (fun e => hn (by rw [e]; simp)), placeG_none (fun e => hn (List.mem_cons_of_mem _ e)), if_pos (by decide)]
theorem placeG_at : ∀ {l : List α} {h : α} {i : Nat}, l[i]? = some h → (∀ j, j < i → ∀ y, l[j]? = some y → y ≠ h) → placeG l h = i
  | [], h, i, e, _ => by simp at e
  | a :: l, h, 0, e, _ => by rw [placeG, if_pos (Option.some.inj e)]; rfl
  | a :: l, h, i + 1, e, hf => by
    have := placeG_at (l := l) (i := i) (by simpa using e) (fun j hj y hy => hf (j + 1) (by omega) y (by simpa using hy))
    rw [placeG, if_neg (hf 0 (by omega) a rfl), this, if_neg (by omega)]
    omega
theorem placeG_range : ∀ (l : List α) (h : α), -1 ≤ placeG l h ∧ placeG l h < l.length
  | [], h => by simp [placeG]
  | a :: l, h => by
    have := placeG_range l h
    rw [placeG, List.length_cons]
    split
    · omega
    · split <;> omega
theorem placeG_neg {l : List α} {h : α} : placeG l h < 0 ↔ h ∉ l := by
  constructor
  · intro hp hm
    induction l with
    | nil => cases hm
    | cons a l ih =>
      rw [placeG] at hp
      by_cases c : a = h
      · rw [if_pos c] at hp; cases hp
      · rw [if_neg c] at hp
        rcases List.mem_cons.1 hm with e | e
        · exact c e.symm
        · by_cases d : placeG l h < 0
          · exact ih d e
          · rw [if_neg d] at hp
            have := placeG_range l h
            omega
  · intro hn; rw [placeG_none hn]; decide
theorem placeG_in {l : List α} {h : α} [Decidable (h ∈ l)] : decide (0 ≤ placeG l h) = decide (h ∈ l) := by
  rw [Bool.eq_iff_iff]
  simp only [decide_eq_true_eq]
  have := placeG_neg (l := l) (h := h)
  refine ⟨fun c => Classical.not_not.1 fun d => ?_, fun c => ?_⟩
  · have := this.2 d; omega
  · have : ¬ placeG l h < 0 := fun d => this.1 d c
    omega
theorem placeG_get {l : List α} {h : α} {i : Nat} (hp : placeG l h = i) : l[i]? = some h := by
  induction l generalizing i with
  | nil => rw [placeG] at hp; omega
  | cons a l ih =>
    rw [placeG] at hp
    split at hp
    · rename_i e
      obtain rfl : i = 0 := by omega
      rw [e]; rfl
    · split at hp
      · omega
      · obtain ⟨j, rfl⟩ : ∃ j, i = j + 1 := ⟨i - 1, by have := placeG_range l h; omega⟩
        rw [List.getElem?_cons_succ]
        exact ih (by omega)
end
set_option maxRecDepth 100000 in
theorem index_calls (l : List Vx) (k : Cap) (v : Vx) (hl : l.length < 9223372036854775807) : LCalls Tryd.prog 56 [Vxs l k, .agg (vxL v)] [] (fun r H' => r = i64 (placeG l v) ∧ H' = []) := by
  have hvl := vxL_len v
  refine LCalls.of Tryd.func56 rfl Tryd.ntmps56 Tryd.results56 rfl (fun Rf => ?_)
  refine LW.seq ?_
  refine LW.region ?_
  refine X.act (X.box rfl Is.rfl' (by exact Cells.agg) (fun b3 => ?_))
  refine X.u (LU.assignR Is.rfl') rfl ?_
  refine LL.nil (after_code ?_)
  refine LW.seq ?_
  refine LW.seq ?_
  refine LW.region ?_
  refine X.u (LU.moveS Is.rfl') rfl ?_
  refine X.u (LU.lenN Tryd.underlying26 Is.rfl' (by (simp only [Option.getD_some, Option.getD_none, byteEls_length, intEls_length, List.length_append, List.length_cons, List.length_nil, List.length_map, List.length_drop, List.length_take, Int.toNat_natCast]; rfl))) rfl ?_
  refine X.u (LU.moveR Is.rfl') rfl ?_
  refine LL.nil (after_code ?_)
  refine LW.block ?_
  refine X.loopK (α := Nat) (fun i => [(8, i64 i)]) [0, 3, 7] (fun i => .cells b3 35 (vxL v) :: Rf) (fun i => i ≤ l.length ∧ ∀ j, j < i → ∀ y, l[j]? = some y → y ≠ v) (fun i => l.length - i) (0) (EnvLe.cons (by rfl) (EnvLe.nil)) (by repeat (exact HSub.refl _)) ?_ ?_
  · exact ⟨Nat.zero_le _, fun j hj => by omega⟩
  · rintro i hI
    obtain ⟨hi, hf⟩ := hI
    refine LW.seq ?_
    refine LW.region ?_
    refine X.u (LU.lss Is.rfl' Is.rfl') rfl ?_
    refine LL.nil (after_code ?_)
    refine LW.seq ?_
    refine X.cond rfl (fun h2 => ?_) (fun h2 => ?_)
    · try have h2 := of_decide_eq_true h2
      refine LW.skip (after_code ?_)
      refine LW.seq ?_
      refine LW.block ?_
      refine LW.seq ?_
      refine LW.region ?_
      refine X.u (LU.moveR Is.rfl') rfl ?_
      refine X.u (LU.assignR Is.rfl') rfl ?_
      refine LL.nil (after_code ?_)
      refine LW.seq ?_
      obtain ⟨x, hx⟩ := at_lt (show i < l.length by omega)
      have hxl := vxL_len x
      refine X.drawM 6 rfl (by kernel_rfl) rfl ?_
      refine QD.u (LU.loadO 0 rfl ⟨Tryd.sizeOf35, Tryd.isAgg35⟩ Is.rfl' (Part.whole (by assumption))) rfl ?_
      refine QD.u (LU.moveS Is.rfl') rfl ?_
      refine QD.u (LU.moveR Is.rfl') rfl ?_
      refine QD.u (LU.at Tryd.underlying26 ⟨Tryd.sizeOf35, Tryd.isAgg35⟩ Is.rfl' Is.rfl' (by omega) (vxs_at hx) (vx_ne x)) rfl ?_
      refine QD.u (LU.load ⟨Tryd.sizeOf35, Tryd.isAgg35⟩ Is.rfl' (by assumption) (Part.whole (by assumption))) rfl ?_
      refine QD.u (LU.eqlVx vxty Is.rfl' Is.rfl') rfl ?_
      refine QD.nil ?_
      refine LL.nil (after_code ?_)
      refine X.cond rfl (fun h4 => ?_) (fun h4 => ?_)
      · have hne : v = x := by simpa using h4
        refine LW.seq ?_
        refine LW.region ?_
        refine X.u (LU.moveR Is.rfl') rfl ?_
        refine X.u (LU.assignR Is.rfl') rfl ?_
        refine LL.nil (after_code ?_)
        refine LW.ret (ret_blk (ret_code (ret_rnd (ret_blk (ret_code (after_end ?_))))))
        refine X.ret (H' := []) (Res.one (by exact IsR rfl)) (by repeat (first | exact HSub.refl _ | refine HSub.drop ?_)) ?_
        exact ⟨by rw [placeG_at (by rw [hne]; exact hx) hf], rfl⟩
      · have hne : v ≠ x := by simpa using h4
        refine LW.skip (after_blk (after_code ?_))
        refine LW.region ?_
        refine X.u (LU.addN Is.rfl' Is.rfl' (wrap_i64 (by omega) (by omega))) rfl ?_
        refine X.u (LU.moveR Is.rfl') rfl ?_
        refine LL.nil (after_rnd ?_)
        refine X.next (i + 1) rfl (EnvLe.cons (by rfl) (EnvLe.nil)) (Keeps.cons (by exact Eq.trans (b := .sl _ _ _) rfl rfl) (Keeps.cons (by exact Eq.trans (b := .raw _) rfl rfl) (Keeps.cons (by exact Eq.trans (b := .raw _) rfl rfl) (Keeps.nil)))) (by repeat (exact HSub.refl _)) ?_ ?_
        · refine ⟨by omega, fun j hj y hy => ?_⟩
          by_cases c : j = i
          · rw [c, hx] at hy; rw [← Option.some.inj hy]; exact fun e => hne e.symm
          · exact hf j (by omega) y hy
        · omega
    · try have h2 := of_decide_eq_false h2
      refine LW.exit (exit_code (exit_rnd (exit_blk (after_code ?_))))
      refine LW.seq ?_
      refine LW.region ?_
      refine X.u (LU.assignR Is.rfl') rfl ?_
      refine LL.nil (after_code ?_)
      refine LW.ret (after_end ?_)
      refine X.ret (H' := []) (Res.one (by exact IsR rfl)) (by repeat (first | exact HSub.refl _ | refine HSub.drop ?_)) ?_
      exact ⟨by rw [placeG_none (fun hm => by obtain ⟨j, hj, e⟩ := List.getElem_of_mem hm; exact hf j (by omega) v (by rw [List.getElem?_eq_getElem hj, e]) rfl)], rfl⟩
set_option maxRecDepth 100000 in
theorem contains_calls (l : List Vx) (k : Cap) (v : Vx) (hl : l.length < 9223372036854775807) : LCalls Tryd.prog 40 [Vxs l k, .agg (vxL v)] [] (fun r H' => r = bl (decide (v ∈ l)) ∧ H' = []) := by
  have hvl := vxL_len v
  refine LCalls.of Tryd.func40 rfl Tryd.ntmps40 Tryd.results40 rfl (fun Rf => ?_)
  refine LW.seq ?_
  refine LW.region ?_
  refine X.act (X.box rfl Is.rfl' (by exact Cells.agg) (fun b3 => ?_))
  refine X.u (LU.assignR Is.rfl') rfl ?_
  refine LL.nil (after_code ?_)
  refine LW.seq ?_
  refine LW.region ?_
  refine X.u (LU.moveS Is.rfl') rfl ?_
  refine X.u (LU.loadO 0 rfl ⟨Tryd.sizeOf35, Tryd.isAgg35⟩ Is.rfl' (Part.whole (by assumption))) rfl ?_
  refine X.u (LU.call (index_calls l k v hl) Tryd.func56 rfl rfl (Opds.cons Is.rfl' (Opds.cons Is.rfl' Opds.nil))) rfl ?_
  refine X.u (LU.geq Is.rfl' Is.rfl') rfl ?_
  refine X.u (LU.assignR Is.rfl') rfl ?_
  refine LL.nil (after_code ?_)
  refine LW.ret (after_end ?_)
  refine X.ret (H' := []) (Res.one (by exact IsR rfl)) (by repeat (first | exact HSub.refl _ | refine HSub.drop ?_)) ?_
  exact ⟨by rw [← placeG_in], rfl⟩
set_option maxRecDepth 100000 in
theorem clone_calls (l : List Vx) (k : Cap) (hl : l.length < 1000000) : LCalls Tryd.prog 36 [Vxs l k] [] (fun r H' => ∃ b o c, r = Vxs l (.tok b o c) ∧ H' = [.tail b o c]) := by
  have hls := vxs_size l
  refine LCalls.of Tryd.func36 rfl Tryd.ntmps36 Tryd.results36 rfl (fun Rf => ?_)
  refine LW.seq ?_
  refine LW.region ?_
  refine X.u (LU.assign (Is.nil 33)) rfl ?_
  refine LL.nil (after_code ?_)
  refine LW.seq ?_
  refine LW.seq ?_
  refine LW.region ?_
  refine X.u (LU.moveS Is.rfl') rfl ?_
  refine X.act (LO.nilSl (st := ⟨_, _, _⟩) rfl Tryd.underlying26 Is.rfl' Is.rfl' (fun bb hbb => ?_))
  refine LL.nil (after_code ?_)
  refine X.cond rfl (fun h1 => ?_) (fun h1 => ?_)
  · try have h1 := of_decide_eq_true h1
    refine LW.seq ?_
    refine LW.region ?_
    refine X.u (LU.assign (Is.nil 33)) rfl ?_
    refine LL.nil (after_code ?_)
    refine LW.ret (ret_code (after_end ?_))
    refine X.ret (H' := [.tail 0 0 0]) (Res.one (Is.full_tok 0 0)) (HSub.tail0 0 0 0 (Nat.le_refl _) _) ?_
    exact ⟨0, 0, 0, by rw [List.map_eq_nil_iff.1 (hbb h1)]; rfl, rfl⟩
  · try have h1 := of_decide_eq_false h1
    refine LW.skip (after_code ?_)
    refine LW.seq ?_
    refine LW.region ?_
    refine X.u (LU.lits Tryd.underlying26 Tryd.sizeOf35 Tryd.zeroValue35 (ones rfl) rfl (by decide) (by decide) Elems.nil (by intro e he; cases he) rfl) rfl ?_
    refine X.u (LU.moveS Is.rfl') rfl ?_
    refine X.act (X.appendF rfl Tryd.underlying26 (El.of (P := Tryd.prog) (z := (.agg #[(.int .u8 0), (.int .u8 0), (.int .u8 0), (.int .u8 0), (.int .u8 0), (.int .u8 0), (.int .u8 0), (.int .u8 0), (.int .u8 0), (.int .u8 0), (.int .u8 0), (.int .u8 0), (.int .u8 0), (.int .u8 0), (.int .u8 0), (.int .u8 0), (.int .u8 0), (.int .u8 0), (.int .u8 0), (.int .u8 0), (.int .u8 0), (.int .u8 0), (.int .u8 0), (.int .u8 0), (.int .u8 0), (.int .u8 0), (.int .u8 0), (.int .u8 0), (.int .u8 0), (.int .u8 0), (.int .u8 0), (.int .u8 0), (.int .i64 0)])) (size := 33) (bytes := 40) rfl rfl rfl) Is.rfl' Is.rfl' (SrcL.slice Tryd.underlying26 (by decide) hls) (by simp only [Option.getD_some, Option.getD_none, byteEls_length, intEls_length, List.length_append, List.length_cons, List.length_nil, List.length_map, List.length_drop, List.length_take, Int.toNat_natCast]; omega) (by simp only [Option.getD_some, Option.getD_none, byteEls_length, intEls_length, List.length_append, List.length_cons, List.length_nil, List.length_map, List.length_drop, List.length_take, Int.toNat_natCast]; omega) (fun b7 o7 c7 => ?_))
    refine X.weak (t := 7) (v := Vxs l (.tok b7 o7 c7)) (Is.of (rfl)) ?_
    refine X.u (LU.assignS Is.rfl') rfl ?_
    refine LL.nil (after_code ?_)
    refine LW.ret (after_end ?_)
    refine X.ret (H' := [.tail b7 o7 c7]) (Res.one Is.rfl') (by repeat (exact HSub.refl _)) ?_
    exact ⟨b7, o7, c7, rfl, rfl⟩
set_option maxRecDepth 100000 in
theorem place_calls (l : List Vx) (k : Cap) (v : Vx) (hl : l.length < 9223372036854775807) : LCalls Tryd.prog 63 [Vxs l k, .agg (vxL v)] [] (fun r H' => r = i64 (placeG l v) ∧ H' = []) := by
  have hvl := vxL_len v
  refine LCalls.of Tryd.func63 rfl Tryd.ntmps63 Tryd.results63 rfl (fun Rf => ?_)
  refine LW.seq ?_
  refine LW.region ?_
  refine X.act (X.box rfl Is.rfl' (by exact Cells.agg) (fun b3 => ?_))
  refine X.u (LU.assignR Is.rfl') rfl ?_
  refine LL.nil (after_code ?_)
  refine LW.seq ?_
  refine LW.seq ?_
  refine LW.region ?_
  refine X.u (LU.assignR Is.rfl') rfl ?_
  refine LL.nil (after_code ?_)
  refine LW.block ?_
  refine X.loopK (α := Nat) (fun i => [(5, i64 i)]) [0, 3] (fun i => .cells b3 35 (vxL v) :: Rf) (fun i => i ≤ l.length ∧ ∀ j, j < i → ∀ y, l[j]? = some y → y ≠ v) (fun i => l.length - i) (0) (EnvLe.cons (by rfl) (EnvLe.nil)) (by repeat (exact HSub.refl _)) ?_ ?_
  · exact ⟨Nat.zero_le _, fun j hj => by omega⟩
  · rintro i hI
    obtain ⟨hi, hf⟩ := hI
    refine LW.seq ?_
    refine LW.seq ?_
    refine LW.region ?_
    refine X.u (LU.moveR Is.rfl') rfl ?_
    refine X.u (LU.moveS Is.rfl') rfl ?_
    refine X.u (LU.lenN Tryd.underlying26 Is.rfl' (by (simp only [Option.getD_some, Option.getD_none, byteEls_length, intEls_length, List.length_append, List.length_cons, List.length_nil, List.length_map, List.length_drop, List.length_take, Int.toNat_natCast]; rfl))) rfl ?_
    refine X.u (LU.lss Is.rfl' Is.rfl') rfl ?_
    refine LL.nil (after_code ?_)
    refine X.cond rfl (fun h2 => ?_) (fun h2 => ?_)
    · try have h2 := of_decide_eq_true h2
      refine LW.skip (after_code ?_)
      refine LW.seq ?_
      refine LW.block ?_
      refine LW.seq ?_
      obtain ⟨x, hx⟩ := at_lt (show i < l.length by omega)
      have hxl := vxL_len x
      refine X.drawM 6 rfl (by kernel_rfl) rfl ?_
      refine QD.u (LU.moveS Is.rfl') rfl ?_
      refine QD.u (LU.moveR Is.rfl') rfl ?_
      refine QD.u (LU.at Tryd.underlying26 ⟨Tryd.sizeOf35, Tryd.isAgg35⟩ Is.rfl' Is.rfl' (by omega) (vxs_at hx) (vx_ne x)) rfl ?_
      refine QD.u (LU.load ⟨Tryd.sizeOf35, Tryd.isAgg35⟩ Is.rfl' (by assumption) (Part.whole (by assumption))) rfl ?_
      refine QD.u (LU.loadO 0 rfl ⟨Tryd.sizeOf35, Tryd.isAgg35⟩ Is.rfl' (Part.whole (by assumption))) rfl ?_
      refine QD.u (LU.eqlVx vxty Is.rfl' Is.rfl') rfl ?_
      refine QD.nil ?_
      refine LL.nil (after_code ?_)
      refine X.cond rfl (fun h4 => ?_) (fun h4 => ?_)
      · have hne : x = v := by simpa using h4
        refine LW.seq ?_
        refine LW.region ?_
        refine X.u (LU.moveR Is.rfl') rfl ?_
        refine X.u (LU.assignR Is.rfl') rfl ?_
        refine LL.nil (after_code ?_)
        refine LW.ret (ret_blk (ret_code (ret_rnd (ret_blk (ret_code (after_end ?_))))))
        refine X.ret (H' := []) (Res.one (by exact IsR rfl)) (by repeat (first | exact HSub.refl _ | refine HSub.drop ?_)) ?_
        exact ⟨by rw [placeG_at (by rw [← hne]; exact hx) hf], rfl⟩
      · have hne : x ≠ v := by simpa using h4
        refine LW.skip (after_blk (after_code ?_))
        refine LW.region ?_
        refine X.u (LU.moveR Is.rfl') rfl ?_
        refine X.u (LU.addN Is.rfl' Is.rfl' (wrap_i64 (by omega) (by omega))) rfl ?_
        refine X.u (LU.assignR Is.rfl') rfl ?_
        refine LL.nil (after_rnd ?_)
        refine X.next (i + 1) rfl (EnvLe.cons (by rfl) (EnvLe.nil)) (Keeps.cons (by exact Eq.trans (b := .sl _ _ _) rfl rfl) (Keeps.cons (by exact Eq.trans (b := .raw _) rfl rfl) (Keeps.nil))) (by repeat (exact HSub.refl _)) ?_ ?_
        · refine ⟨by omega, fun j hj y hy => ?_⟩
          by_cases c : j = i
          · rw [c, hx] at hy; rw [← Option.some.inj hy]; exact hne
          · exact hf j (by omega) y hy
        · omega
    · try have h2 := of_decide_eq_false h2
      refine LW.exit (exit_code (exit_rnd (exit_blk (after_code ?_))))
      refine LW.seq ?_
      refine LW.region ?_
      refine X.u (LU.assignR Is.rfl') rfl ?_
      refine LL.nil (after_code ?_)
      refine LW.ret (after_end ?_)
      refine X.ret (H' := []) (Res.one (by exact IsR rfl)) (by repeat (first | exact HSub.refl _ | refine HSub.drop ?_)) ?_
      exact ⟨by rw [placeG_none (fun hm => by obtain ⟨j, hj, e⟩ := List.getElem_of_mem hm; exact hf j (by omega) v (by rw [List.getElem?_eq_getElem hj, e]) rfl)], rfl⟩
set_option maxRecDepth 100000 in
theorem indexH_calls (l : List Hs) (k : Cap) (v : Hs) (hl : l.length < 9223372036854775807) : LCalls Tryd.prog 42 [.sl 32 (hss l) k, .agg (hsL v)] [] (fun r H' => r = i64 (placeG l v) ∧ H' = []) := by
  have hvl := hsL_len v
  refine LCalls.of Tryd.func42 rfl Tryd.ntmps42 Tryd.results42 rfl (fun Rf => ?_)
  refine LW.seq ?_
  refine LW.region ?_
  refine X.act (X.box rfl Is.rfl' (by exact Cells.agg) (fun b3 => ?_))
  refine X.u (LU.assignR Is.rfl') rfl ?_
  refine LL.nil (after_code ?_)
  refine LW.seq ?_
  refine LW.seq ?_
  refine LW.region ?_
  refine X.u (LU.moveS Is.rfl') rfl ?_
  refine X.u (LU.lenN Tryd.underlying71 Is.rfl' (by (simp only [Option.getD_some, Option.getD_none, byteEls_length, intEls_length, List.length_append, List.length_cons, List.length_nil, List.length_map, List.length_drop, List.length_take, Int.toNat_natCast]; rfl))) rfl ?_
  refine X.u (LU.moveR Is.rfl') rfl ?_
  refine LL.nil (after_code ?_)
  refine LW.block ?_
  refine X.loopK (α := Nat) (fun i => [(8, i64 i)]) [0, 3, 7] (fun i => .cells b3 31 (hsL v) :: Rf) (fun i => i ≤ l.length ∧ ∀ j, j < i → ∀ y, l[j]? = some y → y ≠ v) (fun i => l.length - i) (0) (EnvLe.cons (by rfl) (EnvLe.nil)) (by repeat (exact HSub.refl _)) ?_ ?_
  · exact ⟨Nat.zero_le _, fun j hj => by omega⟩
  · rintro i hI
    obtain ⟨hi, hf⟩ := hI
    refine LW.seq ?_
    refine LW.region ?_
    refine X.u (LU.lss Is.rfl' Is.rfl') rfl ?_
    refine LL.nil (after_code ?_)
    refine LW.seq ?_
    refine X.cond rfl (fun h2 => ?_) (fun h2 => ?_)
    · try have h2 := of_decide_eq_true h2
      refine LW.skip (after_code ?_)
      refine LW.seq ?_
      refine LW.block ?_
      refine LW.seq ?_
      refine LW.region ?_
      refine X.u (LU.moveR Is.rfl') rfl ?_
      refine X.u (LU.assignR Is.rfl') rfl ?_
      refine LL.nil (after_code ?_)
      refine LW.seq ?_
      obtain ⟨x, hx⟩ := at_lt (show i < l.length by omega)
      have hxl := hsL_len x
      refine X.drawM 6 rfl (by kernel_rfl) rfl ?_
      refine QD.u (LU.loadO 0 rfl ⟨Tryd.sizeOf31, Tryd.isAgg31⟩ Is.rfl' (Part.whole (by assumption))) rfl ?_
      refine QD.u (LU.moveS Is.rfl') rfl ?_
      refine QD.u (LU.moveR Is.rfl') rfl ?_
      refine QD.u (LU.at Tryd.underlying71 ⟨Tryd.sizeOf31, Tryd.isAgg31⟩ Is.rfl' Is.rfl' (by omega) (hss_at hx) (hs_ne x)) rfl ?_
      refine QD.u (LU.load ⟨Tryd.sizeOf31, Tryd.isAgg31⟩ Is.rfl' (by assumption) (Part.whole (by assumption))) rfl ?_
      refine QD.u (LU.eqlHs Tryd.underlying31 Tryd.underlying5 Tryd.sizeOf5 (by kernel_rfl) Is.rfl' Is.rfl') rfl ?_
      refine QD.nil ?_
      refine LL.nil (after_code ?_)
      refine X.cond rfl (fun h4 => ?_) (fun h4 => ?_)
      · have hne : v = x := by simpa using h4
        refine LW.seq ?_
        refine LW.region ?_
        refine X.u (LU.moveR Is.rfl') rfl ?_
        refine X.u (LU.assignR Is.rfl') rfl ?_
        refine LL.nil (after_code ?_)
        refine LW.ret (ret_blk (ret_code (ret_rnd (ret_blk (ret_code (after_end ?_))))))
        refine X.ret (H' := []) (Res.one (by exact IsR rfl)) (by repeat (first | exact HSub.refl _ | refine HSub.drop ?_)) ?_
        exact ⟨by rw [placeG_at (by rw [hne]; exact hx) hf], rfl⟩
      · have hne : v ≠ x := by simpa using h4
        refine LW.skip (after_blk (after_code ?_))
        refine LW.region ?_
        refine X.u (LU.addN Is.rfl' Is.rfl' (wrap_i64 (by omega) (by omega))) rfl ?_
        refine X.u (LU.moveR Is.rfl') rfl ?_
        refine LL.nil (after_rnd ?_)
        refine X.next (i + 1) rfl (EnvLe.cons (by rfl) (EnvLe.nil)) (Keeps.cons (by exact Eq.trans (b := .sl _ _ _) rfl rfl) (Keeps.cons (by exact Eq.trans (b := .raw _) rfl rfl) (Keeps.cons (by exact Eq.trans (b := .raw _) rfl rfl) (Keeps.nil)))) (by repeat (exact HSub.refl _)) ?_ ?_
        · refine ⟨by omega, fun j hj y hy => ?_⟩
          by_cases c : j = i
          · rw [c, hx] at hy; rw [← Option.some.inj hy]; exact fun e => hne e.symm
          · exact hf j (by omega) y hy
        · omega
    · try have h2 := of_decide_eq_false h2
      refine LW.exit (exit_code (exit_rnd (exit_blk (after_code ?_))))
      refine LW.seq ?_
      refine LW.region ?_
      refine X.u (LU.assignR Is.rfl') rfl ?_
      refine LL.nil (after_code ?_)
      refine LW.ret (after_end ?_)
      refine X.ret (H' := []) (Res.one (by exact IsR rfl)) (by repeat (first | exact HSub.refl _ | refine HSub.drop ?_)) ?_
      exact ⟨by rw [placeG_none (fun hm => by obtain ⟨j, hj, e⟩ := List.getElem_of_mem hm; exact hf j (by omega) v (by rw [List.getElem?_eq_getElem hj, e]) rfl)], rfl⟩
set_option maxRecDepth 100000 in
theorem containsH_calls (l : List Hs) (k : Cap) (v : Hs) (hl : l.length < 9223372036854775807) : LCalls Tryd.prog 31 [.sl 32 (hss l) k, .agg (hsL v)] [] (fun r H' => r = bl (decide (v ∈ l)) ∧ H' = []) := by
  have hvl := hsL_len v
  refine LCalls.of Tryd.func31 rfl Tryd.ntmps31 Tryd.results31 rfl (fun Rf => ?_)
  refine LW.seq ?_
  refine LW.region ?_
  refine X.act (X.box rfl Is.rfl' (by exact Cells.agg) (fun b3 => ?_))
  refine X.u (LU.assignR Is.rfl') rfl ?_
  refine LL.nil (after_code ?_)
  refine LW.seq ?_
  refine LW.region ?_
  refine X.u (LU.moveS Is.rfl') rfl ?_
  refine X.u (LU.loadO 0 rfl ⟨Tryd.sizeOf31, Tryd.isAgg31⟩ Is.rfl' (Part.whole (by assumption))) rfl ?_
  refine X.u (LU.call (indexH_calls l k v hl) Tryd.func42 rfl rfl (Opds.cons Is.rfl' (Opds.cons Is.rfl' Opds.nil))) rfl ?_
  refine X.u (LU.geq Is.rfl' Is.rfl') rfl ?_
  refine X.u (LU.assignR Is.rfl') rfl ?_
  refine LL.nil (after_code ?_)
  refine LW.ret (after_end ?_)
  refine X.ret (H' := []) (Res.one (by exact IsR rfl)) (by repeat (first | exact HSub.refl _ | refine HSub.drop ?_)) ?_
  exact ⟨by rw [← placeG_in], rfl⟩
set_option maxRecDepth 100000 in
theorem cloneH_calls (l : List Hs) (k : Cap) (hl : l.length < 1000000) : LCalls Tryd.prog 32 [.sl 32 (hss l) k] [] (fun r H' => ∃ b o c, r = .sl 32 (hss l) (.tok b o c) ∧ H' = [.tail b o c]) := by
  have hls := hss_size l
  refine LCalls.of Tryd.func32 rfl Tryd.ntmps32 Tryd.results32 rfl (fun Rf => ?_)
  refine LW.seq ?_
  refine LW.region ?_
  refine X.u (LU.assign (Is.nil 32)) rfl ?_
  refine LL.nil (after_code ?_)
  refine LW.seq ?_
  refine LW.seq ?_
  refine LW.region ?_
  refine X.u (LU.moveS Is.rfl') rfl ?_
  refine X.act (LO.nilSl (st := ⟨_, _, _⟩) rfl Tryd.underlying71 Is.rfl' Is.rfl' (fun bb hbb => ?_))
  refine LL.nil (after_code ?_)
  refine X.cond rfl (fun h1 => ?_) (fun h1 => ?_)
  · try have h1 := of_decide_eq_true h1
    refine LW.seq ?_
    refine LW.region ?_
    refine X.u (LU.assign (Is.nil 32)) rfl ?_
    refine LL.nil (after_code ?_)
    refine LW.ret (ret_code (after_end ?_))
    refine X.ret (H' := [.tail 0 0 0]) (Res.one (Is.full_tok 0 0)) (HSub.tail0 0 0 0 (Nat.le_refl _) _) ?_
    exact ⟨0, 0, 0, by rw [List.map_eq_nil_iff.1 (hbb h1)]; rfl, rfl⟩
  · try have h1 := of_decide_eq_false h1
    refine LW.skip (after_code ?_)
    refine LW.seq ?_
    refine LW.region ?_
    refine X.u (LU.lits Tryd.underlying71 Tryd.sizeOf31 Tryd.zeroValue31 (ones rfl) rfl (by decide) (by decide) Elems.nil (by intro e he; cases he) rfl) rfl ?_
    refine X.u (LU.moveS Is.rfl') rfl ?_
    refine X.act (X.appendF rfl Tryd.underlying71 (El.of (P := Tryd.prog) (z := (.agg #[(.int .u8 0), (.int .u8 0), (.int .u8 0), (.int .u8 0), (.int .u8 0), (.int .u8 0), (.int .u8 0), (.int .u8 0), (.int .u8 0), (.int .u8 0), (.int .u8 0), (.int .u8 0), (.int .u8 0), (.int .u8 0), (.int .u8 0), (.int .u8 0), (.int .u8 0), (.int .u8 0), (.int .u8 0), (.int .u8 0), (.int .u8 0), (.int .u8 0), (.int .u8 0), (.int .u8 0), (.int .u8 0), (.int .u8 0), (.int .u8 0), (.int .u8 0), (.int .u8 0), (.int .u8 0), (.int .u8 0), (.int .u8 0)])) (size := 32) (bytes := 32) rfl rfl rfl) Is.rfl' Is.rfl' (SrcL.slice Tryd.underlying71 (by decide) hls) (by simp only [Option.getD_some, Option.getD_none, byteEls_length, intEls_length, List.length_append, List.length_cons, List.length_nil, List.length_map, List.length_drop, List.length_take, Int.toNat_natCast]; omega) (by simp only [Option.getD_some, Option.getD_none, byteEls_length, intEls_length, List.length_append, List.length_cons, List.length_nil, List.length_map, List.length_drop, List.length_take, Int.toNat_natCast]; omega) (fun b7 o7 c7 => ?_))
    refine X.weak (t := 7) (v := .sl 32 (hss l) (.tok b7 o7 c7)) (Is.of (rfl)) ?_
    refine X.u (LU.assignS Is.rfl') rfl ?_
    refine LL.nil (after_code ?_)
    refine LW.ret (after_end ?_)
    refine X.ret (H' := [.tail b7 o7 c7]) (Res.one Is.rfl') (by repeat (exact HSub.refl _)) ?_
    exact ⟨b7, o7, c7, rfl, rfl⟩
end Go.Proofs.YtolpkeajokjbjaaDoor
