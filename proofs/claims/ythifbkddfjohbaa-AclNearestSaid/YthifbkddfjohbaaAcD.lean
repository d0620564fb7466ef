/- The document's Decide; the paths with which someone may; the chapter's example. -/
import Derived.Test.YthifbkddfjohbaaAcC
set_option linter.unusedVariables false
set_option linter.unusedSimpArgs false
namespace Go.Proofs.Ythifbkddfjohbaa
open Go.RowKit Go.L
theorem most_ge (sp : List Rl) : ∀ i, 0 ≤ mostN sp i ∧ ∀ x ∈ sp.take i, (x.pre.length : Int) ≤ mostN sp i
  | 0 => by simp [mostN]
  | i + 1 => by
    obtain ⟨h0, h1⟩ := most_ge sp i
    unfold mostN
    split
    · rename_i x hx
      rw [take_snoc hx]
      refine ⟨by omega, fun y hy => ?_⟩
      rcases List.mem_append.1 hy with h | h
      · have := h1 y h; omega
      · rw [List.mem_singleton.1 h]; omega
    · rename_i hx
      refine ⟨h0, fun y hy => h1 y ?_⟩
      have hl := List.getElem?_eq_none_iff.1 hx
      rwa [List.take_of_length_le (by omega), ← List.take_of_length_le hl] at hy
theorem most_at (sp : List Rl) : ∀ i, 0 < i → i ≤ sp.length → ∃ x ∈ sp, (x.pre.length : Int) = mostN sp i
  | 0, h, _ => absurd h (Nat.lt_irrefl _)
  | i + 1, _, hl => by
    obtain ⟨x, hx⟩ := at_lt (show i < sp.length by omega)
    have hm := List.mem_of_getElem? hx
    have e : mostN sp (i + 1) = max (mostN sp i) x.pre.length := (most_step hx).symm
    by_cases hc : mostN sp i ≤ x.pre.length
    · exact ⟨x, hm, by omega⟩
    · by_cases hi : 0 < i
      · obtain ⟨y, hy, he⟩ := most_at sp i hi (by omega)
        exact ⟨y, hy, by omega⟩
      · obtain rfl : i = 0 := by omega
        simp [mostN] at hc
theorem decide_none {l : List Rl} {s : Sb} {ch p : List UInt8} {right : Int} (hb : badAsk p right = false) (h : ∀ x ∈ l, matchB x s ch p right = false) : decideB l s ch p right = decide (s.role = 2) := by
  have : speak l s ch p right = [] := List.filter_eq_nil_iff.2 fun x hx => by rw [h x hx]; simp
  unfold decideB
  rw [if_neg (by rw [hb]; simp), if_pos (by rw [this]; rfl)]
theorem decide_m {l : List Rl} {s : Sb} {ch p : List UInt8} {right : Int} (hb : badAsk p right = false) {m : Int} (h1 : ∀ x ∈ l, matchB x s ch p right = true → (x.pre.length : Int) ≤ m) (h2 : ∃ x ∈ l, matchB x s ch p right = true ∧ (x.pre.length : Int) = m) :
    decideB l s ch p right = !(l.any fun x => (matchB x s ch p right && decide ((x.pre.length : Int) = m)) && x.deny) := by
  obtain ⟨x, hx, hmx, hlx⟩ := h2
  have hxs : x ∈ speak l s ch p right := List.mem_filter.2 ⟨hx, hmx⟩
  have hne : (speak l s ch p right).length ≠ 0 := fun h => by rw [List.length_eq_zero_iff.1 h] at hxs; simp at hxs
  have hM : mostN (speak l s ch p right) (speak l s ch p right).length = m := by
    obtain ⟨y, hy, he⟩ := most_at (speak l s ch p right) _ (Nat.pos_of_ne_zero hne) (Nat.le_refl _)
    have hy2 := List.mem_filter.1 hy
    have g1 := h1 y hy2.1 hy2.2
    have g2 := (most_ge (speak l s ch p right) (speak l s ch p right).length).2 x (by rw [List.take_length]; exact hxs)
    omega
  unfold decideB
  rw [if_neg (by rw [hb]; simp), if_neg hne, hM]
  rw [Bool.eq_iff_iff]
  refine ⟨fun h => ?_, fun h => ?_⟩
  · have h := of_decide_eq_true h
    rw [Bool.not_eq_true', List.any_eq_false]
    intro y hy hc
    simp only [Bool.and_eq_true, decide_eq_true_eq] at hc
    have hm := List.filter_eq_nil_iff.1 (List.length_eq_zero_iff.1 h) y (List.mem_filter.2 ⟨hy, hc.1.1⟩)
    exact hm (by simp [hc.2, hc.1.2])
  · refine decide_eq_true (List.length_eq_zero_iff.2 (List.filter_eq_nil_iff.2 fun y hy hc => ?_))
    have hy2 := List.mem_filter.1 hy
    rw [Bool.not_eq_true', List.any_eq_false] at h
    simp only [Bool.and_eq_true, decide_eq_true_eq] at hc
    exact h y hy2.1 (by simp [hy2.2, hc.1, hc.2])
/-- The longest prefix among those of which is said true; -1 if there is none. -/
def bR (l : List Rl) (f : Rl → Bool) : Nat → Int
  | 0 => -1
  | i + 1 => match l[i]? with
    | some x => if (f x && decide (bR l f i < (x.pre.length : Int))) = true then x.pre.length else bR l f i
    | none => bR l f i
theorem bR_hit {l : List Rl} {f : Rl → Bool} {i : Nat} {x : Rl} (hx : l[i]? = some x) (h : (f x && decide (bR l f i < (x.pre.length : Int))) = true) : bR l f (i + 1) = x.pre.length := by
  rw [bR, hx]; exact if_pos h
theorem bR_miss {l : List Rl} {f : Rl → Bool} {i : Nat} {x : Rl} (hx : l[i]? = some x) (h : (f x && decide (bR l f i < (x.pre.length : Int))) = false) : bR l f (i + 1) = bR l f i := by
  rw [bR, hx]; exact if_neg (by rw [h]; simp)
theorem bR_facts (l : List Rl) (f : Rl → Bool) : ∀ i, i ≤ l.length → -1 ≤ bR l f i ∧ (∀ x ∈ l.take i, f x = true → (x.pre.length : Int) ≤ bR l f i) ∧ (0 ≤ bR l f i → ∃ x ∈ l, f x = true ∧ (x.pre.length : Int) = bR l f i)
  | 0, _ => by simp [bR]
  | i + 1, hl => by
    obtain ⟨h0, h1, h2⟩ := bR_facts l f i (by omega)
    obtain ⟨x, hx⟩ := at_lt (show i < l.length by omega)
    have hm := List.mem_of_getElem? hx
    rw [take_snoc hx]
    cases hc : (f x && decide (bR l f i < (x.pre.length : Int))) with
    | true =>
      rw [bR_hit hx hc]
      simp only [Bool.and_eq_true, decide_eq_true_eq] at hc
      refine ⟨by omega, fun y hy hf => ?_, fun _ => ⟨x, hm, hc.1, rfl⟩⟩
      rcases List.mem_append.1 hy with h | h
      · have := h1 y h hf; omega
      · rw [List.mem_singleton.1 h]; omega
    | false =>
      rw [bR_miss hx hc]
      refine ⟨h0, fun y hy hf => ?_, h2⟩
      rcases List.mem_append.1 hy with h | h
      · exact h1 y h hf
      · rw [List.mem_singleton.1 h] at hf ⊢
        rw [hf, Bool.true_and, decide_eq_false_iff_not] at hc
        omega
set_option maxRecDepth 100000 in
theorem rdecide_calls (l : List Rl) (k : Cap) (s : Sb) (ch p : List UInt8) (right : Int) (hl : LOk l) (hs : SbOk s) : LCalls Try.prog 21 [Rls l k, .agg (sL s), Str ch, Str p, i64 right] [] (fun x H' => x = bl (decideB l s ch p right) ∧ H' = []) := by
  have hrl := reach_lt
  obtain ⟨hl1, hl2⟩ := hl
  obtain ⟨f, hf⟩ : ∃ f : Rl → Bool, f = fun r => matchB r s ch p right := ⟨_, rfl⟩
  have hfx : ∀ x, matchB x s ch p right = f x := fun x => by rw [hf]
  have hmc : ∀ x ∈ l, LCalls Try.prog 19 [.agg (rL x), .agg (sL s), Str ch, Str p, i64 right] [] (fun r H' => r = bl (f x) ∧ H' = []) := fun x hx => by rw [← hfx]; exact rmatches_calls x s ch p right (hl1 x hx) hs
  refine LCalls.of Try.func21 rfl Try.ntmps21 Try.results21 rfl (fun Rf => ?_)
  refine LW.seq ?_
  refine LW.region ?_
  refine X.act (X.box rfl Is.rfl' (by exact Cells.agg) (fun b6 => ?_))
  refine X.u (LU.assignR Is.rfl') rfl ?_
  refine LL.nil (after_code ?_)
  refine LW.seq ?_
  refine LW.seq ?_
  refine LW.region ?_
  refine X.u (LU.moveR Is.rfl') rfl ?_
  refine X.u (LU.call (rpath_calls p) Try.func46 rfl rfl (Opds.cons Is.rfl' Opds.nil)) rfl ?_
  refine X.u (LU.not Is.rfl') rfl ?_
  refine X.u (LU.moveR Is.rfl') rfl ?_
  refine X.gF rfl rfl (fun hg => LU.moveR (by exact Is.rfl')) rfl ?_
  refine X.gF rfl rfl (fun hg => LU.neq (by exact Is.whenN hg) (by exact Is.rfl')) rfl ?_
  refine X.gF rfl rfl (fun hg => LU.moveR (by exact Is.whenN hg)) rfl ?_
  refine X.gT2 rfl rfl (fun hg0 hg => LU.moveR (by exact Is.rfl')) rfl ?_
  refine X.gT2 rfl rfl (fun hg0 hg => LU.neq (by exact Is.whenE (by rw [hg0, hg]; rfl)) (by exact Is.rfl')) rfl ?_
  refine X.gF rfl rfl (fun hg => LU.pickAnd (by exact Is.whenN hg) (fun hq => (by exact Is.whenE (by rw [hg, hq]; rfl))) (by exact Is.rfl')) rfl ?_
  refine X.u (LU.pickOr Is.rfl' Is.rfl' (fun hq => (by exact Is.whenN hq))) rfl ?_
  refine LL.nil (after_code ?_)
  refine X.cond rfl (fun h1 => ?_) (fun h1 => ?_)
  · try have h1 := of_decide_eq_true h1
    refine LW.seq ?_
    refine LW.region ?_
    refine X.u (LU.assignR Is.rfl') rfl ?_
    refine LL.nil (after_code ?_)
    refine LW.ret (ret_code (after_end ?_))
    refine X.ret (H' := []) (Res.one (by exact IsR rfl)) (by repeat (first | exact HSub.refl _ | refine HSub.pick 0 rfl ?_ | refine HSub.pick 1 rfl ?_ | refine HSub.pick 2 rfl ?_ | refine HSub.pick 3 rfl ?_ | refine HSub.pick 4 rfl ?_ | refine HSub.drop ?_)) ?_
    exact ⟨by unfold decideB; rw [if_pos (show badAsk p right = true from h1)], rfl⟩
  · have hb : badAsk p right = false := h1
    refine LW.skip (after_code ?_)
    refine LW.seq ?_
    refine LW.region ?_
    refine X.u (LU.assignR Is.rfl') rfl ?_
    refine LL.nil (after_code ?_)
    refine LW.seq ?_
    refine LW.seq ?_
    refine LW.region ?_
    refine X.u (LU.assignR Is.rfl') rfl ?_
    refine LL.nil (after_code ?_)
    refine LW.block ?_
    refine X.loopK (α := Nat) (fun i => [(12, i64 i), (11, i64 (bR l f i))]) [0, 2, 3, 4, 6, 10] (fun i => .cells b6 25 (sL s) :: Rf) (fun i => i ≤ l.length) (fun i => l.length - i) (0) (EnvLe.cons (by rfl) (EnvLe.cons (by rfl) (EnvLe.nil))) (by exact HSub.refl _) ?_ ?_
    · exact Nat.zero_le _
    · rintro i hI
      obtain ⟨hb1, hb2, hb3⟩ := bR_facts l f i hI
      refine LW.seq ?_
      refine LW.seq ?_
      refine LW.region ?_
      refine X.u (LU.moveR Is.rfl') rfl ?_
      refine X.u (LU.moveS Is.rfl') rfl ?_
      refine X.u (LU.lenN Try.underlying22 Is.rfl' (by (simp only [Option.getD_some, Option.getD_none, byteEls_length, intEls_length, List.length_append, List.length_cons, List.length_nil, List.length_map, List.length_drop, List.length_take, Int.toNat_natCast]; rfl))) rfl ?_
      refine X.u (LU.lss Is.rfl' Is.rfl') rfl ?_
      refine LL.nil (after_code ?_)
      refine X.cond rfl (fun h5 => ?_) (fun h5 => ?_)
      · try have h5 := of_decide_eq_true h5
        refine LW.skip (after_code ?_)
        refine LW.seq ?_
        refine LW.block ?_
        refine LW.seq ?_
        obtain ⟨x, hx⟩ := at_lt (show i < l.length by omega)
        refine X.drawM 19 rfl (by kernel_rfl) rfl ?_
        refine QD.u (LU.moveS Is.rfl') rfl ?_
        refine QD.u (LU.moveR Is.rfl') rfl ?_
        refine QD.u (LU.at Try.underlying22 ⟨Try.sizeOf31, Try.isAgg31⟩ Is.rfl' Is.rfl' (by omega) (rEls_at hx) (by simp)) rfl ?_
        refine QD.u (LU.load ⟨Try.sizeOf31, Try.isAgg31⟩ Is.rfl' (by (simp; done)) (Part.whole (by (simp; done)))) rfl ?_
        refine QD.u (LU.loadO 0 rfl ⟨Try.sizeOf25, Try.isAgg25⟩ Is.rfl' (Part.whole (by (simp; done)))) rfl ?_
        refine QD.u (LU.moveR Is.rfl') rfl ?_
        refine QD.u (LU.moveR Is.rfl') rfl ?_
        refine QD.u (LU.moveR Is.rfl') rfl ?_
        refine QD.u (LU.call (hmc x (List.mem_of_getElem? hx)) Try.func19 rfl rfl (Opds.cons Is.rfl' (Opds.cons Is.rfl' (Opds.cons Is.rfl' (Opds.cons Is.rfl' (Opds.cons Is.rfl' Opds.nil)))))) rfl ?_
        refine QD.u (LU.moveR Is.rfl') rfl ?_
        refine QD.gT rfl rfl (fun hg => LU.moveS (by exact Is.rfl')) rfl ?_
        refine QD.gT rfl rfl (fun hg => LU.moveR (by exact Is.rfl')) rfl ?_
        refine QD.gT rfl rfl (fun hg => LU.at Try.underlying22 ⟨Try.sizeOf31, Try.isAgg31⟩ (by exact Is.whenE hg) (by exact Is.whenE hg) (by omega) (rEls_at hx) (by simp)) rfl ?_
        refine QD.gT rfl rfl (fun hg => LU.fieldP Try.underlying31 rfl ⟨Try.sizeOf9, Try.isAgg9⟩ (by decide) (by exact Is.whenE hg) (by (simp; done))) rfl ?_
        refine QD.gT rfl rfl (fun hg => LU.load ⟨Try.sizeOf9, Try.isAgg9⟩ (by exact Is.whenE hg) (by (simp; done)) (Part.one rfl)) rfl ?_
        refine QD.gT rfl rfl (fun hg => LU.strlenN Try.underlying9 (by exact Is.whenE hg)) rfl ?_
        refine QD.gT rfl rfl (fun hg => LU.moveR (by exact Is.rfl')) rfl ?_
        refine QD.gT rfl rfl (fun hg => LU.gtr (by exact Is.whenE hg) (by exact Is.whenE hg)) rfl ?_
        refine QD.u (LU.pickAnd Is.rfl' (fun hq => (by exact Is.whenE hq)) Is.rfl') rfl ?_
        refine QD.nil ?_
        refine LL.nil (after_code ?_)
        refine X.cond rfl (fun h7 => ?_) (fun h7 => ?_)
        · have hbr := bR_hit hx h7
          refine LW.region ?_
          refine X.u (LU.moveS Is.rfl') rfl ?_
          refine X.u (LU.moveR Is.rfl') rfl ?_
          refine X.u (LU.at Try.underlying22 ⟨Try.sizeOf31, Try.isAgg31⟩ Is.rfl' Is.rfl' (by omega) (rEls_at hx) (by simp)) rfl ?_
          refine X.u (LU.fieldP Try.underlying31 rfl ⟨Try.sizeOf9, Try.isAgg9⟩ (by decide) Is.rfl' (by (simp; done))) rfl ?_
          refine X.u (LU.load ⟨Try.sizeOf9, Try.isAgg9⟩ Is.rfl' (by (simp; done)) (Part.one rfl)) rfl ?_
          refine X.u (LU.strlenN Try.underlying9 Is.rfl') rfl ?_
          refine X.u (LU.assignR Is.rfl') rfl ?_
          refine LL.nil (after_blk (after_code ?_))
          refine LW.region ?_
          refine X.u (LU.moveR Is.rfl') rfl ?_
          refine X.u (LU.addN Is.rfl' Is.rfl' (wrap_i64 (by omega) (by omega))) rfl ?_
          refine X.u (LU.assignR Is.rfl') rfl ?_
          refine LL.nil (after_rnd ?_)
          refine X.next (i + 1) rfl (EnvLe.cons (by rfl) (EnvLe.cons (by exact raw_int (by omega)) (EnvLe.nil))) (Keeps.cons (by exact Eq.trans (b := .sl _ _ _) rfl rfl) (Keeps.cons (by exact Eq.trans (b := .raw _) rfl rfl) (Keeps.cons (by exact Eq.trans (b := .raw _) rfl rfl) (Keeps.cons (by exact Eq.trans (b := .raw _) rfl rfl) (Keeps.cons (by exact Eq.trans (b := .raw _) rfl rfl) (Keeps.cons (by exact Eq.trans (b := .raw _) rfl rfl) (Keeps.nil))))))) (by exact HSub.refl _) ?_ ?_
          · omega
          · omega
        · have hbr := bR_miss hx h7
          refine LW.skip (after_blk (after_code ?_))
          refine LW.region ?_
          refine X.u (LU.moveR Is.rfl') rfl ?_
          refine X.u (LU.addN Is.rfl' Is.rfl' (wrap_i64 (by omega) (by omega))) rfl ?_
          refine X.u (LU.assignR Is.rfl') rfl ?_
          refine LL.nil (after_rnd ?_)
          refine X.next (i + 1) rfl (EnvLe.cons (by rfl) (EnvLe.cons (by exact raw_int (by omega)) (EnvLe.nil))) (Keeps.cons (by exact Eq.trans (b := .sl _ _ _) rfl rfl) (Keeps.cons (by exact Eq.trans (b := .raw _) rfl rfl) (Keeps.cons (by exact Eq.trans (b := .raw _) rfl rfl) (Keeps.cons (by exact Eq.trans (b := .raw _) rfl rfl) (Keeps.cons (by exact Eq.trans (b := .raw _) rfl rfl) (Keeps.cons (by exact Eq.trans (b := .raw _) rfl rfl) (Keeps.nil))))))) (by exact HSub.refl _) ?_ ?_
          · omega
          · omega
      · try have h5 := of_decide_eq_false h5
        obtain rfl : i = l.length := by omega
        rw [List.take_length] at hb2
        refine LW.exit (exit_code (exit_rnd (exit_blk (after_code ?_))))
        refine LW.seq ?_
        refine LW.seq ?_
        refine LW.region ?_
        refine X.u (LU.moveR Is.rfl') rfl ?_
        refine X.u (LU.lss Is.rfl' Is.rfl') rfl ?_
        refine LL.nil (after_code ?_)
        refine X.cond rfl (fun h9 => ?_) (fun h9 => ?_)
        · try have h9 := of_decide_eq_true h9
          refine LW.seq ?_
          refine LW.region ?_
          refine X.u (LU.fieldO Try.underlying25 rfl Try.sizeOf3 (by decide) Is.rfl') rfl ?_
          refine X.u (LU.loadO 0 rfl ⟨Try.sizeOf3, Try.isAgg3⟩ Is.rfl' (Part.one rfl)) rfl ?_
          refine X.u (LU.eql Is.rfl' Is.rfl') rfl ?_
          refine X.u (LU.assignR Is.rfl') rfl ?_
          refine LL.nil (after_code ?_)
          refine LW.ret (ret_code (after_end ?_))
          refine X.ret (H' := []) (Res.one (by exact IsR rfl)) (by repeat (first | exact HSub.refl _ | refine HSub.pick 0 rfl ?_ | refine HSub.pick 1 rfl ?_ | refine HSub.pick 2 rfl ?_ | refine HSub.pick 3 rfl ?_ | refine HSub.pick 4 rfl ?_ | refine HSub.drop ?_)) ?_
          exact ⟨by rw [decide_none hb (fun x hx => by rw [hfx]; rw [Bool.eq_false_iff]; intro h; have := hb2 x hx h; omega)], rfl⟩
        · try have h9 := of_decide_eq_false h9
          obtain ⟨y, hy, hfy, hly⟩ := hb3 (by omega)
          have hdm := decide_m (s := s) (ch := ch) hb (m := bR l f l.length) (fun x hx h => hb2 x hx (by rwa [← hfx])) ⟨y, hy, by rw [hfx]; exact hfy, hly⟩
          refine LW.skip (after_code ?_)
          refine LW.seq ?_
          refine LW.seq ?_
          refine LW.region ?_
          refine X.u (LU.assignR Is.rfl') rfl ?_
          refine LL.nil (after_code ?_)
          refine LW.block ?_
          refine X.loopK (α := Nat) (fun i => [(13, i64 i)]) [0, 2, 3, 4, 6, 11] (fun i => .cells b6 25 (sL s) :: Rf) (fun i => i ≤ l.length ∧ ∀ x ∈ l.take i, ((f x && decide ((x.pre.length : Int) = bR l f l.length)) && x.deny) = false) (fun i => l.length - i) (0) (EnvLe.cons (by rfl) (EnvLe.nil)) (by exact HSub.refl _) ?_ ?_
          · exact ⟨Nat.zero_le _, by simp⟩
          · rintro i hI
            obtain ⟨hk, hall⟩ := hI
            refine LW.seq ?_
            refine LW.seq ?_
            refine LW.region ?_
            refine X.u (LU.moveR Is.rfl') rfl ?_
            refine X.u (LU.moveS Is.rfl') rfl ?_
            refine X.u (LU.lenN Try.underlying22 Is.rfl' (by (simp only [Option.getD_some, Option.getD_none, byteEls_length, intEls_length, List.length_append, List.length_cons, List.length_nil, List.length_map, List.length_drop, List.length_take, Int.toNat_natCast]; rfl))) rfl ?_
            refine X.u (LU.lss Is.rfl' Is.rfl') rfl ?_
            refine LL.nil (after_code ?_)
            refine X.cond rfl (fun h12 => ?_) (fun h12 => ?_)
            · try have h12 := of_decide_eq_true h12
              refine LW.skip (after_code ?_)
              refine LW.seq ?_
              refine LW.block ?_
              refine LW.seq ?_
              obtain ⟨x, hx⟩ := at_lt (show i < l.length by omega)
              refine X.drawM 26 rfl (by kernel_rfl) rfl ?_
              refine QD.u (LU.moveS Is.rfl') rfl ?_
              refine QD.u (LU.moveR Is.rfl') rfl ?_
              refine QD.u (LU.at Try.underlying22 ⟨Try.sizeOf31, Try.isAgg31⟩ Is.rfl' Is.rfl' (by omega) (rEls_at hx) (by simp)) rfl ?_
              refine QD.u (LU.load ⟨Try.sizeOf31, Try.isAgg31⟩ Is.rfl' (by (simp; done)) (Part.whole (by (simp; done)))) rfl ?_
              refine QD.u (LU.loadO 0 rfl ⟨Try.sizeOf25, Try.isAgg25⟩ Is.rfl' (Part.whole (by (simp; done)))) rfl ?_
              refine QD.u (LU.moveR Is.rfl') rfl ?_
              refine QD.u (LU.moveR Is.rfl') rfl ?_
              refine QD.u (LU.moveR Is.rfl') rfl ?_
              refine QD.u (LU.call (hmc x (List.mem_of_getElem? hx)) Try.func19 rfl rfl (Opds.cons Is.rfl' (Opds.cons Is.rfl' (Opds.cons Is.rfl' (Opds.cons Is.rfl' (Opds.cons Is.rfl' Opds.nil)))))) rfl ?_
              refine QD.u (LU.moveR Is.rfl') rfl ?_
              refine QD.gT rfl rfl (fun hg => LU.moveS (by exact Is.rfl')) rfl ?_
              refine QD.gT rfl rfl (fun hg => LU.moveR (by exact Is.rfl')) rfl ?_
              refine QD.gT rfl rfl (fun hg => LU.at Try.underlying22 ⟨Try.sizeOf31, Try.isAgg31⟩ (by exact Is.whenE hg) (by exact Is.whenE hg) (by omega) (rEls_at hx) (by simp)) rfl ?_
              refine QD.gT rfl rfl (fun hg => LU.fieldP Try.underlying31 rfl ⟨Try.sizeOf9, Try.isAgg9⟩ (by decide) (by exact Is.whenE hg) (by (simp; done))) rfl ?_
              refine QD.gT rfl rfl (fun hg => LU.load ⟨Try.sizeOf9, Try.isAgg9⟩ (by exact Is.whenE hg) (by (simp; done)) (Part.one rfl)) rfl ?_
              refine QD.gT rfl rfl (fun hg => LU.strlenN Try.underlying9 (by exact Is.whenE hg)) rfl ?_
              refine QD.gT rfl rfl (fun hg => LU.moveR (by exact Is.rfl')) rfl ?_
              refine QD.gT rfl rfl (fun hg => LU.eql (by exact Is.whenE hg) (by exact Is.whenE hg)) rfl ?_
              refine QD.u (LU.pickAnd Is.rfl' (fun hq => (by exact Is.whenE hq)) Is.rfl') rfl ?_
              refine QD.u (LU.moveR Is.rfl') rfl ?_
              refine QD.gT rfl rfl (fun hg => LU.moveS (by exact Is.rfl')) rfl ?_
              refine QD.gT rfl rfl (fun hg => LU.moveR (by exact Is.rfl')) rfl ?_
              refine QD.gT rfl rfl (fun hg => LU.at Try.underlying22 ⟨Try.sizeOf31, Try.isAgg31⟩ (by exact Is.whenE hg) (by exact Is.whenE hg) (by omega) (rEls_at hx) (by simp)) rfl ?_
              refine QD.gT rfl rfl (fun hg => LU.fieldP Try.underlying31 rfl ⟨Try.sizeOf4, Try.isAgg4⟩ (by decide) (by exact Is.whenE hg) (by (simp; done))) rfl ?_
              refine QD.gT rfl rfl (fun hg => LU.load ⟨Try.sizeOf4, Try.isAgg4⟩ (by exact Is.whenE hg) (by (simp; done)) (Part.one rfl)) rfl ?_
              refine QD.u (LU.pickAnd Is.rfl' (fun hq => (by exact Is.whenE hq)) Is.rfl') rfl ?_
              refine QD.nil ?_
              refine LL.nil (after_code ?_)
              refine X.cond rfl (fun h14 => ?_) (fun h14 => ?_)
              · try have h14 := of_decide_eq_true h14
                refine LW.seq ?_
                refine LW.region ?_
                refine X.u (LU.assignR Is.rfl') rfl ?_
                refine LL.nil (after_code ?_)
                refine LW.ret (ret_blk (ret_code (ret_rnd (ret_blk (ret_code (after_end ?_))))))
                refine X.ret (H' := []) (Res.one (by exact IsR rfl)) (by repeat (first | exact HSub.refl _ | refine HSub.pick 0 rfl ?_ | refine HSub.pick 1 rfl ?_ | refine HSub.pick 2 rfl ?_ | refine HSub.pick 3 rfl ?_ | refine HSub.pick 4 rfl ?_ | refine HSub.drop ?_)) ?_
                exact ⟨by rw [hdm, List.any_eq_true.2 ⟨x, List.mem_of_getElem? hx, by rw [hfx]; exact h14⟩]; rfl, rfl⟩
              · try have h14 := of_decide_eq_false h14
                refine LW.skip (after_blk (after_code ?_))
                refine LW.region ?_
                refine X.u (LU.moveR Is.rfl') rfl ?_
                refine X.u (LU.addN Is.rfl' Is.rfl' (wrap_i64 (by omega) (by omega))) rfl ?_
                refine X.u (LU.assignR Is.rfl') rfl ?_
                refine LL.nil (after_rnd ?_)
                refine X.next (i + 1) rfl (EnvLe.cons (by rfl) (EnvLe.nil)) (Keeps.cons (by exact Eq.trans (b := .sl _ _ _) rfl rfl) (Keeps.cons (by exact Eq.trans (b := .raw _) rfl rfl) (Keeps.cons (by exact Eq.trans (b := .raw _) rfl rfl) (Keeps.cons (by exact Eq.trans (b := .raw _) rfl rfl) (Keeps.cons (by exact Eq.trans (b := .raw _) rfl rfl) (Keeps.cons (by exact Eq.trans (b := .raw _) rfl rfl) (Keeps.nil))))))) (by exact HSub.refl _) ?_ ?_
                · refine ⟨by omega, fun z hz => ?_⟩
                  rw [take_snoc hx] at hz
                  rcases List.mem_append.1 hz with h | h
                  · exact hall z h
                  · rw [List.mem_singleton.1 h]; exact h14
                · omega
            · try have h12 := of_decide_eq_false h12
              refine LW.exit (exit_code (exit_rnd (exit_blk (after_code ?_))))
              refine LW.seq ?_
              refine LW.region ?_
              refine X.u (LU.assignR Is.rfl') rfl ?_
              refine LL.nil (after_code ?_)
              refine LW.ret (after_end ?_)
              refine X.ret (H' := []) (Res.one (by exact IsR rfl)) (by repeat (first | exact HSub.refl _ | refine HSub.pick 0 rfl ?_ | refine HSub.pick 1 rfl ?_ | refine HSub.pick 2 rfl ?_ | refine HSub.pick 3 rfl ?_ | refine HSub.pick 4 rfl ?_ | refine HSub.drop ?_)) ?_
              exact ⟨by rw [hdm, List.any_eq_false.2 (fun z hz => by rw [hfx, hall z (by rw [List.take_of_length_le (by omega)]; exact hz)]; simp)]; rfl, rfl⟩
abbrev capF (a b c d : Nat) (l : List Rl) (k : Cap) (s : Sb) (ch : List UInt8) (right : Int) : List Atom := [.cells a 22 [Rls l k], .cells b 25 (sL s), .cells c 9 [Str ch], .cells d 3 [i64 right]]
set_option maxRecDepth 100000 in
theorem fil1_calls (p : List UInt8) (a b c d : Nat) (l : List Rl) (k : Cap) (s : Sb) (ch : List UInt8) (right : Int) (hl : LOk l) (hs : SbOk s) : LCalls Try.prog 54 ([Str p] ++ raws #[ptr a, ptr b, ptr c, ptr d].toList) (capF a b c d l k s ch right) (fun x H' => x = bl (decideB l s ch p right) ∧ H' = capF a b c d l k s ch right) := by
  refine LCalls.of Try.func54 rfl Try.ntmps54 Try.results54 rfl (fun Rf => ?_)
  refine LW.seq ?_
  refine LW.region ?_
  refine X.u (LU.assignR Is.rfl') rfl ?_
  refine LL.nil (after_code ?_)
  refine LW.seq ?_
  refine LW.region ?_
  refine X.u (LU.loadO 0 rfl ⟨Try.sizeOf22, Try.isAgg22⟩ Is.rfl' (Part.one rfl)) rfl ?_
  refine X.u (LU.loadO 1 rfl ⟨Try.sizeOf25, Try.isAgg25⟩ Is.rfl' (Part.whole (by (simp; done)))) rfl ?_
  refine X.u (LU.loadO 2 rfl ⟨Try.sizeOf9, Try.isAgg9⟩ Is.rfl' (Part.one rfl)) rfl ?_
  refine X.u (LU.moveR Is.rfl') rfl ?_
  refine X.u (LU.loadO 3 rfl ⟨Try.sizeOf3, Try.isAgg3⟩ Is.rfl' (Part.one rfl)) rfl ?_
  refine X.u (LU.call (decide_calls l k s ch p right hl hs) Try.func49 rfl rfl (Opds.cons Is.rfl' (Opds.cons Is.rfl' (Opds.cons Is.rfl' (Opds.cons Is.rfl' (Opds.cons Is.rfl' Opds.nil)))))) rfl ?_
  refine X.u (LU.assignR Is.rfl') rfl ?_
  refine LL.nil (after_code ?_)
  refine LW.ret (after_end ?_)
  refine X.ret (H' := capF a b c d l k s ch right) (Res.one (by exact IsR rfl)) (by exact HSub.refl _) ?_
  exact ⟨rfl, rfl⟩
def filterB (l : List Rl) (s : Sb) (ch : List UInt8) (ps : List (List UInt8)) (right : Int) : List (List UInt8) := ps.filter (fun p => decideB l s ch p right)
set_option maxRecDepth 100000 in
theorem filter_calls (l : List Rl) (k : Cap) (s : Sb) (ch : List UInt8) (ps : List (List UInt8)) (kp : Cap) (right : Int) (hl : LOk l) (hs : SbOk s) (hp : ps.length * 16 ≤ reachBytes) : LCalls Try.prog 24 [Rls l k, .agg (sL s), Str ch, Strs ps kp, i64 right] [] (fun x H' => x = Strs (filterB l s ch ps right) .unk ∧ H' = []) := by
  refine LCalls.of Try.func24 rfl Try.ntmps24 Try.results24 rfl (fun Rf => ?_)
  refine LW.seq ?_
  refine LW.region ?_
  refine X.act (X.box rfl Is.rfl' (by exact Cells.sl) (fun b5 => ?_))
  refine X.act (X.box rfl Is.rfl' (by exact Cells.agg) (fun b6 => ?_))
  refine X.act (X.box rfl Is.rfl' (by exact Cells.raw rfl) (fun b7 => ?_))
  refine X.act (X.box rfl Is.rfl' (by exact Cells.raw rfl) (fun b9 => ?_))
  refine X.u (LU.assign (Is.nil 1)) rfl ?_
  refine LL.nil (after_code ?_)
  refine LW.seq ?_
  refine LW.region ?_
  refine X.u (LU.moveS Is.rfl') rfl ?_
  refine X.u (LU.closure (vs := [_, _, _, _]) (Opds.cons Is.rfl' (Opds.cons Is.rfl' (Opds.cons Is.rfl' (Opds.cons Is.rfl' Opds.nil))))) rfl ?_
  refine X.act (X.call (pickeds_calls ps kp 54 _ #[ptr b5, ptr b6, ptr b7, ptr b9] (capF b5 b6 b7 b9 l k s ch right) (fun p => decideB l s ch p right) hp Try.func54 rfl rfl (fun p _ => fil1_calls p b5 b6 b7 b9 l k s ch right hl hs)) Try.func53 rfl rfl rfl (by (refine HSub.pick 3 rfl ?_); (refine HSub.pick 2 rfl ?_); (refine HSub.pick 1 rfl ?_); (refine HSub.pick 0 rfl ?_); exact HSub.refl _) (Opds.cons Is.rfl' (Opds.cons Is.rfl' Opds.nil)) ?_)
  rintro r H' ⟨rfl, rfl⟩
  refine X.u (LU.assignS Is.rfl') rfl ?_
  refine LL.nil (after_code ?_)
  refine LW.ret (after_end ?_)
  refine X.ret (H' := []) (Res.one (by exact IsS rfl)) (by repeat (first | exact HSub.refl _ | refine HSub.pick 0 rfl ?_ | refine HSub.pick 1 rfl ?_ | refine HSub.pick 2 rfl ?_ | refine HSub.pick 3 rfl ?_ | refine HSub.pick 4 rfl ?_ | refine HSub.drop ?_)) ?_
  exact ⟨rfl, rfl⟩
set_option maxRecDepth 100000 in
theorem all_calls (l : List Rl) (k : Cap) (s : Sb) (ch : List UInt8) (ps : List (List UInt8)) (kp : Cap) (right : Int) (hl : LOk l) (hs : SbOk s) (hp : ps.length * 16 ≤ reachBytes) : LCalls Try.prog 27 [Rls l k, .agg (sL s), Str ch, Strs ps kp, i64 right] [] (fun x H' => x = bl (decide (((filterB l s ch ps right).length : Int) = ps.length)) ∧ H' = []) := by
  refine LCalls.of Try.func27 rfl Try.ntmps27 Try.results27 rfl (fun Rf => ?_)
  refine LW.seq ?_
  refine LW.region ?_
  refine X.act (X.box rfl Is.rfl' (by exact Cells.agg) (fun b6 => ?_))
  refine X.u (LU.assignR Is.rfl') rfl ?_
  refine LL.nil (after_code ?_)
  refine LW.seq ?_
  refine LW.region ?_
  refine X.u (LU.moveS Is.rfl') rfl ?_
  refine X.u (LU.loadO 0 rfl ⟨Try.sizeOf25, Try.isAgg25⟩ Is.rfl' (Part.whole (by (simp; done)))) rfl ?_
  refine X.u (LU.moveR Is.rfl') rfl ?_
  refine X.u (LU.moveS Is.rfl') rfl ?_
  refine X.u (LU.moveR Is.rfl') rfl ?_
  refine X.u (LU.call (filter_calls l k s ch ps kp right hl hs hp) Try.func24 rfl rfl (Opds.cons Is.rfl' (Opds.cons Is.rfl' (Opds.cons Is.rfl' (Opds.cons Is.rfl' (Opds.cons Is.rfl' Opds.nil)))))) rfl ?_
  refine X.u (LU.lenN Try.underlying23 Is.rfl' (by (simp only [Option.getD_some, Option.getD_none, byteEls_length, intEls_length, List.length_append, List.length_cons, List.length_nil, List.length_map, List.length_drop, List.length_take, Int.toNat_natCast]; rfl))) rfl ?_
  refine X.u (LU.moveS Is.rfl') rfl ?_
  refine X.u (LU.lenN Try.underlying23 Is.rfl' (by (simp only [Option.getD_some, Option.getD_none, byteEls_length, intEls_length, List.length_append, List.length_cons, List.length_nil, List.length_map, List.length_drop, List.length_take, Int.toNat_natCast]; rfl))) rfl ?_
  refine X.u (LU.eql Is.rfl' Is.rfl') rfl ?_
  refine X.u (LU.assignR Is.rfl') rfl ?_
  refine LL.nil (after_code ?_)
  refine LW.ret (after_end ?_)
  refine X.ret (H' := []) (Res.one (by exact IsR rfl)) (by repeat (first | exact HSub.refl _ | refine HSub.pick 0 rfl ?_ | refine HSub.pick 1 rfl ?_ | refine HSub.pick 2 rfl ?_ | refine HSub.pick 3 rfl ?_ | refine HSub.pick 4 rfl ?_ | refine HSub.drop ?_)) ?_
  exact ⟨by simp, rfl⟩
set_option maxRecDepth 100000 in
theorem rfilter_calls (l : List Rl) (k : Cap) (s : Sb) (ch : List UInt8) (ps : List (List UInt8)) (kp : Cap) (right : Int) (hl : LOk l) (hs : SbOk s) (hp : ps.length * 16 ≤ reachBytes) : LCalls Try.prog 26 [Rls l k, .agg (sL s), Str ch, Strs ps kp, i64 right] [] (fun x H' => x = Strs (filterB l s ch ps right) .unk ∧ H' = []) := by
  have hrl := reach_lt
  refine LCalls.of Try.func26 rfl Try.ntmps26 Try.results26 rfl (fun Rf => ?_)
  refine LW.seq ?_
  refine LW.region ?_
  refine X.act (X.box rfl Is.rfl' (by exact Cells.agg) (fun b6 => ?_))
  refine X.u (LU.assign (Is.nil 1)) rfl ?_
  refine LL.nil (after_code ?_)
  refine LW.seq ?_
  refine LW.region ?_
  refine X.u (LU.assign (Is.nil 1)) rfl ?_
  refine LL.nil (after_code ?_)
  refine LW.seq ?_
  refine LW.seq ?_
  refine LW.region ?_
  refine X.u (LU.assignR Is.rfl') rfl ?_
  refine LL.nil (after_code ?_)
  refine LW.block ?_
  refine X.wghost (HSub.tail0 0 0 0 (Nat.le_refl _) _) ?_
  refine X.wweak (t := 11) (v := Strs [] (.tok 0 0 0)) (Is.full_tok 0 0) ?_
  refine X.loopK (α := Nat × List (List UInt8) × Nat × Nat × Nat) (fun ⟨i, acc, tb, to, tc⟩ => [(12, i64 i), (11, Strs acc (.tok tb to tc))]) [0, 2, 3, 4, 6, 10] (fun ⟨i, acc, tb, to, tc⟩ => .tail tb to tc :: .cells b6 25 (sL s) :: Rf) (fun ⟨i, acc, tb, to, tc⟩ => i ≤ ps.length ∧ acc = (ps.take i).filter (fun p => decideB l s ch p right)) (fun ⟨i, acc, tb, to, tc⟩ => ps.length - i) ((0, [], 0, 0, 0)) (EnvLe.cons (by rfl) (EnvLe.cons (by rfl) (EnvLe.nil))) (by exact HSub.refl _) ?_ ?_
  · exact ⟨Nat.zero_le _, by simp⟩
  · rintro ⟨i, acc, tb, to, tc⟩ hI
    obtain ⟨hk, hacc⟩ := hI
    refine LW.seq ?_
    refine LW.seq ?_
    refine LW.region ?_
    refine X.u (LU.moveR Is.rfl') rfl ?_
    refine X.u (LU.moveS Is.rfl') rfl ?_
    refine X.u (LU.lenN Try.underlying23 Is.rfl' (by (simp only [Option.getD_some, Option.getD_none, byteEls_length, intEls_length, List.length_append, List.length_cons, List.length_nil, List.length_map, List.length_drop, List.length_take, Int.toNat_natCast]; rfl))) rfl ?_
    refine X.u (LU.lss Is.rfl' Is.rfl') rfl ?_
    refine LL.nil (after_code ?_)
    refine X.cond rfl (fun h3 => ?_) (fun h3 => ?_)
    · try have h3 := of_decide_eq_true h3
      refine LW.skip (after_code ?_)
      refine LW.seq ?_
      refine LW.block ?_
      refine LW.seq ?_
      obtain ⟨x, hx⟩ := at_lt (show i < ps.length by omega)
      have hal : acc.length ≤ ps.length := hacc ▸ filter_take_le ps i _
      refine X.drawM 9 rfl (by kernel_rfl) rfl ?_
      refine QD.u (LU.moveS Is.rfl') rfl ?_
      refine QD.u (LU.loadO 1 rfl ⟨Try.sizeOf25, Try.isAgg25⟩ Is.rfl' (Part.whole (by (simp; done)))) rfl ?_
      refine QD.u (LU.moveR Is.rfl') rfl ?_
      refine QD.u (LU.moveS Is.rfl') rfl ?_
      refine QD.u (LU.moveR Is.rfl') rfl ?_
      refine QD.u (LU.at Try.underlying23 ⟨Try.sizeOf9, Try.isAgg9⟩ Is.rfl' Is.rfl' (by omega) ((show (strEls ps)[(i : Int).toNat]? = some [Str x] by rw [Int.toNat_natCast, strEls, List.getElem?_map, hx]; rfl)) (by simp)) rfl ?_
      refine QD.u (LU.load ⟨Try.sizeOf9, Try.isAgg9⟩ Is.rfl' (by (simp; done)) (Part.one rfl)) rfl ?_
      refine QD.u (LU.moveR Is.rfl') rfl ?_
      refine QD.u (LU.call (rdecide_calls l k s ch _ right hl hs) Try.func21 rfl rfl (Opds.cons Is.rfl' (Opds.cons Is.rfl' (Opds.cons Is.rfl' (Opds.cons Is.rfl' (Opds.cons Is.rfl' Opds.nil)))))) rfl ?_
      refine QD.nil ?_
      refine LL.nil (after_code ?_)
      refine X.cond rfl (fun h5 => ?_) (fun h5 => ?_)
      · try have h5 := of_decide_eq_true h5
        refine LW.region ?_
        refine X.u (LU.moveS Is.rfl') rfl ?_
        refine X.u (LU.moveS Is.rfl') rfl ?_
        refine X.u (LU.moveR Is.rfl') rfl ?_
        refine X.u (LU.at Try.underlying23 ⟨Try.sizeOf9, Try.isAgg9⟩ Is.rfl' Is.rfl' (by omega) ((show (strEls ps)[(i : Int).toNat]? = some [Str x] by rw [Int.toNat_natCast, strEls, List.getElem?_map, hx]; rfl)) (by simp)) rfl ?_
        refine X.u (LU.load ⟨Try.sizeOf9, Try.isAgg9⟩ Is.rfl' (by (simp; done)) (Part.one rfl)) rfl ?_
        refine X.u (LU.lits Try.underlying23 Try.sizeOf9 Try.zeroValue9 (ones rfl) rfl (by decide) (by decide) (Elems.cons Is.rfl' (by exact Cells.raw rfl) Elems.nil) (by simp) rfl) rfl ?_
        refine X.act (X.append 0 rfl rfl Try.underlying23 (El.of (P := Try.prog) (z := (.string ByteArray.empty)) (size := 1) (bytes := 16) rfl rfl rfl) Is.rfl' Is.rfl' (SrcL.slice Try.underlying23 (by decide) (by (intro e he; simp [chunks] at he; simp [he]; done))) (by simp only [Option.getD_some, Option.getD_none, byteEls_length, intEls_length, List.length_append, List.length_cons, List.length_nil, List.length_map, List.length_drop, List.length_take, Int.toNat_natCast]; omega) (by simp only [Option.getD_some, Option.getD_none, byteEls_length, intEls_length, List.length_append, List.length_cons, List.length_nil, List.length_map, List.length_drop, List.length_take, Int.toNat_natCast]; omega) (fun b34 o34 c34 => X.weak (t := 34) (Is.of (y := Strs (acc ++ [x]) (.tok b34 o34 c34)) (congrArg (fun z => LV.sl 1 z (.tok b34 o34 c34)) (strEls_snoc acc x))) ?_))
        refine X.u (LU.assignS Is.rfl') rfl ?_
        refine LL.nil (after_blk (after_code ?_))
        refine LW.region ?_
        refine X.u (LU.moveR Is.rfl') rfl ?_
        refine X.u (LU.addN Is.rfl' Is.rfl' (wrap_i64 (by omega) (by omega))) rfl ?_
        refine X.u (LU.assignR Is.rfl') rfl ?_
        refine LL.nil (after_rnd ?_)
        refine X.next ((i + 1, acc ++ [x], b34, o34, c34)) rfl (EnvLe.cons (by rfl) (EnvLe.cons (by rfl) (EnvLe.nil))) (Keeps.cons (by exact Eq.trans (b := .sl _ _ _) rfl rfl) (Keeps.cons (by exact Eq.trans (b := .raw _) rfl rfl) (Keeps.cons (by exact Eq.trans (b := .sl _ _ _) rfl rfl) (Keeps.cons (by exact Eq.trans (b := .raw _) rfl rfl) (Keeps.cons (by exact Eq.trans (b := .raw _) rfl rfl) (Keeps.cons (by exact Eq.trans (b := .sl _ _ _) rfl rfl) (Keeps.nil))))))) (by exact HSub.refl _) ?_ ?_
        · exact ⟨by omega, by rw [filter_hit hx h5, hacc]⟩
        · (simp; omega)
      · try have h5 := of_decide_eq_false h5
        refine LW.skip (after_blk (after_code ?_))
        refine LW.region ?_
        refine X.u (LU.moveR Is.rfl') rfl ?_
        refine X.u (LU.addN Is.rfl' Is.rfl' (wrap_i64 (by omega) (by omega))) rfl ?_
        refine X.u (LU.assignR Is.rfl') rfl ?_
        refine LL.nil (after_rnd ?_)
        refine X.next ((i + 1, acc, tb, to, tc)) rfl (EnvLe.cons (by rfl) (EnvLe.cons (by rfl) (EnvLe.nil))) (Keeps.cons (by exact Eq.trans (b := .sl _ _ _) rfl rfl) (Keeps.cons (by exact Eq.trans (b := .raw _) rfl rfl) (Keeps.cons (by exact Eq.trans (b := .sl _ _ _) rfl rfl) (Keeps.cons (by exact Eq.trans (b := .raw _) rfl rfl) (Keeps.cons (by exact Eq.trans (b := .raw _) rfl rfl) (Keeps.cons (by exact Eq.trans (b := .sl _ _ _) rfl rfl) (Keeps.nil))))))) (by exact HSub.refl _) ?_ ?_
        · exact ⟨by omega, by rw [filter_miss hx h5]; exact hacc⟩
        · (simp; omega)
    · try have h3 := of_decide_eq_false h3
      have hi : i = ps.length := by omega
      refine LW.exit (exit_code (exit_rnd (exit_blk (after_code ?_))))
      refine LW.seq ?_
      refine LW.region ?_
      refine X.u (LU.moveS Is.rfl') rfl ?_
      refine X.u (LU.assignS Is.rfl') rfl ?_
      refine LL.nil (after_code ?_)
      refine LW.ret (after_end ?_)
      refine X.ret (H' := []) (Res.one (by exact IsS rfl)) (by repeat (first | exact HSub.refl _ | refine HSub.pick 0 rfl ?_ | refine HSub.pick 1 rfl ?_ | refine HSub.pick 2 rfl ?_ | refine HSub.pick 3 rfl ?_ | refine HSub.pick 4 rfl ?_ | refine HSub.drop ?_)) ?_
      exact ⟨by rw [hacc, hi, List.take_length]; rfl, rfl⟩
theorem eq_take {a b : List (List UInt8)} {i : Nat} {x y : List UInt8} (ha : a[i]? = some x) (hb : b[i]? = some y) (ht : a.take i = b.take i) (h : x = y) : a.take (i + 1) = b.take (i + 1) := by
  rw [take_snoc ha, take_snoc hb, ht, h]
set_option maxRecDepth 100000 in
theorem texts_calls (a b : List (List UInt8)) (ka kb : Cap) (ha : a.length * 16 ≤ reachBytes) : LCalls Try.prog 25 [Strs a ka, Strs b kb] [] (fun x H' => x = bl (decide (a = b)) ∧ H' = []) := by
  have hrl := reach_lt
  refine LCalls.of Try.func25 rfl Try.ntmps25 Try.results25 rfl (fun Rf => ?_)
  refine LW.seq ?_
  refine LW.region ?_
  refine X.u (LU.assignR Is.rfl') rfl ?_
  refine LL.nil (after_code ?_)
  refine LW.seq ?_
  refine LW.seq ?_
  refine LW.region ?_
  refine X.u (LU.moveS Is.rfl') rfl ?_
  refine X.u (LU.lenN Try.underlying23 Is.rfl' (by (simp only [Option.getD_some, Option.getD_none, byteEls_length, intEls_length, List.length_append, List.length_cons, List.length_nil, List.length_map, List.length_drop, List.length_take, Int.toNat_natCast]; rfl))) rfl ?_
  refine X.u (LU.moveS Is.rfl') rfl ?_
  refine X.u (LU.lenN Try.underlying23 Is.rfl' (by (simp only [Option.getD_some, Option.getD_none, byteEls_length, intEls_length, List.length_append, List.length_cons, List.length_nil, List.length_map, List.length_drop, List.length_take, Int.toNat_natCast]; rfl))) rfl ?_
  refine X.u (LU.neq Is.rfl' Is.rfl') rfl ?_
  refine LL.nil (after_code ?_)
  refine X.cond rfl (fun h1 => ?_) (fun h1 => ?_)
  · have h1 : a.length ≠ b.length := by simp at h1; omega
    refine LW.seq ?_
    refine LW.region ?_
    refine X.u (LU.assignR Is.rfl') rfl ?_
    refine LL.nil (after_code ?_)
    refine LW.ret (ret_code (after_end ?_))
    refine X.ret (H' := []) (Res.one (by exact IsR rfl)) (by exact HSub.refl _) ?_
    exact ⟨by rw [decide_eq_false (fun h => h1 (by rw [h]))], rfl⟩
  · have h1 : a.length = b.length := by simp at h1; omega
    refine LW.skip (after_code ?_)
    refine LW.seq ?_
    refine LW.seq ?_
    refine LW.region ?_
    refine X.u (LU.assignR Is.rfl') rfl ?_
    refine LL.nil (after_code ?_)
    refine LW.block ?_
    refine X.loopK (α := Nat) (fun i => [(5, i64 i)]) [0, 1] (fun _ => _) (fun i => i ≤ a.length ∧ a.take i = b.take i) (fun i => a.length - i) (0) (EnvLe.cons (by rfl) (EnvLe.nil)) (HSub.refl _) ?_ ?_
    · exact ⟨Nat.zero_le _, by simp⟩
    · rintro i hI
      obtain ⟨hk, htk⟩ := hI
      refine LW.seq ?_
      refine LW.seq ?_
      refine LW.region ?_
      refine X.u (LU.moveR Is.rfl') rfl ?_
      refine X.u (LU.moveS Is.rfl') rfl ?_
      refine X.u (LU.lenN Try.underlying23 Is.rfl' (by (simp only [Option.getD_some, Option.getD_none, byteEls_length, intEls_length, List.length_append, List.length_cons, List.length_nil, List.length_map, List.length_drop, List.length_take, Int.toNat_natCast]; rfl))) rfl ?_
      refine X.u (LU.lss Is.rfl' Is.rfl') rfl ?_
      refine LL.nil (after_code ?_)
      refine X.cond rfl (fun h4 => ?_) (fun h4 => ?_)
      · try have h4 := of_decide_eq_true h4
        refine LW.skip (after_code ?_)
        refine LW.seq ?_
        refine LW.block ?_
        refine LW.seq ?_
        obtain ⟨x, hx⟩ := at_lt (show i < a.length by omega)
        obtain ⟨y, hy⟩ := at_lt (show i < b.length by omega)
        refine X.drawM 9 rfl (by kernel_rfl) rfl ?_
        refine QD.u (LU.moveS Is.rfl') rfl ?_
        refine QD.u (LU.moveR Is.rfl') rfl ?_
        refine QD.u (LU.at Try.underlying23 ⟨Try.sizeOf9, Try.isAgg9⟩ Is.rfl' Is.rfl' (by omega) ((show (strEls a)[(i : Int).toNat]? = some [Str x] by rw [Int.toNat_natCast, strEls, List.getElem?_map, hx]; rfl)) (by simp)) rfl ?_
        refine QD.u (LU.load ⟨Try.sizeOf9, Try.isAgg9⟩ Is.rfl' (by (simp; done)) (Part.one rfl)) rfl ?_
        refine QD.u (LU.moveS Is.rfl') rfl ?_
        refine QD.u (LU.moveR Is.rfl') rfl ?_
        refine QD.u (LU.at Try.underlying23 ⟨Try.sizeOf9, Try.isAgg9⟩ Is.rfl' Is.rfl' (by omega) ((show (strEls b)[(i : Int).toNat]? = some [Str y] by rw [Int.toNat_natCast, strEls, List.getElem?_map, hy]; rfl)) (by simp)) rfl ?_
        refine QD.u (LU.load ⟨Try.sizeOf9, Try.isAgg9⟩ Is.rfl' (by (simp; done)) (Part.one rfl)) rfl ?_
        refine QD.u (LU.strneN Is.rfl' Is.rfl') rfl ?_
        refine QD.nil ?_
        refine LL.nil (after_code ?_)
        refine X.cond rfl (fun h6 => ?_) (fun h6 => ?_)
        · try have h6 := of_decide_eq_true h6
          refine LW.seq ?_
          refine LW.region ?_
          refine X.u (LU.assignR Is.rfl') rfl ?_
          refine LL.nil (after_code ?_)
          refine LW.ret (ret_blk (ret_code (ret_rnd (ret_blk (ret_code (after_end ?_))))))
          refine X.ret (H' := []) (Res.one (by exact IsR rfl)) (by exact HSub.refl _) ?_
          exact ⟨by rw [decide_eq_false (fun h => by rw [h, hy] at hx; exact absurd (Option.some.inj hx).symm (by simpa using h6))], rfl⟩
        · try have h6 := of_decide_eq_false h6
          refine LW.skip (after_blk (after_code ?_))
          refine LW.region ?_
          refine X.u (LU.moveR Is.rfl') rfl ?_
          refine X.u (LU.addN Is.rfl' Is.rfl' (wrap_i64 (by omega) (by omega))) rfl ?_
          refine X.u (LU.assignR Is.rfl') rfl ?_
          refine LL.nil (after_rnd ?_)
          refine X.next (i + 1) rfl (EnvLe.cons (by rfl) (EnvLe.nil)) (Keeps.cons (by exact Eq.trans (b := .sl _ _ _) rfl rfl) (Keeps.cons (by exact Eq.trans (b := .sl _ _ _) rfl rfl) (Keeps.nil))) (HSub.refl _) ?_ ?_
          · exact ⟨by omega, eq_take hx hy htk (by simpa using h6)⟩
          · omega
      · try have h4 := of_decide_eq_false h4
        refine LW.exit (exit_code (exit_rnd (exit_blk (after_code ?_))))
        refine LW.seq ?_
        refine LW.region ?_
        refine X.u (LU.assignR Is.rfl') rfl ?_
        refine LL.nil (after_code ?_)
        refine LW.ret (after_end ?_)
        refine X.ret (H' := []) (Res.one (by exact IsR rfl)) (by exact HSub.refl _) ?_
        exact ⟨by rw [decide_eq_true (by rw [List.take_of_length_le (by omega), List.take_of_length_le (by omega)] at htk; exact htk)], rfl⟩
end Go.Proofs.Ythifbkddfjohbaa
