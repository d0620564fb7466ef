/- The document's Above, ready. -/
import Derived.Test.YtmaeepckfbnpjaaDpX
set_option linter.unusedVariables false
set_option linter.unusedSimpArgs false
namespace Go.Proofs.Ytmaeepckfbnpjaa
open Go.RowKit Go.L Go.Lib
attribute [local irreducible] LL LW LO
theorem sortU_nodup (l : List Hs) : (sortU l).Nodup := by unfold sortU; exact (sortH_perm _).nodup_iff.2 (uniq_nodup l)
theorem Just.nodup {a : List Hs} {S : Hs → Prop} (h : Just a S) : a.Nodup := by rw [h.1]; exact sortU_nodup a
theorem IsN.len {l : List It} {h : Hs} {ks : List Hs} (hk : IsN l h ks) : ks.length ≤ totalD l := by
  by_cases c : 256 < l.length
  · rw [hk.1 c]; exact Nat.zero_le _
  · have hj := hk.2 (by omega)
    rw [← allD_len]
    exact (nodup_len hj.nodup fun x hx => by obtain ⟨y, hy⟩ := ((hj.2 x).1 hx).last; exact depsOf_all hy).1
theorem rch_name {l : List It} {h x : Hs} (hx : Rch (depsOf l) x h) : x ∈ names l := by
  obtain ⟨y, hy⟩ := (rch_by.2 hx).last
  obtain ⟨z, a, b, _⟩ := depsOf_mem.1 (byOf_mem.1 hy)
  exact List.mem_map.2 ⟨z, a, b⟩
theorem IsA.len {l : List It} {h : Hs} {ks : List Hs} (hk : IsA l h ks) : ks.length ≤ l.length := by
  by_cases c : 256 < l.length
  · rw [hk.1 c]; exact Nat.zero_le _
  · have hj := hk.2 (by omega)
    have := (nodup_len (l := names l) hj.nodup fun x hx => rch_name ((hj.2 x).1 hx)).1
    rwa [List.length_map] at this
set_option maxHeartbeats 2000000 in
set_option maxRecDepth 100000 in
theorem rabove_calls (l : List It) (h : Hs) (ks0 : List Hs) (k : Cap) (hl : l.length < 140737488355328) (hd : totalD l ≤ 400000) (hks : IsA l h ks0) : LCalls Try.prog 17 [.sl 33 (its l) k, .agg (hsL h)] [] (fun r H' => r = .sl 32 (hss ks0) .unk ∧ H' = []) := by
  have hx2 : h.1.length = 32 := h.2
  refine LCalls.of Try.func17 rfl Try.ntmps17 Try.results17 rfl (fun Rf => ?_)
  refine LW.seq ?_
  refine LW.region ?_
  refine X.act (X.box rfl Is.rfl' (by exact Cells.agg) (fun b3 => ?_))
  refine X.u (LU.assign (Is.nil 32)) rfl ?_
  refine LL.nil (after_code ?_)
  refine LW.seq ?_
  refine LW.seq ?_
  refine LW.region ?_
  refine X.u (LU.moveS Is.rfl') rfl ?_
  refine X.u (LU.lenN Try.underlying22 Is.rfl' (by (simp only [Option.getD_some, Option.getD_none, byteEls_length, intEls_length, List.length_append, List.length_cons, List.length_nil, List.length_map, List.length_drop, List.length_take, Int.toNat_natCast]; rfl))) rfl ?_
  refine X.u (LU.gtr Is.rfl' Is.rfl') rfl ?_
  refine LL.nil (after_code ?_)
  refine X.cond rfl (fun h1 => ?_) (fun h1 => ?_)
  · have h1 : 256 < l.length := by have := of_decide_eq_true h1; omega
    refine LW.seq ?_
    refine LW.region ?_
    refine X.u (LU.assign (Is.nil 32)) rfl ?_
    refine LL.nil (after_code ?_)
    refine LW.ret (ret_code (after_end ?_))
    refine X.ret (H' := []) (Res.one Is.unk) (by repeat (first | exact HSub.refl _ | refine HSub.drop ?_)) ?_
    refine ⟨?_, rfl⟩
    rw [hks.1 h1]; rfl
  · have h1 : ¬ 256 < l.length := by have := of_decide_eq_false h1; omega
    refine LW.skip (after_code ?_)
    refine LW.seq ?_
    refine LW.region ?_
    refine X.u (LU.assign (Is.nil 32)) rfl ?_
    refine LL.nil (after_code ?_)
    refine LW.seq ?_
    refine LW.seq ?_
    refine LW.region ?_
    refine X.u (LU.assignR Is.rfl') rfl ?_
    refine LL.nil (after_code ?_)
    refine LW.block ?_
    refine X.wweak (t := 5) (v := .sl 32 (hss []) .unk) Is.unk ?_
    refine X.loopK (α := Nat × List Hs × List Hs) (fun ⟨i, ks, out⟩ => [(6, i64 i), (5, .sl 32 (hss out) .unk)]) [0, 3, 4] (fun ⟨i, ks, out⟩ => .cells b3 34 (hsL h) :: Rf) (fun ⟨i, ks, out⟩ => i ≤ l.length ∧ out = sortU ks ∧ (∀ y, y ∈ ks ↔ y ∈ names (l.take i) ∧ Rch (depsOf l) y h) ∧ ks.length ≤ i) (fun ⟨i, ks, out⟩ => l.length - i) ((0, [], [])) (EnvLe.cons (by rfl) (EnvLe.cons (by rfl) (EnvLe.nil))) (by repeat (exact HSub.refl _)) ?_ ?_
    · exact ⟨Nat.zero_le _, sortU_nil.symm, (fun y => by simp), Nat.le_refl _⟩
    · rintro ⟨i, ks, out⟩ hI
      obtain ⟨hi, ho, hkm, hkl⟩ := hI
      refine LW.seq ?_
      refine LW.seq ?_
      refine LW.region ?_
      refine X.u (LU.moveR Is.rfl') rfl ?_
      refine X.u (LU.moveS Is.rfl') rfl ?_
      refine X.u (LU.lenN Try.underlying22 Is.rfl' (by (simp only [Option.getD_some, Option.getD_none, byteEls_length, intEls_length, List.length_append, List.length_cons, List.length_nil, List.length_map, List.length_drop, List.length_take, Int.toNat_natCast]; rfl))) rfl ?_
      refine X.u (LU.lss Is.rfl' Is.rfl') rfl ?_
      refine LL.nil (after_code ?_)
      refine X.cond rfl (fun h5 => ?_) (fun h5 => ?_)
      · try have h5 := of_decide_eq_true h5
        refine LW.skip (after_code ?_)
        refine LW.seq ?_
        refine LW.block ?_
        refine LW.seq ?_
        obtain ⟨x, hx⟩ := at_lt (show i < l.length by omega)
        have hxl := it_len x
        have hxn : x.name.1.length = 32 := x.name.2
        have hsn : names (l.take (i + 1)) = names (l.take i) ++ [x.name] := by rw [take_snoc hx]; exact List.map_append ..
        obtain ⟨nx, hnx⟩ := isN_ex l x.name
        have hnl := hnx.len
        have hin : h ∈ nx ↔ Rch (depsOf l) x.name h := (hnx.2 (by omega)).2 h
        have hol : out.length ≤ 1000000 := by
          rw [ho]
          have := sortU_len ks
          omega
        refine X.drawM 10 rfl (by kernel_rfl) rfl ?_
        refine QD.u (LU.moveS Is.rfl') rfl ?_
        refine QD.u (LU.moveS Is.rfl') rfl ?_
        refine QD.u (LU.moveR Is.rfl') rfl ?_
        refine QD.u (LU.at Try.underlying22 ⟨Try.sizeOf36, Try.isAgg36⟩ Is.rfl' Is.rfl' (by omega) (its_at hx) (it_ne x)) rfl ?_
        refine QD.u (LU.fieldP Try.underlying36 rfl ⟨Try.sizeOf34, Try.isAgg34⟩ (by decide) Is.rfl' (by (simp; omega))) rfl ?_
        refine QD.u (LU.weak (LU.load ⟨Try.sizeOf34, Try.isAgg34⟩ Is.rfl' (by (simp; omega)) (Part.whole (by (simp; omega)))) (Is.of (y := .agg (hsL x.name)) (congrArg LV.agg (it_name x)))) rfl ?_
        refine QD.u (LU.call (rneeds_calls l x.name nx _ hl hd hnx) Try.func15 rfl rfl (Opds.cons Is.rfl' (Opds.cons Is.rfl' Opds.nil))) rfl ?_
        refine QD.u (LU.weak (LU.loadO 0 rfl ⟨Try.sizeOf34, Try.isAgg34⟩ Is.rfl' (Part.sub (by (simp; omega)))) (Is.of (y := .agg (hsL h)) (hs_whole h))) rfl ?_
        refine QD.u (LU.call (place_calls nx h .unk (by omega)) Try.func22 rfl rfl (Opds.cons Is.rfl' (Opds.cons Is.rfl' Opds.nil))) rfl ?_
        refine QD.u (LU.geq Is.rfl' Is.rfl') rfl ?_
        refine QD.nil ?_
        refine LL.nil (after_code ?_)
        refine X.cond rfl (fun h7 => ?_) (fun h7 => ?_)
        · have h7 : h ∈ nx := Classical.not_not.1 (fun c => by have := of_decide_eq_true h7; have := placeS_neg.2 c; omega)
          have hd0 : (0 : Nat) = 0 := rfl
          refine LW.region ?_
          refine X.u (LU.moveS Is.rfl') rfl ?_
          refine X.u (LU.moveS Is.rfl') rfl ?_
          refine X.u (LU.moveR Is.rfl') rfl ?_
          refine X.u (LU.at Try.underlying22 ⟨Try.sizeOf36, Try.isAgg36⟩ Is.rfl' Is.rfl' (by omega) (its_at hx) (it_ne x)) rfl ?_
          refine X.u (LU.fieldP Try.underlying36 rfl ⟨Try.sizeOf34, Try.isAgg34⟩ (by decide) Is.rfl' (by (simp; omega))) rfl ?_
          refine X.u (LU.weak (LU.load ⟨Try.sizeOf34, Try.isAgg34⟩ Is.rfl' (by (simp; omega)) (Part.whole (by (simp; omega)))) (Is.of (y := .agg (hsL x.name)) (congrArg LV.agg (it_name x)))) rfl ?_
          refine X.u (LU.call (with_calls out x.name .unk hol) Try.func31 rfl rfl (Opds.cons Is.rfl' (Opds.cons Is.rfl' Opds.nil))) rfl ?_
          refine X.u (LU.assignS Is.rfl') rfl ?_
          refine LL.nil (after_blk (after_code ?_))
          refine LW.region ?_
          refine X.u (LU.moveR Is.rfl') rfl ?_
          refine X.u (LU.addN Is.rfl' Is.rfl' (wrap_i64 (by omega) (by omega))) rfl ?_
          refine X.u (LU.assignR Is.rfl') rfl ?_
          refine LL.nil (after_rnd ?_)
          refine X.next ((i + 1, ks ++ [x.name], withS out x.name)) rfl (EnvLe.cons (by rfl) (EnvLe.cons (by rfl) (EnvLe.nil))) (Keeps.cons (by exact Eq.trans (b := .sl _ _ _) rfl rfl) (Keeps.cons (by exact Eq.trans (b := .raw _) rfl rfl) (Keeps.cons (by exact Eq.trans (b := .sl _ _ _) rfl rfl) (Keeps.nil)))) (by repeat (exact HSub.refl _)) ?_ ?_
          · refine ⟨by omega, by rw [ho, withS_sortU], fun y => ?_, by rw [List.length_append, List.length_singleton]; omega⟩
            rw [hsn, List.mem_append, List.mem_append, List.mem_singleton, hkm]
            constructor
            · rintro (⟨a, b⟩ | e)
              · exact ⟨.inl a, b⟩
              · exact ⟨.inr e, by rw [e]; exact hin.1 h7⟩
            · rintro ⟨a | a, b⟩
              · exact .inl ⟨a, b⟩
              · exact .inr a
          · (simp; omega)
        · have h7 : h ∉ nx := placeS_neg.1 (by have := of_decide_eq_false h7; omega)
          have hd0 : (0 : Nat) = 0 := rfl
          refine LW.skip (after_blk (after_code ?_))
          refine LW.region ?_
          refine X.u (LU.moveR Is.rfl') rfl ?_
          refine X.u (LU.addN Is.rfl' Is.rfl' (wrap_i64 (by omega) (by omega))) rfl ?_
          refine X.u (LU.assignR Is.rfl') rfl ?_
          refine LL.nil (after_rnd ?_)
          refine X.next ((i + 1, ks, out)) rfl (EnvLe.cons (by rfl) (EnvLe.cons (by rfl) (EnvLe.nil))) (Keeps.cons (by exact Eq.trans (b := .sl _ _ _) rfl rfl) (Keeps.cons (by exact Eq.trans (b := .raw _) rfl rfl) (Keeps.cons (by exact Eq.trans (b := .sl _ _ _) rfl rfl) (Keeps.nil)))) (by repeat (exact HSub.refl _)) ?_ ?_
          · refine ⟨by omega, ho, fun y => ?_, by omega⟩
            rw [hsn, List.mem_append, List.mem_singleton, hkm]
            constructor
            · rintro ⟨a, b⟩
              exact ⟨.inl a, b⟩
            · rintro ⟨a | a, b⟩
              · exact ⟨a, b⟩
              · rw [a] at b; exact absurd (hin.2 b) h7
          · (simp; omega)
      · try have h5 := of_decide_eq_false h5
        refine LW.exit (exit_code (exit_rnd (exit_blk (after_code ?_))))
        refine LW.seq ?_
        refine LW.region ?_
        refine X.u (LU.moveS Is.rfl') rfl ?_
        refine X.u (LU.assignS Is.rfl') rfl ?_
        refine LL.nil (after_code ?_)
        refine LW.ret (after_end ?_)
        refine X.ret (H' := []) (Res.one (by exact IsS rfl)) (by repeat (first | exact HSub.refl _ | refine HSub.drop ?_)) ?_
        have hj := (Just.ofU (k := ks) (S := fun x => Rch (depsOf l) x h) fun y => by rw [hkm, List.take_of_length_le (by omega)]; exact ⟨And.right, fun e => ⟨rch_name e, e⟩⟩).uniq (hks.2 (by omega))
        exact ⟨by rw [← hj, ho], rfl⟩
def readyB (told : List Hs) (x : It) : Bool := decide (x.name ∉ told) && decide (∀ d ∈ x.deps, d ∈ told)
set_option maxHeartbeats 2000000 in
set_option maxRecDepth 100000 in
theorem ready_calls (l : List It) (told : List Hs) (i : Nat) (x : It) (k k2 : Cap) (hl : l.length < 140737488355328) (hd : totalD l ≤ 400000) (ht : told.length < 140737488355328) (hx : l[i]? = some x) : LCalls Try.prog 27 [.sl 33 (its l) k, .sl 32 (hss told) k2, i64 (i : Nat)] [] (fun r H' => r = bl (readyB told x) ∧ H' = []) := by
  have hil := (List.getElem?_eq_some_iff.1 hx).1
  have hxl := it_len x
  have hxn : x.name.1.length = 32 := x.name.2
  have htot := totalD_at hx
  refine LCalls.of Try.func27 rfl Try.ntmps27 Try.results27 rfl (fun Rf => ?_)
  refine LW.seq ?_
  refine LW.region ?_
  refine X.u (LU.assignR Is.rfl') rfl ?_
  refine LL.nil (after_code ?_)
  refine LW.seq ?_
  refine LW.seq ?_
  refine LW.region ?_
  refine X.u (LU.moveS Is.rfl') rfl ?_
  refine X.u (LU.moveS Is.rfl') rfl ?_
  refine X.u (LU.moveR Is.rfl') rfl ?_
  refine X.u (LU.at Try.underlying22 ⟨Try.sizeOf36, Try.isAgg36⟩ Is.rfl' Is.rfl' (by omega) (its_at hx) (it_ne x)) rfl ?_
  refine X.u (LU.fieldP Try.underlying36 rfl ⟨Try.sizeOf34, Try.isAgg34⟩ (by decide) Is.rfl' (by (simp; omega))) rfl ?_
  refine X.u (LU.weak (LU.load ⟨Try.sizeOf34, Try.isAgg34⟩ Is.rfl' (by (simp; omega)) (Part.whole (by (simp; omega)))) (Is.of (y := .agg (hsL x.name)) (congrArg LV.agg (it_name x)))) rfl ?_
  refine X.u (LU.call (place_calls told x.name k2 ht) Try.func22 rfl rfl (Opds.cons Is.rfl' (Opds.cons Is.rfl' Opds.nil))) rfl ?_
  refine X.u (LU.geq Is.rfl' Is.rfl') rfl ?_
  refine LL.nil (after_code ?_)
  refine X.cond rfl (fun h1 => ?_) (fun h1 => ?_)
  · have h1 : x.name ∈ told := Classical.not_not.1 (fun c => by have := of_decide_eq_true h1; have := placeS_neg.2 c; omega)
    have hd0 : (0 : Nat) = 0 := rfl
    refine LW.seq ?_
    refine LW.region ?_
    refine X.u (LU.assignR Is.rfl') rfl ?_
    refine LL.nil (after_code ?_)
    refine LW.ret (ret_code (after_end ?_))
    refine X.ret (H' := []) (Res.one (by exact IsR rfl)) (by repeat (exact HSub.refl _)) ?_
    exact ⟨by unfold readyB; rw [decide_eq_false (fun c => c h1)]; rfl, rfl⟩
  · have h1 : x.name ∉ told := placeS_neg.1 (by have := of_decide_eq_false h1; omega)
    have hd0 : (0 : Nat) = 0 := rfl
    refine LW.skip (after_code ?_)
    refine LW.seq ?_
    refine LW.seq ?_
    refine LW.region ?_
    refine X.u (LU.assignR Is.rfl') rfl ?_
    refine LL.nil (after_code ?_)
    refine LW.block ?_
    refine X.loopK (α := Nat) (fun j => [(7, i64 j)]) [0, 1, 2] (fun _ => _) (fun j => j ≤ x.deps.length ∧ ∀ d ∈ x.deps.take j, d ∈ told) (fun j => x.deps.length - j) (0) (EnvLe.cons (by rfl) (EnvLe.nil)) (HSub.refl _) ?_ ?_
    · exact ⟨Nat.zero_le _, fun d hd => by simp at hd⟩
    · rintro j hI
      obtain ⟨hj, hall⟩ := hI
      refine LW.seq ?_
      refine LW.seq ?_
      refine LW.region ?_
      refine X.u (LU.moveR Is.rfl') rfl ?_
      refine X.u (LU.moveS Is.rfl') rfl ?_
      refine X.u (LU.moveR Is.rfl') rfl ?_
      refine X.u (LU.at Try.underlying22 ⟨Try.sizeOf36, Try.isAgg36⟩ Is.rfl' Is.rfl' (by omega) (its_at hx) (it_ne x)) rfl ?_
      refine X.u (LU.weak (LU.fieldP Try.underlying36 rfl ⟨Try.sizeOf26, Try.isAgg26⟩ (by decide) Is.rfl' (by (simp; omega))) (Is.of (y := .pin [Hss x.deps]) (congrArg LV.pin (it_pin x)))) rfl ?_
      refine X.u (LU.load ⟨Try.sizeOf26, Try.isAgg26⟩ Is.rfl' (by (simp; done)) (Part.one rfl)) rfl ?_
      refine X.u (LU.lenN Try.underlying26 Is.rfl' (by (simp only [Option.getD_some, Option.getD_none, byteEls_length, intEls_length, List.length_append, List.length_cons, List.length_nil, List.length_map, List.length_drop, List.length_take, Int.toNat_natCast]; rfl))) rfl ?_
      refine X.u (LU.lss Is.rfl' Is.rfl') rfl ?_
      refine LL.nil (after_code ?_)
      refine X.cond rfl (fun h4 => ?_) (fun h4 => ?_)
      · try have h4 := of_decide_eq_true h4
        refine LW.skip (after_code ?_)
        refine LW.seq ?_
        refine LW.block ?_
        refine LW.seq ?_
        obtain ⟨e_, hd2⟩ := at_lt (show j < x.deps.length by omega)
        refine LW.region ?_
        refine X.u (LU.moveS Is.rfl') rfl ?_
        refine X.u (LU.moveS Is.rfl') rfl ?_
        refine X.u (LU.moveR Is.rfl') rfl ?_
        refine X.u (LU.at Try.underlying22 ⟨Try.sizeOf36, Try.isAgg36⟩ Is.rfl' Is.rfl' (by omega) (its_at hx) (it_ne x)) rfl ?_
        refine X.u (LU.weak (LU.fieldP Try.underlying36 rfl ⟨Try.sizeOf26, Try.isAgg26⟩ (by decide) Is.rfl' (by (simp; omega))) (Is.of (y := .pin [Hss x.deps]) (congrArg LV.pin (it_pin x)))) rfl ?_
        refine X.u (LU.load ⟨Try.sizeOf26, Try.isAgg26⟩ Is.rfl' (by (simp; done)) (Part.one rfl)) rfl ?_
        refine X.u (LU.moveR Is.rfl') rfl ?_
        refine X.u (LU.at Try.underlying26 ⟨Try.sizeOf34, Try.isAgg34⟩ Is.rfl' Is.rfl' (by omega) (hss_at hd2) (hs_ne e_)) rfl ?_
        refine X.u (LU.weak (LU.load ⟨Try.sizeOf34, Try.isAgg34⟩ Is.rfl' (by (simp; omega)) (Part.whole (by (simp; omega)))) (Is.of (y := .agg (hsL e_)) (rfl))) rfl ?_
        refine X.u (LU.call (place_calls told e_ k2 ht) Try.func22 rfl rfl (Opds.cons Is.rfl' (Opds.cons Is.rfl' Opds.nil))) rfl ?_
        refine X.u (LU.lss Is.rfl' Is.rfl') rfl ?_
        refine LL.nil (after_code ?_)
        refine X.cond rfl (fun h6 => ?_) (fun h6 => ?_)
        · have h6 : e_ ∉ told := placeS_neg.1 (of_decide_eq_true h6)
          have hd0 : (0 : Nat) = 0 := rfl
          refine LW.seq ?_
          refine LW.region ?_
          refine X.u (LU.assignR Is.rfl') rfl ?_
          refine LL.nil (after_code ?_)
          refine LW.ret (ret_blk (ret_code (ret_rnd (ret_blk (ret_code (after_end ?_))))))
          refine X.ret (H' := []) (Res.one (by exact IsR rfl)) (by repeat (exact HSub.refl _)) ?_
          exact ⟨by unfold readyB; rw [decide_eq_false (p := ∀ d ∈ x.deps, d ∈ told) (fun c => h6 (c e_ (List.mem_of_getElem? hd2))), Bool.and_false], rfl⟩
        · have h6 : e_ ∈ told := Classical.not_not.1 (fun c => of_decide_eq_false h6 (placeS_neg.2 c))
          have hd0 : (0 : Nat) = 0 := rfl
          refine LW.skip (after_blk (after_code ?_))
          refine LW.region ?_
          refine X.u (LU.moveR Is.rfl') rfl ?_
          refine X.u (LU.addN Is.rfl' Is.rfl' (wrap_i64 (by omega) (by omega))) rfl ?_
          refine X.u (LU.assignR Is.rfl') rfl ?_
          refine LL.nil (after_rnd ?_)
          refine X.next (j + 1) rfl (EnvLe.cons (by rfl) (EnvLe.nil)) (Keeps.cons (by exact Eq.trans (b := .sl _ _ _) rfl rfl) (Keeps.cons (by exact Eq.trans (b := .sl _ _ _) rfl rfl) (Keeps.cons (by exact Eq.trans (b := .raw _) rfl rfl) (Keeps.nil)))) (HSub.refl _) ?_ ?_
          · refine ⟨by omega, fun d_ hd_ => ?_⟩
            rw [take_snoc hd2, List.mem_append, List.mem_singleton] at hd_
            exact hd_.elim (hall d_) fun e => by rw [e]; exact h6
          · omega
      · try have h4 := of_decide_eq_false h4
        refine LW.exit (exit_code (exit_rnd (exit_blk (after_code ?_))))
        refine LW.seq ?_
        refine LW.region ?_
        refine X.u (LU.assignR Is.rfl') rfl ?_
        refine LL.nil (after_code ?_)
        refine LW.ret (after_end ?_)
        refine X.ret (H' := []) (Res.one (by exact IsR rfl)) (by repeat (exact HSub.refl _)) ?_
        exact ⟨by unfold readyB; rw [decide_eq_true h1, decide_eq_true (p := ∀ d ∈ x.deps, d ∈ told) (by rw [List.take_of_length_le (by omega)] at hall; exact hall)]; rfl, rfl⟩
end Go.Proofs.Ytmaeepckfbnpjaa
