/- A reader tells at each call what stands at its place, or the first thing that is wrong. -/
import Derived.Test.YtahecnlglcfddaaOcB
set_option linter.unusedVariables false
set_option linter.unusedSimpArgs false
namespace Go.Proofs.Ytahecnlglcfddaa
open Go.RowKit Go.L
attribute [local irreducible] LL LW LO LP LA
abbrev looks (l : List (Int × Int)) : List (List LV) := l.map fun k => [i64 k.1, i64 k.2]
theorem looks_at {l : List (Int × Int)} {i : Nat} {x : Int × Int} (h : l[i]? = some x) : (looks l)[(i : Int).toNat]? = some [i64 x.1, i64 x.2] := by
  rw [Int.toNat_natCast, List.getElem?_map, h]; rfl
theorem byte2_calls (g : Nat) (b : List UInt8) (p : Nat) (hp : p ≤ b.length) (hb : b.length < 1099511627776) : LCalls Try.prog 34 [pt g] [rd g b p] (fun r H' => ∃ c e q, r = .tup [u8 c, i64 (e : Int)] ∧ H' = [rd g b q] ∧ ((p < b.length ∧ c = (b.getD p 0).toNat ∧ e = 0 ∧ q = p + 1) ∨ (¬ p < b.length ∧ c = 0 ∧ e = 10 ∧ q = p))) :=
  (byte_calls g b p hp hb).mono fun r H' ⟨h1, h2⟩ => by
    by_cases h : p < b.length
    · rw [if_pos h, if_pos h] at h1
      rw [if_pos h] at h2
      exact ⟨_, _, _, h1, h2, .inl ⟨h, rfl, rfl, rfl⟩⟩
    · rw [if_neg h, if_neg h] at h1
      rw [if_neg h] at h2
      exact ⟨_, _, _, h1, h2, .inr ⟨h, rfl, rfl, rfl⟩⟩
theorem getD_drop0 (b : List UInt8) (p : Nat) : (b.drop p).getD 0 0 = b.getD p 0 := by simp [List.getD_eq_getElem?_getD, List.getElem?_drop]
set_option maxRecDepth 100000 in
theorem reads_calls (b : List UInt8) (l : List (Int × Int)) (hb0 : b.length < 140737488355328) (hl0 : l.length < 140737488355328) (hl : ∀ k ∈ l, (-9223372036854775808 ≤ k.1 ∧ k.1 < 9223372036854775808) ∧ (-9223372036854775808 ≤ k.2 ∧ k.2 < 9223372036854775808)) : LCalls Try.prog 11 [Bytes b .unk, .sl 2 (looks l) .unk] [] (fun r _ => r = .raw (.bool true)) := by
  have hbe := byteEls_flat b
  refine LCalls.of Try.func11 rfl Try.ntmps11 Try.results11 rfl (fun Rf => ?_)
  refine LW.seq ?_
  refine LW.region ?_
  refine X.u (LU.assignR Is.rfl') rfl ?_
  refine LL.nil (after_code ?_)
  refine LW.seq ?_
  refine LW.seq ?_
  refine LW.region ?_
  refine X.u (LU.moveS Is.rfl') rfl ?_
  refine X.u (LU.lenN Try.underlying22 Is.rfl' (by (simp only [Option.getD_some, Option.getD_none, byteEls_length, intEls_length, List.length_append, List.length_cons, List.length_nil, List.length_map, List.length_drop, List.length_take, Int.toNat_natCast]; rfl))) rfl ?_
  refine X.u (LU.gtr Is.rfl' Is.rfl') rfl ?_
  refine X.u (LU.moveR Is.rfl') rfl ?_
  refine X.gF rfl rfl (fun hg => LU.moveS (by exact Is.rfl')) rfl ?_
  refine X.gF rfl rfl (fun hg => LU.lenN Try.underlying59 (by exact Is.whenN hg) (by (simp only [Option.getD_some, Option.getD_none, byteEls_length, intEls_length, List.length_append, List.length_cons, List.length_nil, List.length_map, List.length_drop, List.length_take, Int.toNat_natCast]; rfl))) rfl ?_
  refine X.gF rfl rfl (fun hg => LU.gtr (by exact Is.whenN hg) (by exact Is.rfl')) rfl ?_
  refine X.u (LU.pickOr Is.rfl' Is.rfl' (fun hq => (by exact Is.whenN hq))) rfl ?_
  refine LL.nil (after_code ?_)
  refine X.cond rfl (fun h1 => ?_) (fun h1 => ?_)
  · try have h1 := of_decide_eq_true h1
    refine LW.seq ?_
    refine LW.region ?_
    refine X.u (LU.call (lives1_calls) Try.func13 rfl rfl Opds.nil) rfl ?_
    refine X.u (LU.assignR Is.rfl') rfl ?_
    refine LL.nil (after_code ?_)
    refine LW.ret (ret_code (after_end ?_))
    refine X.ret (H' := []) (Res.one (by exact IsR rfl)) (by exact HSub.refl _) ?_
    exact rfl
  · have hsm : b.length ≤ 100000 ∧ l.length ≤ 1000 := by simp only [Bool.or_eq_false_iff, decide_eq_false_iff_not] at h1; omega
    obtain ⟨hsm1, hsm2⟩ := hsm
    refine LW.skip (after_code ?_)
    refine LW.seq ?_
    refine LW.region ?_
    refine X.act (X.litO rfl Try.underlying22 Try.sizeOf5 Try.zeroValue5 (ones rfl) rfl (by decide) (by decide) Elems.nil (by simp) rfl (fun b33 => ?_))
    refine X.u (LU.moveS Is.rfl') rfl ?_
    refine X.act (X.appendO (z := (.int .u8 0)) 0 rfl rfl Try.underlying22 (El.of (P := Try.prog) (z := (.int .u8 0)) (size := 1) (bytes := 1) rfl rfl rfl) (ones rfl) Is.rfl' Is.rfl' (by simp) (SrcL.slice Try.underlying22 (by decide) (by exact byteEls_size _)) (by simp only [Option.getD_some, Option.getD_none, byteEls_length, intEls_length, List.length_append, List.length_cons, List.length_nil, List.length_map, List.length_drop, List.length_take, Int.toNat_natCast]; omega) (by simp only [Option.getD_some, Option.getD_none, byteEls_length, intEls_length, List.length_append, List.length_cons, List.length_nil, List.length_map, List.length_drop, List.length_take, Int.toNat_natCast]; omega) (fun b35 c35 rest35 hc35 hr35 => ?_))
    refine X.u (LU.assignR Is.rfl') rfl ?_
    refine LL.nil (after_code ?_)
    refine LW.seq ?_
    rw [byteEls_length, byteEls_flat]
    refine LW.region ?_
    refine X.u (LU.moveR Is.rfl') rfl ?_
    refine X.act (X.call (over2_calls b35 c35 b (raws rest35) (by omega) (by rw [byteEls_length] at hc35; exact hc35)) Try.func25 rfl rfl rfl (by (refine HSub.pick 0 rfl ?_); exact HSub.refl _) (Opds.cons Is.rfl' Opds.nil) ?_)
    rintro r H' ⟨g, rfl, rfl⟩
    refine X.u (LU.assignR Is.rfl') rfl ?_
    refine LL.nil (after_code ?_)
    refine LW.seq ?_
    refine LW.region ?_
    refine X.u (LU.moveR Is.rfl') rfl ?_
    refine X.act (X.call (spoil_calls b35 c35 b (raws rest35) (by omega)) Try.func18 rfl rfl rfl (by (refine HSub.pick 1 rfl ?_); exact HSub.refl _) (Opds.cons Is.rfl' Opds.nil) ?_)
    rintro r H' ⟨m2, hm2, rfl⟩
    refine LL.nil (after_code ?_)
    refine LW.seq ?_
    refine LW.region ?_
    refine X.u (LU.moveS Is.rfl') rfl ?_
    refine X.u (LU.assignS Is.rfl') rfl ?_
    refine LL.nil (after_code ?_)
    refine LW.seq ?_
    refine LW.seq ?_
    refine LW.region ?_
    refine X.u (LU.moveS Is.rfl') rfl ?_
    refine X.u (LU.lenN Try.underlying59 Is.rfl' (by (simp only [Option.getD_some, Option.getD_none, byteEls_length, intEls_length, List.length_append, List.length_cons, List.length_nil, List.length_map, List.length_drop, List.length_take, Int.toNat_natCast]; rfl))) rfl ?_
    refine X.u (LU.moveR Is.rfl') rfl ?_
    refine LL.nil (after_code ?_)
    refine LW.block ?_
    rw [show b = b.drop 0 from rfl]
    refine X.loopK (α := Nat × Nat) (fun ⟨i, p⟩ => [(43, i64 i), (7, Bytes (b.drop p) .unk)]) [6, 41, 42] (fun ⟨i, p⟩ => rd g b p :: Rf) (fun ⟨i, p⟩ => i ≤ l.length ∧ p ≤ b.length) (fun ⟨i, p⟩ => l.length - i) ((0, 0)) (EnvLe.cons (by rfl) (EnvLe.cons (by rfl) (EnvLe.nil))) (by repeat (first | exact HSub.refl _ | refine HSub.pick 0 rfl ?_ | refine HSub.pick 1 rfl ?_ | refine HSub.pick 2 rfl ?_ | refine HSub.pick 3 rfl ?_ | refine HSub.pick 4 rfl ?_ | refine HSub.drop ?_)) ?_ ?_
    · exact ⟨Nat.zero_le _, Nat.zero_le _⟩
    · rintro ⟨i, p⟩ hI
      obtain ⟨hi, hp⟩ := hI
      have hdl : (b.drop p).length = b.length - p := by simp
      refine LW.seq ?_
      refine LW.region ?_
      refine X.u (LU.lss Is.rfl' Is.rfl') rfl ?_
      refine LL.nil (after_code ?_)
      refine LW.seq ?_
      refine X.cond rfl (fun h8 => ?_) (fun h8 => ?_)
      · try have h8 := of_decide_eq_true h8
        refine LW.skip (after_code ?_)
        refine LW.seq ?_
        refine LW.block ?_
        refine LW.seq ?_
        obtain ⟨x, hx⟩ := at_lt (show i < l.length by omega)
        have hxb := hl x (List.mem_of_getElem? hx)
        refine LW.region ?_
        refine X.u (LU.at Try.underlying59 ⟨Try.sizeOf61, Try.isAgg61⟩ Is.rfl' Is.rfl' (by omega) (looks_at hx) (by simp)) rfl ?_
        refine X.u (LU.load ⟨Try.sizeOf61, Try.isAgg61⟩ Is.rfl' (by (simp; done)) (Part.whole (by (simp; done)))) rfl ?_
        refine X.act (X.alloc rfl Try.zeroValue61 (by exact Cells.rawagg (by decide)) (fun b9 => ?_))
        refine X.act (X.store 0 rfl Try.sizeOf61 Is.rfl' Is.rfl' (by exact Cells.agg) (by (simp; done)) (by exact Nat.le_of_ble_eq_true rfl) ?_)
        refine LL.nil (after_code ?_)
        refine LW.seq ?_
        refine X.wcells (ys := [i64 x.1, i64 x.2]) (putAt_all (by simp [raws])) ?_
        refine LW.region ?_
        refine X.u (LU.assignR Is.rfl') rfl ?_
        refine LL.nil (after_code ?_)
        refine X.meetK (α := Nat) (fun s => [(10, i64 s)]) [6, 7, 41, 42, 43] (fun s => rd g b (p + s) :: Rf) (fun s => p + s ≤ b.length) ?_ ?_
        · refine LW.seq ?_
          refine LW.region ?_
          refine X.u (LU.fieldO Try.underlying61 rfl Try.sizeOf3 (by decide) Is.rfl') rfl ?_
          refine X.u (LU.loadO 0 rfl ⟨Try.sizeOf3, Try.isAgg3⟩ Is.rfl' (Part.one rfl)) rfl ?_
          refine LL.nil (after_code ?_)
          refine LW.block ?_
          refine LW.seq ?_
          refine LW.region ?_
          refine X.u (LU.eql Is.rfl' Is.rfl') rfl ?_
          refine X.u (LU.assignR Is.rfl') rfl ?_
          refine LL.nil (after_code ?_)
          refine X.cond rfl (fun h15 => ?_) (fun h15 => ?_)
          · try have h15 := of_decide_eq_true h15
            refine LW.seq ?_
            refine LW.region ?_
            refine X.u (LU.moveR Is.rfl') rfl ?_
            refine X.act (X.call1 1 rfl (uint_calls g b p hp (by omega)) Try.func26 rfl rfl rfl (Opds.cons Is.rfl' Opds.nil) ?_)
            rintro r H' ⟨rfl, rfl⟩
            refine X.u (LU.moveT Is.rfl') rfl ?_
            refine X.u (LU.extract Is.rfl' rfl) rfl ?_
            refine X.u (LU.extract Is.rfl' rfl) rfl ?_
            refine X.u (LU.assignR Is.rfl') rfl ?_
            refine X.u (LU.assignR Is.rfl') rfl ?_
            refine LL.nil (after_code ?_)
            refine LW.seq ?_
            refine LW.region ?_
            refine X.u (LU.moveS Is.rfl') rfl ?_
            refine X.u (LU.call (ruint_calls (b.drop p) .unk (by omega)) Try.func32 rfl rfl (Opds.cons Is.rfl' Opds.nil)) rfl ?_
            refine X.u (LU.moveT Is.rfl') rfl ?_
            refine X.u (LU.extract Is.rfl' rfl) rfl ?_
            refine X.u (LU.extract Is.rfl' rfl) rfl ?_
            refine X.u (LU.extract Is.rfl' rfl) rfl ?_
            refine X.u (LU.assignR Is.rfl') rfl ?_
            refine X.u (LU.assignR Is.rfl') rfl ?_
            refine X.u (LU.assignR Is.rfl') rfl ?_
            refine LL.nil (after_code ?_)
            refine LW.seq ?_
            refine LW.seq ?_
            refine LW.region ?_
            refine X.u (LU.moveR Is.rfl') rfl ?_
            refine X.u (LU.moveR Is.rfl') rfl ?_
            refine X.u (LU.weak (LU.neq Is.rfl' Is.rfl') (asB (c := false) rfl (by simp))) rfl ?_
            refine X.u (LU.moveR Is.rfl') rfl ?_
            refine X.doF rfl rfl (LU.moveR (by exact Is.rfl')) rfl ?_
            refine X.doF rfl rfl (LU.moveR (by exact Is.rfl')) rfl ?_
            refine X.doF rfl rfl (LU.weak (LU.neq (by exact Is.rfl') (by exact Is.rfl')) (asB (c := false) rfl (by simp))) rfl ?_
            refine X.u (LU.pickF Is.rfl' (by exact Is.rfl')) rfl ?_
            refine LL.nil (after_code ?_)
            refine X.condF rfl ?_ ?_
            · rfl
            refine LW.skip (after_code ?_)
            refine LW.region ?_
            refine X.u (LU.moveR Is.rfl') rfl ?_
            refine X.u (LU.assignR Is.rfl') rfl ?_
            refine LL.nil (after_blk (after_rnd ?_))
            refine X.meets ((decU (b.drop p)).2.1) rfl (EnvLe.cons (by rfl) (EnvLe.nil)) (Keeps.cons (by exact Eq.trans (b := .raw _) rfl rfl) (Keeps.cons (by exact Eq.trans (b := .sl _ _ _) rfl rfl) (Keeps.cons (by exact Eq.trans (b := .sl _ _ _) rfl rfl) (Keeps.cons (by exact Eq.trans (b := .raw _) rfl rfl) (Keeps.cons (by exact Eq.trans (b := .raw _) rfl rfl) (Keeps.nil)))))) (by repeat (first | exact HSub.refl _ | refine HSub.pick 0 rfl ?_ | refine HSub.pick 1 rfl ?_ | refine HSub.pick 2 rfl ?_ | refine HSub.pick 3 rfl ?_ | refine HSub.pick 4 rfl ?_ | refine HSub.drop ?_)) ?_
            have := decU_le (b.drop p); omega
          · try have h15 := of_decide_eq_false h15
            refine LW.seq ?_
            refine LW.region ?_
            refine X.u (LU.eql Is.rfl' Is.rfl') rfl ?_
            refine X.u (LU.assignR Is.rfl') rfl ?_
            refine LL.nil (after_code ?_)
            refine X.cond rfl (fun h21 => ?_) (fun h21 => ?_)
            · try have h21 := of_decide_eq_true h21
              refine LW.seq ?_
              refine LW.region ?_
              refine X.u (LU.moveR Is.rfl') rfl ?_
              refine X.u (LU.fieldO Try.underlying61 rfl Try.sizeOf3 (by decide) Is.rfl') rfl ?_
              refine X.u (LU.loadO 0 rfl ⟨Try.sizeOf3, Try.isAgg3⟩ Is.rfl' (Part.one rfl)) rfl ?_
              refine X.act (X.call1 1 rfl (text_calls g b p x.2 hp (by omega) hxb.2.1 hxb.2.2) Try.func28 rfl rfl rfl (Opds.cons Is.rfl' (Opds.cons Is.rfl' Opds.nil)) ?_)
              rintro r H' ⟨rfl, rfl⟩
              refine X.u (LU.moveT Is.rfl') rfl ?_
              refine X.u (LU.extract Is.rfl' rfl) rfl ?_
              refine X.u (LU.extract Is.rfl' rfl) rfl ?_
              refine X.u (LU.assignR Is.rfl') rfl ?_
              refine X.u (LU.assignR Is.rfl') rfl ?_
              refine LL.nil (after_code ?_)
              refine LW.seq ?_
              refine LW.region ?_
              refine X.u (LU.moveS Is.rfl') rfl ?_
              refine X.u (LU.fieldO Try.underlying61 rfl Try.sizeOf3 (by decide) Is.rfl') rfl ?_
              refine X.u (LU.loadO 1 rfl ⟨Try.sizeOf3, Try.isAgg3⟩ Is.rfl' (Part.one rfl)) rfl ?_
              refine X.u (LU.call (rtext_calls (b.drop p) .unk x.2 (by omega) hxb.2.1 hxb.2.2) Try.func33 rfl rfl (Opds.cons Is.rfl' (Opds.cons Is.rfl' Opds.nil))) rfl ?_
              refine X.u (LU.moveT Is.rfl') rfl ?_
              refine X.u (LU.extract Is.rfl' rfl) rfl ?_
              refine X.u (LU.extract Is.rfl' rfl) rfl ?_
              refine X.u (LU.extract Is.rfl' rfl) rfl ?_
              refine X.u (LU.assignR Is.rfl') rfl ?_
              refine X.u (LU.assignR Is.rfl') rfl ?_
              refine X.u (LU.assignR Is.rfl') rfl ?_
              refine LL.nil (after_code ?_)
              refine LW.seq ?_
              refine LW.seq ?_
              refine LW.region ?_
              refine X.u (LU.moveR Is.rfl') rfl ?_
              refine X.u (LU.moveR Is.rfl') rfl ?_
              refine X.u (LU.weak (LU.strneN Is.rfl' Is.rfl') (asB (c := false) rfl (by simp))) rfl ?_
              refine X.u (LU.moveR Is.rfl') rfl ?_
              refine X.doF rfl rfl (LU.moveR (by exact Is.rfl')) rfl ?_
              refine X.doF rfl rfl (LU.moveR (by exact Is.rfl')) rfl ?_
              refine X.doF rfl rfl (LU.weak (LU.neq (by exact Is.rfl') (by exact Is.rfl')) (asB (c := false) rfl (by simp))) rfl ?_
              refine X.u (LU.pickF Is.rfl' (by exact Is.rfl')) rfl ?_
              refine LL.nil (after_code ?_)
              refine X.condF rfl ?_ ?_
              · rfl
              refine LW.skip (after_code ?_)
              refine LW.region ?_
              refine X.u (LU.moveR Is.rfl') rfl ?_
              refine X.u (LU.assignR Is.rfl') rfl ?_
              refine LL.nil (after_blk (after_rnd ?_))
              refine X.meets ((txtU (b.drop p) x.2).2.1) rfl (EnvLe.cons (by rfl) (EnvLe.nil)) (Keeps.cons (by exact Eq.trans (b := .raw _) rfl rfl) (Keeps.cons (by exact Eq.trans (b := .sl _ _ _) rfl rfl) (Keeps.cons (by exact Eq.trans (b := .sl _ _ _) rfl rfl) (Keeps.cons (by exact Eq.trans (b := .raw _) rfl rfl) (Keeps.cons (by exact Eq.trans (b := .raw _) rfl rfl) (Keeps.nil)))))) (by repeat (first | exact HSub.refl _ | refine HSub.pick 0 rfl ?_ | refine HSub.pick 1 rfl ?_ | refine HSub.pick 2 rfl ?_ | refine HSub.pick 3 rfl ?_ | refine HSub.pick 4 rfl ?_ | refine HSub.drop ?_)) ?_
              have := txtU_le (b.drop p) x.2; omega
            · try have h21 := of_decide_eq_false h21
              refine LW.seq ?_
              refine LW.region ?_
              refine X.u (LU.eql Is.rfl' Is.rfl') rfl ?_
              refine X.u (LU.assignR Is.rfl') rfl ?_
              refine LL.nil (after_code ?_)
              refine X.cond rfl (fun h27 => ?_) (fun h27 => ?_)
              · try have h27 := of_decide_eq_true h27
                refine LW.seq ?_
                refine LW.region ?_
                refine X.u (LU.moveR Is.rfl') rfl ?_
                refine X.act (X.call1 1 rfl (byte2_calls g b p hp (by omega)) Try.func34 rfl rfl rfl (Opds.cons Is.rfl' Opds.nil) ?_)
                rintro r H' ⟨c, e, q, rfl, rfl, hB⟩
                refine X.u (LU.moveT Is.rfl') rfl ?_
                refine X.u (LU.extract Is.rfl' rfl) rfl ?_
                refine X.u (LU.extract Is.rfl' rfl) rfl ?_
                refine X.u (LU.assignR Is.rfl') rfl ?_
                refine X.u (LU.assignR Is.rfl') rfl ?_
                refine LL.nil (after_code ?_)
                refine LW.seq ?_
                refine LW.region ?_
                refine X.u (LU.moveS Is.rfl') rfl ?_
                refine X.u (LU.lenN Try.underlying22 Is.rfl' (by (simp only [Option.getD_some, Option.getD_none, byteEls_length, intEls_length, List.length_append, List.length_cons, List.length_nil, List.length_map, List.length_drop, List.length_take, Int.toNat_natCast]; rfl))) rfl ?_
                refine X.u (LU.eql Is.rfl' Is.rfl') rfl ?_
                refine LL.nil (after_code ?_)
                refine X.cond rfl (fun h29 => ?_) (fun h29 => ?_)
                · try have h29 := of_decide_eq_true h29
                  obtain ⟨hc, he, hq⟩ : c = 0 ∧ e = 10 ∧ q = p + 0 := by omega
                  subst hc
                  subst he
                  subst hq
                  refine LW.seq ?_
                  refine LW.region ?_
                  refine X.u (LU.moveR Is.rfl') rfl ?_
                  refine X.u (LU.weak (LU.neq Is.rfl' Is.rfl') (asB (c := false) rfl (by simp))) rfl ?_
                  refine X.u (LU.moveR Is.rfl') rfl ?_
                  refine X.doF rfl rfl (LU.moveR (by exact Is.rfl')) rfl ?_
                  refine X.doF rfl rfl (LU.weak (LU.neq (by exact Is.rfl') (by exact Is.rfl')) (asB (c := false) rfl (by simp))) rfl ?_
                  refine X.u (LU.pickF Is.rfl' (by exact Is.rfl')) rfl ?_
                  refine LL.nil (after_code ?_)
                  refine X.condF rfl ?_ ?_
                  · rfl
                  refine LW.skip (after_blk (after_rnd ?_))
                  refine X.meets (0) rfl (EnvLe.cons (by rfl) (EnvLe.nil)) (Keeps.cons (by exact Eq.trans (b := .raw _) rfl rfl) (Keeps.cons (by exact Eq.trans (b := .sl _ _ _) rfl rfl) (Keeps.cons (by exact Eq.trans (b := .sl _ _ _) rfl rfl) (Keeps.cons (by exact Eq.trans (b := .raw _) rfl rfl) (Keeps.cons (by exact Eq.trans (b := .raw _) rfl rfl) (Keeps.nil)))))) (by repeat (first | exact HSub.refl _ | refine HSub.pick 0 rfl ?_ | refine HSub.pick 1 rfl ?_ | refine HSub.pick 2 rfl ?_ | refine HSub.pick 3 rfl ?_ | refine HSub.pick 4 rfl ?_ | refine HSub.drop ?_)) ?_
                  omega
                · try have h29 := of_decide_eq_false h29
                  obtain ⟨hc, he, hq⟩ : c = (b.getD p 0).toNat ∧ e = 0 ∧ q = p + 1 := by omega
                  subst hc
                  subst he
                  subst hq
                  refine LW.seq ?_
                  refine LW.seq ?_
                  refine LW.region ?_
                  refine X.u (LU.moveR Is.rfl') rfl ?_
                  refine X.u (LU.moveS Is.rfl') rfl ?_
                  refine X.u (LU.at Try.underlying22 ⟨Try.sizeOf5, Try.isAgg5⟩ Is.rfl' Is.rfl' (by omega) (byteEls_D 0 (by omega) (by omega)) (by simp)) rfl ?_
                  refine X.u (LU.weak (LU.load ⟨Try.sizeOf5, Try.isAgg5⟩ Is.rfl' (by (simp; done)) (Part.one rfl)) (Is.of (y := u8 (b.getD p 0).toNat) (by rw [getD_drop0]))) rfl ?_
                  refine X.u (LU.weak (LU.neq Is.rfl' Is.rfl') (asB (c := false) rfl (by simp))) rfl ?_
                  refine X.u (LU.moveR Is.rfl') rfl ?_
                  refine X.doF rfl rfl (LU.moveR (by exact Is.rfl')) rfl ?_
                  refine X.doF rfl rfl (LU.weak (LU.neq (by exact Is.rfl') (by exact Is.rfl')) (asB (c := false) rfl (by simp))) rfl ?_
                  refine X.u (LU.pickF Is.rfl' (by exact Is.rfl')) rfl ?_
                  refine LL.nil (after_code ?_)
                  refine X.condF rfl ?_ ?_
                  · rfl
                  refine LW.skip (after_code ?_)
                  refine LW.region ?_
                  refine X.u (LU.assignR Is.rfl') rfl ?_
                  refine LL.nil (after_blk (after_rnd ?_))
                  refine X.meets (1) rfl (EnvLe.cons (by rfl) (EnvLe.nil)) (Keeps.cons (by exact Eq.trans (b := .raw _) rfl rfl) (Keeps.cons (by exact Eq.trans (b := .sl _ _ _) rfl rfl) (Keeps.cons (by exact Eq.trans (b := .sl _ _ _) rfl rfl) (Keeps.cons (by exact Eq.trans (b := .raw _) rfl rfl) (Keeps.cons (by exact Eq.trans (b := .raw _) rfl rfl) (Keeps.nil)))))) (by repeat (first | exact HSub.refl _ | refine HSub.pick 0 rfl ?_ | refine HSub.pick 1 rfl ?_ | refine HSub.pick 2 rfl ?_ | refine HSub.pick 3 rfl ?_ | refine HSub.pick 4 rfl ?_ | refine HSub.drop ?_)) ?_
                  omega
              · try have h27 := of_decide_eq_false h27
                refine LW.seq ?_
                refine LW.region ?_
                refine X.u (LU.moveR Is.rfl') rfl ?_
                refine X.u (LU.call1 1 rfl (end_calls g b p hp (by omega)) Try.func35 rfl rfl (Opds.cons Is.rfl' Opds.nil)) rfl ?_
                refine X.u (LU.assignR Is.rfl') rfl ?_
                refine LL.nil (after_code ?_)
                refine LW.seq ?_
                refine LW.region ?_
                refine X.u (LU.moveR Is.rfl') rfl ?_
                refine X.u (LU.eql Is.rfl' Is.rfl') rfl ?_
                refine X.u (LU.moveS Is.rfl') rfl ?_
                refine X.u (LU.lenN Try.underlying22 Is.rfl' (by (simp only [Option.getD_some, Option.getD_none, byteEls_length, intEls_length, List.length_append, List.length_cons, List.length_nil, List.length_map, List.length_drop, List.length_take, Int.toNat_natCast]; rfl))) rfl ?_
                refine X.u (LU.eql Is.rfl' Is.rfl') rfl ?_
                refine X.u (LU.boolne Try.underlying4 Is.rfl' Is.rfl') rfl ?_
                refine X.u (LU.moveR Is.rfl') rfl ?_
                refine X.gF rfl rfl (fun hg => LU.moveS (by exact Is.rfl')) rfl ?_
                refine X.gF rfl rfl (fun hg => LU.lenN Try.underlying22 (by exact Is.whenN hg) (by (simp only [Option.getD_some, Option.getD_none, byteEls_length, intEls_length, List.length_append, List.length_cons, List.length_nil, List.length_map, List.length_drop, List.length_take, Int.toNat_natCast]; rfl))) rfl ?_
                refine X.gF rfl rfl (fun hg => LU.gtr (by exact Is.whenN hg) (by exact Is.rfl')) rfl ?_
                refine X.gF rfl rfl (fun hg => LU.moveR (by exact Is.whenN hg)) rfl ?_
                refine X.gT2 rfl rfl (fun hg0 hg => LU.moveR (by exact Is.rfl')) rfl ?_
                refine X.gT2 rfl rfl (fun hg0 hg => LU.neq (by exact Is.whenE (by rw [hg0, hg]; rfl)) (by exact Is.rfl')) rfl ?_
                refine X.gF rfl rfl (fun hg => LU.pickAnd (by exact Is.whenN hg) (fun hq => (by exact Is.whenE (by rw [hg, hq]; rfl))) (by exact Is.rfl')) rfl ?_
                refine X.u (LU.pickOr Is.rfl' Is.rfl' (fun hq => (by exact Is.whenN hq))) rfl ?_
                refine LL.nil (after_code ?_)
                refine X.condF rfl ?_ ?_
                · by_cases hpb : p < b.length <;> simp [hpb] <;> omega
                refine LW.skip (after_blk (after_rnd ?_))
                refine X.meets (0) rfl (EnvLe.cons (by rfl) (EnvLe.nil)) (Keeps.cons (by exact Eq.trans (b := .raw _) rfl rfl) (Keeps.cons (by exact Eq.trans (b := .sl _ _ _) rfl rfl) (Keeps.cons (by exact Eq.trans (b := .sl _ _ _) rfl rfl) (Keeps.cons (by exact Eq.trans (b := .raw _) rfl rfl) (Keeps.cons (by exact Eq.trans (b := .raw _) rfl rfl) (Keeps.nil)))))) (by repeat (first | exact HSub.refl _ | refine HSub.pick 0 rfl ?_ | refine HSub.pick 1 rfl ?_ | refine HSub.pick 2 rfl ?_ | refine HSub.pick 3 rfl ?_ | refine HSub.pick 4 rfl ?_ | refine HSub.drop ?_)) ?_
                omega
        · rintro s hI
          refine LW.seq ?_
          refine LW.region ?_
          refine X.u (LU.moveS Is.rfl') rfl ?_
          refine X.u (LU.moveR Is.rfl') rfl ?_
          refine X.u (LU.sliceB (i := some ((s : Nat) : Int)) (j := none) Try.sizeOf5 Try.underlying22 Is.rfl' ⟨_, Is.rfl'⟩ trivial (by simp only [Option.getD_some]; omega) (by simp only [Option.getD_some, Option.getD_none]; omega) (by simp only [Option.getD_none]; omega) (m := b.drop (p + s)) (by simp only [Option.getD_some, Option.getD_none, Int.toNat_natCast]; rw [List.drop_drop, List.take_of_length_le (by simp; omega)])) rfl ?_
          refine X.u (LU.assignS Is.rfl') rfl ?_
          refine LL.nil (after_code ?_)
          refine LW.seq ?_
          refine LW.region ?_
          refine X.u (LU.moveR Is.rfl') rfl ?_
          refine X.u (LU.call1 0 rfl (left_calls g b (p + s) (by omega) (by omega)) Try.func27 rfl rfl (Opds.cons Is.rfl' Opds.nil)) rfl ?_
          refine X.u (LU.moveS Is.rfl') rfl ?_
          refine X.u (LU.lenN Try.underlying22 Is.rfl' (by (simp only [Option.getD_some, Option.getD_none, byteEls_length, intEls_length, List.length_append, List.length_cons, List.length_nil, List.length_map, List.length_drop, List.length_take, Int.toNat_natCast]; rfl))) rfl ?_
          refine X.u (LU.weak (LU.neq Is.rfl' Is.rfl') (asB (c := false) rfl (by simp))) rfl ?_
          refine LL.nil (after_code ?_)
          refine X.condF rfl ?_ ?_
          · rfl
          refine LW.skip (after_blk (after_code ?_))
          refine LW.region ?_
          refine X.u (LU.addN Is.rfl' Is.rfl' (wrap_i64 (by omega) (by omega))) rfl ?_
          refine X.u (LU.moveR Is.rfl') rfl ?_
          refine LL.nil (after_rnd ?_)
          refine X.next ((i + 1, p + s)) rfl (EnvLe.cons (by rfl) (EnvLe.cons (by rfl) (EnvLe.nil))) (Keeps.cons (by exact Eq.trans (b := .raw _) rfl rfl) (Keeps.cons (by exact Eq.trans (b := .sl _ _ _) rfl rfl) (Keeps.cons (by exact Eq.trans (b := .raw _) rfl rfl) (Keeps.nil)))) (by exact HSub.refl _) ?_ ?_
          · exact ⟨by omega, by omega⟩
          · (simp; omega)
      · try have h8 := of_decide_eq_false h8
        skip
        refine LW.exit (exit_code (exit_rnd (exit_blk (after_code ?_))))
        refine LW.seq ?_
        refine LW.region ?_
        refine X.u (LU.moveR Is.rfl') rfl ?_
        refine X.u (LU.call1 0 rfl (left_calls g b p hp (by omega)) Try.func27 rfl rfl (Opds.cons Is.rfl' Opds.nil)) rfl ?_
        refine X.u (LU.moveS Is.rfl') rfl ?_
        refine X.u (LU.lenN Try.underlying22 Is.rfl' (by (simp only [Option.getD_some, Option.getD_none, byteEls_length, intEls_length, List.length_append, List.length_cons, List.length_nil, List.length_map, List.length_drop, List.length_take, Int.toNat_natCast]; rfl))) rfl ?_
        refine X.u (LU.weak (LU.eql Is.rfl' Is.rfl') (asB (c := true) rfl (by simp))) rfl ?_
        refine X.u (LU.moveR Is.rfl') rfl ?_
        refine X.doT rfl rfl (LU.call (lives1_calls) Try.func13 rfl rfl Opds.nil) rfl ?_
        refine X.u (LU.pickT Is.rfl' (by exact Is.rfl')) rfl ?_
        refine X.u (LU.assignR Is.rfl') rfl ?_
        refine LL.nil (after_code ?_)
        refine LW.ret (after_end ?_)
        refine X.ret (H' := []) (Res.one (by exact IsR rfl)) (by repeat (first | exact HSub.refl _ | refine HSub.pick 0 rfl ?_ | refine HSub.pick 1 rfl ?_ | refine HSub.pick 2 rfl ?_ | refine HSub.pick 3 rfl ?_ | refine HSub.pick 4 rfl ?_ | refine HSub.drop ?_)) ?_
        exact rfl
theorem look_of {c : List LV} (h : QCons 1 (QInt .i64) (QCons 1 (QInt .i64) QNil) c) : ∃ k : Int × Int, c = [i64 k.1, i64 k.2] ∧ ((-9223372036854775808 ≤ k.1 ∧ k.1 < 9223372036854775808) ∧ (-9223372036854775808 ≤ k.2 ∧ k.2 < 9223372036854775808)) := by
  obtain ⟨_, _, rfl, _, ⟨n, rfl, h1⟩, _, _, rfl, _, ⟨m, rfl, h2⟩, rfl⟩ := h
  exact ⟨(n, m), rfl, wf_i64 h1, wf_i64 h2⟩
theorem OctetReads_row (x0 x1 : List (List LV)) (h0 : ∀ c ∈ x0, QInt .u8 c) (h1 : x0.length * 1 ≤ reachBytes) (h2 : ∀ c ∈ x1, QCons 1 (QInt .i64) (QCons 1 (QInt .i64) QNil) c) (h3 : x1.length * 16 ≤ reachBytes) : LCalls Try.prog 11 [.sl 1 x0 .unk, .sl 2 x1 .unk] [] (fun r _ => r = .raw (.bool true)) := by
  obtain ⟨b, rfl⟩ := decode_bytes h0
  obtain ⟨l, rfl, hl⟩   := Go.L.decode (fun k : Int × Int => [i64 k.1, i64 k.2]) _ (fun c hc => look_of (h2 c hc))
  rw [byteEls_length] at h1
  have hr : reachBytes < 140737488355328 := by decide
  have h4 : l.length * 16 ≤ reachBytes := by simpa using h3
  exact reads_calls b l (by omega) (by omega) hl
end Go.Proofs.Ytahecnlglcfddaa
