/- Of any entries it is told whether they are a chain, where they cease to be one, and each one's digest; just chains are loaded. -/
import Derived.Test.YtpcfpkfchoelcaaDoorAuG
set_option linter.unusedVariables false
set_option linter.unusedSimpArgs false
namespace Go.Proofs.YtpcfpkfchoelcaaDoor
open Go.RowKit Go.L
attribute [local irreducible] LL LW LO
/-- What is known of an entry that comes in. -/
def EntIn (e : Ent) : Prop := (-9223372036854775808 ≤ e.seq ∧ e.seq < 9223372036854775808) ∧ (-9223372036854775808 ≤ e.tick ∧ e.tick < 9223372036854775808) ∧ e.who.length < 140737488355328 ∧ e.what.length < 140737488355328 ∧ e.prev.length = 32
theorem EntIn.ok {e : Ent} (h : EntIn e) (h1 : e.who.length ≤ 1000000) (h2 : e.what.length ≤ 1000000) : EntOk e := ⟨h.1, h.2.1, h1, h2, h.2.2.2.2⟩
theorem holds_head (l : List Ent) : holdsB l (headE l) = decide (verL l < 0) := by simp [holdsB]
set_option maxHeartbeats 2000000 in
set_option maxRecDepth 100000 in
theorem av_calls (l : List Ent) (head : List UInt8) (hl : l.length < 140737488355328) (hin : ∀ e ∈ l, EntIn e) (hhd : head.length = 32) : LCalls Tryd.prog 8 [.sl 36 (ents l) .unk, H32 head] [kw] (fun r H' => r = bl true ∧ H' = [kw]) := by
  have hlp : PrevOk l := fun e he => (hin e he).2.2.2.2
  refine LCalls.of Tryd.func8 rfl Tryd.ntmps8 Tryd.results8 rfl (fun Rf => ?_)
  refine LW.seq ?_
  refine LW.region ?_
  refine X.act (X.box rfl Is.rfl' (by exact Cells.agg) (fun b3 => ?_))
  refine X.u (LU.assignR Is.rfl') rfl ?_
  refine LL.nil (after_code ?_)
  refine LW.seq ?_
  refine LW.seq ?_
  refine LW.region ?_
  refine X.u (LU.moveS Is.rfl') rfl ?_
  refine X.u (LU.lenN Tryd.underlying22 Is.rfl' (by (simp only [Option.getD_some, Option.getD_none, byteEls_length, intEls_length, List.length_append, List.length_cons, List.length_nil, List.length_map, List.length_drop, List.length_take, Int.toNat_natCast]; rfl))) rfl ?_
  refine X.u (LU.gtr Is.rfl' Is.rfl') rfl ?_
  refine LL.nil (after_code ?_)
  refine X.cond rfl (fun h1 => ?_) (fun h1 => ?_)
  · try have h1 := of_decide_eq_true h1
    refine LW.seq ?_
    refine LW.region ?_
    refine X.u (LU.call1 1 rfl (lives19_calls) Tryd.func9 rfl rfl Opds.nil) rfl ?_
    refine X.u (LU.assignR Is.rfl') rfl ?_
    refine LL.nil (after_code ?_)
    refine LW.ret (ret_code (after_end ?_))
    refine X.ret (H' := [kw]) (Res.one (by exact IsR rfl)) (by repeat (first | exact HSub.refl _ | refine HSub.pick 1 rfl ?_ | refine HSub.drop ?_)) ?_
    exact ⟨rfl, rfl⟩
  · try have h1 := of_decide_eq_false h1
    refine LW.skip (after_code ?_)
    refine LW.seq ?_
    refine LW.region ?_
    refine X.u (LU.assignR Is.rfl') rfl ?_
    refine LL.nil (after_code ?_)
    refine LW.seq ?_
    refine LW.seq ?_
    refine LW.region ?_
    refine X.u (LU.moveS Is.rfl') rfl ?_
    refine X.u (LU.lenN Tryd.underlying22 Is.rfl' (by (simp only [Option.getD_some, Option.getD_none, byteEls_length, intEls_length, List.length_append, List.length_cons, List.length_nil, List.length_map, List.length_drop, List.length_take, Int.toNat_natCast]; rfl))) rfl ?_
    refine X.u (LU.moveR Is.rfl') rfl ?_
    refine LL.nil (after_code ?_)
    refine LW.block ?_
    refine X.loopK (α := Nat × Nat) (fun ⟨i, n⟩ => [(17, i64 i), (5, i64 (n : Nat))]) [0, 3, 16] (fun ⟨i, n⟩ => .cells b3 26 (u8s head) :: kw :: Rf) (fun ⟨i, n⟩ => i ≤ l.length ∧ n ≤ 100000 ∧ ∀ j e, j < i → l[j]? = some e → e.who.length ≤ 100000 ∧ e.what.length ≤ 100000) (fun ⟨i, n⟩ => l.length - i) ((0, 0)) (EnvLe.cons (by rfl) (EnvLe.cons (by rfl) (EnvLe.nil))) (by repeat (exact HSub.refl _)) ?_ ?_
    · exact ⟨Nat.zero_le _, Nat.zero_le _, fun j e hj _ => by omega⟩
    · rintro ⟨i, n⟩ hI
      obtain ⟨hi, hn, hsm⟩ := hI
      refine LW.seq ?_
      refine LW.region ?_
      refine X.u (LU.lss Is.rfl' Is.rfl') rfl ?_
      refine LL.nil (after_code ?_)
      refine LW.seq ?_
      refine X.cond rfl (fun h5 => ?_) (fun h5 => ?_)
      · try have h5 := of_decide_eq_true h5
        refine LW.skip (after_code ?_)
        refine LW.seq ?_
        refine LW.block ?_
        refine LW.seq ?_
        obtain ⟨x, hx⟩ := at_lt (show i < l.length by omega)
        obtain ⟨_, _, hx3, hx4, hx5⟩ := hin x (List.mem_of_getElem? hx)
        refine LW.region ?_
        refine X.u (LU.moveR Is.rfl') rfl ?_
        refine X.u (LU.assignR Is.rfl') rfl ?_
        refine LL.nil (after_code ?_)
        refine LW.seq ?_
        refine X.drawM 16 rfl (by kernel_rfl) rfl ?_
        refine QD.u (LU.moveR Is.rfl') rfl ?_
        refine QD.u (LU.moveS Is.rfl') rfl ?_
        refine QD.u (LU.moveR Is.rfl') rfl ?_
        refine QD.u (LU.at Tryd.underlying22 ⟨Tryd.sizeOf28, Tryd.isAgg28⟩ Is.rfl' Is.rfl' (by omega) (ents_at hx) (by simp)) rfl ?_
        refine QD.u (LU.fieldP Tryd.underlying28 rfl ⟨Tryd.sizeOf9, Tryd.isAgg9⟩ (by decide) Is.rfl' (by (simp; done))) rfl ?_
        refine QD.u (LU.load ⟨Tryd.sizeOf9, Tryd.isAgg9⟩ Is.rfl' (by (simp; done)) (Part.one rfl)) rfl ?_
        refine QD.u (LU.strlenN Tryd.underlying9 Is.rfl') rfl ?_
        refine QD.u (LU.moveS Is.rfl') rfl ?_
        refine QD.u (LU.moveR Is.rfl') rfl ?_
        refine QD.u (LU.at Tryd.underlying22 ⟨Tryd.sizeOf28, Tryd.isAgg28⟩ Is.rfl' Is.rfl' (by omega) (ents_at hx) (by simp)) rfl ?_
        refine QD.u (LU.fieldP Tryd.underlying28 rfl ⟨Tryd.sizeOf9, Tryd.isAgg9⟩ (by decide) Is.rfl' (by (simp; done))) rfl ?_
        refine QD.u (LU.load ⟨Tryd.sizeOf9, Tryd.isAgg9⟩ Is.rfl' (by (simp; done)) (Part.one rfl)) rfl ?_
        refine QD.u (LU.strlenN Tryd.underlying9 Is.rfl') rfl ?_
        refine QD.u (LU.weak (LU.addN Is.rfl' Is.rfl' (wrap_i64 (by omega) (by omega))) (Is.of (y := i64 ((x.who.length + x.what.length : Nat) : Int)) (rfl))) rfl ?_
        refine QD.u (LU.weak (LU.addN Is.rfl' Is.rfl' (wrap_i64 (by omega) (by omega))) (Is.of (y := i64 ((n + (x.who.length + x.what.length) : Nat) : Int)) (rfl))) rfl ?_
        refine QD.u (LU.assignR Is.rfl') rfl ?_
        refine QD.nil ?_
        refine LL.nil (after_code ?_)
        refine LW.seq ?_
        refine LW.region ?_
        refine X.u (LU.moveR Is.rfl') rfl ?_
        refine X.u (LU.gtr Is.rfl' Is.rfl') rfl ?_
        refine LL.nil (after_code ?_)
        refine X.cond rfl (fun h8 => ?_) (fun h8 => ?_)
        · try have h8 := of_decide_eq_true h8
          refine LW.seq ?_
          refine LW.region ?_
          refine X.u (LU.call1 1 rfl (lives19_calls) Tryd.func9 rfl rfl Opds.nil) rfl ?_
          refine X.u (LU.assignR Is.rfl') rfl ?_
          refine LL.nil (after_code ?_)
          refine LW.ret (ret_blk (ret_code (ret_rnd (ret_blk (ret_code (after_end ?_))))))
          refine X.ret (H' := [kw]) (Res.one (by exact IsR rfl)) (by repeat (first | exact HSub.refl _ | refine HSub.pick 1 rfl ?_ | refine HSub.drop ?_)) ?_
          exact ⟨rfl, rfl⟩
        · try have h8 := of_decide_eq_false h8
          refine LW.skip (after_blk (after_code ?_))
          refine LW.region ?_
          refine X.u (LU.addN Is.rfl' Is.rfl' (wrap_i64 (by omega) (by omega))) rfl ?_
          refine X.u (LU.moveR Is.rfl') rfl ?_
          refine LL.nil (after_rnd ?_)
          refine X.next ((i + 1, n + (x.who.length + x.what.length))) rfl (EnvLe.cons (by rfl) (EnvLe.cons (by rfl) (EnvLe.nil))) (Keeps.cons (by exact Eq.trans (b := .sl _ _ _) rfl rfl) (Keeps.cons (by exact Eq.trans (b := .raw _) rfl rfl) (Keeps.cons (by exact Eq.trans (b := .raw _) rfl rfl) (Keeps.nil)))) (by repeat (exact HSub.refl _)) ?_ ?_
          · refine ⟨by omega, by omega, fun j e hj he => ?_⟩
            by_cases hji : j = i
            · subst hji; rw [hx] at he; obtain rfl := Option.some.inj he; omega
            · exact hsm j e (by omega) he
          · (simp; omega)
      · try have h5 := of_decide_eq_false h5
        obtain rfl : i = l.length := by omega
        have hok : ∀ e ∈ l, EntOk e := fun e he => by
          obtain ⟨j, hj⟩ := List.mem_iff_getElem?.1 he
          have := hsm j e (List.getElem?_eq_some_iff.1 hj).1 hj
          exact (hin e he).ok (by omega) (by omega)
        have hfr := fresh_calls l .unk (by omega) hlp
        have hrv := rverify_calls l .unk hl hok
        have hvf := verify_calls l .unk hl hok
        have hld := load_calls l .unk hl hok
        have hh1 := holds_calls l .unk head hl hok hhd
        have hh2 := holds_calls l .unk (headE l) hl hok (headE_len l)
        have hrh := rhead_calls l .unk hl hok
        rw [holds_head] at hh2
        have hhl := headE_len l
        obtain ⟨HD, hHD⟩ : ∃ HD, HD = headE l := ⟨_, rfl⟩
        rw [← hHD] at hh2 hrh hhl
        have hB : holdsB l head = (decide (verL l < 0) && decide (head = HD)) := by unfold holdsB; rw [← hHD]; congr 1; exact decide_eq_decide.2 eq_comm
        rw [hB] at hh1
        clear hB hHD
        obtain ⟨V, hV⟩ : ∃ V, V = verL l := ⟨_, rfl⟩
        have hVr : -1 ≤ V ∧ V < 140737488355328 := by
          rcases ver_cases l with ⟨h, _⟩ | ⟨i, h1, h2, _⟩
          · omega
          · omega
        rw [← hV] at hrv hvf hld hh1 hh2
        refine LW.exit (exit_code (exit_rnd (exit_blk (after_code ?_))))
        refine LW.seq ?_
        refine LW.region ?_
        refine X.u (LU.moveS Is.rfl') rfl ?_
        refine X.u (LU.call (hrv) Tryd.func23 rfl rfl (Opds.cons Is.rfl' Opds.nil)) rfl ?_
        refine X.u (LU.assignR Is.rfl') rfl ?_
        refine LL.nil (after_code ?_)
        refine LW.seq ?_
        refine LW.seq ?_
        refine LW.region ?_
        refine X.u (LU.moveS Is.rfl') rfl ?_
        refine X.u (LU.lenN Tryd.underlying22 Is.rfl' (by (simp only [Option.getD_some, Option.getD_none, byteEls_length, intEls_length, List.length_append, List.length_cons, List.length_nil, List.length_map, List.length_drop, List.length_take, Int.toNat_natCast]; rfl))) rfl ?_
        refine X.u (LU.moveR Is.rfl') rfl ?_
        refine LL.nil (after_code ?_)
        refine LW.block ?_
        refine X.loopK (α := Nat) (fun i => [(43, i64 i)]) [0, 3, 7, 42] (fun i => .cells b3 26 (u8s head) :: kw :: Rf) (fun i => i ≤ l.length) (fun i => l.length - i) (0) (EnvLe.cons (by rfl) (EnvLe.nil)) (by repeat (exact HSub.refl _)) ?_ ?_
        · exact Nat.zero_le _
        · rintro i hI
          refine LW.seq ?_
          refine LW.region ?_
          refine X.u (LU.lss Is.rfl' Is.rfl') rfl ?_
          refine LL.nil (after_code ?_)
          refine LW.seq ?_
          refine X.cond rfl (fun h13 => ?_) (fun h13 => ?_)
          · try have h13 := of_decide_eq_true h13
            refine LW.skip (after_code ?_)
            refine LW.seq ?_
            refine LW.block ?_
            refine LW.seq ?_
            obtain ⟨x, hx⟩ := at_lt (show i < l.length by omega)
            have hxo := hok x (List.mem_of_getElem? hx)
            have hdx := digest_calls x hxo
            have hrdx := rdigest_calls x hxo
            have hdl := digE_len x
            have hxl : (entL x).length = 36 := by simp [hxo.2.2.2.2]
            obtain ⟨D, hD⟩ : ∃ D, D = digE x := ⟨_, rfl⟩
            rw [← hD] at hdx hrdx hdl
            clear hD
            refine LW.region ?_
            refine X.u (LU.moveR Is.rfl') rfl ?_
            refine X.u (LU.assignR Is.rfl') rfl ?_
            refine LL.nil (after_code ?_)
            refine LW.seq ?_
            refine X.drawM 11 rfl (by kernel_rfl) rfl ?_
            refine QD.u (LU.moveS Is.rfl') rfl ?_
            refine QD.u (LU.moveR Is.rfl') rfl ?_
            refine QD.u (LU.at Tryd.underlying22 ⟨Tryd.sizeOf28, Tryd.isAgg28⟩ Is.rfl' Is.rfl' (by omega) (ents_at hx) (by simp)) rfl ?_
            refine QD.u (LU.load ⟨Tryd.sizeOf28, Tryd.isAgg28⟩ Is.rfl' (by assumption) (Part.whole (by assumption))) rfl ?_
            refine QD.u (LU.call1 1 rfl (hdx) Tryd.func15 rfl rfl (Opds.cons Is.rfl' Opds.nil)) rfl ?_
            refine QD.u (LU.moveS Is.rfl') rfl ?_
            refine QD.u (LU.moveR Is.rfl') rfl ?_
            refine QD.u (LU.at Tryd.underlying22 ⟨Tryd.sizeOf28, Tryd.isAgg28⟩ Is.rfl' Is.rfl' (by omega) (ents_at hx) (by simp)) rfl ?_
            refine QD.u (LU.load ⟨Tryd.sizeOf28, Tryd.isAgg28⟩ Is.rfl' (by assumption) (Part.whole (by assumption))) rfl ?_
            refine QD.u (LU.call (hrdx) Tryd.func24 rfl rfl (Opds.cons Is.rfl' Opds.nil)) rfl ?_
            refine QD.u (LU.neqH hdl hdl Is.rfl' Is.rfl') rfl ?_
            refine QD.nil ?_
            refine LL.nil (after_code ?_)
            refine X.condF rfl ?_ ?_
            · simp
            refine LW.skip (after_blk (after_code ?_))
            refine LW.region ?_
            refine X.u (LU.addN Is.rfl' Is.rfl' (wrap_i64 (by omega) (by omega))) rfl ?_
            refine X.u (LU.moveR Is.rfl') rfl ?_
            refine LL.nil (after_rnd ?_)
            refine X.next (i + 1) rfl (EnvLe.cons (by rfl) (EnvLe.nil)) (Keeps.cons (by exact Eq.trans (b := .sl _ _ _) rfl rfl) (Keeps.cons (by exact Eq.trans (b := .raw _) rfl rfl) (Keeps.cons (by exact Eq.trans (b := .raw _) rfl rfl) (Keeps.cons (by exact Eq.trans (b := .raw _) rfl rfl) (Keeps.nil))))) (by repeat (exact HSub.refl _)) ?_ ?_
            · omega
            · omega
          · try have h13 := of_decide_eq_false h13
            refine LW.exit (exit_code (exit_rnd (exit_blk (after_code ?_))))
            refine LW.seq ?_
            refine LW.region ?_
            refine X.u (LU.moveS Is.rfl') rfl ?_
            refine X.u (LU.call (hfr) Tryd.func10 rfl rfl (Opds.cons Is.rfl' Opds.nil)) rfl ?_
            refine X.act (X.call (hld) Tryd.func21 rfl rfl rfl (by (refine HSub.pick 1 rfl ?_); exact HSub.refl _) (Opds.cons Is.rfl' Opds.nil) ?_)
            rintro r H' (⟨g, hv, b, o, c, hV0, hh, hl4, rfl, rfl⟩ | ⟨hV0, rfl, rfl⟩)
            · refine X.u (LU.moveT Is.rfl') rfl ?_
              refine X.u (LU.extract Is.rfl' rfl) rfl ?_
              refine X.u (LU.extract Is.rfl' rfl) rfl ?_
              refine X.u (LU.assignR Is.rfl') rfl ?_
              refine X.u (LU.assignR Is.rfl') rfl ?_
              refine LL.nil (after_code ?_)
              refine LW.seq ?_
              refine LW.seq ?_
              refine LW.region ?_
              refine X.u (LU.moveS Is.rfl') rfl ?_
              refine X.u (LU.call (hfr) Tryd.func10 rfl rfl (Opds.cons Is.rfl' Opds.nil)) rfl ?_
              refine X.u (LU.call1 2 rfl (hvf) Tryd.func13 rfl rfl (Opds.cons Is.rfl' Opds.nil)) rfl ?_
              refine X.u (LU.moveR Is.rfl') rfl ?_
              refine X.u (LU.weak (LU.neq Is.rfl' Is.rfl') (asB (c := false) rfl (by simp))) rfl ?_
              refine X.u (LU.moveR Is.rfl') rfl ?_
              refine X.doF rfl rfl (LU.moveR (by exact Is.rfl')) rfl ?_
              refine X.doF rfl rfl (LU.nilEqS Tryd.underlying36 (by exact Is.rfl') (by exact Is.rfl')) rfl ?_
              refine X.doF rfl rfl (LU.moveR (by exact Is.rfl')) rfl ?_
              refine X.doF rfl rfl (LU.weak (LU.geq (by exact Is.rfl') (by exact Is.rfl')) (asB (c := false) rfl (by simp; omega))) rfl ?_
              refine X.doF rfl rfl (LU.weak (LU.boolne Tryd.underlying4 (by exact Is.rfl') (by exact Is.rfl')) (asB (c := false) rfl (by rfl))) rfl ?_
              refine X.u (LU.pickF Is.rfl' (by exact Is.rfl')) rfl ?_
              refine X.u (LU.moveR Is.rfl') rfl ?_
              refine X.doF rfl rfl (LU.moveR (by exact Is.rfl')) rfl ?_
              refine X.doF rfl rfl (LU.weak (LU.eql (by exact Is.rfl') (by exact Is.rfl')) (asB (c := true) rfl (by rfl))) rfl ?_
              refine X.doF rfl rfl (LU.moveR (by exact Is.rfl')) rfl ?_
              refine X.doF rfl rfl (LU.weak (LU.lss (by exact Is.rfl') (by exact Is.rfl')) (asB (c := true) rfl (by simp; omega))) rfl ?_
              refine X.doF rfl rfl (LU.weak (LU.boolne Tryd.underlying4 (by exact Is.rfl') (by exact Is.rfl')) (asB (c := false) rfl (by rfl))) rfl ?_
              refine X.u (LU.pickF Is.rfl' (by exact Is.rfl')) rfl ?_
              refine X.u (LU.moveR Is.rfl') rfl ?_
              refine X.doF rfl rfl (LU.moveR (by exact Is.rfl')) rfl ?_
              refine X.doF rfl rfl (LU.weak (LU.geq (by exact Is.rfl') (by exact Is.rfl')) (asB (c := false) rfl (by simp; omega))) rfl ?_
              refine X.doF rfl rfl (LU.moveR (by exact Is.rfl')) rfl ?_
              refine X.skipT rfl rfl rfl ?_
              refine X.skipT rfl rfl rfl ?_
              refine X.doF rfl rfl (LU.pickF (by exact Is.rfl') (by exact Is.rfl')) rfl ?_
              refine X.u (LU.pickF Is.rfl' (by exact Is.rfl')) rfl ?_
              refine LL.nil (after_code ?_)
              refine X.condF rfl ?_ ?_
              · rfl
              refine LW.skip (after_code ?_)
              refine LW.seq ?_
              refine X.drawM 35 rfl (by kernel_rfl) rfl ?_
              refine QD.u (LU.moveS Is.rfl') rfl ?_
              refine QD.u (LU.loadO 3 rfl ⟨Tryd.sizeOf26, Tryd.isAgg26⟩ Is.rfl' (Part.whole (by (simp; omega)))) rfl ?_
              refine QD.u (LU.call1 2 rfl (hh1) Tryd.func12 rfl rfl (Opds.cons Is.rfl' (Opds.cons Is.rfl' Opds.nil))) rfl ?_
              refine QD.u (LU.moveR Is.rfl') rfl ?_
              refine QD.u (LU.weak (LU.lss Is.rfl' Is.rfl') (asB (c := true) rfl (by simp; omega))) rfl ?_
              refine QD.u (LU.moveR Is.rfl') rfl ?_
              refine QD.doT rfl rfl (LU.loadO 3 rfl ⟨Tryd.sizeOf26, Tryd.isAgg26⟩ (by exact Is.rfl') (Part.whole (by (simp; omega)))) rfl ?_
              refine QD.doT rfl rfl (LU.moveS (by exact Is.rfl')) rfl ?_
              refine QD.doT rfl rfl (LU.call (hrh) Tryd.func11 rfl rfl (Opds.cons (by exact Is.rfl') Opds.nil)) rfl ?_
              refine QD.doT rfl rfl (LU.eqlH hhd hhl (by exact Is.rfl') (by exact Is.rfl')) rfl ?_
              refine QD.u (LU.pickT Is.rfl' (by exact Is.rfl')) rfl ?_
              refine QD.u (LU.weak (LU.booleq Tryd.underlying4 Is.rfl' Is.rfl') (asB (c := true) rfl (by simp; omega))) rfl ?_
              refine QD.u (LU.moveR Is.rfl') rfl ?_
              refine QD.doT rfl rfl (LU.moveS (by exact Is.rfl')) rfl ?_
              refine QD.doT rfl rfl (LU.moveS (by exact Is.rfl')) rfl ?_
              refine QD.doT rfl rfl (LU.call (hrh) Tryd.func11 rfl rfl (Opds.cons (by exact Is.rfl') Opds.nil)) rfl ?_
              refine QD.doT rfl rfl (LU.call1 2 rfl (hh2) Tryd.func12 rfl rfl (Opds.cons (by exact Is.rfl') (Opds.cons (by exact Is.rfl') Opds.nil))) rfl ?_
              refine QD.doT rfl rfl (LU.moveR (by exact Is.rfl')) rfl ?_
              refine QD.doT rfl rfl (LU.weak (LU.lss (by exact Is.rfl') (by exact Is.rfl')) (asB (c := true) rfl (by simp; omega))) rfl ?_
              refine QD.doT rfl rfl (LU.weak (LU.booleq Tryd.underlying4 (by exact Is.rfl') (by exact Is.rfl')) (asB (c := true) rfl (by simp; omega))) rfl ?_
              refine QD.u (LU.pickT Is.rfl' (by exact Is.rfl')) rfl ?_
              refine QD.u (LU.moveR Is.rfl') rfl ?_
              refine QD.doT rfl rfl (LU.moveR (by exact Is.rfl')) rfl ?_
              refine QD.doT rfl rfl (LU.nilEqS Tryd.underlying36 (by exact Is.rfl') (by exact Is.rfl')) rfl ?_
              refine QD.doT rfl rfl (LU.moveR (by exact Is.rfl')) rfl ?_
              refine QD.doF rfl rfl (LU.moveR (by exact Is.rfl')) rfl ?_
              refine QD.doF rfl rfl (LU.call1 0 rfl (entries_calls g l hv b o c hl4 hlp) Tryd.func17 rfl rfl (Opds.cons (by exact Is.rfl') Opds.nil)) rfl ?_
              refine QD.doF rfl rfl (LU.moveS (by exact Is.rfl')) rfl ?_
              refine QD.doF rfl rfl (LU.weak (LU.call (same_calls l l .unk .unk hl hl hlp hlp) Tryd.func14 rfl rfl (Opds.cons (by exact Is.rfl') (Opds.cons (by exact Is.rfl') Opds.nil))) (asB (c := true) rfl (by exact decide_eq_true rfl))) rfl ?_
              refine QD.doT rfl rfl (LU.pickF (by exact Is.rfl') (by exact Is.rfl')) rfl ?_
              refine QD.u (LU.pickT Is.rfl' (by exact Is.rfl')) rfl ?_
              refine QD.u (LU.moveR Is.rfl') rfl ?_
              refine QD.doT rfl rfl (LU.call1 2 rfl (lives19_calls) Tryd.func9 rfl rfl Opds.nil) rfl ?_
              refine QD.u (LU.pickT Is.rfl' (by exact Is.rfl')) rfl ?_
              refine QD.u (LU.assignR Is.rfl') rfl ?_
              refine QD.nil ?_
              refine LL.nil (after_code ?_)
              refine LW.ret (after_end ?_)
              refine X.ret (H' := [kw]) (Res.one (by exact IsR rfl)) (by repeat (first | exact HSub.refl _ | refine HSub.pick 2 rfl ?_ | refine HSub.drop ?_)) ?_
              exact ⟨rfl, rfl⟩
            · refine X.u (LU.moveT Is.rfl') rfl ?_
              refine X.u (LU.extract Is.rfl' rfl) rfl ?_
              refine X.u (LU.extract Is.rfl' rfl) rfl ?_
              refine X.u (LU.assignR Is.rfl') rfl ?_
              refine X.u (LU.assignR Is.rfl') rfl ?_
              refine LL.nil (after_code ?_)
              refine LW.seq ?_
              refine LW.seq ?_
              refine LW.region ?_
              refine X.u (LU.moveS Is.rfl') rfl ?_
              refine X.u (LU.call (hfr) Tryd.func10 rfl rfl (Opds.cons Is.rfl' Opds.nil)) rfl ?_
              refine X.u (LU.call1 0 rfl (hvf) Tryd.func13 rfl rfl (Opds.cons Is.rfl' Opds.nil)) rfl ?_
              refine X.u (LU.moveR Is.rfl') rfl ?_
              refine X.u (LU.weak (LU.neq Is.rfl' Is.rfl') (asB (c := false) rfl (by simp))) rfl ?_
              refine X.u (LU.moveR Is.rfl') rfl ?_
              refine X.doF rfl rfl (LU.moveR (by exact Is.rfl')) rfl ?_
              refine X.doF rfl rfl (LU.nilEqN Tryd.underlying36 (by exact Is.rfl') (by exact Is.rfl')) rfl ?_
              refine X.doF rfl rfl (LU.moveR (by exact Is.rfl')) rfl ?_
              refine X.doF rfl rfl (LU.weak (LU.geq (by exact Is.rfl') (by exact Is.rfl')) (asB (c := true) rfl (by simp; omega))) rfl ?_
              refine X.doF rfl rfl (LU.weak (LU.boolne Tryd.underlying4 (by exact Is.rfl') (by exact Is.rfl')) (asB (c := false) rfl (by rfl))) rfl ?_
              refine X.u (LU.pickF Is.rfl' (by exact Is.rfl')) rfl ?_
              refine X.u (LU.moveR Is.rfl') rfl ?_
              refine X.doF rfl rfl (LU.moveR (by exact Is.rfl')) rfl ?_
              refine X.doF rfl rfl (LU.weak (LU.eql (by exact Is.rfl') (by exact Is.rfl')) (asB (c := false) rfl (by rfl))) rfl ?_
              refine X.doF rfl rfl (LU.moveR (by exact Is.rfl')) rfl ?_
              refine X.doF rfl rfl (LU.weak (LU.lss (by exact Is.rfl') (by exact Is.rfl')) (asB (c := false) rfl (by simp; omega))) rfl ?_
              refine X.doF rfl rfl (LU.weak (LU.boolne Tryd.underlying4 (by exact Is.rfl') (by exact Is.rfl')) (asB (c := false) rfl (by rfl))) rfl ?_
              refine X.u (LU.pickF Is.rfl' (by exact Is.rfl')) rfl ?_
              refine X.u (LU.moveR Is.rfl') rfl ?_
              refine X.doF rfl rfl (LU.moveR (by exact Is.rfl')) rfl ?_
              refine X.doF rfl rfl (LU.weak (LU.geq (by exact Is.rfl') (by exact Is.rfl')) (asB (c := true) rfl (by simp; omega))) rfl ?_
              refine X.doF rfl rfl (LU.moveR (by exact Is.rfl')) rfl ?_
              refine X.doT rfl rfl (LU.moveR (by exact Is.rfl')) rfl ?_
              refine X.doT rfl rfl (LU.weak (LU.neq (by exact Is.rfl') (by exact Is.rfl')) (asB (c := false) rfl (by rfl))) rfl ?_
              refine X.doF rfl rfl (LU.pickT (by exact Is.rfl') (by exact Is.rfl')) rfl ?_
              refine X.u (LU.pickF Is.rfl' (by exact Is.rfl')) rfl ?_
              refine LL.nil (after_code ?_)
              refine X.condF rfl ?_ ?_
              · rfl
              refine LW.skip (after_code ?_)
              refine LW.seq ?_
              refine X.drawM 35 rfl (by kernel_rfl) rfl ?_
              refine QD.u (LU.moveS Is.rfl') rfl ?_
              refine QD.u (LU.loadO 1 rfl ⟨Tryd.sizeOf26, Tryd.isAgg26⟩ Is.rfl' (Part.whole (by (simp; omega)))) rfl ?_
              refine QD.u (LU.call1 0 rfl (hh1) Tryd.func12 rfl rfl (Opds.cons Is.rfl' (Opds.cons Is.rfl' Opds.nil))) rfl ?_
              refine QD.u (LU.moveR Is.rfl') rfl ?_
              refine QD.u (LU.weak (LU.lss Is.rfl' Is.rfl') (asB (c := false) rfl (by simp; omega))) rfl ?_
              refine QD.u (LU.moveR Is.rfl') rfl ?_
              refine QD.skipT rfl rfl rfl ?_
              refine QD.skipT rfl rfl rfl ?_
              refine QD.skipT rfl rfl rfl ?_
              refine QD.skipT rfl rfl rfl ?_
              refine QD.u (LU.pickF Is.rfl' (by exact Is.rfl')) rfl ?_
              refine QD.u (LU.weak (LU.booleq Tryd.underlying4 Is.rfl' Is.rfl') (asB (c := true) rfl (by simp; omega))) rfl ?_
              refine QD.u (LU.moveR Is.rfl') rfl ?_
              refine QD.doT rfl rfl (LU.moveS (by exact Is.rfl')) rfl ?_
              refine QD.doT rfl rfl (LU.moveS (by exact Is.rfl')) rfl ?_
              refine QD.doT rfl rfl (LU.call (hrh) Tryd.func11 rfl rfl (Opds.cons (by exact Is.rfl') Opds.nil)) rfl ?_
              refine QD.doT rfl rfl (LU.call1 0 rfl (hh2) Tryd.func12 rfl rfl (Opds.cons (by exact Is.rfl') (Opds.cons (by exact Is.rfl') Opds.nil))) rfl ?_
              refine QD.doT rfl rfl (LU.moveR (by exact Is.rfl')) rfl ?_
              refine QD.doT rfl rfl (LU.weak (LU.lss (by exact Is.rfl') (by exact Is.rfl')) (asB (c := false) rfl (by simp; omega))) rfl ?_
              refine QD.doT rfl rfl (LU.weak (LU.booleq Tryd.underlying4 (by exact Is.rfl') (by exact Is.rfl')) (asB (c := true) rfl (by simp; omega))) rfl ?_
              refine QD.u (LU.pickT Is.rfl' (by exact Is.rfl')) rfl ?_
              refine QD.u (LU.moveR Is.rfl') rfl ?_
              refine QD.doT rfl rfl (LU.moveR (by exact Is.rfl')) rfl ?_
              refine QD.doT rfl rfl (LU.nilEqN Tryd.underlying36 (by exact Is.rfl') (by exact Is.rfl')) rfl ?_
              refine QD.doT rfl rfl (LU.moveR (by exact Is.rfl')) rfl ?_
              refine QD.skipF rfl rfl rfl ?_
              refine QD.skipF rfl rfl rfl ?_
              refine QD.skipF rfl rfl rfl ?_
              refine QD.skipF rfl rfl rfl ?_
              refine QD.doT rfl rfl (LU.pickT (by exact Is.rfl') (by exact Is.rfl')) rfl ?_
              refine QD.u (LU.pickT Is.rfl' (by exact Is.rfl')) rfl ?_
              refine QD.u (LU.moveR Is.rfl') rfl ?_
              refine QD.doT rfl rfl (LU.call1 0 rfl (lives19_calls) Tryd.func9 rfl rfl Opds.nil) rfl ?_
              refine QD.u (LU.pickT Is.rfl' (by exact Is.rfl')) rfl ?_
              refine QD.u (LU.assignR Is.rfl') rfl ?_
              refine QD.nil ?_
              refine LL.nil (after_code ?_)
              refine LW.ret (after_end ?_)
              refine X.ret (H' := [kw]) (Res.one (by exact IsR rfl)) (by repeat (first | exact HSub.refl _ | refine HSub.pick 0 rfl ?_ | refine HSub.drop ?_)) ?_
              exact ⟨rfl, rfl⟩
theorem u8s_of : ∀ (n : Nat) (es : List LV) , es.length = n → (∀ c ∈ es, QInt .u8 [c]) → ∃ l : List UInt8, es = u8s l
  | _, [], _, _ => ⟨[], rfl⟩
  | n + 1, e :: es, hl, h => by
    obtain ⟨l, hl2⟩ := u8s_of n es (by simpa using hl) (fun c hc => h c (by simp [hc]))
    obtain ⟨m, hm, hw⟩ := h e (by simp)
    have hb := wf_u8 hw
    refine ⟨UInt8.ofNat m.toNat :: l, ?_⟩
    rw [hl2]
    simp only [List.cons.injEq, and_true] at hm
    rw [hm]
    show _ = LV.raw (.int .u8 ((UInt8.ofNat m.toNat).toNat : Int)) :: u8s l
    congr 2
    simp; omega
end Go.Proofs.YtpcfpkfchoelcaaDoor
