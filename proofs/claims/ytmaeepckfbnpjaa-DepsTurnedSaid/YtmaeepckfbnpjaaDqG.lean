/- What is handed in; orders, what is told, the mirror. -/
import Derived.Test.YtmaeepckfbnpjaaDqF
import Derived.Test.YtmaeepckfbnpjaaLgB
set_option linter.unusedVariables false
set_option linter.unusedSimpArgs false
namespace Go.Proofs.Ytmaeepckfbnpjaa
open Go.RowKit Go.L Go.Lib
attribute [local irreducible] LL LW LO
theorem reach_lt : reachBytes < 140737488355328 := by decide
theorem byte_flat : ∀ l : List UInt8, (byteEls l).flatten = l.map fun b => LV.raw (.int .u8 b.toNat)
  | [] => rfl
  | b :: l => by
    have := byte_flat l
    show _ :: (byteEls l).flatten = _
    rw [this]; rfl
theorem hs_of {x : List LV} (h : QArr 32 1 (QInt .u8) x) : ∃ a : Hs, x = hsL a := by
  obtain ⟨es, rfl, hl, he⟩ := h
  obtain ⟨l, rfl⟩ := decode_bytes (fun c hc => (he c hc).2)
  exact ⟨⟨l, by simpa [byteEls] using hl⟩, byte_flat l⟩
abbrev QItem : List LV → Prop := QCons 32 (QArr 32 1 (QInt .u8)) (QCons 1 (QSl 32 32 (QArr 32 1 (QInt .u8))) QNil)
def ItIn (x : It) : Prop := x.deps.length * 32 ≤ reachBytes
theorem it_of {c : List LV} (h : QItem c) : ∃ x : It, c = itL x ∧ ItIn x := by
  obtain ⟨_, _, rfl, _, h1, _, _, rfl, _, ⟨es, rfl, h2, h3⟩, rfl⟩ := h
  obtain ⟨a, rfl⟩ := hs_of h1
  obtain ⟨ds, rfl, _⟩ := Go.L.decode hsL (fun _ => True) (fun c hc => by obtain ⟨x, e⟩ := hs_of (h2 c hc); exact ⟨x, e, trivial⟩)
  exact ⟨⟨a, ds⟩, rfl, by unfold ItIn; simpa using h3⟩
theorem its_of {x : List (List LV)} (h : ∀ c ∈ x, QItem c) : ∃ l : List It, x = its l ∧ ∀ e ∈ l, ItIn e := Go.L.decode itL ItIn fun c hc => it_of (h c hc)
theorem in_lt {l : List It} (h : ∀ e ∈ l, ItIn e) : ∀ x ∈ l, x.deps.length < 140737488355328 := fun x hx => by
  have := h x hx
  unfold ItIn at this
  have := reach_lt
  omega
theorem orderS_len (l : List It) : (orderS l).1.length ≤ l.length := by
  have hgo : ∀ (f : Nat) (out : List Hs), (goO l f out).length ≤ out.length + f := fun f => by
    induction f with
    | zero => intro out; exact Nat.le_refl _
    | succ f ih =>
      intro out
      show (match nextO l out with | none => out | some h => goO l f (out ++ [h])).length ≤ _
      cases nextO l out with
      | none => show out.length ≤ _; omega
      | some h => have := ih (out ++ [h]); rw [List.length_append, List.length_singleton] at this; show (goO l f (out ++ [h])).length ≤ _; omega
  have := hgo l.length []
  unfold orderS
  repeat' split
  all_goals first | exact Nat.zero_le _ | (simp at this; exact this)
theorem missS_len (l : List It) : (missS l).length ≤ totalD l := by
  unfold missS
  split
  · exact Nat.zero_le _
  · exact Nat.le_trans (sortU_len _) (missO_len l l)
theorem same_calls (a : List Hs) (ka kb : Cap) (ha : a.length < 140737488355328) : LCalls Try.prog 13 [.sl 32 (hss a) ka, .sl 32 (hss a) kb] [] (fun r H' => r = bl true ∧ H' = []) := (hashes_calls a a ka kb ha ha).mono fun r H' ⟨h1, h2⟩ => ⟨by rw [h1, decide_eq_true rfl], h2⟩
set_option maxHeartbeats 2000000 in
set_option maxRecDepth 100000 in
theorem do_calls (l : List It) (k : Cap) (hl : l.length < 140737488355328) (hin : ∀ x ∈ l, x.deps.length < 140737488355328) : LCalls Try.prog 3 [.sl 33 (its l) k] [] (fun r _ => r = .raw (.bool true)) := by
  have hol := orderS_len l
  obtain ⟨O, hO⟩ : ∃ O, O = orderS l := ⟨_, rfl⟩
  refine LCalls.of Try.func3 rfl Try.ntmps3 Try.results3 rfl (fun Rf => ?_)
  refine LW.seq ?_
  refine LW.region ?_
  refine X.u (LU.assignR Is.rfl') rfl ?_
  refine LL.nil (after_code ?_)
  refine LW.seq ?_
  refine LW.seq ?_
  refine LW.region ?_
  refine X.u (LU.moveS Is.rfl') rfl ?_
  refine X.u (LU.call (light_calls l k hl hin) Try.func8 rfl rfl (Opds.cons Is.rfl' Opds.nil)) rfl ?_
  refine X.u (LU.not Is.rfl') rfl ?_
  refine LL.nil (after_code ?_)
  refine X.cond rfl (fun h1 => ?_) (fun h1 => ?_)
  · have h1 : lightS l = false := by simpa using h1
    refine LW.seq ?_
    refine LW.region ?_
    refine X.u (LU.call (lives_calls) Try.func9 rfl rfl Opds.nil) rfl ?_
    refine X.u (LU.assignR Is.rfl') rfl ?_
    refine LL.nil (after_code ?_)
    refine LW.ret (ret_code (after_end ?_))
    refine X.ret (H' := []) (Res.one (by exact IsR rfl)) (by repeat (exact HSub.refl _)) ?_
    exact rfl
  · have h1 : lightS l = true := by simpa using h1
    have h2 : totalD l ≤ 400 ∧ l.length ≤ 300 := by simpa [lightS] using h1
    obtain ⟨hd1, hl1⟩ := h2
    have hoc : LCalls Try.prog 11 [.sl 33 (its l) .unk] [] (fun r H' => r = .tup [.sl 32 (hss O.1) .unk, i64 (O.2 : Nat)] ∧ H' = []) := by rw [hO]; exact order_calls l .unk (by omega) (by omega)
    have hrc : LCalls Try.prog 12 [.sl 33 (its l) k] [] (fun r H' => r = .tup [.sl 32 (hss O.1) .unk, i64 (O.2 : Nat)] ∧ H' = []) := by rw [hO]; exact rorder_calls l k (by omega) (by omega)
    have hsc := same_calls O.1 .unk .unk (by rw [hO]; omega)
    refine LW.skip (after_code ?_)
    refine LW.seq ?_
    refine LW.region ?_
    refine X.u (LU.moveS Is.rfl') rfl ?_
    refine X.u (LU.call (copies_calls l k hl1 hd1) Try.func10 rfl rfl (Opds.cons Is.rfl' Opds.nil)) rfl ?_
    refine X.u (LU.assignS Is.rfl') rfl ?_
    refine LL.nil (after_code ?_)
    refine LW.seq ?_
    refine LW.region ?_
    refine X.u (LU.moveS Is.rfl') rfl ?_
    refine X.u (LU.call (hoc) Try.func11 rfl rfl (Opds.cons Is.rfl' Opds.nil)) rfl ?_
    refine X.u (LU.moveT Is.rfl') rfl ?_
    refine X.u (LU.extract Is.rfl' rfl) rfl ?_
    refine X.u (LU.extract Is.rfl' rfl) rfl ?_
    refine X.u (LU.assignS Is.rfl') rfl ?_
    refine X.u (LU.assignR Is.rfl') rfl ?_
    refine LL.nil (after_code ?_)
    refine LW.seq ?_
    refine LW.region ?_
    refine X.u (LU.moveS Is.rfl') rfl ?_
    refine X.u (LU.call (hrc) Try.func12 rfl rfl (Opds.cons Is.rfl' Opds.nil)) rfl ?_
    refine X.u (LU.moveT Is.rfl') rfl ?_
    refine X.u (LU.extract Is.rfl' rfl) rfl ?_
    refine X.u (LU.extract Is.rfl' rfl) rfl ?_
    refine X.u (LU.assignS Is.rfl') rfl ?_
    refine X.u (LU.assignR Is.rfl') rfl ?_
    refine LL.nil (after_code ?_)
    refine LW.seq ?_
    refine LW.seq ?_
    refine LW.region ?_
    refine X.u (LU.moveS Is.rfl') rfl ?_
    refine X.u (LU.moveS Is.rfl') rfl ?_
    refine X.u (LU.call (hsc) Try.func13 rfl rfl (Opds.cons Is.rfl' (Opds.cons Is.rfl' Opds.nil))) rfl ?_
    refine X.u (LU.not Is.rfl') rfl ?_
    refine X.u (LU.moveR Is.rfl') rfl ?_
    refine X.doF rfl rfl (LU.moveR (by exact Is.rfl')) rfl ?_
    refine X.doF rfl rfl (LU.moveR (by exact Is.rfl')) rfl ?_
    refine X.doF rfl rfl (LU.weak (LU.neq (by exact Is.rfl') (by exact Is.rfl')) (asB (c := false) rfl (by simp))) rfl ?_
    refine X.u (LU.pickF Is.rfl' (by exact Is.rfl')) rfl ?_
    refine LL.nil (after_code ?_)
    refine X.condF rfl ?_ ?_
    · rfl
    refine LW.skip (after_code ?_)
    refine LW.seq ?_
    refine LW.seq ?_
    refine LW.region ?_
    refine X.u (LU.moveS Is.rfl') rfl ?_
    refine X.u (LU.lenN Try.underlying22 Is.rfl' (by (simp only [Option.getD_some, Option.getD_none, byteEls_length, intEls_length, List.length_append, List.length_cons, List.length_nil, List.length_map, List.length_drop, List.length_take, Int.toNat_natCast]; rfl))) rfl ?_
    refine X.u (LU.moveR Is.rfl') rfl ?_
    refine LL.nil (after_code ?_)
    refine LW.block ?_
    refine X.loopK (α := Nat) (fun i => [(36, i64 i)]) [0, 3, 35] (fun _ => _) (fun i => i ≤ l.length) (fun i => l.length - i) (0) (EnvLe.cons (by rfl) (EnvLe.nil)) (HSub.refl _) ?_ ?_
    · exact Nat.zero_le _
    · rintro i hI
      refine LW.seq ?_
      refine LW.region ?_
      refine X.u (LU.lss Is.rfl' Is.rfl') rfl ?_
      refine LL.nil (after_code ?_)
      refine LW.seq ?_
      refine X.cond rfl (fun h9 => ?_) (fun h9 => ?_)
      · try have h9 := of_decide_eq_true h9
        refine LW.skip (after_code ?_)
        refine LW.seq ?_
        refine LW.block ?_
        refine LW.seq ?_
        refine LW.region ?_
        refine X.u (LU.moveR Is.rfl') rfl ?_
        refine X.u (LU.assignR Is.rfl') rfl ?_
        refine LL.nil (after_code ?_)
        refine LW.seq ?_
        obtain ⟨x, hx⟩ := at_lt (show i < l.length by omega)
        have hxl := it_len x
        have hxn : x.name.1.length = 32 := x.name.2
        have hxin := hin x (List.mem_of_getElem? hx)
        have hsx := same_calls x.deps .unk .unk hxin
        refine X.drawM 25 rfl (by kernel_rfl) rfl ?_
        refine QD.u (LU.moveS Is.rfl') rfl ?_
        refine QD.u (LU.moveR Is.rfl') rfl ?_
        refine QD.u (LU.at Try.underlying22 ⟨Try.sizeOf36, Try.isAgg36⟩ Is.rfl' Is.rfl' (by omega) (its_at hx) (it_ne x)) rfl ?_
        refine QD.u (LU.fieldP Try.underlying36 rfl ⟨Try.sizeOf34, Try.isAgg34⟩ (by decide) Is.rfl' (by (simp; omega))) rfl ?_
        refine QD.u (LU.weak (LU.load ⟨Try.sizeOf34, Try.isAgg34⟩ Is.rfl' (by (simp; omega)) (Part.whole (by (simp; omega)))) (Is.of (y := .agg (hsL x.name)) (congrArg LV.agg (it_name x)))) rfl ?_
        refine QD.u (LU.moveS Is.rfl') rfl ?_
        refine QD.u (LU.moveR Is.rfl') rfl ?_
        refine QD.u (LU.at Try.underlying22 ⟨Try.sizeOf36, Try.isAgg36⟩ Is.rfl' Is.rfl' (by omega) (its_at hx) (it_ne x)) rfl ?_
        refine QD.u (LU.fieldP Try.underlying36 rfl ⟨Try.sizeOf34, Try.isAgg34⟩ (by decide) Is.rfl' (by (simp; omega))) rfl ?_
        refine QD.u (LU.weak (LU.load ⟨Try.sizeOf34, Try.isAgg34⟩ Is.rfl' (by (simp; omega)) (Part.whole (by (simp; omega)))) (Is.of (y := .agg (hsL x.name)) (congrArg LV.agg (it_name x)))) rfl ?_
        refine QD.u (LU.weak (LU.neqHs Try.underlying34 Try.underlying5 Try.sizeOf5 (by kernel_rfl) Is.rfl' Is.rfl') (asB (c := false) rfl (by simp))) rfl ?_
        refine QD.u (LU.moveR Is.rfl') rfl ?_
        refine QD.doF rfl rfl (LU.moveS (by exact Is.rfl')) rfl ?_
        refine QD.doF rfl rfl (LU.moveR (by exact Is.rfl')) rfl ?_
        refine QD.doF rfl rfl (LU.at Try.underlying22 ⟨Try.sizeOf36, Try.isAgg36⟩ (by exact Is.rfl') (by exact Is.rfl') (by omega) (its_at hx) (it_ne x)) rfl ?_
        refine QD.doF rfl rfl (LU.weak (LU.fieldP Try.underlying36 rfl ⟨Try.sizeOf26, Try.isAgg26⟩ (by decide) (by exact Is.rfl') (by (simp; omega))) (Is.of (y := .pin [Hss x.deps]) (congrArg LV.pin (it_pin x)))) rfl ?_
        refine QD.doF rfl rfl (LU.load ⟨Try.sizeOf26, Try.isAgg26⟩ (by exact Is.rfl') (by (simp; done)) (Part.one rfl)) rfl ?_
        refine QD.doF rfl rfl (LU.moveS (by exact Is.rfl')) rfl ?_
        refine QD.doF rfl rfl (LU.moveR (by exact Is.rfl')) rfl ?_
        refine QD.doF rfl rfl (LU.at Try.underlying22 ⟨Try.sizeOf36, Try.isAgg36⟩ (by exact Is.rfl') (by exact Is.rfl') (by omega) (its_at hx) (it_ne x)) rfl ?_
        refine QD.doF rfl rfl (LU.weak (LU.fieldP Try.underlying36 rfl ⟨Try.sizeOf26, Try.isAgg26⟩ (by decide) (by exact Is.rfl') (by (simp; omega))) (Is.of (y := .pin [Hss x.deps]) (congrArg LV.pin (it_pin x)))) rfl ?_
        refine QD.doF rfl rfl (LU.load ⟨Try.sizeOf26, Try.isAgg26⟩ (by exact Is.rfl') (by (simp; done)) (Part.one rfl)) rfl ?_
        refine QD.doF rfl rfl (LU.call (hsx) Try.func13 rfl rfl (Opds.cons (by exact Is.rfl') (Opds.cons (by exact Is.rfl') Opds.nil))) rfl ?_
        refine QD.doF rfl rfl (LU.not (by exact Is.rfl')) rfl ?_
        refine QD.u (LU.pickF Is.rfl' (by exact Is.rfl')) rfl ?_
        refine QD.nil ?_
        refine LL.nil (after_code ?_)
        refine X.condF rfl ?_ ?_
        · rfl
        refine LW.skip (after_blk (after_code ?_))
        refine LW.region ?_
        refine X.u (LU.addN Is.rfl' Is.rfl' (wrap_i64 (by omega) (by omega))) rfl ?_
        refine X.u (LU.moveR Is.rfl') rfl ?_
        refine LL.nil (after_rnd ?_)
        refine X.next (i + 1) rfl (EnvLe.cons (by rfl) (EnvLe.nil)) (Keeps.cons (by exact Eq.trans (b := .sl _ _ _) rfl rfl) (Keeps.cons (by exact Eq.trans (b := .sl _ _ _) rfl rfl) (Keeps.cons (by exact Eq.trans (b := .raw _) rfl rfl) (Keeps.nil)))) (HSub.refl _) ?_ ?_
        · omega
        · omega
      · try have h9 := of_decide_eq_false h9
        refine LW.exit (exit_code (exit_rnd (exit_blk (after_code ?_))))
        refine LW.seq ?_
        refine LW.region ?_
        refine X.u (LU.call (lives_calls) Try.func9 rfl rfl Opds.nil) rfl ?_
        refine X.u (LU.assignR Is.rfl') rfl ?_
        refine LL.nil (after_code ?_)
        refine LW.ret (after_end ?_)
        refine X.ret (H' := []) (Res.one (by exact IsR rfl)) (by repeat (exact HSub.refl _)) ?_
        exact rfl
theorem DepsOrders_row (es : List (List LV)) (hq : ∀ c ∈ es, QItem c) (hb : es.length * 56 ≤ reachBytes) : LCalls Try.prog 3 [.sl 33 es .unk] [] (fun r _ => r = .raw (.bool true)) := by
  obtain ⟨l, rfl, hl⟩ := its_of hq
  exact do_calls l .unk (by have := reach_lt; simp at hb; omega) (in_lt hl)
end Go.Proofs.Ytmaeepckfbnpjaa
