/- A rule of the very path decides; no answer hangs on the order of the rules. -/
import Derived.Test.YthifbkddfjohbaaAcH
set_option linter.unusedVariables false
set_option linter.unusedSimpArgs false
namespace Go.Proofs.Ythifbkddfjohbaa
open Go.RowKit Go.L
theorem under_len : ∀ (p s : List UInt8), under p s = true → p.length ≤ s.length ∧ (p.length = s.length → p = s)
  | [], [], _ => by simp
  | [], d :: s, _ => by simp
  | c :: p, [], h => by simp [under] at h
  | c :: p, d :: s, h => by
    simp only [under, Bool.and_eq_true, decide_eq_true_eq] at h
    obtain ⟨h1, h2⟩ := under_len p s h.2
    exact ⟨by simp only [List.length_cons]; omega, fun e => by rw [h.1, h2 (by simp only [List.length_cons] at e; omega)]⟩
theorem under_self' : ∀ (a : List UInt8), under a a = true
  | [] => rfl
  | c :: a => by simp [under, under_self' a]
theorem covers_len {p s : List UInt8} (h : coversB p s = true) : p.length ≤ s.length ∧ (p.length = s.length → p = s) := by
  simp only [coversB, Bool.and_eq_true, Bool.or_eq_true, decide_eq_true_eq] at h
  obtain ⟨h1, h2 | h2⟩ := h
  · subst h2
    refine ⟨by simp, fun e => ?_⟩
    have : s = [] := List.length_eq_zero_iff.1 (by simpa using e.symm)
    rw [this]
  · exact under_len p s h2.2
abbrev nearR (p : List UInt8) (right : Int) (deny : Bool) : Rl := ⟨[42], [], p, right, deny⟩
theorem near_match {p : List UInt8} {right : Int} {deny : Bool} {s : Sb} {ch : List UInt8} (hb : badAsk p right = false) : matchB (nearR p right deny) s ch p right = true := by
  unfold badAsk at hb
  rw [Bool.or_eq_false_iff] at hb
  obtain ⟨h1, h2⟩ := hb
  have hp : pathB p = true := by simpa using h1
  have hw : whoB [42] = true := by decide
  have hm : meansB (nearR p right deny) s = true := by
    unfold meansB
    rw [if_neg (by show ¬ headC 58 [42] = [117]; decide), if_neg (by show ¬ headC 58 [42] = [116]; decide)]
  have hr : (decide (right = 1) || decide (right = 2)) = true := by
    cases h3 : decide (right = 1) <;> cases h4 : decide (right = 2) <;> simp_all
  unfold matchB rightB
  rw [hm, hw, hr]
  simp [coversB, hp, under_self']
abbrev nearF (s : Sb) (ch p : List UInt8) (right : Int) (x : Rl) : Bool := (x.deny && decide (x.pre = p)) && matchB x s ch p right
theorem near_law {l : List Rl} {p : List UInt8} {right : Int} {deny : Bool} {s : Sb} {ch : List UInt8} (hb : badAsk p right = false) : decideB (l ++ [nearR p right deny]) s ch p right = !(deny || l.any (nearF s ch p right)) := by
  have hm := near_match (deny := deny) (s := s) (ch := ch) hb
  have hc : ∀ x, matchB x s ch p right = true → coversB x.pre p = true := fun x hx => by
    simp only [matchB, Bool.and_eq_true] at hx
    exact hx.1.2
  rw [decide_m hb (m := p.length) (fun y hy hmy => by have := (covers_len (hc y hmy)).1; omega) ⟨_, by simp, hm, rfl⟩]
  congr 1
  rw [List.any_append, Bool.or_comm]
  congr 1
  · simp [hm]
  · rw [Bool.eq_iff_iff, List.any_eq_true, List.any_eq_true]
    constructor
    · rintro ⟨y, hy, hq⟩
      simp only [Bool.and_eq_true, decide_eq_true_eq] at hq
      refine ⟨y, hy, ?_⟩
      have := (covers_len (hc y hq.1.1)).2 (by omega)
      simp [nearF, hq.2, hq.1.1, this]
    · rintro ⟨y, hy, hq⟩
      simp only [nearF, Bool.and_eq_true, decide_eq_true_eq] at hq
      refine ⟨y, hy, ?_⟩
      simp [hq.2, hq.1.1, hq.1.2]
theorem any_step {l : List Rl} {f : Rl → Bool} {i : Nat} {x : Rl} {d : Bool} (h : l[i]? = some x) : ((d || (l.take i).any f) || f x) = (d || (l.take (i + 1)).any f) := by
  rw [take_snoc h, List.any_append, Bool.or_assoc]; simp
theorem ask_of' {c : List LV} (h : QAsk c) : ∃ a : Ak, c = aL a ∧ SbOk a.s ∧ a.s.k = .unk ∧ a.p.length ≤ reachBytes := by
  obtain ⟨_, _, rfl, _, ⟨_, _, rfl, _, ⟨u, rfl, hu⟩, _, _, rfl, _, ⟨es, rfl, hes, hb⟩, _, _, rfl, _, ⟨ro, rfl, _⟩, rfl⟩, _, _, rfl, _, ⟨ch, rfl, hch⟩, _, _, rfl, _, ⟨p, rfl, hp⟩, _, _, rfl, _, ⟨n, rfl, _⟩, rfl⟩ := h
  obtain ⟨ts, rfl, hts⟩ := strs_of es hes
  exact ⟨⟨⟨u, ts, .unk, ro⟩, ch, p, n⟩, rfl, ⟨hu, hts, by simpa using hb⟩, rfl, hp⟩
theorem rl_near (a : Ak) (deny : Bool) (h : a.p.length ≤ reachBytes) : RlOk (nearR a.p a.right deny) := ⟨by show ([42] : List UInt8).length ≤ reachBytes; decide, by show ([] : List UInt8).length ≤ reachBytes; decide, h⟩
theorem bad_of {x : Bool} {p : List UInt8} {right : Int} (h : ((x || !pathB p) || (!decide (right = 1) && !decide (right = 2))) = false) : badAsk p right = false := by
  rw [Bool.or_eq_false_iff, Bool.or_eq_false_iff] at h
  unfold badAsk
  rw [Bool.or_eq_false_iff]
  exact ⟨h.1.2, h.2⟩
set_option maxHeartbeats 4000000 in
set_option maxRecDepth 100000 in
theorem an_calls (l : List Rl) (k : Cap) (a : Ak) (deny : Bool) (hl : ∀ x ∈ l, RlOk x) (hb : l.length * 64 ≤ reachBytes) (hs : SbOk a.s) (hp : a.p.length ≤ reachBytes) : LCalls Try.prog 7 [Rls l k, .agg (aL a), bl deny] [] (fun r _ => r = .raw (.bool true)) := by
  have hrl := reach_lt
  have hro := rl_near a deny hp
  have hl1 : LOk (l ++ [nearR a.p a.right deny]) := LOk.snoc hl hb hro
  have hl3 : LOk l := ⟨hl, by omega⟩
  refine LCalls.of Try.func7 rfl Try.ntmps7 Try.results7 rfl (fun Rf => ?_)
  refine LW.seq ?_
  refine LW.region ?_
  refine X.act (X.box rfl Is.rfl' (by exact Cells.agg) (fun b4 => ?_))
  refine X.u (LU.assignR Is.rfl') rfl ?_
  refine LL.nil (after_code ?_)
  refine LW.seq ?_
  refine LW.seq ?_
  refine LW.region ?_
  refine X.u (LU.moveS Is.rfl') rfl ?_
  refine X.u (LU.loadO 0 rfl ⟨Try.sizeOf27, Try.isAgg27⟩ Is.rfl' (Part.whole (by (simp; done)))) rfl ?_
  refine X.u (LU.call (light_calls l k a hl3 hs) Try.func14 rfl rfl (Opds.cons Is.rfl' (Opds.cons Is.rfl' Opds.nil))) rfl ?_
  refine X.u (LU.not Is.rfl') rfl ?_
  refine X.u (LU.moveR Is.rfl') rfl ?_
  refine X.gF rfl rfl (fun hg => LU.fieldO Try.underlying27 rfl Try.sizeOf9 (by decide) (by exact Is.rfl')) rfl ?_
  refine X.gF rfl rfl (fun hg => LU.loadO 0 rfl ⟨Try.sizeOf9, Try.isAgg9⟩ (by exact Is.whenN hg) (Part.one rfl)) rfl ?_
  refine X.gF rfl rfl (fun hg => LU.call (path_calls a.p) Try.func23 rfl rfl (Opds.cons (by exact Is.whenN hg) Opds.nil)) rfl ?_
  refine X.gF rfl rfl (fun hg => LU.not (by exact Is.whenN hg)) rfl ?_
  refine X.u (LU.pickOr Is.rfl' Is.rfl' (fun hq => (by exact Is.whenN hq))) rfl ?_
  refine X.u (LU.moveR Is.rfl') rfl ?_
  refine X.gF rfl rfl (fun hg => LU.fieldO Try.underlying27 rfl Try.sizeOf3 (by decide) (by exact Is.rfl')) rfl ?_
  refine X.gF rfl rfl (fun hg => LU.loadO 0 rfl ⟨Try.sizeOf3, Try.isAgg3⟩ (by exact Is.whenN hg) (Part.one rfl)) rfl ?_
  refine X.gF rfl rfl (fun hg => LU.neq (by exact Is.whenN hg) (by exact Is.rfl')) rfl ?_
  refine X.gF rfl rfl (fun hg => LU.moveR (by exact Is.whenN hg)) rfl ?_
  refine X.gT2 rfl rfl (fun hg0 hg => LU.fieldO Try.underlying27 rfl Try.sizeOf3 (by decide) (by exact Is.rfl')) rfl ?_
  refine X.gT2 rfl rfl (fun hg0 hg => LU.loadO 0 rfl ⟨Try.sizeOf3, Try.isAgg3⟩ (by exact Is.whenE (by rw [hg0, hg]; rfl)) (Part.one rfl)) rfl ?_
  refine X.gT2 rfl rfl (fun hg0 hg => LU.neq (by exact Is.whenE (by rw [hg0, hg]; rfl)) (by exact Is.rfl')) rfl ?_
  refine X.gF rfl rfl (fun hg => LU.pickAnd (by exact Is.whenN hg) (fun hq => (by exact Is.whenE (by rw [hg, hq]; rfl))) (by exact Is.rfl')) rfl ?_
  refine X.u (LU.pickOr Is.rfl' Is.rfl' (fun hq => (by exact Is.whenN hq))) rfl ?_
  refine LL.nil (after_code ?_)
  refine X.cond rfl (fun h1 => ?_) (fun h1 => ?_)
  · try have h1 := of_decide_eq_true h1
    refine LW.seq ?_
    refine LW.region ?_
    refine X.u (LU.call (lives_calls) Try.func15 rfl rfl Opds.nil) rfl ?_
    refine X.u (LU.assignR Is.rfl') rfl ?_
    refine LL.nil (after_code ?_)
    refine LW.ret (ret_code (after_end ?_))
    refine X.ret (H' := []) (Res.one (by exact IsR rfl)) (by repeat (first | exact HSub.refl _ | refine HSub.pick 0 rfl ?_ | refine HSub.pick 1 rfl ?_ | refine HSub.pick 2 rfl ?_ | refine HSub.pick 3 rfl ?_ | refine HSub.pick 4 rfl ?_ | refine HSub.drop ?_)) ?_
    exact rfl
  · have hba : badAsk a.p a.right = false := bad_of h1
    refine LW.skip (after_code ?_)
    refine LW.seq ?_
    refine LW.region ?_
    refine X.u (LU.fieldO Try.underlying27 rfl Try.sizeOf9 (by decide) Is.rfl') rfl ?_
    refine X.u (LU.loadO 0 rfl ⟨Try.sizeOf9, Try.isAgg9⟩ Is.rfl' (Part.one rfl)) rfl ?_
    refine X.u (LU.fieldO Try.underlying27 rfl Try.sizeOf3 (by decide) Is.rfl') rfl ?_
    refine X.u (LU.loadO 0 rfl ⟨Try.sizeOf3, Try.isAgg3⟩ Is.rfl' (Part.one rfl)) rfl ?_
    refine X.u (LU.moveR Is.rfl') rfl ?_
    refine X.u (LU.weak (LU.build (places := #[(0, 1), (1, 1), (2, 1), (3, 1), (4, 1)]) Try.underlying31 Try.zeroValue31 (ones rfl) (by intro w; simp [Try.sizeOf3, Try.sizeOf4, Try.sizeOf9]) (Parts.cons Is.rfl' (by exact Cells.raw rfl) (Parts.cons Is.rfl' (by exact Cells.raw rfl) (Parts.cons Is.rfl' (by exact Cells.raw rfl) (Parts.cons Is.rfl' (by exact Cells.raw rfl) Parts.nil)))) rfl) (Is.of (y := .agg (rL (nearR a.p a.right deny))) (rfl))) rfl ?_
    refine X.act (X.alloc rfl Try.zeroValue31 (by exact Cells.rawagg (by decide)) (fun b7 => ?_))
    refine X.act (X.store 0 rfl Try.sizeOf31 Is.rfl' Is.rfl' (by exact Cells.agg) (by (simp; done)) (by exact Nat.le_of_ble_eq_true rfl) ?_)
    refine LL.nil (after_code ?_)
    refine LW.seq ?_
    refine X.wcells (ys := rL (nearR a.p a.right deny)) (putAt_all (by simp [raws])) ?_
    refine LW.region ?_
    refine X.u (LU.moveR Is.rfl') rfl ?_
    refine X.u (LU.assignR Is.rfl') rfl ?_
    refine LL.nil (after_code ?_)
    refine LW.seq ?_
    refine LW.seq ?_
    refine LW.region ?_
    refine X.u (LU.moveS Is.rfl') rfl ?_
    refine X.u (LU.lenN Try.underlying22 Is.rfl' (by (simp only [Option.getD_some, Option.getD_none, byteEls_length, intEls_length, List.length_append, List.length_cons, List.length_nil, List.length_map, List.length_drop, List.length_take, Int.toNat_natCast]; rfl))) rfl ?_
    refine X.u (LU.moveR Is.rfl') rfl ?_
    refine LL.nil (after_code ?_)
    refine LW.block ?_
    refine X.wweak (t := 8) (v := bl (deny || (l.take 0).any (nearF a.s a.ch a.p a.right))) (asB rfl (by simp)) ?_
    refine X.loopK (α := Nat) (fun i => [(41, i64 i), (8, bl (deny || (l.take i).any (nearF a.s a.ch a.p a.right)))]) [0, 4, 6, 7, 39, 40] (fun i => .cells b7 31 (rL (nearR a.p a.right deny)) :: .cells b4 27 (aL a) :: Rf) (fun i => i ≤ l.length) (fun i => l.length - i) (0) (EnvLe.cons (by rfl) (EnvLe.cons (by rfl) (EnvLe.nil))) (by exact HSub.refl _) ?_ ?_
    · exact Nat.zero_le _
    · rintro i hI
      refine LW.seq ?_
      refine LW.region ?_
      refine X.u (LU.lss Is.rfl' Is.rfl') rfl ?_
      refine LL.nil (after_code ?_)
      refine LW.seq ?_
      refine X.cond rfl (fun h6 => ?_) (fun h6 => ?_)
      · try have h6 := of_decide_eq_true h6
        refine LW.skip (after_code ?_)
        refine LW.seq ?_
        refine LW.block ?_
        refine LW.seq ?_
        obtain ⟨x, hx⟩ := at_lt (show i < l.length by omega)
        have hxo := hl x (List.mem_of_getElem? hx)
        refine LW.region ?_
        refine X.u (LU.at Try.underlying22 ⟨Try.sizeOf31, Try.isAgg31⟩ Is.rfl' Is.rfl' (by omega) (rEls_at hx) (by simp)) rfl ?_
        refine X.u (LU.load ⟨Try.sizeOf31, Try.isAgg31⟩ Is.rfl' (by (simp; done)) (Part.whole (by (simp; done)))) rfl ?_
        refine X.act (X.alloc rfl Try.zeroValue31 (by exact Cells.rawagg (by decide)) (fun b10 => ?_))
        refine X.act (X.store 0 rfl Try.sizeOf31 Is.rfl' Is.rfl' (by exact Cells.agg) (by (simp; done)) (by exact Nat.le_of_ble_eq_true rfl) ?_)
        refine LL.nil (after_code ?_)
        refine X.wcells (ys := rL x) (putAt_all (by simp [raws])) ?_
        refine LW.region ?_
        refine X.u (LU.moveR Is.rfl') rfl ?_
        refine X.u (LU.moveR Is.rfl') rfl ?_
        refine X.gF rfl rfl (fun hg => LU.fieldO Try.underlying31 rfl Try.sizeOf4 (by decide) (by exact Is.rfl')) rfl ?_
        refine X.gF rfl rfl (fun hg => LU.loadO 0 rfl ⟨Try.sizeOf4, Try.isAgg4⟩ (by exact Is.whenN hg) (Part.one rfl)) rfl ?_
        refine X.gF rfl rfl (fun hg => LU.moveR (by exact Is.whenN hg)) rfl ?_
        refine X.gT2 rfl rfl (fun hg0 hg => LU.fieldO Try.underlying31 rfl Try.sizeOf9 (by decide) (by exact Is.rfl')) rfl ?_
        refine X.gT2 rfl rfl (fun hg0 hg => LU.loadO 0 rfl ⟨Try.sizeOf9, Try.isAgg9⟩ (by exact Is.whenE (by rw [hg0, hg]; rfl)) (Part.one rfl)) rfl ?_
        refine X.gT2 rfl rfl (fun hg0 hg => LU.fieldO Try.underlying27 rfl Try.sizeOf9 (by decide) (by exact Is.rfl')) rfl ?_
        refine X.gT2 rfl rfl (fun hg0 hg => LU.loadO 2 rfl ⟨Try.sizeOf9, Try.isAgg9⟩ (by exact Is.whenE (by rw [hg0, hg]; rfl)) (Part.one rfl)) rfl ?_
        refine X.gT2 rfl rfl (fun hg0 hg => LU.streqN (by exact Is.whenE (by rw [hg0, hg]; rfl)) (by exact Is.whenE (by rw [hg0, hg]; rfl))) rfl ?_
        refine X.gF rfl rfl (fun hg => LU.pickAnd (by exact Is.whenN hg) (fun hq => (by exact Is.whenE (by rw [hg, hq]; rfl))) (by exact Is.rfl')) rfl ?_
        refine X.gF rfl rfl (fun hg => LU.moveR (by exact Is.whenN hg)) rfl ?_
        refine X.gT2 rfl rfl (fun hg0 hg => LU.loadO 0 rfl ⟨Try.sizeOf31, Try.isAgg31⟩ (by exact Is.rfl') (Part.whole (by (simp; done)))) rfl ?_
        refine X.gT2 rfl rfl (fun hg0 hg => LU.fieldO Try.underlying27 rfl Try.sizeOf25 (by decide) (by exact Is.rfl')) rfl ?_
        refine X.gT2 rfl rfl (fun hg0 hg => LU.weak (LU.loadO 2 rfl ⟨Try.sizeOf25, Try.isAgg25⟩ (by exact Is.whenE (by rw [hg0, hg]; rfl)) (Part.sub (by (simp; done)))) (Is.of (y := .agg (sL a.s)) (rfl))) rfl ?_
        refine X.gT2 rfl rfl (fun hg0 hg => LU.fieldO Try.underlying27 rfl Try.sizeOf9 (by decide) (by exact Is.rfl')) rfl ?_
        refine X.gT2 rfl rfl (fun hg0 hg => LU.loadO 2 rfl ⟨Try.sizeOf9, Try.isAgg9⟩ (by exact Is.whenE (by rw [hg0, hg]; rfl)) (Part.one rfl)) rfl ?_
        refine X.gT2 rfl rfl (fun hg0 hg => LU.fieldO Try.underlying27 rfl Try.sizeOf9 (by decide) (by exact Is.rfl')) rfl ?_
        refine X.gT2 rfl rfl (fun hg0 hg => LU.loadO 2 rfl ⟨Try.sizeOf9, Try.isAgg9⟩ (by exact Is.whenE (by rw [hg0, hg]; rfl)) (Part.one rfl)) rfl ?_
        refine X.gT2 rfl rfl (fun hg0 hg => LU.fieldO Try.underlying27 rfl Try.sizeOf3 (by decide) (by exact Is.rfl')) rfl ?_
        refine X.gT2 rfl rfl (fun hg0 hg => LU.loadO 2 rfl ⟨Try.sizeOf3, Try.isAgg3⟩ (by exact Is.whenE (by rw [hg0, hg]; rfl)) (Part.one rfl)) rfl ?_
        refine X.gT2 rfl rfl (fun hg0 hg => LU.call (matches_calls x a.s a.ch a.p a.right hxo hs) Try.func18 rfl rfl (Opds.cons (by exact Is.whenE (by rw [hg0, hg]; rfl)) (Opds.cons (by exact Is.whenE (by rw [hg0, hg]; rfl)) (Opds.cons (by exact Is.whenE (by rw [hg0, hg]; rfl)) (Opds.cons (by exact Is.whenE (by rw [hg0, hg]; rfl)) (Opds.cons (by exact Is.whenE (by rw [hg0, hg]; rfl)) Opds.nil)))))) rfl ?_
        refine X.gF rfl rfl (fun hg => LU.pickAnd (by exact Is.whenN hg) (fun hq => (by exact Is.whenE (by rw [hg, hq]; rfl))) (by exact Is.rfl')) rfl ?_
        refine X.u (LU.weak (LU.pickOr Is.rfl' Is.rfl' (fun hq => (by exact Is.whenN hq))) (Is.of (y := bl (deny || (l.take (i + 1)).any (nearF a.s a.ch a.p a.right))) (congrArg bl (any_step hx)))) rfl ?_
        refine X.u (LU.assignR Is.rfl') rfl ?_
        refine LL.nil (after_blk (after_code ?_))
        refine LW.region ?_
        refine X.u (LU.addN Is.rfl' Is.rfl' (wrap_i64 (by omega) (by omega))) rfl ?_
        refine X.u (LU.moveR Is.rfl') rfl ?_
        refine LL.nil (after_rnd ?_)
        refine X.next (i + 1) rfl (EnvLe.cons (by rfl) (EnvLe.cons (by rfl) (EnvLe.nil))) (Keeps.cons (by exact Eq.trans (b := .sl _ _ _) rfl rfl) (Keeps.cons (by exact Eq.trans (b := .raw _) rfl rfl) (Keeps.cons (by exact Eq.trans (b := .raw _) rfl rfl) (Keeps.cons (by exact Eq.trans (b := .raw _) rfl rfl) (Keeps.cons (by exact Eq.trans (b := .sl _ _ _) rfl rfl) (Keeps.cons (by exact Eq.trans (b := .raw _) rfl rfl) (Keeps.nil))))))) (by repeat (first | exact HSub.refl _ | refine HSub.pick 0 rfl ?_ | refine HSub.pick 1 rfl ?_ | refine HSub.pick 2 rfl ?_ | refine HSub.pick 3 rfl ?_ | refine HSub.pick 4 rfl ?_ | refine HSub.drop ?_)) ?_ ?_
        · omega
        · omega
      · try have h6 := of_decide_eq_false h6
        obtain rfl : i = l.length := by omega
        rw [List.take_length]
        refine LW.exit (exit_code (exit_rnd (exit_blk (after_code ?_))))
        refine LW.seq ?_
        refine LW.inv (m := 15) (γ := Nat × Nat × Nat × Nat × Nat × Nat) [(0, 70), (1, 71), (2, 72), (3, 73), (4, 74), (5, 75), (6, 76), (7, 77), (8, 78), (9, 79), (10, 80), (11, 81), (12, 82), (13, 83), (14, 6)] (fun g d => match g with | ⟨p2, q2, r2, p5, q5, r5⟩ => match d with | 70 => .sl 5 [] .full | 71 => Rls l k | 72 => Rls l (.tok p2 q2 r2) | 73 => .agg (rL (nearR a.p a.right deny)) | 74 => Rls [nearR a.p a.right deny] .full | 75 => Rls (l ++ [nearR a.p a.right deny]) (.tok p5 q5 r5) | 76 => .agg (aL a) | 77 => bl (decideB (l ++ [nearR a.p a.right deny]) a.s a.ch a.p a.right) | 78 => bl (deny || l.any (nearF a.s a.ch a.p a.right)) | 79 => bl (!(deny || l.any (nearF a.s a.ch a.p a.right))) | 80 => bl true | 81 => bl true | 82 => bl true | 83 => bl true | 6 => bl true | _ => .any) (fun g f => match g with | ⟨p2, q2, r2, p5, q5, r5⟩ => cond (f 5) (.tail p5 q5 r5) (.tail p2 q2 r2) :: .cells b7 31 (rL (nearR a.p a.right deny)) :: .cells b4 27 (aL a) :: Rf) (0, 0, 0, 0, 0, 0) rfl rfl rfl (by kernel_rfl) (HSub.tail0 0 0 0 (Nat.le_refl _) _) ?_ ?_ (fun _ _ hw h => hw.lw h)
        · intro i hi f g hfi hdir hdown
          obtain ⟨p2, q2, r2, p5, q5, r5⟩ := g
          have hc : i = 0 ∨ i = 1 ∨ i = 2 ∨ i = 3 ∨ i = 4 ∨ i = 5 ∨ i = 6 ∨ i = 7 ∨ i = 8 ∨ i = 9 ∨ i = 10 ∨ i = 11 ∨ i = 12 ∨ i = 13 ∨ i = 14 := by omega
          rcases hc with rfl | rfl | rfl | rfl | rfl | rfl | rfl | rfl | rfl | rfl | rfl | rfl | rfl | rfl | rfl
          · refine ⟨_, rfl, ?_⟩
            refine A.u (LU.lits Try.underlying22 Try.sizeOf31 Try.zeroValue31 (ones rfl) rfl (by decide) (by decide) Elems.nil (by intro e he; cases he) rfl) rfl ?_
            refine ⟨⟨p2, q2, r2, p5, q5, r5⟩, Weaker.mk' ?_ (HSub.refl _)⟩
            refine env_back0 (envS_hit (sl := [(0, 70), (1, 71), (2, 72), (3, 73), (4, 74), (5, 75), (6, 76), (7, 77), (8, 78), (9, 79), (10, 80), (11, 81), (12, 82), (13, 83), (14, 6)]) (j := 0) (d := 70) rfl (fun _ _ h => h))  (envS_next ?_)
            · intro p hp hne; simp only [List.mem_cons, List.not_mem_nil, or_false] at hp; rcases hp with rfl | rfl | rfl | rfl | rfl | rfl | rfl | rfl | rfl | rfl | rfl | rfl | rfl | rfl | rfl <;> first | exact absurd rfl hne | exact ⟨rfl, rfl⟩
          · refine ⟨_, rfl, ?_⟩
            refine A.u (LU.moveS Is.rfl') rfl ?_
            refine ⟨⟨p2, q2, r2, p5, q5, r5⟩, Weaker.mk' ?_ (HSub.refl _)⟩
            refine env_back0 (envS_hit (sl := [(0, 70), (1, 71), (2, 72), (3, 73), (4, 74), (5, 75), (6, 76), (7, 77), (8, 78), (9, 79), (10, 80), (11, 81), (12, 82), (13, 83), (14, 6)]) (j := 1) (d := 71) rfl (fun _ _ h => h))  (envS_next ?_)
            · intro p hp hne; simp only [List.mem_cons, List.not_mem_nil, or_false] at hp; rcases hp with rfl | rfl | rfl | rfl | rfl | rfl | rfl | rfl | rfl | rfl | rfl | rfl | rfl | rfl | rfl <;> first | exact absurd rfl hne | exact ⟨rfl, rfl⟩
          · have d0 := hdir 0 (List.mem_of_elem_eq_true (by kernel_rfl))
            have d1 := hdir 1 (List.mem_of_elem_eq_true (by kernel_rfl))
            refine ⟨_, rfl, ?_⟩
            have h5 : f 5 = false := Bool.eq_false_iff.2 (fun h => by rw [hdown 5 (by omega) h 2 (List.mem_of_elem_eq_true (by kernel_rfl))] at hfi; cases hfi)
            refine LP.weak (t := 70) (v := .sl 5 [] .full) (envS_is (j := 0) rfl d0) ?_
            refine LP.weak (t := 71) (v := Rls l k) (envS_is (j := 1) rfl d1) ?_
            refine A.act (X.appendF rfl Try.underlying22 (El.of (P := Try.prog) (z := (.agg #[(.string ByteArray.empty), (.string ByteArray.empty), (.string ByteArray.empty), (.int .i64 0), (.bool false)])) (size := 5) (bytes := 64) rfl rfl rfl) Is.rfl' Is.rfl' (SrcL.slice Try.underlying22 (by decide) (by simp)) (by simp only [Option.getD_some, Option.getD_none, byteEls_length, intEls_length, List.length_append, List.length_cons, List.length_nil, List.length_map, List.length_drop, List.length_take, Int.toNat_natCast]; omega) (by simp only [Option.getD_some, Option.getD_none, byteEls_length, intEls_length, List.length_append, List.length_cons, List.length_nil, List.length_map, List.length_drop, List.length_take, Int.toNat_natCast]; omega) (fun b72 o72 c72 => ?_))
            refine ⟨(b72, o72, c72, p5, q5, r5), Weaker.mk' ?_ (by show HSub _ (cond (f 5) _ _ :: _); rw [h5]; exact HSub.cons (HSub.drop (HSub.refl _)))⟩
            refine env_back2 (envS_hit (sl := [(0, 70), (1, 71), (2, 72), (3, 73), (4, 74), (5, 75), (6, 76), (7, 77), (8, 78), (9, 79), (10, 80), (11, 81), (12, 82), (13, 83), (14, 6)]) (j := 2) (d := 72) rfl (fun _ _ h => h)) (envS_hit (sl := [(0, 70), (1, 71), (2, 72), (3, 73), (4, 74), (5, 75), (6, 76), (7, 77), (8, 78), (9, 79), (10, 80), (11, 81), (12, 82), (13, 83), (14, 6)]) (j := 1) (d := 71) rfl (fun _ _ h => h)) (envS_hit (sl := [(0, 70), (1, 71), (2, 72), (3, 73), (4, 74), (5, 75), (6, 76), (7, 77), (8, 78), (9, 79), (10, 80), (11, 81), (12, 82), (13, 83), (14, 6)]) (j := 0) (d := 70) rfl (fun _ _ h => h)) (envS_next ?_)
            · intro p hp hne; simp only [List.mem_cons, List.not_mem_nil, or_false] at hp; rcases hp with rfl | rfl | rfl | rfl | rfl | rfl | rfl | rfl | rfl | rfl | rfl | rfl | rfl | rfl | rfl <;> first | exact absurd rfl hne | exact ⟨rfl, rfl⟩
          · refine ⟨_, rfl, ?_⟩
            refine A.u (LU.loadO 1 rfl ⟨Try.sizeOf31, Try.isAgg31⟩ Is.rfl' (Part.whole (by (simp; done)))) rfl ?_
            refine ⟨⟨p2, q2, r2, p5, q5, r5⟩, Weaker.mk' ?_ (HSub.refl _)⟩
            refine env_back0 (envS_hit (sl := [(0, 70), (1, 71), (2, 72), (3, 73), (4, 74), (5, 75), (6, 76), (7, 77), (8, 78), (9, 79), (10, 80), (11, 81), (12, 82), (13, 83), (14, 6)]) (j := 3) (d := 73) rfl (fun _ _ h => h))  (envS_next ?_)
            · intro p hp hne; simp only [List.mem_cons, List.not_mem_nil, or_false] at hp; rcases hp with rfl | rfl | rfl | rfl | rfl | rfl | rfl | rfl | rfl | rfl | rfl | rfl | rfl | rfl | rfl <;> first | exact absurd rfl hne | exact ⟨rfl, rfl⟩
          · have d3 := hdir 3 (List.mem_of_elem_eq_true (by kernel_rfl))
            refine ⟨_, rfl, ?_⟩
            refine LP.weak (t := 73) (v := .agg (rL (nearR a.p a.right deny))) (envS_is (j := 3) rfl d3) ?_
            refine A.u (LU.lits Try.underlying22 Try.sizeOf31 Try.zeroValue31 (ones rfl) rfl (by decide) (by decide) (Elems.cons Is.rfl' (by exact Cells.agg) Elems.nil) (by simp) rfl) rfl ?_
            refine ⟨⟨p2, q2, r2, p5, q5, r5⟩, Weaker.mk' ?_ (HSub.refl _)⟩
            refine env_back1 (envS_hit (sl := [(0, 70), (1, 71), (2, 72), (3, 73), (4, 74), (5, 75), (6, 76), (7, 77), (8, 78), (9, 79), (10, 80), (11, 81), (12, 82), (13, 83), (14, 6)]) (j := 4) (d := 74) rfl (fun _ _ h => h)) (envS_hit (sl := [(0, 70), (1, 71), (2, 72), (3, 73), (4, 74), (5, 75), (6, 76), (7, 77), (8, 78), (9, 79), (10, 80), (11, 81), (12, 82), (13, 83), (14, 6)]) (j := 3) (d := 73) rfl (fun _ _ h => h)) (envS_next ?_)
            · intro p hp hne; simp only [List.mem_cons, List.not_mem_nil, or_false] at hp; rcases hp with rfl | rfl | rfl | rfl | rfl | rfl | rfl | rfl | rfl | rfl | rfl | rfl | rfl | rfl | rfl <;> first | exact absurd rfl hne | exact ⟨rfl, rfl⟩
          · have d2 := hdir 2 (List.mem_of_elem_eq_true (by kernel_rfl))
            have d4 := hdir 4 (List.mem_of_elem_eq_true (by kernel_rfl))
            refine ⟨_, rfl, ?_⟩
            refine LP.ghost (H' := .tail p2 q2 r2 :: .cells b7 31 (rL (nearR a.p a.right deny)) :: .cells b4 27 (aL a) :: Rf) (by rw [hfi]; exact HSub.refl _) ?_
            refine LP.weak (t := 72) (v := Rls l (.tok p2 q2 r2)) (envS_is (j := 2) rfl d2) ?_
            refine LP.weak (t := 74) (v := Rls [nearR a.p a.right deny] .full) (envS_is (j := 4) rfl d4) ?_
            refine A.act (X.append 0 rfl rfl Try.underlying22 (El.of (P := Try.prog) (z := (.agg #[(.string ByteArray.empty), (.string ByteArray.empty), (.string ByteArray.empty), (.int .i64 0), (.bool false)])) (size := 5) (bytes := 64) rfl rfl rfl) Is.rfl' Is.rfl' (SrcL.slice Try.underlying22 (by decide) (by (intro e he; simp [chunks] at he; simp [he]; done))) (by simp only [Option.getD_some, Option.getD_none, byteEls_length, intEls_length, List.length_append, List.length_cons, List.length_nil, List.length_map, List.length_drop, List.length_take, Int.toNat_natCast]; omega) (by simp only [Option.getD_some, Option.getD_none, byteEls_length, intEls_length, List.length_append, List.length_cons, List.length_nil, List.length_map, List.length_drop, List.length_take, Int.toNat_natCast]; omega) (fun b75 o75 c75 => ?_))
            refine ⟨(p2, q2, r2, b75, o75, c75), Weaker.mk' ?_ (HSub.refl _)⟩
            refine env_back2 (envS_hit (sl := [(0, 70), (1, 71), (2, 72), (3, 73), (4, 74), (5, 75), (6, 76), (7, 77), (8, 78), (9, 79), (10, 80), (11, 81), (12, 82), (13, 83), (14, 6)]) (j := 5) (d := 75) rfl (Is.of (congrArg (fun z => LV.sl 5 z (.tok b75 o75 c75)) (rEls_snoc l (nearR a.p a.right deny))))) (envS_hit (sl := [(0, 70), (1, 71), (2, 72), (3, 73), (4, 74), (5, 75), (6, 76), (7, 77), (8, 78), (9, 79), (10, 80), (11, 81), (12, 82), (13, 83), (14, 6)]) (j := 4) (d := 74) rfl (fun _ _ h => h)) (envS_hit (sl := [(0, 70), (1, 71), (2, 72), (3, 73), (4, 74), (5, 75), (6, 76), (7, 77), (8, 78), (9, 79), (10, 80), (11, 81), (12, 82), (13, 83), (14, 6)]) (j := 2) (d := 72) rfl (fun _ _ h => h)) (envS_next ?_)
            · intro p hp hne; simp only [List.mem_cons, List.not_mem_nil, or_false] at hp; rcases hp with rfl | rfl | rfl | rfl | rfl | rfl | rfl | rfl | rfl | rfl | rfl | rfl | rfl | rfl | rfl <;> first | exact absurd rfl hne | exact ⟨rfl, rfl⟩
          · refine ⟨_, rfl, ?_⟩
            refine A.u (LU.loadO 2 rfl ⟨Try.sizeOf27, Try.isAgg27⟩ Is.rfl' (Part.whole (by (simp; done)))) rfl ?_
            refine ⟨⟨p2, q2, r2, p5, q5, r5⟩, Weaker.mk' ?_ (HSub.refl _)⟩
            refine env_back0 (envS_hit (sl := [(0, 70), (1, 71), (2, 72), (3, 73), (4, 74), (5, 75), (6, 76), (7, 77), (8, 78), (9, 79), (10, 80), (11, 81), (12, 82), (13, 83), (14, 6)]) (j := 6) (d := 76) rfl (fun _ _ h => h))  (envS_next ?_)
            · intro p hp hne; simp only [List.mem_cons, List.not_mem_nil, or_false] at hp; rcases hp with rfl | rfl | rfl | rfl | rfl | rfl | rfl | rfl | rfl | rfl | rfl | rfl | rfl | rfl | rfl <;> first | exact absurd rfl hne | exact ⟨rfl, rfl⟩
          · have d5 := hdir 5 (List.mem_of_elem_eq_true (by kernel_rfl))
            have d6 := hdir 6 (List.mem_of_elem_eq_true (by kernel_rfl))
            refine ⟨_, rfl, ?_⟩
            refine LP.weak (t := 75) (v := Rls (l ++ [nearR a.p a.right deny]) (.tok p5 q5 r5)) (envS_is (j := 5) rfl d5) ?_
            refine LP.weak (t := 76) (v := .agg (aL a)) (envS_is (j := 6) rfl d6) ?_
            refine A.u (LU.call (dec_calls (l ++ [nearR a.p a.right deny]) _ a hl1 hs) Try.func20 rfl rfl (Opds.cons Is.rfl' (Opds.cons Is.rfl' Opds.nil))) rfl ?_
            refine ⟨⟨p2, q2, r2, p5, q5, r5⟩, Weaker.mk' ?_ (HSub.refl _)⟩
            refine env_back2 (envS_hit (sl := [(0, 70), (1, 71), (2, 72), (3, 73), (4, 74), (5, 75), (6, 76), (7, 77), (8, 78), (9, 79), (10, 80), (11, 81), (12, 82), (13, 83), (14, 6)]) (j := 7) (d := 77) rfl (fun _ _ h => h)) (envS_hit (sl := [(0, 70), (1, 71), (2, 72), (3, 73), (4, 74), (5, 75), (6, 76), (7, 77), (8, 78), (9, 79), (10, 80), (11, 81), (12, 82), (13, 83), (14, 6)]) (j := 6) (d := 76) rfl (fun _ _ h => h)) (envS_hit (sl := [(0, 70), (1, 71), (2, 72), (3, 73), (4, 74), (5, 75), (6, 76), (7, 77), (8, 78), (9, 79), (10, 80), (11, 81), (12, 82), (13, 83), (14, 6)]) (j := 5) (d := 75) rfl (fun _ _ h => h)) (envS_next ?_)
            · intro p hp hne; simp only [List.mem_cons, List.not_mem_nil, or_false] at hp; rcases hp with rfl | rfl | rfl | rfl | rfl | rfl | rfl | rfl | rfl | rfl | rfl | rfl | rfl | rfl | rfl <;> first | exact absurd rfl hne | exact ⟨rfl, rfl⟩
          · refine ⟨_, rfl, ?_⟩
            refine A.u (LU.moveR Is.rfl') rfl ?_
            refine ⟨⟨p2, q2, r2, p5, q5, r5⟩, Weaker.mk' ?_ (HSub.refl _)⟩
            refine env_back0 (envS_hit (sl := [(0, 70), (1, 71), (2, 72), (3, 73), (4, 74), (5, 75), (6, 76), (7, 77), (8, 78), (9, 79), (10, 80), (11, 81), (12, 82), (13, 83), (14, 6)]) (j := 8) (d := 78) rfl (fun _ _ h => h))  (envS_next ?_)
            · intro p hp hne; simp only [List.mem_cons, List.not_mem_nil, or_false] at hp; rcases hp with rfl | rfl | rfl | rfl | rfl | rfl | rfl | rfl | rfl | rfl | rfl | rfl | rfl | rfl | rfl <;> first | exact absurd rfl hne | exact ⟨rfl, rfl⟩
          · have d8 := hdir 8 (List.mem_of_elem_eq_true (by kernel_rfl))
            refine ⟨_, rfl, ?_⟩
            refine LP.weak (t := 78) (v := bl (deny || l.any (nearF a.s a.ch a.p a.right))) (envS_is (j := 8) rfl d8) ?_
            refine A.u (LU.not Is.rfl') rfl ?_
            refine ⟨⟨p2, q2, r2, p5, q5, r5⟩, Weaker.mk' ?_ (HSub.refl _)⟩
            refine env_back1 (envS_hit (sl := [(0, 70), (1, 71), (2, 72), (3, 73), (4, 74), (5, 75), (6, 76), (7, 77), (8, 78), (9, 79), (10, 80), (11, 81), (12, 82), (13, 83), (14, 6)]) (j := 9) (d := 79) rfl (fun _ _ h => h)) (envS_hit (sl := [(0, 70), (1, 71), (2, 72), (3, 73), (4, 74), (5, 75), (6, 76), (7, 77), (8, 78), (9, 79), (10, 80), (11, 81), (12, 82), (13, 83), (14, 6)]) (j := 8) (d := 78) rfl (fun _ _ h => h)) (envS_next ?_)
            · intro p hp hne; simp only [List.mem_cons, List.not_mem_nil, or_false] at hp; rcases hp with rfl | rfl | rfl | rfl | rfl | rfl | rfl | rfl | rfl | rfl | rfl | rfl | rfl | rfl | rfl <;> first | exact absurd rfl hne | exact ⟨rfl, rfl⟩
          · have d7 := hdir 7 (List.mem_of_elem_eq_true (by kernel_rfl))
            have d9 := hdir 9 (List.mem_of_elem_eq_true (by kernel_rfl))
            refine ⟨_, rfl, ?_⟩
            refine LP.weak (t := 77) (v := bl (decideB (l ++ [nearR a.p a.right deny]) a.s a.ch a.p a.right)) (envS_is (j := 7) rfl d7) ?_
            refine LP.weak (t := 79) (v := bl (!(deny || l.any (nearF a.s a.ch a.p a.right)))) (envS_is (j := 9) rfl d9) ?_
            refine A.u (LU.weak (LU.booleq Try.underlying4 Is.rfl' Is.rfl') (asB (c := true) rfl (by rw [near_law hba]; simp))) rfl ?_
            refine ⟨⟨p2, q2, r2, p5, q5, r5⟩, Weaker.mk' ?_ (HSub.refl _)⟩
            refine env_back2 (envS_hit (sl := [(0, 70), (1, 71), (2, 72), (3, 73), (4, 74), (5, 75), (6, 76), (7, 77), (8, 78), (9, 79), (10, 80), (11, 81), (12, 82), (13, 83), (14, 6)]) (j := 10) (d := 80) rfl (fun _ _ h => h)) (envS_hit (sl := [(0, 70), (1, 71), (2, 72), (3, 73), (4, 74), (5, 75), (6, 76), (7, 77), (8, 78), (9, 79), (10, 80), (11, 81), (12, 82), (13, 83), (14, 6)]) (j := 9) (d := 79) rfl (fun _ _ h => h)) (envS_hit (sl := [(0, 70), (1, 71), (2, 72), (3, 73), (4, 74), (5, 75), (6, 76), (7, 77), (8, 78), (9, 79), (10, 80), (11, 81), (12, 82), (13, 83), (14, 6)]) (j := 7) (d := 77) rfl (fun _ _ h => h)) (envS_next ?_)
            · intro p hp hne; simp only [List.mem_cons, List.not_mem_nil, or_false] at hp; rcases hp with rfl | rfl | rfl | rfl | rfl | rfl | rfl | rfl | rfl | rfl | rfl | rfl | rfl | rfl | rfl <;> first | exact absurd rfl hne | exact ⟨rfl, rfl⟩
          · have d7 := hdir 7 (List.mem_of_elem_eq_true (by kernel_rfl))
            have d10 := hdir 10 (List.mem_of_elem_eq_true (by kernel_rfl))
            refine ⟨_, rfl, ?_⟩
            refine LP.weak (t := 80) (v := bl true) (envS_is (j := 10) rfl d10) ?_
            refine A.u (LU.moveR Is.rfl') rfl ?_
            refine ⟨⟨p2, q2, r2, p5, q5, r5⟩, Weaker.mk' ?_ (HSub.refl _)⟩
            refine env_back1 (envS_hit (sl := [(0, 70), (1, 71), (2, 72), (3, 73), (4, 74), (5, 75), (6, 76), (7, 77), (8, 78), (9, 79), (10, 80), (11, 81), (12, 82), (13, 83), (14, 6)]) (j := 11) (d := 81) rfl (fun _ _ h => h)) (envS_hit (sl := [(0, 70), (1, 71), (2, 72), (3, 73), (4, 74), (5, 75), (6, 76), (7, 77), (8, 78), (9, 79), (10, 80), (11, 81), (12, 82), (13, 83), (14, 6)]) (j := 10) (d := 80) rfl (fun _ _ h => h)) (envS_next ?_)
            · intro p hp hne; simp only [List.mem_cons, List.not_mem_nil, or_false] at hp; rcases hp with rfl | rfl | rfl | rfl | rfl | rfl | rfl | rfl | rfl | rfl | rfl | rfl | rfl | rfl | rfl <;> first | exact absurd rfl hne | exact ⟨rfl, rfl⟩
          · have d11 := hdir 11 (List.mem_of_elem_eq_true (by kernel_rfl))
            refine ⟨_, rfl, ?_⟩
            refine LP.weak (t := 81) (v := bl true) (envS_is (j := 11) rfl d11) ?_
            refine A.doT rfl rfl (LU.call (lives_calls) Try.func15 rfl rfl Opds.nil) rfl ?_
            refine ⟨⟨p2, q2, r2, p5, q5, r5⟩, Weaker.mk' ?_ (HSub.refl _)⟩
            refine env_back1 (envS_hit (sl := [(0, 70), (1, 71), (2, 72), (3, 73), (4, 74), (5, 75), (6, 76), (7, 77), (8, 78), (9, 79), (10, 80), (11, 81), (12, 82), (13, 83), (14, 6)]) (j := 12) (d := 82) rfl (fun _ _ h => h)) (envS_hit (sl := [(0, 70), (1, 71), (2, 72), (3, 73), (4, 74), (5, 75), (6, 76), (7, 77), (8, 78), (9, 79), (10, 80), (11, 81), (12, 82), (13, 83), (14, 6)]) (j := 11) (d := 81) rfl (fun _ _ h => h)) (envS_next ?_)
            · intro p hp hne; simp only [List.mem_cons, List.not_mem_nil, or_false] at hp; rcases hp with rfl | rfl | rfl | rfl | rfl | rfl | rfl | rfl | rfl | rfl | rfl | rfl | rfl | rfl | rfl <;> first | exact absurd rfl hne | exact ⟨rfl, rfl⟩
          · have d11 := hdir 11 (List.mem_of_elem_eq_true (by kernel_rfl))
            have d12 := hdir 12 (List.mem_of_elem_eq_true (by kernel_rfl))
            refine ⟨_, rfl, ?_⟩
            refine LP.weak (t := 81) (v := bl true) (envS_is (j := 11) rfl d11) ?_
            refine LP.weak (t := 82) (v := bl true) (envS_is (j := 12) rfl d12) ?_
            refine A.u (LU.pickT Is.rfl' (by exact Is.rfl')) rfl ?_
            refine ⟨⟨p2, q2, r2, p5, q5, r5⟩, Weaker.mk' ?_ (HSub.refl _)⟩
            refine env_back2 (envS_hit (sl := [(0, 70), (1, 71), (2, 72), (3, 73), (4, 74), (5, 75), (6, 76), (7, 77), (8, 78), (9, 79), (10, 80), (11, 81), (12, 82), (13, 83), (14, 6)]) (j := 13) (d := 83) rfl (fun _ _ h => h)) (envS_hit (sl := [(0, 70), (1, 71), (2, 72), (3, 73), (4, 74), (5, 75), (6, 76), (7, 77), (8, 78), (9, 79), (10, 80), (11, 81), (12, 82), (13, 83), (14, 6)]) (j := 12) (d := 82) rfl (fun _ _ h => h)) (envS_hit (sl := [(0, 70), (1, 71), (2, 72), (3, 73), (4, 74), (5, 75), (6, 76), (7, 77), (8, 78), (9, 79), (10, 80), (11, 81), (12, 82), (13, 83), (14, 6)]) (j := 11) (d := 81) rfl (fun _ _ h => h)) (envS_next ?_)
            · intro p hp hne; simp only [List.mem_cons, List.not_mem_nil, or_false] at hp; rcases hp with rfl | rfl | rfl | rfl | rfl | rfl | rfl | rfl | rfl | rfl | rfl | rfl | rfl | rfl | rfl <;> first | exact absurd rfl hne | exact ⟨rfl, rfl⟩
          · have d0 := hdir 0 (List.mem_of_elem_eq_true (by kernel_rfl))
            have d1 := hdir 1 (List.mem_of_elem_eq_true (by kernel_rfl))
            have d2 := hdir 2 (List.mem_of_elem_eq_true (by kernel_rfl))
            have d3 := hdir 3 (List.mem_of_elem_eq_true (by kernel_rfl))
            have d4 := hdir 4 (List.mem_of_elem_eq_true (by kernel_rfl))
            have d5 := hdir 5 (List.mem_of_elem_eq_true (by kernel_rfl))
            have d6 := hdir 6 (List.mem_of_elem_eq_true (by kernel_rfl))
            have d7 := hdir 7 (List.mem_of_elem_eq_true (by kernel_rfl))
            have d8 := hdir 8 (List.mem_of_elem_eq_true (by kernel_rfl))
            have d9 := hdir 9 (List.mem_of_elem_eq_true (by kernel_rfl))
            have d10 := hdir 10 (List.mem_of_elem_eq_true (by kernel_rfl))
            have d11 := hdir 11 (List.mem_of_elem_eq_true (by kernel_rfl))
            have d12 := hdir 12 (List.mem_of_elem_eq_true (by kernel_rfl))
            have d13 := hdir 13 (List.mem_of_elem_eq_true (by kernel_rfl))
            refine ⟨_, rfl, ?_⟩
            refine LP.weak (t := 83) (v := bl true) (envS_is (j := 13) rfl d13) ?_
            refine A.u (LU.assignR Is.rfl') rfl ?_
            refine ⟨⟨p2, q2, r2, p5, q5, r5⟩, Weaker.mk' ?_ (HSub.refl _)⟩
            refine env_back1 (envS_hit (sl := [(0, 70), (1, 71), (2, 72), (3, 73), (4, 74), (5, 75), (6, 76), (7, 77), (8, 78), (9, 79), (10, 80), (11, 81), (12, 82), (13, 83), (14, 6)]) (j := 14) (d := 6) rfl (fun _ _ h => h)) (envS_hit (sl := [(0, 70), (1, 71), (2, 72), (3, 73), (4, 74), (5, 75), (6, 76), (7, 77), (8, 78), (9, 79), (10, 80), (11, 81), (12, 82), (13, 83), (14, 6)]) (j := 13) (d := 83) rfl (fun _ _ h => h)) (envS_next ?_)
            · intro p hp hne; simp only [List.mem_cons, List.not_mem_nil, or_false] at hp; rcases hp with rfl | rfl | rfl | rfl | rfl | rfl | rfl | rfl | rfl | rfl | rfl | rfl | rfl | rfl | rfl <;> first | exact absurd rfl hne | exact ⟨rfl, rfl⟩
        · intro g
          obtain ⟨p2, q2, r2, p5, q5, r5⟩ := g
          refine after_code ?_
          refine LW.ret (after_end ?_)
          refine X.ret (H' := []) (Res.one (by exact IsR rfl)) (by repeat (first | exact HSub.refl _ | refine HSub.pick 0 rfl ?_ | refine HSub.pick 1 rfl ?_ | refine HSub.pick 2 rfl ?_ | refine HSub.pick 3 rfl ?_ | refine HSub.pick 4 rfl ?_ | refine HSub.drop ?_)) ?_
          exact rfl
theorem AclNearest_row (es : List (List LV)) (ac : List LV) (deny : Bool) (hq : ∀ c ∈ es, QRule c) (hb : es.length * 64 ≤ reachBytes) (ha : QAsk ac) : LCalls Try.prog 7 [.sl 5 es .unk, .agg ac, bl deny] [] (fun r _ => r = .raw (.bool true)) := by
  obtain ⟨l, rfl, hl⟩ := rules_of es hq
  obtain ⟨a, rfl, hs, _, hp⟩ := ask_of' ha
  exact an_calls l .unk a deny hl (by simpa using hb) hs hp
end Go.Proofs.Ythifbkddfjohbaa
