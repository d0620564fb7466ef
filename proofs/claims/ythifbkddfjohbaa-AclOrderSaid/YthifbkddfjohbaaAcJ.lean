/- No answer hangs on the order of the rules, or on one that is there twice. -/
import Derived.Test.YthifbkddfjohbaaAcI
set_option linter.unusedVariables false
set_option linter.unusedSimpArgs false
namespace Go.Proofs.Ythifbkddfjohbaa
open Go.RowKit Go.L
theorem tmod_nat (a b c : Nat) : ((a : Int) + b).tmod (c : Int) = (((a + b) % c : Nat) : Int) := by
  rw [← Int.natCast_add, Int.ofNat_tmod]
theorem turn_k (t : Int) (n : Nat) (h : 0 < n) : ∃ k : Nat, (IntKind.u64.wrap t).tmod (n : Int) = k ∧ k < n := by
  have h0 : 0 ≤ IntKind.u64.wrap t := by
    show (0 : Int) ≤ t % 18446744073709551616
    omega
  obtain ⟨m, hm⟩ := Int.eq_ofNat_of_zero_le h0
  refine ⟨m % n, ?_, Nat.mod_lt _ h⟩
  rw [hm, Int.ofNat_tmod]
theorem turn_mem {l m : List Rl} {k : Nat} (hk : k < l.length) (h : ∀ x, x ∈ m ↔ ∃ q, q < l.length ∧ l[(q + k) % l.length]? = some x) : ∀ x, x ∈ l ↔ x ∈ m := fun x => by
  rw [h x]
  constructor
  · intro hx
    obtain ⟨p, hp⟩ := List.mem_iff_getElem?.1 hx
    obtain ⟨hpl, _⟩ := List.getElem?_eq_some_iff.1 hp
    by_cases hpk : k ≤ p
    · refine ⟨p - k, by omega, ?_⟩
      rw [show p - k + k = p by omega, Nat.mod_eq_of_lt hpl]; exact hp
    · refine ⟨p + l.length - k, by omega, ?_⟩
      rw [show p + l.length - k + k = p + l.length by omega, Nat.add_mod_right, Nat.mod_eq_of_lt hpl]; exact hp
  · rintro ⟨q, _, hq⟩
    exact List.mem_of_getElem? hq
theorem turn_next {l m : List Rl} {k i : Nat} {x : Rl} (hx : l[(i + k) % l.length]? = some x) (h : ∀ x, x ∈ m ↔ ∃ q, q < i ∧ l[(q + k) % l.length]? = some x) : ∀ y, y ∈ x :: m ↔ ∃ q, q < i + 1 ∧ l[(q + k) % l.length]? = some y := fun y => by
  rw [List.mem_cons, h y]
  constructor
  · rintro (rfl | ⟨q, h1, h2⟩)
    · exact ⟨i, by omega, hx⟩
    · exact ⟨q, by omega, h2⟩
  · rintro ⟨q, h1, h2⟩
    by_cases hqi : q = i
    · subst hqi; rw [hx] at h2; exact .inl (Option.some.inj h2).symm
    · exact .inr ⟨q, by omega, h2⟩
set_option maxHeartbeats 4000000 in
set_option maxRecDepth 100000 in
theorem ao_calls (l : List Rl) (k0 : Cap) (turn : Int) (a : Ak) (hl : ∀ x ∈ l, RlOk x) (hb : l.length * 64 ≤ reachBytes) (hs : SbOk a.s) : LCalls Try.prog 5 [Rls l k0, i64 turn, .agg (aL a)] [] (fun r _ => r = .raw (.bool true)) := by
  have hrl := reach_lt
  have hrl2 : reachBytes + 128 < 140737488355328 := by decide
  have hl3 : LOk l := ⟨hl, by omega⟩
  refine LCalls.of Try.func5 rfl Try.ntmps5 Try.results5 rfl (fun Rf => ?_)
  refine LW.seq ?_
  refine LW.region ?_
  refine X.act (X.box rfl Is.rfl' (by exact Cells.agg) (fun b5 => ?_))
  refine X.u (LU.assignR Is.rfl') rfl ?_
  refine LL.nil (after_code ?_)
  refine LW.seq ?_
  refine LW.seq ?_
  refine LW.region ?_
  refine X.u (LU.moveS Is.rfl') rfl ?_
  refine X.u (LU.loadO 0 rfl ⟨Try.sizeOf27, Try.isAgg27⟩ Is.rfl' (Part.whole (by (simp; done)))) rfl ?_
  refine X.u (LU.call (light_calls l k0 a hl3 hs) Try.func14 rfl rfl (Opds.cons Is.rfl' (Opds.cons Is.rfl' Opds.nil))) rfl ?_
  refine X.u (LU.not Is.rfl') rfl ?_
  refine X.u (LU.moveR Is.rfl') rfl ?_
  refine X.gF rfl rfl (fun hg => LU.moveS (by exact Is.rfl')) rfl ?_
  refine X.gF rfl rfl (fun hg => LU.lenN Try.underlying22 (by exact Is.whenN hg) (by (simp only [Option.getD_some, Option.getD_none, byteEls_length, intEls_length, List.length_append, List.length_cons, List.length_nil, List.length_map, List.length_drop, List.length_take, Int.toNat_natCast]; rfl))) rfl ?_
  refine X.gF rfl rfl (fun hg => LU.eql (by exact Is.whenN hg) (by exact Is.rfl')) rfl ?_
  refine X.u (LU.pickOr Is.rfl' Is.rfl' (fun hq => (by exact Is.whenN hq))) rfl ?_
  refine LL.nil (after_code ?_)
  refine X.cond rfl (fun h1 => ?_) (fun h1 => ?_)
  · try have h1 := of_decide_eq_true h1
    refine LW.seq ?_
    refine LW.region ?_
    refine X.u (LU.call (lives_calls) Try.func15 rfl rfl Opds.nil) rfl ?_
    refine X.u (LU.assignR Is.rfl') rfl ?_
    refine LL.nil (after_code ?_)
    refine LW.ret (ret_code (after_end ?_))
    refine X.ret (H' := []) (Res.one (by exact IsR rfl)) (by repeat (first | exact HSub.refl _ | refine HSub.pick 0 rfl ?_ | refine HSub.pick 1 rfl ?_ | refine HSub.pick 2 rfl ?_ | refine HSub.pick 3 rfl ?_ | refine HSub.pick 4 rfl ?_ | refine HSub.drop ?_)) ?_
    exact rfl
  · have hne : 0 < l.length := by rw [Bool.or_eq_false_iff] at h1; have := of_decide_eq_false h1.2; omega
    obtain ⟨k, hk1, hk2⟩ := turn_k turn l.length hne
    refine LW.skip (after_code ?_)
    refine LW.seq ?_
    refine LW.region ?_
    refine X.u (LU.assign (Is.nil 5)) rfl ?_
    refine LL.nil (after_code ?_)
    refine LW.seq ?_
    refine LW.region ?_
    refine X.u (LU.moveR Is.rfl') rfl ?_
    refine X.u (LU.conv Try.underlying3 Try.underlying36 Is.rfl') rfl ?_
    refine X.u (LU.moveS Is.rfl') rfl ?_
    refine X.u (LU.lenN Try.underlying22 Is.rfl' (by (simp only [Option.getD_some, Option.getD_none, byteEls_length, intEls_length, List.length_append, List.length_cons, List.length_nil, List.length_map, List.length_drop, List.length_take, Int.toNat_natCast]; rfl))) rfl ?_
    refine X.u (LU.convN Try.underlying3 Try.underlying36 Is.rfl' (wrap_u64 (by omega) (by omega))) rfl ?_
    refine X.u (LU.weak (LU.rem Is.rfl' Is.rfl' (by omega)) (Is.of (y := .raw (.int .u64 ((k : Nat) : Int))) (congrArg (fun z => LV.raw (.int .u64 z)) hk1))) rfl ?_
    refine X.u (LU.convN Try.underlying36 Try.underlying3 Is.rfl' (wrap_i64 (by omega) (by omega))) rfl ?_
    refine X.u (LU.assignR Is.rfl') rfl ?_
    refine LL.nil (after_code ?_)
    refine LW.seq ?_
    refine LW.seq ?_
    refine LW.region ?_
    refine X.u (LU.moveS Is.rfl') rfl ?_
    refine X.u (LU.lenN Try.underlying22 Is.rfl' (by (simp only [Option.getD_some, Option.getD_none, byteEls_length, intEls_length, List.length_append, List.length_cons, List.length_nil, List.length_map, List.length_drop, List.length_take, Int.toNat_natCast]; rfl))) rfl ?_
    refine X.u (LU.moveR Is.rfl') rfl ?_
    refine LL.nil (after_code ?_)
    refine LW.block ?_
    refine X.wghost (HSub.tail0 0 0 0 (Nat.le_refl _) _) ?_
    refine X.wweak (t := 7) (v := Rls [] (.tok 0 0 0)) (Is.full_tok 0 0) ?_
    refine X.loopK (α := Nat × List Rl × Nat × Nat × Nat) (fun ⟨i, m, tb, to, tc⟩ => [(29, i64 i), (7, Rls m (.tok tb to tc))]) [0, 5, 6, 8, 28] (fun ⟨i, m, tb, to, tc⟩ => .tail tb to tc :: .cells b5 27 (aL a) :: Rf) (fun ⟨i, m, tb, to, tc⟩ => i ≤ l.length ∧ m.length = i ∧ ∀ x, x ∈ m ↔ ∃ q, q < i ∧ l[(q + k) % l.length]? = some x) (fun ⟨i, m, tb, to, tc⟩ => l.length - i) ((0, [], 0, 0, 0)) (EnvLe.cons (by rfl) (EnvLe.cons (by rfl) (EnvLe.nil))) (by exact HSub.refl _) ?_ ?_
    · exact ⟨Nat.zero_le _, rfl, fun x => ⟨fun h => by simp at h, fun ⟨q, h, _⟩ => absurd h (Nat.not_lt_zero _)⟩⟩
    · rintro ⟨i, m, tb, to, tc⟩ hI
      obtain ⟨hi1, hi2, hi3⟩ := hI
      refine LW.seq ?_
      refine LW.region ?_
      refine X.u (LU.lss Is.rfl' Is.rfl') rfl ?_
      refine LL.nil (after_code ?_)
      refine LW.seq ?_
      refine X.cond rfl (fun h6 => ?_) (fun h6 => ?_)
      · try have h6 := of_decide_eq_true h6
        refine LW.skip (after_code ?_)
        refine LW.seq ?_
        refine LW.block ?_
        refine LW.seq ?_
        obtain ⟨j, hj⟩ : ∃ j, j = (i + k) % l.length := ⟨_, rfl⟩
        have hjl : j < l.length := hj ▸ Nat.mod_lt _ hne
        obtain ⟨x, hx⟩ := at_lt hjl
        refine LW.region ?_
        refine X.u (LU.moveR Is.rfl') rfl ?_
        refine X.u (LU.assignR Is.rfl') rfl ?_
        refine LL.nil (after_code ?_)
        refine LW.region ?_
        refine X.u (LU.moveS Is.rfl') rfl ?_
        refine X.u (LU.moveR Is.rfl') rfl ?_
        refine X.u (LU.moveR Is.rfl') rfl ?_
        refine X.u (LU.addN Is.rfl' Is.rfl' (wrap_i64 (by omega) (by omega))) rfl ?_
        refine X.u (LU.moveS Is.rfl') rfl ?_
        refine X.u (LU.lenN Try.underlying22 Is.rfl' (by (simp only [Option.getD_some, Option.getD_none, byteEls_length, intEls_length, List.length_append, List.length_cons, List.length_nil, List.length_map, List.length_drop, List.length_take, Int.toNat_natCast]; rfl))) rfl ?_
        refine X.u (LU.weak (LU.rem Is.rfl' Is.rfl' (by omega)) (Is.of (y := .raw (.int .i64 ((j : Nat) : Int))) (congrArg (fun z => LV.raw (.int .i64 z)) (by rw [tmod_nat, hj])))) rfl ?_
        refine X.u (LU.at Try.underlying22 ⟨Try.sizeOf31, Try.isAgg31⟩ Is.rfl' Is.rfl' (by omega) (rEls_at hx) (by simp)) rfl ?_
        refine X.u (LU.load ⟨Try.sizeOf31, Try.isAgg31⟩ Is.rfl' (by (simp; done)) (Part.whole (by (simp; done)))) rfl ?_
        refine X.u (LU.lits Try.underlying22 Try.sizeOf31 Try.zeroValue31 (ones rfl) rfl (by decide) (by decide) (Elems.cons Is.rfl' (by exact Cells.agg) Elems.nil) (by simp) rfl) rfl ?_
        refine X.u (LU.moveS Is.rfl') rfl ?_
        refine X.act (X.appendF rfl Try.underlying22 (El.of (P := Try.prog) (z := (.agg #[(.string ByteArray.empty), (.string ByteArray.empty), (.string ByteArray.empty), (.int .i64 0), (.bool false)])) (size := 5) (bytes := 64) rfl rfl rfl) Is.rfl' Is.rfl' (SrcL.slice Try.underlying22 (by decide) (by simp)) (by simp only [Option.getD_some, Option.getD_none, byteEls_length, intEls_length, List.length_append, List.length_cons, List.length_nil, List.length_map, List.length_drop, List.length_take, Int.toNat_natCast]; omega) (by simp only [Option.getD_some, Option.getD_none, byteEls_length, intEls_length, List.length_append, List.length_cons, List.length_nil, List.length_map, List.length_drop, List.length_take, Int.toNat_natCast]; omega) (fun b43 o43 c43 => ?_))
        refine X.weak (t := 43) (v := Rls (x :: m) (.tok b43 o43 c43)) (Is.of (rfl)) ?_
        refine X.u (LU.assignS Is.rfl') rfl ?_
        refine LL.nil (after_blk (after_code ?_))
        refine LW.region ?_
        refine X.u (LU.addN Is.rfl' Is.rfl' (wrap_i64 (by omega) (by omega))) rfl ?_
        refine X.u (LU.moveR Is.rfl') rfl ?_
        refine LL.nil (after_rnd ?_)
        refine X.next ((i + 1, x :: m, b43, o43, c43)) rfl (EnvLe.cons (by rfl) (EnvLe.cons (by rfl) (EnvLe.nil))) (Keeps.cons (by exact Eq.trans (b := .sl _ _ _) rfl rfl) (Keeps.cons (by exact Eq.trans (b := .raw _) rfl rfl) (Keeps.cons (by exact Eq.trans (b := .raw _) rfl rfl) (Keeps.cons (by exact Eq.trans (b := .raw _) rfl rfl) (Keeps.cons (by exact Eq.trans (b := .raw _) rfl rfl) (Keeps.nil)))))) (by repeat (first | exact HSub.refl _ | refine HSub.pick 0 rfl ?_ | refine HSub.pick 1 rfl ?_ | refine HSub.pick 2 rfl ?_ | refine HSub.pick 3 rfl ?_ | refine HSub.pick 4 rfl ?_ | refine HSub.drop ?_)) ?_ ?_
        · exact ⟨by omega, by simp [hi2], turn_next (hj ▸ hx) hi3⟩
        · (simp; omega)
      · try have h6 := of_decide_eq_false h6
        have hi : i = l.length := by omega
        rw [hi] at hi3
        have hmm := turn_mem hk2 hi3
        obtain ⟨y, hy⟩ := at_lt hk2
        have hm1 : LOk m := ⟨fun x hx => hl x ((hmm x).2 hx), by omega⟩
        have hm2 : LOk (m ++ [y]) := ⟨fun x hx => by rcases List.mem_append.1 hx with h | h; exact hl x ((hmm x).2 h); rw [List.mem_singleton.1 h]; exact hl y (List.mem_of_getElem? hy), by simp; omega⟩
        have law1 : decideB l a.s a.ch a.p a.right = decideB m a.s a.ch a.p a.right := decide_mem hmm
        have law2 : decideB l a.s a.ch a.p a.right = decideB (m ++ [y]) a.s a.ch a.p a.right := decide_mem fun x => by rw [hmm x, List.mem_append]; exact ⟨.inl, fun h => by rcases h with h | h; exact h; rw [List.mem_singleton.1 h]; exact (hmm y).1 (List.mem_of_getElem? hy)⟩
        refine LW.exit (exit_code (exit_rnd (exit_blk (after_code ?_))))
        refine LW.seq ?_
        refine LW.inv (m := 26) (γ := Nat × Nat × Nat) [(0, 45), (1, 46), (2, 47), (3, 48), (4, 49), (5, 50), (6, 51), (7, 52), (8, 53), (9, 54), (10, 55), (11, 56), (12, 57), (13, 58), (14, 59), (15, 60), (16, 61), (17, 62), (18, 63), (19, 64), (20, 65), (21, 66), (22, 67), (23, 68), (24, 69), (25, 6)] (fun g d => match g with | ⟨p, q, r⟩ => match d with | 45 => Rls l k0 | 46 => .agg (aL a) | 47 => bl (decideB l a.s a.ch a.p a.right) | 48 => Rls m (.tok tb to tc) | 49 => .agg (aL a) | 50 => bl (decideB m a.s a.ch a.p a.right) | 51 => bl true | 52 => bl true | 53 => Rls l k0 | 54 => .agg (aL a) | 55 => bl (decideB l a.s a.ch a.p a.right) | 56 => Rls m (.tok tb to tc) | 57 => Rls l k0 | 58 => i64 ((k : Nat) : Int) | 59 => .pin (rL y) | 60 => .agg (rL y) | 61 => Rls [y] .full | 62 => Rls (m ++ [y]) (.tok p q r) | 63 => .agg (aL a) | 64 => bl (decideB (m ++ [y]) a.s a.ch a.p a.right) | 65 => bl true | 66 => bl true | 67 => bl true | 68 => bl true | 69 => bl true | 6 => bl true | _ => .any) (fun g f => match g with | ⟨p, q, r⟩ => cond (f 17) (.tail p q r) (.tail tb to tc) :: .cells b5 27 (aL a) :: Rf) (0, 0, 0) rfl rfl rfl (by kernel_rfl) (HSub.refl _) ?_ ?_ (fun _ _ hw h => hw.lw h)
        · intro i hi f g hfi hdir hdown
          obtain ⟨p, q, r⟩ := g
          have hc : i = 0 ∨ i = 1 ∨ i = 2 ∨ i = 3 ∨ i = 4 ∨ i = 5 ∨ i = 6 ∨ i = 7 ∨ i = 8 ∨ i = 9 ∨ i = 10 ∨ i = 11 ∨ i = 12 ∨ i = 13 ∨ i = 14 ∨ i = 15 ∨ i = 16 ∨ i = 17 ∨ i = 18 ∨ i = 19 ∨ i = 20 ∨ i = 21 ∨ i = 22 ∨ i = 23 ∨ i = 24 ∨ i = 25 := by omega
          rcases hc with rfl | rfl | rfl | rfl | rfl | rfl | rfl | rfl | rfl | rfl | rfl | rfl | rfl | rfl | rfl | rfl | rfl | rfl | rfl | rfl | rfl | rfl | rfl | rfl | rfl | rfl
          · refine ⟨_, rfl, ?_⟩
            refine A.u (LU.moveS Is.rfl') rfl ?_
            refine ⟨⟨p, q, r⟩, Weaker.mk' ?_ (HSub.refl _)⟩
            refine env_back0 (envS_hit (sl := [(0, 45), (1, 46), (2, 47), (3, 48), (4, 49), (5, 50), (6, 51), (7, 52), (8, 53), (9, 54), (10, 55), (11, 56), (12, 57), (13, 58), (14, 59), (15, 60), (16, 61), (17, 62), (18, 63), (19, 64), (20, 65), (21, 66), (22, 67), (23, 68), (24, 69), (25, 6)]) (j := 0) (d := 45) rfl (fun _ _ h => h))  (envS_next ?_)
            · intro p hp hne; simp only [List.mem_cons, List.not_mem_nil, or_false] at hp; rcases hp with rfl | rfl | rfl | rfl | rfl | rfl | rfl | rfl | rfl | rfl | rfl | rfl | rfl | rfl | rfl | rfl | rfl | rfl | rfl | rfl | rfl | rfl | rfl | rfl | rfl | rfl <;> first | exact absurd rfl hne | exact ⟨rfl, rfl⟩
          · refine ⟨_, rfl, ?_⟩
            refine A.u (LU.loadO 1 rfl ⟨Try.sizeOf27, Try.isAgg27⟩ Is.rfl' (Part.whole (by (simp; done)))) rfl ?_
            refine ⟨⟨p, q, r⟩, Weaker.mk' ?_ (HSub.refl _)⟩
            refine env_back0 (envS_hit (sl := [(0, 45), (1, 46), (2, 47), (3, 48), (4, 49), (5, 50), (6, 51), (7, 52), (8, 53), (9, 54), (10, 55), (11, 56), (12, 57), (13, 58), (14, 59), (15, 60), (16, 61), (17, 62), (18, 63), (19, 64), (20, 65), (21, 66), (22, 67), (23, 68), (24, 69), (25, 6)]) (j := 1) (d := 46) rfl (fun _ _ h => h))  (envS_next ?_)
            · intro p hp hne; simp only [List.mem_cons, List.not_mem_nil, or_false] at hp; rcases hp with rfl | rfl | rfl | rfl | rfl | rfl | rfl | rfl | rfl | rfl | rfl | rfl | rfl | rfl | rfl | rfl | rfl | rfl | rfl | rfl | rfl | rfl | rfl | rfl | rfl | rfl <;> first | exact absurd rfl hne | exact ⟨rfl, rfl⟩
          · have d0 := hdir 0 (List.mem_of_elem_eq_true (by kernel_rfl))
            have d1 := hdir 1 (List.mem_of_elem_eq_true (by kernel_rfl))
            refine ⟨_, rfl, ?_⟩
            refine LP.weak (t := 45) (v := Rls l k0) (envS_is (j := 0) rfl d0) ?_
            refine LP.weak (t := 46) (v := .agg (aL a)) (envS_is (j := 1) rfl d1) ?_
            refine A.u (LU.call (dec_calls l k0 a hl3 hs) Try.func20 rfl rfl (Opds.cons Is.rfl' (Opds.cons Is.rfl' Opds.nil))) rfl ?_
            refine ⟨⟨p, q, r⟩, Weaker.mk' ?_ (HSub.refl _)⟩
            refine env_back2 (envS_hit (sl := [(0, 45), (1, 46), (2, 47), (3, 48), (4, 49), (5, 50), (6, 51), (7, 52), (8, 53), (9, 54), (10, 55), (11, 56), (12, 57), (13, 58), (14, 59), (15, 60), (16, 61), (17, 62), (18, 63), (19, 64), (20, 65), (21, 66), (22, 67), (23, 68), (24, 69), (25, 6)]) (j := 2) (d := 47) rfl (fun _ _ h => h)) (envS_hit (sl := [(0, 45), (1, 46), (2, 47), (3, 48), (4, 49), (5, 50), (6, 51), (7, 52), (8, 53), (9, 54), (10, 55), (11, 56), (12, 57), (13, 58), (14, 59), (15, 60), (16, 61), (17, 62), (18, 63), (19, 64), (20, 65), (21, 66), (22, 67), (23, 68), (24, 69), (25, 6)]) (j := 1) (d := 46) rfl (fun _ _ h => h)) (envS_hit (sl := [(0, 45), (1, 46), (2, 47), (3, 48), (4, 49), (5, 50), (6, 51), (7, 52), (8, 53), (9, 54), (10, 55), (11, 56), (12, 57), (13, 58), (14, 59), (15, 60), (16, 61), (17, 62), (18, 63), (19, 64), (20, 65), (21, 66), (22, 67), (23, 68), (24, 69), (25, 6)]) (j := 0) (d := 45) rfl (fun _ _ h => h)) (envS_next ?_)
            · intro p hp hne; simp only [List.mem_cons, List.not_mem_nil, or_false] at hp; rcases hp with rfl | rfl | rfl | rfl | rfl | rfl | rfl | rfl | rfl | rfl | rfl | rfl | rfl | rfl | rfl | rfl | rfl | rfl | rfl | rfl | rfl | rfl | rfl | rfl | rfl | rfl <;> first | exact absurd rfl hne | exact ⟨rfl, rfl⟩
          · refine ⟨_, rfl, ?_⟩
            refine A.u (LU.moveS Is.rfl') rfl ?_
            refine ⟨⟨p, q, r⟩, Weaker.mk' ?_ (HSub.refl _)⟩
            refine env_back0 (envS_hit (sl := [(0, 45), (1, 46), (2, 47), (3, 48), (4, 49), (5, 50), (6, 51), (7, 52), (8, 53), (9, 54), (10, 55), (11, 56), (12, 57), (13, 58), (14, 59), (15, 60), (16, 61), (17, 62), (18, 63), (19, 64), (20, 65), (21, 66), (22, 67), (23, 68), (24, 69), (25, 6)]) (j := 3) (d := 48) rfl (fun _ _ h => h))  (envS_next ?_)
            · intro p hp hne; simp only [List.mem_cons, List.not_mem_nil, or_false] at hp; rcases hp with rfl | rfl | rfl | rfl | rfl | rfl | rfl | rfl | rfl | rfl | rfl | rfl | rfl | rfl | rfl | rfl | rfl | rfl | rfl | rfl | rfl | rfl | rfl | rfl | rfl | rfl <;> first | exact absurd rfl hne | exact ⟨rfl, rfl⟩
          · refine ⟨_, rfl, ?_⟩
            refine A.u (LU.loadO 1 rfl ⟨Try.sizeOf27, Try.isAgg27⟩ Is.rfl' (Part.whole (by (simp; done)))) rfl ?_
            refine ⟨⟨p, q, r⟩, Weaker.mk' ?_ (HSub.refl _)⟩
            refine env_back0 (envS_hit (sl := [(0, 45), (1, 46), (2, 47), (3, 48), (4, 49), (5, 50), (6, 51), (7, 52), (8, 53), (9, 54), (10, 55), (11, 56), (12, 57), (13, 58), (14, 59), (15, 60), (16, 61), (17, 62), (18, 63), (19, 64), (20, 65), (21, 66), (22, 67), (23, 68), (24, 69), (25, 6)]) (j := 4) (d := 49) rfl (fun _ _ h => h))  (envS_next ?_)
            · intro p hp hne; simp only [List.mem_cons, List.not_mem_nil, or_false] at hp; rcases hp with rfl | rfl | rfl | rfl | rfl | rfl | rfl | rfl | rfl | rfl | rfl | rfl | rfl | rfl | rfl | rfl | rfl | rfl | rfl | rfl | rfl | rfl | rfl | rfl | rfl | rfl <;> first | exact absurd rfl hne | exact ⟨rfl, rfl⟩
          · have d2 := hdir 2 (List.mem_of_elem_eq_true (by kernel_rfl))
            have d3 := hdir 3 (List.mem_of_elem_eq_true (by kernel_rfl))
            have d4 := hdir 4 (List.mem_of_elem_eq_true (by kernel_rfl))
            refine ⟨_, rfl, ?_⟩
            refine LP.weak (t := 48) (v := Rls m (.tok tb to tc)) (envS_is (j := 3) rfl d3) ?_
            refine LP.weak (t := 49) (v := .agg (aL a)) (envS_is (j := 4) rfl d4) ?_
            refine A.u (LU.call (dec_calls m _ a hm1 hs) Try.func20 rfl rfl (Opds.cons Is.rfl' (Opds.cons Is.rfl' Opds.nil))) rfl ?_
            refine ⟨⟨p, q, r⟩, Weaker.mk' ?_ (HSub.refl _)⟩
            refine env_back2 (envS_hit (sl := [(0, 45), (1, 46), (2, 47), (3, 48), (4, 49), (5, 50), (6, 51), (7, 52), (8, 53), (9, 54), (10, 55), (11, 56), (12, 57), (13, 58), (14, 59), (15, 60), (16, 61), (17, 62), (18, 63), (19, 64), (20, 65), (21, 66), (22, 67), (23, 68), (24, 69), (25, 6)]) (j := 5) (d := 50) rfl (fun _ _ h => h)) (envS_hit (sl := [(0, 45), (1, 46), (2, 47), (3, 48), (4, 49), (5, 50), (6, 51), (7, 52), (8, 53), (9, 54), (10, 55), (11, 56), (12, 57), (13, 58), (14, 59), (15, 60), (16, 61), (17, 62), (18, 63), (19, 64), (20, 65), (21, 66), (22, 67), (23, 68), (24, 69), (25, 6)]) (j := 4) (d := 49) rfl (fun _ _ h => h)) (envS_hit (sl := [(0, 45), (1, 46), (2, 47), (3, 48), (4, 49), (5, 50), (6, 51), (7, 52), (8, 53), (9, 54), (10, 55), (11, 56), (12, 57), (13, 58), (14, 59), (15, 60), (16, 61), (17, 62), (18, 63), (19, 64), (20, 65), (21, 66), (22, 67), (23, 68), (24, 69), (25, 6)]) (j := 3) (d := 48) rfl (fun _ _ h => h)) (envS_next ?_)
            · intro p hp hne; simp only [List.mem_cons, List.not_mem_nil, or_false] at hp; rcases hp with rfl | rfl | rfl | rfl | rfl | rfl | rfl | rfl | rfl | rfl | rfl | rfl | rfl | rfl | rfl | rfl | rfl | rfl | rfl | rfl | rfl | rfl | rfl | rfl | rfl | rfl <;> first | exact absurd rfl hne | exact ⟨rfl, rfl⟩
          · have d2 := hdir 2 (List.mem_of_elem_eq_true (by kernel_rfl))
            have d5 := hdir 5 (List.mem_of_elem_eq_true (by kernel_rfl))
            refine ⟨_, rfl, ?_⟩
            refine LP.weak (t := 47) (v := bl (decideB l a.s a.ch a.p a.right)) (envS_is (j := 2) rfl d2) ?_
            refine LP.weak (t := 50) (v := bl (decideB m a.s a.ch a.p a.right)) (envS_is (j := 5) rfl d5) ?_
            refine A.u (LU.weak (LU.booleq Try.underlying4 Is.rfl' Is.rfl') (asB (c := true) rfl (by rw [law1]; simp))) rfl ?_
            refine ⟨⟨p, q, r⟩, Weaker.mk' ?_ (HSub.refl _)⟩
            refine env_back2 (envS_hit (sl := [(0, 45), (1, 46), (2, 47), (3, 48), (4, 49), (5, 50), (6, 51), (7, 52), (8, 53), (9, 54), (10, 55), (11, 56), (12, 57), (13, 58), (14, 59), (15, 60), (16, 61), (17, 62), (18, 63), (19, 64), (20, 65), (21, 66), (22, 67), (23, 68), (24, 69), (25, 6)]) (j := 6) (d := 51) rfl (fun _ _ h => h)) (envS_hit (sl := [(0, 45), (1, 46), (2, 47), (3, 48), (4, 49), (5, 50), (6, 51), (7, 52), (8, 53), (9, 54), (10, 55), (11, 56), (12, 57), (13, 58), (14, 59), (15, 60), (16, 61), (17, 62), (18, 63), (19, 64), (20, 65), (21, 66), (22, 67), (23, 68), (24, 69), (25, 6)]) (j := 5) (d := 50) rfl (fun _ _ h => h)) (envS_hit (sl := [(0, 45), (1, 46), (2, 47), (3, 48), (4, 49), (5, 50), (6, 51), (7, 52), (8, 53), (9, 54), (10, 55), (11, 56), (12, 57), (13, 58), (14, 59), (15, 60), (16, 61), (17, 62), (18, 63), (19, 64), (20, 65), (21, 66), (22, 67), (23, 68), (24, 69), (25, 6)]) (j := 2) (d := 47) rfl (fun _ _ h => h)) (envS_next ?_)
            · intro p hp hne; simp only [List.mem_cons, List.not_mem_nil, or_false] at hp; rcases hp with rfl | rfl | rfl | rfl | rfl | rfl | rfl | rfl | rfl | rfl | rfl | rfl | rfl | rfl | rfl | rfl | rfl | rfl | rfl | rfl | rfl | rfl | rfl | rfl | rfl | rfl <;> first | exact absurd rfl hne | exact ⟨rfl, rfl⟩
          · have d5 := hdir 5 (List.mem_of_elem_eq_true (by kernel_rfl))
            have d6 := hdir 6 (List.mem_of_elem_eq_true (by kernel_rfl))
            refine ⟨_, rfl, ?_⟩
            refine LP.weak (t := 51) (v := bl true) (envS_is (j := 6) rfl d6) ?_
            refine A.u (LU.moveR Is.rfl') rfl ?_
            refine ⟨⟨p, q, r⟩, Weaker.mk' ?_ (HSub.refl _)⟩
            refine env_back1 (envS_hit (sl := [(0, 45), (1, 46), (2, 47), (3, 48), (4, 49), (5, 50), (6, 51), (7, 52), (8, 53), (9, 54), (10, 55), (11, 56), (12, 57), (13, 58), (14, 59), (15, 60), (16, 61), (17, 62), (18, 63), (19, 64), (20, 65), (21, 66), (22, 67), (23, 68), (24, 69), (25, 6)]) (j := 7) (d := 52) rfl (fun _ _ h => h)) (envS_hit (sl := [(0, 45), (1, 46), (2, 47), (3, 48), (4, 49), (5, 50), (6, 51), (7, 52), (8, 53), (9, 54), (10, 55), (11, 56), (12, 57), (13, 58), (14, 59), (15, 60), (16, 61), (17, 62), (18, 63), (19, 64), (20, 65), (21, 66), (22, 67), (23, 68), (24, 69), (25, 6)]) (j := 6) (d := 51) rfl (fun _ _ h => h)) (envS_next ?_)
            · intro p hp hne; simp only [List.mem_cons, List.not_mem_nil, or_false] at hp; rcases hp with rfl | rfl | rfl | rfl | rfl | rfl | rfl | rfl | rfl | rfl | rfl | rfl | rfl | rfl | rfl | rfl | rfl | rfl | rfl | rfl | rfl | rfl | rfl | rfl | rfl | rfl <;> first | exact absurd rfl hne | exact ⟨rfl, rfl⟩
          · have d7 := hdir 7 (List.mem_of_elem_eq_true (by kernel_rfl))
            refine ⟨_, rfl, ?_⟩
            refine LP.weak (t := 52) (v := bl true) (envS_is (j := 7) rfl d7) ?_
            refine A.doT rfl rfl (LU.moveS (by exact Is.rfl')) rfl ?_
            refine ⟨⟨p, q, r⟩, Weaker.mk' ?_ (HSub.refl _)⟩
            refine env_back1 (envS_hit (sl := [(0, 45), (1, 46), (2, 47), (3, 48), (4, 49), (5, 50), (6, 51), (7, 52), (8, 53), (9, 54), (10, 55), (11, 56), (12, 57), (13, 58), (14, 59), (15, 60), (16, 61), (17, 62), (18, 63), (19, 64), (20, 65), (21, 66), (22, 67), (23, 68), (24, 69), (25, 6)]) (j := 8) (d := 53) rfl (fun _ _ h => h)) (envS_hit (sl := [(0, 45), (1, 46), (2, 47), (3, 48), (4, 49), (5, 50), (6, 51), (7, 52), (8, 53), (9, 54), (10, 55), (11, 56), (12, 57), (13, 58), (14, 59), (15, 60), (16, 61), (17, 62), (18, 63), (19, 64), (20, 65), (21, 66), (22, 67), (23, 68), (24, 69), (25, 6)]) (j := 7) (d := 52) rfl (fun _ _ h => h)) (envS_next ?_)
            · intro p hp hne; simp only [List.mem_cons, List.not_mem_nil, or_false] at hp; rcases hp with rfl | rfl | rfl | rfl | rfl | rfl | rfl | rfl | rfl | rfl | rfl | rfl | rfl | rfl | rfl | rfl | rfl | rfl | rfl | rfl | rfl | rfl | rfl | rfl | rfl | rfl <;> first | exact absurd rfl hne | exact ⟨rfl, rfl⟩
          · have d7 := hdir 7 (List.mem_of_elem_eq_true (by kernel_rfl))
            refine ⟨_, rfl, ?_⟩
            refine LP.weak (t := 52) (v := bl true) (envS_is (j := 7) rfl d7) ?_
            refine A.doT rfl rfl (LU.loadO 1 rfl ⟨Try.sizeOf27, Try.isAgg27⟩ (by exact Is.rfl') (Part.whole (by (simp; done)))) rfl ?_
            refine ⟨⟨p, q, r⟩, Weaker.mk' ?_ (HSub.refl _)⟩
            refine env_back1 (envS_hit (sl := [(0, 45), (1, 46), (2, 47), (3, 48), (4, 49), (5, 50), (6, 51), (7, 52), (8, 53), (9, 54), (10, 55), (11, 56), (12, 57), (13, 58), (14, 59), (15, 60), (16, 61), (17, 62), (18, 63), (19, 64), (20, 65), (21, 66), (22, 67), (23, 68), (24, 69), (25, 6)]) (j := 9) (d := 54) rfl (fun _ _ h => h)) (envS_hit (sl := [(0, 45), (1, 46), (2, 47), (3, 48), (4, 49), (5, 50), (6, 51), (7, 52), (8, 53), (9, 54), (10, 55), (11, 56), (12, 57), (13, 58), (14, 59), (15, 60), (16, 61), (17, 62), (18, 63), (19, 64), (20, 65), (21, 66), (22, 67), (23, 68), (24, 69), (25, 6)]) (j := 7) (d := 52) rfl (fun _ _ h => h)) (envS_next ?_)
            · intro p hp hne; simp only [List.mem_cons, List.not_mem_nil, or_false] at hp; rcases hp with rfl | rfl | rfl | rfl | rfl | rfl | rfl | rfl | rfl | rfl | rfl | rfl | rfl | rfl | rfl | rfl | rfl | rfl | rfl | rfl | rfl | rfl | rfl | rfl | rfl | rfl <;> first | exact absurd rfl hne | exact ⟨rfl, rfl⟩
          · have d7 := hdir 7 (List.mem_of_elem_eq_true (by kernel_rfl))
            have d8 := hdir 8 (List.mem_of_elem_eq_true (by kernel_rfl))
            have d9 := hdir 9 (List.mem_of_elem_eq_true (by kernel_rfl))
            refine ⟨_, rfl, ?_⟩
            refine LP.weak (t := 52) (v := bl true) (envS_is (j := 7) rfl d7) ?_
            refine LP.weak (t := 53) (v := Rls l k0) (envS_is (j := 8) rfl d8) ?_
            refine LP.weak (t := 54) (v := .agg (aL a)) (envS_is (j := 9) rfl d9) ?_
            refine A.doT rfl rfl (LU.call (dec_calls l k0 a hl3 hs) Try.func20 rfl rfl (Opds.cons (by exact Is.rfl') (Opds.cons (by exact Is.rfl') Opds.nil))) rfl ?_
            refine ⟨⟨p, q, r⟩, Weaker.mk' ?_ (HSub.refl _)⟩
            refine env_back3 (envS_hit (sl := [(0, 45), (1, 46), (2, 47), (3, 48), (4, 49), (5, 50), (6, 51), (7, 52), (8, 53), (9, 54), (10, 55), (11, 56), (12, 57), (13, 58), (14, 59), (15, 60), (16, 61), (17, 62), (18, 63), (19, 64), (20, 65), (21, 66), (22, 67), (23, 68), (24, 69), (25, 6)]) (j := 10) (d := 55) rfl (fun _ _ h => h)) (envS_hit (sl := [(0, 45), (1, 46), (2, 47), (3, 48), (4, 49), (5, 50), (6, 51), (7, 52), (8, 53), (9, 54), (10, 55), (11, 56), (12, 57), (13, 58), (14, 59), (15, 60), (16, 61), (17, 62), (18, 63), (19, 64), (20, 65), (21, 66), (22, 67), (23, 68), (24, 69), (25, 6)]) (j := 9) (d := 54) rfl (fun _ _ h => h)) (envS_hit (sl := [(0, 45), (1, 46), (2, 47), (3, 48), (4, 49), (5, 50), (6, 51), (7, 52), (8, 53), (9, 54), (10, 55), (11, 56), (12, 57), (13, 58), (14, 59), (15, 60), (16, 61), (17, 62), (18, 63), (19, 64), (20, 65), (21, 66), (22, 67), (23, 68), (24, 69), (25, 6)]) (j := 8) (d := 53) rfl (fun _ _ h => h)) (envS_hit (sl := [(0, 45), (1, 46), (2, 47), (3, 48), (4, 49), (5, 50), (6, 51), (7, 52), (8, 53), (9, 54), (10, 55), (11, 56), (12, 57), (13, 58), (14, 59), (15, 60), (16, 61), (17, 62), (18, 63), (19, 64), (20, 65), (21, 66), (22, 67), (23, 68), (24, 69), (25, 6)]) (j := 7) (d := 52) rfl (fun _ _ h => h)) (envS_next ?_)
            · intro p hp hne; simp only [List.mem_cons, List.not_mem_nil, or_false] at hp; rcases hp with rfl | rfl | rfl | rfl | rfl | rfl | rfl | rfl | rfl | rfl | rfl | rfl | rfl | rfl | rfl | rfl | rfl | rfl | rfl | rfl | rfl | rfl | rfl | rfl | rfl | rfl <;> first | exact absurd rfl hne | exact ⟨rfl, rfl⟩
          · have d7 := hdir 7 (List.mem_of_elem_eq_true (by kernel_rfl))
            refine ⟨_, rfl, ?_⟩
            refine LP.weak (t := 52) (v := bl true) (envS_is (j := 7) rfl d7) ?_
            refine A.doT rfl rfl (LU.moveS (by exact Is.rfl')) rfl ?_
            refine ⟨⟨p, q, r⟩, Weaker.mk' ?_ (HSub.refl _)⟩
            refine env_back1 (envS_hit (sl := [(0, 45), (1, 46), (2, 47), (3, 48), (4, 49), (5, 50), (6, 51), (7, 52), (8, 53), (9, 54), (10, 55), (11, 56), (12, 57), (13, 58), (14, 59), (15, 60), (16, 61), (17, 62), (18, 63), (19, 64), (20, 65), (21, 66), (22, 67), (23, 68), (24, 69), (25, 6)]) (j := 11) (d := 56) rfl (fun _ _ h => h)) (envS_hit (sl := [(0, 45), (1, 46), (2, 47), (3, 48), (4, 49), (5, 50), (6, 51), (7, 52), (8, 53), (9, 54), (10, 55), (11, 56), (12, 57), (13, 58), (14, 59), (15, 60), (16, 61), (17, 62), (18, 63), (19, 64), (20, 65), (21, 66), (22, 67), (23, 68), (24, 69), (25, 6)]) (j := 7) (d := 52) rfl (fun _ _ h => h)) (envS_next ?_)
            · intro p hp hne; simp only [List.mem_cons, List.not_mem_nil, or_false] at hp; rcases hp with rfl | rfl | rfl | rfl | rfl | rfl | rfl | rfl | rfl | rfl | rfl | rfl | rfl | rfl | rfl | rfl | rfl | rfl | rfl | rfl | rfl | rfl | rfl | rfl | rfl | rfl <;> first | exact absurd rfl hne | exact ⟨rfl, rfl⟩
          · have d7 := hdir 7 (List.mem_of_elem_eq_true (by kernel_rfl))
            refine ⟨_, rfl, ?_⟩
            refine LP.weak (t := 52) (v := bl true) (envS_is (j := 7) rfl d7) ?_
            refine A.doT rfl rfl (LU.moveS (by exact Is.rfl')) rfl ?_
            refine ⟨⟨p, q, r⟩, Weaker.mk' ?_ (HSub.refl _)⟩
            refine env_back1 (envS_hit (sl := [(0, 45), (1, 46), (2, 47), (3, 48), (4, 49), (5, 50), (6, 51), (7, 52), (8, 53), (9, 54), (10, 55), (11, 56), (12, 57), (13, 58), (14, 59), (15, 60), (16, 61), (17, 62), (18, 63), (19, 64), (20, 65), (21, 66), (22, 67), (23, 68), (24, 69), (25, 6)]) (j := 12) (d := 57) rfl (fun _ _ h => h)) (envS_hit (sl := [(0, 45), (1, 46), (2, 47), (3, 48), (4, 49), (5, 50), (6, 51), (7, 52), (8, 53), (9, 54), (10, 55), (11, 56), (12, 57), (13, 58), (14, 59), (15, 60), (16, 61), (17, 62), (18, 63), (19, 64), (20, 65), (21, 66), (22, 67), (23, 68), (24, 69), (25, 6)]) (j := 7) (d := 52) rfl (fun _ _ h => h)) (envS_next ?_)
            · intro p hp hne; simp only [List.mem_cons, List.not_mem_nil, or_false] at hp; rcases hp with rfl | rfl | rfl | rfl | rfl | rfl | rfl | rfl | rfl | rfl | rfl | rfl | rfl | rfl | rfl | rfl | rfl | rfl | rfl | rfl | rfl | rfl | rfl | rfl | rfl | rfl <;> first | exact absurd rfl hne | exact ⟨rfl, rfl⟩
          · have d7 := hdir 7 (List.mem_of_elem_eq_true (by kernel_rfl))
            refine ⟨_, rfl, ?_⟩
            refine LP.weak (t := 52) (v := bl true) (envS_is (j := 7) rfl d7) ?_
            refine A.doT rfl rfl (LU.moveR (by exact Is.rfl')) rfl ?_
            refine ⟨⟨p, q, r⟩, Weaker.mk' ?_ (HSub.refl _)⟩
            refine env_back1 (envS_hit (sl := [(0, 45), (1, 46), (2, 47), (3, 48), (4, 49), (5, 50), (6, 51), (7, 52), (8, 53), (9, 54), (10, 55), (11, 56), (12, 57), (13, 58), (14, 59), (15, 60), (16, 61), (17, 62), (18, 63), (19, 64), (20, 65), (21, 66), (22, 67), (23, 68), (24, 69), (25, 6)]) (j := 13) (d := 58) rfl (fun _ _ h => h)) (envS_hit (sl := [(0, 45), (1, 46), (2, 47), (3, 48), (4, 49), (5, 50), (6, 51), (7, 52), (8, 53), (9, 54), (10, 55), (11, 56), (12, 57), (13, 58), (14, 59), (15, 60), (16, 61), (17, 62), (18, 63), (19, 64), (20, 65), (21, 66), (22, 67), (23, 68), (24, 69), (25, 6)]) (j := 7) (d := 52) rfl (fun _ _ h => h)) (envS_next ?_)
            · intro p hp hne; simp only [List.mem_cons, List.not_mem_nil, or_false] at hp; rcases hp with rfl | rfl | rfl | rfl | rfl | rfl | rfl | rfl | rfl | rfl | rfl | rfl | rfl | rfl | rfl | rfl | rfl | rfl | rfl | rfl | rfl | rfl | rfl | rfl | rfl | rfl <;> first | exact absurd rfl hne | exact ⟨rfl, rfl⟩
          · have d7 := hdir 7 (List.mem_of_elem_eq_true (by kernel_rfl))
            have d12 := hdir 12 (List.mem_of_elem_eq_true (by kernel_rfl))
            have d13 := hdir 13 (List.mem_of_elem_eq_true (by kernel_rfl))
            refine ⟨_, rfl, ?_⟩
            refine LP.weak (t := 52) (v := bl true) (envS_is (j := 7) rfl d7) ?_
            refine LP.weak (t := 57) (v := Rls l k0) (envS_is (j := 12) rfl d12) ?_
            refine LP.weak (t := 58) (v := i64 ((k : Nat) : Int)) (envS_is (j := 13) rfl d13) ?_
            refine A.doT rfl rfl (LU.at Try.underlying22 ⟨Try.sizeOf31, Try.isAgg31⟩ (by exact Is.rfl') (by exact Is.rfl') (by omega) (rEls_at hy) (by simp)) rfl ?_
            refine ⟨⟨p, q, r⟩, Weaker.mk' ?_ (HSub.refl _)⟩
            refine env_back3 (envS_hit (sl := [(0, 45), (1, 46), (2, 47), (3, 48), (4, 49), (5, 50), (6, 51), (7, 52), (8, 53), (9, 54), (10, 55), (11, 56), (12, 57), (13, 58), (14, 59), (15, 60), (16, 61), (17, 62), (18, 63), (19, 64), (20, 65), (21, 66), (22, 67), (23, 68), (24, 69), (25, 6)]) (j := 14) (d := 59) rfl (fun _ _ h => h)) (envS_hit (sl := [(0, 45), (1, 46), (2, 47), (3, 48), (4, 49), (5, 50), (6, 51), (7, 52), (8, 53), (9, 54), (10, 55), (11, 56), (12, 57), (13, 58), (14, 59), (15, 60), (16, 61), (17, 62), (18, 63), (19, 64), (20, 65), (21, 66), (22, 67), (23, 68), (24, 69), (25, 6)]) (j := 13) (d := 58) rfl (fun _ _ h => h)) (envS_hit (sl := [(0, 45), (1, 46), (2, 47), (3, 48), (4, 49), (5, 50), (6, 51), (7, 52), (8, 53), (9, 54), (10, 55), (11, 56), (12, 57), (13, 58), (14, 59), (15, 60), (16, 61), (17, 62), (18, 63), (19, 64), (20, 65), (21, 66), (22, 67), (23, 68), (24, 69), (25, 6)]) (j := 12) (d := 57) rfl (fun _ _ h => h)) (envS_hit (sl := [(0, 45), (1, 46), (2, 47), (3, 48), (4, 49), (5, 50), (6, 51), (7, 52), (8, 53), (9, 54), (10, 55), (11, 56), (12, 57), (13, 58), (14, 59), (15, 60), (16, 61), (17, 62), (18, 63), (19, 64), (20, 65), (21, 66), (22, 67), (23, 68), (24, 69), (25, 6)]) (j := 7) (d := 52) rfl (fun _ _ h => h)) (envS_next ?_)
            · intro p hp hne; simp only [List.mem_cons, List.not_mem_nil, or_false] at hp; rcases hp with rfl | rfl | rfl | rfl | rfl | rfl | rfl | rfl | rfl | rfl | rfl | rfl | rfl | rfl | rfl | rfl | rfl | rfl | rfl | rfl | rfl | rfl | rfl | rfl | rfl | rfl <;> first | exact absurd rfl hne | exact ⟨rfl, rfl⟩
          · have d7 := hdir 7 (List.mem_of_elem_eq_true (by kernel_rfl))
            have d14 := hdir 14 (List.mem_of_elem_eq_true (by kernel_rfl))
            refine ⟨_, rfl, ?_⟩
            refine LP.weak (t := 52) (v := bl true) (envS_is (j := 7) rfl d7) ?_
            refine LP.weak (t := 59) (v := .pin (rL y)) (envS_is (j := 14) rfl d14) ?_
            refine A.doT rfl rfl (LU.load ⟨Try.sizeOf31, Try.isAgg31⟩ (by exact Is.rfl') (by (simp; done)) (Part.whole (by (simp; done)))) rfl ?_
            refine ⟨⟨p, q, r⟩, Weaker.mk' ?_ (HSub.refl _)⟩
            refine env_back2 (envS_hit (sl := [(0, 45), (1, 46), (2, 47), (3, 48), (4, 49), (5, 50), (6, 51), (7, 52), (8, 53), (9, 54), (10, 55), (11, 56), (12, 57), (13, 58), (14, 59), (15, 60), (16, 61), (17, 62), (18, 63), (19, 64), (20, 65), (21, 66), (22, 67), (23, 68), (24, 69), (25, 6)]) (j := 15) (d := 60) rfl (fun _ _ h => h)) (envS_hit (sl := [(0, 45), (1, 46), (2, 47), (3, 48), (4, 49), (5, 50), (6, 51), (7, 52), (8, 53), (9, 54), (10, 55), (11, 56), (12, 57), (13, 58), (14, 59), (15, 60), (16, 61), (17, 62), (18, 63), (19, 64), (20, 65), (21, 66), (22, 67), (23, 68), (24, 69), (25, 6)]) (j := 14) (d := 59) rfl (fun _ _ h => h)) (envS_hit (sl := [(0, 45), (1, 46), (2, 47), (3, 48), (4, 49), (5, 50), (6, 51), (7, 52), (8, 53), (9, 54), (10, 55), (11, 56), (12, 57), (13, 58), (14, 59), (15, 60), (16, 61), (17, 62), (18, 63), (19, 64), (20, 65), (21, 66), (22, 67), (23, 68), (24, 69), (25, 6)]) (j := 7) (d := 52) rfl (fun _ _ h => h)) (envS_next ?_)
            · intro p hp hne; simp only [List.mem_cons, List.not_mem_nil, or_false] at hp; rcases hp with rfl | rfl | rfl | rfl | rfl | rfl | rfl | rfl | rfl | rfl | rfl | rfl | rfl | rfl | rfl | rfl | rfl | rfl | rfl | rfl | rfl | rfl | rfl | rfl | rfl | rfl <;> first | exact absurd rfl hne | exact ⟨rfl, rfl⟩
          · have d7 := hdir 7 (List.mem_of_elem_eq_true (by kernel_rfl))
            have d15 := hdir 15 (List.mem_of_elem_eq_true (by kernel_rfl))
            refine ⟨_, rfl, ?_⟩
            refine LP.weak (t := 52) (v := bl true) (envS_is (j := 7) rfl d7) ?_
            refine LP.weak (t := 60) (v := .agg (rL y)) (envS_is (j := 15) rfl d15) ?_
            refine A.doT rfl rfl (LU.lits Try.underlying22 Try.sizeOf31 Try.zeroValue31 (ones rfl) rfl (by decide) (by decide) (Elems.cons (by exact Is.rfl') (by exact Cells.agg) Elems.nil) (by simp) rfl) rfl ?_
            refine ⟨⟨p, q, r⟩, Weaker.mk' ?_ (HSub.refl _)⟩
            refine env_back2 (envS_hit (sl := [(0, 45), (1, 46), (2, 47), (3, 48), (4, 49), (5, 50), (6, 51), (7, 52), (8, 53), (9, 54), (10, 55), (11, 56), (12, 57), (13, 58), (14, 59), (15, 60), (16, 61), (17, 62), (18, 63), (19, 64), (20, 65), (21, 66), (22, 67), (23, 68), (24, 69), (25, 6)]) (j := 16) (d := 61) rfl (fun _ _ h => h)) (envS_hit (sl := [(0, 45), (1, 46), (2, 47), (3, 48), (4, 49), (5, 50), (6, 51), (7, 52), (8, 53), (9, 54), (10, 55), (11, 56), (12, 57), (13, 58), (14, 59), (15, 60), (16, 61), (17, 62), (18, 63), (19, 64), (20, 65), (21, 66), (22, 67), (23, 68), (24, 69), (25, 6)]) (j := 15) (d := 60) rfl (fun _ _ h => h)) (envS_hit (sl := [(0, 45), (1, 46), (2, 47), (3, 48), (4, 49), (5, 50), (6, 51), (7, 52), (8, 53), (9, 54), (10, 55), (11, 56), (12, 57), (13, 58), (14, 59), (15, 60), (16, 61), (17, 62), (18, 63), (19, 64), (20, 65), (21, 66), (22, 67), (23, 68), (24, 69), (25, 6)]) (j := 7) (d := 52) rfl (fun _ _ h => h)) (envS_next ?_)
            · intro p hp hne; simp only [List.mem_cons, List.not_mem_nil, or_false] at hp; rcases hp with rfl | rfl | rfl | rfl | rfl | rfl | rfl | rfl | rfl | rfl | rfl | rfl | rfl | rfl | rfl | rfl | rfl | rfl | rfl | rfl | rfl | rfl | rfl | rfl | rfl | rfl <;> first | exact absurd rfl hne | exact ⟨rfl, rfl⟩
          · have d7 := hdir 7 (List.mem_of_elem_eq_true (by kernel_rfl))
            have d10 := hdir 10 (List.mem_of_elem_eq_true (by kernel_rfl))
            have d11 := hdir 11 (List.mem_of_elem_eq_true (by kernel_rfl))
            have d16 := hdir 16 (List.mem_of_elem_eq_true (by kernel_rfl))
            refine ⟨_, rfl, ?_⟩
            refine LP.ghost (H' := .tail tb to tc :: .cells b5 27 (aL a) :: Rf) (by rw [hfi]; exact HSub.refl _) ?_
            refine LP.weak (t := 52) (v := bl true) (envS_is (j := 7) rfl d7) ?_
            refine LP.weak (t := 56) (v := Rls m (.tok tb to tc)) (envS_is (j := 11) rfl d11) ?_
            refine LP.weak (t := 61) (v := Rls [y] .full) (envS_is (j := 16) rfl d16) ?_
            refine A.actG rfl rfl (X.append 0 rfl rfl Try.underlying22 (El.of (P := Try.prog) (z := (.agg #[(.string ByteArray.empty), (.string ByteArray.empty), (.string ByteArray.empty), (.int .i64 0), (.bool false)])) (size := 5) (bytes := 64) rfl rfl rfl) (by exact Is.rfl') (by exact Is.rfl') (SrcL.slice Try.underlying22 (by decide) (by (intro e he; simp [chunks] at he; simp [he]; done))) (by simp only [Option.getD_some, Option.getD_none, byteEls_length, intEls_length, List.length_append, List.length_cons, List.length_nil, List.length_map, List.length_drop, List.length_take, Int.toNat_natCast]; omega) (by simp only [Option.getD_some, Option.getD_none, byteEls_length, intEls_length, List.length_append, List.length_cons, List.length_nil, List.length_map, List.length_drop, List.length_take, Int.toNat_natCast]; omega) (fun b62 o62 c62 => ?_))
            refine ⟨(b62, o62, c62), Weaker.mk' ?_ (HSub.refl _)⟩
            refine env_back3 (envS_hit (sl := [(0, 45), (1, 46), (2, 47), (3, 48), (4, 49), (5, 50), (6, 51), (7, 52), (8, 53), (9, 54), (10, 55), (11, 56), (12, 57), (13, 58), (14, 59), (15, 60), (16, 61), (17, 62), (18, 63), (19, 64), (20, 65), (21, 66), (22, 67), (23, 68), (24, 69), (25, 6)]) (j := 17) (d := 62) rfl (Is.of (congrArg (fun z => LV.sl 5 z (.tok b62 o62 c62)) (rEls_snoc m y)))) (envS_hit (sl := [(0, 45), (1, 46), (2, 47), (3, 48), (4, 49), (5, 50), (6, 51), (7, 52), (8, 53), (9, 54), (10, 55), (11, 56), (12, 57), (13, 58), (14, 59), (15, 60), (16, 61), (17, 62), (18, 63), (19, 64), (20, 65), (21, 66), (22, 67), (23, 68), (24, 69), (25, 6)]) (j := 16) (d := 61) rfl (fun _ _ h => h)) (envS_hit (sl := [(0, 45), (1, 46), (2, 47), (3, 48), (4, 49), (5, 50), (6, 51), (7, 52), (8, 53), (9, 54), (10, 55), (11, 56), (12, 57), (13, 58), (14, 59), (15, 60), (16, 61), (17, 62), (18, 63), (19, 64), (20, 65), (21, 66), (22, 67), (23, 68), (24, 69), (25, 6)]) (j := 11) (d := 56) rfl (fun _ _ h => h)) (envS_hit (sl := [(0, 45), (1, 46), (2, 47), (3, 48), (4, 49), (5, 50), (6, 51), (7, 52), (8, 53), (9, 54), (10, 55), (11, 56), (12, 57), (13, 58), (14, 59), (15, 60), (16, 61), (17, 62), (18, 63), (19, 64), (20, 65), (21, 66), (22, 67), (23, 68), (24, 69), (25, 6)]) (j := 7) (d := 52) rfl (fun _ _ h => h)) (envS_next ?_)
            · intro p hp hne; simp only [List.mem_cons, List.not_mem_nil, or_false] at hp; rcases hp with rfl | rfl | rfl | rfl | rfl | rfl | rfl | rfl | rfl | rfl | rfl | rfl | rfl | rfl | rfl | rfl | rfl | rfl | rfl | rfl | rfl | rfl | rfl | rfl | rfl | rfl <;> first | exact absurd rfl hne | exact ⟨rfl, rfl⟩
          · have d7 := hdir 7 (List.mem_of_elem_eq_true (by kernel_rfl))
            refine ⟨_, rfl, ?_⟩
            refine LP.weak (t := 52) (v := bl true) (envS_is (j := 7) rfl d7) ?_
            refine A.doT rfl rfl (LU.loadO 1 rfl ⟨Try.sizeOf27, Try.isAgg27⟩ (by exact Is.rfl') (Part.whole (by (simp; done)))) rfl ?_
            refine ⟨⟨p, q, r⟩, Weaker.mk' ?_ (HSub.refl _)⟩
            refine env_back1 (envS_hit (sl := [(0, 45), (1, 46), (2, 47), (3, 48), (4, 49), (5, 50), (6, 51), (7, 52), (8, 53), (9, 54), (10, 55), (11, 56), (12, 57), (13, 58), (14, 59), (15, 60), (16, 61), (17, 62), (18, 63), (19, 64), (20, 65), (21, 66), (22, 67), (23, 68), (24, 69), (25, 6)]) (j := 18) (d := 63) rfl (fun _ _ h => h)) (envS_hit (sl := [(0, 45), (1, 46), (2, 47), (3, 48), (4, 49), (5, 50), (6, 51), (7, 52), (8, 53), (9, 54), (10, 55), (11, 56), (12, 57), (13, 58), (14, 59), (15, 60), (16, 61), (17, 62), (18, 63), (19, 64), (20, 65), (21, 66), (22, 67), (23, 68), (24, 69), (25, 6)]) (j := 7) (d := 52) rfl (fun _ _ h => h)) (envS_next ?_)
            · intro p hp hne; simp only [List.mem_cons, List.not_mem_nil, or_false] at hp; rcases hp with rfl | rfl | rfl | rfl | rfl | rfl | rfl | rfl | rfl | rfl | rfl | rfl | rfl | rfl | rfl | rfl | rfl | rfl | rfl | rfl | rfl | rfl | rfl | rfl | rfl | rfl <;> first | exact absurd rfl hne | exact ⟨rfl, rfl⟩
          · have d7 := hdir 7 (List.mem_of_elem_eq_true (by kernel_rfl))
            have d17 := hdir 17 (List.mem_of_elem_eq_true (by kernel_rfl))
            have d18 := hdir 18 (List.mem_of_elem_eq_true (by kernel_rfl))
            refine ⟨_, rfl, ?_⟩
            refine LP.weak (t := 52) (v := bl true) (envS_is (j := 7) rfl d7) ?_
            refine LP.weak (t := 62) (v := Rls (m ++ [y]) (.tok p q r)) (envS_is (j := 17) rfl d17) ?_
            refine LP.weak (t := 63) (v := .agg (aL a)) (envS_is (j := 18) rfl d18) ?_
            refine A.doT rfl rfl (LU.call (dec_calls (m ++ [y]) _ a hm2 hs) Try.func20 rfl rfl (Opds.cons (by exact Is.rfl') (Opds.cons (by exact Is.rfl') Opds.nil))) rfl ?_
            refine ⟨⟨p, q, r⟩, Weaker.mk' ?_ (HSub.refl _)⟩
            refine env_back3 (envS_hit (sl := [(0, 45), (1, 46), (2, 47), (3, 48), (4, 49), (5, 50), (6, 51), (7, 52), (8, 53), (9, 54), (10, 55), (11, 56), (12, 57), (13, 58), (14, 59), (15, 60), (16, 61), (17, 62), (18, 63), (19, 64), (20, 65), (21, 66), (22, 67), (23, 68), (24, 69), (25, 6)]) (j := 19) (d := 64) rfl (fun _ _ h => h)) (envS_hit (sl := [(0, 45), (1, 46), (2, 47), (3, 48), (4, 49), (5, 50), (6, 51), (7, 52), (8, 53), (9, 54), (10, 55), (11, 56), (12, 57), (13, 58), (14, 59), (15, 60), (16, 61), (17, 62), (18, 63), (19, 64), (20, 65), (21, 66), (22, 67), (23, 68), (24, 69), (25, 6)]) (j := 18) (d := 63) rfl (fun _ _ h => h)) (envS_hit (sl := [(0, 45), (1, 46), (2, 47), (3, 48), (4, 49), (5, 50), (6, 51), (7, 52), (8, 53), (9, 54), (10, 55), (11, 56), (12, 57), (13, 58), (14, 59), (15, 60), (16, 61), (17, 62), (18, 63), (19, 64), (20, 65), (21, 66), (22, 67), (23, 68), (24, 69), (25, 6)]) (j := 17) (d := 62) rfl (fun _ _ h => h)) (envS_hit (sl := [(0, 45), (1, 46), (2, 47), (3, 48), (4, 49), (5, 50), (6, 51), (7, 52), (8, 53), (9, 54), (10, 55), (11, 56), (12, 57), (13, 58), (14, 59), (15, 60), (16, 61), (17, 62), (18, 63), (19, 64), (20, 65), (21, 66), (22, 67), (23, 68), (24, 69), (25, 6)]) (j := 7) (d := 52) rfl (fun _ _ h => h)) (envS_next ?_)
            · intro p hp hne; simp only [List.mem_cons, List.not_mem_nil, or_false] at hp; rcases hp with rfl | rfl | rfl | rfl | rfl | rfl | rfl | rfl | rfl | rfl | rfl | rfl | rfl | rfl | rfl | rfl | rfl | rfl | rfl | rfl | rfl | rfl | rfl | rfl | rfl | rfl <;> first | exact absurd rfl hne | exact ⟨rfl, rfl⟩
          · have d7 := hdir 7 (List.mem_of_elem_eq_true (by kernel_rfl))
            have d10 := hdir 10 (List.mem_of_elem_eq_true (by kernel_rfl))
            have d19 := hdir 19 (List.mem_of_elem_eq_true (by kernel_rfl))
            refine ⟨_, rfl, ?_⟩
            refine LP.weak (t := 52) (v := bl true) (envS_is (j := 7) rfl d7) ?_
            refine LP.weak (t := 55) (v := bl (decideB l a.s a.ch a.p a.right)) (envS_is (j := 10) rfl d10) ?_
            refine LP.weak (t := 64) (v := bl (decideB (m ++ [y]) a.s a.ch a.p a.right)) (envS_is (j := 19) rfl d19) ?_
            refine A.doT rfl rfl (LU.weak (LU.booleq Try.underlying4 (by exact Is.rfl') (by exact Is.rfl')) (asB (c := true) rfl (by rw [law2]; simp))) rfl ?_
            refine ⟨⟨p, q, r⟩, Weaker.mk' ?_ (HSub.refl _)⟩
            refine env_back3 (envS_hit (sl := [(0, 45), (1, 46), (2, 47), (3, 48), (4, 49), (5, 50), (6, 51), (7, 52), (8, 53), (9, 54), (10, 55), (11, 56), (12, 57), (13, 58), (14, 59), (15, 60), (16, 61), (17, 62), (18, 63), (19, 64), (20, 65), (21, 66), (22, 67), (23, 68), (24, 69), (25, 6)]) (j := 20) (d := 65) rfl (fun _ _ h => h)) (envS_hit (sl := [(0, 45), (1, 46), (2, 47), (3, 48), (4, 49), (5, 50), (6, 51), (7, 52), (8, 53), (9, 54), (10, 55), (11, 56), (12, 57), (13, 58), (14, 59), (15, 60), (16, 61), (17, 62), (18, 63), (19, 64), (20, 65), (21, 66), (22, 67), (23, 68), (24, 69), (25, 6)]) (j := 19) (d := 64) rfl (fun _ _ h => h)) (envS_hit (sl := [(0, 45), (1, 46), (2, 47), (3, 48), (4, 49), (5, 50), (6, 51), (7, 52), (8, 53), (9, 54), (10, 55), (11, 56), (12, 57), (13, 58), (14, 59), (15, 60), (16, 61), (17, 62), (18, 63), (19, 64), (20, 65), (21, 66), (22, 67), (23, 68), (24, 69), (25, 6)]) (j := 10) (d := 55) rfl (fun _ _ h => h)) (envS_hit (sl := [(0, 45), (1, 46), (2, 47), (3, 48), (4, 49), (5, 50), (6, 51), (7, 52), (8, 53), (9, 54), (10, 55), (11, 56), (12, 57), (13, 58), (14, 59), (15, 60), (16, 61), (17, 62), (18, 63), (19, 64), (20, 65), (21, 66), (22, 67), (23, 68), (24, 69), (25, 6)]) (j := 7) (d := 52) rfl (fun _ _ h => h)) (envS_next ?_)
            · intro p hp hne; simp only [List.mem_cons, List.not_mem_nil, or_false] at hp; rcases hp with rfl | rfl | rfl | rfl | rfl | rfl | rfl | rfl | rfl | rfl | rfl | rfl | rfl | rfl | rfl | rfl | rfl | rfl | rfl | rfl | rfl | rfl | rfl | rfl | rfl | rfl <;> first | exact absurd rfl hne | exact ⟨rfl, rfl⟩
          · have d7 := hdir 7 (List.mem_of_elem_eq_true (by kernel_rfl))
            have d20 := hdir 20 (List.mem_of_elem_eq_true (by kernel_rfl))
            refine ⟨_, rfl, ?_⟩
            refine LP.weak (t := 52) (v := bl true) (envS_is (j := 7) rfl d7) ?_
            refine LP.weak (t := 65) (v := bl true) (envS_is (j := 20) rfl d20) ?_
            refine A.u (LU.pickT Is.rfl' (by exact Is.rfl')) rfl ?_
            refine ⟨⟨p, q, r⟩, Weaker.mk' ?_ (HSub.refl _)⟩
            refine env_back2 (envS_hit (sl := [(0, 45), (1, 46), (2, 47), (3, 48), (4, 49), (5, 50), (6, 51), (7, 52), (8, 53), (9, 54), (10, 55), (11, 56), (12, 57), (13, 58), (14, 59), (15, 60), (16, 61), (17, 62), (18, 63), (19, 64), (20, 65), (21, 66), (22, 67), (23, 68), (24, 69), (25, 6)]) (j := 21) (d := 66) rfl (fun _ _ h => h)) (envS_hit (sl := [(0, 45), (1, 46), (2, 47), (3, 48), (4, 49), (5, 50), (6, 51), (7, 52), (8, 53), (9, 54), (10, 55), (11, 56), (12, 57), (13, 58), (14, 59), (15, 60), (16, 61), (17, 62), (18, 63), (19, 64), (20, 65), (21, 66), (22, 67), (23, 68), (24, 69), (25, 6)]) (j := 20) (d := 65) rfl (fun _ _ h => h)) (envS_hit (sl := [(0, 45), (1, 46), (2, 47), (3, 48), (4, 49), (5, 50), (6, 51), (7, 52), (8, 53), (9, 54), (10, 55), (11, 56), (12, 57), (13, 58), (14, 59), (15, 60), (16, 61), (17, 62), (18, 63), (19, 64), (20, 65), (21, 66), (22, 67), (23, 68), (24, 69), (25, 6)]) (j := 7) (d := 52) rfl (fun _ _ h => h)) (envS_next ?_)
            · intro p hp hne; simp only [List.mem_cons, List.not_mem_nil, or_false] at hp; rcases hp with rfl | rfl | rfl | rfl | rfl | rfl | rfl | rfl | rfl | rfl | rfl | rfl | rfl | rfl | rfl | rfl | rfl | rfl | rfl | rfl | rfl | rfl | rfl | rfl | rfl | rfl <;> first | exact absurd rfl hne | exact ⟨rfl, rfl⟩
          · have d19 := hdir 19 (List.mem_of_elem_eq_true (by kernel_rfl))
            have d21 := hdir 21 (List.mem_of_elem_eq_true (by kernel_rfl))
            refine ⟨_, rfl, ?_⟩
            refine LP.weak (t := 66) (v := bl true) (envS_is (j := 21) rfl d21) ?_
            refine A.u (LU.moveR Is.rfl') rfl ?_
            refine ⟨⟨p, q, r⟩, Weaker.mk' ?_ (HSub.refl _)⟩
            refine env_back1 (envS_hit (sl := [(0, 45), (1, 46), (2, 47), (3, 48), (4, 49), (5, 50), (6, 51), (7, 52), (8, 53), (9, 54), (10, 55), (11, 56), (12, 57), (13, 58), (14, 59), (15, 60), (16, 61), (17, 62), (18, 63), (19, 64), (20, 65), (21, 66), (22, 67), (23, 68), (24, 69), (25, 6)]) (j := 22) (d := 67) rfl (fun _ _ h => h)) (envS_hit (sl := [(0, 45), (1, 46), (2, 47), (3, 48), (4, 49), (5, 50), (6, 51), (7, 52), (8, 53), (9, 54), (10, 55), (11, 56), (12, 57), (13, 58), (14, 59), (15, 60), (16, 61), (17, 62), (18, 63), (19, 64), (20, 65), (21, 66), (22, 67), (23, 68), (24, 69), (25, 6)]) (j := 21) (d := 66) rfl (fun _ _ h => h)) (envS_next ?_)
            · intro p hp hne; simp only [List.mem_cons, List.not_mem_nil, or_false] at hp; rcases hp with rfl | rfl | rfl | rfl | rfl | rfl | rfl | rfl | rfl | rfl | rfl | rfl | rfl | rfl | rfl | rfl | rfl | rfl | rfl | rfl | rfl | rfl | rfl | rfl | rfl | rfl <;> first | exact absurd rfl hne | exact ⟨rfl, rfl⟩
          · have d22 := hdir 22 (List.mem_of_elem_eq_true (by kernel_rfl))
            refine ⟨_, rfl, ?_⟩
            refine LP.weak (t := 67) (v := bl true) (envS_is (j := 22) rfl d22) ?_
            refine A.doT rfl rfl (LU.call (lives_calls) Try.func15 rfl rfl Opds.nil) rfl ?_
            refine ⟨⟨p, q, r⟩, Weaker.mk' ?_ (HSub.refl _)⟩
            refine env_back1 (envS_hit (sl := [(0, 45), (1, 46), (2, 47), (3, 48), (4, 49), (5, 50), (6, 51), (7, 52), (8, 53), (9, 54), (10, 55), (11, 56), (12, 57), (13, 58), (14, 59), (15, 60), (16, 61), (17, 62), (18, 63), (19, 64), (20, 65), (21, 66), (22, 67), (23, 68), (24, 69), (25, 6)]) (j := 23) (d := 68) rfl (fun _ _ h => h)) (envS_hit (sl := [(0, 45), (1, 46), (2, 47), (3, 48), (4, 49), (5, 50), (6, 51), (7, 52), (8, 53), (9, 54), (10, 55), (11, 56), (12, 57), (13, 58), (14, 59), (15, 60), (16, 61), (17, 62), (18, 63), (19, 64), (20, 65), (21, 66), (22, 67), (23, 68), (24, 69), (25, 6)]) (j := 22) (d := 67) rfl (fun _ _ h => h)) (envS_next ?_)
            · intro p hp hne; simp only [List.mem_cons, List.not_mem_nil, or_false] at hp; rcases hp with rfl | rfl | rfl | rfl | rfl | rfl | rfl | rfl | rfl | rfl | rfl | rfl | rfl | rfl | rfl | rfl | rfl | rfl | rfl | rfl | rfl | rfl | rfl | rfl | rfl | rfl <;> first | exact absurd rfl hne | exact ⟨rfl, rfl⟩
          · have d22 := hdir 22 (List.mem_of_elem_eq_true (by kernel_rfl))
            have d23 := hdir 23 (List.mem_of_elem_eq_true (by kernel_rfl))
            refine ⟨_, rfl, ?_⟩
            refine LP.weak (t := 67) (v := bl true) (envS_is (j := 22) rfl d22) ?_
            refine LP.weak (t := 68) (v := bl true) (envS_is (j := 23) rfl d23) ?_
            refine A.u (LU.pickT Is.rfl' (by exact Is.rfl')) rfl ?_
            refine ⟨⟨p, q, r⟩, Weaker.mk' ?_ (HSub.refl _)⟩
            refine env_back2 (envS_hit (sl := [(0, 45), (1, 46), (2, 47), (3, 48), (4, 49), (5, 50), (6, 51), (7, 52), (8, 53), (9, 54), (10, 55), (11, 56), (12, 57), (13, 58), (14, 59), (15, 60), (16, 61), (17, 62), (18, 63), (19, 64), (20, 65), (21, 66), (22, 67), (23, 68), (24, 69), (25, 6)]) (j := 24) (d := 69) rfl (fun _ _ h => h)) (envS_hit (sl := [(0, 45), (1, 46), (2, 47), (3, 48), (4, 49), (5, 50), (6, 51), (7, 52), (8, 53), (9, 54), (10, 55), (11, 56), (12, 57), (13, 58), (14, 59), (15, 60), (16, 61), (17, 62), (18, 63), (19, 64), (20, 65), (21, 66), (22, 67), (23, 68), (24, 69), (25, 6)]) (j := 23) (d := 68) rfl (fun _ _ h => h)) (envS_hit (sl := [(0, 45), (1, 46), (2, 47), (3, 48), (4, 49), (5, 50), (6, 51), (7, 52), (8, 53), (9, 54), (10, 55), (11, 56), (12, 57), (13, 58), (14, 59), (15, 60), (16, 61), (17, 62), (18, 63), (19, 64), (20, 65), (21, 66), (22, 67), (23, 68), (24, 69), (25, 6)]) (j := 22) (d := 67) rfl (fun _ _ h => h)) (envS_next ?_)
            · intro p hp hne; simp only [List.mem_cons, List.not_mem_nil, or_false] at hp; rcases hp with rfl | rfl | rfl | rfl | rfl | rfl | rfl | rfl | rfl | rfl | rfl | rfl | rfl | rfl | rfl | rfl | rfl | rfl | rfl | rfl | rfl | rfl | rfl | rfl | rfl | rfl <;> first | exact absurd rfl hne | exact ⟨rfl, rfl⟩
          · have d0 := hdir 0 (List.mem_of_elem_eq_true (by kernel_rfl))
            have d1 := hdir 1 (List.mem_of_elem_eq_true (by kernel_rfl))
            have d2 := hdir 2 (List.mem_of_elem_eq_true (by kernel_rfl))
            have d3 := hdir 3 (List.mem_of_elem_eq_true (by kernel_rfl))
            have d4 := hdir 4 (List.mem_of_elem_eq_true (by kernel_rfl))
            have d5 := hdir 5 (List.mem_of_elem_eq_true (by kernel_rfl))
            have d6 := hdir 6 (List.mem_of_elem_eq_true (by kernel_rfl))
            have d7 := hdir 7 (List.mem_of_elem_eq_true (by kernel_rfl))
            have d8 := hdir 8 (List.mem_of_elem_eq_true (by kernel_rfl))
            have d9 := hdir 9 (List.mem_of_elem_eq_true (by kernel_rfl))
            have d10 := hdir 10 (List.mem_of_elem_eq_true (by kernel_rfl))
            have d11 := hdir 11 (List.mem_of_elem_eq_true (by kernel_rfl))
            have d12 := hdir 12 (List.mem_of_elem_eq_true (by kernel_rfl))
            have d13 := hdir 13 (List.mem_of_elem_eq_true (by kernel_rfl))
            have d14 := hdir 14 (List.mem_of_elem_eq_true (by kernel_rfl))
            have d15 := hdir 15 (List.mem_of_elem_eq_true (by kernel_rfl))
            have d16 := hdir 16 (List.mem_of_elem_eq_true (by kernel_rfl))
            have d17 := hdir 17 (List.mem_of_elem_eq_true (by kernel_rfl))
            have d18 := hdir 18 (List.mem_of_elem_eq_true (by kernel_rfl))
            have d19 := hdir 19 (List.mem_of_elem_eq_true (by kernel_rfl))
            have d20 := hdir 20 (List.mem_of_elem_eq_true (by kernel_rfl))
            have d21 := hdir 21 (List.mem_of_elem_eq_true (by kernel_rfl))
            have d22 := hdir 22 (List.mem_of_elem_eq_true (by kernel_rfl))
            have d23 := hdir 23 (List.mem_of_elem_eq_true (by kernel_rfl))
            have d24 := hdir 24 (List.mem_of_elem_eq_true (by kernel_rfl))
            refine ⟨_, rfl, ?_⟩
            refine LP.weak (t := 69) (v := bl true) (envS_is (j := 24) rfl d24) ?_
            refine A.u (LU.assignR Is.rfl') rfl ?_
            refine ⟨⟨p, q, r⟩, Weaker.mk' ?_ (HSub.refl _)⟩
            refine env_back1 (envS_hit (sl := [(0, 45), (1, 46), (2, 47), (3, 48), (4, 49), (5, 50), (6, 51), (7, 52), (8, 53), (9, 54), (10, 55), (11, 56), (12, 57), (13, 58), (14, 59), (15, 60), (16, 61), (17, 62), (18, 63), (19, 64), (20, 65), (21, 66), (22, 67), (23, 68), (24, 69), (25, 6)]) (j := 25) (d := 6) rfl (fun _ _ h => h)) (envS_hit (sl := [(0, 45), (1, 46), (2, 47), (3, 48), (4, 49), (5, 50), (6, 51), (7, 52), (8, 53), (9, 54), (10, 55), (11, 56), (12, 57), (13, 58), (14, 59), (15, 60), (16, 61), (17, 62), (18, 63), (19, 64), (20, 65), (21, 66), (22, 67), (23, 68), (24, 69), (25, 6)]) (j := 24) (d := 69) rfl (fun _ _ h => h)) (envS_next ?_)
            · intro p hp hne; simp only [List.mem_cons, List.not_mem_nil, or_false] at hp; rcases hp with rfl | rfl | rfl | rfl | rfl | rfl | rfl | rfl | rfl | rfl | rfl | rfl | rfl | rfl | rfl | rfl | rfl | rfl | rfl | rfl | rfl | rfl | rfl | rfl | rfl | rfl <;> first | exact absurd rfl hne | exact ⟨rfl, rfl⟩
        · intro g
          obtain ⟨p, q, r⟩ := g
          refine after_code ?_
          refine LW.ret (after_end ?_)
          refine X.ret (H' := []) (Res.one (by exact IsR rfl)) (by repeat (first | exact HSub.refl _ | refine HSub.pick 0 rfl ?_ | refine HSub.pick 1 rfl ?_ | refine HSub.pick 2 rfl ?_ | refine HSub.pick 3 rfl ?_ | refine HSub.pick 4 rfl ?_ | refine HSub.drop ?_)) ?_
          exact rfl
theorem AclOrder_row (es : List (List LV)) (turn : Int) (ac : List LV) (hq : ∀ c ∈ es, QRule c) (hb : es.length * 64 ≤ reachBytes) (ht : (Lit.int .i64 turn).wf = true) (ha : QAsk ac) : LCalls Try.prog 5 [.sl 5 es .unk, i64 turn, .agg ac] [] (fun r _ => r = .raw (.bool true)) := by
  obtain ⟨l, rfl, hl⟩ := rules_of es hq
  obtain ⟨a, rfl, hs, _⟩ := ask_of ha
  exact ao_calls l .unk turn a hl (by simpa using hb) hs
end Go.Proofs.Ythifbkddfjohbaa
