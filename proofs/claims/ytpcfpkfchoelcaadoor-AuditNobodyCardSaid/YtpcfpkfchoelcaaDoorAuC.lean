/- Entries compared; a log noted in, told. -/
import Derived.Test.YtpcfpkfchoelcaaDoorAuB
set_option linter.unusedVariables false
set_option linter.unusedSimpArgs false
namespace Go.Proofs.YtpcfpkfchoelcaaDoor
open Go.RowKit Go.L
attribute [local irreducible] LL LW LO LP LA
theorem ent_prev {e : Ent} (h : e.prev.length = 32) : (entVs e).toArray.extract 4 36 = ((e.prev.map (·.toNat)).map fun m => Value.int .u8 (m : Nat)).toArray := by
  apply Array.ext'
  rw [Array.toList_extract]
  show (((entVs e).drop 4).take (36 - 4)) = _
  show ((e.prev.map fun b => Value.int .u8 b.toNat).take 32) = _
  rw [List.take_of_length_le (by simp [h]), List.map_map]
  rfl
theorem map_toNat_inj : ∀ {a b : List UInt8}, a.map (·.toNat) = b.map (·.toNat) → a = b
  | [], [], _ => rfl
  | [], y :: b, h => by simp at h
  | x :: a, [], h => by simp at h
  | x :: a, y :: b, h => by
    simp only [List.map_cons, List.cons.injEq] at h
    rw [UInt8.toNat_inj.1 h.1, map_toNat_inj h.2]
theorem eqEnt {x y : Ent} (hx : x.prev.length = 32) (hy : y.prev.length = 32) : EqR Tryd.prog 3 28 (entV x) (entV y) (decide (x = y)) := by
  have p0 : ∀ (x : Ent) w, (part 3 (entVs x).toArray 0).run Tryd.prog w = .ok (.int .i64 x.seq) w := fun x => part_one Tryd.isAgg3 (by simp)
  have p1 : ∀ (x : Ent) w, (part 3 (entVs x).toArray 1).run Tryd.prog w = .ok (.int .i64 x.tick) w := fun x => part_one Tryd.isAgg3 (by simp)
  have p2 : ∀ (x : Ent) w, (part 9 (entVs x).toArray 2).run Tryd.prog w = .ok (.string ⟨x.who.toArray⟩) w := fun x => part_one Tryd.isAgg9 (by simp)
  have p3 : ∀ (x : Ent) w, (part 9 (entVs x).toArray 3).run Tryd.prog w = .ok (.string ⟨x.what.toArray⟩) w := fun x => part_one Tryd.isAgg9 (by simp)
  have p4 : ∀ (x : Ent), x.prev.length = 32 → ∀ w, (part 26 (entVs x).toArray 4).run Tryd.prog w = .ok (.agg ((x.prev.map (·.toNat)).map fun m => Value.int .u8 (m : Nat)).toArray) w := fun x h => part_agg (size := 32) Tryd.sizeOf26 Tryd.isAgg26 (ent_prev h)
  have q0 : EqR Tryd.prog 2 3 (.int .i64 x.seq) (.int .i64 y.seq) (decide (x.seq = y.seq)) := EqR.up 1 (EqR.int Tryd.underlying3)
  have q1 : EqR Tryd.prog 2 3 (.int .i64 x.tick) (.int .i64 y.tick) (decide (x.tick = y.tick)) := EqR.up 1 (EqR.int Tryd.underlying3)
  have q2 : EqR Tryd.prog 2 9 (.string ⟨x.who.toArray⟩) (.string ⟨y.who.toArray⟩) ((⟨x.who.toArray⟩ : ByteArray).toList == (⟨y.who.toArray⟩ : ByteArray).toList) := EqR.up 1 (EqR.string Tryd.underlying9)
  have q3 : EqR Tryd.prog 2 9 (.string ⟨x.what.toArray⟩) (.string ⟨y.what.toArray⟩) ((⟨x.what.toArray⟩ : ByteArray).toList == (⟨y.what.toArray⟩ : ByteArray).toList) := EqR.up 1 (EqR.string Tryd.underlying9)
  have q4 := EqR.arr (P := Tryd.prog) (k := .u8) Tryd.underlying26 Tryd.underlying5 Tryd.sizeOf5 (x.prev.map (·.toNat)) (y.prev.map (·.toNat)) (by simpa using hx) (by simpa using hy)
  obtain ⟨vx, hvx⟩ : ∃ vx, vx = (entVs x).toArray := ⟨_, rfl⟩
  obtain ⟨vy, hvy⟩ : ∃ vy, vy = (entVs y).toArray := ⟨_, rfl⟩
  have x0 := p0 x
  have x1 := p1 x
  have x2 := p2 x
  have x3 := p3 x
  have x4 := p4 x hx
  have y0 := p0 y
  have y1 := p1 y
  have y2 := p2 y
  have y3 := p3 y
  have y4 := p4 y hy
  rw [← hvx] at x0 x1 x2 x3 x4
  rw [← hvy] at y0 y1 y2 y3 y4
  have he := EqR.struct (n := 2) Tryd.underlying28 Tryd.stoodInHeld28 (EqFs.cons rfl x0 y0 q0 (EqFs.cons rfl x1 y1 q1 (EqFs.cons rfl x2 y2 q2 (EqFs.cons rfl x3 y3 q3 (EqFs.one rfl x4 y4 q4)))))
  rw [hvx, hvy] at he
  have hb : (decide (x.seq = y.seq) && (decide (x.tick = y.tick) && (((⟨x.who.toArray⟩ : ByteArray).toList == (⟨y.who.toArray⟩ : ByteArray).toList) && (((⟨x.what.toArray⟩ : ByteArray).toList == (⟨y.what.toArray⟩ : ByteArray).toList) && decide (x.prev.map (·.toNat) = y.prev.map (·.toNat)))))) = decide (x = y) := by
    rw [bytes_toList, bytes_toList, bytes_toList, bytes_toList, Bool.eq_iff_iff]
    simp only [Bool.and_eq_true, decide_eq_true_eq, beq_iff_eq]
    constructor
    · rintro ⟨h1, h2, h3, h4, h5⟩
      cases x; cases y
      simp only at h1 h2 h3 h4 h5
      rw [h1, h2, h3, h4, map_toNat_inj h5]
    · rintro rfl
      exact ⟨rfl, rfl, rfl, rfl, rfl⟩
  rw [← hb]
  exact he
theorem rawEnt (x : Ent) : RawL (entL x) (entVs x) := by rw [entL_raws]; exact RawL.raws _
section
variable {env : List (Nat × LV)} {H : List Atom} {d : Option Tmp} {ty : TypeId} {pos : String} {af : Array Edge} {g : Option (Nat × Bool)}
theorem LU.neqEnt {p q : Operand} {t' : TypeId} {x y : Ent} (hx : x.prev.length = 32) (hy : y.prev.length = 32) (h1 : Is (ev env p) (.agg (entL x))) (h2 : Is (ev env q) (.agg (entL y))) : LU Tryd.prog env H ⟨d, .binOp .neq 28 p q t', ty, pos, af, g⟩ (bl (!decide (x = y))) :=
  LU.neqA h1 h2 (rawEnt x) (rawEnt y) Tryd.eqGuardType28 (by decide) (eqEnt hx hy)
theorem LU.eqlEnt {p q : Operand} {t' : TypeId} {x y : Ent} (hx : x.prev.length = 32) (hy : y.prev.length = 32) (h1 : Is (ev env p) (.agg (entL x))) (h2 : Is (ev env q) (.agg (entL y))) : LU Tryd.prog env H ⟨d, .binOp .eql 28 p q t', ty, pos, af, g⟩ (bl (decide (x = y))) :=
  LU.eqlA h1 h2 (rawEnt x) (rawEnt y) Tryd.eqGuardType28 (by decide) (eqEnt hx hy)
theorem u8s_nat (l : List UInt8) : u8s l = (l.map (·.toNat)).map fun m => LV.raw (.int .u8 (m : Nat)) := by simp [List.map_map, Function.comp_def]
theorem LU.eqlH {p q : Operand} {t' : TypeId} {x y : List UInt8} (hx : x.length = 32) (hy : y.length = 32) (h1 : Is (ev env p) (H32 x)) (h2 : Is (ev env q) (H32 y)) : LU Tryd.prog env H ⟨d, .binOp .eql 26 p q t', ty, pos, af, g⟩ (bl (decide (x = y))) := by
  have := LU.eqlArr (P := Tryd.prog) (H := H) (d := d) (ty := ty) (pos := pos) (af := af) (g := g) (t' := t') (k := .u8) (xs := x.map (·.toNat)) (ys := y.map (·.toNat)) Tryd.underlying26 Tryd.underlying5 Tryd.sizeOf5 Tryd.eqGuardType26 (by rw [← u8s_nat]; exact h1) (by rw [← u8s_nat]; exact h2) (by simpa using hx) (by simpa using hy)
  rwa [show decide (x.map (·.toNat) = y.map (·.toNat)) = decide (x = y) from decide_eq_decide.2 ⟨map_toNat_inj, fun h => by rw [h]⟩] at this
theorem LU.neqH {p q : Operand} {t' : TypeId} {x y : List UInt8} (hx : x.length = 32) (hy : y.length = 32) (h1 : Is (ev env p) (H32 x)) (h2 : Is (ev env q) (H32 y)) : LU Tryd.prog env H ⟨d, .binOp .neq 26 p q t', ty, pos, af, g⟩ (bl (!decide (x = y))) := by
  have := LU.neqArr (P := Tryd.prog) (H := H) (d := d) (ty := ty) (pos := pos) (af := af) (g := g) (t' := t') (k := .u8) (xs := x.map (·.toNat)) (ys := y.map (·.toNat)) Tryd.underlying26 Tryd.underlying5 Tryd.sizeOf5 Tryd.eqGuardType26 (by rw [← u8s_nat]; exact h1) (by rw [← u8s_nat]; exact h2) (by simpa using hx) (by simpa using hy)
  rwa [show decide (x.map (·.toNat) = y.map (·.toNat)) = decide (x = y) from decide_eq_decide.2 ⟨map_toNat_inj, fun h => by rw [h]⟩] at this
end
theorem nxtE_len (es : List Ent) (tick : Int) (who what : List UInt8) : (nxtE es tick who what).prev.length = 32 := by
  by_cases h : errN es tick who what = 0
  · exact (nxtE_ok h).1.2.2.2.2
  · unfold nxtE; rw [if_neg h]; rfl
theorem ents_snoc (es : List Ent) (x : Ent) (k : Cap) : LV.sl 36 (ents es ++ [entL x]) k = LV.sl 36 (ents (es ++ [x])) k := by simp
theorem ents_size {es : List Ent} (h : ∀ e ∈ es, e.prev.length = 32) : ∀ c ∈ ents es, c.length = 36 := fun c hc => by
  obtain ⟨e, he, rfl⟩ := List.mem_map.1 hc
  simp [h e he]
set_option maxHeartbeats 2000000 in
set_option maxRecDepth 100000 in
theorem append_calls19 (g : Nat) (es : List Ent) (hv : Value) (b o c : Nat) (tick : Int) (who what : List UInt8) (hh : HeadOk hv es) (hel : es.length ≤ 4096) (hes : ∀ e ∈ es, e.prev.length = 32) (ht1 : -9223372036854775808 ≤ tick) (ht2 : tick < 9223372036854775808) : LCalls Tryd.prog 16 [pt g, i64 tick, Str who, Str what] [lg g es hv b o c, .tail b o c, kw] (fun r H' => ∃ hv' b' o' c', HeadOk hv' (addE es tick who what) ∧ r = .tup [.agg (entL (nxtE es tick who what)), i64 (errN es tick who what)] ∧ H' = [lg g (addE es tick who what) hv' b' o' c', .tail b' o' c', kw]) := by
  have hnext := next_calls g es hv b o c tick who what hh hel ht1 ht2
  have hNl := nxtE_len es tick who what
  have hN0 : errN es tick who what = 0 → EntOk (nxtE es tick who what) := fun h => (nxtE_ok h).1
  obtain ⟨N, hN⟩ : ∃ N, N = nxtE es tick who what := ⟨_, rfl⟩
  obtain ⟨E, hE⟩ : ∃ E, E = errN es tick who what := ⟨_, rfl⟩
  have hA0 : E = 0 → addE es tick who what = es ++ [N] := fun h => by unfold addE; rw [if_pos (by rw [← hE]; exact h), hN]
  have hA1 : E ≠ 0 → addE es tick who what = es := fun h => by unfold addE; rw [if_neg (by rw [← hE]; exact h)]
  obtain ⟨ff, fn, first, caps, rfl, _⟩ := id hh
  rw [← hN, ← hE] at hnext hN0
  rw [← hN] at hNl
  rw [← hN, ← hE]
  clear hN hE
  refine LCalls.of Tryd.func16 rfl Tryd.ntmps16 Tryd.results16 rfl (fun Rf => ?_)
  refine LW.seq ?_
  refine LW.region ?_
  refine X.act (X.alloc rfl Tryd.zeroValue28 (by exact Cells.rawagg (by decide)) (fun b8 => ?_))
  refine X.u (LU.assignR Is.rfl') rfl ?_
  refine LL.nil (after_code ?_)
  refine LW.seq ?_
  refine LW.seq ?_
  refine LW.region ?_
  refine X.u (LU.moveR Is.rfl') rfl ?_
  refine X.u (LU.nilEqS Tryd.underlying36 Is.rfl' Is.rfl') rfl ?_
  refine X.u (LU.moveR Is.rfl') rfl ?_
  refine X.doF rfl rfl (LU.moveR (by exact Is.rfl')) rfl ?_
  refine X.doF rfl rfl (LU.nilCheck (by exact Is.rfl')) rfl ?_
  refine X.doF rfl rfl (LU.fieldO Tryd.underlying39 rfl Tryd.sizeOf37 (by decide) (by exact Is.rfl')) rfl ?_
  refine X.doF rfl rfl (LU.loadO 1 rfl ⟨Tryd.sizeOf37, Tryd.isAgg37⟩ (by exact Is.rfl') (Part.one rfl)) rfl ?_
  refine X.doF rfl rfl (LU.nilFEqS Tryd.underlying37 (by exact Is.rfl') (by exact Is.rfl')) rfl ?_
  refine X.u (LU.pickF Is.rfl' (by exact Is.rfl')) rfl ?_
  refine LL.nil (after_code ?_)
  refine X.condF rfl ?_ ?_
  · rfl
  refine LW.skip (after_code ?_)
  refine LW.seq ?_
  refine LW.region ?_
  refine X.u (LU.moveR Is.rfl') rfl ?_
  refine X.u (LU.moveR Is.rfl') rfl ?_
  refine X.u (LU.moveR Is.rfl') rfl ?_
  refine X.u (LU.moveR Is.rfl') rfl ?_
  refine X.act (X.call (hnext) Tryd.func29 rfl rfl rfl (by (refine HSub.pick 1 rfl ?_); (refine HSub.pick 2 rfl ?_); exact HSub.refl _) (Opds.cons Is.rfl' (Opds.cons Is.rfl' (Opds.cons Is.rfl' (Opds.cons Is.rfl' Opds.nil)))) ?_)
  rintro r H' ⟨rfl, rfl⟩
  refine X.u (LU.moveT Is.rfl') rfl ?_
  refine X.u (LU.extract Is.rfl' rfl) rfl ?_
  refine X.u (LU.extract Is.rfl' rfl) rfl ?_
  refine X.act (X.alloc rfl Tryd.zeroValue28 (by exact Cells.rawagg (by decide)) (fun b10 => ?_))
  refine X.act (X.store 0 rfl Tryd.sizeOf28 Is.rfl' Is.rfl' (by exact Cells.agg) (by (simp; omega)) (by exact Nat.le_of_ble_eq_true rfl) ?_)
  refine X.u (LU.assignR Is.rfl') rfl ?_
  refine LL.nil (after_code ?_)
  refine LW.seq ?_
  refine LW.seq ?_
  refine X.wcells (ys := entL N) (putAt_all (by simp [raws, hNl])) ?_
  refine LW.region ?_
  refine X.u (LU.moveR Is.rfl') rfl ?_
  refine X.u (LU.eql Is.rfl' Is.rfl') rfl ?_
  refine LL.nil (after_code ?_)
  refine X.cond rfl (fun h4 => ?_) (fun h4 => ?_)
  · try have h4 := of_decide_eq_true h4
    have hE0 : E = 0 := by omega
    have hA := hA0 hE0
    have hNok := hN0 hE0
    refine LW.seq ?_
    refine LW.invM (m := 10) (γ := Nat × Nat × Nat) [(0, 32), (1, 33), (2, 34), (3, 35), (4, 36), (5, 37), (6, 38), (7, 39), (8, 40), (9, 41)] (fun g_ d => match g_ with | ⟨p, q, r⟩ => match d with | 32 => pt g | 33 => pt g | 34 => pt g | 35 => .raw (.pointer (some ⟨g, 0, none⟩)) | 36 => .sl 36 (ents es) (.tok b o c) | 37 => .agg (entL N) | 38 => .sl 36 [entL N] .full | 39 => .sl 36 (ents (es ++ [N])) (.tok p q r) | 40 => pt g | 41 => .raw (.pointer (some ⟨g, 0, none⟩)) | _ => .any) (fun g_ f => match g_ with | ⟨p, q, r⟩ => cond (f 7) (.tail p q r) (.tail b o c) :: .cells b10 28 (entL N) :: .cells b8 28 (entL zeroE) :: lg g es (.func (.func ff) first caps) b o c :: kw :: Rf) (0, 0, 0) rfl (by kernel_rfl) rfl rfl ((by repeat (first | exact HSub.refl _ | refine HSub.pick 0 rfl ?_ | refine HSub.pick 2 rfl ?_ | refine HSub.pick 4 rfl ?_))) ?_ ?_
    · intro i hi f g_ hfi hdir hdown
      obtain ⟨p, q, r⟩ := g_
      have hc : i = 0 ∨ i = 1 ∨ i = 2 ∨ i = 3 ∨ i = 4 ∨ i = 5 ∨ i = 6 ∨ i = 7 ∨ i = 8 ∨ i = 9 := by omega
      rcases hc with rfl | rfl | rfl | rfl | rfl | rfl | rfl | rfl | rfl | rfl
      · refine ⟨_, rfl, ?_⟩
        refine A.u (LU.moveR Is.rfl') rfl ?_
        refine ⟨⟨p, q, r⟩, Weaker.mk' ?_ (HSub.refl _)⟩
        refine env_back0 (envS_hit (sl := [(0, 32), (1, 33), (2, 34), (3, 35), (4, 36), (5, 37), (6, 38), (7, 39), (8, 40), (9, 41)]) (j := 0) (d := 32) rfl (fun _ _ h => h))  (envS_next ?_)
        · intro p hp hne; simp only [List.mem_cons, List.not_mem_nil, or_false] at hp; rcases hp with rfl | rfl | rfl | rfl | rfl | rfl | rfl | rfl | rfl | rfl <;> first | exact absurd rfl hne | exact ⟨rfl, rfl⟩
      · refine ⟨_, rfl, ?_⟩
        refine A.u (LU.moveR Is.rfl') rfl ?_
        refine ⟨⟨p, q, r⟩, Weaker.mk' ?_ (HSub.refl _)⟩
        refine env_back0 (envS_hit (sl := [(0, 32), (1, 33), (2, 34), (3, 35), (4, 36), (5, 37), (6, 38), (7, 39), (8, 40), (9, 41)]) (j := 1) (d := 33) rfl (fun _ _ h => h))  (envS_next ?_)
        · intro p hp hne; simp only [List.mem_cons, List.not_mem_nil, or_false] at hp; rcases hp with rfl | rfl | rfl | rfl | rfl | rfl | rfl | rfl | rfl | rfl <;> first | exact absurd rfl hne | exact ⟨rfl, rfl⟩
      · have d1 := hdir 1 (List.mem_of_elem_eq_true (by kernel_rfl))
        refine ⟨_, rfl, ?_⟩
        refine LP.weak (t := 33) (v := pt g) (envS_is (j := 1) rfl d1) ?_
        refine A.u (LU.nilCheck Is.rfl') rfl ?_
        refine ⟨⟨p, q, r⟩, Weaker.mk' ?_ (HSub.refl _)⟩
        refine env_back1 (envS_hit (sl := [(0, 32), (1, 33), (2, 34), (3, 35), (4, 36), (5, 37), (6, 38), (7, 39), (8, 40), (9, 41)]) (j := 2) (d := 34) rfl (fun _ _ h => h)) (envS_hit (sl := [(0, 32), (1, 33), (2, 34), (3, 35), (4, 36), (5, 37), (6, 38), (7, 39), (8, 40), (9, 41)]) (j := 1) (d := 33) rfl (fun _ _ h => h)) (envS_next ?_)
        · intro p hp hne; simp only [List.mem_cons, List.not_mem_nil, or_false] at hp; rcases hp with rfl | rfl | rfl | rfl | rfl | rfl | rfl | rfl | rfl | rfl <;> first | exact absurd rfl hne | exact ⟨rfl, rfl⟩
      · have d2 := hdir 2 (List.mem_of_elem_eq_true (by kernel_rfl))
        refine ⟨_, rfl, ?_⟩
        refine LP.weak (t := 34) (v := pt g) (envS_is (j := 2) rfl d2) ?_
        refine A.u (LU.fieldO Tryd.underlying39 rfl Tryd.sizeOf22 (by decide) Is.rfl') rfl ?_
        refine ⟨⟨p, q, r⟩, Weaker.mk' ?_ (HSub.refl _)⟩
        refine env_back1 (envS_hit (sl := [(0, 32), (1, 33), (2, 34), (3, 35), (4, 36), (5, 37), (6, 38), (7, 39), (8, 40), (9, 41)]) (j := 3) (d := 35) rfl (fun _ _ h => h)) (envS_hit (sl := [(0, 32), (1, 33), (2, 34), (3, 35), (4, 36), (5, 37), (6, 38), (7, 39), (8, 40), (9, 41)]) (j := 2) (d := 34) rfl (fun _ _ h => h)) (envS_next ?_)
        · intro p hp hne; simp only [List.mem_cons, List.not_mem_nil, or_false] at hp; rcases hp with rfl | rfl | rfl | rfl | rfl | rfl | rfl | rfl | rfl | rfl <;> first | exact absurd rfl hne | exact ⟨rfl, rfl⟩
      · have d3 := hdir 3 (List.mem_of_elem_eq_true (by kernel_rfl))
        refine ⟨_, rfl, ?_⟩
        refine LP.weak (t := 35) (v := .raw (.pointer (some ⟨g, 0, none⟩))) (envS_is (j := 3) rfl d3) ?_
        refine A.u (LU.loadO 3 rfl ⟨Tryd.sizeOf22, Tryd.isAgg22⟩ Is.rfl' (Part.one rfl)) rfl ?_
        refine ⟨⟨p, q, r⟩, Weaker.mk' ?_ (HSub.refl _)⟩
        refine env_back1 (envS_hit (sl := [(0, 32), (1, 33), (2, 34), (3, 35), (4, 36), (5, 37), (6, 38), (7, 39), (8, 40), (9, 41)]) (j := 4) (d := 36) rfl (fun _ _ h => h)) (envS_hit (sl := [(0, 32), (1, 33), (2, 34), (3, 35), (4, 36), (5, 37), (6, 38), (7, 39), (8, 40), (9, 41)]) (j := 3) (d := 35) rfl (fun _ _ h => h)) (envS_next ?_)
        · intro p hp hne; simp only [List.mem_cons, List.not_mem_nil, or_false] at hp; rcases hp with rfl | rfl | rfl | rfl | rfl | rfl | rfl | rfl | rfl | rfl <;> first | exact absurd rfl hne | exact ⟨rfl, rfl⟩
      · refine ⟨_, rfl, ?_⟩
        refine A.u (LU.loadO 1 rfl ⟨Tryd.sizeOf28, Tryd.isAgg28⟩ Is.rfl' (Part.whole (by (simp; omega)))) rfl ?_
        refine ⟨⟨p, q, r⟩, Weaker.mk' ?_ (HSub.refl _)⟩
        refine env_back0 (envS_hit (sl := [(0, 32), (1, 33), (2, 34), (3, 35), (4, 36), (5, 37), (6, 38), (7, 39), (8, 40), (9, 41)]) (j := 5) (d := 37) rfl (fun _ _ h => h))  (envS_next ?_)
        · intro p hp hne; simp only [List.mem_cons, List.not_mem_nil, or_false] at hp; rcases hp with rfl | rfl | rfl | rfl | rfl | rfl | rfl | rfl | rfl | rfl <;> first | exact absurd rfl hne | exact ⟨rfl, rfl⟩
      · have d5 := hdir 5 (List.mem_of_elem_eq_true (by kernel_rfl))
        refine ⟨_, rfl, ?_⟩
        refine LP.weak (t := 37) (v := .agg (entL N)) (envS_is (j := 5) rfl d5) ?_
        refine A.u (LU.lits Tryd.underlying22 Tryd.sizeOf28 Tryd.zeroValue28 (ones rfl) rfl (by decide) (by decide) (Elems.cons Is.rfl' (by exact Cells.agg) Elems.nil) (by (simp; assumption)) rfl) rfl ?_
        refine ⟨⟨p, q, r⟩, Weaker.mk' ?_ (HSub.refl _)⟩
        refine env_back1 (envS_hit (sl := [(0, 32), (1, 33), (2, 34), (3, 35), (4, 36), (5, 37), (6, 38), (7, 39), (8, 40), (9, 41)]) (j := 6) (d := 38) rfl (fun _ _ h => h)) (envS_hit (sl := [(0, 32), (1, 33), (2, 34), (3, 35), (4, 36), (5, 37), (6, 38), (7, 39), (8, 40), (9, 41)]) (j := 5) (d := 37) rfl (fun _ _ h => h)) (envS_next ?_)
        · intro p hp hne; simp only [List.mem_cons, List.not_mem_nil, or_false] at hp; rcases hp with rfl | rfl | rfl | rfl | rfl | rfl | rfl | rfl | rfl | rfl <;> first | exact absurd rfl hne | exact ⟨rfl, rfl⟩
      · have d4 := hdir 4 (List.mem_of_elem_eq_true (by kernel_rfl))
        have d6 := hdir 6 (List.mem_of_elem_eq_true (by kernel_rfl))
        refine ⟨_, rfl, ?_⟩
        refine LP.ghost (H' := .tail b o c :: .cells b10 28 (entL N) :: .cells b8 28 (entL zeroE) :: lg g es (.func (.func ff) first caps) b o c :: kw :: Rf) (by show HSub (cond (f 7) _ _ :: _) _; rw [hfi]; exact HSub.refl _) ?_
        refine LP.weak (t := 36) (v := .sl 36 (ents es) (.tok b o c)) (envS_is (j := 4) rfl d4) ?_
        refine LP.weak (t := 38) (v := .sl 36 [entL N] .full) (envS_is (j := 6) rfl d6) ?_
        refine A.act (X.append 0 rfl rfl Tryd.underlying22 (El.of (P := Tryd.prog) (z := (.agg #[(.int .i64 0), (.int .i64 0), (.string ByteArray.empty), (.string ByteArray.empty), (.int .u8 0), (.int .u8 0), (.int .u8 0), (.int .u8 0), (.int .u8 0), (.int .u8 0), (.int .u8 0), (.int .u8 0), (.int .u8 0), (.int .u8 0), (.int .u8 0), (.int .u8 0), (.int .u8 0), (.int .u8 0), (.int .u8 0), (.int .u8 0), (.int .u8 0), (.int .u8 0), (.int .u8 0), (.int .u8 0), (.int .u8 0), (.int .u8 0), (.int .u8 0), (.int .u8 0), (.int .u8 0), (.int .u8 0), (.int .u8 0), (.int .u8 0), (.int .u8 0), (.int .u8 0), (.int .u8 0), (.int .u8 0)])) (size := 36) (bytes := 80) rfl rfl rfl) Is.rfl' Is.rfl' (SrcL.slice Tryd.underlying22 (by decide) (by simp [hNl])) (by simp only [Option.getD_some, Option.getD_none, byteEls_length, intEls_length, List.length_append, List.length_cons, List.length_nil, List.length_map, List.length_drop, List.length_take, Int.toNat_natCast]; omega) (by simp only [Option.getD_some, Option.getD_none, byteEls_length, intEls_length, List.length_append, List.length_cons, List.length_nil, List.length_map, List.length_drop, List.length_take, Int.toNat_natCast]; omega) (fun b39 o39 c39 => ?_))
        refine ⟨(b39, o39, c39), Weaker.mk' ?_ (HSub.refl _)⟩
        refine env_back2 (envS_hit (sl := [(0, 32), (1, 33), (2, 34), (3, 35), (4, 36), (5, 37), (6, 38), (7, 39), (8, 40), (9, 41)]) (j := 7) (d := 39) rfl (Is.of (ents_snoc es N (.tok b39 o39 c39)))) (envS_hit (sl := [(0, 32), (1, 33), (2, 34), (3, 35), (4, 36), (5, 37), (6, 38), (7, 39), (8, 40), (9, 41)]) (j := 6) (d := 38) rfl (fun _ _ h => h)) (envS_hit (sl := [(0, 32), (1, 33), (2, 34), (3, 35), (4, 36), (5, 37), (6, 38), (7, 39), (8, 40), (9, 41)]) (j := 4) (d := 36) rfl (fun _ _ h => h)) (envS_next ?_)
        · intro p hp hne; simp only [List.mem_cons, List.not_mem_nil, or_false] at hp; rcases hp with rfl | rfl | rfl | rfl | rfl | rfl | rfl | rfl | rfl | rfl <;> first | exact absurd rfl hne | exact ⟨rfl, rfl⟩
      · have d0 := hdir 0 (List.mem_of_elem_eq_true (by kernel_rfl))
        have d1 := hdir 1 (List.mem_of_elem_eq_true (by kernel_rfl))
        have d2 := hdir 2 (List.mem_of_elem_eq_true (by kernel_rfl))
        have d3 := hdir 3 (List.mem_of_elem_eq_true (by kernel_rfl))
        have d4 := hdir 4 (List.mem_of_elem_eq_true (by kernel_rfl))
        have d5 := hdir 5 (List.mem_of_elem_eq_true (by kernel_rfl))
        have d6 := hdir 6 (List.mem_of_elem_eq_true (by kernel_rfl))
        have d7 := hdir 7 (List.mem_of_elem_eq_true (by kernel_rfl))
        refine ⟨_, rfl, ?_⟩
        refine LP.weak (t := 32) (v := pt g) (envS_is (j := 0) rfl d0) ?_
        refine A.u (LU.nilCheck Is.rfl') rfl ?_
        refine ⟨⟨p, q, r⟩, Weaker.mk' ?_ (HSub.refl _)⟩
        refine env_back1 (envS_hit (sl := [(0, 32), (1, 33), (2, 34), (3, 35), (4, 36), (5, 37), (6, 38), (7, 39), (8, 40), (9, 41)]) (j := 8) (d := 40) rfl (fun _ _ h => h)) (envS_hit (sl := [(0, 32), (1, 33), (2, 34), (3, 35), (4, 36), (5, 37), (6, 38), (7, 39), (8, 40), (9, 41)]) (j := 0) (d := 32) rfl (fun _ _ h => h)) (envS_next ?_)
        · intro p hp hne; simp only [List.mem_cons, List.not_mem_nil, or_false] at hp; rcases hp with rfl | rfl | rfl | rfl | rfl | rfl | rfl | rfl | rfl | rfl <;> first | exact absurd rfl hne | exact ⟨rfl, rfl⟩
      · have d0 := hdir 0 (List.mem_of_elem_eq_true (by kernel_rfl))
        have d1 := hdir 1 (List.mem_of_elem_eq_true (by kernel_rfl))
        have d2 := hdir 2 (List.mem_of_elem_eq_true (by kernel_rfl))
        have d3 := hdir 3 (List.mem_of_elem_eq_true (by kernel_rfl))
        have d4 := hdir 4 (List.mem_of_elem_eq_true (by kernel_rfl))
        have d5 := hdir 5 (List.mem_of_elem_eq_true (by kernel_rfl))
        have d6 := hdir 6 (List.mem_of_elem_eq_true (by kernel_rfl))
        have d7 := hdir 7 (List.mem_of_elem_eq_true (by kernel_rfl))
        have d8 := hdir 8 (List.mem_of_elem_eq_true (by kernel_rfl))
        refine ⟨_, rfl, ?_⟩
        refine LP.weak (t := 40) (v := pt g) (envS_is (j := 8) rfl d8) ?_
        refine A.u (LU.fieldO Tryd.underlying39 rfl Tryd.sizeOf22 (by decide) Is.rfl') rfl ?_
        refine ⟨⟨p, q, r⟩, Weaker.mk' ?_ (HSub.refl _)⟩
        refine env_back1 (envS_hit (sl := [(0, 32), (1, 33), (2, 34), (3, 35), (4, 36), (5, 37), (6, 38), (7, 39), (8, 40), (9, 41)]) (j := 9) (d := 41) rfl (fun _ _ h => h)) (envS_hit (sl := [(0, 32), (1, 33), (2, 34), (3, 35), (4, 36), (5, 37), (6, 38), (7, 39), (8, 40), (9, 41)]) (j := 8) (d := 40) rfl (fun _ _ h => h)) (envS_next ?_)
        · intro p hp hne; simp only [List.mem_cons, List.not_mem_nil, or_false] at hp; rcases hp with rfl | rfl | rfl | rfl | rfl | rfl | rfl | rfl | rfl | rfl <;> first | exact absurd rfl hne | exact ⟨rfl, rfl⟩
    · intro g_ f hf
      obtain ⟨p, q, r⟩ := g_
      refine X.ghost (H' := .tail p q r :: .cells b10 28 (entL N) :: .cells b8 28 (entL zeroE) :: lg g es (.func (.func ff) first caps) b o c :: kw :: Rf) (by show HSub (cond (f 7) _ _ :: _) _; rw [hf 7 (by omega)]; exact HSub.refl _) ?_
      refine X.act (X.store 3 rfl Tryd.sizeOf22 Is.rfl' Is.rfl' (by exact Cells.sl) (by (simp; done)) (by (simp; done)) ?_)
      refine LL.nil (after_code ?_)
      refine LW.region ?_
      refine X.u (LU.moveR Is.rfl') rfl ?_
      refine X.u (LU.loadO 2 rfl ⟨Tryd.sizeOf28, Tryd.isAgg28⟩ Is.rfl' (Part.whole (by (simp; omega)))) rfl ?_
      refine X.u (LU.bound (ent_raw N)) rfl ?_
      refine X.u (LU.nilCheck Is.rfl') rfl ?_
      refine X.u (LU.fieldO Tryd.underlying39 rfl Tryd.sizeOf37 (by decide) Is.rfl') rfl ?_
      refine X.act (X.store 0 rfl Tryd.sizeOf37 Is.rfl' Is.rfl' (by exact Cells.raw rfl) (by (simp; done)) (by exact Nat.le_of_ble_eq_true rfl) ?_)
      refine LL.nil (after_code ?_)
      refine LW.seq ?_
      refine LW.region ?_
      refine X.u (LU.loadO 2 rfl ⟨Tryd.sizeOf28, Tryd.isAgg28⟩ Is.rfl' (Part.whole (by (simp; omega)))) rfl ?_
      refine X.u (LU.moveR Is.rfl') rfl ?_
      refine X.act (X.store 3 rfl Tryd.sizeOf28 Is.rfl' Is.rfl' (by exact Cells.agg) (by (simp; omega)) (by exact Nat.le_of_ble_eq_true rfl) ?_)
      refine X.u (LU.assignR Is.rfl') rfl ?_
      refine LL.nil (after_code ?_)
      refine LW.ret (after_end ?_)
      rw [putAt_all (by simp [raws, zeroE, zero32, hNl])]
      refine X.ret (H' := [lg g (es ++ [N]) (.func (.func 30) #[entV N] #[]) p q r, .tail p q r, kw]) (by exact Res.cell2 0 rfl rfl ⟨Tryd.sizeOf28, Tryd.isAgg28⟩ (Part.whole (by (simp; omega))) (by exact IsA rfl) (by exact IsR rfl)) (by repeat (first | exact HSub.refl _ | refine HSub.pick 1 rfl ?_ | refine HSub.pick 2 rfl ?_ | refine HSub.drop ?_)) ?_
      exact ⟨_, p, q, r, by rw [hA]; exact head_bound hNok es, rfl, by rw [hA]⟩
  · try have h4 := of_decide_eq_false h4
    have hE1 : E ≠ 0 := by omega
    have hA := hA1 hE1
    refine LW.skip (after_code ?_)
    refine LW.seq ?_
    refine LW.region ?_
    refine X.u (LU.loadO 0 rfl ⟨Tryd.sizeOf28, Tryd.isAgg28⟩ Is.rfl' (Part.whole (by (simp; omega)))) rfl ?_
    refine X.u (LU.moveR Is.rfl') rfl ?_
    refine X.act (X.store 3 rfl Tryd.sizeOf28 Is.rfl' Is.rfl' (by exact Cells.agg) (by (simp; omega)) (by exact Nat.le_of_ble_eq_true rfl) ?_)
    refine X.u (LU.assignR Is.rfl') rfl ?_
    refine LL.nil (after_code ?_)
    refine LW.ret (after_end ?_)
    rw [putAt_all (by simp [raws, zeroE, zero32, hNl])]
    refine X.ret (H' := [lg g es (.func (.func ff) first caps) b o c, .tail b o c, kw]) (by exact Res.cell2 0 rfl rfl ⟨Tryd.sizeOf28, Tryd.isAgg28⟩ (Part.whole (by (simp; omega))) (by exact IsA rfl) (by exact IsR rfl)) (by repeat (first | exact HSub.refl _ | refine HSub.pick 2 rfl ?_ | refine HSub.pick 3 rfl ?_ | refine HSub.drop ?_)) ?_
    exact ⟨_, b, o, c, by rw [hA]; exact hh, rfl, by rw [hA]⟩
end Go.Proofs.YtpcfpkfchoelcaaDoor
