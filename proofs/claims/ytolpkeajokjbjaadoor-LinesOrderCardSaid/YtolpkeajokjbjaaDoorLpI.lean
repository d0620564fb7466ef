/- Lines: the calls in terms of the document's graph. -/
import Derived.Test.YtolpkeajokjbjaaDoorLpH
set_option linter.unusedVariables false
set_option linter.unusedSimpArgs false
namespace Go.Proofs.YtolpkeajokjbjaaDoor
open Go.RowKit Go.L Go.Lib
attribute [local irreducible] LL LW LO
section
variable {s : St} {r : Rg} {c : Nat}
theorem StR.mlen (hs : StR s r c) : s.m.length ≤ 514 := by have := hs.rel.mlen; have := hs.ok.len; omega
theorem add_r (g : Nat) (hs : StR s r c) (hc : c < 90000) (up down : Vx) (ids : List Vx) (ts : List (List UInt8)) (k1 k2 : Cap) (hi : ids.length < 100000) (hts : ts.length < 100000) :
    LCalls Tryd.prog 11 [pt g, .agg (vxL up), .agg (vxL down), Vxs ids k1, .sl 1 (strsL ts) k2] (H4 g s) (fun x H' => x = i64 (raddE r up down ids ts : Nat) ∧ ∃ s', H' = H4 g s' ∧ StR s' (raddG r up down ids ts) (c + 1)) := by
  have hml := hs.mlen
  have hn := hs.nc
  refine (add_calls g s.ma s.mb s.n s.m s.q up down ids ts k1 k2 (aheadG r up down) 1025 (hs.rel.alln hs.ok) (hs.rel.sz hs.ok) (by decide) (by omega) hs.n0 (by omega) hi hts (fun _ _ => by rw [hs.rel.nx]; exact hs.ok.ahead up down)).mono fun x H' ⟨h1, h2⟩ => ?_
  rw [hs.rel.addE] at h1 h2
  refine ⟨h1, ?_⟩
  by_cases e : raddE r up down ids ts = 0
  · rw [if_pos e] at h2
    have hG : raddG r up down ids ts = ⟨r.L ++ [⟨up, down, ids, ts⟩], r.D⟩ := by unfold raddG; rw [if_pos e]
    refine ⟨⟨s.ma, s.mb, s.n + 1, addM s.m (s.n + 1) up down ids ts, setA s.q (s.n + 1) ⟨up, down, ids⟩⟩, h2, hs.rel.add hs.ok hs.n0 e, hs.ok.radd up down ids ts, ?_, ?_, ?_⟩
    · show 0 ≤ s.n + 1; have := hs.n0; omega
    · show s.n + 1 ≤ ((c + 1 : Nat) : Int); omega
    · rw [hG]; have := hs.dc; show r.D.length ≤ c + 1; omega
  · rw [if_neg e] at h2
    have hG : raddG r up down ids ts = r := by unfold raddG; rw [if_neg e]
    exact ⟨s, h2, by rw [hG]; exact hs.mono (by omega)⟩
theorem drop_r (g : Nat) (hs : StR s r c) (ids : List Vx) (k1 : Cap) (hi : ids.length < 100000) :
    LCalls Tryd.prog 22 [pt g, Vxs ids k1] (H4 g s) (fun x H' => x = i64 (rdropE r ids : Nat) ∧ ∃ s', H' = H4 g s' ∧ StR s' (rdropG r ids) c) := by
  refine (drop_calls g s.ma s.mb s.n s.m s.q ids k1 1025 hs.szl (by decide) hi fun p hp => ?_).mono fun x H' ⟨h1, h2, h3⟩ => ?_
  · obtain ⟨z, z1, z2, z3, z4, z5⟩ := hs.rel.parts
    obtain ⟨p', hp', rfl⟩ := List.mem_map.1 (z2.mem_iff.1 hp)
    have haL : p'.2 ∈ r.L := by rw [z1]; exact List.mem_map.2 ⟨p', hp', rfl⟩
    show p'.2.ids.length < 100000
    have := nodup_len (hs.ok.idsOf haL) (l := idsG r.L) fun x hx => ids_mem.2 ⟨_, haL, hx⟩
    have := hs.ok.len
    omega
  · rw [hs.rel.dropE hs.ok] at h1 h2 h3
    refine ⟨h1, ?_⟩
    by_cases e : rdropE r ids = 0
    · obtain ⟨ks, k1, k2, k3⟩ := h3 e
      refine ⟨⟨s.ma, s.mb, s.n, (ks.foldl dropK (s.m, s.q)).1, (ks.foldl dropK (s.m, s.q)).2⟩, k3, hs.rel.drop hs.ok e k1 k2, hs.ok.rdrop ids, hs.n0, hs.nc, ?_⟩
      unfold rdropG
      rw [if_pos e]
      exact Nat.le_trans (List.length_filter_le _ _) hs.dc
    · have hG : rdropG r ids = r := by unfold rdropG; rw [if_neg e]
      exact ⟨s, h2 e, by rw [hG]; exact hs⟩
theorem kill_r (g : Nat) (hs : StR s r c) (hc : c < 90000) (v : Vx) (b : Hs) :
    LCalls Tryd.prog 10 [pt g, .agg (vxL v), .agg (hsL b)] (H4 g s) (fun x H' => x = i64 (rkE r v b : Nat) ∧ ∃ s', H' = H4 g s' ∧ StR s' (rkG r v b) (c + 1)) := by
  have hk := kills_len r.D v
  have hd := hs.dc
  refine (((kill_calls g s.ma s.mb s.n s.m v b (by rw [hs.rel.kills]; omega)).frame [gP s.mb s.q]).need (HSub.cons (HSub.cons (HSub.pick 1 rfl (HSub.refl _))))).give fun x H' ⟨H0, h0, h1, h2⟩ => ?_
  subst h2; subst h0
  refine ⟨H4 g ⟨s.ma, s.mb, s.n, killA s.m v b, s.q⟩, HSub.cons (HSub.cons (HSub.pick 1 rfl (HSub.refl _))), by rw [h1, hs.rel.killE], _, rfl, hs.rel.kill hs.ok v b, hs.ok.rkill v b, hs.n0, ?_, ?_⟩
  · have := hs.nc; show s.n ≤ ((c + 1 : Nat) : Int); omega
  · unfold rkG
    split
    · show (r.D ++ [_]).length ≤ c + 1
      rw [List.length_append, List.length_singleton]; omega
    · omega
theorem unkill_r (g : Nat) (hs : StR s r c) (hc : c < 90000) (v : Vx) (b : Hs) :
    LCalls Tryd.prog 24 [pt g, .agg (vxL v), .agg (hsL b)] (H4 g s) (fun x H' => x = i64 (ukE r v b : Nat) ∧ ∃ s', H' = H4 g s' ∧ StR s' (ukG r v b) c) := by
  have hk := kills_len r.D v
  have hd := hs.dc
  refine (((unkill_calls g s.ma s.mb s.n s.m v b (by rw [hs.rel.kills]; omega)).frame [gP s.mb s.q]).need (HSub.cons (HSub.cons (HSub.pick 1 rfl (HSub.refl _))))).give fun x H' ⟨H0, h0, h1, h2⟩ => ?_
  subst h2; subst h0
  refine ⟨H4 g ⟨s.ma, s.mb, s.n, unkillA s.m v b, s.q⟩, HSub.cons (HSub.cons (HSub.pick 1 rfl (HSub.refl _))), by rw [h1, hs.rel.unkillE hs.ok], _, rfl, hs.rel.unkill hs.ok v b, hs.ok.runkill v b, hs.n0, hs.nc, ?_⟩
  unfold ukG
  split
  · exact Nat.le_trans (List.length_eraseIdx_le _ _) hd
  · exact hd
theorem has_r (g : Nat) (hs : StR s r c) (v : Vx) : LCalls Tryd.prog 20 [pt g, .agg (vxL v)] [gC g s.ma s.mb s.n, gA s.ma s.m] (fun x H' => x = bl (hasG r v) ∧ H' = [gC g s.ma s.mb s.n, gA s.ma s.m]) := by
  rw [← hs.rel.has]; exact has_calls _ _ _ _ _ _
theorem ahead_r (g : Nat) (hs : StR s r c) (a b : Vx) : LCalls Tryd.prog 21 [pt g, .agg (vxL a), .agg (vxL b)] [gC g s.ma s.mb s.n, gA s.ma s.m] (fun x H' => x = bl (aheadG r a b) ∧ H' = [gC g s.ma s.mb s.n, gA s.ma s.m]) :=
  ahead_calls g s.ma s.mb s.n s.m a b (aheadG r a b) (hs.rel.alln hs.ok) (fun v => Nat.lt_of_le_of_lt (hs.rel.sz hs.ok v).1 (by decide)) (by
    rw [hs.rel.has, hs.rel.has, hs.rel.nx, hs.ok.ahead]
    exact ⟨fun e => ⟨(hs.ok.hasR e).1, (hs.ok.hasR e).2, e⟩, fun e => e.2.2⟩)
theorem len_r (g : Nat) (hs : StR s r c) : LCalls Tryd.prog 19 [pt g] [gC g s.ma s.mb s.n, gA s.ma s.m] (fun x H' => x = i64 ((idsG r.L).length : Nat) ∧ H' = [gC g s.ma s.mb s.n, gA s.ma s.m]) := by
  have hml := hs.mlen
  have := len_calls g s.ma s.mb s.n s.m (by omega)
  rw [hs.rel.mlen, show (((idsG r.L).length + 2 : Nat) : Int) - 2 = ((idsG r.L).length : Nat) by omega] at this
  exact this
end
end Go.Proofs.YtolpkeajokjbjaaDoor
