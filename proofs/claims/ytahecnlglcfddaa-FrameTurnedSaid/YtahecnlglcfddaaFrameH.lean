/- FrameTurned. -/
import Derived.Test.YtahecnlglcfddaaFrameG
set_option linter.unusedVariables false
set_option linter.unusedSimpArgs false
namespace Go.Proofs.Ytahecnlglcfddaa
open Go.RowKit Go.Sep

set_option maxHeartbeats 4000000 in
theorem FrameTurned_walk (a0 : Option Addr) (len0 cap0 : Nat) (z0 : List Int) (m0 y1 : Int) (w : World) (h0 : IsRow .u8 w a0 len0 cap0 z0) (y0 : len0 * 1 ≤ 140737488351232) (hm0 : (Lit.int .i64 m0).wf = true) (hy1 : (Lit.int .u8 y1).wf = true) :
    Calls Try.prog 6 #[.slice a0 len0 cap0, .int .i64 m0, .int .u8 y1] w fun e w' => e = .returned (.bool true) ∧ Below w.heap.size w w' := by
  obtain ⟨hr, hlc, hlen, hw⟩ := h0.rd
  obtain ⟨hy0, hy2⟩ := wf_u8 hy1
  have HR := Asi.mk hr
  have HB := Asi.mk (byts_of_wf hw)
  generalize z0.take len0 = l at HR HB
  clear hr hlen hw h0 hm0 hy1
  by_cases hl : 20000 < len0
  · go_enter Try.func6, Try.ntmps6
    go_wp2_with (refine at_dst (N := 18) rfl ?_; refine stop ?_)
    refine ⟨?_⟩
    refine at_op rfl fun K hK => ?_
    refine op_call (lives_calls w) Try.func19 (by kernel_rfl) rfl rfl ?hargs ?_
    case hargs => (try simp only [List.map_toArray, List.map_cons, List.map_nil]); first | done | rfl
    rintro e w1 ⟨rfl, h⟩
    refine ⟨_, rfl, ?_⟩
    refine hK _ _ ?_
    clear hK K
    have HS := Asi.mk h.below
    clear h
    go_wp2
    go_ret
    exact ⟨rfl, HS.out⟩
  · have hlen := rd_len HR.out
    by_cases hz : y1 = 0
    · subst hz
      go_enter Try.func6, Try.ntmps6
      go_wp2_with (refine at_dst (N := 18) rfl ?_; refine stop ?_)
      refine ⟨?_⟩
      refine at_op rfl fun K hK => ?_
      refine op_call (lives_calls w) Try.func19 (by kernel_rfl) rfl rfl ?hargs ?_
      case hargs => (try simp only [List.map_toArray, List.map_cons, List.map_nil]); first | done | rfl
      rintro e w1 ⟨rfl, h⟩
      refine ⟨_, rfl, ?_⟩
      refine hK _ _ ?_
      clear hK K
      have HS := Asi.mk h.below
      clear h
      go_wp2
      go_ret
      exact ⟨rfl, HS.out⟩
    · subst hlen
      obtain ⟨F, hF⟩ : ∃ F, F = frame l := ⟨_, rfl⟩
      have hFl : F.length = l.length + 12 := by rw [hF, frame_len]
      have hFr := frame_ok a0 cap0 l w HR.out HB.out (by omega)
      rw [← hF] at hFr
      have HF := Asi.mk hFr
      have HFE := Asi.mk hF
      obtain ⟨L, hL⟩ : ∃ L, L = F.length := ⟨_, rfl⟩
      rw [← hL] at HF
      have hl' : ¬ (20000 : Int) < l.length := by omega
      have hzb : (y1 == 0) = false := by simpa using hz
      have hL1 : 0 < L := by omega
      have hL1' : (0 : Int) < L := by omega
      have hL0 : ¬ (L : Int) = 0 := by omega
      have hL2 : L ≤ 20012 := by omega
      have hwL := wrap_nat .u64 rfl L (by simp [IntKind.bits]; omega)
      obtain ⟨p, hp, hpL⟩ : ∃ p : Nat, wrap64 ((IntKind.u64.wrap m0).tmod (L : Int)) = p ∧ p < L := by
        have hu : 0 ≤ IntKind.u64.wrap m0 := by rw [IntKind.wrap_u64]; omega
        have h1 := Int.emod_nonneg (IntKind.u64.wrap m0) (show (L : Int) ≠ 0 by omega)
        have h2 := Int.emod_lt_of_pos (IntKind.u64.wrap m0) hL1'
        refine ⟨(IntKind.u64.wrap m0 % (L : Int)).toNat, ?_, by omega⟩
        rw [Int.tmod_eq_emod_of_nonneg hu]
        have h3 : wrap64 (IntKind.u64.wrap m0 % (L : Int)) = IntKind.u64.wrap m0 % (L : Int) := by
          unfold wrap64
          omega
        rw [h3]
        omega
      have hfs : l.length ≤ 65536 := by omega
      have hlL : Asi (L = l.length + 12) := Asi.mk (by omega)
      have hLA := Asi.mk hL
      have hFlA := Asi.mk hFl
      have hLb : ((L : Int) == 0) = false := by simp; omega
      have hp0 : (0 : Int) ≤ p := by omega
      have hp1 : (p : Int) < L := by omega
      clear hFr hF hL hFl
      go_enter Try.func6, Try.ntmps6
      go_wp2_with (refine at_dst (N := 21) rfl ?_; refine stop ?_)
      refine ⟨?_⟩
      refine at_op rfl fun K hK => ?_
      refine op_call HF.out Try.func22 (by kernel_rfl) rfl rfl ?hargs ?_
      case hargs => (try simp only [List.map_toArray, List.map_cons, List.map_nil]); first | done | rfl
      rintro e w1 ⟨x, rfl, h⟩
      refine ⟨_, rfl, ?_⟩
      refine hK _ _ ?_
      clear hK K
      have HS1 := Asi.mk h
      clear h
      obtain ⟨A1, c1, e1, hc1, _⟩ := HS1.out.row_rd
      subst e1
      obtain ⟨g, cap, e, hg⟩ := HS1.out.row_pos hL1
      injection e with eA _ ec
      subst eA
      subst ec
      obtain ⟨ad, e, hcell⟩ := rd_at HS1.out.rd (i := p) (by have := hLA.out; omega)
      injection e with e
      subst e
      have HFB := Asi.mk (show Byts F from by rw [HFE.out]; exact frame_byts l HB.out hfs)
      obtain ⟨z, hz1, hz2⟩ := HFB.out.get p (by have := hLA.out; omega)
      rw [hz1, add_head] at hcell
      have hfr := row_frozen HS1.out.row_own p
      obtain ⟨y, rfl⟩ := Int.eq_ofNat_of_zero_le hy0
      have hx8 : Go.bits .xor .u8 (z : Int) (y : Int) = ((z ^^^ y : Nat) : Int) := xor8 z y hz2 (by omega)
      have hlt := xlt8 hz2 (show y < 256 by omega)
      have HNE := Asi.mk (show z ^^^ y ≠ z from fun h => by
        have h2 : y = 0 := xor_inj' (c := z) (by simpa using h)
        exact hz (by omega))
      have HZ := Asi.mk hz1
      clear hz1
      have hTu : unf (F.set p ((z ^^^ y : Nat) : Int)) = ([], 0, 40) := by
        have := unf_turned l HB.out hfs p ((z ^^^ y : Nat) : Int) (by omega) (by rw [← HFE.out]; have := hLA.out; omega) (by
          have h1 := HZ.out
          have h2 := HNE.out
          simp only [HFE.out] at h1
          rw [h1]
          omega)
        rw [HFE.out]
        exact this
      have HT := Asi.mk hTu
      clear hTu
      have HS2 := Asi.mk (HS1.out.row_set p hpL (.int .u8 ((z ^^^ y : Nat) : Int)))
      rw [← ints_set] at HS2
      have HFS := Asi.mk (show Byts (F.set p ((z ^^^ y : Nat) : Int)) from by
        intro x hx
        rcases List.mem_or_eq_of_mem_set hx with h | h
        · exact HFB.out x h
        · omega)
      have hun := unframe_calls (some ⟨g, 0, none⟩) L c1 (F.set p ((z ^^^ y : Nat) : Int)) _ HS2.out.rd HFS.out hc1 (by omega)
      rw [HT.out] at hun
      have HUN := Asi.mk hun
      clear hun
      go_wp2_with (refine at_dst (N := 46) rfl ?_; refine stop ?_)
      refine ⟨?_⟩
      refine at_op rfl fun K hK => ?_
      refine op_call HUN.out Try.func24 (by kernel_rfl) rfl rfl ?hargs ?_
      case hargs => (try simp only [List.map_toArray, List.map_cons, List.map_nil]); first | done | rfl
      rintro e w3 ⟨v, rfl, h⟩
      refine ⟨_, rfl, ?_⟩
      refine hK _ _ ?_
      clear hK K
      have HS3 := Asi.mk (HS2.out.join1 h)
      clear h HUN
      obtain ⟨A3, c3, e3, _, _⟩ := HS3.out.row_rd
      subst e3
      go_wp2_with (refine at_dst (N := 62) rfl ?_; refine stop ?_)
      refine ⟨?_⟩
      refine at_opG rfl fun K hK => ?_
      refine op_call (lives_calls w3) Try.func19 (by kernel_rfl) rfl rfl ?hargs ?_
      case hargs => (try simp only [List.map_toArray, List.map_cons, List.map_nil]); first | done | rfl
      rintro e w4 ⟨rfl, h⟩
      refine ⟨_, rfl, ?_⟩
      refine hK _ _ ?_
      clear hK K
      have HS4 := Asi.mk (HS3.out.step h.below)
      clear h
      go_wp2
      go_ret
      exact ⟨rfl, HS4.out.below⟩
end Go.Proofs.Ytahecnlglcfddaa
