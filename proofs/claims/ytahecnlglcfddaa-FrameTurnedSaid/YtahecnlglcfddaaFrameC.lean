/- The chapter's example; FrameSums. -/
import Derived.Test.YtahecnlglcfddaaFrameB
set_option linter.unusedVariables false
set_option linter.unusedSimpArgs false
namespace Go.Proofs.Ytahecnlglcfddaa
open Go.RowKit Go.Sep

theorem crc_known : crc [49, 50, 51, 52, 53, 54, 55, 56, 57] = 3421780262 := by decide +kernel
theorem frame_nil : frame [] = [0, 0, 0, 0, 33, 68, 223, 28, 0, 0, 0, 0] := by decide +kernel
def nine : List Int := [49, 50, 51, 52, 53, 54, 55, 56, 57]
theorem nine_byts : Byts nine := by intro x hx; simp [nine] at hx; omega

set_option maxHeartbeats 2000000 in
theorem lives_calls (w : World) : Calls Try.prog 19 #[] w fun e w' => e = .returned (.bool true) ∧ Sts w w' emp := by
  have hf := frame_ok none 0 [] w (Rd.nil _ _ _) Byts.nil (by simp)
  rw [frame_nil] at hf
  have hs := fun (A : Option Addr) (c : Nat) (w : World) (h : Rd w 1 A 9 (ints .u8 nine)) => sum_calls A 9 c nine w h nine_byts (by omega)
  simp only [nine] at hs
  rw [crc_known] at hs
  have HF := Asi.mk hf
  have HG := Asi.mk hs
  clear hf hs
  go_enter Try.func19, Try.ntmps19
  go_wp2_with (refine at_dst (N := 4) rfl ?_; refine stop ?_)
  refine ⟨?_⟩
  refine at_op rfl fun K hK => ?_
  refine op_call HF.out Try.func22 (by kernel_rfl) rfl rfl ?hargs ?_
  case hargs => (try simp only [List.map_toArray, List.map_cons, List.map_nil]); first | done | rfl
  rintro e w1 ⟨v1, rfl, h⟩
  refine ⟨_, rfl, ?_⟩
  refine hK _ _ ?_
  clear hK K
  have HS1 := Asi.mk h
  clear h
  obtain ⟨A1, c1, e1, _, _⟩ := HS1.out.row_rd
  subst e1
  go_wp2_with (refine at_dst (N := 8) rfl ?_; refine stop ?_)
  refine ⟨?_⟩
  refine at_op rfl fun K hK => ?_
  refine op_const (C := [.int .u8 49, .int .u8 50, .int .u8 51, .int .u8 52, .int .u8 53, .int .u8 54, .int .u8 55, .int .u8 56, .int .u8 57]) HS1.out rfl Try.underlying22 Try.underlying5 rfl rfl ?_
  intro w2 h hr
  refine hK _ _ ?_
  clear hK K
  have HS2 := Asi.mk h
  have HR2 := Asi.mk hr
  clear h hr HS1
  go_wp2_with (refine at_dst (N := 9) rfl ?_; refine stop ?_)
  refine ⟨?_⟩
  refine at_op rfl fun K hK => ?_
  refine op_call (HG.out _ 9 w2 HR2.out) Try.func20 (by kernel_rfl) rfl rfl ?hargs ?_
  case hargs => (try simp only [List.map_toArray, List.map_cons, List.map_nil]); first | done | rfl
  rintro e w3 ⟨rfl, rfl⟩
  refine ⟨_, rfl, ?_⟩
  refine hK _ _ ?_
  clear hK K
  obtain ⟨ad, e, hc⟩ := rd_at HS2.out.rd (i := 4) (by simp)
  subst e
  simp [Addr.add] at hc
  go_wp2
  go_ret
  exact ⟨rfl, HS2.out.mono (Ent.emp _)⟩

set_option maxHeartbeats 2000000 in
theorem FrameSums_walk (a0 : Option Addr) (len0 cap0 : Nat) (z0 : List Int) (w : World) (h0 : IsRow .u8 w a0 len0 cap0 z0) (y0 : len0 * 1 ≤ 140737488351232) :
    Calls Try.prog 4 #[.slice a0 len0 cap0] w fun e w' => e = .returned (.bool true) ∧ Below w.heap.size w w' := by
  obtain ⟨hr, hlc, hlen, hw⟩ := h0.rd
  have HR := Asi.mk hr
  have HB := Asi.mk (byts_of_wf hw)
  generalize z0.take len0 = l at HR HB
  clear hr hlen hw h0
  by_cases hl : 100000 < len0
  · go_enter Try.func4, Try.ntmps4
    go_wp2_with (refine at_dst (N := 6) rfl ?_; refine stop ?_)
    refine ⟨?_⟩
    refine at_op rfl fun K hK => ?_
    refine op_call (lives_calls w) Try.func19 (by kernel_rfl) rfl rfl ?hargs ?_
    case hargs => (try simp only [List.map_toArray, List.map_cons, List.map_nil]); first | done | rfl
    rintro e w1 ⟨rfl, h⟩
    refine ⟨_, rfl, ?_⟩
    refine hK _ _ ?_
    clear hK K
    have HS := Asi.mk h.below
    clear h
    go_wp2
    go_ret
    exact ⟨rfl, HS.out⟩
  · go_enter Try.func4, Try.ntmps4
    go_wp2_with (refine at_dst (N := 8) rfl ?_; refine stop ?_)
    refine ⟨?_⟩
    refine at_op rfl fun K hK => ?_
    refine op_call (sum_calls a0 len0 cap0 l w HR.out HB.out (by omega)) Try.func20 (by kernel_rfl) rfl rfl ?hargs ?_
    case hargs => (try simp only [List.map_toArray, List.map_cons, List.map_nil]); first | done | rfl
    rintro e w1 ⟨rfl, rfl⟩
    refine ⟨_, rfl, ?_⟩
    refine hK _ _ ?_
    clear hK K
    go_wp2_with (refine at_dst (N := 10) rfl ?_; refine stop ?_)
    refine ⟨?_⟩
    refine at_op rfl fun K hK => ?_
    refine op_call (rsum_calls a0 len0 cap0 l w HR.out HB.out (by omega)) Try.func21 (by kernel_rfl) rfl rfl ?hargs ?_
    case hargs => (try simp only [List.map_toArray, List.map_cons, List.map_nil]); first | done | rfl
    rintro e w2 ⟨rfl, rfl⟩
    refine ⟨_, rfl, ?_⟩
    refine hK _ _ ?_
    clear hK K
    go_wp2_with (go_at_call 19; refine (lives_calls w).mono ?_; rintro e w3 ⟨rfl, h⟩; have HS := Asi.mk h.below; clear h)
    go_ret
    exact ⟨rfl, HS.out⟩
end Go.Proofs.Ytahecnlglcfddaa
