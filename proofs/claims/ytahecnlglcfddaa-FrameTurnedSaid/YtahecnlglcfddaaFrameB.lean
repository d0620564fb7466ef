/- What frames are made of and read as, by the package frame and by its reference. -/
import Derived.Test.YtahecnlglcfddaaFrameA
set_option linter.unusedVariables false
set_option linter.unusedSimpArgs false
namespace Go.Proofs.Ytahecnlglcfddaa
open Go.RowKit Go.Sep

set_option maxHeartbeats 1000000 in
theorem rfour_calls (n : Int) (h0 : 0 ≤ n) (h1 : n < 4294967296) (w : World) :
    Calls Try.prog 37 #[.int .u32 n] w fun e w' => ∃ v', e = .returned v' ∧ Sts w w' (star (row 5 1 v' (four n).length (ints .u8 (four n))) emp) := by
  have HS := Asi.mk (Sts.start w)
  go_enter Try.func37, Try.ntmps37
  go_wp2_with (refine at_dst (N := 14) rfl ?_; refine stop ?_)
  refine ⟨?_⟩
  refine at_op rfl fun K hK => ?_
  refine op_lit (HS.out) 5 1 4 (ints .u8 (four n)) (by first | (go_simp; done) | (go_simp; rfl) | (go_simp; simp [ints]; done)) (by first | rfl | simp [ints]) (by omega) ?_
  intro v1 w1 h
  refine hK _ _ ?_
  clear hK K
  have HS1 := Asi.mk h
  clear h HS
  go_wp2
  go_ret
  exact ⟨_, rfl, HS1.out⟩

theorem four_len (n : Int) : (four n).length = 4 := rfl
theorem frame_len (l : List Int) : (frame l).length = l.length + 12 := by simp [frame, four_len]; omega
theorem four_b (n : Nat) (h : n < 4294967296) : Byts (four n) := four_byts _ (by omega) (by omega)
theorem frame_byts (l : List Int) (h : Byts l) (hl : l.length ≤ 65536) : Byts (frame l) :=
  (((four_b _ (by omega)).append (four_b _ (crc_lt _ (four_b _ (by omega))))).append h).append (four_b _ (crc_lt _ h))

theorem frame_long (A : Option Addr) (c : Nat) (l : List Int) (w : World) (hl : 65536 < l.length) (hl2 : l.length ≤ 100000000) :
    Calls Try.prog 22 #[.slice A l.length c] w fun e w' => e = .returned (.tuple #[.slice none 0 0, .int .i64 3]) ∧ w = w' := by
  go_enter Try.func22, Try.ntmps22
  go_wp2
  go_ret2
  exact ⟨rfl, rfl⟩

set_option maxHeartbeats 2000000 in
theorem frame_ok (A : Option Addr) (c : Nat) (l : List Int) (w : World) (HR : Rd w 1 A l.length (ints .u8 l)) (hb : Byts l) (hl : l.length ≤ 65536) :
    Calls Try.prog 22 #[.slice A l.length c] w fun e w' => ∃ v, e = .returned (.tuple #[v, .int .i64 0]) ∧ Sts w w' (star (row 5 1 v (frame l).length (ints .u8 (frame l))) emp) := by
  have HR := Asi.mk HR
  have HB := Asi.mk hb
  clear hb
  have HS := Asi.mk (Sts.start w)
  have HF := Asi.mk (four_b l.length (by omega))
  have hc1 := crc_lt _ HF.out
  have hc2 := crc_lt _ HB.out
  go_enter Try.func22, Try.ntmps22
  go_wp2_with (refine at_dst (N := 11) rfl ?_; refine stop ?_)
  refine ⟨?_⟩
  refine at_op rfl fun K hK => ?_
  refine op_make HS.out 22 5 _ _ rfl 0 (l.length + 12) rfl ?hcap Try.underlying22 _ 1 info5 rfl (by omega) (by omega) (by omega) ?_
  case hcap => first | rfl | (simp; done)
  intro v1 w1 h
  refine hK _ _ ?_
  clear hK K
  have HS1 := Asi.mk h
  clear h HS
  go_wp2_with (refine at_dst (N := 15) rfl ?_; refine stop ?_)
  refine ⟨?_⟩
  refine at_op rfl fun K hK => ?_
  refine op_call (four_calls v1 0 [] l.length (by omega) (by omega) w _ emp HS1.out (by omega)) Try.func36 (by kernel_rfl) rfl rfl ?hargs ?_
  case hargs => (try simp only [List.map_toArray, List.map_cons, List.map_nil]); first | done | rfl
  rintro e w2 ⟨v2, rfl, h⟩
  refine ⟨_, rfl, ?_⟩
  refine hK _ _ ?_
  clear hK K
  have HS2 := Asi.mk (show Sts w w2 (star (row 5 1 v2 4 (ints .u8 (four l.length))) emp) from h)
  clear h HS1
  obtain ⟨A2, c2, e2, _, hr2⟩ := HS2.out.row_rd
  subst e2
  have HR2 := Asi.mk hr2
  clear hr2
  go_wp2_with (refine at_dst (N := 18) rfl ?_; refine stop ?_)
  refine ⟨?_⟩
  refine at_op rfl fun K hK => ?_
  refine op_call (sum_calls A2 4 c2 (four l.length) _ HR2.out HF.out (by omega)) Try.func20 (by kernel_rfl) rfl rfl ?hargs ?_
  case hargs => (try simp only [List.map_toArray, List.map_cons, List.map_nil]); first | done | rfl
  rintro e w3 ⟨rfl, rfl⟩
  refine ⟨_, rfl, ?_⟩
  refine hK _ _ ?_
  clear hK K
  go_wp2_with (refine at_dst (N := 19) rfl ?_; refine stop ?_)
  refine ⟨?_⟩
  refine at_op rfl fun K hK => ?_
  refine op_call (four_calls (.slice A2 4 c2) 4 (ints .u8 (four l.length)) (crc (four l.length)) (by omega) (by omega) w _ emp HS2.out (by omega)) Try.func36 (by kernel_rfl) rfl rfl ?hargs ?_
  case hargs => (try simp only [List.map_toArray, List.map_cons, List.map_nil]); first | done | rfl
  rintro e w4 ⟨v4, rfl, h⟩
  refine ⟨_, rfl, ?_⟩
  refine hK _ _ ?_
  clear hK K
  have HS4 := Asi.mk h
  clear h HS2 HR2
  go_wp2_with (refine at_dst (N := 22) rfl ?_; refine stop ?_)
  refine ⟨?_⟩
  refine at_op rfl fun K hK => ?_
  refine op_append 1 1 v4 8 (ints .u8 (four l.length) ++ ints .u8 (four (crc (four l.length)))) 5 HS4.out (.tmp 20) (.tmp 21) 22 _ rfl Try.underlying22 info5 rfl (by omega) rfl A (l.length) c (ints .u8 l) rfl (HR.out.below HS4.out.below) (ints_one _ _) (by omega) (by omega) ?_
  intro v5 w5 h
  refine hK _ _ ?_
  clear hK K
  have HS5 := Asi.mk h
  clear h HS4
  go_wp2_with (refine at_dst (N := 24) rfl ?_; refine stop ?_)
  refine ⟨?_⟩
  refine at_op rfl fun K hK => ?_
  refine op_call (sum_calls A _ c l _ (HR.out.below HS5.out.below) HB.out (by omega)) Try.func20 (by kernel_rfl) rfl rfl ?hargs ?_
  case hargs => (try simp only [List.map_toArray, List.map_cons, List.map_nil]); first | done | rfl
  rintro e w6 ⟨rfl, rfl⟩
  refine ⟨_, rfl, ?_⟩
  refine hK _ _ ?_
  clear hK K
  go_wp2_with (refine at_dst (N := 25) rfl ?_; refine stop ?_)
  refine ⟨?_⟩
  refine at_op rfl fun K hK => ?_
  refine op_call (four_calls v5 (8 + l.length) (ints .u8 (four l.length) ++ ints .u8 (four (crc (four l.length))) ++ ints .u8 l) (crc l) (by omega) (by omega) w _ emp HS5.out (by omega)) Try.func36 (by kernel_rfl) rfl rfl ?hargs ?_
  case hargs => (try simp only [List.map_toArray, List.map_cons, List.map_nil]); first | done | rfl
  rintro e w7 ⟨v7, rfl, h⟩
  refine ⟨_, rfl, ?_⟩
  refine hK _ _ ?_
  clear hK K
  have HS7 := Asi.mk h
  clear h HS5
  go_wp2
  go_ret2
  refine ⟨_, rfl, ?_⟩
  rw [frame_len, show l.length + 12 = 8 + l.length + 4 by omega]
  simp only [frame, ints_append]
  exact HS7.out

theorem rframe_long (A : Option Addr) (c : Nat) (l : List Int) (w : World) (hl : 65536 < l.length) (hl2 : l.length ≤ 100000000) :
    Calls Try.prog 23 #[.slice A l.length c] w fun e w' => e = .returned (.tuple #[.slice none 0 0, .int .i64 3]) ∧ w = w' := by
  go_enter Try.func23, Try.ntmps23
  go_wp2
  go_ret2
  exact ⟨rfl, rfl⟩

set_option maxHeartbeats 2000000 in
theorem rframe_ok (A : Option Addr) (c : Nat) (l : List Int) (w : World) (HR : Rd w 1 A l.length (ints .u8 l)) (hb : Byts l) (hl : l.length ≤ 65536) :
    Calls Try.prog 23 #[.slice A l.length c] w fun e w' => ∃ v, e = .returned (.tuple #[v, .int .i64 0]) ∧ Sts w w' (star (row 5 1 v (frame l).length (ints .u8 (frame l))) emp) := by
  have HR := Asi.mk HR
  have HB := Asi.mk hb
  clear hb
  have HS := Asi.mk (Sts.start w)
  have HF := Asi.mk (four_b l.length (by omega))
  have hc1 := crc_lt _ HF.out
  have hc2 := crc_lt _ HB.out
  go_enter Try.func23, Try.ntmps23
  go_wp2_with (refine at_dst (N := 12) rfl ?_; refine stop ?_)
  refine ⟨?_⟩
  refine at_op rfl fun K hK => ?_
  refine op_call (rfour_calls l.length (by omega) (by omega) _) Try.func37 (by kernel_rfl) rfl rfl ?hargs ?_
  case hargs => (try simp only [List.map_toArray, List.map_cons, List.map_nil]); first | done | rfl
  rintro e w1 ⟨v1, rfl, h⟩
  refine ⟨_, rfl, ?_⟩
  refine hK _ _ ?_
  clear hK K
  have HS1 := Asi.mk (show Sts w w1 (star (row 5 1 v1 4 (ints .u8 (four l.length))) emp) from h)
  clear h HS
  obtain ⟨A1, c1, e1, _, hr1⟩ := HS1.out.row_rd
  subst e1
  have HR1 := Asi.mk hr1
  clear hr1
  go_wp2_with (refine at_dst (N := 13) rfl ?_; refine stop ?_)
  refine ⟨?_⟩
  refine at_op rfl fun K hK => ?_
  refine op_lit HS1.out 5 1 0 [] (by first | (go_simp; done) | (go_simp; rfl) | (go_simp; simp [ints]; done)) (by first | rfl | simp [ints]) (by omega) ?_
  intro v2 w2 h
  refine hK _ _ ?_
  clear hK K
  have HS2 := Asi.mk h
  clear h HS1 HR1
  go_wp2_with (refine at_dst (N := 15) rfl ?_; refine stop ?_)
  refine ⟨?_⟩
  refine at_op rfl fun K hK => ?_
  refine op_append 1 1 v2 0 [] 5 HS2.out (.tmp 13) (.tmp 14) 22 _ rfl Try.underlying22 info5 rfl (by omega) rfl A1 4 c1 (ints .u8 (four l.length)) rfl HS2.out.swap.rd (ints_one _ _) (by omega) (by omega) ?_
  intro v3 w3 h
  refine hK _ _ ?_
  clear hK K
  have HS3 := Asi.mk (show Sts w w3 (star (row 5 1 v3 4 (ints .u8 (four l.length))) (star (row 5 1 (.slice A1 4 c1) 4 (ints .u8 (four l.length))) emp)) from h)
  clear h HS2
  go_wp2_with (refine at_dst (N := 17) rfl ?_; refine stop ?_)
  refine ⟨?_⟩
  refine at_op rfl fun K hK => ?_
  refine op_call (rsum_calls A1 4 c1 (four l.length) _ HS3.out.swap.rd HF.out (by omega)) Try.func21 (by kernel_rfl) rfl rfl ?hargs ?_
  case hargs => (try simp only [List.map_toArray, List.map_cons, List.map_nil]); first | done | rfl
  rintro e w4 ⟨rfl, rfl⟩
  refine ⟨_, rfl, ?_⟩
  refine hK _ _ ?_
  clear hK K
  go_wp2_with (refine at_dst (N := 18) rfl ?_; refine stop ?_)
  refine ⟨?_⟩
  refine at_op rfl fun K hK => ?_
  refine op_call (rfour_calls (crc (four l.length)) (by omega) (by omega) _) Try.func37 (by kernel_rfl) rfl rfl ?hargs ?_
  case hargs => (try simp only [List.map_toArray, List.map_cons, List.map_nil]); first | done | rfl
  rintro e w5 ⟨v5, rfl, h⟩
  refine ⟨_, rfl, ?_⟩
  refine hK _ _ ?_
  clear hK K
  have HS5 := Asi.mk (HS3.out.drop2.join h.head)
  clear h HS3
  obtain ⟨A5, c5, e5, _, _⟩ := HS5.out.row_rd
  subst e5
  go_wp2_with (refine at_dst (N := 19) rfl ?_; refine stop ?_)
  refine ⟨?_⟩
  refine at_op rfl fun K hK => ?_
  refine op_append 1 1 v3 4 (ints .u8 (four l.length)) 5 HS5.out.swap (.tmp 15) (.tmp 18) 22 _ rfl Try.underlying22 info5 rfl (by omega) rfl A5 4 c5 (ints .u8 (four (crc (four l.length)))) rfl HS5.out.rd (ints_one _ _) (by omega) (by omega) ?_
  intro v6 w6 h
  refine hK _ _ ?_
  clear hK K
  have HS6 := Asi.mk h.drop2
  clear h HS5
  go_wp2_with (refine at_dst (N := 22) rfl ?_; refine stop ?_)
  refine ⟨?_⟩
  refine at_op rfl fun K hK => ?_
  refine op_append 1 1 v6 8 (ints .u8 (four l.length) ++ ints .u8 (four (crc (four l.length)))) 5 HS6.out (.tmp 20) (.tmp 21) 22 _ rfl Try.underlying22 info5 rfl (by omega) rfl A (l.length) c (ints .u8 l) rfl (HR.out.below HS6.out.below) (ints_one _ _) (by omega) (by omega) ?_
  intro v7 w7 h
  refine hK _ _ ?_
  clear hK K
  have HS7 := Asi.mk h
  clear h HS6
  go_wp2_with (refine at_dst (N := 25) rfl ?_; refine stop ?_)
  refine ⟨?_⟩
  refine at_op rfl fun K hK => ?_
  refine op_call (rsum_calls A _ c l _ (HR.out.below HS7.out.below) HB.out (by omega)) Try.func21 (by kernel_rfl) rfl rfl ?hargs ?_
  case hargs => (try simp only [List.map_toArray, List.map_cons, List.map_nil]); first | done | rfl
  rintro e w8 ⟨rfl, rfl⟩
  refine ⟨_, rfl, ?_⟩
  refine hK _ _ ?_
  clear hK K
  go_wp2_with (refine at_dst (N := 26) rfl ?_; refine stop ?_)
  refine ⟨?_⟩
  refine at_op rfl fun K hK => ?_
  refine op_call (rfour_calls (crc l) (by omega) (by omega) _) Try.func37 (by kernel_rfl) rfl rfl ?hargs ?_
  case hargs => (try simp only [List.map_toArray, List.map_cons, List.map_nil]); first | done | rfl
  rintro e w9 ⟨v9, rfl, h⟩
  refine ⟨_, rfl, ?_⟩
  refine hK _ _ ?_
  clear hK K
  have HS9 := Asi.mk (HS7.out.join h.head)
  clear h HS7
  obtain ⟨A9, c9, e9, _, _⟩ := HS9.out.row_rd
  subst e9
  go_wp2_with (refine at_dst (N := 27) rfl ?_; refine stop ?_)
  refine ⟨?_⟩
  refine at_op rfl fun K hK => ?_
  refine op_append 1 1 v7 (8 + l.length) (ints .u8 (four l.length) ++ ints .u8 (four (crc (four l.length))) ++ ints .u8 l) 5 HS9.out.swap (.tmp 23) (.tmp 26) 22 _ rfl Try.underlying22 info5 rfl (by omega) rfl A9 4 c9 (ints .u8 (four (crc l))) rfl HS9.out.rd (ints_one _ _) (by omega) (by omega) ?_
  intro v10 w10 h
  refine hK _ _ ?_
  clear hK K
  have HS10 := Asi.mk h
  clear h HS9
  go_wp2
  go_ret2
  refine ⟨_, rfl, ?_⟩
  rw [frame_len, show l.length + 12 = 8 + l.length + 4 by omega]
  simp only [frame, ints_append]
  exact HS10.out.drop2
end Go.Proofs.Ytahecnlglcfddaa
