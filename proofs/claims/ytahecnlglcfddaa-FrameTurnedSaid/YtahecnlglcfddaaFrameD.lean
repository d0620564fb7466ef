/- FrameWrites. -/
import Derived.Test.YtahecnlglcfddaaFrameC
import Derived.Test.YtahecnlglcfddaaZeros
import Derived.Deep.DeepCutAuto
set_option linter.unusedVariables false
set_option linter.unusedSimpArgs false
namespace Go.Proofs.Ytahecnlglcfddaa
open Go.RowKit Go.Sep

theorem wf_i64 {n : Int} (h : (Lit.int .i64 n).wf = true) : -9223372036854775808 ≤ n ∧ n < 9223372036854775808 := by
  simp [Lit.wf, IntKind.wrap, IntKind.bits, IntKind.signed, IntKind.min, IntKind.max] at h
  omega
theorem zeros_ints (k : Nat) : List.replicate k (Value.int .u8 0) = ints .u8 (List.replicate k 0) := by simp [ints]
theorem zeros_byts (k : Nat) : Byts (List.replicate k 0) := fun x hx => by rw [List.eq_of_mem_replicate hx]; omega
theorem sts_zadd {w0 w : World} {e size n : Nat} {v : Value} {xs : List Value} {R : HP} (h : Sts w0 w (star (row e size v (0 + n) ([] ++ xs)) R)) : Sts w0 w (star (row e size v n xs) R) := by rw [Nat.zero_add] at h; exact h

def framed (l : List Int) : List Int := if 65536 < l.length then [] else frame l
def frerr (l : List Int) : Int := if 65536 < l.length then 3 else 0
theorem framed_byts (l : List Int) (h : Byts l) : Byts (framed l) := by unfold framed; split; exact Byts.nil; exact frame_byts l h (by omega)
theorem framed_len (l : List Int) : (framed l).length ≤ 65548 := by unfold framed; split; simp; rw [frame_len]; omega
theorem frame_calls (A : Option Addr) (n c : Nat) (l : List Int) (w : World) (HR : Rd w 1 A n (ints .u8 l)) (hb : Byts l) (hl : n ≤ 100000000) :
    Calls Try.prog 22 #[.slice A n c] w fun e w' => ∃ v, e = .returned (.tuple #[v, .int .i64 (frerr l)]) ∧ Sts w w' (star (row 5 1 v (framed l).length (ints .u8 (framed l))) emp) := by
  obtain rfl := rd_len HR
  by_cases h : 65536 < l.length
  · refine (frame_long A c l w h hl).mono ?_
    rintro e w' ⟨rfl, rfl⟩
    rw [framed, frerr, if_pos h, if_pos h]
    exact ⟨_, rfl, (Sts.start _).row_nil _ _⟩
  · refine (frame_ok A c l w HR hb (by omega)).mono ?_
    rintro e w' ⟨v, rfl, hs⟩
    rw [framed, frerr, if_neg h, if_neg h]
    exact ⟨_, rfl, hs⟩
theorem rframe_calls (A : Option Addr) (n c : Nat) (l : List Int) (w : World) (HR : Rd w 1 A n (ints .u8 l)) (hb : Byts l) (hl : n ≤ 100000000) :
    Calls Try.prog 23 #[.slice A n c] w fun e w' => ∃ v, e = .returned (.tuple #[v, .int .i64 (frerr l)]) ∧ Sts w w' (star (row 5 1 v (framed l).length (ints .u8 (framed l))) emp) := by
  obtain rfl := rd_len HR
  by_cases h : 65536 < l.length
  · refine (rframe_long A c l w h hl).mono ?_
    rintro e w' ⟨rfl, rfl⟩
    rw [framed, frerr, if_pos h, if_pos h]
    exact ⟨_, rfl, (Sts.start _).row_nil _ _⟩
  · refine (rframe_ok A c l w HR hb (by omega)).mono ?_
    rintro e w' ⟨v, rfl, hs⟩
    rw [framed, frerr, if_neg h, if_neg h]
    exact ⟨_, rfl, hs⟩
theorem byte_xor (c : Nat) (h : c < 256) : c ^^^ 85 < 256 := xlt8 h (by omega)


set_option maxHeartbeats 4000000 in
theorem FrameWrites_walk (a0 : Option Addr) (len0 cap0 : Nat) (z0 : List Int) (m0 : Int) (w : World) (h0 : IsRow .u8 w a0 len0 cap0 z0) (y0 : len0 * 1 ≤ 140737488351232) (hm0 : (Lit.int .i64 m0).wf = true) :
    Calls Try.prog 5 #[.slice a0 len0 cap0, .int .i64 m0] w fun e w' => e = .returned (.bool true) ∧ Below w.heap.size w w' := by
  obtain ⟨hr, hlc, hlen, hw⟩ := h0.rd
  obtain ⟨hm1, hm2⟩ := wf_i64 hm0
  have HR := Asi.mk hr
  have HB := Asi.mk (byts_of_wf hw)
  generalize z0.take len0 = l at HR HB
  clear hr hlen hw h0 hm0
  by_cases hl : 100000 < len0
  · go_enter Try.func5, Try.ntmps5
    go_wp2_with (refine at_dst (N := 15) rfl ?_; refine stop ?_)
    refine ⟨?_⟩
    refine at_op rfl fun K hK => ?_
    refine op_call (lives_calls w) Try.func19 (by kernel_rfl) rfl rfl ?hargs ?_
    case hargs => (try simp only [List.map_toArray, List.map_cons, List.map_nil]); first | done | rfl
    rintro e w1 ⟨rfl, h⟩
    refine ⟨_, rfl, ?_⟩
    refine hK _ _ ?_
    clear hK K
    have HS := Asi.mk h.below
    clear h
    go_wp2
    go_ret
    exact ⟨rfl, HS.out⟩
  · have hlen := rd_len HR.out
    have HS := Asi.mk (Sts.start w)
    have HRX := Asi.mk (fun (w' : World) (h : Below w.heap.size w w') => HR.out.below h)
    have HBX := HB
    by_cases hp : 0 < m0
    · by_cases hq : m0 ≤ 70000
      · clear HRX HBX
        go_enter Try.func5, Try.ntmps5
        go_wp2_with (refine at_dst (N := 22) rfl ?_; refine stop ?_)
        refine ⟨?_⟩
        refine at_op rfl fun K hK => ?_
        refine op_lit HS.out 5 1 0 [] (by first | (go_simp; done) | (go_simp; rfl) | (go_simp; simp [ints]; done)) (by first | rfl | simp [ints]) (by omega) ?_
        intro v1 w1 h
        refine hK _ _ ?_
        clear hK K
        have HS1 := Asi.mk h
        clear h HS
        go_wp2_with (refine at_dst (N := 24) rfl ?_; refine stop ?_)
        refine ⟨?_⟩
        refine at_op rfl fun K hK => ?_
        refine op_append 1 1 v1 0 [] 5 HS1.out (.tmp 22) (.tmp 23) 22 _ rfl Try.underlying22 info5 rfl (by omega) rfl a0 len0 cap0 (ints .u8 l) rfl (HR.out.below HS1.out.below) (ints_one _ _) (by omega) (by omega) ?_
        intro v2 w2 h
        refine hK _ _ ?_
        clear hK K
        have HS2 := Asi.mk (sts_zadd h)
        clear h HS1
        obtain ⟨m, rfl⟩ := Int.eq_ofNat_of_zero_le (show 0 ≤ m0 by omega)
        go_wp2_with (refine at_dst (N := 26) rfl ?_; refine stop ?_)
        refine ⟨?_⟩
        refine at_op rfl fun K hK => ?_
        refine op_append_zeros 1 v2 len0 (ints .u8 l) 5 HS2.out (.tmp 24) (.tmp 25) 22 3 _ rfl Try.underlying22 Try.underlying3 info5 rfl rfl (by omega) rfl _ m rfl (by omega) ?_
        intro vx wx h
        refine hK _ _ ?_
        clear hK K
        have HSX := Asi.mk h
        clear h HS2
        obtain ⟨AX, cX, eX, _, hX⟩ := HSX.out.row_rd
        subst eX
        have HRX := Asi.mk (fun (w' : World) (h : Below wx.heap.size wx w') => (show Rd wx 1 AX (len0 + m) (ints .u8 (l ++ List.replicate m 0)) from by rw [ints_append, ← zeros_ints]; exact hX).below h)
        have HBX := Asi.mk (HB.out.append (zeros_byts m))
        clear hX
        have HS := Asi.mk (Sts.start wx)
        go_wp2_with (refine at_dst (N := 27) rfl ?_; refine stop ?_)
        refine ⟨?_⟩
        refine at_op rfl fun K hK => ?_
        refine op_lit HS.out 5 1 0 [] (by first | (go_simp; done) | (go_simp; rfl) | (go_simp; simp [ints]; done)) (by first | rfl | simp [ints]) (by omega) ?_
        intro v3 w3 h
        refine hK _ _ ?_
        clear hK K
        have HS3 := Asi.mk h
        clear h HS
        go_wp2_with (refine at_dst (N := 29) rfl ?_; refine stop ?_)
        refine ⟨?_⟩
        refine at_op rfl fun K hK => ?_
        refine op_append 1 1 v3 0 [] 5 HS3.out (.tmp 27) (.tmp 28) 22 _ rfl Try.underlying22 info5 rfl (by omega) rfl AX (len0 + m) cX (ints .u8 (l ++ List.replicate m 0)) rfl (HRX.out _ HS3.out.below) (ints_one _ _) (by omega) (by omega) ?_
        intro v4 w4 h
        refine hK _ _ ?_
        clear hK K
        have HS4 := Asi.mk (sts_zadd h)
        clear h HS3
        obtain ⟨A4, c4, e4, _, _⟩ := HS4.out.row_rd
        subst e4
        go_wp2_with (refine at_dst (N := 32) rfl ?_; refine stop ?_)
        refine ⟨?_⟩
        refine at_op rfl fun K hK => ?_
        refine op_call (frame_calls A4 (len0 + m) c4 (l ++ List.replicate m 0) w4 HS4.out.rd HBX.out (by omega)) Try.func22 (by kernel_rfl) rfl rfl ?hargs ?_
        case hargs => (try simp only [List.map_toArray, List.map_cons, List.map_nil]); first | done | rfl
        rintro e w5 ⟨x, rfl, h⟩
        refine ⟨_, rfl, ?_⟩
        refine hK _ _ ?_
        clear hK K
        have HS5 := Asi.mk (HS4.out.join1 h)
        clear h HS4
        go_wp2_with (refine at_dst (N := 37) rfl ?_; refine stop ?_)
        refine ⟨?_⟩
        refine at_op rfl fun K hK => ?_
        refine op_call (rframe_calls AX (len0 + m) cX (l ++ List.replicate m 0) w5 (HRX.out _ HS5.out.below) HBX.out (by omega)) Try.func23 (by kernel_rfl) rfl rfl ?hargs ?_
        case hargs => (try simp only [List.map_toArray, List.map_cons, List.map_nil]); first | done | rfl
        rintro e w6 ⟨y, rfl, h⟩
        refine ⟨_, rfl, ?_⟩
        refine hK _ _ ?_
        clear hK K
        have HS6 := Asi.mk (HS5.out.join1 h)
        clear h HS5
        obtain ⟨A6, c6, e6, _, _⟩ := HS6.out.row_rd
        subst e6
        obtain ⟨A7, c7, e7, _, _⟩ := HS6.out.swap.row_rd
        subst e7
        go_wp2_with (refine at_dst (N := 41) rfl ?_; refine stop ?_)
        refine ⟨?_⟩
        refine at_op rfl fun K hK => ?_
        refine op_str (l := (framed (l ++ List.replicate m 0))) rfl Try.underlying22 Try.underlying5 Try.underlying9 rfl HS6.out.swap.rd ?_
        refine hK _ _ ?_
        clear hK K
        go_wp2_with (refine at_dst (N := 43) rfl ?_; refine stop ?_)
        refine ⟨?_⟩
        refine at_op rfl fun K hK => ?_
        refine op_str (l := (framed (l ++ List.replicate m 0))) rfl Try.underlying22 Try.underlying5 Try.underlying9 rfl HS6.out.rd ?_
        refine hK _ _ ?_
        clear hK K
        go_wp2
        have hfl := framed_len (l ++ List.replicate m 0)
        have HFB := framed_byts (l ++ List.replicate m 0) HBX.out
        go_loopg [52] (framed (l ++ List.replicate m 0)).length (fun g i wr => ∃ (k : Nat) (l' : List Int), k ≤ (framed (l ++ List.replicate m 0)).length ∧ g = (framed (l ++ List.replicate m 0)).length - k ∧ i = .int .i64 k ∧ l'.length = (framed (l ++ List.replicate m 0)).length ∧ Asi (Byts l') ∧ Asi (Sts wx wr (star (row 5 1 (.slice A7 (framed (l ++ List.replicate m 0)).length c7) (framed (l ++ List.replicate m 0)).length (ints .u8 l')) (star (row 5 1 (.slice A4 (len0 + m) c4) (len0 + m) (ints .u8 (l ++ List.replicate m 0))) emp))))
        case atStart => exact ⟨0, framed (l ++ List.replicate m 0), Nat.zero_le _, rfl, rfl, rfl, Asi.mk HFB, Asi.mk ((HS6.out.tail).mono (Ent.under _ (Ent.under _ (Ent.emp _))))⟩
        case round =>
          clear HS6 HFB
          obtain ⟨k, l', hk, rfl, rfl, hl', HFB, HS⟩ := hrel
          by_cases hlt : k < (framed (l ++ List.replicate m 0)).length
          · obtain ⟨g, cap, e, hg⟩ := HS.out.row_pos (by omega)
            injection e with eA _ ec
            subst eA
            subst ec
            obtain ⟨ad, e, hcell⟩ := rd_at HS.out.rd (i := k) (by omega)
            injection e with e
            subst e
            obtain ⟨z, hz, hz2⟩ := HFB.out.get k (by omega)
            rw [hz, add_head] at hcell
            have hfr := row_frozen HS.out.row_own k
            have hx8 : Go.bits .xor .u8 (z : Int) 85 = ((z ^^^ 85 : Nat) : Int) := xor8 z 85 hz2 (by omega)
            have hlt' : z ^^^ 85 < 256 := byte_xor z hz2
            go_wp2
            go_roundg ((framed (l ++ List.replicate m 0)).length - (k + 1))
            case measure => omega
            case rel => exact ⟨k + 1, l'.set k ((z ^^^ 85 : Nat) : Int), by omega, rfl, by simp, by simp [hl'], Asi.mk (by intro x hx; rcases List.mem_or_eq_of_mem_set hx with h | h; exact HFB.out x h; omega), Asi.mk (by rw [ints_set]; exact HS.out.row_set k hlt _)⟩
          · go_wp2_with (refine at_dst (N := 65) rfl ?_; refine stop ?_)
            refine ⟨?_⟩
            refine at_opG rfl fun K hK => ?_
            refine op_str (l := (l ++ List.replicate m 0)) rfl Try.underlying22 Try.underlying5 Try.underlying9 rfl HS.out.swap.rd ?_
            refine hK _ _ ?_
            clear hK K
            go_wp2_with (refine at_dst (N := 67) rfl ?_; refine stop ?_)
            refine ⟨?_⟩
            refine at_opG rfl fun K hK => ?_
            refine op_str (l := (l ++ List.replicate m 0)) rfl Try.underlying22 Try.underlying5 Try.underlying9 rfl (HRX.out _ HS.out.below) ?_
            refine hK _ _ ?_
            clear hK K
            go_wp2_with (refine at_dst (N := 71) rfl ?_; refine stop ?_)
            refine ⟨?_⟩
            refine at_opG rfl fun K hK => ?_
            refine op_call (lives_calls wr) Try.func19 (by kernel_rfl) rfl rfl ?hargs ?_
            case hargs => (try simp only [List.map_toArray, List.map_cons, List.map_nil]); first | done | rfl
            rintro e w8 ⟨rfl, h⟩
            refine ⟨_, rfl, ?_⟩
            refine hK _ _ ?_
            clear hK K
            have HS8 := Asi.mk (HS.out.step h.below)
            clear h
            go_wp2
            go_ret
            exact ⟨rfl, (HSX.out.step HS8.out.below).below⟩
      · go_enter Try.func5, Try.ntmps5
        go_wp2_with (refine at_dst (N := 27) rfl ?_; refine stop ?_)
        refine ⟨?_⟩
        refine at_op rfl fun K hK => ?_
        refine op_lit HS.out 5 1 0 [] (by first | (go_simp; done) | (go_simp; rfl) | (go_simp; simp [ints]; done)) (by first | rfl | simp [ints]) (by omega) ?_
        intro v3 w3 h
        refine hK _ _ ?_
        clear hK K
        have HS3 := Asi.mk h
        clear h HS
        go_wp2_with (refine at_dst (N := 29) rfl ?_; refine stop ?_)
        refine ⟨?_⟩
        refine at_op rfl fun K hK => ?_
        refine op_append 1 1 v3 0 [] 5 HS3.out (.tmp 27) (.tmp 28) 22 _ rfl Try.underlying22 info5 rfl (by omega) rfl a0 len0 cap0 (ints .u8 l) rfl (HRX.out _ HS3.out.below) (ints_one _ _) (by omega) (by omega) ?_
        intro v4 w4 h
        refine hK _ _ ?_
        clear hK K
        have HS4 := Asi.mk (sts_zadd h)
        clear h HS3
        obtain ⟨A4, c4, e4, _, _⟩ := HS4.out.row_rd
        subst e4
        go_wp2_with (refine at_dst (N := 32) rfl ?_; refine stop ?_)
        refine ⟨?_⟩
        refine at_op rfl fun K hK => ?_
        refine op_call (frame_calls A4 len0 c4 l w4 HS4.out.rd HBX.out (by omega)) Try.func22 (by kernel_rfl) rfl rfl ?hargs ?_
        case hargs => (try simp only [List.map_toArray, List.map_cons, List.map_nil]); first | done | rfl
        rintro e w5 ⟨x, rfl, h⟩
        refine ⟨_, rfl, ?_⟩
        refine hK _ _ ?_
        clear hK K
        have HS5 := Asi.mk (HS4.out.join1 h)
        clear h HS4
        go_wp2_with (refine at_dst (N := 37) rfl ?_; refine stop ?_)
        refine ⟨?_⟩
        refine at_op rfl fun K hK => ?_
        refine op_call (rframe_calls a0 len0 cap0 l w5 (HRX.out _ HS5.out.below) HBX.out (by omega)) Try.func23 (by kernel_rfl) rfl rfl ?hargs ?_
        case hargs => (try simp only [List.map_toArray, List.map_cons, List.map_nil]); first | done | rfl
        rintro e w6 ⟨y, rfl, h⟩
        refine ⟨_, rfl, ?_⟩
        refine hK _ _ ?_
        clear hK K
        have HS6 := Asi.mk (HS5.out.join1 h)
        clear h HS5
        obtain ⟨A6, c6, e6, _, _⟩ := HS6.out.row_rd
        subst e6
        obtain ⟨A7, c7, e7, _, _⟩ := HS6.out.swap.row_rd
        subst e7
        go_wp2_with (refine at_dst (N := 41) rfl ?_; refine stop ?_)
        refine ⟨?_⟩
        refine at_op rfl fun K hK => ?_
        refine op_str (l := (framed l)) rfl Try.underlying22 Try.underlying5 Try.underlying9 rfl HS6.out.swap.rd ?_
        refine hK _ _ ?_
        clear hK K
        go_wp2_with (refine at_dst (N := 43) rfl ?_; refine stop ?_)
        refine ⟨?_⟩
        refine at_op rfl fun K hK => ?_
        refine op_str (l := (framed l)) rfl Try.underlying22 Try.underlying5 Try.underlying9 rfl HS6.out.rd ?_
        refine hK _ _ ?_
        clear hK K
        go_wp2
        have hfl := framed_len l
        have HFB := framed_byts l HBX.out
        go_loopg [52] (framed l).length (fun g i wr => ∃ (k : Nat) (l' : List Int), k ≤ (framed l).length ∧ g = (framed l).length - k ∧ i = .int .i64 k ∧ l'.length = (framed l).length ∧ Asi (Byts l') ∧ Asi (Sts w wr (star (row 5 1 (.slice A7 (framed l).length c7) (framed l).length (ints .u8 l')) (star (row 5 1 (.slice A4 len0 c4) len0 (ints .u8 l)) emp))))
        case atStart => exact ⟨0, framed l, Nat.zero_le _, rfl, rfl, rfl, Asi.mk HFB, Asi.mk ((HS6.out.tail).mono (Ent.under _ (Ent.under _ (Ent.emp _))))⟩
        case round =>
          clear HS6 HFB
          obtain ⟨k, l', hk, rfl, rfl, hl', HFB, HS⟩ := hrel
          by_cases hlt : k < (framed l).length
          · obtain ⟨g, cap, e, hg⟩ := HS.out.row_pos (by omega)
            injection e with eA _ ec
            subst eA
            subst ec
            obtain ⟨ad, e, hcell⟩ := rd_at HS.out.rd (i := k) (by omega)
            injection e with e
            subst e
            obtain ⟨z, hz, hz2⟩ := HFB.out.get k (by omega)
            rw [hz, add_head] at hcell
            have hfr := row_frozen HS.out.row_own k
            have hx8 : Go.bits .xor .u8 (z : Int) 85 = ((z ^^^ 85 : Nat) : Int) := xor8 z 85 hz2 (by omega)
            have hlt' : z ^^^ 85 < 256 := byte_xor z hz2
            go_wp2
            go_roundg ((framed l).length - (k + 1))
            case measure => omega
            case rel => exact ⟨k + 1, l'.set k ((z ^^^ 85 : Nat) : Int), by omega, rfl, by simp, by simp [hl'], Asi.mk (by intro x hx; rcases List.mem_or_eq_of_mem_set hx with h | h; exact HFB.out x h; omega), Asi.mk (by rw [ints_set]; exact HS.out.row_set k hlt _)⟩
          · go_wp2_with (refine at_dst (N := 65) rfl ?_; refine stop ?_)
            refine ⟨?_⟩
            refine at_opG rfl fun K hK => ?_
            refine op_str (l := l) rfl Try.underlying22 Try.underlying5 Try.underlying9 rfl HS.out.swap.rd ?_
            refine hK _ _ ?_
            clear hK K
            go_wp2_with (refine at_dst (N := 67) rfl ?_; refine stop ?_)
            refine ⟨?_⟩
            refine at_opG rfl fun K hK => ?_
            refine op_str (l := l) rfl Try.underlying22 Try.underlying5 Try.underlying9 rfl (HRX.out _ HS.out.below) ?_
            refine hK _ _ ?_
            clear hK K
            go_wp2_with (refine at_dst (N := 71) rfl ?_; refine stop ?_)
            refine ⟨?_⟩
            refine at_opG rfl fun K hK => ?_
            refine op_call (lives_calls wr) Try.func19 (by kernel_rfl) rfl rfl ?hargs ?_
            case hargs => (try simp only [List.map_toArray, List.map_cons, List.map_nil]); first | done | rfl
            rintro e w8 ⟨rfl, h⟩
            refine ⟨_, rfl, ?_⟩
            refine hK _ _ ?_
            clear hK K
            have HS8 := Asi.mk (HS.out.step h.below)
            clear h
            go_wp2
            go_ret
            exact ⟨rfl, HS8.out.below⟩
    · go_enter Try.func5, Try.ntmps5
      go_wp2_with (refine at_dst (N := 27) rfl ?_; refine stop ?_)
      refine ⟨?_⟩
      refine at_op rfl fun K hK => ?_
      refine op_lit HS.out 5 1 0 [] (by first | (go_simp; done) | (go_simp; rfl) | (go_simp; simp [ints]; done)) (by first | rfl | simp [ints]) (by omega) ?_
      intro v3 w3 h
      refine hK _ _ ?_
      clear hK K
      have HS3 := Asi.mk h
      clear h HS
      go_wp2_with (refine at_dst (N := 29) rfl ?_; refine stop ?_)
      refine ⟨?_⟩
      refine at_op rfl fun K hK => ?_
      refine op_append 1 1 v3 0 [] 5 HS3.out (.tmp 27) (.tmp 28) 22 _ rfl Try.underlying22 info5 rfl (by omega) rfl a0 len0 cap0 (ints .u8 l) rfl (HRX.out _ HS3.out.below) (ints_one _ _) (by omega) (by omega) ?_
      intro v4 w4 h
      refine hK _ _ ?_
      clear hK K
      have HS4 := Asi.mk (sts_zadd h)
      clear h HS3
      obtain ⟨A4, c4, e4, _, _⟩ := HS4.out.row_rd
      subst e4
      go_wp2_with (refine at_dst (N := 32) rfl ?_; refine stop ?_)
      refine ⟨?_⟩
      refine at_op rfl fun K hK => ?_
      refine op_call (frame_calls A4 len0 c4 l w4 HS4.out.rd HBX.out (by omega)) Try.func22 (by kernel_rfl) rfl rfl ?hargs ?_
      case hargs => (try simp only [List.map_toArray, List.map_cons, List.map_nil]); first | done | rfl
      rintro e w5 ⟨x, rfl, h⟩
      refine ⟨_, rfl, ?_⟩
      refine hK _ _ ?_
      clear hK K
      have HS5 := Asi.mk (HS4.out.join1 h)
      clear h HS4
      go_wp2_with (refine at_dst (N := 37) rfl ?_; refine stop ?_)
      refine ⟨?_⟩
      refine at_op rfl fun K hK => ?_
      refine op_call (rframe_calls a0 len0 cap0 l w5 (HRX.out _ HS5.out.below) HBX.out (by omega)) Try.func23 (by kernel_rfl) rfl rfl ?hargs ?_
      case hargs => (try simp only [List.map_toArray, List.map_cons, List.map_nil]); first | done | rfl
      rintro e w6 ⟨y, rfl, h⟩
      refine ⟨_, rfl, ?_⟩
      refine hK _ _ ?_
      clear hK K
      have HS6 := Asi.mk (HS5.out.join1 h)
      clear h HS5
      obtain ⟨A6, c6, e6, _, _⟩ := HS6.out.row_rd
      subst e6
      obtain ⟨A7, c7, e7, _, _⟩ := HS6.out.swap.row_rd
      subst e7
      go_wp2_with (refine at_dst (N := 41) rfl ?_; refine stop ?_)
      refine ⟨?_⟩
      refine at_op rfl fun K hK => ?_
      refine op_str (l := (framed l)) rfl Try.underlying22 Try.underlying5 Try.underlying9 rfl HS6.out.swap.rd ?_
      refine hK _ _ ?_
      clear hK K
      go_wp2_with (refine at_dst (N := 43) rfl ?_; refine stop ?_)
      refine ⟨?_⟩
      refine at_op rfl fun K hK => ?_
      refine op_str (l := (framed l)) rfl Try.underlying22 Try.underlying5 Try.underlying9 rfl HS6.out.rd ?_
      refine hK _ _ ?_
      clear hK K
      go_wp2
      have hfl := framed_len l
      have HFB := framed_byts l HBX.out
      go_loopg [52] (framed l).length (fun g i wr => ∃ (k : Nat) (l' : List Int), k ≤ (framed l).length ∧ g = (framed l).length - k ∧ i = .int .i64 k ∧ l'.length = (framed l).length ∧ Asi (Byts l') ∧ Asi (Sts w wr (star (row 5 1 (.slice A7 (framed l).length c7) (framed l).length (ints .u8 l')) (star (row 5 1 (.slice A4 len0 c4) len0 (ints .u8 l)) emp))))
      case atStart => exact ⟨0, framed l, Nat.zero_le _, rfl, rfl, rfl, Asi.mk HFB, Asi.mk ((HS6.out.tail).mono (Ent.under _ (Ent.under _ (Ent.emp _))))⟩
      case round =>
        clear HS6 HFB
        obtain ⟨k, l', hk, rfl, rfl, hl', HFB, HS⟩ := hrel
        by_cases hlt : k < (framed l).length
        · obtain ⟨g, cap, e, hg⟩ := HS.out.row_pos (by omega)
          injection e with eA _ ec
          subst eA
          subst ec
          obtain ⟨ad, e, hcell⟩ := rd_at HS.out.rd (i := k) (by omega)
          injection e with e
          subst e
          obtain ⟨z, hz, hz2⟩ := HFB.out.get k (by omega)
          rw [hz, add_head] at hcell
          have hfr := row_frozen HS.out.row_own k
          have hx8 : Go.bits .xor .u8 (z : Int) 85 = ((z ^^^ 85 : Nat) : Int) := xor8 z 85 hz2 (by omega)
          have hlt' : z ^^^ 85 < 256 := byte_xor z hz2
          go_wp2
          go_roundg ((framed l).length - (k + 1))
          case measure => omega
          case rel => exact ⟨k + 1, l'.set k ((z ^^^ 85 : Nat) : Int), by omega, rfl, by simp, by simp [hl'], Asi.mk (by intro x hx; rcases List.mem_or_eq_of_mem_set hx with h | h; exact HFB.out x h; omega), Asi.mk (by rw [ints_set]; exact HS.out.row_set k hlt _)⟩
        · go_wp2_with (refine at_dst (N := 65) rfl ?_; refine stop ?_)
          refine ⟨?_⟩
          refine at_opG rfl fun K hK => ?_
          refine op_str (l := l) rfl Try.underlying22 Try.underlying5 Try.underlying9 rfl HS.out.swap.rd ?_
          refine hK _ _ ?_
          clear hK K
          go_wp2_with (refine at_dst (N := 67) rfl ?_; refine stop ?_)
          refine ⟨?_⟩
          refine at_opG rfl fun K hK => ?_
          refine op_str (l := l) rfl Try.underlying22 Try.underlying5 Try.underlying9 rfl (HRX.out _ HS.out.below) ?_
          refine hK _ _ ?_
          clear hK K
          go_wp2_with (refine at_dst (N := 71) rfl ?_; refine stop ?_)
          refine ⟨?_⟩
          refine at_opG rfl fun K hK => ?_
          refine op_call (lives_calls wr) Try.func19 (by kernel_rfl) rfl rfl ?hargs ?_
          case hargs => (try simp only [List.map_toArray, List.map_cons, List.map_nil]); first | done | rfl
          rintro e w8 ⟨rfl, h⟩
          refine ⟨_, rfl, ?_⟩
          refine hK _ _ ?_
          clear hK K
          have HS8 := Asi.mk (HS.out.step h.below)
          clear h
          go_wp2
          go_ret
          exact ⟨rfl, HS8.out.below⟩
end Go.Proofs.Ytahecnlglcfddaa
