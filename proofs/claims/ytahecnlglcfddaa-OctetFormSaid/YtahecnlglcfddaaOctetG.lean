/- OctetForm: the walk. -/
import Derived.Test.YtahecnlglcfddaaOctetF
import Derived.Deep.RegionHeld3
set_option linter.unusedVariables false
set_option linter.unusedSimpArgs false
namespace Go.Proofs.Ytahecnlglcfddaa
open Go.RowKit Go.Sep

set_option maxHeartbeats 4000000 in
theorem OctetForm_walk (a0 : Option Addr) (len0 cap0 : Nat) (z0 : List Int) (w : World) (h0 : IsRow .u8 w a0 len0 cap0 z0) (y0 : len0 * 1 ≤ 140737488351232) :
    Calls Try.prog 7 #[.slice a0 len0 cap0] w fun e w' => e = .returned (.bool true) ∧ Below w.heap.size w w' := by
  obtain ⟨hr, hlc, hlen, hw⟩ := h0.rd
  have HR := Asi.mk hr
  have HB := Asi.mk (byts_of_wf hw)
  generalize z0.take len0 = l at HR HB
  clear hr hlen hw h0
  by_cases hl : 100000 < len0
  · go_enter Try.func7, Try.ntmps7
    go_wp2_with (refine at_dst (N := 10) rfl ?_; refine stop ?_)
    refine ⟨?_⟩
    refine at_op rfl fun K hK => ?_
    refine op_call (lives1_calls w) Try.func13 (by kernel_rfl) rfl rfl ?hargs ?_
    case hargs => (try simp only [List.map_toArray, List.map_cons, List.map_nil]); first | done | rfl
    rintro e w1 ⟨rfl, h⟩
    refine ⟨_, rfl, ?_⟩
    refine hK _ _ ?_
    clear hK K
    have HS := Asi.mk h.below
    clear h
    go_wp2
    go_ret
    exact ⟨rfl, HS.out⟩
  · have hlen := rd_len HR.out
    have hbad := dec_bad 10 l 0 0
    have hgood := putN_uintN l HB.out
    have hfit := uintN_fits l
    have hq := uintN_used l
    have HU := Asi.mk (fun (g : Nat) (A : Option Addr) (c : Nat) (w0 w : World) (HS : Sts w0 w (own g A len0 c 0 l emp)) => uint_calls g A len0 c 0 l w0 w emp HS HB.out (by omega) (by omega))
    rw [List.drop_zero] at HU
    rw [show dec 10 l 0 0 = uintN l from rfl] at hbad
    generalize uintN l = u at hbad hgood hfit hq HU
    obtain ⟨v, q, er⟩ := u
    have hq : q ≤ l.length := hq
    have hfit : v < 18446744073709551616 := hfit
    go_enter Try.func7, Try.ntmps7
    go_wp2_with (refine at_dst (N := 12) rfl ?_; refine stop ?_)
    refine ⟨?_⟩
    refine at_op rfl fun K hK => ?_
    refine op_call (over_calls a0 len0 cap0 l w HR.out (by omega)) Try.func25 (by kernel_rfl) rfl rfl ?hargs ?_
    case hargs => (try simp only [List.map_toArray, List.map_cons, List.map_nil]); first | done | rfl
    rintro e w1 ⟨g, A, c, rfl, h⟩
    refine ⟨_, rfl, ?_⟩
    refine hK _ _ ?_
    clear hK K
    have HS1 := Asi.mk h
    clear h
    go_wp2_with (refine at_dst (N := 15) rfl ?_; refine stop ?_)
    refine ⟨?_⟩
    refine at_op rfl fun K hK => ?_
    refine op_call (HU.out g A c w w1 HS1.out) Try.func26 (by kernel_rfl) rfl rfl ?hargs ?_
    case hargs => (try simp only [List.map_toArray, List.map_cons, List.map_nil]); first | done | rfl
    rintro e w2 ⟨rfl, h⟩
    refine ⟨_, rfl, ?_⟩
    refine hK _ _ ?_
    clear hK K
    have HS2 := Asi.mk h
    clear h HS1 HU
    simp only [Nat.zero_add] at HS2
    have HL := Asi.mk (left_calls g A len0 c q l w2 (own_reads HS2.out (by omega)) (by omega))
    by_cases her : er = 0
    · subst her
      obtain ⟨hp, hq1, hq2⟩ := hgood rfl
      have hp : putN v = l.take q := hp
      have hq1 : 1 ≤ q := hq1
      have hq2 : q ≤ 10 := hq2
      have HP := Asi.mk hp
      clear hp hbad hgood
      have hsub : ((len0 - q : Nat) : Int) = len0 - q := by omega
      have hwr := i64_small (x := (len0 : Int) - (len0 - q)) (by omega) (by omega)
      have hk : (len0 : Int) - (len0 - q) = q := by omega
      have hk1 : (1 : Int) ≤ q := by omega
      have hk2 : (q : Int) ≤ 10 := by omega
      have hk3 : (q : Int) ≤ cap0 := by omega
      have hk4 : (0 : Int) ≤ q := by omega
      go_wp2_with (refine at_dst (N := 35) rfl ?_; refine stop ?_)
      refine ⟨?_⟩
      refine at_op rfl fun K hK => ?_
      refine op_call HL.out Try.func27 (by kernel_rfl) rfl rfl ?hargs ?_
      case hargs => (try simp only [List.map_toArray, List.map_cons, List.map_nil]); first | done | rfl
      rintro e w3 ⟨rfl, m, rfl⟩
      refine ⟨_, rfl, ?_⟩
      refine hK _ _ ?_
      clear hK K
      have HS3 := Asi.mk (HS2.out.drewN m)
      clear HS2 HL
      go_wp2
      have HF := Asi.mk (fun w' (h : Below (w2.drewN m).heap.size (w2.drewN m) w') => conv_str (P := Try.prog) (l := l.take q) cap0 Try.underlying22 Try.underlying5 Try.underlying9 (show Rd w' 1 a0 q (ints .u8 (l.take q)) from by rw [ints_take]; exact ((HR.out.below HS3.out.below).below h).take (by omega)))
      have HL := Asi.mk (Sts.start (w2.drewN m)).drew
      refine wp_region_held_drew (S := fun w' => Below (w2.drewN m).heap.size (w2.drewN m) w') (by kernel_rfl) HL.out.below (fun hHeld => ?_)
      refine wpAnyH_take (i := 0) (oi := _) (v := ?_) rfl (by kernel_rfl) (by kernel_rfl) (by kernel_rfl) (fun _ _ _ h => h) (Or.inl ⟨by rfl, ?hy⟩) (by assumption) ?_
      case hy => intro w' hS; go_simp; first | done | with_reducible rfl
      refine put_at (some 37) rfl ?_
      simp only [Act.put, List.setIfInBounds_toArray, List.set_cons_succ, List.set_cons_zero]
      refine wpAnyH_take (i := 1) (oi := _) (v := ?_) rfl (by kernel_rfl) (by kernel_rfl) (by kernel_rfl) (fun _ _ _ h => h) (Or.inl ⟨by rfl, ?hy⟩) (by assumption) ?_
      case hy => intro w' hS; go_simp; first | done | with_reducible rfl
      refine put_at (some 38) rfl ?_
      simp only [Act.put, List.setIfInBounds_toArray, List.set_cons_succ, List.set_cons_zero]
      refine wpAnyH_take (i := 2) (oi := _) (v := ?_) rfl (by kernel_rfl) (by kernel_rfl) (by kernel_rfl) (fun _ _ _ h => h) (Or.inl ⟨by rfl, ?hy⟩) (by assumption) ?_
      case hy => intro w' hS; go_simp; first | done | with_reducible rfl
      refine put_at (some 39) rfl ?_
      simp only [Act.put, List.setIfInBounds_toArray, List.set_cons_succ, List.set_cons_zero]
      refine wpAnyH_take (i := 3) (oi := _) (v := ?_) rfl (by kernel_rfl) (by kernel_rfl) (by kernel_rfl) (fun _ _ _ h => h) (Or.inl ⟨by rfl, ?hy⟩) (by assumption) ?_
      case hy => intro w' hS; go_simp; first | done | with_reducible rfl
      refine put_at (some 40) rfl ?_
      simp only [Act.put, List.setIfInBounds_toArray, List.set_cons_succ, List.set_cons_zero]
      refine wpAnyH_take (i := 4) (oi := _) (v := ?_) rfl (by kernel_rfl) (by kernel_rfl) (by kernel_rfl) (fun _ _ _ h => h) (Or.inl ⟨by rfl, ?hy⟩) (by assumption) ?_
      case hy => intro w' hS; go_simp; first | done | with_reducible rfl
      refine put_at (some 41) rfl ?_
      simp only [Act.put, List.setIfInBounds_toArray, List.set_cons_succ, List.set_cons_zero]
      refine wpAnyH_take (i := 5) (oi := _) (v := ?_) rfl (by kernel_rfl) (by kernel_rfl) (by kernel_rfl) (fun _ _ _ h => h) (Or.inl ⟨by rfl, ?hy⟩) (by assumption) ?_
      case hy => intro w' hS; go_simp; first | done | with_reducible rfl
      refine put_at (some 42) rfl ?_
      simp only [Act.put, List.setIfInBounds_toArray, List.set_cons_succ, List.set_cons_zero]
      refine wpAnyH_take (i := 6) (oi := _) (v := ?_) rfl (by kernel_rfl) (by kernel_rfl) (by kernel_rfl) (fun _ _ _ h => h) (Or.inl ⟨by rfl, ?hy⟩) (by assumption) ?_
      case hy => intro w' hS; go_simp; first | done | with_reducible rfl
      refine put_at (some 43) rfl ?_
      simp only [Act.put, List.setIfInBounds_toArray, List.set_cons_succ, List.set_cons_zero]
      refine wpAnyH_take (i := 7) (oi := _) (v := ?_) rfl (by kernel_rfl) (by kernel_rfl) (by kernel_rfl) (fun _ _ _ h => h) (Or.inl ⟨by rfl, ?hy⟩) (by assumption) ?_
      case hy => intro w' hS; go_simp; first | done | with_reducible rfl
      refine put_at (some 44) rfl ?_
      simp only [Act.put, List.setIfInBounds_toArray, List.set_cons_succ, List.set_cons_zero]
      refine wpAnyH_take (i := 10) (oi := _) (v := ?_) rfl (by kernel_rfl) (by kernel_rfl) (by kernel_rfl) (fun _ _ _ h => h) (Or.inl ⟨by rfl, ?hy⟩) (by assumption) ?_
      case hy => intro w' hS; go_simp; first | done | with_reducible rfl
      refine put_at (some 47) rfl ?_
      simp only [Act.put, List.setIfInBounds_toArray, List.set_cons_succ, List.set_cons_zero]
      refine wpAnyH_take (i := 11) (oi := _) (v := ?_) rfl (by kernel_rfl) (by kernel_rfl) (by kernel_rfl) (fun _ _ _ h => h) (Or.inl ⟨by rfl, ?hy⟩) (by assumption) ?_
      case hy => intro w' hS; go_simp; first | done | with_reducible rfl
      refine put_at (some 48) rfl ?_
      simp only [Act.put, List.setIfInBounds_toArray, List.set_cons_succ, List.set_cons_zero]
      refine wpAnyH_take (i := 12) (oi := _) (v := ?_) rfl (by kernel_rfl) (by kernel_rfl) (by kernel_rfl) (fun _ _ _ h => h) (Or.inl ⟨by rfl, ?hy⟩) (by assumption) ?_
      case hy => intro w' hS; go_simp; first | done | with_reducible rfl
      refine put_at (some 49) rfl ?_
      simp only [Act.put, List.setIfInBounds_toArray, List.set_cons_succ, List.set_cons_zero]
      refine wpAnyH_take (i := 13) (oi := _) (v := ?_) rfl (by kernel_rfl) (by kernel_rfl) (by kernel_rfl) (fun _ _ _ h => h) (Or.inl ⟨by rfl, ?hy⟩) (by assumption) ?_
      case hy => intro w' hS; have hq := (HF.out _ hS); go_simp; first | done | with_reducible rfl
      refine put_at (some 50) rfl ?_
      simp only [Act.put, List.setIfInBounds_toArray, List.set_cons_succ, List.set_cons_zero]
      refine wpAnyH_ready (rs := [8]) (by kernel_rfl) (by simp) ?_
      refine AllReadyH.cons (o := _) rfl (fun K hK => ?_) ?_
      · refine st_op rfl ?_
        refine op_call (put_calls none 0 0 [] v _ (Rd.nil _ _ _) (fun u hu => by simp at hu) hfit (by omega)) Try.func14 (by kernel_rfl) rfl rfl (by first | rfl | (simp only [List.map_toArray, List.map_cons, List.map_nil]; first | done | rfl)) ?_
        rintro e w4 ⟨x, rfl, h⟩
        refine ⟨_, rfl, ?_⟩
        obtain ⟨A4, c4, e4, _, h4⟩ := h.row_rd
        subst e4
        have HR4 := Asi.mk (show Rd w4 1 A4 _ (ints .u8 (l.take q)) from by rw [← HP.out]; exact h4)
        have HL := Asi.mk (HL.out.join1 h)
        clear h h4
        refine hK.out _ _ HL.out.below (fun hHeld => ?_)
        clear hK K
        refine put_at (some 45) rfl ?_
        simp only [Act.put, List.setIfInBounds_toArray, List.set_cons_succ, List.set_cons_zero]
        refine wpAnyH_ready (rs := [9]) (by kernel_rfl) (by simp) ?_
        refine AllReadyH.cons (o := _) rfl (fun K hK => ?_) ?_
        · refine st_op rfl ?_
          refine op_str (l := (l.take q)) rfl Try.underlying22 Try.underlying5 Try.underlying9 rfl HR4.out ?_
          refine hK.out _ _ HL.out.below (fun hHeld => ?_)
          clear hK K
          refine put_at (some 46) rfl ?_
          simp only [Act.put, List.setIfInBounds_toArray, List.set_cons_succ, List.set_cons_zero]
          refine wpAnyH_take (i := 14) (oi := _) (v := ?_) rfl (by kernel_rfl) (by kernel_rfl) (by kernel_rfl) (fun _ _ _ h => h) (Or.inl ⟨by rfl, ?hy⟩) (by assumption) ?_
          case hy => intro w' hS; go_simp; first | done | with_reducible rfl
          refine put_at (some 51) rfl ?_
          simp only [Act.put, List.setIfInBounds_toArray, List.set_cons_succ, List.set_cons_zero]
          refine wpAnyH_take (i := 15) (oi := _) (v := ?_) rfl (by kernel_rfl) (by kernel_rfl) (by kernel_rfl) (fun _ _ _ h => h) (Or.inl ⟨by rfl, ?hy⟩) (by assumption) ?_
          case hy => intro w' hS; go_simp; first | done | with_reducible rfl
          refine put_at (some 52) rfl ?_
          simp only [Act.put, List.setIfInBounds_toArray, List.set_cons_succ, List.set_cons_zero]
          refine wpAnyH_take (i := 16) (oi := _) (v := ?_) rfl (by kernel_rfl) (by kernel_rfl) (by kernel_rfl) (fun _ _ _ h => h) (Or.inl ⟨by rfl, ?hy⟩) (by assumption) ?_
          case hy => intro w' hS; go_simp; first | done | with_reducible rfl
          refine put_at (some 53) rfl ?_
          simp only [Act.put, List.setIfInBounds_toArray, List.set_cons_succ, List.set_cons_zero]
          refine wpAnyH_ready (rs := [17]) (by kernel_rfl) (by simp) ?_
          refine AllReadyH.cons (o := _) rfl (fun K hK => ?_) ?_
          · refine st_op rfl ?_
            refine op_call (lives1_calls _) Try.func13 (by kernel_rfl) rfl rfl (by first | rfl | (simp only [List.map_toArray, List.map_cons, List.map_nil]; first | done | rfl)) ?_
            rintro e w5 ⟨rfl, h⟩
            refine ⟨_, rfl, ?_⟩
            have HL := Asi.mk (HL.out.step h.below)
            clear h
            refine hK.out _ _ HL.out.below (fun hHeld => ?_)
            clear hK K
            refine put_at (some 54) rfl ?_
            simp only [Act.put, List.setIfInBounds_toArray, List.set_cons_succ, List.set_cons_zero]
            refine wpAnyH_take (i := 18) (oi := _) (v := ?_) rfl (by kernel_rfl) (by kernel_rfl) (by kernel_rfl) (fun _ _ _ h => h) (Or.inl ⟨by rfl, ?hy⟩) (by assumption) ?_
            case hy => intro w' hS; go_simp; first | done | with_reducible rfl
            refine put_at (some 55) rfl ?_
            simp only [Act.put, List.setIfInBounds_toArray, List.set_cons_succ, List.set_cons_zero]
            refine wpAnyH_take (i := 19) (oi := _) (v := ?_) rfl (by kernel_rfl) (by kernel_rfl) (by kernel_rfl) (fun _ _ _ h => h) (Or.inl ⟨by rfl, ?hy⟩) (by assumption) ?_
            case hy => intro w' hS; go_simp; first | done | with_reducible rfl
            refine put_at (some 2) rfl ?_
            simp only [Act.put, List.setIfInBounds_toArray, List.set_cons_succ, List.set_cons_zero]
            refine wpAnyH_done (by kernel_rfl) ?_ _
            go_wp2
            go_ret
            exact ⟨rfl, (HS3.out.step HL.out.below).below⟩
          exact AllReadyH.nil
        exact AllReadyH.nil
      exact AllReadyH.nil
    · obtain ⟨hv, hq0⟩ := hbad her
      have hv : v = 0 := hv
      have hq0 : q = 0 := hq0
      subst hv
      subst hq0
      clear hgood hq
      have her' : ¬ (er : Int) = 0 := by omega
      simp only [Nat.sub_zero] at HL
      go_wp2_with (refine at_dst (N := 24) rfl ?_; refine stop ?_)
      refine ⟨?_⟩
      refine at_opG rfl fun K hK => ?_
      refine op_call HL.out Try.func27 (by kernel_rfl) rfl rfl ?hargs ?_
      case hargs => (try simp only [List.map_toArray, List.map_cons, List.map_nil]); first | done | rfl
      rintro e w3 ⟨rfl, m, rfl⟩
      refine ⟨_, rfl, ?_⟩
      refine hK _ _ ?_
      clear hK K
      have HS3 := Asi.mk (HS2.out.drewN m)
      clear HS2 HL
      go_wp2_with (refine at_dst (N := 30) rfl ?_; refine stop ?_)
      refine ⟨?_⟩
      refine at_opG rfl fun K hK => ?_
      refine op_call (lives1_calls _) Try.func13 (by kernel_rfl) rfl rfl ?hargs ?_
      case hargs => (try simp only [List.map_toArray, List.map_cons, List.map_nil]); first | done | rfl
      rintro e w4 ⟨rfl, h⟩
      refine ⟨_, rfl, ?_⟩
      refine hK _ _ ?_
      clear hK K
      have HS4 := Asi.mk (HS3.out.step h.below)
      clear h
      go_wp2
      go_ret
      exact ⟨rfl, HS4.out.below⟩
end Go.Proofs.Ytahecnlglcfddaa
