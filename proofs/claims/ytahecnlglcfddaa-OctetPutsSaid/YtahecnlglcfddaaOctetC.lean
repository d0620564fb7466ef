/- OctetPuts. -/
import Derived.Test.YtahecnlglcfddaaOctetB
import Derived.Deep.RegionHeld3
import Derived.Deep.DeepCutAuto
set_option linter.unusedVariables false
set_option linter.unusedSimpArgs false
namespace Go.Proofs.Ytahecnlglcfddaa
open Go.RowKit Go.Sep

theorem wf_u64 {n : Int} (h : (Lit.int .u64 n).wf = true) : ∃ m : Nat, n = m ∧ m < 18446744073709551616 := by
  simp [Lit.wf, IntKind.wrap, IntKind.bits, IntKind.signed, IntKind.min, IntKind.max] at h
  exact ⟨n.toNat, by omega, by omega⟩

theorem rd_app {w w1 : World} {A : Option Addr} {m : Nat} {l k : List Int} (h : Rd w 1 A m ((ints .u8 l ++ ints .u8 k).take m)) (hl : l.length = m) (hb : Below w.heap.size w w1) : Rd w1 1 A m (ints .u8 l) := by
  rw [List.take_append_of_le_length (by rw [ints_length]; omega), List.take_of_length_le (by rw [ints_length]; omega)] at h
  exact h.below hb

theorem sts_zadd {w0 w : World} {e size n : Nat} {v : Value} {xs : List Value} {R : HP} (h : Sts w0 w (star (row e size v (0 + n) ([] ++ xs)) R)) : Sts w0 w (star (row e size v n xs) R) := by rw [Nat.zero_add] at h; exact h
theorem keepG {w : World} {A : Option Addr} {n c : Nat} {l : List Int} (h : Rd w 1 A n (ints .u8 l)) : Rd w 1 A n (ints .u8 l) ∧ (convert 22 9 (.slice A n c)).run Try.prog w = .ok (.string (strOfNums l)) w :=
  ⟨h, conv_str c Try.underlying22 Try.underlying5 Try.underlying9 h⟩

set_option maxHeartbeats 4000000 in
theorem OctetPuts_walk (a0 : Option Addr) (len0 cap0 : Nat) (z0 : List Int) (n0 : Int) (s : ByteArray) (w : World) (h0 : IsRow .u8 w a0 len0 cap0 z0) (y0 : len0 * 1 ≤ 140737488351232) (hn0 : (Lit.int .u64 n0).wf = true) (hs0 : s.size ≤ 140737488351232) :
    Calls Try.prog 3 #[.slice a0 len0 cap0, .int .u64 n0, .string s] w fun e w' => e = .returned (.bool true) ∧ Below w.heap.size w w' := by
  obtain ⟨hr, hlc, hlen, hw⟩ := h0.rd
  obtain ⟨n, rfl, hn⟩ := wf_u64 hn0
  have HR := Asi.mk hr
  have HB := Asi.mk (byts_of_wf hw)
  generalize z0.take len0 = l at HR HB
  have HN := Asi.mk hn
  clear hr hlen hw h0 hn0 hn
  by_cases hl : 100000 < len0 + s.size
  · go_enter Try.func3, Try.ntmps3
    go_wp2_with (refine at_dst (N := 17) rfl ?_; refine stop ?_)
    refine ⟨?_⟩
    refine at_op rfl fun K hK => ?_
    refine op_call (lives1_calls w) Try.func13 (by kernel_rfl) rfl rfl ?hargs ?_
    case hargs => (try simp only [List.map_toArray, List.map_cons, List.map_nil]); first | done | rfl
    rintro e w1 ⟨rfl, h⟩
    refine ⟨_, rfl, ?_⟩
    refine hK _ _ ?_
    clear hK K
    have HS := Asi.mk h.below
    clear h
    go_wp2
    go_ret
    exact ⟨rfl, HS.out⟩
  · have HS := Asi.mk (Sts.start w)
    have hsz := putN_len10 s.size (by omega)
    have hnz := putN_len10 n HN.out
    go_enter Try.func3, Try.ntmps3
    go_wp2_with (refine at_dst (N := 18) rfl ?_; refine stop ?_)
    refine ⟨?_⟩
    refine at_op rfl fun K hK => ?_
    refine op_lit HS.out 5 1 0 [] (by first | (go_simp; done) | (go_simp; rfl) | (go_simp; simp [ints]; done)) (by first | rfl | simp [ints]) (by omega) ?_
    intro v1 w1 h
    refine hK _ _ ?_
    clear hK K
    have HS1 := Asi.mk h
    clear h HS
    go_wp2_with (refine at_dst (N := 20) rfl ?_; refine stop ?_)
    refine ⟨?_⟩
    refine at_op rfl fun K hK => ?_
    refine op_append 1 1 v1 0 [] 5 HS1.out (.tmp 18) (.tmp 19) 22 _ rfl Try.underlying22 infoU8 rfl (by omega) rfl a0 len0 cap0 (ints .u8 l) rfl (HR.out.below HS1.out.below) (ints_one _ _) (by omega) (by omega) ?_
    intro v2 w2 h
    refine hK _ _ ?_
    clear hK K
    have HS2 := Asi.mk (show Sts w w2 (star (row 5 1 v2 len0 (ints .u8 l)) emp) from by rw [Nat.zero_add] at h; exact h)
    clear h HS1
    go_wp2_with (refine at_dst (N := 21) rfl ?_; refine stop ?_)
    refine ⟨?_⟩
    refine at_op rfl fun K hK => ?_
    refine op_lit HS2.out 5 1 2 (ints .u8 [7, 7]) (by first | (go_simp; done) | (go_simp; rfl) | (go_simp; simp [ints]; done)) (by first | rfl | simp [ints]) (by omega) ?_
    intro v3 w3 h
    refine hK _ _ ?_
    clear hK K
    have HS3 := Asi.mk h
    clear h HS2
    obtain ⟨A3, c3, e3, _, _⟩ := HS3.out.row_rd
    subst e3
    go_wp2_with (refine at_dst (N := 22) rfl ?_; refine stop ?_)
    refine ⟨?_⟩
    refine at_op rfl fun K hK => ?_
    refine op_append 1 1 v2 len0 (ints .u8 l) 5 HS3.out.swap (.tmp 20) (.tmp 21) 22 _ rfl Try.underlying22 infoU8 rfl (by omega) rfl A3 2 c3 (ints .u8 [7, 7]) rfl HS3.out.rd (ints_one _ _) (by omega) (by omega) ?_
    intro v4 w4 h
    refine hK _ _ ?_
    clear hK K
    have HS4 := Asi.mk h.drop2
    clear h HS3
    obtain ⟨A4, c4, e4, h4, _⟩ := HS4.out.row_rd
    subst e4
    go_wp2
    have hle : (len0 : Int) ≤ c4 := by omega
    have hge : (0 : Int) ≤ len0 := by omega
    have HGv := Asi.mk (HS4.out.rd.take (m := len0) (by omega))
    go_cut [8, 9] (fun x8 x9 wc => ∃ (X Y : List Int), Asi (X = l ++ putN n) ∧ Asi (Y = l ++ putN s.size ++ chars s) ∧ Asi (Byts X) ∧ Asi (Byts Y) ∧ X.length ≤ 1000000 ∧ Y.length ≤ 1000000 ∧
      Asi (Sts w wc (star (row 5 1 x8 X.length (ints .u8 X)) (star (row 5 1 x9 Y.length (ints .u8 Y)) (star (row 5 1 (.slice A4 (len0 + 2) c4) (len0 + 2) (ints .u8 (l ++ [7, 7]))) emp)))))
    case first =>
      have HL := Asi.mk (Sts.start w4).drew
      go_region_held3 (fun _ => True) (trivial) (first
        | (refine st_op rfl ?_; refine op_call (put_calls A4 len0 c4 (ints .u8 l) n _ (rd_app HGv.out (rd_len HR.out) HL.out.below) (ints_one _ _) HN.out (by omega)) Try.func14 (by kernel_rfl) rfl rfl (by first | rfl | (simp only [List.map_toArray, List.map_cons, List.map_nil]; first | done | rfl)) ?_; rintro e w1 ⟨x8, rfl, h⟩; refine ⟨_, rfl, ?_⟩; have HL := Asi.mk (HL.out.join1 h); clear h)
        | (refine st_op rfl ?_; refine op_call (puttext_calls A4 len0 c4 (ints .u8 l) s _ (rd_app HGv.out (rd_len HR.out) HL.out.below) (ints_one _ _) (by omega) (by omega)) Try.func15 (by kernel_rfl) rfl rfl (by first | rfl | (simp only [List.map_toArray, List.map_cons, List.map_nil]; first | done | rfl)) ?_; rintro e w1 ⟨x9, rfl, h⟩; refine ⟨_, rfl, ?_⟩; have HL := Asi.mk (HL.out.join1 h); clear h)
        )
      all_goals
        go_wp2
        go_meet
        case rel =>
          refine ⟨l ++ putN n, l ++ putN s.size ++ chars s, Asi.mk rfl, Asi.mk rfl, Asi.mk (HB.out.append (putN_byts _)), Asi.mk ((HB.out.append (putN_byts _)).append (chars_byts _)), ?_, ?_, Asi.mk ?_⟩
          · have := rd_len HR.out
            simp
            omega
          · have := rd_len HR.out
            simp [chars_length]
            omega
          · have hlen := rd_len HR.out
            have h := HS4.out.join2 HL.out
            rw [← ints_append, ← ints_append, ← ints_append, ← ints_append] at h
            simp only [List.length_append, chars_length, hlen]
            first | exact h | exact h.swap
    case rest =>
      clear HS4 HGv
      obtain ⟨X, Y, HX, HY, HBX, HBY, hX, hY, HS⟩ := hcut
      obtain ⟨A8, c8, e8, _, _⟩ := HS.out.row_rd
      subst e8
      obtain ⟨A9, c9, e9, _, _⟩ := HS.out.swap.row_rd
      subst e9
      go_wp2
      have HR8 := Asi.mk HS.out.rd
      have HR9 := Asi.mk HS.out.swap.rd
      have HCC := Asi.mk (fun (w' : World) (h : Below wc.heap.size wc w') => And.intro (conv_str (P := Try.prog) c8 Try.underlying22 Try.underlying5 Try.underlying9 (HR8.out.below h)) (conv_str (P := Try.prog) c9 Try.underlying22 Try.underlying5 Try.underlying9 (HR9.out.below h)))
      have HL := Asi.mk (Sts.start wc).drew
      refine wp_region_held_drew (S := fun w' => Below wc.heap.size wc w') (by kernel_rfl) HL.out.below (fun hHeld => ?_)
      refine wpAnyH_take (i := 0) (oi := _) (v := ?_) rfl (by kernel_rfl) (by kernel_rfl) (by kernel_rfl) (fun _ _ _ h => h) (Or.inl ⟨by rfl, ?hy⟩) (by assumption) ?_
      case hy => intro w' hS; go_simp; first | done | with_reducible rfl
      refine put_at (some 35) rfl ?_
      simp only [Act.put, List.setIfInBounds_toArray, List.set_cons_succ, List.set_cons_zero]
      refine wpAnyH_take (i := 1) (oi := _) (v := ?_) rfl (by kernel_rfl) (by kernel_rfl) (by kernel_rfl) (fun _ _ _ h => h) (Or.inl ⟨by rfl, ?hy⟩) (by assumption) ?_
      case hy => intro w' hS; have hq := (HCC.out _ hS).1; go_simp; first | done | with_reducible rfl
      refine put_at (some 36) rfl ?_
      simp only [Act.put, List.setIfInBounds_toArray, List.set_cons_succ, List.set_cons_zero]
      refine wpAnyH_take (i := 2) (oi := _) (v := ?_) rfl (by kernel_rfl) (by kernel_rfl) (by kernel_rfl) (fun _ _ _ h => h) (Or.inl ⟨by rfl, ?hy⟩) (by assumption) ?_
      case hy => intro w' hS; go_simp; first | done | with_reducible rfl
      refine put_at (some 37) rfl ?_
      simp only [Act.put, List.setIfInBounds_toArray, List.set_cons_succ, List.set_cons_zero]
      refine wpAnyH_take (i := 3) (oi := _) (v := ?_) rfl (by kernel_rfl) (by kernel_rfl) (by kernel_rfl) (fun _ _ _ h => h) (Or.inl ⟨by rfl, ?hy⟩) (by assumption) ?_
      case hy => intro w' hS; go_simp; first | done | with_reducible rfl
      refine put_at (some 38) rfl ?_
      simp only [Act.put, List.setIfInBounds_toArray, List.set_cons_succ, List.set_cons_zero]
      refine wpAnyH_ready (rs := [4]) (by kernel_rfl) (by simp) ?_
      refine AllReadyH.cons (o := _) rfl (fun K hK => ?_) ?_
      · refine st_op rfl ?_
        refine op_call (rput_calls a0 len0 cap0 (ints .u8 l) n _ ((HR.out.below HS.out.below).below HL.out.below) (ints_one _ _) HN.out (by omega)) Try.func16 (by kernel_rfl) rfl rfl (by first | rfl | (simp only [List.map_toArray, List.map_cons, List.map_nil]; first | done | rfl)) ?_
        rintro e w1 ⟨x39, rfl, h⟩
        refine ⟨_, rfl, ?_⟩
        obtain ⟨A39, c39, e39, _, h39⟩ := h.row_rd
        subst e39
        have HR39 := Asi.mk (show Rd w1 1 A39 _ (ints .u8 X) from by rw [HX.out, ints_append]; exact h39)
        have HL := Asi.mk (HL.out.join1 h)
        clear h h39
        refine hK.out _ _ HL.out.below (fun hHeld => ?_)
        clear hK K
        refine put_at (some 39) rfl ?_
        simp only [Act.put, List.setIfInBounds_toArray, List.set_cons_succ, List.set_cons_zero]
        refine wpAnyH_ready (rs := [5]) (by kernel_rfl) (by simp) ?_
        refine AllReadyH.cons (o := _) rfl (fun K hK => ?_) ?_
        · refine st_op rfl ?_
          refine op_str (l := X) rfl Try.underlying22 Try.underlying5 Try.underlying9 rfl HR39.out ?_
          refine hK.out _ _ HL.out.below (fun hHeld => ?_)
          clear hK K
          refine put_at (some 40) rfl ?_
          simp only [Act.put, List.setIfInBounds_toArray, List.set_cons_succ, List.set_cons_zero]
          refine wpAnyH_take (i := 6) (oi := _) (v := ?_) rfl (by kernel_rfl) (by kernel_rfl) (by kernel_rfl) (fun _ _ _ h => h) (Or.inl ⟨by rfl, ?hy⟩) (by assumption) ?_
          case hy => intro w' hS; go_simp; first | done | with_reducible rfl
          refine put_at (some 41) rfl ?_
          simp only [Act.put, List.setIfInBounds_toArray, List.set_cons_succ, List.set_cons_zero]
          refine wpAnyH_take (i := 7) (oi := _) (v := ?_) rfl (by kernel_rfl) (by kernel_rfl) (by kernel_rfl) (fun _ _ _ h => h) (Or.inl ⟨by rfl, ?hy⟩) (by assumption) ?_
          case hy => intro w' hS; go_simp; first | done | with_reducible rfl
          refine put_at (some 42) rfl ?_
          simp only [Act.put, List.setIfInBounds_toArray, List.set_cons_succ, List.set_cons_zero]
          refine wpAnyH_take (i := 8) (oi := _) (v := ?_) rfl (by kernel_rfl) (by kernel_rfl) (by kernel_rfl) (fun _ _ _ h => h) (Or.inl ⟨by rfl, ?hy⟩) (by assumption) ?_
          case hy => intro w' hS; go_simp; first | done | with_reducible rfl
          refine put_at (some 43) rfl ?_
          simp only [Act.put, List.setIfInBounds_toArray, List.set_cons_succ, List.set_cons_zero]
          refine wpAnyH_take (i := 9) (oi := _) (v := ?_) rfl (by kernel_rfl) (by kernel_rfl) (by kernel_rfl) (fun _ _ _ h => h) (Or.inl ⟨by rfl, ?hy⟩) (by assumption) ?_
          case hy => intro w' hS; have hq := (HCC.out _ hS).2; go_simp; first | done | with_reducible rfl
          refine put_at (some 44) rfl ?_
          simp only [Act.put, List.setIfInBounds_toArray, List.set_cons_succ, List.set_cons_zero]
          refine wpAnyH_take (i := 10) (oi := _) (v := ?_) rfl (by kernel_rfl) (by kernel_rfl) (by kernel_rfl) (fun _ _ _ h => h) (Or.inl ⟨by rfl, ?hy⟩) (by assumption) ?_
          case hy => intro w' hS; go_simp; first | done | with_reducible rfl
          refine put_at (some 45) rfl ?_
          simp only [Act.put, List.setIfInBounds_toArray, List.set_cons_succ, List.set_cons_zero]
          refine wpAnyH_take (i := 11) (oi := _) (v := ?_) rfl (by kernel_rfl) (by kernel_rfl) (by kernel_rfl) (fun _ _ _ h => h) (Or.inl ⟨by rfl, ?hy⟩) (by assumption) ?_
          case hy => intro w' hS; go_simp; first | done | with_reducible rfl
          refine put_at (some 46) rfl ?_
          simp only [Act.put, List.setIfInBounds_toArray, List.set_cons_succ, List.set_cons_zero]
          refine wpAnyH_ready (rs := [12]) (by kernel_rfl) (by simp) ?_
          refine AllReadyH.cons (o := _) rfl (fun K hK => ?_) ?_
          · refine st_op rfl ?_
            refine op_call (rputtext_calls a0 len0 cap0 (ints .u8 l) s _ ((HR.out.below HS.out.below).below HL.out.below) (ints_one _ _) (by omega) (by omega)) Try.func17 (by kernel_rfl) rfl rfl (by first | rfl | (simp only [List.map_toArray, List.map_cons, List.map_nil]; first | done | rfl)) ?_
            rintro e w2 ⟨x47, rfl, h⟩
            refine ⟨_, rfl, ?_⟩
            obtain ⟨A47, c47, e47, _, h47⟩ := h.row_rd
            subst e47
            have HR47 := Asi.mk (show Rd w2 1 A47 _ (ints .u8 Y) from by rw [HY.out, ints_append, ints_append]; exact h47)
            have HL := Asi.mk (HL.out.join1 h)
            clear h h47
            refine hK.out _ _ HL.out.below (fun hHeld => ?_)
            clear hK K
            refine put_at (some 47) rfl ?_
            simp only [Act.put, List.setIfInBounds_toArray, List.set_cons_succ, List.set_cons_zero]
            refine wpAnyH_ready (rs := [13]) (by kernel_rfl) (by simp) ?_
            refine AllReadyH.cons (o := _) rfl (fun K hK => ?_) ?_
            · refine st_op rfl ?_
              refine op_str (l := Y) rfl Try.underlying22 Try.underlying5 Try.underlying9 rfl HR47.out ?_
              refine hK.out _ _ HL.out.below (fun hHeld => ?_)
              clear hK K
              refine put_at (some 48) rfl ?_
              simp only [Act.put, List.setIfInBounds_toArray, List.set_cons_succ, List.set_cons_zero]
              refine wpAnyH_take (i := 14) (oi := _) (v := ?_) rfl (by kernel_rfl) (by kernel_rfl) (by kernel_rfl) (fun _ _ _ h => h) (Or.inl ⟨by rfl, ?hy⟩) (by assumption) ?_
              case hy => intro w' hS; go_simp; first | done | with_reducible rfl
              refine put_at (some 49) rfl ?_
              simp only [Act.put, List.setIfInBounds_toArray, List.set_cons_succ, List.set_cons_zero]
              refine wpAnyH_take (i := 15) (oi := _) (v := ?_) rfl (by kernel_rfl) (by kernel_rfl) (by kernel_rfl) (fun _ _ _ h => h) (Or.inl ⟨by rfl, ?hy⟩) (by assumption) ?_
              case hy => intro w' hS; go_simp; first | done | with_reducible rfl
              refine put_at (some 50) rfl ?_
              simp only [Act.put, List.setIfInBounds_toArray, List.set_cons_succ, List.set_cons_zero]
              refine wpAnyH_take (i := 16) (oi := _) (v := ?_) rfl (by kernel_rfl) (by kernel_rfl) (by kernel_rfl) (fun _ _ _ h => h) (Or.inl ⟨by rfl, ?hy⟩) (by assumption) ?_
              case hy => intro w' hS; go_simp; first | done | with_reducible rfl
              refine put_at (some 10) rfl ?_
              simp only [Act.put, List.setIfInBounds_toArray, List.set_cons_succ, List.set_cons_zero]
              refine wpAnyH_done (by kernel_rfl) ?_ _
              have HS5 := Asi.mk (HS.out.step HL.out.below)
              clear HL HR8 HR9 HCC
              go_wp2_with (refine at_dst (N := 52) rfl ?_; refine stop ?_)
              refine ⟨?_⟩
              refine at_op rfl fun K hK => ?_
              refine op_call (spoil_calls _ X _ _ _ HS5.out HBX.out (by omega)) Try.func18 (by kernel_rfl) rfl rfl ?hargs ?_
              case hargs => (try simp only [List.map_toArray, List.map_cons, List.map_nil]); first | done | rfl
              rintro e w6 ⟨⟨u6, rfl⟩, X', _, _, h⟩
              refine ⟨_, rfl, ?_⟩
              refine hK _ _ ?_
              clear hK K
              have HS6 := Asi.mk h.tail
              clear h HS5
              go_wp2_with (refine at_dst (N := 54) rfl ?_; refine stop ?_)
              refine ⟨?_⟩
              refine at_op rfl fun K hK => ?_
              refine op_call (spoil_calls _ Y _ _ _ HS6.out HBY.out (by omega)) Try.func18 (by kernel_rfl) rfl rfl ?hargs ?_
              case hargs => (try simp only [List.map_toArray, List.map_cons, List.map_nil]); first | done | rfl
              rintro e w7 ⟨⟨u7, rfl⟩, Y', _, _, h⟩
              refine ⟨_, rfl, ?_⟩
              refine hK _ _ ?_
              clear hK K
              have HS7 := Asi.mk h.tail
              clear h HS6
              go_wp2
              have HG := Asi.mk HS7.out.rd
              have HB7 := Asi.mk HS7.out.below
              have hlen := rd_len HR.out
              have HL := Asi.mk (Sts.start w7).drew
              refine wp_region_held_drew (S := fun w' => Below w7.heap.size w7 w') (by kernel_rfl) HL.out.below (fun hHeld => ?_)
              refine wpAnyH_take (i := 0) (oi := _) (v := ?_) rfl (by kernel_rfl) (by kernel_rfl) (by kernel_rfl) (fun _ _ _ h => h) (Or.inl ⟨by rfl, ?hy⟩) (by assumption) ?_
              case hy => intro w' hS; go_simp; first | done | with_reducible rfl
              refine put_at (some 55) rfl ?_
              simp only [Act.put, List.setIfInBounds_toArray, List.set_cons_succ, List.set_cons_zero]
              refine wpAnyH_take (i := 1) (oi := _) (v := ?_) rfl (by kernel_rfl) (by kernel_rfl) (by kernel_rfl) (fun _ _ _ h => h) (Or.inl ⟨by rfl, ?hy⟩) (by assumption) ?_
              case hy => intro w' hS; go_simp; first | done | with_reducible rfl
              refine put_at (some 56) rfl ?_
              simp only [Act.put, List.setIfInBounds_toArray, List.set_cons_succ, List.set_cons_zero]
              refine wpAnyH_take (i := 2) (oi := _) (v := ?_) rfl (by kernel_rfl) (by kernel_rfl) (by kernel_rfl) (fun _ _ _ h => h) (Or.inl ⟨by rfl, ?hy⟩) (by assumption) ?_
              case hy => intro w' hS; go_simp; first | done | with_reducible rfl
              refine put_at (some 57) rfl ?_
              simp only [Act.put, List.setIfInBounds_toArray, List.set_cons_succ, List.set_cons_zero]
              refine wpAnyH_take (i := 3) (oi := _) (v := ?_) rfl (by kernel_rfl) (by kernel_rfl) (by kernel_rfl) (fun _ _ _ h => h) (Or.inl ⟨by rfl, ?hy⟩) (by assumption) ?_
              case hy => intro w' hS; have hq := (keepG (c := c4) (HG.out.below hS)).2; go_simp; first | done | with_reducible rfl
              refine put_at (some 58) rfl ?_
              simp only [Act.put, List.setIfInBounds_toArray, List.set_cons_succ, List.set_cons_zero]
              refine wpAnyH_take (i := 5) (oi := _) (v := ?_) rfl (by kernel_rfl) (by kernel_rfl) (by kernel_rfl) (fun _ _ _ h => h) (Or.inl ⟨by rfl, ?hy⟩) (by assumption) ?_
              case hy => intro w' hS; go_simp; first | done | with_reducible rfl
              refine put_at (some 60) rfl ?_
              simp only [Act.put, List.setIfInBounds_toArray, List.set_cons_succ, List.set_cons_zero]
              refine wpAnyH_ready (rs := [4, 7]) (by kernel_rfl) (by simp) ?_
              refine AllReadyH.cons (o := _) rfl (fun K hK => ?_) ?_
              · refine st_op rfl ?_
                refine op_lit HL.out 5 1 0 [] (by first | (go_simp; done) | (go_simp; rfl) | (go_simp; simp [ints]; done)) (by first | rfl | simp [ints]) (by omega) ?_
                intro v59 w59 h
                have HL := Asi.mk h
                clear h
                refine hK.out _ _ HL.out.below (fun hHeld => ?_)
                clear hK K
                refine put_at (some 59) rfl ?_
                simp only [Act.put, List.setIfInBounds_toArray, List.set_cons_succ, List.set_cons_zero]
                refine wpAnyH_ready (rs := [6, 7]) (by kernel_rfl) (by simp) ?_
                refine AllReadyH.cons (o := _) rfl (fun K hK => ?_) ?_
                · refine st_op rfl ?_
                  refine op_append 1 1 v59 0 [] 5 HL.out (.tmp 59) (.tmp 60) 22 _ rfl Try.underlying22 infoU8 rfl (by omega) rfl a0 len0 cap0 (ints .u8 l) rfl ((HR.out.below HB7.out).below HL.out.below) (ints_one _ _) (by omega) (by omega) ?_
                  intro v61 w61 h
                  have HL := Asi.mk (sts_zadd h)
                  clear h
                  refine hK.out _ _ HL.out.below (fun hHeld => ?_)
                  clear hK K
                  refine put_at (some 61) rfl ?_
                  simp only [Act.put, List.setIfInBounds_toArray, List.set_cons_succ, List.set_cons_zero]
                  refine wpAnyH_ready (rs := [7]) (by kernel_rfl) (by simp) ?_
                  refine AllReadyH.cons (o := _) rfl (fun K hK => ?_) ?_
                  · refine st_op rfl ?_
                    refine op_lit HL.out 5 1 2 (ints .u8 [7, 7]) (by first | (go_simp; done) | (go_simp; rfl) | (go_simp; simp [ints]; done)) (by first | rfl | simp [ints]) (by omega) ?_
                    intro v62 w62 h
                    have HL := Asi.mk h
                    clear h
                    obtain ⟨A62, c62, e62, _, _⟩ := HL.out.row_rd
                    subst e62
                    refine hK.out _ _ HL.out.below (fun hHeld => ?_)
                    clear hK K
                    refine put_at (some 62) rfl ?_
                    simp only [Act.put, List.setIfInBounds_toArray, List.set_cons_succ, List.set_cons_zero]
                    refine wpAnyH_ready (rs := [8]) (by kernel_rfl) (by simp) ?_
                    refine AllReadyH.cons (o := _) rfl (fun K hK => ?_) ?_
                    · refine st_op rfl ?_
                      refine op_append 1 1 v61 len0 (ints .u8 l) 5 HL.out.swap (.tmp 61) (.tmp 62) 22 _ rfl Try.underlying22 infoU8 rfl (by omega) rfl A62 2 c62 (ints .u8 [7, 7]) rfl HL.out.rd (ints_one _ _) (by omega) (by omega) ?_
                      intro v63 w63 h
                      have HL := Asi.mk h.drop2
                      obtain ⟨A63, c63, e63, _, h63⟩ := h.row_rd
                      subst e63
                      have HR63 := Asi.mk (show Rd w63 1 A63 _ (ints .u8 (l ++ [7, 7])) from by rw [ints_append]; exact h63)
                      clear h h63
                      refine hK.out _ _ HL.out.below (fun hHeld => ?_)
                      clear hK K
                      refine put_at (some 63) rfl ?_
                      simp only [Act.put, List.setIfInBounds_toArray, List.set_cons_succ, List.set_cons_zero]
                      refine wpAnyH_ready (rs := [9]) (by kernel_rfl) (by simp) ?_
                      refine AllReadyH.cons (o := _) rfl (fun K hK => ?_) ?_
                      · refine st_op rfl ?_
                        refine op_str (l := (l ++ [7, 7])) rfl Try.underlying22 Try.underlying5 Try.underlying9 rfl HR63.out ?_
                        refine hK.out _ _ HL.out.below (fun hHeld => ?_)
                        clear hK K
                        refine put_at (some 64) rfl ?_
                        simp only [Act.put, List.setIfInBounds_toArray, List.set_cons_succ, List.set_cons_zero]
                        refine wpAnyH_take (i := 10) (oi := _) (v := ?_) rfl (by kernel_rfl) (by kernel_rfl) (by kernel_rfl) (fun _ _ _ h => h) (Or.inl ⟨by rfl, ?hy⟩) (by assumption) ?_
                        case hy => intro w' hS; go_simp; first | done | with_reducible rfl
                        refine put_at (some 65) rfl ?_
                        simp only [Act.put, List.setIfInBounds_toArray, List.set_cons_succ, List.set_cons_zero]
                        refine wpAnyH_take (i := 11) (oi := _) (v := ?_) rfl (by kernel_rfl) (by kernel_rfl) (by kernel_rfl) (fun _ _ _ h => h) (Or.inl ⟨by rfl, ?hy⟩) (by assumption) ?_
                        case hy => intro w' hS; go_simp; first | done | with_reducible rfl
                        refine put_at (some 66) rfl ?_
                        simp only [Act.put, List.setIfInBounds_toArray, List.set_cons_succ, List.set_cons_zero]
                        refine wpAnyH_take (i := 12) (oi := _) (v := ?_) rfl (by kernel_rfl) (by kernel_rfl) (by kernel_rfl) (fun _ _ _ h => h) (Or.inl ⟨by rfl, ?hy⟩) (by assumption) ?_
                        case hy => intro w' hS; go_simp; first | done | with_reducible rfl
                        refine put_at (some 67) rfl ?_
                        simp only [Act.put, List.setIfInBounds_toArray, List.set_cons_succ, List.set_cons_zero]
                        refine wpAnyH_ready (rs := [13]) (by kernel_rfl) (by simp) ?_
                        refine AllReadyH.cons (o := _) rfl (fun K hK => ?_) ?_
                        · refine st_op rfl ?_
                          refine op_call (lives1_calls _) Try.func13 (by kernel_rfl) rfl rfl (by first | rfl | (simp only [List.map_toArray, List.map_cons, List.map_nil]; first | done | rfl)) ?_
                          rintro e w68 ⟨rfl, h⟩
                          refine ⟨_, rfl, ?_⟩
                          have HL := Asi.mk (HL.out.step h.below)
                          clear h
                          refine hK.out _ _ HL.out.below (fun hHeld => ?_)
                          clear hK K
                          refine put_at (some 68) rfl ?_
                          simp only [Act.put, List.setIfInBounds_toArray, List.set_cons_succ, List.set_cons_zero]
                          refine wpAnyH_take (i := 14) (oi := _) (v := ?_) rfl (by kernel_rfl) (by kernel_rfl) (by kernel_rfl) (fun _ _ _ h => h) (Or.inl ⟨by rfl, ?hy⟩) (by assumption) ?_
                          case hy => intro w' hS; go_simp; first | done | with_reducible rfl
                          refine put_at (some 69) rfl ?_
                          simp only [Act.put, List.setIfInBounds_toArray, List.set_cons_succ, List.set_cons_zero]
                          refine wpAnyH_take (i := 15) (oi := _) (v := ?_) rfl (by kernel_rfl) (by kernel_rfl) (by kernel_rfl) (fun _ _ _ h => h) (Or.inl ⟨by rfl, ?hy⟩) (by assumption) ?_
                          case hy => intro w' hS; go_simp; first | done | with_reducible rfl
                          refine put_at (some 6) rfl ?_
                          simp only [Act.put, List.setIfInBounds_toArray, List.set_cons_succ, List.set_cons_zero]
                          refine wpAnyH_done (by kernel_rfl) ?_ _
                          go_wp2
                          go_ret
                          exact ⟨rfl, (HS7.out.step HL.out.below).below⟩
                        exact AllReadyH.nil
                      exact AllReadyH.nil
                    exact AllReadyH.nil
                  exact AllReadyH.nil
                refine AllReadyH.cons (o := _) rfl (fun K hK => ?_) ?_
                · refine st_op rfl ?_
                  refine op_lit HL.out 5 1 2 (ints .u8 [7, 7]) (by first | (go_simp; done) | (go_simp; rfl) | (go_simp; simp [ints]; done)) (by first | rfl | simp [ints]) (by omega) ?_
                  intro v62 w62 h
                  have HL := Asi.mk h
                  clear h
                  obtain ⟨A62, c62, e62, _, _⟩ := HL.out.row_rd
                  subst e62
                  refine hK.out _ _ HL.out.below (fun hHeld => ?_)
                  clear hK K
                  refine put_at (some 62) rfl ?_
                  simp only [Act.put, List.setIfInBounds_toArray, List.set_cons_succ, List.set_cons_zero]
                  refine wpAnyH_ready (rs := [6]) (by kernel_rfl) (by simp) ?_
                  refine AllReadyH.cons (o := _) rfl (fun K hK => ?_) ?_
                  · refine st_op rfl ?_
                    refine op_append 1 1 v59 0 [] 5 (by first | exact HL.out | exact HL.out.swap) (.tmp 59) (.tmp 60) 22 _ rfl Try.underlying22 infoU8 rfl (by omega) rfl a0 len0 cap0 (ints .u8 l) rfl ((HR.out.below HB7.out).below HL.out.below) (ints_one _ _) (by omega) (by omega) ?_
                    intro v61 w61 h
                    have HL := Asi.mk (sts_zadd h).swap
                    clear h
                    refine hK.out _ _ HL.out.below (fun hHeld => ?_)
                    clear hK K
                    refine put_at (some 61) rfl ?_
                    simp only [Act.put, List.setIfInBounds_toArray, List.set_cons_succ, List.set_cons_zero]
                    refine wpAnyH_ready (rs := [8]) (by kernel_rfl) (by simp) ?_
                    refine AllReadyH.cons (o := _) rfl (fun K hK => ?_) ?_
                    · refine st_op rfl ?_
                      refine op_append 1 1 v61 len0 (ints .u8 l) 5 HL.out.swap (.tmp 61) (.tmp 62) 22 _ rfl Try.underlying22 infoU8 rfl (by omega) rfl A62 2 c62 (ints .u8 [7, 7]) rfl HL.out.rd (ints_one _ _) (by omega) (by omega) ?_
                      intro v63 w63 h
                      have HL := Asi.mk h.drop2
                      obtain ⟨A63, c63, e63, _, h63⟩ := h.row_rd
                      subst e63
                      have HR63 := Asi.mk (show Rd w63 1 A63 _ (ints .u8 (l ++ [7, 7])) from by rw [ints_append]; exact h63)
                      clear h h63
                      refine hK.out _ _ HL.out.below (fun hHeld => ?_)
                      clear hK K
                      refine put_at (some 63) rfl ?_
                      simp only [Act.put, List.setIfInBounds_toArray, List.set_cons_succ, List.set_cons_zero]
                      refine wpAnyH_ready (rs := [9]) (by kernel_rfl) (by simp) ?_
                      refine AllReadyH.cons (o := _) rfl (fun K hK => ?_) ?_
                      · refine st_op rfl ?_
                        refine op_str (l := (l ++ [7, 7])) rfl Try.underlying22 Try.underlying5 Try.underlying9 rfl HR63.out ?_
                        refine hK.out _ _ HL.out.below (fun hHeld => ?_)
                        clear hK K
                        refine put_at (some 64) rfl ?_
                        simp only [Act.put, List.setIfInBounds_toArray, List.set_cons_succ, List.set_cons_zero]
                        refine wpAnyH_take (i := 10) (oi := _) (v := ?_) rfl (by kernel_rfl) (by kernel_rfl) (by kernel_rfl) (fun _ _ _ h => h) (Or.inl ⟨by rfl, ?hy⟩) (by assumption) ?_
                        case hy => intro w' hS; go_simp; first | done | with_reducible rfl
                        refine put_at (some 65) rfl ?_
                        simp only [Act.put, List.setIfInBounds_toArray, List.set_cons_succ, List.set_cons_zero]
                        refine wpAnyH_take (i := 11) (oi := _) (v := ?_) rfl (by kernel_rfl) (by kernel_rfl) (by kernel_rfl) (fun _ _ _ h => h) (Or.inl ⟨by rfl, ?hy⟩) (by assumption) ?_
                        case hy => intro w' hS; go_simp; first | done | with_reducible rfl
                        refine put_at (some 66) rfl ?_
                        simp only [Act.put, List.setIfInBounds_toArray, List.set_cons_succ, List.set_cons_zero]
                        refine wpAnyH_take (i := 12) (oi := _) (v := ?_) rfl (by kernel_rfl) (by kernel_rfl) (by kernel_rfl) (fun _ _ _ h => h) (Or.inl ⟨by rfl, ?hy⟩) (by assumption) ?_
                        case hy => intro w' hS; go_simp; first | done | with_reducible rfl
                        refine put_at (some 67) rfl ?_
                        simp only [Act.put, List.setIfInBounds_toArray, List.set_cons_succ, List.set_cons_zero]
                        refine wpAnyH_ready (rs := [13]) (by kernel_rfl) (by simp) ?_
                        refine AllReadyH.cons (o := _) rfl (fun K hK => ?_) ?_
                        · refine st_op rfl ?_
                          refine op_call (lives1_calls _) Try.func13 (by kernel_rfl) rfl rfl (by first | rfl | (simp only [List.map_toArray, List.map_cons, List.map_nil]; first | done | rfl)) ?_
                          rintro e w68 ⟨rfl, h⟩
                          refine ⟨_, rfl, ?_⟩
                          have HL := Asi.mk (HL.out.step h.below)
                          clear h
                          refine hK.out _ _ HL.out.below (fun hHeld => ?_)
                          clear hK K
                          refine put_at (some 68) rfl ?_
                          simp only [Act.put, List.setIfInBounds_toArray, List.set_cons_succ, List.set_cons_zero]
                          refine wpAnyH_take (i := 14) (oi := _) (v := ?_) rfl (by kernel_rfl) (by kernel_rfl) (by kernel_rfl) (fun _ _ _ h => h) (Or.inl ⟨by rfl, ?hy⟩) (by assumption) ?_
                          case hy => intro w' hS; go_simp; first | done | with_reducible rfl
                          refine put_at (some 69) rfl ?_
                          simp only [Act.put, List.setIfInBounds_toArray, List.set_cons_succ, List.set_cons_zero]
                          refine wpAnyH_take (i := 15) (oi := _) (v := ?_) rfl (by kernel_rfl) (by kernel_rfl) (by kernel_rfl) (fun _ _ _ h => h) (Or.inl ⟨by rfl, ?hy⟩) (by assumption) ?_
                          case hy => intro w' hS; go_simp; first | done | with_reducible rfl
                          refine put_at (some 6) rfl ?_
                          simp only [Act.put, List.setIfInBounds_toArray, List.set_cons_succ, List.set_cons_zero]
                          refine wpAnyH_done (by kernel_rfl) ?_ _
                          go_wp2
                          go_ret
                          exact ⟨rfl, (HS7.out.step HL.out.below).below⟩
                        exact AllReadyH.nil
                      exact AllReadyH.nil
                    exact AllReadyH.nil
                  exact AllReadyH.nil
                exact AllReadyH.nil
              refine AllReadyH.cons (o := _) rfl (fun K hK => ?_) ?_
              · refine st_op rfl ?_
                refine op_lit HL.out 5 1 2 (ints .u8 [7, 7]) (by first | (go_simp; done) | (go_simp; rfl) | (go_simp; simp [ints]; done)) (by first | rfl | simp [ints]) (by omega) ?_
                intro v62 w62 h
                have HL := Asi.mk h
                clear h
                obtain ⟨A62, c62, e62, _, _⟩ := HL.out.row_rd
                subst e62
                refine hK.out _ _ HL.out.below (fun hHeld => ?_)
                clear hK K
                refine put_at (some 62) rfl ?_
                simp only [Act.put, List.setIfInBounds_toArray, List.set_cons_succ, List.set_cons_zero]
                refine wpAnyH_ready (rs := [4]) (by kernel_rfl) (by simp) ?_
                refine AllReadyH.cons (o := _) rfl (fun K hK => ?_) ?_
                · refine st_op rfl ?_
                  refine op_lit HL.out 5 1 0 [] (by first | (go_simp; done) | (go_simp; rfl) | (go_simp; simp [ints]; done)) (by first | rfl | simp [ints]) (by omega) ?_
                  intro v59 w59 h
                  have HL := Asi.mk h
                  clear h
                  refine hK.out _ _ HL.out.below (fun hHeld => ?_)
                  clear hK K
                  refine put_at (some 59) rfl ?_
                  simp only [Act.put, List.setIfInBounds_toArray, List.set_cons_succ, List.set_cons_zero]
                  refine wpAnyH_ready (rs := [6]) (by kernel_rfl) (by simp) ?_
                  refine AllReadyH.cons (o := _) rfl (fun K hK => ?_) ?_
                  · refine st_op rfl ?_
                    refine op_append 1 1 v59 0 [] 5 (by first | exact HL.out | exact HL.out.swap) (.tmp 59) (.tmp 60) 22 _ rfl Try.underlying22 infoU8 rfl (by omega) rfl a0 len0 cap0 (ints .u8 l) rfl ((HR.out.below HB7.out).below HL.out.below) (ints_one _ _) (by omega) (by omega) ?_
                    intro v61 w61 h
                    have HL := Asi.mk (sts_zadd h).swap
                    clear h
                    refine hK.out _ _ HL.out.below (fun hHeld => ?_)
                    clear hK K
                    refine put_at (some 61) rfl ?_
                    simp only [Act.put, List.setIfInBounds_toArray, List.set_cons_succ, List.set_cons_zero]
                    refine wpAnyH_ready (rs := [8]) (by kernel_rfl) (by simp) ?_
                    refine AllReadyH.cons (o := _) rfl (fun K hK => ?_) ?_
                    · refine st_op rfl ?_
                      refine op_append 1 1 v61 len0 (ints .u8 l) 5 HL.out.swap (.tmp 61) (.tmp 62) 22 _ rfl Try.underlying22 infoU8 rfl (by omega) rfl A62 2 c62 (ints .u8 [7, 7]) rfl HL.out.rd (ints_one _ _) (by omega) (by omega) ?_
                      intro v63 w63 h
                      have HL := Asi.mk h.drop2
                      obtain ⟨A63, c63, e63, _, h63⟩ := h.row_rd
                      subst e63
                      have HR63 := Asi.mk (show Rd w63 1 A63 _ (ints .u8 (l ++ [7, 7])) from by rw [ints_append]; exact h63)
                      clear h h63
                      refine hK.out _ _ HL.out.below (fun hHeld => ?_)
                      clear hK K
                      refine put_at (some 63) rfl ?_
                      simp only [Act.put, List.setIfInBounds_toArray, List.set_cons_succ, List.set_cons_zero]
                      refine wpAnyH_ready (rs := [9]) (by kernel_rfl) (by simp) ?_
                      refine AllReadyH.cons (o := _) rfl (fun K hK => ?_) ?_
                      · refine st_op rfl ?_
                        refine op_str (l := (l ++ [7, 7])) rfl Try.underlying22 Try.underlying5 Try.underlying9 rfl HR63.out ?_
                        refine hK.out _ _ HL.out.below (fun hHeld => ?_)
                        clear hK K
                        refine put_at (some 64) rfl ?_
                        simp only [Act.put, List.setIfInBounds_toArray, List.set_cons_succ, List.set_cons_zero]
                        refine wpAnyH_take (i := 10) (oi := _) (v := ?_) rfl (by kernel_rfl) (by kernel_rfl) (by kernel_rfl) (fun _ _ _ h => h) (Or.inl ⟨by rfl, ?hy⟩) (by assumption) ?_
                        case hy => intro w' hS; go_simp; first | done | with_reducible rfl
                        refine put_at (some 65) rfl ?_
                        simp only [Act.put, List.setIfInBounds_toArray, List.set_cons_succ, List.set_cons_zero]
                        refine wpAnyH_take (i := 11) (oi := _) (v := ?_) rfl (by kernel_rfl) (by kernel_rfl) (by kernel_rfl) (fun _ _ _ h => h) (Or.inl ⟨by rfl, ?hy⟩) (by assumption) ?_
                        case hy => intro w' hS; go_simp; first | done | with_reducible rfl
                        refine put_at (some 66) rfl ?_
                        simp only [Act.put, List.setIfInBounds_toArray, List.set_cons_succ, List.set_cons_zero]
                        refine wpAnyH_take (i := 12) (oi := _) (v := ?_) rfl (by kernel_rfl) (by kernel_rfl) (by kernel_rfl) (fun _ _ _ h => h) (Or.inl ⟨by rfl, ?hy⟩) (by assumption) ?_
                        case hy => intro w' hS; go_simp; first | done | with_reducible rfl
                        refine put_at (some 67) rfl ?_
                        simp only [Act.put, List.setIfInBounds_toArray, List.set_cons_succ, List.set_cons_zero]
                        refine wpAnyH_ready (rs := [13]) (by kernel_rfl) (by simp) ?_
                        refine AllReadyH.cons (o := _) rfl (fun K hK => ?_) ?_
                        · refine st_op rfl ?_
                          refine op_call (lives1_calls _) Try.func13 (by kernel_rfl) rfl rfl (by first | rfl | (simp only [List.map_toArray, List.map_cons, List.map_nil]; first | done | rfl)) ?_
                          rintro e w68 ⟨rfl, h⟩
                          refine ⟨_, rfl, ?_⟩
                          have HL := Asi.mk (HL.out.step h.below)
                          clear h
                          refine hK.out _ _ HL.out.below (fun hHeld => ?_)
                          clear hK K
                          refine put_at (some 68) rfl ?_
                          simp only [Act.put, List.setIfInBounds_toArray, List.set_cons_succ, List.set_cons_zero]
                          refine wpAnyH_take (i := 14) (oi := _) (v := ?_) rfl (by kernel_rfl) (by kernel_rfl) (by kernel_rfl) (fun _ _ _ h => h) (Or.inl ⟨by rfl, ?hy⟩) (by assumption) ?_
                          case hy => intro w' hS; go_simp; first | done | with_reducible rfl
                          refine put_at (some 69) rfl ?_
                          simp only [Act.put, List.setIfInBounds_toArray, List.set_cons_succ, List.set_cons_zero]
                          refine wpAnyH_take (i := 15) (oi := _) (v := ?_) rfl (by kernel_rfl) (by kernel_rfl) (by kernel_rfl) (fun _ _ _ h => h) (Or.inl ⟨by rfl, ?hy⟩) (by assumption) ?_
                          case hy => intro w' hS; go_simp; first | done | with_reducible rfl
                          refine put_at (some 6) rfl ?_
                          simp only [Act.put, List.setIfInBounds_toArray, List.set_cons_succ, List.set_cons_zero]
                          refine wpAnyH_done (by kernel_rfl) ?_ _
                          go_wp2
                          go_ret
                          exact ⟨rfl, (HS7.out.step HL.out.below).below⟩
                        exact AllReadyH.nil
                      exact AllReadyH.nil
                    exact AllReadyH.nil
                  exact AllReadyH.nil
                exact AllReadyH.nil
              exact AllReadyH.nil
            exact AllReadyH.nil
          exact AllReadyH.nil
        exact AllReadyH.nil
      exact AllReadyH.nil
end Go.Proofs.Ytahecnlglcfddaa
