/- Texts put, the references, the chapter's example; bytes written over. -/
import Derived.Test.YtahecnlglcfddaaOctetA
set_option linter.unusedVariables false
set_option linter.unusedSimpArgs false
namespace Go.Proofs.Ytahecnlglcfddaa
open Go.RowKit Go.Sep

set_option maxHeartbeats 1000000 in
theorem puttext_calls (A : Option Addr) (m c : Nat) (cs : List Value) (s : ByteArray) (w : World) (HR : Rd w 1 A m cs) (h1 : ∀ u ∈ cs, u.oneCell' = true) (hn : s.size ≤ 100000000) (hm : m ≤ 100000000) :
    Calls Try.prog 15 #[.slice A m c, .string s] w fun e w' => ∃ v, e = .returned v ∧ Sts w w' (star (row 5 1 v (m + (putN s.size).length + s.size) (cs ++ ints .u8 (putN s.size) ++ ints .u8 (chars s))) emp) := by
  have HR := Asi.mk HR
  have H1 := Asi.mk h1
  clear h1
  have hlen := putN_len10 s.size (by omega)
  go_enter Try.func15, Try.ntmps15
  go_wp2_with (refine at_dst (N := 9) rfl ?_; refine stop ?_)
  refine ⟨?_⟩
  refine at_op rfl fun K hK => ?_
  refine op_call (put_calls A m c cs s.size w HR.out H1.out (by omega) hm) Try.func14 (by kernel_rfl) rfl rfl ?hargs ?_
  case hargs => (try simp only [List.map_toArray, List.map_cons, List.map_nil]); first | done | rfl
  rintro e w1 ⟨v1, rfl, h⟩
  refine ⟨_, rfl, ?_⟩
  refine hK _ _ ?_
  clear hK K
  have HS := Asi.mk h
  clear h
  go_wp2_with (refine at_dst (N := 11) rfl ?_; refine stop ?_)
  refine ⟨?_⟩
  refine at_op rfl fun K hK => ?_
  refine op_append_str v1 (m + (putN s.size).length) (cs ++ ints .u8 (putN s.size)) 5 HS.out (.tmp 9) (.tmp 10) 22 9 rfl Try.underlying22 Try.underlying9 infoU8 rfl s rfl (by omega) ?_
  intro v2 w2 h
  refine hK _ _ ?_
  clear hK K
  have HS2 := Asi.mk h
  clear h HS
  go_wp2
  go_ret
  refine ⟨_, rfl, ?_⟩
  rw [← strCells_chars]
  exact HS2.out

set_option maxHeartbeats 1000000 in
theorem rput_calls (A : Option Addr) (m c : Nat) (cs : List Value) (n : Nat) (w : World) (HR : Rd w 1 A m cs) (h1 : ∀ u ∈ cs, u.oneCell' = true) (hn : n < 18446744073709551616) (hm : m ≤ 100000000) :
    Calls Try.prog 16 #[.slice A m c, .int .u64 n] w fun e w' => ∃ v, e = .returned v ∧ Sts w w' (star (row 5 1 v (m + (putN n).length) (cs ++ ints .u8 (putN n))) emp) := by
  have HR := Asi.mk HR
  have HS := Asi.mk (Sts.start w)
  have H1 := Asi.mk h1
  have hlen := putN_len10 n hn
  clear h1
  go_enter Try.func16, Try.ntmps16
  go_wp2_with (refine at_dst (N := 6) rfl ?_; refine stop ?_)
  refine ⟨?_⟩
  refine at_op rfl fun K hK => ?_
  refine op_lit HS.out 5 1 0 [] (by first | (go_simp; done) | (go_simp; rfl) | (go_simp; simp [ints]; done)) (by first | rfl | simp [ints]) (by omega) ?_
  intro v1 w1 h
  refine hK _ _ ?_
  clear hK K
  have HS1 := Asi.mk h
  clear h HS
  go_wp2_with (refine at_dst (N := 8) rfl ?_; refine stop ?_)
  refine ⟨?_⟩
  refine at_op rfl fun K hK => ?_
  refine op_append 1 1 v1 0 [] 5 HS1.out (.tmp 6) (.tmp 7) 22 _ rfl Try.underlying22 infoU8 rfl (by omega) rfl A m c cs rfl (HR.out.below HS1.out.below) H1.out (by omega) (by omega) ?_
  intro v2 w2 h
  refine hK _ _ ?_
  clear hK K
  have HS2 := Asi.mk (show Sts w w2 (star (row 5 1 v2 m cs) emp) from by rw [Nat.zero_add] at h; exact h)
  clear h HS1
  go_wp2
  go_loopg [1, 5] (putN n).length (fun g x v wr => ∃ (j : Nat) (pre : List Int), j < 18446744073709551616 ∧ x = .int .u64 j ∧ g = (putN j).length ∧ Asi (putN n = pre ++ putN j) ∧ pre.length + (putN j).length = (putN n).length ∧ Asi (Sts w wr (star (row 5 1 v (m + pre.length) (cs ++ ints .u8 pre)) emp)))
  case atStart => exact ⟨n, [], hn, rfl, rfl, Asi.mk rfl, by simp, Asi.mk (by simpa [ints] using HS2.out)⟩
  case round =>
    clear HS2 HR
    obtain ⟨j, pre, hj, rfl, rfl, HP, hpl, HL⟩ := hrel
    by_cases hlt : j < 128
    · have HJ := Asi.mk (putN_small hlt)
      have hmod : (j : Int) % 256 = j := by omega
      have hge : ¬ (128 : Int) ≤ j := by omega
      go_wp2_with (refine at_dst (N := 23) rfl ?_; refine stop ?_)
      refine ⟨?_⟩
      refine at_op rfl fun K hK => ?_
      refine op_lit HL.out 5 1 1 (ints .u8 [(j : Int)]) (by first | (go_simp; done) | (go_simp; rfl) | (go_simp; simp [ints]; done)) (by first | rfl | simp [ints]) (by omega) ?_
      intro v3 w3 h
      refine hK _ _ ?_
      clear hK K
      have HS3 := Asi.mk h
      clear h
      obtain ⟨A3, c3, e3, _, _⟩ := HS3.out.row_rd
      subst e3
      go_wp2_with (refine at_dst (N := 24) rfl ?_; refine stop ?_)
      refine ⟨?_⟩
      refine at_op rfl fun K hK => ?_
      refine op_append 1 1 u5 (m + pre.length) (cs ++ ints .u8 pre) 5 HS3.out.swap (.tmp 20) (.tmp 23) 22 _ rfl Try.underlying22 infoU8 rfl (by omega) rfl A3 1 c3 (ints .u8 [(j : Int)]) rfl HS3.out.rd (ints_one _ _) (by omega) (by omega) ?_
      intro v4 w4 h
      refine hK _ _ ?_
      clear hK K
      have HS4 := Asi.mk h.drop2
      clear h HS3
      go_wp2
      go_ret
      refine ⟨_, rfl, ?_⟩
      rw [HP.out, HJ.out, List.length_append, ints_append, ← List.append_assoc, ← Nat.add_assoc]
      exact HS4.out
    · have HJ := Asi.mk (putN_big hlt)
      have hl2 : (putN (j / 128)).length + 1 = (putN j).length := by rw [HJ.out]; simp
      have hge : (128 : Int) ≤ j := by omega
      have hm1 : (j : Int) % 128 % 256 = j % 128 := by omega
      have hm2 : ((j : Int) % 128 + 128) % 256 = ((j % 128 + 128 : Nat) : Int) := by omega
      go_wp2_with (refine at_dst (N := 16) rfl ?_; refine stop ?_)
      refine ⟨?_⟩
      refine at_op rfl fun K hK => ?_
      refine op_lit HL.out 5 1 1 (ints .u8 [((j % 128 + 128 : Nat) : Int)]) (by first | (go_simp; done) | (go_simp; rfl) | (go_simp; simp [ints]; done)) (by first | rfl | simp [ints]) (by omega) ?_
      intro v3 w3 h
      refine hK _ _ ?_
      clear hK K
      have HS3 := Asi.mk h
      clear h
      obtain ⟨A3, c3, e3, _, _⟩ := HS3.out.row_rd
      subst e3
      go_wp2_with (refine at_dst (N := 17) rfl ?_; refine stop ?_)
      refine ⟨?_⟩
      refine at_op rfl fun K hK => ?_
      refine op_append 1 1 u5 (m + pre.length) (cs ++ ints .u8 pre) 5 HS3.out.swap (.tmp 11) (.tmp 16) 22 _ rfl Try.underlying22 infoU8 rfl (by omega) rfl A3 1 c3 (ints .u8 [((j % 128 + 128 : Nat) : Int)]) rfl HS3.out.rd (ints_one _ _) (by omega) (by omega) ?_
      intro v4 w4 h
      refine hK _ _ ?_
      clear hK K
      have HS4 := Asi.mk h.drop2
      clear h HS3
      go_wp2
      go_roundg (putN (j / 128)).length
      case measure => omega
      case rel =>
        refine ⟨j / 128, pre ++ [((j % 128 + 128 : Nat) : Int)], by omega, by simp, rfl, Asi.mk (by rw [HP.out, HJ.out]; simp), by simp; omega, Asi.mk ?_⟩
        rw [List.length_append, ints_append, ← List.append_assoc, ← Nat.add_assoc]
        exact HS4.out

set_option maxHeartbeats 1000000 in
theorem rputtext_calls (A : Option Addr) (m c : Nat) (cs : List Value) (s : ByteArray) (w : World) (HR : Rd w 1 A m cs) (h1 : ∀ u ∈ cs, u.oneCell' = true) (hn : s.size ≤ 100000000) (hm : m ≤ 100000000) :
    Calls Try.prog 17 #[.slice A m c, .string s] w fun e w' => ∃ v, e = .returned v ∧ Sts w w' (star (row 5 1 v (m + (putN s.size).length + s.size) (cs ++ ints .u8 (putN s.size) ++ ints .u8 (chars s))) emp) := by
  have HR := Asi.mk HR
  have H1 := Asi.mk h1
  clear h1
  have hlen := putN_len10 s.size (by omega)
  go_enter Try.func17, Try.ntmps17
  go_wp2_with (refine at_dst (N := 9) rfl ?_; refine stop ?_)
  refine ⟨?_⟩
  refine at_op rfl fun K hK => ?_
  refine op_call (rput_calls A m c cs s.size w HR.out H1.out (by omega) hm) Try.func16 (by kernel_rfl) rfl rfl ?hargs ?_
  case hargs => (try simp only [List.map_toArray, List.map_cons, List.map_nil]); first | done | rfl
  rintro e w1 ⟨v1, rfl, h⟩
  refine ⟨_, rfl, ?_⟩
  refine hK _ _ ?_
  clear hK K
  have HS := Asi.mk h
  clear h
  go_wp2_with (refine at_dst (N := 11) rfl ?_; refine stop ?_)
  refine ⟨?_⟩
  refine at_op rfl fun K hK => ?_
  refine op_bytes HS.out s rfl Try.underlying9 Try.underlying22 Try.underlying5 rfl ?_
  intro w2 A2 c2 h hr
  refine hK _ _ ?_
  clear hK K
  have HS2 := Asi.mk h
  have HR2 := Asi.mk (strCells_chars s ▸ hr)
  clear h HS hr
  go_wp2_with (refine at_dst (N := 12) rfl ?_; refine stop ?_)
  refine ⟨?_⟩
  refine at_op rfl fun K hK => ?_
  refine op_append 1 1 v1 (m + (putN s.size).length) (cs ++ ints .u8 (putN s.size)) 5 HS2.out (.tmp 9) (.tmp 11) 22 _ rfl Try.underlying22 infoU8 rfl (by omega) rfl A2 s.size c2 (ints .u8 (chars s)) rfl HR2.out (ints_one _ _) (by omega) (by omega) ?_
  intro v3 w3 h
  refine hK _ _ ?_
  clear hK K
  have HS3 := Asi.mk h
  clear h HS2
  go_wp2
  go_ret
  exact ⟨_, rfl, HS3.out⟩

theorem put_300 : putN 300 = [172, 2] := by decide +kernel
theorem put_2 : putN 2 = [2] := by decide +kernel
set_option maxHeartbeats 1000000 in
theorem lives1_calls (w : World) : Calls Try.prog 13 #[] w fun e w' => e = .returned (.bool true) ∧ Sts w w' emp := by
  have hp := put_calls none 0 0 [] 300 w (Rd.nil _ _ _) (fun u hu => by simp at hu) (by omega) (by omega)
  rw [put_300] at hp
  have HP := Asi.mk hp
  have ht := fun w => puttext_calls none 0 0 [] "ab".toUTF8 w (Rd.nil _ _ _) (fun u hu => by simp at hu) (by decide) (by omega)
  rw [show "ab".toUTF8.size = 2 from rfl, put_2, show chars "ab".toUTF8 = [97, 98] by decide +kernel] at ht
  have HT := Asi.mk ht
  clear hp ht
  have hq : ((strOfNums [172, 2]).toList == [172, 2]) = true := by decide +kernel
  have hq2 : ((strOfNums [2, 97, 98]).toList == [2, 97, 98]) = true := by decide +kernel
  go_enter Try.func13, Try.ntmps13
  go_wp2_with (refine at_dst (N := 2) rfl ?_; refine stop ?_)
  refine ⟨?_⟩
  refine at_op rfl fun K hK => ?_
  refine op_call HP.out Try.func14 (by kernel_rfl) rfl rfl ?hargs ?_
  case hargs => (try simp only [List.map_toArray, List.map_cons, List.map_nil]); first | done | rfl
  rintro e w1 ⟨v1, rfl, h⟩
  refine ⟨_, rfl, ?_⟩
  refine hK _ _ ?_
  clear hK K
  have HS := Asi.mk h
  clear h HP
  obtain ⟨A1, c1, e1, _, _⟩ := HS.out.row_rd
  subst e1
  go_wp2_with (refine at_dst (N := 4) rfl ?_; refine stop ?_)
  refine ⟨?_⟩
  refine at_op rfl fun K hK => ?_
  refine op_str (l := ([172, 2])) rfl Try.underlying22 Try.underlying5 Try.underlying9 rfl HS.out.rd ?_
  refine hK _ _ ?_
  clear hK K
  go_wp2_with (refine at_dst (N := 7) rfl ?_; refine stop ?_)
  refine ⟨?_⟩
  refine at_opG rfl fun K hK => ?_
  refine op_call (HT.out w1) Try.func15 (by kernel_rfl) rfl rfl ?hargs ?_
  case hargs => (try simp only [List.map_toArray, List.map_cons, List.map_nil]); first | done | rfl
  rintro e w2 ⟨v2, rfl, h⟩
  refine ⟨_, rfl, ?_⟩
  refine hK _ _ ?_
  clear hK K
  have HS2 := Asi.mk h
  clear h HT
  obtain ⟨A2, c2, e2, _, _⟩ := HS2.out.row_rd
  subst e2
  go_wp2_with (refine at_dst (N := 8) rfl ?_; refine stop ?_)
  refine ⟨?_⟩
  refine at_opG rfl fun K hK => ?_
  refine op_str (l := ([2, 97, 98])) rfl Try.underlying22 Try.underlying5 Try.underlying9 rfl HS2.out.rd ?_
  refine hK _ _ ?_
  clear hK K
  go_wp2
  go_ret
  exact ⟨rfl, (HS.out.join HS2.out).mono (Ent.emp _)⟩

theorem byte_xor (c : Nat) (h : c < 256) : c ^^^ 85 < 256 := xlt8 h (by omega)
set_option maxHeartbeats 1000000 in
theorem spoil_calls (v : Value) (l : List Int) (w0 w : World) (R : HP) (HS : Sts w0 w (star (row 5 1 v l.length (ints .u8 l)) R)) (hb : Byts l) (hl : l.length ≤ 100000000) :
    Calls Try.prog 18 #[v] w fun e w' => (∃ u, e = .returned u) ∧ ∃ l' : List Int, Byts l' ∧ l'.length = l.length ∧ Sts w0 w' (star (row 5 1 v l.length (ints .u8 l')) R) := by
  obtain ⟨A, c, e, hc, _⟩ := HS.row_rd
  subst e
  have HS := Asi.mk HS
  have HB := Asi.mk hb
  clear hb
  go_enter Try.func18, Try.ntmps18
  go_wp2
  go_loopg [5] l.length (fun g x wr => ∃ (k : Nat) (l' : List Int), k ≤ l.length ∧ g = l.length - k ∧ x = .int .i64 k ∧ l'.length = l.length ∧ Asi (Byts l') ∧ Asi (Sts w0 wr (star (row 5 1 (.slice A l.length c) l.length (ints .u8 l')) R)))
  case atStart => exact ⟨0, l, Nat.zero_le _, rfl, rfl, rfl, HB, HS⟩
  case round =>
    clear HS HB
    obtain ⟨k, l', hk, rfl, rfl, hl', HB, HS⟩ := hrel
    by_cases hlt : k < l.length
    · obtain ⟨g, cap, e, hg⟩ := HS.out.row_pos (by omega)
      injection e with eA _ ec
      subst eA
      subst ec
      obtain ⟨ad, e, hcell⟩ := rd_at HS.out.rd (i := k) (by omega)
      injection e with e
      subst e
      obtain ⟨z, hz, hz2⟩ := HB.out.get k (by omega)
      rw [hz, add_head] at hcell
      have hfr := row_frozen HS.out.row_own k
      have hx8 : Go.bits .xor .u8 (z : Int) 85 = ((z ^^^ 85 : Nat) : Int) := xor8 z 85 hz2 (by omega)
      have hlt' : z ^^^ 85 < 256 := byte_xor z hz2
      go_wp2
      go_roundg (l.length - (k + 1))
      case measure => omega
      case rel => exact ⟨k + 1, l'.set k ((z ^^^ 85 : Nat) : Int), by omega, rfl, by simp, by simp [hl'], Asi.mk (by intro x hx; rcases List.mem_or_eq_of_mem_set hx with h | h; exact HB.out x h; omega), Asi.mk (by rw [ints_set]; exact HS.out.row_set k hlt _)⟩
    · go_wp2
      refine bodyPost_end (results_none rfl _ _ _) rfl ?_
      exact ⟨⟨_, rfl⟩, l', HB.out, hl', HS.out⟩
end Go.Proofs.Ytahecnlglcfddaa
