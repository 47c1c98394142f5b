/-
  The walks of spans.Place and of the reference's: line and column of a byte.
-/
import Derived.Test.YtmdobaplndlhhaaSpansShelf
namespace Go.Proofs.Ytmdobaplndlhhaa
open Go.RowKit
set_option linter.unusedVariables false

theorem countP_le (m c : Nat) (h : c < m) : (List.range m).countP (fun i => decide (i ≤ c)) = c + 1 := by
  induction m with
  | zero => omega
  | succ m ih =>
    rw [List.range_succ, List.countP_append]
    by_cases e : c < m
    · rw [ih e]; simp; omega
    · have : c = m := by omega
      subst this
      have h1 : (List.range c).countP (fun i => decide (i ≤ c)) = (List.range c).length := by
        rw [List.countP_eq_length]; intro x hx; simp at hx ⊢; omega
      rw [h1]; simp

def stA (s : ByteArray) : Array Int := ((List.range (nl s s.size + 1)).map (fun k => (pos s s.size k : Int))).toArray
theorem stA_size (s : ByteArray) : (stA s).size = nl s s.size + 1 := by simp [stA]
theorem stA_get (s : ByteArray) {k : Nat} (h : k ≤ nl s s.size) : (stA s)[k]! = (pos s s.size k : Int) := by
  have hk : k < (stA s).size := by rw [stA_size]; omega
  rw [getElem!_pos (stA s) k hk]
  simp [stA]
theorem stA_count (s : ByteArray) {i : Nat} (hi : i ≤ s.size) : (stA s).toList.countP (fun y => !decide ((i : Int) + 1 ≤ y)) = nl s i + 1 := by
  have hm := nl_mono s hi
  unfold stA
  rw [List.toList_toArray, List.countP_map, ← countP_le (nl s s.size + 1) (nl s i) (by omega)]
  apply List.countP_congr
  intro k hk
  simp only [List.mem_range] at hk
  have := pos_le_iff s hi (show k ≤ nl s s.size by omega)
  simp only [Function.comp, Bool.not_eq_true', decide_eq_false_iff_not, decide_eq_true_eq]
  omega

/-- sort.SearchInts, where lines begin. -/
theorem search_st (s : ByteArray) (i g cap : Nat) (w : World) (hs : s.size ≤ 1048576) (hi : i ≤ s.size) (hg : g < w.heap.size) (hr : RowAt w s ⟨g, 0, none⟩) :
    Calls Try.prog 21 #[.slice (some ⟨g, 0, none⟩) (nl s s.size + 1) cap, .int .i64 ((i : Int) + 1)] w fun e w' => e = .returned (.int .i64 ((nl s i : Int) + 1)) ∧ Below w.heap.size w w' := by
  have hnl := nl_le s s.size
  have h := search_any g cap (stA s) ((i : Int) + 1) w (fun k hk => by
      rw [stA_size] at hk
      rw [stA_get s (by omega), Nat.zero_add]
      have := hr k (by omega)
      have e : (⟨g, 0, none⟩ : Addr).add k = ⟨g, k, none⟩ := by unfold Addr.add; split <;> simp_all
      rwa [e] at this) hg (by rw [stA_size]; omega) (fun a b hab hb ha => by
      rw [stA_size] at hb
      rw [stA_get s (by omega)] at ha ⊢
      simp only [decide_eq_true_eq] at ha ⊢
      by_cases e : a = b
      · rw [← e]; exact ha
      · have := pos_lt s (n := s.size) (k := a) (k' := b) (by omega) (by omega)
        omega)
  rw [stA_size, stA_count s hi] at h
  exact h

set_option maxRecDepth 100000 in
set_option maxHeartbeats 1000000 in
theorem place_out (s : ByteArray) (i : Int) (w : World) (h : i < 0 ∨ (s.size : Int) < i) :
    Calls Try.prog 14 #[.string s, .int .i64 i] w fun e w' => e = .returned (.tuple #[.int .i64 0, .int .i64 0, .int .i64 1]) ∧ Below w.heap.size w w' := by
  rcases h with h | h
  · go_enter Try.func14, Try.ntmps14
    go_wp2
    go_ret3
    exact ⟨rfl, Below.refl _ _⟩
  · have h0 : (0 : Int) ≤ i := by omega
    go_enter Try.func14, Try.ntmps14
    go_wp2
    go_ret3
    exact ⟨rfl, Below.refl _ _⟩
set_option maxRecDepth 100000 in
set_option maxHeartbeats 1000000 in
theorem rplace_out (s : ByteArray) (i : Int) (w : World) (h : i < 0 ∨ (s.size : Int) < i) :
    Calls Try.prog 15 #[.string s, .int .i64 i] w fun e w' => e = .returned (.tuple #[.int .i64 0, .int .i64 0, .int .i64 1]) ∧ Below w.heap.size w w' := by
  rcases h with h | h
  · go_enter Try.func15, Try.ntmps15
    go_wp2
    go_ret3
    exact ⟨rfl, Below.refl _ _⟩
  · have h0 : (0 : Int) ≤ i := by omega
    go_enter Try.func15, Try.ntmps15
    go_wp2
    go_ret3
    exact ⟨rfl, Below.refl _ _⟩

set_option maxRecDepth 100000 in
set_option maxHeartbeats 1000000 in
theorem place_in (s : ByteArray) (i : Nat) (w : World) (hs : s.size ≤ 1048576) (hi : i ≤ s.size) :
    Calls Try.prog 14 #[.string s, .int .i64 i] w fun e w' => e = .returned (.tuple #[.int .i64 ((nl s i : Int) + 1), .int .i64 ((i : Int) - (ls s i : Nat) + 1), .int .i64 0]) ∧ Below w.heap.size w w' := by
  have HL := Lib.hid (fun W => lines_at s W hs)
  have HSE := Lib.hid (fun g cap W => search_st s i g cap W hs hi)
  have hnl := nl_le s s.size
  have hm := nl_mono s hi
  have hls := ls_le s i
  have HPN := Lib.hid (pos_nl s hi)
  go_enter Try.func14, Try.ntmps14
  go_wp2_with fail
  refine (HL.out _).mono ?_
  rintro e w1 ⟨a, cap, rfl, ⟨g, hg⟩, ha, hr, hb⟩
  have HR := Lib.hid hr
  have HG := Lib.hid hg
  clear hr hg
  go_wp2_with fail
  rw [HG.out] at ha HR ⊢
  refine (HSE.out g cap _ ha HR.out).mono ?_
  rintro e w2 ⟨rfl, hb2⟩
  have c0 := RowAt.below hb2 HR.out ha (nl s i) hm
  rw [HPN.out, ← HG.out] at c0
  rw [← HG.out]
  clear HR HG HPN HL HSE ha
  generalize nl s s.size = M at *
  generalize hNN : nl s i = N at *
  generalize hLL : ls s i = L at *
  have HNN := Lib.hid hNN
  have HLL := Lib.hid hLL
  clear hNN hLL
  have b0 : (0 : Int) ≤ (N : Int) := by omega
  have b1 : (N : Int) < (M : Int) + 1 := by omega
  have b4 : N < M + 1 := by omega
  have b6 : IntKind.i64.wrap ((N : Int) + 1 - 1) = (N : Int) := by rw [wrap_id (by omega) (by omega)]; omega
  have b8 : IntKind.i64.wrap (N : Int) = (N : Int) := wrap_id (by omega) (by omega)
  have b9 : IntKind.i64.wrap ((i : Int) - (L : Int)) = (i : Int) - (L : Int) := wrap_id (by omega) (by omega)
  have b10 : IntKind.i64.wrap ((i : Int) - (L : Int) + 1) = (i : Int) - (L : Int) + 1 := wrap_id (by omega) (by omega)
  go_wp2
  go_quiet (fail)
  go_wp2
  go_ret3
  exact ⟨by rw [HNN.out, HLL.out]; rfl, below_drewN (hb.trans (hb2.mono hb.size)) _⟩

set_option maxRecDepth 100000 in
set_option maxHeartbeats 1000000 in
theorem rplace_in (s : ByteArray) (i : Nat) (w : World) (hs : s.size ≤ 1048576) (hi : i ≤ s.size) :
    Calls Try.prog 15 #[.string s, .int .i64 i] w fun e w' => e = .returned (.tuple #[.int .i64 ((nl s i : Int) + 1), .int .i64 ((i : Int) - (ls s i : Nat) + 1), .int .i64 0]) ∧ Below w.heap.size w w' := by
  have g0 : (0 : Int) ≤ (i : Int) := by omega
  have g1 : (i : Int) ≤ (s.size : Int) := by omega
  go_enter Try.func15, Try.ntmps15
  go_wp2
  go_loop [7, 8, 9] (fun a b c => ∃ j : Nat, j ≤ i ∧ a = .int .i64 ((nl s j : Int) + 1) ∧ b = .int .i64 ((j : Int) - (ls s j : Nat) + 1) ∧ c = .int .i64 j) (fun _ _ c => i - (intOf c).toNat)
  case atStart => exact ⟨0, Nat.zero_le _, rfl, rfl, rfl⟩
  case round =>
    obtain ⟨j, hj, rfl, rfl, rfl⟩ := hrel
    have hnl := nl_le s j
    have hls := ls_le s j
    by_cases hlt : j < i
    · have hlt2 : j < s.size := by omega
      cases hn : NL s j with
      | true =>
        have q1 : s[j].toNat = 10 := nl_yes hlt2 hn
        have HN := Lib.hid (nl_succ_yes hn)
        have HS := Lib.hid (ls_succ_yes hn)
        clear hn
        go_wp2
        go_round
        case rel => exact ⟨j + 1, by omega, by rw [HN.out]; go_num, by rw [HS.out]; congr 1; omega, by go_num⟩
        case measure => simp [intOf]; omega
      | false =>
        have q1 : s[j].toNat ≠ 10 := nl_no hlt2 hn
        have HN := Lib.hid (nl_succ_no hn)
        have HS := Lib.hid (ls_succ_no hn)
        clear hn
        go_wp2
        go_round
        case rel => exact ⟨j + 1, by omega, by rw [HN.out], by rw [HS.out]; congr 1; omega, by go_num⟩
        case measure => simp [intOf]; omega
    · obtain rfl : j = i := by omega
      go_wp2
      go_ret3
      exact ⟨rfl, Below.refl _ _⟩
end Go.Proofs.Ytmdobaplndlhhaa
