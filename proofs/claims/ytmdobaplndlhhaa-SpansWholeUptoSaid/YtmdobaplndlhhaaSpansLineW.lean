/-
  The walks of spans.Line and Offset, and of the reference's Line, Offset, Ints.
-/
import Derived.Test.YtmdobaplndlhhaaSpansBounds
namespace Go.Proofs.Ytmdobaplndlhhaa
open Go.RowKit
set_option linter.unusedVariables false

set_option maxRecDepth 100000 in
set_option maxHeartbeats 1000000 in
theorem line_in (s : ByteArray) (k : Nat) (w : World) (hs : s.size ≤ 1048576) (hk : k ≤ nl s s.size) :
    Calls Try.prog 8 #[.string s, .int .i64 ((k : Int) + 1)] w fun e w' => e = .returned (.tuple #[.string (s.extract (pos s s.size k) (fin s s.size k)), .int .i64 0]) ∧ Below w.heap.size w w' := by
  have HB := Lib.hid (fun W => bounds_in s k W hs hk)
  have h1 := (fin_le s hk).1
  have h2 := (fin_le s hk).2
  generalize pos s s.size k = P at *
  generalize fin s s.size k = F at *
  have g1 : (P : Int) ≤ (F : Int) := by omega
  have g2 : (F : Int) ≤ (s.size : Int) := by omega
  have g3 : (0 : Int) ≤ (F : Int) := by omega
  have g4 : (0 : Int) ≤ (P : Int) := by omega
  go_enter Try.func8, Try.ntmps8
  go_wp2_with fail
  refine (HB.out _).mono ?_
  rintro e w1 ⟨rfl, hb⟩
  go_wp2
  go_ret2
  exact ⟨rfl, hb⟩

set_option maxRecDepth 100000 in
set_option maxHeartbeats 1000000 in
theorem line_out (s : ByteArray) (line : Int) (w : World) (hs : s.size ≤ 1048576) (h : line < 1 ∨ (nl s s.size : Int) + 1 < line) :
    Calls Try.prog 8 #[.string s, .int .i64 line] w fun e w' => e = .returned (.tuple #[.string ⟨#[]⟩, .int .i64 1]) ∧ Below w.heap.size w w' := by
  have HB := Lib.hid (fun W => bounds_out s line W hs h)
  clear h
  go_enter Try.func8, Try.ntmps8
  go_wp2_with fail
  refine (HB.out _).mono ?_
  rintro e w1 ⟨rfl, hb⟩
  go_wp2
  go_ret2
  exact ⟨rfl, hb⟩

set_option maxRecDepth 100000 in
set_option maxHeartbeats 1000000 in
theorem rline_out (s : ByteArray) (line : Int) (w : World) (hs : s.size ≤ 1048576) (h : line < 1 ∨ (nl s s.size : Int) + 1 < line) :
    Calls Try.prog 9 #[.string s, .int .i64 line] w fun e w' => e = .returned (.tuple #[.string ⟨#[]⟩, .int .i64 1]) ∧ Below w.heap.size w w' := by
  have HL := Lib.hid (fun W => rlines_at s W hs)
  have hnl := nl_le s s.size
  generalize nl s s.size = M at *
  rcases h with h | h
  · go_enter Try.func9, Try.ntmps9
    go_wp2_with fail
    refine (HL.out _).mono ?_
    rintro e w1 ⟨a, cap, rfl, hg, ha, hr, hb⟩
    have HR := Lib.hid hr
    clear hr hg
    go_wp2
    go_ret2
    exact ⟨rfl, hb⟩
  · have h1 : (1 : Int) ≤ line := by omega
    go_enter Try.func9, Try.ntmps9
    go_wp2_with fail
    refine (HL.out _).mono ?_
    rintro e w1 ⟨a, cap, rfl, hg, ha, hr, hb⟩
    have HR := Lib.hid hr
    clear hr hg
    go_wp2
    go_ret2
    exact ⟨rfl, hb⟩

set_option maxRecDepth 100000 in
set_option maxHeartbeats 1000000 in
theorem rline_in (s : ByteArray) (k : Nat) (w : World) (hs : s.size ≤ 1048576) (hk : k ≤ nl s s.size) :
    Calls Try.prog 9 #[.string s, .int .i64 ((k : Int) + 1)] w fun e w' => e = .returned (.tuple #[.string (s.extract (pos s s.size k) (fin s s.size k)), .int .i64 0]) ∧ Below w.heap.size w w' := by
  have HL := Lib.hid (fun W => rlines_at s W hs)
  have hnl := nl_le s s.size
  have hp := (pos_fix s hk).1
  have HNP := Lib.hid (pos_fix s hk).2.1
  have HFO := Lib.hid (fun j (h1 : j ≤ s.size) (h2 : nl s j = k) (h3 : j = s.size ∨ NL s j = true) => fin_of s h1 h2 h3 (by omega))
  go_enter Try.func9, Try.ntmps9
  go_wp2_with fail
  refine (HL.out _).mono ?_
  rintro e w1 ⟨a, cap, rfl, hg, ha, hr, hb⟩
  have c0 := hr k hk
  clear hr hg
  generalize nl s s.size = M at *
  generalize hPP : pos s s.size k = P at *
  have HPP := Lib.hid hPP
  clear hPP
  go_wp2
  go_loop [8] (fun i => ∃ j : Nat, P ≤ j ∧ j ≤ s.size ∧ i = .int .i64 j ∧ nl s j = k) (fun i => s.size - (intOf i).toNat)
  case atStart => exact ⟨P, Nat.le_refl _, hp, rfl, HNP.out⟩
  case round =>
    obtain ⟨j, hj0, hj, rfl, hjk⟩ := hrel
    have HJK := Lib.hid hjk
    clear hjk
    have g1 : (P : Int) ≤ (j : Int) := by omega
    have g2 : (j : Int) ≤ (s.size : Int) := by omega
    have g3 : (0 : Int) ≤ (j : Int) := by omega
    have g4 : (0 : Int) ≤ (P : Int) := by omega
    by_cases hlt : j < s.size
    · cases hn : NL s j with
      | true =>
        have HF := Lib.hid (HFO.out j hj HJK.out (.inr hn))
        have q1 : s[j].toNat = 10 := nl_yes hlt hn
        clear hn
        go_wp2
        go_ret2
        exact ⟨by rw [HPP.out, HF.out]; rfl, hb⟩
      | false =>
        have HN := Lib.hid (nl_succ_no hn)
        have q1 : s[j].toNat ≠ 10 := nl_no hlt hn
        clear hn
        go_wp2
        go_round
        case rel => exact ⟨j + 1, by omega, by omega, by go_num, by rw [HN.out]; exact HJK.out⟩
        case measure => simp [intOf]; omega
    · obtain rfl : j = s.size := by omega
      have HF := Lib.hid (HFO.out _ hj HJK.out (.inl rfl))
      go_wp2
      go_ret2
      exact ⟨by rw [HPP.out, HF.out]; rfl, hb⟩

set_option maxRecDepth 100000 in
set_option maxHeartbeats 1000000 in
theorem off_out (s : ByteArray) (line col : Int) (w : World) (hs : s.size ≤ 1048576) (h : line < 1 ∨ (nl s s.size : Int) + 1 < line) :
    Calls Try.prog 18 #[.string s, .int .i64 line, .int .i64 col] w fun e w' => e = .returned (.tuple #[.int .i64 0, .int .i64 1]) ∧ Below w.heap.size w w' := by
  have HB := Lib.hid (fun W => bounds_out s line W hs h)
  clear h
  go_enter Try.func18, Try.ntmps18
  go_wp2_with fail
  refine (HB.out _).mono ?_
  rintro e w1 ⟨rfl, hb⟩
  go_wp2
  go_ret2
  exact ⟨rfl, hb⟩
set_option maxRecDepth 100000 in
set_option maxHeartbeats 1000000 in
theorem roff_out (s : ByteArray) (line col : Int) (w : World) (hs : s.size ≤ 1048576) (h : line < 1 ∨ (nl s s.size : Int) + 1 < line) :
    Calls Try.prog 19 #[.string s, .int .i64 line, .int .i64 col] w fun e w' => e = .returned (.tuple #[.int .i64 0, .int .i64 1]) ∧ Below w.heap.size w w' := by
  have HB := Lib.hid (fun W => rline_out s line W hs h)
  clear h
  go_enter Try.func19, Try.ntmps19
  go_wp2_with fail
  refine (HB.out _).mono ?_
  rintro e w1 ⟨rfl, hb⟩
  go_wp2
  go_ret2
  exact ⟨rfl, hb⟩

set_option maxRecDepth 100000 in
set_option maxHeartbeats 1000000 in
theorem off_col (s : ByteArray) (k : Nat) (col : Int) (w : World) (hs : s.size ≤ 1048576) (hk : k ≤ nl s s.size) (h : col < 1 ∨ (fin s s.size k : Int) - (pos s s.size k : Nat) + 1 < col) :
    Calls Try.prog 18 #[.string s, .int .i64 ((k : Int) + 1), .int .i64 col] w fun e w' => e = .returned (.tuple #[.int .i64 0, .int .i64 1]) ∧ Below w.heap.size w w' := by
  have HB := Lib.hid (fun W => bounds_in s k W hs hk)
  have h1 := (fin_le s hk).1
  have h2 := (fin_le s hk).2
  generalize pos s s.size k = P at *
  generalize fin s s.size k = F at *
  rcases h with h | h
  · go_enter Try.func18, Try.ntmps18
    go_wp2_with fail
    refine (HB.out _).mono ?_
    rintro e w1 ⟨rfl, hb⟩
    go_wp2
    go_ret2
    exact ⟨rfl, hb⟩
  · have h3 : (1 : Int) ≤ col := by omega
    go_enter Try.func18, Try.ntmps18
    go_wp2_with fail
    refine (HB.out _).mono ?_
    rintro e w1 ⟨rfl, hb⟩
    go_wp2
    go_ret2
    exact ⟨rfl, hb⟩
set_option maxRecDepth 100000 in
set_option maxHeartbeats 1000000 in
theorem roff_col (s : ByteArray) (k : Nat) (col : Int) (w : World) (hs : s.size ≤ 1048576) (hk : k ≤ nl s s.size) (h : col < 1 ∨ (fin s s.size k : Int) - (pos s s.size k : Nat) + 1 < col) :
    Calls Try.prog 19 #[.string s, .int .i64 ((k : Int) + 1), .int .i64 col] w fun e w' => e = .returned (.tuple #[.int .i64 0, .int .i64 1]) ∧ Below w.heap.size w w' := by
  have HB := Lib.hid (fun W => rline_in s k W hs hk)
  have h1 := (fin_le s hk).1
  have h2 := (fin_le s hk).2
  have hsz : (s.extract (pos s s.size k) (fin s s.size k)).size = fin s s.size k - pos s s.size k := by rw [ByteArray.size_extract]; omega
  generalize pos s s.size k = P at *
  generalize fin s s.size k = F at *
  generalize s.extract P F = T at *
  rcases h with h | h
  · go_enter Try.func19, Try.ntmps19
    go_wp2_with fail
    refine (HB.out _).mono ?_
    rintro e w1 ⟨rfl, hb⟩
    go_wp2
    go_ret2
    exact ⟨rfl, hb⟩
  · have h3 : (1 : Int) ≤ col := by omega
    have h4 : (T.size : Int) + 1 < col := by omega
    have h5 : T.size ≤ 1048576 := by omega
    clear h hsz
    go_enter Try.func19, Try.ntmps19
    go_wp2_with fail
    refine (HB.out _).mono ?_
    rintro e w1 ⟨rfl, hb⟩
    go_wp2
    go_ret2
    exact ⟨rfl, hb⟩

set_option maxRecDepth 100000 in
set_option maxHeartbeats 1000000 in
theorem off_in (s : ByteArray) (k c : Nat) (w : World) (hs : s.size ≤ 1048576) (hk : k ≤ nl s s.size) (hc : c ≤ fin s s.size k - pos s s.size k) :
    Calls Try.prog 18 #[.string s, .int .i64 ((k : Int) + 1), .int .i64 ((c : Int) + 1)] w fun e w' => e = .returned (.tuple #[.int .i64 ((pos s s.size k : Int) + (c : Int)), .int .i64 0]) ∧ Below w.heap.size w w' := by
  have HB := Lib.hid (fun W => bounds_in s k W hs hk)
  have h1 := (fin_le s hk).1
  have h2 := (fin_le s hk).2
  generalize pos s s.size k = P at *
  generalize fin s s.size k = F at *
  go_enter Try.func18, Try.ntmps18
  go_wp2_with fail
  refine (HB.out _).mono ?_
  rintro e w1 ⟨rfl, hb⟩
  have HE1 := Lib.hid (show (P : Int) + ((c : Int) + 1) - 1 = (P : Int) + (c : Int) by omega)
  go_wp2
  go_ret2
  exact ⟨by rw [← HE1.out]; rfl, hb⟩
set_option maxRecDepth 100000 in
set_option maxHeartbeats 1000000 in
theorem roff_in (s : ByteArray) (k c : Nat) (w : World) (hs : s.size ≤ 1048576) (hk : k ≤ nl s s.size) (hc : c ≤ fin s s.size k - pos s s.size k) :
    Calls Try.prog 19 #[.string s, .int .i64 ((k : Int) + 1), .int .i64 ((c : Int) + 1)] w fun e w' => e = .returned (.tuple #[.int .i64 ((pos s s.size k : Int) + (c : Int)), .int .i64 0]) ∧ Below w.heap.size w w' := by
  have HB := Lib.hid (fun W => rline_in s k W hs hk)
  have HL := Lib.hid (fun W => rlines_at s W hs)
  have h1 := (fin_le s hk).1
  have h2 := (fin_le s hk).2
  have hnl := nl_le s s.size
  have hsz : (s.extract (pos s s.size k) (fin s s.size k)).size = fin s s.size k - pos s s.size k := by rw [ByteArray.size_extract]; omega
  generalize s.extract (pos s s.size k) (fin s s.size k) = T at *
  have hT : c ≤ T.size := by omega
  have hT2 : T.size ≤ 1048576 := by omega
  clear hsz hc
  go_enter Try.func19, Try.ntmps19
  go_wp2_with fail
  refine (HB.out _).mono ?_
  rintro e w1 ⟨rfl, hb⟩
  go_wp2_with fail
  refine (HL.out _).mono ?_
  rintro e w2 ⟨a, cap, rfl, hg, ha, hr, hb2⟩
  have c0 := hr k hk
  clear hr hg
  generalize nl s s.size = M at *
  generalize hPP : pos s s.size k = P at *
  have HPP := Lib.hid hPP
  clear hPP
  have HE1 := Lib.hid (show (P : Int) + ((c : Int) + 1) - 1 = (P : Int) + (c : Int) by omega)
  go_wp2
  go_ret2
  exact ⟨by rw [HPP.out, ← HE1.out]; rfl, hb.trans (hb2.mono hb.size)⟩
end Go.Proofs.Ytmdobaplndlhhaa
