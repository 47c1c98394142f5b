/-
  The walks of spans.bounds, Line, Offset.
-/
import Derived.Test.YtmdobaplndlhhaaSpansLinesW
import Derived.Deep.QuietTactic
import Derived.BigQuiet
import Derived.Laws.BitsLemmas
namespace Go.Proofs.Ytmdobaplndlhhaa
open Go.RowKit
set_option linter.unusedVariables false

theorem wrap_id {x : Int} (h : -9223372036854775808 ≤ x) (h' : x ≤ 9223372036854775807) : IntKind.i64.wrap x = x := by rw [IntKind.wrap_i64]; omega
theorem add_off (p : Addr) (i : Nat) : p.add (i + 1) = ⟨p.block, p.off + (i + 1), none⟩ := by simp [Addr.add]
theorem below_drewN {B : Nat} {a w : World} (h : Below B a w) (n : Nat) : Below B a (w.drewN n) := ⟨h.os, h.tape, h.output, h.size, h.block⟩

set_option maxRecDepth 100000 in
set_option maxHeartbeats 1000000 in
theorem bounds_out (s : ByteArray) (line : Int) (w : World) (hs : s.size ≤ 1048576) (h : line < 1 ∨ (nl s s.size : Int) + 1 < line) :
    Calls Try.prog 20 #[.string s, .int .i64 line] w fun e w' => e = .returned (.tuple #[.int .i64 0, .int .i64 0, .bool false]) ∧ Below w.heap.size w w' := by
  have HL := Lib.hid (fun W => lines_at s W hs)
  have hnl := nl_le s s.size
  generalize nl s s.size = M at *
  rcases h with h | h
  · go_enter Try.func20, Try.ntmps20
    go_wp2_with fail
    refine (HL.out _).mono ?_
    rintro e w1 ⟨a, cap, rfl, hg, ha, hr, hb⟩
    have HR := Lib.hid hr
    clear hr hg
    go_wp2
    go_ret3
    exact ⟨rfl, hb⟩
  · have h1 : (1 : Int) ≤ line := by omega
    go_enter Try.func20, Try.ntmps20
    go_wp2_with fail
    refine (HL.out _).mono ?_
    rintro e w1 ⟨a, cap, rfl, hg, ha, hr, hb⟩
    have HR := Lib.hid hr
    clear hr hg
    go_wp2
    go_ret3
    exact ⟨rfl, hb⟩

set_option maxRecDepth 100000 in
set_option maxHeartbeats 1000000 in
theorem bounds_in (s : ByteArray) (k : Nat) (w : World) (hs : s.size ≤ 1048576) (hk : k ≤ nl s s.size) :
    Calls Try.prog 20 #[.string s, .int .i64 ((k : Int) + 1)] w fun e w' => e = .returned (.tuple #[.int .i64 (pos s s.size k : Nat), .int .i64 (fin s s.size k : Nat), .bool true]) ∧ Below w.heap.size w w' := by
  have HL := Lib.hid (fun W => lines_at s W hs)
  have hnl := nl_le s s.size
  have hp := (pos_fix s hk).1
  have HFL := Lib.hid (fin_last s s.size)
  have HFM := Lib.hid (fun h => fin_mid s (n := s.size) (k := k) h)
  have HPL := Lib.hid (fun h => (pos_lt s (n := s.size) (k := k) (k' := k + 1) (by omega) h))
  have HPF := Lib.hid (fun h => (pos_fix s (n := s.size) (k := k + 1) h).1)
  by_cases hlast : k = nl s s.size
  · have HFK := Lib.hid (show fin s s.size k = s.size by rw [hlast]; exact HFL.out)
    go_enter Try.func20, Try.ntmps20
    go_wp2_with fail
    refine (HL.out _).mono ?_
    rintro e w1 ⟨a, cap, rfl, hg, ha, hr, hb⟩
    have c0 := hr k hk
    rw [← hlast]
    clear hr hg hlast HFL
    go_wp2
    go_ret3
    exact ⟨by rw [HFK.out]; rfl, hb⟩
  · have HFK := Lib.hid (HFM.out (by omega))
    have hp2 := HPF.out (by omega)
    have hp3 := HPL.out (by omega)
    go_enter Try.func20, Try.ntmps20
    go_wp2_with fail
    refine (HL.out _).mono ?_
    rintro e w1 ⟨a, cap, rfl, hg, ha, hr, hb⟩
    have c0 := hr k hk
    have c1 := hr (k + 1) (by omega)
    rw [add_off] at c1
    have hne : k < nl s s.size := by omega
    clear hr hg HPL HPF HFM HFL hlast
    generalize nl s s.size = M at *
    go_wp2
    have b0 : (0 : Int) ≤ (k : Int) := by omega
    have b1 : (k : Int) < (M : Int) + 1 := by omega
    have b2 : (k : Int) + 1 < (M : Int) + 1 := by omega
    have b3 : (0 : Int) ≤ (k : Int) + 1 := by omega
    have b4 : k < M + 1 := by omega
    have b5 : k + 1 < M + 1 := by omega
    have b6 : IntKind.i64.wrap ((k : Int) + 1 - 1) = (k : Int) := by rw [wrap_id (by omega) (by omega)]; omega
    have b8 : IntKind.i64.wrap (k : Int) = (k : Int) := wrap_id (by omega) (by omega)
    have b9 : IntKind.i64.wrap ((pos s s.size (k + 1) : Nat) - 1 : Int) = ((pos s s.size (k + 1) : Nat) - 1 : Int) := wrap_id (by omega) (by omega)
    have b7 : ((k : Int) + 1).toNat = k + 1 := by omega
    go_quiet (fail)
    go_wp2
    go_ret3
    refine ⟨?_, below_drewN hb _⟩
    have e : ((pos s s.size (k + 1) - 1 : Nat) : Int) = (pos s s.size (k + 1) : Int) - 1 := by omega
    rw [HFK.out, e]
    rfl
end Go.Proofs.Ytmdobaplndlhhaa
