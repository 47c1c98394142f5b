/-
  'PrimsLaws' returns true for any two ints: sums and products go both ways, a difference undoes a sum, a number is quotient by divisor and what is left. No condition.
-/
import Derived.Test.YtipeggpolnnpmaaRows
import Derived.Test.YtipeggpolnnpmaaPrimsAwake
import Derived.OpenShut
import Derived.ShutString
import Derived.ChangeOld
namespace Go.Proofs.Ytipeggpolnnpmaa.primsLaws
open Go.ChangeShapes Go.WideShapes Go.ChangeAt Go.RowKit
open Go.ChangeMaps (open_string shut_string)
set_option linter.unusedVariables false

theorem w_ex (x : Int) : ∃ k : Int, wrap64 x = x + 18446744073709551616 * k := ⟨-((x + 9223372036854775808) / 18446744073709551616), by unfold wrap64; omega⟩
theorem w_of (x y : Int) (h : ∃ k, x = y + 18446744073709551616 * k) (hy : -9223372036854775808 ≤ y ∧ y ≤ 9223372036854775807) : wrap64 x = y := by
  obtain ⟨k, rfl⟩ := h; unfold wrap64; omega
theorem back_sub (a b : Int) (ha : -9223372036854775808 ≤ a ∧ a ≤ 9223372036854775807) : wrap64 (wrap64 (a + b) - b) = a := by
  apply w_of _ _ _ ha
  obtain ⟨k, e⟩ := w_ex (a + b)
  exact ⟨k, by omega⟩
theorem back_mul (a b : Int) (ha : -9223372036854775808 ≤ a ∧ a ≤ 9223372036854775807) : wrap64 (wrap64 (qv a b * b) + rv a b) = a := by
  apply w_of _ _ _ ha
  unfold rv
  rw [Int.mul_comm b]
  generalize qv a b * b = x
  obtain ⟨k, e⟩ := w_ex (a - wrap64 x)
  exact ⟨k, by omega⟩
set_option maxRecDepth 100000 in
set_option maxHeartbeats 2000000 in
theorem walk_zero (a x : Int) (w : World)
    (h1 : (∀ w, Calls Try.prog 6 #[.string ⟨#[97, 100, 100]⟩, .int .i64 a, .int .i64 0] w fun e w' => e = .returned (.tuple #[.agg #[.int .i64 2, .int .i64 x, .string ⟨#[]⟩, .slice none 0 0, .slice none 0 0, .slice none 0 0], .int .i64 1]) ∧ Below w.heap.size w w'))
    (h2 : (∀ w, Calls Try.prog 6 #[.string ⟨#[97, 100, 100]⟩, .int .i64 0, .int .i64 a] w fun e w' => e = .returned (.tuple #[.agg #[.int .i64 2, .int .i64 x, .string ⟨#[]⟩, .slice none 0 0, .slice none 0 0, .slice none 0 0], .int .i64 1]) ∧ Below w.heap.size w w'))
    (h3 : (∀ w, Calls Try.prog 6 #[.string ⟨#[115, 117, 98]⟩, .int .i64 x, .int .i64 0] w fun e w' => e = .returned (.tuple #[.agg #[.int .i64 2, .int .i64 a, .string ⟨#[]⟩, .slice none 0 0, .slice none 0 0, .slice none 0 0], .int .i64 1]) ∧ Below w.heap.size w w'))
    (h4 : (∀ w, Calls Try.prog 6 #[.string ⟨#[109, 117, 108]⟩, .int .i64 a, .int .i64 0] w fun e w' => e = .returned (.tuple #[.agg #[.int .i64 2, .int .i64 0, .string ⟨#[]⟩, .slice none 0 0, .slice none 0 0, .slice none 0 0], .int .i64 1]) ∧ Below w.heap.size w w'))
    (h5 : (∀ w, Calls Try.prog 6 #[.string ⟨#[109, 117, 108]⟩, .int .i64 0, .int .i64 a] w fun e w' => e = .returned (.tuple #[.agg #[.int .i64 2, .int .i64 0, .string ⟨#[]⟩, .slice none 0 0, .slice none 0 0, .slice none 0 0], .int .i64 1]) ∧ Below w.heap.size w w'))
    (h6 : (∀ w, Calls Try.prog 6 #[.string ⟨#[113, 117, 111, 116]⟩, .int .i64 a, .int .i64 0] w fun e w' => e = .returned (.tuple #[.agg #[.int .i64 0, .int .i64 0, .string ⟨#[]⟩, .slice none 0 0, .slice none 0 0, .slice none 0 0], .int .i64 4]) ∧ Below w.heap.size w w'))
    (h7 : (∀ w, Calls Try.prog 6 #[.string ⟨#[114, 101, 109]⟩, .int .i64 a, .int .i64 0] w fun e w' => e = .returned (.tuple #[.agg #[.int .i64 0, .int .i64 0, .string ⟨#[]⟩, .slice none 0 0, .slice none 0 0, .slice none 0 0], .int .i64 4]) ∧ Below w.heap.size w w')) :
    Calls Try.prog 5 #[.int .i64 a, .int .i64 0] w fun e w' => e = .returned (.bool true) ∧ Below w.heap.size w w' := by
  have H1 := Lib.hid h1
  have H2 := Lib.hid h2
  have H3 := Lib.hid h3
  have H4 := Lib.hid h4
  have H5 := Lib.hid h5
  have H6 := Lib.hid h6
  have H7 := Lib.hid h7
  clear h1 h2 h3 h4 h5 h6 h7
  go_enter Try.func5, Try.ntmps5
  go_wp2_with fail
  refine (H1.out _).mono ?_
  rintro e w1 ⟨rfl, hb1⟩
  have B1 : Below w.heap.size w w1 := hb1
  go_wp2_with fail
  refine (H2.out _).mono ?_
  rintro e w2 ⟨rfl, hb2⟩
  have B2 : Below w.heap.size w w2 := (B1.alloc B1.size _).trans (hb2.mono (by have := B1.size; simp; omega))
  have X1_2 := Lib.hid (kept hb2 (blk_new w1 (.cells #[.int .i64 2, .int .i64 x, .string ⟨#[]⟩, .slice none 0 0, .slice none 0 0, .slice none 0 0] 26)) (by simp))
  have l1_2 : w2.cell? ⟨w1.heap.size, 1, none⟩ = some (.int .i64 x) := blk_cell X1_2.out 1
  have m1_2 : w1.heap.size < w2.heap.size := blk_lt X1_2.out
  have n1_2 : w2.heap.size ≠ w1.heap.size := by omega
  clear hb2 B1
  go_wp2_with fail
  refine (H3.out _).mono ?_
  rintro e w3 ⟨rfl, hb3⟩
  have B3 : Below w.heap.size w w3 := (B2.alloc B2.size _).trans (hb3.mono (by have := B2.size; simp; omega))
  have X2_3 := Lib.hid (kept hb3 (blk_new w2 (.cells #[.int .i64 2, .int .i64 x, .string ⟨#[]⟩, .slice none 0 0, .slice none 0 0, .slice none 0 0] 26)) (by simp))
  have X1_3 := Lib.hid (kept hb3 (blk_alloc X1_2.out (.cells #[.int .i64 2, .int .i64 x, .string ⟨#[]⟩, .slice none 0 0, .slice none 0 0, .slice none 0 0] 26)) (blk_lt (blk_alloc X1_2.out _)))
  clear X1_2 hb3 B2
  clear l1_2 n1_2 m1_2
  go_wp2_with fail
  refine (H4.out _).mono ?_
  rintro e w4 ⟨rfl, hb4⟩
  have B4 : Below w.heap.size w w4 := (B3.alloc B3.size _).trans (hb4.mono (by have := B3.size; simp; omega))
  have X3_4 := Lib.hid (kept hb4 (blk_new w3 (.cells #[.int .i64 2, .int .i64 a, .string ⟨#[]⟩, .slice none 0 0, .slice none 0 0, .slice none 0 0] 26)) (by simp))
  have X1_4 := Lib.hid (kept hb4 (blk_alloc X1_3.out (.cells #[.int .i64 2, .int .i64 a, .string ⟨#[]⟩, .slice none 0 0, .slice none 0 0, .slice none 0 0] 26)) (blk_lt (blk_alloc X1_3.out _)))
  have X2_4 := Lib.hid (kept hb4 (blk_alloc X2_3.out (.cells #[.int .i64 2, .int .i64 a, .string ⟨#[]⟩, .slice none 0 0, .slice none 0 0, .slice none 0 0] 26)) (blk_lt (blk_alloc X2_3.out _)))
  clear X1_3 X2_3 hb4 B3
  go_wp2_with fail
  refine (H5.out _).mono ?_
  rintro e w5 ⟨rfl, hb5⟩
  have B5 : Below w.heap.size w w5 := (B4.alloc B4.size _).trans (hb5.mono (by have := B4.size; simp; omega))
  have X4_5 := Lib.hid (kept hb5 (blk_new w4 (.cells #[.int .i64 2, .int .i64 0, .string ⟨#[]⟩, .slice none 0 0, .slice none 0 0, .slice none 0 0] 26)) (by simp))
  have X1_5 := Lib.hid (kept hb5 (blk_alloc X1_4.out (.cells #[.int .i64 2, .int .i64 0, .string ⟨#[]⟩, .slice none 0 0, .slice none 0 0, .slice none 0 0] 26)) (blk_lt (blk_alloc X1_4.out _)))
  have X2_5 := Lib.hid (kept hb5 (blk_alloc X2_4.out (.cells #[.int .i64 2, .int .i64 0, .string ⟨#[]⟩, .slice none 0 0, .slice none 0 0, .slice none 0 0] 26)) (blk_lt (blk_alloc X2_4.out _)))
  have X3_5 := Lib.hid (kept hb5 (blk_alloc X3_4.out (.cells #[.int .i64 2, .int .i64 0, .string ⟨#[]⟩, .slice none 0 0, .slice none 0 0, .slice none 0 0] 26)) (blk_lt (blk_alloc X3_4.out _)))
  clear X1_4 X2_4 X3_4 hb5 B4
  go_wp2_with fail
  refine (H6.out _).mono ?_
  rintro e w6 ⟨rfl, hb6⟩
  have B6 : Below w.heap.size w w6 := (B5.alloc B5.size _).trans (hb6.mono (by have := B5.size; simp; omega))
  have X5_6 := Lib.hid (kept hb6 (blk_new w5 (.cells #[.int .i64 2, .int .i64 0, .string ⟨#[]⟩, .slice none 0 0, .slice none 0 0, .slice none 0 0] 26)) (by simp))
  have X1_6 := Lib.hid (kept hb6 (blk_alloc X1_5.out (.cells #[.int .i64 2, .int .i64 0, .string ⟨#[]⟩, .slice none 0 0, .slice none 0 0, .slice none 0 0] 26)) (blk_lt (blk_alloc X1_5.out _)))
  have X2_6 := Lib.hid (kept hb6 (blk_alloc X2_5.out (.cells #[.int .i64 2, .int .i64 0, .string ⟨#[]⟩, .slice none 0 0, .slice none 0 0, .slice none 0 0] 26)) (blk_lt (blk_alloc X2_5.out _)))
  have X3_6 := Lib.hid (kept hb6 (blk_alloc X3_5.out (.cells #[.int .i64 2, .int .i64 0, .string ⟨#[]⟩, .slice none 0 0, .slice none 0 0, .slice none 0 0] 26)) (blk_lt (blk_alloc X3_5.out _)))
  have X4_6 := Lib.hid (kept hb6 (blk_alloc X4_5.out (.cells #[.int .i64 2, .int .i64 0, .string ⟨#[]⟩, .slice none 0 0, .slice none 0 0, .slice none 0 0] 26)) (blk_lt (blk_alloc X4_5.out _)))
  clear X1_5 X2_5 X3_5 X4_5 hb6 B5
  go_wp2_with fail
  refine (H7.out _).mono ?_
  rintro e w7 ⟨rfl, hb7⟩
  have B7 : Below w.heap.size w w7 := (B6.alloc B6.size _).trans (hb7.mono (by have := B6.size; simp; omega))
  have X6_7 := Lib.hid (kept hb7 (blk_new w6 (.cells #[.int .i64 0, .int .i64 0, .string ⟨#[]⟩, .slice none 0 0, .slice none 0 0, .slice none 0 0] 26)) (by simp))
  have X1_7 := Lib.hid (kept hb7 (blk_alloc X1_6.out (.cells #[.int .i64 0, .int .i64 0, .string ⟨#[]⟩, .slice none 0 0, .slice none 0 0, .slice none 0 0] 26)) (blk_lt (blk_alloc X1_6.out _)))
  have X2_7 := Lib.hid (kept hb7 (blk_alloc X2_6.out (.cells #[.int .i64 0, .int .i64 0, .string ⟨#[]⟩, .slice none 0 0, .slice none 0 0, .slice none 0 0] 26)) (blk_lt (blk_alloc X2_6.out _)))
  have X3_7 := Lib.hid (kept hb7 (blk_alloc X3_6.out (.cells #[.int .i64 0, .int .i64 0, .string ⟨#[]⟩, .slice none 0 0, .slice none 0 0, .slice none 0 0] 26)) (blk_lt (blk_alloc X3_6.out _)))
  have X4_7 := Lib.hid (kept hb7 (blk_alloc X4_6.out (.cells #[.int .i64 0, .int .i64 0, .string ⟨#[]⟩, .slice none 0 0, .slice none 0 0, .slice none 0 0] 26)) (blk_lt (blk_alloc X4_6.out _)))
  have X5_7 := Lib.hid (kept hb7 (blk_alloc X5_6.out (.cells #[.int .i64 0, .int .i64 0, .string ⟨#[]⟩, .slice none 0 0, .slice none 0 0, .slice none 0 0] 26)) (blk_lt (blk_alloc X5_6.out _)))
  have l1_7 : w7.cell? ⟨w1.heap.size, 1, none⟩ = some (.int .i64 x) := blk_cell X1_7.out 1
  have m1_7 : w1.heap.size < w7.heap.size := blk_lt X1_7.out
  have n1_7 : w7.heap.size ≠ w1.heap.size := by omega
  have l2_7 : w7.cell? ⟨w2.heap.size, 1, none⟩ = some (.int .i64 x) := blk_cell X2_7.out 1
  have m2_7 : w2.heap.size < w7.heap.size := blk_lt X2_7.out
  have n2_7 : w7.heap.size ≠ w2.heap.size := by omega
  have l4_7 : w7.cell? ⟨w4.heap.size, 1, none⟩ = some (.int .i64 0) := blk_cell X4_7.out 1
  have m4_7 : w4.heap.size < w7.heap.size := blk_lt X4_7.out
  have n4_7 : w7.heap.size ≠ w4.heap.size := by omega
  have l5_7 : w7.cell? ⟨w5.heap.size, 1, none⟩ = some (.int .i64 0) := blk_cell X5_7.out 1
  have m5_7 : w5.heap.size < w7.heap.size := blk_lt X5_7.out
  have n5_7 : w7.heap.size ≠ w5.heap.size := by omega
  clear X1_6 X2_6 X3_6 X4_6 X5_6 hb7 B6
  go_wp2_with (go_at_call 11; ((with_reducible refine (awake35 _).mono ?_); rintro e w8 ⟨rfl, hb8⟩))
  go_ret
  exact ⟨rfl, (B7.alloc B7.size _).trans (hb8.mono (by have := B7.size; simp; omega))⟩

set_option maxRecDepth 100000 in
set_option maxHeartbeats 2000000 in
theorem walk_not (a b x u q r m : Int) (nl ne : ByteArray) (w : World) (hb0 : (b == 0) = false) (hl : (nl.toList == [84, 114, 117, 101]) = decide (a < b)) (he : (ne.toList == [84, 114, 117, 101]) = (a == b))
    (h1 : (∀ w, Calls Try.prog 6 #[.string ⟨#[97, 100, 100]⟩, .int .i64 a, .int .i64 b] w fun e w' => e = .returned (.tuple #[.agg #[.int .i64 2, .int .i64 x, .string ⟨#[]⟩, .slice none 0 0, .slice none 0 0, .slice none 0 0], .int .i64 1]) ∧ Below w.heap.size w w'))
    (h2 : (∀ w, Calls Try.prog 6 #[.string ⟨#[97, 100, 100]⟩, .int .i64 b, .int .i64 a] w fun e w' => e = .returned (.tuple #[.agg #[.int .i64 2, .int .i64 x, .string ⟨#[]⟩, .slice none 0 0, .slice none 0 0, .slice none 0 0], .int .i64 1]) ∧ Below w.heap.size w w'))
    (h3 : (∀ w, Calls Try.prog 6 #[.string ⟨#[115, 117, 98]⟩, .int .i64 x, .int .i64 b] w fun e w' => e = .returned (.tuple #[.agg #[.int .i64 2, .int .i64 a, .string ⟨#[]⟩, .slice none 0 0, .slice none 0 0, .slice none 0 0], .int .i64 1]) ∧ Below w.heap.size w w'))
    (h4 : (∀ w, Calls Try.prog 6 #[.string ⟨#[109, 117, 108]⟩, .int .i64 a, .int .i64 b] w fun e w' => e = .returned (.tuple #[.agg #[.int .i64 2, .int .i64 u, .string ⟨#[]⟩, .slice none 0 0, .slice none 0 0, .slice none 0 0], .int .i64 1]) ∧ Below w.heap.size w w'))
    (h5 : (∀ w, Calls Try.prog 6 #[.string ⟨#[109, 117, 108]⟩, .int .i64 b, .int .i64 a] w fun e w' => e = .returned (.tuple #[.agg #[.int .i64 2, .int .i64 u, .string ⟨#[]⟩, .slice none 0 0, .slice none 0 0, .slice none 0 0], .int .i64 1]) ∧ Below w.heap.size w w'))
    (h6 : (∀ w, Calls Try.prog 6 #[.string ⟨#[113, 117, 111, 116]⟩, .int .i64 a, .int .i64 b] w fun e w' => e = .returned (.tuple #[.agg #[.int .i64 2, .int .i64 q, .string ⟨#[]⟩, .slice none 0 0, .slice none 0 0, .slice none 0 0], .int .i64 1]) ∧ Below w.heap.size w w'))
    (h7 : (∀ w, Calls Try.prog 6 #[.string ⟨#[114, 101, 109]⟩, .int .i64 a, .int .i64 b] w fun e w' => e = .returned (.tuple #[.agg #[.int .i64 2, .int .i64 r, .string ⟨#[]⟩, .slice none 0 0, .slice none 0 0, .slice none 0 0], .int .i64 1]) ∧ Below w.heap.size w w'))
    (h8 : (∀ w, Calls Try.prog 6 #[.string ⟨#[109, 117, 108]⟩, .int .i64 q, .int .i64 b] w fun e w' => e = .returned (.tuple #[.agg #[.int .i64 2, .int .i64 m, .string ⟨#[]⟩, .slice none 0 0, .slice none 0 0, .slice none 0 0], .int .i64 1]) ∧ Below w.heap.size w w'))
    (h9 : (∀ w, Calls Try.prog 6 #[.string ⟨#[97, 100, 100]⟩, .int .i64 m, .int .i64 r] w fun e w' => e = .returned (.tuple #[.agg #[.int .i64 2, .int .i64 a, .string ⟨#[]⟩, .slice none 0 0, .slice none 0 0, .slice none 0 0], .int .i64 1]) ∧ Below w.heap.size w w'))
    (h10 : (∀ w, Calls Try.prog 6 #[.string ⟨#[108, 116, 73, 110, 116]⟩, .int .i64 a, .int .i64 b] w fun e w' => e = .returned (.tuple #[.agg #[.int .i64 7, .int .i64 0, .string nl, .slice none 0 0, .slice none 0 0, .slice none 0 0], .int .i64 1]) ∧ Below w.heap.size w w'))
    (h11 : (∀ w, Calls Try.prog 6 #[.string ⟨#[101, 113, 73, 110, 116]⟩, .int .i64 a, .int .i64 b] w fun e w' => e = .returned (.tuple #[.agg #[.int .i64 7, .int .i64 0, .string ne, .slice none 0 0, .slice none 0 0, .slice none 0 0], .int .i64 1]) ∧ Below w.heap.size w w')) :
    Calls Try.prog 5 #[.int .i64 a, .int .i64 b] w fun e w' => e = .returned (.bool true) ∧ Below w.heap.size w w' := by
  have H1 := Lib.hid h1
  have H2 := Lib.hid h2
  have H3 := Lib.hid h3
  have H4 := Lib.hid h4
  have H5 := Lib.hid h5
  have H6 := Lib.hid h6
  have H7 := Lib.hid h7
  have H8 := Lib.hid h8
  have H9 := Lib.hid h9
  have H10 := Lib.hid h10
  have H11 := Lib.hid h11
  clear h1 h2 h3 h4 h5 h6 h7 h8 h9 h10 h11
  go_enter Try.func5, Try.ntmps5
  go_wp2_with fail
  refine (H1.out _).mono ?_
  rintro e w1 ⟨rfl, hb1⟩
  have B1 : Below w.heap.size w w1 := hb1
  go_wp2_with fail
  refine (H2.out _).mono ?_
  rintro e w2 ⟨rfl, hb2⟩
  have B2 : Below w.heap.size w w2 := (B1.alloc B1.size _).trans (hb2.mono (by have := B1.size; simp; omega))
  have X1_2 := Lib.hid (kept hb2 (blk_new w1 (.cells #[.int .i64 2, .int .i64 x, .string ⟨#[]⟩, .slice none 0 0, .slice none 0 0, .slice none 0 0] 26)) (by simp))
  have l1_2 : w2.cell? ⟨w1.heap.size, 1, none⟩ = some (.int .i64 x) := blk_cell X1_2.out 1
  have m1_2 : w1.heap.size < w2.heap.size := blk_lt X1_2.out
  have n1_2 : w2.heap.size ≠ w1.heap.size := by omega
  clear hb2 B1
  go_wp2_with fail
  refine (H3.out _).mono ?_
  rintro e w3 ⟨rfl, hb3⟩
  have B3 : Below w.heap.size w w3 := (B2.alloc B2.size _).trans (hb3.mono (by have := B2.size; simp; omega))
  have X2_3 := Lib.hid (kept hb3 (blk_new w2 (.cells #[.int .i64 2, .int .i64 x, .string ⟨#[]⟩, .slice none 0 0, .slice none 0 0, .slice none 0 0] 26)) (by simp))
  have X1_3 := Lib.hid (kept hb3 (blk_alloc X1_2.out (.cells #[.int .i64 2, .int .i64 x, .string ⟨#[]⟩, .slice none 0 0, .slice none 0 0, .slice none 0 0] 26)) (blk_lt (blk_alloc X1_2.out _)))
  clear X1_2 hb3 B2
  clear l1_2 n1_2 m1_2
  go_wp2_with fail
  refine (H4.out _).mono ?_
  rintro e w4 ⟨rfl, hb4⟩
  have B4 : Below w.heap.size w w4 := (B3.alloc B3.size _).trans (hb4.mono (by have := B3.size; simp; omega))
  have X3_4 := Lib.hid (kept hb4 (blk_new w3 (.cells #[.int .i64 2, .int .i64 a, .string ⟨#[]⟩, .slice none 0 0, .slice none 0 0, .slice none 0 0] 26)) (by simp))
  have X1_4 := Lib.hid (kept hb4 (blk_alloc X1_3.out (.cells #[.int .i64 2, .int .i64 a, .string ⟨#[]⟩, .slice none 0 0, .slice none 0 0, .slice none 0 0] 26)) (blk_lt (blk_alloc X1_3.out _)))
  have X2_4 := Lib.hid (kept hb4 (blk_alloc X2_3.out (.cells #[.int .i64 2, .int .i64 a, .string ⟨#[]⟩, .slice none 0 0, .slice none 0 0, .slice none 0 0] 26)) (blk_lt (blk_alloc X2_3.out _)))
  clear X1_3 X2_3 hb4 B3
  go_wp2_with fail
  refine (H5.out _).mono ?_
  rintro e w5 ⟨rfl, hb5⟩
  have B5 : Below w.heap.size w w5 := (B4.alloc B4.size _).trans (hb5.mono (by have := B4.size; simp; omega))
  have X4_5 := Lib.hid (kept hb5 (blk_new w4 (.cells #[.int .i64 2, .int .i64 u, .string ⟨#[]⟩, .slice none 0 0, .slice none 0 0, .slice none 0 0] 26)) (by simp))
  have X1_5 := Lib.hid (kept hb5 (blk_alloc X1_4.out (.cells #[.int .i64 2, .int .i64 u, .string ⟨#[]⟩, .slice none 0 0, .slice none 0 0, .slice none 0 0] 26)) (blk_lt (blk_alloc X1_4.out _)))
  have X2_5 := Lib.hid (kept hb5 (blk_alloc X2_4.out (.cells #[.int .i64 2, .int .i64 u, .string ⟨#[]⟩, .slice none 0 0, .slice none 0 0, .slice none 0 0] 26)) (blk_lt (blk_alloc X2_4.out _)))
  have X3_5 := Lib.hid (kept hb5 (blk_alloc X3_4.out (.cells #[.int .i64 2, .int .i64 u, .string ⟨#[]⟩, .slice none 0 0, .slice none 0 0, .slice none 0 0] 26)) (blk_lt (blk_alloc X3_4.out _)))
  clear X1_4 X2_4 X3_4 hb5 B4
  go_wp2_with fail
  refine (H6.out _).mono ?_
  rintro e w6 ⟨rfl, hb6⟩
  have B6 : Below w.heap.size w w6 := (B5.alloc B5.size _).trans (hb6.mono (by have := B5.size; simp; omega))
  have X5_6 := Lib.hid (kept hb6 (blk_new w5 (.cells #[.int .i64 2, .int .i64 u, .string ⟨#[]⟩, .slice none 0 0, .slice none 0 0, .slice none 0 0] 26)) (by simp))
  have X1_6 := Lib.hid (kept hb6 (blk_alloc X1_5.out (.cells #[.int .i64 2, .int .i64 u, .string ⟨#[]⟩, .slice none 0 0, .slice none 0 0, .slice none 0 0] 26)) (blk_lt (blk_alloc X1_5.out _)))
  have X2_6 := Lib.hid (kept hb6 (blk_alloc X2_5.out (.cells #[.int .i64 2, .int .i64 u, .string ⟨#[]⟩, .slice none 0 0, .slice none 0 0, .slice none 0 0] 26)) (blk_lt (blk_alloc X2_5.out _)))
  have X3_6 := Lib.hid (kept hb6 (blk_alloc X3_5.out (.cells #[.int .i64 2, .int .i64 u, .string ⟨#[]⟩, .slice none 0 0, .slice none 0 0, .slice none 0 0] 26)) (blk_lt (blk_alloc X3_5.out _)))
  have X4_6 := Lib.hid (kept hb6 (blk_alloc X4_5.out (.cells #[.int .i64 2, .int .i64 u, .string ⟨#[]⟩, .slice none 0 0, .slice none 0 0, .slice none 0 0] 26)) (blk_lt (blk_alloc X4_5.out _)))
  clear X1_5 X2_5 X3_5 X4_5 hb6 B5
  go_wp2_with fail
  refine (H7.out _).mono ?_
  rintro e w7 ⟨rfl, hb7⟩
  have B7 : Below w.heap.size w w7 := (B6.alloc B6.size _).trans (hb7.mono (by have := B6.size; simp; omega))
  have X6_7 := Lib.hid (kept hb7 (blk_new w6 (.cells #[.int .i64 2, .int .i64 q, .string ⟨#[]⟩, .slice none 0 0, .slice none 0 0, .slice none 0 0] 26)) (by simp))
  have X1_7 := Lib.hid (kept hb7 (blk_alloc X1_6.out (.cells #[.int .i64 2, .int .i64 q, .string ⟨#[]⟩, .slice none 0 0, .slice none 0 0, .slice none 0 0] 26)) (blk_lt (blk_alloc X1_6.out _)))
  have X2_7 := Lib.hid (kept hb7 (blk_alloc X2_6.out (.cells #[.int .i64 2, .int .i64 q, .string ⟨#[]⟩, .slice none 0 0, .slice none 0 0, .slice none 0 0] 26)) (blk_lt (blk_alloc X2_6.out _)))
  have X3_7 := Lib.hid (kept hb7 (blk_alloc X3_6.out (.cells #[.int .i64 2, .int .i64 q, .string ⟨#[]⟩, .slice none 0 0, .slice none 0 0, .slice none 0 0] 26)) (blk_lt (blk_alloc X3_6.out _)))
  have X4_7 := Lib.hid (kept hb7 (blk_alloc X4_6.out (.cells #[.int .i64 2, .int .i64 q, .string ⟨#[]⟩, .slice none 0 0, .slice none 0 0, .slice none 0 0] 26)) (blk_lt (blk_alloc X4_6.out _)))
  have X5_7 := Lib.hid (kept hb7 (blk_alloc X5_6.out (.cells #[.int .i64 2, .int .i64 q, .string ⟨#[]⟩, .slice none 0 0, .slice none 0 0, .slice none 0 0] 26)) (blk_lt (blk_alloc X5_6.out _)))
  have l6_7 : w7.cell? ⟨w6.heap.size, 1, none⟩ = some (.int .i64 q) := blk_cell X6_7.out 1
  have m6_7 : w6.heap.size < w7.heap.size := blk_lt X6_7.out
  have n6_7 : w7.heap.size ≠ w6.heap.size := by omega
  clear X1_6 X2_6 X3_6 X4_6 X5_6 hb7 B6
  go_wp2_with fail
  refine (H8.out _).mono ?_
  rintro e w8 ⟨rfl, hb8⟩
  have B8 : Below w.heap.size w w8 := (B7.alloc B7.size _).trans (hb8.mono (by have := B7.size; simp; omega))
  have X7_8 := Lib.hid (kept hb8 (blk_new w7 (.cells #[.int .i64 2, .int .i64 r, .string ⟨#[]⟩, .slice none 0 0, .slice none 0 0, .slice none 0 0] 26)) (by simp))
  have X1_8 := Lib.hid (kept hb8 (blk_alloc X1_7.out (.cells #[.int .i64 2, .int .i64 r, .string ⟨#[]⟩, .slice none 0 0, .slice none 0 0, .slice none 0 0] 26)) (blk_lt (blk_alloc X1_7.out _)))
  have X2_8 := Lib.hid (kept hb8 (blk_alloc X2_7.out (.cells #[.int .i64 2, .int .i64 r, .string ⟨#[]⟩, .slice none 0 0, .slice none 0 0, .slice none 0 0] 26)) (blk_lt (blk_alloc X2_7.out _)))
  have X3_8 := Lib.hid (kept hb8 (blk_alloc X3_7.out (.cells #[.int .i64 2, .int .i64 r, .string ⟨#[]⟩, .slice none 0 0, .slice none 0 0, .slice none 0 0] 26)) (blk_lt (blk_alloc X3_7.out _)))
  have X4_8 := Lib.hid (kept hb8 (blk_alloc X4_7.out (.cells #[.int .i64 2, .int .i64 r, .string ⟨#[]⟩, .slice none 0 0, .slice none 0 0, .slice none 0 0] 26)) (blk_lt (blk_alloc X4_7.out _)))
  have X5_8 := Lib.hid (kept hb8 (blk_alloc X5_7.out (.cells #[.int .i64 2, .int .i64 r, .string ⟨#[]⟩, .slice none 0 0, .slice none 0 0, .slice none 0 0] 26)) (blk_lt (blk_alloc X5_7.out _)))
  have X6_8 := Lib.hid (kept hb8 (blk_alloc X6_7.out (.cells #[.int .i64 2, .int .i64 r, .string ⟨#[]⟩, .slice none 0 0, .slice none 0 0, .slice none 0 0] 26)) (blk_lt (blk_alloc X6_7.out _)))
  have l7_8 : w8.cell? ⟨w7.heap.size, 1, none⟩ = some (.int .i64 r) := blk_cell X7_8.out 1
  have m7_8 : w7.heap.size < w8.heap.size := blk_lt X7_8.out
  have n7_8 : w8.heap.size ≠ w7.heap.size := by omega
  clear X1_7 X2_7 X3_7 X4_7 X5_7 X6_7 hb8 B7
  clear l6_7 n6_7 m6_7
  go_wp2_with fail
  refine (H9.out _).mono ?_
  rintro e w9 ⟨rfl, hb9⟩
  have B9 : Below w.heap.size w w9 := (B8.alloc B8.size _).trans (hb9.mono (by have := B8.size; simp; omega))
  have X8_9 := Lib.hid (kept hb9 (blk_new w8 (.cells #[.int .i64 2, .int .i64 m, .string ⟨#[]⟩, .slice none 0 0, .slice none 0 0, .slice none 0 0] 26)) (by simp))
  have X1_9 := Lib.hid (kept hb9 (blk_alloc X1_8.out (.cells #[.int .i64 2, .int .i64 m, .string ⟨#[]⟩, .slice none 0 0, .slice none 0 0, .slice none 0 0] 26)) (blk_lt (blk_alloc X1_8.out _)))
  have X2_9 := Lib.hid (kept hb9 (blk_alloc X2_8.out (.cells #[.int .i64 2, .int .i64 m, .string ⟨#[]⟩, .slice none 0 0, .slice none 0 0, .slice none 0 0] 26)) (blk_lt (blk_alloc X2_8.out _)))
  have X3_9 := Lib.hid (kept hb9 (blk_alloc X3_8.out (.cells #[.int .i64 2, .int .i64 m, .string ⟨#[]⟩, .slice none 0 0, .slice none 0 0, .slice none 0 0] 26)) (blk_lt (blk_alloc X3_8.out _)))
  have X4_9 := Lib.hid (kept hb9 (blk_alloc X4_8.out (.cells #[.int .i64 2, .int .i64 m, .string ⟨#[]⟩, .slice none 0 0, .slice none 0 0, .slice none 0 0] 26)) (blk_lt (blk_alloc X4_8.out _)))
  have X5_9 := Lib.hid (kept hb9 (blk_alloc X5_8.out (.cells #[.int .i64 2, .int .i64 m, .string ⟨#[]⟩, .slice none 0 0, .slice none 0 0, .slice none 0 0] 26)) (blk_lt (blk_alloc X5_8.out _)))
  have X6_9 := Lib.hid (kept hb9 (blk_alloc X6_8.out (.cells #[.int .i64 2, .int .i64 m, .string ⟨#[]⟩, .slice none 0 0, .slice none 0 0, .slice none 0 0] 26)) (blk_lt (blk_alloc X6_8.out _)))
  have X7_9 := Lib.hid (kept hb9 (blk_alloc X7_8.out (.cells #[.int .i64 2, .int .i64 m, .string ⟨#[]⟩, .slice none 0 0, .slice none 0 0, .slice none 0 0] 26)) (blk_lt (blk_alloc X7_8.out _)))
  clear X1_8 X2_8 X3_8 X4_8 X5_8 X6_8 X7_8 hb9 B8
  clear l7_8 n7_8 m7_8
  go_wp2_with fail
  refine (H10.out _).mono ?_
  rintro e w10 ⟨rfl, hb10⟩
  have B10 : Below w.heap.size w w10 := (B9.alloc B9.size _).trans (hb10.mono (by have := B9.size; simp; omega))
  have X9_10 := Lib.hid (kept hb10 (blk_new w9 (.cells #[.int .i64 2, .int .i64 a, .string ⟨#[]⟩, .slice none 0 0, .slice none 0 0, .slice none 0 0] 26)) (by simp))
  have X1_10 := Lib.hid (kept hb10 (blk_alloc X1_9.out (.cells #[.int .i64 2, .int .i64 a, .string ⟨#[]⟩, .slice none 0 0, .slice none 0 0, .slice none 0 0] 26)) (blk_lt (blk_alloc X1_9.out _)))
  have X2_10 := Lib.hid (kept hb10 (blk_alloc X2_9.out (.cells #[.int .i64 2, .int .i64 a, .string ⟨#[]⟩, .slice none 0 0, .slice none 0 0, .slice none 0 0] 26)) (blk_lt (blk_alloc X2_9.out _)))
  have X3_10 := Lib.hid (kept hb10 (blk_alloc X3_9.out (.cells #[.int .i64 2, .int .i64 a, .string ⟨#[]⟩, .slice none 0 0, .slice none 0 0, .slice none 0 0] 26)) (blk_lt (blk_alloc X3_9.out _)))
  have X4_10 := Lib.hid (kept hb10 (blk_alloc X4_9.out (.cells #[.int .i64 2, .int .i64 a, .string ⟨#[]⟩, .slice none 0 0, .slice none 0 0, .slice none 0 0] 26)) (blk_lt (blk_alloc X4_9.out _)))
  have X5_10 := Lib.hid (kept hb10 (blk_alloc X5_9.out (.cells #[.int .i64 2, .int .i64 a, .string ⟨#[]⟩, .slice none 0 0, .slice none 0 0, .slice none 0 0] 26)) (blk_lt (blk_alloc X5_9.out _)))
  have X6_10 := Lib.hid (kept hb10 (blk_alloc X6_9.out (.cells #[.int .i64 2, .int .i64 a, .string ⟨#[]⟩, .slice none 0 0, .slice none 0 0, .slice none 0 0] 26)) (blk_lt (blk_alloc X6_9.out _)))
  have X7_10 := Lib.hid (kept hb10 (blk_alloc X7_9.out (.cells #[.int .i64 2, .int .i64 a, .string ⟨#[]⟩, .slice none 0 0, .slice none 0 0, .slice none 0 0] 26)) (blk_lt (blk_alloc X7_9.out _)))
  have X8_10 := Lib.hid (kept hb10 (blk_alloc X8_9.out (.cells #[.int .i64 2, .int .i64 a, .string ⟨#[]⟩, .slice none 0 0, .slice none 0 0, .slice none 0 0] 26)) (blk_lt (blk_alloc X8_9.out _)))
  clear X1_9 X2_9 X3_9 X4_9 X5_9 X6_9 X7_9 X8_9 hb10 B9
  go_wp2_with fail
  refine (H11.out _).mono ?_
  rintro e w11 ⟨rfl, hb11⟩
  have B11 : Below w.heap.size w w11 := (B10.alloc B10.size _).trans (hb11.mono (by have := B10.size; simp; omega))
  have X10_11 := Lib.hid (kept hb11 (blk_new w10 (.cells #[.int .i64 7, .int .i64 0, .string nl, .slice none 0 0, .slice none 0 0, .slice none 0 0] 26)) (by simp))
  have X1_11 := Lib.hid (kept hb11 (blk_alloc X1_10.out (.cells #[.int .i64 7, .int .i64 0, .string nl, .slice none 0 0, .slice none 0 0, .slice none 0 0] 26)) (blk_lt (blk_alloc X1_10.out _)))
  have X2_11 := Lib.hid (kept hb11 (blk_alloc X2_10.out (.cells #[.int .i64 7, .int .i64 0, .string nl, .slice none 0 0, .slice none 0 0, .slice none 0 0] 26)) (blk_lt (blk_alloc X2_10.out _)))
  have X3_11 := Lib.hid (kept hb11 (blk_alloc X3_10.out (.cells #[.int .i64 7, .int .i64 0, .string nl, .slice none 0 0, .slice none 0 0, .slice none 0 0] 26)) (blk_lt (blk_alloc X3_10.out _)))
  have X4_11 := Lib.hid (kept hb11 (blk_alloc X4_10.out (.cells #[.int .i64 7, .int .i64 0, .string nl, .slice none 0 0, .slice none 0 0, .slice none 0 0] 26)) (blk_lt (blk_alloc X4_10.out _)))
  have X5_11 := Lib.hid (kept hb11 (blk_alloc X5_10.out (.cells #[.int .i64 7, .int .i64 0, .string nl, .slice none 0 0, .slice none 0 0, .slice none 0 0] 26)) (blk_lt (blk_alloc X5_10.out _)))
  have X6_11 := Lib.hid (kept hb11 (blk_alloc X6_10.out (.cells #[.int .i64 7, .int .i64 0, .string nl, .slice none 0 0, .slice none 0 0, .slice none 0 0] 26)) (blk_lt (blk_alloc X6_10.out _)))
  have X7_11 := Lib.hid (kept hb11 (blk_alloc X7_10.out (.cells #[.int .i64 7, .int .i64 0, .string nl, .slice none 0 0, .slice none 0 0, .slice none 0 0] 26)) (blk_lt (blk_alloc X7_10.out _)))
  have X8_11 := Lib.hid (kept hb11 (blk_alloc X8_10.out (.cells #[.int .i64 7, .int .i64 0, .string nl, .slice none 0 0, .slice none 0 0, .slice none 0 0] 26)) (blk_lt (blk_alloc X8_10.out _)))
  have X9_11 := Lib.hid (kept hb11 (blk_alloc X9_10.out (.cells #[.int .i64 7, .int .i64 0, .string nl, .slice none 0 0, .slice none 0 0, .slice none 0 0] 26)) (blk_lt (blk_alloc X9_10.out _)))
  have l1_11 : w11.cell? ⟨w1.heap.size, 1, none⟩ = some (.int .i64 x) := blk_cell X1_11.out 1
  have m1_11 : w1.heap.size < w11.heap.size := blk_lt X1_11.out
  have n1_11 : w11.heap.size ≠ w1.heap.size := by omega
  have l2_11 : w11.cell? ⟨w2.heap.size, 1, none⟩ = some (.int .i64 x) := blk_cell X2_11.out 1
  have m2_11 : w2.heap.size < w11.heap.size := blk_lt X2_11.out
  have n2_11 : w11.heap.size ≠ w2.heap.size := by omega
  have l3_11 : w11.cell? ⟨w3.heap.size, 1, none⟩ = some (.int .i64 a) := blk_cell X3_11.out 1
  have m3_11 : w3.heap.size < w11.heap.size := blk_lt X3_11.out
  have n3_11 : w11.heap.size ≠ w3.heap.size := by omega
  have l4_11 : w11.cell? ⟨w4.heap.size, 1, none⟩ = some (.int .i64 u) := blk_cell X4_11.out 1
  have m4_11 : w4.heap.size < w11.heap.size := blk_lt X4_11.out
  have n4_11 : w11.heap.size ≠ w4.heap.size := by omega
  have l5_11 : w11.cell? ⟨w5.heap.size, 1, none⟩ = some (.int .i64 u) := blk_cell X5_11.out 1
  have m5_11 : w5.heap.size < w11.heap.size := blk_lt X5_11.out
  have n5_11 : w11.heap.size ≠ w5.heap.size := by omega
  have l9_11 : w11.cell? ⟨w9.heap.size, 1, none⟩ = some (.int .i64 a) := blk_cell X9_11.out 1
  have m9_11 : w9.heap.size < w11.heap.size := blk_lt X9_11.out
  have n9_11 : w11.heap.size ≠ w9.heap.size := by omega
  have l10_11 : w11.cell? ⟨w10.heap.size, 2, none⟩ = some (.string nl) := blk_cell X10_11.out 2
  have m10_11 : w10.heap.size < w11.heap.size := blk_lt X10_11.out
  have n10_11 : w11.heap.size ≠ w10.heap.size := by omega
  clear X1_10 X2_10 X3_10 X4_10 X5_10 X6_10 X7_10 X8_10 X9_10 hb11 B10
  go_wp2_with (go_at_call 11; ((with_reducible refine (awake35 _).mono ?_); rintro e w12 ⟨rfl, hb12⟩))
  go_ret
  exact ⟨rfl, (B11.alloc B11.size _).trans (hb12.mono (by have := B11.size; simp; omega))⟩

theorem walk (a b : Int) (wa : (Lit.int .i64 a).wf = true) (wb : (Lit.int .i64 b).wf = true) (w : World) :
    Calls Try.prog 5 #[.int .i64 a, .int .i64 b] w fun e w' => e = .returned (.bool true) ∧ Below w.heap.size w w' := by
  have ha := bounds_i64 wa
  have hb := bounds_i64 wb
  by_cases h0 : b = 0
  · subst h0
    refine walk_zero a (wrap64 (a + 0)) w (do_add a 0) ?_ ?_ ?_ ?_ (do_quot_zero a) (do_rem_zero a)
    · intro w; have := do_add 0 a w; rwa [Int.add_comm 0 a] at this
    · intro w; have := do_sub (wrap64 (a + 0)) 0 w; rwa [back_sub a 0 ha] at this
    · intro w; have := do_mul a 0 w; rwa [Int.mul_zero, show wrap64 0 = 0 by unfold wrap64; omega] at this
    · intro w; have := do_mul 0 a w; rwa [Int.zero_mul, show wrap64 0 = 0 by unfold wrap64; omega] at this
  · have e0 : (b == 0) = false := beq_eq_false_iff_ne.2 h0
    have k2 : (∀ w, Calls Try.prog 6 #[.string ⟨#[97, 100, 100]⟩, .int .i64 b, .int .i64 a] w fun e w' => e = .returned (.tuple #[.agg #[.int .i64 2, .int .i64 (wrap64 (a + b)), .string ⟨#[]⟩, .slice none 0 0, .slice none 0 0, .slice none 0 0], .int .i64 1]) ∧ Below w.heap.size w w') := fun w => by have := do_add b a w; rwa [Int.add_comm b a] at this
    have k3 : (∀ w, Calls Try.prog 6 #[.string ⟨#[115, 117, 98]⟩, .int .i64 (wrap64 (a + b)), .int .i64 b] w fun e w' => e = .returned (.tuple #[.agg #[.int .i64 2, .int .i64 a, .string ⟨#[]⟩, .slice none 0 0, .slice none 0 0, .slice none 0 0], .int .i64 1]) ∧ Below w.heap.size w w') := fun w => by have := do_sub (wrap64 (a + b)) b w; rwa [back_sub a b ha] at this
    have k5 : (∀ w, Calls Try.prog 6 #[.string ⟨#[109, 117, 108]⟩, .int .i64 b, .int .i64 a] w fun e w' => e = .returned (.tuple #[.agg #[.int .i64 2, .int .i64 (wrap64 (a * b)), .string ⟨#[]⟩, .slice none 0 0, .slice none 0 0, .slice none 0 0], .int .i64 1]) ∧ Below w.heap.size w w') := fun w => by have := do_mul b a w; rwa [Int.mul_comm b a] at this
    have k9 : (∀ w, Calls Try.prog 6 #[.string ⟨#[97, 100, 100]⟩, .int .i64 (wrap64 (qv a b * b)), .int .i64 (rv a b)] w fun e w' => e = .returned (.tuple #[.agg #[.int .i64 2, .int .i64 a, .string ⟨#[]⟩, .slice none 0 0, .slice none 0 0, .slice none 0 0], .int .i64 1]) ∧ Below w.heap.size w w') := fun w => by have := do_add (wrap64 (qv a b * b)) (rv a b) w; rwa [back_mul a b ha] at this
    rcases Int.lt_trichotomy a b with h | h | h
    · exact walk_not a b _ _ _ _ _ ⟨#[84, 114, 117, 101]⟩ ⟨#[70, 97, 108, 115, 101]⟩ w e0 (by rw [decide_eq_true h]; decide +kernel) (by rw [show (a == b) = false from beq_eq_false_iff_ne.2 (by omega)]; decide +kernel) (do_add a b) k2 k3 (do_mul a b) k5 (fun w => do_quot a b w ha hb h0) (fun w => do_rem a b w ha hb h0) (do_mul (qv a b) b) k9 (fun w => do_ltInt_yes a b w h) (fun w => do_eqInt_no a b w (by omega))
    · exact walk_not a b _ _ _ _ _ ⟨#[70, 97, 108, 115, 101]⟩ ⟨#[84, 114, 117, 101]⟩ w e0 (by rw [decide_eq_false (by omega)]; decide +kernel) (by rw [beq_iff_eq.2 h]; decide +kernel) (do_add a b) k2 k3 (do_mul a b) k5 (fun w => do_quot a b w ha hb h0) (fun w => do_rem a b w ha hb h0) (do_mul (qv a b) b) k9 (fun w => do_ltInt_no a b w (by omega)) (fun w => do_eqInt_yes a b w h)
    · exact walk_not a b _ _ _ _ _ ⟨#[70, 97, 108, 115, 101]⟩ ⟨#[70, 97, 108, 115, 101]⟩ w e0 (by rw [decide_eq_false (by omega)]; decide +kernel) (by rw [show (a == b) = false from beq_eq_false_iff_ne.2 (by omega)]; decide +kernel) (do_add a b) k2 k3 (do_mul a b) k5 (fun w => do_quot a b w ha hb h0) (fun w => do_rem a b w ha hb h0) (do_mul (qv a b) b) k9 (fun w => do_ltInt_no a b w (by omega)) (fun w => do_eqInt_no a b w (by omega))

theorem own : ownKnob Try.prog.godebug = none := by kernel_rfl
set_option maxRecDepth 100000 in
theorem lifted (os : Os) (started : os.Started) (H : Type) (enc : TypeId × Value → H) :
    ReturnsInHanded {} Try.checked os 5 .any (Rows.primsLawsSpec.pre6 enc Try.prog Try.f5 Rows.primsLawsRow.domain false) (Rows.primsLawsSpec.post enc Try.prog Try.f5 false true false false) := by
  refine returnsInHanded_of_change (C := Try.checked) own started (by kernel_rfl) Try.func5
    (ChangeSpec.witness6 (enc := enc) (C := Try.checked) false ⟨#[], #[.int .i64 0, .int .i64 0], []⟩ 8 (by kernel_rfl) (by kernel_rfl) (by kernel_rfl) (by kernel_rfl)) ?_
  intro W base args ds gs before hval0 hW hcnd _
  have hval : ∀ (j : Nat) t v, Try.f5.params[j]? = some t → args[j]? = some v → Value.okWide Try.prog W .any base t v := hval0
  have hW' := hW
  obtain ⟨p, q, hA0, hV, rfl, hfz, hnd⟩ := hW
  have hA : DataW.TrodAll enc Try.prog W 0 (fun _ => true) true Try.f5.params.toList args.toList ds p := hA0
  rw [Try.params5] at hA hval
  obtain ⟨v0, vs0, d0, ds0, p0, q0, hargs, rfl, rfl, h0, r0⟩ := trodAll_cons hA
  obtain ⟨v1, vs1, d1, ds1, p1, q1, rfl, rfl, rfl, h1, r1⟩ := trodAll_cons r0
  obtain ⟨rfl, rfl, rfl⟩ := trodAll_nil r1
  obtain rfl : args = #[v0, v1] := by cases args; simp_all
  obtain ⟨rfl, rfl⟩ := trodVars_none hV
  obtain ⟨a0, rfl, rfl, rfl, w0⟩ := open_int Try.underlying3 (hval 0 3 v0 rfl rfl) h0
  obtain ⟨a1, rfl, rfl, rfl, w1⟩ := open_int Try.underlying3 (hval 1 3 v1 rfl rfl) h1
  clear hA0 hval0
  simp only [List.append_nil] at hW'
  refine (walk a0 a1 w0 w1 W).mono fun e W' ⟨he, bel⟩ => ?_
  subst he
  exact ⟨_, rfl, _, _, _, [], [], [], hW', trodAll_mk1 (shut_bool Try.underlying4 _), (trodAll_cons_mk (shut_int Try.underlying3 w0) (trodAll_cons_mk (shut_int Try.underlying3 w1) trodAll_mk0)), rfl, bel.frame _, fun h => by cases h⟩

theorem over : Rows.primsLawsRow.holds Try.pinned (OpenSpec.ofChange Rows.primsLawsSpec) :=
  OpenClaim.holds_of_wide 5 Try.f5 rfl rfl rfl rfl rfl rfl rfl ⟨rfl, rfl, rfl, rfl, rfl⟩ rfl rfl rfl rfl rfl (by kernel_rfl) Try.func5 (by kernel_rfl)
    (of_decide_eq_true (by kernel_rfl)) (by unfold Func.isWrapper; first | (rw [if_pos (by decide +kernel)]; kernel_rfl) | (rw [if_neg (by decide +kernel)]; exact ⟨rfl, rfl⟩))
    (fun os started H enc _ => lifted os started H enc)
end Go.Proofs.Ytipeggpolnnpmaa.primsLaws
namespace Go.Proofs.Ytipeggpolnnpmaa
theorem primsLaws_holds : Rows.PrimsLawsSaid := primsLaws.over
#print axioms primsLaws_holds
end Go.Proofs.Ytipeggpolnnpmaa
