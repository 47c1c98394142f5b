/-
  The walks of the reference of layer 35: what a name does with two numbers.
-/
import Derived.Test.YtipeggpolnnpmaaPrimsInts
namespace Go.Proofs.Ytipeggpolnnpmaa
open Go.RowKit
set_option linter.unusedVariables false

theorem wrap64_congr {x y : Int} (h : x % 18446744073709551616 = y % 18446744073709551616) : wrap64 x = wrap64 y := by
  unfold wrap64; omega
theorem u64_mod (x : Int) : IntKind.u64.wrap x = x % 18446744073709551616 := by
  simp [IntKind.wrap, IntKind.bits, IntKind.signed]
theorem add_eq (a b : Int) : wrap64 (a + b) = wrap64 (IntKind.u64.wrap (IntKind.u64.wrap a + IntKind.u64.wrap b)) := by
  apply wrap64_congr; simp only [u64_mod]; omega
theorem sub_eq (a b : Int) : wrap64 (a - b) = wrap64 (IntKind.u64.wrap (IntKind.u64.wrap a - IntKind.u64.wrap b)) := by
  apply wrap64_congr; simp only [u64_mod]; omega
theorem mul_eq (a b : Int) : wrap64 (a * b) = wrap64 (IntKind.u64.wrap (IntKind.u64.wrap a * IntKind.u64.wrap b)) := by
  apply wrap64_congr; simp only [u64_mod]; rw [Int.emod_emod_of_dvd _ (Int.dvd_refl _), ← Int.mul_emod]

set_option maxRecDepth 100000 in
set_option maxHeartbeats 400000 in
theorem number_yes (n : Int) (w : World) : Calls Try.prog 18 #[.int .i64 n, .bool true] w fun e w' => e = .returned (.tuple #[.agg #[.int .i64 2, .int .i64 n, .string ⟨#[]⟩, .slice none 0 0, .slice none 0 0, .slice none 0 0], .int .i64 1]) ∧ w.alloc (.cells #[.int .i64 2, .int .i64 n, .string ⟨#[]⟩, .slice none 0 0, .slice none 0 0, .slice none 0 0] 26) = w' := by
  go_enter Try.func18, Try.ntmps18
  go_wp2
  exact bodyPost_ret (v := .tuple #[.agg #[.int .i64 2, .int .i64 n, .string ⟨#[]⟩, .slice none 0 0, .slice none 0 0, .slice none 0 0], .int .i64 1]) (by simp [results, Try.results18, go_sem]) rfl ⟨rfl, rfl⟩

set_option maxRecDepth 100000 in
set_option maxHeartbeats 400000 in
theorem number_no (n : Int) (w : World) : Calls Try.prog 18 #[.int .i64 n, .bool false] w fun e w' => e = .returned (.tuple #[.agg #[.int .i64 0, .int .i64 0, .string ⟨#[]⟩, .slice none 0 0, .slice none 0 0, .slice none 0 0], .int .i64 4]) ∧ w.alloc (.cells #[.int .i64 0, .int .i64 0, .string ⟨#[]⟩, .slice none 0 0, .slice none 0 0, .slice none 0 0] 26) = w' := by
  go_enter Try.func18, Try.ntmps18
  go_wp2
  exact bodyPost_ret (v := .tuple #[.agg #[.int .i64 0, .int .i64 0, .string ⟨#[]⟩, .slice none 0 0, .slice none 0 0, .slice none 0 0], .int .i64 4]) (by simp [results, Try.results18, go_sem]) rfl ⟨rfl, rfl⟩

set_option maxRecDepth 100000 in
set_option maxHeartbeats 400000 in
theorem truth_yes (w : World) : Calls Try.prog 21 #[.bool true] w fun e w' => e = .returned (.agg #[.int .i64 7, .int .i64 0, .string ⟨#[84, 114, 117, 101]⟩, .slice none 0 0, .slice none 0 0, .slice none 0 0]) ∧ w.alloc (.cells #[.int .i64 7, .int .i64 0, .string ⟨#[84, 114, 117, 101]⟩, .slice none 0 0, .slice none 0 0, .slice none 0 0] 26) = w' := by
  go_enter Try.func21, Try.ntmps21
  go_wp2
  exact bodyPost_ret (v := .agg #[.int .i64 7, .int .i64 0, .string ⟨#[84, 114, 117, 101]⟩, .slice none 0 0, .slice none 0 0, .slice none 0 0]) (by simp [results, Try.results21, go_sem]) rfl ⟨rfl, rfl⟩

set_option maxRecDepth 100000 in
set_option maxHeartbeats 400000 in
theorem truth_no (w : World) : Calls Try.prog 21 #[.bool false] w fun e w' => e = .returned (.agg #[.int .i64 7, .int .i64 0, .string ⟨#[70, 97, 108, 115, 101]⟩, .slice none 0 0, .slice none 0 0, .slice none 0 0]) ∧ w.alloc (.cells #[.int .i64 7, .int .i64 0, .string ⟨#[70, 97, 108, 115, 101]⟩, .slice none 0 0, .slice none 0 0, .slice none 0 0] 26) = w' := by
  go_enter Try.func21, Try.ntmps21
  go_wp2
  exact bodyPost_ret (v := .agg #[.int .i64 7, .int .i64 0, .string ⟨#[70, 97, 108, 115, 101]⟩, .slice none 0 0, .slice none 0 0, .slice none 0 0]) (by simp [results, Try.results21, go_sem]) rfl ⟨rfl, rfl⟩

set_option maxRecDepth 100000 in
set_option maxHeartbeats 400000 in
theorem rdo_add (a b : Int) (w : World) : Calls Try.prog 7 #[.string ⟨#[97, 100, 100]⟩, .int .i64 a, .int .i64 b] w fun e w' =>
    e = .returned (.tuple #[.agg #[.int .i64 2, .int .i64 (wrap64 (a + b)), .string ⟨#[]⟩, .slice none 0 0, .slice none 0 0, .slice none 0 0], .int .i64 1]) ∧ Below w.heap.size w w' := by
  rw [add_eq]
  go_enter Try.func7, Try.ntmps7
  go_wp2_with (go_at_call 18; ((with_reducible refine (number_yes _ _).mono ?_); rintro e w' ⟨rfl, rfl⟩))
  refine bodyPost_ret (v := .tuple #[.agg #[.int .i64 2, .int .i64 (wrap64 (IntKind.u64.wrap (IntKind.u64.wrap a + IntKind.u64.wrap b))), .string ⟨#[]⟩, .slice none 0 0, .slice none 0 0, .slice none 0 0], .int .i64 1]) (by simp [results, Try.results7, go_sem]) rfl ⟨rfl, ?_⟩
  all_goals (repeat (first | exact Below.refl _ _ | refine Below.alloc ?_ (by first | exact Nat.le_refl _ | (simp only [World.size_alloc]; omega)) _))

set_option maxRecDepth 100000 in
set_option maxHeartbeats 400000 in
theorem rdo_sub (a b : Int) (w : World) : Calls Try.prog 7 #[.string ⟨#[115, 117, 98]⟩, .int .i64 a, .int .i64 b] w fun e w' =>
    e = .returned (.tuple #[.agg #[.int .i64 2, .int .i64 (wrap64 (a - b)), .string ⟨#[]⟩, .slice none 0 0, .slice none 0 0, .slice none 0 0], .int .i64 1]) ∧ Below w.heap.size w w' := by
  rw [sub_eq]
  go_enter Try.func7, Try.ntmps7
  go_wp2_with (go_at_call 18; ((with_reducible refine (number_yes _ _).mono ?_); rintro e w' ⟨rfl, rfl⟩))
  refine bodyPost_ret (v := .tuple #[.agg #[.int .i64 2, .int .i64 (wrap64 (IntKind.u64.wrap (IntKind.u64.wrap a - IntKind.u64.wrap b))), .string ⟨#[]⟩, .slice none 0 0, .slice none 0 0, .slice none 0 0], .int .i64 1]) (by simp [results, Try.results7, go_sem]) rfl ⟨rfl, ?_⟩
  all_goals (repeat (first | exact Below.refl _ _ | refine Below.alloc ?_ (by first | exact Nat.le_refl _ | (simp only [World.size_alloc]; omega)) _))

set_option maxRecDepth 100000 in
set_option maxHeartbeats 400000 in
theorem rdo_mul (a b : Int) (w : World) : Calls Try.prog 7 #[.string ⟨#[109, 117, 108]⟩, .int .i64 a, .int .i64 b] w fun e w' =>
    e = .returned (.tuple #[.agg #[.int .i64 2, .int .i64 (wrap64 (a * b)), .string ⟨#[]⟩, .slice none 0 0, .slice none 0 0, .slice none 0 0], .int .i64 1]) ∧ Below w.heap.size w w' := by
  rw [mul_eq]
  go_enter Try.func7, Try.ntmps7
  go_wp2_with (go_at_call 18; ((with_reducible refine (number_yes _ _).mono ?_); rintro e w' ⟨rfl, rfl⟩))
  refine bodyPost_ret (v := .tuple #[.agg #[.int .i64 2, .int .i64 (wrap64 (IntKind.u64.wrap (IntKind.u64.wrap a * IntKind.u64.wrap b))), .string ⟨#[]⟩, .slice none 0 0, .slice none 0 0, .slice none 0 0], .int .i64 1]) (by simp [results, Try.results7, go_sem]) rfl ⟨rfl, ?_⟩
  all_goals (repeat (first | exact Below.refl _ _ | refine Below.alloc ?_ (by first | exact Nat.le_refl _ | (simp only [World.size_alloc]; omega)) _))

set_option maxRecDepth 100000 in
set_option maxHeartbeats 400000 in
theorem rdo_quot_zero (a : Int) (w : World) : Calls Try.prog 7 #[.string ⟨#[113, 117, 111, 116]⟩, .int .i64 a, .int .i64 0] w fun e w' =>
    e = .returned (.tuple #[.agg #[.int .i64 0, .int .i64 0, .string ⟨#[]⟩, .slice none 0 0, .slice none 0 0, .slice none 0 0], .int .i64 4]) ∧ Below w.heap.size w w' := by
  go_enter Try.func7, Try.ntmps7
  go_wp2_with (first | (go_at_call 19; ((with_reducible refine (rquot_zero _ _).mono ?_); rintro e w' ⟨rfl, rfl⟩)) | (go_at_call 18; ((with_reducible refine (number_no _ _).mono ?_); rintro e w' ⟨rfl, rfl⟩)))
  refine bodyPost_ret (v := .tuple #[.agg #[.int .i64 0, .int .i64 0, .string ⟨#[]⟩, .slice none 0 0, .slice none 0 0, .slice none 0 0], .int .i64 4]) (by simp [results, Try.results7, go_sem]) rfl ⟨rfl, ?_⟩
  all_goals (repeat (first | exact Below.refl _ _ | refine Below.alloc ?_ (by first | exact Nat.le_refl _ | (simp only [World.size_alloc]; omega)) _))

set_option maxRecDepth 100000 in
set_option maxHeartbeats 400000 in
theorem rdo_quot (a b : Int) (w : World) (ha : -9223372036854775808 ≤ a ∧ a ≤ 9223372036854775807) (hb : -9223372036854775808 ≤ b ∧ b ≤ 9223372036854775807) (hb0 : b ≠ 0) : Calls Try.prog 7 #[.string ⟨#[113, 117, 111, 116]⟩, .int .i64 a, .int .i64 b] w fun e w' =>
    e = .returned (.tuple #[.agg #[.int .i64 2, .int .i64 (qv a b), .string ⟨#[]⟩, .slice none 0 0, .slice none 0 0, .slice none 0 0], .int .i64 1]) ∧ Below w.heap.size w w' := by
  have HQ := Lib.hid (fun w => rquot_any a b w ha hb hb0)
  clear ha hb hb0
  generalize qv a b = q at *
  go_enter Try.func7, Try.ntmps7
  go_wp2_with (first | (go_at_call 19; ((with_reducible refine (HQ.out _).mono ?_); rintro e w' ⟨rfl, rfl⟩)) | (go_at_call 18; ((with_reducible refine (number_yes _ _).mono ?_); rintro e w' ⟨rfl, rfl⟩)))
  refine bodyPost_ret (v := .tuple #[.agg #[.int .i64 2, .int .i64 q, .string ⟨#[]⟩, .slice none 0 0, .slice none 0 0, .slice none 0 0], .int .i64 1]) (by simp [results, Try.results7, go_sem]) rfl ⟨rfl, ?_⟩
  all_goals (repeat (first | exact Below.refl _ _ | refine Below.alloc ?_ (by first | exact Nat.le_refl _ | (simp only [World.size_alloc]; omega)) _))

set_option maxRecDepth 100000 in
set_option maxHeartbeats 400000 in
theorem rdo_rem_zero (a : Int) (w : World) : Calls Try.prog 7 #[.string ⟨#[114, 101, 109]⟩, .int .i64 a, .int .i64 0] w fun e w' =>
    e = .returned (.tuple #[.agg #[.int .i64 0, .int .i64 0, .string ⟨#[]⟩, .slice none 0 0, .slice none 0 0, .slice none 0 0], .int .i64 4]) ∧ Below w.heap.size w w' := by
  go_enter Try.func7, Try.ntmps7
  go_wp2_with (first | (go_at_call 20; ((with_reducible refine (rrem_zero _ _).mono ?_); rintro e w' ⟨rfl, rfl⟩)) | (go_at_call 18; ((with_reducible refine (number_no _ _).mono ?_); rintro e w' ⟨rfl, rfl⟩)))
  refine bodyPost_ret (v := .tuple #[.agg #[.int .i64 0, .int .i64 0, .string ⟨#[]⟩, .slice none 0 0, .slice none 0 0, .slice none 0 0], .int .i64 4]) (by simp [results, Try.results7, go_sem]) rfl ⟨rfl, ?_⟩
  all_goals (repeat (first | exact Below.refl _ _ | refine Below.alloc ?_ (by first | exact Nat.le_refl _ | (simp only [World.size_alloc]; omega)) _))

set_option maxRecDepth 100000 in
set_option maxHeartbeats 400000 in
theorem rdo_rem (a b : Int) (w : World) (ha : -9223372036854775808 ≤ a ∧ a ≤ 9223372036854775807) (hb : -9223372036854775808 ≤ b ∧ b ≤ 9223372036854775807) (hb0 : b ≠ 0) : Calls Try.prog 7 #[.string ⟨#[114, 101, 109]⟩, .int .i64 a, .int .i64 b] w fun e w' =>
    e = .returned (.tuple #[.agg #[.int .i64 2, .int .i64 (rv a b), .string ⟨#[]⟩, .slice none 0 0, .slice none 0 0, .slice none 0 0], .int .i64 1]) ∧ Below w.heap.size w w' := by
  have HQ := Lib.hid (fun w => rrem_any a b w ha hb hb0)
  clear ha hb hb0
  generalize rv a b = q at *
  go_enter Try.func7, Try.ntmps7
  go_wp2_with (first | (go_at_call 20; ((with_reducible refine (HQ.out _).mono ?_); rintro e w' ⟨rfl, rfl⟩)) | (go_at_call 18; ((with_reducible refine (number_yes _ _).mono ?_); rintro e w' ⟨rfl, rfl⟩)))
  refine bodyPost_ret (v := .tuple #[.agg #[.int .i64 2, .int .i64 q, .string ⟨#[]⟩, .slice none 0 0, .slice none 0 0, .slice none 0 0], .int .i64 1]) (by simp [results, Try.results7, go_sem]) rfl ⟨rfl, ?_⟩
  all_goals (repeat (first | exact Below.refl _ _ | refine Below.alloc ?_ (by first | exact Nat.le_refl _ | (simp only [World.size_alloc]; omega)) _))

set_option maxRecDepth 100000 in
set_option maxHeartbeats 400000 in
theorem rdo_eqInt_yes (a b : Int) (w : World) (h : a = b) : Calls Try.prog 7 #[.string ⟨#[101, 113, 73, 110, 116]⟩, .int .i64 a, .int .i64 b] w fun e w' =>
    e = .returned (.tuple #[.agg #[.int .i64 7, .int .i64 0, .string ⟨#[84, 114, 117, 101]⟩, .slice none 0 0, .slice none 0 0, .slice none 0 0], .int .i64 1]) ∧ Below w.heap.size w w' := by
  have hy : (a == b) = true := beq_iff_eq.2 h
  clear h
  go_enter Try.func7, Try.ntmps7
  go_wp2_with (go_at_call 21; ((with_reducible refine (truth_yes _).mono ?_); rintro e w' ⟨rfl, rfl⟩))
  refine bodyPost_ret (v := .tuple #[.agg #[.int .i64 7, .int .i64 0, .string ⟨#[84, 114, 117, 101]⟩, .slice none 0 0, .slice none 0 0, .slice none 0 0], .int .i64 1]) (by simp [results, Try.results7, go_sem]) rfl ⟨rfl, ?_⟩
  all_goals (repeat (first | exact Below.refl _ _ | refine Below.alloc ?_ (by first | exact Nat.le_refl _ | (simp only [World.size_alloc]; omega)) _))

set_option maxRecDepth 100000 in
set_option maxHeartbeats 400000 in
theorem rdo_eqInt_no (a b : Int) (w : World) (h : ¬ a = b) : Calls Try.prog 7 #[.string ⟨#[101, 113, 73, 110, 116]⟩, .int .i64 a, .int .i64 b] w fun e w' =>
    e = .returned (.tuple #[.agg #[.int .i64 7, .int .i64 0, .string ⟨#[70, 97, 108, 115, 101]⟩, .slice none 0 0, .slice none 0 0, .slice none 0 0], .int .i64 1]) ∧ Below w.heap.size w w' := by
  have hy : (a == b) = false := beq_eq_false_iff_ne.2 h
  clear h
  go_enter Try.func7, Try.ntmps7
  go_wp2_with (go_at_call 21; ((with_reducible refine (truth_no _).mono ?_); rintro e w' ⟨rfl, rfl⟩))
  refine bodyPost_ret (v := .tuple #[.agg #[.int .i64 7, .int .i64 0, .string ⟨#[70, 97, 108, 115, 101]⟩, .slice none 0 0, .slice none 0 0, .slice none 0 0], .int .i64 1]) (by simp [results, Try.results7, go_sem]) rfl ⟨rfl, ?_⟩
  all_goals (repeat (first | exact Below.refl _ _ | refine Below.alloc ?_ (by first | exact Nat.le_refl _ | (simp only [World.size_alloc]; omega)) _))

set_option maxRecDepth 100000 in
set_option maxHeartbeats 400000 in
theorem rdo_ltInt_yes (a b : Int) (w : World) (h : a < b) : Calls Try.prog 7 #[.string ⟨#[108, 116, 73, 110, 116]⟩, .int .i64 a, .int .i64 b] w fun e w' =>
    e = .returned (.tuple #[.agg #[.int .i64 7, .int .i64 0, .string ⟨#[84, 114, 117, 101]⟩, .slice none 0 0, .slice none 0 0, .slice none 0 0], .int .i64 1]) ∧ Below w.heap.size w w' := by
  have hy : decide (a < b) = true := by simpa using h
  clear h
  go_enter Try.func7, Try.ntmps7
  go_wp2_with (go_at_call 21; ((with_reducible refine (truth_yes _).mono ?_); rintro e w' ⟨rfl, rfl⟩))
  refine bodyPost_ret (v := .tuple #[.agg #[.int .i64 7, .int .i64 0, .string ⟨#[84, 114, 117, 101]⟩, .slice none 0 0, .slice none 0 0, .slice none 0 0], .int .i64 1]) (by simp [results, Try.results7, go_sem]) rfl ⟨rfl, ?_⟩
  all_goals (repeat (first | exact Below.refl _ _ | refine Below.alloc ?_ (by first | exact Nat.le_refl _ | (simp only [World.size_alloc]; omega)) _))

set_option maxRecDepth 100000 in
set_option maxHeartbeats 400000 in
theorem rdo_ltInt_no (a b : Int) (w : World) (h : b ≤ a) : Calls Try.prog 7 #[.string ⟨#[108, 116, 73, 110, 116]⟩, .int .i64 a, .int .i64 b] w fun e w' =>
    e = .returned (.tuple #[.agg #[.int .i64 7, .int .i64 0, .string ⟨#[70, 97, 108, 115, 101]⟩, .slice none 0 0, .slice none 0 0, .slice none 0 0], .int .i64 1]) ∧ Below w.heap.size w w' := by
  have hy : decide (a < b) = false := by simpa using h
  clear h
  go_enter Try.func7, Try.ntmps7
  go_wp2_with (go_at_call 21; ((with_reducible refine (truth_no _).mono ?_); rintro e w' ⟨rfl, rfl⟩))
  refine bodyPost_ret (v := .tuple #[.agg #[.int .i64 7, .int .i64 0, .string ⟨#[70, 97, 108, 115, 101]⟩, .slice none 0 0, .slice none 0 0, .slice none 0 0], .int .i64 1]) (by simp [results, Try.results7, go_sem]) rfl ⟨rfl, ?_⟩
  all_goals (repeat (first | exact Below.refl _ _ | refine Below.alloc ?_ (by first | exact Nat.le_refl _ | (simp only [World.size_alloc]; omega)) _))

set_option maxRecDepth 100000 in
set_option maxHeartbeats 400000 in
theorem rdo_none (s : ByteArray) (a b : Int) (w : World) (g0 : (s.toList == [97, 100, 100]) = false) (g1 : (s.toList == [115, 117, 98]) = false) (g2 : (s.toList == [109, 117, 108]) = false) (g3 : (s.toList == [113, 117, 111, 116]) = false) (g4 : (s.toList == [114, 101, 109]) = false) (g5 : (s.toList == [101, 113, 73, 110, 116]) = false) (g6 : (s.toList == [108, 116, 73, 110, 116]) = false) : Calls Try.prog 7 #[.string s, .int .i64 a, .int .i64 b] w fun e w' =>
    e = .returned (.tuple #[.agg #[.int .i64 0, .int .i64 0, .string ⟨#[]⟩, .slice none 0 0, .slice none 0 0, .slice none 0 0], .int .i64 5]) ∧ Below w.heap.size w w' := by
  go_enter Try.func7, Try.ntmps7
  go_wp2
  refine bodyPost_ret (v := .tuple #[.agg #[.int .i64 0, .int .i64 0, .string ⟨#[]⟩, .slice none 0 0, .slice none 0 0, .slice none 0 0], .int .i64 5]) (by simp [results, Try.results7, go_sem]) rfl ⟨rfl, ?_⟩
  all_goals (repeat (first | exact Below.refl _ _ | refine Below.alloc ?_ (by first | exact Nat.le_refl _ | (simp only [World.size_alloc]; omega)) _))

end Go.Proofs.Ytipeggpolnnpmaa
