/-
  The walks of layer 35: what a name does with two numbers.
-/
import Derived.Test.YtipeggpolnnpmaaPrimsFind
namespace Go.Proofs.Ytipeggpolnnpmaa
open Go.RowKit
set_option linter.unusedVariables false

/-- The names that are prims. -/
def prs : List (List UInt8) := [[97, 100, 100], [115, 117, 98], [109, 117, 108], [113, 117, 111, 116], [114, 101, 109], [101, 113, 73, 110, 116], [108, 116, 73, 110, 116]]
set_option maxRecDepth 100000 in
set_option maxHeartbeats 400000 in
theorem find_none (s : ByteArray) (w : World) (g0 : (s.toList == [97, 100, 100]) = false) (g1 : (s.toList == [115, 117, 98]) = false) (g2 : (s.toList == [109, 117, 108]) = false) (g3 : (s.toList == [113, 117, 111, 116]) = false) (g4 : (s.toList == [114, 101, 109]) = false) (g5 : (s.toList == [101, 113, 73, 110, 116]) = false) (g6 : (s.toList == [108, 116, 73, 110, 116]) = false) : Calls Try.prog 17 #[.string s] w fun e w' =>
    e = .returned (.tuple #[.agg #[.nilFunc], .bool false]) ∧ w.alloc (.cells #[.nilFunc] 43) = w' := by
  go_enter Try.func17, Try.ntmps17
  go_wp2
  exact bodyPost_ret (v := .tuple #[.agg #[.nilFunc], .bool false]) (by simp [results, Try.results17, go_sem]) rfl ⟨rfl, by simp [go_sem]⟩

set_option maxRecDepth 100000 in
set_option maxHeartbeats 400000 in
theorem do_add (a b : Int) (w : World) : Calls Try.prog 6 #[.string ⟨#[97, 100, 100]⟩, .int .i64 a, .int .i64 b] w fun e w' =>
    e = .returned (.tuple #[.agg #[.int .i64 2, .int .i64 (wrap64 (a + b)), .string ⟨#[]⟩, .slice none 0 0, .slice none 0 0, .slice none 0 0], .int .i64 1]) ∧ Below w.heap.size w w' := by
  go_enter Try.func6, Try.ntmps6
  go_wp2_with (first | (go_at_call 17; ((with_reducible refine (find_add _).mono ?_); rintro e w' ⟨rfl, rfl⟩)) | (go_at_call 47; ((with_reducible refine (whole1_add _ _ _ _ (by simp [go_sem])).mono ?_); rintro e w' ⟨rfl, rfl⟩)))
  refine bodyPost_ret (v := .tuple #[.agg #[.int .i64 2, .int .i64 (wrap64 (a + b)), .string ⟨#[]⟩, .slice none 0 0, .slice none 0 0, .slice none 0 0], .int .i64 1]) (by simp [results, Try.results6, go_sem]) rfl ⟨rfl, ?_⟩
  all_goals (repeat (first | exact Below.refl _ _ | refine Below.alloc ?_ (by first | exact Nat.le_refl _ | (simp only [World.size_alloc]; omega)) _))

set_option maxRecDepth 100000 in
set_option maxHeartbeats 400000 in
theorem do_sub (a b : Int) (w : World) : Calls Try.prog 6 #[.string ⟨#[115, 117, 98]⟩, .int .i64 a, .int .i64 b] w fun e w' =>
    e = .returned (.tuple #[.agg #[.int .i64 2, .int .i64 (wrap64 (a - b)), .string ⟨#[]⟩, .slice none 0 0, .slice none 0 0, .slice none 0 0], .int .i64 1]) ∧ Below w.heap.size w w' := by
  go_enter Try.func6, Try.ntmps6
  go_wp2_with (first | (go_at_call 17; ((with_reducible refine (find_sub _).mono ?_); rintro e w' ⟨rfl, rfl⟩)) | (go_at_call 47; ((with_reducible refine (whole1_sub _ _ _ _ (by simp [go_sem])).mono ?_); rintro e w' ⟨rfl, rfl⟩)))
  refine bodyPost_ret (v := .tuple #[.agg #[.int .i64 2, .int .i64 (wrap64 (a - b)), .string ⟨#[]⟩, .slice none 0 0, .slice none 0 0, .slice none 0 0], .int .i64 1]) (by simp [results, Try.results6, go_sem]) rfl ⟨rfl, ?_⟩
  all_goals (repeat (first | exact Below.refl _ _ | refine Below.alloc ?_ (by first | exact Nat.le_refl _ | (simp only [World.size_alloc]; omega)) _))

set_option maxRecDepth 100000 in
set_option maxHeartbeats 400000 in
theorem do_mul (a b : Int) (w : World) : Calls Try.prog 6 #[.string ⟨#[109, 117, 108]⟩, .int .i64 a, .int .i64 b] w fun e w' =>
    e = .returned (.tuple #[.agg #[.int .i64 2, .int .i64 (wrap64 (a * b)), .string ⟨#[]⟩, .slice none 0 0, .slice none 0 0, .slice none 0 0], .int .i64 1]) ∧ Below w.heap.size w w' := by
  go_enter Try.func6, Try.ntmps6
  go_wp2_with (first | (go_at_call 17; ((with_reducible refine (find_mul _).mono ?_); rintro e w' ⟨rfl, rfl⟩)) | (go_at_call 47; ((with_reducible refine (whole1_mul _ _ _ _ (by simp [go_sem])).mono ?_); rintro e w' ⟨rfl, rfl⟩)))
  refine bodyPost_ret (v := .tuple #[.agg #[.int .i64 2, .int .i64 (wrap64 (a * b)), .string ⟨#[]⟩, .slice none 0 0, .slice none 0 0, .slice none 0 0], .int .i64 1]) (by simp [results, Try.results6, go_sem]) rfl ⟨rfl, ?_⟩
  all_goals (repeat (first | exact Below.refl _ _ | refine Below.alloc ?_ (by first | exact Nat.le_refl _ | (simp only [World.size_alloc]; omega)) _))

set_option maxRecDepth 100000 in
set_option maxHeartbeats 400000 in
theorem do_quot_zero (a : Int) (w : World) : Calls Try.prog 6 #[.string ⟨#[113, 117, 111, 116]⟩, .int .i64 a, .int .i64 0] w fun e w' =>
    e = .returned (.tuple #[.agg #[.int .i64 0, .int .i64 0, .string ⟨#[]⟩, .slice none 0 0, .slice none 0 0, .slice none 0 0], .int .i64 4]) ∧ Below w.heap.size w w' := by
  go_enter Try.func6, Try.ntmps6
  go_wp2_with (first | (go_at_call 17; ((with_reducible refine (find_quot _).mono ?_); rintro e w' ⟨rfl, rfl⟩)) | (go_at_call 48; ((with_reducible refine (part1_quot a 0 0 false _ _ (by simp [go_sem]) (fun w => quot_zero a w)).mono ?_); rintro e w' ⟨rfl, rfl⟩)))
  refine bodyPost_ret (v := .tuple #[.agg #[.int .i64 0, .int .i64 0, .string ⟨#[]⟩, .slice none 0 0, .slice none 0 0, .slice none 0 0], .int .i64 4]) (by simp [results, Try.results6, go_sem]) rfl ⟨rfl, ?_⟩
  all_goals (repeat (first | exact Below.refl _ _ | refine Below.alloc ?_ (by first | exact Nat.le_refl _ | (simp only [World.size_alloc]; omega)) _))

set_option maxRecDepth 100000 in
set_option maxHeartbeats 400000 in
theorem do_quot (a b : Int) (w : World) (ha : -9223372036854775808 ≤ a ∧ a ≤ 9223372036854775807) (hb : -9223372036854775808 ≤ b ∧ b ≤ 9223372036854775807) (hb0 : b ≠ 0) : Calls Try.prog 6 #[.string ⟨#[113, 117, 111, 116]⟩, .int .i64 a, .int .i64 b] w fun e w' =>
    e = .returned (.tuple #[.agg #[.int .i64 2, .int .i64 (qv a b), .string ⟨#[]⟩, .slice none 0 0, .slice none 0 0, .slice none 0 0], .int .i64 1]) ∧ Below w.heap.size w w' := by
  have HQ := Lib.hid (fun w => quot_any a b w ha hb hb0)
  clear ha hb hb0
  generalize qv a b = q at *
  go_enter Try.func6, Try.ntmps6
  go_wp2_with (first | (go_at_call 17; ((with_reducible refine (find_quot _).mono ?_); rintro e w' ⟨rfl, rfl⟩)) | (go_at_call 48; ((with_reducible refine (part1_quot a b _ true _ _ (by simp [go_sem]) HQ.out).mono ?_); rintro e w' ⟨rfl, rfl⟩)))
  refine bodyPost_ret (v := .tuple #[.agg #[.int .i64 2, .int .i64 q, .string ⟨#[]⟩, .slice none 0 0, .slice none 0 0, .slice none 0 0], .int .i64 1]) (by simp [results, Try.results6, go_sem]) rfl ⟨rfl, ?_⟩
  all_goals (repeat (first | exact Below.refl _ _ | refine Below.alloc ?_ (by first | exact Nat.le_refl _ | (simp only [World.size_alloc]; omega)) _))

set_option maxRecDepth 100000 in
set_option maxHeartbeats 400000 in
theorem do_rem_zero (a : Int) (w : World) : Calls Try.prog 6 #[.string ⟨#[114, 101, 109]⟩, .int .i64 a, .int .i64 0] w fun e w' =>
    e = .returned (.tuple #[.agg #[.int .i64 0, .int .i64 0, .string ⟨#[]⟩, .slice none 0 0, .slice none 0 0, .slice none 0 0], .int .i64 4]) ∧ Below w.heap.size w w' := by
  go_enter Try.func6, Try.ntmps6
  go_wp2_with (first | (go_at_call 17; ((with_reducible refine (find_rem _).mono ?_); rintro e w' ⟨rfl, rfl⟩)) | (go_at_call 48; ((with_reducible refine (part1_rem a 0 0 false _ _ (by simp [go_sem]) (fun w => rem_zero a w)).mono ?_); rintro e w' ⟨rfl, rfl⟩)))
  refine bodyPost_ret (v := .tuple #[.agg #[.int .i64 0, .int .i64 0, .string ⟨#[]⟩, .slice none 0 0, .slice none 0 0, .slice none 0 0], .int .i64 4]) (by simp [results, Try.results6, go_sem]) rfl ⟨rfl, ?_⟩
  all_goals (repeat (first | exact Below.refl _ _ | refine Below.alloc ?_ (by first | exact Nat.le_refl _ | (simp only [World.size_alloc]; omega)) _))

set_option maxRecDepth 100000 in
set_option maxHeartbeats 400000 in
theorem do_rem (a b : Int) (w : World) (ha : -9223372036854775808 ≤ a ∧ a ≤ 9223372036854775807) (hb : -9223372036854775808 ≤ b ∧ b ≤ 9223372036854775807) (hb0 : b ≠ 0) : Calls Try.prog 6 #[.string ⟨#[114, 101, 109]⟩, .int .i64 a, .int .i64 b] w fun e w' =>
    e = .returned (.tuple #[.agg #[.int .i64 2, .int .i64 (rv a b), .string ⟨#[]⟩, .slice none 0 0, .slice none 0 0, .slice none 0 0], .int .i64 1]) ∧ Below w.heap.size w w' := by
  have HQ := Lib.hid (fun w => rem_any a b w ha hb hb0)
  clear ha hb hb0
  generalize rv a b = q at *
  go_enter Try.func6, Try.ntmps6
  go_wp2_with (first | (go_at_call 17; ((with_reducible refine (find_rem _).mono ?_); rintro e w' ⟨rfl, rfl⟩)) | (go_at_call 48; ((with_reducible refine (part1_rem a b _ true _ _ (by simp [go_sem]) HQ.out).mono ?_); rintro e w' ⟨rfl, rfl⟩)))
  refine bodyPost_ret (v := .tuple #[.agg #[.int .i64 2, .int .i64 q, .string ⟨#[]⟩, .slice none 0 0, .slice none 0 0, .slice none 0 0], .int .i64 1]) (by simp [results, Try.results6, go_sem]) rfl ⟨rfl, ?_⟩
  all_goals (repeat (first | exact Below.refl _ _ | refine Below.alloc ?_ (by first | exact Nat.le_refl _ | (simp only [World.size_alloc]; omega)) _))

set_option maxRecDepth 100000 in
set_option maxHeartbeats 400000 in
theorem do_eqInt_yes (a b : Int) (w : World) (h : a = b) : Calls Try.prog 6 #[.string ⟨#[101, 113, 73, 110, 116]⟩, .int .i64 a, .int .i64 b] w fun e w' =>
    e = .returned (.tuple #[.agg #[.int .i64 7, .int .i64 0, .string ⟨#[84, 114, 117, 101]⟩, .slice none 0 0, .slice none 0 0, .slice none 0 0], .int .i64 1]) ∧ Below w.heap.size w w' := by
  have HH := Lib.hid h
  clear h
  go_enter Try.func6, Try.ntmps6
  go_wp2_with (first | (go_at_call 17; ((with_reducible refine (find_eqInt _).mono ?_); rintro e w' ⟨rfl, rfl⟩)) | (go_at_call 49; ((with_reducible refine (asks1_eq_yes _ _ _ _ HH.out (by simp [go_sem])).mono ?_); rintro e w' ⟨rfl, rfl⟩)))
  refine bodyPost_ret (v := .tuple #[.agg #[.int .i64 7, .int .i64 0, .string ⟨#[84, 114, 117, 101]⟩, .slice none 0 0, .slice none 0 0, .slice none 0 0], .int .i64 1]) (by simp [results, Try.results6, go_sem]) rfl ⟨rfl, ?_⟩
  all_goals (repeat (first | exact Below.refl _ _ | refine Below.alloc ?_ (by first | exact Nat.le_refl _ | (simp only [World.size_alloc]; omega)) _))

set_option maxRecDepth 100000 in
set_option maxHeartbeats 400000 in
theorem do_eqInt_no (a b : Int) (w : World) (h : ¬ a = b) : Calls Try.prog 6 #[.string ⟨#[101, 113, 73, 110, 116]⟩, .int .i64 a, .int .i64 b] w fun e w' =>
    e = .returned (.tuple #[.agg #[.int .i64 7, .int .i64 0, .string ⟨#[70, 97, 108, 115, 101]⟩, .slice none 0 0, .slice none 0 0, .slice none 0 0], .int .i64 1]) ∧ Below w.heap.size w w' := by
  have HH := Lib.hid h
  clear h
  go_enter Try.func6, Try.ntmps6
  go_wp2_with (first | (go_at_call 17; ((with_reducible refine (find_eqInt _).mono ?_); rintro e w' ⟨rfl, rfl⟩)) | (go_at_call 49; ((with_reducible refine (asks1_eq_no _ _ _ _ HH.out (by simp [go_sem])).mono ?_); rintro e w' ⟨rfl, rfl⟩)))
  refine bodyPost_ret (v := .tuple #[.agg #[.int .i64 7, .int .i64 0, .string ⟨#[70, 97, 108, 115, 101]⟩, .slice none 0 0, .slice none 0 0, .slice none 0 0], .int .i64 1]) (by simp [results, Try.results6, go_sem]) rfl ⟨rfl, ?_⟩
  all_goals (repeat (first | exact Below.refl _ _ | refine Below.alloc ?_ (by first | exact Nat.le_refl _ | (simp only [World.size_alloc]; omega)) _))

set_option maxRecDepth 100000 in
set_option maxHeartbeats 400000 in
theorem do_ltInt_yes (a b : Int) (w : World) (h : a < b) : Calls Try.prog 6 #[.string ⟨#[108, 116, 73, 110, 116]⟩, .int .i64 a, .int .i64 b] w fun e w' =>
    e = .returned (.tuple #[.agg #[.int .i64 7, .int .i64 0, .string ⟨#[84, 114, 117, 101]⟩, .slice none 0 0, .slice none 0 0, .slice none 0 0], .int .i64 1]) ∧ Below w.heap.size w w' := by
  have HH := Lib.hid h
  clear h
  go_enter Try.func6, Try.ntmps6
  go_wp2_with (first | (go_at_call 17; ((with_reducible refine (find_ltInt _).mono ?_); rintro e w' ⟨rfl, rfl⟩)) | (go_at_call 49; ((with_reducible refine (asks1_lt_yes _ _ _ _ HH.out (by simp [go_sem])).mono ?_); rintro e w' ⟨rfl, rfl⟩)))
  refine bodyPost_ret (v := .tuple #[.agg #[.int .i64 7, .int .i64 0, .string ⟨#[84, 114, 117, 101]⟩, .slice none 0 0, .slice none 0 0, .slice none 0 0], .int .i64 1]) (by simp [results, Try.results6, go_sem]) rfl ⟨rfl, ?_⟩
  all_goals (repeat (first | exact Below.refl _ _ | refine Below.alloc ?_ (by first | exact Nat.le_refl _ | (simp only [World.size_alloc]; omega)) _))

set_option maxRecDepth 100000 in
set_option maxHeartbeats 400000 in
theorem do_ltInt_no (a b : Int) (w : World) (h : b ≤ a) : Calls Try.prog 6 #[.string ⟨#[108, 116, 73, 110, 116]⟩, .int .i64 a, .int .i64 b] w fun e w' =>
    e = .returned (.tuple #[.agg #[.int .i64 7, .int .i64 0, .string ⟨#[70, 97, 108, 115, 101]⟩, .slice none 0 0, .slice none 0 0, .slice none 0 0], .int .i64 1]) ∧ Below w.heap.size w w' := by
  have HH := Lib.hid h
  clear h
  go_enter Try.func6, Try.ntmps6
  go_wp2_with (first | (go_at_call 17; ((with_reducible refine (find_ltInt _).mono ?_); rintro e w' ⟨rfl, rfl⟩)) | (go_at_call 49; ((with_reducible refine (asks1_lt_no _ _ _ _ HH.out (by simp [go_sem])).mono ?_); rintro e w' ⟨rfl, rfl⟩)))
  refine bodyPost_ret (v := .tuple #[.agg #[.int .i64 7, .int .i64 0, .string ⟨#[70, 97, 108, 115, 101]⟩, .slice none 0 0, .slice none 0 0, .slice none 0 0], .int .i64 1]) (by simp [results, Try.results6, go_sem]) rfl ⟨rfl, ?_⟩
  all_goals (repeat (first | exact Below.refl _ _ | refine Below.alloc ?_ (by first | exact Nat.le_refl _ | (simp only [World.size_alloc]; omega)) _))

set_option maxRecDepth 100000 in
set_option maxHeartbeats 400000 in
theorem do_none (s : ByteArray) (a b : Int) (w : World) (g0 : (s.toList == [97, 100, 100]) = false) (g1 : (s.toList == [115, 117, 98]) = false) (g2 : (s.toList == [109, 117, 108]) = false) (g3 : (s.toList == [113, 117, 111, 116]) = false) (g4 : (s.toList == [114, 101, 109]) = false) (g5 : (s.toList == [101, 113, 73, 110, 116]) = false) (g6 : (s.toList == [108, 116, 73, 110, 116]) = false) : Calls Try.prog 6 #[.string s, .int .i64 a, .int .i64 b] w fun e w' =>
    e = .returned (.tuple #[.agg #[.int .i64 0, .int .i64 0, .string ⟨#[]⟩, .slice none 0 0, .slice none 0 0, .slice none 0 0], .int .i64 5]) ∧ Below w.heap.size w w' := by
  go_enter Try.func6, Try.ntmps6
  go_wp2_with (go_at_call 17; ((with_reducible refine (find_none s _ g0 g1 g2 g3 g4 g5 g6).mono ?_); rintro e w' ⟨rfl, rfl⟩))
  refine bodyPost_ret (v := .tuple #[.agg #[.int .i64 0, .int .i64 0, .string ⟨#[]⟩, .slice none 0 0, .slice none 0 0, .slice none 0 0], .int .i64 5]) (by simp [results, Try.results6, go_sem]) rfl ⟨rfl, ?_⟩
  all_goals (repeat (first | exact Below.refl _ _ | refine Below.alloc ?_ (by first | exact Nat.le_refl _ | (simp only [World.size_alloc]; omega)) _))

end Go.Proofs.Ytipeggpolnnpmaa
