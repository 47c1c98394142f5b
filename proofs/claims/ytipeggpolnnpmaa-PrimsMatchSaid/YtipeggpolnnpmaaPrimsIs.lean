/-
  The walks of fsigs.Prim, prims.Is.
-/
import Derived.Test.YtipeggpolnnpmaaPrimsFun
import Derived.Test.YtipeggpolnnpmaaPrimsDoW
namespace Go.Proofs.Ytipeggpolnnpmaa
open Go.RowKit
set_option linter.unusedVariables false

def PrimPost (b : Bool) (w : World) (e : Ending) (W' : World) : Prop := ∃ s n A l c, e = .returned (.tuple #[.agg #[.slice none 0 0, .string s, .int .i64 n, .slice A l c], .bool b]) ∧ Below w.heap.size w W'

set_option maxRecDepth 100000 in
set_option maxHeartbeats 400000 in
theorem prim_add (w : World) : Calls Try.prog 23 #[.string ⟨#[97, 100, 100]⟩] w (PrimPost true w) := by
  go_enter Try.func23, Try.ntmps23
  go_wp2_with fail
  refine (fun_any _ _ _ _ _ _ _ (by simp) (by simp [go_sem]) (by simp [go_sem]) (by simp [go_sem]) (by simp [go_sem]) (by simp [go_sem]) (by simp [go_sem])).mono ?_
  rintro e w1 ⟨s, n, A, l, c, rfl, hb1⟩
  have r0 : w1.cell? ⟨w.heap.size, 0, none⟩ = some (.slice none 0 0) := (hb1.cell (by simp; omega)).trans (by simp [go_sem])
  have r1 : w1.cell? ⟨w.heap.size, 1, none⟩ = some (.string ⟨#[]⟩) := (hb1.cell (by simp; omega)).trans (by simp [go_sem])
  have r2 : w1.cell? ⟨w.heap.size, 2, none⟩ = some (.int .i64 0) := (hb1.cell (by simp; omega)).trans (by simp [go_sem])
  have r3 : w1.cell? ⟨w.heap.size, 3, none⟩ = some (.slice none 0 0) := (hb1.cell (by simp; omega)).trans (by simp [go_sem])
  have f0 : w1.frozen? ⟨w.heap.size, 0, none⟩ = false := (hb1.frozen (by simp; omega)).trans (by simp [go_sem])
  have f1 : w1.frozen? ⟨w.heap.size, 1, none⟩ = false := (hb1.frozen (by simp; omega)).trans (by simp [go_sem])
  have f2 : w1.frozen? ⟨w.heap.size, 2, none⟩ = false := (hb1.frozen (by simp; omega)).trans (by simp [go_sem])
  have f3 : w1.frozen? ⟨w.heap.size, 3, none⟩ = false := (hb1.frozen (by simp; omega)).trans (by simp [go_sem])
  go_wp2
  refine bodyPost_ret (v := .tuple #[.agg #[.slice none 0 0, .string s, .int .i64 n, .slice A l c], .bool true]) (by simp [results, Try.results23, go_sem, r0, r1, r2, r3]) rfl ⟨s, n, A, l, c, rfl, ?_⟩
  refine Below.setCell (Below.setCell (Below.setCell (Below.setCell (Below.trans ?_ (hb1.mono (by simp only [World.size_alloc]; omega))) (by simp) _) (by simp) _) (by simp) _) (by simp) _
  all_goals (repeat (first | exact Below.refl _ _ | refine Below.alloc ?_ (by first | exact Nat.le_refl _ | (simp only [World.size_alloc]; omega)) _))

set_option maxRecDepth 100000 in
set_option maxHeartbeats 400000 in
theorem prim_sub (w : World) : Calls Try.prog 23 #[.string ⟨#[115, 117, 98]⟩] w (PrimPost true w) := by
  go_enter Try.func23, Try.ntmps23
  go_wp2_with fail
  refine (fun_any _ _ _ _ _ _ _ (by simp) (by simp [go_sem]) (by simp [go_sem]) (by simp [go_sem]) (by simp [go_sem]) (by simp [go_sem]) (by simp [go_sem])).mono ?_
  rintro e w1 ⟨s, n, A, l, c, rfl, hb1⟩
  have r0 : w1.cell? ⟨w.heap.size, 0, none⟩ = some (.slice none 0 0) := (hb1.cell (by simp; omega)).trans (by simp [go_sem])
  have r1 : w1.cell? ⟨w.heap.size, 1, none⟩ = some (.string ⟨#[]⟩) := (hb1.cell (by simp; omega)).trans (by simp [go_sem])
  have r2 : w1.cell? ⟨w.heap.size, 2, none⟩ = some (.int .i64 0) := (hb1.cell (by simp; omega)).trans (by simp [go_sem])
  have r3 : w1.cell? ⟨w.heap.size, 3, none⟩ = some (.slice none 0 0) := (hb1.cell (by simp; omega)).trans (by simp [go_sem])
  have f0 : w1.frozen? ⟨w.heap.size, 0, none⟩ = false := (hb1.frozen (by simp; omega)).trans (by simp [go_sem])
  have f1 : w1.frozen? ⟨w.heap.size, 1, none⟩ = false := (hb1.frozen (by simp; omega)).trans (by simp [go_sem])
  have f2 : w1.frozen? ⟨w.heap.size, 2, none⟩ = false := (hb1.frozen (by simp; omega)).trans (by simp [go_sem])
  have f3 : w1.frozen? ⟨w.heap.size, 3, none⟩ = false := (hb1.frozen (by simp; omega)).trans (by simp [go_sem])
  go_wp2
  refine bodyPost_ret (v := .tuple #[.agg #[.slice none 0 0, .string s, .int .i64 n, .slice A l c], .bool true]) (by simp [results, Try.results23, go_sem, r0, r1, r2, r3]) rfl ⟨s, n, A, l, c, rfl, ?_⟩
  refine Below.setCell (Below.setCell (Below.setCell (Below.setCell (Below.trans ?_ (hb1.mono (by simp only [World.size_alloc]; omega))) (by simp) _) (by simp) _) (by simp) _) (by simp) _
  all_goals (repeat (first | exact Below.refl _ _ | refine Below.alloc ?_ (by first | exact Nat.le_refl _ | (simp only [World.size_alloc]; omega)) _))

set_option maxRecDepth 100000 in
set_option maxHeartbeats 400000 in
theorem prim_mul (w : World) : Calls Try.prog 23 #[.string ⟨#[109, 117, 108]⟩] w (PrimPost true w) := by
  go_enter Try.func23, Try.ntmps23
  go_wp2_with fail
  refine (fun_any _ _ _ _ _ _ _ (by simp) (by simp [go_sem]) (by simp [go_sem]) (by simp [go_sem]) (by simp [go_sem]) (by simp [go_sem]) (by simp [go_sem])).mono ?_
  rintro e w1 ⟨s, n, A, l, c, rfl, hb1⟩
  have r0 : w1.cell? ⟨w.heap.size, 0, none⟩ = some (.slice none 0 0) := (hb1.cell (by simp; omega)).trans (by simp [go_sem])
  have r1 : w1.cell? ⟨w.heap.size, 1, none⟩ = some (.string ⟨#[]⟩) := (hb1.cell (by simp; omega)).trans (by simp [go_sem])
  have r2 : w1.cell? ⟨w.heap.size, 2, none⟩ = some (.int .i64 0) := (hb1.cell (by simp; omega)).trans (by simp [go_sem])
  have r3 : w1.cell? ⟨w.heap.size, 3, none⟩ = some (.slice none 0 0) := (hb1.cell (by simp; omega)).trans (by simp [go_sem])
  have f0 : w1.frozen? ⟨w.heap.size, 0, none⟩ = false := (hb1.frozen (by simp; omega)).trans (by simp [go_sem])
  have f1 : w1.frozen? ⟨w.heap.size, 1, none⟩ = false := (hb1.frozen (by simp; omega)).trans (by simp [go_sem])
  have f2 : w1.frozen? ⟨w.heap.size, 2, none⟩ = false := (hb1.frozen (by simp; omega)).trans (by simp [go_sem])
  have f3 : w1.frozen? ⟨w.heap.size, 3, none⟩ = false := (hb1.frozen (by simp; omega)).trans (by simp [go_sem])
  go_wp2
  refine bodyPost_ret (v := .tuple #[.agg #[.slice none 0 0, .string s, .int .i64 n, .slice A l c], .bool true]) (by simp [results, Try.results23, go_sem, r0, r1, r2, r3]) rfl ⟨s, n, A, l, c, rfl, ?_⟩
  refine Below.setCell (Below.setCell (Below.setCell (Below.setCell (Below.trans ?_ (hb1.mono (by simp only [World.size_alloc]; omega))) (by simp) _) (by simp) _) (by simp) _) (by simp) _
  all_goals (repeat (first | exact Below.refl _ _ | refine Below.alloc ?_ (by first | exact Nat.le_refl _ | (simp only [World.size_alloc]; omega)) _))

set_option maxRecDepth 100000 in
set_option maxHeartbeats 400000 in
theorem prim_quot (w : World) : Calls Try.prog 23 #[.string ⟨#[113, 117, 111, 116]⟩] w (PrimPost true w) := by
  go_enter Try.func23, Try.ntmps23
  go_wp2_with fail
  refine (fun_any _ _ _ _ _ _ _ (by simp) (by simp [go_sem]) (by simp [go_sem]) (by simp [go_sem]) (by simp [go_sem]) (by simp [go_sem]) (by simp [go_sem])).mono ?_
  rintro e w1 ⟨s, n, A, l, c, rfl, hb1⟩
  have r0 : w1.cell? ⟨w.heap.size, 0, none⟩ = some (.slice none 0 0) := (hb1.cell (by simp; omega)).trans (by simp [go_sem])
  have r1 : w1.cell? ⟨w.heap.size, 1, none⟩ = some (.string ⟨#[]⟩) := (hb1.cell (by simp; omega)).trans (by simp [go_sem])
  have r2 : w1.cell? ⟨w.heap.size, 2, none⟩ = some (.int .i64 0) := (hb1.cell (by simp; omega)).trans (by simp [go_sem])
  have r3 : w1.cell? ⟨w.heap.size, 3, none⟩ = some (.slice none 0 0) := (hb1.cell (by simp; omega)).trans (by simp [go_sem])
  have f0 : w1.frozen? ⟨w.heap.size, 0, none⟩ = false := (hb1.frozen (by simp; omega)).trans (by simp [go_sem])
  have f1 : w1.frozen? ⟨w.heap.size, 1, none⟩ = false := (hb1.frozen (by simp; omega)).trans (by simp [go_sem])
  have f2 : w1.frozen? ⟨w.heap.size, 2, none⟩ = false := (hb1.frozen (by simp; omega)).trans (by simp [go_sem])
  have f3 : w1.frozen? ⟨w.heap.size, 3, none⟩ = false := (hb1.frozen (by simp; omega)).trans (by simp [go_sem])
  go_wp2
  refine bodyPost_ret (v := .tuple #[.agg #[.slice none 0 0, .string s, .int .i64 n, .slice A l c], .bool true]) (by simp [results, Try.results23, go_sem, r0, r1, r2, r3]) rfl ⟨s, n, A, l, c, rfl, ?_⟩
  refine Below.setCell (Below.setCell (Below.setCell (Below.setCell (Below.trans ?_ (hb1.mono (by simp only [World.size_alloc]; omega))) (by simp) _) (by simp) _) (by simp) _) (by simp) _
  all_goals (repeat (first | exact Below.refl _ _ | refine Below.alloc ?_ (by first | exact Nat.le_refl _ | (simp only [World.size_alloc]; omega)) _))

set_option maxRecDepth 100000 in
set_option maxHeartbeats 400000 in
theorem prim_rem (w : World) : Calls Try.prog 23 #[.string ⟨#[114, 101, 109]⟩] w (PrimPost true w) := by
  go_enter Try.func23, Try.ntmps23
  go_wp2_with fail
  refine (fun_any _ _ _ _ _ _ _ (by simp) (by simp [go_sem]) (by simp [go_sem]) (by simp [go_sem]) (by simp [go_sem]) (by simp [go_sem]) (by simp [go_sem])).mono ?_
  rintro e w1 ⟨s, n, A, l, c, rfl, hb1⟩
  have r0 : w1.cell? ⟨w.heap.size, 0, none⟩ = some (.slice none 0 0) := (hb1.cell (by simp; omega)).trans (by simp [go_sem])
  have r1 : w1.cell? ⟨w.heap.size, 1, none⟩ = some (.string ⟨#[]⟩) := (hb1.cell (by simp; omega)).trans (by simp [go_sem])
  have r2 : w1.cell? ⟨w.heap.size, 2, none⟩ = some (.int .i64 0) := (hb1.cell (by simp; omega)).trans (by simp [go_sem])
  have r3 : w1.cell? ⟨w.heap.size, 3, none⟩ = some (.slice none 0 0) := (hb1.cell (by simp; omega)).trans (by simp [go_sem])
  have f0 : w1.frozen? ⟨w.heap.size, 0, none⟩ = false := (hb1.frozen (by simp; omega)).trans (by simp [go_sem])
  have f1 : w1.frozen? ⟨w.heap.size, 1, none⟩ = false := (hb1.frozen (by simp; omega)).trans (by simp [go_sem])
  have f2 : w1.frozen? ⟨w.heap.size, 2, none⟩ = false := (hb1.frozen (by simp; omega)).trans (by simp [go_sem])
  have f3 : w1.frozen? ⟨w.heap.size, 3, none⟩ = false := (hb1.frozen (by simp; omega)).trans (by simp [go_sem])
  go_wp2
  refine bodyPost_ret (v := .tuple #[.agg #[.slice none 0 0, .string s, .int .i64 n, .slice A l c], .bool true]) (by simp [results, Try.results23, go_sem, r0, r1, r2, r3]) rfl ⟨s, n, A, l, c, rfl, ?_⟩
  refine Below.setCell (Below.setCell (Below.setCell (Below.setCell (Below.trans ?_ (hb1.mono (by simp only [World.size_alloc]; omega))) (by simp) _) (by simp) _) (by simp) _) (by simp) _
  all_goals (repeat (first | exact Below.refl _ _ | refine Below.alloc ?_ (by first | exact Nat.le_refl _ | (simp only [World.size_alloc]; omega)) _))

set_option maxRecDepth 100000 in
set_option maxHeartbeats 400000 in
theorem prim_eqInt (w : World) : Calls Try.prog 23 #[.string ⟨#[101, 113, 73, 110, 116]⟩] w (PrimPost true w) := by
  go_enter Try.func23, Try.ntmps23
  go_wp2_with fail
  refine (fun_any _ _ _ _ _ _ _ (by simp) (by simp [go_sem]) (by simp [go_sem]) (by simp [go_sem]) (by simp [go_sem]) (by simp [go_sem]) (by simp [go_sem])).mono ?_
  rintro e w1 ⟨s, n, A, l, c, rfl, hb1⟩
  have r0 : w1.cell? ⟨w.heap.size, 0, none⟩ = some (.slice none 0 0) := (hb1.cell (by simp; omega)).trans (by simp [go_sem])
  have r1 : w1.cell? ⟨w.heap.size, 1, none⟩ = some (.string ⟨#[]⟩) := (hb1.cell (by simp; omega)).trans (by simp [go_sem])
  have r2 : w1.cell? ⟨w.heap.size, 2, none⟩ = some (.int .i64 0) := (hb1.cell (by simp; omega)).trans (by simp [go_sem])
  have r3 : w1.cell? ⟨w.heap.size, 3, none⟩ = some (.slice none 0 0) := (hb1.cell (by simp; omega)).trans (by simp [go_sem])
  have f0 : w1.frozen? ⟨w.heap.size, 0, none⟩ = false := (hb1.frozen (by simp; omega)).trans (by simp [go_sem])
  have f1 : w1.frozen? ⟨w.heap.size, 1, none⟩ = false := (hb1.frozen (by simp; omega)).trans (by simp [go_sem])
  have f2 : w1.frozen? ⟨w.heap.size, 2, none⟩ = false := (hb1.frozen (by simp; omega)).trans (by simp [go_sem])
  have f3 : w1.frozen? ⟨w.heap.size, 3, none⟩ = false := (hb1.frozen (by simp; omega)).trans (by simp [go_sem])
  go_wp2
  refine bodyPost_ret (v := .tuple #[.agg #[.slice none 0 0, .string s, .int .i64 n, .slice A l c], .bool true]) (by simp [results, Try.results23, go_sem, r0, r1, r2, r3]) rfl ⟨s, n, A, l, c, rfl, ?_⟩
  refine Below.setCell (Below.setCell (Below.setCell (Below.setCell (Below.trans ?_ (hb1.mono (by simp only [World.size_alloc]; omega))) (by simp) _) (by simp) _) (by simp) _) (by simp) _
  all_goals (repeat (first | exact Below.refl _ _ | refine Below.alloc ?_ (by first | exact Nat.le_refl _ | (simp only [World.size_alloc]; omega)) _))

set_option maxRecDepth 100000 in
set_option maxHeartbeats 400000 in
theorem prim_ltInt (w : World) : Calls Try.prog 23 #[.string ⟨#[108, 116, 73, 110, 116]⟩] w (PrimPost true w) := by
  go_enter Try.func23, Try.ntmps23
  go_wp2_with fail
  refine (fun_any _ _ _ _ _ _ _ (by simp) (by simp [go_sem]) (by simp [go_sem]) (by simp [go_sem]) (by simp [go_sem]) (by simp [go_sem]) (by simp [go_sem])).mono ?_
  rintro e w1 ⟨s, n, A, l, c, rfl, hb1⟩
  have r0 : w1.cell? ⟨w.heap.size, 0, none⟩ = some (.slice none 0 0) := (hb1.cell (by simp; omega)).trans (by simp [go_sem])
  have r1 : w1.cell? ⟨w.heap.size, 1, none⟩ = some (.string ⟨#[]⟩) := (hb1.cell (by simp; omega)).trans (by simp [go_sem])
  have r2 : w1.cell? ⟨w.heap.size, 2, none⟩ = some (.int .i64 0) := (hb1.cell (by simp; omega)).trans (by simp [go_sem])
  have r3 : w1.cell? ⟨w.heap.size, 3, none⟩ = some (.slice none 0 0) := (hb1.cell (by simp; omega)).trans (by simp [go_sem])
  have f0 : w1.frozen? ⟨w.heap.size, 0, none⟩ = false := (hb1.frozen (by simp; omega)).trans (by simp [go_sem])
  have f1 : w1.frozen? ⟨w.heap.size, 1, none⟩ = false := (hb1.frozen (by simp; omega)).trans (by simp [go_sem])
  have f2 : w1.frozen? ⟨w.heap.size, 2, none⟩ = false := (hb1.frozen (by simp; omega)).trans (by simp [go_sem])
  have f3 : w1.frozen? ⟨w.heap.size, 3, none⟩ = false := (hb1.frozen (by simp; omega)).trans (by simp [go_sem])
  go_wp2
  refine bodyPost_ret (v := .tuple #[.agg #[.slice none 0 0, .string s, .int .i64 n, .slice A l c], .bool true]) (by simp [results, Try.results23, go_sem, r0, r1, r2, r3]) rfl ⟨s, n, A, l, c, rfl, ?_⟩
  refine Below.setCell (Below.setCell (Below.setCell (Below.setCell (Below.trans ?_ (hb1.mono (by simp only [World.size_alloc]; omega))) (by simp) _) (by simp) _) (by simp) _) (by simp) _
  all_goals (repeat (first | exact Below.refl _ _ | refine Below.alloc ?_ (by first | exact Nat.le_refl _ | (simp only [World.size_alloc]; omega)) _))

set_option maxRecDepth 100000 in
set_option maxHeartbeats 400000 in
theorem prim_none (s : ByteArray) (w : World) (g0 : (s.toList == [97, 100, 100]) = false) (g1 : (s.toList == [115, 117, 98]) = false) (g2 : (s.toList == [109, 117, 108]) = false) (g3 : (s.toList == [113, 117, 111, 116]) = false) (g4 : (s.toList == [114, 101, 109]) = false) (g5 : (s.toList == [101, 113, 73, 110, 116]) = false) (g6 : (s.toList == [108, 116, 73, 110, 116]) = false) : Calls Try.prog 23 #[.string s] w (PrimPost false w) := by
  go_enter Try.func23, Try.ntmps23
  go_wp2
  refine bodyPost_ret (v := .tuple #[.agg #[.slice none 0 0, .string ⟨#[]⟩, .int .i64 0, .slice none 0 0], .bool false]) (by simp [results, Try.results23, go_sem]) rfl ⟨_, _, _, _, _, rfl, ?_⟩
  all_goals (repeat (first | exact Below.refl _ _ | refine Below.alloc ?_ (by first | exact Nat.le_refl _ | (simp only [World.size_alloc]; omega)) _))

set_option maxRecDepth 100000 in
set_option maxHeartbeats 400000 in
theorem is_of (s : ByteArray) (b : Bool) (w : World) (h : Calls Try.prog 23 #[.string s] w (PrimPost b w)) : Calls Try.prog 9 #[.string s] w fun e w' => e = .returned (.bool b) ∧ Below w.heap.size w w' := by
  have H := Lib.hid h
  clear h
  go_enter Try.func9, Try.ntmps9
  go_wp2_with (go_at_call 23; ((with_reducible refine H.out.mono ?_); rintro e w1 ⟨s1, n, A, l, c, rfl, hb1⟩))
  go_ret
  exact ⟨rfl, hb1.alloc hb1.size _⟩

end Go.Proofs.Ytipeggpolnnpmaa
