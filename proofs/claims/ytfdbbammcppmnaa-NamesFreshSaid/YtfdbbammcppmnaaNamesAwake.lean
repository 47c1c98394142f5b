/-
  The walk of layer 3's awake.
-/
import Derived.Test.YtfdbbammcppmnaaNamesFreshW
namespace Go.Proofs.Ytfdbbammcppmnaa
open Go.RowKit
set_option linter.unusedVariables false

theorem lt27 : letter 27 = [98, 49] := by
  rw [letter_big 27 (by omega), itoa_digs _ (by omega), digs_small _ (by decide)]; rfl
theorem letter_27 (w : World) : Calls Try.prog 15 #[.int .i64 27] w fun e w' => e = .returned (.string ⟨#[98, 49]⟩) ∧ Below w.heap.size w w' :=
  (letter_any 27 w (by omega) (by omega)).mono fun e w' ⟨he, hw⟩ => ⟨he.trans (by rw [lt27]; rfl), hw⟩
theorem number_b1 (w : World) : Calls Try.prog 17 #[.string ⟨#[98, 49]⟩] w fun e w' => e = .returned (.int .i64 27) ∧ Below w.heap.size w w' :=
  (number_any ⟨#[98, 49]⟩ w (by decide +kernel)).mono fun e w' ⟨he, hw⟩ => ⟨he.trans (ret_int (by show numOf [98, 49] = 27; rw [← lt27]; exact num_letter 27 (by omega) (by omega))), hw⟩
theorem var_1 (w : World) : Calls Try.prog 8 #[.string ⟨#[120, 39]⟩] w fun e w' => e = .returned (.bool true) ∧ w = w' :=
  (var_any ⟨#[120, 39]⟩ w (by decide +kernel)).mono fun e w' ⟨he, hw⟩ => ⟨he.trans (ret_bool (by decide +kernel)), hw⟩
theorem var_2 (w : World) : Calls Try.prog 8 #[.string ⟨#[108, 101, 116]⟩] w fun e w' => e = .returned (.bool false) ∧ w = w' :=
  (var_any ⟨#[108, 101, 116]⟩ w (by decide +kernel)).mono fun e w' ⟨he, hw⟩ => ⟨he.trans (ret_bool (by decide +kernel)), hw⟩
theorem var_3 (w : World) : Calls Try.prog 8 #[.string ⟨#[95]⟩] w fun e w' => e = .returned (.bool false) ∧ w = w' :=
  (var_any ⟨#[95]⟩ w (by decide +kernel)).mono fun e w' ⟨he, hw⟩ => ⟨he.trans (ret_bool (by decide +kernel)), hw⟩
theorem var_4 (w : World) : Calls Try.prog 8 #[.string ⟨#[95, 97]⟩] w fun e w' => e = .returned (.bool true) ∧ w = w' :=
  (var_any ⟨#[95, 97]⟩ w (by decide +kernel)).mono fun e w' ⟨he, hw⟩ => ⟨he.trans (ret_bool (by decide +kernel)), hw⟩
theorem con_1 (w : World) : Calls Try.prog 10 #[.string ⟨#[65, 98, 49]⟩] w fun e w' => e = .returned (.bool true) ∧ w = w' :=
  (con_any ⟨#[65, 98, 49]⟩ w (by decide +kernel)).mono fun e w' ⟨he, hw⟩ => ⟨he.trans (ret_bool (by decide +kernel)), hw⟩
theorem con_2 (w : World) : Calls Try.prog 10 #[.string ⟨#[97]⟩] w fun e w' => e = .returned (.bool false) ∧ w = w' :=
  (con_any ⟨#[97]⟩ w (by decide +kernel)).mono fun e w' ⟨he, hw⟩ => ⟨he.trans (ret_bool (by decide +kernel)), hw⟩
theorem res_1 (w : World) : Calls Try.prog 12 #[.string ⟨#[111, 102]⟩] w fun e w' => e = .returned (.bool true) ∧ w = w' :=
  (reserved_any ⟨#[111, 102]⟩ w).mono fun e w' ⟨he, hw⟩ => ⟨he.trans (ret_bool (by decide +kernel)), hw⟩

theorem c0 : cand [120] 0 = [120] := rfl
theorem c1 : cand [120] 1 = [120, 49] := by rw [cand_pos _ _ (by omega), digs_small _ (by omega)]; rfl
theorem c2 : cand [120] 2 = [120, 50] := by rw [cand_pos _ _ (by omega), digs_small _ (by omega)]; rfl
theorem first_x : IsFirst [[120], [120, 49]] [120] 2 := by
  refine ⟨by simp, by rw [c2]; decide, ?_⟩
  intro j hj
  rcases (show j = 0 ∨ j = 1 by omega) with rfl | rfl
  · rw [c0]; decide
  · rw [c1]; decide
theorem fresh_1 (w : World) :
    Calls Try.prog 19 #[.slice (some ⟨w.heap.size, 0, none⟩) 2 2, .string ⟨#[120]⟩] (w.alloc (.cells #[.string ⟨#[120]⟩, .string ⟨#[120, 49]⟩] 9)) fun e w' => e = .returned (.string ⟨#[120, 50]⟩) ∧ Below w.heap.size w w' :=
  (fresh_any (some ⟨w.heap.size, 0, none⟩) 2 [⟨#[120]⟩, ⟨#[120, 49]⟩] ⟨#[120]⟩ 2 (w.alloc (.cells #[.string ⟨#[120]⟩, .string ⟨#[120, 49]⟩] 9)) (by decide) (by decide +kernel) (by
    intro i hi
    refine ⟨_, rfl, by simp, ?_⟩
    rcases (show i = 0 ∨ i = 1 by simp at hi; omega) with rfl | rfl
    all_goals (rw [addr_add, World.cell?_alloc_mark]; rfl)) first_x).mono fun e w' ⟨he, hw⟩ => ⟨he.trans (ret_str (by show bs (cand [120] 2) = _; rw [c2]; rfl)), ((Below.refl _ _).alloc (Nat.le_refl _) _).trans (hw.mono (by simp))⟩

set_option maxRecDepth 100000 in
set_option maxHeartbeats 400000 in
theorem awake03 (w : World) : Calls Try.prog 14 #[] w fun e w' => e = .returned (.bool true) ∧ Below w.heap.size w w' := by
  go_enter Try.func14, Try.ntmps14
  go_wp2_with (first | (go_at_call 15; ((with_reducible refine (letter_27 _).mono ?_); rintro e w1 ⟨rfl, hb1⟩)) | (go_at_call 17; ((with_reducible refine (number_b1 _).mono ?_); rintro e w2 ⟨rfl, hb2⟩)) | (go_at_call 8; ((with_reducible refine (var_1 _).mono ?_); rintro e w' ⟨rfl, rfl⟩)) | (go_at_call 8; ((with_reducible refine (var_2 _).mono ?_); rintro e w' ⟨rfl, rfl⟩)) | (go_at_call 8; ((with_reducible refine (var_3 _).mono ?_); rintro e w' ⟨rfl, rfl⟩)) | (go_at_call 8; ((with_reducible refine (var_4 _).mono ?_); rintro e w' ⟨rfl, rfl⟩)) | (go_at_call 10; ((with_reducible refine (con_1 _).mono ?_); rintro e w' ⟨rfl, rfl⟩)) | (go_at_call 10; ((with_reducible refine (con_2 _).mono ?_); rintro e w' ⟨rfl, rfl⟩)) | (go_at_call 19; ((with_reducible refine (fresh_1 _).mono ?_); rintro e w3 ⟨rfl, hb3⟩)) | (go_at_call 12; ((with_reducible refine (res_1 _).mono ?_); rintro e w' ⟨rfl, rfl⟩)))
  go_ret
  exact ⟨rfl, (hb1.trans (hb2.mono hb1.size)).trans (hb3.mono (Nat.le_trans hb1.size hb2.size))⟩
end Go.Proofs.Ytfdbbammcppmnaa
