/-
  The walks of the rest of layer 2: quotients, and awake.
-/
import Derived.Test.YtnibgcpjncemjaaIntsText
import Derived.Test.YtnibgcpjncemjaaIntsRead
namespace Go.Proofs.Ytnibgcpjncemjaa
open Go.RowKit
set_option linter.unusedVariables false

theorem t_m42 : itoa (-42) = [45, 52, 50] := by
  rw [itoa_neg _ (by omega)]
  have : (-42 : Int).natAbs = 42 := rfl
  rw [this, digs_big 42 (by omega), digs_small _ (by omega)]; rfl
theorem rd_0042 : readN [48, 48, 52, 50] = 42 ∧ readE [48, 48, 52, 50] = 0 := by decide +kernel
theorem rd_over63 : readN [57, 50, 50, 51, 51, 55, 50, 48, 51, 54, 56, 53, 52, 55, 55, 53, 56, 48, 56] = 0 ∧ readE [57, 50, 50, 51, 51, 55, 50, 48, 51, 54, 56, 53, 52, 55, 55, 53, 56, 48, 56] = 4 := by decide +kernel
theorem rd_4x : readN [52, 120] = 0 ∧ readE [52, 120] = 5 := by decide +kernel

theorem read_1 (w : World) : Calls Try.prog 16 #[.string ⟨#[48, 48, 52, 50]⟩] w fun e w' => e = .returned (.tuple #[.int .i64 42, .int .i64 0]) ∧ w = w' :=
  (read_any ⟨#[48, 48, 52, 50]⟩ w (by decide +kernel)).mono fun e w' ⟨he, hw⟩ => ⟨he.trans (ret2_eq rd_0042.1 rd_0042.2), hw⟩
theorem read_2 (w : World) : Calls Try.prog 16 #[.string ⟨#[57, 50, 50, 51, 51, 55, 50, 48, 51, 54, 56, 53, 52, 55, 55, 53, 56, 48, 56]⟩] w fun e w' => e = .returned (.tuple #[.int .i64 0, .int .i64 4]) ∧ w = w' :=
  (read_any ⟨#[57, 50, 50, 51, 51, 55, 50, 48, 51, 54, 56, 53, 52, 55, 55, 53, 56, 48, 56]⟩ w (by decide +kernel)).mono fun e w' ⟨he, hw⟩ => ⟨he.trans (ret2_eq rd_over63.1 rd_over63.2), hw⟩
theorem read_3 (w : World) : Calls Try.prog 16 #[.string ⟨#[52, 120]⟩] w fun e w' => e = .returned (.tuple #[.int .i64 0, .int .i64 5]) ∧ w = w' :=
  (read_any ⟨#[52, 120]⟩ w (by decide +kernel)).mono fun e w' ⟨he, hw⟩ => ⟨he.trans (ret2_eq rd_4x.1 rd_4x.2), hw⟩
theorem text_1 (w : World) : Calls Try.prog 18 #[.int .i64 (-42)] w fun e w' => e = .returned (.string ⟨#[45, 52, 50]⟩) ∧ Below w.heap.size w w' :=
  (text_any (-42) w (by omega) (by omega)).mono fun e w' ⟨he, hw⟩ => ⟨he.trans (by rw [t_m42]; rfl), hw⟩

set_option maxRecDepth 100000 in
set_option maxHeartbeats 400000 in
theorem awake02 (w : World) : Calls Try.prog 11 #[] w fun e w' => e = .returned (.bool true) ∧ Below w.heap.size w w' := by
  go_enter Try.func11, Try.ntmps11
  go_wp2_with (first | (go_at_call 16; ((with_reducible refine (read_1 _).mono ?_); rintro e w' ⟨rfl, rfl⟩)) | (go_at_call 16; ((with_reducible refine (read_2 _).mono ?_); rintro e w' ⟨rfl, rfl⟩)) | (go_at_call 16; ((with_reducible refine (read_3 _).mono ?_); rintro e w' ⟨rfl, rfl⟩)) | (go_at_call 18; ((with_reducible refine (text_1 _).mono ?_); rintro e w' ⟨rfl, hb⟩)) | go_in)
  go_ret
  exact ⟨rfl, hb⟩
end Go.Proofs.Ytnibgcpjncemjaa
