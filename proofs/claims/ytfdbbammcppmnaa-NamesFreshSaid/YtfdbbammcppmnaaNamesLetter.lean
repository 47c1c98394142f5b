/-
  The walks of layer 3: letters and numbers.
-/
import Derived.Test.YtfdbbammcppmnaaNamesVar
namespace Go.Proofs.Ytfdbbammcppmnaa
open Go.RowKit
set_option linter.unusedVariables false

theorem itoa_len (n : Int) (h0 : 0 ≤ n) (h1 : n ≤ 9223372036854775807) : (itoa n).length ≤ 20 := by
  rw [itoa_digs n h0]; exact digs_len 20 _ (by omega) (by omega)
theorem ret_str {a b : ByteArray} (h : a = b) : Ending.returned (.string a) = .returned (.string b) := by rw [h]

set_option maxRecDepth 100000 in
set_option maxHeartbeats 400000 in
theorem letter_any (n : Int) (w : World) (h0 : -9223372036854775808 ≤ n) (h1 : n ≤ 9223372036854775807) :
    Calls Try.prog 15 #[.int .i64 n] w fun e w' => e = .returned (.string (bs (letter n))) ∧ Below w.heap.size w w' := by
  by_cases hn : n < 0
  · have HF := Lib.hid (letter_neg n hn)
    go_enter Try.func15, Try.ntmps15
    go_wp2
    go_ret
    exact ⟨ret_str (by rw [HF.out]; rfl), Below.refl _ _⟩
  obtain ⟨u, rfl⟩ := Int.eq_ofNat_of_zero_le (show 0 ≤ n by omega)
  have hcv := conv1 w (97 + (u : Int) % 26) (ltr u) (by rw [lt_toNat]; omega)
  by_cases hs : (u : Int) < 26
  · have HF := Lib.hid (letter_small u (by omega) hs)
    have hs' : u < 26 := by omega
    go_enter Try.func15, Try.ntmps15
    go_wp2
    go_ret
    exact ⟨ret_str (by rw [HF.out]; rfl), (Below.refl _ _).alloc (Nat.le_refl _) _⟩
  · have HF := Lib.hid (letter_big u (by omega))
    have hl := itoa_len ((u : Int) / 26) (by omega) (by omega)
    have had := fun W => run_string_add_sum (P := Try.prog) W (bs [ltr u]) (bs (itoa ((u : Int) / 26))) (by rw [bs_size, bs_size]; simp; omega)
    have HT := Lib.hid (fun W => text_any ((u : Int) / 26) W (by omega) (by omega))
    generalize itoa ((u : Int) / 26) = T at *
    go_enter Try.func15, Try.ntmps15
    go_wp2_with (go_at_call 28; ((with_reducible refine (HT.out _).mono ?_); rintro e w' ⟨rfl, hb⟩))
    go_ret
    refine ⟨ret_str (by rw [HF.out, bs_append]; rfl), ?_⟩
    exact ((Below.refl _ _).alloc (Nat.le_refl _) _).trans (hb.mono (by simp))

set_option maxRecDepth 100000 in
set_option maxHeartbeats 400000 in
theorem rletter_any (n : Int) (w : World) (h0 : -9223372036854775808 ≤ n) (h1 : n ≤ 9223372036854775807) :
    Calls Try.prog 16 #[.int .i64 n] w fun e w' => e = .returned (.string (bs (letter n))) ∧ Below w.heap.size w w' := by
  by_cases hn : n < 0
  · have HF := Lib.hid (letter_neg n hn)
    go_enter Try.func16, Try.ntmps16
    go_wp2
    go_ret
    exact ⟨ret_str (by rw [HF.out]; rfl), Below.refl _ _⟩
  obtain ⟨u, rfl⟩ := Int.eq_ofNat_of_zero_le (show 0 ≤ n by omega)
  have hcv := conv1 w (97 + (u : Int) % 26) (ltr u) (by rw [lt_toNat]; omega)
  by_cases hs : (u : Int) < 26
  · have HF := Lib.hid (letter_small u (by omega) hs)
    have hs' : u < 26 := by omega
    go_enter Try.func16, Try.ntmps16
    go_wp2
    go_ret
    exact ⟨ret_str (by rw [HF.out]; rfl), (Below.refl _ _).alloc (Nat.le_refl _) _⟩
  · have HF := Lib.hid (letter_big u (by omega))
    have hl := itoa_len ((u : Int) / 26) (by omega) (by omega)
    have had := fun W => run_string_add_sum (P := Try.prog) W (bs [ltr u]) (bs (itoa ((u : Int) / 26))) (by rw [bs_size, bs_size]; simp; omega)
    have HT := Lib.hid (fun W => rtext_any ((u : Int) / 26) W (by omega) (by omega))
    generalize itoa ((u : Int) / 26) = T at *
    go_enter Try.func16, Try.ntmps16
    go_wp2_with (go_at_call 29; ((with_reducible refine (HT.out _).mono ?_); rintro e w' ⟨rfl, hb⟩))
    go_ret
    refine ⟨ret_str (by rw [HF.out, bs_append]; rfl), ?_⟩
    exact ((Below.refl _ _).alloc (Nat.le_refl _) _).trans (hb.mono (by simp))
end Go.Proofs.Ytfdbbammcppmnaa
