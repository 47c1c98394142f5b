/-
  The walks of layer 3: kinds of bytes and of names.
-/
import Derived.Test.YtfdbbammcppmnaaNamesPlain
import Derived.Test.YtfdbbammcppmnaaIntsRef
namespace Go.Proofs.Ytfdbbammcppmnaa
open Go.RowKit
set_option linter.unusedVariables false

theorem ret_bool {a b : Bool} (h : a = b) : Ending.returned (.bool a) = .returned (.bool b) := by rw [h]

set_option maxRecDepth 100000 in
set_option maxHeartbeats 400000 in
theorem small_any (c : UInt8) (w : World) : Calls Try.prog 22 #[.int .u8 (c.toNat : Int)] w fun e w' => e = .returned (.bool (smB c)) ∧ w = w' := by
  have hc : c.toNat < 256 := c.toNat_lt
  have HS0 : ∀ b : Bool, ((decide (97 ≤ c.toNat) && decide (c.toNat ≤ 122)) || decide (c.toNat = 95)) = b → smB c = b := fun b h => h
  have HS := Lib.hid HS0
  clear HS0
  generalize smB c = t at *
  generalize c.toNat = n at *
  rcases (show (97 ≤ n ∧ n ≤ 122) ∨ (n = 95) ∨ (n < 97 ∧ n ≠ 95) ∨ (122 < n) by omega) with ⟨h0, h1⟩ | h0 | ⟨h0, h1⟩ | h0
  · obtain rfl := HS.out true (by simp; omega)
    clear HS
    go_enter Try.func22, Try.ntmps22
    go_wp2
    go_ret
    first | exact ⟨rfl, rfl⟩ | exact ⟨ret_bool (by simp; omega), rfl⟩
  · obtain rfl := HS.out true (by simp; omega)
    clear HS
    subst h0
    go_enter Try.func22, Try.ntmps22
    go_wp2
    go_ret
    first | exact ⟨rfl, rfl⟩ | exact ⟨ret_bool (by simp; omega), rfl⟩
  · obtain rfl := HS.out false (by simp; omega)
    clear HS
    have g1 : ((n : Int) == 95) = false := beq_eq_false_iff_ne.2 (by omega)
    clear h1
    go_enter Try.func22, Try.ntmps22
    go_wp2
    go_ret
    first | exact ⟨rfl, rfl⟩ | exact ⟨ret_bool (by simp; omega), rfl⟩
  · obtain rfl := HS.out false (by simp; omega)
    clear HS
    go_enter Try.func22, Try.ntmps22
    go_wp2
    go_ret
    first | exact ⟨rfl, rfl⟩ | exact ⟨ret_bool (by simp; omega), rfl⟩

set_option maxRecDepth 100000 in
set_option maxHeartbeats 400000 in
theorem rsmall_any (c : UInt8) (w : World) : Calls Try.prog 24 #[.int .u8 (c.toNat : Int)] w fun e w' => e = .returned (.bool (smB c)) ∧ w = w' := by
  have hc : c.toNat < 256 := c.toNat_lt
  have HS0 : ∀ b : Bool, ((decide (97 ≤ c.toNat) && decide (c.toNat ≤ 122)) || decide (c.toNat = 95)) = b → smB c = b := fun b h => h
  have HS := Lib.hid HS0
  clear HS0
  generalize smB c = t at *
  generalize c.toNat = n at *
  rcases (show (97 ≤ n ∧ n ≤ 122) ∨ (n = 95) ∨ (n < 97 ∧ n ≠ 95) ∨ (122 < n) by omega) with ⟨h0, h1⟩ | h0 | ⟨h0, h1⟩ | h0
  · obtain rfl := HS.out true (by simp; omega)
    clear HS
    go_enter Try.func24, Try.ntmps24
    go_wp2
    go_ret
    first | exact ⟨rfl, rfl⟩ | exact ⟨ret_bool (by simp; omega), rfl⟩
  · obtain rfl := HS.out true (by simp; omega)
    clear HS
    subst h0
    go_enter Try.func24, Try.ntmps24
    go_wp2
    go_ret
    first | exact ⟨rfl, rfl⟩ | exact ⟨ret_bool (by simp; omega), rfl⟩
  · obtain rfl := HS.out false (by simp; omega)
    clear HS
    have g1 : ((n : Int) == 95) = false := beq_eq_false_iff_ne.2 (by omega)
    clear h1
    go_enter Try.func24, Try.ntmps24
    go_wp2
    go_ret
    first | exact ⟨rfl, rfl⟩ | exact ⟨ret_bool (by simp; omega), rfl⟩
  · obtain rfl := HS.out false (by simp; omega)
    clear HS
    go_enter Try.func24, Try.ntmps24
    go_wp2
    go_ret
    first | exact ⟨rfl, rfl⟩ | exact ⟨ret_bool (by simp; omega), rfl⟩

set_option maxRecDepth 100000 in
set_option maxHeartbeats 400000 in
theorem great_any (c : UInt8) (w : World) : Calls Try.prog 26 #[.int .u8 (c.toNat : Int)] w fun e w' => e = .returned (.bool (grB c)) ∧ w = w' := by
  have hc : c.toNat < 256 := c.toNat_lt
  have HS0 : ∀ b : Bool, (decide (65 ≤ c.toNat) && decide (c.toNat ≤ 90)) = b → grB c = b := fun b h => h
  have HS := Lib.hid HS0
  clear HS0
  generalize grB c = t at *
  generalize c.toNat = n at *
  rcases (show (65 ≤ n ∧ n ≤ 90) ∨ (n < 65) ∨ (90 < n) by omega) with ⟨h0, h1⟩ | h0 | h0
  · obtain rfl := HS.out true (by simp; omega)
    clear HS
    go_enter Try.func26, Try.ntmps26
    go_wp2
    go_ret
    first | exact ⟨rfl, rfl⟩ | exact ⟨ret_bool (by simp; omega), rfl⟩
  · obtain rfl := HS.out false (by simp; omega)
    clear HS
    go_enter Try.func26, Try.ntmps26
    go_wp2
    go_ret
    first | exact ⟨rfl, rfl⟩ | exact ⟨ret_bool (by simp; omega), rfl⟩
  · obtain rfl := HS.out false (by simp; omega)
    clear HS
    go_enter Try.func26, Try.ntmps26
    go_wp2
    go_ret
    first | exact ⟨rfl, rfl⟩ | exact ⟨ret_bool (by simp; omega), rfl⟩

set_option maxRecDepth 100000 in
set_option maxHeartbeats 400000 in
theorem rgreat_any (c : UInt8) (w : World) : Calls Try.prog 27 #[.int .u8 (c.toNat : Int)] w fun e w' => e = .returned (.bool (grB c)) ∧ w = w' := by
  have hc : c.toNat < 256 := c.toNat_lt
  have HS0 : ∀ b : Bool, (decide (65 ≤ c.toNat) && decide (c.toNat ≤ 90)) = b → grB c = b := fun b h => h
  have HS := Lib.hid HS0
  clear HS0
  generalize grB c = t at *
  generalize c.toNat = n at *
  rcases (show (65 ≤ n ∧ n ≤ 90) ∨ (n < 65) ∨ (90 < n) by omega) with ⟨h0, h1⟩ | h0 | h0
  · obtain rfl := HS.out true (by simp; omega)
    clear HS
    go_enter Try.func27, Try.ntmps27
    go_wp2
    go_ret
    first | exact ⟨rfl, rfl⟩ | exact ⟨ret_bool (by simp; omega), rfl⟩
  · obtain rfl := HS.out false (by simp; omega)
    clear HS
    go_enter Try.func27, Try.ntmps27
    go_wp2
    go_ret
    first | exact ⟨rfl, rfl⟩ | exact ⟨ret_bool (by simp; omega), rfl⟩
  · obtain rfl := HS.out false (by simp; omega)
    clear HS
    go_enter Try.func27, Try.ntmps27
    go_wp2
    go_ret
    first | exact ⟨rfl, rfl⟩ | exact ⟨ret_bool (by simp; omega), rfl⟩

set_option maxRecDepth 100000 in
set_option maxHeartbeats 400000 in
theorem rdigit_any (c : UInt8) (w : World) : Calls Try.prog 36 #[.int .u8 (c.toNat : Int)] w fun e w' => e = .returned (.bool (dB c)) ∧ w = w' := by
  have hc : c.toNat < 256 := c.toNat_lt
  have HS0 : ∀ b : Bool, (decide (48 ≤ c.toNat) && decide (c.toNat ≤ 57)) = b → dB c = b := fun b h => h
  have HS := Lib.hid HS0
  clear HS0
  generalize dB c = t at *
  generalize c.toNat = n at *
  rcases (show (48 ≤ n ∧ n ≤ 57) ∨ (n < 48) ∨ (57 < n) by omega) with ⟨h0, h1⟩ | h0 | h0
  · obtain rfl := HS.out true (by simp; omega)
    clear HS
    go_enter Try.func36, Try.ntmps36
    go_wp2
    go_ret
    first | exact ⟨rfl, rfl⟩ | exact ⟨ret_bool (by simp; omega), rfl⟩
  · obtain rfl := HS.out false (by simp; omega)
    clear HS
    go_enter Try.func36, Try.ntmps36
    go_wp2
    go_ret
    first | exact ⟨rfl, rfl⟩ | exact ⟨ret_bool (by simp; omega), rfl⟩
  · obtain rfl := HS.out false (by simp; omega)
    clear HS
    go_enter Try.func36, Try.ntmps36
    go_wp2
    go_ret
    first | exact ⟨rfl, rfl⟩ | exact ⟨ret_bool (by simp; omega), rfl⟩

end Go.Proofs.Ytfdbbammcppmnaa
