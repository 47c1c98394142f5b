/-
  The walks of ints.Quot, ints.Rem and of the reference's, for the seats that have no ints.Read (the texts of IntsRef and IntsQuot).
-/
import Derived.Test.YtipeggpolnnpmaaIntsText
import Derived.IntWalk
namespace Go.Proofs.Ytipeggpolnnpmaa
open Go.RowKit
set_option linter.unusedVariables false

theorem ret_int {k : IntKind} {a b : Int} (h : a = b) : Ending.returned (.int k a) = .returned (.int k b) := by rw [h]
theorem ret2_eq {k1 k2 : IntKind} {a b c d : Int} (h1 : a = b) (h2 : c = d) : Ending.returned (.tuple #[.int k1 a, .int k2 c]) = .returned (.tuple #[.int k1 b, .int k2 d]) := by rw [h1, h2]

set_option maxRecDepth 100000 in
set_option maxHeartbeats 400000 in
theorem rsize_any (n : Int) (w : World) (h0 : -9223372036854775808 ≤ n) (h1 : n ≤ 9223372036854775807) :
    Calls Try.prog 40 #[.int .i64 n] w fun e w' => e = .returned (.int .u64 (n.natAbs : Int)) ∧ w = w' := by
  by_cases h : n < 0
  · have HW := Lib.hid (neg_wrap n h h0)
    go_enter Try.func40, Try.ntmps40
    go_wp2
    go_ret
    exact ⟨ret_int HW.out, rfl⟩
  · have HA := Lib.hid (show ((n.natAbs : Nat) : Int) = n by omega)
    go_enter Try.func40, Try.ntmps40
    go_wp2
    go_ret
    exact ⟨ret_int HA.out.symm, rfl⟩

/-- The quotient, as an int. -/
def qv (a b : Int) : Int := wrap64 (a.tdiv b)
/-- What is left. -/
def rv (a b : Int) : Int := wrap64 (a - wrap64 (b * qv a b))

theorem w64_in (x : Int) (h : -9223372036854775808 ≤ x ∧ x ≤ 9223372036854775807) : wrap64 x = x := by unfold wrap64; omega

theorem tdiv_abs (a b : Int) (hb : b ≠ 0) : a.tdiv b = if (a < 0) ↔ (b < 0) then ((a.natAbs / b.natAbs : Nat) : Int) else -((a.natAbs / b.natAbs : Nat) : Int) := by
  rcases Int.natAbs_eq a with ha | ha <;> rcases Int.natAbs_eq b with hb' | hb'
  all_goals
    generalize a.natAbs = m at *
    generalize b.natAbs = n at *
    subst ha hb'
  · rw [if_pos (by omega)]; rfl
  · rw [Int.tdiv_neg]
    by_cases hm : m = 0
    · subst hm; simp
    · rw [if_neg (by omega)]; rfl
  · rw [Int.neg_tdiv]
    by_cases hm : m = 0
    · subst hm; simp
    · rw [if_neg (by omega)]; rfl
  · rw [Int.tdiv_neg, Int.neg_tdiv, Int.neg_neg]
    by_cases hm : m = 0
    · subst hm; simp
    · rw [if_pos (by omega)]; rfl

theorem ret2b {k1 : IntKind} {a b : Int} {c : Bool} (h1 : a = b) : Ending.returned (.tuple #[.int k1 a, .bool c]) = .returned (.tuple #[.int k1 b, .bool c]) := by rw [h1]
theorem div_le (m n : Nat) : m / n ≤ m := Nat.div_le_self m n

set_option maxRecDepth 100000 in
set_option maxHeartbeats 400000 in
theorem quot_zero (a : Int) (w : World) :
    Calls Try.prog 35 #[.int .i64 a, .int .i64 0] w fun e w' => e = .returned (.tuple #[.int .i64 0, .bool false]) ∧ w = w' := by
  go_enter Try.func35, Try.ntmps35
  go_wp2
  go_ret2
  exact ⟨rfl, rfl⟩

set_option maxRecDepth 100000 in
set_option maxHeartbeats 400000 in
theorem quot_any (a b : Int) (w : World) (ha : -9223372036854775808 ≤ a ∧ a ≤ 9223372036854775807) (hb : -9223372036854775808 ≤ b ∧ b ≤ 9223372036854775807) (hb0 : b ≠ 0) :
    Calls Try.prog 35 #[.int .i64 a, .int .i64 b] w fun e w' => e = .returned (.tuple #[.int .i64 (qv a b), .bool true]) ∧ w = w' := by
  by_cases h1 : b = -1
  · subst h1
    have HQ := Lib.hid (show qv a (-1) = wrap64 (-a) by unfold qv; rw [Int.tdiv_neg, Int.tdiv_one])
    go_enter Try.func35, Try.ntmps35
    go_wp2
    go_ret2
    rw [HQ.out]
    exact ⟨rfl, rfl⟩
  · have c0 : (b == 0) = false := beq_eq_false_iff_ne.2 hb0
    have c1 : (b == -1) = false := beq_eq_false_iff_ne.2 h1
    have HQ := Lib.hid (show qv a b = wrap64 (a.tdiv b) from rfl)
    obtain ⟨ha1, ha2⟩ := ha
    obtain ⟨hb1, hb2⟩ := hb
    have H0 := Lib.hid hb0
    clear hb0 h1
    go_enter Try.func35, Try.ntmps35
    go_wp2
    go_ret2
    rw [HQ.out]
    exact ⟨rfl, rfl⟩

set_option maxRecDepth 100000 in
set_option maxHeartbeats 400000 in
theorem rem_zero (a : Int) (w : World) :
    Calls Try.prog 36 #[.int .i64 a, .int .i64 0] w fun e w' => e = .returned (.tuple #[.int .i64 0, .bool false]) ∧ w = w' := by
  go_enter Try.func36, Try.ntmps36
  go_wp2_with (go_at_call 35; ((with_reducible refine (quot_zero _ _).mono ?_); rintro e w' ⟨rfl, rfl⟩))
  go_ret2
  exact ⟨rfl, rfl⟩

set_option maxRecDepth 100000 in
set_option maxHeartbeats 400000 in
theorem rem_any (a b : Int) (w : World) (ha : -9223372036854775808 ≤ a ∧ a ≤ 9223372036854775807) (hb : -9223372036854775808 ≤ b ∧ b ≤ 9223372036854775807) (hb0 : b ≠ 0) :
    Calls Try.prog 36 #[.int .i64 a, .int .i64 b] w fun e w' => e = .returned (.tuple #[.int .i64 (rv a b), .bool true]) ∧ w = w' := by
  have HC := Lib.hid (fun w => quot_any a b w ha hb hb0)
  have HV := Lib.hid (show rv a b = wrap64 (a - wrap64 (b * qv a b)) from rfl)
  generalize qv a b = q at *
  clear ha hb hb0
  go_enter Try.func36, Try.ntmps36
  go_wp2_with (go_at_call 35; ((with_reducible refine (HC.out _).mono ?_); rintro e w' ⟨rfl, rfl⟩))
  go_ret2
  rw [HV.out]
  exact ⟨rfl, rfl⟩

theorem u64_of (m n : Nat) (h : m ≤ 9223372036854775808) : IntKind.u64.wrap ((m : Int) / (n : Int)) = (m : Int) / (n : Int) := by
  have h1 : (m : Int) / (n : Int) = ((m / n : Nat) : Int) := rfl
  have h2 := Nat.div_le_self m n
  rw [h1]; generalize m / n = x at h2 ⊢; exact IntWalk.u64_in _ (by omega)
theorem rq_same (a b : Int) (ha : a.natAbs ≤ 9223372036854775808) (hb : b ≠ 0) (h : (a < 0) ↔ (b < 0)) : wrap64 (IntKind.u64.wrap ((a.natAbs : Int) / (b.natAbs : Int))) = qv a b := by
  rw [u64_of _ _ ha]
  unfold qv; rw [tdiv_abs a b hb, if_pos h]; rfl
theorem rq_not (a b : Int) (ha : a.natAbs ≤ 9223372036854775808) (hb : b ≠ 0) (h : ¬ ((a < 0) ↔ (b < 0))) : wrap64 (-wrap64 (IntKind.u64.wrap ((a.natAbs : Int) / (b.natAbs : Int)))) = qv a b := by
  rw [u64_of _ _ ha]
  unfold qv; rw [tdiv_abs a b hb, if_neg h]
  rw [show ((a.natAbs / b.natAbs : Nat) : Int) = (a.natAbs : Int) / (b.natAbs : Int) from rfl]
  generalize (a.natAbs : Int) / (b.natAbs : Int) = x
  unfold wrap64; omega

set_option maxRecDepth 100000 in
set_option maxHeartbeats 400000 in
theorem rquot_zero (a : Int) (w : World) :
    Calls Try.prog 19 #[.int .i64 a, .int .i64 0] w fun e w' => e = .returned (.tuple #[.int .i64 0, .bool false]) ∧ w = w' := by
  go_enter Try.func19, Try.ntmps19
  go_wp2
  go_ret2
  exact ⟨rfl, rfl⟩

set_option maxRecDepth 100000 in
set_option maxHeartbeats 400000 in
theorem rquot_any (a b : Int) (w : World) (ha : -9223372036854775808 ≤ a ∧ a ≤ 9223372036854775807) (hb : -9223372036854775808 ≤ b ∧ b ≤ 9223372036854775807) (hb0 : b ≠ 0) :
    Calls Try.prog 19 #[.int .i64 a, .int .i64 b] w fun e w' => e = .returned (.tuple #[.int .i64 (qv a b), .bool true]) ∧ w = w' := by
  have c0 : (b == 0) = false := beq_eq_false_iff_ne.2 hb0
  have HA := Lib.hid (fun w => rsize_any a w ha.1 ha.2)
  have HB := Lib.hid (fun w => rsize_any b w hb.1 hb.2)
  have HS := Lib.hid (rq_same a b (by omega) hb0)
  have HN := Lib.hid (rq_not a b (by omega) hb0)
  have m1 : a.natAbs ≤ 9223372036854775808 := by omega
  have n1 : b.natAbs ≤ 9223372036854775808 := by omega
  have n0 : 1 ≤ b.natAbs := by omega
  generalize a.natAbs = m at *
  generalize b.natAbs = n at *
  generalize qv a b = q at *
  clear ha hb hb0
  by_cases h1 : a < 0 <;> by_cases h2 : b < 0
  · have HX := Lib.hid (HS.out (by omega))
    have c1 : decide (a < 0) = true := by simpa using h1
    have c2 : decide (b < 0) = true := by simpa using h2
    clear h1 h2
    go_enter Try.func19, Try.ntmps19
    go_wp2_with (first | (go_at_call 40; ((with_reducible refine (HA.out _).mono ?_); rintro e w' ⟨rfl, rfl⟩)) | (go_at_call 40; ((with_reducible refine (HB.out _).mono ?_); rintro e w' ⟨rfl, rfl⟩)))
    go_ret2
    exact ⟨ret2b HX.out, rfl⟩
  · have HX := Lib.hid (HN.out (by omega))
    have c1 : decide (a < 0) = true := by simpa using h1
    have c2 : decide (b < 0) = false := by simpa using h2
    clear h1 h2
    go_enter Try.func19, Try.ntmps19
    go_wp2_with (first | (go_at_call 40; ((with_reducible refine (HA.out _).mono ?_); rintro e w' ⟨rfl, rfl⟩)) | (go_at_call 40; ((with_reducible refine (HB.out _).mono ?_); rintro e w' ⟨rfl, rfl⟩)))
    go_ret2
    exact ⟨ret2b HX.out, rfl⟩
  · have HX := Lib.hid (HN.out (by omega))
    have c1 : decide (a < 0) = false := by simpa using h1
    have c2 : decide (b < 0) = true := by simpa using h2
    clear h1 h2
    go_enter Try.func19, Try.ntmps19
    go_wp2_with (first | (go_at_call 40; ((with_reducible refine (HA.out _).mono ?_); rintro e w' ⟨rfl, rfl⟩)) | (go_at_call 40; ((with_reducible refine (HB.out _).mono ?_); rintro e w' ⟨rfl, rfl⟩)))
    go_ret2
    exact ⟨ret2b HX.out, rfl⟩
  · have HX := Lib.hid (HS.out (by omega))
    have c1 : decide (a < 0) = false := by simpa using h1
    have c2 : decide (b < 0) = false := by simpa using h2
    clear h1 h2
    go_enter Try.func19, Try.ntmps19
    go_wp2_with (first | (go_at_call 40; ((with_reducible refine (HA.out _).mono ?_); rintro e w' ⟨rfl, rfl⟩)) | (go_at_call 40; ((with_reducible refine (HB.out _).mono ?_); rintro e w' ⟨rfl, rfl⟩)))
    go_ret2
    exact ⟨ret2b HX.out, rfl⟩

set_option maxRecDepth 100000 in
set_option maxHeartbeats 400000 in
theorem rrem_zero (a : Int) (w : World) :
    Calls Try.prog 20 #[.int .i64 a, .int .i64 0] w fun e w' => e = .returned (.tuple #[.int .i64 0, .bool false]) ∧ w = w' := by
  go_enter Try.func20, Try.ntmps20
  go_wp2_with (go_at_call 19; ((with_reducible refine (rquot_zero _ _).mono ?_); rintro e w' ⟨rfl, rfl⟩))
  go_ret2
  exact ⟨rfl, rfl⟩

set_option maxRecDepth 100000 in
set_option maxHeartbeats 400000 in
theorem rrem_any (a b : Int) (w : World) (ha : -9223372036854775808 ≤ a ∧ a ≤ 9223372036854775807) (hb : -9223372036854775808 ≤ b ∧ b ≤ 9223372036854775807) (hb0 : b ≠ 0) :
    Calls Try.prog 20 #[.int .i64 a, .int .i64 b] w fun e w' => e = .returned (.tuple #[.int .i64 (rv a b), .bool true]) ∧ w = w' := by
  have HC := Lib.hid (fun w => rquot_any a b w ha hb hb0)
  have HV := Lib.hid (show rv a b = wrap64 (a - wrap64 (b * qv a b)) from rfl)
  generalize qv a b = q at *
  clear ha hb hb0
  go_enter Try.func20, Try.ntmps20
  go_wp2_with (go_at_call 19; ((with_reducible refine (HC.out _).mono ?_); rintro e w' ⟨rfl, rfl⟩))
  go_ret2
  rw [HV.out]
  exact ⟨rfl, rfl⟩
end Go.Proofs.Ytipeggpolnnpmaa
