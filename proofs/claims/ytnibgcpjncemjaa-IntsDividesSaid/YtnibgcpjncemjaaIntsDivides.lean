/-
  'IntsDivides' returns true for any two ints: a number is divisor times quotient and what is left, which is less than the divisor and not of the other sign. No condition.
-/
import Derived.Test.YtnibgcpjncemjaaRows
import Derived.Test.YtnibgcpjncemjaaIntsAwake
import Derived.Test.YtnibgcpjncemjaaIntsQuot
import Derived.OpenShut
import Derived.ShutString
import Derived.ChangeOld
namespace Go.Proofs.Ytnibgcpjncemjaa.intsDivides
open Go.ChangeShapes Go.WideShapes Go.ChangeAt Go.RowKit
open Go.ChangeMaps (open_string shut_string)
set_option linter.unusedVariables false

theorem wrap64_ex (x : Int) : ∃ k : Int, wrap64 x = x + 18446744073709551616 * k := ⟨-((x + 9223372036854775808) / 18446744073709551616), by unfold wrap64; omega⟩
theorem wrap64_of (x y : Int) (h : ∃ k, x = y + 18446744073709551616 * k) (hy : -9223372036854775808 ≤ y ∧ y ≤ 9223372036854775807) : wrap64 x = y := by
  obtain ⟨k, rfl⟩ := h; unfold wrap64; omega

theorem tmod_abs (a b : Int) (hb : b ≠ 0) : a.tmod b = if a < 0 then -((a.natAbs % b.natAbs : Nat) : Int) else ((a.natAbs % b.natAbs : Nat) : Int) := by
  rcases Int.natAbs_eq a with ha | ha <;> rcases Int.natAbs_eq b with hb' | hb'
  all_goals
    generalize a.natAbs = m at *
    generalize b.natAbs = n at *
    subst ha hb'
  · rw [if_neg (by omega)]; rfl
  · rw [Int.tmod_neg, if_neg (by omega)]; rfl
  · rw [Int.neg_tmod]
    by_cases hm : m = 0
    · subst hm; simp
    · rw [if_pos (by omega)]; rfl
  · rw [Int.neg_tmod, Int.tmod_neg]
    by_cases hm : m = 0
    · subst hm; simp
    · rw [if_pos (by omega)]; rfl

theorem tmod_facts (a b : Int) (hb : b ≠ 0) : (a < 0 → a.tmod b ≤ 0) ∧ (0 ≤ a → 0 ≤ a.tmod b) ∧ (a.tmod b).natAbs < b.natAbs := by
  have h := Nat.mod_lt a.natAbs (show 0 < b.natAbs by omega)
  rw [tmod_abs a b hb]
  generalize a.natAbs % b.natAbs = x at *
  split <;> omega

theorem rv_tmod (a b : Int) (hb : b ≠ 0) (hbd : -9223372036854775808 ≤ b ∧ b ≤ 9223372036854775807) : rv a b = a.tmod b := by
  have hf := tmod_facts a b hb
  have hd := Int.tmod_def a b
  unfold rv qv
  apply wrap64_of
  · obtain ⟨k1, e1⟩ := wrap64_ex (a.tdiv b)
    obtain ⟨k2, e2⟩ := wrap64_ex (b * wrap64 (a.tdiv b))
    refine ⟨-(b * k1) - k2, ?_⟩
    rw [e2, e1, hd, Int.mul_add]
    have : b * (18446744073709551616 * k1) = 18446744073709551616 * (b * k1) := by rw [← Int.mul_assoc, Int.mul_comm b, Int.mul_assoc]
    rw [this]
    generalize b * a.tdiv b = x
    generalize b * k1 = y
    omega
  · omega

theorem back_eq (a b : Int) (ha : -9223372036854775808 ≤ a ∧ a ≤ 9223372036854775807) : wrap64 (wrap64 (b * qv a b) + rv a b) = a := by
  apply wrap64_of _ _ _ ha
  unfold rv
  generalize b * qv a b = x
  obtain ⟨k, e⟩ := wrap64_ex (a - wrap64 x)
  exact ⟨k, by omega⟩

set_option maxRecDepth 100000 in
set_option maxHeartbeats 1000000 in
theorem walk (a b : Int) (wa : (Lit.int .i64 a).wf = true) (wb : (Lit.int .i64 b).wf = true) (w : World) :
    Calls Try.prog 7 #[.int .i64 a, .int .i64 b] w fun e w' => e = .returned (.bool true) ∧ Below w.heap.size w w' := by
  have ha := bounds_i64 wa
  have hb := bounds_i64 wb
  by_cases h0 : b = 0
  · subst h0
    clear ha hb
    go_enter Try.func7, Try.ntmps7
    go_wp2_with (first | (go_at_call 12; ((with_reducible refine (quot_zero _ _).mono ?_); rintro e w' ⟨rfl, rfl⟩)) | (go_at_call 14; ((with_reducible refine (rem_zero _ _).mono ?_); rintro e w' ⟨rfl, rfl⟩)) | (go_at_call 11; ((with_reducible refine (awake02 _).mono ?_); rintro e w3 ⟨rfl, hb3⟩)))
    go_ret
    exact ⟨rfl, hb3⟩
  · have H1 := Lib.hid (fun w => quot_any a b w ha hb h0)
    have H3 := Lib.hid (fun w => rem_any a b w ha hb h0)
    have e1 : (wrap64 (wrap64 (b * qv a b) + rv a b) == a) = true := beq_iff_eq.2 (back_eq a b ha)
    have hf := tmod_facts a b h0
    rw [← rv_tmod a b h0 hb] at hf
    generalize qv a b = q at *
    generalize rv a b = r at *
    obtain ⟨ha1, ha2⟩ := ha
    obtain ⟨hb1, hb2⟩ := hb
    have c0 : (b == 0) = false := beq_eq_false_iff_ne.2 h0
    have ca : (0 ≤ a ∧ 0 ≤ r) ∨ (a < 0 ∧ r ≤ 0) := by omega
    have hl : (b < 0 ∧ b < r ∧ r < -b) ∨ (0 < b ∧ r < b ∧ -b < r) := by omega
    clear hf h0
    rcases Int.lt_trichotomy r 0 with hr | hr | hr
    · have r0 : (r == 0) = false := beq_eq_false_iff_ne.2 (by omega)
      have d1 : decide (0 < r) = false := by simp; omega
      have d2 : decide (r < 0) = true := by simp; omega
      have d3 : decide (a < 0) = true := by simp; omega
      clear ca
      rcases hl with ⟨l1, l2, l3⟩ | ⟨l1, l2, l3⟩
      · have d4 : decide (0 < b) = false := by simp; omega
        go_enter Try.func7, Try.ntmps7
        go_wp2_with (first | (go_at_call 12; ((with_reducible refine (H1.out _).mono ?_); rintro e w' ⟨rfl, rfl⟩)) | (go_at_call 14; ((with_reducible refine (H3.out _).mono ?_); rintro e w' ⟨rfl, rfl⟩)) | (go_at_call 11; ((with_reducible refine (awake02 _).mono ?_); rintro e w3 ⟨rfl, hb3⟩)) | go_in)
        go_ret
        exact ⟨rfl, hb3⟩
      · have d4 : decide (0 < b) = true := by simp; omega
        go_enter Try.func7, Try.ntmps7
        go_wp2_with (first | (go_at_call 12; ((with_reducible refine (H1.out _).mono ?_); rintro e w' ⟨rfl, rfl⟩)) | (go_at_call 14; ((with_reducible refine (H3.out _).mono ?_); rintro e w' ⟨rfl, rfl⟩)) | (go_at_call 11; ((with_reducible refine (awake02 _).mono ?_); rintro e w3 ⟨rfl, hb3⟩)) | go_in)
        go_ret
        exact ⟨rfl, hb3⟩
    · subst hr
      rw [Int.add_zero] at e1
      clear ca
      rcases hl with ⟨l1, l2, l3⟩ | ⟨l1, l2, l3⟩
      · have d4 : decide (0 < b) = false := by simp; omega
        go_enter Try.func7, Try.ntmps7
        go_wp2_with (first | (go_at_call 12; ((with_reducible refine (H1.out _).mono ?_); rintro e w' ⟨rfl, rfl⟩)) | (go_at_call 14; ((with_reducible refine (H3.out _).mono ?_); rintro e w' ⟨rfl, rfl⟩)) | (go_at_call 11; ((with_reducible refine (awake02 _).mono ?_); rintro e w3 ⟨rfl, hb3⟩)) | go_in)
        go_ret
        exact ⟨rfl, hb3⟩
      · have d4 : decide (0 < b) = true := by simp; omega
        go_enter Try.func7, Try.ntmps7
        go_wp2_with (first | (go_at_call 12; ((with_reducible refine (H1.out _).mono ?_); rintro e w' ⟨rfl, rfl⟩)) | (go_at_call 14; ((with_reducible refine (H3.out _).mono ?_); rintro e w' ⟨rfl, rfl⟩)) | (go_at_call 11; ((with_reducible refine (awake02 _).mono ?_); rintro e w3 ⟨rfl, hb3⟩)) | go_in)
        go_ret
        exact ⟨rfl, hb3⟩
    · have r0 : (r == 0) = false := beq_eq_false_iff_ne.2 (by omega)
      have d1 : decide (0 < r) = true := by simp; omega
      have d2 : decide (r < 0) = false := by simp; omega
      have d3 : decide (a < 0) = false := by simp; omega
      clear ca
      rcases hl with ⟨l1, l2, l3⟩ | ⟨l1, l2, l3⟩
      · have d4 : decide (0 < b) = false := by simp; omega
        go_enter Try.func7, Try.ntmps7
        go_wp2_with (first | (go_at_call 12; ((with_reducible refine (H1.out _).mono ?_); rintro e w' ⟨rfl, rfl⟩)) | (go_at_call 14; ((with_reducible refine (H3.out _).mono ?_); rintro e w' ⟨rfl, rfl⟩)) | (go_at_call 11; ((with_reducible refine (awake02 _).mono ?_); rintro e w3 ⟨rfl, hb3⟩)) | go_in)
        go_ret
        exact ⟨rfl, hb3⟩
      · have d4 : decide (0 < b) = true := by simp; omega
        go_enter Try.func7, Try.ntmps7
        go_wp2_with (first | (go_at_call 12; ((with_reducible refine (H1.out _).mono ?_); rintro e w' ⟨rfl, rfl⟩)) | (go_at_call 14; ((with_reducible refine (H3.out _).mono ?_); rintro e w' ⟨rfl, rfl⟩)) | (go_at_call 11; ((with_reducible refine (awake02 _).mono ?_); rintro e w3 ⟨rfl, hb3⟩)) | go_in)
        go_ret
        exact ⟨rfl, hb3⟩

theorem own : ownKnob Try.prog.godebug = none := by kernel_rfl
set_option maxRecDepth 100000 in
theorem lifted (os : Os) (started : os.Started) (H : Type) (enc : TypeId × Value → H) :
    ReturnsInHanded {} Try.checked os 7 .any (Rows.intsDividesSpec.pre6 enc Try.prog Try.f7 Rows.intsDividesRow.domain false) (Rows.intsDividesSpec.post enc Try.prog Try.f7 false true false false) := by
  refine returnsInHanded_of_change (C := Try.checked) own started (by kernel_rfl) Try.func7
    (ChangeSpec.witness6 (enc := enc) (C := Try.checked) false ⟨#[], #[.int .i64 0, .int .i64 0], []⟩ 8 (by kernel_rfl) (by kernel_rfl) (by kernel_rfl) (by kernel_rfl)) ?_
  intro W base args ds gs before hval0 hW hcnd _
  have hval : ∀ (j : Nat) t v, Try.f7.params[j]? = some t → args[j]? = some v → Value.okWide Try.prog W .any base t v := hval0
  have hW' := hW
  obtain ⟨p, q, hA0, hV, rfl, hfz, hnd⟩ := hW
  have hA : DataW.TrodAll enc Try.prog W 0 (fun _ => true) true Try.f7.params.toList args.toList ds p := hA0
  rw [Try.params7] at hA hval
  obtain ⟨v0, vs0, d0, ds0, p0, q0, hargs, rfl, rfl, h0, r0⟩ := trodAll_cons hA
  obtain ⟨v1, vs1, d1, ds1, p1, q1, rfl, rfl, rfl, h1, r1⟩ := trodAll_cons r0
  obtain ⟨rfl, rfl, rfl⟩ := trodAll_nil r1
  obtain rfl : args = #[v0, v1] := by cases args; simp_all
  obtain ⟨rfl, rfl⟩ := trodVars_none hV
  obtain ⟨a0, rfl, rfl, rfl, w0⟩ := open_int Try.underlying3 (hval 0 3 v0 rfl rfl) h0
  obtain ⟨a1, rfl, rfl, rfl, w1⟩ := open_int Try.underlying3 (hval 1 3 v1 rfl rfl) h1
  clear hA0 hval0
  simp only [List.append_nil] at hW'
  refine (walk a0 a1 w0 w1 W).mono fun e W' ⟨he, bel⟩ => ?_
  subst he
  exact ⟨_, rfl, _, _, _, [], [], [], hW', trodAll_mk1 (shut_bool Try.underlying4 _), (trodAll_cons_mk (shut_int Try.underlying3 w0) (trodAll_cons_mk (shut_int Try.underlying3 w1) trodAll_mk0)), rfl, bel.frame _, fun h => by cases h⟩

theorem over : Rows.intsDividesRow.holds Try.pinned (OpenSpec.ofChange Rows.intsDividesSpec) :=
  OpenClaim.holds_of_wide 7 Try.f7 rfl rfl rfl rfl rfl rfl rfl ⟨rfl, rfl, rfl, rfl, rfl⟩ rfl rfl rfl rfl rfl (by kernel_rfl) Try.func7 (by kernel_rfl)
    (of_decide_eq_true (by kernel_rfl)) (by unfold Func.isWrapper; first | (rw [if_pos (by decide +kernel)]; kernel_rfl) | (rw [if_neg (by decide +kernel)]; exact ⟨rfl, rfl⟩))
    (fun os started H enc _ => lifted os started H enc)
end Go.Proofs.Ytnibgcpjncemjaa.intsDivides
namespace Go.Proofs.Ytnibgcpjncemjaa
theorem intsDivides_holds : Rows.IntsDividesSaid := intsDivides.over
#print axioms intsDivides_holds
end Go.Proofs.Ytnibgcpjncemjaa
