/-
  'IntsSums' returns true for any two ints: sums, differences and products are those modulo 2^64. No condition.
-/
import Derived.Test.YtnibgcpjncemjaaRows
import Derived.Test.YtnibgcpjncemjaaIntsAwake
import Derived.OpenShut
import Derived.ShutString
import Derived.ChangeOld
namespace Go.Proofs.Ytnibgcpjncemjaa.intsSums
open Go.ChangeShapes Go.WideShapes Go.ChangeAt Go.RowKit
open Go.ChangeMaps (open_string shut_string)
set_option linter.unusedVariables false

theorem wrap64_congr {x y : Int} (h : x % 18446744073709551616 = y % 18446744073709551616) : wrap64 x = wrap64 y := by
  unfold wrap64; omega
theorem u64_mod (x : Int) : IntKind.u64.wrap x = x % 18446744073709551616 := by
  simp [IntKind.wrap, IntKind.bits, IntKind.signed]
theorem sum_eq (a b : Int) : wrap64 (a + b) = wrap64 (IntKind.u64.wrap (IntKind.u64.wrap a + IntKind.u64.wrap b)) := by
  apply wrap64_congr; simp only [u64_mod]; omega
theorem sub_eq (a b : Int) : wrap64 (a - b) = wrap64 (IntKind.u64.wrap (IntKind.u64.wrap a - IntKind.u64.wrap b)) := by
  apply wrap64_congr; simp only [u64_mod]; omega
theorem mul_eq (a b : Int) : wrap64 (a * b) = wrap64 (IntKind.u64.wrap (IntKind.u64.wrap a * IntKind.u64.wrap b)) := by
  apply wrap64_congr; simp only [u64_mod]; rw [Int.emod_emod_of_dvd _ (Int.dvd_refl _), ← Int.mul_emod]

set_option maxRecDepth 100000 in
set_option maxHeartbeats 400000 in
theorem walk (a b : Int) (wa : (Lit.int .i64 a).wf = true) (wb : (Lit.int .i64 b).wf = true) (w : World) :
    Calls Try.prog 3 #[.int .i64 a, .int .i64 b] w fun e w' => e = .returned (.bool true) ∧ Below w.heap.size w w' := by
  have h1 : (wrap64 (a + b) == wrap64 (IntKind.u64.wrap (IntKind.u64.wrap a + IntKind.u64.wrap b))) = true := beq_iff_eq.2 (sum_eq a b)
  have h2 : (wrap64 (a - b) == wrap64 (IntKind.u64.wrap (IntKind.u64.wrap a - IntKind.u64.wrap b))) = true := beq_iff_eq.2 (sub_eq a b)
  have h3 : (wrap64 (a * b) == wrap64 (IntKind.u64.wrap (IntKind.u64.wrap a * IntKind.u64.wrap b))) = true := beq_iff_eq.2 (mul_eq a b)
  go_enter Try.func3, Try.ntmps3
  go_wp2_with (first | (go_at_call 11; ((with_reducible refine (awake02 _).mono ?_); rintro e w' ⟨rfl, hb⟩)) | go_in)
  go_ret
  exact ⟨rfl, hb⟩

theorem own : ownKnob Try.prog.godebug = none := by kernel_rfl
set_option maxRecDepth 100000 in
theorem lifted (os : Os) (started : os.Started) (H : Type) (enc : TypeId × Value → H) :
    ReturnsInHanded {} Try.checked os 3 .any (Rows.intsSumsSpec.pre6 enc Try.prog Try.f3 Rows.intsSumsRow.domain false) (Rows.intsSumsSpec.post enc Try.prog Try.f3 false true false false) := by
  refine returnsInHanded_of_change (C := Try.checked) own started (by kernel_rfl) Try.func3
    (ChangeSpec.witness6 (enc := enc) (C := Try.checked) false ⟨#[], #[.int .i64 0, .int .i64 0], []⟩ 8 (by kernel_rfl) (by kernel_rfl) (by kernel_rfl) (by kernel_rfl)) ?_
  intro W base args ds gs before hval0 hW hcnd _
  have hval : ∀ (j : Nat) t v, Try.f3.params[j]? = some t → args[j]? = some v → Value.okWide Try.prog W .any base t v := hval0
  have hW' := hW
  obtain ⟨p, q, hA0, hV, rfl, hfz, hnd⟩ := hW
  have hA : DataW.TrodAll enc Try.prog W 0 (fun _ => true) true Try.f3.params.toList args.toList ds p := hA0
  rw [Try.params3] at hA hval
  obtain ⟨v0, vs0, d0, ds0, p0, q0, hargs, rfl, rfl, h0, r0⟩ := trodAll_cons hA
  obtain ⟨v1, vs1, d1, ds1, p1, q1, rfl, rfl, rfl, h1, r1⟩ := trodAll_cons r0
  obtain ⟨rfl, rfl, rfl⟩ := trodAll_nil r1
  obtain rfl : args = #[v0, v1] := by cases args; simp_all
  obtain ⟨rfl, rfl⟩ := trodVars_none hV
  obtain ⟨a0, rfl, rfl, rfl, w0⟩ := open_int Try.underlying3 (hval 0 3 v0 rfl rfl) h0
  obtain ⟨a1, rfl, rfl, rfl, w1⟩ := open_int Try.underlying3 (hval 1 3 v1 rfl rfl) h1
  clear hA0 hval0
  simp only [List.append_nil] at hW'
  refine (walk a0 a1 w0 w1 W).mono fun e W' ⟨he, bel⟩ => ?_
  subst he
  exact ⟨_, rfl, _, _, _, [], [], [], hW', trodAll_mk1 (shut_bool Try.underlying4 _), (trodAll_cons_mk (shut_int Try.underlying3 w0) (trodAll_cons_mk (shut_int Try.underlying3 w1) trodAll_mk0)), rfl, bel.frame _, fun h => by cases h⟩

theorem over : Rows.intsSumsRow.holds Try.pinned (OpenSpec.ofChange Rows.intsSumsSpec) :=
  OpenClaim.holds_of_wide 3 Try.f3 rfl rfl rfl rfl rfl rfl rfl ⟨rfl, rfl, rfl, rfl, rfl⟩ rfl rfl rfl rfl rfl (by kernel_rfl) Try.func3 (by kernel_rfl)
    (of_decide_eq_true (by kernel_rfl)) (by unfold Func.isWrapper; first | (rw [if_pos (by decide +kernel)]; kernel_rfl) | (rw [if_neg (by decide +kernel)]; exact ⟨rfl, rfl⟩))
    (fun os started H enc _ => lifted os started H enc)
end Go.Proofs.Ytnibgcpjncemjaa.intsSums
namespace Go.Proofs.Ytnibgcpjncemjaa
theorem intsSums_holds : Rows.IntsSumsSaid := intsSums.over
#print axioms intsSums_holds
end Go.Proofs.Ytnibgcpjncemjaa
