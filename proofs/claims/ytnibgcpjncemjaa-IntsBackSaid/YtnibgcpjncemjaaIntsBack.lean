/-
  'IntsBack' returns true for any int: the digits of a number that is not below 0 are read as it, of others ErrParse. No condition.
-/
import Derived.Test.YtnibgcpjncemjaaRows
import Derived.Test.YtnibgcpjncemjaaIntsAwake
import Derived.Test.YtnibgcpjncemjaaIntsRef
import Derived.OpenShut
import Derived.ShutString
import Derived.ChangeOld
namespace Go.Proofs.Ytnibgcpjncemjaa.intsBack
open Go.ChangeShapes Go.WideShapes Go.ChangeAt Go.RowKit
open Go.ChangeMaps (open_string shut_string)
set_option linter.unusedVariables false

set_option maxRecDepth 100000 in
set_option maxHeartbeats 400000 in
theorem walk (n : Int) (wn : (Lit.int .i64 n).wf = true) (w : World) :
    Calls Try.prog 6 #[.int .i64 n] w fun e w' => e = .returned (.bool true) ∧ Below w.heap.size w w' := by
  have hbd := bounds_i64 wn
  have HT := Lib.hid (fun w => text_any n w hbd.1 hbd.2)
  have hsz : (bs (itoa n)).size ≤ maxLen := by
    rw [bs_size]
    have h := digs_len 20 n.natAbs (by omega) (by omega)
    unfold itoa maxLen; split <;> simp <;> omega
  have HR := Lib.hid (fun w => read_any (bs (itoa n)) w hsz)
  rw [data_bs] at HR
  by_cases h0 : n < 0
  · have e1 : readN (itoa n) = 0 := by rw [itoa_neg n h0]; exact (read_neg _).1
    have e2 : readE (itoa n) = 5 := by rw [itoa_neg n h0]; exact (read_neg _).2
    rw [e1, e2] at HR
    clear e1 e2
    generalize bs (itoa n) = T at *
    go_enter Try.func6, Try.ntmps6
    go_wp2_with (first | (go_at_call 18; ((with_reducible refine (HT.out _).mono ?_); rintro e w1 ⟨rfl, hb1⟩)) | (go_at_call 16; ((with_reducible refine (HR.out _).mono ?_); rintro e w' ⟨rfl, rfl⟩)) | (go_at_call 11; ((with_reducible refine (awake02 _).mono ?_); rintro e w3 ⟨rfl, hb3⟩)))
    go_ret
    exact ⟨rfl, hb1.trans (hb3.mono hb1.size)⟩
  · have hrd := read_digs n.natAbs (by simp only [mxN]; omega)
    have e1 : readN (itoa n) = n := by rw [itoa_pos n h0, hrd.1]; omega
    have e2 : readE (itoa n) = 0 := by rw [itoa_pos n h0]; exact hrd.2
    rw [e1, e2] at HR
    clear e1 e2 hrd
    generalize bs (itoa n) = T at *
    go_enter Try.func6, Try.ntmps6
    go_wp2_with (first | (go_at_call 18; ((with_reducible refine (HT.out _).mono ?_); rintro e w1 ⟨rfl, hb1⟩)) | (go_at_call 16; ((with_reducible refine (HR.out _).mono ?_); rintro e w' ⟨rfl, rfl⟩)) | (go_at_call 11; ((with_reducible refine (awake02 _).mono ?_); rintro e w3 ⟨rfl, hb3⟩)))
    go_ret
    exact ⟨rfl, hb1.trans (hb3.mono hb1.size)⟩

theorem own : ownKnob Try.prog.godebug = none := by kernel_rfl
set_option maxRecDepth 100000 in
theorem lifted (os : Os) (started : os.Started) (H : Type) (enc : TypeId × Value → H) :
    ReturnsInHanded {} Try.checked os 6 .any (Rows.intsBackSpec.pre6 enc Try.prog Try.f6 Rows.intsBackRow.domain false) (Rows.intsBackSpec.post enc Try.prog Try.f6 false true false false) := by
  refine returnsInHanded_of_change (C := Try.checked) own started (by kernel_rfl) Try.func6
    (ChangeSpec.witness6 (enc := enc) (C := Try.checked) false ⟨#[], #[.int .i64 0], []⟩ 8 (by kernel_rfl) (by kernel_rfl) (by kernel_rfl) (by kernel_rfl)) ?_
  intro W base args ds gs before hval0 hW hcnd _
  have hval : ∀ (j : Nat) t v, Try.f6.params[j]? = some t → args[j]? = some v → Value.okWide Try.prog W .any base t v := hval0
  have hW' := hW
  obtain ⟨p, q, hA0, hV, rfl, hfz, hnd⟩ := hW
  have hA : DataW.TrodAll enc Try.prog W 0 (fun _ => true) true Try.f6.params.toList args.toList ds p := hA0
  rw [Try.params6] at hA hval
  obtain ⟨v0, vs0, d0, ds0, p0, q0, hargs, rfl, rfl, h0, r0⟩ := trodAll_cons hA
  obtain ⟨rfl, rfl, rfl⟩ := trodAll_nil r0
  obtain rfl : args = #[v0] := by cases args; simp_all
  obtain ⟨rfl, rfl⟩ := trodVars_none hV
  obtain ⟨a0, rfl, rfl, rfl, w0⟩ := open_int Try.underlying3 (hval 0 3 v0 rfl rfl) h0
  clear hA0 hval0
  simp only [List.append_nil] at hW'
  refine (walk a0 w0 W).mono fun e W' ⟨he, bel⟩ => ?_
  subst he
  exact ⟨_, rfl, _, _, _, [], [], [], hW', trodAll_mk1 (shut_bool Try.underlying4 _), (trodAll_cons_mk (shut_int Try.underlying3 w0) trodAll_mk0), rfl, bel.frame _, fun h => by cases h⟩

theorem over : Rows.intsBackRow.holds Try.pinned (OpenSpec.ofChange Rows.intsBackSpec) :=
  OpenClaim.holds_of_wide 6 Try.f6 rfl rfl rfl rfl rfl rfl rfl ⟨rfl, rfl, rfl, rfl, rfl⟩ rfl rfl rfl rfl rfl (by kernel_rfl) Try.func6 (by kernel_rfl)
    (of_decide_eq_true (by kernel_rfl)) (by unfold Func.isWrapper; first | (rw [if_pos (by decide +kernel)]; kernel_rfl) | (rw [if_neg (by decide +kernel)]; exact ⟨rfl, rfl⟩))
    (fun os started H enc _ => lifted os started H enc)
end Go.Proofs.Ytnibgcpjncemjaa.intsBack
namespace Go.Proofs.Ytnibgcpjncemjaa
theorem intsBack_holds : Rows.IntsBackSaid := intsBack.over
#print axioms intsBack_holds
end Go.Proofs.Ytnibgcpjncemjaa
