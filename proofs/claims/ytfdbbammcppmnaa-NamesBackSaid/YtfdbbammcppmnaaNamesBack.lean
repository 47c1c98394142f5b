/-
  'NamesBack' returns true for any two ints: a number's letter is that number's, unlike numbers have unlike letters, and each may be a name. No condition.
-/
import Derived.Test.YtfdbbammcppmnaaRows
import Derived.Test.YtfdbbammcppmnaaNamesAwake
import Derived.OpenShut
import Derived.ShutString
import Derived.ChangeOld
namespace Go.Proofs.Ytfdbbammcppmnaa.namesBack
open Go.ChangeShapes Go.WideShapes Go.ChangeAt Go.RowKit
open Go.ChangeMaps (open_string shut_string)
set_option linter.unusedVariables false

theorem str_same (a b : List UInt8) (x y : Int) (h : a = b ↔ x = y) : ((bs a).toList == (bs b).toList) = (x == y) := by
  rw [ByteArray.toList_eq, ByteArray.toList_eq, data_bs, data_bs, Bool.eq_iff_iff]; simpa using h

set_option maxRecDepth 100000 in
set_option maxHeartbeats 400000 in
theorem walk (n m : Int) (wn : (Lit.int .i64 n).wf = true) (wm : (Lit.int .i64 m).wf = true) (w : World) :
    Calls Try.prog 5 #[.int .i64 n, .int .i64 m] w fun e w' => e = .returned (.bool true) ∧ Below w.heap.size w w' := by
  obtain ⟨n1, n2⟩ := bounds_i64 wn
  obtain ⟨m1, m2⟩ := bounds_i64 wm
  clear wn wm
  by_cases h0 : n < 0
  · have H1 := Lib.hid (fun w => letter_any n w n1 n2)
    rw [letter_neg n h0] at H1
    have hbs : bs [] = ⟨#[]⟩ := rfl
    rw [hbs] at H1
    clear hbs
    go_enter Try.func5, Try.ntmps5
    go_wp2_with (first | (go_at_call 15; ((with_reducible refine (H1.out _).mono ?_); rintro e w1 ⟨rfl, hb1⟩)) | (go_at_call 14; ((with_reducible refine (awake03 _).mono ?_); rintro e w5 ⟨rfl, hb5⟩)))
    go_ret
    exact ⟨rfl, hb1.trans (hb5.mono hb1.size)⟩
  by_cases h1 : m < 0
  · go_enter Try.func5, Try.ntmps5
    go_wp2_with (go_at_call 14; ((with_reducible refine (awake03 _).mono ?_); rintro e w5 ⟨rfl, hb5⟩))
    go_ret
    exact ⟨rfl, hb5⟩
  by_cases h2 : 4611686018427387904 < n
  · go_enter Try.func5, Try.ntmps5
    go_wp2_with (go_at_call 14; ((with_reducible refine (awake03 _).mono ?_); rintro e w5 ⟨rfl, hb5⟩))
    go_ret
    exact ⟨rfl, hb5⟩
  by_cases h3 : 4611686018427387904 < m
  · go_enter Try.func5, Try.ntmps5
    go_wp2_with (go_at_call 14; ((with_reducible refine (awake03 _).mono ?_); rintro e w5 ⟨rfl, hb5⟩))
    go_ret
    exact ⟨rfl, hb5⟩
  have H1 := Lib.hid (fun w => letter_any n w n1 n2)
  have H2 := Lib.hid (fun w => letter_any m w m1 m2)
  have hll : (letter n).length ≤ 100 := by
    by_cases h : n < 26
    · rw [letter_small n (by omega) h]; simp
    · rw [letter_big n (by omega)]; have := itoa_len (n / 26) (by omega) (by omega); simp; omega
  have H3 := Lib.hid (fun w => number_any (bs (letter n)) w (by rw [bs_size]; unfold maxLen; omega))
  have H4 := Lib.hid (fun w => var_any (bs (letter n)) w (by rw [bs_size]; unfold maxLen; omega))
  rw [data_bs] at H3 H4
  rw [num_letter n (by omega) (by omega)] at H3
  rw [letter_var n (by omega)] at H4
  have he := str_same (letter n) (letter m) n m ⟨letter_inj n m (by omega) (by omega) (by omega) (by omega), fun e => by rw [e]⟩
  generalize letter n = L at *
  generalize letter m = M at *
  clear hll
  go_enter Try.func5, Try.ntmps5
  go_wp2_with fail
  refine (H1.out _).mono ?_
  rintro e w1 ⟨rfl, hb1⟩
  go_wp2_with fail
  refine (H2.out _).mono ?_
  rintro e w2 ⟨rfl, hb2⟩
  go_wp2_with (first | (go_at_call 17; ((with_reducible refine (H3.out _).mono ?_); rintro e w3 ⟨rfl, hb3⟩)) | (go_at_call 8; ((with_reducible refine (H4.out _).mono ?_); rintro e w' ⟨rfl, rfl⟩)) | (go_at_call 14; ((with_reducible refine (awake03 _).mono ?_); rintro e w5 ⟨rfl, hb5⟩)))
  go_ret
  have hb12 := hb1.trans (hb2.mono hb1.size)
  have hb13 := hb12.trans (hb3.mono hb12.size)
  exact ⟨rfl, hb13.trans (hb5.mono hb13.size)⟩

theorem own : ownKnob Try.prog.godebug = none := by kernel_rfl
set_option maxRecDepth 100000 in
theorem lifted (os : Os) (started : os.Started) (H : Type) (enc : TypeId × Value → H) :
    ReturnsInHanded {} Try.checked os 5 .any (Rows.namesBackSpec.pre6 enc Try.prog Try.f5 Rows.namesBackRow.domain false) (Rows.namesBackSpec.post enc Try.prog Try.f5 false true false false) := by
  refine returnsInHanded_of_change (C := Try.checked) own started (by kernel_rfl) Try.func5
    (ChangeSpec.witness6 (enc := enc) (C := Try.checked) false ⟨#[], #[.int .i64 0, .int .i64 0], []⟩ 8 (by kernel_rfl) (by kernel_rfl) (by kernel_rfl) (by kernel_rfl)) ?_
  intro W base args ds gs before hval0 hW hcnd _
  have hval : ∀ (j : Nat) t v, Try.f5.params[j]? = some t → args[j]? = some v → Value.okWide Try.prog W .any base t v := hval0
  have hW' := hW
  obtain ⟨p, q, hA0, hV, rfl, hfz, hnd⟩ := hW
  have hA : DataW.TrodAll enc Try.prog W 0 (fun _ => true) true Try.f5.params.toList args.toList ds p := hA0
  rw [Try.params5] at hA hval
  obtain ⟨v0, vs0, d0, ds0, p0, q0, hargs, rfl, rfl, h0, r0⟩ := trodAll_cons hA
  obtain ⟨v1, vs1, d1, ds1, p1, q1, rfl, rfl, rfl, h1, r1⟩ := trodAll_cons r0
  obtain ⟨rfl, rfl, rfl⟩ := trodAll_nil r1
  obtain rfl : args = #[v0, v1] := by cases args; simp_all
  obtain ⟨rfl, rfl⟩ := trodVars_none hV
  obtain ⟨a0, rfl, rfl, rfl, w0⟩ := open_int Try.underlying3 (hval 0 3 v0 rfl rfl) h0
  obtain ⟨a1, rfl, rfl, rfl, w1⟩ := open_int Try.underlying3 (hval 1 3 v1 rfl rfl) h1
  clear hA0 hval0
  simp only [List.append_nil] at hW'
  refine (walk a0 a1 w0 w1 W).mono fun e W' ⟨he, bel⟩ => ?_
  subst he
  exact ⟨_, rfl, _, _, _, [], [], [], hW', trodAll_mk1 (shut_bool Try.underlying4 _), (trodAll_cons_mk (shut_int Try.underlying3 w0) (trodAll_cons_mk (shut_int Try.underlying3 w1) trodAll_mk0)), rfl, bel.frame _, fun h => by cases h⟩

theorem over : Rows.namesBackRow.holds Try.pinned (OpenSpec.ofChange Rows.namesBackSpec) :=
  OpenClaim.holds_of_wide 5 Try.f5 rfl rfl rfl rfl rfl rfl rfl ⟨rfl, rfl, rfl, rfl, rfl⟩ rfl rfl rfl rfl rfl (by kernel_rfl) Try.func5 (by kernel_rfl)
    (of_decide_eq_true (by kernel_rfl)) (by unfold Func.isWrapper; first | (rw [if_pos (by decide +kernel)]; kernel_rfl) | (rw [if_neg (by decide +kernel)]; exact ⟨rfl, rfl⟩))
    (fun os started H enc _ => lifted os started H enc)
end Go.Proofs.Ytfdbbammcppmnaa.namesBack
namespace Go.Proofs.Ytfdbbammcppmnaa
theorem namesBack_holds : Rows.NamesBackSaid := namesBack.over
#print axioms namesBack_holds
end Go.Proofs.Ytfdbbammcppmnaa
