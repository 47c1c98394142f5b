/-
  'SpansLines' returns true for any text and any line, where the text has at most 1048576 bytes (the second form's bound).
-/
import Derived.Test.YtmdobaplndlhhaaRows
import Derived.Test.YtmdobaplndlhhaaSpansMark
import Derived.OpenShut
import Derived.ShutString
import Derived.ChangeOld
import Derived.JoinedCond
namespace Go.Proofs.Ytmdobaplndlhhaa.spansLines
open Go.ChangeShapes Go.WideShapes Go.ChangeAt Go.RowKit
open Go.ChangeMaps (open_string shut_string)
set_option linter.unusedVariables false

set_option maxRecDepth 100000 in
set_option maxHeartbeats 1000000 in
theorem walk_of (s T : ByteArray) (line er : Int) (w : World) (hs : s.size ≤ 1048576)
    (hA : ∀ W, Calls Try.prog 8 #[.string s, .int .i64 line] W fun e w' => e = .returned (.tuple #[.string T, .int .i64 er]) ∧ Below W.heap.size W w')
    (hB : ∀ W, Calls Try.prog 9 #[.string s, .int .i64 line] W fun e w' => e = .returned (.tuple #[.string T, .int .i64 er]) ∧ Below W.heap.size W w') :
    Calls Try.prog 3 #[.string s, .int .i64 line] w fun e w' => e = .returned (.bool true) ∧ Below w.heap.size w w' := by
  have HA := Lib.hid hA
  have HB := Lib.hid hB
  have HL := Lib.hid (fun W => lines_at s W hs)
  have HRL := Lib.hid (fun W => rlines_at s W hs)
  have hnl := nl_le s s.size
  have HI := Lib.hid (fun ca cb a b W (h1 : RowAt W s a) (h2 : RowAt W s b) => ints_same (nl s s.size + 1) ca cb a b (fun k => (pos s s.size k : Int)) W (by omega) (fun k hk => h1 k (by omega)) (fun k hk => h2 k (by omega)))
  clear hA hB
  go_enter Try.func3, Try.ntmps3
  go_wp2_with fail
  refine (HA.out _).mono ?_
  rintro e w1 ⟨rfl, hb1⟩
  have B1 : Below w.heap.size w w1 := hb1
  go_wp2_with fail
  refine (HB.out _).mono ?_
  rintro e w2 ⟨rfl, hb2⟩
  have B2 : Below w.heap.size w w2 := B1.trans (hb2.mono B1.size)
  go_wp2_with fail
  refine (HL.out _).mono ?_
  rintro e w3 ⟨a, ca, rfl, _, ha, hr, hb3⟩
  have B3 := B2.trans (hb3.mono B2.size)
  have HR := Lib.hid hr
  clear hr
  go_wp2_with fail
  refine (HRL.out _).mono ?_
  rintro e w4 ⟨b, cb, rfl, _, hb', hr', hb4⟩
  have B4 := B3.trans (hb4.mono B3.size)
  have HR' := Lib.hid hr'
  have HR2 := Lib.hid (RowAt.below hb4 HR.out ha)
  clear hr' HR
  go_wp2_with fail
  refine (HI.out ca cb a b _ HR2.out HR'.out).mono ?_
  rintro e w5 ⟨rfl, hb5⟩
  have B5 := B4.trans (hb5.mono B4.size)
  go_wp2_with (go_at_call 13; ((with_reducible refine (awake01 _).mono ?_); rintro e w9 ⟨rfl, hb9⟩))
  go_ret
  exact ⟨rfl, B5.trans (hb9.mono B5.size)⟩

theorem walk (s : ByteArray) (line : Int) (w : World) (hs : s.size ≤ 1048576) : Calls Try.prog 3 #[.string s, .int .i64 line] w fun e w' => e = .returned (.bool true) ∧ Below w.heap.size w w' := by
  by_cases h : line < 1 ∨ (nl s s.size : Int) + 1 < line
  · exact walk_of s _ line 1 w hs (fun W => line_out s line W hs h) (fun W => rline_out s line W hs h)
  · obtain ⟨k, rfl⟩ : ∃ k : Nat, line = (k : Int) + 1 := ⟨(line - 1).toNat, by omega⟩
    exact walk_of s _ _ 0 w hs (fun W => line_in s k W hs (by omega)) (fun W => rline_in s k W hs (by omega))

theorem own : ownKnob Try.prog.godebug = none := by kernel_rfl
theorem short {H : Type} (a0 : ByteArray) (a1 : Int) (hk : Rows.uptoSmall H [.lit (.string a0.data.toList), .lit (.int .i64 a1)] = true) : a0.size ≤ 1048576 := by
  have h : Rows.uptoBulkAll (H := H) [.lit (.string a0.data.toList), .lit (.int .i64 a1)] ≤ 1048576 := of_decide_eq_true hk
  simp only [Rows.uptoBulkAll, Rows.uptoBulk] at h
  have e : a0.data.toList.length = a0.size := by rw [Array.length_toList]; rfl
  omega
theorem contract (H : Type) (enc : TypeId × Value → H) (W : World) (base : Nat) (args : Array Value) (ds gs : List (DataW H)) (before : List MemPlace)
    (hval : ∀ (j : Nat) t v, Try.f3.params[j]? = some t → args[j]? = some v → Value.okWide Try.prog W .any base t v)
    (hW : DataW.Whole enc Try.prog Try.f3.params.toList Rows.spansLinesSpec.vars false W args.toList ds gs before) (hk : Rows.uptoSmall H (ds ++ gs) = true) :
    Calls Try.prog 3 args W fun e W' => ∃ v, e = .returned v ∧ Rows.spansLinesSpec.post enc Try.prog Try.f3 false true false false W args v W' := by
  have hW' := hW
  obtain ⟨p, q, hA0, hV, rfl, hfz, hnd⟩ := hW
  have hA : DataW.TrodAll enc Try.prog W 0 (fun _ => true) true Try.f3.params.toList args.toList ds p := hA0
  rw [Try.params3] at hA hval
  obtain ⟨v0, vs0, d0, ds0, p0, q0, hargs, rfl, rfl, h0, r0⟩ := trodAll_cons hA
  obtain ⟨v1, vs1, d1, ds1, p1, q1, rfl, rfl, rfl, h1, r1⟩ := trodAll_cons r0
  obtain ⟨rfl, rfl, rfl⟩ := trodAll_nil r1
  obtain rfl : args = #[v0, v1] := by cases args; simp_all
  obtain ⟨rfl, rfl⟩ := trodVars_none hV
  obtain ⟨a0, rfl, rfl, rfl, w0⟩ := open_string Try.underlying9 (hval 0 9 v0 rfl rfl) h0
  obtain ⟨a1, rfl, rfl, rfl, w1⟩ := open_int Try.underlying3 (hval 1 3 v1 rfl rfl) h1
  clear hA0
  simp only [List.append_nil] at hW' hk
  refine (walk a0 a1 W (short a0 a1 hk)).mono fun e W' ⟨he, bel⟩ => ?_
  subst he
  exact ⟨_, rfl, _, _, _, [], [], [], hW', trodAll_mk1 (shut_bool Try.underlying4 _), (trodAll_cons_mk (shut_string Try.underlying9 w0) (trodAll_cons_mk (shut_int Try.underlying3 w1) trodAll_mk0)), rfl, bel.frame _, fun h => by cases h⟩

set_option maxRecDepth 100000 in
theorem lifted (os : Os) (started : os.Started) (H : Type) (enc : TypeId × Value → H) (F : Stop.Interp) :
    ReturnsInHanded {} Try.checked os 3 .any ((Rows.OpenSpec.upto Rows.spansLinesSpec).pre6 enc Try.prog Try.f3 Rows.spansLinesUptoRow.domain false) (((Rows.OpenSpec.upto Rows.spansLinesSpec).at F).post enc Try.prog Try.f3 false true false false) := by
  refine returnsInHanded_of_cond (C := Try.checked) (s := Rows.OpenSpec.upto Rows.spansLinesSpec) (k := Rows.uptoSmall) rfl own started (by kernel_rfl) Try.func3
    (OpenSpec.witness (enc := enc) (C := Try.checked) (s := Rows.OpenSpec.upto Rows.spansLinesSpec) (k := Rows.uptoSmall) rfl false ⟨#[], #[.string ⟨#[]⟩, .int .i64 0], []⟩ 8 (by kernel_rfl) (by kernel_rfl) (by kernel_rfl)
      (x := ([.lit (.string []), .lit (.int .i64 0)], [], [])) (by kernel_rfl) rfl (by kernel_rfl)) ?_
  intro W base args ds gs before hval hW _ hk _
  exact contract H enc W base args ds gs before hval hW hk

theorem over : Rows.spansLinesUptoRow.holds Try.pinned (Rows.OpenSpec.upto Rows.spansLinesSpec) :=
  OpenClaim.holds_of_cond 3 Try.f3 rfl rfl rfl rfl rfl rfl rfl ⟨rfl, rfl, rfl, rfl, rfl⟩ rfl rfl rfl rfl rfl (by kernel_rfl) Try.func3 (by kernel_rfl)
    (of_decide_eq_true (by kernel_rfl)) (by unfold Func.isWrapper; first | (rw [if_pos (by decide +kernel)]; kernel_rfl) | (rw [if_neg (by decide +kernel)]; exact ⟨rfl, rfl⟩))
    (fun os started H enc _ F => lifted os started H enc F)
end Go.Proofs.Ytmdobaplndlhhaa.spansLines
namespace Go.Proofs.Ytmdobaplndlhhaa
theorem spansLines_holds : Rows.SpansLinesUptoSaid := spansLines.over
#print axioms spansLines_holds
end Go.Proofs.Ytmdobaplndlhhaa
