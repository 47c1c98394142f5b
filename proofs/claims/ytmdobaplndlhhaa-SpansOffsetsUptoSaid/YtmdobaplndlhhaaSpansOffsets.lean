/-
  'SpansOffsets' returns true for any text, line and column, where the text has at most 1048576 bytes (the second form's bound).
-/
import Derived.Test.YtmdobaplndlhhaaRows
import Derived.Test.YtmdobaplndlhhaaSpansMark
import Derived.OpenShut
import Derived.ShutString
import Derived.ChangeOld
import Derived.JoinedCond
namespace Go.Proofs.Ytmdobaplndlhhaa.spansOffsets
open Go.ChangeShapes Go.WideShapes Go.ChangeAt Go.RowKit
open Go.ChangeMaps (open_string shut_string)
set_option linter.unusedVariables false

set_option maxRecDepth 100000 in
set_option maxHeartbeats 1000000 in
theorem walk_of (s : ByteArray) (line col a er : Int) (w : World)
    (hA : ∀ W, Calls Try.prog 18 #[.string s, .int .i64 line, .int .i64 col] W fun e w' => e = .returned (.tuple #[.int .i64 a, .int .i64 er]) ∧ Below W.heap.size W w')
    (hB : ∀ W, Calls Try.prog 19 #[.string s, .int .i64 line, .int .i64 col] W fun e w' => e = .returned (.tuple #[.int .i64 a, .int .i64 er]) ∧ Below W.heap.size W w') :
    Calls Try.prog 5 #[.string s, .int .i64 line, .int .i64 col] w fun e w' => e = .returned (.bool true) ∧ Below w.heap.size w w' := by
  have HA := Lib.hid hA
  have HB := Lib.hid hB
  clear hA hB
  go_enter Try.func5, Try.ntmps5
  go_wp2_with fail
  refine (HA.out _).mono ?_
  rintro e w1 ⟨rfl, hb1⟩
  have B1 : Below w.heap.size w w1 := hb1
  go_wp2_with fail
  refine (HB.out _).mono ?_
  rintro e w2 ⟨rfl, hb2⟩
  have B2 : Below w.heap.size w w2 := B1.trans (hb2.mono B1.size)
  go_wp2_with (go_at_call 13; ((with_reducible refine (awake01 _).mono ?_); rintro e w9 ⟨rfl, hb9⟩))
  go_ret
  exact ⟨rfl, B2.trans (hb9.mono B2.size)⟩

theorem walk (s : ByteArray) (line col : Int) (w : World) (hs : s.size ≤ 1048576) : Calls Try.prog 5 #[.string s, .int .i64 line, .int .i64 col] w fun e w' => e = .returned (.bool true) ∧ Below w.heap.size w w' := by
  by_cases h : line < 1 ∨ (nl s s.size : Int) + 1 < line
  · exact walk_of s line col 0 1 w (fun W => off_out s line col W hs h) (fun W => roff_out s line col W hs h)
  · obtain ⟨k, rfl⟩ : ∃ k : Nat, line = (k : Int) + 1 := ⟨(line - 1).toNat, by omega⟩
    have hk : k ≤ nl s s.size := by omega
    by_cases h2 : col < 1 ∨ (fin s s.size k : Int) - (pos s s.size k : Nat) + 1 < col
    · exact walk_of s _ col 0 1 w (fun W => off_col s k col W hs hk h2) (fun W => roff_col s k col W hs hk h2)
    · have h3 := (fin_le s hk).2
      obtain ⟨c, rfl⟩ : ∃ c : Nat, col = (c : Int) + 1 := ⟨(col - 1).toNat, by omega⟩
      exact walk_of s _ _ _ 0 w (fun W => off_in s k c W hs hk (by omega)) (fun W => roff_in s k c W hs hk (by omega))

theorem own : ownKnob Try.prog.godebug = none := by kernel_rfl
theorem short {H : Type} (a0 : ByteArray) (a1 : Int) (a2 : Int) (hk : Rows.uptoSmall H [.lit (.string a0.data.toList), .lit (.int .i64 a1), .lit (.int .i64 a2)] = true) : a0.size ≤ 1048576 := by
  have h : Rows.uptoBulkAll (H := H) [.lit (.string a0.data.toList), .lit (.int .i64 a1), .lit (.int .i64 a2)] ≤ 1048576 := of_decide_eq_true hk
  simp only [Rows.uptoBulkAll, Rows.uptoBulk] at h
  have e : a0.data.toList.length = a0.size := by rw [Array.length_toList]; rfl
  omega
theorem contract (H : Type) (enc : TypeId × Value → H) (W : World) (base : Nat) (args : Array Value) (ds gs : List (DataW H)) (before : List MemPlace)
    (hval : ∀ (j : Nat) t v, Try.f5.params[j]? = some t → args[j]? = some v → Value.okWide Try.prog W .any base t v)
    (hW : DataW.Whole enc Try.prog Try.f5.params.toList Rows.spansOffsetsSpec.vars false W args.toList ds gs before) (hk : Rows.uptoSmall H (ds ++ gs) = true) :
    Calls Try.prog 5 args W fun e W' => ∃ v, e = .returned v ∧ Rows.spansOffsetsSpec.post enc Try.prog Try.f5 false true false false W args v W' := by
  have hW' := hW
  obtain ⟨p, q, hA0, hV, rfl, hfz, hnd⟩ := hW
  have hA : DataW.TrodAll enc Try.prog W 0 (fun _ => true) true Try.f5.params.toList args.toList ds p := hA0
  rw [Try.params5] at hA hval
  obtain ⟨v0, vs0, d0, ds0, p0, q0, hargs, rfl, rfl, h0, r0⟩ := trodAll_cons hA
  obtain ⟨v1, vs1, d1, ds1, p1, q1, rfl, rfl, rfl, h1, r1⟩ := trodAll_cons r0
  obtain ⟨v2, vs2, d2, ds2, p2, q2, rfl, rfl, rfl, h2, r2⟩ := trodAll_cons r1
  obtain ⟨rfl, rfl, rfl⟩ := trodAll_nil r2
  obtain rfl : args = #[v0, v1, v2] := by cases args; simp_all
  obtain ⟨rfl, rfl⟩ := trodVars_none hV
  obtain ⟨a0, rfl, rfl, rfl, w0⟩ := open_string Try.underlying9 (hval 0 9 v0 rfl rfl) h0
  obtain ⟨a1, rfl, rfl, rfl, w1⟩ := open_int Try.underlying3 (hval 1 3 v1 rfl rfl) h1
  obtain ⟨a2, rfl, rfl, rfl, w2⟩ := open_int Try.underlying3 (hval 2 3 v2 rfl rfl) h2
  clear hA0
  simp only [List.append_nil] at hW' hk
  refine (walk a0 a1 a2 W (short a0 a1 a2 hk)).mono fun e W' ⟨he, bel⟩ => ?_
  subst he
  exact ⟨_, rfl, _, _, _, [], [], [], hW', trodAll_mk1 (shut_bool Try.underlying4 _), (trodAll_cons_mk (shut_string Try.underlying9 w0) (trodAll_cons_mk (shut_int Try.underlying3 w1) (trodAll_cons_mk (shut_int Try.underlying3 w2) trodAll_mk0))), rfl, bel.frame _, fun h => by cases h⟩

set_option maxRecDepth 100000 in
theorem lifted (os : Os) (started : os.Started) (H : Type) (enc : TypeId × Value → H) (F : Stop.Interp) :
    ReturnsInHanded {} Try.checked os 5 .any ((Rows.OpenSpec.upto Rows.spansOffsetsSpec).pre6 enc Try.prog Try.f5 Rows.spansOffsetsUptoRow.domain false) (((Rows.OpenSpec.upto Rows.spansOffsetsSpec).at F).post enc Try.prog Try.f5 false true false false) := by
  refine returnsInHanded_of_cond (C := Try.checked) (s := Rows.OpenSpec.upto Rows.spansOffsetsSpec) (k := Rows.uptoSmall) rfl own started (by kernel_rfl) Try.func5
    (OpenSpec.witness (enc := enc) (C := Try.checked) (s := Rows.OpenSpec.upto Rows.spansOffsetsSpec) (k := Rows.uptoSmall) rfl false ⟨#[], #[.string ⟨#[]⟩, .int .i64 0, .int .i64 0], []⟩ 8 (by kernel_rfl) (by kernel_rfl) (by kernel_rfl)
      (x := ([.lit (.string []), .lit (.int .i64 0), .lit (.int .i64 0)], [], [])) (by kernel_rfl) rfl (by kernel_rfl)) ?_
  intro W base args ds gs before hval hW _ hk _
  exact contract H enc W base args ds gs before hval hW hk

theorem over : Rows.spansOffsetsUptoRow.holds Try.pinned (Rows.OpenSpec.upto Rows.spansOffsetsSpec) :=
  OpenClaim.holds_of_cond 5 Try.f5 rfl rfl rfl rfl rfl rfl rfl ⟨rfl, rfl, rfl, rfl, rfl⟩ rfl rfl rfl rfl rfl (by kernel_rfl) Try.func5 (by kernel_rfl)
    (of_decide_eq_true (by kernel_rfl)) (by unfold Func.isWrapper; first | (rw [if_pos (by decide +kernel)]; kernel_rfl) | (rw [if_neg (by decide +kernel)]; exact ⟨rfl, rfl⟩))
    (fun os started H enc _ F => lifted os started H enc F)
end Go.Proofs.Ytmdobaplndlhhaa.spansOffsets
namespace Go.Proofs.Ytmdobaplndlhhaa
theorem spansOffsets_holds : Rows.SpansOffsetsUptoSaid := spansOffsets.over
#print axioms spansOffsets_holds
end Go.Proofs.Ytmdobaplndlhhaa
