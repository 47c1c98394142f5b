/-
  'SpansBack' returns true for any text, byte and line, where the text has at most 1048576 bytes (the second form's bound).
-/
import Derived.Test.YtmdobaplndlhhaaRows
import Derived.Test.YtmdobaplndlhhaaSpansMark
import Derived.OpenShut
import Derived.ShutString
import Derived.ChangeOld
import Derived.JoinedCond
namespace Go.Proofs.Ytmdobaplndlhhaa.spansBack
open Go.ChangeShapes Go.WideShapes Go.ChangeAt Go.RowKit
open Go.ChangeMaps (open_string shut_string)
set_option linter.unusedVariables false

set_option maxRecDepth 100000 in
set_option maxHeartbeats 1000000 in
theorem walk_yy (s : ByteArray) (i line : Int) (w : World)
    (a b : Int) (hP : ∀ W, Calls Try.prog 14 #[.string s, .int .i64 i] W fun e w' => e = .returned (.tuple #[.int .i64 a, .int .i64 b, .int .i64 0]) ∧ Below W.heap.size W w') (hO : ∀ W, Calls Try.prog 18 #[.string s, .int .i64 a, .int .i64 b] W fun e w' => e = .returned (.tuple #[.int .i64 i, .int .i64 0]) ∧ Below W.heap.size W w')
    (k : Int) (hQ : ∀ W, Calls Try.prog 18 #[.string s, .int .i64 line, .int .i64 1] W fun e w' => e = .returned (.tuple #[.int .i64 k, .int .i64 0]) ∧ Below W.heap.size W w') (hR : ∀ W, Calls Try.prog 14 #[.string s, .int .i64 k] W fun e w' => e = .returned (.tuple #[.int .i64 line, .int .i64 1, .int .i64 0]) ∧ Below W.heap.size W w') :
    Calls Try.prog 6 #[.string s, .int .i64 i, .int .i64 line] w fun e w' => e = .returned (.bool true) ∧ Below w.heap.size w w' := by
  have HP := Lib.hid hP
  have HO := Lib.hid hO
  have HQ := Lib.hid hQ
  have HR := Lib.hid hR
  clear hP hO hQ hR
  go_enter Try.func6, Try.ntmps6
  go_wp2_with fail
  refine (HP.out _).mono ?_
  rintro e w1 ⟨rfl, hb1⟩
  have B1 : Below w.heap.size w w1 := hb1
  go_wp2_with fail
  refine (HO.out _).mono ?_
  rintro e w2 ⟨rfl, hb2⟩
  have B2 : Below w.heap.size w w2 := B1.trans (hb2.mono B1.size)
  go_wp2_with fail
  refine (HQ.out _).mono ?_
  rintro e w3 ⟨rfl, hb3⟩
  have B3 : Below w.heap.size w w3 := B2.trans (hb3.mono B2.size)
  go_wp2_with fail
  refine (HR.out _).mono ?_
  rintro e w4 ⟨rfl, hb4⟩
  have B4 : Below w.heap.size w w4 := B3.trans (hb4.mono B3.size)
  go_wp2_with (go_at_call 13; ((with_reducible refine (awake01 _).mono ?_); rintro e w9 ⟨rfl, hb9⟩))
  go_ret
  exact ⟨rfl, B4.trans (hb9.mono B4.size)⟩

set_option maxRecDepth 100000 in
set_option maxHeartbeats 1000000 in
theorem walk_yn (s : ByteArray) (i line : Int) (w : World)
    (a b : Int) (hP : ∀ W, Calls Try.prog 14 #[.string s, .int .i64 i] W fun e w' => e = .returned (.tuple #[.int .i64 a, .int .i64 b, .int .i64 0]) ∧ Below W.heap.size W w') (hO : ∀ W, Calls Try.prog 18 #[.string s, .int .i64 a, .int .i64 b] W fun e w' => e = .returned (.tuple #[.int .i64 i, .int .i64 0]) ∧ Below W.heap.size W w')
    (hQ : ∀ W, Calls Try.prog 18 #[.string s, .int .i64 line, .int .i64 1] W fun e w' => e = .returned (.tuple #[.int .i64 0, .int .i64 1]) ∧ Below W.heap.size W w') :
    Calls Try.prog 6 #[.string s, .int .i64 i, .int .i64 line] w fun e w' => e = .returned (.bool true) ∧ Below w.heap.size w w' := by
  have HP := Lib.hid hP
  have HO := Lib.hid hO
  have HQ := Lib.hid hQ
  clear hP hO hQ
  go_enter Try.func6, Try.ntmps6
  go_wp2_with fail
  refine (HP.out _).mono ?_
  rintro e w1 ⟨rfl, hb1⟩
  have B1 : Below w.heap.size w w1 := hb1
  go_wp2_with fail
  refine (HO.out _).mono ?_
  rintro e w2 ⟨rfl, hb2⟩
  have B2 : Below w.heap.size w w2 := B1.trans (hb2.mono B1.size)
  go_wp2_with fail
  refine (HQ.out _).mono ?_
  rintro e w3 ⟨rfl, hb3⟩
  have B3 : Below w.heap.size w w3 := B2.trans (hb3.mono B2.size)
  go_wp2_with (go_at_call 13; ((with_reducible refine (awake01 _).mono ?_); rintro e w9 ⟨rfl, hb9⟩))
  go_ret
  exact ⟨rfl, B3.trans (hb9.mono B3.size)⟩

set_option maxRecDepth 100000 in
set_option maxHeartbeats 1000000 in
theorem walk_ny (s : ByteArray) (i line : Int) (w : World)
    (hP : ∀ W, Calls Try.prog 14 #[.string s, .int .i64 i] W fun e w' => e = .returned (.tuple #[.int .i64 0, .int .i64 0, .int .i64 1]) ∧ Below W.heap.size W w')
    (k : Int) (hQ : ∀ W, Calls Try.prog 18 #[.string s, .int .i64 line, .int .i64 1] W fun e w' => e = .returned (.tuple #[.int .i64 k, .int .i64 0]) ∧ Below W.heap.size W w') (hR : ∀ W, Calls Try.prog 14 #[.string s, .int .i64 k] W fun e w' => e = .returned (.tuple #[.int .i64 line, .int .i64 1, .int .i64 0]) ∧ Below W.heap.size W w') :
    Calls Try.prog 6 #[.string s, .int .i64 i, .int .i64 line] w fun e w' => e = .returned (.bool true) ∧ Below w.heap.size w w' := by
  have HP := Lib.hid hP
  have HQ := Lib.hid hQ
  have HR := Lib.hid hR
  clear hP hQ hR
  go_enter Try.func6, Try.ntmps6
  go_wp2_with fail
  refine (HP.out _).mono ?_
  rintro e w1 ⟨rfl, hb1⟩
  have B1 : Below w.heap.size w w1 := hb1
  go_wp2_with fail
  refine (HQ.out _).mono ?_
  rintro e w2 ⟨rfl, hb2⟩
  have B2 : Below w.heap.size w w2 := B1.trans (hb2.mono B1.size)
  go_wp2_with fail
  refine (HR.out _).mono ?_
  rintro e w3 ⟨rfl, hb3⟩
  have B3 : Below w.heap.size w w3 := B2.trans (hb3.mono B2.size)
  go_wp2_with (go_at_call 13; ((with_reducible refine (awake01 _).mono ?_); rintro e w9 ⟨rfl, hb9⟩))
  go_ret
  exact ⟨rfl, B3.trans (hb9.mono B3.size)⟩

set_option maxRecDepth 100000 in
set_option maxHeartbeats 1000000 in
theorem walk_nn (s : ByteArray) (i line : Int) (w : World)
    (hP : ∀ W, Calls Try.prog 14 #[.string s, .int .i64 i] W fun e w' => e = .returned (.tuple #[.int .i64 0, .int .i64 0, .int .i64 1]) ∧ Below W.heap.size W w')
    (hQ : ∀ W, Calls Try.prog 18 #[.string s, .int .i64 line, .int .i64 1] W fun e w' => e = .returned (.tuple #[.int .i64 0, .int .i64 1]) ∧ Below W.heap.size W w') :
    Calls Try.prog 6 #[.string s, .int .i64 i, .int .i64 line] w fun e w' => e = .returned (.bool true) ∧ Below w.heap.size w w' := by
  have HP := Lib.hid hP
  have HQ := Lib.hid hQ
  clear hP hQ
  go_enter Try.func6, Try.ntmps6
  go_wp2_with fail
  refine (HP.out _).mono ?_
  rintro e w1 ⟨rfl, hb1⟩
  have B1 : Below w.heap.size w w1 := hb1
  go_wp2_with fail
  refine (HQ.out _).mono ?_
  rintro e w2 ⟨rfl, hb2⟩
  have B2 : Below w.heap.size w w2 := B1.trans (hb2.mono B1.size)
  go_wp2_with (go_at_call 13; ((with_reducible refine (awake01 _).mono ?_); rintro e w9 ⟨rfl, hb9⟩))
  go_ret
  exact ⟨rfl, B2.trans (hb9.mono B2.size)⟩

theorem off_first (s : ByteArray) (k : Nat) (w : World) (hs : s.size ≤ 1048576) (hk : k ≤ nl s s.size) :
    Calls Try.prog 18 #[.string s, .int .i64 ((k : Int) + 1), .int .i64 1] w fun e w' => e = .returned (.tuple #[.int .i64 (pos s s.size k : Nat), .int .i64 0]) ∧ Below w.heap.size w w' := by
  have h := off_in s k 0 w hs hk (Nat.zero_le _)
  have e1 : (((0 : Nat) : Int) + 1) = 1 := rfl
  have e2 : (pos s s.size k : Int) + ((0 : Nat) : Int) = (pos s s.size k : Int) := by omega
  rw [e1, e2] at h
  exact h
theorem place_first (s : ByteArray) (k : Nat) (w : World) (hs : s.size ≤ 1048576) (hk : k ≤ nl s s.size) :
    Calls Try.prog 14 #[.string s, .int .i64 (pos s s.size k : Nat)] w fun e w' => e = .returned (.tuple #[.int .i64 ((k : Int) + 1), .int .i64 1, .int .i64 0]) ∧ Below w.heap.size w w' := by
  have hp := pos_fix s hk
  have h := place_in s (pos s s.size k) w hs hp.1
  rw [hp.2.1, hp.2.2] at h
  have e1 : ((pos s s.size k : Nat) : Int) - (pos s s.size k : Nat) + 1 = 1 := by omega
  rw [e1] at h
  exact h
theorem off_back (s : ByteArray) (i : Nat) (w : World) (hs : s.size ≤ 1048576) (hi : i ≤ s.size) :
    Calls Try.prog 18 #[.string s, .int .i64 ((nl s i : Int) + 1), .int .i64 ((i : Int) - (ls s i : Nat) + 1)] w fun e w' => e = .returned (.tuple #[.int .i64 i, .int .i64 0]) ∧ Below w.heap.size w w' := by
  have hl := ls_le s i
  have hp := pos_nl s hi
  have hf := le_fin s hi
  have h := off_in s (nl s i) (i - ls s i) w hs (nl_mono s hi) (by rw [hp]; omega)
  rw [hp] at h
  have e1 : ((i - ls s i : Nat) : Int) = (i : Int) - (ls s i : Nat) := by omega
  rw [e1] at h
  have e2 : (ls s i : Int) + ((i : Int) - (ls s i : Nat)) = (i : Int) := by omega
  rw [e2] at h
  exact h

theorem walk (s : ByteArray) (i line : Int) (w : World) (hs : s.size ≤ 1048576) : Calls Try.prog 6 #[.string s, .int .i64 i, .int .i64 line] w fun e w' => e = .returned (.bool true) ∧ Below w.heap.size w w' := by
  by_cases h : i < 0 ∨ (s.size : Int) < i
  · by_cases h2 : line < 1 ∨ (nl s s.size : Int) + 1 < line
    · exact walk_nn s i line w (fun W => place_out s i W h) (fun W => off_out s line 1 W hs h2)
    · obtain ⟨k, rfl⟩ : ∃ k : Nat, line = (k : Int) + 1 := ⟨(line - 1).toNat, by omega⟩
      exact walk_ny s i _ w (fun W => place_out s i W h) _ (fun W => off_first s k W hs (by omega)) (fun W => place_first s k W hs (by omega))
  · obtain ⟨j, rfl⟩ : ∃ j : Nat, i = (j : Int) := ⟨i.toNat, by omega⟩
    have hj : j ≤ s.size := by omega
    by_cases h2 : line < 1 ∨ (nl s s.size : Int) + 1 < line
    · exact walk_yn s _ line w _ _ (fun W => place_in s j W hs hj) (fun W => off_back s j W hs hj) (fun W => off_out s line 1 W hs h2)
    · obtain ⟨k, rfl⟩ : ∃ k : Nat, line = (k : Int) + 1 := ⟨(line - 1).toNat, by omega⟩
      exact walk_yy s _ _ w _ _ (fun W => place_in s j W hs hj) (fun W => off_back s j W hs hj) _ (fun W => off_first s k W hs (by omega)) (fun W => place_first s k W hs (by omega))

theorem own : ownKnob Try.prog.godebug = none := by kernel_rfl
theorem short {H : Type} (a0 : ByteArray) (a1 : Int) (a2 : Int) (hk : Rows.uptoSmall H [.lit (.string a0.data.toList), .lit (.int .i64 a1), .lit (.int .i64 a2)] = true) : a0.size ≤ 1048576 := by
  have h : Rows.uptoBulkAll (H := H) [.lit (.string a0.data.toList), .lit (.int .i64 a1), .lit (.int .i64 a2)] ≤ 1048576 := of_decide_eq_true hk
  simp only [Rows.uptoBulkAll, Rows.uptoBulk] at h
  have e : a0.data.toList.length = a0.size := by rw [Array.length_toList]; rfl
  omega
theorem contract (H : Type) (enc : TypeId × Value → H) (W : World) (base : Nat) (args : Array Value) (ds gs : List (DataW H)) (before : List MemPlace)
    (hval : ∀ (j : Nat) t v, Try.f6.params[j]? = some t → args[j]? = some v → Value.okWide Try.prog W .any base t v)
    (hW : DataW.Whole enc Try.prog Try.f6.params.toList Rows.spansBackSpec.vars false W args.toList ds gs before) (hk : Rows.uptoSmall H (ds ++ gs) = true) :
    Calls Try.prog 6 args W fun e W' => ∃ v, e = .returned v ∧ Rows.spansBackSpec.post enc Try.prog Try.f6 false true false false W args v W' := by
  have hW' := hW
  obtain ⟨p, q, hA0, hV, rfl, hfz, hnd⟩ := hW
  have hA : DataW.TrodAll enc Try.prog W 0 (fun _ => true) true Try.f6.params.toList args.toList ds p := hA0
  rw [Try.params6] at hA hval
  obtain ⟨v0, vs0, d0, ds0, p0, q0, hargs, rfl, rfl, h0, r0⟩ := trodAll_cons hA
  obtain ⟨v1, vs1, d1, ds1, p1, q1, rfl, rfl, rfl, h1, r1⟩ := trodAll_cons r0
  obtain ⟨v2, vs2, d2, ds2, p2, q2, rfl, rfl, rfl, h2, r2⟩ := trodAll_cons r1
  obtain ⟨rfl, rfl, rfl⟩ := trodAll_nil r2
  obtain rfl : args = #[v0, v1, v2] := by cases args; simp_all
  obtain ⟨rfl, rfl⟩ := trodVars_none hV
  obtain ⟨a0, rfl, rfl, rfl, w0⟩ := open_string Try.underlying9 (hval 0 9 v0 rfl rfl) h0
  obtain ⟨a1, rfl, rfl, rfl, w1⟩ := open_int Try.underlying3 (hval 1 3 v1 rfl rfl) h1
  obtain ⟨a2, rfl, rfl, rfl, w2⟩ := open_int Try.underlying3 (hval 2 3 v2 rfl rfl) h2
  clear hA0
  simp only [List.append_nil] at hW' hk
  refine (walk a0 a1 a2 W (short a0 a1 a2 hk)).mono fun e W' ⟨he, bel⟩ => ?_
  subst he
  exact ⟨_, rfl, _, _, _, [], [], [], hW', trodAll_mk1 (shut_bool Try.underlying4 _), (trodAll_cons_mk (shut_string Try.underlying9 w0) (trodAll_cons_mk (shut_int Try.underlying3 w1) (trodAll_cons_mk (shut_int Try.underlying3 w2) trodAll_mk0))), rfl, bel.frame _, fun h => by cases h⟩

set_option maxRecDepth 100000 in
theorem lifted (os : Os) (started : os.Started) (H : Type) (enc : TypeId × Value → H) (F : Stop.Interp) :
    ReturnsInHanded {} Try.checked os 6 .any ((Rows.OpenSpec.upto Rows.spansBackSpec).pre6 enc Try.prog Try.f6 Rows.spansBackUptoRow.domain false) (((Rows.OpenSpec.upto Rows.spansBackSpec).at F).post enc Try.prog Try.f6 false true false false) := by
  refine returnsInHanded_of_cond (C := Try.checked) (s := Rows.OpenSpec.upto Rows.spansBackSpec) (k := Rows.uptoSmall) rfl own started (by kernel_rfl) Try.func6
    (OpenSpec.witness (enc := enc) (C := Try.checked) (s := Rows.OpenSpec.upto Rows.spansBackSpec) (k := Rows.uptoSmall) rfl false ⟨#[], #[.string ⟨#[]⟩, .int .i64 0, .int .i64 0], []⟩ 8 (by kernel_rfl) (by kernel_rfl) (by kernel_rfl)
      (x := ([.lit (.string []), .lit (.int .i64 0), .lit (.int .i64 0)], [], [])) (by kernel_rfl) rfl (by kernel_rfl)) ?_
  intro W base args ds gs before hval hW _ hk _
  exact contract H enc W base args ds gs before hval hW hk

theorem over : Rows.spansBackUptoRow.holds Try.pinned (Rows.OpenSpec.upto Rows.spansBackSpec) :=
  OpenClaim.holds_of_cond 6 Try.f6 rfl rfl rfl rfl rfl rfl rfl ⟨rfl, rfl, rfl, rfl, rfl⟩ rfl rfl rfl rfl rfl (by kernel_rfl) Try.func6 (by kernel_rfl)
    (of_decide_eq_true (by kernel_rfl)) (by unfold Func.isWrapper; first | (rw [if_pos (by decide +kernel)]; kernel_rfl) | (rw [if_neg (by decide +kernel)]; exact ⟨rfl, rfl⟩))
    (fun os started H enc _ F => lifted os started H enc F)
end Go.Proofs.Ytmdobaplndlhhaa.spansBack
namespace Go.Proofs.Ytmdobaplndlhhaa
theorem spansBack_holds : Rows.SpansBackUptoSaid := spansBack.over
#print axioms spansBack_holds
end Go.Proofs.Ytmdobaplndlhhaa
