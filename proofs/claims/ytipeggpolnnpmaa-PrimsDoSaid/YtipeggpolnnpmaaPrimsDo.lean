/-
  'PrimsDo' returns true for any name and any two ints: the program and the reference do the same with them, and agree on which names are prims. No condition.
-/
import Derived.Test.YtipeggpolnnpmaaRows
import Derived.Test.YtipeggpolnnpmaaPrimsAwake
import Derived.Test.YtipeggpolnnpmaaPrimsDoR
import Derived.Test.YtipeggpolnnpmaaPrimsIsR
import Derived.Test.YtipeggpolnnpmaaPrimsSameT
import Derived.OpenShut
import Derived.ShutString
import Derived.ChangeOld
namespace Go.Proofs.Ytipeggpolnnpmaa.primsDo
open Go.ChangeShapes Go.WideShapes Go.ChangeAt Go.RowKit
open Go.ChangeMaps (open_string shut_string)
set_option linter.unusedVariables false

set_option maxRecDepth 100000 in
set_option maxHeartbeats 1000000 in
theorem walk_of (s nm : ByteArray) (a b k n h : Int) (isb : Bool)
    (hD : ∀ w, Calls Try.prog 6 #[.string s, .int .i64 a, .int .i64 b] w fun e w' => e = .returned (.tuple #[.agg #[.int .i64 k, .int .i64 n, .string nm, .slice none 0 0, .slice none 0 0, .slice none 0 0], .int .i64 h]) ∧ Below w.heap.size w w')
    (hR : ∀ w, Calls Try.prog 7 #[.string s, .int .i64 a, .int .i64 b] w fun e w' => e = .returned (.tuple #[.agg #[.int .i64 k, .int .i64 n, .string nm, .slice none 0 0, .slice none 0 0, .slice none 0 0], .int .i64 h]) ∧ Below w.heap.size w w')
    (hI : ∀ w, Calls Try.prog 9 #[.string s] w fun e w' => e = .returned (.bool isb) ∧ Below w.heap.size w w')
    (hJ : ∀ w, Calls Try.prog 10 #[.string s] w fun e w' => e = .returned (.bool isb) ∧ Below w.heap.size w w')
    (hh : (h == 5) = !isb) (w : World) :
    Calls Try.prog 3 #[.string s, .int .i64 a, .int .i64 b] w fun e w' => e = .returned (.bool true) ∧ Below w.heap.size w w' := by
  have HD := Lib.hid hD
  have HR := Lib.hid hR
  have HI := Lib.hid hI
  have HJ := Lib.hid hJ
  have HS := Lib.hid (fun W => same32_any (.mk k n nm [] [] []) W W.heap.size _ _ (Nat.le_refl _) (tm_leaf W W.heap.size k n nm) (tm_leaf W W.heap.size k n nm))
  clear hD hR hI hJ
  go_enter Try.func3, Try.ntmps3
  go_wp2_with fail
  refine (HD.out _).mono ?_
  rintro e w1 ⟨rfl, hb1⟩
  have X1 := Lib.hid (blk_new w1 (.cells #[.int .i64 k, .int .i64 n, .string nm, .slice none 0 0, .slice none 0 0, .slice none 0 0] 26))
  have B1 : Below w.heap.size w (w1.alloc (.cells #[.int .i64 k, .int .i64 n, .string nm, .slice none 0 0, .slice none 0 0, .slice none 0 0] 26)) := hb1.alloc hb1.size _
  go_wp2_with fail
  refine (HR.out _).mono ?_
  rintro e w2 ⟨rfl, hb2⟩
  have X2 := kept hb2 X1.out (blk_lt X1.out)
  have B2 : Below w.heap.size w w2 := B1.trans (hb2.mono B1.size)
  have hz : w1.heap.size < w2.heap.size := blk_lt X2
  have hz' : w2.heap.size ≠ w1.heap.size := by omega
  have c0 : w2.cell? ⟨w1.heap.size, 0, none⟩ = some (.int .i64 k) := blk_cell X2 0
  have c1 : w2.cell? ⟨w1.heap.size, 1, none⟩ = some (.int .i64 n) := blk_cell X2 1
  have c2 : w2.cell? ⟨w1.heap.size, 2, none⟩ = some (.string nm) := blk_cell X2 2
  have c3 : w2.cell? ⟨w1.heap.size, 3, none⟩ = some (.slice none 0 0) := blk_cell X2 3
  have c4 : w2.cell? ⟨w1.heap.size, 4, none⟩ = some (.slice none 0 0) := blk_cell X2 4
  have c5 : w2.cell? ⟨w1.heap.size, 5, none⟩ = some (.slice none 0 0) := blk_cell X2 5
  have B2' : Below w.heap.size w (w2.alloc (.cells #[.int .i64 k, .int .i64 n, .string nm, .slice none 0 0, .slice none 0 0, .slice none 0 0] 26)) := B2.alloc B2.size _
  clear X2 X1 hb1 hb2 B1
  go_wp2_with fail
  refine (HS.out _).mono ?_
  rintro e w3 ⟨rfl, hb3⟩
  have B3 := B2'.trans (hb3.mono B2'.size)
  go_wp2_with fail
  refine (HI.out _).mono ?_
  rintro e w4 ⟨rfl, hb4⟩
  have B4 := B3.trans (hb4.mono B3.size)
  go_wp2_with fail
  refine (HJ.out _).mono ?_
  rintro e w5 ⟨rfl, hb5⟩
  have B5 := B4.trans (hb5.mono B4.size)
  go_wp2_with fail
  refine (HI.out _).mono ?_
  rintro e w6 ⟨rfl, hb6⟩
  have B6 := B5.trans (hb6.mono B5.size)
  clear B2 B2' B3 B4 B5
  go_wp2_with (go_at_call 11; ((with_reducible refine (awake35 _).mono ?_); rintro e w7 ⟨rfl, hb7⟩))
  go_ret
  exact ⟨rfl, B6.trans (hb7.mono B6.size)⟩

theorem walk (s : ByteArray) (a b : Int) (hs : s.size ≤ maxLen) (wa : (Lit.int .i64 a).wf = true) (wb : (Lit.int .i64 b).wf = true) (w : World) :
    Calls Try.prog 3 #[.string s, .int .i64 a, .int .i64 b] w fun e w' => e = .returned (.bool true) ∧ Below w.heap.size w w' := by
  have ha := bounds_i64 wa
  have hb := bounds_i64 wb
  by_cases h_add : s.data.toList = [97, 100, 100]
  · obtain rfl : s = ⟨#[97, 100, 100]⟩ := by cases s with | mk d => cases d; simp at h_add; simp [h_add]
    exact walk_of _ ⟨#[]⟩ a b 2 _ 1 true (do_add a b) (rdo_add a b) (fun w => is_of _ true w (prim_add w)) (fun w => ris_of _ true w (rprim_add w)) (by decide) w
  by_cases h_sub : s.data.toList = [115, 117, 98]
  · obtain rfl : s = ⟨#[115, 117, 98]⟩ := by cases s with | mk d => cases d; simp at h_sub; simp [h_sub]
    exact walk_of _ ⟨#[]⟩ a b 2 _ 1 true (do_sub a b) (rdo_sub a b) (fun w => is_of _ true w (prim_sub w)) (fun w => ris_of _ true w (rprim_sub w)) (by decide) w
  by_cases h_mul : s.data.toList = [109, 117, 108]
  · obtain rfl : s = ⟨#[109, 117, 108]⟩ := by cases s with | mk d => cases d; simp at h_mul; simp [h_mul]
    exact walk_of _ ⟨#[]⟩ a b 2 _ 1 true (do_mul a b) (rdo_mul a b) (fun w => is_of _ true w (prim_mul w)) (fun w => ris_of _ true w (rprim_mul w)) (by decide) w
  by_cases h_quot : s.data.toList = [113, 117, 111, 116]
  · obtain rfl : s = ⟨#[113, 117, 111, 116]⟩ := by cases s with | mk d => cases d; simp at h_quot; simp [h_quot]
    by_cases h0 : b = 0
    · subst h0
      exact walk_of _ ⟨#[]⟩ a 0 0 0 4 true (do_quot_zero a) (rdo_quot_zero a) (fun w => is_of _ true w (prim_quot w)) (fun w => ris_of _ true w (rprim_quot w)) (by decide) w
    · exact walk_of _ ⟨#[]⟩ a b 2 _ 1 true (fun w => do_quot a b w ha hb h0) (fun w => rdo_quot a b w ha hb h0) (fun w => is_of _ true w (prim_quot w)) (fun w => ris_of _ true w (rprim_quot w)) (by decide) w
  by_cases h_rem : s.data.toList = [114, 101, 109]
  · obtain rfl : s = ⟨#[114, 101, 109]⟩ := by cases s with | mk d => cases d; simp at h_rem; simp [h_rem]
    by_cases h0 : b = 0
    · subst h0
      exact walk_of _ ⟨#[]⟩ a 0 0 0 4 true (do_rem_zero a) (rdo_rem_zero a) (fun w => is_of _ true w (prim_rem w)) (fun w => ris_of _ true w (rprim_rem w)) (by decide) w
    · exact walk_of _ ⟨#[]⟩ a b 2 _ 1 true (fun w => do_rem a b w ha hb h0) (fun w => rdo_rem a b w ha hb h0) (fun w => is_of _ true w (prim_rem w)) (fun w => ris_of _ true w (rprim_rem w)) (by decide) w
  by_cases h_eqInt : s.data.toList = [101, 113, 73, 110, 116]
  · obtain rfl : s = ⟨#[101, 113, 73, 110, 116]⟩ := by cases s with | mk d => cases d; simp at h_eqInt; simp [h_eqInt]
    by_cases h0 : a = b
    · exact walk_of _ _ a b 7 0 1 true (fun w => do_eqInt_yes a b w h0) (fun w => rdo_eqInt_yes a b w h0) (fun w => is_of _ true w (prim_eqInt w)) (fun w => ris_of _ true w (rprim_eqInt w)) (by decide) w
    · exact walk_of _ _ a b 7 0 1 true (fun w => do_eqInt_no a b w h0) (fun w => rdo_eqInt_no a b w h0) (fun w => is_of _ true w (prim_eqInt w)) (fun w => ris_of _ true w (rprim_eqInt w)) (by decide) w
  by_cases h_ltInt : s.data.toList = [108, 116, 73, 110, 116]
  · obtain rfl : s = ⟨#[108, 116, 73, 110, 116]⟩ := by cases s with | mk d => cases d; simp at h_ltInt; simp [h_ltInt]
    by_cases h0 : a < b
    · exact walk_of _ _ a b 7 0 1 true (fun w => do_ltInt_yes a b w h0) (fun w => rdo_ltInt_yes a b w h0) (fun w => is_of _ true w (prim_ltInt w)) (fun w => ris_of _ true w (rprim_ltInt w)) (by decide) w
    · exact walk_of _ _ a b 7 0 1 true (fun w => do_ltInt_no a b w (by omega)) (fun w => rdo_ltInt_no a b w (by omega)) (fun w => is_of _ true w (prim_ltInt w)) (fun w => ris_of _ true w (rprim_ltInt w)) (by decide) w
  have g0 : (s.toList == [97, 100, 100]) = false := by rw [beq_eq_false_iff_ne, ByteArray.toList_eq]; exact h_add
  have g1 : (s.toList == [115, 117, 98]) = false := by rw [beq_eq_false_iff_ne, ByteArray.toList_eq]; exact h_sub
  have g2 : (s.toList == [109, 117, 108]) = false := by rw [beq_eq_false_iff_ne, ByteArray.toList_eq]; exact h_mul
  have g3 : (s.toList == [113, 117, 111, 116]) = false := by rw [beq_eq_false_iff_ne, ByteArray.toList_eq]; exact h_quot
  have g4 : (s.toList == [114, 101, 109]) = false := by rw [beq_eq_false_iff_ne, ByteArray.toList_eq]; exact h_rem
  have g5 : (s.toList == [101, 113, 73, 110, 116]) = false := by rw [beq_eq_false_iff_ne, ByteArray.toList_eq]; exact h_eqInt
  have g6 : (s.toList == [108, 116, 73, 110, 116]) = false := by rw [beq_eq_false_iff_ne, ByteArray.toList_eq]; exact h_ltInt
  exact walk_of s ⟨#[]⟩ a b 0 0 5 false (fun w => do_none s a b w g0 g1 g2 g3 g4 g5 g6) (fun w => rdo_none s a b w g0 g1 g2 g3 g4 g5 g6) (fun w => is_of _ false w (prim_none s w g0 g1 g2 g3 g4 g5 g6)) (fun w => ris_of _ false w (rprim_none s w g0 g1 g2 g3 g4 g5 g6)) (by decide) w

theorem own : ownKnob Try.prog.godebug = none := by kernel_rfl
set_option maxRecDepth 100000 in
theorem lifted (os : Os) (started : os.Started) (H : Type) (enc : TypeId × Value → H) :
    ReturnsInHanded {} Try.checked os 3 .any (Rows.primsDoSpec.pre6 enc Try.prog Try.f3 Rows.primsDoRow.domain false) (Rows.primsDoSpec.post enc Try.prog Try.f3 false true false false) := by
  refine returnsInHanded_of_change (C := Try.checked) own started (by kernel_rfl) Try.func3
    (ChangeSpec.witness6 (enc := enc) (C := Try.checked) false ⟨#[], #[.string ⟨#[]⟩, .int .i64 0, .int .i64 0], []⟩ 8 (by kernel_rfl) (by kernel_rfl) (by kernel_rfl) (by kernel_rfl)) ?_
  intro W base args ds gs before hval0 hW hcnd _
  have hval : ∀ (j : Nat) t v, Try.f3.params[j]? = some t → args[j]? = some v → Value.okWide Try.prog W .any base t v := hval0
  have hW' := hW
  obtain ⟨p, q, hA0, hV, rfl, hfz, hnd⟩ := hW
  have hA : DataW.TrodAll enc Try.prog W 0 (fun _ => true) true Try.f3.params.toList args.toList ds p := hA0
  rw [Try.params3] at hA hval
  obtain ⟨v0, vs0, d0, ds0, p0, q0, hargs, rfl, rfl, h0, r0⟩ := trodAll_cons hA
  obtain ⟨v1, vs1, d1, ds1, p1, q1, rfl, rfl, rfl, h1, r1⟩ := trodAll_cons r0
  obtain ⟨v2, vs2, d2, ds2, p2, q2, rfl, rfl, rfl, h2, r2⟩ := trodAll_cons r1
  obtain ⟨rfl, rfl, rfl⟩ := trodAll_nil r2
  obtain rfl : args = #[v0, v1, v2] := by cases args; simp_all
  obtain ⟨rfl, rfl⟩ := trodVars_none hV
  obtain ⟨a0, rfl, rfl, rfl, w0⟩ := open_string Try.underlying9 (hval 0 9 v0 rfl rfl) h0
  obtain ⟨a1, rfl, rfl, rfl, w1⟩ := open_int Try.underlying3 (hval 1 3 v1 rfl rfl) h1
  obtain ⟨a2, rfl, rfl, rfl, w2⟩ := open_int Try.underlying3 (hval 2 3 v2 rfl rfl) h2
  clear hA0 hval0
  simp only [List.append_nil] at hW'
  refine (walk a0 a1 a2 w0 w1 w2 W).mono fun e W' ⟨he, bel⟩ => ?_
  subst he
  exact ⟨_, rfl, _, _, _, [], [], [], hW', trodAll_mk1 (shut_bool Try.underlying4 _), (trodAll_cons_mk (shut_string Try.underlying9 w0) (trodAll_cons_mk (shut_int Try.underlying3 w1) (trodAll_cons_mk (shut_int Try.underlying3 w2) trodAll_mk0))), rfl, bel.frame _, fun h => by cases h⟩

theorem over : Rows.primsDoRow.holds Try.pinned (OpenSpec.ofChange Rows.primsDoSpec) :=
  OpenClaim.holds_of_wide 3 Try.f3 rfl rfl rfl rfl rfl rfl rfl ⟨rfl, rfl, rfl, rfl, rfl⟩ rfl rfl rfl rfl rfl (by kernel_rfl) Try.func3 (by kernel_rfl)
    (of_decide_eq_true (by kernel_rfl)) (by unfold Func.isWrapper; first | (rw [if_pos (by decide +kernel)]; kernel_rfl) | (rw [if_neg (by decide +kernel)]; exact ⟨rfl, rfl⟩))
    (fun os started H enc _ => lifted os started H enc)
end Go.Proofs.Ytipeggpolnnpmaa.primsDo
namespace Go.Proofs.Ytipeggpolnnpmaa
theorem primsDo_holds : Rows.PrimsDoSaid := primsDo.over
#print axioms primsDo_holds
end Go.Proofs.Ytipeggpolnnpmaa
