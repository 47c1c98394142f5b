/-
  'SpansWhole' returns true for any text, where the text has at most 1048576 bytes (the second form's bound).
-/
import Derived.Test.YtmdobaplndlhhaaRows
import Derived.Test.YtmdobaplndlhhaaSpansMark
import Derived.OpenShut
import Derived.ShutString
import Derived.ChangeOld
import Derived.JoinedCond
namespace Go.Proofs.Ytmdobaplndlhhaa.spansWhole
open Go.ChangeShapes Go.WideShapes Go.ChangeAt Go.RowKit
open Go.ChangeMaps (open_string shut_string)
set_option linter.unusedVariables false

theorem ext_add (s : ByteArray) {a b : Nat} (h : a ≤ b) : s.extract 0 a ++ s.extract a b = s.extract 0 b := by
  apply ByteArray.ext
  rw [ByteArray.data_append, ByteArray.data_extract, ByteArray.data_extract, ByteArray.data_extract, Array.extract_append_extract]
  congr 1
  omega
theorem ext_nl (s : ByteArray) {a : Nat} (h : a < s.size) (hn : NL s a = true) : s.extract 0 a ++ ⟨#[10]⟩ = s.extract 0 (a + 1) := by
  have h1 : s.data[a]'h = 10 := by
    have h2 : a < s.data.toList.length := by simpa using h
    unfold NL at hn
    rw [List.getD_eq_getElem?_getD, List.getElem?_eq_getElem h2] at hn
    simpa using hn
  apply ByteArray.ext
  rw [ByteArray.data_append, ByteArray.data_extract, ByteArray.data_extract, Array.extract_succ_right (by omega) h, h1]
  rfl
/-- The first j lines, with byte 10 between. -/
def tx (s : ByteArray) : Nat → ByteArray
  | 0 => ⟨#[]⟩
  | j + 1 => s.extract 0 (fin s s.size j)
theorem nil_add (x : ByteArray) : (⟨#[]⟩ : ByteArray) ++ x = x := by
  apply ByteArray.ext
  rw [ByteArray.data_append]
  simp
theorem tx_one (s : ByteArray) : tx s 0 ++ s.extract (pos s s.size 0) (fin s s.size 0) = tx s 1 := by
  have h : pos s s.size 0 = 0 := pos_nl s (Nat.zero_le s.size)
  rw [h]
  exact nil_add _
theorem tx_succ (s : ByteArray) {j : Nat} (h : j + 1 ≤ nl s s.size) : tx s (j + 1) ++ ⟨#[10]⟩ ++ s.extract (pos s s.size (j + 1)) (fin s s.size (j + 1)) = tx s (j + 2) := by
  have a := fin_nl s (n := s.size) (k := j) (by omega)
  have b := (fin_le s h).2
  show s.extract 0 (fin s s.size j) ++ ⟨#[10]⟩ ++ _ = s.extract 0 (fin s s.size (j + 1))
  rw [ext_nl s a.2.2 a.1, a.2.1]
  rw [a.2.1] at b
  exact ext_add s b
theorem tx_last (s : ByteArray) : tx s (nl s s.size + 1) = s := by
  show s.extract 0 (fin s s.size (nl s s.size)) = s
  rw [fin_last]
  apply ByteArray.ext
  rw [ByteArray.data_extract]
  simp
theorem tx_size (s : ByteArray) (j : Nat) : (tx s j).size ≤ s.size := by
  cases j with
  | zero => exact Nat.zero_le _
  | succ j => exact ext_le s _ _

set_option maxRecDepth 100000 in
set_option maxHeartbeats 1000000 in
theorem walk (s : ByteArray) (w : World) (hs : s.size ≤ 1048576) : Calls Try.prog 7 #[.string s] w fun e w' => e = .returned (.bool true) ∧ Below w.heap.size w w' := by
  have HL := Lib.hid (fun W => lines_at s W hs)
  have hnl := nl_le s s.size
  by_cases h3 : 3000 < nl s s.size + 1
  · generalize nl s s.size = M at *
    go_enter Try.func7, Try.ntmps7
    go_wp2_with fail
    refine (HL.out _).mono ?_
    rintro e w1 ⟨a, ca, rfl, _, ha, hr, hb1⟩
    have HR := Lib.hid hr
    clear hr
    go_wp2_with (go_at_call 13; ((with_reducible refine (awake01 _).mono ?_); rintro e w9 ⟨rfl, hb9⟩))
    go_ret
    exact ⟨rfl, hb1.trans (hb9.mono hb1.size)⟩
  · have HLI := Lib.hid (fun k W (hk : k ≤ nl s s.size) => line_in s k W hs hk)
    have HTL := Lib.hid (tx_last s)
    have HT1 := Lib.hid (tx_one s)
    have HTS := Lib.hid (fun j (h : j + 1 ≤ nl s s.size) => tx_succ s h)
    generalize nl s s.size = M at *
    go_enter Try.func7, Try.ntmps7
    go_wp2_with fail
    refine (HL.out _).mono ?_
    rintro e w1 ⟨a, ca, rfl, _, ha, hr, hb1⟩
    clear hr
    go_wp2
    go_loopw [4, 5] (fun v i wr => ∃ j : Nat, j ≤ M + 1 ∧ v = .string (tx s j) ∧ i = .int .i64 j ∧ Below w.heap.size w wr) (fun _ i _ => M + 1 - (intOf i).toNat)
    case atStart => exact ⟨0, Nat.zero_le _, rfl, rfl, hb1⟩
    case round =>
      obtain ⟨j, hj, rfl, rfl, hb⟩ := hrel
      have hts := tx_size s j
      by_cases hlt : j < M + 1
      · have HLJ := Lib.hid (fun W => HLI.out j W (by omega))
        have hxs := ext_le s (pos s s.size j) (fin s s.size j)
        rcases j with _ | j
        · have HX := Lib.hid HT1.out
          have had := fun W => run_string_add_sum (P := Try.prog) W (tx s 0) (s.extract (pos s s.size 0) (fin s s.size 0)) (by omega)
          rw [HX.out] at had
          generalize s.extract (pos s s.size 0) (fin s s.size 0) = X at *
          generalize tx s 0 = T at *
          clear HX HT1 HTS HLI HL
          go_wp2_with fail
          refine (HLJ.out _).mono ?_
          rintro e w2 ⟨rfl, hb2⟩
          go_wp2
          go_roundw
          case rel => exact ⟨1, by omega, rfl, by go_num, hb.trans (hb2.mono hb.size)⟩
          case measure => simp [intOf]
        · have HX := Lib.hid (HTS.out j (by omega))
          have had1 := fun W => run_string_add_sum (P := Try.prog) W (tx s (j + 1)) ⟨#[10]⟩ (by show (tx s (j + 1)).size + 1 ≤ _; omega)
          have hz : (tx s (j + 1) ++ (⟨#[10]⟩ : ByteArray)).size = (tx s (j + 1)).size + 1 := by rw [ByteArray.size_append]; rfl
          have had2 := fun W => run_string_add_sum (P := Try.prog) W (tx s (j + 1) ++ ⟨#[10]⟩) (s.extract (pos s s.size (j + 1)) (fin s s.size (j + 1))) (by omega)
          rw [HX.out] at had2
          generalize s.extract (pos s s.size (j + 1)) (fin s s.size (j + 1)) = X at *
          generalize tx s (j + 1) ++ (⟨#[10]⟩ : ByteArray) = T1 at *
          generalize tx s (j + 1) = T at *
          clear HX HT1 HTS HLI HL
          go_wp2_with fail
          refine (HLJ.out _).mono ?_
          rintro e w2 ⟨rfl, hb2⟩
          go_wp2
          go_roundw
          case rel => exact ⟨j + 2, by omega, rfl, by go_num, hb.trans (hb2.mono hb.size)⟩
          case measure => simp [intOf]; omega
      · obtain rfl : j = M + 1 := by omega
        rw [HTL.out]
        go_wp2_with (go_at_call 13; ((with_reducible refine (awake01 _).mono ?_); rintro e w9 ⟨rfl, hb9⟩))
        go_ret
        exact ⟨rfl, hb.trans (hb9.mono hb.size)⟩

theorem own : ownKnob Try.prog.godebug = none := by kernel_rfl
theorem short {H : Type} (a0 : ByteArray) (hk : Rows.uptoSmall H [.lit (.string a0.data.toList)] = true) : a0.size ≤ 1048576 := by
  have h : Rows.uptoBulkAll (H := H) [.lit (.string a0.data.toList)] ≤ 1048576 := of_decide_eq_true hk
  simp only [Rows.uptoBulkAll, Rows.uptoBulk] at h
  have e : a0.data.toList.length = a0.size := by rw [Array.length_toList]; rfl
  omega
theorem contract (H : Type) (enc : TypeId × Value → H) (W : World) (base : Nat) (args : Array Value) (ds gs : List (DataW H)) (before : List MemPlace)
    (hval : ∀ (j : Nat) t v, Try.f7.params[j]? = some t → args[j]? = some v → Value.okWide Try.prog W .any base t v)
    (hW : DataW.Whole enc Try.prog Try.f7.params.toList Rows.spansWholeSpec.vars false W args.toList ds gs before) (hk : Rows.uptoSmall H (ds ++ gs) = true) :
    Calls Try.prog 7 args W fun e W' => ∃ v, e = .returned v ∧ Rows.spansWholeSpec.post enc Try.prog Try.f7 false true false false W args v W' := by
  have hW' := hW
  obtain ⟨p, q, hA0, hV, rfl, hfz, hnd⟩ := hW
  have hA : DataW.TrodAll enc Try.prog W 0 (fun _ => true) true Try.f7.params.toList args.toList ds p := hA0
  rw [Try.params7] at hA hval
  obtain ⟨v0, vs0, d0, ds0, p0, q0, hargs, rfl, rfl, h0, r0⟩ := trodAll_cons hA
  obtain ⟨rfl, rfl, rfl⟩ := trodAll_nil r0
  obtain rfl : args = #[v0] := by cases args; simp_all
  obtain ⟨rfl, rfl⟩ := trodVars_none hV
  obtain ⟨a0, rfl, rfl, rfl, w0⟩ := open_string Try.underlying9 (hval 0 9 v0 rfl rfl) h0
  clear hA0
  simp only [List.append_nil] at hW' hk
  refine (walk a0 W (short a0 hk)).mono fun e W' ⟨he, bel⟩ => ?_
  subst he
  exact ⟨_, rfl, _, _, _, [], [], [], hW', trodAll_mk1 (shut_bool Try.underlying4 _), (trodAll_cons_mk (shut_string Try.underlying9 w0) trodAll_mk0), rfl, bel.frame _, fun h => by cases h⟩

set_option maxRecDepth 100000 in
theorem lifted (os : Os) (started : os.Started) (H : Type) (enc : TypeId × Value → H) (F : Stop.Interp) :
    ReturnsInHanded {} Try.checked os 7 .any ((Rows.OpenSpec.upto Rows.spansWholeSpec).pre6 enc Try.prog Try.f7 Rows.spansWholeUptoRow.domain false) (((Rows.OpenSpec.upto Rows.spansWholeSpec).at F).post enc Try.prog Try.f7 false true false false) := by
  refine returnsInHanded_of_cond (C := Try.checked) (s := Rows.OpenSpec.upto Rows.spansWholeSpec) (k := Rows.uptoSmall) rfl own started (by kernel_rfl) Try.func7
    (OpenSpec.witness (enc := enc) (C := Try.checked) (s := Rows.OpenSpec.upto Rows.spansWholeSpec) (k := Rows.uptoSmall) rfl false ⟨#[], #[.string ⟨#[]⟩], []⟩ 8 (by kernel_rfl) (by kernel_rfl) (by kernel_rfl)
      (x := ([.lit (.string [])], [], [])) (by kernel_rfl) rfl (by kernel_rfl)) ?_
  intro W base args ds gs before hval hW _ hk _
  exact contract H enc W base args ds gs before hval hW hk

theorem over : Rows.spansWholeUptoRow.holds Try.pinned (Rows.OpenSpec.upto Rows.spansWholeSpec) :=
  OpenClaim.holds_of_cond 7 Try.f7 rfl rfl rfl rfl rfl rfl rfl ⟨rfl, rfl, rfl, rfl, rfl⟩ rfl rfl rfl rfl rfl (by kernel_rfl) Try.func7 (by kernel_rfl)
    (of_decide_eq_true (by kernel_rfl)) (by unfold Func.isWrapper; first | (rw [if_pos (by decide +kernel)]; kernel_rfl) | (rw [if_neg (by decide +kernel)]; exact ⟨rfl, rfl⟩))
    (fun os started H enc _ F => lifted os started H enc F)
end Go.Proofs.Ytmdobaplndlhhaa.spansWhole
namespace Go.Proofs.Ytmdobaplndlhhaa
theorem spansWhole_holds : Rows.SpansWholeUptoSaid := spansWhole.over
#print axioms spansWhole_holds
end Go.Proofs.Ytmdobaplndlhhaa
