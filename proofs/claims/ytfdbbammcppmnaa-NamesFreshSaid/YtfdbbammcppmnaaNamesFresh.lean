/-
  'NamesFresh' returns true for any list of texts and any base: a fresh name is not there, and is the base, if that is not. No condition.
-/
import Derived.Test.YtfdbbammcppmnaaRows
import Derived.Test.YtfdbbammcppmnaaNamesAwake
import Derived.Test.YtfdbbammcppmnaaLawKit
import Derived.SliceStrings
namespace Go.Proofs.Ytfdbbammcppmnaa.namesFresh
open Go.ChangeShapes Go.WideShapes Go.ChangeAt Go.RowKit
open Go.ChangeMaps (open_string shut_string)
set_option linter.unusedVariables false

theorem cand_has (ss : List ByteArray) (b : ByteArray) (f : Nat) (hf : IsFirst (ss.map fun x => x.data.toList) b.data.toList f) : hasB ss (cand b.data.toList f) = false := by
  rw [Bool.eq_false_iff]; intro e; exact hf.2.1 ((hasB_mem _ _).1 e)

set_option maxRecDepth 100000 in
set_option maxHeartbeats 400000 in
theorem walk (A : Option Addr) (c : Nat) (ss : List ByteArray) (b : ByteArray) (w : World) (hl : ss.length ≤ maxLen) (hb : b.size ≤ 140737488351232) (h : SlS w w.heap.size A ss) :
    Calls Try.prog 6 #[.slice A ss.length c, .string b] w fun e w' => e = .returned (.bool true) ∧ Below w.heap.size w w' := by
  by_cases h2 : 200 < ss.length
  · have HS := Lib.hid h
    clear h
    unfold maxLen at hl
    go_enter Try.func6, Try.ntmps6
    go_wp2_with (go_at_call 14; ((with_reducible refine (awake03 _).mono ?_); rintro e w5 ⟨rfl, hb5⟩))
    go_ret
    exact ⟨rfl, hb5⟩
  obtain ⟨f, hf⟩ := first_ex (ss.map fun x => x.data.toList) b.data.toList (by simp; omega)
  have hfb : f ≤ 1000 := by have := hf.1; simp at this; omega
  have H1 := Lib.hid (fun w (hw : SlS w w.heap.size A ss) => fresh_any A c ss b f w (by omega) (by omega) hw hf)
  have H2 := Lib.hid (fun w (hw : SlS w w.heap.size A ss) => rfresh_any A c ss b f w (by omega) (by omega) hw hf)
  have H3 := Lib.hid (fun w (hw : SlS w w.heap.size A ss) => rhas_any A w.heap.size c ss (bs (cand b.data.toList f)) w hl hw)
  have H4 := Lib.hid (fun w (hw : SlS w w.heap.size A ss) => rhas_any A w.heap.size c ss b w hl hw)
  rw [data_bs, cand_has ss b f hf] at H3
  have h0 : (hasB ss b.data.toList = true) ∨ (hasB ss b.data.toList = false ∧ f = 0) := by
    by_cases e : f = 0
    · subst e; exact .inr ⟨cand_has ss b 0 hf, rfl⟩
    · exact .inl ((hasB_mem _ _).2 (hf.2.2 0 (by omega)))
  have HM := Lib.hid (fun (W W' : World) (hW : SlS W W.heap.size A ss) (hb : Below W.heap.size W W') => (show SlS W' W'.heap.size A ss from fun i hi => by
    obtain ⟨ad, e, hl, hc⟩ := hW.below hb i hi
    exact ⟨ad, e, Nat.lt_of_lt_of_le hl hb.size, hc⟩))
  have HS := Lib.hid h
  unfold maxLen at hl
  clear h hf hfb
  rcases h0 with h0 | ⟨h0, rfl⟩
  · rw [h0] at H4
    clear h0
    generalize cand b.data.toList f = F at *
    go_enter Try.func6, Try.ntmps6
    go_wp2_with fail
    refine (H1.out _ HS.out).mono ?_
    rintro e w1 ⟨rfl, hb1⟩
    have HS1 := Lib.hid (HM.out _ _ HS.out hb1)
    go_wp2_with fail
    refine (H2.out _ HS1.out).mono ?_
    rintro e w2 ⟨rfl, hb2⟩
    have HS2 := Lib.hid (HM.out _ _ HS1.out hb2)
    go_wp2_with fail
    refine (H3.out _ HS2.out).mono ?_
    rintro e w' ⟨rfl, rfl⟩
    go_wp2_with fail
    refine (H4.out _ HS2.out).mono ?_
    rintro e w' ⟨rfl, rfl⟩
    go_wp2_with (go_at_call 14; ((with_reducible refine (awake03 _).mono ?_); rintro e w5 ⟨rfl, hb5⟩))
    go_ret
    have hb12 := hb1.trans (hb2.mono hb1.size)
    exact ⟨rfl, hb12.trans (hb5.mono hb12.size)⟩
  · rw [h0] at H4
    rw [cand_zero, bs_data] at H1 H2 H3
    clear h0
    go_enter Try.func6, Try.ntmps6
    go_wp2_with fail
    refine (H1.out _ HS.out).mono ?_
    rintro e w1 ⟨rfl, hb1⟩
    have HS1 := Lib.hid (HM.out _ _ HS.out hb1)
    go_wp2_with fail
    refine (H2.out _ HS1.out).mono ?_
    rintro e w2 ⟨rfl, hb2⟩
    have HS2 := Lib.hid (HM.out _ _ HS1.out hb2)
    go_wp2_with fail
    refine (H3.out _ HS2.out).mono ?_
    rintro e w' ⟨rfl, rfl⟩
    go_wp2_with fail
    refine (H4.out _ HS2.out).mono ?_
    rintro e w' ⟨rfl, rfl⟩
    go_wp2_with (go_at_call 14; ((with_reducible refine (awake03 _).mono ?_); rintro e w5 ⟨rfl, hb5⟩))
    go_ret
    have hb12 := hb1.trans (hb2.mono hb1.size)
    exact ⟨rfl, hb12.trans (hb5.mono hb12.size)⟩

theorem own : ownKnob Try.prog.godebug = none := by kernel_rfl
theorem laidOut : laidOutB Try.prog = true := by kernel_rfl
theorem cellsS : Try.prog.cellsOf 9 = 1 := by kernel_rfl
set_option maxRecDepth 100000 in
theorem lifted (os : Os) (started : os.Started) (H : Type) (enc : TypeId × Value → H) :
    ReturnsInHanded {} Try.checked os 6 .any (Rows.namesFreshSpec.pre6 enc Try.prog Try.f6 Rows.namesFreshRow.domain false) (Rows.namesFreshSpec.post enc Try.prog Try.f6 false true false false) := by
  refine returnsInHanded_of_change_sized (C := Try.checked) own started (by kernel_rfl) Try.func6
    (ChangeSpec.witness6 (enc := enc) (C := Try.checked) false ⟨#[], #[.slice none 0 0, .string ⟨#[]⟩], []⟩ 8 (by kernel_rfl) (by kernel_rfl) (by kernel_rfl) (by kernel_rfl)) ?_
  intro W base args ds gs before hval0 hW hcnd hsz _
  have hval : ∀ (j : Nat) t v, Try.f6.params[j]? = some t → args[j]? = some v → Value.okWide Try.prog W .any base t v := hval0
  have hW' := hW
  obtain ⟨p, q, hA0, hV, rfl, hfz, hnd⟩ := hW
  have hA : DataW.TrodAll enc Try.prog W 0 (fun _ => true) true Try.f6.params.toList args.toList ds p := hA0
  rw [Try.params6] at hA hval hsz
  have hA1 := hA
  obtain ⟨v0, vs0, d0, ds0, p0, q0, hargs, rfl, rfl, h0, r0⟩ := trodAll_cons hA
  obtain ⟨v1, vs1, d1, ds1, p1, q1, rfl, rfl, rfl, h1, r1⟩ := trodAll_cons r0
  obtain ⟨rfl, rfl, rfl⟩ := trodAll_nil r1
  obtain rfl : args = #[v0, v1] := by cases args; simp_all
  obtain ⟨rfl, rfl⟩ := trodVars_none hV
  obtain ⟨a0, len, cap, rfl⟩ := okWide_slice Try.underlying28 (hval 0 28 v0 rfl rfl)
  obtain ⟨a1, rfl, rfl, rfl, w1⟩ := open_string Try.underlying9 (hval 1 9 v1 rfl rfl) h1
  have hreach := sized_string hsz (j := 1) (t := 9) rfl rfl
  have hb1 : a1.size ≤ 140737488351232 := by
    have e : a1.data.toList.length = a1.size := by simp
    rw [e] at hreach; exact hreach
  obtain ⟨fuel, hf⟩ := h0
  clear hA0 hval0
  simp only [List.append_nil] at hW'
  have hlt : ∀ x ∈ p0 ++ ([] ++ []), x.block < W.heap.size := fun x hx => by simpa using hW'.lt x (by simpa using hx)
  have fin : ∀ e W', (e = Ending.returned (.bool true) ∧ Below W.heap.size W W') → ∃ v, e = Ending.returned v ∧ Rows.namesFreshSpec.post enc Try.checked.prog Try.f6 false true false false W #[.slice a0 len cap, .string a1] v W' := by
    rintro e W' ⟨rfl, bel⟩
    refine ⟨_, rfl, _, _, _, [], _, [], hW', trodAll_mk1 (shut_bool Try.underlying4 _), trodAll_below laidOut bel ?_ hlt hA1, rfl, bel.frame _, fun h => by cases h⟩
    intro t ht
    simp at ht
    rcases ht with rfl | rfl
    · exact ⟨by kernel_rfl, of_decide_eq_true (by kernel_rfl)⟩
    · exact ⟨by kernel_rfl, of_decide_eq_true (by kernel_rfl)⟩
  rcases open_strings Try.underlying28 Try.underlying9 cellsS hf with ⟨hcs, hx⟩ | ⟨a, len', cap', ss, hcs, _, hl, hm, hz, hx, hcell, hws⟩
  · simp [Value.cells] at hcs
    obtain ⟨rfl, rfl, rfl⟩ := hcs
    exact (walk none 0 [] a1 W (by simp) hb1 (fun i hi => by simp at hi)).mono fin
  · simp [Value.cells] at hcs
    obtain ⟨rfl, rfl, rfl⟩ := hcs
    simp only [if_true] at hz
    have hlen : (ss.take len).length = len := by simp; omega
    have hw := walk (some a) cap (ss.take len) a1 W (by rw [hlen]; omega) hb1 (fun i hi => by
      have hi' : i < ss.length := by simp at hi; omega
      have hc := hcell i hi'
      refine ⟨a, rfl, ?_, ?_⟩
      · have := cell_lt hc; rwa [blk_add] at this
      · rw [hc]; simp [List.getD, List.getElem?_eq_getElem hi'])
    rw [hlen] at hw
    exact hw.mono fin

theorem over : Rows.namesFreshRow.holds Try.pinned (OpenSpec.ofChange Rows.namesFreshSpec) :=
  OpenClaim.holds_of_wide 6 Try.f6 rfl rfl rfl rfl rfl rfl rfl ⟨rfl, rfl, rfl, rfl, rfl⟩ rfl rfl rfl rfl rfl (by kernel_rfl) Try.func6 (by kernel_rfl)
    (of_decide_eq_true (by kernel_rfl)) (by unfold Func.isWrapper; first | (rw [if_pos (by decide +kernel)]; kernel_rfl) | (rw [if_neg (by decide +kernel)]; exact ⟨rfl, rfl⟩))
    (fun os started H enc _ => lifted os started H enc)
end Go.Proofs.Ytfdbbammcppmnaa.namesFresh
namespace Go.Proofs.Ytfdbbammcppmnaa
theorem namesFresh_holds : Rows.NamesFreshSaid := namesFresh.over
#print axioms namesFresh_holds
end Go.Proofs.Ytfdbbammcppmnaa
