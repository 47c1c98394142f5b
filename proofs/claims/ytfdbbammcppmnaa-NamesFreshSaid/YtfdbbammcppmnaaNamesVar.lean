/-
  The walks of layer 3: which texts may be names.
-/
import Derived.Test.YtfdbbammcppmnaaNamesRes
namespace Go.Proofs.Ytfdbbammcppmnaa
open Go.RowKit
set_option linter.unusedVariables false

theorem head_eq (s : ByteArray) (h0 : 0 < s.size) : s.data.toList = s[0] :: s.data.toList.tail := by
  have h := drop_cons s 0 h0
  simpa using h
theorem var_eq (s : ByteArray) (h0 : 0 < s.size) (h95 : s.data.toList ≠ [95]) : varB s.data.toList = (smB s[0] && allB s.data.toList && !resB s.data.toList) := by
  have h1 : (s.data.toList != [95]) = true := by rw [bne_iff_ne]; exact h95
  have h2 : s.data.toList.headD 0 = s[0] := by rw [head_eq s h0]; rfl
  have h3 : s.data.toList.isEmpty = false := by rw [head_eq s h0]; rfl
  unfold varB allB
  rw [h1, h2, h3]; simp
theorem con_eq (s : ByteArray) (h0 : 0 < s.size) : conB s.data.toList = (grB s[0] && allB s.data.toList) := by
  have h2 : s.data.toList.headD 0 = s[0] := by rw [head_eq s h0]; rfl
  have h3 : s.data.toList.isEmpty = false := by rw [head_eq s h0]; rfl
  unfold conB allB
  rw [h2, h3]; simp
theorem all_tail (s : ByteArray) (h0 : 0 < s.size) (h : onB s[0] = true) : allB s.data.toList = allB s.data.toList.tail := by
  unfold allB
  conv => lhs; rw [head_eq s h0, List.all_cons, h]
  rfl
theorem empty_or (s : ByteArray) : s = ⟨#[]⟩ ∨ 0 < s.size := by
  rcases Nat.eq_zero_or_pos s.size with h | h
  · left; cases s with | mk d => simp [ByteArray.size] at h; simp [h]
  · exact .inr h
theorem lit95 (s : ByteArray) (h : s.data.toList = [95]) : s = ⟨#[95]⟩ := by
  cases s with | mk d => cases d; simp at h; simp [h]

set_option maxRecDepth 100000 in
set_option maxHeartbeats 400000 in
theorem var_any (s : ByteArray) (w : World) (hs : s.size ≤ maxLen) :
    Calls Try.prog 8 #[.string s] w fun e w' => e = .returned (.bool (varB s.data.toList)) ∧ w = w' := by
  rcases empty_or s with rfl | h0
  · have HO := Lib.hid (show varB (⟨#[]⟩ : ByteArray).data.toList = false by decide +kernel)
    go_enter Try.func8, Try.ntmps8
    go_wp2
    go_ret
    exact ⟨ret_bool HO.out.symm, rfl⟩
  by_cases h95 : s.data.toList = [95]
  · obtain rfl := lit95 s h95
    have HO := Lib.hid (show varB (⟨#[95]⟩ : ByteArray).data.toList = false by decide +kernel)
    clear h95 h0
    go_enter Try.func8, Try.ntmps8
    go_wp2
    go_ret
    exact ⟨ret_bool HO.out.symm, rfl⟩
  have HE := Lib.hid (var_eq s h0 h95)
  have g1 : s.toList.isEmpty = false := by rw [ByteArray.toList_eq, head_eq s h0]; rfl
  have g2 : (s.toList == [95]) = false := by rw [beq_eq_false_iff_ne, ByteArray.toList_eq]; exact h95
  have g3 : (s.toList != [95]) = true := by rw [bne_iff_ne, ByteArray.toList_eq]; exact h95
  have HG := Lib.hid (fun w => goes_any s w hs)
  have HR := Lib.hid (fun w => reserved_any s w)
  unfold maxLen at hs
  clear h95
  generalize varB s.data.toList = V at *
  generalize allB s.data.toList = B at *
  generalize resB s.data.toList = R at *
  cases h1 : smB s[0]
  · have HF := Lib.hid (show V = false by have := HE.out; rw [h1] at this; simpa using this)
    clear HE
    go_enter Try.func8, Try.ntmps8
    go_wp2_with (go_at_call 22; ((with_reducible refine (small_any _ _).mono ?_); rintro e w' ⟨rfl, rfl⟩))
    go_ret
    exact ⟨ret_bool HF.out.symm, rfl⟩
  · cases B
    · have HF := Lib.hid (show V = false by have := HE.out; rw [h1] at this; simpa using this)
      clear HE
      go_enter Try.func8, Try.ntmps8
      go_wp2_with (first | (go_at_call 22; ((with_reducible refine (small_any _ _).mono ?_); rintro e w' ⟨rfl, rfl⟩)) | (go_at_call 23; ((with_reducible refine (HG.out _).mono ?_); rintro e w' ⟨rfl, rfl⟩)))
      go_ret
      exact ⟨ret_bool HF.out.symm, rfl⟩
    · have HF := Lib.hid (show V = !R by have := HE.out; rw [h1] at this; simpa using this)
      clear HE
      cases R
      all_goals
        go_enter Try.func8, Try.ntmps8
        go_wp2_with (first | (go_at_call 22; ((with_reducible refine (small_any _ _).mono ?_); rintro e w' ⟨rfl, rfl⟩)) | (go_at_call 23; ((with_reducible refine (HG.out _).mono ?_); rintro e w' ⟨rfl, rfl⟩)) | (go_at_call 12; ((with_reducible refine (HR.out _).mono ?_); rintro e w' ⟨rfl, rfl⟩)))
        go_ret
        exact ⟨ret_bool HF.out.symm, rfl⟩

set_option maxRecDepth 100000 in
set_option maxHeartbeats 400000 in
theorem rvar_any (s : ByteArray) (w : World) (hs : s.size ≤ maxLen) :
    Calls Try.prog 9 #[.string s] w fun e w' => e = .returned (.bool (varB s.data.toList)) ∧ w = w' := by
  rcases empty_or s with rfl | h0
  · have HO := Lib.hid (show varB (⟨#[]⟩ : ByteArray).data.toList = false by decide +kernel)
    go_enter Try.func9, Try.ntmps9
    go_wp2
    go_ret
    exact ⟨ret_bool HO.out.symm, rfl⟩
  by_cases h95 : s.data.toList = [95]
  · obtain rfl := lit95 s h95
    have HO := Lib.hid (show varB (⟨#[95]⟩ : ByteArray).data.toList = false by decide +kernel)
    clear h95 h0
    go_enter Try.func9, Try.ntmps9
    go_wp2
    go_ret
    exact ⟨ret_bool HO.out.symm, rfl⟩
  have HE := Lib.hid (var_eq s h0 h95)
  have HT := Lib.hid (all_tail s h0)
  have g1 : s.toList.isEmpty = false := by rw [ByteArray.toList_eq, head_eq s h0]; rfl
  have g2 : (s.toList == [95]) = false := by rw [beq_eq_false_iff_ne, ByteArray.toList_eq]; exact h95
  have g3 : (s.toList != [95]) = true := by rw [bne_iff_ne, ByteArray.toList_eq]; exact h95
  have HG := Lib.hid (fun w => ron_any s w hs h0)
  have HR := Lib.hid (fun w => rreserved_any s w)
  unfold maxLen at hs
  clear h95
  generalize varB s.data.toList = V at *
  generalize allB s.data.toList = B at *
  generalize resB s.data.toList = R at *
  generalize allB s.data.toList.tail = T at *
  cases h1 : smB s[0]
  · have HF := Lib.hid (show V = false by have := HE.out; rw [h1] at this; simpa using this)
    clear HE HT
    go_enter Try.func9, Try.ntmps9
    go_wp2_with (go_at_call 24; ((with_reducible refine (rsmall_any _ _).mono ?_); rintro e w' ⟨rfl, rfl⟩))
    go_ret
    exact ⟨ret_bool HF.out.symm, rfl⟩
  · obtain rfl := HT.out (smB_on h1)
    clear HT
    cases B
    · have HF := Lib.hid (show V = false by have := HE.out; rw [h1] at this; simpa using this)
      clear HE
      go_enter Try.func9, Try.ntmps9
      go_wp2_with (first | (go_at_call 24; ((with_reducible refine (rsmall_any _ _).mono ?_); rintro e w' ⟨rfl, rfl⟩)) | (go_at_call 25; ((with_reducible refine (HG.out _).mono ?_); rintro e w' ⟨rfl, rfl⟩)))
      go_ret
      exact ⟨ret_bool HF.out.symm, rfl⟩
    · have HF := Lib.hid (show V = !R by have := HE.out; rw [h1] at this; simpa using this)
      clear HE
      cases R
      all_goals
        go_enter Try.func9, Try.ntmps9
        go_wp2_with (first | (go_at_call 24; ((with_reducible refine (rsmall_any _ _).mono ?_); rintro e w' ⟨rfl, rfl⟩)) | (go_at_call 25; ((with_reducible refine (HG.out _).mono ?_); rintro e w' ⟨rfl, rfl⟩)) | (go_at_call 13; ((with_reducible refine (HR.out _).mono ?_); rintro e w' ⟨rfl, rfl⟩)))
        go_ret
        exact ⟨ret_bool HF.out.symm, rfl⟩

set_option maxRecDepth 100000 in
set_option maxHeartbeats 400000 in
theorem con_any (s : ByteArray) (w : World) (hs : s.size ≤ maxLen) :
    Calls Try.prog 10 #[.string s] w fun e w' => e = .returned (.bool (conB s.data.toList)) ∧ w = w' := by
  rcases empty_or s with rfl | h0
  · have HO := Lib.hid (show conB (⟨#[]⟩ : ByteArray).data.toList = false by decide +kernel)
    go_enter Try.func10, Try.ntmps10
    go_wp2
    go_ret
    exact ⟨ret_bool HO.out.symm, rfl⟩
  have HE := Lib.hid (con_eq s h0)
  have g1 : s.toList.isEmpty = false := by rw [ByteArray.toList_eq, head_eq s h0]; rfl
  have HG := Lib.hid (fun w => goes_any s w hs)
  unfold maxLen at hs
  generalize conB s.data.toList = V at *
  generalize allB s.data.toList = B at *
  cases h1 : grB s[0]
  · have HF := Lib.hid (show V = false by have := HE.out; rw [h1] at this; simpa using this)
    clear HE
    go_enter Try.func10, Try.ntmps10
    go_wp2_with (go_at_call 26; ((with_reducible refine (great_any _ _).mono ?_); rintro e w' ⟨rfl, rfl⟩))
    go_ret
    exact ⟨ret_bool HF.out.symm, rfl⟩
  · have HF := Lib.hid (show V = B by have := HE.out; rw [h1] at this; simpa using this)
    clear HE
    go_enter Try.func10, Try.ntmps10
    go_wp2_with (first | (go_at_call 26; ((with_reducible refine (great_any _ _).mono ?_); rintro e w' ⟨rfl, rfl⟩)) | (go_at_call 23; ((with_reducible refine (HG.out _).mono ?_); rintro e w' ⟨rfl, rfl⟩)))
    go_ret
    exact ⟨ret_bool HF.out.symm, rfl⟩

set_option maxRecDepth 100000 in
set_option maxHeartbeats 400000 in
theorem rcon_any (s : ByteArray) (w : World) (hs : s.size ≤ maxLen) :
    Calls Try.prog 11 #[.string s] w fun e w' => e = .returned (.bool (conB s.data.toList)) ∧ w = w' := by
  rcases empty_or s with rfl | h0
  · have HO := Lib.hid (show conB (⟨#[]⟩ : ByteArray).data.toList = false by decide +kernel)
    go_enter Try.func11, Try.ntmps11
    go_wp2
    go_ret
    exact ⟨ret_bool HO.out.symm, rfl⟩
  have HE := Lib.hid (con_eq s h0)
  have HT := Lib.hid (all_tail s h0)
  have g1 : s.toList.isEmpty = false := by rw [ByteArray.toList_eq, head_eq s h0]; rfl
  have HG := Lib.hid (fun w => ron_any s w hs h0)
  unfold maxLen at hs
  generalize conB s.data.toList = V at *
  generalize allB s.data.toList = B at *
  generalize allB s.data.toList.tail = T at *
  cases h1 : grB s[0]
  · have HF := Lib.hid (show V = false by have := HE.out; rw [h1] at this; simpa using this)
    clear HE HT
    go_enter Try.func11, Try.ntmps11
    go_wp2_with (go_at_call 27; ((with_reducible refine (rgreat_any _ _).mono ?_); rintro e w' ⟨rfl, rfl⟩))
    go_ret
    exact ⟨ret_bool HF.out.symm, rfl⟩
  · obtain rfl := HT.out (grB_on h1)
    clear HT
    have HF := Lib.hid (show V = B by have := HE.out; rw [h1] at this; simpa using this)
    clear HE
    go_enter Try.func11, Try.ntmps11
    go_wp2_with (first | (go_at_call 27; ((with_reducible refine (rgreat_any _ _).mono ?_); rintro e w' ⟨rfl, rfl⟩)) | (go_at_call 25; ((with_reducible refine (HG.out _).mono ?_); rintro e w' ⟨rfl, rfl⟩)))
    go_ret
    exact ⟨ret_bool HF.out.symm, rfl⟩
end Go.Proofs.Ytfdbbammcppmnaa
