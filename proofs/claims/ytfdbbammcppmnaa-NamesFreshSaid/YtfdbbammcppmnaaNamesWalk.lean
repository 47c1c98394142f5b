/-
  The walks of layer 3: names.
-/
import Derived.Test.YtfdbbammcppmnaaNamesKind
namespace Go.Proofs.Ytfdbbammcppmnaa
open Go.RowKit
set_option linter.unusedVariables false

def allB (l : List UInt8) : Bool := l.all onB

theorem on_cases (c : UInt8) : (onB c = true ∧ smB c = true) ∨ (onB c = true ∧ smB c = false ∧ grB c = true) ∨ (onB c = true ∧ smB c = false ∧ grB c = false ∧ 48 ≤ c.toNat ∧ c.toNat ≤ 57) ∨ (onB c = true ∧ smB c = false ∧ grB c = false ∧ c.toNat = 39)
    ∨ (onB c = false ∧ smB c = false ∧ grB c = false ∧ c.toNat < 48 ∧ c.toNat ≠ 39) ∨ (onB c = false ∧ smB c = false ∧ grB c = false ∧ 57 < c.toNat) := by
  by_cases h1 : smB c = true
  · exact .inl ⟨smB_on h1, h1⟩
  · by_cases h2 : grB c = true
    · exact .inr (.inl ⟨grB_on h2, by simpa using h1, h2⟩)
    · have e : onB c = (dB c || decide (c.toNat = 39)) := by simp [onB, h1, h2]
      rw [e]
      simp at h1 h2
      simp only [dB]
      rcases (show (48 ≤ c.toNat ∧ c.toNat ≤ 57) ∨ (c.toNat = 39) ∨ (c.toNat < 48 ∧ c.toNat ≠ 39) ∨ (57 < c.toNat) by omega) with h | h | h | h
      · refine .inr (.inr (.inl ⟨by simp; omega, h1, h2, h.1, h.2⟩))
      · refine .inr (.inr (.inr (.inl ⟨by simp; omega, h1, h2, h⟩)))
      · refine .inr (.inr (.inr (.inr (.inl ⟨by simp; omega, h1, h2, h.1, h.2⟩))))
      · refine .inr (.inr (.inr (.inr (.inr ⟨by simp; omega, h1, h2, h⟩))))

theorem all_next (s : ByteArray) (k : Nat) (h : k < s.size) (h1 : (s.data.toList.take k).all onB = true) (h2 : onB s[k] = true) : (s.data.toList.take (k + 1)).all onB = true := by
  rw [take_snoc s k h, List.all_append, h1]; simp [h2]
theorem all_stop (s : ByteArray) (k : Nat) (h : k < s.size) (h2 : onB s[k] = false) : allB s.data.toList = false := by
  unfold allB
  rw [Bool.eq_false_iff]; intro e
  rw [List.all_eq_true.1 e s[k] (List.getElem_mem (l := s.data.toList) (by simpa using h))] at h2; cases h2
theorem all_end (s : ByteArray) (k : Nat) (h : ¬ k < s.size) (h1 : (s.data.toList.take k).all onB = true) : allB s.data.toList = true := by
  unfold allB
  rwa [List.take_of_length_le (by simp; omega)] at h1

set_option maxRecDepth 100000 in
set_option maxHeartbeats 400000 in
theorem goes_any (s : ByteArray) (w : World) (hs : s.size ≤ maxLen) :
    Calls Try.prog 23 #[.string s] w fun e w' => e = .returned (.bool (allB s.data.toList)) ∧ w = w' := by
  unfold maxLen at hs
  go_enter Try.func23, Try.ntmps23
  go_wp2
  go_loop [7] (fun i => ∃ k : Nat, k ≤ s.size ∧ i = .int .i64 k ∧ (s.data.toList.take k).all onB = true) (fun i => s.size - (intOf i).toNat)
  case atStart => exact ⟨0, Nat.zero_le _, rfl, by simp⟩
  case round =>
    obtain ⟨k, hk, rfl, hall⟩ := hrel
    have HALL := Lib.hid hall
    clear hall
    by_cases hlt : k < s.size
    · have HN := Lib.hid (all_next s k hlt)
      have HS := Lib.hid (all_stop s k hlt)
      have hc := on_cases s[k]
      rcases hc with ⟨ho, h1⟩ | ⟨ho, h1, h2⟩ | ⟨ho, h1, h2, h3, h4⟩ | ⟨ho, h1, h2, h3⟩ | ⟨ho, h1, h2, h3, h4⟩ | ⟨ho, h1, h2, h3⟩
      · have HO := Lib.hid ho
        clear ho
        go_wp2_with (first | (go_at_call 22; ((with_reducible refine (small_any _ _).mono ?_); rintro e w' ⟨rfl, rfl⟩)) | (go_at_call 26; ((with_reducible refine (great_any _ _).mono ?_); rintro e w' ⟨rfl, rfl⟩)))
        go_round
        case rel => exact ⟨k + 1, by omega, by go_num, HN.out HALL.out HO.out⟩
        case measure => simp [intOf]; omega
      · have HO := Lib.hid ho
        clear ho
        go_wp2_with (first | (go_at_call 22; ((with_reducible refine (small_any _ _).mono ?_); rintro e w' ⟨rfl, rfl⟩)) | (go_at_call 26; ((with_reducible refine (great_any _ _).mono ?_); rintro e w' ⟨rfl, rfl⟩)))
        go_round
        case rel => exact ⟨k + 1, by omega, by go_num, HN.out HALL.out HO.out⟩
        case measure => simp [intOf]; omega
      · have HO := Lib.hid ho
        clear ho
        go_wp2_with (first | (go_at_call 22; ((with_reducible refine (small_any _ _).mono ?_); rintro e w' ⟨rfl, rfl⟩)) | (go_at_call 26; ((with_reducible refine (great_any _ _).mono ?_); rintro e w' ⟨rfl, rfl⟩)))
        go_round
        case rel => exact ⟨k + 1, by omega, by go_num, HN.out HALL.out HO.out⟩
        case measure => simp [intOf]; omega
      · have HO := Lib.hid ho
        have g1 : ((s[k].toNat : Int) != 39) = false := by simp; omega
        have g2 : s[k].toNat < 48 := by omega
        clear ho h3
        go_wp2_with (first | (go_at_call 22; ((with_reducible refine (small_any _ _).mono ?_); rintro e w' ⟨rfl, rfl⟩)) | (go_at_call 26; ((with_reducible refine (great_any _ _).mono ?_); rintro e w' ⟨rfl, rfl⟩)))
        go_round
        case rel => exact ⟨k + 1, by omega, by go_num, HN.out HALL.out HO.out⟩
        case measure => simp [intOf]; omega
      · have HO := Lib.hid (HS.out ho)
        have g1 : ((s[k].toNat : Int) != 39) = true := by rw [bne_iff_ne]; omega
        clear ho h4
        go_wp2_with (first | (go_at_call 22; ((with_reducible refine (small_any _ _).mono ?_); rintro e w' ⟨rfl, rfl⟩)) | (go_at_call 26; ((with_reducible refine (great_any _ _).mono ?_); rintro e w' ⟨rfl, rfl⟩)))
        go_ret
        exact ⟨ret_bool HO.out.symm, rfl⟩
      · have HO := Lib.hid (HS.out ho)
        have g1 : ((s[k].toNat : Int) != 39) = true := by rw [bne_iff_ne]; omega
        clear ho
        go_wp2_with (first | (go_at_call 22; ((with_reducible refine (small_any _ _).mono ?_); rintro e w' ⟨rfl, rfl⟩)) | (go_at_call 26; ((with_reducible refine (great_any _ _).mono ?_); rintro e w' ⟨rfl, rfl⟩)))
        go_ret
        exact ⟨ret_bool HO.out.symm, rfl⟩
    · have HO := Lib.hid (all_end s k hlt HALL.out)
      go_wp2
      go_ret
      exact ⟨ret_bool HO.out.symm, rfl⟩

set_option maxRecDepth 100000 in
set_option maxHeartbeats 400000 in
theorem ron1_any (c : UInt8) (w : World) :
    Calls Try.prog 33 #[.int .u8 (c.toNat : Int)] w fun e w' => e = .returned (.bool (onB c)) ∧ w = w' := by
  have hd : dB c = (decide (48 ≤ c.toNat) && decide (c.toNat ≤ 57)) := rfl
  rcases on_cases c with ⟨ho, h1⟩ | ⟨ho, h1, h2⟩ | ⟨ho, h1, h2, h3, h4⟩ | ⟨ho, h1, h2, h3⟩ | ⟨ho, h1, h2, h3, h4⟩ | ⟨ho, h1, h2, h3⟩
  · have HO := Lib.hid ho
    clear ho hd
    go_enter Try.func33, Try.ntmps33
    go_wp2_with (first | (go_at_call 24; ((with_reducible refine (rsmall_any _ _).mono ?_); rintro e w' ⟨rfl, rfl⟩)) | (go_at_call 27; ((with_reducible refine (rgreat_any _ _).mono ?_); rintro e w' ⟨rfl, rfl⟩)) | (go_at_call 36; ((with_reducible refine (rdigit_any _ _).mono ?_); rintro e w' ⟨rfl, rfl⟩)))
    go_ret
    exact ⟨ret_bool HO.out.symm, rfl⟩
  · have HO := Lib.hid ho
    clear ho hd
    go_enter Try.func33, Try.ntmps33
    go_wp2_with (first | (go_at_call 24; ((with_reducible refine (rsmall_any _ _).mono ?_); rintro e w' ⟨rfl, rfl⟩)) | (go_at_call 27; ((with_reducible refine (rgreat_any _ _).mono ?_); rintro e w' ⟨rfl, rfl⟩)) | (go_at_call 36; ((with_reducible refine (rdigit_any _ _).mono ?_); rintro e w' ⟨rfl, rfl⟩)))
    go_ret
    exact ⟨ret_bool HO.out.symm, rfl⟩
  · have HO := Lib.hid ho
    have hd' : dB c = true := by rw [hd]; simp; omega
    clear ho hd h3 h4
    go_enter Try.func33, Try.ntmps33
    go_wp2_with (first | (go_at_call 24; ((with_reducible refine (rsmall_any _ _).mono ?_); rintro e w' ⟨rfl, rfl⟩)) | (go_at_call 27; ((with_reducible refine (rgreat_any _ _).mono ?_); rintro e w' ⟨rfl, rfl⟩)) | (go_at_call 36; ((with_reducible refine (rdigit_any _ _).mono ?_); rintro e w' ⟨rfl, rfl⟩)))
    go_ret
    exact ⟨ret_bool HO.out.symm, rfl⟩
  · have HO := Lib.hid ho
    have hd' : dB c = false := by rw [hd]; simp; omega
    have g1 : ((c.toNat : Int) == 39) = true := by simp; omega
    clear ho hd h3
    go_enter Try.func33, Try.ntmps33
    go_wp2_with (first | (go_at_call 24; ((with_reducible refine (rsmall_any _ _).mono ?_); rintro e w' ⟨rfl, rfl⟩)) | (go_at_call 27; ((with_reducible refine (rgreat_any _ _).mono ?_); rintro e w' ⟨rfl, rfl⟩)) | (go_at_call 36; ((with_reducible refine (rdigit_any _ _).mono ?_); rintro e w' ⟨rfl, rfl⟩)))
    go_ret
    exact ⟨ret_bool HO.out.symm, rfl⟩
  · have HO := Lib.hid ho
    have hd' : dB c = false := by rw [hd]; simp; omega
    have g1 : ((c.toNat : Int) == 39) = false := beq_eq_false_iff_ne.2 (by omega)
    clear ho hd h3 h4
    go_enter Try.func33, Try.ntmps33
    go_wp2_with (first | (go_at_call 24; ((with_reducible refine (rsmall_any _ _).mono ?_); rintro e w' ⟨rfl, rfl⟩)) | (go_at_call 27; ((with_reducible refine (rgreat_any _ _).mono ?_); rintro e w' ⟨rfl, rfl⟩)) | (go_at_call 36; ((with_reducible refine (rdigit_any _ _).mono ?_); rintro e w' ⟨rfl, rfl⟩)))
    go_ret
    exact ⟨ret_bool HO.out.symm, rfl⟩
  · have HO := Lib.hid ho
    have hd' : dB c = false := by rw [hd]; simp; omega
    have g1 : ((c.toNat : Int) == 39) = false := beq_eq_false_iff_ne.2 (by omega)
    clear ho hd h3
    go_enter Try.func33, Try.ntmps33
    go_wp2_with (first | (go_at_call 24; ((with_reducible refine (rsmall_any _ _).mono ?_); rintro e w' ⟨rfl, rfl⟩)) | (go_at_call 27; ((with_reducible refine (rgreat_any _ _).mono ?_); rintro e w' ⟨rfl, rfl⟩)) | (go_at_call 36; ((with_reducible refine (rdigit_any _ _).mono ?_); rintro e w' ⟨rfl, rfl⟩)))
    go_ret
    exact ⟨ret_bool HO.out.symm, rfl⟩

theorem tail_next (s : ByteArray) (k : Nat) (h : k < s.size) (h0 : 1 ≤ k) (h1 : (s.data.toList.take k).tail.all onB = true) (h2 : onB s[k] = true) : (s.data.toList.take (k + 1)).tail.all onB = true := by
  rw [take_snoc s k h, List.tail_append_of_ne_nil (List.ne_nil_of_length_pos (by simp; omega)), List.all_append, h1]; simp [h2]
theorem tail_stop (s : ByteArray) (k : Nat) (h : k < s.size) (h0 : 1 ≤ k) (h2 : onB s[k] = false) : allB s.data.toList.tail = false := by
  unfold allB
  rw [Bool.eq_false_iff]; intro e
  have hm : s[k] ∈ s.data.toList.tail := by
    rw [List.mem_iff_getElem]
    exact ⟨k - 1, by simp; omega, by rw [List.getElem_tail]; show s.data.toList[k - 1 + 1]'_ = s[k]; congr 1; omega⟩
  rw [List.all_eq_true.1 e s[k] hm] at h2; cases h2
theorem tail_end (s : ByteArray) (k : Nat) (h : ¬ k < s.size) (h1 : (s.data.toList.take k).tail.all onB = true) : allB s.data.toList.tail = true := by
  unfold allB
  rwa [List.take_of_length_le (by simp; omega)] at h1

set_option maxRecDepth 100000 in
set_option maxHeartbeats 400000 in
theorem ron_any (s : ByteArray) (w : World) (hs : s.size ≤ maxLen) (h0 : 1 ≤ s.size) :
    Calls Try.prog 25 #[.string s] w fun e w' => e = .returned (.bool (allB s.data.toList.tail)) ∧ w = w' := by
  unfold maxLen at hs
  go_enter Try.func25, Try.ntmps25
  go_wp2
  go_loop [3] (fun i => ∃ k : Nat, 1 ≤ k ∧ k ≤ s.size ∧ i = .int .i64 k ∧ (s.data.toList.take k).tail.all onB = true) (fun i => s.size - (intOf i).toNat)
  case atStart => exact ⟨1, Nat.le_refl _, h0, rfl, by rcases s.data.toList with _ | ⟨a, l⟩ <;> simp⟩
  case round =>
    obtain ⟨k, hk0, hk, rfl, hall⟩ := hrel
    have HALL := Lib.hid hall
    clear hall
    by_cases hlt : k < s.size
    · have HN := Lib.hid (tail_next s k hlt hk0)
      have HS := Lib.hid (tail_stop s k hlt hk0)
      cases ho : onB s[k]
      · have HO := Lib.hid (HS.out ho)
        go_wp2_with (go_at_call 33; ((with_reducible refine (ron1_any _ _).mono ?_); rintro e w' ⟨rfl, rfl⟩))
        go_ret
        exact ⟨ret_bool HO.out.symm, rfl⟩
      · have HO := Lib.hid (HN.out HALL.out ho)
        go_wp2_with (go_at_call 33; ((with_reducible refine (ron1_any _ _).mono ?_); rintro e w' ⟨rfl, rfl⟩))
        go_round
        case rel => exact ⟨k + 1, by omega, by omega, by go_num, HO.out⟩
        case measure => simp [intOf]; omega
    · have HO := Lib.hid (tail_end s k hlt HALL.out)
      go_wp2
      go_ret
      exact ⟨ret_bool HO.out.symm, rfl⟩
end Go.Proofs.Ytfdbbammcppmnaa
