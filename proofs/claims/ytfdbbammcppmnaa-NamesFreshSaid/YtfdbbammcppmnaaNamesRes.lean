/-
  The walks of layer 3: words that are reserved.
-/
import Derived.Test.YtfdbbammcppmnaaNamesWalk
namespace Go.Proofs.Ytfdbbammcppmnaa
open Go.RowKit
set_option linter.unusedVariables false

theorem res_at (l : List UInt8) (k : Nat) (h : rsv[k]? = some l) : resB l = true := by
  unfold resB; simpa using List.mem_of_getElem? h
theorem res_none (l : List UInt8) (h : ∀ j, j < 11 → rsv[j]? ≠ some l) : resB l = false := by
  rw [Bool.eq_false_iff]; intro e
  have e' : l ∈ rsv := by simpa [resB] using e
  obtain ⟨j, hj, hh⟩ := List.getElem_of_mem e'
  exact h j hj (by rw [List.getElem?_eq_getElem hj, hh])
theorem res_next (l : List UInt8) (k : Nat) (h : ∀ j, j < k → rsv[j]? ≠ some l) (h1 : rsv[k]? ≠ some l) : ∀ j, j < k + 1 → rsv[j]? ≠ some l := by
  intro j hj
  by_cases e : j = k
  · subst e; exact h1
  · exact h j (by omega)

theorem rsv_0 : rsv[0]? = some [100, 97, 116, 97] := by decide +kernel
theorem rsv_1 : rsv[1]? = some [99, 108, 97, 115, 115] := by decide +kernel
theorem rsv_2 : rsv[2]? = some [105, 110, 115, 116, 97, 110, 99, 101] := by decide +kernel
theorem rsv_3 : rsv[3]? = some [119, 104, 101, 114, 101] := by decide +kernel
theorem rsv_4 : rsv[4]? = some [108, 101, 116] := by decide +kernel
theorem rsv_5 : rsv[5]? = some [105, 110] := by decide +kernel
theorem rsv_6 : rsv[6]? = some [99, 97, 115, 101] := by decide +kernel
theorem rsv_7 : rsv[7]? = some [111, 102] := by decide +kernel
theorem rsv_8 : rsv[8]? = some [105, 102] := by decide +kernel
theorem rsv_9 : rsv[9]? = some [116, 104, 101, 110] := by decide +kernel
theorem rsv_10 : rsv[10]? = some [101, 108, 115, 101] := by decide +kernel
theorem idx_0 (w : World) : (Instr.index 32 (.agg #[Value.string ⟨#[100, 97, 116, 97]⟩, Value.string ⟨#[99, 108, 97, 115, 115]⟩, Value.string ⟨#[105, 110, 115, 116, 97, 110, 99, 101]⟩, Value.string ⟨#[119, 104, 101, 114, 101]⟩, Value.string ⟨#[108, 101, 116]⟩, Value.string ⟨#[105, 110]⟩, Value.string ⟨#[99, 97, 115, 101]⟩, Value.string ⟨#[111, 102]⟩, Value.string ⟨#[105, 102]⟩, Value.string ⟨#[116, 104, 101, 110]⟩, Value.string ⟨#[101, 108, 115, 101]⟩]) (.int .i64 0)).run Try.prog w = .ok (Value.string ⟨#[100, 97, 116, 97]⟩) w := by kernel_rfl
theorem idx_1 (w : World) : (Instr.index 32 (.agg #[Value.string ⟨#[100, 97, 116, 97]⟩, Value.string ⟨#[99, 108, 97, 115, 115]⟩, Value.string ⟨#[105, 110, 115, 116, 97, 110, 99, 101]⟩, Value.string ⟨#[119, 104, 101, 114, 101]⟩, Value.string ⟨#[108, 101, 116]⟩, Value.string ⟨#[105, 110]⟩, Value.string ⟨#[99, 97, 115, 101]⟩, Value.string ⟨#[111, 102]⟩, Value.string ⟨#[105, 102]⟩, Value.string ⟨#[116, 104, 101, 110]⟩, Value.string ⟨#[101, 108, 115, 101]⟩]) (.int .i64 1)).run Try.prog w = .ok (Value.string ⟨#[99, 108, 97, 115, 115]⟩) w := by kernel_rfl
theorem idx_2 (w : World) : (Instr.index 32 (.agg #[Value.string ⟨#[100, 97, 116, 97]⟩, Value.string ⟨#[99, 108, 97, 115, 115]⟩, Value.string ⟨#[105, 110, 115, 116, 97, 110, 99, 101]⟩, Value.string ⟨#[119, 104, 101, 114, 101]⟩, Value.string ⟨#[108, 101, 116]⟩, Value.string ⟨#[105, 110]⟩, Value.string ⟨#[99, 97, 115, 101]⟩, Value.string ⟨#[111, 102]⟩, Value.string ⟨#[105, 102]⟩, Value.string ⟨#[116, 104, 101, 110]⟩, Value.string ⟨#[101, 108, 115, 101]⟩]) (.int .i64 2)).run Try.prog w = .ok (Value.string ⟨#[105, 110, 115, 116, 97, 110, 99, 101]⟩) w := by kernel_rfl
theorem idx_3 (w : World) : (Instr.index 32 (.agg #[Value.string ⟨#[100, 97, 116, 97]⟩, Value.string ⟨#[99, 108, 97, 115, 115]⟩, Value.string ⟨#[105, 110, 115, 116, 97, 110, 99, 101]⟩, Value.string ⟨#[119, 104, 101, 114, 101]⟩, Value.string ⟨#[108, 101, 116]⟩, Value.string ⟨#[105, 110]⟩, Value.string ⟨#[99, 97, 115, 101]⟩, Value.string ⟨#[111, 102]⟩, Value.string ⟨#[105, 102]⟩, Value.string ⟨#[116, 104, 101, 110]⟩, Value.string ⟨#[101, 108, 115, 101]⟩]) (.int .i64 3)).run Try.prog w = .ok (Value.string ⟨#[119, 104, 101, 114, 101]⟩) w := by kernel_rfl
theorem idx_4 (w : World) : (Instr.index 32 (.agg #[Value.string ⟨#[100, 97, 116, 97]⟩, Value.string ⟨#[99, 108, 97, 115, 115]⟩, Value.string ⟨#[105, 110, 115, 116, 97, 110, 99, 101]⟩, Value.string ⟨#[119, 104, 101, 114, 101]⟩, Value.string ⟨#[108, 101, 116]⟩, Value.string ⟨#[105, 110]⟩, Value.string ⟨#[99, 97, 115, 101]⟩, Value.string ⟨#[111, 102]⟩, Value.string ⟨#[105, 102]⟩, Value.string ⟨#[116, 104, 101, 110]⟩, Value.string ⟨#[101, 108, 115, 101]⟩]) (.int .i64 4)).run Try.prog w = .ok (Value.string ⟨#[108, 101, 116]⟩) w := by kernel_rfl
theorem idx_5 (w : World) : (Instr.index 32 (.agg #[Value.string ⟨#[100, 97, 116, 97]⟩, Value.string ⟨#[99, 108, 97, 115, 115]⟩, Value.string ⟨#[105, 110, 115, 116, 97, 110, 99, 101]⟩, Value.string ⟨#[119, 104, 101, 114, 101]⟩, Value.string ⟨#[108, 101, 116]⟩, Value.string ⟨#[105, 110]⟩, Value.string ⟨#[99, 97, 115, 101]⟩, Value.string ⟨#[111, 102]⟩, Value.string ⟨#[105, 102]⟩, Value.string ⟨#[116, 104, 101, 110]⟩, Value.string ⟨#[101, 108, 115, 101]⟩]) (.int .i64 5)).run Try.prog w = .ok (Value.string ⟨#[105, 110]⟩) w := by kernel_rfl
theorem idx_6 (w : World) : (Instr.index 32 (.agg #[Value.string ⟨#[100, 97, 116, 97]⟩, Value.string ⟨#[99, 108, 97, 115, 115]⟩, Value.string ⟨#[105, 110, 115, 116, 97, 110, 99, 101]⟩, Value.string ⟨#[119, 104, 101, 114, 101]⟩, Value.string ⟨#[108, 101, 116]⟩, Value.string ⟨#[105, 110]⟩, Value.string ⟨#[99, 97, 115, 101]⟩, Value.string ⟨#[111, 102]⟩, Value.string ⟨#[105, 102]⟩, Value.string ⟨#[116, 104, 101, 110]⟩, Value.string ⟨#[101, 108, 115, 101]⟩]) (.int .i64 6)).run Try.prog w = .ok (Value.string ⟨#[99, 97, 115, 101]⟩) w := by kernel_rfl
theorem idx_7 (w : World) : (Instr.index 32 (.agg #[Value.string ⟨#[100, 97, 116, 97]⟩, Value.string ⟨#[99, 108, 97, 115, 115]⟩, Value.string ⟨#[105, 110, 115, 116, 97, 110, 99, 101]⟩, Value.string ⟨#[119, 104, 101, 114, 101]⟩, Value.string ⟨#[108, 101, 116]⟩, Value.string ⟨#[105, 110]⟩, Value.string ⟨#[99, 97, 115, 101]⟩, Value.string ⟨#[111, 102]⟩, Value.string ⟨#[105, 102]⟩, Value.string ⟨#[116, 104, 101, 110]⟩, Value.string ⟨#[101, 108, 115, 101]⟩]) (.int .i64 7)).run Try.prog w = .ok (Value.string ⟨#[111, 102]⟩) w := by kernel_rfl
theorem idx_8 (w : World) : (Instr.index 32 (.agg #[Value.string ⟨#[100, 97, 116, 97]⟩, Value.string ⟨#[99, 108, 97, 115, 115]⟩, Value.string ⟨#[105, 110, 115, 116, 97, 110, 99, 101]⟩, Value.string ⟨#[119, 104, 101, 114, 101]⟩, Value.string ⟨#[108, 101, 116]⟩, Value.string ⟨#[105, 110]⟩, Value.string ⟨#[99, 97, 115, 101]⟩, Value.string ⟨#[111, 102]⟩, Value.string ⟨#[105, 102]⟩, Value.string ⟨#[116, 104, 101, 110]⟩, Value.string ⟨#[101, 108, 115, 101]⟩]) (.int .i64 8)).run Try.prog w = .ok (Value.string ⟨#[105, 102]⟩) w := by kernel_rfl
theorem idx_9 (w : World) : (Instr.index 32 (.agg #[Value.string ⟨#[100, 97, 116, 97]⟩, Value.string ⟨#[99, 108, 97, 115, 115]⟩, Value.string ⟨#[105, 110, 115, 116, 97, 110, 99, 101]⟩, Value.string ⟨#[119, 104, 101, 114, 101]⟩, Value.string ⟨#[108, 101, 116]⟩, Value.string ⟨#[105, 110]⟩, Value.string ⟨#[99, 97, 115, 101]⟩, Value.string ⟨#[111, 102]⟩, Value.string ⟨#[105, 102]⟩, Value.string ⟨#[116, 104, 101, 110]⟩, Value.string ⟨#[101, 108, 115, 101]⟩]) (.int .i64 9)).run Try.prog w = .ok (Value.string ⟨#[116, 104, 101, 110]⟩) w := by kernel_rfl
theorem idx_10 (w : World) : (Instr.index 32 (.agg #[Value.string ⟨#[100, 97, 116, 97]⟩, Value.string ⟨#[99, 108, 97, 115, 115]⟩, Value.string ⟨#[105, 110, 115, 116, 97, 110, 99, 101]⟩, Value.string ⟨#[119, 104, 101, 114, 101]⟩, Value.string ⟨#[108, 101, 116]⟩, Value.string ⟨#[105, 110]⟩, Value.string ⟨#[99, 97, 115, 101]⟩, Value.string ⟨#[111, 102]⟩, Value.string ⟨#[105, 102]⟩, Value.string ⟨#[116, 104, 101, 110]⟩, Value.string ⟨#[101, 108, 115, 101]⟩]) (.int .i64 10)).run Try.prog w = .ok (Value.string ⟨#[101, 108, 115, 101]⟩) w := by kernel_rfl

set_option maxRecDepth 100000 in
set_option maxHeartbeats 1000000 in
theorem reserved_any (s : ByteArray) (w : World) :
    Calls Try.prog 12 #[.string s] w fun e w' => e = .returned (.bool (resB s.data.toList)) ∧ w = w' := by
  go_enter Try.func12, Try.ntmps12
  go_wp2
  go_step3
  go_wp2
  go_step3
  go_wp2
  go_loop [3, 7] (fun v i => v = .bool false ∧ ∃ k : Nat, k ≤ 11 ∧ i = .int .i64 k ∧ ∀ j, j < k → rsv[j]? ≠ some s.data.toList) (fun _ i => 11 - (intOf i).toNat)
  case atStart => exact ⟨rfl, 0, Nat.zero_le _, rfl, fun j h => by omega⟩
  case round =>
    obtain ⟨rfl, k, hk, rfl, hall⟩ := hrel
    have HALL := Lib.hid hall
    clear hall
    rcases (show k = 0 ∨ k = 1 ∨ k = 2 ∨ k = 3 ∨ k = 4 ∨ k = 5 ∨ k = 6 ∨ k = 7 ∨ k = 8 ∨ k = 9 ∨ k = 10 ∨ k = 11 by omega) with rfl | rfl | rfl | rfl | rfl | rfl | rfl | rfl | rfl | rfl | rfl | rfl
    · clear hk
      have hix := idx_0
      by_cases he : s.data.toList = [100, 97, 116, 97]
      · have HO := Lib.hid (res_at s.data.toList 0 (by rw [he]; exact rsv_0))
        obtain rfl : s = ⟨#[100, 97, 116, 97]⟩ := by cases s with | mk d => cases d; simp at he; simp [he]
        clear he
        go_wp2
        try rw [Exit.noGoto_ret]
        go_ret
        exact ⟨ret_bool HO.out.symm, rfl⟩
      · have HN := Lib.hid (res_next s.data.toList 0 HALL.out (by rw [rsv_0]; intro e; exact he (Option.some.inj e).symm))
        have g1 : ([100, 97, 116, 97] == s.toList) = false := by rw [beq_eq_false_iff_ne, ByteArray.toList_eq]; exact fun e => he e.symm
        have g2 : (s.toList == [100, 97, 116, 97]) = false := by rw [beq_eq_false_iff_ne, ByteArray.toList_eq]; exact he
        have g3 : ([100, 97, 116, 97] != s.toList) = true := by rw [bne_iff_ne, ByteArray.toList_eq]; exact fun e => he e.symm
        clear he
        go_wp2
        go_round
        case rel => exact ⟨rfl, 1, by omega, rfl, HN.out⟩
        case measure => simp [intOf]
    · clear hk
      have hix := idx_1
      by_cases he : s.data.toList = [99, 108, 97, 115, 115]
      · have HO := Lib.hid (res_at s.data.toList 1 (by rw [he]; exact rsv_1))
        obtain rfl : s = ⟨#[99, 108, 97, 115, 115]⟩ := by cases s with | mk d => cases d; simp at he; simp [he]
        clear he
        go_wp2
        try rw [Exit.noGoto_ret]
        go_ret
        exact ⟨ret_bool HO.out.symm, rfl⟩
      · have HN := Lib.hid (res_next s.data.toList 1 HALL.out (by rw [rsv_1]; intro e; exact he (Option.some.inj e).symm))
        have g1 : ([99, 108, 97, 115, 115] == s.toList) = false := by rw [beq_eq_false_iff_ne, ByteArray.toList_eq]; exact fun e => he e.symm
        have g2 : (s.toList == [99, 108, 97, 115, 115]) = false := by rw [beq_eq_false_iff_ne, ByteArray.toList_eq]; exact he
        have g3 : ([99, 108, 97, 115, 115] != s.toList) = true := by rw [bne_iff_ne, ByteArray.toList_eq]; exact fun e => he e.symm
        clear he
        go_wp2
        go_round
        case rel => exact ⟨rfl, 2, by omega, rfl, HN.out⟩
        case measure => simp [intOf]
    · clear hk
      have hix := idx_2
      by_cases he : s.data.toList = [105, 110, 115, 116, 97, 110, 99, 101]
      · have HO := Lib.hid (res_at s.data.toList 2 (by rw [he]; exact rsv_2))
        obtain rfl : s = ⟨#[105, 110, 115, 116, 97, 110, 99, 101]⟩ := by cases s with | mk d => cases d; simp at he; simp [he]
        clear he
        go_wp2
        try rw [Exit.noGoto_ret]
        go_ret
        exact ⟨ret_bool HO.out.symm, rfl⟩
      · have HN := Lib.hid (res_next s.data.toList 2 HALL.out (by rw [rsv_2]; intro e; exact he (Option.some.inj e).symm))
        have g1 : ([105, 110, 115, 116, 97, 110, 99, 101] == s.toList) = false := by rw [beq_eq_false_iff_ne, ByteArray.toList_eq]; exact fun e => he e.symm
        have g2 : (s.toList == [105, 110, 115, 116, 97, 110, 99, 101]) = false := by rw [beq_eq_false_iff_ne, ByteArray.toList_eq]; exact he
        have g3 : ([105, 110, 115, 116, 97, 110, 99, 101] != s.toList) = true := by rw [bne_iff_ne, ByteArray.toList_eq]; exact fun e => he e.symm
        clear he
        go_wp2
        go_round
        case rel => exact ⟨rfl, 3, by omega, rfl, HN.out⟩
        case measure => simp [intOf]
    · clear hk
      have hix := idx_3
      by_cases he : s.data.toList = [119, 104, 101, 114, 101]
      · have HO := Lib.hid (res_at s.data.toList 3 (by rw [he]; exact rsv_3))
        obtain rfl : s = ⟨#[119, 104, 101, 114, 101]⟩ := by cases s with | mk d => cases d; simp at he; simp [he]
        clear he
        go_wp2
        try rw [Exit.noGoto_ret]
        go_ret
        exact ⟨ret_bool HO.out.symm, rfl⟩
      · have HN := Lib.hid (res_next s.data.toList 3 HALL.out (by rw [rsv_3]; intro e; exact he (Option.some.inj e).symm))
        have g1 : ([119, 104, 101, 114, 101] == s.toList) = false := by rw [beq_eq_false_iff_ne, ByteArray.toList_eq]; exact fun e => he e.symm
        have g2 : (s.toList == [119, 104, 101, 114, 101]) = false := by rw [beq_eq_false_iff_ne, ByteArray.toList_eq]; exact he
        have g3 : ([119, 104, 101, 114, 101] != s.toList) = true := by rw [bne_iff_ne, ByteArray.toList_eq]; exact fun e => he e.symm
        clear he
        go_wp2
        go_round
        case rel => exact ⟨rfl, 4, by omega, rfl, HN.out⟩
        case measure => simp [intOf]
    · clear hk
      have hix := idx_4
      by_cases he : s.data.toList = [108, 101, 116]
      · have HO := Lib.hid (res_at s.data.toList 4 (by rw [he]; exact rsv_4))
        obtain rfl : s = ⟨#[108, 101, 116]⟩ := by cases s with | mk d => cases d; simp at he; simp [he]
        clear he
        go_wp2
        try rw [Exit.noGoto_ret]
        go_ret
        exact ⟨ret_bool HO.out.symm, rfl⟩
      · have HN := Lib.hid (res_next s.data.toList 4 HALL.out (by rw [rsv_4]; intro e; exact he (Option.some.inj e).symm))
        have g1 : ([108, 101, 116] == s.toList) = false := by rw [beq_eq_false_iff_ne, ByteArray.toList_eq]; exact fun e => he e.symm
        have g2 : (s.toList == [108, 101, 116]) = false := by rw [beq_eq_false_iff_ne, ByteArray.toList_eq]; exact he
        have g3 : ([108, 101, 116] != s.toList) = true := by rw [bne_iff_ne, ByteArray.toList_eq]; exact fun e => he e.symm
        clear he
        go_wp2
        go_round
        case rel => exact ⟨rfl, 5, by omega, rfl, HN.out⟩
        case measure => simp [intOf]
    · clear hk
      have hix := idx_5
      by_cases he : s.data.toList = [105, 110]
      · have HO := Lib.hid (res_at s.data.toList 5 (by rw [he]; exact rsv_5))
        obtain rfl : s = ⟨#[105, 110]⟩ := by cases s with | mk d => cases d; simp at he; simp [he]
        clear he
        go_wp2
        try rw [Exit.noGoto_ret]
        go_ret
        exact ⟨ret_bool HO.out.symm, rfl⟩
      · have HN := Lib.hid (res_next s.data.toList 5 HALL.out (by rw [rsv_5]; intro e; exact he (Option.some.inj e).symm))
        have g1 : ([105, 110] == s.toList) = false := by rw [beq_eq_false_iff_ne, ByteArray.toList_eq]; exact fun e => he e.symm
        have g2 : (s.toList == [105, 110]) = false := by rw [beq_eq_false_iff_ne, ByteArray.toList_eq]; exact he
        have g3 : ([105, 110] != s.toList) = true := by rw [bne_iff_ne, ByteArray.toList_eq]; exact fun e => he e.symm
        clear he
        go_wp2
        go_round
        case rel => exact ⟨rfl, 6, by omega, rfl, HN.out⟩
        case measure => simp [intOf]
    · clear hk
      have hix := idx_6
      by_cases he : s.data.toList = [99, 97, 115, 101]
      · have HO := Lib.hid (res_at s.data.toList 6 (by rw [he]; exact rsv_6))
        obtain rfl : s = ⟨#[99, 97, 115, 101]⟩ := by cases s with | mk d => cases d; simp at he; simp [he]
        clear he
        go_wp2
        try rw [Exit.noGoto_ret]
        go_ret
        exact ⟨ret_bool HO.out.symm, rfl⟩
      · have HN := Lib.hid (res_next s.data.toList 6 HALL.out (by rw [rsv_6]; intro e; exact he (Option.some.inj e).symm))
        have g1 : ([99, 97, 115, 101] == s.toList) = false := by rw [beq_eq_false_iff_ne, ByteArray.toList_eq]; exact fun e => he e.symm
        have g2 : (s.toList == [99, 97, 115, 101]) = false := by rw [beq_eq_false_iff_ne, ByteArray.toList_eq]; exact he
        have g3 : ([99, 97, 115, 101] != s.toList) = true := by rw [bne_iff_ne, ByteArray.toList_eq]; exact fun e => he e.symm
        clear he
        go_wp2
        go_round
        case rel => exact ⟨rfl, 7, by omega, rfl, HN.out⟩
        case measure => simp [intOf]
    · clear hk
      have hix := idx_7
      by_cases he : s.data.toList = [111, 102]
      · have HO := Lib.hid (res_at s.data.toList 7 (by rw [he]; exact rsv_7))
        obtain rfl : s = ⟨#[111, 102]⟩ := by cases s with | mk d => cases d; simp at he; simp [he]
        clear he
        go_wp2
        try rw [Exit.noGoto_ret]
        go_ret
        exact ⟨ret_bool HO.out.symm, rfl⟩
      · have HN := Lib.hid (res_next s.data.toList 7 HALL.out (by rw [rsv_7]; intro e; exact he (Option.some.inj e).symm))
        have g1 : ([111, 102] == s.toList) = false := by rw [beq_eq_false_iff_ne, ByteArray.toList_eq]; exact fun e => he e.symm
        have g2 : (s.toList == [111, 102]) = false := by rw [beq_eq_false_iff_ne, ByteArray.toList_eq]; exact he
        have g3 : ([111, 102] != s.toList) = true := by rw [bne_iff_ne, ByteArray.toList_eq]; exact fun e => he e.symm
        clear he
        go_wp2
        go_round
        case rel => exact ⟨rfl, 8, by omega, rfl, HN.out⟩
        case measure => simp [intOf]
    · clear hk
      have hix := idx_8
      by_cases he : s.data.toList = [105, 102]
      · have HO := Lib.hid (res_at s.data.toList 8 (by rw [he]; exact rsv_8))
        obtain rfl : s = ⟨#[105, 102]⟩ := by cases s with | mk d => cases d; simp at he; simp [he]
        clear he
        go_wp2
        try rw [Exit.noGoto_ret]
        go_ret
        exact ⟨ret_bool HO.out.symm, rfl⟩
      · have HN := Lib.hid (res_next s.data.toList 8 HALL.out (by rw [rsv_8]; intro e; exact he (Option.some.inj e).symm))
        have g1 : ([105, 102] == s.toList) = false := by rw [beq_eq_false_iff_ne, ByteArray.toList_eq]; exact fun e => he e.symm
        have g2 : (s.toList == [105, 102]) = false := by rw [beq_eq_false_iff_ne, ByteArray.toList_eq]; exact he
        have g3 : ([105, 102] != s.toList) = true := by rw [bne_iff_ne, ByteArray.toList_eq]; exact fun e => he e.symm
        clear he
        go_wp2
        go_round
        case rel => exact ⟨rfl, 9, by omega, rfl, HN.out⟩
        case measure => simp [intOf]
    · clear hk
      have hix := idx_9
      by_cases he : s.data.toList = [116, 104, 101, 110]
      · have HO := Lib.hid (res_at s.data.toList 9 (by rw [he]; exact rsv_9))
        obtain rfl : s = ⟨#[116, 104, 101, 110]⟩ := by cases s with | mk d => cases d; simp at he; simp [he]
        clear he
        go_wp2
        try rw [Exit.noGoto_ret]
        go_ret
        exact ⟨ret_bool HO.out.symm, rfl⟩
      · have HN := Lib.hid (res_next s.data.toList 9 HALL.out (by rw [rsv_9]; intro e; exact he (Option.some.inj e).symm))
        have g1 : ([116, 104, 101, 110] == s.toList) = false := by rw [beq_eq_false_iff_ne, ByteArray.toList_eq]; exact fun e => he e.symm
        have g2 : (s.toList == [116, 104, 101, 110]) = false := by rw [beq_eq_false_iff_ne, ByteArray.toList_eq]; exact he
        have g3 : ([116, 104, 101, 110] != s.toList) = true := by rw [bne_iff_ne, ByteArray.toList_eq]; exact fun e => he e.symm
        clear he
        go_wp2
        go_round
        case rel => exact ⟨rfl, 10, by omega, rfl, HN.out⟩
        case measure => simp [intOf]
    · clear hk
      have hix := idx_10
      by_cases he : s.data.toList = [101, 108, 115, 101]
      · have HO := Lib.hid (res_at s.data.toList 10 (by rw [he]; exact rsv_10))
        obtain rfl : s = ⟨#[101, 108, 115, 101]⟩ := by cases s with | mk d => cases d; simp at he; simp [he]
        clear he
        go_wp2
        try rw [Exit.noGoto_ret]
        go_ret
        exact ⟨ret_bool HO.out.symm, rfl⟩
      · have HN := Lib.hid (res_next s.data.toList 10 HALL.out (by rw [rsv_10]; intro e; exact he (Option.some.inj e).symm))
        have g1 : ([101, 108, 115, 101] == s.toList) = false := by rw [beq_eq_false_iff_ne, ByteArray.toList_eq]; exact fun e => he e.symm
        have g2 : (s.toList == [101, 108, 115, 101]) = false := by rw [beq_eq_false_iff_ne, ByteArray.toList_eq]; exact he
        have g3 : ([101, 108, 115, 101] != s.toList) = true := by rw [bne_iff_ne, ByteArray.toList_eq]; exact fun e => he e.symm
        clear he
        go_wp2
        go_round
        case rel => exact ⟨rfl, 11, by omega, rfl, HN.out⟩
        case measure => simp [intOf]
    · have HO := Lib.hid (res_none s.data.toList HALL.out)
      go_wp2
      try rw [Exit.noGoto_ret]
      go_ret
      exact ⟨ret_bool HO.out.symm, rfl⟩

set_option maxRecDepth 100000 in
set_option maxHeartbeats 1000000 in
theorem rreserved_any (s : ByteArray) (w : World) :
    Calls Try.prog 13 #[.string s] w fun e w' => e = .returned (.bool (resB s.data.toList)) ∧ w = w' := by
  by_cases hr : resB s.data.toList = true
  · have HO := Lib.hid hr
    have hm : s.data.toList ∈ rsv := by simpa [resB] using hr
    clear hr
    simp only [rsv, List.mem_cons, List.not_mem_nil, or_false] at hm
    rcases hm with he | he | he | he | he | he | he | he | he | he | he
    · obtain rfl : s = ⟨#[100, 97, 116, 97]⟩ := by cases s with | mk d => cases d; simp at he; simp [he]
      clear he
      go_enter Try.func13, Try.ntmps13
      go_wp2
      go_ret
      exact ⟨ret_bool HO.out.symm, rfl⟩
    · obtain rfl : s = ⟨#[99, 108, 97, 115, 115]⟩ := by cases s with | mk d => cases d; simp at he; simp [he]
      clear he
      go_enter Try.func13, Try.ntmps13
      go_wp2
      go_ret
      exact ⟨ret_bool HO.out.symm, rfl⟩
    · obtain rfl : s = ⟨#[105, 110, 115, 116, 97, 110, 99, 101]⟩ := by cases s with | mk d => cases d; simp at he; simp [he]
      clear he
      go_enter Try.func13, Try.ntmps13
      go_wp2
      go_ret
      exact ⟨ret_bool HO.out.symm, rfl⟩
    · obtain rfl : s = ⟨#[119, 104, 101, 114, 101]⟩ := by cases s with | mk d => cases d; simp at he; simp [he]
      clear he
      go_enter Try.func13, Try.ntmps13
      go_wp2
      go_ret
      exact ⟨ret_bool HO.out.symm, rfl⟩
    · obtain rfl : s = ⟨#[108, 101, 116]⟩ := by cases s with | mk d => cases d; simp at he; simp [he]
      clear he
      go_enter Try.func13, Try.ntmps13
      go_wp2
      go_ret
      exact ⟨ret_bool HO.out.symm, rfl⟩
    · obtain rfl : s = ⟨#[105, 110]⟩ := by cases s with | mk d => cases d; simp at he; simp [he]
      clear he
      go_enter Try.func13, Try.ntmps13
      go_wp2
      go_ret
      exact ⟨ret_bool HO.out.symm, rfl⟩
    · obtain rfl : s = ⟨#[99, 97, 115, 101]⟩ := by cases s with | mk d => cases d; simp at he; simp [he]
      clear he
      go_enter Try.func13, Try.ntmps13
      go_wp2
      go_ret
      exact ⟨ret_bool HO.out.symm, rfl⟩
    · obtain rfl : s = ⟨#[111, 102]⟩ := by cases s with | mk d => cases d; simp at he; simp [he]
      clear he
      go_enter Try.func13, Try.ntmps13
      go_wp2
      go_ret
      exact ⟨ret_bool HO.out.symm, rfl⟩
    · obtain rfl : s = ⟨#[105, 102]⟩ := by cases s with | mk d => cases d; simp at he; simp [he]
      clear he
      go_enter Try.func13, Try.ntmps13
      go_wp2
      go_ret
      exact ⟨ret_bool HO.out.symm, rfl⟩
    · obtain rfl : s = ⟨#[116, 104, 101, 110]⟩ := by cases s with | mk d => cases d; simp at he; simp [he]
      clear he
      go_enter Try.func13, Try.ntmps13
      go_wp2
      go_ret
      exact ⟨ret_bool HO.out.symm, rfl⟩
    · obtain rfl : s = ⟨#[101, 108, 115, 101]⟩ := by cases s with | mk d => cases d; simp at he; simp [he]
      clear he
      go_enter Try.func13, Try.ntmps13
      go_wp2
      go_ret
      exact ⟨ret_bool HO.out.symm, rfl⟩
  · have hr' : resB s.data.toList = false := by simpa using hr
    have HO := Lib.hid hr'
    have HM : ∀ l ∈ rsv, (s.toList == l) = false := by
      intro l hl
      rw [beq_eq_false_iff_ne, ByteArray.toList_eq]; rintro rfl; exact hr (by simpa [resB] using hl)
    have g0 := HM [100, 97, 116, 97] (by decide +kernel)
    have g1 := HM [99, 108, 97, 115, 115] (by decide +kernel)
    have g2 := HM [105, 110, 115, 116, 97, 110, 99, 101] (by decide +kernel)
    have g3 := HM [119, 104, 101, 114, 101] (by decide +kernel)
    have g4 := HM [108, 101, 116] (by decide +kernel)
    have g5 := HM [105, 110] (by decide +kernel)
    have g6 := HM [99, 97, 115, 101] (by decide +kernel)
    have g7 := HM [111, 102] (by decide +kernel)
    have g8 := HM [105, 102] (by decide +kernel)
    have g9 := HM [116, 104, 101, 110] (by decide +kernel)
    have g10 := HM [101, 108, 115, 101] (by decide +kernel)
    clear hr hr' HM
    go_enter Try.func13, Try.ntmps13
    go_wp2
    go_ret
    exact ⟨ret_bool HO.out.symm, rfl⟩
end Go.Proofs.Ytfdbbammcppmnaa
