/-
  The walks of the reference of layer 2: size, Text, Read.
-/
import Derived.Test.YtfdbbammcppmnaaIntsText
import Derived.Test.YtfdbbammcppmnaaIntsRead
import Derived.Lib.SlBytesConst
namespace Go.Proofs.Ytfdbbammcppmnaa
open Go.RowKit
set_option linter.unusedVariables false

theorem ret_int {k : IntKind} {a b : Int} (h : a = b) : Ending.returned (.int k a) = .returned (.int k b) := by rw [h]

/-- One byte as a text. -/
theorem conv1 (w : World) (n : Int) (c : UInt8) (h : n = (c.toNat : Int)) :
    (convert 33 9 (.slice (some ⟨w.heap.size, 0, none⟩) 1 1)).run Try.prog (w.alloc (.cells #[.int .u8 n] 5)) = .ok (.string (bs [c])) (w.alloc (.cells #[.int .u8 n] 5)) := by
  subst h
  exact run_convert_bytes_back (P := Try.prog) (w.alloc (.cells #[.int .u8 (c.toNat : Int)] 5)) 33 9 5 ⟨w.heap.size, 0, none⟩ 1 [c] Try.underlying33 Try.underlying5 Try.underlying9 (by
    intro j hj
    rw [addr_add, World.cell?_alloc_mark]
    simp at hj; subst hj; rfl)

theorem acc_len {U u : Nat} {acc : List UInt8} (hU : U ≤ 9223372036854775808) (h : digs U = digs u ++ acc) : acc.length ≤ 19 := by
  have h1 := digs_len 20 U (by omega) (by omega)
  have h2 : 0 < (digs u).length := List.length_pos_iff.2 (digs_ne u)
  rw [h, List.length_append] at h1
  omega

set_option maxRecDepth 100000 in
set_option maxHeartbeats 400000 in
theorem rsize_any (n : Int) (w : World) (h0 : -9223372036854775808 ≤ n) (h1 : n ≤ 9223372036854775807) :
    Calls Try.prog 34 #[.int .i64 n] w fun e w' => e = .returned (.int .u64 (n.natAbs : Int)) ∧ w = w' := by
  by_cases h : n < 0
  · have HW := Lib.hid (neg_wrap n h h0)
    go_enter Try.func34, Try.ntmps34
    go_wp2
    go_ret
    exact ⟨ret_int HW.out, rfl⟩
  · have HA := Lib.hid (show ((n.natAbs : Nat) : Int) = n by omega)
    go_enter Try.func34, Try.ntmps34
    go_wp2
    go_ret
    exact ⟨ret_int HA.out.symm, rfl⟩

set_option maxRecDepth 100000 in
set_option maxHeartbeats 400000 in
theorem rtext_any (n : Int) (w : World) (h0 : -9223372036854775808 ≤ n) (h1 : n ≤ 9223372036854775807) :
    Calls Try.prog 29 #[.int .i64 n] w fun e w' => e = .returned (.string (bs (itoa n))) ∧ Below w.heap.size w w' := by
  have hU : n.natAbs ≤ 9223372036854775808 := by omega
  have HS := Lib.hid (fun w => rsize_any n w h0 h1)
  have HI := Lib.hid (show itoa n = if n < 0 then 45 :: digs n.natAbs else digs n.natAbs from rfl)
  generalize n.natAbs = U at *
  go_enter Try.func29, Try.ntmps29
  go_wp2_with (go_at_call 34; ((with_reducible refine (HS.out _).mono ?_); rintro e w' ⟨rfl, rfl⟩))
  go_loopw [3, 4] (fun v3 v4 wr => ∃ (u : Nat) (acc : List UInt8), u ≤ U ∧ digs U = digs u ++ acc ∧ v3 = .int .u64 u ∧ v4 = .string (bs acc) ∧ Below w.heap.size w wr) (fun v3 _ _ => (intOf v3).toNat)
  case atStart => exact ⟨U, [], Nat.le_refl _, by simp, rfl, rfl, Below.refl _ _⟩
  case round =>
    obtain ⟨u, acc, huU, hd, rfl, rfl, hb⟩ := hrel
    have hal := acc_len hU hd
    have had := fun W => run_string_add_sum (P := Try.prog) W (bs [dg u]) (bs acc) (by rw [bs_size, bs_size]; simp; omega)
    have had2 := fun W => run_string_add_sum (P := Try.prog) W (⟨#[45]⟩ : ByteArray) (bs [dg u] ++ bs acc) (by rw [bs_append, bs_size]; simp [ByteArray.size]; omega)
    have HD := Lib.hid hd
    clear hd
    by_cases hlt : u < 10
    · have hcv := conv1 wr (48 + (u : Int)) (dg u) (by rw [dg_toNat]; omega)
      have HE : Hid (digs U = dg u :: acc) := by have := HD.out; rw [digs_small u hlt] at this; exact this
      by_cases hneg : n < 0
      · have hneg' : decide (n < 0) = true := by simpa using hneg
        go_wp2
        go_ret
        refine ⟨?_, hb.alloc hb.size _⟩
        rw [HI.out, if_pos hneg, HE.out]
        exact congrArg (fun s => Ending.returned (.string s)) (by rw [bs_append]; exact bs_append [45] _)
      · have hneg' : decide (n < 0) = false := by simpa using hneg
        go_wp2
        go_ret
        refine ⟨?_, hb.alloc hb.size _⟩
        rw [HI.out, if_neg (by omega), HE.out]
        exact congrArg (fun s => Ending.returned (.string s)) (by rw [bs_append]; rfl)
    · have hcv := conv1 wr (48 + (u : Int) % 10) (dg u) (by rw [dg_toNat]; omega)
      go_wp2
      exact ⟨⟨u / 10, dg u :: acc, by omega, by rw [HD.out, digs_big u hlt]; simp, by go_num, congrArg Value.string (bs_append _ _), hb.alloc hb.size _⟩, by simp [intOf]; omega⟩

set_option maxRecDepth 100000 in
set_option maxHeartbeats 400000 in
theorem rread_bad (s : ByteArray) (w : World) (hs : s.size ≤ maxLen) (hb : ¬ (s.data.toList.all dB = true ∧ s.data.toList ≠ [])) :
    Calls Try.prog 31 #[.string s] w fun e w' => e = .returned (.tuple #[.int .i64 (readN s.data.toList), .int .i64 (readE s.data.toList)]) ∧ w = w' := by
  unfold maxLen at hs
  have HR := Lib.hid (read_of_bad hb)
  by_cases hn : s.data.toList = []
  · have hne : s.toList.isEmpty = true := by rw [ByteArray.toList_eq]; simpa using hn
    clear hb hn
    go_enter Try.func31, Try.ntmps31
    go_wp2
    go_ret2
    rw [HR.out.1, HR.out.2]; exact ⟨rfl, rfl⟩
  · have hne : s.toList.isEmpty = false := by rw [ByteArray.toList_eq]; simpa using hn
    have HB := Lib.hid (show ¬ s.data.toList.all dB = true from fun h => hb ⟨h, hn⟩)
    clear hb hn
    go_enter Try.func31, Try.ntmps31
    go_wp2
    go_loop [4] (fun i => ∃ k : Nat, k ≤ s.size ∧ i = .int .i64 k ∧ (s.data.toList.take k).all dB = true) (fun i => s.size - (intOf i).toNat)
    case atStart => exact ⟨0, Nat.zero_le _, rfl, by simp⟩
    case round =>
      obtain ⟨k, hk, rfl, hall⟩ := hrel
      have HALL := Lib.hid hall
      clear hall
      by_cases hlt : k < s.size
      · have HT := Lib.hid (take_snoc s k hlt)
        by_cases hd : dB s[k] = true
        · obtain ⟨hd1, hd2⟩ := dB_true hd
          have HD := Lib.hid hd
          clear hd
          go_wp2
          go_round
          case rel => exact ⟨k + 1, by omega, by go_num, by rw [HT.out, List.all_append, HALL.out]; simp [HD.out]⟩
          case measure => simp [intOf]; omega
        · rcases dB_false hd with hd1 | hd1
          · clear hd
            go_wp2
            go_ret2
            rw [HR.out.1, HR.out.2]; exact ⟨rfl, rfl⟩
          · clear hd
            go_wp2
            go_ret2
            rw [HR.out.1, HR.out.2]; exact ⟨rfl, rfl⟩
      · exfalso
        have h1 := HALL.out
        rw [List.take_of_length_le (by simp; omega)] at h1
        exact HB.out h1

set_option maxRecDepth 100000 in
set_option maxHeartbeats 400000 in
theorem rread_good (s : ByteArray) (w : World) (hs : s.size ≤ maxLen) (hb : s.data.toList.all dB = true) (hn : s.data.toList ≠ []) :
    Calls Try.prog 31 #[.string s] w fun e w' => e = .returned (.tuple #[.int .i64 (readN s.data.toList), .int .i64 (readE s.data.toList)]) ∧ w = w' := by
  unfold maxLen at hs
  have HD : ∀ k (h : k < s.size), 48 ≤ s[k].toNat ∧ s[k].toNat ≤ 57 := by
    intro k h
    exact dB_true (List.all_eq_true.1 hb s[k] (List.getElem_mem (l := s.data.toList) (by simpa using h)))
  have HD := Lib.hid HD
  have hne : s.toList.isEmpty = false := by rw [ByteArray.toList_eq]; simpa using hn
  have HS := Lib.hid (fun m => read_of_some hb hn (m := m))
  have HN := Lib.hid (read_of_none hb hn)
  clear hb hn
  go_enter Try.func31, Try.ntmps31
  go_wp2
  go_loop [4] (fun i => ∃ k : Nat, k ≤ s.size ∧ i = .int .i64 k) (fun i => s.size - (intOf i).toNat)
  case atStart => exact ⟨0, Nat.zero_le _, rfl⟩
  case round =>
    obtain ⟨k, hk, rfl⟩ := hrel
    by_cases hlt : k < s.size
    · obtain ⟨hd1, hd2⟩ := HD.out k hlt
      go_wp2
      go_round
      case rel => exact ⟨k + 1, by omega, by go_num⟩
      case measure => simp [intOf]; omega
    · go_wp2
      go_loop [5, 6] (fun v5 v6 => ∃ (n j : Nat), j ≤ s.size ∧ n ≤ mxN ∧ v5 = .int .i64 n ∧ v6 = .int .i64 j ∧ rdOn 0 s.data.toList = rdOn n (s.data.toList.drop j)) (fun _ v6 => s.size - (intOf v6).toNat)
      case atStart => exact ⟨0, 0, Nat.zero_le _, Nat.zero_le _, rfl, rfl, by simp⟩
      case round =>
        obtain ⟨n, j, hj, hn, rfl, rfl, hrd⟩ := hrel
        have HR := Lib.hid hrd
        clear hrd
        unfold mxN at hn
        by_cases hlj : j < s.size
        · obtain ⟨hd1, hd2⟩ := HD.out j hlj
          by_cases ho : (9223372036854775807 - ((s[j].toNat : Int) - 48)) / 10 < (n : Int)
          · have HX := Lib.hid (rd_over s j n hlj ⟨hd1, hd2⟩ ho)
            go_wp2
            go_ret2
            have h1 := HN.out (HR.out.trans HX.out)
            exact ⟨ret2_eq h1.1.symm h1.2.symm, rfl⟩
          · have HX := Lib.hid (rd_next s j n hlj ⟨hd1, hd2⟩ ho)
            go_wp2
            go_round
            case rel => exact ⟨10 * n + (s[j].toNat - 48), j + 1, by omega, by simp only [mxN]; omega, congrArg (Value.int .i64) (by omega), by go_num, HR.out.trans HX.out⟩
            case measure => simp [intOf]; omega
        · go_wp2
          go_ret2
          have h1 := HS.out n (HR.out.trans (rd_last s _ _ hlj))
          exact ⟨ret2_eq h1.1.symm h1.2.symm, rfl⟩

/-- The reference's Read, at any text. -/
theorem rread_any (s : ByteArray) (w : World) (hs : s.size ≤ maxLen) :
    Calls Try.prog 31 #[.string s] w fun e w' => e = .returned (.tuple #[.int .i64 (readN s.data.toList), .int .i64 (readE s.data.toList)]) ∧ w = w' := by
  by_cases h : s.data.toList.all dB = true ∧ s.data.toList ≠ []
  · exact rread_good s w hs h.1 h.2
  · exact rread_bad s w hs h
end Go.Proofs.Ytfdbbammcppmnaa
