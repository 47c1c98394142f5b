/-
  The walk of ints.Read: the number of any text, or the error.
-/
import Derived.Test.YtfdbbammcppmnaaChecked
import Derived.Test.YtfdbbammcppmnaaIntsPlain
import Derived.WalkKit
import Derived.ProofKit
import Derived.WalkLawsBesides
import Derived.WalkSpells
import Derived.Outline
import Derived.Lib.Hide
import Derived.ScopeJumps
namespace Go.Proofs.Ytfdbbammcppmnaa
open Go.RowKit
set_option linter.unusedVariables false

theorem dB_true {c : UInt8} (h : dB c = true) : 48 ≤ c.toNat ∧ c.toNat ≤ 57 := by simpa [dB] using h
theorem dB_false {c : UInt8} (h : ¬ dB c = true) : c.toNat < 48 ∨ 57 < c.toNat := by simp [dB] at h; omega

theorem take_snoc (s : ByteArray) (k : Nat) (h : k < s.size) : s.data.toList.take (k + 1) = s.data.toList.take k ++ [s[k]] := by
  rw [List.take_succ_eq_append_getElem (by simpa using h)]; rfl

theorem read_of_bad {l : List UInt8} (h : ¬ (l.all dB = true ∧ l ≠ [])) : readN l = 0 ∧ readE l = 5 := by
  have : (l.all dB && !l.isEmpty) = false := by
    rw [Bool.eq_false_iff]; intro e; apply h; simpa using e
  simp [readN, readE, this]

set_option maxRecDepth 100000 in
set_option maxHeartbeats 400000 in
theorem read_bad (s : ByteArray) (w : World) (hs : s.size ≤ maxLen) (hb : ¬ (s.data.toList.all dB = true ∧ s.data.toList ≠ [])) :
    Calls Try.prog 30 #[.string s] w fun e w' => e = .returned (.tuple #[.int .i64 (readN s.data.toList), .int .i64 (readE s.data.toList)]) ∧ w = w' := by
  unfold maxLen at hs
  have HR := Lib.hid (read_of_bad hb)
  have HB := Lib.hid hb
  clear hb
  go_enter Try.func30, Try.ntmps30
  go_wp2
  go_step3
  go_wp2
  go_loop [10] (fun i => ∃ k : Nat, k ≤ s.size ∧ i = .int .i64 k ∧ (s.data.toList.take k).all dB = true) (fun i => s.size - (intOf i).toNat)
  case atStart => exact ⟨0, Nat.zero_le _, rfl, by simp⟩
  case round =>
    obtain ⟨k, hk, rfl, hall⟩ := hrel
    have HALL := Lib.hid hall
    clear hall
    by_cases hlt : k < s.size
    · have HT := Lib.hid (take_snoc s k hlt)
      by_cases hd : dB s[k] = true
      · obtain ⟨hd1, hd2⟩ := dB_true hd
        have HD := Lib.hid hd
        clear hd
        go_wp2
        go_round
        case rel => exact ⟨k + 1, by omega, by go_num, by rw [HT.out, List.all_append, HALL.out]; simp [HD.out]⟩
        case measure => simp [intOf]; omega
      · rcases dB_false hd with hd1 | hd1
        · clear hd
          go_wp2
          go_ret2
          rw [HR.out.1, HR.out.2]; exact ⟨rfl, rfl⟩
        · clear hd
          go_wp2
          go_ret2
          rw [HR.out.1, HR.out.2]; exact ⟨rfl, rfl⟩
    · have he : s.toList.isEmpty = true := by
        rw [ByteArray.toList_eq, List.isEmpty_iff]
        have h1 := HALL.out
        rw [List.take_of_length_le (by simp; omega)] at h1
        by_cases h : s.data.toList = []
        · exact h
        · exact absurd ⟨h1, h⟩ HB.out
      go_wp2
      go_ret2
      rw [HR.out.1, HR.out.2]; exact ⟨rfl, rfl⟩

theorem read_of_some {l : List UInt8} (hb : l.all dB = true) (hn : l ≠ []) {m : Nat} (h : rdOn 0 l = some m) : readN l = m ∧ readE l = 0 := by
  simp [readN, readE, hb, hn, h]
theorem read_of_none {l : List UInt8} (hb : l.all dB = true) (hn : l ≠ []) (h : rdOn 0 l = none) : readN l = 0 ∧ readE l = 4 := by
  simp [readN, readE, hb, hn, h]
theorem drop_cons (s : ByteArray) (k : Nat) (h : k < s.size) : s.data.toList.drop k = s[k] :: s.data.toList.drop (k + 1) := by
  rw [List.drop_eq_getElem_cons (by simpa using h)]; rfl
theorem rd_over (s : ByteArray) (k n : Nat) (h : k < s.size) (hd : 48 ≤ s[k].toNat ∧ s[k].toNat ≤ 57) (ho : (9223372036854775807 - ((s[k].toNat : Int) - 48)) / 10 < (n : Int)) : rdOn n (s.data.toList.drop k) = none := by
  rw [drop_cons s k h, rdOn, if_pos (by simp only [mxN]; omega)]
theorem rd_next (s : ByteArray) (k n : Nat) (h : k < s.size) (hd : 48 ≤ s[k].toNat ∧ s[k].toNat ≤ 57) (ho : ¬ (9223372036854775807 - ((s[k].toNat : Int) - 48)) / 10 < (n : Int)) :
    rdOn n (s.data.toList.drop k) = rdOn (10 * n + (s[k].toNat - 48)) (s.data.toList.drop (k + 1)) := by
  rw [drop_cons s k h, rdOn, if_neg (by simp only [mxN]; omega)]
theorem rd_last (s : ByteArray) (k n : Nat) (h : ¬ k < s.size) : rdOn n (s.data.toList.drop k) = some n := by
  rw [List.drop_of_length_le (by simpa using Nat.le_of_not_lt h)]; rfl
theorem ret2_eq {k1 k2 : IntKind} {a b c d : Int} (h1 : a = b) (h2 : c = d) : Ending.returned (.tuple #[.int k1 a, .int k2 c]) = .returned (.tuple #[.int k1 b, .int k2 d]) := by rw [h1, h2]

/-- What holds at each jump back. -/
def JRel (w : World) (s : ByteArray) (a' : Act) (w' : World) : Prop :=
  w' = w ∧ ∃ (k n : Nat) (u1 u2 u3 u4 u7 u8 u9 u10 u11 u12 u13 u14 u15 u16 u17 u18 u19 u20 u21 u22 u23 u24 u25 u26 u27 u28 u29 u30 u31 u32 u33 u34 u35 u36 u37 u38 u39 u40 u41 u42 u43 u44 u45 u46 : Value), a' = { tmps := #[.string s, u1, u2, u3, u4, .int .i64 n, .int .i64 k, u7, u8, u9, u10, u11, u12, u13, u14, u15, u16, u17, u18, u19, u20, u21, u22, u23, u24, u25, u26, u27, u28, u29, u30, u31, u32, u33, u34, u35, u36, u37, u38, u39, u40, u41, u42, u43, u44, u45, u46], defers := [] } ∧ k < s.size ∧ n ≤ mxN ∧ rdOn 0 s.data.toList = rdOn n (s.data.toList.drop k)

theorem jrel_mk {w : World} {s : ByteArray} {v5 v6 u1 u2 u3 u4 u7 u8 u9 u10 u11 u12 u13 u14 u15 u16 u17 u18 u19 u20 u21 u22 u23 u24 u25 u26 u27 u28 u29 u30 u31 u32 u33 u34 u35 u36 u37 u38 u39 u40 u41 u42 u43 u44 u45 u46 : Value} (k n : Nat) (h5 : v5 = .int .i64 n) (h6 : v6 = .int .i64 k) (hk : k < s.size) (hn : n ≤ mxN) (hr : rdOn 0 s.data.toList = rdOn n (s.data.toList.drop k)) :
    JRel w s { tmps := #[.string s, u1, u2, u3, u4, v5, v6, u7, u8, u9, u10, u11, u12, u13, u14, u15, u16, u17, u18, u19, u20, u21, u22, u23, u24, u25, u26, u27, u28, u29, u30, u31, u32, u33, u34, u35, u36, u37, u38, u39, u40, u41, u42, u43, u44, u45, u46], defers := [] } w := by
  subst h5 h6
  exact ⟨rfl, k, n, u1, u2, u3, u4, u7, u8, u9, u10, u11, u12, u13, u14, u15, u16, u17, u18, u19, u20, u21, u22, u23, u24, u25, u26, u27, u28, u29, u30, u31, u32, u33, u34, u35, u36, u37, u38, u39, u40, u41, u42, u43, u44, u45, u46, rfl, hk, hn, hr⟩

set_option maxRecDepth 100000 in
set_option maxHeartbeats 400000 in
theorem read_good (s : ByteArray) (w : World) (hs : s.size ≤ maxLen) (hb : s.data.toList.all dB = true) (hn : s.data.toList ≠ []) :
    Calls Try.prog 30 #[.string s] w fun e w' => e = .returned (.tuple #[.int .i64 (readN s.data.toList), .int .i64 (readE s.data.toList)]) ∧ w = w' := by
  unfold maxLen at hs
  have hpos : 0 < s.size := by
    have : 0 < s.data.toList.length := List.length_pos_iff.2 hn
    simpa using this
  have HD : ∀ k (h : k < s.size), 48 ≤ s[k].toNat ∧ s[k].toNat ≤ 57 := by
    intro k h
    exact dB_true (List.all_eq_true.1 hb s[k] (List.getElem_mem (l := s.data.toList) (by simpa using h)))
  have HD := Lib.hid HD
  have hne : s.toList.isEmpty = false := by rw [ByteArray.toList_eq]; simpa using hn
  have HS := Lib.hid (fun m => read_of_some hb hn (m := m))
  have HN := Lib.hid (read_of_none hb hn)
  clear hb hn
  go_enter Try.func30, Try.ntmps30
  go_wp2
  refine wp_scope_jumps 0 (JRel w s) (fun a' _ => s.size - (intOf (a'.tmps.getD 6 undef)).toNat) rfl ?_ ?_
  · go_wp2
    go_loop [10] (fun i => ∃ k : Nat, k ≤ s.size ∧ i = .int .i64 k) (fun i => s.size - (intOf i).toNat)
    case atStart => exact ⟨0, Nat.zero_le _, rfl⟩
    case round =>
      obtain ⟨k, hk, rfl⟩ := hrel
      by_cases hlt : k < s.size
      · obtain ⟨hd1, hd2⟩ := HD.out k hlt
        go_wp2
        go_round
        case rel => exact ⟨k + 1, by omega, by go_num⟩
        case measure => simp [intOf]; omega
      · obtain ⟨hd1, hd2⟩ := HD.out 0 hpos
        have HX := Lib.hid (rd_next s 0 0 hpos ⟨hd1, hd2⟩ (by omega))
        by_cases hl : 1 < s.size
        · go_wp2
          go_step3
          go_wp2
          go_step3
          refine ⟨rfl, jrel_mk 1 (s[0].toNat - 48) ?_ rfl hl (by simp only [mxN]; omega) ?_⟩
          · exact congrArg (Value.int .i64) (by omega)
          · have := HX.out; simpa using this
        · go_wp2
          go_step3
          go_wp2
          simp only [Exit.jump]
          go_ret2
          have h1 := HS.out (s[0].toNat - 48) (by have := HX.out; rw [rd_last s _ _ hl] at this; simpa using this)
          exact ⟨ret2_eq (by rw [h1.1]; omega) h1.2.symm, rfl⟩
  · rintro a' w' ⟨rfl, k, n, u1, u2, u3, u4, u7, u8, u9, u10, u11, u12, u13, u14, u15, u16, u17, u18, u19, u20, u21, u22, u23, u24, u25, u26, u27, u28, u29, u30, u31, u32, u33, u34, u35, u36, u37, u38, u39, u40, u41, u42, u43, u44, u45, u46, rfl, hk, hn, hrd⟩
    have HR := Lib.hid hrd
    clear hrd
    obtain ⟨hd1, hd2⟩ := HD.out k hk
    unfold mxN at hn
    by_cases ho : (9223372036854775807 - ((s[k].toNat : Int) - 48)) / 10 < (n : Int)
    · have HX := Lib.hid (rd_over s k n hk ⟨hd1, hd2⟩ ho)
      go_wp2
      simp only [Exit.jump]
      go_ret2
      have h1 := HN.out (HR.out.trans HX.out)
      exact ⟨ret2_eq h1.1.symm h1.2.symm, rfl⟩
    · have HX := Lib.hid (rd_next s k n hk ⟨hd1, hd2⟩ ho)
      by_cases hl : k + 1 < s.size
      · go_wp2
        go_step3
        refine ⟨rfl, jrel_mk (k + 1) (10 * n + (s[k].toNat - 48)) ?_ ?_ hl (by simp only [mxN]; omega) (HR.out.trans HX.out), ?_⟩
        · exact congrArg (Value.int .i64) (by omega)
        · exact congrArg (Value.int .i64) (by omega)
        · simp [intOf]; omega
      · go_wp2
        simp only [Exit.jump]
        go_ret2
        have h1 := HS.out (10 * n + (s[k].toNat - 48)) ((HR.out.trans HX.out).trans (rd_last s _ _ hl))
        exact ⟨ret2_eq (by rw [h1.1]; omega) h1.2.symm, rfl⟩

/-- ints.Read, at any text. -/
theorem read_any (s : ByteArray) (w : World) (hs : s.size ≤ maxLen) :
    Calls Try.prog 30 #[.string s] w fun e w' => e = .returned (.tuple #[.int .i64 (readN s.data.toList), .int .i64 (readE s.data.toList)]) ∧ w = w' := by
  by_cases h : s.data.toList.all dB = true ∧ s.data.toList ≠ []
  · exact read_good s w hs h.1 h.2
  · exact read_bad s w hs h
end Go.Proofs.Ytfdbbammcppmnaa
