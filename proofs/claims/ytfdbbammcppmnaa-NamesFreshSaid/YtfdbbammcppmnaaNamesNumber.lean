/-
  The walks of layer 3: a text's number.
-/
import Derived.Test.YtfdbbammcppmnaaNamesLetter
namespace Go.Proofs.Ytfdbbammcppmnaa
open Go.RowKit
set_option linter.unusedVariables false

theorem readN_pos (l : List UInt8) : 0 ≤ readN l := by
  unfold readN; split
  · split <;> omega
  · omega
theorem ext_data (s : ByteArray) (a b : Nat) : (s.extract a b).data.toList = (s.data.toList.drop a).take (b - a) := by
  obtain ⟨⟨l⟩⟩ := s
  rw [ByteArray.extract_mk]
theorem ext_tail (s : ByteArray) : (s.extract 1 s.size).data.toList = s.data.toList.tail := by
  rw [ext_data, List.take_of_length_le (by simp), List.drop_one]
theorem num_out (s : ByteArray) (h0 : 0 < s.size) (h : s[0].toNat < 97 ∨ 122 < s[0].toNat) : numOf s.data.toList = -1 := by
  rw [head_eq s h0, numOf, if_pos h]
theorem num_one (s : ByteArray) (h0 : 0 < s.size) (h1 : s.size = 1) (h : ¬ (s[0].toNat < 97 ∨ 122 < s[0].toNat)) : numOf s.data.toList = (s[0].toNat : Int) - 97 ∧ s.data.toList = letter ((s[0].toNat : Int) - 97) := by
  have ht : s.data.toList.tail = [] := by
    apply List.eq_nil_of_length_eq_zero; simp; omega
  have e := head_eq s (by omega)
  rw [ht] at e
  have hl : letter ((s[0].toNat : Int) - 97) = [s[0]] := by
    rw [letter_small _ (by omega) (by omega)]
    congr 1
    apply UInt8.toNat_inj.1
    rw [lt_toNat]; omega
  refine ⟨?_, by rw [hl]; exact e⟩
  rw [e, numOf, if_neg h, if_neg (by simp)]
  simp only [List.isEmpty_nil, if_true, Int.mul_zero, Int.add_zero]
  rw [if_neg (by rw [hl]; simp; omega)]
theorem num_bad (s : ByteArray) (h0 : 0 < s.size) (h1 : 1 < s.size) (h : ¬ (s[0].toNat < 97 ∨ 122 < s[0].toNat)) (hb : readE s.data.toList.tail ≠ 0 ∨ 177372539170284150 < readN s.data.toList.tail) : numOf s.data.toList = -1 := by
  have ht : ¬ s.data.toList.tail.isEmpty = true := by
    rw [List.isEmpty_iff]; intro e; have := congrArg List.length e; simp at this; omega
  conv => lhs; rw [head_eq s h0]
  rw [numOf, if_neg h, if_pos ⟨ht, by omega⟩]
theorem num_good (s : ByteArray) (h0 : 0 < s.size) (h1 : 1 < s.size) (h : ¬ (s[0].toNat < 97 ∨ 122 < s[0].toNat)) (h2 : readE s.data.toList.tail = 0) (h3 : ¬ 177372539170284150 < readN s.data.toList.tail) :
    numOf s.data.toList = if (4611686018427387904 : Int) < (s[0].toNat : Int) - 97 + 26 * readN s.data.toList.tail ∨ letter ((s[0].toNat : Int) - 97 + 26 * readN s.data.toList.tail) ≠ s.data.toList then -1 else (s[0].toNat : Int) - 97 + 26 * readN s.data.toList.tail := by
  have ht : ¬ s.data.toList.tail.isEmpty = true := by
    rw [List.isEmpty_iff]; intro e; have := congrArg List.length e; simp at this; omega
  conv => lhs; rw [head_eq s h0]
  rw [numOf, if_neg h, if_neg (by omega)]
  simp only [if_neg ht]
  rw [← head_eq s h0]
theorem str_beq (L : List UInt8) (s : ByteArray) (h : L = s.data.toList) : ((bs L).toList == s.toList) = true ∧ ((bs L).toList != s.toList) = false := by
  subst h; rw [bs_data]; simp
theorem str_bne (L : List UInt8) (s : ByteArray) (h : ¬ L = s.data.toList) : ((bs L).toList == s.toList) = false ∧ ((bs L).toList != s.toList) = true := by
  have : (bs L).toList ≠ s.toList := by rw [ByteArray.toList_eq, ByteArray.toList_eq]; exact h
  exact ⟨beq_eq_false_iff_ne.2 this, bne_iff_ne.2 this⟩

set_option maxRecDepth 100000 in
set_option maxHeartbeats 400000 in
theorem number_any (s : ByteArray) (w : World) (hs : s.size ≤ maxLen) :
    Calls Try.prog 17 #[.string s] w fun e w' => e = .returned (.int .i64 (numOf s.data.toList)) ∧ Below w.heap.size w w' := by
  rcases empty_or s with rfl | h0
  · go_enter Try.func17, Try.ntmps17
    go_wp2
    go_ret
    exact ⟨rfl, Below.refl _ _⟩
  have g1 : s.toList.isEmpty = false := by rw [ByteArray.toList_eq, head_eq s h0]; rfl
  by_cases hc : s[0].toNat < 97 ∨ 122 < s[0].toNat
  · have HF := Lib.hid (num_out s h0 hc)
    unfold maxLen at hs
    rcases hc with hc | hc
    all_goals
      go_enter Try.func17, Try.ntmps17
      go_wp2
      go_ret
      exact ⟨ret_int HF.out.symm, Below.refl _ _⟩
  have hc1 : 97 ≤ s[0].toNat := by omega
  have hc2 : s[0].toNat ≤ 122 := by omega
  by_cases h1 : s.size = 1
  · have HF := Lib.hid (num_one s h0 h1 hc)
    have HL := Lib.hid (fun W => letter_any ((s[0].toNat : Int) - 97) W (by omega) (by omega))
    obtain ⟨b1, b2⟩ := str_beq _ s HF.out.2.symm
    have h1' : ¬ 1 < s.size := by omega
    unfold maxLen at hs
    clear h1 hc
    generalize letter ((s[0].toNat : Int) - 97) = L at *
    go_enter Try.func17, Try.ntmps17
    go_wp2_with (go_at_call 15; ((with_reducible refine (HL.out _).mono ?_); rintro e w' ⟨rfl, hb⟩))
    go_ret
    exact ⟨ret_int HF.out.1.symm, hb⟩
  have h1' : 1 < s.size := by omega
  have HR := Lib.hid (fun W => read_any (s.extract 1 s.size) W (by rw [ByteArray.size_extract]; unfold maxLen at *; omega))
  have HB := Lib.hid (num_bad s h0 h1' hc)
  have HG := Lib.hid (num_good s h0 h1' hc)
  have hN0 := readN_pos s.data.toList.tail
  rw [ext_tail] at HR
  unfold maxLen at hs
  clear h1 hc
  generalize readN s.data.toList.tail = N at *
  generalize readE s.data.toList.tail = E at *
  by_cases hE : E = 0
  · subst hE
    by_cases hN : 177372539170284150 < N
    · have HF := Lib.hid (HB.out (.inr hN))
      go_enter Try.func17, Try.ntmps17
      go_wp2_with (go_at_call 30; ((with_reducible refine (HR.out _).mono ?_); rintro e w' ⟨rfl, rfl⟩))
      go_ret
      exact ⟨ret_int HF.out.symm, Below.refl _ _⟩
    · have HF := Lib.hid (HG.out rfl hN)
      have hN' : N ≤ 177372539170284150 := by omega
      clear hN
      by_cases ho : (4611686018427387904 : Int) < (s[0].toNat : Int) - 97 + 26 * N
      · go_enter Try.func17, Try.ntmps17
        go_wp2_with (go_at_call 30; ((with_reducible refine (HR.out _).mono ?_); rintro e w' ⟨rfl, rfl⟩))
        go_ret
        exact ⟨ret_int (by rw [HF.out, if_pos (.inl ho)]), Below.refl _ _⟩
      · have HL := Lib.hid (fun W => letter_any ((s[0].toNat : Int) - 97 + 26 * N) W (by omega) (by omega))
        have ho' : (s[0].toNat : Int) - 97 + 26 * N ≤ 4611686018427387904 := by omega
        generalize letter ((s[0].toNat : Int) - 97 + 26 * N) = L at *
        by_cases hL : L = s.data.toList
        · obtain ⟨b1, b2⟩ := str_beq _ s hL
          have HH := Lib.hid hL
          clear hL
          go_enter Try.func17, Try.ntmps17
          go_wp2_with (first | (go_at_call 30; ((with_reducible refine (HR.out _).mono ?_); rintro e w' ⟨rfl, rfl⟩)) | (go_at_call 15; ((with_reducible refine (HL.out _).mono ?_); rintro e w' ⟨rfl, hb⟩)))
          go_ret
          exact ⟨ret_int (by rw [HF.out, if_neg]; intro h; rcases h with h | h; omega; exact h HH.out), hb⟩
        · obtain ⟨b1, b2⟩ := str_bne _ s hL
          have HH := Lib.hid hL
          clear hL
          go_enter Try.func17, Try.ntmps17
          go_wp2_with (first | (go_at_call 30; ((with_reducible refine (HR.out _).mono ?_); rintro e w' ⟨rfl, rfl⟩)) | (go_at_call 15; ((with_reducible refine (HL.out _).mono ?_); rintro e w' ⟨rfl, hb⟩)))
          go_ret
          exact ⟨ret_int (by rw [HF.out, if_pos (.inr HH.out)]), hb⟩
  · have HF := Lib.hid (HB.out (.inl hE))
    have e1 : (E == 0) = false := beq_eq_false_iff_ne.2 hE
    have e2 : (E != 0) = true := bne_iff_ne.2 hE
    clear hE
    go_enter Try.func17, Try.ntmps17
    go_wp2_with (go_at_call 30; ((with_reducible refine (HR.out _).mono ?_); rintro e w' ⟨rfl, rfl⟩))
    go_ret
    exact ⟨ret_int HF.out.symm, Below.refl _ _⟩

set_option maxRecDepth 100000 in
set_option maxHeartbeats 400000 in
theorem rnumber_any (s : ByteArray) (w : World) (hs : s.size ≤ maxLen) :
    Calls Try.prog 18 #[.string s] w fun e w' => e = .returned (.int .i64 (numOf s.data.toList)) ∧ Below w.heap.size w w' := by
  rcases empty_or s with rfl | h0
  · go_enter Try.func18, Try.ntmps18
    go_wp2
    go_ret
    exact ⟨rfl, Below.refl _ _⟩
  have g1 : s.toList.isEmpty = false := by rw [ByteArray.toList_eq, head_eq s h0]; rfl
  by_cases hc : s[0].toNat < 97 ∨ 122 < s[0].toNat
  · have HF := Lib.hid (num_out s h0 hc)
    unfold maxLen at hs
    rcases hc with hc | hc
    all_goals
      go_enter Try.func18, Try.ntmps18
      go_wp2
      go_ret
      exact ⟨ret_int HF.out.symm, Below.refl _ _⟩
  have hc1 : 97 ≤ s[0].toNat := by omega
  have hc2 : s[0].toNat ≤ 122 := by omega
  by_cases h1 : s.size = 1
  · have HF := Lib.hid (num_one s h0 h1 hc)
    have HL := Lib.hid (fun W => rletter_any ((s[0].toNat : Int) - 97) W (by omega) (by omega))
    obtain ⟨b1, b2⟩ := str_beq _ s HF.out.2.symm
    have h1' : ¬ 1 < s.size := by omega
    unfold maxLen at hs
    clear h1 hc
    generalize letter ((s[0].toNat : Int) - 97) = L at *
    go_enter Try.func18, Try.ntmps18
    go_wp2_with (go_at_call 16; ((with_reducible refine (HL.out _).mono ?_); rintro e w' ⟨rfl, hb⟩))
    go_ret
    exact ⟨ret_int HF.out.1.symm, hb⟩
  have h1' : 1 < s.size := by omega
  have HR := Lib.hid (fun W => rread_any (s.extract 1 s.size) W (by rw [ByteArray.size_extract]; unfold maxLen at *; omega))
  have HB := Lib.hid (num_bad s h0 h1' hc)
  have HG := Lib.hid (num_good s h0 h1' hc)
  have hN0 := readN_pos s.data.toList.tail
  rw [ext_tail] at HR
  unfold maxLen at hs
  clear h1 hc
  generalize readN s.data.toList.tail = N at *
  generalize readE s.data.toList.tail = E at *
  by_cases hE : E = 0
  · subst hE
    by_cases hN : 177372539170284150 < N
    · have HF := Lib.hid (HB.out (.inr hN))
      go_enter Try.func18, Try.ntmps18
      go_wp2_with (go_at_call 31; ((with_reducible refine (HR.out _).mono ?_); rintro e w' ⟨rfl, rfl⟩))
      go_ret
      exact ⟨ret_int HF.out.symm, Below.refl _ _⟩
    · have HF := Lib.hid (HG.out rfl hN)
      have hN' : N ≤ 177372539170284150 := by omega
      clear hN
      by_cases ho : (4611686018427387904 : Int) < (s[0].toNat : Int) - 97 + 26 * N
      · go_enter Try.func18, Try.ntmps18
        go_wp2_with (go_at_call 31; ((with_reducible refine (HR.out _).mono ?_); rintro e w' ⟨rfl, rfl⟩))
        go_ret
        exact ⟨ret_int (by rw [HF.out, if_pos (.inl ho)]), Below.refl _ _⟩
      · have HL := Lib.hid (fun W => rletter_any ((s[0].toNat : Int) - 97 + 26 * N) W (by omega) (by omega))
        have ho' : (26 : Int) * N + ((s[0].toNat : Int) - 97) ≤ (4611686018427387904 : Int) := by omega
        have hsum : (s[0].toNat : Int) - (97 : Int) + (26 : Int) * N = (26 : Int) * N + ((s[0].toNat : Int) - (97 : Int)) := by omega
        rw [hsum] at HL HF
        clear hsum
        generalize letter ((26 : Int) * N + ((s[0].toNat : Int) - (97 : Int))) = L at *
        by_cases hL : L = s.data.toList
        · obtain ⟨b1, b2⟩ := str_beq _ s hL
          have HH := Lib.hid hL
          clear hL
          go_enter Try.func18, Try.ntmps18
          go_wp2_with (first | (go_at_call 31; ((with_reducible refine (HR.out _).mono ?_); rintro e w' ⟨rfl, rfl⟩)) | (go_at_call 16; ((with_reducible refine (HL.out _).mono ?_); rintro e w' ⟨rfl, hb⟩)))
          go_ret
          exact ⟨ret_int (by rw [HF.out, if_neg]; intro h; rcases h with h | h; omega; exact h HH.out), hb⟩
        · obtain ⟨b1, b2⟩ := str_bne _ s hL
          have HH := Lib.hid hL
          clear hL
          go_enter Try.func18, Try.ntmps18
          go_wp2_with (first | (go_at_call 31; ((with_reducible refine (HR.out _).mono ?_); rintro e w' ⟨rfl, rfl⟩)) | (go_at_call 16; ((with_reducible refine (HL.out _).mono ?_); rintro e w' ⟨rfl, hb⟩)))
          go_ret
          exact ⟨ret_int (by rw [HF.out, if_pos (.inr HH.out)]), hb⟩
  · have HF := Lib.hid (HB.out (.inl hE))
    have e1 : (E == 0) = false := beq_eq_false_iff_ne.2 hE
    have e2 : (E != 0) = true := bne_iff_ne.2 hE
    clear hE
    go_enter Try.func18, Try.ntmps18
    go_wp2_with (go_at_call 31; ((with_reducible refine (HR.out _).mono ?_); rintro e w' ⟨rfl, rfl⟩))
    go_ret
    exact ⟨ret_int HF.out.symm, Below.refl _ _⟩
end Go.Proofs.Ytfdbbammcppmnaa
