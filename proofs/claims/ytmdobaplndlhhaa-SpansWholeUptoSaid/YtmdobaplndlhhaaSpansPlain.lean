/-
  Lines of a text, in plain Lean: where they begin and end. No program here.
-/
import Derived.Test.YtmdobaplndlhhaaChecked
namespace Go.Proofs.Ytmdobaplndlhhaa
set_option linter.unusedVariables false

/-- Byte k is a byte 10. -/
def NL (s : ByteArray) (k : Nat) : Bool := s.data.toList.getD k 0 == 10
theorem nl_yes {s : ByteArray} {k : Nat} (h : k < s.size) (e : NL s k = true) : s[k].toNat = 10 := by
  have h' : k < s.data.toList.length := by simpa using h
  unfold NL at e
  rw [List.getD_eq_getElem?_getD, List.getElem?_eq_getElem h'] at e
  have h1 : s.data.toList[k] = 10 := by simpa using e
  have h2 : s[k] = s.data.toList[k] := rfl
  rw [h2, h1]; rfl
theorem nl_no {s : ByteArray} {k : Nat} (h : k < s.size) (e : NL s k = false) : s[k].toNat ≠ 10 := by
  have h' : k < s.data.toList.length := by simpa using h
  unfold NL at e
  rw [List.getD_eq_getElem?_getD, List.getElem?_eq_getElem h'] at e
  intro c
  have h1 : s.data.toList[k] ≠ 10 := by simpa using e
  apply h1
  have : s.data.toList[k] = s[k] := rfl
  rw [this]
  exact UInt8.toNat_inj.1 (by rw [c]; rfl)

/-- How many bytes 10 there are before byte i; where the line of byte i begins; where lines begin, up to byte i. -/
def nl (s : ByteArray) : Nat → Nat
  | 0 => 0
  | i + 1 => if NL s i then nl s i + 1 else nl s i
def ls (s : ByteArray) : Nat → Nat
  | 0 => 0
  | i + 1 => if NL s i then i + 1 else ls s i
def st (s : ByteArray) : Nat → List Nat
  | 0 => [0]
  | i + 1 => if NL s i then st s i ++ [i + 1] else st s i

theorem nl_succ_yes {s : ByteArray} {i : Nat} (h : NL s i = true) : nl s (i + 1) = nl s i + 1 := by simp [nl, h]
theorem nl_succ_no {s : ByteArray} {i : Nat} (h : NL s i = false) : nl s (i + 1) = nl s i := by simp [nl, h]
theorem ls_succ_yes {s : ByteArray} {i : Nat} (h : NL s i = true) : ls s (i + 1) = i + 1 := by simp [ls, h]
theorem ls_succ_no {s : ByteArray} {i : Nat} (h : NL s i = false) : ls s (i + 1) = ls s i := by simp [ls, h]
theorem st_succ_yes {s : ByteArray} {i : Nat} (h : NL s i = true) : st s (i + 1) = st s i ++ [i + 1] := by simp [st, h]
theorem st_succ_no {s : ByteArray} {i : Nat} (h : NL s i = false) : st s (i + 1) = st s i := by simp [st, h]

theorem st_len (s : ByteArray) (i : Nat) : (st s i).length = nl s i + 1 := by
  induction i with
  | zero => rfl
  | succ i ih =>
    cases h : NL s i with
    | true => rw [st_succ_yes h, nl_succ_yes h]; simp [ih]
    | false => rw [st_succ_no h, nl_succ_no h, ih]
theorem nl_mono (s : ByteArray) {i j : Nat} (h : i ≤ j) : nl s i ≤ nl s j := by
  induction j with
  | zero => have : i = 0 := by omega
            subst this; exact Nat.le_refl _
  | succ j ih =>
    by_cases e : i = j + 1
    · rw [e]; exact Nat.le_refl _
    · have := ih (by omega)
      cases h : NL s j with
      | true => rw [nl_succ_yes h]; omega
      | false => rw [nl_succ_no h]; omega
theorem nl_le (s : ByteArray) (i : Nat) : nl s i ≤ i := by
  induction i with
  | zero => exact Nat.le_refl _
  | succ i ih =>
    cases h : NL s i with
    | true => rw [nl_succ_yes h]; omega
    | false => rw [nl_succ_no h]; omega
theorem ls_le (s : ByteArray) (i : Nat) : ls s i ≤ i := by
  induction i with
  | zero => exact Nat.le_refl _
  | succ i ih =>
    cases h : NL s i with
    | true => rw [ls_succ_yes h]; omega
    | false => rw [ls_succ_no h]; omega
theorem st_last (s : ByteArray) (i : Nat) : (st s i)[nl s i]? = some (ls s i) := by
  induction i with
  | zero => rfl
  | succ i ih =>
    cases h : NL s i with
    | true => rw [st_succ_yes h, nl_succ_yes h, ls_succ_yes h, List.getElem?_append_right (by rw [st_len]; omega), st_len]; simp
    | false => rw [st_succ_no h, nl_succ_no h, ls_succ_no h, ih]
theorem st_get (s : ByteArray) {i j : Nat} (h : i ≤ j) : (st s j)[nl s i]? = some (ls s i) := by
  induction j with
  | zero => have : i = 0 := by omega
            subst this; exact st_last s 0
  | succ j ih =>
    by_cases e : i = j + 1
    · rw [e]; exact st_last s (j + 1)
    · have := ih (by omega)
      have hl : nl s i < (st s j).length := by rw [st_len]; have := nl_mono s (show i ≤ j by omega); omega
      cases h : NL s j with
      | true => rw [st_succ_yes h, List.getElem?_append_left hl, this]
      | false => rw [st_succ_no h, this]
theorem ls_fix (s : ByteArray) (i : Nat) : nl s (ls s i) = nl s i ∧ ls s (ls s i) = ls s i := by
  induction i with
  | zero => exact ⟨rfl, rfl⟩
  | succ i ih =>
    cases h : NL s i with
    | true => rw [ls_succ_yes h]; exact ⟨rfl, ls_succ_yes h⟩
    | false => rw [ls_succ_no h, nl_succ_no h]; exact ih

/-- Where line k begins, in the text's first n bytes. -/
def pos (s : ByteArray) (n k : Nat) : Nat := (st s n).getD k 0
theorem pos_nl (s : ByteArray) {i n : Nat} (h : i ≤ n) : pos s n (nl s i) = ls s i := by
  unfold pos; rw [List.getD_eq_getElem?_getD, st_get s h]; rfl
theorem nl_hit (s : ByteArray) (n : Nat) : ∀ k, k ≤ nl s n → ∃ i, i ≤ n ∧ nl s i = k ∧ ls s i = i := by
  induction n with
  | zero => intro k hk; exact ⟨0, Nat.le_refl _, by simp [nl] at hk; simp [nl, hk], rfl⟩
  | succ n ih =>
    intro k hk
    cases h : NL s n with
    | true =>
      rw [nl_succ_yes h] at hk
      by_cases e : k ≤ nl s n
      · obtain ⟨i, h1, h2, h3⟩ := ih k e; exact ⟨i, by omega, h2, h3⟩
      · exact ⟨n + 1, Nat.le_refl _, by rw [nl_succ_yes h]; omega, ls_succ_yes h⟩
    | false =>
      rw [nl_succ_no h] at hk
      obtain ⟨i, h1, h2, h3⟩ := ih k hk; exact ⟨i, by omega, h2, h3⟩
theorem pos_fix (s : ByteArray) {n k : Nat} (h : k ≤ nl s n) : pos s n k ≤ n ∧ nl s (pos s n k) = k ∧ ls s (pos s n k) = pos s n k := by
  obtain ⟨i, h1, h2, h3⟩ := nl_hit s n k h
  have : pos s n k = i := by rw [← h2, pos_nl s h1, h3]
  rw [this]; exact ⟨h1, h2, h3⟩
theorem pos_lt (s : ByteArray) {n k k' : Nat} (h : k < k') (h' : k' ≤ nl s n) : pos s n k < pos s n k' := by
  have a := pos_fix s (n := n) (k := k) (by omega)
  have b := pos_fix s h'
  apply Classical.byContradiction
  intro c
  have := nl_mono s (show pos s n k' ≤ pos s n k by omega)
  omega
/-- Line k begins at or before byte i just if k is at most byte i's line. -/
theorem pos_le_iff (s : ByteArray) {n k i : Nat} (hi : i ≤ n) (h : k ≤ nl s n) : pos s n k ≤ i ↔ k ≤ nl s i := by
  have a := pos_fix s h
  constructor
  · intro c; have := nl_mono s c; omega
  · intro c
    apply Classical.byContradiction
    intro d
    have h1 := nl_mono s (show i ≤ pos s n k by omega)
    have h2 : nl s i = k := by omega
    have h3 := pos_nl s hi
    rw [h2] at h3
    have := ls_le s i
    omega
theorem st_eq (s : ByteArray) (n : Nat) : st s n = (List.range (nl s n + 1)).map (pos s n) := by
  apply List.ext_getElem
  · simp [st_len]
  · intro i h1 h2
    simp [pos, List.getD_eq_getElem?_getD, List.getElem?_eq_getElem h1]

/-- Where line k ends. -/
def fin (s : ByteArray) (n k : Nat) : Nat := if k = nl s n then n else pos s n (k + 1) - 1
theorem fin_last (s : ByteArray) (n : Nat) : fin s n (nl s n) = n := by simp [fin]
theorem fin_mid (s : ByteArray) {n k : Nat} (h : k < nl s n) : fin s n k = pos s n (k + 1) - 1 := by
  unfold fin; rw [if_neg (by omega)]
theorem fin_le (s : ByteArray) {n k : Nat} (h : k ≤ nl s n) : fin s n k ≤ n ∧ pos s n k ≤ fin s n k := by
  by_cases e : k = nl s n
  · subst e; rw [fin_last]; exact ⟨Nat.le_refl _, (pos_fix s (Nat.le_refl _)).1⟩
  · rw [fin_mid s (by omega)]
    have h1 := (pos_fix s (n := n) (k := k + 1) (by omega)).1
    have h2 := pos_lt s (n := n) (k := k) (k' := k + 1) (by omega) (by omega)
    omega
/-- What a walk to the next byte 10 finds. -/
theorem fin_of (s : ByteArray) {n k j : Nat} (hj : j ≤ n) (hk : nl s j = k) (he : j = n ∨ NL s j = true) (hj' : j = n ∨ j < n) : fin s n k = j := by
  rcases hj' with e | hlt
  · subst e; subst hk; exact fin_last s j
  · rcases he with e | e
    · omega
    · have h1 := nl_succ_yes e
      have h2 := nl_mono s (show j + 1 ≤ n by omega)
      have h3 := pos_nl s (show j + 1 ≤ n by omega)
      rw [h1, ls_succ_yes e, hk] at h3
      rw [fin_mid s (by omega), h3]; omega
/-- Byte i lies in its line. -/
theorem le_fin (s : ByteArray) {n i : Nat} (hi : i ≤ n) : i ≤ fin s n (nl s i) := by
  by_cases e : nl s i = nl s n
  · rw [e, fin_last]; exact hi
  · have h1 := nl_mono s hi
    rw [fin_mid s (by omega)]
    have h2 := (pos_le_iff s (n := n) (k := nl s i + 1) hi (by omega))
    have h3 : ¬ pos s n (nl s i + 1) ≤ i := fun c => by have := h2.1 c; omega
    omega
/-- Between two lines stands a byte 10. -/
theorem fin_nl (s : ByteArray) {n k : Nat} (h : k < nl s n) : NL s (fin s n k) = true ∧ pos s n (k + 1) = fin s n k + 1 ∧ fin s n k < n := by
  have a := pos_fix s (n := n) (k := k + 1) (by omega)
  have b := pos_lt s (n := n) (k := k) (k' := k + 1) (by omega) (by omega)
  rw [fin_mid s h]
  obtain ⟨m, hm⟩ : ∃ m, pos s n (k + 1) = m + 1 := ⟨pos s n (k + 1) - 1, by omega⟩
  rw [hm] at a ⊢
  refine ⟨?_, by omega, by omega⟩
  simp only [Nat.add_sub_cancel]
  cases h : NL s m with
  | true => rfl
  | false => rw [ls_succ_no h] at a; have := ls_le s m; omega
end Go.Proofs.Ytmdobaplndlhhaa
