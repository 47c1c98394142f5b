/-
  The plain functions of layer 3: kinds of bytes, names, letters, numbers, fresh names, and their laws. No program in sight.
-/
import Derived.Test.YtfdbbammcppmnaaIntsPlain
namespace Go.Proofs.Ytfdbbammcppmnaa
open Go.RowKit
set_option linter.unusedVariables false

def smB (c : UInt8) : Bool := (decide (97 ≤ c.toNat) && decide (c.toNat ≤ 122)) || decide (c.toNat = 95)
def grB (c : UInt8) : Bool := decide (65 ≤ c.toNat) && decide (c.toNat ≤ 90)
def onB (c : UInt8) : Bool := smB c || grB c || dB c || decide (c.toNat = 39)

/-- The words that are reserved. -/
def rsv : List (List UInt8) := [[100, 97, 116, 97], [99, 108, 97, 115, 115], [105, 110, 115, 116, 97, 110, 99, 101], [119, 104, 101, 114, 101], [108, 101, 116], [105, 110], [99, 97, 115, 101], [111, 102], [105, 102], [116, 104, 101, 110], [101, 108, 115, 101]]
def resB (l : List UInt8) : Bool := rsv.contains l

def varB (l : List UInt8) : Bool := !l.isEmpty && (l != [95]) && smB (l.headD 0) && l.all onB && !resB l
def conB (l : List UInt8) : Bool := !l.isEmpty && grB (l.headD 0) && l.all onB

/-- One letter. -/
def ltr (u : Nat) : UInt8 := UInt8.ofNat (97 + u % 26)

/-- A number's letter. -/
def letter (n : Int) : List UInt8 :=
  if n < 0 then [] else ltr n.toNat :: (if n < 26 then [] else itoa (n / 26))

/-- A text's number. -/
def numOf (l : List UInt8) : Int :=
  match l with
  | [] => -1
  | c :: r =>
    if c.toNat < 97 ∨ 122 < c.toNat then -1
    else if ¬ r.isEmpty ∧ (readE r ≠ 0 ∨ 4611686018427387904 / 26 < readN r) then -1
    else
      let n : Int := (c.toNat : Int) - 97 + 26 * (if r.isEmpty then 0 else readN r)
      if 4611686018427387904 < n ∨ letter n ≠ l then -1 else n

theorem smB_on {c : UInt8} (h : smB c = true) : onB c = true := by simp [onB, h]
theorem grB_on {c : UInt8} (h : grB c = true) : onB c = true := by simp [onB, h]
theorem dB_on {c : UInt8} (h : dB c = true) : onB c = true := by simp [onB, h]
theorem sm_not_gr {c : UInt8} (h : smB c = true) : grB c = false := by
  simp [smB] at h; simp [grB]; omega

theorem apart_vc (l : List UInt8) : (varB l && conB l) = false := by
  rcases l with _ | ⟨c, r⟩
  · rfl
  · by_cases h : smB c = true
    · simp [conB, sm_not_gr h]
    · simp [varB, h]
theorem res_great : rsv.all (fun w => !conB w) = true := by decide +kernel
theorem apart_res (l : List UInt8) : (resB l && (varB l || conB l)) = false := by
  by_cases h : resB l = true
  · have h1 : conB l = false := by
      have := List.all_eq_true.1 res_great l (by simpa [resB] using h)
      simpa using this
    have h2 : varB l = false := by simp [varB, h]
    simp [h1, h2]
  · simp [h]

theorem letter_neg (n : Int) (h : n < 0) : letter n = [] := by simp [letter, h]
theorem letter_small (n : Int) (h0 : 0 ≤ n) (h : n < 26) : letter n = [ltr n.toNat] := by
  have : ¬ n < 0 := by omega
  simp [letter, this, h]
theorem letter_big (n : Int) (h : 26 ≤ n) : letter n = ltr n.toNat :: itoa (n / 26) := by
  have h1 : ¬ n < 0 := by omega
  have h2 : ¬ n < 26 := by omega
  simp [letter, h1, h2]
theorem lt_toNat (k : Nat) : (ltr k).toNat = 97 + k % 26 := by unfold ltr; rw [UInt8.toNat_ofNat']; omega
theorem itoa_digs (n : Int) (h : 0 ≤ n) : itoa n = digs n.toNat := by
  rw [itoa_pos n (by omega)]; congr 1; omega

theorem num_letter (n : Int) (h0 : 0 ≤ n) (h1 : n ≤ 4611686018427387904) : numOf (letter n) = n := by
  by_cases h : n < 26
  · have e := letter_small n h0 h
    rw [e, numOf]
    rw [lt_toNat, if_neg (by omega), if_neg (by simp)]
    have hn : ((97 + n.toNat % 26 : Nat) : Int) - 97 + 26 * (if ([] : List UInt8).isEmpty = true then 0 else readN []) = n := by simp; omega
    simp only [hn]
    rw [if_neg (by rw [e]; simp; omega)]
  · have e := letter_big n (by omega)
    have hd : itoa (n / 26) = digs (n / 26).toNat := itoa_digs _ (by omega)
    have hr := read_digs (n / 26).toNat (by simp only [mxN]; omega)
    have hne : (digs (n / 26).toNat).isEmpty = false := by
      have := digs_ne (n / 26).toNat
      simpa using this
    rw [hd] at e
    rw [e, numOf]
    rw [lt_toNat, if_neg (by omega), hr.1, hr.2, hne, if_neg (by simp; omega)]
    have hn : ((97 + n.toNat % 26 : Nat) : Int) - 97 + 26 * (if false = true then 0 else (((n / 26).toNat : Nat) : Int)) = n := by simp; omega
    simp only [hn]
    rw [if_neg (by rw [e]; simp; omega)]

theorem letter_inj (n m : Int) (h0 : 0 ≤ n) (h1 : n ≤ 4611686018427387904) (h2 : 0 ≤ m) (h3 : m ≤ 4611686018427387904) (h : letter n = letter m) : n = m := by
  rw [← num_letter n h0 h1, h, num_letter m h2 h3]

theorem res_tail : rsv.all (fun w => !(w.tail.all dB)) = true := by decide +kernel
theorem letter_var (n : Int) (h0 : 0 ≤ n) : varB (letter n) = true := by
  have hs : smB (ltr n.toNat) = true := by
    unfold smB; rw [lt_toNat]; simp; omega
  have h95 : ltr n.toNat ≠ 95 := by
    intro e; have := congrArg UInt8.toNat e; rw [lt_toNat] at this; simp at this; omega
  have ht : (letter n).tail.all dB = true := by
    by_cases h : n < 26
    · rw [letter_small n h0 h]; rfl
    · rw [letter_big n (by omega), itoa_digs _ (by omega)]; exact all_digs _
  have hr : resB (letter n) = false := by
    rw [Bool.eq_false_iff]; intro hr
    have := List.all_eq_true.1 res_tail (letter n) (by simpa [resB] using hr)
    rw [ht] at this; simp at this
  obtain ⟨r, e⟩ : ∃ r, letter n = ltr n.toNat :: r := by
    by_cases h : n < 26
    · exact ⟨_, letter_small n h0 h⟩
    · exact ⟨_, letter_big n (by omega)⟩
  rw [e] at ht hr ⊢
  simp only [List.tail_cons] at ht
  have hon : r.all onB = true := by
    rw [List.all_eq_true] at ht ⊢
    exact fun x hx => dB_on (ht x hx)
  have h95' : (ltr n.toNat :: r != [95]) = true := by
    rw [bne_iff_ne]; intro e; exact h95 (List.cons.inj e).1
  simp only [varB, hr, List.isEmpty_cons, List.headD_cons, hs, List.all_cons, smB_on hs, hon, h95']
  rfl

/-- The i-th name of a base. -/
def cand (base : List UInt8) (i : Nat) : List UInt8 := if i = 0 then base else base ++ digs i
theorem cand_zero (base : List UInt8) : cand base 0 = base := rfl
theorem cand_pos (base : List UInt8) (i : Nat) (h : 0 < i) : cand base i = base ++ digs i := by
  have : i ≠ 0 := by omega
  simp [cand, this]
theorem digs_inj {a b : Nat} (ha : a ≤ mxN) (hb : b ≤ mxN) (h : digs a = digs b) : a = b := by
  have h1 := rdOn_digs a ha
  rw [h, rdOn_digs b hb] at h1
  injection h1 with h1; exact h1.symm
theorem cand_inj (base : List UInt8) {a b : Nat} (ha : a ≤ mxN) (hb : b ≤ mxN) (h : cand base a = cand base b) : a = b := by
  by_cases h1 : a = 0 <;> by_cases h2 : b = 0
  · omega
  · subst h1; rw [cand_zero, cand_pos base b (by omega)] at h
    have := congrArg List.length h; simp at this; exact absurd this (digs_ne b)
  · subst h2; rw [cand_zero, cand_pos base a (by omega)] at h
    have := congrArg List.length h; simp at this; exact absurd this (digs_ne a)
  · rw [cand_pos base a (by omega), cand_pos base b (by omega)] at h
    exact digs_inj ha hb (List.append_cancel_left h)

theorem nodup_sub {α : Type} [DecidableEq α] : ∀ (a b : List α), a.Nodup → (∀ x ∈ a, x ∈ b) → a.length ≤ b.length
  | [], b, _, _ => by simp
  | x :: a, b, hn, hs => by
    have hx := hs x (by simp)
    have h1 := nodup_sub a (b.erase x) (List.nodup_cons.1 hn).2 (fun y hy => by
      have hne : y ≠ x := fun e => (List.nodup_cons.1 hn).1 (e ▸ hy)
      exact (List.mem_erase_of_ne hne).2 (hs y (by simp [hy])))
    rw [List.length_erase_of_mem hx] at h1
    have : 0 < b.length := List.length_pos_of_mem hx
    simp; omega

theorem fresh_ex (avoid : List (List UInt8)) (base : List UInt8) (h : avoid.length ≤ 1000) : ∃ i, i ≤ avoid.length ∧ cand base i ∉ avoid := by
  apply Classical.byContradiction
  intro hno
  have hall : ∀ i, i ≤ avoid.length → cand base i ∈ avoid := fun i hi => Classical.byContradiction fun hc => hno ⟨i, hi, hc⟩
  have h1 := nodup_sub ((List.range (avoid.length + 1)).map (cand base)) avoid (by
    rw [List.nodup_iff_pairwise_ne, List.pairwise_map]
    refine List.Pairwise.imp_of_mem ?_ (List.nodup_iff_pairwise_ne.1 List.nodup_range)
    intro a b ha hb hne e
    simp at ha hb
    exact hne (cand_inj base (by simp only [mxN]; omega) (by simp only [mxN]; omega) e)) (by
    intro x hx
    simp at hx
    obtain ⟨i, hi, rfl⟩ := hx
    exact hall i (by omega))
  simp at h1
  omega

/-- Is i the first whose name is not there? -/
def IsFirst (avoid : List (List UInt8)) (base : List UInt8) (i : Nat) : Prop := i ≤ avoid.length ∧ cand base i ∉ avoid ∧ ∀ j, j < i → cand base j ∈ avoid
theorem first_ex (avoid : List (List UInt8)) (base : List UInt8) (h : avoid.length ≤ 1000) : ∃ i, IsFirst avoid base i := by
  obtain ⟨n, hn, hc⟩ := fresh_ex avoid base h
  induction n using Nat.strongRecOn with
  | _ n ih =>
    by_cases hj : ∃ j, j < n ∧ cand base j ∉ avoid
    · obtain ⟨j, hj, hcj⟩ := hj
      exact ih j hj (by omega) hcj
    · exact ⟨n, hn, hc, fun j hj' => Classical.byContradiction fun hc' => hj ⟨j, hj', hc'⟩⟩
end Go.Proofs.Ytfdbbammcppmnaa
