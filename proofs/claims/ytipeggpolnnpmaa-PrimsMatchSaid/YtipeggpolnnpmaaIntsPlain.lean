/-
  The plain functions of layer 2: digits of a number, the number of digits. No program in sight.
-/
import Derived.WalkKit
namespace Go.Proofs.Ytipeggpolnnpmaa
open Go.RowKit

/-- A list of bytes as a string. -/
def bs (l : List UInt8) : ByteArray := ⟨l.toArray⟩
theorem bs_data (s : ByteArray) : bs s.data.toList = s := rfl
theorem data_bs (l : List UInt8) : (bs l).data.toList = l := rfl
theorem bs_size (l : List UInt8) : (bs l).size = l.length := by show l.toArray.size = _; simp
theorem bs_append (a b : List UInt8) : bs a ++ bs b = bs (a ++ b) := by
  unfold bs; rw [ByteArray.mk_append_mk]

/-- One digit. -/
def dg (u : Nat) : UInt8 := UInt8.ofNat (48 + u % 10)
theorem dg_toNat (u : Nat) : (dg u).toNat = 48 + u % 10 := by
  unfold dg; rw [UInt8.toNat_ofNat']; omega

/-- The digits of a number. -/
def digs (u : Nat) : List UInt8 := if _h : u < 10 then [dg u] else digs (u / 10) ++ [dg u]
termination_by u
decreasing_by omega

theorem digs_small (u : Nat) (h : u < 10) : digs u = [dg u] := by rw [digs]; simp [h]
theorem digs_big (u : Nat) (h : ¬ u < 10) : digs u = digs (u / 10) ++ [dg u] := by rw [digs]; simp [h]
theorem digs_ne (u : Nat) : digs u ≠ [] := by rw [digs]; split <;> simp
theorem digs_len (k : Nat) : ∀ u, u < 10 ^ k → 0 < k → (digs u).length ≤ k := by
  induction k with
  | zero => intro u _ h; omega
  | succ k ih =>
    intro u hu _
    by_cases h : u < 10
    · rw [digs_small u h]; simp
    · rw [digs_big u h]
      have hk : 0 < k := by
        rcases k with _ | k
        · simp at hu; omega
        · omega
      have := ih (u / 10) (by rw [Nat.pow_succ] at hu; omega) hk
      simp; omega

/-- A number's text. -/
def itoa (n : Int) : List UInt8 := if n < 0 then 45 :: digs n.natAbs else digs n.natAbs
theorem itoa_neg (n : Int) (h : n < 0) : itoa n = 45 :: digs n.natAbs := by simp [itoa, h]
theorem itoa_pos (n : Int) (h : ¬ n < 0) : itoa n = digs n.natAbs := by simp [itoa, h]

/-- Is a byte a digit? -/
def dB (c : UInt8) : Bool := decide (48 ≤ c.toNat) && decide (c.toNat ≤ 57)

def mxN : Nat := 9223372036854775807
theorem mxN_eq : mxN = 9223372036854775807 := rfl

/-- Digits read on from a number. -/
def rdOn (n : Nat) : List UInt8 → Option Nat
  | [] => some n
  | c :: r => if (mxN - (c.toNat - 48)) / 10 < n then none else rdOn (10 * n + (c.toNat - 48)) r

/-- The number of a text, and the error. -/
def readN (l : List UInt8) : Int := if l.all dB && !l.isEmpty then (match rdOn 0 l with | some n => (n : Int) | none => 0) else 0
def readE (l : List UInt8) : Int := if l.all dB && !l.isEmpty then (match rdOn 0 l with | some _ => 0 | none => 4) else 5

theorem rdOn_le (l : List UInt8) : ∀ n m, n ≤ mxN → l.all dB = true → rdOn n l = some m → m ≤ mxN := by
  induction l with
  | nil => intro n m h _ e; simp [rdOn] at e; omega
  | cons c r ih =>
    intro n m h hd e
    simp only [rdOn] at e
    split at e
    · cases e
    · refine ih _ m ?_ ?_ e
      · simp [dB] at hd; simp only [mxN] at *; omega
      · simp at hd; simpa using hd.2

theorem rdOn_append (a b : List UInt8) : ∀ n, rdOn n (a ++ b) = (rdOn n a).bind (fun m => rdOn m b) := by
  induction a with
  | nil => intro n; simp [rdOn]
  | cons c r ih => intro n; simp only [List.cons_append, rdOn]; split <;> simp [ih]

theorem dB_dg (u : Nat) : dB (dg u) = true := by simp [dB, dg_toNat]; omega
theorem all_digs (u : Nat) : (digs u).all dB = true := by
  induction u using Nat.strongRecOn with
  | _ u ih =>
    by_cases h : u < 10
    · rw [digs_small u h]; simp [dB_dg]
    · rw [digs_big u h]; simp [dB_dg]
      simpa using ih (u / 10) (by omega)

theorem rdOn_digs (u : Nat) (hu : u ≤ mxN) : rdOn 0 (digs u) = some u := by
  induction u using Nat.strongRecOn with
  | _ u ih =>
    by_cases h : u < 10
    · rw [digs_small u h]
      simp only [rdOn, dg_toNat]
      rw [if_neg (by omega)]; simp; omega
    · rw [digs_big u h, rdOn_append, ih (u / 10) (by omega) (by omega)]
      simp only [Option.bind_some, rdOn, dg_toNat]
      rw [if_neg (by simp only [mxN] at *; omega)]
      simp; omega

theorem read_digs (u : Nat) (hu : u ≤ mxN) : readN (digs u) = u ∧ readE (digs u) = 0 := by
  have h1 := all_digs u
  have h2 := rdOn_digs u hu
  have h3 := digs_ne u
  simp [readN, readE, h1, h2, h3]

theorem read_neg (l : List UInt8) : readN (45 :: l) = 0 ∧ readE (45 :: l) = 5 := by
  simp [readN, readE, dB]
end Go.Proofs.Ytipeggpolnnpmaa
