/-
  The walk of ints.Text: the digits of any number.
-/
import Derived.Test.YtipeggpolnnpmaaChecked
import Derived.Test.YtipeggpolnnpmaaIntsPlain
import Derived.WalkKit
import Derived.ProofKit
import Derived.WalkLawsBesides
import Derived.WalkSpells
import Derived.Outline
import Derived.Lib.Hide
import Derived.Laws.IdiomStrings
namespace Go.Proofs.Ytipeggpolnnpmaa
open Go.RowKit
set_option linter.unusedVariables false

/-- The bytes as cells. -/
def cl (l : List UInt8) : List Value := l.map fun c => .int .u8 (c.toNat : Int)

theorem addr_add (b o j : Nat) : (⟨b, o, none⟩ : Addr).add j = ⟨b, o + j, none⟩ := by
  unfold Addr.add; by_cases h : j = 0 <;> simp [h]

theorem slice20 (k : Nat) (h1 : 1 ≤ k) (h2 : k ≤ 20) (b : Nat) (W : World) :
    (Instr.sliceAt 90 (.pointer (some ⟨b, 0, none⟩)) (some (.int .i64 ((k : Int) - 1))) none none).run Try.prog W = .ok (.slice (some ⟨b, k - 1, none⟩) (21 - k) (21 - k)) W := by
  have hl : Try.prog.arrayLen 90 = 20 := by kernel_rfl
  have hu : Try.prog.underlying 90 = some (.array (Try.prog.arrayLen 90) (Try.prog.elem 90)) := by kernel_rfl
  have hz : (sizeOf (Try.prog.elem 90)).run Try.prog W = .ok 1 W := by kernel_rfl
  rw [run_sliceAt_array_l W _ _ hu .i64 _ (by omega) (by rw [hl]; omega), hz, hl]
  simp only [Result.andThen, slicedAt, addr_add]
  have e1 : ((k : Int) - 1).toNat = k - 1 := by omega
  have e2 : 20 - (k - 1) = 21 - k := by omega
  rw [e1, if_neg (by omega), e2]
  simp

theorem conv20 (w : World) (k : Nat) (l : List UInt8) (cs : Array Value) (pre : List Value) (h1 : 1 ≤ k) (hcs : cs.toList = pre ++ cl l) (hp : pre.length = k - 1) (hl : l.length = 21 - k) :
    (convert 72 9 (.slice (some ⟨w.heap.size, k - 1, none⟩) (21 - k) (21 - k))).run Try.prog (w.alloc (.cells cs 90)) = .ok (.string (bs l)) (w.alloc (.cells cs 90)) := by
  have := run_convert_bytes_back (P := Try.prog) (w.alloc (.cells cs 90)) 72 9 5 ⟨w.heap.size, k - 1, none⟩ (21 - k) l Try.underlying72 Try.underlying5 Try.underlying9 (by
    intro j hj
    rw [addr_add]
    rw [World.cell?_alloc_mark, ← Array.getElem?_toList, hcs, List.getElem?_append_right (by omega)]
    have e : k - 1 + j - pre.length = j := by omega
    rw [e]; simp [cl, hj])
  rw [hl] at this
  exact this

theorem dg_val (u : Nat) : (Value.int .u8 (48 + (u : Int) % 10)) = .int .u8 ((dg u).toNat : Int) := by
  rw [dg_toNat]; congr 1

theorem set_cells (cs : Array Value) (pre : List Value) (acc : List UInt8) (k u : Nat) (h1 : 1 ≤ k) (hcs : cs.toList = pre ++ cl acc) (hp : pre.length = k) :
    (cs.setIfInBounds (k - 1) (.int .u8 (48 + (u : Int) % 10))).toList = pre.take (k - 1) ++ cl (dg u :: acc) := by
  rw [Array.toList_setIfInBounds, hcs, dg_val]
  obtain ⟨p, x, rfl⟩ : ∃ p x, pre = p ++ [x] := by
    rcases List.eq_nil_or_concat pre with h | ⟨p, x, h⟩
    · subst h; simp at hp; omega
    · exact ⟨p, x, by simpa using h⟩
  have hk : k - 1 = p.length := by simp at hp; omega
  rw [hk]
  simp [cl]

/-- The loop's relation: what is left, where, the cells. -/
def TxRel (U : Nat) (w : World) (v3 v5 : Value) (wr : World) : Prop :=
  ∃ (k u : Nat) (acc : List UInt8) (cs : Array Value) (pre : List Value), 1 ≤ k ∧ k ≤ 20 ∧ u < 10 ^ k ∧ u ≤ U ∧ digs U = digs u ++ acc ∧ v3 = .int .u64 u ∧ v5 = .int .i64 k
    ∧ cs.toList = pre ++ cl acc ∧ pre.length = k ∧ acc.length + k = 20 ∧ wr = w.alloc (.cells cs 90)

theorem txRel_next (U : Nat) (w : World) (k u : Nat) (acc : List UInt8) (cs : Array Value) (pre : List Value) (_h1 : 1 ≤ k) (h2 : k ≤ 20) (hu : u < 10 ^ k) (huU : u ≤ U) (hd : digs U = digs u ++ acc)
    (hcs : cs.toList = pre ++ cl acc) (hp : pre.length = k) (ha : acc.length + k = 20) (hlt : ¬ u < 10) :
    TxRel U w (.int .u64 ((u : Int) / 10)) (.int .i64 ((k : Int) - 1)) (w.alloc (.cells (cs.setIfInBounds (k - 1) (.int .u8 (48 + (u : Int) % 10))) 90)) := by
  obtain ⟨j, rfl⟩ : ∃ j, k = j + 1 := ⟨k - 1, by omega⟩
  have hj : 1 ≤ j := by
    rcases j with _ | j
    · simp at hu; omega
    · omega
  refine ⟨j, u / 10, dg u :: acc, _, pre.take j, hj, by omega, ?_, by omega, ?_, by congr 1, by congr 1; omega, set_cells cs pre acc (j + 1) u (by omega) hcs hp, by simp; omega, by simp; omega, rfl⟩
  · rw [Nat.pow_succ] at hu; omega
  · rw [hd, digs_big u hlt]; simp

set_option maxRecDepth 100000 in
set_option maxHeartbeats 400000 in
theorem text_pos (n : Int) (w : World) (h0 : 0 ≤ n) (h1 : n ≤ 9223372036854775807) :
    Calls Try.prog 53 #[.int .i64 n] w fun e w' => e = .returned (.string (bs (itoa n))) ∧ Below w.heap.size w w' := by
  obtain ⟨U, rfl⟩ := Int.eq_ofNat_of_zero_le h0
  have HF := Lib.hid (show itoa (U : Int) = digs U by rw [itoa_pos _ (by omega)]; rfl)
  have hneg : decide ((U : Int) < 0) = false := by simp
  go_enter Try.func53, Try.ntmps53
  go_wp2
  go_loopw [3, 5] (fun v3 v5 wr => TxRel U w v3 v5 wr) (fun _ v5 _ => (intOf v5).toNat)
  case atStart => exact ⟨20, U, [], _, _, by omega, by omega, by omega, Nat.le_refl _, by simp, rfl, rfl, by simp [cl]; rfl, by simp, by simp, rfl⟩
  case round =>
    obtain ⟨k, u, acc, cs, pre, hk1, hk2, hu, huU, hd, rfl, rfl, hcs, hpre, hacc, rfl⟩ := hrel
    obtain ⟨x, hx⟩ : ∃ x, cs[k - 1]? = some x := ⟨cs[k - 1]'(by have := congrArg List.length hcs; simp [cl, hpre] at this; omega), Array.getElem?_eq_getElem _⟩
    have HN := Lib.hid (fun hlt => txRel_next U w k u acc cs pre hk1 hk2 hu huU hd hcs hpre hacc hlt)
    have hsl := fun W => slice20 k hk1 hk2 w.heap.size W
    have hcv := conv20 w k (dg u :: acc) _ (pre.take (k - 1)) hk1 (set_cells cs pre acc k u hk1 hcs hpre) (by simp; omega) (by simp; omega)
    have HD := Lib.hid hd
    clear hu hd hcs hpre hacc
    by_cases hlt : u < 10
    · go_wp2
      go_ret
      refine ⟨?_, (Below.refl _ _).alloc (Nat.le_refl _) _⟩
      rw [HF.out, HD.out, digs_small u hlt]; rfl
    · go_wp2
      exact ⟨HN.out hlt, by simp [intOf]; omega⟩

theorem neg_wrap (n : Int) (h0 : n < 0) (h1 : -9223372036854775808 ≤ n) : IntKind.u64.wrap (-IntKind.u64.wrap n) = (n.natAbs : Int) := by
  simp only [IntKind.wrap, IntKind.bits, IntKind.signed, Bool.false_and, Bool.false_eq_true, if_false]
  omega

set_option maxRecDepth 100000 in
set_option maxHeartbeats 400000 in
theorem text_neg (n : Int) (w : World) (h0 : n < 0) (h1 : -9223372036854775808 ≤ n) :
    Calls Try.prog 53 #[.int .i64 n] w fun e w' => e = .returned (.string (bs (itoa n))) ∧ Below w.heap.size w w' := by
  have HF := Lib.hid (itoa_neg n h0)
  have HW := Lib.hid (neg_wrap n h0 h1)
  have hUb : n.natAbs ≤ 9223372036854775808 := by omega
  have hneg : decide (n < 0) = true := by simpa using h0
  generalize hU : n.natAbs = U at *
  clear hU
  go_enter Try.func53, Try.ntmps53
  go_wp2
  go_loopw [3, 5] (fun v3 v5 wr => TxRel U w v3 v5 wr) (fun _ v5 _ => (intOf v5).toNat)
  case atStart => exact ⟨20, U, [], _, _, by omega, by omega, by omega, Nat.le_refl _, by simp, by rw [HW.out], rfl, by simp [cl]; rfl, by simp, by simp, rfl⟩
  case round =>
    obtain ⟨k, u, acc, cs, pre, hk1, hk2, hu, huU, hd, rfl, rfl, hcs, hpre, hacc, rfl⟩ := hrel
    obtain ⟨x, hx⟩ : ∃ x, cs[k - 1]? = some x := ⟨cs[k - 1]'(by have := congrArg List.length hcs; simp [cl, hpre] at this; omega), Array.getElem?_eq_getElem _⟩
    have HN := Lib.hid (fun hlt => txRel_next U w k u acc cs pre hk1 hk2 hu huU hd hcs hpre hacc hlt)
    have hsl := fun W => slice20 k hk1 hk2 w.heap.size W
    have hcv := conv20 w k (dg u :: acc) _ (pre.take (k - 1)) hk1 (set_cells cs pre acc k u hk1 hcs hpre) (by simp; omega) (by simp; omega)
    have had := fun W => run_string_add_sum (P := Try.prog) W (⟨#[45]⟩ : ByteArray) (bs (dg u :: acc)) (by rw [bs_size]; simp [ByteArray.size]; omega)
    have HD := Lib.hid hd
    clear hu hd hcs hpre hacc
    by_cases hlt : u < 10
    · go_wp2
      go_ret
      refine ⟨?_, (Below.refl _ _).alloc (Nat.le_refl _) _⟩
      rw [HF.out, HD.out, digs_small u hlt]; exact congrArg (fun s => Ending.returned (.string s)) (bs_append [45] (dg u :: acc))
    · go_wp2
      exact ⟨HN.out hlt, by simp [intOf]; omega⟩

/-- ints.Text, at any number. -/
theorem text_any (n : Int) (w : World) (h0 : -9223372036854775808 ≤ n) (h1 : n ≤ 9223372036854775807) :
    Calls Try.prog 53 #[.int .i64 n] w fun e w' => e = .returned (.string (bs (itoa n))) ∧ Below w.heap.size w w' := by
  by_cases h : n < 0
  · exact text_neg n w h h0
  · exact text_pos n w (by omega) h1
end Go.Proofs.Ytipeggpolnnpmaa
