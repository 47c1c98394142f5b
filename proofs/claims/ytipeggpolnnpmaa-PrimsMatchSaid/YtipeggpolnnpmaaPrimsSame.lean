/-
  The walks of the reference's Same: what reads as one type, or as one term, is the same.
-/
import Derived.Test.YtipeggpolnnpmaaPrimsTree
import Derived.Test.YtipeggpolnnpmaaPrimsFun
import Derived.StillTailTactics
namespace Go.Proofs.Ytipeggpolnnpmaa
open Go.RowKit
set_option linter.unusedVariables false

set_option maxRecDepth 100000 in
set_option maxHeartbeats 400000 in
theorem same16_mk (c : ByteArray) (v : Int) (ar : List Ty) (ih : ∀ a ∈ ar, ∀ (w : World) (B : Nat) (v0 v1 v2 u0 u1 u2 : Value), B ≤ w.heap.size → TyAt w B a v0 v1 v2 → TyAt w B a u0 u1 u2 →
      Calls Try.prog 41 #[.agg #[v0, v1, v2], .agg #[u0, u1, u2]] w fun e w' => e = .returned (.bool true) ∧ Below w.heap.size w w')
    (w : World) (B : Nat) (A A' : Option Addr) (k k' : Nat) (hB : B ≤ w.heap.size) (hl : ar.length ≤ maxLen) (h : TysAt w B ar A) (h' : TysAt w B ar A') :
    Calls Try.prog 41 #[.agg #[.string c, .int .i64 v, .slice A ar.length k], .agg #[.string c, .int .i64 v, .slice A' ar.length k']] w fun e w' => e = .returned (.bool true) ∧ Below w.heap.size w w' := by
  have IH := Lib.hid ih
  have H := Lib.hid h
  have H' := Lib.hid h'
  clear ih h h'
  unfold maxLen at hl
  go_enter Try.func41, Try.ntmps41
  go_wp2
  go_loopw [5] (fun i wr => (∃ j : Nat, j ≤ ar.length ∧ i = .int .i64 j) ∧ wr.heap[w.heap.size]? = some (.cells #[.string c, .int .i64 v, .slice A ar.length k] 54 (0, 0)) ∧ wr.heap[w.heap.size + 1]? = some (.cells #[.string c, .int .i64 v, .slice A' ar.length k'] 54 (0, 0)) ∧ Below w.heap.size w wr) (fun i _ => ar.length - (intOf i).toNat)
  case atStart => exact ⟨⟨0, Nat.zero_le _, rfl⟩, blk_alloc (blk_new w _) _, by have := blk_new (w.alloc (.cells #[.string c, .int .i64 v, .slice A ar.length k] 54)) (.cells #[.string c, .int .i64 v, .slice A' ar.length k'] 54); simpa using this, ((Below.refl _ w).alloc (Nat.le_refl _) _).alloc (by simp) _⟩
  case round =>
    obtain ⟨⟨j, hj, rfl⟩, t0, t1, hb⟩ := hrel
    have y0 : wr.cell? ⟨w.heap.size, 2, none⟩ = some (.slice A ar.length k) := blk_cell t0 2
    have y1 : wr.cell? ⟨w.heap.size + 1, 2, none⟩ = some (.slice A' ar.length k') := blk_cell t1 2
    have T0 := Lib.hid t0
    have T1 := Lib.hid t1
    clear t0 t1
    by_cases hlt : j < ar.length
    · obtain ⟨a, v0, v1, v2, rfl, ha, p0, p1, p2, hty⟩ := (TysAt.below (hb.mono hB) H.out).get j hlt
      obtain ⟨a', u0, u1, u2, rfl, ha', q0, q1, q2, hty'⟩ := (TysAt.below (hb.mono hB) H'.out).get j hlt
      have HT := Lib.hid hty
      have HT' := Lib.hid hty'
      clear hty hty'
      go_wp2
      go_still_tail 10, (by kernel_rfl)
      change wpList _ _ _ _ _ wr.drew
      go_wp2_with fail
      refine (IH.out ar[j] (List.getElem_mem hlt) wr.drew B _ _ _ _ _ _ (Nat.le_trans hB hb.size) HT.out.drew HT'.out.drew).mono ?_
      rintro e w2 ⟨rfl, hb2⟩
      have T0' := Lib.hid ((hb2.block _ (blk_lt T0.out)).trans T0.out)
      have T1' := Lib.hid ((hb2.block _ (blk_lt T1.out)).trans T1.out)
      go_wp2
      go_roundw
      case rel => exact ⟨⟨j + 1, by omega, by go_num⟩, T0'.out, T1'.out, hb.drew.trans (hb2.mono hb.size)⟩
      case measure => simp [intOf]; omega
    · go_wp2
      go_ret
      exact ⟨rfl, hb⟩

/-- What reads as one type is the same. -/
theorem same16_any : ∀ (t : Ty) (w : World) (B : Nat) (v0 v1 v2 u0 u1 u2 : Value), B ≤ w.heap.size → TyAt w B t v0 v1 v2 → TyAt w B t u0 u1 u2 →
      Calls Try.prog 41 #[.agg #[v0, v1, v2], .agg #[u0, u1, u2]] w fun e w' => e = .returned (.bool true) ∧ Below w.heap.size w w' := by
  refine Ty.ind ?_
  intro c v ar ih w B v0 v1 v2 u0 u1 u2 hB h h'
  unfold TyAt at h h'
  obtain ⟨rfl, rfl, hl, A, k, rfl, hA⟩ := h
  obtain ⟨rfl, rfl, hl', A', k', rfl, hA'⟩ := h'
  exact same16_mk c v ar ih w B A A' k k' hB hl hA hA'

set_option maxRecDepth 100000 in
set_option maxHeartbeats 400000 in
theorem all16_any (ts : List Ty) (w : World) (B : Nat) (A A' : Option Addr) (k k' : Nat) (hB : B ≤ w.heap.size) (hl : ts.length ≤ maxLen) (h : TysAt w B ts A) (h' : TysAt w B ts A') :
    Calls Try.prog 22 #[.slice A ts.length k, .slice A' ts.length k'] w fun e w' => e = .returned (.bool true) ∧ Below w.heap.size w w' := by
  have H := Lib.hid h
  have H' := Lib.hid h'
  clear h h'
  unfold maxLen at hl
  go_enter Try.func22, Try.ntmps22
  go_wp2
  go_loopw [5] (fun i wr => (∃ j : Nat, j ≤ ts.length ∧ i = .int .i64 j) ∧ Below w.heap.size w wr) (fun i _ => ts.length - (intOf i).toNat)
  case atStart => exact ⟨⟨0, Nat.zero_le _, rfl⟩, Below.refl _ _⟩
  case round =>
    obtain ⟨⟨j, hj, rfl⟩, hb⟩ := hrel
    by_cases hlt : j < ts.length
    · obtain ⟨a, v0, v1, v2, rfl, ha, p0, p1, p2, hty⟩ := (TysAt.below (hb.mono hB) H.out).get j hlt
      obtain ⟨a', u0, u1, u2, rfl, ha', q0, q1, q2, hty'⟩ := (TysAt.below (hb.mono hB) H'.out).get j hlt
      have HT := Lib.hid hty
      have HT' := Lib.hid hty'
      clear hty hty'
      go_wp2
      go_still_tail 8, (by kernel_rfl)
      change wpList _ _ _ _ _ wr.drew
      go_wp2_with fail
      refine (same16_any ts[j] wr.drew B _ _ _ _ _ _ (Nat.le_trans hB hb.size) HT.out.drew HT'.out.drew).mono ?_
      rintro e w2 ⟨rfl, hb2⟩
      go_wp2
      go_roundw
      case rel => exact ⟨⟨j + 1, by omega, by go_num⟩, hb.drew.trans (hb2.mono hb.size)⟩
      case measure => simp [intOf]; omega
    · go_wp2
      go_ret
      exact ⟨rfl, hb⟩
end Go.Proofs.Ytipeggpolnnpmaa
