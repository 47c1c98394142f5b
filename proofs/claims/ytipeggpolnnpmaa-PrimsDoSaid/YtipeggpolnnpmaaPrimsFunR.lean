/-
  The walks of the reference's Fun, Prim, Is.
-/
import Derived.Test.YtipeggpolnnpmaaPrimsFun
import Derived.StillTailTactics
namespace Go.Proofs.Ytipeggpolnnpmaa
open Go.RowKit
set_option linter.unusedVariables false

set_option maxRecDepth 100000 in
set_option maxHeartbeats 400000 in
theorem rto_any (s0 : ByteArray) (n0 : Int) (A0 : Option Addr) (l0 k0 : Nat) (s1 : ByteArray) (n1 : Int) (A1 : Option Addr) (l1 k1 : Nat) (w : World) :
    Calls Try.prog 51 #[.agg #[.string s0, .int .i64 n0, .slice A0 l0 k0], .agg #[.string s1, .int .i64 n1, .slice A1 l1 k1]] w (FunPost w) := by
  go_enter Try.func51, Try.ntmps51
  go_wp2
  refine bodyPost_ret (v := .agg #[.string ⟨#[45, 62]⟩, .int .i64 0, .slice (some ⟨w.heap.size + 1 + 1 + 1, 0, none⟩) 2 2]) (by simp [results, Try.results51, go_sem]) rfl ⟨_, _, _, _, _, rfl, ?_⟩
  all_goals (repeat (first | exact Below.refl _ _ | refine Below.alloc ?_ (by first | exact Nat.le_refl _ | (simp only [World.size_alloc]; omega)) _))

set_option maxRecDepth 100000 in
set_option maxHeartbeats 400000 in
theorem rfun_any (b : Nat) (s0 : ByteArray) (n0 : Int) (A0 : Option Addr) (l0 k0 : Nat) (w : World) (hb : b < w.heap.size)
    (c0 : w.cell? ⟨b, 0, none⟩ = some (.string ⟨#[73, 110, 116]⟩)) (c1 : w.cell? ⟨b, 1, none⟩ = some (.int .i64 0)) (c2 : w.cell? ⟨b, 2, none⟩ = some (.slice none 0 0))
    (c3 : w.cell? ⟨b, 3, none⟩ = some (.string ⟨#[73, 110, 116]⟩)) (c4 : w.cell? ⟨b, 4, none⟩ = some (.int .i64 0)) (c5 : w.cell? ⟨b, 5, none⟩ = some (.slice none 0 0)) :
    Calls Try.prog 43 #[.slice (some ⟨b, 0, none⟩) 2 2, .agg #[.string s0, .int .i64 n0, .slice A0 l0 k0]] w (FunPost w) := by
  go_enter Try.func43, Try.ntmps43
  go_wp2
  go_loopw [5] (fun i wr => (∃ k : Int, -1 ≤ k ∧ k ≤ 1 ∧ i = .int .i64 k) ∧ Ty3 wr w.heap.size ∧ wr.heap[w.heap.size + 1]? = some (.cells #[.string ⟨#[]⟩, .int .i64 0, .slice none 0 0] 54 (0, 0)) ∧ Below w.heap.size w wr) (fun i _ => (intOf i + 1).toNat)
  case atStart => exact ⟨⟨1, by omega, by omega, rfl⟩, ⟨_, _, _, _, _, blk_alloc (blk_new w _) _⟩, by have := blk_new (w.alloc (.cells #[.string s0, .int .i64 n0, .slice A0 l0 k0] 54)) (.cells #[.string ⟨#[]⟩, .int .i64 0, .slice none 0 0] 54); simpa using this, ((Below.refl _ w).alloc (Nat.le_refl _) _).alloc (by simp) _⟩
  case round =>
    obtain ⟨⟨k, hk0, hk1, rfl⟩, ⟨s, n, A, l, c, t3⟩, r1, hB⟩ := hrel
    have d0 := (hB.cell (p := ⟨b, 0, none⟩) hb).trans c0
    have d1 := (hB.cell (p := ⟨b, 1, none⟩) hb).trans c1
    have d2 := (hB.cell (p := ⟨b, 2, none⟩) hb).trans c2
    have d3 := (hB.cell (p := ⟨b, 3, none⟩) hb).trans c3
    have d4 := (hB.cell (p := ⟨b, 4, none⟩) hb).trans c4
    have d5 := (hB.cell (p := ⟨b, 5, none⟩) hb).trans c5
    have y0 : wr.cell? ⟨w.heap.size, 0, none⟩ = some (.string s) := blk_cell t3 0
    have y1 : wr.cell? ⟨w.heap.size, 1, none⟩ = some (.int .i64 n) := blk_cell t3 1
    have y2 : wr.cell? ⟨w.heap.size, 2, none⟩ = some (.slice A l c) := blk_cell t3 2
    have u0 : wr.cell? ⟨w.heap.size + 1, 0, none⟩ = some (.string ⟨#[]⟩) := blk_cell r1 0
    have u1 : wr.cell? ⟨w.heap.size + 1, 1, none⟩ = some (.int .i64 0) := blk_cell r1 1
    have u2 : wr.cell? ⟨w.heap.size + 1, 2, none⟩ = some (.slice none 0 0) := blk_cell r1 2
    have f0 := blk_frozen r1 0
    have f1 := blk_frozen r1 1
    have f2 := blk_frozen r1 2
    have T3 := Lib.hid t3
    have R1 := Lib.hid r1
    clear t3 r1 c0 c1 c2 c3 c4 c5
    rcases (show k = 1 ∨ k = 0 ∨ k = -1 by omega) with rfl | rfl | rfl
    · go_wp2
      go_still_tail 5, (by kernel_rfl)
      change wpList _ _ _ _ _ wr.drew
      go_wp2_with fail
      refine (rto_any _ _ _ _ _ _ _ _ _ _ _).mono ?_
      rintro e w2 ⟨s2, n2, A2, l2, c2, rfl, hb2⟩
      have q3 : w2.heap[w.heap.size]? = some (.cells #[.string s, .int .i64 n, .slice A l c] 54 (0, 0)) := (hb2.block _ (blk_lt T3.out)).trans T3.out
      have q1 : w2.heap[w.heap.size + 1]? = some (.cells #[.string ⟨#[]⟩, .int .i64 0, .slice none 0 0] 54 (0, 0)) := (hb2.block _ (blk_lt R1.out)).trans R1.out
      have z0 : w2.cell? ⟨w.heap.size, 0, none⟩ = some (.string s) := blk_cell q3 0
      have z1 : w2.cell? ⟨w.heap.size, 1, none⟩ = some (.int .i64 n) := blk_cell q3 1
      have z2 : w2.cell? ⟨w.heap.size, 2, none⟩ = some (.slice A l c) := blk_cell q3 2
      have g0 := blk_frozen q3 0
      have g1 := blk_frozen q3 1
      have g2 := blk_frozen q3 2
      have Q3 := Lib.hid (blk_set (blk_set (blk_set q3 0 (.string s2)) 1 (.int .i64 n2)) 2 (.slice A2 l2 c2))
      have Q1 := Lib.hid (blk_far (blk_far (blk_far q1 (B' := w.heap.size) (by omega) 0 (.string s2)) (B' := w.heap.size) (by omega) 1 (.int .i64 n2)) (B' := w.heap.size) (by omega) 2 (.slice A2 l2 c2))
      have hB2 : Below w.heap.size w w2 := hB.drew.trans (hb2.mono hB.size)
      clear q3 q1
      go_wp2
      go_roundw
      case rel => exact ⟨⟨0, by omega, by omega, rfl⟩, ⟨_, _, _, _, _, Q3.out⟩, Q1.out, ((hB2.setCell (p := ⟨w.heap.size, 0, none⟩) (Nat.le_refl _) _).setCell (p := ⟨w.heap.size, 1, none⟩) (Nat.le_refl _) _).setCell (p := ⟨w.heap.size, 2, none⟩) (Nat.le_refl _) _⟩
      case measure => simp [intOf]
    · go_wp2
      go_still_tail 5, (by kernel_rfl)
      change wpList _ _ _ _ _ wr.drew
      go_wp2_with fail
      refine (rto_any _ _ _ _ _ _ _ _ _ _ _).mono ?_
      rintro e w2 ⟨s2, n2, A2, l2, c2, rfl, hb2⟩
      have q3 : w2.heap[w.heap.size]? = some (.cells #[.string s, .int .i64 n, .slice A l c] 54 (0, 0)) := (hb2.block _ (blk_lt T3.out)).trans T3.out
      have q1 : w2.heap[w.heap.size + 1]? = some (.cells #[.string ⟨#[]⟩, .int .i64 0, .slice none 0 0] 54 (0, 0)) := (hb2.block _ (blk_lt R1.out)).trans R1.out
      have z0 : w2.cell? ⟨w.heap.size, 0, none⟩ = some (.string s) := blk_cell q3 0
      have z1 : w2.cell? ⟨w.heap.size, 1, none⟩ = some (.int .i64 n) := blk_cell q3 1
      have z2 : w2.cell? ⟨w.heap.size, 2, none⟩ = some (.slice A l c) := blk_cell q3 2
      have g0 := blk_frozen q3 0
      have g1 := blk_frozen q3 1
      have g2 := blk_frozen q3 2
      have Q3 := Lib.hid (blk_set (blk_set (blk_set q3 0 (.string s2)) 1 (.int .i64 n2)) 2 (.slice A2 l2 c2))
      have Q1 := Lib.hid (blk_far (blk_far (blk_far q1 (B' := w.heap.size) (by omega) 0 (.string s2)) (B' := w.heap.size) (by omega) 1 (.int .i64 n2)) (B' := w.heap.size) (by omega) 2 (.slice A2 l2 c2))
      have hB2 : Below w.heap.size w w2 := hB.drew.trans (hb2.mono hB.size)
      clear q3 q1
      go_wp2
      go_roundw
      case rel => exact ⟨⟨(-1), by omega, by omega, rfl⟩, ⟨_, _, _, _, _, Q3.out⟩, Q1.out, ((hB2.setCell (p := ⟨w.heap.size, 0, none⟩) (Nat.le_refl _) _).setCell (p := ⟨w.heap.size, 1, none⟩) (Nat.le_refl _) _).setCell (p := ⟨w.heap.size, 2, none⟩) (Nat.le_refl _) _⟩
      case measure => simp [intOf]
    · go_wp2
      refine bodyPost_ret (v := .agg #[.string s, .int .i64 n, .slice A l c]) (by simp [results, Try.results43, go_sem, u0, u1, u2]) rfl ⟨_, _, _, _, _, rfl, ?_⟩
      exact ((hB.setCell (by simp) _).setCell (by simp) _).setCell (by simp) _
end Go.Proofs.Ytipeggpolnnpmaa
