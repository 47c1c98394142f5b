/-
  The walk of the reference's Same of terms: what reads as one term is the same.
-/
import Derived.Test.YtipeggpolnnpmaaPrimsSame
namespace Go.Proofs.Ytipeggpolnnpmaa
open Go.RowKit
set_option linter.unusedVariables false

/-- Numbers lie one behind another. -/
def IntsAt (w : World) (B : Nat) (vs : List Int) (A : Option Addr) : Prop := ∀ i (h : i < vs.length), ∃ a, A = some a ∧ a.block < B ∧ w.cell? (a.add i) = some (.int .i64 vs[i])
theorem IntsAt.below {w w' : World} {B : Nat} (hb : Below B w w') {vs : List Int} {A : Option Addr} (h : IntsAt w B vs A) : IntsAt w' B vs A := by
  intro i hi
  obtain ⟨a, e, hl, hc⟩ := h i hi
  exact ⟨a, e, hl, (hb.cell (by rw [blk_add]; exact hl)).trans hc⟩

theorem blk_new1 (W : World) (o1 o2 : Obj) : ((W.alloc o1).alloc o2).heap[W.heap.size + 1]? = some o2 := by have := blk_new (W.alloc o1) o2; rwa [World.size_alloc] at this

set_option maxRecDepth 100000 in
set_option maxHeartbeats 1000000 in
theorem same32_mk (k n : Int) (s : ByteArray) (vs : List Int) (ts : List Ty) (ks : List Tm) (ih : ∀ a ∈ ks, ∀ (w : World) (B : Nat) (cs ds : Array Value), B ≤ w.heap.size → TmAt w B a cs → TmAt w B a ds →
      Calls Try.prog 8 #[.agg cs, .agg ds] w fun e w' => e = .returned (.bool true) ∧ Below w.heap.size w w')
    (w : World) (B : Nat) (A1 A2 A3 D1 D2 D3 : Option Addr) (a1 a2 a3 d1 d2 d3 : Nat) (hB : B ≤ w.heap.size) (l1 : vs.length ≤ maxLen) (l2 : ts.length ≤ maxLen) (l3 : ks.length ≤ maxLen)
    (hv : IntsAt w B vs A1) (hv' : IntsAt w B vs D1) (ht : TysAt w B ts A2) (ht' : TysAt w B ts D2) (hk : TmsAt w B ks A3) (hk' : TmsAt w B ks D3) :
    Calls Try.prog 8 #[.agg #[.int .i64 k, .int .i64 n, .string s, .slice A1 vs.length a1, .slice A2 ts.length a2, .slice A3 ks.length a3], .agg #[.int .i64 k, .int .i64 n, .string s, .slice D1 vs.length d1, .slice D2 ts.length d2, .slice D3 ks.length d3]] w fun e w' => e = .returned (.bool true) ∧ Below w.heap.size w w' := by
  have IH := Lib.hid ih
  have HV := Lib.hid hv
  have HV' := Lib.hid hv'
  have HT := Lib.hid ht
  have HT' := Lib.hid ht'
  have HK := Lib.hid hk
  have HK' := Lib.hid hk'
  clear ih hv hv' ht ht' hk hk'
  have HA := Lib.hid (fun W (h : B ≤ W.heap.size) => all16_any ts W B A2 D2 a2 d2 h l2)
  unfold maxLen at l1 l2 l3
  go_enter Try.func8, Try.ntmps8
  go_wp2_with fail
  refine (HA.out _ (by simp; omega) ?ta ?tb).mono ?_
  case ta => exact TysAt.keep (w := w) (Nat.le_refl _) (fun p hp => (((Below.refl w.heap.size w).alloc (Nat.le_refl _) _).alloc (by simp) _).cell (Nat.lt_of_lt_of_le hp hB)) ts A2 HT.out
  case tb => exact TysAt.keep (w := w) (Nat.le_refl _) (fun p hp => (((Below.refl w.heap.size w).alloc (Nat.le_refl _) _).alloc (by simp) _).cell (Nat.lt_of_lt_of_le hp hB)) ts D2 HT'.out
  rintro e w1 ⟨rfl, hb1⟩
  have hB1 : Below w.heap.size w w1 := (((Below.refl w.heap.size w).alloc (Nat.le_refl _) _).alloc (by simp) _).trans (hb1.mono (by simp; omega))
  have X0 := Lib.hid ((hb1.block _ (by simp; omega)).trans (blk_alloc (blk_new w (.cells #[.int .i64 k, .int .i64 n, .string s, .slice A1 vs.length a1, .slice A2 ts.length a2, .slice A3 ks.length a3] 26)) (.cells #[.int .i64 k, .int .i64 n, .string s, .slice D1 vs.length d1, .slice D2 ts.length d2, .slice D3 ks.length d3] 26)))
  have X1 := Lib.hid ((hb1.block (w.heap.size + 1) (by simp)).trans (blk_new1 w (.cells #[.int .i64 k, .int .i64 n, .string s, .slice A1 vs.length a1, .slice A2 ts.length a2, .slice A3 ks.length a3] 26) (.cells #[.int .i64 k, .int .i64 n, .string s, .slice D1 vs.length d1, .slice D2 ts.length d2, .slice D3 ks.length d3] 26)))
  go_wp2
  go_loopw [5] (fun i wr => (∃ j : Nat, j ≤ vs.length ∧ i = .int .i64 j) ∧ wr.heap[w.heap.size]? = some (.cells #[.int .i64 k, .int .i64 n, .string s, .slice A1 vs.length a1, .slice A2 ts.length a2, .slice A3 ks.length a3] 26 (0, 0)) ∧ wr.heap[w.heap.size + 1]? = some (.cells #[.int .i64 k, .int .i64 n, .string s, .slice D1 vs.length d1, .slice D2 ts.length d2, .slice D3 ks.length d3] 26 (0, 0)) ∧ Below w.heap.size w wr) (fun i _ => vs.length - (intOf i).toNat)
  case atStart => exact ⟨⟨0, Nat.zero_le _, rfl⟩, X0.out, X1.out, hB1⟩
  case round =>
    obtain ⟨⟨j, hj, rfl⟩, t0, t1, hb⟩ := hrel
    have y0 : wr.cell? ⟨w.heap.size, 3, none⟩ = some (.slice A1 vs.length a1) := blk_cell t0 3
    have y1 : wr.cell? ⟨w.heap.size + 1, 3, none⟩ = some (.slice D1 vs.length d1) := blk_cell t1 3
    have T0 := Lib.hid t0
    have T1 := Lib.hid t1
    clear t0 t1
    by_cases hlt : j < vs.length
    · obtain ⟨a, rfl, ha, p0⟩ := (IntsAt.below (hb.mono hB) HV.out) j hlt
      obtain ⟨a', rfl, ha', q0⟩ := (IntsAt.below (hb.mono hB) HV'.out) j hlt
      go_wp2
      go_still_tail 10, (by kernel_rfl)
      change wpList _ _ _ _ _ wr.drew
      go_wp2
      go_roundw
      case rel => exact ⟨⟨j + 1, by omega, by go_num⟩, T0.out, T1.out, hb.drew⟩
      case measure => simp [intOf]; omega
    · go_wp2
      go_loopw [6] (fun i wr => (∃ j : Nat, j ≤ ks.length ∧ i = .int .i64 j) ∧ wr.heap[w.heap.size]? = some (.cells #[.int .i64 k, .int .i64 n, .string s, .slice A1 vs.length a1, .slice A2 ts.length a2, .slice A3 ks.length a3] 26 (0, 0)) ∧ wr.heap[w.heap.size + 1]? = some (.cells #[.int .i64 k, .int .i64 n, .string s, .slice D1 vs.length d1, .slice D2 ts.length d2, .slice D3 ks.length d3] 26 (0, 0)) ∧ Below w.heap.size w wr) (fun i _ => ks.length - (intOf i).toNat)
      case atStart => exact ⟨⟨0, Nat.zero_le _, rfl⟩, T0.out, T1.out, hb⟩
      case round =>
        clear hb T0 T1 y0 y1 hj hlt
        obtain ⟨⟨i, hj, rfl⟩, t0, t1, hb⟩ := hrel
        have y0 : wr.cell? ⟨w.heap.size, 5, none⟩ = some (.slice A3 ks.length a3) := blk_cell t0 5
        have y1 : wr.cell? ⟨w.heap.size + 1, 5, none⟩ = some (.slice D3 ks.length d3) := blk_cell t1 5
        have T0 := Lib.hid t0
        have T1 := Lib.hid t1
        clear t0 t1
        by_cases hlt : i < ks.length
        · obtain ⟨a, v0, v1, v2, v3, v4, v5, rfl, ha, p0, p1, p2, p3, p4, p5, hty⟩ := (TmsAt.below (hb.mono hB) HK.out).get i hlt
          obtain ⟨a', u0, u1, u2, u3, u4, u5, rfl, ha', q0, q1, q2, q3, q4, q5, hty'⟩ := (TmsAt.below (hb.mono hB) HK'.out).get i hlt
          have HY := Lib.hid hty
          have HY' := Lib.hid hty'
          clear hty hty'
          go_wp2
          go_still_tail 10, (by kernel_rfl)
          change wpList _ _ _ _ _ wr.drew
          go_wp2_with fail
          refine (IH.out ks[i] (List.getElem_mem hlt) wr.drew B _ _ (Nat.le_trans hB hb.size) HY.out.drew HY'.out.drew).mono ?_
          rintro e w2 ⟨rfl, hb2⟩
          have T0' := Lib.hid ((hb2.block _ (blk_lt T0.out)).trans T0.out)
          have T1' := Lib.hid ((hb2.block _ (blk_lt T1.out)).trans T1.out)
          go_wp2
          go_roundw
          case rel => exact ⟨⟨i + 1, by omega, by go_num⟩, T0'.out, T1'.out, hb.drew.trans (hb2.mono hb.size)⟩
          case measure => simp [intOf]; omega
        · go_wp2
          go_ret
          exact ⟨rfl, hb⟩

/-- What reads as one term is the same. -/
theorem same32_any : ∀ (t : Tm) (w : World) (B : Nat) (cs ds : Array Value), B ≤ w.heap.size → TmAt w B t cs → TmAt w B t ds →
      Calls Try.prog 8 #[.agg cs, .agg ds] w fun e w' => e = .returned (.bool true) ∧ Below w.heap.size w w' := by
  refine Tm.ind ?_
  intro k n s vs ts ks ih w B cs ds hB h h'
  unfold TmAt at h h'
  obtain ⟨A1, k1, A2, k2, A3, k3, rfl, l1, l2, l3, hv, ht, hk⟩ := h
  obtain ⟨D1, m1, D2, m2, D3, m3, rfl, _, _, _, hv', ht', hk'⟩ := h'
  exact same32_mk k n s vs ts ks ih w B A1 A2 A3 D1 D2 D3 k1 k2 k3 m1 m2 m3 hB l1 l2 l3 hv hv' ht ht' hk hk'
end Go.Proofs.Ytipeggpolnnpmaa
