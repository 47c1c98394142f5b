/-
  The walks of Few and count of terms.
-/
import Derived.Test.YtipeggpolnnpmaaPrimsFew
namespace Go.Proofs.Ytipeggpolnnpmaa
open Go.RowKit
set_option linter.unusedVariables false

set_option maxRecDepth 100000 in
set_option maxHeartbeats 1000000 in
theorem count32_neg (kk n : Int) (s : ByteArray) (vs : List Int) (ts : List Ty) (ks : List Tm) (w : World) (B : Nat) (A1 A2 A3 : Option Addr) (k1 k2 k3 : Nat) (left deep : Int) (hB : B ≤ w.heap.size) (l1 : vs.length ≤ maxLen) (l2 : ts.length ≤ maxLen) (l3 : ks.length ≤ maxLen) (ht : TysAt w B ts A2)
    (hl0 : -1000 ≤ left) (hl1 : left < 0) (hd0 : 1 ≤ deep) (hd1 : deep ≤ 1000) :
    Calls Try.prog 26 #[.agg #[.int .i64 kk, .int .i64 n, .string s, .slice A1 vs.length k1, .slice A2 ts.length k2, .slice A3 ks.length k3], .int .i64 left, .int .i64 deep] w (SomeI (fun r => left - 1 ≤ r ∧ r < 0) w) := by
  have HF := Lib.hid (fun W (hW : B ≤ W.heap.size) (hl : ts.length ≤ 30) (h : TysAt W B ts A2) => few16_any ts W B A2 k2 hW (by omega) h)
  have HT := Lib.hid ht
  have hneg : decide (0 ≤ left - 1) = false := by simp; omega
  have hneg' : decide (1 ≤ left) = false := by simp; omega
  have hd' : decide (deep < 1) = false := by simp; omega
  have hb0 : Below w.heap.size w (w.alloc (.cells #[.int .i64 kk, .int .i64 n, .string s, .slice A1 vs.length k1, .slice A2 ts.length k2, .slice A3 ks.length k3] 26)) := (Below.refl _ w).alloc (Nat.le_refl _) _
  have X0 := Lib.hid (blk_new w (.cells #[.int .i64 kk, .int .i64 n, .string s, .slice A1 vs.length k1, .slice A2 ts.length k2, .slice A3 ks.length k3] 26))
  unfold maxLen at l1 l2 l3
  clear ht
  by_cases g1 : 100 < vs.length
  · go_enter Try.func26, Try.ntmps26
    go_wp2
    go_ret
    exact ⟨-1, rfl, by omega, hb0⟩
  by_cases g2 : 30 < ts.length
  · go_enter Try.func26, Try.ntmps26
    go_wp2
    go_ret
    exact ⟨-1, rfl, by omega, hb0⟩
  go_enter Try.func26, Try.ntmps26
  go_wp2_with fail
  refine (HF.out _ (by simp; omega) (by omega) (TysAt.below (hb0.mono hB) HT.out)).mono ?_
  rintro e w1 ⟨r, rfl, hr, hb1⟩
  have hB1 : Below w.heap.size w w1 := hb0.trans (hb1.mono (by simp))
  rcases hr with rfl | rfl
  · go_wp2
    go_ret
    exact ⟨-1, rfl, by omega, hB1⟩
  · have X1 := Lib.hid ((hb1.block _ (blk_lt X0.out)).trans X0.out)
    go_wp2
    go_loop [1, 7] (fun a i => a = .int .i64 (left - 1) ∧ i = .int .i64 0) (fun _ _ => 0)
    case atStart => exact ⟨rfl, rfl⟩
    case round =>
      obtain ⟨rfl, rfl⟩ := hrel
      have y0 : w1.cell? ⟨w.heap.size, 5, none⟩ = some (.slice A3 ks.length k3) := blk_cell X1.out 5
      by_cases hz : 0 < ks.length
      · go_wp2
        go_ret
        exact ⟨left - 1, rfl, by omega, hB1⟩
      · go_wp2
        go_ret
        exact ⟨left - 1, rfl, by omega, hB1⟩

set_option maxRecDepth 100000 in
set_option maxHeartbeats 1000000 in
theorem count32_mk (kk n : Int) (s : ByteArray) (vs : List Int) (ts : List Ty) (ks : List Tm) (ih : ∀ t ∈ ks, ∀ (w : World) (B : Nat) (cs : Array Value) (left deep : Int), B ≤ w.heap.size → TmAt w B t cs → 0 ≤ left → left ≤ 3000 → 0 ≤ deep → deep ≤ 1000 →
      Calls Try.prog 26 #[.agg cs, .int .i64 left, .int .i64 deep] w (SomeI (fun r => -1 ≤ r ∧ r ≤ 3000 ∧ (0 ≤ r → r + tsize t ≤ left)) w))
    (w : World) (B : Nat) (A1 A2 A3 : Option Addr) (k1 k2 k3 : Nat) (left deep : Int) (hB : B ≤ w.heap.size) (l1 : vs.length ≤ maxLen) (l2 : ts.length ≤ maxLen) (l3 : ks.length ≤ maxLen) (ht : TysAt w B ts A2) (hk : TmsAt w B ks A3)
    (hl0 : 0 ≤ left) (hl1 : left ≤ 3000) (hd0 : 0 ≤ deep) (hd1 : deep ≤ 1000) :
    Calls Try.prog 26 #[.agg #[.int .i64 kk, .int .i64 n, .string s, .slice A1 vs.length k1, .slice A2 ts.length k2, .slice A3 ks.length k3], .int .i64 left, .int .i64 deep] w (SomeI (fun r => -1 ≤ r ∧ r ≤ 3000 ∧ (0 ≤ r → r + (1 + tsizes ks : Nat) ≤ left)) w) := by
  have IH := Lib.hid ih
  have HF := Lib.hid (fun W (hW : B ≤ W.heap.size) (hl : ts.length ≤ 30) (h : TysAt W B ts A2) => few16_any ts W B A2 k2 hW (by omega) h)
  have HT := Lib.hid ht
  have HK := Lib.hid hk
  have hb0 : Below w.heap.size w (w.alloc (.cells #[.int .i64 kk, .int .i64 n, .string s, .slice A1 vs.length k1, .slice A2 ts.length k2, .slice A3 ks.length k3] 26)) := (Below.refl _ w).alloc (Nat.le_refl _) _
  have X0 := Lib.hid (blk_new w (.cells #[.int .i64 kk, .int .i64 n, .string s, .slice A1 vs.length k1, .slice A2 ts.length k2, .slice A3 ks.length k3] 26))
  unfold maxLen at l1 l2 l3
  clear ht hk ih
  by_cases hd : deep < 1
  · have hd' : decide (deep < 1) = true := by simpa using hd
    go_enter Try.func26, Try.ntmps26
    go_wp2
    go_ret
    exact ⟨-1, rfl, by omega, hb0⟩
  have hd' : decide (deep < 1) = false := by simpa using hd
  have hd'' : 1 ≤ deep := by omega
  clear hd
  by_cases g1 : 100 < vs.length
  · go_enter Try.func26, Try.ntmps26
    go_wp2
    go_ret
    exact ⟨-1, rfl, by omega, hb0⟩
  by_cases g2 : 30 < ts.length
  · go_enter Try.func26, Try.ntmps26
    go_wp2
    go_ret
    exact ⟨-1, rfl, by omega, hb0⟩
  go_enter Try.func26, Try.ntmps26
  go_wp2_with fail
  refine (HF.out _ (by simp; omega) (by omega) (TysAt.below (hb0.mono hB) HT.out)).mono ?_
  rintro e w1 ⟨r, rfl, hr, hb1⟩
  have hB1 : Below w.heap.size w w1 := hb0.trans (hb1.mono (by simp))
  rcases hr with rfl | rfl
  · go_wp2
    go_ret
    exact ⟨-1, rfl, by omega, hB1⟩
  · have X1 := Lib.hid ((hb1.block _ (blk_lt X0.out)).trans X0.out)
    go_wp2
    go_loopw [1, 7] (fun a i wr => (∃ (j : Nat) (m : Int), j ≤ ks.length ∧ i = .int .i64 j ∧ a = .int .i64 m ∧ -1 ≤ m ∧ m ≤ 3000 ∧ (0 ≤ m → m + (1 + tsizes (ks.take j) : Nat) ≤ left)) ∧ wr.heap[w.heap.size]? = some (.cells #[.int .i64 kk, .int .i64 n, .string s, .slice A1 vs.length k1, .slice A2 ts.length k2, .slice A3 ks.length k3] 26 (0, 0)) ∧ Below w.heap.size w wr) (fun _ i _ => ks.length - (intOf i).toNat)
    case atStart => exact ⟨⟨0, left - 1, Nat.zero_le _, rfl, rfl, by omega, by omega, by simp [tsizes]⟩, X1.out, hB1⟩
    case round =>
      obtain ⟨⟨j, m, hj, rfl, rfl, hm0, hm1, hm2⟩, t0, hb⟩ := hrel
      have y0 : wr.cell? ⟨w.heap.size, 5, none⟩ = some (.slice A3 ks.length k3) := blk_cell t0 5
      have T0 := Lib.hid t0
      have HM := Lib.hid hm2
      clear t0 hm2
      by_cases hlt : j < ks.length
      · by_cases hm : 0 ≤ m
        · obtain ⟨a, v0, v1, v2, v3, v4, v5, rfl, ha, p0, p1, p2, p3, p4, p5, hty⟩ := (TmsAt.below (hb.mono hB) HK.out).get j hlt
          have HY := Lib.hid hty
          clear hty
          go_wp2_with fail
          refine (IH.out ks[j] (List.getElem_mem hlt) wr B _ m (deep - 1) (Nat.le_trans hB hb.size) HY.out hm hm1 (by omega) (by omega)).mono ?_
          rintro e w2 ⟨r, rfl, hr, hb2⟩
          have T0' := Lib.hid ((hb2.block _ (blk_lt T0.out)).trans T0.out)
          have HR := Lib.hid hr
          clear hr
          go_wp2
          go_roundw
          case rel => exact ⟨⟨j + 1, r, by omega, by go_num, rfl, HR.out.1, HR.out.2.1, fun h => by
            have h1 := HR.out.2.2 h
            have h2 := HM.out hm
            rw [take_snocT ks j hlt, tsizes_snoc]
            omega⟩, T0'.out, hb.trans (hb2.mono hb.size)⟩
          case measure => simp [intOf]; omega
        · have hm' : decide (0 ≤ m) = false := by simpa using hm
          go_wp2
          go_ret
          exact ⟨m, rfl, by omega, hb⟩
      · go_wp2
        go_ret
        exact ⟨m, rfl, ⟨hm0, hm1, fun h => by have := HM.out h; rwa [List.take_of_length_le (by omega)] at this⟩, hb⟩

theorem count32_any : ∀ (t : Tm) (w : World) (B : Nat) (cs : Array Value) (left deep : Int), B ≤ w.heap.size → TmAt w B t cs → 0 ≤ left → left ≤ 3000 → 0 ≤ deep → deep ≤ 1000 →
      Calls Try.prog 26 #[.agg cs, .int .i64 left, .int .i64 deep] w (SomeI (fun r => -1 ≤ r ∧ r ≤ 3000 ∧ (0 ≤ r → r + tsize t ≤ left)) w) := by
  refine Tm.ind ?_
  intro k n s vs ts ks ih w B cs left deep hB h hl0 hl1 hd0 hd1
  unfold TmAt at h
  obtain ⟨A1, k1, A2, k2, A3, k3, rfl, l1, l2, l3, hv, ht, hk⟩ := h
  have hs : tsize (.mk k n s vs ts ks) = 1 + tsizes ks := by unfold tsize; rfl
  rw [hs]
  exact count32_mk k n s vs ts ks ih w B A1 A2 A3 k1 k2 k3 left deep hB l1 l2 l3 ht hk hl0 hl1 hd0 hd1

set_option maxRecDepth 100000 in
set_option maxHeartbeats 1000000 in
theorem few32_two (p t : Tm) (w : World) (B : Nat) (A : Option Addr) (hB : B ≤ w.heap.size) (h : TmsAt w B [p, t] A) :
    Calls Try.prog 12 #[.slice A 2 2] w (SomeI (fun r => r = 0 ∨ (r = 1 ∧ tsize p + tsize t ≤ 3000)) w) := by
  have H := Lib.hid h
  clear h
  go_enter Try.func12, Try.ntmps12
  go_wp2
  go_loopw [3, 4] (fun a i wr => (∃ (j : Nat) (m : Int), j ≤ 2 ∧ i = .int .i64 j ∧ a = .int .i64 m ∧ -1 - (j : Int) ≤ m ∧ m ≤ 3000 ∧ (0 ≤ m → m + (tsizes ([p, t].take j) : Nat) ≤ 3000)) ∧ Below w.heap.size w wr) (fun _ i _ => 2 - (intOf i).toNat)
  case atStart => exact ⟨⟨0, 3000, Nat.zero_le _, rfl, rfl, by omega, by omega, by simp [tsizes]⟩, Below.refl _ _⟩
  case round =>
    obtain ⟨⟨j, m, hj, rfl, rfl, hm0, hm1, hm2⟩, hb⟩ := hrel
    have HM := Lib.hid hm2
    clear hm2
    by_cases hlt : j < 2
    · have hlt' : j < [p, t].length := hlt
      obtain ⟨a, v0, v1, v2, v3, v4, v5, rfl, ha, p0, p1, p2, p3, p4, p5, hty⟩ := (TmsAt.below (hb.mono hB) H.out).get j hlt'
      have HY := Lib.hid hty
      clear hty
      go_wp2_with fail
      by_cases hm : 0 ≤ m
      · refine (count32_any [p, t][j] wr B _ m 450 (Nat.le_trans hB hb.size) HY.out hm hm1 (by omega) (by omega)).mono ?_
        rintro e w2 ⟨r, rfl, hr, hb2⟩
        have HR := Lib.hid hr
        clear hr
        go_wp2
        go_roundw
        case rel => exact ⟨⟨j + 1, r, by omega, by go_num, rfl, by have := HR.out.1; omega, HR.out.2.1, fun h => by
          have h1 := HR.out.2.2 h
          have h2 := HM.out hm
          rw [take_snocT [p, t] j hlt', tsizes_snoc]
          omega⟩, hb.trans (hb2.mono hb.size)⟩
        case measure => simp [intOf]; omega
      · have hty := HY.out
        obtain ⟨k', n', s', vs', ts', ks', e'⟩ : ∃ k' n' s' vs' ts' ks', [p, t][j] = Tm.mk k' n' s' vs' ts' ks' := by
          cases [p, t][j] with | mk k' n' s' vs' ts' ks' => exact ⟨k', n', s', vs', ts', ks', rfl⟩
        rw [e'] at hty
        unfold TmAt at hty
        obtain ⟨A1, k1, A2, k2, A3, k3, e1, l1, l2, l3, _, ht, _⟩ := hty
        rw [e1]
        refine (count32_neg k' n' s' vs' ts' ks' wr B A1 A2 A3 k1 k2 k3 m 450 (Nat.le_trans hB hb.size) l1 l2 l3 ht (by omega) (by omega) (by omega) (by omega)).mono ?_
        rintro e w2 ⟨r, rfl, hr, hb2⟩
        have HR := Lib.hid hr
        clear hr e1 e' ht
        go_wp2
        go_roundw
        case rel => exact ⟨⟨j + 1, r, by omega, by go_num, rfl, by have := HR.out.1; omega, by have := HR.out.2; omega, fun h => by have := HR.out.2; omega⟩, hb.trans (hb2.mono hb.size)⟩
        case measure => simp [intOf]; omega
    · obtain rfl : j = 2 := by omega
      by_cases hm : m < 0
      · have hm' : decide (m < 0) = true := by simpa using hm
        go_wp2
        go_ret
        exact ⟨0, rfl, .inl rfl, hb⟩
      · have hm' : decide (m < 0) = false := by simpa using hm
        go_wp2
        go_ret
        exact ⟨1, rfl, .inr ⟨rfl, by have := HM.out (by omega); simp [tsizes] at this; omega⟩, hb⟩
end Go.Proofs.Ytipeggpolnnpmaa
