/-
  The walks of Few and count: whether types, and terms, are not too great.
-/
import Derived.Test.YtipeggpolnnpmaaPrimsMatchP
import Derived.Test.YtipeggpolnnpmaaPrimsFun
namespace Go.Proofs.Ytipeggpolnnpmaa
open Go.RowKit
set_option linter.unusedVariables false

/-- Some number, of which something holds. -/
def SomeI (P : Int → Prop) (w : World) (e : Ending) (w' : World) : Prop := ∃ r : Int, e = .returned (.int .i64 r) ∧ P r ∧ Below w.heap.size w w'

set_option maxRecDepth 100000 in
set_option maxHeartbeats 400000 in
theorem count16_neg (v0 v1 v2 : Value) (left deep : Int) (w : World) (c : ByteArray) (v : Int) (A : Option Addr) (n k : Nat) (h0 : v0 = .string c) (h1 : v1 = .int .i64 v) (h2 : v2 = .slice A n k) (hn : n ≤ maxLen) (hl0 : -1000 ≤ left) (hl1 : left < 0) (hd0 : 0 ≤ deep) (hd1 : deep ≤ 1000) :
    Calls Try.prog 55 #[.agg #[v0, v1, v2], .int .i64 left, .int .i64 deep] w (SomeI (fun r => left - 1 ≤ r ∧ r < 0) w) := by
  subst h0 h1 h2
  unfold maxLen at hn
  have hneg : decide (0 ≤ left - 1) = false := by simp; omega
  have hneg' : decide (1 ≤ left) = false := by simp; omega
  by_cases hd : deep < 1
  · have hd' : decide (deep < 1) = true := by simpa using hd
    go_enter Try.func55, Try.ntmps55
    go_wp2
    go_ret
    exact ⟨-1, rfl, by omega, (Below.refl _ _).alloc (Nat.le_refl _) _⟩
  · have hd' : decide (deep < 1) = false := by simpa using hd
    have hd'' : 1 ≤ deep := by omega
    clear hd
    go_enter Try.func55, Try.ntmps55
    go_wp2
    go_loop [1, 7] (fun a i => a = .int .i64 (left - 1) ∧ i = .int .i64 0) (fun _ _ => 0)
    case atStart => exact ⟨rfl, rfl⟩
    case round =>
      obtain ⟨rfl, rfl⟩ := hrel
      by_cases hz : 0 < n
      · go_wp2
        go_ret
        exact ⟨left - 1, rfl, by omega, (Below.refl _ _).alloc (Nat.le_refl _) _⟩
      · go_wp2
        go_ret
        exact ⟨left - 1, rfl, by omega, (Below.refl _ _).alloc (Nat.le_refl _) _⟩

set_option maxRecDepth 100000 in
set_option maxHeartbeats 400000 in
theorem count16_mk (c : ByteArray) (v : Int) (ar : List Ty) (ih : ∀ t ∈ ar, ∀ (w : World) (B : Nat) (v0 v1 v2 : Value) (left deep : Int), B ≤ w.heap.size → TyAt w B t v0 v1 v2 → 0 ≤ left → left ≤ 20000 → 0 ≤ deep → deep ≤ 1000 →
      Calls Try.prog 55 #[.agg #[v0, v1, v2], .int .i64 left, .int .i64 deep] w (SomeI (fun r => -1 ≤ r ∧ r ≤ 20000) w))
    (w : World) (B : Nat) (A : Option Addr) (k : Nat) (left deep : Int) (hB : B ≤ w.heap.size) (hl : ar.length ≤ maxLen) (h : TysAt w B ar A) (hl0 : 0 ≤ left) (hl1 : left ≤ 20000) (hd0 : 0 ≤ deep) (hd1 : deep ≤ 1000) :
    Calls Try.prog 55 #[.agg #[.string c, .int .i64 v, .slice A ar.length k], .int .i64 left, .int .i64 deep] w (SomeI (fun r => -1 ≤ r ∧ r ≤ 20000) w) := by
  have IH := Lib.hid ih
  have H := Lib.hid h
  clear ih h
  unfold maxLen at hl
  by_cases hd : deep < 1
  · have hd' : decide (deep < 1) = true := by simpa using hd
    go_enter Try.func55, Try.ntmps55
    go_wp2
    go_ret
    exact ⟨-1, rfl, by omega, (Below.refl _ _).alloc (Nat.le_refl _) _⟩
  · have hd' : decide (deep < 1) = false := by simpa using hd
    have hd'' : 1 ≤ deep := by omega
    clear hd
    go_enter Try.func55, Try.ntmps55
    go_wp2
    go_loopw [1, 7] (fun a i wr => (∃ (j : Nat) (m : Int), j ≤ ar.length ∧ i = .int .i64 j ∧ a = .int .i64 m ∧ -1 ≤ m ∧ m ≤ 20000) ∧ wr.heap[w.heap.size]? = some (.cells #[.string c, .int .i64 v, .slice A ar.length k] 54 (0, 0)) ∧ Below w.heap.size w wr) (fun _ i _ => ar.length - (intOf i).toNat)
    case atStart => exact ⟨⟨0, left - 1, Nat.zero_le _, rfl, rfl, by omega, by omega⟩, blk_new w _, (Below.refl _ w).alloc (Nat.le_refl _) _⟩
    case round =>
      obtain ⟨⟨j, m, hj, rfl, rfl, hm0, hm1⟩, t0, hb⟩ := hrel
      have y0 : wr.cell? ⟨w.heap.size, 2, none⟩ = some (.slice A ar.length k) := blk_cell t0 2
      have T0 := Lib.hid t0
      clear t0
      by_cases hlt : j < ar.length
      · by_cases hm : 0 ≤ m
        · obtain ⟨a, v0, v1, v2, rfl, ha, p0, p1, p2, hty⟩ := (TysAt.below (hb.mono hB) H.out).get j hlt
          have HT := Lib.hid hty
          clear hty
          go_wp2_with fail
          refine (IH.out ar[j] (List.getElem_mem hlt) wr B _ _ _ m (deep - 1) (Nat.le_trans hB hb.size) HT.out hm hm1 (by omega) (by omega)).mono ?_
          rintro e w2 ⟨r, rfl, hr, hb2⟩
          have T0' := Lib.hid ((hb2.block _ (blk_lt T0.out)).trans T0.out)
          go_wp2
          go_roundw
          case rel => exact ⟨⟨j + 1, r, by omega, by go_num, rfl, hr.1, hr.2⟩, T0'.out, hb.trans (hb2.mono hb.size)⟩
          case measure => simp [intOf]; omega
        · have hm' : decide (0 ≤ m) = false := by simpa using hm
          go_wp2
          go_ret
          exact ⟨m, rfl, by omega, hb⟩
      · go_wp2
        go_ret
        exact ⟨m, rfl, by omega, hb⟩

theorem count16_any : ∀ (t : Ty) (w : World) (B : Nat) (v0 v1 v2 : Value) (left deep : Int), B ≤ w.heap.size → TyAt w B t v0 v1 v2 → 0 ≤ left → left ≤ 20000 → 0 ≤ deep → deep ≤ 1000 →
      Calls Try.prog 55 #[.agg #[v0, v1, v2], .int .i64 left, .int .i64 deep] w (SomeI (fun r => -1 ≤ r ∧ r ≤ 20000) w) := by
  refine Ty.ind ?_
  intro c v ar ih w B v0 v1 v2 left deep hB h hl0 hl1 hd0 hd1
  unfold TyAt at h
  obtain ⟨rfl, rfl, hl, A, k, rfl, hA⟩ := h
  exact count16_mk c v ar ih w B A k left deep hB hl hA hl0 hl1 hd0 hd1

set_option maxRecDepth 100000 in
set_option maxHeartbeats 400000 in
theorem few16_any (ts : List Ty) (w : World) (B : Nat) (A : Option Addr) (k : Nat) (hB : B ≤ w.heap.size) (hl : ts.length ≤ 100) (h : TysAt w B ts A) :
    Calls Try.prog 46 #[.slice A ts.length k] w (SomeI (fun r => r = 0 ∨ r = 1) w) := by
  have H := Lib.hid h
  clear h
  go_enter Try.func46, Try.ntmps46
  go_wp2
  go_loopw [3, 4] (fun a i wr => (∃ (j : Nat) (m : Int), j ≤ ts.length ∧ i = .int .i64 j ∧ a = .int .i64 m ∧ -1 - (j : Int) ≤ m ∧ m ≤ 20000) ∧ Below w.heap.size w wr) (fun _ i _ => ts.length - (intOf i).toNat)
  case atStart => exact ⟨⟨0, 20000, Nat.zero_le _, rfl, rfl, by omega, by omega⟩, Below.refl _ _⟩
  case round =>
    obtain ⟨⟨j, m, hj, rfl, rfl, hm0, hm1⟩, hb⟩ := hrel
    by_cases hlt : j < ts.length
    · obtain ⟨a, v0, v1, v2, rfl, ha, p0, p1, p2, hty⟩ := (TysAt.below (hb.mono hB) H.out).get j hlt
      have HT := Lib.hid hty
      clear hty
      go_wp2_with fail
      by_cases hm : 0 ≤ m
      · refine (count16_any ts[j] wr B _ _ _ m 300 (Nat.le_trans hB hb.size) HT.out hm hm1 (by omega) (by omega)).mono ?_
        rintro e w2 ⟨r, rfl, hr, hb2⟩
        go_wp2
        go_roundw
        case rel => exact ⟨⟨j + 1, r, by omega, by go_num, rfl, by have := hr.1; omega, hr.2⟩, hb.trans (hb2.mono hb.size)⟩
        case measure => simp [intOf]; omega
      · have ht := HT.out
        obtain ⟨c', v', ar', e'⟩ : ∃ c' v' ar', ts[j] = Ty.mk c' v' ar' := by
          cases ts[j] with | mk c' v' ar' => exact ⟨c', v', ar', rfl⟩
        rw [e'] at ht
        unfold TyAt at ht
        obtain ⟨e0, e1, hl', A', k', e2, _⟩ := ht
        refine (count16_neg v0 v1 v2 m 300 wr c' v' A' _ k' e0 e1 e2 hl' (by omega) (by omega) (by omega) (by omega)).mono ?_
        rintro e w2 ⟨r, rfl, hr, hb2⟩
        clear e0 e1 e2 e'
        go_wp2
        go_roundw
        case rel => exact ⟨⟨j + 1, r, by omega, by go_num, rfl, by have := hr.1; omega, by have := hr.2; omega⟩, hb.trans (hb2.mono hb.size)⟩
        case measure => simp [intOf]; omega
    · by_cases hm : m < 0
      · have hm' : decide (m < 0) = true := by simpa using hm
        go_wp2
        go_ret
        exact ⟨0, rfl, .inl rfl, hb⟩
      · have hm' : decide (m < 0) = false := by simpa using hm
        go_wp2
        go_ret
        exact ⟨1, rfl, .inr rfl, hb⟩
end Go.Proofs.Ytipeggpolnnpmaa
