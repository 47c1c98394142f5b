/-
  The walks of the reference's has, bare, IsPat.
-/
import Derived.Test.YtipeggpolnnpmaaPrimsFew
namespace Go.Proofs.Ytipeggpolnnpmaa
open Go.RowKit
set_option linter.unusedVariables false

/-- Some truth, of which something holds. -/
def SomeB (P : Bool → Prop) (w : World) (e : Ending) (w' : World) : Prop := ∃ r : Bool, e = .returned (.bool r) ∧ P r ∧ Below w.heap.size w w'

set_option maxRecDepth 100000 in
set_option maxHeartbeats 1000000 in
theorem has_any (k n : Int) (s : ByteArray) (A1 A2 A3 : Option Addr) (l1 l2 l3 k1 k2 k3 : Nat) (b : Bool) (nn kk : Int) (w : World) (h1 : l1 ≤ maxLen) (h2 : l2 ≤ maxLen) (h3 : l3 ≤ maxLen) :
    Calls Try.prog 27 #[.agg #[.int .i64 k, .int .i64 n, .string s, .slice A1 l1 k1, .slice A2 l2 k2, .slice A3 l3 k3], .bool b, .int .i64 nn, .int .i64 kk] w (SomeB (fun r => r = true → (l3 : Int) = kk) w) := by
  unfold maxLen at h1 h2 h3
  go_enter Try.func27, Try.ntmps27
  go_wp2
  all_goals go_ret
  all_goals (refine ⟨_, rfl, ?_, (Below.refl _ _).alloc (Nat.le_refl _) _⟩; intro h; first | (cases h; done) | (simpa using h))

set_option maxRecDepth 100000 in
set_option maxHeartbeats 1000000 in
theorem bare_any (k n : Int) (s : ByteArray) (A1 A2 A3 : Option Addr) (l1 l2 l3 k1 k2 k3 : Nat) (kk : Int) (w : World) (h1 : l1 ≤ maxLen) (h2 : l2 ≤ maxLen) (h3 : l3 ≤ maxLen) :
    Calls Try.prog 28 #[.agg #[.int .i64 k, .int .i64 n, .string s, .slice A1 l1 k1, .slice A2 l2 k2, .slice A3 l3 k3], .int .i64 kk] w (SomeB (fun r => r = true → (l3 : Int) = kk) w) := by
  unfold maxLen at h1 h2 h3
  go_enter Try.func28, Try.ntmps28
  go_wp2
  all_goals go_ret
  all_goals (refine ⟨_, rfl, ?_, (Below.refl _ _).alloc (Nat.le_refl _) _⟩; intro h; first | (cases h; done) | (simpa using h))

/-- A pattern's shape, told by kind and kids. -/
def PatSh (kk : Int) (ks : List Tm) : Prop := (kk = 21 ∧ ks = []) ∨ (kk = 22 ∧ ks = []) ∨ (kk = 23 ∧ ks = []) ∨ (kk = 24 ∧ ArePats ks)

theorem arepats_of : ∀ (l : List Tm), (∀ p ∈ l, IsPat p) → ArePats l
  | [], _ => by unfold ArePats; trivial
  | p :: r, h => by unfold ArePats; exact ⟨h p (by simp), arepats_of r (fun q hq => h q (by simp [hq]))⟩

set_option maxRecDepth 100000 in
set_option maxHeartbeats 1000000 in
theorem ispat_mk (kk n : Int) (s : ByteArray) (vs : List Int) (ts : List Ty) (ks : List Tm) (ih : ∀ t ∈ ks, ∀ (w : World) (B : Nat) (cs : Array Value), B ≤ w.heap.size → TmAt w B t cs → Calls Try.prog 13 #[.agg cs] w (SomeB (fun r => r = true → IsPat t) w))
    (w : World) (B : Nat) (A1 A2 A3 : Option Addr) (k1 k2 k3 : Nat) (hB : B ≤ w.heap.size) (l1 : vs.length ≤ maxLen) (l2 : ts.length ≤ maxLen) (l3 : ks.length ≤ maxLen) (hk : TmsAt w B ks A3) :
    Calls Try.prog 13 #[.agg #[.int .i64 kk, .int .i64 n, .string s, .slice A1 vs.length k1, .slice A2 ts.length k2, .slice A3 ks.length k3]] w (SomeB (fun r => r = true → PatSh kk ks) w) := by
  have IH := Lib.hid ih
  have HK := Lib.hid hk
  have HH := Lib.hid (fun (b : Bool) (nn q : Int) W => has_any kk n s A1 A2 A3 vs.length ts.length ks.length k1 k2 k3 b nn q W l1 l2 l3)
  have HR := Lib.hid (fun (q : Int) W => bare_any kk n s A1 A2 A3 vs.length ts.length ks.length k1 k2 k3 q W l1 l2 l3)
  have hb0 : Below w.heap.size w (w.alloc (.cells #[.int .i64 kk, .int .i64 n, .string s, .slice A1 vs.length k1, .slice A2 ts.length k2, .slice A3 ks.length k3] 26)) := (Below.refl _ w).alloc (Nat.le_refl _) _
  have X0 := Lib.hid (blk_new w (.cells #[.int .i64 kk, .int .i64 n, .string s, .slice A1 vs.length k1, .slice A2 ts.length k2, .slice A3 ks.length k3] 26))
  unfold maxLen at l1 l2 l3
  clear ih hk
  have hnil : ∀ (b : Bool), ((b = true → (ks.length : Int) = 0)) → (b = true → ks = []) := fun b h hb => List.eq_nil_of_length_eq_zero (by have := h hb; omega)
  have HN := Lib.hid hnil
  clear hnil
  by_cases k21 : kk = 21
  · subst k21
    go_enter Try.func13, Try.ntmps13
    go_wp2_with fail
    refine (HH.out _ _ _ _).mono ?_
    rintro e w1 ⟨r, rfl, hr, hb1⟩
    have HRR := Lib.hid (HN.out r hr)
    clear hr
    go_wp2
    go_ret
    exact ⟨r, rfl, fun h => .inl ⟨rfl, HRR.out h⟩, hb0.trans (hb1.mono (by simp))⟩
  have q21 : (kk == 21) = false := beq_eq_false_iff_ne.2 k21
  by_cases k22 : kk = 22
  · subst k22
    go_enter Try.func13, Try.ntmps13
    go_wp2_with fail
    refine (HH.out _ _ _ _).mono ?_
    rintro e w1 ⟨r, rfl, hr, hb1⟩
    have HRR := Lib.hid (HN.out r hr)
    clear hr
    go_wp2
    go_ret
    exact ⟨r, rfl, fun h => .inr (.inl ⟨rfl, HRR.out h⟩), hb0.trans (hb1.mono (by simp))⟩
  have q22 : (kk == 22) = false := beq_eq_false_iff_ne.2 k22
  by_cases k23 : kk = 23
  · subst k23
    go_enter Try.func13, Try.ntmps13
    go_wp2_with fail
    refine (HR.out _ _).mono ?_
    rintro e w1 ⟨r, rfl, hr, hb1⟩
    have HRR := Lib.hid (HN.out r hr)
    clear hr
    go_wp2
    go_ret
    exact ⟨r, rfl, fun h => .inr (.inr (.inl ⟨rfl, HRR.out h⟩)), hb0.trans (hb1.mono (by simp))⟩
  have q23 : (kk == 23) = false := beq_eq_false_iff_ne.2 k23
  by_cases k24 : kk = 24
  · subst k24
    clear k21 k22 k23
    go_enter Try.func13, Try.ntmps13
    go_wp2
    go_loopw [3] (fun i wr => (∃ j : Nat, j ≤ ks.length ∧ i = .int .i64 j ∧ ∀ p ∈ ks.take j, IsPat p) ∧ wr.heap[w.heap.size]? = some (.cells #[.int .i64 24, .int .i64 n, .string s, .slice A1 vs.length k1, .slice A2 ts.length k2, .slice A3 ks.length k3] 26 (0, 0)) ∧ Below w.heap.size w wr) (fun i _ => ks.length - (intOf i).toNat)
    case atStart => exact ⟨⟨0, Nat.zero_le _, rfl, by simp⟩, X0.out, hb0⟩
    case round =>
      obtain ⟨⟨j, hj, rfl, hall⟩, t0, hb⟩ := hrel
      have y5 : wr.cell? ⟨w.heap.size, 5, none⟩ = some (.slice A3 ks.length k3) := blk_cell t0 5
      have T0 := Lib.hid t0
      have HALL := Lib.hid hall
      clear hall
      by_cases hlt : j < ks.length
      · obtain ⟨a, v0, v1, v2, v3, v4, v5, rfl, ha, p0, p1, p2, p3, p4, p5, hty⟩ := (TmsAt.below (hb.mono hB) HK.out).get j hlt
        have HY := Lib.hid hty
        clear hty t0
        go_wp2_with fail
        refine (IH.out ks[j] (List.getElem_mem hlt) wr B _ (Nat.le_trans hB hb.size) HY.out).mono ?_
        rintro e w2 ⟨r, rfl, hr, hb2⟩
        have T0' := Lib.hid ((hb2.block _ (blk_lt T0.out)).trans T0.out)
        have HRR := Lib.hid hr
        have hB2 : Below w.heap.size w w2 := hb.trans (hb2.mono hb.size)
        clear hr
        cases r
        · go_wp2
          go_ret
          exact ⟨false, rfl, (fun h => by cases h), hB2⟩
        · have HI := Lib.hid (HRR.out rfl)
          go_wp2
          go_roundw
          case rel => exact ⟨⟨j + 1, by omega, by go_num, fun p hp => by
            rw [take_snocT ks j hlt] at hp
            rcases List.mem_append.1 hp with h | h
            · exact HALL.out p h
            · simp at h; rw [h]; exact HI.out⟩, T0'.out, hB2⟩
          case measure => simp [intOf]; omega
      · have y0 : wr.cell? ⟨w.heap.size, 0, none⟩ = some (.int .i64 24) := blk_cell t0 0
        have y1 : wr.cell? ⟨w.heap.size, 1, none⟩ = some (.int .i64 n) := blk_cell t0 1
        have y2 : wr.cell? ⟨w.heap.size, 2, none⟩ = some (.string s) := blk_cell t0 2
        have y3 : wr.cell? ⟨w.heap.size, 3, none⟩ = some (.slice A1 vs.length k1) := blk_cell t0 3
        have y4 : wr.cell? ⟨w.heap.size, 4, none⟩ = some (.slice A2 ts.length k2) := blk_cell t0 4
        clear t0
        go_wp2_with fail
        refine (HH.out _ _ _ _).mono ?_
        rintro e w2 ⟨r, rfl, hr, hb2⟩
        clear hr
        go_wp2
        go_ret
        exact ⟨r, rfl, fun h => .inr (.inr (.inr ⟨rfl, arepats_of ks (by have := HALL.out; rwa [List.take_of_length_le (by omega)] at this)⟩)), hb.trans (hb2.mono hb.size)⟩
  have q24 : (kk == 24) = false := beq_eq_false_iff_ne.2 k24
  clear k21 k22 k23 k24
  go_enter Try.func13, Try.ntmps13
  go_wp2
  go_ret
  exact ⟨false, rfl, (fun h => by cases h), hb0⟩

theorem ispat_any : ∀ (t : Tm) (w : World) (B : Nat) (cs : Array Value), B ≤ w.heap.size → TmAt w B t cs → Calls Try.prog 13 #[.agg cs] w (SomeB (fun r => r = true → IsPat t) w) := by
  refine Tm.ind ?_
  intro k n s vs ts ks ih w B cs hB h
  unfold TmAt at h
  obtain ⟨A1, k1, A2, k2, A3, k3, rfl, l1, l2, l3, hv, ht, hk⟩ := h
  refine (ispat_mk k n s vs ts ks ih w B A1 A2 A3 k1 k2 k3 hB l1 l2 l3 hk).mono ?_
  rintro e w' ⟨r, rfl, hr, hb⟩
  exact ⟨r, rfl, fun h => by unfold IsPat; exact (hr h : PatSh k ks), hb⟩
end Go.Proofs.Ytipeggpolnnpmaa
