/-
  The walk of the statement's own back: where a pattern takes a value, the values that it took are put back.
-/
import Derived.Test.YtipeggpolnnpmaaPrimsMatchC
import Derived.Test.YtipeggpolnnpmaaPrimsSameT
namespace Go.Proofs.Ytipeggpolnnpmaa
open Go.RowKit
set_option linter.unusedVariables false

theorem below_drewN {B : Nat} {a w : World} (h : Below B a w) (n : Nat) : Below B a (w.drewN n) := ⟨h.os, h.tape, h.output, h.size, h.block⟩
theorem below_two (w : World) (o1 o2 : Obj) : Below w.heap.size w ((w.alloc o1).alloc o2) := ((Below.refl _ w).alloc (Nat.le_refl _) _).alloc (by simp) _

set_option maxRecDepth 100000 in
set_option maxHeartbeats 2000000 in
theorem back_any22 (v : Value) (pn : Int) (ps : ByteArray) (P1 P2 P3 : Option Addr) (p1 p2 p3 d1 d2 d3 : Nat) (tk : Int) (tn : Int) (ts : ByteArray) (A1 A2 A3 : Option Addr) (l1 l2 l3 c1 c2 c3 : Nat) (w : World) :
    Calls Try.prog 15 #[.agg #[.int .i64 22, .int .i64 pn, .string ps, .slice P1 p1 d1, .slice P2 p2 d2, .slice P3 p3 d3], .agg #[.int .i64 tk, .int .i64 tn, .string ts, .slice A1 l1 c1, .slice A2 l2 c2, .slice A3 l3 c3], v] w fun e w' => e = .returned (.tuple #[v, .bool true]) ∧ Below w.heap.size w w' := by
  go_enter Try.func15, Try.ntmps15
  go_wp2
  go_ret2
  exact ⟨rfl, below_two w _ _⟩

set_option maxRecDepth 100000 in
set_option maxHeartbeats 2000000 in
theorem back_int (v : Value) (pn : Int) (ps : ByteArray) (P1 P2 P3 : Option Addr) (p1 p2 p3 d1 d2 d3 : Nat) (tn : Int) (ts : ByteArray) (A1 A2 A3 : Option Addr) (l1 l2 l3 c1 c2 c3 : Nat) (w : World) (h : tn = pn) :
    Calls Try.prog 15 #[.agg #[.int .i64 23, .int .i64 pn, .string ps, .slice P1 p1 d1, .slice P2 p2 d2, .slice P3 p3 d3], .agg #[.int .i64 2, .int .i64 tn, .string ts, .slice A1 l1 c1, .slice A2 l2 c2, .slice A3 l3 c3], v] w fun e w' => e = .returned (.tuple #[v, .bool true]) ∧ Below w.heap.size w w' := by
  have hq : (tn == pn) = true := beq_iff_eq.2 h
  clear h
  go_enter Try.func15, Try.ntmps15
  go_wp2
  go_quiet (fail)
  go_wp2
  go_ret2
  exact ⟨rfl, below_drewN (below_two w _ _) _⟩

set_option maxRecDepth 100000 in
set_option maxHeartbeats 2000000 in
theorem back_varn (n c : Nat) (a : Addr) (v0 v1 v2 v3 v4 v5 r0 r1 r2 r3 r4 r5 : Value) (t : Tm) (pn : Int) (ps : ByteArray) (P1 P2 P3 : Option Addr) (p1 p2 p3 d1 d2 d3 : Nat) (w : World) (B : Nat) (hB : B ≤ w.heap.size) (hn1 : 1 ≤ n) (hn : n ≤ c) (hc : c ≤ maxLen) (hc1 : ¬ c = 1) (ha : a.block < B)
    (e0 : w.cell? a = some v0) (e1 : w.cell? ⟨a.block, a.off + 1, none⟩ = some v1) (e2 : w.cell? ⟨a.block, a.off + 2, none⟩ = some v2) (e3 : w.cell? ⟨a.block, a.off + 3, none⟩ = some v3) (e4 : w.cell? ⟨a.block, a.off + 4, none⟩ = some v4) (e5 : w.cell? ⟨a.block, a.off + 5, none⟩ = some v5)
    (ht : TmAt w B t #[v0, v1, v2, v3, v4, v5]) (ht' : TmAt w B t #[r0, r1, r2, r3, r4, r5]) :
    Calls Try.prog 15 #[.agg #[.int .i64 21, .int .i64 pn, .string ps, .slice P1 p1 d1, .slice P2 p2 d2, .slice P3 p3 d3], .agg #[r0, r1, r2, r3, r4, r5], .slice (some a) n c] w fun e w' => e = .returned (.tuple #[.slice (some (a.add 6)) (n - 1) (c - 1), .bool true]) ∧ Below w.heap.size w w' := by
  obtain ⟨w0, hw0⟩ : ∃ w0, (w.alloc (.cells #[.int .i64 21, .int .i64 pn, .string ps, .slice P1 p1 d1, .slice P2 p2 d2, .slice P3 p3 d3] 26)).alloc (.cells #[r0, r1, r2, r3, r4, r5] 26) = w0 := ⟨_, rfl⟩
  have hb0 : Below w.heap.size w w0 := by rw [← hw0]; exact below_two w _ _
  have X1 : w0.heap[w.heap.size + 1]? = some (.cells #[r0, r1, r2, r3, r4, r5] 26 (0, 0)) := by rw [← hw0]; exact blk_new1 w _ _
  have f0 : w0.cell? ⟨w.heap.size + 1, 0, none⟩ = some r0 := blk_cell X1 0
  have f1 : w0.cell? ⟨w.heap.size + 1, 1, none⟩ = some r1 := blk_cell X1 1
  have f2 : w0.cell? ⟨w.heap.size + 1, 2, none⟩ = some r2 := blk_cell X1 2
  have f3 : w0.cell? ⟨w.heap.size + 1, 3, none⟩ = some r3 := blk_cell X1 3
  have f4 : w0.cell? ⟨w.heap.size + 1, 4, none⟩ = some r4 := blk_cell X1 4
  have f5 : w0.cell? ⟨w.heap.size + 1, 5, none⟩ = some r5 := blk_cell X1 5
  have g0 := (hb0.cell (p := a) (by first | exact Nat.lt_of_lt_of_le ha hB)).trans e0
  have g1 := (hb0.cell (p := ⟨a.block, a.off + 1, none⟩) (by first | exact Nat.lt_of_lt_of_le ha hB)).trans e1
  have g2 := (hb0.cell (p := ⟨a.block, a.off + 2, none⟩) (by first | exact Nat.lt_of_lt_of_le ha hB)).trans e2
  have g3 := (hb0.cell (p := ⟨a.block, a.off + 3, none⟩) (by first | exact Nat.lt_of_lt_of_le ha hB)).trans e3
  have g4 := (hb0.cell (p := ⟨a.block, a.off + 4, none⟩) (by first | exact Nat.lt_of_lt_of_le ha hB)).trans e4
  have g5 := (hb0.cell (p := ⟨a.block, a.off + 5, none⟩) (by first | exact Nat.lt_of_lt_of_le ha hB)).trans e5
  have HW0 := Lib.hid hw0
  have HT := Lib.hid (TmAt.below (hb0.mono hB) ht)
  have HT' := Lib.hid (TmAt.below (hb0.mono hB) ht')
  have HB := Lib.hid hb0
  have hs0 := hb0.size
  have hx := blk_lt X1
  unfold maxLen at hc
  have hc2 : (c == 1) = false := beq_eq_false_iff_ne.2 hc1
  have i1 : (1 : Int) ≤ ↑n := by omega
  have i2 : ((n : Int) == 0) = false := beq_eq_false_iff_ne.2 (by omega)
  have i3 : (0 : Int) < ↑n := by omega
  have i4 : 0 < n := by omega
  have KEEP := Lib.hid (fun (w2 : World) (hg : Below w0.heap.size w0.drew w2) (p : Addr) (x : Value) (hp : w0.cell? p = some x) => (show w2.cell? p = some x from (hg.cell (World.block_lt_of_cell? w0 p hp)).trans hp))
  clear ht ht' hw0 hb0 X1 e0 e1 e2 e3 e4 e5
  go_enter Try.func15, Try.ntmps15
  go_wp2
  rw [HW0.out]
  go_region_held3 (fun w' => w'.cell? a = some v0 ∧ w'.cell? ⟨a.block, a.off + 1, none⟩ = some v1 ∧ w'.cell? ⟨a.block, a.off + 2, none⟩ = some v2 ∧ w'.cell? ⟨a.block, a.off + 3, none⟩ = some v3 ∧ w'.cell? ⟨a.block, a.off + 4, none⟩ = some v4 ∧ w'.cell? ⟨a.block, a.off + 5, none⟩ = some v5 ∧ w'.cell? ⟨w.heap.size + 1, 0, none⟩ = some r0 ∧ w'.cell? ⟨w.heap.size + 1, 1, none⟩ = some r1 ∧ w'.cell? ⟨w.heap.size + 1, 2, none⟩ = some r2 ∧ w'.cell? ⟨w.heap.size + 1, 3, none⟩ = some r3 ∧ w'.cell? ⟨w.heap.size + 1, 4, none⟩ = some r4 ∧ w'.cell? ⟨w.heap.size + 1, 5, none⟩ = some r5) (first | go_keep | exact ⟨KEEP.out _ HG2.out _ _ g0, KEEP.out _ HG2.out _ _ g1, KEEP.out _ HG2.out _ _ g2, KEEP.out _ HG2.out _ _ g3, KEEP.out _ HG2.out _ _ g4, KEEP.out _ HG2.out _ _ g5, KEEP.out _ HG2.out _ _ f0, KEEP.out _ HG2.out _ _ f1, KEEP.out _ HG2.out _ _ f2, KEEP.out _ HG2.out _ _ f3, KEEP.out _ HG2.out _ _ f4, KEEP.out _ HG2.out _ _ f5⟩)
    (first | (go_at_call 8; refine (same32_any t w0.drew B _ _ (Nat.le_trans hB hs0) HT.out.drew HT'.out.drew).mono ?_; rintro e w2 ⟨rfl, hg2⟩; have HG2 := Lib.hid hg2; clear hg2))
  go_wp2
  go_ret2
  exact ⟨rfl, HB.out.drew.trans (HG2.out.mono hs0)⟩
set_option maxRecDepth 100000 in
set_option maxHeartbeats 2000000 in
theorem back_var1  (a : Addr) (v0 v1 v2 v3 v4 v5 r0 r1 r2 r3 r4 r5 : Value) (t : Tm) (pn : Int) (ps : ByteArray) (P1 P2 P3 : Option Addr) (p1 p2 p3 d1 d2 d3 : Nat) (w : World) (B : Nat) (hB : B ≤ w.heap.size)  (ha : a.block < B)
    (e0 : w.cell? a = some v0) (e1 : w.cell? ⟨a.block, a.off + 1, none⟩ = some v1) (e2 : w.cell? ⟨a.block, a.off + 2, none⟩ = some v2) (e3 : w.cell? ⟨a.block, a.off + 3, none⟩ = some v3) (e4 : w.cell? ⟨a.block, a.off + 4, none⟩ = some v4) (e5 : w.cell? ⟨a.block, a.off + 5, none⟩ = some v5)
    (ht : TmAt w B t #[v0, v1, v2, v3, v4, v5]) (ht' : TmAt w B t #[r0, r1, r2, r3, r4, r5]) :
    Calls Try.prog 15 #[.agg #[.int .i64 21, .int .i64 pn, .string ps, .slice P1 p1 d1, .slice P2 p2 d2, .slice P3 p3 d3], .agg #[r0, r1, r2, r3, r4, r5], .slice (some a) 1 1] w fun e w' => e = .returned (.tuple #[.slice (some a) 0 0, .bool true]) ∧ Below w.heap.size w w' := by
  obtain ⟨w0, hw0⟩ : ∃ w0, (w.alloc (.cells #[.int .i64 21, .int .i64 pn, .string ps, .slice P1 p1 d1, .slice P2 p2 d2, .slice P3 p3 d3] 26)).alloc (.cells #[r0, r1, r2, r3, r4, r5] 26) = w0 := ⟨_, rfl⟩
  have hb0 : Below w.heap.size w w0 := by rw [← hw0]; exact below_two w _ _
  have X1 : w0.heap[w.heap.size + 1]? = some (.cells #[r0, r1, r2, r3, r4, r5] 26 (0, 0)) := by rw [← hw0]; exact blk_new1 w _ _
  have f0 : w0.cell? ⟨w.heap.size + 1, 0, none⟩ = some r0 := blk_cell X1 0
  have f1 : w0.cell? ⟨w.heap.size + 1, 1, none⟩ = some r1 := blk_cell X1 1
  have f2 : w0.cell? ⟨w.heap.size + 1, 2, none⟩ = some r2 := blk_cell X1 2
  have f3 : w0.cell? ⟨w.heap.size + 1, 3, none⟩ = some r3 := blk_cell X1 3
  have f4 : w0.cell? ⟨w.heap.size + 1, 4, none⟩ = some r4 := blk_cell X1 4
  have f5 : w0.cell? ⟨w.heap.size + 1, 5, none⟩ = some r5 := blk_cell X1 5
  have g0 := (hb0.cell (p := a) (by first | exact Nat.lt_of_lt_of_le ha hB)).trans e0
  have g1 := (hb0.cell (p := ⟨a.block, a.off + 1, none⟩) (by first | exact Nat.lt_of_lt_of_le ha hB)).trans e1
  have g2 := (hb0.cell (p := ⟨a.block, a.off + 2, none⟩) (by first | exact Nat.lt_of_lt_of_le ha hB)).trans e2
  have g3 := (hb0.cell (p := ⟨a.block, a.off + 3, none⟩) (by first | exact Nat.lt_of_lt_of_le ha hB)).trans e3
  have g4 := (hb0.cell (p := ⟨a.block, a.off + 4, none⟩) (by first | exact Nat.lt_of_lt_of_le ha hB)).trans e4
  have g5 := (hb0.cell (p := ⟨a.block, a.off + 5, none⟩) (by first | exact Nat.lt_of_lt_of_le ha hB)).trans e5
  have HW0 := Lib.hid hw0
  have HT := Lib.hid (TmAt.below (hb0.mono hB) ht)
  have HT' := Lib.hid (TmAt.below (hb0.mono hB) ht')
  have HB := Lib.hid hb0
  have hs0 := hb0.size
  have hx := blk_lt X1
  have KEEP := Lib.hid (fun (w2 : World) (hg : Below w0.heap.size w0.drew w2) (p : Addr) (x : Value) (hp : w0.cell? p = some x) => (show w2.cell? p = some x from (hg.cell (World.block_lt_of_cell? w0 p hp)).trans hp))
  clear ht ht' hw0 hb0 X1 e0 e1 e2 e3 e4 e5
  go_enter Try.func15, Try.ntmps15
  go_wp2
  rw [HW0.out]
  go_region_held3 (fun w' => w'.cell? a = some v0 ∧ w'.cell? ⟨a.block, a.off + 1, none⟩ = some v1 ∧ w'.cell? ⟨a.block, a.off + 2, none⟩ = some v2 ∧ w'.cell? ⟨a.block, a.off + 3, none⟩ = some v3 ∧ w'.cell? ⟨a.block, a.off + 4, none⟩ = some v4 ∧ w'.cell? ⟨a.block, a.off + 5, none⟩ = some v5 ∧ w'.cell? ⟨w.heap.size + 1, 0, none⟩ = some r0 ∧ w'.cell? ⟨w.heap.size + 1, 1, none⟩ = some r1 ∧ w'.cell? ⟨w.heap.size + 1, 2, none⟩ = some r2 ∧ w'.cell? ⟨w.heap.size + 1, 3, none⟩ = some r3 ∧ w'.cell? ⟨w.heap.size + 1, 4, none⟩ = some r4 ∧ w'.cell? ⟨w.heap.size + 1, 5, none⟩ = some r5) (first | go_keep | exact ⟨KEEP.out _ HG2.out _ _ g0, KEEP.out _ HG2.out _ _ g1, KEEP.out _ HG2.out _ _ g2, KEEP.out _ HG2.out _ _ g3, KEEP.out _ HG2.out _ _ g4, KEEP.out _ HG2.out _ _ g5, KEEP.out _ HG2.out _ _ f0, KEEP.out _ HG2.out _ _ f1, KEEP.out _ HG2.out _ _ f2, KEEP.out _ HG2.out _ _ f3, KEEP.out _ HG2.out _ _ f4, KEEP.out _ HG2.out _ _ f5⟩)
    (first | (go_at_call 8; refine (same32_any t w0.drew B _ _ (Nat.le_trans hB hs0) HT.out.drew HT'.out.drew).mono ?_; rintro e w2 ⟨rfl, hg2⟩; have HG2 := Lib.hid hg2; clear hg2))
  go_wp2
  go_ret2
  exact ⟨rfl, HB.out.drew.trans (HG2.out.mono hs0)⟩
/-- What back leaves: what was not put back. -/
def BackPost (B : Nat) (rest : List Tm) (w : World) (e : Ending) (w' : World) : Prop :=
  ∃ A' c', e = .returned (.tuple #[.slice A' rest.length c', .bool true]) ∧ rest.length ≤ c' ∧ c' ≤ maxLen ∧ TmsAt w B rest A' ∧ Below w.heap.size w w'

/-- What the loop over the kids has come to. -/
def BLoop (B : Nat) (rest pks tks : List Tm) (w : World) (a b c : Value) (wr : World) : Prop :=
  ∃ (j : Nat) (A' : Option Addr) (c' : Nat) (mr : List Tm), j ≤ pks.length ∧ c = .int .i64 j ∧ b = .bool true ∧ a = .slice A' (mr ++ rest).length c' ∧ (mr ++ rest).length ≤ c' ∧ c' ≤ maxLen ∧ matchTs (pks.drop j) (tks.drop j) = some mr ∧ TmsAt w B (mr ++ rest) A' ∧ Below w.heap.size w wr

theorem pats_get : ∀ (l : List Tm) (j : Nat) (h : j < l.length), ArePats l → IsPat l[j]
  | [], j, h, _ => by simp at h
  | p :: r, j, h, hp => by
    unfold ArePats at hp
    rcases j with _ | j
    · exact hp.1
    · exact pats_get r j (by simpa using h) hp.2

set_option maxRecDepth 100000 in
set_option maxHeartbeats 2000000 in
theorem back_con (pn : Int) (ps : ByteArray) (P1 P2 P3 : Option Addr) (p1 p2 d1 d2 d3 : Nat) (tn : Int) (ts : ByteArray) (A1 A2 A3 : Option Addr) (l1 l2 c1 c2 c3 : Nat) (pks tks ms rest : List Tm) (A : Option Addr) (c : Nat) (w : World) (B : Nat)
    (ih : ∀ p ∈ pks, ∀ (t : Tm) (ms rest : List Tm) (w : World) (B : Nat) (A : Option Addr) (c : Nat) (cs ds : Array Value), B ≤ w.heap.size → TmAt w B p cs → TmAt w B t ds → IsPat p → matchT p t = some ms → (ms ++ rest).length ≤ c → c ≤ maxLen → TmsAt w B (ms ++ rest) A → Calls Try.prog 15 #[.agg cs, .agg ds, .slice A (ms ++ rest).length c] w (BackPost B rest w))
    (hname : ts.data.toList = ps.data.toList) (hlen : tks.length = pks.length) (hl : pks.length ≤ maxLen) (hp : TmsAt w B pks P3) (ht : TmsAt w B tks A3) (hB : B ≤ w.heap.size) (hpat : ArePats pks) (hm : matchTs pks tks = some ms) (hcl : (ms ++ rest).length ≤ c) (hcm : c ≤ maxLen) (hA : TmsAt w B (ms ++ rest) A) :
    Calls Try.prog 15 #[.agg #[.int .i64 24, .int .i64 pn, .string ps, .slice P1 p1 d1, .slice P2 p2 d2, .slice P3 pks.length d3], .agg #[.int .i64 7, .int .i64 tn, .string ts, .slice A1 l1 c1, .slice A2 l2 c2, .slice A3 tks.length c3], .slice A (ms ++ rest).length c] w (BackPost B rest w) := by
  have IH := Lib.hid ih
  have HP := Lib.hid hp
  have HT := Lib.hid ht
  have HPAT := Lib.hid hpat
  have HM := Lib.hid hm
  have HA := Lib.hid hA
  have q4 : (ts.toList == ps.toList) = true := by rw [ByteArray.toList_eq, ByteArray.toList_eq, hname]; simp
  have q5 : (tks.length == pks.length) = true := by rw [hlen]; simp
  have q6 : ((tks.length : Int) == (pks.length : Int)) = true := by rw [hlen]; simp
  have hlt1 : tks.length ≤ pks.length := by omega
  have hlt2 : pks.length ≤ tks.length := by omega
  have HCM := Lib.hid hcm
  have HCL := Lib.hid hcl
  unfold maxLen at hl
  obtain ⟨L, hL⟩ : ∃ L, (ms ++ rest).length = L := ⟨_, rfl⟩
  have HL := Lib.hid hL
  rw [hL]
  clear ih hp ht hname hlen hpat hm hA hcm hcl hL
  obtain ⟨w0, hw0⟩ : ∃ w0, (w.alloc (.cells #[.int .i64 24, .int .i64 pn, .string ps, .slice P1 p1 d1, .slice P2 p2 d2, .slice P3 pks.length d3] 26)).alloc (.cells #[.int .i64 7, .int .i64 tn, .string ts, .slice A1 l1 c1, .slice A2 l2 c2, .slice A3 tks.length c3] 26) = w0 := ⟨_, rfl⟩
  have hb0 : Below w.heap.size w w0 := by rw [← hw0]; exact below_two w _ _
  have X0 : w0.heap[w.heap.size]? = some (.cells #[.int .i64 24, .int .i64 pn, .string ps, .slice P1 p1 d1, .slice P2 p2 d2, .slice P3 pks.length d3] 26 (0, 0)) := by rw [← hw0]; exact blk_alloc (blk_new w _) _
  have X1 : w0.heap[w.heap.size + 1]? = some (.cells #[.int .i64 7, .int .i64 tn, .string ts, .slice A1 l1 c1, .slice A2 l2 c2, .slice A3 tks.length c3] 26 (0, 0)) := by rw [← hw0]; exact blk_new1 w _ _
  have HX0 := Lib.hid X0
  have HX1 := Lib.hid X1
  have HW0 := Lib.hid hw0
  have HB0 := Lib.hid hb0
  clear X0 X1 hw0 hb0
  go_enter Try.func15, Try.ntmps15
  go_wp2
  rw [HW0.out]
  go_loopw [2, 8, 9] (fun a b c wr => BLoop B rest pks tks w a b c wr ∧ wr.heap[w.heap.size]? = some (.cells #[.int .i64 24, .int .i64 pn, .string ps, .slice P1 p1 d1, .slice P2 p2 d2, .slice P3 pks.length d3] 26 (0, 0)) ∧ wr.heap[w.heap.size + 1]? = some (.cells #[.int .i64 7, .int .i64 tn, .string ts, .slice A1 l1 c1, .slice A2 l2 c2, .slice A3 tks.length c3] 26 (0, 0))) (fun _ _ c _ => pks.length - (intOf c).toNat)
  case atStart => exact ⟨⟨0, A, c, ms, Nat.zero_le _, rfl, rfl, by rw [HL.out], by rw [HL.out, ← HL.out]; exact HCL.out, HCM.out, by simpa using HM.out, HA.out, HB0.out⟩, HX0.out, HX1.out⟩
  case round =>
    obtain ⟨⟨j, A', c', mr, hj, rfl, rfl, hu2, hcl', hcm', hmr, hAr, hb⟩, y0, y1⟩ := hrel
    have z0 : wr.cell? ⟨w.heap.size, 5, none⟩ = some (.slice P3 pks.length d3) := blk_cell y0 5
    have z1 : wr.cell? ⟨w.heap.size + 1, 5, none⟩ = some (.slice A3 tks.length c3) := blk_cell y1 5
    have HY0 := Lib.hid y0
    have HY1 := Lib.hid y1
    have HU2 := Lib.hid hu2
    have HCL2 := Lib.hid hcl'
    have HCM2 := Lib.hid hcm'
    have HMR := Lib.hid hmr
    have HAR := Lib.hid hAr
    clear y0 y1 hu2 hcl' hcm' hmr hAr
    by_cases hlt : j < pks.length
    · obtain ⟨a, v0, v1, v2, v3, v4, v5, rfl, ha, e0, e1, e2, e3, e4, e5, hty⟩ := (TmsAt.below (hb.mono hB) HP.out).get j hlt
      obtain ⟨a', s0, s1, s2, s3, s4, s5, rfl, ha', f0, f1, f2, f3, f4, f5, hty'⟩ := (TmsAt.below (hb.mono hB) HT.out).get j (by omega)
      have HY := Lib.hid hty
      have HY' := Lib.hid hty'
      clear hty hty'
      have hlj : j < tks.length := by omega
      have hsz := hb.size
      obtain ⟨m1, m2, hm1, hm2, hm12⟩ : ∃ m1 m2, matchT pks[j] tks[j] = some m1 ∧ matchTs (pks.drop (j + 1)) (tks.drop (j + 1)) = some m2 ∧ mr = m1 ++ m2 := by
        have h := HMR.out
        rw [List.drop_eq_getElem_cons hlt, List.drop_eq_getElem_cons hlj] at h
        simp only [matchTs, List.headD_cons, List.tail_cons] at h
        cases hx : matchT pks[j] tks[j] with
        | none => rw [hx] at h; cases h
        | some l =>
          rw [hx] at h
          cases hy : matchTs (pks.drop (j + 1)) (tks.drop (j + 1)) with
          | none => rw [hy] at h; cases h
          | some m => rw [hy] at h; cases h; exact ⟨l, m, rfl, rfl, rfl⟩
      subst hm12
      have HM1 := Lib.hid hm1
      have HM2 := Lib.hid hm2
      have hre : m1 ++ m2 ++ rest = m1 ++ (m2 ++ rest) := List.append_assoc _ _ _
      have HU3 := Lib.hid (show u2 = .slice A' (m1 ++ (m2 ++ rest)).length c' by rw [← hre]; exact HU2.out)
      have HCL3 := Lib.hid (show (m1 ++ (m2 ++ rest)).length ≤ c' by rw [← hre]; exact HCL2.out)
      have HAR3 := Lib.hid (show TmsAt w B (m1 ++ (m2 ++ rest)) A' by rw [← hre]; exact HAR.out)
      have KEEP := Lib.hid (fun (w2 : World) (hg : Below wr.heap.size wr.drew w2) (p : Addr) (x : Value) (hp : wr.cell? p = some x) => (show w2.cell? p = some x from (hg.cell (World.block_lt_of_cell? wr p hp)).trans hp))
      have CALL := Lib.hid (fun (W : World) (hW : Below w.heap.size w W) (cs ds : Array Value) (h1 : TmAt W B pks[j] cs) (h2 : TmAt W B tks[j] ds) => IH.out pks[j] (List.getElem_mem hlt) tks[j] m1 (m2 ++ rest) W B A' c' cs ds (Nat.le_trans hB hW.size) h1 h2 (pats_get pks j hlt HPAT.out) HM1.out HCL3.out HCM2.out (TmsAt.below (hW.mono hB) HAR3.out))
      clear hm1 hm2 hre HU2 HCL2 HAR
      go_wp2
      go_region_held3 (fun w' => w'.cell? ⟨w.heap.size, 5, none⟩ = some (.slice (some a) pks.length d3) ∧ w'.cell? ⟨w.heap.size + 1, 5, none⟩ = some (.slice (some a') tks.length c3) ∧ w'.cell? (a.add (j * 6)) = some v0 ∧ w'.cell? ⟨(a.add (j * 6)).block, (a.add (j * 6)).off + 1, none⟩ = some v1 ∧ w'.cell? ⟨(a.add (j * 6)).block, (a.add (j * 6)).off + 2, none⟩ = some v2 ∧ w'.cell? ⟨(a.add (j * 6)).block, (a.add (j * 6)).off + 3, none⟩ = some v3 ∧ w'.cell? ⟨(a.add (j * 6)).block, (a.add (j * 6)).off + 4, none⟩ = some v4 ∧ w'.cell? ⟨(a.add (j * 6)).block, (a.add (j * 6)).off + 5, none⟩ = some v5 ∧ w'.cell? (a'.add (j * 6)) = some s0 ∧ w'.cell? ⟨(a'.add (j * 6)).block, (a'.add (j * 6)).off + 1, none⟩ = some s1 ∧ w'.cell? ⟨(a'.add (j * 6)).block, (a'.add (j * 6)).off + 2, none⟩ = some s2 ∧ w'.cell? ⟨(a'.add (j * 6)).block, (a'.add (j * 6)).off + 3, none⟩ = some s3 ∧ w'.cell? ⟨(a'.add (j * 6)).block, (a'.add (j * 6)).off + 4, none⟩ = some s4 ∧ w'.cell? ⟨(a'.add (j * 6)).block, (a'.add (j * 6)).off + 5, none⟩ = some s5) (first | go_keep | exact ⟨KEEP.out _ HG2.out _ _ z0, KEEP.out _ HG2.out _ _ z1, KEEP.out _ HG2.out _ _ e0, KEEP.out _ HG2.out _ _ e1, KEEP.out _ HG2.out _ _ e2, KEEP.out _ HG2.out _ _ e3, KEEP.out _ HG2.out _ _ e4, KEEP.out _ HG2.out _ _ e5, KEEP.out _ HG2.out _ _ f0, KEEP.out _ HG2.out _ _ f1, KEEP.out _ HG2.out _ _ f2, KEEP.out _ HG2.out _ _ f3, KEEP.out _ HG2.out _ _ f4, KEEP.out _ HG2.out _ _ f5⟩)
        (first | (go_at_call 15; rw [HU3.out]; refine (CALL.out wr.drew hb.drew _ _ HY.out.drew HY'.out.drew).mono ?_; rintro e w2 ⟨A2, c2', rfl, hc2, hc3, hA2, hg2⟩; have HC2 := Lib.hid hc2; have HC3 := Lib.hid hc3; have HA2 := Lib.hid hA2; have HG2 := Lib.hid hg2; clear hc2 hc3 hA2 hg2))
      go_wp2
      go_roundw
      case rel => exact ⟨⟨j + 1, A2, c2', m2, by omega, by go_num, rfl, by rw [List.length_append], HC2.out, HC3.out, HM2.out, TmsAt.keep (w := wr.drew) (w' := w) (Nat.le_refl _) (fun p hp => ((hb.mono hB).cell hp).symm) _ _ HA2.out, hb.drew.trans (HG2.out.mono hsz)⟩, (HG2.out.block _ (blk_lt HY0.out)).trans HY0.out, (HG2.out.block _ (blk_lt HY1.out)).trans HY1.out⟩
      case measure => simp [intOf]; omega
    · have hmr0 : mr = [] := by
        have h := HMR.out
        rw [List.drop_eq_nil_of_le (by omega)] at h
        simp only [matchTs] at h
        cases h
        rfl
      subst hmr0
      go_wp2
      go_ret2
      refine ⟨A', c', by rw [HU2.out]; rfl, HCL2.out, HCM2.out, HAR.out, hb⟩

/-- back, where a pattern takes a value. -/
theorem back_any : ∀ (p : Tm), ∀ (t : Tm) (ms rest : List Tm) (w : World) (B : Nat) (A : Option Addr) (c : Nat) (cs ds : Array Value), B ≤ w.heap.size → TmAt w B p cs → TmAt w B t ds → IsPat p → matchT p t = some ms → (ms ++ rest).length ≤ c → c ≤ maxLen → TmsAt w B (ms ++ rest) A → Calls Try.prog 15 #[.agg cs, .agg ds, .slice A (ms ++ rest).length c] w (BackPost B rest w) := by
  refine Tm.ind ?_
  intro pk pn ps pvs pts pks ih t ms rest w B A c cs ds hB hp ht hpat hm hcl hcm hA
  have ht' := ht
  obtain ⟨tk, tn, ts, tvs, tts, tks⟩ := t
  unfold TmAt at hp ht
  obtain ⟨P1, d1, P2, d2, P3, d3, rfl, m1, m2, m3, _, _, hpk⟩ := hp
  obtain ⟨A1, c1, A2, c2, A3, c3, rfl, _, _, _, _, _, htk⟩ := ht
  unfold matchT at hm
  unfold IsPat at hpat
  split at hm
  · rename_i e
    subst e
    cases hm
    simp only [List.singleton_append] at hcl hA ⊢
    obtain ⟨a, v0, v1, v2, v3, v4, v5, rfl, ha, e0, e1, e2, e3, e4, e5, hty, hrest⟩ := (by unfold TmsAt at hA; exact hA)
    rw [add_off a 0] at e1
    rw [add_off a 1] at e2
    rw [add_off a 2] at e3
    rw [add_off a 3] at e4
    rw [add_off a 4] at e5
    have hl1 : 1 ≤ (Tm.mk tk tn ts tvs tts tks :: rest).length := by simp
    have hl2 : (Tm.mk tk tn ts tvs tts tks :: rest).length - 1 = rest.length := by simp
    have hl3 : rest.length + 1 ≤ c := by simpa using hcl
    by_cases hc1 : c = 1
    · subst hc1
      have hr0 : rest = [] := List.eq_nil_of_length_eq_zero (by omega)
      subst hr0
      refine (back_var1 a v0 v1 v2 v3 v4 v5 _ _ _ _ _ _ _ pn ps P1 P2 P3 _ _ _ d1 d2 d3 w B hB ha e0 e1 e2 e3 e4 e5 hty ht').mono ?_
      rintro e w' ⟨rfl, hb⟩
      exact ⟨_, 0, rfl, Nat.le_refl _, by unfold maxLen; omega, by unfold TmsAt; trivial, hb⟩
    · refine (back_varn (Tm.mk tk tn ts tvs tts tks :: rest).length c a v0 v1 v2 v3 v4 v5 _ _ _ _ _ _ _ pn ps P1 P2 P3 _ _ _ d1 d2 d3 w B hB hl1 hcl hcm hc1 ha e0 e1 e2 e3 e4 e5 hty ht').mono ?_
      rintro e w' ⟨rfl, hb⟩
      rw [hl2]
      exact ⟨_, c - 1, rfl, by omega, by omega, hrest, hb⟩
  · rename_i k1
    split at hm
    · rename_i e
      subst e
      cases hm
      refine (back_any22 _ pn ps P1 P2 P3 _ _ _ d1 d2 d3 tk tn ts A1 A2 A3 _ _ _ c1 c2 c3 w).mono ?_
      rintro e w' ⟨rfl, hb⟩
      exact ⟨A, c, rfl, hcl, hcm, hA, hb⟩
    · rename_i k2
      split at hm
      · rename_i e
        subst e
        split at hm
        · rename_i h2
          cases hm
          obtain ⟨j1, j2⟩ := h2
          have j1' : tk = 2 := j1
          have j2' : tn = pn := j2
          subst j1'
          refine (back_int _ pn ps P1 P2 P3 _ _ _ d1 d2 d3 tn ts A1 A2 A3 _ _ _ c1 c2 c3 w j2').mono ?_
          rintro e w' ⟨rfl, hb⟩
          exact ⟨A, c, rfl, hcl, hcm, hA, hb⟩
        · cases hm
      · rename_i k3
        split at hm
        · rename_i h4
          obtain ⟨rfl, j1, j2, j3⟩ := h4
          have j1' : tk = 7 := j1
          subst j1'
          have hpp : ArePats pks := by
            rcases hpat with h | h | h | h
            · exact absurd h.1 k1
            · exact absurd h.1 k2
            · exact absurd h.1 k3
            · exact h.2
          exact back_con pn ps P1 P2 P3 _ _ d1 d2 d3 tn ts A1 A2 A3 _ _ c1 c2 c3 pks tks ms rest A c w B ih j2 j3 m3 hpk htk hB hpp hm hcl hcm hA
        · cases hm
end Go.Proofs.Ytipeggpolnnpmaa
