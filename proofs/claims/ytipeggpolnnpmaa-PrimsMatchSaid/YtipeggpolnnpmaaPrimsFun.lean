/-
  The walks of terms.Fun (a range over slices.Backward) and of prims.Is.
-/
import Derived.Test.YtipeggpolnnpmaaPrimsInts
import Derived.RangeFuncNested
import Derived.RangeFuncBound
import Derived.RangeFuncCalls
import Derived.RangeFuncLeaves
import Derived.Shelf.Abstract
import Derived.Shelf.RegionOpen
import Derived.WalkKit
import Derived.OwnWalkIn
import Derived.TacticsInMore
import Derived.LoopNIn
import Derived.LoopIn
namespace Go.Proofs.Ytipeggpolnnpmaa
open Go.RowKit Go.Shelf
set_option linter.unusedVariables false
attribute [local go_sem] Oper.semAt_some

/-- The type Int as a value, as cells. -/
abbrev tI : Value := .agg #[.string ⟨#[73, 110, 116]⟩, .int .i64 0, .slice none 0 0]

/-- What a round keeps: all below a block, and the box of the slice. -/
def KpB (n₀ Bs : Nat) (A B : World) : Prop := Below n₀ A B ∧ B.cell? ⟨Bs, 0, none⟩ = A.cell? ⟨Bs, 0, none⟩

set_option maxRecDepth 100000 in
set_option maxHeartbeats 1000000 in
theorem back1_in (F : Fence) (n : Nat) (hf : F.fn 56) (hro : F.round = none) (hn : 1 ≤ n) (l Bs n₀ b : Nat) (hb : b < n₀) (J Jx : List Int → World → Prop)
    (hY : ∀ pre x W, J pre W → pre.length < 2 → YieldAt F (n - 1) Try.prog l #[.int .i64 x, tI] W fun e W' =>
      (e = .returned (.bool true) ∧ J (pre ++ [x]) W' ∧ KpB n₀ Bs W W') ∨ (e = .returned (.bool false) ∧ Jx (pre ++ [x]) W'))
    (W : World) (hBs : W.cell? ⟨Bs, 0, none⟩ = some (.slice (some ⟨b, 0, none⟩) 2 2))
    (c0 : W.cell? ⟨b, 0, none⟩ = some (.string ⟨#[73, 110, 116]⟩)) (c1 : W.cell? ⟨b, 1, none⟩ = some (.int .i64 0)) (c2 : W.cell? ⟨b, 2, none⟩ = some (.slice none 0 0))
    (c3 : W.cell? ⟨b, 3, none⟩ = some (.string ⟨#[73, 110, 116]⟩)) (c4 : W.cell? ⟨b, 4, none⟩ = some (.int .i64 0)) (c5 : W.cell? ⟨b, 5, none⟩ = some (.slice none 0 0)) (h0 : J [] W) :
    CallsIn F n Try.prog 56 #[.func (.yield l) #[] #[], .pointer (some ⟨Bs, 0, none⟩)] W fun e W' => (∃ v, e = .returned v) ∧
      ((∃ ys, ys = [1, 0] ∧ J ys W') ∨ (∃ pre, pre <+: [1, 0] ∧ Jx pre W')) := by
  refine callsIn_of_wp Try.func56 rfl hf ?_ hro
  simp only [Try.ntmps56, List.size_toArray, List.length_cons, List.length_nil, Nat.reduceAdd, Nat.reduceSub, Array.replicate_succ, Array.replicate_zero, List.push_toArray, List.append_toArray, List.nil_append, List.cons_append]
  gi_wp2
  gi_loopw [3] (fun i wr => ((i = .int .i64 1 ∧ J [] wr) ∨ (i = .int .i64 0 ∧ J [1] wr) ∨ (i = .int .i64 (-1) ∧ J [1, 0] wr)) ∧ KpB n₀ Bs W wr) (fun i _ => (intOf i + 1).toNat)
  case atStart => exact ⟨.inl ⟨rfl, h0⟩, Below.refl _ _, rfl⟩
  case round =>
    obtain ⟨hi, hnx, hnb⟩ := hrel
    have hBs' := hnb.trans hBs
    have HNB := Lib.hid hnb
    clear hnb
    have d0 := (hnx.cell (p := ⟨b, 0, none⟩) hb).trans c0
    have d1 := (hnx.cell (p := ⟨b, 1, none⟩) hb).trans c1
    have d2 := (hnx.cell (p := ⟨b, 2, none⟩) hb).trans c2
    have d3 := (hnx.cell (p := ⟨b, 3, none⟩) hb).trans c3
    have d4 := (hnx.cell (p := ⟨b, 4, none⟩) hb).trans c4
    have d5 := (hnx.cell (p := ⟨b, 5, none⟩) hb).trans c5
    clear hBs c0 c1 c2 c3 c4 c5
    rcases hi with ⟨rfl, hJs⟩ | ⟨rfl, hJs⟩ | ⟨rfl, hJs⟩
    · obtain ⟨fn, tmps, assign, body, hy, hR⟩ := hY _ 1 wr hJs (by simp)
      gi_wp2
      refine hR.mono ?_
      rintro e W3 (⟨rfl, hJ3, hk3⟩ | ⟨rfl, hJx3⟩)
      · gi_wp2
        go_roundw
        case rel => exact ⟨.inr (.inl ⟨rfl, hJ3⟩), hnx.trans hk3.1, hk3.2.trans HNB.out⟩
        case measure => simp [intOf]
      · gi_wp2
        refine bodyPost_ret (results_none rfl _ _ _) rfl ?_
        exact ⟨⟨_, rfl⟩, .inr ⟨[1], ⟨[0], rfl⟩, hJx3⟩⟩
    · obtain ⟨fn, tmps, assign, body, hy, hR⟩ := hY _ 0 wr hJs (by simp)
      gi_wp2
      refine hR.mono ?_
      rintro e W3 (⟨rfl, hJ3, hk3⟩ | ⟨rfl, hJx3⟩)
      · gi_wp2
        go_roundw
        case rel => exact ⟨.inr (.inr ⟨rfl, hJ3⟩), hnx.trans hk3.1, hk3.2.trans HNB.out⟩
        case measure => simp [intOf]
      · gi_wp2
        refine bodyPost_ret (results_none rfl _ _ _) rfl ?_
        exact ⟨⟨_, rfl⟩, .inr ⟨[1, 0], ⟨[], rfl⟩, hJx3⟩⟩
    · gi_wp2
      go_end0
      exact ⟨⟨_, rfl⟩, .inl ⟨_, rfl, hJs⟩⟩

set_option maxRecDepth 100000 in
set_option maxHeartbeats 1000000 in
theorem back_in (F : Fence) (n : Nat) (hf : F.fn 50) (hro : F.round = none) (a : Option Addr) (len cap : Nat) (w : World) :
    CallsIn F n Try.prog 50 #[.slice a len cap] w fun e w' => e = .returned (.func (.func 56) #[] #[.pointer (some ⟨w.heap.size, 0, none⟩)]) ∧ w.alloc (.cells #[.slice a len cap] 23) = w' := by
  refine callsIn_of_wp Try.func50 rfl hf ?_ hro
  simp only [Try.ntmps50, List.size_toArray, List.length_cons, List.length_nil, Nat.reduceAdd, Nat.reduceSub, Array.replicate_succ, Array.replicate_zero, List.push_toArray, List.append_toArray, List.nil_append, List.cons_append]
  gi_wp2
  go_ret
  exact ⟨rfl, rfl⟩

/-- Three cells of a type's value. -/
def Ty3 (W : World) (B : Nat) : Prop := ∃ s n A l c, W.heap[B]? = some (.cells #[.string s, .int .i64 n, .slice A l c] 54 (0, 0))
theorem blk_kept {W W' : World} {row : Option Nat} {B : Nat} {o : Obj} (h : W.heap[B]? = some o) (hg : W.grownBy W' row) (hne : some B ≠ row) : W'.heap[B]? = some o :=
  (hg.block B (Array.getElem?_eq_some_iff.1 h).1 hne).trans h
theorem blk_own {W W' : World} {row : Option Nat} {B : Nat} {cs : Array Value} {t : TypeId} (h : W.heap[B]? = some (.cells cs t (0, 0))) (hg : W.grownBy W' row) (hr : ∀ r, row = some r → ∃ o : Obj, W.heap[r]? = some o ∧ o.isCells = false) : W'.heap[B]? = some (.cells cs t (0, 0)) :=
  blk_kept h hg (fun e => by obtain ⟨o, ho, hc⟩ := hr B e.symm; rw [h] at ho; cases ho; cases hc)
theorem blk_cell {W : World} {B : Nat} {cs : Array Value} {t : TypeId} (h : W.heap[B]? = some (.cells cs t (0, 0))) (i : Nat) : W.cell? ⟨B, i, none⟩ = cs[i]? := by simp [World.cell?, h]
theorem blk_frozen {W : World} {B : Nat} {cs : Array Value} {t : TypeId} (h : W.heap[B]? = some (.cells cs t (0, 0))) (i : Nat) : W.frozen? ⟨B, i, none⟩ = false := by simp [World.frozen?, h]
theorem blk_alloc {W : World} {B : Nat} {o : Obj} (h : W.heap[B]? = some o) (o' : Obj) : (W.alloc o').heap[B]? = some o := blk_kept h (World.grownBy_alloc W o' none) (by simp)
theorem blk_new (W : World) (o : Obj) : (W.alloc o).heap[W.heap.size]? = some o := World.alloc_heap_new W o
theorem blk_lt {W : World} {B : Nat} {o : Obj} (h : W.heap[B]? = some o) : B < W.heap.size := (Array.getElem?_eq_some_iff.1 h).1
theorem blk_set {W : World} {B : Nat} {cs : Array Value} {t : TypeId} (h : W.heap[B]? = some (.cells cs t (0, 0))) (i : Nat) (u : Value) : (W.setCell ⟨B, i, none⟩ u).heap[B]? = some (.cells (cs.setIfInBounds i u) t (0, 0)) := by
  simp [World.setCell, Array.getElem?_modify, h]
theorem blk_far {W : World} {B B' : Nat} {o : Obj} (h : W.heap[B]? = some o) (hne : B ≠ B') (i : Nat) (u : Value) : (W.setCell ⟨B', i, none⟩ u).heap[B]? = some o := by
  simp [World.setCell, Array.getElem?_modify, h, Ne.symm hne]

def FunPost (w : World) (e : Ending) (W' : World) : Prop := ∃ s n A l c, e = .returned (.agg #[.string s, .int .i64 n, .slice A l c]) ∧ Below w.heap.size w W'

set_option maxRecDepth 100000 in
set_option maxHeartbeats 4000000 in
theorem fun_in (F : Fence) (n : Nat) (hf1 : F.fn 42) (hf2 : F.fn 50) (hf3 : F.fn 56) (hro : F.round = none) (hn : 6 ≤ n)
    (b : Nat) (s0 : ByteArray) (n0 : Int) (A0 : Option Addr) (l0 k0 : Nat) (w : World) (hb : b < w.heap.size)
    (c0 : w.cell? ⟨b, 0, none⟩ = some (.string ⟨#[73, 110, 116]⟩)) (c1 : w.cell? ⟨b, 1, none⟩ = some (.int .i64 0)) (c2 : w.cell? ⟨b, 2, none⟩ = some (.slice none 0 0))
    (c3 : w.cell? ⟨b, 3, none⟩ = some (.string ⟨#[73, 110, 116]⟩)) (c4 : w.cell? ⟨b, 4, none⟩ = some (.int .i64 0)) (c5 : w.cell? ⟨b, 5, none⟩ = some (.slice none 0 0)) :
    CallsIn F n Try.prog 42 #[.slice (some ⟨b, 0, none⟩) 2 2, .agg #[.string s0, .int .i64 n0, .slice A0 l0 k0]] w (FunPost w) := by
  have h1 : 1 ≤ n := by omega
  refine callsIn_of_wp_marks Try.func42 rfl hf1 ?_ hro
  simp only [Try.ntmps42, List.size_toArray, List.length_cons, List.length_nil, Nat.reduceAdd, Nat.reduceSub, Array.replicate_succ, Array.replicate_zero, List.push_toArray, List.append_toArray, List.nil_append, List.cons_append]
  gi_wp2_with (gi_at_call 50; refine (back_in F (n - 1) hf2 hro _ _ _ _).mono ?_; rintro e w' ⟨rfl, rfl⟩)
  have b0 := blk_alloc (blk_alloc (blk_new w (.cells #[.string s0, .int .i64 n0, .slice A0 l0 k0] 54)) (.cells #[.string ⟨#[]⟩, .int .i64 0, .slice none 0 0] 54)) (.cells #[.slice (some ⟨b, 0, none⟩) 2 2] 23)
  have b1 := blk_alloc (blk_new (w.alloc (.cells #[.string s0, .int .i64 n0, .slice A0 l0 k0] 54)) (.cells #[.string ⟨#[]⟩, .int .i64 0, .slice none 0 0] 54)) (.cells #[.slice (some ⟨b, 0, none⟩) 2 2] 23)
  have b2 := blk_new ((w.alloc (.cells #[.string s0, .int .i64 n0, .slice A0 l0 k0] 54)).alloc (.cells #[.string ⟨#[]⟩, .int .i64 0, .slice none 0 0] 54)) (.cells #[.slice (some ⟨b, 0, none⟩) 2 2] 23)
  have hB0 : Below w.heap.size w (((w.alloc (.cells #[.string s0, .int .i64 n0, .slice A0 l0 k0] 54)).alloc (.cells #[.string ⟨#[]⟩, .int .i64 0, .slice none 0 0] 54)).alloc (.cells #[.slice (some ⟨b, 0, none⟩) 2 2] 23)) := (((Below.refl _ w).alloc (Nat.le_refl _) _).alloc (by simp) _).alloc (by simp; omega) _
  have hsz : (((w.alloc (.cells #[.string s0, .int .i64 n0, .slice A0 l0 k0] 54)).alloc (.cells #[.string ⟨#[]⟩, .int .i64 0, .slice none 0 0] 54)).alloc (.cells #[.slice (some ⟨b, 0, none⟩) 2 2] 23)).heap.size = w.heap.size + 3 := by simp
  simp only [World.size_alloc] at b1 b2
  obtain ⟨W0, hW0⟩ : ∃ W0, ((w.alloc (.cells #[.string s0, .int .i64 n0, .slice A0 l0 k0] 54)).alloc (.cells #[.string ⟨#[]⟩, .int .i64 0, .slice none 0 0] 54)).alloc (.cells #[.slice (some ⟨b, 0, none⟩) 2 2] 23) = W0 := ⟨_, rfl⟩
  rw [hW0] at b0 b1 b2 hB0 hsz ⊢
  clear hW0
  refine wpIn_rangeFunc_ownH hro h1 (gf := 56) (lb := #[.pointer (some ⟨w.heap.size + 1 + 1, 0, none⟩)]) rfl hf3 (enters_of Try.func56 (by kernel_rfl) rfl)
    (α := Int) (encs := fun x => #[.int .i64 x, tI]) (Kp := KpB w.heap.size (w.heap.size + 1 + 1)) (S := fun ys => ys = [1, 0]) (Sp := fun pre => pre <+: [1, 0]) (N := 2) (w0 := W0)
    (fun l J Jx W hW _ _ hY h0 => ?seq) (fun h k => ⟨h.1.trans k.1, k.2.trans h.2⟩) ?kb (Below.refl _ _) (fun _ => rfl)
    (fun pre W => (Ty3 W w.heap.size ∧ W.heap[w.heap.size + 1]? = some (.cells #[.string ⟨#[]⟩, .int .i64 0, .slice none 0 0] 54 (0, 0)) ∧ W.heap[w.heap.size + 1 + 1]? = some (.cells #[.slice (some ⟨b, 0, none⟩) 2 2] 23 (0, 0))) ∧ Below w.heap.size w W)
    (fun _ _ _ => False) ?own (fun _ _ _ _ _ hs _ _ => hs) ?start
    (fun x a' W => ∃ Bx, w.heap.size + 1 + 1 < Bx ∧ W.heap[Bx]? = some (.cells #[.string ⟨#[73, 110, 116]⟩, .int .i64 0, .slice none 0 0] 54 (0, 0)) ∧ a' = { tmps := #[.slice (some ⟨b, 0, none⟩) 2 2, .agg #[.string s0, .int .i64 n0, .slice A0 l0 k0], undef, .pointer (some ⟨w.heap.size, 0, none⟩), .pointer (some ⟨w.heap.size + 1, 0, none⟩), undef, .pointer (some ⟨Bx, 0, none⟩), .slice (some ⟨b, 0, none⟩) 2 2, .func (.func 56) #[] #[.pointer (some ⟨w.heap.size + 1 + 1, 0, none⟩)], .int .i64 x, tI, undef, undef, undef, undef, undef], defers := [] })
    ?ownA ?assign ?body ?done ?stop
  case seq =>
    have e2 : W.cell? ⟨w.heap.size + 1 + 1, 0, none⟩ = some (.slice (some ⟨b, 0, none⟩) 2 2) := (hW.cell (show w.heap.size + 1 + 1 < W0.heap.size by omega)).trans (blk_cell b2 0)
    have hBW := hB0.trans (hW.mono hB0.size)
    exact back1_in F (n - 1) hf3 hro (by omega) l (w.heap.size + 1 + 1) w.heap.size b hb J Jx hY W e2 ((hBW.cell hb).trans c0) ((hBW.cell hb).trans c1) ((hBW.cell hb).trans c2) ((hBW.cell hb).trans c3) ((hBW.cell hb).trans c4) ((hBW.cell hb).trans c5) h0
  case kb =>
    intro W l o o' hl ho hc hw
    refine ⟨belowK_b (w := W0) (by omega) W l o o' hl ho hc hw, ?_⟩
    exact World.cell?_of_block (World.putObj_heap_other (by show w.heap.size + 1 + 1 ≠ l; omega))
  case own =>
    refine OwnFrom.and (Own.from (fun s A B row hs hg hr => ?_) _) (ownFrom_below (Nat.le_refl _) (by omega))
    obtain ⟨⟨s, n, A, l, c, h⟩, h1, h2⟩ := hs
    exact ⟨⟨s, n, A, l, c, blk_own h hg hr⟩, blk_own h1 hg hr, blk_own h2 hg hr⟩
  case start => exact ⟨⟨⟨_, _, _, _, _, b0⟩, b1, b2⟩, hB0⟩
  case ownA =>
    intro x a'
    refine Own.from (fun s A B row hs hg hr => ?_) _
    obtain ⟨Bx, h1, h2, h3⟩ := hs
    exact ⟨Bx, h1, blk_own h2 hg hr, h3⟩
  case assign =>
    rintro l pre x W K ⟨⟨⟨s, n, A, l, c, t3⟩, r1, r2⟩, hB⟩ hK
    gi_wp2
    exact hK _ _ ((KeepsOthers.alloc _ _).from _) ⟨(Below.refl _ W).alloc hB.size _, World.cell?_alloc_lt W _ _ (blk_lt r2)⟩ ⟨⟨⟨s, n, A, l, c, blk_alloc t3 _⟩, blk_alloc r1 _, blk_alloc r2 _⟩, hB.alloc hB.size _⟩ ⟨W.heap.size, blk_lt r2, blk_new W _, rfl⟩
  case body =>
    rintro l pre x a' W hl ⟨r, hr⟩ ⟨⟨⟨s, n, A, l, c, t3⟩, r1, r2⟩, hB⟩ ⟨Bx, hBx, bX, rfl⟩ hlt
    have x0 : W.cell? ⟨Bx, 0, none⟩ = some (.string ⟨#[73, 110, 116]⟩) := blk_cell bX 0
    have x1 : W.cell? ⟨Bx, 1, none⟩ = some (.int .i64 0) := blk_cell bX 1
    have x2 : W.cell? ⟨Bx, 2, none⟩ = some (.slice none 0 0) := blk_cell bX 2
    have y0 : W.cell? ⟨w.heap.size, 0, none⟩ = some (.string s) := blk_cell t3 0
    have y1 : W.cell? ⟨w.heap.size, 1, none⟩ = some (.int .i64 n) := blk_cell t3 1
    have y2 : W.cell? ⟨w.heap.size, 2, none⟩ = some (.slice A l c) := blk_cell t3 2
    have z0 := blk_frozen t3 0
    have z1 := blk_frozen t3 1
    have z2 := blk_frozen t3 2
    have hlw : w.heap.size < W.heap.size := blk_lt t3
    have T3 := Lib.hid t3
    have R1 := Lib.hid r1
    have R2 := Lib.hid r2
    clear t3 r1 r2 bX hr
    gi_wp2
    have q3 := blk_set (blk_set (blk_set T3.out 0 (.string ⟨#[45, 62]⟩)) 1 (.int .i64 0)) 2 (.slice (some ⟨W.heap.size, 0, none⟩) 2 2)
    have q1 := blk_far (blk_far (blk_far R1.out (B' := w.heap.size) (by omega) 0 (.string ⟨#[45, 62]⟩)) (B' := w.heap.size) (by omega) 1 (.int .i64 0)) (B' := w.heap.size) (by omega) 2 (.slice (some ⟨W.heap.size, 0, none⟩) 2 2)
    have q2 := blk_far (blk_far (blk_far R2.out (B' := w.heap.size) (by omega) 0 (.string ⟨#[45, 62]⟩)) (B' := w.heap.size) (by omega) 1 (.int .i64 0)) (B' := w.heap.size) (by omega) 2 (.slice (some ⟨W.heap.size, 0, none⟩) 2 2)
    have hK1 : KeepsOthers W (((W.setCell ⟨w.heap.size, 0, none⟩ (.string ⟨#[45, 62]⟩)).setCell ⟨w.heap.size, 1, none⟩ (.int .i64 0)).setCell ⟨w.heap.size, 2, none⟩ (.slice (some ⟨W.heap.size, 0, none⟩) 2 2)) := ((KeepsOthers.setCell _ _ _).trans (KeepsOthers.setCell _ _ _)).trans (KeepsOthers.setCell _ _ _)
    have hB1 : Below w.heap.size W (((W.setCell ⟨w.heap.size, 0, none⟩ (.string ⟨#[45, 62]⟩)).setCell ⟨w.heap.size, 1, none⟩ (.int .i64 0)).setCell ⟨w.heap.size, 2, none⟩ (.slice (some ⟨W.heap.size, 0, none⟩) 2 2)) :=
      (((Below.refl w.heap.size W).setCell (p := ⟨w.heap.size, 0, none⟩) (Nat.le_refl _) _).setCell (p := ⟨w.heap.size, 1, none⟩) (Nat.le_refl _) _).setCell (p := ⟨w.heap.size, 2, none⟩) (Nat.le_refl _) _
    have hB2 := hB1.alloc (Nat.le_trans hB.size hB1.size) (.cells #[.string ⟨#[73, 110, 116]⟩, .int .i64 0, .slice none 0 0, .string s, .int .i64 n, .slice A l c] 54)
    exact ⟨(hK1.trans (KeepsOthers.alloc _ _)).from _, ⟨hB2, (blk_cell (blk_alloc q2 _) 0).trans (blk_cell R2.out 0).symm⟩, ⟨⟨_, _, _, _, _, blk_alloc q3 _⟩, blk_alloc q1 _, blk_alloc q2 _⟩, hB.trans hB2⟩
  case done =>
    rintro D xs W hD rfl ⟨⟨⟨s, n, A, l, c, t3⟩, r1, r2⟩, hB⟩ hK
    have y0 : W.cell? ⟨w.heap.size, 0, none⟩ = some (.string s) := blk_cell t3 0
    have y1 : W.cell? ⟨w.heap.size, 1, none⟩ = some (.int .i64 n) := blk_cell t3 1
    have y2 : W.cell? ⟨w.heap.size, 2, none⟩ = some (.slice A l c) := blk_cell t3 2
    have u0 : W.cell? ⟨w.heap.size + 1, 0, none⟩ = some (.string ⟨#[]⟩) := blk_cell r1 0
    have u1 : W.cell? ⟨w.heap.size + 1, 1, none⟩ = some (.int .i64 0) := blk_cell r1 1
    have u2 : W.cell? ⟨w.heap.size + 1, 2, none⟩ = some (.slice none 0 0) := blk_cell r1 2
    have z0 := blk_frozen r1 0
    have z1 := blk_frozen r1 1
    have z2 := blk_frozen r1 2
    have T3 := Lib.hid t3
    have R1 := Lib.hid r1
    have HK := Lib.hid hK
    clear t3 r1 r2 hK
    gi_wp2
    have q1 := blk_set (blk_set (blk_set R1.out 0 (.string s)) 1 (.int .i64 n)) 2 (.slice A l c)
    have qK := blk_far (blk_far (blk_far HK.out (B' := w.heap.size + 1) (by omega) 0 (.string s)) (B' := w.heap.size + 1) (by omega) 1 (.int .i64 n)) (B' := w.heap.size + 1) (by omega) 2 (.slice A l c)
    have hB1 : Below w.heap.size W (((W.setCell ⟨w.heap.size + 1, 0, none⟩ (.string s)).setCell ⟨w.heap.size + 1, 1, none⟩ (.int .i64 n)).setCell ⟨w.heap.size + 1, 2, none⟩ (.slice A l c)) :=
      (((Below.refl w.heap.size W).setCell (p := ⟨w.heap.size + 1, 0, none⟩) (by simp) _).setCell (p := ⟨w.heap.size + 1, 1, none⟩) (by simp) _).setCell (p := ⟨w.heap.size + 1, 2, none⟩) (by simp) _
    generalize ((W.setCell ⟨w.heap.size + 1, 0, none⟩ (.string s)).setCell ⟨w.heap.size + 1, 1, none⟩ (.int .i64 n)).setCell ⟨w.heap.size + 1, 2, none⟩ (.slice A l c) = W2 at *
    refine ⟨by simp, .inl ⟨_, _, rfl, run_takeDeferred qK, ?_⟩⟩
    have q1' : (W2.putObj D (.deferred none)).heap[w.heap.size + 1]? = some (.cells #[.string s, .int .i64 n, .slice A l c] 54 (0, 0)) := by
      rw [World.putObj_heap_other (by omega)]; exact q1
    have y0 : (W2.putObj D (.deferred none)).cell? ⟨w.heap.size + 1, 0, none⟩ = some (.string s) := blk_cell q1' 0
    have y1 : (W2.putObj D (.deferred none)).cell? ⟨w.heap.size + 1, 1, none⟩ = some (.int .i64 n) := blk_cell q1' 1
    have y2 : (W2.putObj D (.deferred none)).cell? ⟨w.heap.size + 1, 2, none⟩ = some (.slice A l c) := blk_cell q1' 2
    have hB2 : Below w.heap.size w (W2.putObj D (.deferred none)) := (hB.trans hB1).trans (belowK_b (w := w) (Nat.le_refl _) W2 D _ _ (by omega) qK rfl rfl)
    exact ⟨.agg #[.string s, .int .i64 n, .slice A l c], by simp [results, Try.results42, go_sem, y0, y1, y2], s, n, A, l, c, rfl, hB2⟩
  case stop =>
    rintro D c pre W _ _ h _
    exact h.elim

/-- terms.Fun, at two types Int and any type. -/
theorem fun_any (b : Nat) (s0 : ByteArray) (n0 : Int) (A0 : Option Addr) (l0 k0 : Nat) (w : World) (hb : b < w.heap.size)
    (c0 : w.cell? ⟨b, 0, none⟩ = some (.string ⟨#[73, 110, 116]⟩)) (c1 : w.cell? ⟨b, 1, none⟩ = some (.int .i64 0)) (c2 : w.cell? ⟨b, 2, none⟩ = some (.slice none 0 0))
    (c3 : w.cell? ⟨b, 3, none⟩ = some (.string ⟨#[73, 110, 116]⟩)) (c4 : w.cell? ⟨b, 4, none⟩ = some (.int .i64 0)) (c5 : w.cell? ⟨b, 5, none⟩ = some (.slice none 0 0)) :
    Calls Try.prog 42 #[.slice (some ⟨b, 0, none⟩) 2 2, .agg #[.string s0, .int .i64 n0, .slice A0 l0 k0]] w (FunPost w) :=
  callsIn_wide.1 (fun_in Fence.wide 8 trivial trivial trivial rfl (by omega) b s0 n0 A0 l0 k0 w hb c0 c1 c2 c3 c4 c5)
end Go.Proofs.Ytipeggpolnnpmaa
