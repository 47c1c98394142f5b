/-
  The walks of spans.Lines and of the reference's: where lines begin.
-/
import Derived.Test.YtmdobaplndlhhaaSpansPlain
import Derived.WalkKit
import Derived.ProofKit
import Derived.WalkLawsBesides
import Derived.WalkSpells
import Derived.Outline
import Derived.Lib.Hide
import Derived.Below
import Derived.Maps.AppendAt
import Derived.Lib.Builder
import Derived.RangeFuncRecord
namespace Go.Proofs.Ytmdobaplndlhhaa
open Go.RowKit
set_option linter.unusedVariables false

theorem int_info : (Try.prog.info? 3).map (fun i => (i.zero, i.size, i.bytes)) = some (some (.int .i64 0), 1, 8) := by kernel_rfl
theorem blk_kept {W W' : World} {row : Option Nat} {B : Nat} {o : Obj} (h : W.heap[B]? = some o) (hg : W.grownBy W' row) (hne : some B ≠ row) : W'.heap[B]? = some o :=
  (hg.block B (Array.getElem?_eq_some_iff.1 h).1 hne).trans h
theorem blk_cell {W : World} {B : Nat} {cs : Array Value} {t : TypeId} (h : W.heap[B]? = some (.cells cs t (0, 0))) (i : Nat) : W.cell? ⟨B, i, none⟩ = cs[i]? := by simp [World.cell?, h]
theorem blk_alloc {W : World} {B : Nat} {o : Obj} (h : W.heap[B]? = some o) (o' : Obj) : (W.alloc o').heap[B]? = some o := blk_kept h (World.grownBy_alloc W o' none) (by simp)
theorem blk_new (W : World) (o : Obj) : (W.alloc o).heap[W.heap.size]? = some o := World.alloc_heap_new W o
theorem blk_lt {W : World} {B : Nat} {o : Obj} (h : W.heap[B]? = some o) : B < W.heap.size := (Array.getElem?_eq_some_iff.1 h).1
theorem new_cell (W : World) (v : Value) (t : TypeId) : ∀ j u, [v][j]? = some u → (W.alloc (.cells #[v] t)).cell? ((⟨W.heap.size, 0, none⟩ : Addr).add j) = some u := by
  intro j u hu
  rcases j with _ | j
  · have e := blk_cell (blk_new W (.cells #[v] t)) 0
    simp only [List.getElem?_cons_zero, Option.some.injEq] at hu
    rw [← hu]
    exact e
  · simp at hu

def stv (s : ByteArray) (k : Nat) : List Value := (st s k).map (fun x : Nat => Value.int .i64 (x : Int))
theorem stv_zero (s : ByteArray) : stv s 0 = [.int .i64 0] := rfl
theorem stv_yes {s : ByteArray} {k : Nat} (h : NL s k = true) : stv s (k + 1) = stv s k ++ [.int .i64 ((k : Int) + 1)] := by
  unfold stv; rw [st_succ_yes h]; simp
theorem stv_no {s : ByteArray} {k : Nat} (h : NL s k = false) : stv s (k + 1) = stv s k := by unfold stv; rw [st_succ_no h]

def LinesPost (s : ByteArray) (w : World) (e : Ending) (w' : World) : Prop := ∃ v, e = .returned v ∧ w'.ownsRow w.heap.size 3 1 v (nl s s.size + 1) (stv s s.size) ∧ Below w.heap.size w w'

set_option maxRecDepth 100000 in
set_option maxHeartbeats 1000000 in
theorem lines_any (s : ByteArray) (w : World) (hs : s.size ≤ 1048576) : Calls Try.prog 11 #[.string s] w (LinesPost s w) := by
  obtain ⟨i0, hi, hz0, hz1, hz2⟩ := info_parts int_info
  have HI := Lib.hid hi
  have HZ0 := Lib.hid hz0
  have HZ1 := Lib.hid hz1
  have HZ2 := Lib.hid hz2
  have X0 := Lib.hid (blk_new w (.cells #[.int .i64 0] 3))
  clear hi hz0 hz1 hz2
  go_enter Try.func11, Try.ntmps11
  go_wp2
  go_loopw [3, 8] (fun v i wr => ∃ k : Nat, k ≤ s.size ∧ i = .int .i64 k ∧ wr.ownsRow w.heap.size 3 1 v (nl s k + 1) (stv s k) ∧ Below w.heap.size w wr) (fun _ i _ => s.size - (intOf i).toNat)
  case atStart => exact ⟨0, Nat.zero_le _, rfl, ⟨rfl, .inr ⟨w.heap.size, 1, #[.int .i64 0], rfl, Nat.le_refl _, X0.out, Nat.le_refl _, by unfold maxLen; omega, rfl, rfl⟩⟩, (Below.refl _ w).alloc (Nat.le_refl _) _⟩
  case round =>
    obtain ⟨k, hk, rfl, ho, hb⟩ := hrel
    have HO := Lib.hid ho
    have hnl := nl_le s k
    clear ho
    by_cases hlt : k < s.size
    · cases hn : NL s k with
      | true =>
        have g1 : s[k].toNat = 10 := nl_yes hlt hn
        have HSV := Lib.hid (stv_yes hn)
        have HNS := Lib.hid (nl_succ_yes hn)
        generalize nl s k = M at *
        clear hn
        go_wp2_with (at_builtin; refine wpList_append_own_at _ rfl _ _ 28 rfl w.heap.size 3 i0 _ 1 8 Try.underlying28 HI.out HZ0.out HZ1.out HZ2.out rfl (by decide) u3 (M + 1) (stv s k) rfl (HO.out.alloc _) ⟨wr.heap.size, 0, none⟩ 1 1 [.int .i64 ((k : Int) + 1)] rfl rfl (new_cell _ _ _) ?q2 ?q3 ?q4 ?q5 ?_)
        case q2 => intro u hu; simp at hu; rw [hu]; rfl
        case q3 => unfold maxLen; omega
        case q4 => omega
        case q5 => have := hb.size; simp; omega
        intro v' w3 hown' hgrow _ hat
        have HO3 := Lib.hid hown'
        have HG3 := Lib.hid hgrow
        clear hown' hgrow hat
        go_wp2
        go_roundw
        case rel => exact ⟨k + 1, by omega, by go_num, by rw [HSV.out, HNS.out]; exact HO3.out, (hb.alloc hb.size _).grown HG3.out (by have := hb.size; simp; omega) (fun g hg => (HO.out.lt g hg).1)⟩
        case measure => simp [intOf]; omega
      | false =>
        have g1 : s[k].toNat ≠ 10 := nl_no hlt hn
        have HSV := Lib.hid (stv_no hn)
        have HNS := Lib.hid (nl_succ_no hn)
        clear hn
        go_wp2
        go_roundw
        case rel => exact ⟨k + 1, by omega, by go_num, by rw [HSV.out, HNS.out]; exact HO.out, hb⟩
        case measure => simp [intOf]; omega
    · obtain rfl : k = s.size := by omega
      go_wp2
      go_ret
      exact ⟨_, rfl, HO.out, hb⟩

set_option maxRecDepth 100000 in
set_option maxHeartbeats 1000000 in
theorem rlines_any (s : ByteArray) (w : World) (hs : s.size ≤ 1048576) : Calls Try.prog 12 #[.string s] w (LinesPost s w) := by
  obtain ⟨i0, hi, hz0, hz1, hz2⟩ := info_parts int_info
  have HI := Lib.hid hi
  have HZ0 := Lib.hid hz0
  have HZ1 := Lib.hid hz1
  have HZ2 := Lib.hid hz2
  have X0 := Lib.hid (blk_new w (.cells #[.int .i64 0] 3))
  clear hi hz0 hz1 hz2
  go_enter Try.func12, Try.ntmps12
  go_wp2
  go_loopw [3, 4] (fun v i wr => ∃ k : Nat, k ≤ s.size ∧ i = .int .i64 k ∧ wr.ownsRow w.heap.size 3 1 v (nl s k + 1) (stv s k) ∧ Below w.heap.size w wr) (fun _ i _ => s.size - (intOf i).toNat)
  case atStart => exact ⟨0, Nat.zero_le _, rfl, ⟨rfl, .inr ⟨w.heap.size, 1, #[.int .i64 0], rfl, Nat.le_refl _, X0.out, Nat.le_refl _, by unfold maxLen; omega, rfl, rfl⟩⟩, (Below.refl _ w).alloc (Nat.le_refl _) _⟩
  case round =>
    obtain ⟨k, hk, rfl, ho, hb⟩ := hrel
    have HO := Lib.hid ho
    have hnl := nl_le s k
    clear ho
    by_cases hlt : k < s.size
    · cases hn : NL s k with
      | true =>
        have g1 : s[k].toNat = 10 := nl_yes hlt hn
        have HSV := Lib.hid (stv_yes hn)
        have HNS := Lib.hid (nl_succ_yes hn)
        generalize nl s k = M at *
        clear hn
        go_wp2_with (at_builtin; refine wpList_append_own_at _ rfl _ _ 28 rfl w.heap.size 3 i0 _ 1 8 Try.underlying28 HI.out HZ0.out HZ1.out HZ2.out rfl (by decide) u3 (M + 1) (stv s k) rfl (HO.out.alloc _) ⟨wr.heap.size, 0, none⟩ 1 1 [.int .i64 ((k : Int) + 1)] rfl rfl (new_cell _ _ _) ?q2 ?q3 ?q4 ?q5 ?_)
        case q2 => intro u hu; simp at hu; rw [hu]; rfl
        case q3 => unfold maxLen; omega
        case q4 => omega
        case q5 => have := hb.size; simp; omega
        intro v' w3 hown' hgrow _ hat
        have HO3 := Lib.hid hown'
        have HG3 := Lib.hid hgrow
        clear hown' hgrow hat
        go_wp2
        go_roundw
        case rel => exact ⟨k + 1, by omega, by go_num, by rw [HSV.out, HNS.out]; exact HO3.out, (hb.alloc hb.size _).grown HG3.out (by have := hb.size; simp; omega) (fun g hg => (HO.out.lt g hg).1)⟩
        case measure => simp [intOf]; omega
      | false =>
        have g1 : s[k].toNat ≠ 10 := nl_no hlt hn
        have HSV := Lib.hid (stv_no hn)
        have HNS := Lib.hid (nl_succ_no hn)
        clear hn
        go_wp2
        go_roundw
        case rel => exact ⟨k + 1, by omega, by go_num, by rw [HSV.out, HNS.out]; exact HO.out, hb⟩
        case measure => simp [intOf]; omega
    · obtain rfl : k = s.size := by omega
      go_wp2
      go_ret
      exact ⟨_, rfl, HO.out, hb⟩

/-- A slice whose elements say where lines begin. -/
def RowAt (W : World) (s : ByteArray) (a : Addr) : Prop := ∀ k, k ≤ nl s s.size → W.cell? (a.add k) = some (.int .i64 (pos s s.size k : Nat))
theorem RowAt.below {W W' : World} {B : Nat} {s : ByteArray} {a : Addr} (hb : Below B W W') (h : RowAt W s a) (ha : a.block < B) : RowAt W' s a := fun k hk => by
  have e : (a.add k).block = a.block := by unfold Addr.add; split <;> rfl
  exact (hb.cell (by rw [e]; exact ha)).trans (h k hk)
theorem stv_get (s : ByteArray) {k : Nat} (h : k ≤ nl s s.size) : (stv s s.size)[k]? = some (.int .i64 (pos s s.size k : Nat)) := by
  unfold stv
  rw [st_eq, List.map_map, List.getElem?_map, List.getElem?_range (by omega)]
  rfl
theorem lines_form {s : ByteArray} {w w' : World} {e : Ending} (h : LinesPost s w e w') : ∃ g cap, e = .returned (.slice (some ⟨g, 0, none⟩) (nl s s.size + 1) cap) ∧ w.heap.size ≤ g ∧ g < w'.heap.size ∧ RowAt w' s ⟨g, 0, none⟩ ∧ Below w.heap.size w w' := by
  obtain ⟨v, rfl, ho, hb⟩ := h
  rcases ho.2 with ⟨_, h0⟩ | ⟨g, cap, cur, e, hg, hgg, _⟩
  · omega
  · subst e
    exact ⟨g, cap, rfl, hg, blk_lt hgg, fun k hk => ho.cells (g := g) rfl k _ (stv_get s hk), hb⟩
/-- Lines, as a caller sees it. -/
theorem lines_at (s : ByteArray) (w : World) (hs : s.size ≤ 1048576) : Calls Try.prog 11 #[.string s] w fun e w' => ∃ a cap, e = .returned (.slice (some a) (nl s s.size + 1) cap) ∧ (∃ g, a = ⟨g, 0, none⟩) ∧ a.block < w'.heap.size ∧ RowAt w' s a ∧ Below w.heap.size w w' := by
  refine (lines_any s w hs).mono fun e w' h => ?_
  obtain ⟨g, cap, h1, _, h2, h3, h4⟩ := lines_form h
  exact ⟨_, cap, h1, ⟨g, rfl⟩, h2, h3, h4⟩
theorem rlines_at (s : ByteArray) (w : World) (hs : s.size ≤ 1048576) : Calls Try.prog 12 #[.string s] w fun e w' => ∃ a cap, e = .returned (.slice (some a) (nl s s.size + 1) cap) ∧ (∃ g, a = ⟨g, 0, none⟩) ∧ a.block < w'.heap.size ∧ RowAt w' s a ∧ Below w.heap.size w w' := by
  refine (rlines_any s w hs).mono fun e w' h => ?_
  obtain ⟨g, cap, h1, _, h2, h3, h4⟩ := lines_form h
  exact ⟨_, cap, h1, ⟨g, rfl⟩, h2, h3, h4⟩
end Go.Proofs.Ytmdobaplndlhhaa
