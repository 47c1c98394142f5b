/-
  An argument that is a term, read as a tree.
-/
import Derived.Test.YtipeggpolnnpmaaPrimsSameT
import Derived.ChangeArms
import Derived.DataReads
namespace Go.Proofs.Ytipeggpolnnpmaa
open Go.RowKit
set_option linter.unusedVariables false

theorem blk_of_cell {w : World} {a : Addr} {n : Nat} {v : Value} (h : w.cell? (a.add n) = some v) : a.block < w.heap.size := by
  have := World.block_lt_of_cell? w _ h
  rwa [blk_add] at this

theorem TysAt.mk_ {W : World} {B : Nat} : ∀ (n : Nat) (a : Addr), (∀ i, i < n → ∃ t v0 v1 v2, a.block < B ∧ W.cell? (a.add (i * 3)) = some v0 ∧ W.cell? (a.add (i * 3 + 1)) = some v1 ∧ W.cell? (a.add (i * 3 + 2)) = some v2 ∧ TyAt W B t v0 v1 v2) →
    ∃ l : List Ty, l.length = n ∧ TysAt W B l (some a)
  | 0, a, _ => ⟨[], rfl, by unfold TysAt; trivial⟩
  | n + 1, a, h => by
    obtain ⟨t, v0, v1, v2, hb, h0, h1, h2, ht⟩ := h 0 (by omega)
    obtain ⟨l, hl, hr⟩ := TysAt.mk_ n (a.add 3) (fun i hi => by
      obtain ⟨t, v0, v1, v2, hb, h0, h1, h2, ht⟩ := h (i + 1) (by omega)
      refine ⟨t, v0, v1, v2, by rw [blk_add]; exact hb, ?_, ?_, ?_, ht⟩
      · rw [add_add, show 3 + i * 3 = (i + 1) * 3 by omega]; exact h0
      · rw [add_add, show 3 + (i * 3 + 1) = (i + 1) * 3 + 1 by omega]; exact h1
      · rw [add_add, show 3 + (i * 3 + 2) = (i + 1) * 3 + 2 by omega]; exact h2)
    refine ⟨t :: l, by simp [hl], ?_⟩
    unfold TysAt
    exact ⟨a, v0, v1, v2, rfl, hb, by simpa [Addr.add] using h0, by simpa using h1, by simpa using h2, ht, hr⟩

theorem TmsAt.mk_ {W : World} {B : Nat} : ∀ (n : Nat) (a : Addr), (∀ i, i < n → ∃ t v0 v1 v2 v3 v4 v5, a.block < B ∧ W.cell? (a.add (i * 6)) = some v0 ∧ W.cell? (a.add (i * 6 + 1)) = some v1 ∧ W.cell? (a.add (i * 6 + 2)) = some v2 ∧ W.cell? (a.add (i * 6 + 3)) = some v3 ∧ W.cell? (a.add (i * 6 + 4)) = some v4 ∧ W.cell? (a.add (i * 6 + 5)) = some v5 ∧ TmAt W B t #[v0, v1, v2, v3, v4, v5]) →
    ∃ l : List Tm, l.length = n ∧ TmsAt W B l (some a)
  | 0, a, _ => ⟨[], rfl, by unfold TmsAt; trivial⟩
  | n + 1, a, h => by
    obtain ⟨t, v0, v1, v2, v3, v4, v5, hb, h0, h1, h2, h3, h4, h5, ht⟩ := h 0 (by omega)
    obtain ⟨l, hl, hr⟩ := TmsAt.mk_ n (a.add 6) (fun i hi => by
      obtain ⟨t, v0, v1, v2, v3, v4, v5, hb, h0, h1, h2, h3, h4, h5, ht⟩ := h (i + 1) (by omega)
      refine ⟨t, v0, v1, v2, v3, v4, v5, by rw [blk_add]; exact hb, ?_, ?_, ?_, ?_, ?_, ?_, ht⟩
      · rw [add_add, show 6 + i * 6 = (i + 1) * 6 by omega]; exact h0
      · rw [add_add, show 6 + (i * 6 + 1) = (i + 1) * 6 + 1 by omega]; exact h1
      · rw [add_add, show 6 + (i * 6 + 2) = (i + 1) * 6 + 2 by omega]; exact h2
      · rw [add_add, show 6 + (i * 6 + 3) = (i + 1) * 6 + 3 by omega]; exact h3
      · rw [add_add, show 6 + (i * 6 + 4) = (i + 1) * 6 + 4 by omega]; exact h4
      · rw [add_add, show 6 + (i * 6 + 5) = (i + 1) * 6 + 5 by omega]; exact h5)
    refine ⟨t :: l, by simp [hl], ?_⟩
    unfold TmsAt
    exact ⟨a, v0, v1, v2, v3, v4, v5, rfl, hb, by simpa [Addr.add] using h0, by simpa using h1, by simpa using h2, by simpa using h3, by simpa using h4, by simpa using h5, ht, hr⟩

theorem ints_mk {W : World} {B : Nat} (n : Nat) (a : Addr) (h : ∀ i, i < n → ∃ x, a.block < B ∧ W.cell? (a.add i) = some (.int .i64 x)) : ∃ l : List Int, l.length = n ∧ IntsAt W B l (some a) := by
  induction n with
  | zero => exact ⟨[], rfl, fun i hi => by simp at hi⟩
  | succ n ih =>
    obtain ⟨l, hl, hr⟩ := ih (fun i hi => h i (by omega))
    obtain ⟨x, hb, hx⟩ := h n (by omega)
    refine ⟨l ++ [x], by simp [hl], fun i hi => ?_⟩
    by_cases hn : i < l.length
    · obtain ⟨a', e, h1, h2⟩ := hr i hn
      exact ⟨a', e, h1, by rw [h2]; simp [List.getElem_append_left hn]⟩
    · have : i = n := by simp at hi; omega
      subst this
      exact ⟨a, rfl, hb, by rw [hx]; simp [hl]⟩

theorem cells_ty : Try.prog.cellsOf 54 = 3 := by kernel_rfl
theorem cells_tm : Try.prog.cellsOf 26 = 6 := by kernel_rfl
theorem cells_int : Try.prog.cellsOf 3 = 1 := by kernel_rfl
theorem cells_str : Try.prog.cellsOf 9 = 1 := by kernel_rfl
theorem cells_ints : Try.prog.cellsOf 22 = 1 := by kernel_rfl
theorem cells_tys : Try.prog.cellsOf 23 = 1 := by kernel_rfl
theorem cells_tms : Try.prog.cellsOf 24 = 1 := by kernel_rfl

section
variable {H : Type} {enc : TypeId × Value → H} {W : World} {base : Nat} {spare : Nat → Bool} {held : Bool}

/-- Types behind one another, where each reads as a tree. -/
theorem read_tys {fuel : Nat} (ih : ∀ n, n < fuel → ∀ (cs : List Value) (x : DataW H × List MemPlace), DataW.trod enc Try.prog W base spare held n 54 cs = some x → ∃ t v0 v1 v2, cs = [v0, v1, v2] ∧ TyAt W W.heap.size t v0 v1 v2)
    (v : Value) (x : DataW H × List MemPlace) (h : DataW.trod enc Try.prog W base spare held fuel 23 [v] = some x) : ∃ (l : List Ty) (A : Option Addr) (k : Nat), v = .slice A l.length k ∧ l.length ≤ maxLen ∧ TysAt W W.heap.size l A := by
  rcases DataW.trod_slice Try.underlying23 h with ⟨h0, _⟩ | ⟨a, len, cap, elems, rest, n, hn, hcs, _, hb, hl, hm, hlen, hel, _, _⟩
  · cases h0; exact ⟨[], none, 0, rfl, Nat.zero_le _, by unfold TysAt; trivial⟩
  · cases hcs
    obtain ⟨l, hll, hr⟩ := TysAt.mk_ (W := W) (B := W.heap.size) len a (fun i hi => by
      have he := hel i hi
      rw [List.getElem?_eq_getElem (by omega), Option.bind_eq_some_iff] at he
      obtain ⟨cs, hc, ht⟩ := he
      obtain ⟨t, v0, v1, v2, rfl, hty⟩ := ih n (by omega) cs _ ht
      rw [cells_ty] at hc
      obtain ⟨_, _, hcell⟩ := World.cells?_some hc
      have c0 := hcell 0 (by omega)
      have c1 := hcell 1 (by omega)
      have c2 := hcell 2 (by omega)
      rw [add_add] at c0 c1 c2
      exact ⟨t, v0, v1, v2, blk_of_cell c0, by simpa using c0, by simpa using c1, by simpa using c2, hty⟩)
    exact ⟨l, some a, cap, by rw [hll], by omega, hr⟩

theorem read_ty : ∀ (fuel : Nat) (cs : List Value) (x : DataW H × List MemPlace), DataW.trod enc Try.prog W base spare held fuel 54 cs = some x → ∃ t v0 v1 v2, cs = [v0, v1, v2] ∧ TyAt W W.heap.size t v0 v1 v2 := by
  intro fuel
  induction fuel using Nat.strongRecOn with
  | ind fuel ih =>
    intro cs x h
    obtain ⟨xs, n, hn, hx, hlen, hxl, hf⟩ := DataW.trod_struct Try.underlying54 h
    rw [cells_ty] at hlen
    match cs, hlen with
    | [v0, v1, v2], _ =>
      have f0 : DataW.trod enc Try.prog W base spare held n 9 (([v0, v1, v2].drop 0).take (Try.prog.cellsOf 9)) = xs[0]? := hf 0 _ rfl
      rw [cells_str] at f0
      replace f0 : DataW.trod enc Try.prog W base spare held n 9 [v0] = xs[0]? := f0
      have f1 : DataW.trod enc Try.prog W base spare held n 3 (([v0, v1, v2].drop 1).take (Try.prog.cellsOf 3)) = xs[1]? := hf 1 _ rfl
      rw [cells_int] at f1
      replace f1 : DataW.trod enc Try.prog W base spare held n 3 [v1] = xs[1]? := f1
      have f2 : DataW.trod enc Try.prog W base spare held n 23 (([v0, v1, v2].drop 2).take (Try.prog.cellsOf 23)) = xs[2]? := hf 2 _ rfl
      rw [cells_tys] at f2
      replace f2 : DataW.trod enc Try.prog W base spare held n 23 [v2] = xs[2]? := f2
      have hs : xs.length = 3 := hxl
      rw [List.getElem?_eq_getElem (by omega)] at f0
      rw [List.getElem?_eq_getElem (by omega)] at f1
      rw [List.getElem?_eq_getElem (by omega)] at f2
      obtain ⟨s, e0, _, _⟩ := DataW.trod_string Try.underlying9 f0
      obtain ⟨m, e1, _, _⟩ := DataW.trod_int Try.underlying3 f1
      simp at e0 e1
      obtain ⟨l, A, k, e2, hl, hr⟩ := read_tys (fuel := n) (fun n' hn' => ih n' (by omega)) v2 _ f2
      refine ⟨.mk s m l, v0, v1, v2, rfl, ?_⟩
      unfold TyAt
      exact ⟨e0, e1, hl, A, k, e2, hr⟩

theorem read_ints {fuel : Nat} (v : Value) (x : DataW H × List MemPlace) (h : DataW.trod enc Try.prog W base spare held fuel 22 [v] = some x) : ∃ (l : List Int) (A : Option Addr) (k : Nat), v = .slice A l.length k ∧ l.length ≤ maxLen ∧ IntsAt W W.heap.size l A := by
  rcases DataW.trod_slice Try.underlying22 h with ⟨h0, _⟩ | ⟨a, len, cap, elems, rest, n, hn, hcs, _, hb, hl, hm, hlen, hel, _, _⟩
  · cases h0; exact ⟨[], none, 0, rfl, Nat.zero_le _, fun i hi => by simp at hi⟩
  · cases hcs
    obtain ⟨l, hll, hr⟩ := ints_mk (W := W) (B := W.heap.size) len a (fun i hi => by
      have he := hel i hi
      rw [List.getElem?_eq_getElem (by omega), Option.bind_eq_some_iff] at he
      obtain ⟨cs, hc, ht⟩ := he
      obtain ⟨m, rfl, _, _⟩ := DataW.trod_int Try.underlying3 ht
      rw [cells_int] at hc
      obtain ⟨_, _, hcell⟩ := World.cells?_some hc
      have c0 := hcell 0 (by omega)
      rw [add_add] at c0
      exact ⟨m, blk_of_cell c0, by simpa using c0⟩)
    exact ⟨l, some a, cap, by rw [hll], by omega, hr⟩

theorem read_tms {fuel : Nat} (ih : ∀ n, n < fuel → ∀ (cs : List Value) (x : DataW H × List MemPlace), DataW.trod enc Try.prog W base spare held n 26 cs = some x → ∃ t, TmAt W W.heap.size t cs.toArray)
    (v : Value) (x : DataW H × List MemPlace) (h : DataW.trod enc Try.prog W base spare held fuel 24 [v] = some x) : ∃ (l : List Tm) (A : Option Addr) (k : Nat), v = .slice A l.length k ∧ l.length ≤ maxLen ∧ TmsAt W W.heap.size l A := by
  rcases DataW.trod_slice Try.underlying24 h with ⟨h0, _⟩ | ⟨a, len, cap, elems, rest, n, hn, hcs, _, hb, hl, hm, hlen, hel, _, _⟩
  · cases h0; exact ⟨[], none, 0, rfl, Nat.zero_le _, by unfold TmsAt; trivial⟩
  · cases hcs
    obtain ⟨l, hll, hr⟩ := TmsAt.mk_ (W := W) (B := W.heap.size) len a (fun i hi => by
      have he := hel i hi
      rw [List.getElem?_eq_getElem (by omega), Option.bind_eq_some_iff] at he
      obtain ⟨cs, hc, ht⟩ := he
      obtain ⟨t, hty⟩ := ih n (by omega) cs _ ht
      rw [cells_tm] at hc
      obtain ⟨_, hcl, hcell⟩ := World.cells?_some hc
      match cs, hcl with
      | [v0, v1, v2, v3, v4, v5], _ =>
        have c0 := hcell 0 (by omega)
        have c1 := hcell 1 (by omega)
        have c2 := hcell 2 (by omega)
        have c3 := hcell 3 (by omega)
        have c4 := hcell 4 (by omega)
        have c5 := hcell 5 (by omega)
        rw [add_add] at c0 c1 c2 c3 c4 c5
        exact ⟨t, v0, v1, v2, v3, v4, v5, blk_of_cell c0, by simpa using c0, by simpa using c1, by simpa using c2, by simpa using c3, by simpa using c4, by simpa using c5, hty⟩)
    exact ⟨l, some a, cap, by rw [hll], by omega, hr⟩

theorem read_tm : ∀ (fuel : Nat) (cs : List Value) (x : DataW H × List MemPlace), DataW.trod enc Try.prog W base spare held fuel 26 cs = some x → ∃ t, TmAt W W.heap.size t cs.toArray := by
  intro fuel
  induction fuel using Nat.strongRecOn with
  | ind fuel ih =>
    intro cs x h
    obtain ⟨xs, n, hn, hx, hlen, hxl, hf⟩ := DataW.trod_struct Try.underlying26 h
    rw [cells_tm] at hlen
    match cs, hlen with
    | [v0, v1, v2, v3, v4, v5], _ =>
      have f0 : DataW.trod enc Try.prog W base spare held n 3 (([v0, v1, v2, v3, v4, v5].drop 0).take (Try.prog.cellsOf 3)) = xs[0]? := hf 0 _ rfl
      rw [cells_int] at f0
      replace f0 : DataW.trod enc Try.prog W base spare held n 3 [v0] = xs[0]? := f0
      have f1 : DataW.trod enc Try.prog W base spare held n 3 (([v0, v1, v2, v3, v4, v5].drop 1).take (Try.prog.cellsOf 3)) = xs[1]? := hf 1 _ rfl
      rw [cells_int] at f1
      replace f1 : DataW.trod enc Try.prog W base spare held n 3 [v1] = xs[1]? := f1
      have f2 : DataW.trod enc Try.prog W base spare held n 9 (([v0, v1, v2, v3, v4, v5].drop 2).take (Try.prog.cellsOf 9)) = xs[2]? := hf 2 _ rfl
      rw [cells_str] at f2
      replace f2 : DataW.trod enc Try.prog W base spare held n 9 [v2] = xs[2]? := f2
      have f3 : DataW.trod enc Try.prog W base spare held n 22 (([v0, v1, v2, v3, v4, v5].drop 3).take (Try.prog.cellsOf 22)) = xs[3]? := hf 3 _ rfl
      rw [cells_ints] at f3
      replace f3 : DataW.trod enc Try.prog W base spare held n 22 [v3] = xs[3]? := f3
      have f4 : DataW.trod enc Try.prog W base spare held n 23 (([v0, v1, v2, v3, v4, v5].drop 4).take (Try.prog.cellsOf 23)) = xs[4]? := hf 4 _ rfl
      rw [cells_tys] at f4
      replace f4 : DataW.trod enc Try.prog W base spare held n 23 [v4] = xs[4]? := f4
      have f5 : DataW.trod enc Try.prog W base spare held n 24 (([v0, v1, v2, v3, v4, v5].drop 5).take (Try.prog.cellsOf 24)) = xs[5]? := hf 5 _ rfl
      rw [cells_tms] at f5
      replace f5 : DataW.trod enc Try.prog W base spare held n 24 [v5] = xs[5]? := f5
      have hs : xs.length = 6 := hxl
      rw [List.getElem?_eq_getElem (by omega)] at f0
      rw [List.getElem?_eq_getElem (by omega)] at f1
      rw [List.getElem?_eq_getElem (by omega)] at f2
      rw [List.getElem?_eq_getElem (by omega)] at f3
      rw [List.getElem?_eq_getElem (by omega)] at f4
      rw [List.getElem?_eq_getElem (by omega)] at f5
      obtain ⟨m0, e0, _, _⟩ := DataW.trod_int Try.underlying3 f0
      obtain ⟨m1, e1, _, _⟩ := DataW.trod_int Try.underlying3 f1
      obtain ⟨s, e2, _, _⟩ := DataW.trod_string Try.underlying9 f2
      simp at e0 e1 e2
      obtain ⟨l3, A3, k3, e3, hl3, hr3⟩ := read_ints v3 _ f3
      obtain ⟨l4, A4, k4, e4, hl4, hr4⟩ := read_tys (fuel := n) (fun n' _ => read_ty n') v4 _ f4
      obtain ⟨l5, A5, k5, e5, hl5, hr5⟩ := read_tms (fuel := n) (fun n' hn' => ih n' (by omega)) v5 _ f5
      refine ⟨.mk m0 m1 s l3 l4 l5, ?_⟩
      unfold TmAt
      exact ⟨A3, k3, A4, k4, A5, k5, by rw [e0, e1, e2, e3, e4, e5], hl3, hl4, hl5, hr3, hr4, hr5⟩
end
end Go.Proofs.Ytipeggpolnnpmaa
