/-
  The walks of prims.text and prims.closed at the terms that awake asks of.
-/
import Derived.Test.YtipeggpolnnpmaaPrimsBuilder
namespace Go.Proofs.Ytipeggpolnnpmaa
open Go.RowKit Go.Shelf
set_option linter.unusedVariables false

theorem grownBy_below {w w' : World} (h : Below w.heap.size w w') : w.grownBy w' none := ⟨h.os, h.tape, h.output, h.size, fun i hi _ => h.block i hi⟩
theorem bld_below {T e : TypeId} {B b : Nat} {p : Value} {bs : List Value} {w w' : World} (h : Lib.BuilderAt T e B b p bs w) (hb : Below w.heap.size w w') : Lib.BuilderAt T e B b p bs w' := by
  obtain ⟨hB, v, hbk, hown, hne⟩ := h
  exact ⟨hB, v, (hb.block _ (blk_lt hbk)).trans hbk, hown.kept (grownBy_below hb) (Classical.em _), hne⟩
theorem isb_below {T e : TypeId} {B b : Nat} {bs : List Value} {w w' : World} (h : Lib.IsBuilder T e B b bs w) (hb : Below w.heap.size w w') : Lib.IsBuilder T e B b bs w' := by
  rcases h with h | h
  · exact .inl (bld_below h hb)
  · exact .inr (bld_below h hb)

/-- What writing leaves. -/
def Wrote (B b : Nat) (bs : List Value) (r : Bool) (w : World) (e : Ending) (w' : World) : Prop :=
  e = .returned (.bool r) ∧ Lib.IsBuilder 74 5 B b bs w' ∧ Below B w w' ∧ KeepT b w w'

set_option maxRecDepth 100000 in
set_option maxHeartbeats 400000 in
theorem text_lam (B b : Nat) (xs : List Value) (n : Int) (w : World) (h : Lib.IsBuilder 74 5 B b xs w) (hlen : xs.length ≤ 1000) (hBw : B ≤ w.heap.size) :
    Calls Try.prog 44 #[.pointer (some ⟨b, 0, none⟩), .agg #[.int .i64 3, .int .i64 n, .string ⟨#[]⟩, .slice none 0 0, .slice none 0 0, .slice none 0 0]] w (Wrote B b (xs ++ Lib.strCells ⟨#[102, 117, 110]⟩) true w) := by
  have H := Lib.hid (isb_below h ((Below.refl _ w).alloc (Nat.le_refl _) (.cells #[.int .i64 3, .int .i64 n, .string ⟨#[]⟩, .slice none 0 0, .slice none 0 0, .slice none 0 0] 26)))
  have hb0 : Below B w (w.alloc (.cells #[.int .i64 3, .int .i64 n, .string ⟨#[]⟩, .slice none 0 0, .slice none 0 0, .slice none 0 0] 26)) := (Below.refl B w).alloc hBw _
  have hk0 : KeepT b w (w.alloc (.cells #[.int .i64 3, .int .i64 n, .string ⟨#[]⟩, .slice none 0 0, .slice none 0 0, .slice none 0 0] 26)) := KeepT.of_below ((Below.refl _ w).alloc (Nat.le_refl _) _)
  have hX := Lib.hid (blk_new w (.cells #[.int .i64 3, .int .i64 n, .string ⟨#[]⟩, .slice none 0 0, .slice none 0 0, .slice none 0 0] 26))
  clear h
  go_enter Try.func44, Try.ntmps44
  go_wp2_with fail
  refine (ws_any B b xs _ _ H.out (by simp [ByteArray.size]; omega) (by simp; omega)).mono ?_
  rintro e w1 ⟨rfl, h1, hb1, hk1⟩
  have H1 := Lib.hid h1
  clear h1
  go_wp2
  go_ret
  exact ⟨rfl, .inr H1.out, hb0.trans hb1, hk0.trans hk1⟩

set_option maxRecDepth 100000 in
set_option maxHeartbeats 400000 in
theorem text_int (B b : Nat) (xs : List Value) (n : Int) (w : World) (h : Lib.IsBuilder 74 5 B b xs w) (hlen : xs.length ≤ 1000) (hBw : B ≤ w.heap.size) (n0 : -9223372036854775808 ≤ n) (n1 : n ≤ 9223372036854775807) (hi : (itoa n).length ≤ 100) :
    Calls Try.prog 44 #[.pointer (some ⟨b, 0, none⟩), .agg #[.int .i64 2, .int .i64 n, .string ⟨#[]⟩, .slice none 0 0, .slice none 0 0, .slice none 0 0]] w (Wrote B b (xs ++ Lib.strCells (bs (itoa n))) true w) := by
  have H := Lib.hid (isb_below h ((Below.refl _ w).alloc (Nat.le_refl _) (.cells #[.int .i64 2, .int .i64 n, .string ⟨#[]⟩, .slice none 0 0, .slice none 0 0, .slice none 0 0] 26)))
  have hb0 : Below B w (w.alloc (.cells #[.int .i64 2, .int .i64 n, .string ⟨#[]⟩, .slice none 0 0, .slice none 0 0, .slice none 0 0] 26)) := (Below.refl B w).alloc hBw _
  have hk0 : KeepT b w (w.alloc (.cells #[.int .i64 2, .int .i64 n, .string ⟨#[]⟩, .slice none 0 0, .slice none 0 0, .slice none 0 0] 26)) := KeepT.of_below ((Below.refl _ w).alloc (Nat.le_refl _) _)
  have hX := Lib.hid (blk_new w (.cells #[.int .i64 2, .int .i64 n, .string ⟨#[]⟩, .slice none 0 0, .slice none 0 0, .slice none 0 0] 26))
  clear h
  have hsz : (bs (itoa n)).size ≤ 100 := by rw [bs_size]; exact hi
  have HT := Lib.hid (fun W => text_any n W n0 n1)
  generalize bs (itoa n) = S at *
  go_enter Try.func44, Try.ntmps44
  go_wp2_with fail
  refine (HT.out _).mono ?_
  rintro e w1 ⟨rfl, hb1⟩
  have H1 := Lib.hid (isb_below H.out hb1)
  have hz1 : w.heap.size + 1 ≤ w1.heap.size := by have := hb1.size; simpa using this
  go_wp2_with fail
  refine (ws_any B b xs _ _ H1.out (by omega) (by omega)).mono ?_
  rintro e w2 ⟨rfl, h2, hb2, hk2⟩
  have H2 := Lib.hid h2
  clear h2
  go_wp2
  go_ret
  exact ⟨rfl, .inr H2.out, (hb0.trans (hb1.mono (by simp; omega))).trans hb2, (hk0.trans (KeepT.of_below hb1)).trans hk2⟩

set_option maxRecDepth 100000 in
set_option maxHeartbeats 400000 in
theorem closed_lam (B b : Nat) (xs : List Value) (n : Int) (w : World) (h : Lib.IsBuilder 74 5 B b xs w) (hlen : xs.length ≤ 1000) (hBw : B ≤ w.heap.size) :
    Calls Try.prog 54 #[.pointer (some ⟨b, 0, none⟩), .agg #[.int .i64 3, .int .i64 n, .string ⟨#[]⟩, .slice none 0 0, .slice none 0 0, .slice none 0 0]] w (Wrote B b (xs ++ Lib.strCells ⟨#[102, 117, 110]⟩) true w) := by
  have H := Lib.hid (isb_below h ((Below.refl _ w).alloc (Nat.le_refl _) (.cells #[.int .i64 3, .int .i64 n, .string ⟨#[]⟩, .slice none 0 0, .slice none 0 0, .slice none 0 0] 26)))
  have hb0 : Below B w (w.alloc (.cells #[.int .i64 3, .int .i64 n, .string ⟨#[]⟩, .slice none 0 0, .slice none 0 0, .slice none 0 0] 26)) := (Below.refl B w).alloc hBw _
  have hk0 : KeepT b w (w.alloc (.cells #[.int .i64 3, .int .i64 n, .string ⟨#[]⟩, .slice none 0 0, .slice none 0 0, .slice none 0 0] 26)) := KeepT.of_below ((Below.refl _ w).alloc (Nat.le_refl _) _)
  have hX := Lib.hid (blk_new w (.cells #[.int .i64 3, .int .i64 n, .string ⟨#[]⟩, .slice none 0 0, .slice none 0 0, .slice none 0 0] 26))
  clear h
  go_enter Try.func54, Try.ntmps54
  go_wp2_with fail
  refine (text_lam B b xs _ _ H.out hlen (by simp; omega)).mono ?_
  rintro e w1 ⟨rfl, h1, hb1, hk1⟩
  have H1 := Lib.hid h1
  clear h1
  go_wp2
  go_ret
  exact ⟨rfl, H1.out, hb0.trans hb1, hk0.trans hk1⟩

set_option maxRecDepth 100000 in
set_option maxHeartbeats 400000 in
theorem closed_neg (B b : Nat) (xs : List Value) (n : Int) (w : World) (h : Lib.IsBuilder 74 5 B b xs w) (hlen : xs.length ≤ 800) (hBw : B ≤ w.heap.size) (hbw : b < w.heap.size) (n0 : -9223372036854775808 ≤ n) (n1 : n < 0) (hi : (itoa n).length ≤ 100) :
    Calls Try.prog 54 #[.pointer (some ⟨b, 0, none⟩), .agg #[.int .i64 2, .int .i64 n, .string ⟨#[]⟩, .slice none 0 0, .slice none 0 0, .slice none 0 0]] w (Wrote B b (xs ++ Lib.strCells ⟨#[40]⟩ ++ Lib.strCells (bs (itoa n)) ++ Lib.strCells ⟨#[41]⟩) true w) := by
  have H := Lib.hid (isb_below h ((Below.refl _ w).alloc (Nat.le_refl _) (.cells #[.int .i64 2, .int .i64 n, .string ⟨#[]⟩, .slice none 0 0, .slice none 0 0, .slice none 0 0] 26)))
  have hb0 : Below B w (w.alloc (.cells #[.int .i64 2, .int .i64 n, .string ⟨#[]⟩, .slice none 0 0, .slice none 0 0, .slice none 0 0] 26)) := (Below.refl B w).alloc hBw _
  have hk0 : KeepT b w (w.alloc (.cells #[.int .i64 2, .int .i64 n, .string ⟨#[]⟩, .slice none 0 0, .slice none 0 0, .slice none 0 0] 26)) := KeepT.of_below ((Below.refl _ w).alloc (Nat.le_refl _) _)
  have hX := Lib.hid (blk_new w (.cells #[.int .i64 2, .int .i64 n, .string ⟨#[]⟩, .slice none 0 0, .slice none 0 0, .slice none 0 0] 26))
  clear h
  have hc : decide (n < 0) = true := by simpa using n1
  have e1 : (Lib.strCells ⟨#[40]⟩).length = 1 := rfl
  have e2 : (Lib.strCells (bs (itoa n))).length ≤ 100 := by rw [Lib.strCells_length, bs_size]; exact hi
  go_enter Try.func54, Try.ntmps54
  go_wp2_with fail
  refine (ws_any B b xs _ _ H.out (by simp [ByteArray.size]; omega) (by simp; omega)).mono ?_
  rintro e w1 ⟨rfl, h1, hb1, hk1⟩
  have H1 := Lib.hid h1
  have X1 := hk1 _ _ _ (by decide) (by omega) hX.out
  have c0 : w1.cell? ⟨w.heap.size, 0, none⟩ = some (.int .i64 2) := blk_cell X1 0
  have c1 : w1.cell? ⟨w.heap.size, 1, none⟩ = some (.int .i64 n) := blk_cell X1 1
  have c2 : w1.cell? ⟨w.heap.size, 2, none⟩ = some (.string ⟨#[]⟩) := blk_cell X1 2
  have c3 : w1.cell? ⟨w.heap.size, 3, none⟩ = some (.slice none 0 0) := blk_cell X1 3
  have c4 : w1.cell? ⟨w.heap.size, 4, none⟩ = some (.slice none 0 0) := blk_cell X1 4
  have c5 : w1.cell? ⟨w.heap.size, 5, none⟩ = some (.slice none 0 0) := blk_cell X1 5
  have hz1 : w.heap.size < w1.heap.size := blk_lt X1
  clear h1 X1
  go_wp2_with fail
  refine (text_int B b _ n _ (.inr H1.out) (by simp [e1]; omega) (by omega) n0 (by omega) hi).mono ?_
  rintro e w2 ⟨rfl, h2, hb2, hk2⟩
  have H2 := Lib.hid h2
  clear h2
  go_wp2_with fail
  refine (ws_any B b _ _ _ H2.out (by simp [e1, ByteArray.size]; omega) (by have := hb2.size; omega)).mono ?_
  rintro e w3 ⟨rfl, h3, hb3, hk3⟩
  have H3 := Lib.hid h3
  clear h3
  go_wp2
  go_ret
  exact ⟨rfl, .inr H3.out, ((hb0.trans hb1).trans hb2).trans hb3, ((hk0.trans hk1).trans hk2).trans hk3⟩
end Go.Proofs.Ytipeggpolnnpmaa
