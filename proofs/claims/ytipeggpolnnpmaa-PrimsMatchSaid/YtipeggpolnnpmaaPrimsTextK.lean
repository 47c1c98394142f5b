/-
  The walks of prims.text and prims.Text at the constructor that awake asks of.
-/
import Derived.Test.YtipeggpolnnpmaaPrimsText
namespace Go.Proofs.Ytipeggpolnnpmaa
open Go.RowKit Go.Shelf
set_option linter.unusedVariables false

theorem t_m3 : itoa (-3) = [45, 51] := by
  rw [itoa_neg _ (by omega)]
  have : (-3 : Int).natAbs = 3 := rfl
  rw [this, digs_small _ (by omega)]; rfl

/-- The kids of the constructor. -/
abbrev kidsK : Array Value := #[.int .i64 2, .int .i64 (-3), .string ⟨#[]⟩, .slice none 0 0, .slice none 0 0, .slice none 0 0, .int .i64 3, .int .i64 0, .string ⟨#[]⟩, .slice none 0 0, .slice none 0 0, .slice none 0 0]
def out0 : List Value := Lib.strCells ⟨#[75]⟩
def out1 : List Value := out0 ++ Lib.strCells ⟨#[32]⟩ ++ Lib.strCells ⟨#[40]⟩ ++ Lib.strCells (bs (itoa (-3))) ++ Lib.strCells ⟨#[41]⟩
def out2 : List Value := out1 ++ Lib.strCells ⟨#[32]⟩ ++ Lib.strCells ⟨#[102, 117, 110]⟩
theorem out2_eq : out2 = Lib.byteCells [75, 32, 40, 45, 51, 41, 32, 102, 117, 110] := by unfold out2 out1 out0; rw [t_m3]; rfl
theorem out0_len : out0.length = 1 := rfl
theorem out1_len : out1.length = 6 := by unfold out1 out0; rw [t_m3]; rfl

set_option maxRecDepth 100000 in
set_option maxHeartbeats 1000000 in
theorem text_K (B b g : Nat) (w : World) (h : Lib.IsBuilder 74 5 B b [] w) (hBw : B ≤ w.heap.size) (hbw : b < w.heap.size) (hgb : g ≠ b) (hg : w.heap[g]? = some (.cells kidsK 26 (0, 0))) :
    Calls Try.prog 44 #[.pointer (some ⟨b, 0, none⟩), .agg #[.int .i64 7, .int .i64 0, .string ⟨#[75]⟩, .slice none 0 0, .slice none 0 0, .slice (some ⟨g, 0, none⟩) 2 2]] w (Wrote B b out2 true w) := by
  have H := Lib.hid (isb_below h ((Below.refl _ w).alloc (Nat.le_refl _) (.cells #[.int .i64 7, .int .i64 0, .string ⟨#[75]⟩, .slice none 0 0, .slice none 0 0, .slice (some ⟨g, 0, none⟩) 2 2] 26)))
  have hb0 : Below B w (w.alloc (.cells #[.int .i64 7, .int .i64 0, .string ⟨#[75]⟩, .slice none 0 0, .slice none 0 0, .slice (some ⟨g, 0, none⟩) 2 2] 26)) := (Below.refl B w).alloc hBw _
  have hk0 : KeepT b w (w.alloc (.cells #[.int .i64 7, .int .i64 0, .string ⟨#[75]⟩, .slice none 0 0, .slice none 0 0, .slice (some ⟨g, 0, none⟩) 2 2] 26)) := KeepT.of_below ((Below.refl _ w).alloc (Nat.le_refl _) _)
  have hX := Lib.hid (blk_new w (.cells #[.int .i64 7, .int .i64 0, .string ⟨#[75]⟩, .slice none 0 0, .slice none 0 0, .slice (some ⟨g, 0, none⟩) 2 2] 26))
  have HG := Lib.hid hg
  clear h hg
  go_enter Try.func44, Try.ntmps44
  go_wp2_with fail
  refine (ws_any B b [] _ _ H.out (by simp [ByteArray.size]) (by simp; omega)).mono ?_
  rintro e w1 ⟨rfl, h1, hb1, hk1⟩
  have H1 := Lib.hid h1
  have X1 := hk1 _ _ _ (by decide) (by omega) hX.out
  have G1 := Lib.hid ((hk0.trans hk1) _ _ _ (by decide) hgb HG.out)
  have c5 : w1.cell? ⟨w.heap.size, 5, none⟩ = some (.slice (some ⟨g, 0, none⟩) 2 2) := blk_cell X1 5
  have hz1 : w.heap.size < w1.heap.size := blk_lt X1
  have hB1 : Below B w w1 := hb0.trans hb1
  have hK1 : KeepT b w w1 := hk0.trans hk1
  clear h1 X1
  go_wp2
  go_loopw [33] (fun i wr => ((i = .int .i64 0 ∧ Lib.IsBuilder 74 5 B b out0 wr) ∨ (i = .int .i64 1 ∧ Lib.IsBuilder 74 5 B b out1 wr) ∨ (i = .int .i64 2 ∧ Lib.IsBuilder 74 5 B b out2 wr)) ∧ Below B w wr ∧ KeepT b w wr ∧ w.heap.size ≤ wr.heap.size) (fun i _ => (2 - intOf i).toNat)
  case atStart => exact ⟨.inl ⟨rfl, .inr H1.out⟩, hB1, hK1, Nat.le_of_lt hz1⟩
  case round =>
    obtain ⟨hi, hb, hk, hz⟩ := hrel
    have hg' := hk _ _ _ (by decide) hgb HG.out
    have G' := Lib.hid hg'
    have e0 : wr.cell? ⟨g, 0, none⟩ = some (.int .i64 2) := blk_cell hg' 0
    have e1 : wr.cell? ⟨g, 1, none⟩ = some (.int .i64 (-3)) := blk_cell hg' 1
    have e2 : wr.cell? ⟨g, 2, none⟩ = some (.string ⟨#[]⟩) := blk_cell hg' 2
    have e3 : wr.cell? ⟨g, 3, none⟩ = some (.slice none 0 0) := blk_cell hg' 3
    have e4 : wr.cell? ⟨g, 4, none⟩ = some (.slice none 0 0) := blk_cell hg' 4
    have e5 : wr.cell? ⟨g, 5, none⟩ = some (.slice none 0 0) := blk_cell hg' 5
    have e6 : wr.cell? ⟨g, 6, none⟩ = some (.int .i64 3) := blk_cell hg' 6
    have e7 : wr.cell? ⟨g, 7, none⟩ = some (.int .i64 0) := blk_cell hg' 7
    have e8 : wr.cell? ⟨g, 8, none⟩ = some (.string ⟨#[]⟩) := blk_cell hg' 8
    have e9 : wr.cell? ⟨g, 9, none⟩ = some (.slice none 0 0) := blk_cell hg' 9
    have ea : wr.cell? ⟨g, 10, none⟩ = some (.slice none 0 0) := blk_cell hg' 10
    have eb : wr.cell? ⟨g, 11, none⟩ = some (.slice none 0 0) := blk_cell hg' 11
    clear hg'
    rcases hi with ⟨rfl, hs⟩ | ⟨rfl, hs⟩ | ⟨rfl, hs⟩
    · have S := Lib.hid (isb_below hs ((Below.refl _ wr).alloc (Nat.le_refl _) (.cells #[.int .i64 2, .int .i64 (-3), .string ⟨#[]⟩, .slice none 0 0, .slice none 0 0, .slice none 0 0] 26)))
      have X := Lib.hid (blk_new wr (.cells #[.int .i64 2, .int .i64 (-3), .string ⟨#[]⟩, .slice none 0 0, .slice none 0 0, .slice none 0 0] 26))
      have q0 : Below B wr (wr.alloc (.cells #[.int .i64 2, .int .i64 (-3), .string ⟨#[]⟩, .slice none 0 0, .slice none 0 0, .slice none 0 0] 26)) := (Below.refl B wr).alloc (by omega) _
      have r0 : KeepT b wr (wr.alloc (.cells #[.int .i64 2, .int .i64 (-3), .string ⟨#[]⟩, .slice none 0 0, .slice none 0 0, .slice none 0 0] 26)) := KeepT.of_below ((Below.refl _ wr).alloc (Nat.le_refl _) _)
      clear hs
      go_wp2_with fail
      refine (ws_any B b out0 _ _ S.out (by rw [out0_len]; simp [ByteArray.size]) (by simp; omega)).mono ?_
      rintro e w2 ⟨rfl, h2, hb2, hk2⟩
      have H2 := Lib.hid h2
      have X2 := hk2 _ _ _ (by decide) (by omega) X.out
      have f0 : w2.cell? ⟨wr.heap.size, 0, none⟩ = some (.int .i64 2) := blk_cell X2 0
      have f1 : w2.cell? ⟨wr.heap.size, 1, none⟩ = some (.int .i64 (-3)) := blk_cell X2 1
      have f2 : w2.cell? ⟨wr.heap.size, 2, none⟩ = some (.string ⟨#[]⟩) := blk_cell X2 2
      have f3 : w2.cell? ⟨wr.heap.size, 3, none⟩ = some (.slice none 0 0) := blk_cell X2 3
      have f4 : w2.cell? ⟨wr.heap.size, 4, none⟩ = some (.slice none 0 0) := blk_cell X2 4
      have f5 : w2.cell? ⟨wr.heap.size, 5, none⟩ = some (.slice none 0 0) := blk_cell X2 5
      have hz2 : wr.heap.size < w2.heap.size := blk_lt X2
      clear h2 X2
      go_wp2_with fail
      refine (closed_neg B b _ (-3) _ (.inr H2.out) (by simp [out0_len, Lib.strCells_length, ByteArray.size]) (by omega) (by omega) (by omega) (by omega) (by rw [t_m3]; simp)).mono ?_
      rintro e w3 ⟨rfl, h3, hb3, hk3⟩
      have H3 := Lib.hid h3
      clear h3
      go_wp2
      go_roundw
      case rel => exact ⟨.inr (.inl ⟨rfl, H3.out⟩), ((hb.trans q0).trans hb2).trans hb3, ((hk.trans r0).trans hk2).trans hk3, by have := hb3.size; omega⟩
      case measure => simp [intOf]
    · have S := Lib.hid (isb_below hs ((Below.refl _ wr).alloc (Nat.le_refl _) (.cells #[.int .i64 3, .int .i64 0, .string ⟨#[]⟩, .slice none 0 0, .slice none 0 0, .slice none 0 0] 26)))
      have X := Lib.hid (blk_new wr (.cells #[.int .i64 3, .int .i64 0, .string ⟨#[]⟩, .slice none 0 0, .slice none 0 0, .slice none 0 0] 26))
      have q0 : Below B wr (wr.alloc (.cells #[.int .i64 3, .int .i64 0, .string ⟨#[]⟩, .slice none 0 0, .slice none 0 0, .slice none 0 0] 26)) := (Below.refl B wr).alloc (by omega) _
      have r0 : KeepT b wr (wr.alloc (.cells #[.int .i64 3, .int .i64 0, .string ⟨#[]⟩, .slice none 0 0, .slice none 0 0, .slice none 0 0] 26)) := KeepT.of_below ((Below.refl _ wr).alloc (Nat.le_refl _) _)
      clear hs
      go_wp2_with fail
      refine (ws_any B b out1 _ _ S.out (by rw [out1_len]; simp [ByteArray.size]) (by simp; omega)).mono ?_
      rintro e w2 ⟨rfl, h2, hb2, hk2⟩
      have H2 := Lib.hid h2
      have X2 := hk2 _ _ _ (by decide) (by omega) X.out
      have f0 : w2.cell? ⟨wr.heap.size, 0, none⟩ = some (.int .i64 3) := blk_cell X2 0
      have f1 : w2.cell? ⟨wr.heap.size, 1, none⟩ = some (.int .i64 0) := blk_cell X2 1
      have f2 : w2.cell? ⟨wr.heap.size, 2, none⟩ = some (.string ⟨#[]⟩) := blk_cell X2 2
      have f3 : w2.cell? ⟨wr.heap.size, 3, none⟩ = some (.slice none 0 0) := blk_cell X2 3
      have f4 : w2.cell? ⟨wr.heap.size, 4, none⟩ = some (.slice none 0 0) := blk_cell X2 4
      have f5 : w2.cell? ⟨wr.heap.size, 5, none⟩ = some (.slice none 0 0) := blk_cell X2 5
      have hz2 : wr.heap.size < w2.heap.size := blk_lt X2
      clear h2 X2
      go_wp2_with fail
      refine (closed_lam B b _ 0 _ (.inr H2.out) (by simp [out1_len, Lib.strCells_length, ByteArray.size]) (by omega)).mono ?_
      rintro e w3 ⟨rfl, h3, hb3, hk3⟩
      have H3 := Lib.hid h3
      clear h3
      go_wp2
      go_roundw
      case rel => exact ⟨.inr (.inr ⟨rfl, H3.out⟩), ((hb.trans q0).trans hb2).trans hb3, ((hk.trans r0).trans hk2).trans hk3, by have := hb3.size; omega⟩
      case measure => simp [intOf]
    · have S := Lib.hid hs
      clear hs
      go_wp2
      go_ret
      exact ⟨rfl, S.out, hb, hk⟩

set_option maxRecDepth 100000 in
set_option maxHeartbeats 1000000 in
theorem Text_K (g : Nat) (w : World) (hg : w.heap[g]? = some (.cells kidsK 26 (0, 0))) :
    Calls Try.prog 25 #[.agg #[.int .i64 7, .int .i64 0, .string ⟨#[75]⟩, .slice none 0 0, .slice none 0 0, .slice (some ⟨g, 0, none⟩) 2 2]] w fun e w' => e = .returned (.string ⟨#[75, 32, 40, 45, 51, 41, 32, 102, 117, 110]⟩) ∧ Below w.heap.size w w' := by
  have HG := Lib.hid hg
  have hlt := blk_lt hg
  clear hg
  go_enter Try.func25, Try.ntmps25
  go_wp2_with fail
  have hF := Lib.fresh_isBuilder 74 5 (w.alloc (.cells #[.int .i64 7, .int .i64 0, .string ⟨#[75]⟩, .slice none 0 0, .slice none 0 0, .slice (some ⟨g, 0, none⟩) 2 2] 26))
  rw [World.size_alloc] at hF
  have HF := Lib.hid hF
  clear hF
  refine (text_K (w.heap.size + 1) (w.heap.size + 1) g _ HF.out (by simp) (by simp) (by omega) (blk_alloc (blk_alloc HG.out _) _)).mono ?_
  rintro e w1 ⟨rfl, h1, hb1, hk1⟩
  rw [out2_eq] at h1
  have H1 := Lib.hid h1
  clear h1
  go_wp2_with fail
  refine (bstr_any (w.heap.size + 1) (w.heap.size + 1) _ _ H1.out (by simp)).mono ?_
  rintro e w2 ⟨rfl, hb2⟩
  go_wp2
  go_ret
  exact ⟨rfl, ((((Below.refl _ w).alloc (Nat.le_refl _) _).alloc (by simp) _).trans (hb1.mono (by simp))).trans (hb2.mono (by simp))⟩
end Go.Proofs.Ytipeggpolnnpmaa
