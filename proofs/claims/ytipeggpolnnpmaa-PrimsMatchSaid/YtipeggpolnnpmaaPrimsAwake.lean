/-
  The walk of layer 35's awake.
-/
import Derived.Test.YtipeggpolnnpmaaPrimsDoW
import Derived.Test.YtipeggpolnnpmaaPrimsIs
import Derived.Test.YtipeggpolnnpmaaPrimsTextK
import Derived.Test.YtipeggpolnnpmaaPrimsMatchC
namespace Go.Proofs.Ytipeggpolnnpmaa
open Go.RowKit
set_option linter.unusedVariables false

theorem w64_m3 : wrap64 (2 - 5) = -3 := by unfold wrap64; omega
theorem kept {B : Nat} {w w' : World} (hb : Below B w w') {g : Nat} {o : Obj} (h : w.heap[g]? = some o) (hg : g < B) : w'.heap[g]? = some o := (hb.block g hg).trans h

theorem tm_leaf (w : World) (B : Nat) (k n : Int) (s : ByteArray) : TmAt w B (.mk k n s [] [] []) #[.int .i64 k, .int .i64 n, .string s, .slice none 0 0, .slice none 0 0, .slice none 0 0] := by
  unfold TmAt
  exact ⟨none, 0, none, 0, none, 0, rfl, Nat.zero_le _, Nat.zero_le _, Nat.zero_le _, fun i h => by simp at h, by unfold TysAt; trivial, by unfold TmsAt; trivial⟩
theorem tms_two (w : World) (B g : Nat) (hg : g < B) (k n : Int) (s : ByteArray) (k' n' : Int) (s' : ByteArray) (t : TypeId)
    (h : w.heap[g]? = some (.cells #[.int .i64 k, .int .i64 n, .string s, .slice none 0 0, .slice none 0 0, .slice none 0 0, .int .i64 k', .int .i64 n', .string s', .slice none 0 0, .slice none 0 0, .slice none 0 0] t (0, 0))) :
    TmsAt w B [.mk k n s [] [] [], .mk k' n' s' [] [] []] (some ⟨g, 0, none⟩) := by
  have hc := fun i => blk_cell h i
  unfold TmsAt
  refine ⟨⟨g, 0, none⟩, _, _, _, _, _, _, rfl, hg, hc 0, hc 1, hc 2, hc 3, hc 4, hc 5, tm_leaf w B k n s, ?_⟩
  unfold TmsAt
  refine ⟨_, _, _, _, _, _, _, rfl, hg, hc 6, hc 7, hc 8, hc 9, hc 10, hc 11, tm_leaf w B k' n' s', ?_⟩
  unfold TmsAt; trivial
theorem tm_two (w : World) (B : Nat) (k n : Int) (s : ByteArray) (a b : Tm) (A : Option Addr) (c : Nat) (h : TmsAt w B [a, b] A) : TmAt w B (.mk k n s [] [] [a, b]) #[.int .i64 k, .int .i64 n, .string s, .slice none 0 0, .slice none 0 0, .slice A 2 c] := by
  unfold TmAt
  exact ⟨none, 0, none, 0, A, c, rfl, Nat.zero_le _, Nat.zero_le _, by unfold maxLen; simp, fun i h => by simp at h, by unfold TysAt; trivial, h⟩

theorem match_one (w : World) (g g' : Nat) (h : w.heap[g]? = some (.cells #[.int .i64 21, .int .i64 0, .string ⟨#[120]⟩, .slice none 0 0, .slice none 0 0, .slice none 0 0, .int .i64 22, .int .i64 0, .string ⟨#[]⟩, .slice none 0 0, .slice none 0 0, .slice none 0 0] 26 (0, 0)))
    (h' : w.heap[g']? = some (.cells kidsK 26 (0, 0))) :
    Calls Try.prog 14 #[.agg #[.int .i64 24, .int .i64 0, .string ⟨#[75]⟩, .slice none 0 0, .slice none 0 0, .slice (some ⟨g, 0, none⟩) 2 2], .agg #[.int .i64 7, .int .i64 0, .string ⟨#[75]⟩, .slice none 0 0, .slice none 0 0, .slice (some ⟨g', 0, none⟩) 2 2]] w fun e w' => (∃ A c, e = .returned (.tuple #[.slice A 1 c, .bool true])) ∧ Below w.heap.size w w' := by
  have hm : matchT (.mk 24 0 ⟨#[75]⟩ [] [] [.mk 21 0 ⟨#[120]⟩ [] [] [], .mk 22 0 ⟨#[]⟩ [] [] []]) (.mk 7 0 ⟨#[75]⟩ [] [] [.mk 2 (-3) ⟨#[]⟩ [] [] [], .mk 3 0 ⟨#[]⟩ [] [] []]) = some [.mk 2 (-3) ⟨#[]⟩ [] [] []] := by
    simp [matchT, matchTs, Tm.kind, Tm.name, Tm.kids]
  refine (Match_any _ _ w w.heap.size _ _ (tm_two w _ 24 0 ⟨#[75]⟩ _ _ _ 2 (tms_two w _ g (blk_lt h) 21 0 ⟨#[120]⟩ 22 0 ⟨#[]⟩ _ h)) (tm_two w _ 7 0 ⟨#[75]⟩ _ _ _ 2 (tms_two w _ g' (blk_lt h') 2 (-3) ⟨#[]⟩ 3 0 ⟨#[]⟩ _ h')) (by simp [tsize, tsizes]) (Nat.le_refl _)).mono ?_
  rintro e w' ⟨hb, ⟨hn, _⟩ | ⟨ms, css, v, hs, rfl, ho, _⟩⟩
  · rw [hm] at hn; cases hn
  · rw [hm] at hs
    cases hs
    refine ⟨?_, hb⟩
    rcases ho.2 with ⟨_, h0⟩ | ⟨g, cap, cur, rfl, _⟩
    · simp at h0
    · exact ⟨_, _, rfl⟩
theorem match_two (w : World) :
    Calls Try.prog 14 #[.agg #[.int .i64 23, .int .i64 0, .string ⟨#[]⟩, .slice none 0 0, .slice none 0 0, .slice none 0 0], .agg #[.int .i64 2, .int .i64 (-3), .string ⟨#[]⟩, .slice none 0 0, .slice none 0 0, .slice none 0 0]] w fun e w' => e = .returned (.tuple #[.slice none 0 0, .bool false]) ∧ Below w.heap.size w w' := by
  have hm : matchT (.mk 23 0 ⟨#[]⟩ [] [] []) (.mk 2 (-3) ⟨#[]⟩ [] [] []) = none := by
    simp [matchT, Tm.kind, Tm.num]
  refine (Match_any _ _ w w.heap.size _ _ (tm_leaf w _ 23 0 ⟨#[]⟩) (tm_leaf w _ 2 (-3) ⟨#[]⟩) (by simp [tsize, tsizes]) (Nat.le_refl _)).mono ?_
  rintro e w' ⟨hb, ⟨_, rfl⟩ | ⟨ms, css, v, hs, _⟩⟩
  · exact ⟨rfl, hb⟩
  · rw [hm] at hs; cases hs

set_option maxRecDepth 100000 in
set_option maxHeartbeats 2000000 in
theorem awake35 (w : World) : Calls Try.prog 11 #[] w fun e w' => e = .returned (.bool true) ∧ Below w.heap.size w w' := by
  go_enter Try.func11, Try.ntmps11
  go_wp2_with fail
  refine (do_quot_zero 7 _).mono ?_
  rintro e w1 ⟨rfl, hb1⟩
  go_wp2_with fail
  refine (do_sub 2 5 _).mono ?_
  rintro e w2 ⟨rfl, hb2⟩
  rw [w64_m3]
  have hz2 : w.heap.size ≤ w2.heap.size := by have h1 := hb1.size; have h2 := hb2.size; simp at h2; omega
  go_wp2_with fail
  refine (do_ltInt_yes 2 5 _ (by omega)).mono ?_
  rintro e w3 ⟨rfl, hb3⟩
  have X3 := kept hb3 (blk_new w2 _) (by simp)
  have hz3 : w2.heap.size + 1 ≤ w3.heap.size := by have := hb3.size; simpa using this
  have HX3 := Lib.hid X3
  clear X3
  go_wp2_with fail
  refine (do_none ⟨#[120]⟩ 1 1 _ (by decide +kernel) (by decide +kernel) (by decide +kernel) (by decide +kernel) (by decide +kernel) (by decide +kernel) (by decide +kernel)).mono ?_
  rintro e w4 ⟨rfl, hb4⟩
  have X5 := kept hb4 (blk_new w3 _) (by simp)
  have X4 := kept hb4 (blk_alloc HX3.out _) (by simp; omega)
  have hz4 : w3.heap.size + 1 ≤ w4.heap.size := by have := hb4.size; simpa using this
  have a0 : w4.cell? ⟨w2.heap.size, 0, none⟩ = some (.int .i64 2) := blk_cell X4 0
  have a1 : w4.cell? ⟨w2.heap.size, 1, none⟩ = some (.int .i64 (-3)) := blk_cell X4 1
  have a2 : w4.cell? ⟨w2.heap.size, 2, none⟩ = some (.string ⟨#[]⟩) := blk_cell X4 2
  have a3 : w4.cell? ⟨w2.heap.size, 3, none⟩ = some (.slice none 0 0) := blk_cell X4 3
  have a4 : w4.cell? ⟨w2.heap.size, 4, none⟩ = some (.slice none 0 0) := blk_cell X4 4
  have a5 : w4.cell? ⟨w2.heap.size, 5, none⟩ = some (.slice none 0 0) := blk_cell X4 5
  have HX4 := Lib.hid X4
  have HX5 := Lib.hid X5
  clear X4 X5
  have n1 : w4.heap.size ≠ w2.heap.size := by omega
  have n2 : w2.heap.size < w4.heap.size := by omega
  go_wp2_with fail
  have G := blk_alloc (blk_alloc (blk_new (w4.alloc (.cells #[.int .i64 0, .int .i64 0, .string ⟨#[]⟩, .slice none 0 0, .slice none 0 0, .slice none 0 0] 26)) (.cells kidsK 26)) (.cells #[.int .i64 7, .int .i64 0, .string ⟨#[75]⟩, .slice none 0 0, .slice none 0 0, .slice (some ⟨w4.heap.size + 1, 0, none⟩) 2 2] 26)) (.cells #[.int .i64 21, .int .i64 0, .string ⟨#[120]⟩, .slice none 0 0, .slice none 0 0, .slice none 0 0, .int .i64 22, .int .i64 0, .string ⟨#[]⟩, .slice none 0 0, .slice none 0 0, .slice none 0 0] 26)
  have V := blk_alloc (blk_new ((w4.alloc (.cells #[.int .i64 0, .int .i64 0, .string ⟨#[]⟩, .slice none 0 0, .slice none 0 0, .slice none 0 0] 26)).alloc (.cells kidsK 26)) (.cells #[.int .i64 7, .int .i64 0, .string ⟨#[75]⟩, .slice none 0 0, .slice none 0 0, .slice (some ⟨w4.heap.size + 1, 0, none⟩) 2 2] 26)) (.cells #[.int .i64 21, .int .i64 0, .string ⟨#[120]⟩, .slice none 0 0, .slice none 0 0, .slice none 0 0, .int .i64 22, .int .i64 0, .string ⟨#[]⟩, .slice none 0 0, .slice none 0 0, .slice none 0 0] 26)
  have P := blk_new (((w4.alloc (.cells #[.int .i64 0, .int .i64 0, .string ⟨#[]⟩, .slice none 0 0, .slice none 0 0, .slice none 0 0] 26)).alloc (.cells kidsK 26)).alloc (.cells #[.int .i64 7, .int .i64 0, .string ⟨#[75]⟩, .slice none 0 0, .slice none 0 0, .slice (some ⟨w4.heap.size + 1, 0, none⟩) 2 2] 26)) (.cells #[.int .i64 21, .int .i64 0, .string ⟨#[120]⟩, .slice none 0 0, .slice none 0 0, .slice none 0 0, .int .i64 22, .int .i64 0, .string ⟨#[]⟩, .slice none 0 0, .slice none 0 0, .slice none 0 0] 26)
  have S4 := blk_alloc (blk_alloc (blk_alloc (blk_alloc HX4.out (.cells #[.int .i64 0, .int .i64 0, .string ⟨#[]⟩, .slice none 0 0, .slice none 0 0, .slice none 0 0] 26)) (.cells kidsK 26)) (.cells #[.int .i64 7, .int .i64 0, .string ⟨#[75]⟩, .slice none 0 0, .slice none 0 0, .slice (some ⟨w4.heap.size + 1, 0, none⟩) 2 2] 26)) (.cells #[.int .i64 21, .int .i64 0, .string ⟨#[120]⟩, .slice none 0 0, .slice none 0 0, .slice none 0 0, .int .i64 22, .int .i64 0, .string ⟨#[]⟩, .slice none 0 0, .slice none 0 0, .slice none 0 0] 26)
  have S5 := blk_alloc (blk_alloc (blk_alloc (blk_alloc HX5.out (.cells #[.int .i64 0, .int .i64 0, .string ⟨#[]⟩, .slice none 0 0, .slice none 0 0, .slice none 0 0] 26)) (.cells kidsK 26)) (.cells #[.int .i64 7, .int .i64 0, .string ⟨#[75]⟩, .slice none 0 0, .slice none 0 0, .slice (some ⟨w4.heap.size + 1, 0, none⟩) 2 2] 26)) (.cells #[.int .i64 21, .int .i64 0, .string ⟨#[120]⟩, .slice none 0 0, .slice none 0 0, .slice none 0 0, .int .i64 22, .int .i64 0, .string ⟨#[]⟩, .slice none 0 0, .slice none 0 0, .slice none 0 0] 26)
  simp only [World.size_alloc] at G V P
  have hB4 : Below w.heap.size w w4 := by
    have e1 : Below w.heap.size w w2 := (hb1.alloc hb1.size _).trans (hb2.mono (by have := hb1.size; simp; omega))
    have e2 : Below w.heap.size w w3 := (e1.alloc e1.size _).trans (hb3.mono (by simp; omega))
    exact (e2.alloc e2.size _).trans (hb4.mono (by simp; omega))
  have hBW := (((hB4.alloc hB4.size (.cells #[.int .i64 0, .int .i64 0, .string ⟨#[]⟩, .slice none 0 0, .slice none 0 0, .slice none 0 0] 26)).alloc (by simp; omega) (.cells kidsK 26)).alloc (by simp; omega) (.cells #[.int .i64 7, .int .i64 0, .string ⟨#[75]⟩, .slice none 0 0, .slice none 0 0, .slice (some ⟨w4.heap.size + 1, 0, none⟩) 2 2] 26)).alloc (by simp; omega) (.cells #[.int .i64 21, .int .i64 0, .string ⟨#[120]⟩, .slice none 0 0, .slice none 0 0, .slice none 0 0, .int .i64 22, .int .i64 0, .string ⟨#[]⟩, .slice none 0 0, .slice none 0 0, .slice none 0 0] 26)
  refine (match_one _ _ _ P G).mono ?_
  rintro e w5 ⟨⟨A5, c5, rfl⟩, hb5⟩
  have G5 := Lib.hid (kept hb5 G (blk_lt G))
  have V5 := Lib.hid (kept hb5 V (blk_lt V))
  have S45 := Lib.hid (kept hb5 S4 (blk_lt S4))
  have S55 := Lib.hid (kept hb5 S5 (blk_lt S5))
  have hB5 : Below w.heap.size w w5 := hBW.trans (hb5.mono hBW.size)
  have x0 : w5.cell? ⟨w2.heap.size, 0, none⟩ = some (.int .i64 2) := blk_cell S45.out 0
  have x1 : w5.cell? ⟨w2.heap.size, 1, none⟩ = some (.int .i64 (-3)) := blk_cell S45.out 1
  have x2 : w5.cell? ⟨w2.heap.size, 2, none⟩ = some (.string ⟨#[]⟩) := blk_cell S45.out 2
  have x3 : w5.cell? ⟨w2.heap.size, 3, none⟩ = some (.slice none 0 0) := blk_cell S45.out 3
  have x4 : w5.cell? ⟨w2.heap.size, 4, none⟩ = some (.slice none 0 0) := blk_cell S45.out 4
  have x5 : w5.cell? ⟨w2.heap.size, 5, none⟩ = some (.slice none 0 0) := blk_cell S45.out 5
  clear G V P S4 S5 hBW hb1 hb2 hb3 hb4 hb5 a0 a1 a2 a3 a4 a5 HX3 HX4 HX5
  go_wp2_with fail
  refine (match_two _).mono ?_
  rintro e w6 ⟨rfl, hb6⟩
  have G6 := Lib.hid (kept hb6 G5.out (blk_lt G5.out))
  have V6 := kept hb6 V5.out (blk_lt V5.out)
  have S46 := kept hb6 S45.out (blk_lt S45.out)
  have S56 := kept hb6 S55.out (blk_lt S55.out)
  have hB6 : Below w.heap.size w w6 := hB5.trans (hb6.mono hB5.size)
  have y1 : w6.cell? ⟨w2.heap.size, 1, none⟩ = some (.int .i64 (-3)) := blk_cell S46 1
  have y2 : w6.cell? ⟨w3.heap.size, 2, none⟩ = some (.string ⟨#[84, 114, 117, 101]⟩) := blk_cell S56 2
  have v0 : w6.cell? ⟨w4.heap.size + 1 + 1, 0, none⟩ = some (.int .i64 7) := blk_cell V6 0
  have v1 : w6.cell? ⟨w4.heap.size + 1 + 1, 1, none⟩ = some (.int .i64 0) := blk_cell V6 1
  have v2 : w6.cell? ⟨w4.heap.size + 1 + 1, 2, none⟩ = some (.string ⟨#[75]⟩) := blk_cell V6 2
  have v3 : w6.cell? ⟨w4.heap.size + 1 + 1, 3, none⟩ = some (.slice none 0 0) := blk_cell V6 3
  have v4 : w6.cell? ⟨w4.heap.size + 1 + 1, 4, none⟩ = some (.slice none 0 0) := blk_cell V6 4
  have v5 : w6.cell? ⟨w4.heap.size + 1 + 1, 5, none⟩ = some (.slice (some ⟨w4.heap.size + 1, 0, none⟩) 2 2) := blk_cell V6 5
  clear V6 S46 S56 G5 V5 S45 S55 hb6 x0 x1 x2 x3 x4 x5
  go_wp2_with fail
  refine (Text_K _ _ G6.out).mono ?_
  rintro e w7 ⟨rfl, hb7⟩
  go_wp2_with fail
  refine (is_of _ true _ (prim_rem _)).mono ?_
  rintro e w8 ⟨rfl, hb8⟩
  go_wp2_with fail
  refine (is_of _ false _ (prim_none ⟨#[120]⟩ _ (by decide +kernel) (by decide +kernel) (by decide +kernel) (by decide +kernel) (by decide +kernel) (by decide +kernel) (by decide +kernel))).mono ?_
  rintro e w9 ⟨rfl, hb9⟩
  go_wp2
  go_ret
  have hB7 := hB6.trans (hb7.mono hB6.size)
  have hB8 := hB7.trans (hb8.mono hB7.size)
  exact ⟨rfl, hB8.trans (hb9.mono hB8.size)⟩
end Go.Proofs.Ytipeggpolnnpmaa
