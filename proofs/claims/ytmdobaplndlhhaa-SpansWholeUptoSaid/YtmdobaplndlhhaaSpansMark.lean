/-
  The walks of spans.Mark and of the reference's Mark and Ints, and of the statements' own awake.
-/
import Derived.Test.YtmdobaplndlhhaaSpansPlace
import Derived.Laws.Concat
namespace Go.Proofs.Ytmdobaplndlhhaa
open Go.RowKit
set_option linter.unusedVariables false

def spc (j : Nat) : ByteArray := ⟨(List.replicate j (32 : UInt8)).toArray⟩
theorem spc_size (j : Nat) : (spc j).size = j := by simp [spc, ByteArray.size]
theorem add_spc0 (x : ByteArray) : x ++ spc 0 = x := by
  apply ByteArray.ext
  simp [spc, ByteArray.data_append]
theorem spc_succ (j : Nat) : spc (j + 1) = spc j ++ ⟨#[32]⟩ := by
  apply ByteArray.ext
  rw [ByteArray.data_append]
  show (List.replicate (j + 1) (32 : UInt8)).toArray = (List.replicate j (32 : UInt8)).toArray ++ #[32]
  rw [List.replicate_succ']
  apply Array.ext'
  rw [Array.toList_append]
theorem add_spc (x : ByteArray) (j : Nat) : x ++ spc j ++ ⟨#[32]⟩ = x ++ spc (j + 1) := by rw [spc_succ, ByteArray.append_assoc]
theorem rep_spc (c : Nat) : (⟨(Lib.repeatL [32] c).toArray⟩ : ByteArray) = spc c := by
  unfold spc
  congr 2
  induction c with
  | zero => rfl
  | succ c ih => simp [Lib.repeatL, List.replicate_succ] at ih ⊢; exact ih

set_option maxRecDepth 100000 in
set_option maxHeartbeats 1000000 in
theorem ints_same (m ca cb : Nat) (a b : Addr) (f : Nat → Int) (w : World) (hm : m ≤ 1048577) (ha : ∀ k, k < m → w.cell? (a.add k) = some (.int .i64 (f k))) (hb : ∀ k, k < m → w.cell? (b.add k) = some (.int .i64 (f k))) :
    Calls Try.prog 10 #[.slice (some a) m ca, .slice (some b) m cb] w fun e w' => e = .returned (.bool true) ∧ Below w.heap.size w w' := by
  have HA := Lib.hid ha
  have HB := Lib.hid hb
  clear ha hb
  go_enter Try.func10, Try.ntmps10
  go_wp2
  go_loopw [5] (fun i wr => (∃ j : Nat, j ≤ m ∧ i = .int .i64 j) ∧ Below w.heap.size w wr) (fun i _ => m - (intOf i).toNat)
  case atStart => exact ⟨⟨0, Nat.zero_le _, rfl⟩, Below.refl _ _⟩
  case round =>
    obtain ⟨⟨j, hj, rfl⟩, hb⟩ := hrel
    by_cases hlt : j < m
    · have c0 := (hb.cell (World.block_lt_of_cell? w _ (HA.out j hlt))).trans (HA.out j hlt)
      have c1 := (hb.cell (World.block_lt_of_cell? w _ (HB.out j hlt))).trans (HB.out j hlt)
      have b0 : (0 : Int) ≤ (j : Int) := by omega
      have b1 : (j : Int) < (m : Int) := by omega
      generalize f j = F at *
      go_wp2
      go_quiet (fail)
      go_wp2
      go_roundw
      case rel => exact ⟨⟨j + 1, by omega, by go_num⟩, below_drewN hb _⟩
      case measure => simp [intOf]; omega
    · go_wp2
      go_ret
      exact ⟨rfl, hb⟩

/-- A byte's line, and the mark. -/
def markB (s : ByteArray) (i : Nat) : ByteArray := s.extract (ls s i) (fin s s.size (nl s i)) ++ ⟨#[10]⟩ ++ spc (i - ls s i) ++ ⟨#[94]⟩
theorem ext_le (s : ByteArray) (a b : Nat) : (s.extract a b).size ≤ s.size := by rw [ByteArray.size_extract]; omega

set_option maxRecDepth 100000 in
set_option maxHeartbeats 1000000 in
theorem mark_out (s : ByteArray) (i : Int) (w : World) (h : i < 0 ∨ (s.size : Int) < i) :
    Calls Try.prog 16 #[.string s, .int .i64 i] w fun e w' => e = .returned (.tuple #[.string ⟨#[]⟩, .int .i64 1]) ∧ Below w.heap.size w w' := by
  have HP := Lib.hid (fun W => place_out s i W h)
  clear h
  go_enter Try.func16, Try.ntmps16
  go_wp2_with fail
  refine (HP.out _).mono ?_
  rintro e w1 ⟨rfl, hb⟩
  go_wp2
  go_ret2
  exact ⟨rfl, hb⟩
set_option maxRecDepth 100000 in
set_option maxHeartbeats 1000000 in
theorem rmark_out (s : ByteArray) (i : Int) (w : World) (h : i < 0 ∨ (s.size : Int) < i) :
    Calls Try.prog 17 #[.string s, .int .i64 i] w fun e w' => e = .returned (.tuple #[.string ⟨#[]⟩, .int .i64 1]) ∧ Below w.heap.size w w' := by
  have HP := Lib.hid (fun W => rplace_out s i W h)
  clear h
  go_enter Try.func17, Try.ntmps17
  go_wp2_with fail
  refine (HP.out _).mono ?_
  rintro e w1 ⟨rfl, hb⟩
  go_wp2
  go_ret2
  exact ⟨rfl, hb⟩

set_option maxRecDepth 100000 in
set_option maxHeartbeats 1000000 in
theorem mark_in (s : ByteArray) (i : Nat) (w : World) (hs : s.size ≤ 1048576) (hi : i ≤ s.size) :
    Calls Try.prog 16 #[.string s, .int .i64 i] w fun e w' => e = .returned (.tuple #[.string (markB s i), .int .i64 0]) ∧ Below w.heap.size w w' := by
  have HP := Lib.hid (fun W => place_in s i W hs hi)
  have HL := Lib.hid (fun W => line_in s (nl s i) W hs (nl_mono s hi))
  have hls := ls_le s i
  have HPN := Lib.hid (pos_nl s hi)
  rw [HPN.out] at HL
  have HM := Lib.hid (show markB s i = s.extract (ls s i) (fin s s.size (nl s i)) ++ ⟨#[10]⟩ ++ spc (i - ls s i) ++ ⟨#[94]⟩ from rfl)
  have hT := ext_le s (ls s i) (fin s s.size (nl s i))
  have hnl := nl_le s i
  generalize s.extract (ls s i) (fin s s.size (nl s i)) = T at *
  generalize nl s i = N at *
  obtain ⟨c, hc⟩ : ∃ c, i = ls s i + c := ⟨i - ls s i, by omega⟩
  have hcc : i - ls s i = c := by omega
  rw [hcc] at HM
  have hci : (i : Int) - (ls s i : Nat) + 1 = (c : Int) + 1 := by omega
  rw [hci] at HP
  have hcs : c ≤ 1048576 := by omega
  have HR := Lib.hid (fun W => repeat_any ⟨#[32]⟩ c W (by omega) (by show 1 * c ≤ _; omega))
  have hrs : (⟨(Lib.repeatL (⟨#[32]⟩ : ByteArray).data.toList c).toArray⟩ : ByteArray) = spc c := rep_spc c
  rw [hrs] at HR
  have had1 := fun W => run_string_add_sum (P := Try.prog) W T ⟨#[10]⟩ (by show T.size + 1 ≤ _; omega)
  have hz1 : (T ++ (⟨#[10]⟩ : ByteArray)).size = T.size + 1 := by rw [ByteArray.size_append]; rfl
  generalize T ++ (⟨#[10]⟩ : ByteArray) = T1 at *
  have had2 := fun W => run_string_add_sum (P := Try.prog) W T1 (spc c) (by rw [spc_size]; omega)
  have hz2 : (T1 ++ spc c).size = T1.size + c := by rw [ByteArray.size_append, spc_size]
  generalize T1 ++ spc c = T2 at *
  have had3 := fun W => run_string_add_sum (P := Try.prog) W T2 ⟨#[94]⟩ (by show T2.size + 1 ≤ _; omega)
  generalize T2 ++ (⟨#[94]⟩ : ByteArray) = T3 at *
  generalize spc c = R at *
  clear hc hcc hci hrs hz1 hz2 HPN
  go_enter Try.func16, Try.ntmps16
  go_wp2_with fail
  refine (HP.out _).mono ?_
  rintro e w1 ⟨rfl, hb⟩
  go_wp2_with fail
  refine (HL.out _).mono ?_
  rintro e w2 ⟨rfl, hb2⟩
  go_wp2_with fail
  refine (HR.out _).mono ?_
  rintro e w3 ⟨rfl, hb3⟩
  have B2 := hb.trans (hb2.mono hb.size)
  go_wp2
  go_ret2
  exact ⟨by rw [HM.out]; rfl, B2.trans (hb3.mono B2.size)⟩

set_option maxRecDepth 100000 in
set_option maxHeartbeats 1000000 in
theorem rmark_in (s : ByteArray) (i : Nat) (w : World) (hs : s.size ≤ 1048576) (hi : i ≤ s.size) :
    Calls Try.prog 17 #[.string s, .int .i64 i] w fun e w' => e = .returned (.tuple #[.string (markB s i), .int .i64 0]) ∧ Below w.heap.size w w' := by
  have HP := Lib.hid (fun W => rplace_in s i W hs hi)
  have HL := Lib.hid (fun W => rline_in s (nl s i) W hs (nl_mono s hi))
  have hls := ls_le s i
  have HPN := Lib.hid (pos_nl s hi)
  rw [HPN.out] at HL
  have HM := Lib.hid (show markB s i = s.extract (ls s i) (fin s s.size (nl s i)) ++ ⟨#[10]⟩ ++ spc (i - ls s i) ++ ⟨#[94]⟩ from rfl)
  have hT := ext_le s (ls s i) (fin s s.size (nl s i))
  have hnl := nl_le s i
  generalize s.extract (ls s i) (fin s s.size (nl s i)) = T at *
  generalize nl s i = N at *
  obtain ⟨c, hc⟩ : ∃ c, i = ls s i + c := ⟨i - ls s i, by omega⟩
  have hcc : i - ls s i = c := by omega
  rw [hcc] at HM
  have hci : (i : Int) - (ls s i : Nat) + 1 = (c : Int) + 1 := by omega
  rw [hci] at HP
  have hcs : c ≤ 1048576 := by omega
  have had1 := fun W => run_string_add_sum (P := Try.prog) W T ⟨#[10]⟩ (by show T.size + 1 ≤ _; omega)
  have hz1 : (T ++ (⟨#[10]⟩ : ByteArray)).size = T.size + 1 := by rw [ByteArray.size_append]; rfl
  generalize T ++ (⟨#[10]⟩ : ByteArray) = T1 at *
  have HZ := Lib.hid (add_spc0 T1)
  clear hc hcc hci HPN
  go_enter Try.func17, Try.ntmps17
  go_wp2_with fail
  refine (HP.out _).mono ?_
  rintro e w1 ⟨rfl, hb⟩
  go_wp2_with fail
  refine (HL.out _).mono ?_
  rintro e w2 ⟨rfl, hb2⟩
  have B2 := hb.trans (hb2.mono hb.size)
  go_wp2
  go_loop [9, 11] (fun v i => ∃ j : Nat, j ≤ c ∧ v = .string (T1 ++ spc j) ∧ i = .int .i64 ((j : Int) + 1)) (fun _ i => c + 1 - (intOf i).toNat)
  case atStart => exact ⟨0, Nat.zero_le _, by rw [HZ.out], rfl⟩
  case round =>
    obtain ⟨j, hj, rfl, rfl⟩ := hrel
    have hz2 : (T1 ++ spc j).size = T1.size + j := by rw [ByteArray.size_append, spc_size]
    by_cases hlt : j < c
    · have had2 := fun W => run_string_add_sum (P := Try.prog) W (T1 ++ spc j) ⟨#[32]⟩ (by show (T1 ++ spc j).size + 1 ≤ _; omega)
      rw [add_spc] at had2
      generalize hX : T1 ++ spc j = X at *
      clear hX
      generalize hY : T1 ++ spc (j + 1) = Y at *
      have HY := Lib.hid hY
      clear hY
      go_wp2
      go_round
      case rel => exact ⟨j + 1, by omega, by rw [HY.out], by go_num⟩
      case measure => simp [intOf]; omega
    · obtain rfl : j = c := by omega
      have had3 := fun W => run_string_add_sum (P := Try.prog) W (T1 ++ spc j) ⟨#[94]⟩ (by show (T1 ++ spc j).size + 1 ≤ _; omega)
      generalize T1 ++ spc j = X at *
      generalize X ++ (⟨#[94]⟩ : ByteArray) = Y at *
      go_wp2
      go_ret2
      exact ⟨by rw [HM.out]; rfl, B2⟩

abbrev sA : ByteArray := ⟨#[97, 10, 98, 99]⟩
theorem ints_two (g ca : Nat) (w : World) (a : Addr) (hr : RowAt w sA a) (hg : w.heap[g]? = some (.cells #[.int .i64 0, .int .i64 2] 3 (0, 0))) :
    Calls Try.prog 10 #[.slice (some a) 2 ca, .slice (some ⟨g, 0, none⟩) 2 2] w fun e w' => e = .returned (.bool true) ∧ Below w.heap.size w w' := by
  have hn1 : nl sA sA.size = 1 := by decide +kernel
  refine ints_same 2 ca 2 a ⟨g, 0, none⟩ (fun k => (pos sA sA.size k : Int)) w (by omega) (fun k hk => hr k (by omega)) ?_
  intro k hk
  have h0 := blk_cell hg k
  have e : (⟨g, 0, none⟩ : Addr).add k = ⟨g, k, none⟩ := by unfold Addr.add; split <;> simp_all
  rw [e, h0]
  match k, hk with
  | 0, _ => show some (Value.int .i64 0) = _; rw [show pos sA sA.size 0 = 0 by decide +kernel]; rfl
  | 1, _ => show some (Value.int .i64 2) = _; rw [show pos sA sA.size 1 = 2 by decide +kernel]; rfl

theorem aw_place (w : World) : Calls Try.prog 14 #[.string sA, .int .i64 3] w fun e w' => e = .returned (.tuple #[.int .i64 2, .int .i64 2, .int .i64 0]) ∧ Below w.heap.size w w' := by
  have h := place_in sA 3 w (by decide) (by decide)
  rw [show nl sA 3 = 1 by decide +kernel, show ls sA 3 = 2 by decide +kernel] at h
  exact h
theorem aw_offset (w : World) : Calls Try.prog 18 #[.string sA, .int .i64 2, .int .i64 2] w fun e w' => e = .returned (.tuple #[.int .i64 3, .int .i64 0]) ∧ Below w.heap.size w w' := by
  have h := off_in sA 1 1 w (by decide) (by decide +kernel) (by decide +kernel)
  rw [show pos sA sA.size 1 = 2 by decide +kernel] at h
  exact h
theorem aw_line (w : World) : Calls Try.prog 8 #[.string sA, .int .i64 2] w fun e w' => e = .returned (.tuple #[.string ⟨#[98, 99]⟩, .int .i64 0]) ∧ Below w.heap.size w w' := by
  have h := line_in sA 1 w (by decide) (by decide +kernel)
  rw [show sA.extract (pos sA sA.size 1) (fin sA sA.size 1) = ⟨#[98, 99]⟩ by decide +kernel] at h
  exact h
theorem aw_mark (w : World) : Calls Try.prog 16 #[.string sA, .int .i64 3] w fun e w' => e = .returned (.tuple #[.string ⟨#[98, 99, 10, 32, 94]⟩, .int .i64 0]) ∧ Below w.heap.size w w' := by
  have h := mark_in sA 3 w (by decide) (by decide)
  rw [show markB sA 3 = ⟨#[98, 99, 10, 32, 94]⟩ by decide +kernel] at h
  exact h
theorem aw_lines (w : World) : Calls Try.prog 11 #[.string sA] w fun e w' => ∃ a cap, e = .returned (.slice (some a) 2 cap) ∧ RowAt w' sA a ∧ Below w.heap.size w w' := by
  have h := lines_at sA w (by decide)
  rw [show nl sA sA.size = 1 by decide +kernel] at h
  refine h.mono ?_
  rintro e w' ⟨a, cap, rfl, _, _, h3, h4⟩
  exact ⟨a, cap, rfl, h3, h4⟩

set_option maxRecDepth 100000 in
set_option maxHeartbeats 1000000 in
theorem awake01 (w : World) : Calls Try.prog 13 #[] w fun e w' => e = .returned (.bool true) ∧ Below w.heap.size w w' := by
  go_enter Try.func13, Try.ntmps13
  go_wp2_with fail
  refine (aw_place _).mono ?_
  rintro e w1 ⟨rfl, hb1⟩
  go_wp2_with fail
  refine (aw_offset _).mono ?_
  rintro e w2 ⟨rfl, hb2⟩
  have B2 := hb1.trans (hb2.mono hb1.size)
  go_wp2_with fail
  refine (aw_line _).mono ?_
  rintro e w3 ⟨rfl, hb3⟩
  have B3 := B2.trans (hb3.mono B2.size)
  go_wp2_with fail
  refine (aw_mark _).mono ?_
  rintro e w4 ⟨rfl, hb4⟩
  have B4 := B3.trans (hb4.mono B3.size)
  go_wp2_with fail
  refine (place_out ⟨#[97]⟩ 2 _ (by decide)).mono ?_
  rintro e w5 ⟨rfl, hb5⟩
  have B5 := B4.trans (hb5.mono B4.size)
  go_wp2_with fail
  refine (aw_lines _).mono ?_
  rintro e w6 ⟨a, cap, rfl, hr, hb6⟩
  have B6 := B5.trans (hb6.mono B5.size)
  have HR := Lib.hid hr
  clear hr
  go_wp2_with fail
  have hn := (Below.refl w6.heap.size w6).alloc (Nat.le_refl _) (.cells #[.int .i64 0, .int .i64 2] 3)
  refine (ints_two w6.heap.size cap _ a (fun k hk => (hn.cell (World.block_lt_of_cell? w6 _ (HR.out k hk))).trans (HR.out k hk)) (blk_new w6 _)).mono ?_
  rintro e w7 ⟨rfl, hb7⟩
  have B7 := (B6.alloc B6.size (.cells #[.int .i64 0, .int .i64 2] 3)).trans (hb7.mono (by have := B6.size; simp; omega))
  go_wp2
  go_ret
  exact ⟨rfl, B7⟩
end Go.Proofs.Ytmdobaplndlhhaa
