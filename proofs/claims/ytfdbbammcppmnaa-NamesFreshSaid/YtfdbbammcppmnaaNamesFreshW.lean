/-
  The walks of layer 3: names that are there, fresh names.
-/
import Derived.Test.YtfdbbammcppmnaaNamesNumber
namespace Go.Proofs.Ytfdbbammcppmnaa
open Go.RowKit
set_option linter.unusedVariables false

/-- A slice of texts below a block. -/
def SlS (w : World) (B : Nat) (A : Option Addr) (ss : List ByteArray) : Prop := ∀ i (h : i < ss.length), ∃ ad, A = some ad ∧ ad.block < B ∧ w.cell? (ad.add i) = some (.string ss[i])
theorem blk_add (a : Addr) (n : Nat) : (a.add n).block = a.block := by unfold Addr.add; split <;> rfl
theorem SlS.below {w w' : World} {B : Nat} {A : Option Addr} {ss : List ByteArray} (h : SlS w B A ss) (hb : Below B w w') : SlS w' B A ss := by
  intro i hi
  obtain ⟨ad, e, hl, hc⟩ := h i hi
  exact ⟨ad, e, hl, (hb.cell (by rw [blk_add]; exact hl)).trans hc⟩

/-- Is a text among others? -/
def hasB (ss : List ByteArray) (l : List UInt8) : Bool := (ss.map fun x => x.data.toList).contains l
theorem has_yes (ss : List ByteArray) (l : List UInt8) (k : Nat) (h : k < ss.length) (e : ss[k].data.toList = l) : hasB ss l = true := by
  unfold hasB; simp only [List.contains_iff_mem, List.mem_map]; exact ⟨ss[k], List.getElem_mem h, e⟩
theorem has_no (ss : List ByteArray) (l : List UInt8) (h : ∀ j (hj : j < ss.length), ss[j].data.toList ≠ l) : hasB ss l = false := by
  unfold hasB
  rw [Bool.eq_false_iff]; intro e
  simp only [List.contains_iff_mem, List.mem_map] at e
  obtain ⟨x, hx, rfl⟩ := e
  obtain ⟨j, hj, rfl⟩ := List.getElem_of_mem hx
  exact h j hj rfl
theorem str_eqs (a b : ByteArray) (h : a.data.toList = b.data.toList) : (a.toList == b.toList) = true ∧ (b.toList == a.toList) = true := by
  rw [ByteArray.toList_eq, ByteArray.toList_eq, h]; simp
theorem str_nes (a b : ByteArray) (h : ¬ a.data.toList = b.data.toList) : (a.toList == b.toList) = false ∧ (b.toList == a.toList) = false := by
  rw [ByteArray.toList_eq, ByteArray.toList_eq]; exact ⟨beq_eq_false_iff_ne.2 h, beq_eq_false_iff_ne.2 (fun e => h e.symm)⟩

def IdxPost (ss : List ByteArray) (l : List UInt8) (w : World) (e : Ending) (w' : World) : Prop := ∃ r : Int, e = .returned (.int .i64 r) ∧ (0 ≤ r ↔ hasB ss l = true) ∧ -1 ≤ r ∧ w = w'

set_option maxRecDepth 100000 in
set_option maxHeartbeats 400000 in
theorem index_any (A : Option Addr) (B c : Nat) (ss : List ByteArray) (s : ByteArray) (w : World) (hl : ss.length ≤ maxLen) (h : SlS w B A ss) :
    Calls Try.prog 35 #[.slice A ss.length c, .string s] w (IdxPost ss s.data.toList w) := by
  have H := Lib.hid h
  have HY := Lib.hid (has_yes ss s.data.toList)
  have HN := Lib.hid (has_no ss s.data.toList)
  clear h
  unfold maxLen at hl
  go_enter Try.func35, Try.ntmps35
  go_wp2
  go_loop [8] (fun i => ∃ k : Nat, k ≤ ss.length ∧ i = .int .i64 k ∧ ∀ j (hj : j < ss.length), j < k → ss[j].data.toList ≠ s.data.toList) (fun i => ss.length - (intOf i).toNat)
  case atStart => exact ⟨0, Nat.zero_le _, rfl, fun j _ h => by omega⟩
  case round =>
    obtain ⟨k, hk, rfl, hall⟩ := hrel
    have HALL := Lib.hid hall
    clear hall
    by_cases hlt : k < ss.length
    · obtain ⟨ad, rfl, hb, hcell⟩ := H.out k hlt
      by_cases he : ss[k].data.toList = s.data.toList
      · have HE := Lib.hid he
        obtain ⟨g1, g2⟩ := str_eqs _ _ he
        clear he
        go_wp2
        go_ret
        exact ⟨k, rfl, by have := HY.out k hlt HE.out; simp [this], by omega, rfl⟩
      · have HE := Lib.hid he
        obtain ⟨g1, g2⟩ := str_nes _ _ he
        clear he
        go_wp2
        go_round
        case rel => exact ⟨k + 1, by omega, by go_num, fun j hj hjk => by
          by_cases e : j = k
          · subst e; exact HE.out
          · exact HALL.out j hj (by omega)⟩
        case measure => simp [intOf]; omega
    · have HO := Lib.hid (HN.out (fun j hj => HALL.out j hj (by omega)))
      go_wp2
      go_ret
      exact ⟨-1, rfl, by rw [HO.out]; simp, by omega, rfl⟩

set_option maxRecDepth 100000 in
set_option maxHeartbeats 400000 in
theorem contains_any (A : Option Addr) (B c : Nat) (ss : List ByteArray) (s : ByteArray) (w : World) (hl : ss.length ≤ maxLen) (h : SlS w B A ss) :
    Calls Try.prog 32 #[.slice A ss.length c, .string s] w fun e w' => e = .returned (.bool (hasB ss s.data.toList)) ∧ w = w' := by
  have H := Lib.hid (fun W => index_any A B c ss s W hl)
  have HS := Lib.hid h
  clear h
  go_enter Try.func32, Try.ntmps32
  go_wp2_with (go_at_call 35; ((with_reducible refine (H.out _ HS.out).mono ?_); rintro e w' ⟨r, rfl, hr, h1, rfl⟩; have HR := Lib.hid hr; clear hr))
  go_ret
  refine ⟨ret_bool ?_, rfl⟩
  rw [Bool.eq_iff_iff]
  simpa using HR.out

set_option maxRecDepth 100000 in
set_option maxHeartbeats 400000 in
theorem rhas_any (A : Option Addr) (B c : Nat) (ss : List ByteArray) (s : ByteArray) (w : World) (hl : ss.length ≤ maxLen) (h : SlS w B A ss) :
    Calls Try.prog 21 #[.slice A ss.length c, .string s] w fun e w' => e = .returned (.bool (hasB ss s.data.toList)) ∧ w = w' := by
  have H := Lib.hid h
  have HY := Lib.hid (has_yes ss s.data.toList)
  have HN := Lib.hid (has_no ss s.data.toList)
  clear h
  unfold maxLen at hl
  go_enter Try.func21, Try.ntmps21
  go_wp2
  go_loop [5] (fun i => ∃ k : Nat, k ≤ ss.length ∧ i = .int .i64 k ∧ ∀ j (hj : j < ss.length), j < k → ss[j].data.toList ≠ s.data.toList) (fun i => ss.length - (intOf i).toNat)
  case atStart => exact ⟨0, Nat.zero_le _, rfl, fun j _ h => by omega⟩
  case round =>
    obtain ⟨k, hk, rfl, hall⟩ := hrel
    have HALL := Lib.hid hall
    clear hall
    by_cases hlt : k < ss.length
    · obtain ⟨ad, rfl, hb, hcell⟩ := H.out k hlt
      by_cases he : ss[k].data.toList = s.data.toList
      · have HE := Lib.hid he
        obtain ⟨g1, g2⟩ := str_eqs _ _ he
        clear he
        go_wp2
        go_ret
        exact ⟨ret_bool (HY.out k hlt HE.out).symm, rfl⟩
      · have HE := Lib.hid he
        obtain ⟨g1, g2⟩ := str_nes _ _ he
        clear he
        go_wp2
        go_round
        case rel => exact ⟨k + 1, by omega, by go_num, fun j hj hjk => by
          by_cases e : j = k
          · subst e; exact HE.out
          · exact HALL.out j hj (by omega)⟩
        case measure => simp [intOf]; omega
    · have HO := Lib.hid (HN.out (fun j hj => HALL.out j hj (by omega)))
      go_wp2
      go_ret
      exact ⟨ret_bool HO.out.symm, rfl⟩

theorem hasB_mem (ss : List ByteArray) (l : List UInt8) : hasB ss l = true ↔ l ∈ ss.map fun x => x.data.toList := by unfold hasB; simp
theorem bs_add (b : ByteArray) (l : List UInt8) : b ++ bs l = bs (b.data.toList ++ l) := by rw [← bs_append, bs_data]

set_option maxRecDepth 100000 in
set_option maxHeartbeats 400000 in
theorem fresh_any (A : Option Addr) (c : Nat) (ss : List ByteArray) (b : ByteArray) (f : Nat) (w : World) (hl : ss.length ≤ 1000) (hb : b.size ≤ 140737488355328) (h : SlS w w.heap.size A ss) (hf : IsFirst (ss.map fun x => x.data.toList) b.data.toList f) :
    Calls Try.prog 19 #[.slice A ss.length c, .string b] w fun e w' => e = .returned (.string (bs (cand b.data.toList f))) ∧ Below w.heap.size w w' := by
  have HF := Lib.hid hf
  have hf1000 : f ≤ 1000 := by have := hf.1; simp at this; omega
  have HS := Lib.hid h
  clear hf h
  go_enter Try.func19, Try.ntmps19
  go_wp2
  go_loopw [5, 6] (fun v i wr => ∃ k : Nat, k ≤ f ∧ v = .string (bs (cand b.data.toList k)) ∧ i = .int .i64 ((k : Int) + 1) ∧ Below w.heap.size w wr) (fun _ i _ => f + 1 - (intOf i).toNat)
  case atStart => exact ⟨0, Nat.zero_le _, by rw [cand_zero, bs_data], rfl, Below.refl _ _⟩
  case round =>
    obtain ⟨k, hk, rfl, rfl, hb1⟩ := hrel
    have HC := Lib.hid (fun W (hW : SlS W w.heap.size A ss) => contains_any A w.heap.size c ss (bs (cand b.data.toList k)) W (by unfold maxLen; omega) hW)
    have HS1 := Lib.hid (HS.out.below hb1)
    rw [data_bs] at HC
    by_cases hlt : k < f
    · have hh : hasB ss (cand b.data.toList k) = true := (hasB_mem _ _).2 (HF.out.2.2 k hlt)
      have HT := Lib.hid (fun W => text_any ((k : Int) + 1) W (by omega) (by omega))
      have hit : itoa ((k : Int) + 1) = digs (k + 1) := by rw [itoa_digs _ (by omega)]; congr 1
      have hdl := digs_len 20 (k + 1) (by omega) (by omega)
      rw [hit] at HT
      have had := fun W => run_string_add_sum (P := Try.prog) W b (bs (digs (k + 1))) (by rw [bs_size]; omega)
      have HD := Lib.hid (show b ++ bs (digs (k + 1)) = bs (cand b.data.toList (k + 1)) by rw [cand_pos _ _ (by omega), bs_add])
      clear hit
      go_wp2_with (first | (go_at_call 32; ((with_reducible refine (HC.out _ HS1.out).mono ?_); rintro e w' ⟨rfl, rfl⟩)) | (go_at_call 28; ((with_reducible refine (HT.out _).mono ?_); rintro e w2 ⟨rfl, hb2⟩)))
      exact ⟨⟨k + 1, by omega, by rw [HD.out], by go_num, hb1.trans (hb2.mono hb1.size)⟩, by simp [intOf]; omega⟩
    · obtain rfl : k = f := by omega
      have hh : hasB ss (cand b.data.toList k) = false := by
        rw [Bool.eq_false_iff]; intro e; exact HF.out.2.1 ((hasB_mem _ _).1 e)
      go_wp2_with (go_at_call 32; ((with_reducible refine (HC.out _ HS1.out).mono ?_); rintro e w' ⟨rfl, rfl⟩))
      go_ret
      exact ⟨rfl, hb1⟩

set_option maxRecDepth 100000 in
set_option maxHeartbeats 400000 in
theorem rfresh_any (A : Option Addr) (c : Nat) (ss : List ByteArray) (b : ByteArray) (f : Nat) (w : World) (hl : ss.length ≤ 1000) (hb : b.size ≤ 140737488355328) (h : SlS w w.heap.size A ss) (hf : IsFirst (ss.map fun x => x.data.toList) b.data.toList f) :
    Calls Try.prog 20 #[.slice A ss.length c, .string b] w fun e w' => e = .returned (.string (bs (cand b.data.toList f))) ∧ Below w.heap.size w w' := by
  have HF := Lib.hid hf
  have hf1000 : f ≤ 1000 := by have := hf.1; simp at this; omega
  have HS := Lib.hid h
  clear hf h
  go_enter Try.func20, Try.ntmps20
  go_wp2
  go_loopw [5, 6] (fun v i wr => ∃ k : Nat, k ≤ f ∧ v = .string (bs (cand b.data.toList k)) ∧ i = .int .i64 ((k : Int) + 1) ∧ Below w.heap.size w wr) (fun _ i _ => f + 1 - (intOf i).toNat)
  case atStart => exact ⟨0, Nat.zero_le _, by rw [cand_zero, bs_data], rfl, Below.refl _ _⟩
  case round =>
    obtain ⟨k, hk, rfl, rfl, hb1⟩ := hrel
    have HC := Lib.hid (fun W (hW : SlS W w.heap.size A ss) => rhas_any A w.heap.size c ss (bs (cand b.data.toList k)) W (by unfold maxLen; omega) hW)
    have HS1 := Lib.hid (HS.out.below hb1)
    rw [data_bs] at HC
    by_cases hlt : k < f
    · have hh : hasB ss (cand b.data.toList k) = true := (hasB_mem _ _).2 (HF.out.2.2 k hlt)
      have HT := Lib.hid (fun W => rtext_any ((k : Int) + 1) W (by omega) (by omega))
      have hit : itoa ((k : Int) + 1) = digs (k + 1) := by rw [itoa_digs _ (by omega)]; congr 1
      have hdl := digs_len 20 (k + 1) (by omega) (by omega)
      rw [hit] at HT
      have had := fun W => run_string_add_sum (P := Try.prog) W b (bs (digs (k + 1))) (by rw [bs_size]; omega)
      have HD := Lib.hid (show b ++ bs (digs (k + 1)) = bs (cand b.data.toList (k + 1)) by rw [cand_pos _ _ (by omega), bs_add])
      clear hit
      go_wp2_with (first | (go_at_call 21; ((with_reducible refine (HC.out _ HS1.out).mono ?_); rintro e w' ⟨rfl, rfl⟩)) | (go_at_call 29; ((with_reducible refine (HT.out _).mono ?_); rintro e w2 ⟨rfl, hb2⟩)))
      exact ⟨⟨k + 1, by omega, by rw [HD.out], by go_num, hb1.trans (hb2.mono hb1.size)⟩, by simp [intOf]; omega⟩
    · obtain rfl : k = f := by omega
      have hh : hasB ss (cand b.data.toList k) = false := by
        rw [Bool.eq_false_iff]; intro e; exact HF.out.2.1 ((hasB_mem _ _).1 e)
      go_wp2_with (go_at_call 21; ((with_reducible refine (HC.out _ HS1.out).mono ?_); rintro e w' ⟨rfl, rfl⟩))
      go_ret
      exact ⟨rfl, hb1⟩
end Go.Proofs.Ytfdbbammcppmnaa
