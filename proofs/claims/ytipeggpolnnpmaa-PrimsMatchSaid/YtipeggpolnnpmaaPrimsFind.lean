/-
  The walks of layer 35: what a name does with two numbers.
-/
import Derived.Test.YtipeggpolnnpmaaPrimsInts
import Derived.Laws.EntriesVeiled
namespace Go.Proofs.Ytipeggpolnnpmaa
open Go.RowKit
set_option linter.unusedVariables false

theorem ret_tm {k k' n n' h h' : Int} {s s' : ByteArray} (e1 : k = k') (e2 : n = n') (e3 : s = s') (e4 : h = h') : Ending.returned (.tuple #[.agg #[.int .i64 k, .int .i64 n, .string s, .slice none 0 0, .slice none 0 0, .slice none 0 0], .int .i64 h]) = .returned (.tuple #[.agg #[.int .i64 k', .int .i64 n', .string s', .slice none 0 0, .slice none 0 0, .slice none 0 0], .int .i64 h']) := by subst e1 e2 e3 e4; rfl

set_option maxRecDepth 100000 in
set_option maxHeartbeats 400000 in
theorem whole_any (F : FuncId) (w : World) : Calls Try.prog 30 #[.func (Fn.func F) #[] #[]] w fun e w' =>
    e = .returned (.agg #[.func (Fn.func 47) #[] #[.pointer (some ⟨w.heap.size, 0, none⟩)]]) ∧ (w.alloc (.cells #[.func (Fn.func F) #[] #[]] 65)).alloc (.cells #[.func (Fn.func 47) #[] #[.pointer (some ⟨w.heap.size, 0, none⟩)]] 43) = w' := by
  go_enter Try.func30, Try.ntmps30
  go_wp2
  exact bodyPost_ret (v := .agg #[.func (Fn.func 47) #[] #[.pointer (some ⟨w.heap.size, 0, none⟩)]]) (by simp [results, Try.results30, go_sem]) rfl ⟨rfl, rfl⟩

set_option maxRecDepth 100000 in
set_option maxHeartbeats 400000 in
theorem part_any (F : FuncId) (w : World) : Calls Try.prog 34 #[.func (Fn.func F) #[] #[]] w fun e w' =>
    e = .returned (.agg #[.func (Fn.func 48) #[] #[.pointer (some ⟨w.heap.size, 0, none⟩)]]) ∧ (w.alloc (.cells #[.func (Fn.func F) #[] #[]] 50)).alloc (.cells #[.func (Fn.func 48) #[] #[.pointer (some ⟨w.heap.size, 0, none⟩)]] 43) = w' := by
  go_enter Try.func34, Try.ntmps34
  go_wp2
  exact bodyPost_ret (v := .agg #[.func (Fn.func 48) #[] #[.pointer (some ⟨w.heap.size, 0, none⟩)]]) (by simp [results, Try.results34, go_sem]) rfl ⟨rfl, rfl⟩

set_option maxRecDepth 100000 in
set_option maxHeartbeats 400000 in
theorem asks_any (F : FuncId) (w : World) : Calls Try.prog 37 #[.func (Fn.func F) #[] #[]] w fun e w' =>
    e = .returned (.agg #[.func (Fn.func 49) #[] #[.pointer (some ⟨w.heap.size, 0, none⟩)]]) ∧ (w.alloc (.cells #[.func (Fn.func F) #[] #[]] 40)).alloc (.cells #[.func (Fn.func 49) #[] #[.pointer (some ⟨w.heap.size, 0, none⟩)]] 43) = w' := by
  go_enter Try.func37, Try.ntmps37
  go_wp2
  exact bodyPost_ret (v := .agg #[.func (Fn.func 49) #[] #[.pointer (some ⟨w.heap.size, 0, none⟩)]]) (by simp [results, Try.results37, go_sem]) rfl ⟨rfl, rfl⟩

set_option maxRecDepth 100000 in
set_option maxHeartbeats 400000 in
theorem whole1_add (a b : Int) (ad : Addr) (w : World) (hc : w.cell? ad = some (.func (Fn.func 31) #[] #[])) :
    Calls Try.prog 47 #[.int .i64 a, .int .i64 b, .pointer (some ad)] w fun e w' => e = .returned (.tuple #[.agg #[.int .i64 2, .int .i64 (wrap64 (a + b)), .string ⟨#[]⟩, .slice none 0 0, .slice none 0 0, .slice none 0 0], .bool true]) ∧ w.alloc (.cells #[.int .i64 2, .int .i64 (wrap64 (a + b)), .string ⟨#[]⟩, .slice none 0 0, .slice none 0 0, .slice none 0 0] 26) = w' := by
  have ea : w.heap.size ≠ ad.block := Nat.ne_of_gt (World.block_lt_of_cell? w ad hc)
  have eb : ad.block < w.heap.size := World.block_lt_of_cell? w ad hc
  go_enter Try.func47, Try.ntmps47
  go_wp2_with go_in
  exact bodyPost_ret (v := .tuple #[.agg #[.int .i64 2, .int .i64 (wrap64 (a + b)), .string ⟨#[]⟩, .slice none 0 0, .slice none 0 0, .slice none 0 0], .bool true]) (by simp [results, Try.results47, go_sem]) rfl ⟨rfl, rfl⟩

set_option maxRecDepth 100000 in
set_option maxHeartbeats 400000 in
theorem whole1_sub (a b : Int) (ad : Addr) (w : World) (hc : w.cell? ad = some (.func (Fn.func 32) #[] #[])) :
    Calls Try.prog 47 #[.int .i64 a, .int .i64 b, .pointer (some ad)] w fun e w' => e = .returned (.tuple #[.agg #[.int .i64 2, .int .i64 (wrap64 (a - b)), .string ⟨#[]⟩, .slice none 0 0, .slice none 0 0, .slice none 0 0], .bool true]) ∧ w.alloc (.cells #[.int .i64 2, .int .i64 (wrap64 (a - b)), .string ⟨#[]⟩, .slice none 0 0, .slice none 0 0, .slice none 0 0] 26) = w' := by
  have ea : w.heap.size ≠ ad.block := Nat.ne_of_gt (World.block_lt_of_cell? w ad hc)
  have eb : ad.block < w.heap.size := World.block_lt_of_cell? w ad hc
  go_enter Try.func47, Try.ntmps47
  go_wp2_with go_in
  exact bodyPost_ret (v := .tuple #[.agg #[.int .i64 2, .int .i64 (wrap64 (a - b)), .string ⟨#[]⟩, .slice none 0 0, .slice none 0 0, .slice none 0 0], .bool true]) (by simp [results, Try.results47, go_sem]) rfl ⟨rfl, rfl⟩

set_option maxRecDepth 100000 in
set_option maxHeartbeats 400000 in
theorem whole1_mul (a b : Int) (ad : Addr) (w : World) (hc : w.cell? ad = some (.func (Fn.func 33) #[] #[])) :
    Calls Try.prog 47 #[.int .i64 a, .int .i64 b, .pointer (some ad)] w fun e w' => e = .returned (.tuple #[.agg #[.int .i64 2, .int .i64 (wrap64 (a * b)), .string ⟨#[]⟩, .slice none 0 0, .slice none 0 0, .slice none 0 0], .bool true]) ∧ w.alloc (.cells #[.int .i64 2, .int .i64 (wrap64 (a * b)), .string ⟨#[]⟩, .slice none 0 0, .slice none 0 0, .slice none 0 0] 26) = w' := by
  have ea : w.heap.size ≠ ad.block := Nat.ne_of_gt (World.block_lt_of_cell? w ad hc)
  have eb : ad.block < w.heap.size := World.block_lt_of_cell? w ad hc
  go_enter Try.func47, Try.ntmps47
  go_wp2_with go_in
  exact bodyPost_ret (v := .tuple #[.agg #[.int .i64 2, .int .i64 (wrap64 (a * b)), .string ⟨#[]⟩, .slice none 0 0, .slice none 0 0, .slice none 0 0], .bool true]) (by simp [results, Try.results47, go_sem]) rfl ⟨rfl, rfl⟩

set_option maxRecDepth 100000 in
set_option maxHeartbeats 400000 in
theorem part1_quot (a b r : Int) (ok : Bool) (ad : Addr) (w : World) (hc : w.cell? ad = some (.func (Fn.func 35) #[] #[])) (hF : ∀ w, Calls Try.prog 35 #[.int .i64 a, .int .i64 b] w fun e w' => e = .returned (.tuple #[.int .i64 r, .bool ok]) ∧ w = w') :
    Calls Try.prog 48 #[.int .i64 a, .int .i64 b, .pointer (some ad)] w fun e w' => e = .returned (.tuple #[.agg #[.int .i64 2, .int .i64 r, .string ⟨#[]⟩, .slice none 0 0, .slice none 0 0, .slice none 0 0], .bool ok]) ∧ w.alloc (.cells #[.int .i64 2, .int .i64 r, .string ⟨#[]⟩, .slice none 0 0, .slice none 0 0, .slice none 0 0] 26) = w' := by
  have HF := Lib.hid hF
  clear hF
  have ea : w.heap.size ≠ ad.block := Nat.ne_of_gt (World.block_lt_of_cell? w ad hc)
  have eb : ad.block < w.heap.size := World.block_lt_of_cell? w ad hc
  go_enter Try.func48, Try.ntmps48
  go_wp2_with (go_at_call 35; ((with_reducible refine (HF.out _).mono ?_); rintro e w' ⟨rfl, rfl⟩))
  exact bodyPost_ret (v := .tuple #[.agg #[.int .i64 2, .int .i64 r, .string ⟨#[]⟩, .slice none 0 0, .slice none 0 0, .slice none 0 0], .bool ok]) (by simp [results, Try.results48, go_sem]) rfl ⟨rfl, rfl⟩

set_option maxRecDepth 100000 in
set_option maxHeartbeats 400000 in
theorem part1_rem (a b r : Int) (ok : Bool) (ad : Addr) (w : World) (hc : w.cell? ad = some (.func (Fn.func 36) #[] #[])) (hF : ∀ w, Calls Try.prog 36 #[.int .i64 a, .int .i64 b] w fun e w' => e = .returned (.tuple #[.int .i64 r, .bool ok]) ∧ w = w') :
    Calls Try.prog 48 #[.int .i64 a, .int .i64 b, .pointer (some ad)] w fun e w' => e = .returned (.tuple #[.agg #[.int .i64 2, .int .i64 r, .string ⟨#[]⟩, .slice none 0 0, .slice none 0 0, .slice none 0 0], .bool ok]) ∧ w.alloc (.cells #[.int .i64 2, .int .i64 r, .string ⟨#[]⟩, .slice none 0 0, .slice none 0 0, .slice none 0 0] 26) = w' := by
  have HF := Lib.hid hF
  clear hF
  have ea : w.heap.size ≠ ad.block := Nat.ne_of_gt (World.block_lt_of_cell? w ad hc)
  have eb : ad.block < w.heap.size := World.block_lt_of_cell? w ad hc
  go_enter Try.func48, Try.ntmps48
  go_wp2_with (go_at_call 36; ((with_reducible refine (HF.out _).mono ?_); rintro e w' ⟨rfl, rfl⟩))
  exact bodyPost_ret (v := .tuple #[.agg #[.int .i64 2, .int .i64 r, .string ⟨#[]⟩, .slice none 0 0, .slice none 0 0, .slice none 0 0], .bool ok]) (by simp [results, Try.results48, go_sem]) rfl ⟨rfl, rfl⟩

set_option maxRecDepth 100000 in
set_option maxHeartbeats 400000 in
theorem asks1_eq_yes (a b : Int) (ad : Addr) (w : World) (h : a = b) (hc : w.cell? ad = some (.func (Fn.func 38) #[] #[])) :
    Calls Try.prog 49 #[.int .i64 a, .int .i64 b, .pointer (some ad)] w fun e w' => e = .returned (.tuple #[.agg #[.int .i64 7, .int .i64 0, .string ⟨#[84, 114, 117, 101]⟩, .slice none 0 0, .slice none 0 0, .slice none 0 0], .bool true]) ∧ (w.alloc (.cells #[.int .i64 7, .int .i64 0, .string ⟨#[84, 114, 117, 101]⟩, .slice none 0 0, .slice none 0 0, .slice none 0 0] 26)).alloc (.cells #[.int .i64 7, .int .i64 0, .string ⟨#[84, 114, 117, 101]⟩, .slice none 0 0, .slice none 0 0, .slice none 0 0] 26) = w' := by
  have hy : (a == b) = true := beq_iff_eq.2 h
  clear h
  have ea : w.heap.size ≠ ad.block := Nat.ne_of_gt (World.block_lt_of_cell? w ad hc)
  have eb : ad.block < w.heap.size := World.block_lt_of_cell? w ad hc
  go_enter Try.func49, Try.ntmps49
  go_wp2_with go_in
  exact bodyPost_ret (v := .tuple #[.agg #[.int .i64 7, .int .i64 0, .string ⟨#[84, 114, 117, 101]⟩, .slice none 0 0, .slice none 0 0, .slice none 0 0], .bool true]) (by simp [results, Try.results49, go_sem]) rfl ⟨rfl, rfl⟩

set_option maxRecDepth 100000 in
set_option maxHeartbeats 400000 in
theorem asks1_eq_no (a b : Int) (ad : Addr) (w : World) (h : ¬ a = b) (hc : w.cell? ad = some (.func (Fn.func 38) #[] #[])) :
    Calls Try.prog 49 #[.int .i64 a, .int .i64 b, .pointer (some ad)] w fun e w' => e = .returned (.tuple #[.agg #[.int .i64 7, .int .i64 0, .string ⟨#[70, 97, 108, 115, 101]⟩, .slice none 0 0, .slice none 0 0, .slice none 0 0], .bool true]) ∧ (w.alloc (.cells #[.int .i64 7, .int .i64 0, .string ⟨#[70, 97, 108, 115, 101]⟩, .slice none 0 0, .slice none 0 0, .slice none 0 0] 26)).alloc (.cells #[.int .i64 7, .int .i64 0, .string ⟨#[70, 97, 108, 115, 101]⟩, .slice none 0 0, .slice none 0 0, .slice none 0 0] 26) = w' := by
  have hy : (a == b) = false := beq_eq_false_iff_ne.2 h
  clear h
  have ea : w.heap.size ≠ ad.block := Nat.ne_of_gt (World.block_lt_of_cell? w ad hc)
  have eb : ad.block < w.heap.size := World.block_lt_of_cell? w ad hc
  go_enter Try.func49, Try.ntmps49
  go_wp2_with go_in
  exact bodyPost_ret (v := .tuple #[.agg #[.int .i64 7, .int .i64 0, .string ⟨#[70, 97, 108, 115, 101]⟩, .slice none 0 0, .slice none 0 0, .slice none 0 0], .bool true]) (by simp [results, Try.results49, go_sem]) rfl ⟨rfl, rfl⟩

set_option maxRecDepth 100000 in
set_option maxHeartbeats 400000 in
theorem asks1_lt_yes (a b : Int) (ad : Addr) (w : World) (h : a < b) (hc : w.cell? ad = some (.func (Fn.func 39) #[] #[])) :
    Calls Try.prog 49 #[.int .i64 a, .int .i64 b, .pointer (some ad)] w fun e w' => e = .returned (.tuple #[.agg #[.int .i64 7, .int .i64 0, .string ⟨#[84, 114, 117, 101]⟩, .slice none 0 0, .slice none 0 0, .slice none 0 0], .bool true]) ∧ (w.alloc (.cells #[.int .i64 7, .int .i64 0, .string ⟨#[84, 114, 117, 101]⟩, .slice none 0 0, .slice none 0 0, .slice none 0 0] 26)).alloc (.cells #[.int .i64 7, .int .i64 0, .string ⟨#[84, 114, 117, 101]⟩, .slice none 0 0, .slice none 0 0, .slice none 0 0] 26) = w' := by
  have hy : decide (a < b) = true := by simpa using h
  clear h
  have ea : w.heap.size ≠ ad.block := Nat.ne_of_gt (World.block_lt_of_cell? w ad hc)
  have eb : ad.block < w.heap.size := World.block_lt_of_cell? w ad hc
  go_enter Try.func49, Try.ntmps49
  go_wp2_with go_in
  exact bodyPost_ret (v := .tuple #[.agg #[.int .i64 7, .int .i64 0, .string ⟨#[84, 114, 117, 101]⟩, .slice none 0 0, .slice none 0 0, .slice none 0 0], .bool true]) (by simp [results, Try.results49, go_sem]) rfl ⟨rfl, rfl⟩

set_option maxRecDepth 100000 in
set_option maxHeartbeats 400000 in
theorem asks1_lt_no (a b : Int) (ad : Addr) (w : World) (h : b ≤ a) (hc : w.cell? ad = some (.func (Fn.func 39) #[] #[])) :
    Calls Try.prog 49 #[.int .i64 a, .int .i64 b, .pointer (some ad)] w fun e w' => e = .returned (.tuple #[.agg #[.int .i64 7, .int .i64 0, .string ⟨#[70, 97, 108, 115, 101]⟩, .slice none 0 0, .slice none 0 0, .slice none 0 0], .bool true]) ∧ (w.alloc (.cells #[.int .i64 7, .int .i64 0, .string ⟨#[70, 97, 108, 115, 101]⟩, .slice none 0 0, .slice none 0 0, .slice none 0 0] 26)).alloc (.cells #[.int .i64 7, .int .i64 0, .string ⟨#[70, 97, 108, 115, 101]⟩, .slice none 0 0, .slice none 0 0, .slice none 0 0] 26) = w' := by
  have hy : decide (a < b) = false := by simpa using h
  clear h
  have ea : w.heap.size ≠ ad.block := Nat.ne_of_gt (World.block_lt_of_cell? w ad hc)
  have eb : ad.block < w.heap.size := World.block_lt_of_cell? w ad hc
  go_enter Try.func49, Try.ntmps49
  go_wp2_with go_in
  exact bodyPost_ret (v := .tuple #[.agg #[.int .i64 7, .int .i64 0, .string ⟨#[70, 97, 108, 115, 101]⟩, .slice none 0 0, .slice none 0 0, .slice none 0 0], .bool true]) (by simp [results, Try.results49, go_sem]) rfl ⟨rfl, rfl⟩

set_option maxRecDepth 100000 in
set_option maxHeartbeats 400000 in
theorem find_add (w : World) : Calls Try.prog 17 #[.string ⟨#[97, 100, 100]⟩] w fun e w' =>
    e = .returned (.tuple #[.agg #[.func (Fn.func 47) #[] #[.pointer (some ⟨w.heap.size + 1, 0, none⟩)]], .bool true]) ∧ ((w.alloc (.cells #[.func (Fn.func 47) #[] #[.pointer (some ⟨w.heap.size + 1, 0, none⟩)]] 43)).alloc (.cells #[.func (Fn.func 31) #[] #[]] 65)).alloc (.cells #[.func (Fn.func 47) #[] #[.pointer (some ⟨w.heap.size + 1, 0, none⟩)]] 43) = w' := by
  go_enter Try.func17, Try.ntmps17
  go_wp2_with (go_at_call 30; ((with_reducible refine (whole_any _ _).mono ?_); rintro e w' ⟨rfl, rfl⟩))
  exact bodyPost_ret (v := .tuple #[.agg #[.func (Fn.func 47) #[] #[.pointer (some ⟨w.heap.size + 1, 0, none⟩)]], .bool true]) (by simp [results, Try.results17, go_sem]) rfl ⟨rfl, by simp [go_sem]⟩

set_option maxRecDepth 100000 in
set_option maxHeartbeats 400000 in
theorem find_sub (w : World) : Calls Try.prog 17 #[.string ⟨#[115, 117, 98]⟩] w fun e w' =>
    e = .returned (.tuple #[.agg #[.func (Fn.func 47) #[] #[.pointer (some ⟨w.heap.size + 1, 0, none⟩)]], .bool true]) ∧ ((w.alloc (.cells #[.func (Fn.func 47) #[] #[.pointer (some ⟨w.heap.size + 1, 0, none⟩)]] 43)).alloc (.cells #[.func (Fn.func 32) #[] #[]] 65)).alloc (.cells #[.func (Fn.func 47) #[] #[.pointer (some ⟨w.heap.size + 1, 0, none⟩)]] 43) = w' := by
  go_enter Try.func17, Try.ntmps17
  go_wp2_with (go_at_call 30; ((with_reducible refine (whole_any _ _).mono ?_); rintro e w' ⟨rfl, rfl⟩))
  exact bodyPost_ret (v := .tuple #[.agg #[.func (Fn.func 47) #[] #[.pointer (some ⟨w.heap.size + 1, 0, none⟩)]], .bool true]) (by simp [results, Try.results17, go_sem]) rfl ⟨rfl, by simp [go_sem]⟩

set_option maxRecDepth 100000 in
set_option maxHeartbeats 400000 in
theorem find_mul (w : World) : Calls Try.prog 17 #[.string ⟨#[109, 117, 108]⟩] w fun e w' =>
    e = .returned (.tuple #[.agg #[.func (Fn.func 47) #[] #[.pointer (some ⟨w.heap.size + 1, 0, none⟩)]], .bool true]) ∧ ((w.alloc (.cells #[.func (Fn.func 47) #[] #[.pointer (some ⟨w.heap.size + 1, 0, none⟩)]] 43)).alloc (.cells #[.func (Fn.func 33) #[] #[]] 65)).alloc (.cells #[.func (Fn.func 47) #[] #[.pointer (some ⟨w.heap.size + 1, 0, none⟩)]] 43) = w' := by
  go_enter Try.func17, Try.ntmps17
  go_wp2_with (go_at_call 30; ((with_reducible refine (whole_any _ _).mono ?_); rintro e w' ⟨rfl, rfl⟩))
  exact bodyPost_ret (v := .tuple #[.agg #[.func (Fn.func 47) #[] #[.pointer (some ⟨w.heap.size + 1, 0, none⟩)]], .bool true]) (by simp [results, Try.results17, go_sem]) rfl ⟨rfl, by simp [go_sem]⟩

set_option maxRecDepth 100000 in
set_option maxHeartbeats 400000 in
theorem find_quot (w : World) : Calls Try.prog 17 #[.string ⟨#[113, 117, 111, 116]⟩] w fun e w' =>
    e = .returned (.tuple #[.agg #[.func (Fn.func 48) #[] #[.pointer (some ⟨w.heap.size + 1, 0, none⟩)]], .bool true]) ∧ ((w.alloc (.cells #[.func (Fn.func 48) #[] #[.pointer (some ⟨w.heap.size + 1, 0, none⟩)]] 43)).alloc (.cells #[.func (Fn.func 35) #[] #[]] 50)).alloc (.cells #[.func (Fn.func 48) #[] #[.pointer (some ⟨w.heap.size + 1, 0, none⟩)]] 43) = w' := by
  go_enter Try.func17, Try.ntmps17
  go_wp2_with (go_at_call 34; ((with_reducible refine (part_any _ _).mono ?_); rintro e w' ⟨rfl, rfl⟩))
  exact bodyPost_ret (v := .tuple #[.agg #[.func (Fn.func 48) #[] #[.pointer (some ⟨w.heap.size + 1, 0, none⟩)]], .bool true]) (by simp [results, Try.results17, go_sem]) rfl ⟨rfl, by simp [go_sem]⟩

set_option maxRecDepth 100000 in
set_option maxHeartbeats 400000 in
theorem find_rem (w : World) : Calls Try.prog 17 #[.string ⟨#[114, 101, 109]⟩] w fun e w' =>
    e = .returned (.tuple #[.agg #[.func (Fn.func 48) #[] #[.pointer (some ⟨w.heap.size + 1, 0, none⟩)]], .bool true]) ∧ ((w.alloc (.cells #[.func (Fn.func 48) #[] #[.pointer (some ⟨w.heap.size + 1, 0, none⟩)]] 43)).alloc (.cells #[.func (Fn.func 36) #[] #[]] 50)).alloc (.cells #[.func (Fn.func 48) #[] #[.pointer (some ⟨w.heap.size + 1, 0, none⟩)]] 43) = w' := by
  go_enter Try.func17, Try.ntmps17
  go_wp2_with (go_at_call 34; ((with_reducible refine (part_any _ _).mono ?_); rintro e w' ⟨rfl, rfl⟩))
  exact bodyPost_ret (v := .tuple #[.agg #[.func (Fn.func 48) #[] #[.pointer (some ⟨w.heap.size + 1, 0, none⟩)]], .bool true]) (by simp [results, Try.results17, go_sem]) rfl ⟨rfl, by simp [go_sem]⟩

set_option maxRecDepth 100000 in
set_option maxHeartbeats 400000 in
theorem find_eqInt (w : World) : Calls Try.prog 17 #[.string ⟨#[101, 113, 73, 110, 116]⟩] w fun e w' =>
    e = .returned (.tuple #[.agg #[.func (Fn.func 49) #[] #[.pointer (some ⟨w.heap.size + 1, 0, none⟩)]], .bool true]) ∧ ((w.alloc (.cells #[.func (Fn.func 49) #[] #[.pointer (some ⟨w.heap.size + 1, 0, none⟩)]] 43)).alloc (.cells #[.func (Fn.func 38) #[] #[]] 40)).alloc (.cells #[.func (Fn.func 49) #[] #[.pointer (some ⟨w.heap.size + 1, 0, none⟩)]] 43) = w' := by
  go_enter Try.func17, Try.ntmps17
  go_wp2_with (go_at_call 37; ((with_reducible refine (asks_any _ _).mono ?_); rintro e w' ⟨rfl, rfl⟩))
  exact bodyPost_ret (v := .tuple #[.agg #[.func (Fn.func 49) #[] #[.pointer (some ⟨w.heap.size + 1, 0, none⟩)]], .bool true]) (by simp [results, Try.results17, go_sem]) rfl ⟨rfl, by simp [go_sem]⟩

set_option maxRecDepth 100000 in
set_option maxHeartbeats 400000 in
theorem find_ltInt (w : World) : Calls Try.prog 17 #[.string ⟨#[108, 116, 73, 110, 116]⟩] w fun e w' =>
    e = .returned (.tuple #[.agg #[.func (Fn.func 49) #[] #[.pointer (some ⟨w.heap.size + 1, 0, none⟩)]], .bool true]) ∧ ((w.alloc (.cells #[.func (Fn.func 49) #[] #[.pointer (some ⟨w.heap.size + 1, 0, none⟩)]] 43)).alloc (.cells #[.func (Fn.func 39) #[] #[]] 40)).alloc (.cells #[.func (Fn.func 49) #[] #[.pointer (some ⟨w.heap.size + 1, 0, none⟩)]] 43) = w' := by
  go_enter Try.func17, Try.ntmps17
  go_wp2_with (go_at_call 37; ((with_reducible refine (asks_any _ _).mono ?_); rintro e w' ⟨rfl, rfl⟩))
  exact bodyPost_ret (v := .tuple #[.agg #[.func (Fn.func 49) #[] #[.pointer (some ⟨w.heap.size + 1, 0, none⟩)]], .bool true]) (by simp [results, Try.results17, go_sem]) rfl ⟨rfl, by simp [go_sem]⟩

end Go.Proofs.Ytipeggpolnnpmaa
