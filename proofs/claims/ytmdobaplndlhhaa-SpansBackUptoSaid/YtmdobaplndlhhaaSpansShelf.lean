/-
  The shelf's contracts of sort.SearchInts and strings.Repeat, laid at this program.
-/
import Derived.Test.YtmdobaplndlhhaaSpansLineW
import Derived.Shelf.SlSorted.Search
import Derived.Shelf.Strings.Repeat
import Derived.Shelf.Lay
namespace Go.Proofs
open Go.Shelf Go.RowKit
shelf_lay SlLaysO.n14 Slso 14 at Try as Try.laysSearchInts
shelf_lay Lays.n105 Nm 105 at Try as Try.laysRepeat
theorem Try.repeatExtra : Builder.Extra Try.prog Try.laysRepeat_ren where
  sizeBuilder := by kernel_rfl
  liesBuilder := by kernel_rfl
  t5 := Try.laysRepeat.t5
  a5 := Try.laysRepeat.a5
  z5 := Try.laysRepeat.z5
  v5 := Try.laysRepeat.v5
  infoByte := by kernel_rfl
  cellsByte := by kernel_rfl
  sizeByte := by kernel_rfl
  neB5 := by decide
end Go.Proofs
namespace Go.Proofs.Ytmdobaplndlhhaa
open Go.RowKit
theorem repeat_any (s : ByteArray) (c : Nat) (w : World) (hc : c ≤ 9223372036854775807) (hlen : s.size * c ≤ 140737488355328) :
    Calls Try.prog 22 #[.string s, .int .i64 c] w fun e w' => e = .returned (.string ⟨(Lib.repeatL s.data.toList c).toArray⟩) ∧ Below w.heap.size w w' :=
  Any.strings_Repeat Try.laysRepeat Try.repeatExtra s c w hc hlen
theorem search_any (blk cap : Nat) (d : Array Int) (x : Int) (w : World) (hc : ∀ i, i < d.size → w.cell? ⟨blk, 0 + i, none⟩ = some ((Value.int .i64) d[i]!)) (hblk : blk < w.heap.size) (hsz : d.size < 4611686018427387904)
    (hs : ∀ a b, a ≤ b → b < d.size → decide (x ≤ d[a]!) = true → decide (x ≤ d[b]!) = true) :
    Calls Try.prog 21 #[.slice (some ⟨blk, 0, none⟩) d.size cap, .int .i64 x] w fun e w' => e = .returned (.int .i64 (d.toList.countP (fun y => !decide (x ≤ y)) : Nat)) ∧ Below w.heap.size w w' :=
  Any.sort_SearchInts Try.laysSearchInts blk 0 cap d x w hc hblk hsz hs
end Go.Proofs.Ytmdobaplndlhhaa
