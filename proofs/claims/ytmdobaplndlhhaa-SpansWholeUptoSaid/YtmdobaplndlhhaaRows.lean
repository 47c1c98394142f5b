/-
  No cell of these rows narrows 'for every input' (looked for: loops, veiled, ifaces, maps, wideKeys, modest, calm, conditions, laid).
  DERIVED. THE GIVEN ROWS OF THIS SEAT. 5 by the template 'for every input the law returns true; each argument reads behind the call as it read before'; 0 by the template 'total and deterministic' (their statements: YtmdobaplndlhhaaTotals.lean).
  GIVEN WITH THE SEED: the statements are not yours to turn. If you find one false, say at which input.
  Laid BY PROGRAM, IN A SANDBOX (cutbox-rows.mjs): the forced cells as the released guide's own fill.sh prints them over the translation 0493bd23a0392a50… (all of the seat's roots in one cut). By AI agents, Wed Nov 11 2026. No macro, syntax, notation, axiom, sorry.
-/
import Derived.Test.YtmdobaplndlhhaaChecked
import GoSem.Claim
import GoSem.ClaimJoined
import GoSem.ClaimMapViews
import Derived.JoinedTies
import Derived.KernelRfl
namespace Go.Proofs.Ytmdobaplndlhhaa
/- THE CELL 'sum', in the pinned program and in every row, IS THE sha256 OF THE DUMP (.gsa) THAT YtmdobaplndlhhaaProg.lean LOADS. Nothing in Lean hashes anything: it is a label: what it is worth is what the hold of that sum in a sandbox is worth. -/
noncomputable def Try.pinned : Pinned := { name := "ytmdobaplndlhhaa", sum := "0493bd23a0392a50af5d4be02318b270e4cd79bd748eead5ccde8e3acda4c1b6", checked := Try.checked }
namespace Rows
def none {H : Type} : Left H := { results := [], args := [] }

/-- 'envoylaw01.SpansLines': WHATEVER THE INPUT: true; the input reads as it did. -/
def spansLinesSpec : ChangeSpec := { name := "spansLines", fn := fun _ => fun
  | [d1, d2] => { results := [.lit (.bool true)], args := [d1, d2] }
  | _ => none }
def spansLinesRow : OpenClaim := { program := "ytmdobaplndlhhaa", sum := "0493bd23a0392a50af5d4be02318b270e4cd79bd748eead5ccde8e3acda4c1b6", func := "envoy/envoylaw01.SpansLines", spec := "spansLines", inPlace := ["internal/abi.NoEscape", "internal/bytealg.MakeNoZero"], unfollowed := true, recurses := true, apart := false }
def SpansLinesSaid : Prop := spansLinesRow.holds Try.pinned (OpenSpec.ofChange spansLinesSpec)

/-- ITS FALSE NEIGHBOUR: 'it returns false'. Refute it at one input. -/
def spansLinesWrong : ChangeSpec := { name := "spansLines", fn := fun _ => fun
  | [d1, d2] => { results := [.lit (.bool false)], args := [d1, d2] }
  | _ => none }
def SpansLinesWrongFalsely : Prop := spansLinesRow.holds Try.pinned (OpenSpec.ofChange spansLinesWrong)

/-- 'envoylaw01.SpansPlaces': WHATEVER THE INPUT: true; the input reads as it did. -/
def spansPlacesSpec : ChangeSpec := { name := "spansPlaces", fn := fun _ => fun
  | [d1, d2] => { results := [.lit (.bool true)], args := [d1, d2] }
  | _ => none }
def spansPlacesRow : OpenClaim := { program := "ytmdobaplndlhhaa", sum := "0493bd23a0392a50af5d4be02318b270e4cd79bd748eead5ccde8e3acda4c1b6", func := "envoy/envoylaw01.SpansPlaces", spec := "spansPlaces", inPlace := ["internal/abi.NoEscape", "internal/bytealg.MakeNoZero"], unfollowed := true, recurses := true, apart := false }
def SpansPlacesSaid : Prop := spansPlacesRow.holds Try.pinned (OpenSpec.ofChange spansPlacesSpec)

/-- ITS FALSE NEIGHBOUR: 'it returns false'. Refute it at one input. -/
def spansPlacesWrong : ChangeSpec := { name := "spansPlaces", fn := fun _ => fun
  | [d1, d2] => { results := [.lit (.bool false)], args := [d1, d2] }
  | _ => none }
def SpansPlacesWrongFalsely : Prop := spansPlacesRow.holds Try.pinned (OpenSpec.ofChange spansPlacesWrong)

/-- 'envoylaw01.SpansOffsets': WHATEVER THE INPUT: true; the input reads as it did. -/
def spansOffsetsSpec : ChangeSpec := { name := "spansOffsets", fn := fun _ => fun
  | [d1, d2, d3] => { results := [.lit (.bool true)], args := [d1, d2, d3] }
  | _ => none }
def spansOffsetsRow : OpenClaim := { program := "ytmdobaplndlhhaa", sum := "0493bd23a0392a50af5d4be02318b270e4cd79bd748eead5ccde8e3acda4c1b6", func := "envoy/envoylaw01.SpansOffsets", spec := "spansOffsets", inPlace := ["internal/abi.NoEscape", "internal/bytealg.MakeNoZero"], unfollowed := true, recurses := true, apart := false }
def SpansOffsetsSaid : Prop := spansOffsetsRow.holds Try.pinned (OpenSpec.ofChange spansOffsetsSpec)

/-- ITS FALSE NEIGHBOUR: 'it returns false'. Refute it at one input. -/
def spansOffsetsWrong : ChangeSpec := { name := "spansOffsets", fn := fun _ => fun
  | [d1, d2, d3] => { results := [.lit (.bool false)], args := [d1, d2, d3] }
  | _ => none }
def SpansOffsetsWrongFalsely : Prop := spansOffsetsRow.holds Try.pinned (OpenSpec.ofChange spansOffsetsWrong)

/-- 'envoylaw01.SpansBack': WHATEVER THE INPUT: true; the input reads as it did. -/
def spansBackSpec : ChangeSpec := { name := "spansBack", fn := fun _ => fun
  | [d1, d2, d3] => { results := [.lit (.bool true)], args := [d1, d2, d3] }
  | _ => none }
def spansBackRow : OpenClaim := { program := "ytmdobaplndlhhaa", sum := "0493bd23a0392a50af5d4be02318b270e4cd79bd748eead5ccde8e3acda4c1b6", func := "envoy/envoylaw01.SpansBack", spec := "spansBack", inPlace := ["internal/abi.NoEscape", "internal/bytealg.MakeNoZero"], unfollowed := true, recurses := true, apart := false }
def SpansBackSaid : Prop := spansBackRow.holds Try.pinned (OpenSpec.ofChange spansBackSpec)

/-- ITS FALSE NEIGHBOUR: 'it returns false'. Refute it at one input. -/
def spansBackWrong : ChangeSpec := { name := "spansBack", fn := fun _ => fun
  | [d1, d2, d3] => { results := [.lit (.bool false)], args := [d1, d2, d3] }
  | _ => none }
def SpansBackWrongFalsely : Prop := spansBackRow.holds Try.pinned (OpenSpec.ofChange spansBackWrong)

/-- 'envoylaw01.SpansWhole': WHATEVER THE INPUT: true; the input reads as it did. -/
def spansWholeSpec : ChangeSpec := { name := "spansWhole", fn := fun _ => fun
  | [d] => { results := [.lit (.bool true)], args := [d] }
  | _ => none }
def spansWholeRow : OpenClaim := { program := "ytmdobaplndlhhaa", sum := "0493bd23a0392a50af5d4be02318b270e4cd79bd748eead5ccde8e3acda4c1b6", func := "envoy/envoylaw01.SpansWhole", spec := "spansWhole", inPlace := ["internal/abi.NoEscape", "internal/bytealg.MakeNoZero"], unfollowed := true, recurses := true, apart := false }
def SpansWholeSaid : Prop := spansWholeRow.holds Try.pinned (OpenSpec.ofChange spansWholeSpec)

/-- ITS FALSE NEIGHBOUR: 'it returns false'. Refute it at one input. -/
def spansWholeWrong : ChangeSpec := { name := "spansWhole", fn := fun _ => fun
  | [d] => { results := [.lit (.bool false)], args := [d] }
  | _ => none }
def SpansWholeWrongFalsely : Prop := spansWholeRow.holds Try.pinned (OpenSpec.ofChange spansWholeWrong)

/- THE SECOND FORM. 'bulk': how many values and letters a reading holds, each counted each time it is reached (what is shared counts as often as it is met; a slice's spare places count too). A statement '..UptoSaid' is the law's where the arguments, and the package variables that the reading takes, are together of bulk at most 1048576: NARROWER than '..Said'. Prove '..Said' where nothing that the law and all that it calls make is longer than what came in: it says more and counts as full. Else prove '..UptoSaid'. A law counts once. -/
mutual
def uptoBulk {H : Type} : DataW H → Nat
  | .lit (.string bytes) => bytes.length + 1
  | .lit _ => 1
  | .nil => 1
  | .ptr d => uptoBulk d + 1
  | .slice elems spare => uptoBulkAll elems + uptoBulkAll spare + 1
  | .agg parts => uptoBulkAll parts + 1
  | .iface _ d => uptoBulk d + 1
  | .map entries => uptoBulkEntries entries + 1
  | .held _ => 1
def uptoBulkAll {H : Type} : List (DataW H) → Nat
  | [] => 0
  | d :: r => uptoBulk d + uptoBulkAll r
def uptoBulkEntries {H : Type} : List (Lit × DataW H) → Nat
  | [] => 0
  | x :: r => uptoBulkEntry x + uptoBulkEntries r
def uptoBulkEntry {H : Type} : Lit × DataW H → Nat
  | (.string bytes, d) => bytes.length + uptoBulk d + 1
  | (_, d) => uptoBulk d + 1
 end
def uptoSmall : (H : Type) → List (DataW H) → Bool := fun _ ds => decide (uptoBulkAll ds ≤ 1048576)
def OpenSpec.upto (s : _root_.Go.ChangeSpec) : _root_.Go.OpenSpec := { _root_.Go.OpenSpec.ofChange s with cond := some uptoSmall }

/-- 'envoylaw01.SpansLines', WHERE WHAT IT READS IS OF BULK AT MOST 1048576: true; the input reads as it did. -/
def spansLinesUptoRow : OpenClaim := { program := "ytmdobaplndlhhaa", sum := "0493bd23a0392a50af5d4be02318b270e4cd79bd748eead5ccde8e3acda4c1b6", func := "envoy/envoylaw01.SpansLines", spec := "spansLines", inPlace := ["internal/abi.NoEscape", "internal/bytealg.MakeNoZero"], unfollowed := true, recurses := true, apart := false, narrowed := true }
def SpansLinesUptoSaid : Prop := spansLinesUptoRow.holds Try.pinned (OpenSpec.upto spansLinesSpec)

/-- 'envoylaw01.SpansPlaces', WHERE WHAT IT READS IS OF BULK AT MOST 1048576: true; the input reads as it did. -/
def spansPlacesUptoRow : OpenClaim := { program := "ytmdobaplndlhhaa", sum := "0493bd23a0392a50af5d4be02318b270e4cd79bd748eead5ccde8e3acda4c1b6", func := "envoy/envoylaw01.SpansPlaces", spec := "spansPlaces", inPlace := ["internal/abi.NoEscape", "internal/bytealg.MakeNoZero"], unfollowed := true, recurses := true, apart := false, narrowed := true }
def SpansPlacesUptoSaid : Prop := spansPlacesUptoRow.holds Try.pinned (OpenSpec.upto spansPlacesSpec)

/-- 'envoylaw01.SpansOffsets', WHERE WHAT IT READS IS OF BULK AT MOST 1048576: true; the input reads as it did. -/
def spansOffsetsUptoRow : OpenClaim := { program := "ytmdobaplndlhhaa", sum := "0493bd23a0392a50af5d4be02318b270e4cd79bd748eead5ccde8e3acda4c1b6", func := "envoy/envoylaw01.SpansOffsets", spec := "spansOffsets", inPlace := ["internal/abi.NoEscape", "internal/bytealg.MakeNoZero"], unfollowed := true, recurses := true, apart := false, narrowed := true }
def SpansOffsetsUptoSaid : Prop := spansOffsetsUptoRow.holds Try.pinned (OpenSpec.upto spansOffsetsSpec)

/-- 'envoylaw01.SpansBack', WHERE WHAT IT READS IS OF BULK AT MOST 1048576: true; the input reads as it did. -/
def spansBackUptoRow : OpenClaim := { program := "ytmdobaplndlhhaa", sum := "0493bd23a0392a50af5d4be02318b270e4cd79bd748eead5ccde8e3acda4c1b6", func := "envoy/envoylaw01.SpansBack", spec := "spansBack", inPlace := ["internal/abi.NoEscape", "internal/bytealg.MakeNoZero"], unfollowed := true, recurses := true, apart := false, narrowed := true }
def SpansBackUptoSaid : Prop := spansBackUptoRow.holds Try.pinned (OpenSpec.upto spansBackSpec)

/-- 'envoylaw01.SpansWhole', WHERE WHAT IT READS IS OF BULK AT MOST 1048576: true; the input reads as it did. -/
def spansWholeUptoRow : OpenClaim := { program := "ytmdobaplndlhhaa", sum := "0493bd23a0392a50af5d4be02318b270e4cd79bd748eead5ccde8e3acda4c1b6", func := "envoy/envoylaw01.SpansWhole", spec := "spansWhole", inPlace := ["internal/abi.NoEscape", "internal/bytealg.MakeNoZero"], unfollowed := true, recurses := true, apart := false, narrowed := true }
def SpansWholeUptoSaid : Prop := spansWholeUptoRow.holds Try.pinned (OpenSpec.upto spansWholeSpec)

end Rows
end Go.Proofs.Ytmdobaplndlhhaa
