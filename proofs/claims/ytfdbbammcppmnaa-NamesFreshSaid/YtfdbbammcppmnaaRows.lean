/-
  No cell of these rows narrows 'for every input' (looked for: loops, veiled, ifaces, maps, wideKeys, modest, calm, conditions, laid).
  DERIVED. THE GIVEN ROWS OF THIS SEAT. 5 by the template 'for every input the law returns true; each argument reads behind the call as it read before'; 0 by the template 'total and deterministic' (their statements: YtfdbbammcppmnaaTotals.lean).
  GIVEN WITH THE SEED: the statements are not yours to turn. If you find one false, say at which input.
  Laid BY PROGRAM, IN A SANDBOX (cutbox-rows.mjs): the forced cells as the released guide's own fill.sh prints them over the translation 397f18711288184c… (all of the seat's roots in one cut). By AI agents, Wed Nov 11 2026. No macro, syntax, notation, axiom, sorry.
-/
import Derived.Test.YtfdbbammcppmnaaChecked
import GoSem.Claim
import GoSem.ClaimJoined
import GoSem.ClaimMapViews
import Derived.JoinedTies
import Derived.KernelRfl
namespace Go.Proofs.Ytfdbbammcppmnaa
/- THE CELL 'sum', in the pinned program and in every row, IS THE sha256 OF THE DUMP (.gsa) THAT YtfdbbammcppmnaaProg.lean LOADS. Nothing in Lean hashes anything: it is a label: what it is worth is what the hold of that sum in a sandbox is worth. -/
noncomputable def Try.pinned : Pinned := { name := "ytfdbbammcppmnaa", sum := "397f18711288184c91c87dea2387d0f1e74a3a072fabe9869268167e20320bfd", checked := Try.checked }
namespace Rows
def none {H : Type} : Left H := { results := [], args := [] }

/-- 'envoylaw03.NamesKinds': WHATEVER THE INPUT: true; the input reads as it did. -/
def namesKindsSpec : ChangeSpec := { name := "namesKinds", fn := fun _ => fun
  | [d] => { results := [.lit (.bool true)], args := [d] }
  | _ => none }
def namesKindsRow : OpenClaim := { program := "ytfdbbammcppmnaa", sum := "397f18711288184c91c87dea2387d0f1e74a3a072fabe9869268167e20320bfd", func := "envoy/envoylaw03.NamesKinds", spec := "namesKinds", apart := false }
def NamesKindsSaid : Prop := namesKindsRow.holds Try.pinned (OpenSpec.ofChange namesKindsSpec)

/-- ITS FALSE NEIGHBOUR: 'it returns false'. Refute it at one input. -/
def namesKindsWrong : ChangeSpec := { name := "namesKinds", fn := fun _ => fun
  | [d] => { results := [.lit (.bool false)], args := [d] }
  | _ => none }
def NamesKindsWrongFalsely : Prop := namesKindsRow.holds Try.pinned (OpenSpec.ofChange namesKindsWrong)

/-- 'envoylaw03.NamesLetters': WHATEVER THE INPUT: true; the input reads as it did. -/
def namesLettersSpec : ChangeSpec := { name := "namesLetters", fn := fun _ => fun
  | [d1, d2] => { results := [.lit (.bool true)], args := [d1, d2] }
  | _ => none }
def namesLettersRow : OpenClaim := { program := "ytfdbbammcppmnaa", sum := "397f18711288184c91c87dea2387d0f1e74a3a072fabe9869268167e20320bfd", func := "envoy/envoylaw03.NamesLetters", spec := "namesLetters", apart := false }
def NamesLettersSaid : Prop := namesLettersRow.holds Try.pinned (OpenSpec.ofChange namesLettersSpec)

/-- ITS FALSE NEIGHBOUR: 'it returns false'. Refute it at one input. -/
def namesLettersWrong : ChangeSpec := { name := "namesLetters", fn := fun _ => fun
  | [d1, d2] => { results := [.lit (.bool false)], args := [d1, d2] }
  | _ => none }
def NamesLettersWrongFalsely : Prop := namesLettersRow.holds Try.pinned (OpenSpec.ofChange namesLettersWrong)

/-- 'envoylaw03.NamesBack': WHATEVER THE INPUT: true; the input reads as it did. -/
def namesBackSpec : ChangeSpec := { name := "namesBack", fn := fun _ => fun
  | [d1, d2] => { results := [.lit (.bool true)], args := [d1, d2] }
  | _ => none }
def namesBackRow : OpenClaim := { program := "ytfdbbammcppmnaa", sum := "397f18711288184c91c87dea2387d0f1e74a3a072fabe9869268167e20320bfd", func := "envoy/envoylaw03.NamesBack", spec := "namesBack", apart := false }
def NamesBackSaid : Prop := namesBackRow.holds Try.pinned (OpenSpec.ofChange namesBackSpec)

/-- ITS FALSE NEIGHBOUR: 'it returns false'. Refute it at one input. -/
def namesBackWrong : ChangeSpec := { name := "namesBack", fn := fun _ => fun
  | [d1, d2] => { results := [.lit (.bool false)], args := [d1, d2] }
  | _ => none }
def NamesBackWrongFalsely : Prop := namesBackRow.holds Try.pinned (OpenSpec.ofChange namesBackWrong)

/-- 'envoylaw03.NamesFresh': WHATEVER THE INPUT: true; the input reads as it did. -/
def namesFreshSpec : ChangeSpec := { name := "namesFresh", fn := fun _ => fun
  | [d1, d2] => { results := [.lit (.bool true)], args := [d1, d2] }
  | _ => none }
def namesFreshRow : OpenClaim := { program := "ytfdbbammcppmnaa", sum := "397f18711288184c91c87dea2387d0f1e74a3a072fabe9869268167e20320bfd", func := "envoy/envoylaw03.NamesFresh", spec := "namesFresh", apart := false }
def NamesFreshSaid : Prop := namesFreshRow.holds Try.pinned (OpenSpec.ofChange namesFreshSpec)

/-- ITS FALSE NEIGHBOUR: 'it returns false'. Refute it at one input. -/
def namesFreshWrong : ChangeSpec := { name := "namesFresh", fn := fun _ => fun
  | [d1, d2] => { results := [.lit (.bool false)], args := [d1, d2] }
  | _ => none }
def NamesFreshWrongFalsely : Prop := namesFreshRow.holds Try.pinned (OpenSpec.ofChange namesFreshWrong)

/-- 'envoylaw03.NamesApart': WHATEVER THE INPUT: true; the input reads as it did. -/
def namesApartSpec : ChangeSpec := { name := "namesApart", fn := fun _ => fun
  | [d] => { results := [.lit (.bool true)], args := [d] }
  | _ => none }
def namesApartRow : OpenClaim := { program := "ytfdbbammcppmnaa", sum := "397f18711288184c91c87dea2387d0f1e74a3a072fabe9869268167e20320bfd", func := "envoy/envoylaw03.NamesApart", spec := "namesApart", apart := false }
def NamesApartSaid : Prop := namesApartRow.holds Try.pinned (OpenSpec.ofChange namesApartSpec)

/-- ITS FALSE NEIGHBOUR: 'it returns false'. Refute it at one input. -/
def namesApartWrong : ChangeSpec := { name := "namesApart", fn := fun _ => fun
  | [d] => { results := [.lit (.bool false)], args := [d] }
  | _ => none }
def NamesApartWrongFalsely : Prop := namesApartRow.holds Try.pinned (OpenSpec.ofChange namesApartWrong)

/- THE SECOND FORM. 'bulk': how many values and letters a reading holds, each counted each time it is reached (what is shared counts as often as it is met; a slice's spare places count too). A statement '..UptoSaid' is the law's where the arguments, and the package variables that the reading takes, are together of bulk at most 1048576: NARROWER than '..Said'. Prove '..Said' where nothing that the law and all that it calls make is longer than what came in: it says more and counts as full. Else prove '..UptoSaid'. A law counts once. -/
mutual
def uptoBulk {H : Type} : DataW H → Nat
  | .lit (.string bytes) => bytes.length + 1
  | .lit _ => 1
  | .nil => 1
  | .ptr d => uptoBulk d + 1
  | .slice elems spare => uptoBulkAll elems + uptoBulkAll spare + 1
  | .agg parts => uptoBulkAll parts + 1
  | .iface _ d => uptoBulk d + 1
  | .map entries => uptoBulkEntries entries + 1
  | .held _ => 1
def uptoBulkAll {H : Type} : List (DataW H) → Nat
  | [] => 0
  | d :: r => uptoBulk d + uptoBulkAll r
def uptoBulkEntries {H : Type} : List (Lit × DataW H) → Nat
  | [] => 0
  | x :: r => uptoBulkEntry x + uptoBulkEntries r
def uptoBulkEntry {H : Type} : Lit × DataW H → Nat
  | (.string bytes, d) => bytes.length + uptoBulk d + 1
  | (_, d) => uptoBulk d + 1
 end
def uptoSmall : (H : Type) → List (DataW H) → Bool := fun _ ds => decide (uptoBulkAll ds ≤ 1048576)
def OpenSpec.upto (s : _root_.Go.ChangeSpec) : _root_.Go.OpenSpec := { _root_.Go.OpenSpec.ofChange s with cond := some uptoSmall }

/-- 'envoylaw03.NamesKinds', WHERE WHAT IT READS IS OF BULK AT MOST 1048576: true; the input reads as it did. -/
def namesKindsUptoRow : OpenClaim := { program := "ytfdbbammcppmnaa", sum := "397f18711288184c91c87dea2387d0f1e74a3a072fabe9869268167e20320bfd", func := "envoy/envoylaw03.NamesKinds", spec := "namesKinds", apart := false, narrowed := true }
def NamesKindsUptoSaid : Prop := namesKindsUptoRow.holds Try.pinned (OpenSpec.upto namesKindsSpec)

/-- 'envoylaw03.NamesLetters', WHERE WHAT IT READS IS OF BULK AT MOST 1048576: true; the input reads as it did. -/
def namesLettersUptoRow : OpenClaim := { program := "ytfdbbammcppmnaa", sum := "397f18711288184c91c87dea2387d0f1e74a3a072fabe9869268167e20320bfd", func := "envoy/envoylaw03.NamesLetters", spec := "namesLetters", apart := false, narrowed := true }
def NamesLettersUptoSaid : Prop := namesLettersUptoRow.holds Try.pinned (OpenSpec.upto namesLettersSpec)

/-- 'envoylaw03.NamesBack', WHERE WHAT IT READS IS OF BULK AT MOST 1048576: true; the input reads as it did. -/
def namesBackUptoRow : OpenClaim := { program := "ytfdbbammcppmnaa", sum := "397f18711288184c91c87dea2387d0f1e74a3a072fabe9869268167e20320bfd", func := "envoy/envoylaw03.NamesBack", spec := "namesBack", apart := false, narrowed := true }
def NamesBackUptoSaid : Prop := namesBackUptoRow.holds Try.pinned (OpenSpec.upto namesBackSpec)

/-- 'envoylaw03.NamesFresh', WHERE WHAT IT READS IS OF BULK AT MOST 1048576: true; the input reads as it did. -/
def namesFreshUptoRow : OpenClaim := { program := "ytfdbbammcppmnaa", sum := "397f18711288184c91c87dea2387d0f1e74a3a072fabe9869268167e20320bfd", func := "envoy/envoylaw03.NamesFresh", spec := "namesFresh", apart := false, narrowed := true }
def NamesFreshUptoSaid : Prop := namesFreshUptoRow.holds Try.pinned (OpenSpec.upto namesFreshSpec)

/-- 'envoylaw03.NamesApart', WHERE WHAT IT READS IS OF BULK AT MOST 1048576: true; the input reads as it did. -/
def namesApartUptoRow : OpenClaim := { program := "ytfdbbammcppmnaa", sum := "397f18711288184c91c87dea2387d0f1e74a3a072fabe9869268167e20320bfd", func := "envoy/envoylaw03.NamesApart", spec := "namesApart", apart := false, narrowed := true }
def NamesApartUptoSaid : Prop := namesApartUptoRow.holds Try.pinned (OpenSpec.upto namesApartSpec)

end Rows
end Go.Proofs.Ytfdbbammcppmnaa
