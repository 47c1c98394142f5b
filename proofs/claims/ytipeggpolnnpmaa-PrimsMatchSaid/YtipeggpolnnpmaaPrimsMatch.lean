/-
  The walk of prims.match.
-/
import Derived.Test.YtipeggpolnnpmaaPrimsMatchP
import Derived.Test.YtipeggpolnnpmaaPrimsFun
import Derived.Maps.AppendAt
import Derived.StillTailTactics
import Derived.Deep.QuietTactic
import Derived.BigQuiet
namespace Go.Proofs.Ytipeggpolnnpmaa
open Go.RowKit
set_option linter.unusedVariables false

/-- Terms, and their cells. -/
def TmCs (w : World) (B : Nat) : List Tm → List (Array Value) → Prop
  | [], [] => True
  | t :: ts, c :: cs => TmAt w B t c ∧ TmCs w B ts cs
  | _, _ => False
theorem TmCs.append {w : World} {B : Nat} : ∀ {a b : List Tm} {c d : List (Array Value)}, TmCs w B a c → TmCs w B b d → TmCs w B (a ++ b) (c ++ d)
  | [], _, [], _, _, h => h
  | t :: ts, _, c :: cs, _, h, k => ⟨h.1, TmCs.append h.2 k⟩
  | [], _, _ :: _, _, h, _ => h.elim
  | _ :: _, _, [], _, h, _ => h.elim
theorem TmCs.keep {w w' : World} {B B' : Nat} (hB : B ≤ B') (hk : ∀ p : Addr, p.block < B → w'.cell? p = w.cell? p) : ∀ {a : List Tm} {c : List (Array Value)}, TmCs w B a c → TmCs w' B' a c
  | [], [], h => h
  | t :: ts, c :: cs, h => ⟨TmAt.keep hB hk t c h.1, TmCs.keep hB hk h.2⟩
  | [], _ :: _, h => h.elim
  | _ :: _, [], h => h.elim
def flat (css : List (Array Value)) : List Value := css.flatMap (·.toList)
theorem flat_append (a b : List (Array Value)) : flat (a ++ b) = flat a ++ flat b := by unfold flat; simp

theorem tm_info : (Try.prog.info? 26).map (fun i => (i.zero, i.size, i.bytes)) = some (some (.agg #[.int .i64 0, .int .i64 0, .string ⟨#[]⟩, .slice none 0 0, .slice none 0 0, .slice none 0 0]), 6, 104) := by kernel_rfl

/-- What match leaves. -/
def MatchPost (B n : Nat) (xs : List Value) (v : Value) (p t : Tm) (w : World) (e : Ending) (w' : World) : Prop :=
  ∃ v' n' xs' ok, e = .returned (.tuple #[v', .bool ok]) ∧ w'.ownsRow B 26 6 v' n' xs' ∧ n' ≤ n + tsize p ∧ w.grownBy w' v.ownBlock ∧ (v'.ownBlock = v.ownBlock ∨ ∃ g, v'.ownBlock = some g ∧ w.heap.size ≤ g)
    ∧ ok = (matchT p t).isSome ∧ (∀ ms, matchT p t = some ms → n' = n + ms.length ∧ ∃ css, TmCs w B ms css ∧ xs' = xs ++ flat css)

theorem grownBy_drew {a w : World} {row : Option Nat} (h : a.grownBy w row) : a.grownBy w.drew row := ⟨h.os, h.tape, h.output, h.size, h.block⟩
theorem grownBy_drewN {a w : World} {row : Option Nat} (h : a.grownBy w row) (n : Nat) : a.grownBy (w.drewN n) row := ⟨h.os, h.tape, h.output, h.size, h.block⟩
theorem grownBy_alloc {a w : World} {row : Option Nat} (h : a.grownBy w row) (o : Obj) : a.grownBy (w.alloc o) row :=
  ⟨h.os, h.tape, h.output, Nat.le_trans h.size (by simp), fun i hi hne => (Below.heap_alloc w o i (Nat.lt_of_lt_of_le hi h.size)).trans (h.block i hi hne)⟩
theorem own_lt {w : World} {B : Nat} {e : TypeId} {z n : Nat} {v : Value} {xs : List Value} (h : w.ownsRow B e z v n xs) : ∀ g, v.ownBlock = some g → g < w.heap.size := fun g hg => (h.lt g hg).2

set_option maxRecDepth 100000 in
set_option maxHeartbeats 1000000 in
theorem match_var (B n : Nat) (xs : List Value) (v : Value) (pn : Int) (ps : ByteArray) (P1 P2 P3 : Option Addr) (p1 p2 p3 d1 d2 d3 : Nat) (tk tn : Int) (ts : ByteArray) (A1 A2 A3 : Option Addr) (l1 l2 l3 c1 c2 c3 : Nat) (w : World)
    (hown : w.ownsRow B 26 6 v n xs) (hn : n ≤ 1000000) (hB : B ≤ w.heap.size) :
    Calls Try.prog 29 #[v, .agg #[.int .i64 21, .int .i64 pn, .string ps, .slice P1 p1 d1, .slice P2 p2 d2, .slice P3 p3 d3], .agg #[.int .i64 tk, .int .i64 tn, .string ts, .slice A1 l1 c1, .slice A2 l2 c2, .slice A3 l3 c3]] w fun e w' => ∃ v', e = .returned (.tuple #[v', .bool true]) ∧ w'.ownsRow B 26 6 v' (n + 1) (xs ++ #[.int .i64 tk, .int .i64 tn, .string ts, .slice A1 l1 c1, .slice A2 l2 c2, .slice A3 l3 c3].toList) ∧ w.grownBy w' v.ownBlock ∧ (v'.ownBlock = v.ownBlock ∨ ∃ g, v'.ownBlock = some g ∧ w.heap.size ≤ g) := by
  obtain ⟨i0, hi, hz0, hz1, hz2⟩ := info_parts tm_info
  have HO := Lib.hid hown
  have hz1' := Lib.hid hz1
  have hz2' := Lib.hid hz2
  have hi' := Lib.hid hi
  have hz0' := Lib.hid hz0
  clear hown hz1 hz2 hi hz0
  go_enter Try.func29, Try.ntmps29
  go_wp2_with (at_builtin; refine wpList_append_own_at _ rfl _ _ 24 rfl B 26 i0 _ 6 104 Try.underlying24 hi'.out hz0'.out hz1'.out hz2'.out rfl (by decide) v n xs rfl (((HO.out.alloc _).alloc _).alloc _) ⟨w.heap.size + 1 + 1, 0, none⟩ 1 1 #[.int .i64 tk, .int .i64 tn, .string ts, .slice A1 l1 c1, .slice A2 l2 c2, .slice A3 l3 c3].toList rfl rfl ?q1 ?q2 ?q3 ?q4 ?q5 ?_)
  case q2 => exact ⟨rfl, rfl, rfl, rfl, rfl, rfl⟩
  case q3 => unfold maxLen; omega
  case q4 => omega
  case q5 => simp; omega
  intro v' w1 hown' hgrow _ hat
  have HO' := Lib.hid hown'
  have HG := Lib.hid hgrow
  have HA := Lib.hid hat
  clear hown' hgrow hat
  go_wp2
  go_ret2
  refine ⟨v', rfl, HO'.out, ?_, ?_⟩
  · exact (grownBy_alloc (grownBy_alloc (grownBy_alloc (World.grownBy.refl w _) _) _) _).trans HG.out
  · rcases HA.out with e | e
    · exact .inl e
    · exact .inr ⟨_, e, by omega⟩
set_option maxRecDepth 100000 in
set_option maxHeartbeats 1000000 in
theorem match_any22 (v : Value) (pn : Int) (ps : ByteArray) (P1 P2 P3 : Option Addr) (p1 p2 p3 d1 d2 d3 : Nat) (tk : Int) (tn : Int) (ts : ByteArray) (A1 A2 A3 : Option Addr) (l1 l2 l3 c1 c2 c3 : Nat) (w : World) :
    Calls Try.prog 29 #[v, .agg #[.int .i64 22, .int .i64 pn, .string ps, .slice P1 p1 d1, .slice P2 p2 d2, .slice P3 p3 d3], .agg #[.int .i64 tk, .int .i64 tn, .string ts, .slice A1 l1 c1, .slice A2 l2 c2, .slice A3 l3 c3]] w fun e w' => e = .returned (.tuple #[v, .bool true]) ∧ w.grownBy w' none := by
  go_enter Try.func29, Try.ntmps29
  go_wp2
  go_ret2
  exact ⟨rfl, grownBy_alloc (grownBy_alloc (World.grownBy.refl w _) _) _⟩

set_option maxRecDepth 100000 in
set_option maxHeartbeats 1000000 in
theorem match_int_yes (v : Value) (pn : Int) (ps : ByteArray) (P1 P2 P3 : Option Addr) (p1 p2 p3 d1 d2 d3 : Nat) (tn : Int) (ts : ByteArray) (A1 A2 A3 : Option Addr) (l1 l2 l3 c1 c2 c3 : Nat) (w : World) (h : tn = pn) :
    Calls Try.prog 29 #[v, .agg #[.int .i64 23, .int .i64 pn, .string ps, .slice P1 p1 d1, .slice P2 p2 d2, .slice P3 p3 d3], .agg #[.int .i64 2, .int .i64 tn, .string ts, .slice A1 l1 c1, .slice A2 l2 c2, .slice A3 l3 c3]] w fun e w' => e = .returned (.tuple #[v, .bool true]) ∧ w.grownBy w' none := by
  have hq : (tn == pn) = true := beq_iff_eq.2 h
  clear h
  go_enter Try.func29, Try.ntmps29
  go_wp2
  go_quiet (fail)
  go_wp2
  go_ret2
  exact ⟨rfl, grownBy_drewN (grownBy_alloc (grownBy_alloc (World.grownBy.refl w _) _) _) _⟩

set_option maxRecDepth 100000 in
set_option maxHeartbeats 1000000 in
theorem match_int_no (v : Value) (pn : Int) (ps : ByteArray) (P1 P2 P3 : Option Addr) (p1 p2 p3 d1 d2 d3 : Nat) (tn : Int) (ts : ByteArray) (A1 A2 A3 : Option Addr) (l1 l2 l3 c1 c2 c3 : Nat) (w : World) (h : ¬ tn = pn) :
    Calls Try.prog 29 #[v, .agg #[.int .i64 23, .int .i64 pn, .string ps, .slice P1 p1 d1, .slice P2 p2 d2, .slice P3 p3 d3], .agg #[.int .i64 2, .int .i64 tn, .string ts, .slice A1 l1 c1, .slice A2 l2 c2, .slice A3 l3 c3]] w fun e w' => e = .returned (.tuple #[v, .bool false]) ∧ w.grownBy w' none := by
  have hq : (tn == pn) = false := beq_eq_false_iff_ne.2 h
  clear h
  go_enter Try.func29, Try.ntmps29
  go_wp2
  go_quiet (fail)
  go_wp2
  go_ret2
  exact ⟨rfl, grownBy_drewN (grownBy_alloc (grownBy_alloc (World.grownBy.refl w _) _) _) _⟩

set_option maxRecDepth 100000 in
set_option maxHeartbeats 1000000 in
theorem match_int_non (v : Value) (pn : Int) (ps : ByteArray) (P1 P2 P3 : Option Addr) (p1 p2 p3 d1 d2 d3 : Nat) (tk : Int) (tn : Int) (ts : ByteArray) (A1 A2 A3 : Option Addr) (l1 l2 l3 c1 c2 c3 : Nat) (w : World) (h : ¬ tk = 2) :
    Calls Try.prog 29 #[v, .agg #[.int .i64 23, .int .i64 pn, .string ps, .slice P1 p1 d1, .slice P2 p2 d2, .slice P3 p3 d3], .agg #[.int .i64 tk, .int .i64 tn, .string ts, .slice A1 l1 c1, .slice A2 l2 c2, .slice A3 l3 c3]] w fun e w' => e = .returned (.tuple #[v, .bool false]) ∧ w.grownBy w' none := by
  have hq : (tk == 2) = false := beq_eq_false_iff_ne.2 h
  clear h
  go_enter Try.func29, Try.ntmps29
  go_wp2
  go_quiet (fail)
  go_wp2
  go_ret2
  exact ⟨rfl, grownBy_drewN (grownBy_alloc (grownBy_alloc (World.grownBy.refl w _) _) _) _⟩

set_option maxRecDepth 100000 in
set_option maxHeartbeats 1000000 in
theorem match_other (v : Value) (pk : Int) (pn : Int) (ps : ByteArray) (P1 P2 P3 : Option Addr) (p1 p2 p3 d1 d2 d3 : Nat) (tk : Int) (tn : Int) (ts : ByteArray) (A1 A2 A3 : Option Addr) (l1 l2 l3 c1 c2 c3 : Nat) (w : World) (h1 : ¬ pk = 21) (h2 : ¬ pk = 22) (h3 : ¬ pk = 23) (h : ¬ (pk = 24 ∧ tk = 7 ∧ ts.data.toList = ps.data.toList ∧ l3 = p3)) :
    Calls Try.prog 29 #[v, .agg #[.int .i64 pk, .int .i64 pn, .string ps, .slice P1 p1 d1, .slice P2 p2 d2, .slice P3 p3 d3], .agg #[.int .i64 tk, .int .i64 tn, .string ts, .slice A1 l1 c1, .slice A2 l2 c2, .slice A3 l3 c3]] w fun e w' => e = .returned (.tuple #[v, .bool false]) ∧ w.grownBy w' none := by
  have q1 : (pk == 21) = false := beq_eq_false_iff_ne.2 h1
  have q2 : (pk == 22) = false := beq_eq_false_iff_ne.2 h2
  have q3 : (pk == 23) = false := beq_eq_false_iff_ne.2 h3
  by_cases k1 : pk = 24
  · subst k1
    by_cases k2 : tk = 7
    · subst k2
      by_cases k3 : ts.data.toList = ps.data.toList
      · have k4 : ¬ l3 = p3 := fun e => h ⟨rfl, rfl, k3, e⟩
        have q4 : (ts.toList == ps.toList) = true := by rw [ByteArray.toList_eq, ByteArray.toList_eq, k3]; simp
        have q5 : (l3 == p3) = false := beq_eq_false_iff_ne.2 k4
        have q6 : ((l3 : Int) == (p3 : Int)) = false := beq_eq_false_iff_ne.2 (by omega)
        clear h1 h2 h3 h k3 k4
        go_enter Try.func29, Try.ntmps29
        go_wp2
        go_loop [0, 8, 9] (fun a b c => a = v ∧ b = .bool false ∧ c = .int .i64 0) (fun _ _ _ => 0)
        case atStart => exact ⟨rfl, rfl, rfl⟩
        case round =>
          obtain ⟨rfl, rfl, rfl⟩ := hrel
          go_wp2
          go_ret2
          exact ⟨rfl, grownBy_alloc (grownBy_alloc (World.grownBy.refl w _) _) _⟩
      · have q4 : (ts.toList == ps.toList) = false := by rw [ByteArray.toList_eq, ByteArray.toList_eq]; exact beq_eq_false_iff_ne.2 k3
        clear h1 h2 h3 h k3
        go_enter Try.func29, Try.ntmps29
        go_wp2
        go_loop [0, 8, 9] (fun a b c => a = v ∧ b = .bool false ∧ c = .int .i64 0) (fun _ _ _ => 0)
        case atStart => exact ⟨rfl, rfl, rfl⟩
        case round =>
          obtain ⟨rfl, rfl, rfl⟩ := hrel
          go_wp2
          go_ret2
          exact ⟨rfl, grownBy_alloc (grownBy_alloc (World.grownBy.refl w _) _) _⟩
    · have q4 : (tk == 7) = false := beq_eq_false_iff_ne.2 k2
      clear h1 h2 h3 h k2
      go_enter Try.func29, Try.ntmps29
      go_wp2
      go_loop [0, 8, 9] (fun a b c => a = v ∧ b = .bool false ∧ c = .int .i64 0) (fun _ _ _ => 0)
      case atStart => exact ⟨rfl, rfl, rfl⟩
      case round =>
        obtain ⟨rfl, rfl, rfl⟩ := hrel
        go_wp2
        go_ret2
        exact ⟨rfl, grownBy_alloc (grownBy_alloc (World.grownBy.refl w _) _) _⟩
  · have q4 : (pk == 24) = false := beq_eq_false_iff_ne.2 k1
    clear h1 h2 h3 h k1
    go_enter Try.func29, Try.ntmps29
    go_wp2
    go_loop [0, 8, 9] (fun a b c => a = v ∧ b = .bool false ∧ c = .int .i64 0) (fun _ _ _ => 0)
    case atStart => exact ⟨rfl, rfl, rfl⟩
    case round =>
      obtain ⟨rfl, rfl, rfl⟩ := hrel
      go_wp2
      go_ret2
      exact ⟨rfl, grownBy_alloc (grownBy_alloc (World.grownBy.refl w _) _) _⟩
end Go.Proofs.Ytipeggpolnnpmaa
