/-
  The walk of the reference's PatVars: as many as there are.
-/
import Derived.Test.YtipeggpolnnpmaaPrimsMatchP
import Derived.Test.YtipeggpolnnpmaaPrimsFun
import Derived.Maps.AppendAt
import Derived.Laws.AppendOwnNone
import Derived.Lib.Builder
namespace Go.Proofs.Ytipeggpolnnpmaa
open Go.RowKit
set_option linter.unusedVariables false

theorem nvarss_snoc (l : List Tm) (t : Tm) : nvarss (l ++ [t]) = nvarss l + nvars t := by
  induction l with
  | nil => simp [nvarss]
  | cons a r ih => simp only [List.cons_append, nvarss, ih]; omega
theorem nvarss_take (l : List Tm) (j : Nat) : nvarss (l.take j) ≤ tsizes l := Nat.le_trans (nvarss_le _) (tsizes_take l j)
theorem grown_none {w w' : World} (h : Below w.heap.size w w') : w.grownBy w' none := ⟨h.os, h.tape, h.output, h.size, fun i hi _ => h.block i hi⟩
theorem str_info : (Try.prog.info? 9).map (fun i => (i.zero, i.size, i.bytes)) = some (some (.string ⟨#[]⟩), 1, 16) := by kernel_rfl

def VarsPost (m : Nat) (w : World) (e : Ending) (w' : World) : Prop := ∃ v xs, e = .returned v ∧ w'.ownsRow w.heap.size 9 1 v m xs ∧ (∀ u ∈ xs, u.oneCell' = true) ∧ Below w.heap.size w w'

set_option maxRecDepth 100000 in
set_option maxHeartbeats 1000000 in
theorem vars_one (n : Int) (s : ByteArray) (A1 A2 A3 : Option Addr) (l1 l2 l3 k1 k2 k3 : Nat) (w : World) :
    Calls Try.prog 16 #[.agg #[.int .i64 21, .int .i64 n, .string s, .slice A1 l1 k1, .slice A2 l2 k2, .slice A3 l3 k3]] w (VarsPost 1 w) := by
  go_enter Try.func16, Try.ntmps16
  go_wp2
  go_ret
  refine ⟨_, [.string s], rfl, ⟨rfl, .inr ⟨w.heap.size + 1, 1, #[.string s], rfl, by omega, ?_, Nat.le_refl _, by unfold maxLen; omega, rfl, rfl⟩⟩, by simp [Value.oneCell'], ((Below.refl _ w).alloc (Nat.le_refl _) _).alloc (by simp) _⟩
  have := blk_new (w.alloc (.cells #[.int .i64 21, .int .i64 n, .string s, .slice A1 l1 k1, .slice A2 l2 k2, .slice A3 l3 k3] 26)) (.cells #[.string s] 9)
  rwa [World.size_alloc] at this

set_option maxRecDepth 100000 in
set_option maxHeartbeats 1000000 in
theorem vars_mk (kk n : Int) (s : ByteArray) (vs : List Int) (ts : List Ty) (ks : List Tm) (hkk : ¬ kk = 21) (ih : ∀ t ∈ ks, ∀ (w : World) (B : Nat) (cs : Array Value), B ≤ w.heap.size → TmAt w B t cs → tsize t ≤ 100000 → Calls Try.prog 16 #[.agg cs] w (VarsPost (nvars t) w))
    (w : World) (B : Nat) (A1 A2 A3 : Option Addr) (k1 k2 k3 : Nat) (hB : B ≤ w.heap.size) (l3 : ks.length ≤ maxLen) (hk : TmsAt w B ks A3) (hz : tsizes ks ≤ 100000) :
    Calls Try.prog 16 #[.agg #[.int .i64 kk, .int .i64 n, .string s, .slice A1 vs.length k1, .slice A2 ts.length k2, .slice A3 ks.length k3]] w (VarsPost (nvarss ks) w) := by
  obtain ⟨i0, hi, hz0, hz1, hz2⟩ := info_parts str_info
  have IH := Lib.hid ih
  have HK := Lib.hid hk
  have HI := Lib.hid hi
  have HZ0 := Lib.hid hz0
  have HZ1 := Lib.hid hz1
  have HZ2 := Lib.hid hz2
  have q21 : (kk == 21) = false := beq_eq_false_iff_ne.2 hkk
  have hb0 : Below w.heap.size w (w.alloc (.cells #[.int .i64 kk, .int .i64 n, .string s, .slice A1 vs.length k1, .slice A2 ts.length k2, .slice A3 ks.length k3] 26)) := (Below.refl _ w).alloc (Nat.le_refl _) _
  have X0 := Lib.hid (blk_new w (.cells #[.int .i64 kk, .int .i64 n, .string s, .slice A1 vs.length k1, .slice A2 ts.length k2, .slice A3 ks.length k3] 26))
  unfold maxLen at l3
  clear ih hk hi hz0 hz1 hz2 hkk
  go_enter Try.func16, Try.ntmps16
  go_wp2
  go_loopw [3, 4] (fun v i wr => (∃ (j : Nat) (xs : List Value), j ≤ ks.length ∧ i = .int .i64 j ∧ wr.ownsRow w.heap.size 9 1 v (nvarss (ks.take j)) xs ∧ (∀ u ∈ xs, u.oneCell' = true)) ∧ wr.heap[w.heap.size]? = some (.cells #[.int .i64 kk, .int .i64 n, .string s, .slice A1 vs.length k1, .slice A2 ts.length k2, .slice A3 ks.length k3] 26 (0, 0)) ∧ Below w.heap.size w wr) (fun _ i _ => ks.length - (intOf i).toNat)
  case atStart => exact ⟨⟨0, [], Nat.zero_le _, rfl, by simp [nvarss]; exact World.ownsRow_nil _ _ _ _, by simp⟩, X0.out, hb0⟩
  case round =>
    obtain ⟨⟨j, xs, hj, rfl, ho, hone⟩, t0, hb⟩ := hrel
    have y5 : wr.cell? ⟨w.heap.size, 5, none⟩ = some (.slice A3 ks.length k3) := blk_cell t0 5
    have T0 := Lib.hid t0
    have HO := Lib.hid ho
    have HE := Lib.hid hone
    clear t0 ho hone
    by_cases hlt : j < ks.length
    · obtain ⟨a, v0, v1, v2, v3, v4, v5, rfl, ha, p0, p1, p2, p3, p4, p5, hty⟩ := (TmsAt.below (hb.mono hB) HK.out).get j hlt
      have HY := Lib.hid hty
      clear hty
      have hts := tsizes_take ks (j + 1)
      rw [take_snocT ks j hlt, tsizes_snoc] at hts
      have hnv := nvarss_take ks (j + 1)
      rw [take_snocT ks j hlt, nvarss_snoc] at hnv
      have HSN := Lib.hid (show nvarss (ks.take (j + 1)) = nvarss (ks.take j) + nvars ks[j] by rw [take_snocT ks j hlt, nvarss_snoc])
      generalize nvarss (ks.take j) = N at *
      go_wp2_with fail
      refine (IH.out ks[j] (List.getElem_mem hlt) wr B _ (Nat.le_trans hB hb.size) HY.out (by omega)).mono ?_
      rintro e w2 ⟨u, ys, rfl, ho2, hone2, hb2⟩
      have T2 := Lib.hid ((hb2.block _ (blk_lt T0.out)).trans T0.out)
      have O2 := Lib.hid (HO.out.kept (grown_none hb2) (Classical.em _))
      have hB2 : Below w.heap.size w w2 := hb.trans (hb2.mono hb.size)
      generalize nvars ks[j] = M at *
      rcases ho2.2 with ⟨hu, hm0⟩ | ⟨g, cap, cur, rfl, hr⟩
      · have HM := Lib.hid hm0
        have HU := Lib.hid hu
        clear ho2 hone2 hm0 hu
        go_wp2_with (at_builtin; refine wpList_append_own_none rfl _ _ 38 rfl w.heap.size 9 i0 1 Try.underlying38 HI.out _ N xs rfl O2.out HU.out ?_)
        go_roundw
        case rel => exact ⟨⟨j + 1, xs, by omega, by go_num, by rw [HSN.out, HM.out]; exact O2.out, HE.out⟩, T2.out, hB2⟩
        case measure => simp [intOf]; omega
      · have HO2 := Lib.hid ho2
        have HE2 := Lib.hid hone2
        clear ho2 hone2 hr
        go_wp2_with (at_builtin; refine wpList_append_own_at _ rfl _ _ 38 rfl w.heap.size 9 i0 _ 1 16 Try.underlying38 HI.out HZ0.out HZ1.out HZ2.out rfl (by decide) _ N xs rfl O2.out ⟨g, 0, none⟩ M cap ys rfl HO2.out.1 (HO2.out.cells (g := g) rfl) HE2.out (by unfold maxLen; omega) (by omega) hB2.size ?_; intro v' w3 hown' hgrow _ hat; have HO3 := Lib.hid hown'; have HG3 := Lib.hid hgrow; clear hown' hgrow hat)
        go_roundw
        case rel => exact ⟨⟨j + 1, xs ++ ys, by omega, by go_num, by rw [HSN.out]; exact HO3.out, fun x hx => by
            rcases List.mem_append.1 hx with h | h
            · exact HE.out x h
            · exact HE2.out x h⟩, blk_kept T2.out HG3.out (fun e => Lib.ownBlock_ne O2.out T2.out (by decide) e.symm), hB2.grown HG3.out hB2.size (fun k hk => (O2.out.lt k hk).1)⟩
        case measure => simp [intOf]; omega
    · have HALL := Lib.hid (show nvarss (ks.take j) = nvarss ks by rw [List.take_of_length_le (by omega)])
      go_wp2
      go_ret
      exact ⟨_, xs, rfl, by rw [← HALL.out]; exact HO.out, HE.out, hb⟩

theorem vars_any : ∀ (t : Tm) (w : World) (B : Nat) (cs : Array Value), B ≤ w.heap.size → TmAt w B t cs → tsize t ≤ 100000 → Calls Try.prog 16 #[.agg cs] w (VarsPost (nvars t) w) := by
  refine Tm.ind ?_
  intro k n s vs ts ks ih w B cs hB h hz
  unfold TmAt at h
  obtain ⟨A1, k1, A2, k2, A3, k3, rfl, l1, l2, l3, hv, ht, hk⟩ := h
  have hs : tsize (.mk k n s vs ts ks) = 1 + tsizes ks := by unfold tsize; rfl
  by_cases hkk : k = 21
  · subst hkk
    have e : nvars (.mk 21 n s vs ts ks) = 1 := by unfold nvars; simp
    rw [e]
    exact vars_one n s A1 A2 A3 _ _ _ k1 k2 k3 w
  · have e : nvars (.mk k n s vs ts ks) = nvarss ks := by unfold nvars; rw [if_neg hkk]
    rw [e]
    exact vars_mk k n s vs ts ks hkk ih w B A1 A2 A3 k1 k2 k3 hB l3 hk (by omega)
end Go.Proofs.Ytipeggpolnnpmaa
