/-
  'PrimsMatch' returns true for any two terms. No condition.
-/
import Derived.Test.YtipeggpolnnpmaaRows
import Derived.Test.YtipeggpolnnpmaaPrimsAwake
import Derived.Test.YtipeggpolnnpmaaPrimsFewT
import Derived.Test.YtipeggpolnnpmaaPrimsPat
import Derived.Test.YtipeggpolnnpmaaPrimsVars
import Derived.Test.YtipeggpolnnpmaaPrimsBack
import Derived.Test.YtipeggpolnnpmaaPrimsOpen
import Derived.Test.YtipeggpolnnpmaaLawKit
namespace Go.Proofs.Ytipeggpolnnpmaa.primsMatch
open Go.ChangeShapes Go.WideShapes Go.ChangeAt Go.RowKit
set_option linter.unusedVariables false

theorem tm_six {w : World} {B : Nat} {t : Tm} {c : Array Value} (h : TmAt w B t c) : ∃ v0 v1 v2 v3 v4 v5, c = #[v0, v1, v2, v3, v4, v5] := by
  obtain ⟨k, n, s, vs, ts, ks⟩ := t
  unfold TmAt at h
  obtain ⟨A1, k1, A2, k2, A3, k3, e, _⟩ := h
  exact ⟨_, _, _, _, _, _, e⟩

theorem tms_of_cells {w : World} {B : Nat} : ∀ (ms : List Tm) (css : List (Array Value)) (a : Addr), TmCs w B ms css → a.block < B → (∀ j u, (flat css)[j]? = some u → w.cell? (a.add j) = some u) → TmsAt w B ms (some a)
  | [], _, a, _, _, _ => by unfold TmsAt; trivial
  | t :: ms, c :: css, a, h, hb, hc => by
    obtain ⟨v0, v1, v2, v3, v4, v5, rfl⟩ := tm_six h.1
    have hf : flat (#[v0, v1, v2, v3, v4, v5] :: css) = v0 :: v1 :: v2 :: v3 :: v4 :: v5 :: flat css := by simp [flat]
    rw [hf] at hc
    have r := tms_of_cells ms css (a.add 6) h.2 (by rw [blk_add]; exact hb) (fun j u hu => by
      rw [add_add, Nat.add_comm 6 j]
      exact hc (j + 6) u (by simpa using hu))
    unfold TmsAt
    exact ⟨a, v0, v1, v2, v3, v4, v5, rfl, hb, by simpa [Addr.add] using hc 0 v0 rfl, hc 1 v1 rfl, hc 2 v2 rfl, hc 3 v3 rfl, hc 4 v4 rfl, hc 5 v5 rfl, h.1, r⟩
  | _ :: _, [], _, h, _, _ => h.elim

/-- A row of terms that was made, as terms behind one another. -/
theorem own_tms {w w' : World} {B : Nat} {v : Value} {ms : List Tm} {css : List (Array Value)} (ho : w'.ownsRow B 26 6 v ms.length (flat css)) (hc : TmCs w B ms css) (hb : Below B w w') (hB : B ≤ w'.heap.size) :
    ∃ A c, v = .slice A ms.length c ∧ ms.length ≤ c ∧ c ≤ maxLen ∧ TmsAt w' w'.heap.size ms A := by
  have hc' : TmCs w' w'.heap.size ms css := TmCs.keep (w := w) (w' := w') hB (fun p hp => hb.cell hp) hc
  rcases ho.2 with ⟨e, h0⟩ | ⟨g, cap, cur, e, hg, hgg, hn, hm, _⟩
  · have e0 : ms = [] := List.eq_nil_of_length_eq_zero h0
    subst e0
    exact ⟨none, 0, e, Nat.le_refl _, Nat.zero_le _, by unfold TmsAt; trivial⟩
  · exact ⟨_, cap, e, hn, hm, tms_of_cells ms css _ hc' (blk_lt hgg) (ho.cells (g := g) (by rw [e]; rfl))⟩

theorem tms_pair (w : World) (B g : Nat) (hg : g < B) (p t : Tm) (q0 q1 q2 q3 q4 q5 r0 r1 r2 r3 r4 r5 : Value) (hp : TmAt w B p #[q0, q1, q2, q3, q4, q5]) (ht : TmAt w B t #[r0, r1, r2, r3, r4, r5]) (y : TypeId)
    (h : w.heap[g]? = some (.cells #[q0, q1, q2, q3, q4, q5, r0, r1, r2, r3, r4, r5] y (0, 0))) : TmsAt w B [p, t] (some ⟨g, 0, none⟩) := by
  have hc := fun i => blk_cell h i
  unfold TmsAt
  refine ⟨_, q0, q1, q2, q3, q4, q5, rfl, hg, hc 0, hc 1, hc 2, hc 3, hc 4, hc 5, hp, ?_⟩
  unfold TmsAt
  refine ⟨_, r0, r1, r2, r3, r4, r5, rfl, hg, hc 6, hc 7, hc 8, hc 9, hc 10, hc 11, ht, ?_⟩
  unfold TmsAt
  trivial

set_option maxRecDepth 100000 in
set_option maxHeartbeats 2000000 in
theorem walk (p t : Tm) (q0 q1 q2 q3 q4 q5 r0 r1 r2 r3 r4 r5 : Value) (w : World) (hp : TmAt w w.heap.size p #[q0, q1, q2, q3, q4, q5]) (ht : TmAt w w.heap.size t #[r0, r1, r2, r3, r4, r5]) :
    Calls Try.prog 4 #[.agg #[q0, q1, q2, q3, q4, q5], .agg #[r0, r1, r2, r3, r4, r5]] w fun e w' => e = .returned (.bool true) ∧ Below w.heap.size w w' := by
  obtain ⟨w1, hw1⟩ : ∃ w1, ((w.alloc (.cells #[q0, q1, q2, q3, q4, q5] 26)).alloc (.cells #[r0, r1, r2, r3, r4, r5] 26)).alloc (.cells #[q0, q1, q2, q3, q4, q5, r0, r1, r2, r3, r4, r5] 26) = w1 := ⟨_, rfl⟩
  have hb1 : Below w.heap.size w w1 := by rw [← hw1]; exact (below_two w _ _).alloc (by simp; omega) _
  have X0 : w1.heap[w.heap.size]? = some (.cells #[q0, q1, q2, q3, q4, q5] 26 (0, 0)) := by rw [← hw1]; exact blk_alloc (blk_alloc (blk_new w _) _) _
  have X1 : w1.heap[w.heap.size + 1]? = some (.cells #[r0, r1, r2, r3, r4, r5] 26 (0, 0)) := by rw [← hw1]; exact blk_alloc (blk_new1 w _ _) _
  have X2 : w1.heap[w.heap.size + 1 + 1]? = some (.cells #[q0, q1, q2, q3, q4, q5, r0, r1, r2, r3, r4, r5] 26 (0, 0)) := by rw [← hw1]; have := blk_new1 (w.alloc (.cells #[q0, q1, q2, q3, q4, q5] 26)) (.cells #[r0, r1, r2, r3, r4, r5] 26) (.cells #[q0, q1, q2, q3, q4, q5, r0, r1, r2, r3, r4, r5] 26); rwa [World.size_alloc] at this
  have hs1 : w1.heap.size = w.heap.size + 1 + 1 + 1 := by rw [← hw1]; simp
  have PAT := Lib.hid (fun (W : World) (hW : Below w.heap.size w W) => (show TmAt W W.heap.size p #[q0, q1, q2, q3, q4, q5] from TmAt.keep (w := w) (w' := W) hW.size (fun a ha => hW.cell ha) p _ hp))
  have TAT := Lib.hid (fun (W : World) (hW : Below w.heap.size w W) => (show TmAt W W.heap.size t #[r0, r1, r2, r3, r4, r5] from TmAt.keep (w := w) (w' := W) hW.size (fun a ha => hW.cell ha) t _ ht))
  have FEW := Lib.hid (few32_two p t w1 w1.heap.size _ (Nat.le_refl _) (tms_pair w1 w1.heap.size (w.heap.size + 1 + 1) (blk_lt X2) p t q0 q1 q2 q3 q4 q5 r0 r1 r2 r3 r4 r5 (PAT.out w1 hb1) (TAT.out w1 hb1) _ X2))
  have HX0 := Lib.hid X0
  have HX1 := Lib.hid X1
  have HW1 := Lib.hid hw1
  have HS1 := Lib.hid hs1
  clear X0 X1 X2 hw1 hp ht hs1
  go_enter Try.func4, Try.ntmps4
  go_wp2_with fail
  rw [HW1.out]
  refine FEW.out.mono ?_
  rintro e w2 ⟨r, rfl, hr, hb2⟩
  have hB2 : Below w.heap.size w w2 := hb1.trans (hb2.mono hb1.size)
  have Y0 := (hb2.block _ (blk_lt HX0.out)).trans HX0.out
  have Y1 := (hb2.block _ (blk_lt HX1.out)).trans HX1.out
  have y0 : w2.cell? ⟨w.heap.size, 0, none⟩ = some q0 := blk_cell Y0 0
  have y1 : w2.cell? ⟨w.heap.size, 1, none⟩ = some q1 := blk_cell Y0 1
  have y2 : w2.cell? ⟨w.heap.size, 2, none⟩ = some q2 := blk_cell Y0 2
  have y3 : w2.cell? ⟨w.heap.size, 3, none⟩ = some q3 := blk_cell Y0 3
  have y4 : w2.cell? ⟨w.heap.size, 4, none⟩ = some q4 := blk_cell Y0 4
  have y5 : w2.cell? ⟨w.heap.size, 5, none⟩ = some q5 := blk_cell Y0 5
  have HY0 := Lib.hid Y0
  have HY1 := Lib.hid Y1
  clear Y0 Y1 HX0 HX1 hb2
  rcases hr with rfl | ⟨rfl, hsz⟩
  · go_wp2_with (go_at_call 11; ((with_reducible refine (awake35 _).mono ?_); rintro e w9 ⟨rfl, hb9⟩))
    go_ret
    exact ⟨rfl, hB2.trans (hb9.mono hB2.size)⟩
  go_wp2_with fail
  refine (ispat_any p w2 w2.heap.size _ (Nat.le_refl _) (PAT.out w2 hB2)).mono ?_
  rintro e w3 ⟨r, rfl, hr, hb3⟩
  have hB3 : Below w.heap.size w w3 := hB2.trans (hb3.mono hB2.size)
  have Z0 := (hb3.block _ (blk_lt HY0.out)).trans HY0.out
  have Z1 := (hb3.block _ (blk_lt HY1.out)).trans HY1.out
  have HPT := Lib.hid hr
  clear hr
  cases r
  · go_wp2_with (go_at_call 11; ((with_reducible refine (awake35 _).mono ?_); rintro e w9 ⟨rfl, hb9⟩))
    go_ret
    exact ⟨rfl, hB3.trans (hb9.mono hB3.size)⟩
  have HPP := Lib.hid (HPT.out rfl)
  clear HPT
  have z0 : w3.cell? ⟨w.heap.size, 0, none⟩ = some q0 := blk_cell Z0 0
  have z1 : w3.cell? ⟨w.heap.size, 1, none⟩ = some q1 := blk_cell Z0 1
  have z2 : w3.cell? ⟨w.heap.size, 2, none⟩ = some q2 := blk_cell Z0 2
  have z3 : w3.cell? ⟨w.heap.size, 3, none⟩ = some q3 := blk_cell Z0 3
  have z4 : w3.cell? ⟨w.heap.size, 4, none⟩ = some q4 := blk_cell Z0 4
  have z5 : w3.cell? ⟨w.heap.size, 5, none⟩ = some q5 := blk_cell Z0 5
  have s0 : w3.cell? ⟨w.heap.size + 1, 0, none⟩ = some r0 := blk_cell Z1 0
  have s1 : w3.cell? ⟨w.heap.size + 1, 1, none⟩ = some r1 := blk_cell Z1 1
  have s2 : w3.cell? ⟨w.heap.size + 1, 2, none⟩ = some r2 := blk_cell Z1 2
  have s3 : w3.cell? ⟨w.heap.size + 1, 3, none⟩ = some r3 := blk_cell Z1 3
  have s4 : w3.cell? ⟨w.heap.size + 1, 4, none⟩ = some r4 := blk_cell Z1 4
  have s5 : w3.cell? ⟨w.heap.size + 1, 5, none⟩ = some r5 := blk_cell Z1 5
  have HZ0 := Lib.hid Z0
  have HZ1 := Lib.hid Z1
  clear Z0 Z1 HY0 HY1 hb3 y0 y1 y2 y3 y4 y5
  go_wp2_with fail
  refine (Match_any p t w3 w3.heap.size _ _ (PAT.out w3 hB3) (TAT.out w3 hB3) (by omega) (Nat.le_refl _)).mono ?_
  rintro e w4 ⟨hb4, ⟨hno, rfl⟩ | ⟨ms, css, v, hms, rfl, ho, hcs⟩⟩
  · have hB4 : Below w.heap.size w w4 := hB3.trans (hb4.mono hB3.size)
    clear hno
    go_wp2_with (go_at_call 11; ((with_reducible refine (awake35 _).mono ?_); rintro e w9 ⟨rfl, hb9⟩))
    go_ret
    exact ⟨rfl, hB4.trans (hb9.mono hB4.size)⟩
  have hB4 : Below w.heap.size w w4 := hB3.trans (hb4.mono hB3.size)
  obtain ⟨A, c, rfl, hc1, hc2, hA⟩ := own_tms ho hcs hb4 hb4.size
  have HML := Lib.hid (pat_len p t ms HPP.out hms)
  have HBK := Lib.hid (back_any p t ms [] w4 w4.heap.size A c _ _ (Nat.le_refl _) (PAT.out w4 hB4) (TAT.out w4 hB4) HPP.out hms (by rw [List.append_nil]; exact hc1) hc2 (by rw [List.append_nil]; exact hA))
  rw [List.append_nil] at HBK
  have U0 := (hb4.block _ (blk_lt HZ0.out)).trans HZ0.out
  have U1 := (hb4.block _ (blk_lt HZ1.out)).trans HZ1.out
  have y0 : w4.cell? ⟨w.heap.size, 0, none⟩ = some q0 := blk_cell U0 0
  have y1 : w4.cell? ⟨w.heap.size, 1, none⟩ = some q1 := blk_cell U0 1
  have y2 : w4.cell? ⟨w.heap.size, 2, none⟩ = some q2 := blk_cell U0 2
  have y3 : w4.cell? ⟨w.heap.size, 3, none⟩ = some q3 := blk_cell U0 3
  have y4 : w4.cell? ⟨w.heap.size, 4, none⟩ = some q4 := blk_cell U0 4
  have y5 : w4.cell? ⟨w.heap.size, 5, none⟩ = some q5 := blk_cell U0 5
  have x0 : w4.cell? ⟨w.heap.size + 1, 0, none⟩ = some r0 := blk_cell U1 0
  have x1 : w4.cell? ⟨w.heap.size + 1, 1, none⟩ = some r1 := blk_cell U1 1
  have x2 : w4.cell? ⟨w.heap.size + 1, 2, none⟩ = some r2 := blk_cell U1 2
  have x3 : w4.cell? ⟨w.heap.size + 1, 3, none⟩ = some r3 := blk_cell U1 3
  have x4 : w4.cell? ⟨w.heap.size + 1, 4, none⟩ = some r4 := blk_cell U1 4
  have x5 : w4.cell? ⟨w.heap.size + 1, 5, none⟩ = some r5 := blk_cell U1 5
  have HU0 := Lib.hid U0
  generalize ms.length = L at *
  clear U0 U1 HZ0 HZ1 hb4 ho hcs hA hms hc1 hc2 z0 s0 z1 s1 z2 s2 z3 s3 z4 s4 z5 s5
  go_wp2_with fail
  refine HBK.out.mono ?_
  rintro e w5 ⟨A5, c5, rfl, _, _, _, hb5⟩
  have hB5 : Below w.heap.size w w5 := hB4.trans (hb5.mono hB4.size)
  have V0 := (hb5.block _ (blk_lt HU0.out)).trans HU0.out
  have z0 : w5.cell? ⟨w.heap.size, 0, none⟩ = some q0 := blk_cell V0 0
  have z1 : w5.cell? ⟨w.heap.size, 1, none⟩ = some q1 := blk_cell V0 1
  have z2 : w5.cell? ⟨w.heap.size, 2, none⟩ = some q2 := blk_cell V0 2
  have z3 : w5.cell? ⟨w.heap.size, 3, none⟩ = some q3 := blk_cell V0 3
  have z4 : w5.cell? ⟨w.heap.size, 4, none⟩ = some q4 := blk_cell V0 4
  have z5 : w5.cell? ⟨w.heap.size, 5, none⟩ = some q5 := blk_cell V0 5
  clear V0 HU0 hb5 y0 x0 y1 x1 y2 x2 y3 x3 y4 x4 y5 x5
  go_wp2_with fail
  refine (vars_any p w5 w5.heap.size _ (Nat.le_refl _) (PAT.out w5 hB5) (by omega)).mono ?_
  rintro e w6 ⟨v6, xs6, rfl, ho6, _, hb6⟩
  have hB6 : Below w.heap.size w w6 := hB5.trans (hb6.mono hB5.size)
  obtain ⟨A6, c6, rfl⟩ : ∃ A6 c6, v6 = .slice A6 L c6 := by
    rw [HML.out]
    rcases ho6.2 with ⟨e, h0⟩ | ⟨g, cap, cur, e, _⟩
    · rw [h0]; exact ⟨_, _, e⟩
    · exact ⟨_, _, e⟩
  clear ho6 hb6 z0 z1 z2 z3 z4 z5
  go_wp2_with (go_at_call 11; ((with_reducible refine (awake35 _).mono ?_); rintro e w9 ⟨rfl, hb9⟩))
  go_ret
  exact ⟨rfl, hB6.trans (hb9.mono hB6.size)⟩

theorem own : ownKnob Try.prog.godebug = none := by kernel_rfl
theorem laidOut : laidOutB Try.prog = true := by kernel_rfl
theorem open_tm {H : Type} {enc : TypeId × Value → H} {W : World} {base b0 : Nat} {spare : Nat → Bool} {held : Bool} {v : Value} {d : DataW H} {p : List MemPlace} (hv : Value.okWide Try.prog W .any b0 26 v)
    (h : DataW.Trod enc Try.prog W base spare held 26 v d p) : ∃ (t : Tm) (v0 v1 v2 v3 v4 v5 : Value), v = .agg #[v0, v1, v2, v3, v4, v5] ∧ TmAt W W.heap.size t #[v0, v1, v2, v3, v4, v5] := by
  obtain ⟨cs, rfl, hsz⟩ := okWide_struct Try.underlying26 hv
  obtain ⟨fuel, hf⟩ := h
  obtain ⟨t, ht⟩ := read_tm fuel _ _ hf
  obtain ⟨v0, v1, v2, v3, v4, v5, e⟩ := tm_six ht
  have e' : cs = #[v0, v1, v2, v3, v4, v5] := by simpa [Value.cells] using e
  subst e'
  exact ⟨t, v0, v1, v2, v3, v4, v5, rfl, by simpa [Value.cells] using ht⟩

set_option maxRecDepth 100000 in
theorem lifted (os : Os) (started : os.Started) (H : Type) (enc : TypeId × Value → H) :
    ReturnsInHanded {} Try.checked os 4 .any (Rows.primsMatchSpec.pre6 enc Try.prog Try.f4 Rows.primsMatchRow.domain false) (Rows.primsMatchSpec.post enc Try.prog Try.f4 false true false false) := by
  refine returnsInHanded_of_change (C := Try.checked) own started (by kernel_rfl) Try.func4
    (ChangeSpec.witness6 (enc := enc) (C := Try.checked) false ⟨#[], #[.agg #[.int .i64 0, .int .i64 0, .string ⟨#[]⟩, .slice none 0 0, .slice none 0 0, .slice none 0 0], .agg #[.int .i64 0, .int .i64 0, .string ⟨#[]⟩, .slice none 0 0, .slice none 0 0, .slice none 0 0]], []⟩ 8 (by kernel_rfl) (by kernel_rfl) (by kernel_rfl) (by kernel_rfl)) ?_
  intro W base args ds gs before hval0 hW hcnd _
  have hval : ∀ (j : Nat) t v, Try.f4.params[j]? = some t → args[j]? = some v → Value.okWide Try.prog W .any base t v := hval0
  have hW' := hW
  obtain ⟨p, q, hA0, hV, rfl, hfz, hnd⟩ := hW
  have hA : DataW.TrodAll enc Try.prog W 0 (fun _ => true) true Try.f4.params.toList args.toList ds p := hA0
  rw [Try.params4] at hA hval
  have hA1 := hA
  obtain ⟨v0, vs0, d0, ds0, p0, q0, hargs, rfl, rfl, h0, r0⟩ := trodAll_cons hA
  obtain ⟨v1, vs1, d1, ds1, p1, q1, rfl, rfl, rfl, h1, r1⟩ := trodAll_cons r0
  obtain ⟨rfl, rfl, rfl⟩ := trodAll_nil r1
  obtain rfl : args = #[v0, v1] := by cases args; simp_all
  obtain ⟨rfl, rfl⟩ := trodVars_none hV
  obtain ⟨ta, a0, a1, a2, a3, a4, a5, rfl, ha⟩ := open_tm (hval 0 26 v0 rfl rfl) h0
  obtain ⟨tb, b0, b1, b2, b3, b4, b5, rfl, hb⟩ := open_tm (hval 1 26 v1 rfl rfl) h1
  clear hA0 hval0
  simp only [List.append_nil] at hW'
  have hlt : ∀ x ∈ p0 ++ (p1 ++ []), x.block < W.heap.size := fun x hx => by simpa using hW'.lt x (by simpa using hx)
  refine (walk ta tb _ _ _ _ _ _ _ _ _ _ _ _ W ha hb).mono fun e W' ⟨he, bel⟩ => ?_
  subst he
  refine ⟨_, rfl, _, _, _, [], _, [], hW', trodAll_mk1 (shut_bool Try.underlying4 _), trodAll_below laidOut bel ?_ hlt hA1, rfl, bel.frame _, fun h => by cases h⟩
  intro t ht
  simp at ht
  subst ht
  exact ⟨by kernel_rfl, of_decide_eq_true (by kernel_rfl)⟩

theorem over : Rows.primsMatchRow.holds Try.pinned (OpenSpec.ofChange Rows.primsMatchSpec) :=
  OpenClaim.holds_of_wide 4 Try.f4 rfl rfl rfl rfl rfl rfl rfl ⟨rfl, rfl, rfl, rfl, rfl⟩ rfl rfl rfl rfl rfl (by kernel_rfl) Try.func4 (by kernel_rfl)
    (of_decide_eq_true (by kernel_rfl)) (by unfold Func.isWrapper; first | (rw [if_pos (by decide +kernel)]; kernel_rfl) | (rw [if_neg (by decide +kernel)]; exact ⟨rfl, rfl⟩))
    (fun os started H enc _ => lifted os started H enc)
end Go.Proofs.Ytipeggpolnnpmaa.primsMatch
namespace Go.Proofs.Ytipeggpolnnpmaa
theorem primsMatch_holds : Rows.PrimsMatchSaid := primsMatch.over
#print axioms primsMatch_holds
end Go.Proofs.Ytipeggpolnnpmaa
