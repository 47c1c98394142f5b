/-
  The walk of prims.match at a constructor's pattern; prims.match and prims.Match at any.
-/
import Derived.Test.YtipeggpolnnpmaaPrimsMatch
import Derived.Deep.RegionHeld3
namespace Go.Proofs.Ytipeggpolnnpmaa
open Go.RowKit
set_option linter.unusedVariables false

/-- What the loop over the kids has come to. -/
def MLoop (B n : Nat) (xs : List Value) (v : Value) (pks tks : List Tm) (w w0 : World) (a b c : Value) (wr : World) : Prop :=
  ∃ (j nj : Nat) (xj : List Value), j ≤ pks.length ∧ c = .int .i64 j ∧ wr.ownsRow B 26 6 a nj xj ∧ nj ≤ n + tsizes (pks.take j) ∧ w0.grownBy wr v.ownBlock ∧ (a.ownBlock = v.ownBlock ∨ ∃ g, a.ownBlock = some g ∧ w0.heap.size ≤ g)
    ∧ ((b = .bool true ∧ ∃ ms css, matchTs (pks.take j) (tks.take j) = some ms ∧ nj = n + ms.length ∧ TmCs w B ms css ∧ xj = xs ++ flat css) ∨ (b = .bool false ∧ matchTs pks tks = none))

theorem Below.of_grown {B : Nat} {w w' : World} {row : Option Nat} (h : w.grownBy w' row) (hB : B ≤ w.heap.size) (hr : ∀ g, row = some g → B ≤ g) : Below B w w' := (Below.refl B w).grown h hB hr

theorem grown_chain {a b c : World} {v u : Option Nat} (h : a.grownBy b v) (k : b.grownBy c u) (hu : u = v ∨ ∃ g, u = some g ∧ a.heap.size ≤ g) : a.grownBy c v :=
  ⟨k.os.trans h.os, k.tape.trans h.tape, k.output.trans h.output, Nat.le_trans h.size k.size, fun i hi hne => by
    rw [k.block i (Nat.lt_of_lt_of_le hi h.size) (fun e => by
      rcases hu with e' | ⟨g, e', hg⟩
      · exact hne (e.trans e')
      · rw [e'] at e; cases e; omega), h.block i hi hne]⟩
theorem own_chain {r u v : Option Nat} {x y : Nat} (hxy : x ≤ y) (h : r = u ∨ ∃ g, r = some g ∧ y ≤ g) (k : u = v ∨ ∃ g, u = some g ∧ x ≤ g) : r = v ∨ ∃ g, r = some g ∧ x ≤ g := by
  rcases h with rfl | ⟨g, e, hg⟩
  · exact k
  · exact .inr ⟨g, e, by omega⟩

set_option maxRecDepth 100000 in
set_option maxHeartbeats 2000000 in
theorem match_con (B n : Nat) (xs : List Value) (v : Value) (pn : Int) (ps : ByteArray) (P1 P2 P3 : Option Addr) (p1 p2 d1 d2 d3 : Nat) (tn : Int) (ts : ByteArray) (A1 A2 A3 : Option Addr) (l1 l2 c1 c2 c3 : Nat) (pks tks : List Tm) (w : World)
    (ih : ∀ p ∈ pks, ∀ (t : Tm) (w : World) (B n : Nat) (xs : List Value) (v : Value) (cs ds : Array Value), TmAt w B p cs → TmAt w B t ds → w.ownsRow B 26 6 v n xs → n + tsize p ≤ 1000000 → B ≤ w.heap.size → Calls Try.prog 29 #[v, .agg cs, .agg ds] w (MatchPost B n xs v p t w))
    (hname : ts.data.toList = ps.data.toList) (hlen : tks.length = pks.length) (hl : pks.length ≤ maxLen) (hp : TmsAt w B pks P3) (ht : TmsAt w B tks A3) (hown : w.ownsRow B 26 6 v n xs) (hn : n + tsizes pks ≤ 1000000) (hB : B ≤ w.heap.size) :
    Calls Try.prog 29 #[v, .agg #[.int .i64 24, .int .i64 pn, .string ps, .slice P1 p1 d1, .slice P2 p2 d2, .slice P3 pks.length d3], .agg #[.int .i64 7, .int .i64 tn, .string ts, .slice A1 l1 c1, .slice A2 l2 c2, .slice A3 tks.length c3]] w fun e w' => ∃ v' n' xs' ok, e = .returned (.tuple #[v', .bool ok]) ∧ w'.ownsRow B 26 6 v' n' xs' ∧ n' ≤ n + tsizes pks ∧ w.grownBy w' v.ownBlock ∧ (v'.ownBlock = v.ownBlock ∨ ∃ g, v'.ownBlock = some g ∧ w.heap.size ≤ g)
    ∧ ok = (matchTs pks tks).isSome ∧ (∀ ms, matchTs pks tks = some ms → n' = n + ms.length ∧ ∃ css, TmCs w B ms css ∧ xs' = xs ++ flat css) := by
  have IH := Lib.hid ih
  have HP := Lib.hid hp
  have HT := Lib.hid ht
  have HO := Lib.hid hown
  have HLN := Lib.hid hlen
  have q4 : (ts.toList == ps.toList) = true := by rw [ByteArray.toList_eq, ByteArray.toList_eq, hname]; simp
  have q5 : (tks.length == pks.length) = true := by rw [hlen]; simp
  have q6 : ((tks.length : Int) == (pks.length : Int)) = true := by rw [hlen]; simp
  have hlt1 : tks.length ≤ pks.length := by omega
  have hlt2 : pks.length ≤ tks.length := by omega
  unfold maxLen at hl
  clear ih hp ht hown hname hlen
  obtain ⟨w0, hw0⟩ : ∃ w0, (w.alloc (.cells #[.int .i64 24, .int .i64 pn, .string ps, .slice P1 p1 d1, .slice P2 p2 d2, .slice P3 pks.length d3] 26)).alloc (.cells #[.int .i64 7, .int .i64 tn, .string ts, .slice A1 l1 c1, .slice A2 l2 c2, .slice A3 tks.length c3] 26) = w0 := ⟨_, rfl⟩
  have hg0 : w.grownBy w0 v.ownBlock := by rw [← hw0]; exact grownBy_alloc (grownBy_alloc (World.grownBy.refl w _) _) _
  have X0 : w0.heap[w.heap.size]? = some (.cells #[.int .i64 24, .int .i64 pn, .string ps, .slice P1 p1 d1, .slice P2 p2 d2, .slice P3 pks.length d3] 26 (0, 0)) := by rw [← hw0]; exact blk_alloc (blk_new w _) _
  have X1 : w0.heap[w.heap.size + 1]? = some (.cells #[.int .i64 7, .int .i64 tn, .string ts, .slice A1 l1 c1, .slice A2 l2 c2, .slice A3 tks.length c3] 26 (0, 0)) := by rw [← hw0]; have := blk_new (w.alloc (.cells #[.int .i64 24, .int .i64 pn, .string ps, .slice P1 p1 d1, .slice P2 p2 d2, .slice P3 pks.length d3] 26)) (.cells #[.int .i64 7, .int .i64 tn, .string ts, .slice A1 l1 c1, .slice A2 l2 c2, .slice A3 tks.length c3] 26); rwa [World.size_alloc] at this
  have hs0 : w0.heap.size = w.heap.size + 1 + 1 := by rw [← hw0]; simp
  have hO0 : w0.ownsRow B 26 6 v n xs := by rw [← hw0]; exact (HO.out.alloc _).alloc _
  have HX0 := Lib.hid X0
  have HX1 := Lib.hid X1
  have HS0 := Lib.hid hs0
  have HO0 := Lib.hid hO0
  have HW0 := Lib.hid hw0
  have HG0 := Lib.hid hg0
  clear X0 X1 hs0 hO0 hw0 hg0
  go_enter Try.func29, Try.ntmps29
  go_wp2
  rw [HW0.out]
  go_loopw [0, 8, 9] (fun a b c wr => MLoop B n xs v pks tks w w0 a b c wr) (fun _ _ c _ => pks.length - (intOf c).toNat)
  case atStart => exact ⟨0, n, xs, Nat.zero_le _, rfl, HO0.out, by simp, World.grownBy.refl _ _, .inl rfl, .inl ⟨rfl, [], [], by simp [matchTs], by simp, trivial, by simp [flat]⟩⟩
  case round =>
    obtain ⟨j, nj, xj, hj, rfl, hoj, hnj, hgj, hbj, hst⟩ := hrel
    have hvb : ∀ g, v.ownBlock = some g → B ≤ g ∧ g < w.heap.size := fun g hg => HO.out.lt g hg
    have y0 : wr.heap[w.heap.size]? = some (.cells #[.int .i64 24, .int .i64 pn, .string ps, .slice P1 p1 d1, .slice P2 p2 d2, .slice P3 pks.length d3] 26 (0, 0)) := blk_kept HX0.out hgj (fun e => by have := (hvb _ e.symm).2; omega)
    have y1 : wr.heap[w.heap.size + 1]? = some (.cells #[.int .i64 7, .int .i64 tn, .string ts, .slice A1 l1 c1, .slice A2 l2 c2, .slice A3 tks.length c3] 26 (0, 0)) := blk_kept HX1.out hgj (fun e => by have := (hvb _ e.symm).2; omega)
    have hgw : w.grownBy wr v.ownBlock := HG0.out.trans hgj
    have hbel : Below B w wr := Below.of_grown hgw hB (fun g hg => (hvb g hg).1)
    have z0 : wr.cell? ⟨w.heap.size, 5, none⟩ = some (.slice P3 pks.length d3) := blk_cell y0 5
    have z1 : wr.cell? ⟨w.heap.size + 1, 5, none⟩ = some (.slice A3 tks.length c3) := blk_cell y1 5
    have HOJ := Lib.hid hoj
    have HGJ := Lib.hid hgj
    have HBJ := Lib.hid hbj
    have HGW := Lib.hid hgw
    have HVB := Lib.hid hvb
    clear y0 y1 hoj hgj hbj hgw hvb
    rcases hst with ⟨rfl, ms, css, hms, hnn, hcs, hxx⟩ | ⟨rfl, hno⟩
    · have HMS := Lib.hid hms
      have HNN := Lib.hid hnn
      have HCS := Lib.hid hcs
      have HXX := Lib.hid hxx
      clear hms hnn hcs hxx
      by_cases hlt : j < pks.length
      · obtain ⟨a, v0, v1, v2, v3, v4, v5, rfl, ha, e0, e1, e2, e3, e4, e5, hty⟩ := (TmsAt.below hbel HP.out).get j hlt
        obtain ⟨a', s0, s1, s2, s3, s4, s5, rfl, ha', f0, f1, f2, f3, f4, f5, hty'⟩ := (TmsAt.below hbel HT.out).get j (by omega)
        have HY := Lib.hid hty
        have HY' := Lib.hid hty'
        clear hty hty'
        have hlj : j < tks.length := by omega
        have hts := tsizes_take pks (j + 1)
        rw [take_snocT pks j hlt, tsizes_snoc] at hts
        have hub : ∀ g, u0.ownBlock = some g → B ≤ g ∧ g ≠ w.heap.size ∧ g ≠ w.heap.size + 1 := fun g hg => by
          refine ⟨(HOJ.out.lt g hg).1, ?_, ?_⟩
          · rcases HBJ.out with e | ⟨g', e, hl⟩
            · have := (HVB.out g (e ▸ hg)).2; omega
            · rw [e] at hg; cases hg; have := HS0.out; omega
          · rcases HBJ.out with e | ⟨g', e, hl⟩
            · have := (HVB.out g (e ▸ hg)).2; omega
            · rw [e] at hg; cases hg; have := HS0.out; omega
        have HUB := Lib.hid hub
        have hzw := HGW.out.size
        have hz1 := World.block_lt_of_cell? wr _ z1
        have KEEP := Lib.hid (fun (w2 : World) (hg : wr.drew.grownBy w2 u0.ownBlock) (p : Addr) (x : Value) (hp : wr.cell? p = some x) (hne : p.block < B ∨ p.block = w.heap.size ∨ p.block = w.heap.size + 1) =>
          (show w2.cell? p = some x from (World.cell?_of_block (hg.block p.block (World.block_lt_of_cell? wr p hp) (fun e => by have := HUB.out _ e.symm; omega))).trans hp))
        clear hub
        go_wp2
        go_region_held3 (fun w' => w'.cell? ⟨w.heap.size, 5, none⟩ = some (.slice (some a) pks.length d3) ∧ w'.cell? ⟨w.heap.size + 1, 5, none⟩ = some (.slice (some a') tks.length c3) ∧ w'.cell? (a.add (j * 6)) = some v0 ∧ w'.cell? ⟨(a.add (j * 6)).block, (a.add (j * 6)).off + 1, none⟩ = some v1 ∧ w'.cell? ⟨(a.add (j * 6)).block, (a.add (j * 6)).off + 2, none⟩ = some v2 ∧ w'.cell? ⟨(a.add (j * 6)).block, (a.add (j * 6)).off + 3, none⟩ = some v3 ∧ w'.cell? ⟨(a.add (j * 6)).block, (a.add (j * 6)).off + 4, none⟩ = some v4 ∧ w'.cell? ⟨(a.add (j * 6)).block, (a.add (j * 6)).off + 5, none⟩ = some v5 ∧ w'.cell? (a'.add (j * 6)) = some s0 ∧ w'.cell? ⟨(a'.add (j * 6)).block, (a'.add (j * 6)).off + 1, none⟩ = some s1 ∧ w'.cell? ⟨(a'.add (j * 6)).block, (a'.add (j * 6)).off + 2, none⟩ = some s2 ∧ w'.cell? ⟨(a'.add (j * 6)).block, (a'.add (j * 6)).off + 3, none⟩ = some s3 ∧ w'.cell? ⟨(a'.add (j * 6)).block, (a'.add (j * 6)).off + 4, none⟩ = some s4 ∧ w'.cell? ⟨(a'.add (j * 6)).block, (a'.add (j * 6)).off + 5, none⟩ = some s5) (first | go_keep | exact ⟨KEEP.out _ HG2.out _ _ z0 (.inr (.inl rfl)), KEEP.out _ HG2.out _ _ z1 (.inr (.inr rfl)), KEEP.out _ HG2.out _ _ e0 (.inl (by rw [blk_add]; exact ha)), KEEP.out _ HG2.out _ _ e1 (.inl (by rw [blk_add]; exact ha)), KEEP.out _ HG2.out _ _ e2 (.inl (by rw [blk_add]; exact ha)), KEEP.out _ HG2.out _ _ e3 (.inl (by rw [blk_add]; exact ha)), KEEP.out _ HG2.out _ _ e4 (.inl (by rw [blk_add]; exact ha)), KEEP.out _ HG2.out _ _ e5 (.inl (by rw [blk_add]; exact ha)), KEEP.out _ HG2.out _ _ f0 (.inl (by rw [blk_add]; exact ha')), KEEP.out _ HG2.out _ _ f1 (.inl (by rw [blk_add]; exact ha')), KEEP.out _ HG2.out _ _ f2 (.inl (by rw [blk_add]; exact ha')), KEEP.out _ HG2.out _ _ f3 (.inl (by rw [blk_add]; exact ha')), KEEP.out _ HG2.out _ _ f4 (.inl (by rw [blk_add]; exact ha')), KEEP.out _ HG2.out _ _ f5 (.inl (by rw [blk_add]; exact ha'))⟩)
          (first | (go_at_call 29; refine (IH.out pks[j] (List.getElem_mem hlt) tks[j] wr.drew B nj xj u0 _ _ HY.out.drew HY'.out.drew HOJ.out.drew (by omega) (by exact Nat.le_trans hB hzw)).mono ?_; rintro e w2 ⟨r2, n2, x2, ok2, rfl, ho2, hn2, hg2, hb2, hok2, hms2⟩; have HO2 := Lib.hid ho2; have HG2 := Lib.hid hg2; have HB2 := Lib.hid hb2; have HK2 := Lib.hid hok2; have HM2 := Lib.hid hms2; clear ho2 hg2 hb2 hok2 hms2))
        go_wp2
        go_roundw
        case rel =>
          have hsn := matchs_snoc (pks.take j) (tks.take j) pks[j] tks[j] (by simp; omega)
          rw [← take_snocT pks j hlt, ← take_snocT tks j hlj, HMS.out] at hsn
          refine ⟨j + 1, n2, x2, by omega, by go_num, HO2.out, ?_, grown_chain HGJ.out ⟨HG2.out.os, HG2.out.tape, HG2.out.output, HG2.out.size, HG2.out.block⟩ HBJ.out, own_chain HGJ.out.size HB2.out HBJ.out, ?_⟩
          · rw [take_snocT pks j hlt, tsizes_snoc]; omega
          · cases hm : matchT pks[j] tks[j] with
            | none =>
              rw [hm] at hsn
              refine .inr ⟨by rw [HK2.out, hm]; rfl, matchs_take_none pks tks (j + 1) HLN.out.symm hsn⟩
            | some l =>
              rw [hm] at hsn
              obtain ⟨en, css2, hc2, ex⟩ := HM2.out l hm
              refine .inl ⟨by rw [HK2.out, hm]; rfl, ms ++ l, css ++ css2, hsn, ?_, HCS.out.append (TmCs.keep (w := wr.drew) (w' := w) (Nat.le_refl _) (fun p hp => (hbel.cell hp).symm) hc2), ?_⟩
              · have := HNN.out; simp; omega
              · rw [ex, HXX.out, flat_append, List.append_assoc]
        case measure => simp [intOf]; omega
      · have hall : matchTs pks tks = some ms := by
          have := HMS.out
          rwa [List.take_of_length_le (by omega), List.take_of_length_le (by omega)] at this
        have HALL := Lib.hid hall
        clear hall
        go_wp2
        go_ret2
        refine ⟨u0, nj, xj, true, rfl, HOJ.out, ?_, HGW.out, own_chain HG0.out.size HBJ.out (.inl rfl), by rw [HALL.out]; rfl, ?_⟩
        · have := tsizes_take pks j; omega
        · intro ms' h'
          rw [HALL.out] at h'
          cases h'
          exact ⟨HNN.out, css, HCS.out, HXX.out⟩
    · have HNO := Lib.hid hno
      clear hno
      go_wp2
      go_ret2
      refine ⟨u0, nj, xj, false, rfl, HOJ.out, ?_, HGW.out, own_chain HG0.out.size HBJ.out (.inl rfl), by rw [HNO.out]; rfl, ?_⟩
      · have := tsizes_take pks j; omega
      · intro ms' h'
        rw [HNO.out] at h'
        cases h'

/-- prims.match, at any pattern and any term. -/
theorem match_any : ∀ (p t : Tm) (w : World) (B n : Nat) (xs : List Value) (v : Value) (cs ds : Array Value), TmAt w B p cs → TmAt w B t ds → w.ownsRow B 26 6 v n xs → n + tsize p ≤ 1000000 → B ≤ w.heap.size → Calls Try.prog 29 #[v, .agg cs, .agg ds] w (MatchPost B n xs v p t w) := by
  refine Tm.ind ?_
  intro pk pn ps pvs pts pks ih t w B n xs v cs ds hp ht hown hn hB
  have ht' := ht
  obtain ⟨tk, tn, ts, tvs, tts, tks⟩ := t
  unfold TmAt at hp ht
  obtain ⟨P1, d1, P2, d2, P3, d3, rfl, m1, m2, m3, _, _, hpk⟩ := hp
  obtain ⟨A1, c1, A2, c2, A3, c3, rfl, _, _, _, _, _, htk⟩ := ht
  have hts : tsize (.mk pk pn ps pvs pts pks) = 1 + tsizes pks := by unfold tsize; rfl
  have hgn : ∀ w', w.grownBy w' none → w.grownBy w' v.ownBlock := fun w' h => ⟨h.os, h.tape, h.output, h.size, fun i hi _ => h.block i hi (by simp)⟩
  have hkeep : ∀ w', w.grownBy w' none → w'.ownsRow B 26 6 v n xs := fun w' h => hown.kept h (Classical.em _)
  by_cases k1 : pk = 21
  · subst k1
    have hm : matchT (.mk 21 pn ps pvs pts pks) (.mk tk tn ts tvs tts tks) = some [.mk tk tn ts tvs tts tks] := by unfold matchT; rfl
    refine (match_var B n xs v pn ps P1 P2 P3 _ _ _ d1 d2 d3 tk tn ts A1 A2 A3 _ _ _ c1 c2 c3 w hown (by omega) hB).mono ?_
    rintro e w' ⟨v', rfl, ho, hg, hb⟩
    refine ⟨v', n + 1, _, true, rfl, ho, by omega, hg, hb, by rw [hm]; rfl, ?_⟩
    intro ms h
    rw [hm] at h
    cases h
    exact ⟨rfl, [_], ⟨ht', trivial⟩, by simp [flat]⟩
  by_cases k2 : pk = 22
  · subst k2
    have hm : matchT (.mk 22 pn ps pvs pts pks) (.mk tk tn ts tvs tts tks) = some [] := by unfold matchT; rfl
    refine (match_any22 v pn ps P1 P2 P3 _ _ _ d1 d2 d3 tk tn ts A1 A2 A3 _ _ _ c1 c2 c3 w).mono ?_
    rintro e w' ⟨rfl, hg⟩
    refine ⟨v, n, xs, true, rfl, hkeep _ hg, by omega, hgn _ hg, .inl rfl, by rw [hm]; rfl, ?_⟩
    intro ms h
    rw [hm] at h
    cases h
    exact ⟨rfl, [], trivial, by simp [flat]⟩
  by_cases k3 : pk = 23
  · subst k3
    by_cases j1 : tk = 2
    · subst j1
      by_cases j2 : tn = pn
      · have hm : matchT (.mk 23 pn ps pvs pts pks) (.mk 2 tn ts tvs tts tks) = some [] := by
          unfold matchT
          rw [if_neg k1, if_neg k2, if_pos rfl, if_pos ⟨rfl, j2⟩]
        refine (match_int_yes v pn ps P1 P2 P3 _ _ _ d1 d2 d3 tn ts A1 A2 A3 _ _ _ c1 c2 c3 w j2).mono ?_
        rintro e w' ⟨rfl, hg⟩
        refine ⟨v, n, xs, true, rfl, hkeep _ hg, by omega, hgn _ hg, .inl rfl, by rw [hm]; rfl, ?_⟩
        intro ms h
        rw [hm] at h
        cases h
        exact ⟨rfl, [], trivial, by simp [flat]⟩
      · have hm : matchT (.mk 23 pn ps pvs pts pks) (.mk 2 tn ts tvs tts tks) = none := by
          unfold matchT
          rw [if_neg k1, if_neg k2, if_pos rfl, if_neg (fun h => j2 h.2)]
        refine (match_int_no v pn ps P1 P2 P3 _ _ _ d1 d2 d3 tn ts A1 A2 A3 _ _ _ c1 c2 c3 w j2).mono ?_
        rintro e w' ⟨rfl, hg⟩
        refine ⟨v, n, xs, false, rfl, hkeep _ hg, by omega, hgn _ hg, .inl rfl, by rw [hm]; rfl, ?_⟩
        intro ms h
        rw [hm] at h
        cases h
    · have hm : matchT (.mk 23 pn ps pvs pts pks) (.mk tk tn ts tvs tts tks) = none := by
        unfold matchT
        rw [if_neg k1, if_neg k2, if_pos rfl, if_neg (fun h => j1 h.1)]
      refine (match_int_non v pn ps P1 P2 P3 _ _ _ d1 d2 d3 tk tn ts A1 A2 A3 _ _ _ c1 c2 c3 w j1).mono ?_
      rintro e w' ⟨rfl, hg⟩
      refine ⟨v, n, xs, false, rfl, hkeep _ hg, by omega, hgn _ hg, .inl rfl, by rw [hm]; rfl, ?_⟩
      intro ms h
      rw [hm] at h
      cases h
  by_cases k4 : pk = 24 ∧ tk = 7 ∧ ts.data.toList = ps.data.toList ∧ tks.length = pks.length
  · have hm : matchT (.mk pk pn ps pvs pts pks) (.mk tk tn ts tvs tts tks) = matchTs pks tks := by
      unfold matchT
      rw [if_neg k1, if_neg k2, if_neg k3]
      exact if_pos k4
    obtain ⟨rfl, rfl, j3, j4⟩ := k4
    refine (match_con B n xs v pn ps P1 P2 P3 _ _ d1 d2 d3 tn ts A1 A2 A3 _ _ c1 c2 c3 pks tks w ih j3 j4 m3 hpk htk hown (by omega) hB).mono ?_
    rintro e w' ⟨v', n', xs', ok, rfl, ho, hn', hg, hb, hok, hms⟩
    refine ⟨v', n', xs', ok, rfl, ho, by omega, hg, hb, by rw [hm]; exact hok, ?_⟩
    rw [hm]
    exact hms
  · have hm : matchT (.mk pk pn ps pvs pts pks) (.mk tk tn ts tvs tts tks) = none := by
      unfold matchT
      rw [if_neg k1, if_neg k2, if_neg k3]
      exact if_neg k4
    refine (match_other v pk pn ps P1 P2 P3 _ _ _ d1 d2 d3 tk tn ts A1 A2 A3 _ _ _ c1 c2 c3 w k1 k2 k3 k4).mono ?_
    rintro e w' ⟨rfl, hg⟩
    refine ⟨v, n, xs, false, rfl, hkeep _ hg, by omega, hgn _ hg, .inl rfl, by rw [hm]; rfl, ?_⟩
    intro ms h
    rw [hm] at h
    cases h

def MatchedPost (B : Nat) (p t : Tm) (w : World) (e : Ending) (w' : World) : Prop :=
  Below B w w' ∧ ((matchT p t = none ∧ e = .returned (.tuple #[.slice none 0 0, .bool false])) ∨ (∃ ms css v, matchT p t = some ms ∧ e = .returned (.tuple #[v, .bool true]) ∧ w'.ownsRow B 26 6 v ms.length (flat css) ∧ TmCs w B ms css))

set_option maxRecDepth 100000 in
set_option maxHeartbeats 1000000 in
theorem Match_mk (p t : Tm) (w : World) (B : Nat) (q0 q1 q2 q3 q4 q5 r0 r1 r2 r3 r4 r5 : Value) (hp : TmAt w B p #[q0, q1, q2, q3, q4, q5]) (ht : TmAt w B t #[r0, r1, r2, r3, r4, r5]) (hn : tsize p ≤ 1000000) (hB : B ≤ w.heap.size) :
    Calls Try.prog 14 #[.agg #[q0, q1, q2, q3, q4, q5], .agg #[r0, r1, r2, r3, r4, r5]] w (MatchedPost B p t w) := by
  have HP := Lib.hid hp
  have HT := Lib.hid ht
  obtain ⟨w0, hw0⟩ : ∃ w0, (w.alloc (.cells #[q0, q1, q2, q3, q4, q5] 26)).alloc (.cells #[r0, r1, r2, r3, r4, r5] 26) = w0 := ⟨_, rfl⟩
  have hb0 : Below w.heap.size w w0 := by rw [← hw0]; exact ((Below.refl _ w).alloc (Nat.le_refl _) _).alloc (by simp) _
  have hs0 : w.heap.size ≤ w0.heap.size := by rw [← hw0]; simp; omega
  have HW0 := Lib.hid hw0
  clear hp ht hw0
  go_enter Try.func14, Try.ntmps14
  go_wp2_with fail
  rw [HW0.out]
  refine (match_any p t w0 B 0 [] (.slice none 0 0) _ _ (TmAt.below (hb0.mono hB) HP.out) (TmAt.below (hb0.mono hB) HT.out) (World.ownsRow_nil _ _ _ _) (by omega) (by omega)).mono ?_
  rintro e w1 ⟨v', n', xs', ok, rfl, ho, hn', hg, hb, hok, hms⟩
  have hb1 : Below B w w1 := (hb0.mono hB).trans (Below.of_grown hg (by omega) (fun g e => by simp [Value.ownBlock] at e))
  have HO := Lib.hid ho
  have HM := Lib.hid hms
  have HOK := Lib.hid hok
  clear ho hms hok hg hb
  cases hm : matchT p t with
  | none =>
    obtain rfl : ok = false := by rw [HOK.out, hm]; rfl
    have HH := Lib.hid hm
    clear hm
    go_wp2
    go_ret2
    exact ⟨hb1, .inl ⟨HH.out, rfl⟩⟩
  | some ms =>
    obtain rfl : ok = true := by rw [HOK.out, hm]; rfl
    obtain ⟨en, css, hcs, ex⟩ := HM.out ms hm
    rw [Nat.zero_add] at en
    subst en
    rw [List.nil_append] at ex
    subst ex
    have HH := Lib.hid hm
    have HC := Lib.hid (TmCs.keep (w := w0) (w' := w) (Nat.le_refl B) (fun p hp => ((hb0.mono hB).cell hp).symm) hcs)
    clear hm hcs
    go_wp2
    go_ret2
    exact ⟨hb1, .inr ⟨ms, css, v', HH.out, rfl, HO.out, HC.out⟩⟩

/-- prims.Match, at any pattern and any term. -/
theorem Match_any (p t : Tm) (w : World) (B : Nat) (cs ds : Array Value) (hp : TmAt w B p cs) (ht : TmAt w B t ds) (hn : tsize p ≤ 1000000) (hB : B ≤ w.heap.size) :
    Calls Try.prog 14 #[.agg cs, .agg ds] w (MatchedPost B p t w) := by
  have hp' := hp
  have ht' := ht
  obtain ⟨pk, pn, ps, pvs, pts, pks⟩ := p
  obtain ⟨tk, tn, ts, tvs, tts, tks⟩ := t
  unfold TmAt at hp ht
  obtain ⟨P1, d1, P2, d2, P3, d3, rfl, m1, m2, m3, _, _, hpk⟩ := hp
  obtain ⟨A1, c1, A2, c2, A3, c3, rfl, _, _, _, _, _, htk⟩ := ht
  exact Match_mk _ _ w B _ _ _ _ _ _ _ _ _ _ _ _ hp' ht' hn hB
end Go.Proofs.Ytipeggpolnnpmaa
