/-
  What a pattern takes, as plain functions on trees.
-/
import Derived.Test.YtipeggpolnnpmaaPrimsTree
namespace Go.Proofs.Ytipeggpolnnpmaa
open Go.RowKit
set_option linter.unusedVariables false

def Tm.kind : Tm → Int | .mk k _ _ _ _ _ => k
def Tm.num : Tm → Int | .mk _ n _ _ _ _ => n
def Tm.name : Tm → ByteArray | .mk _ _ s _ _ _ => s
def Tm.kids : Tm → List Tm | .mk _ _ _ _ _ ks => ks

mutual
/-- How many nodes there are. -/
def tsize : Tm → Nat
  | .mk _ _ _ _ _ ks => 1 + tsizes ks
def tsizes : List Tm → Nat
  | [] => 0
  | t :: r => tsize t + tsizes r
end

mutual
/-- What a pattern takes. -/
def matchT : Tm → Tm → Option (List Tm)
  | .mk pk pn ps _ _ pks, t =>
    if pk = 21 then some [t] else if pk = 22 then some [] else if pk = 23 then (if t.kind = 2 ∧ t.num = pn then some [] else none)
    else if pk = 24 ∧ t.kind = 7 ∧ t.name.data.toList = ps.data.toList ∧ t.kids.length = pks.length then matchTs pks t.kids else none
def matchTs : List Tm → List Tm → Option (List Tm)
  | [], _ => some []
  | p :: ps, ts => match matchT p (ts.headD (.mk 0 0 ⟨#[]⟩ [] [] [])) with
    | none => none
    | some l => (match matchTs ps ts.tail with | none => none | some m => some (l ++ m))
end

mutual
/-- A pattern's shape. -/
def IsPat : Tm → Prop
  | .mk k _ _ _ _ ks => (k = 21 ∧ ks = []) ∨ (k = 22 ∧ ks = []) ∨ (k = 23 ∧ ks = []) ∨ (k = 24 ∧ ArePats ks)
def ArePats : List Tm → Prop
  | [] => True
  | p :: r => IsPat p ∧ ArePats r
end

mutual
/-- How many variables a pattern has. -/
def nvars : Tm → Nat
  | .mk k _ _ _ _ ks => if k = 21 then 1 else nvarss ks
def nvarss : List Tm → Nat
  | [] => 0
  | p :: r => nvars p + nvarss r
end

mutual
theorem nvars_le : ∀ p : Tm, nvars p ≤ tsize p
  | .mk k _ _ _ _ ks => by
    unfold nvars tsize
    have := nvarss_le ks
    split <;> omega
theorem nvarss_le : ∀ l : List Tm, nvarss l ≤ tsizes l
  | [] => by unfold nvarss; omega
  | p :: r => by
    unfold nvarss tsizes
    have := nvars_le p
    have := nvarss_le r
    omega
end

mutual
theorem match_len : ∀ (p t : Tm) (ms : List Tm), matchT p t = some ms → ms.length ≤ nvars p
  | .mk pk pn ps pv pt pks, t, ms, h => by
    unfold matchT at h
    unfold nvars
    split at h
    · rename_i e; cases h; rw [if_pos e]; simp
    · rename_i e
      rw [if_neg e]
      split at h
      · cases h; simp
      · split at h
        · split at h
          · cases h; simp
          · cases h
        · split at h
          · exact matchs_len pks t.kids ms h
          · cases h
theorem matchs_len : ∀ (ps ts : List Tm) (ms : List Tm), matchTs ps ts = some ms → ms.length ≤ nvarss ps
  | [], ts, ms, h => by unfold matchTs at h; cases h; simp
  | p :: ps, ts, ms, h => by
    unfold matchTs at h
    unfold nvarss
    split at h
    · cases h
    · rename_i l hl
      split at h
      · cases h
      · rename_i m hm
        cases h
        have := match_len p _ l hl
        have := matchs_len ps ts.tail m hm
        simp; omega
end

mutual
theorem pat_len : ∀ (p t : Tm) (ms : List Tm), IsPat p → matchT p t = some ms → ms.length = nvars p
  | .mk pk pn ps pv pt pks, t, ms, hp, h => by
    unfold matchT at h
    unfold nvars
    unfold IsPat at hp
    split at h
    · rename_i e; cases h; rw [if_pos e]; simp
    · rename_i e
      rw [if_neg e]
      split at h
      · rename_i e2
        cases h
        rcases hp with hp | hp | hp | hp
        · exact absurd hp.1 e
        · rw [hp.2]; unfold nvarss; rfl
        · omega
        · omega
      · split at h
        · rename_i e2 e3
          split at h
          · cases h
            rcases hp with hp | hp | hp | hp
            · exact absurd hp.1 e
            · omega
            · rw [hp.2]; unfold nvarss; rfl
            · omega
          · cases h
        · rename_i e2 e3
          split at h
          · rcases hp with hp | hp | hp | hp
            · exact absurd hp.1 e
            · omega
            · omega
            · exact pats_len pks t.kids ms hp.2 h
          · cases h
theorem pats_len : ∀ (ps ts : List Tm) (ms : List Tm), ArePats ps → matchTs ps ts = some ms → ms.length = nvarss ps
  | [], ts, ms, hp, h => by unfold matchTs at h; cases h; unfold nvarss; rfl
  | p :: ps, ts, ms, hp, h => by
    unfold matchTs at h
    unfold nvarss
    unfold ArePats at hp
    split at h
    · cases h
    · rename_i l hl
      split at h
      · cases h
      · rename_i m hm
        cases h
        have := pat_len p _ l hp.1 hl
        have := pats_len ps ts.tail m hp.2 hm
        simp; omega
end

theorem tsizes_take (l : List Tm) (j : Nat) : tsizes (l.take j) ≤ tsizes l := by
  induction l generalizing j with
  | nil => simp
  | cons a r ih =>
    rcases j with _ | j
    · simp [tsizes]
    · simp only [List.take_succ_cons, tsizes]; have := ih j; omega
theorem tsizes_snoc (l : List Tm) (t : Tm) : tsizes (l ++ [t]) = tsizes l + tsize t := by
  induction l with
  | nil => simp [tsizes]
  | cons a r ih => simp only [List.cons_append, tsizes, ih]; omega
theorem take_snocT (l : List Tm) (j : Nat) (h : j < l.length) : l.take (j + 1) = l.take j ++ [l[j]] := List.take_succ_eq_append_getElem h

/-- The first j kids, and one more. -/
theorem matchs_snoc : ∀ (ps ts : List Tm) (p t : Tm), ps.length = ts.length →
    matchTs (ps ++ [p]) (ts ++ [t]) = (match matchTs ps ts with | none => none | some m => (match matchT p t with | none => none | some l => some (m ++ l)))
  | [], [], p, t, _ => by
    simp only [List.nil_append, matchTs, List.headD_cons]
    cases matchT p t <;> simp
  | a :: ps, b :: ts, p, t, h => by
    have ih := matchs_snoc ps ts p t (by simpa using h)
    simp only [List.cons_append, matchTs, List.headD_cons, List.tail_cons, ih]
    cases matchT a b with
    | none => rfl
    | some l =>
      cases matchTs ps ts with
      | none => rfl
      | some m => cases matchT p t <;> simp
  | [], _ :: _, _, _, h => by simp at h
  | _ :: _, [], _, _, h => by simp at h

theorem matchs_pre_none : ∀ (ps ts qs us : List Tm), ps.length = ts.length → matchTs ps ts = none → matchTs (ps ++ qs) (ts ++ us) = none
  | [], [], qs, us, _, h => by unfold matchTs at h; cases h
  | a :: ps, b :: ts, qs, us, hl, h => by
    simp only [List.cons_append, matchTs, List.headD_cons, List.tail_cons] at h ⊢
    cases hm : matchT a b with
    | none => rfl
    | some l =>
      rw [hm] at h
      cases hs : matchTs ps ts with
      | none => rw [matchs_pre_none ps ts qs us (by simpa using hl) hs]
      | some m => rw [hs] at h; cases h
  | [], _ :: _, _, _, h, _ => by simp at h
  | _ :: _, [], _, _, h, _ => by simp at h

theorem matchs_take_none (ps ts : List Tm) (j : Nat) (hl : ps.length = ts.length) (h : matchTs (ps.take j) (ts.take j) = none) : matchTs ps ts = none := by
  have := matchs_pre_none (ps.take j) (ts.take j) (ps.drop j) (ts.drop j) (by simp; omega) h
  simpa using this
end Go.Proofs.Ytipeggpolnnpmaa
