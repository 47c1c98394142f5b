/-
  Types and terms as trees, and how they lie in memory.
-/
import Derived.Test.YtipeggpolnnpmaaPrimsInts
namespace Go.Proofs.Ytipeggpolnnpmaa
open Go.RowKit
set_option linter.unusedVariables false

/-- A type. -/
inductive Ty where
  | mk (con : ByteArray) (var : Int) (args : List Ty)
/-- A term. -/
inductive Tm where
  | mk (kind n : Int) (name : ByteArray) (vars : List Int) (types : List Ty) (kids : List Tm)

theorem blk_add (a : Addr) (n : Nat) : (a.add n).block = a.block := by unfold Addr.add; split <;> rfl
theorem add_add (a : Addr) (i j : Nat) : (a.add i).add j = a.add (i + j) := by
  unfold Addr.add
  by_cases hi : i = 0 <;> by_cases hj : j = 0 <;> simp [hi, hj, Nat.add_assoc]

theorem add_off (p : Addr) (i : Nat) : p.add (i + 1) = ⟨p.block, p.off + (i + 1), none⟩ := by simp [Addr.add]

mutual
/-- Three cells are a type. -/
def TyAt (w : World) (B : Nat) : Ty → Value → Value → Value → Prop
  | .mk c v ar, v0, v1, v2 => v0 = .string c ∧ v1 = .int .i64 v ∧ ar.length ≤ maxLen ∧ ∃ A k, v2 = .slice A ar.length k ∧ TysAt w B ar A
/-- Types lie one behind another. -/
def TysAt (w : World) (B : Nat) : List Ty → Option Addr → Prop
  | [], _ => True
  | t :: r, A => ∃ a v0 v1 v2, A = some a ∧ a.block < B ∧ w.cell? a = some v0 ∧ w.cell? (a.add 1) = some v1 ∧ w.cell? (a.add 2) = some v2 ∧ TyAt w B t v0 v1 v2 ∧ TysAt w B r (some (a.add 3))
end

mutual
theorem TyAt.keep {w w' : World} {B B' : Nat} (hB : B ≤ B') (hk : ∀ p : Addr, p.block < B → w'.cell? p = w.cell? p) : ∀ (t : Ty) (v0 v1 v2 : Value), TyAt w B t v0 v1 v2 → TyAt w' B' t v0 v1 v2
  | .mk c v ar, v0, v1, v2, h => by
    unfold TyAt at h ⊢
    obtain ⟨h0, h1, hl, A, k, h2, h3⟩ := h
    exact ⟨h0, h1, hl, A, k, h2, TysAt.keep hB hk ar A h3⟩
theorem TysAt.keep {w w' : World} {B B' : Nat} (hB : B ≤ B') (hk : ∀ p : Addr, p.block < B → w'.cell? p = w.cell? p) : ∀ (l : List Ty) (A : Option Addr), TysAt w B l A → TysAt w' B' l A
  | [], _, _ => by unfold TysAt; trivial
  | t :: r, A, h => by
    unfold TysAt at h ⊢
    obtain ⟨a, v0, v1, v2, e, hb, h0, h1, h2, ht, hr⟩ := h
    refine ⟨a, v0, v1, v2, e, by omega, (hk _ hb).trans h0, (hk _ ?_).trans h1, (hk _ ?_).trans h2, TyAt.keep hB hk t v0 v1 v2 ht, TysAt.keep hB hk r _ hr⟩
    · rw [blk_add]; exact hb
    · rw [blk_add]; exact hb
end

theorem TysAt.at_ {w : World} {B : Nat} : ∀ {l : List Ty} {A : Option Addr}, TysAt w B l A → ∀ i (h : i < l.length), ∃ a v0 v1 v2, A = some a ∧ a.block < B ∧ w.cell? (a.add (i * 3)) = some v0 ∧ w.cell? (a.add (i * 3 + 1)) = some v1 ∧ w.cell? (a.add (i * 3 + 2)) = some v2 ∧ TyAt w B l[i] v0 v1 v2
  | [], _, _, i, h => by simp at h
  | t :: r, A, h, i, hi => by
    unfold TysAt at h
    obtain ⟨a, v0, v1, v2, e, hb, h0, h1, h2, ht, hr⟩ := h
    rcases i with _ | i
    · refine ⟨a, v0, v1, v2, e, hb, ?_, ?_, ?_, ht⟩
      · rw [Nat.zero_mul]; exact h0
      · rw [Nat.zero_mul]; exact h1
      · rw [Nat.zero_mul]; exact h2
    · obtain ⟨a', x0, x1, x2, e', hb', g0, g1, g2, gt⟩ := TysAt.at_ hr i (by simpa using hi)
      injection e' with e'
      subst e'
      rw [add_add] at g0 g1 g2
      refine ⟨a, x0, x1, x2, e, hb, ?_, ?_, ?_, gt⟩
      · rw [show (i + 1) * 3 = 3 + i * 3 by omega]; exact g0
      · rw [show (i + 1) * 3 + 1 = 3 + (i * 3 + 1) by omega]; exact g1
      · rw [show (i + 1) * 3 + 2 = 3 + (i * 3 + 2) by omega]; exact g2

mutual
theorem Ty.ind {P : Ty → Prop} (h : ∀ c v ar, (∀ a ∈ ar, P a) → P (.mk c v ar)) : ∀ t, P t
  | .mk c v ar => h c v ar (Ty.inds h ar)
theorem Ty.inds {P : Ty → Prop} (h : ∀ c v ar, (∀ a ∈ ar, P a) → P (.mk c v ar)) : ∀ l : List Ty, ∀ a ∈ l, P a
  | [], a, ha => by cases ha
  | t :: r, a, ha => by
    rcases List.mem_cons.1 ha with e | e
    · rw [e]; exact Ty.ind h t
    · exact Ty.inds h r a e
end

mutual
/-- Six cells are a term. -/
def TmAt (w : World) (B : Nat) : Tm → Array Value → Prop
  | .mk k n s vs ts ks, cs => ∃ A1 k1 A2 k2 A3 k3, cs = #[.int .i64 k, .int .i64 n, .string s, .slice A1 vs.length k1, .slice A2 ts.length k2, .slice A3 ks.length k3] ∧ vs.length ≤ maxLen ∧ ts.length ≤ maxLen ∧ ks.length ≤ maxLen
      ∧ (∀ i (h : i < vs.length), ∃ a, A1 = some a ∧ a.block < B ∧ w.cell? (a.add i) = some (.int .i64 vs[i])) ∧ TysAt w B ts A2 ∧ TmsAt w B ks A3
/-- Terms lie one behind another. -/
def TmsAt (w : World) (B : Nat) : List Tm → Option Addr → Prop
  | [], _ => True
  | t :: r, A => ∃ a v0 v1 v2 v3 v4 v5, A = some a ∧ a.block < B ∧ w.cell? a = some v0 ∧ w.cell? (a.add 1) = some v1 ∧ w.cell? (a.add 2) = some v2 ∧ w.cell? (a.add 3) = some v3 ∧ w.cell? (a.add 4) = some v4 ∧ w.cell? (a.add 5) = some v5
      ∧ TmAt w B t #[v0, v1, v2, v3, v4, v5] ∧ TmsAt w B r (some (a.add 6))
end

mutual
theorem TmAt.keep {w w' : World} {B B' : Nat} (hB : B ≤ B') (hk : ∀ p : Addr, p.block < B → w'.cell? p = w.cell? p) : ∀ (t : Tm) (cs : Array Value), TmAt w B t cs → TmAt w' B' t cs
  | .mk k n s vs ts ks, cs, h => by
    unfold TmAt at h ⊢
    obtain ⟨A1, k1, A2, k2, A3, k3, e, l1, l2, l3, hv, ht, hks⟩ := h
    refine ⟨A1, k1, A2, k2, A3, k3, e, l1, l2, l3, ?_, TysAt.keep hB hk ts A2 ht, TmsAt.keep hB hk ks A3 hks⟩
    intro i hi
    obtain ⟨a, e1, e2, e3⟩ := hv i hi
    exact ⟨a, e1, by omega, (hk _ (by rw [blk_add]; exact e2)).trans e3⟩
theorem TmsAt.keep {w w' : World} {B B' : Nat} (hB : B ≤ B') (hk : ∀ p : Addr, p.block < B → w'.cell? p = w.cell? p) : ∀ (l : List Tm) (A : Option Addr), TmsAt w B l A → TmsAt w' B' l A
  | [], _, _ => by unfold TmsAt; trivial
  | t :: r, A, h => by
    unfold TmsAt at h ⊢
    obtain ⟨a, v0, v1, v2, v3, v4, v5, e, hb, h0, h1, h2, h3, h4, h5, ht, hr⟩ := h
    refine ⟨a, v0, v1, v2, v3, v4, v5, e, by omega, (hk _ hb).trans h0, (hk _ ?_).trans h1, (hk _ ?_).trans h2, (hk _ ?_).trans h3, (hk _ ?_).trans h4, (hk _ ?_).trans h5, TmAt.keep hB hk t _ ht, TmsAt.keep hB hk r _ hr⟩
    all_goals (rw [blk_add]; exact hb)
end

theorem TmsAt.at_ {w : World} {B : Nat} : ∀ {l : List Tm} {A : Option Addr}, TmsAt w B l A → ∀ i (h : i < l.length), ∃ a v0 v1 v2 v3 v4 v5, A = some a ∧ a.block < B ∧ w.cell? (a.add (i * 6)) = some v0 ∧ w.cell? (a.add (i * 6 + 1)) = some v1 ∧ w.cell? (a.add (i * 6 + 2)) = some v2
    ∧ w.cell? (a.add (i * 6 + 3)) = some v3 ∧ w.cell? (a.add (i * 6 + 4)) = some v4 ∧ w.cell? (a.add (i * 6 + 5)) = some v5 ∧ TmAt w B l[i] #[v0, v1, v2, v3, v4, v5]
  | [], _, _, i, h => by simp at h
  | t :: r, A, h, i, hi => by
    unfold TmsAt at h
    obtain ⟨a, v0, v1, v2, v3, v4, v5, e, hb, h0, h1, h2, h3, h4, h5, ht, hr⟩ := h
    rcases i with _ | i
    · refine ⟨a, v0, v1, v2, v3, v4, v5, e, hb, ?_, ?_, ?_, ?_, ?_, ?_, ht⟩
      all_goals (rw [Nat.zero_mul]; assumption)
    · obtain ⟨a', x0, x1, x2, x3, x4, x5, e', hb', g0, g1, g2, g3, g4, g5, gt⟩ := TmsAt.at_ hr i (by simpa using hi)
      injection e' with e'
      subst e'
      rw [add_add] at g0 g1 g2 g3 g4 g5
      refine ⟨a, x0, x1, x2, x3, x4, x5, e, hb, ?_, ?_, ?_, ?_, ?_, ?_, gt⟩
      · rw [show (i + 1) * 6 = 6 + i * 6 by omega]; exact g0
      · rw [show (i + 1) * 6 + 1 = 6 + (i * 6 + 1) by omega]; exact g1
      · rw [show (i + 1) * 6 + 2 = 6 + (i * 6 + 2) by omega]; exact g2
      · rw [show (i + 1) * 6 + 3 = 6 + (i * 6 + 3) by omega]; exact g3
      · rw [show (i + 1) * 6 + 4 = 6 + (i * 6 + 4) by omega]; exact g4
      · rw [show (i + 1) * 6 + 5 = 6 + (i * 6 + 5) by omega]; exact g5

mutual
theorem Tm.ind {P : Tm → Prop} (h : ∀ k n s vs ts ks, (∀ a ∈ ks, P a) → P (.mk k n s vs ts ks)) : ∀ t, P t
  | .mk k n s vs ts ks => h k n s vs ts ks (Tm.inds h ks)
theorem Tm.inds {P : Tm → Prop} (h : ∀ k n s vs ts ks, (∀ a ∈ ks, P a) → P (.mk k n s vs ts ks)) : ∀ l : List Tm, ∀ a ∈ l, P a
  | [], a, ha => by cases ha
  | t :: r, a, ha => by
    rcases List.mem_cons.1 ha with e | e
    · rw [e]; exact Tm.ind h t
    · exact Tm.inds h r a e
end

theorem TyAt.below {w w' : World} {B : Nat} (hb : Below B w w') {t : Ty} {v0 v1 v2 : Value} (h : TyAt w B t v0 v1 v2) : TyAt w' B t v0 v1 v2 := TyAt.keep (Nat.le_refl _) (fun _ hp => hb.cell hp) t v0 v1 v2 h
theorem TysAt.below {w w' : World} {B : Nat} (hb : Below B w w') {l : List Ty} {A : Option Addr} (h : TysAt w B l A) : TysAt w' B l A := TysAt.keep (Nat.le_refl _) (fun _ hp => hb.cell hp) l A h
theorem TmAt.below {w w' : World} {B : Nat} (hb : Below B w w') {t : Tm} {cs : Array Value} (h : TmAt w B t cs) : TmAt w' B t cs := TmAt.keep (Nat.le_refl _) (fun _ hp => hb.cell hp) t cs h
theorem TmsAt.below {w w' : World} {B : Nat} (hb : Below B w w') {l : List Tm} {A : Option Addr} (h : TmsAt w B l A) : TmsAt w' B l A := TmsAt.keep (Nat.le_refl _) (fun _ hp => hb.cell hp) l A h

theorem TyAt.drew {w : World} {B : Nat} {t : Ty} {v0 v1 v2 : Value} (h : TyAt w B t v0 v1 v2) : TyAt w.drew B t v0 v1 v2 := TyAt.keep (w := w) (w' := w.drew) (Nat.le_refl _) (fun _ _ => rfl) t v0 v1 v2 h
theorem TysAt.drew {w : World} {B : Nat} {l : List Ty} {A : Option Addr} (h : TysAt w B l A) : TysAt w.drew B l A := TysAt.keep (w := w) (w' := w.drew) (Nat.le_refl _) (fun _ _ => rfl) l A h
theorem TmAt.drew {w : World} {B : Nat} {t : Tm} {cs : Array Value} (h : TmAt w B t cs) : TmAt w.drew B t cs := TmAt.keep (w := w) (w' := w.drew) (Nat.le_refl _) (fun _ _ => rfl) t cs h
theorem TmsAt.drew {w : World} {B : Nat} {l : List Tm} {A : Option Addr} (h : TmsAt w B l A) : TmsAt w.drew B l A := TmsAt.keep (w := w) (w' := w.drew) (Nat.le_refl _) (fun _ _ => rfl) l A h

/-- The cells of the i-th type, as the walk spells them. -/
theorem TysAt.get {w : World} {B : Nat} {l : List Ty} {A : Option Addr} (h : TysAt w B l A) (i : Nat) (hi : i < l.length) : ∃ a v0 v1 v2, A = some a ∧ a.block < B ∧ w.cell? (a.add (i * 3)) = some v0 ∧ w.cell? ⟨(a.add (i * 3)).block, (a.add (i * 3)).off + 1, none⟩ = some v1 ∧ w.cell? ⟨(a.add (i * 3)).block, (a.add (i * 3)).off + 2, none⟩ = some v2 ∧ TyAt w B l[i] v0 v1 v2 := by
  obtain ⟨a, v0, v1, v2, e, hb, h0, h1, h2, ht⟩ := h.at_ i hi
  rw [← add_add, add_off] at h1 h2
  exact ⟨a, v0, v1, v2, e, hb, h0, h1, h2, ht⟩
/-- The cells of the i-th term, as the walk spells them. -/
theorem TmsAt.get {w : World} {B : Nat} {l : List Tm} {A : Option Addr} (h : TmsAt w B l A) (i : Nat) (hi : i < l.length) : ∃ a v0 v1 v2 v3 v4 v5, A = some a ∧ a.block < B ∧ w.cell? (a.add (i * 6)) = some v0 ∧ w.cell? ⟨(a.add (i * 6)).block, (a.add (i * 6)).off + 1, none⟩ = some v1 ∧ w.cell? ⟨(a.add (i * 6)).block, (a.add (i * 6)).off + 2, none⟩ = some v2
    ∧ w.cell? ⟨(a.add (i * 6)).block, (a.add (i * 6)).off + 3, none⟩ = some v3 ∧ w.cell? ⟨(a.add (i * 6)).block, (a.add (i * 6)).off + 4, none⟩ = some v4 ∧ w.cell? ⟨(a.add (i * 6)).block, (a.add (i * 6)).off + 5, none⟩ = some v5 ∧ TmAt w B l[i] #[v0, v1, v2, v3, v4, v5] := by
  obtain ⟨a, v0, v1, v2, v3, v4, v5, e, hb, h0, h1, h2, h3, h4, h5, ht⟩ := h.at_ i hi
  rw [← add_add, add_off] at h1 h2 h3 h4 h5
  exact ⟨a, v0, v1, v2, v3, v4, v5, e, hb, h0, h1, h2, h3, h4, h5, ht⟩
end Go.Proofs.Ytipeggpolnnpmaa
