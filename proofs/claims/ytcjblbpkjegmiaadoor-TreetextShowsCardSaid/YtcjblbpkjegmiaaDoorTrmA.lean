/- Terms in memory. -/
import Derived.Test.YtcjblbpkjegmiaaDoorTrmP
import Derived.WalkKit
import Derived.WalkSpells
import Derived.WalkLawsBesides
import Derived.OpenShut
import Derived.BigQuiet
import Derived.Lib.Hide
import Derived.IntWalk
import Derived.Deep.RegionHeld3
import Derived.Deep.AppendLies
import Derived.Deep.OwnRows
import Derived.Laws.CopyOwn
namespace Go.Proofs.YtcjblbpkjegmiaaDoor
open Go.RowKit
set_option linter.unusedVariables false

mutual
def TmAt (w : World) (g o : Nat) : Tm → Prop
  | .mk op n s l => w.cell? ⟨g, o, none⟩ = some (.int .i64 op) ∧ w.cell? ⟨g, o + 1, none⟩ = some (.int .i64 n) ∧ w.cell? ⟨g, o + 2, none⟩ = some (.string s) ∧ s.size ≤ maxLen ∧
    ∃ A c, w.cell? ⟨g, o + 3, none⟩ = some (.slice A l.length c) ∧ l.length ≤ c ∧ c ≤ maxLen ∧ (l = [] ∨ ∃ g' o', A = some ⟨g', o', none⟩ ∧ g' < w.heap.size ∧ TmRow w g' o' l)
def TmRow (w : World) (g o : Nat) : List Tm → Prop
  | [] => True
  | t :: r => TmAt w g o t ∧ TmRow w g (o + 4) r
end
def KidsAt (w : World) (A : Option Addr) (l : List Tm) : Prop := l = [] ∨ ∃ g' o', A = some ⟨g', o', none⟩ ∧ g' < w.heap.size ∧ TmRow w g' o' l
mutual
theorem TmAt.below {B : Nat} {w w' : World} (hb : Below B w w') (hB : B = w.heap.size) : ∀ {t : Tm} {g o : Nat}, g < B → TmAt w g o t → TmAt w' g o t
  | .mk op n s l, g, o, hg, h => by
    rw [TmAt] at h ⊢
    obtain ⟨h0, h1, h2, hs, A, c, h3, h4, h5, h6⟩ := h
    refine ⟨by rw [hb.cell (p := ⟨g, _, none⟩) hg]; exact h0, by rw [hb.cell (p := ⟨g, _, none⟩) hg]; exact h1, by rw [hb.cell (p := ⟨g, _, none⟩) hg]; exact h2, hs, A, c, by rw [hb.cell (p := ⟨g, _, none⟩) hg]; exact h3, h4, h5, ?_⟩
    rcases h6 with h6 | ⟨g', o', rfl, hg', h6⟩
    · exact .inl h6
    · exact .inr ⟨g', o', rfl, Nat.lt_of_lt_of_le hg' hb.size, TmRow.below hb hB (by omega) h6⟩
theorem TmRow.below {B : Nat} {w w' : World} (hb : Below B w w') (hB : B = w.heap.size) : ∀ {l : List Tm} {g o : Nat}, g < B → TmRow w g o l → TmRow w' g o l
  | [], g, o, hg, h => by rw [TmRow]; trivial
  | t :: r, g, o, hg, h => by
    rw [TmRow] at h ⊢
    exact ⟨TmAt.below hb hB hg h.1, TmRow.below hb hB hg h.2⟩
end
theorem KidsAt.below {B : Nat} {w w' : World} {A : Option Addr} {l : List Tm} (h : KidsAt w A l) (hb : Below B w w') (hB : B = w.heap.size) : KidsAt w' A l := by
  rcases h with h | ⟨g', o', rfl, hg', h⟩
  · exact .inl h
  · exact .inr ⟨g', o', rfl, Nat.lt_of_lt_of_le hg' hb.size, TmRow.below hb hB (by omega) h⟩
theorem TmRow.get : ∀ {w : World} {l : List Tm} {g o j : Nat} {t : Tm}, TmRow w g o l → l[j]? = some t → TmAt w g (o + 4 * j) t
  | w, x :: r, g, o, 0, t, h, hj => by
    rw [TmRow] at h
    simp at hj
    subst hj
    exact h.1
  | w, x :: r, g, o, j + 1, t, h, hj => by
    rw [TmRow] at h
    have := TmRow.get h.2 (j := j) (by simpa using hj)
    rwa [show o + 4 + 4 * j = o + 4 * (j + 1) from by omega] at this
/-- The value of a term: what its fields hold. -/
structure TmV (w : World) (A : Option Addr) (c : Nat) (t : Tm) : Prop where
  cap : t.kids.length ≤ c
  capm : c ≤ maxLen
  name : t.name.size ≤ maxLen
  kids : KidsAt w A t.kids
theorem TmV.below {B : Nat} {w w' : World} {A : Option Addr} {c : Nat} {t : Tm} (h : TmV w A c t) (hb : Below B w w') (hB : B = w.heap.size) : TmV w' A c t := ⟨h.cap, h.capm, h.name, h.kids.below hb hB⟩
def Tm.val (A : Option Addr) (c : Nat) (t : Tm) : Value := .agg #[.int .i64 t.op, .int .i64 t.num, .string t.name, .slice A t.kids.length c]
theorem TmAt.open {w : World} {g o : Nat} {t : Tm} (h : TmAt w g o t) : w.cell? ⟨g, o, none⟩ = some (.int .i64 t.op) ∧ w.cell? ⟨g, o + 1, none⟩ = some (.int .i64 t.num) ∧ w.cell? ⟨g, o + 2, none⟩ = some (.string t.name) ∧ ∃ A c, w.cell? ⟨g, o + 3, none⟩ = some (.slice A t.kids.length c) ∧ TmV w A c t := by
  cases t with
  | mk op n s l =>
    rw [TmAt] at h
    obtain ⟨h0, h1, h2, hs, A, c, h3, h4, h5, h6⟩ := h
    exact ⟨h0, h1, h2, A, c, h3, h4, h5, hs, h6⟩
theorem TmAt.mk {w : World} {g o : Nat} {t : Tm} {A : Option Addr} {c : Nat} (h0 : w.cell? ⟨g, o, none⟩ = some (.int .i64 t.op)) (h1 : w.cell? ⟨g, o + 1, none⟩ = some (.int .i64 t.num)) (h2 : w.cell? ⟨g, o + 2, none⟩ = some (.string t.name)) (h3 : w.cell? ⟨g, o + 3, none⟩ = some (.slice A t.kids.length c)) (h : TmV w A c t) : TmAt w g o t := by
  cases t with
  | mk op n s l =>
    rw [TmAt]
    exact ⟨h0, h1, h2, h.name, A, c, h3, h.cap, h.capm, h.kids⟩
end Go.Proofs.YtcjblbpkjegmiaaDoor
