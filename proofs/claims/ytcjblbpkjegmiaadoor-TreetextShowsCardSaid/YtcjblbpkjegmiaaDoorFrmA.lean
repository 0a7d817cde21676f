/- Formulas in memory. -/
import Derived.Test.YtcjblbpkjegmiaaDoorFrmQ
namespace Go.Proofs.YtcjblbpkjegmiaaDoor
open Go.RowKit
set_option linter.unusedVariables false

mutual
def FmAt (w : World) (g o : Nat) : Fm → Prop
  | .mk op e l => w.cell? ⟨g, o, none⟩ = some (.int .i64 op) ∧ TmAt w g (o + 1) e ∧
    ∃ A c, w.cell? ⟨g, o + 5, none⟩ = some (.slice A l.length c) ∧ l.length ≤ c ∧ c ≤ maxLen ∧ (l = [] ∨ ∃ g' o', A = some ⟨g', o', none⟩ ∧ g' < w.heap.size ∧ FmRow w g' o' l)
def FmRow (w : World) (g o : Nat) : List Fm → Prop
  | [] => True
  | t :: r => FmAt w g o t ∧ FmRow w g (o + 6) r
end
def FKidsAt (w : World) (A : Option Addr) (l : List Fm) : Prop := l = [] ∨ ∃ g' o', A = some ⟨g', o', none⟩ ∧ g' < w.heap.size ∧ FmRow w g' o' l
mutual
theorem FmAt.below {B : Nat} {w w' : World} (hb : Below B w w') (hB : B = w.heap.size) : ∀ {t : Fm} {g o : Nat}, g < B → FmAt w g o t → FmAt w' g o t
  | .mk op e l, g, o, hg, h => by
    rw [FmAt] at h ⊢
    obtain ⟨h0, h1, A, c, h3, h4, h5, h6⟩ := h
    refine ⟨by rw [hb.cell (p := ⟨g, _, none⟩) hg]; exact h0, TmAt.below hb hB hg h1, A, c, by rw [hb.cell (p := ⟨g, _, none⟩) hg]; exact h3, h4, h5, ?_⟩
    rcases h6 with h6 | ⟨g', o', rfl, hg', h6⟩
    · exact .inl h6
    · exact .inr ⟨g', o', rfl, Nat.lt_of_lt_of_le hg' hb.size, FmRow.below hb hB (by omega) h6⟩
theorem FmRow.below {B : Nat} {w w' : World} (hb : Below B w w') (hB : B = w.heap.size) : ∀ {l : List Fm} {g o : Nat}, g < B → FmRow w g o l → FmRow w' g o l
  | [], g, o, hg, h => by rw [FmRow]; trivial
  | t :: r, g, o, hg, h => by
    rw [FmRow] at h ⊢
    exact ⟨FmAt.below hb hB hg h.1, FmRow.below hb hB hg h.2⟩
end
theorem FKidsAt.below {B : Nat} {w w' : World} {A : Option Addr} {l : List Fm} (h : FKidsAt w A l) (hb : Below B w w') (hB : B = w.heap.size) : FKidsAt w' A l := by
  rcases h with h | ⟨g', o', rfl, hg', h⟩
  · exact .inl h
  · exact .inr ⟨g', o', rfl, Nat.lt_of_lt_of_le hg' hb.size, FmRow.below hb hB (by omega) h⟩
theorem FmRow.get : ∀ {w : World} {l : List Fm} {g o j : Nat} {t : Fm}, FmRow w g o l → l[j]? = some t → FmAt w g (o + 6 * j) t
  | w, x :: r, g, o, 0, t, h, hj => by
    rw [FmRow] at h
    simp at hj
    subst hj
    exact h.1
  | w, x :: r, g, o, j + 1, t, h, hj => by
    rw [FmRow] at h
    have := FmRow.get h.2 (j := j) (by simpa using hj)
    rwa [show o + 6 + 6 * j = o + 6 * (j + 1) from by omega] at this
/-- The value of a formula: what its fields hold. -/
structure FmV (w : World) (Ae : Option Addr) (ce : Nat) (A : Option Addr) (c : Nat) (t : Fm) : Prop where
  tm : TmV w Ae ce t.tm
  cap : t.kids.length ≤ c
  capm : c ≤ maxLen
  kids : FKidsAt w A t.kids
theorem FmV.below {B : Nat} {w w' : World} {Ae A : Option Addr} {ce c : Nat} {t : Fm} (h : FmV w Ae ce A c t) (hb : Below B w w') (hB : B = w.heap.size) : FmV w' Ae ce A c t := ⟨h.tm.below hb hB, h.cap, h.capm, h.kids.below hb hB⟩
def Fm.val (Ae : Option Addr) (ce : Nat) (A : Option Addr) (c : Nat) (t : Fm) : Value := .agg #[.int .i64 t.op, .int .i64 t.tm.op, .int .i64 t.tm.num, .string t.tm.name, .slice Ae t.tm.kids.length ce, .slice A t.kids.length c]
theorem FmAt.open {w : World} {g o : Nat} {t : Fm} (h : FmAt w g o t) : w.cell? ⟨g, o, none⟩ = some (.int .i64 t.op) ∧ w.cell? ⟨g, o + 1, none⟩ = some (.int .i64 t.tm.op) ∧ w.cell? ⟨g, o + 2, none⟩ = some (.int .i64 t.tm.num) ∧ w.cell? ⟨g, o + 3, none⟩ = some (.string t.tm.name) ∧
    ∃ Ae ce A c, w.cell? ⟨g, o + 4, none⟩ = some (.slice Ae t.tm.kids.length ce) ∧ w.cell? ⟨g, o + 5, none⟩ = some (.slice A t.kids.length c) ∧ FmV w Ae ce A c t := by
  cases t with
  | mk op e l =>
    rw [FmAt] at h
    obtain ⟨h0, h1, A, c, h3, h4, h5, h6⟩ := h
    obtain ⟨e0, e1, e2, Ae, ce, e3, hv⟩ := h1.open
    exact ⟨h0, e0, e1, e2, Ae, ce, A, c, e3, h3, hv, h4, h5, h6⟩
theorem FmAt.mk {w : World} {g o : Nat} {t : Fm} {Ae A : Option Addr} {ce c : Nat} (h0 : w.cell? ⟨g, o, none⟩ = some (.int .i64 t.op)) (h1 : w.cell? ⟨g, o + 1, none⟩ = some (.int .i64 t.tm.op)) (h2 : w.cell? ⟨g, o + 2, none⟩ = some (.int .i64 t.tm.num)) (h3 : w.cell? ⟨g, o + 3, none⟩ = some (.string t.tm.name))
    (h4 : w.cell? ⟨g, o + 4, none⟩ = some (.slice Ae t.tm.kids.length ce)) (h5 : w.cell? ⟨g, o + 5, none⟩ = some (.slice A t.kids.length c)) (h : FmV w Ae ce A c t) : FmAt w g o t := by
  cases t with
  | mk op e l =>
    rw [FmAt]
    exact ⟨h0, TmAt.mk h1 h2 h3 h4 h.tm, A, c, h5, h.cap, h.capm, h.kids⟩
/-- The box of a formula. -/
def fboxC (Ae : Option Addr) (ce : Nat) (A : Option Addr) (n c : Nat) (t : Fm) : Array Value := #[.int .i64 t.op, .int .i64 t.tm.op, .int .i64 t.tm.num, .string t.tm.name, .slice Ae t.tm.kids.length ce, .slice A n c]
/-- The box of a formula, whole. -/
def FBox (w : World) (bx : Nat) (Ae : Option Addr) (ne ce : Nat) (A : Option Addr) (n c : Nat) (t : Fm) : Prop := w.heap[bx]? = some (.cells #[.int .i64 t.op, .int .i64 t.tm.op, .int .i64 t.tm.num, .string t.tm.name, .slice Ae ne ce, .slice A n c] 29 (0, 0))
section
variable {w w' : World} {bx : Nat} {Ae A : Option Addr} {ne ce n c : Nat} {t : Fm}
theorem FBox.c0 (h : FBox w bx Ae ne ce A n c t) : w.cell? ⟨bx, 0, none⟩ = some (.int .i64 t.op) := by rw [cell_of_row w bx 0 _ _ (0, 0) h]; rfl
theorem FBox.c1 (h : FBox w bx Ae ne ce A n c t) : w.cell? ⟨bx, 1, none⟩ = some (.int .i64 t.tm.op) := by rw [cell_of_row w bx 1 _ _ (0, 0) h]; rfl
theorem FBox.c2 (h : FBox w bx Ae ne ce A n c t) : w.cell? ⟨bx, 2, none⟩ = some (.int .i64 t.tm.num) := by rw [cell_of_row w bx 2 _ _ (0, 0) h]; rfl
theorem FBox.c3 (h : FBox w bx Ae ne ce A n c t) : w.cell? ⟨bx, 3, none⟩ = some (.string t.tm.name) := by rw [cell_of_row w bx 3 _ _ (0, 0) h]; rfl
theorem FBox.c4 (h : FBox w bx Ae ne ce A n c t) : w.cell? ⟨bx, 4, none⟩ = some (.slice Ae ne ce) := by rw [cell_of_row w bx 4 _ _ (0, 0) h]; rfl
theorem FBox.c5 (h : FBox w bx Ae ne ce A n c t) : w.cell? ⟨bx, 5, none⟩ = some (.slice A n c) := by rw [cell_of_row w bx 5 _ _ (0, 0) h]; rfl
theorem FBox.lt (h : FBox w bx Ae ne ce A n c t) : bx < w.heap.size := lt_of_heap h
theorem FBox.below {B : Nat} (h : FBox w bx Ae ne ce A n c t) (k : Below B w w') (hb : bx < B) : FBox w' bx Ae ne ce A n c t := (k.block bx hb).trans h
end
end Go.Proofs.YtcjblbpkjegmiaaDoor
