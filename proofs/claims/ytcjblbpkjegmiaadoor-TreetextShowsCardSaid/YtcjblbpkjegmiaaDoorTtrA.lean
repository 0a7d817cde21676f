/- Variables, states and witness trees in memory. -/
import Derived.Test.YtcjblbpkjegmiaaDoorTtrP
import Derived.Test.YtcjblbpkjegmiaaDoorFrmA
namespace Go.Proofs.YtcjblbpkjegmiaaDoor
open Go.RowKit
set_option linter.unusedVariables false

/-- A row of numbers. -/
def IntsAt (w : World) (A : Option Addr) (l : List Int) : Prop := l = [] ∨ ∃ b o, A = some ⟨b, o, none⟩ ∧ b < w.heap.size ∧ ∀ j z, l[j]? = some z → w.cell? ⟨b, o + j, none⟩ = some (.int .i64 z)
structure IntsV (w : World) (A : Option Addr) (c : Nat) (l : List Int) : Prop where
  cap : l.length ≤ c
  capm : c ≤ maxLen
  rng : ∀ z ∈ l, -9223372036854775808 ≤ z ∧ z ≤ 9223372036854775807
  row : IntsAt w A l
theorem IntsAt.below {B : Nat} {w w' : World} {A : Option Addr} {l : List Int} (h : IntsAt w A l) (hb : Below B w w') (hB : B = w.heap.size) : IntsAt w' A l := by
  rcases h with h | ⟨b, o, rfl, hlt, h⟩
  · exact .inl h
  · exact .inr ⟨b, o, rfl, Nat.lt_of_lt_of_le hlt hb.size, fun j z hj => by rw [hb.cell (p := ⟨b, _, none⟩) (by simp only; omega)]; exact h j z hj⟩
theorem IntsV.below {B : Nat} {w w' : World} {A : Option Addr} {c : Nat} {l : List Int} (h : IntsV w A c l) (hb : Below B w w') (hB : B = w.heap.size) : IntsV w' A c l := ⟨h.cap, h.capm, h.rng, h.row.below hb hB⟩
/-- A row of rows of numbers. -/
def RowsAt (w : World) (A : Option Addr) (l : List (List Int)) : Prop := l = [] ∨ ∃ b o, A = some ⟨b, o, none⟩ ∧ b < w.heap.size ∧ ∀ j z, l[j]? = some z → ∃ A' c', w.cell? ⟨b, o + j, none⟩ = some (.slice A' z.length c') ∧ IntsV w A' c' z
structure RowsV (w : World) (A : Option Addr) (c : Nat) (l : List (List Int)) : Prop where
  cap : l.length ≤ c
  capm : c ≤ maxLen
  row : RowsAt w A l
theorem RowsV.below {B : Nat} {w w' : World} {A : Option Addr} {c : Nat} {l : List (List Int)} (h : RowsV w A c l) (hb : Below B w w') (hB : B = w.heap.size) : RowsV w' A c l := by
  refine ⟨h.cap, h.capm, ?_⟩
  rcases h.row with h | ⟨b, o, rfl, hlt, h⟩
  · exact .inl h
  · refine .inr ⟨b, o, rfl, Nat.lt_of_lt_of_le hlt hb.size, fun j z hj => ?_⟩
    obtain ⟨A', c', h1, h2⟩ := h j z hj
    exact ⟨A', c', by rw [hb.cell (p := ⟨b, _, none⟩) (by simp only; omega)]; exact h1, h2.below hb hB⟩
/-- A row of variables. -/
def VrsAt (w : World) (A : Option Addr) (l : List Vr) : Prop := l = [] ∨ ∃ b o, A = some ⟨b, o, none⟩ ∧ b < w.heap.size ∧ ∀ j v, l[j]? = some v → w.cell? ⟨b, o + 4 * j, none⟩ = some (.string v.name) ∧ w.cell? ⟨b, o + 4 * j + 1, none⟩ = some (.bool v.isB) ∧ w.cell? ⟨b, o + 4 * j + 2, none⟩ = some (.int .i64 v.lo) ∧ w.cell? ⟨b, o + 4 * j + 3, none⟩ = some (.int .i64 v.hi)
structure VrsV (w : World) (A : Option Addr) (c : Nat) (l : List Vr) : Prop where
  cap : l.length ≤ c
  capm : c ≤ maxLen
  name : ∀ v ∈ l, v.name.size ≤ maxLen
  row : VrsAt w A l
theorem VrsV.below {B : Nat} {w w' : World} {A : Option Addr} {c : Nat} {l : List Vr} (h : VrsV w A c l) (hb : Below B w w') (hB : B = w.heap.size) : VrsV w' A c l := by
  refine ⟨h.cap, h.capm, h.name, ?_⟩
  rcases h.row with h | ⟨b, o, rfl, hlt, h⟩
  · exact .inl h
  · refine .inr ⟨b, o, rfl, Nat.lt_of_lt_of_le hlt hb.size, fun j z hj => ?_⟩
    obtain ⟨h0, h1, h2, h3⟩ := h j z hj
    have hlt' : b < B := by omega
    exact ⟨by rw [hb.cell (p := ⟨b, _, none⟩) hlt']; exact h0, by rw [hb.cell (p := ⟨b, _, none⟩) hlt']; exact h1, by rw [hb.cell (p := ⟨b, _, none⟩) hlt']; exact h2, by rw [hb.cell (p := ⟨b, _, none⟩) hlt']; exact h3⟩
/-- Where the slices of a tree lie. -/
structure TrP where
  aS : Option Addr
  cS : Nat
  aE : Option Addr
  cE : Nat
  aF : Option Addr
  cF : Nat
  aP : Option Addr
  cP : Nat
  aK : Option Addr
  cK : Nat
def Tr.cells (p : TrP) (t : Tr) : List Value := [.int .i64 t.kind, .slice p.aS t.state.length p.cS, .int .i64 t.fm.op, .int .i64 t.fm.tm.op, .int .i64 t.fm.tm.num, .string t.fm.tm.name, .slice p.aE t.fm.tm.kids.length p.cE, .slice p.aF t.fm.kids.length p.cF, .slice p.aP t.path.length p.cP, .int .i64 t.loop, .int .i64 t.at_, .slice p.aK t.kids.length p.cK]
def Tr.val (p : TrP) (t : Tr) : Value := .agg #[.int .i64 t.kind, .slice p.aS t.state.length p.cS, .int .i64 t.fm.op, .int .i64 t.fm.tm.op, .int .i64 t.fm.tm.num, .string t.fm.tm.name, .slice p.aE t.fm.tm.kids.length p.cE, .slice p.aF t.fm.kids.length p.cF, .slice p.aP t.path.length p.cP, .int .i64 t.loop, .int .i64 t.at_, .slice p.aK t.kids.length p.cK]
/-- The parts of a tree apart from its kids. -/
structure TrOwn (w : World) (p : TrP) (st : List Int) (f : Fm) (path : List (List Int)) (at_ : Int) (n : Nat) : Prop where
  st : IntsV w p.aS p.cS st
  fm : FmV w p.aE p.cE p.aF p.cF f
  path : RowsV w p.aP p.cP path
  cap : n ≤ p.cK
  capm : p.cK ≤ maxLen
  at_ : -9223372036854775808 ≤ at_ ∧ at_ ≤ 9223372036854775807
theorem TrOwn.below {B : Nat} {w w' : World} {p : TrP} {st : List Int} {f : Fm} {path : List (List Int)} {at_ : Int} {n : Nat} (h : TrOwn w p st f path at_ n) (hb : Below B w w') (hB : B = w.heap.size) : TrOwn w' p st f path at_ n := ⟨h.st.below hb hB, h.fm.below hb hB, h.path.below hb hB, h.cap, h.capm, h.at_⟩
mutual
def TrAt (w : World) (g o : Nat) : Tr → Prop
  | .mk k st f path loop at_ kids => ∃ p : TrP, (∀ j v, ((Tr.mk k st f path loop at_ kids).cells p)[j]? = some v → w.cell? ⟨g, o + j, none⟩ = some v) ∧ TrOwn w p st f path at_ kids.length ∧ (kids = [] ∨ ∃ g' o', p.aK = some ⟨g', o', none⟩ ∧ g' < w.heap.size ∧ TrRow w g' o' kids)
def TrRow (w : World) (g o : Nat) : List Tr → Prop
  | [] => True
  | t :: r => TrAt w g o t ∧ TrRow w g (o + 12) r
end
def TKidsAt (w : World) (A : Option Addr) (l : List Tr) : Prop := l = [] ∨ ∃ g' o', A = some ⟨g', o', none⟩ ∧ g' < w.heap.size ∧ TrRow w g' o' l
mutual
theorem TrAt.below {B : Nat} {w w' : World} (hb : Below B w w') (hB : B = w.heap.size) : ∀ {t : Tr} {g o : Nat}, g < B → TrAt w g o t → TrAt w' g o t
  | .mk k st f path loop at_ kids, g, o, hg, h => by
    rw [TrAt] at h ⊢
    obtain ⟨p, h1, h2, h3⟩ := h
    refine ⟨p, fun j v hj => by rw [hb.cell (p := ⟨g, _, none⟩) hg]; exact h1 j v hj, h2.below hb hB, ?_⟩
    rcases h3 with h3 | ⟨g', o', e, hg', h3⟩
    · exact .inl h3
    · exact .inr ⟨g', o', e, Nat.lt_of_lt_of_le hg' hb.size, TrRow.below hb hB (by omega) h3⟩
theorem TrRow.below {B : Nat} {w w' : World} (hb : Below B w w') (hB : B = w.heap.size) : ∀ {l : List Tr} {g o : Nat}, g < B → TrRow w g o l → TrRow w' g o l
  | [], g, o, hg, h => by rw [TrRow]; trivial
  | t :: r, g, o, hg, h => by
    rw [TrRow] at h ⊢
    exact ⟨TrAt.below hb hB hg h.1, TrRow.below hb hB hg h.2⟩
end
theorem TKidsAt.below {B : Nat} {w w' : World} {A : Option Addr} {l : List Tr} (h : TKidsAt w A l) (hb : Below B w w') (hB : B = w.heap.size) : TKidsAt w' A l := by
  rcases h with h | ⟨g', o', rfl, hg', h⟩
  · exact .inl h
  · exact .inr ⟨g', o', rfl, Nat.lt_of_lt_of_le hg' hb.size, TrRow.below hb hB (by omega) h⟩
theorem TrRow.get : ∀ {w : World} {l : List Tr} {g o j : Nat} {t : Tr}, TrRow w g o l → l[j]? = some t → TrAt w g (o + 12 * j) t
  | w, x :: r, g, o, 0, t, h, hj => by
    rw [TrRow] at h
    simp at hj
    subst hj
    exact h.1
  | w, x :: r, g, o, j + 1, t, h, hj => by
    rw [TrRow] at h
    have := TrRow.get h.2 (j := j) (by simpa using hj)
    rwa [show o + 12 + 12 * j = o + 12 * (j + 1) from by omega] at this
theorem TrRow.mk : ∀ {w : World} {l : List Tr} {g o : Nat}, (∀ j t, l[j]? = some t → TrAt w g (o + 12 * j) t) → TrRow w g o l
  | w, [], g, o, h => by rw [TrRow]; trivial
  | w, t :: r, g, o, h => by
    rw [TrRow]
    exact ⟨h 0 t rfl, TrRow.mk fun j x hj => by rw [show o + 12 + 12 * j = o + 12 * (j + 1) from by omega]; exact h (j + 1) x (by simpa using hj)⟩
/-- The value of a tree: what its fields hold. -/
structure TrV (w : World) (p : TrP) (t : Tr) : Prop where
  own : TrOwn w p t.state t.fm t.path t.at_ t.kids.length
  kids : TKidsAt w p.aK t.kids
theorem TrV.below {B : Nat} {w w' : World} {p : TrP} {t : Tr} (h : TrV w p t) (hb : Below B w w') (hB : B = w.heap.size) : TrV w' p t := ⟨h.own.below hb hB, h.kids.below hb hB⟩
theorem TrAt.open {w : World} {g o : Nat} {t : Tr} (h : TrAt w g o t) : ∃ p : TrP, (∀ j v, (t.cells p)[j]? = some v → w.cell? ⟨g, o + j, none⟩ = some v) ∧ TrV w p t := by
  cases t with
  | mk k st f path loop at_ kids =>
    rw [TrAt] at h
    obtain ⟨p, h1, h2, h3⟩ := h
    exact ⟨p, h1, h2, h3⟩
theorem TrAt.mk {w : World} {g o : Nat} {t : Tr} {p : TrP} (h0 : ∀ j v, (t.cells p)[j]? = some v → w.cell? ⟨g, o + j, none⟩ = some v) (h : TrV w p t) : TrAt w g o t := by
  cases t with
  | mk k st f path loop at_ kids =>
    rw [TrAt]
    exact ⟨p, h0, h.own, h.kids⟩
end Go.Proofs.YtcjblbpkjegmiaaDoor
