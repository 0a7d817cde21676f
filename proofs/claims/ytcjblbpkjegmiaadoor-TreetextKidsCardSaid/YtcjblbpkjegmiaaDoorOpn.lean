/- Terms and formulas that came in. -/
import Derived.Test.YtcjblbpkjegmiaaDoorFrmA
import Derived.Test.YtcjblbpkjegmiaaDoorCards
import Derived.Test.YtcjblbpkjegmiaaDoorTie
import Derived.ProofKit
import Derived.Lay
import Derived.SevenTiedAt
import Derived.LaidOnce
namespace Go.Proofs.YtcjblbpkjegmiaaDoor
open Go.ChangeShapes Go.WideShapes Go.ChangeAt Go.RowKit
set_option linter.unusedVariables false

theorem list_of_each {α : Type} {Q : Nat → α → Prop} : ∀ (n : Nat), (∀ i, i < n → ∃ a, Q i a) → ∃ l : List α, l.length = n ∧ ∀ j a, l[j]? = some a → Q j a
  | 0, _ => ⟨[], rfl, fun j a h => by simp at h⟩
  | n + 1, h => by
    obtain ⟨l, hl, hq⟩ := list_of_each n (fun i hi => h i (by omega))
    obtain ⟨a, ha⟩ := h n (by omega)
    refine ⟨l ++ [a], by simp [hl], fun j b hj => ?_⟩
    rcases Nat.lt_or_ge j l.length with hlt | hge
    · rw [List.getElem?_append_left hlt] at hj
      exact hq j b hj
    · rw [List.getElem?_append_right hge] at hj
      have hj0 : j - l.length = 0 := by
        rcases Nat.eq_zero_or_pos (j - l.length) with h0 | h0
        · exact h0
        · rw [List.getElem?_eq_none (by simp; omega)] at hj; cases hj
      rw [hj0] at hj
      simp at hj
      subst hj
      rw [show j = n from by omega]
      exact ha

section
variable {H : Type} {enc : TypeId × Value → H} {P : Program} {w : World} {base : Nat} {spare : Nat → Bool} {held : Bool}
theorem slice_rows {α : Type} {t e : TypeId} {k fuel : Nat} {cs : List Value} {x : DataW H × List MemPlace} (ht : P.underlying t = some (.slice e)) (hc : P.cellsOf e = k) (hk : 0 < k) (R : Nat → Nat → α → Prop)
    (hR : ∀ n, fuel = n + 1 → ∀ b o cs' y, b < w.heap.size → cs'.length = k → (∀ i, i < k → w.cell? ⟨b, o + i, none⟩ = cs'[i]?) → DataW.trod enc P w base spare held n e cs' = some y → ∃ a, R b o a)
    (h : DataW.trod enc P w base spare held fuel t cs = some x) :
    ∃ A c, ∃ l : List α, cs = [.slice A l.length c] ∧ l.length ≤ c ∧ c ≤ maxLen ∧ (l = [] ∨ ∃ b o, A = some ⟨b, o, none⟩ ∧ b < w.heap.size ∧ ∀ j a, l[j]? = some a → R b (o + k * j) a) := by
  rcases DataW.trod_slice ht h with ⟨rfl, -⟩ | ⟨a, len, cap, elems, rest, n, hf, rfl, hx, hb, hl, hm, hel, hes, -, -⟩
  · exact ⟨none, 0, [], rfl, Nat.le_refl _, Nat.zero_le _, .inl rfl⟩
  · by_cases h0 : len = 0
    · subst h0
      exact ⟨some a, cap, [], rfl, Nat.zero_le _, hm, .inl rfl⟩
    · rw [hc] at hes
      have hone : ∀ i, i < len → ∃ cs' y, w.cells? base (a.add (i * k)) k = some cs' ∧ DataW.trod enc P w base spare held n e cs' = some y := fun i hi => by
        have h1 := hes i hi
        rw [List.getElem?_eq_getElem (by omega)] at h1
        obtain ⟨cs', h2, h3⟩ := Option.bind_eq_some_iff.1 h1
        exact ⟨cs', _, h2, h3⟩
      obtain ⟨b, o, spot⟩ := a
      obtain ⟨cs0, y0, h2, -⟩ := hone 0 (by omega)
      obtain ⟨-, g1, g2⟩ := World.cells?_some h2
      have g3 := g2 0 hk
      rw [List.getElem?_eq_getElem (by omega)] at g3
      have hspot : spot = none := by simpa [Addr.add] using World.cell?_spot g3
      subst hspot
      have hlt : b < w.heap.size := by
        have := World.cells?_block h2 hk
        simpa [Addr.add] using this
      obtain ⟨l, hl1, hl2⟩ := list_of_each (Q := fun i (a : α) => R b (o + k * i) a) len (fun i hi => by
        obtain ⟨cs', y, h4, h5⟩ := hone i hi
        obtain ⟨-, e1, e2⟩ := World.cells?_some h4
        refine hR n hf b (o + k * i) cs' y hlt e1 (fun i' hi' => ?_) h5
        have := e2 i' hi'
        rw [addr_add, addr_add] at this
        rw [Nat.mul_comm k i]
        exact this)
      exact ⟨_, cap, l, by rw [hl1], by omega, hm, .inr ⟨b, o, rfl, hlt, hl2⟩⟩
end

theorem TmRow.mk : ∀ {w : World} {l : List Tm} {g o : Nat}, (∀ j t, l[j]? = some t → TmAt w g (o + 4 * j) t) → TmRow w g o l
  | w, [], g, o, h => by rw [TmRow]; trivial
  | w, t :: r, g, o, h => by
    rw [TmRow]
    exact ⟨h 0 t rfl, TmRow.mk fun j x hj => by rw [show o + 4 + 4 * j = o + 4 * (j + 1) from by omega]; exact h (j + 1) x (by simpa using hj)⟩
theorem FmRow.mk : ∀ {w : World} {l : List Fm} {g o : Nat}, (∀ j t, l[j]? = some t → FmAt w g (o + 6 * j) t) → FmRow w g o l
  | w, [], g, o, h => by rw [FmRow]; trivial
  | w, t :: r, g, o, h => by
    rw [FmRow]
    exact ⟨h 0 t rfl, FmRow.mk fun j x hj => by rw [show o + 6 + 6 * j = o + 6 * (j + 1) from by omega]; exact h (j + 1) x (by simpa using hj)⟩

section
variable {H : Type} {enc : TypeId × Value → H} {w : World} {base : Nat} {spare : Nat → Bool} {held : Bool}
set_option maxRecDepth 100000 in
theorem opn_term : ∀ (fuel : Nat) (cs : List Value) (x : DataW H × List MemPlace), DataW.trod enc Tryd.prog w base spare held fuel 26 cs = some x → ∃ (t : Tm) (A : Option Addr) (c : Nat), cs = [.int .i64 t.op, .int .i64 t.num, .string t.name, .slice A t.kids.length c] ∧ TmV w A c t := by
  intro fuel
  induction fuel using Nat.strongRecOn with
  | _ fuel ih =>
    intro cs x h
    obtain ⟨xs, n, hfu, -, hl, hxl, hf⟩ := DataW.trod_struct Tryd.underlying26 h
    rw [show Tryd.prog.cellsOf 26 = 4 from by kernel_rfl] at hl
    obtain ⟨c0, c1, c2, c3, rfl⟩ : ∃ c0 c1 c2 c3, cs = [c0, c1, c2, c3] := by
      match cs, hl with
      | [c0, c1, c2, c3], _ => exact ⟨c0, c1, c2, c3, rfl⟩
    obtain ⟨y0, y1, y2, y3, rfl⟩ : ∃ y0 y1 y2 y3, xs = [y0, y1, y2, y3] := by
      match xs, hxl with
      | [c0, c1, c2, c3], _ => exact ⟨c0, c1, c2, c3, rfl⟩
    have f0 := hf 0 _ rfl
    have f1 := hf 1 _ rfl
    have f2 := hf 2 _ rfl
    have f3 := hf 3 _ rfl
    simp [show Tryd.prog.cellsOf 3 = 1 from by kernel_rfl, show Tryd.prog.cellsOf 9 = 1 from by kernel_rfl, show Tryd.prog.cellsOf 24 = 1 from by kernel_rfl] at f0 f1 f2 f3
    obtain ⟨n0, e0, -, -⟩ := DataW.trod_int Tryd.underlying3 f0
    obtain ⟨n1, e1, -, -⟩ := DataW.trod_int Tryd.underlying3 f1
    obtain ⟨s, e2, -, hs⟩ := DataW.trod_string Tryd.underlying9 f2
    obtain ⟨A, c, l, e3, h1, h2, h3⟩ := slice_rows Tryd.underlying24 (show Tryd.prog.cellsOf 26 = 4 from by kernel_rfl) (by decide) (fun b o (t : Tm) => TmAt w b o t) (fun m hm b o cs' y hb hcl hcells htr => by
      obtain ⟨t, A', c', rfl, hV⟩ := ih m (by omega) cs' y htr
      refine ⟨t, ?_⟩
      have g0 := hcells 0 (by omega)
      have g1 := hcells 1 (by omega)
      have g2 := hcells 2 (by omega)
      have g3 := hcells 3 (by omega)
      exact TmAt.mk g0 g1 g2 g3 hV) f3
    injection e0 with e0
    injection e1 with e1
    injection e2 with e2
    injection e3 with e3
    subst e0 e1 e2 e3
    refine ⟨.mk n0 n1 s l, A, c, rfl, h1, h2, hs, ?_⟩
    rcases h3 with h3 | ⟨b, o, rfl, hb, h3⟩
    · exact .inl h3
    · exact .inr ⟨b, o, rfl, hb, TmRow.mk h3⟩

set_option maxRecDepth 100000 in
theorem opn_form : ∀ (fuel : Nat) (cs : List Value) (x : DataW H × List MemPlace), DataW.trod enc Tryd.prog w base spare held fuel 29 cs = some x → ∃ (t : Fm) (Ae : Option Addr) (ce : Nat) (A : Option Addr) (c : Nat), cs = [.int .i64 t.op, .int .i64 t.tm.op, .int .i64 t.tm.num, .string t.tm.name, .slice Ae t.tm.kids.length ce, .slice A t.kids.length c] ∧ FmV w Ae ce A c t := by
  intro fuel
  induction fuel using Nat.strongRecOn with
  | _ fuel ih =>
    intro cs x h
    obtain ⟨xs, n, hfu, -, hl, hxl, hf⟩ := DataW.trod_struct Tryd.underlying29 h
    rw [show Tryd.prog.cellsOf 29 = 6 from by kernel_rfl] at hl
    obtain ⟨c0, c1, c2, c3, c4, c5, rfl⟩ : ∃ c0 c1 c2 c3 c4 c5, cs = [c0, c1, c2, c3, c4, c5] := by
      match cs, hl with
      | [c0, c1, c2, c3, c4, c5], _ => exact ⟨c0, c1, c2, c3, c4, c5, rfl⟩
    obtain ⟨y0, y1, y2, rfl⟩ : ∃ y0 y1 y2, xs = [y0, y1, y2] := by
      match xs, hxl with
      | [c0, c1, c2], _ => exact ⟨c0, c1, c2, rfl⟩
    have f0 := hf 0 _ rfl
    have f1 := hf 1 _ rfl
    have f2 := hf 2 _ rfl
    simp [show Tryd.prog.cellsOf 3 = 1 from by kernel_rfl, show Tryd.prog.cellsOf 26 = 4 from by kernel_rfl, show Tryd.prog.cellsOf 27 = 1 from by kernel_rfl] at f0 f1 f2
    obtain ⟨n0, e0, -, -⟩ := DataW.trod_int Tryd.underlying3 f0
    obtain ⟨e, Ae, ce, e1, hE⟩ := opn_term _ _ _ f1
    obtain ⟨A, c, l, e2, h1, h2, h3⟩ := slice_rows Tryd.underlying27 (show Tryd.prog.cellsOf 29 = 6 from by kernel_rfl) (by decide) (fun b o (t : Fm) => FmAt w b o t) (fun m hm b o cs' y hb hcl hcells htr => by
      obtain ⟨t, Ae', ce', A', c', rfl, hV⟩ := ih m (by omega) cs' y htr
      refine ⟨t, ?_⟩
      have g0 := hcells 0 (by omega)
      have g1 := hcells 1 (by omega)
      have g2 := hcells 2 (by omega)
      have g3 := hcells 3 (by omega)
      have g4 := hcells 4 (by omega)
      have g5 := hcells 5 (by omega)
      exact FmAt.mk g0 g1 g2 g3 g4 g5 hV) f2
    injection e0 with e0
    injection e1 with e1 e1'
    injection e1' with e11 e1'
    injection e1' with e12 e1'
    injection e1' with e13 e1'
    injection e2 with e2
    subst e0 e1 e11 e12 e13 e2
    refine ⟨.mk n0 e l, Ae, ce, A, c, rfl, hE, h1, h2, ?_⟩
    rcases h3 with h3 | ⟨b, o, rfl, hb, h3⟩
    · exact .inl h3
    · exact .inr ⟨b, o, rfl, hb, FmRow.mk h3⟩
end
end Go.Proofs.YtcjblbpkjegmiaaDoor
