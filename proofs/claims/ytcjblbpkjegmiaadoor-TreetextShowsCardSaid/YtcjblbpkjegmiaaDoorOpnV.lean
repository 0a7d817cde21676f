/-Terms and formulas that came in.  Variables, states, paths and witness trees that came in.  Arguments that came in; what the rows' lists give: the lexer's words lie in the world.  A tree that came in within the reach: its paths are not too long. -/
import Derived.Test.YtcjblbpkjegmiaaDoorFrmA
import Derived.Test.YtcjblbpkjegmiaaDoorCards
import Derived.Test.YtcjblbpkjegmiaaDoorTie
import Derived.ProofKit
import Derived.Lay
import Derived.SevenTiedAt
import Derived.LaidOnce
import Derived.Test.YtcjblbpkjegmiaaDoorTtrA
import Derived.Test.YtcjblbpkjegmiaaDoorTtrF
import Derived.Lib.LaidU8
import Derived.Lib.LaidTab
import Derived.Test.YtcjblbpkjegmiaaDoorTtrY3
import Derived.SizedLaws
namespace Go.Proofs.YtcjblbpkjegmiaaDoor
open Go.ChangeShapes Go.WideShapes Go.ChangeAt Go.RowKit
set_option linter.unusedVariables false

theorem list_of_each {α : Type} {Q : Nat → α → Prop} : ∀ (n : Nat), (∀ i, i < n → ∃ a, Q i a) → ∃ l : List α, l.length = n ∧ ∀ j a, l[j]? = some a → Q j a
  | 0, _ => ⟨[], rfl, fun j a h => by simp at h⟩
  | n + 1, h => by
    obtain ⟨l, hl, hq⟩ := list_of_each n (fun i hi => h i (by omega))
    obtain ⟨a, ha⟩ := h n (by omega)
    refine ⟨l ++ [a], by simp [hl], fun j b hj => ?_⟩
    rcases Nat.lt_or_ge j l.length with hlt | hge
    · rw [List.getElem?_append_left hlt] at hj
      exact hq j b hj
    · rw [List.getElem?_append_right hge] at hj
      have hj0 : j - l.length = 0 := by
        rcases Nat.eq_zero_or_pos (j - l.length) with h0 | h0
        · exact h0
        · rw [List.getElem?_eq_none (by simp; omega)] at hj; cases hj
      rw [hj0] at hj
      simp at hj
      subst hj
      rw [show j = n from by omega]
      exact ha

section
variable {H : Type} {enc : TypeId × Value → H} {P : Program} {w : World} {base : Nat} {spare : Nat → Bool} {held : Bool}
theorem slice_rows {α : Type} {t e : TypeId} {k fuel : Nat} {cs : List Value} {x : DataW H × List MemPlace} (ht : P.underlying t = some (.slice e)) (hc : P.cellsOf e = k) (hk : 0 < k) (R : Nat → Nat → α → Prop)
    (hR : ∀ n, fuel = n + 1 → ∀ b o cs' y, b < w.heap.size → cs'.length = k → (∀ i, i < k → w.cell? ⟨b, o + i, none⟩ = cs'[i]?) → DataW.trod enc P w base spare held n e cs' = some y → ∃ a, R b o a)
    (h : DataW.trod enc P w base spare held fuel t cs = some x) :
    ∃ A c, ∃ l : List α, cs = [.slice A l.length c] ∧ l.length ≤ c ∧ c ≤ maxLen ∧ (l = [] ∨ ∃ b o, A = some ⟨b, o, none⟩ ∧ b < w.heap.size ∧ ∀ j a, l[j]? = some a → R b (o + k * j) a) := by
  rcases DataW.trod_slice ht h with ⟨rfl, -⟩ | ⟨a, len, cap, elems, rest, n, hf, rfl, hx, hb, hl, hm, hel, hes, -, -⟩
  · exact ⟨none, 0, [], rfl, Nat.le_refl _, Nat.zero_le _, .inl rfl⟩
  · by_cases h0 : len = 0
    · subst h0
      exact ⟨some a, cap, [], rfl, Nat.zero_le _, hm, .inl rfl⟩
    · rw [hc] at hes
      have hone : ∀ i, i < len → ∃ cs' y, w.cells? base (a.add (i * k)) k = some cs' ∧ DataW.trod enc P w base spare held n e cs' = some y := fun i hi => by
        have h1 := hes i hi
        rw [List.getElem?_eq_getElem (by omega)] at h1
        obtain ⟨cs', h2, h3⟩ := Option.bind_eq_some_iff.1 h1
        exact ⟨cs', _, h2, h3⟩
      obtain ⟨b, o, spot⟩ := a
      obtain ⟨cs0, y0, h2, -⟩ := hone 0 (by omega)
      obtain ⟨-, g1, g2⟩ := World.cells?_some h2
      have g3 := g2 0 hk
      rw [List.getElem?_eq_getElem (by omega)] at g3
      have hspot : spot = none := by simpa [Addr.add] using World.cell?_spot g3
      subst hspot
      have hlt : b < w.heap.size := by
        have := World.cells?_block h2 hk
        simpa [Addr.add] using this
      obtain ⟨l, hl1, hl2⟩ := list_of_each (Q := fun i (a : α) => R b (o + k * i) a) len (fun i hi => by
        obtain ⟨cs', y, h4, h5⟩ := hone i hi
        obtain ⟨-, e1, e2⟩ := World.cells?_some h4
        refine hR n hf b (o + k * i) cs' y hlt e1 (fun i' hi' => ?_) h5
        have := e2 i' hi'
        rw [addr_add, addr_add] at this
        rw [Nat.mul_comm k i]
        exact this)
      exact ⟨_, cap, l, by rw [hl1], by omega, hm, .inr ⟨b, o, rfl, hlt, hl2⟩⟩
end

theorem TmRow.mk : ∀ {w : World} {l : List Tm} {g o : Nat}, (∀ j t, l[j]? = some t → TmAt w g (o + 4 * j) t) → TmRow w g o l
  | w, [], g, o, h => by rw [TmRow]; trivial
  | w, t :: r, g, o, h => by
    rw [TmRow]
    exact ⟨h 0 t rfl, TmRow.mk fun j x hj => by rw [show o + 4 + 4 * j = o + 4 * (j + 1) from by omega]; exact h (j + 1) x (by simpa using hj)⟩
theorem FmRow.mk : ∀ {w : World} {l : List Fm} {g o : Nat}, (∀ j t, l[j]? = some t → FmAt w g (o + 6 * j) t) → FmRow w g o l
  | w, [], g, o, h => by rw [FmRow]; trivial
  | w, t :: r, g, o, h => by
    rw [FmRow]
    exact ⟨h 0 t rfl, FmRow.mk fun j x hj => by rw [show o + 6 + 6 * j = o + 6 * (j + 1) from by omega]; exact h (j + 1) x (by simpa using hj)⟩

section
variable {H : Type} {enc : TypeId × Value → H} {w : World} {base : Nat} {spare : Nat → Bool} {held : Bool}
set_option maxRecDepth 100000 in
theorem opn_term : ∀ (fuel : Nat) (cs : List Value) (x : DataW H × List MemPlace), DataW.trod enc Tryd.prog w base spare held fuel 26 cs = some x → ∃ (t : Tm) (A : Option Addr) (c : Nat), cs = [.int .i64 t.op, .int .i64 t.num, .string t.name, .slice A t.kids.length c] ∧ TmV w A c t := by
  intro fuel
  induction fuel using Nat.strongRecOn with
  | _ fuel ih =>
    intro cs x h
    obtain ⟨xs, n, hfu, -, hl, hxl, hf⟩ := DataW.trod_struct Tryd.underlying26 h
    rw [show Tryd.prog.cellsOf 26 = 4 from by kernel_rfl] at hl
    obtain ⟨c0, c1, c2, c3, rfl⟩ : ∃ c0 c1 c2 c3, cs = [c0, c1, c2, c3] := by
      match cs, hl with
      | [c0, c1, c2, c3], _ => exact ⟨c0, c1, c2, c3, rfl⟩
    obtain ⟨y0, y1, y2, y3, rfl⟩ : ∃ y0 y1 y2 y3, xs = [y0, y1, y2, y3] := by
      match xs, hxl with
      | [c0, c1, c2, c3], _ => exact ⟨c0, c1, c2, c3, rfl⟩
    have f0 := hf 0 _ rfl
    have f1 := hf 1 _ rfl
    have f2 := hf 2 _ rfl
    have f3 := hf 3 _ rfl
    simp [show Tryd.prog.cellsOf 3 = 1 from by kernel_rfl, show Tryd.prog.cellsOf 9 = 1 from by kernel_rfl, show Tryd.prog.cellsOf 24 = 1 from by kernel_rfl] at f0 f1 f2 f3
    obtain ⟨n0, e0, -, -⟩ := DataW.trod_int Tryd.underlying3 f0
    obtain ⟨n1, e1, -, -⟩ := DataW.trod_int Tryd.underlying3 f1
    obtain ⟨s, e2, -, hs⟩ := DataW.trod_string Tryd.underlying9 f2
    obtain ⟨A, c, l, e3, h1, h2, h3⟩ := slice_rows Tryd.underlying24 (show Tryd.prog.cellsOf 26 = 4 from by kernel_rfl) (by decide) (fun b o (t : Tm) => TmAt w b o t) (fun m hm b o cs' y hb hcl hcells htr => by
      obtain ⟨t, A', c', rfl, hV⟩ := ih m (by omega) cs' y htr
      refine ⟨t, ?_⟩
      have g0 := hcells 0 (by omega)
      have g1 := hcells 1 (by omega)
      have g2 := hcells 2 (by omega)
      have g3 := hcells 3 (by omega)
      exact TmAt.mk g0 g1 g2 g3 hV) f3
    injection e0 with e0
    injection e1 with e1
    injection e2 with e2
    injection e3 with e3
    subst e0 e1 e2 e3
    refine ⟨.mk n0 n1 s l, A, c, rfl, h1, h2, hs, ?_⟩
    rcases h3 with h3 | ⟨b, o, rfl, hb, h3⟩
    · exact .inl h3
    · exact .inr ⟨b, o, rfl, hb, TmRow.mk h3⟩

set_option maxRecDepth 100000 in
theorem opn_form : ∀ (fuel : Nat) (cs : List Value) (x : DataW H × List MemPlace), DataW.trod enc Tryd.prog w base spare held fuel 29 cs = some x → ∃ (t : Fm) (Ae : Option Addr) (ce : Nat) (A : Option Addr) (c : Nat), cs = [.int .i64 t.op, .int .i64 t.tm.op, .int .i64 t.tm.num, .string t.tm.name, .slice Ae t.tm.kids.length ce, .slice A t.kids.length c] ∧ FmV w Ae ce A c t := by
  intro fuel
  induction fuel using Nat.strongRecOn with
  | _ fuel ih =>
    intro cs x h
    obtain ⟨xs, n, hfu, -, hl, hxl, hf⟩ := DataW.trod_struct Tryd.underlying29 h
    rw [show Tryd.prog.cellsOf 29 = 6 from by kernel_rfl] at hl
    obtain ⟨c0, c1, c2, c3, c4, c5, rfl⟩ : ∃ c0 c1 c2 c3 c4 c5, cs = [c0, c1, c2, c3, c4, c5] := by
      match cs, hl with
      | [c0, c1, c2, c3, c4, c5], _ => exact ⟨c0, c1, c2, c3, c4, c5, rfl⟩
    obtain ⟨y0, y1, y2, rfl⟩ : ∃ y0 y1 y2, xs = [y0, y1, y2] := by
      match xs, hxl with
      | [c0, c1, c2], _ => exact ⟨c0, c1, c2, rfl⟩
    have f0 := hf 0 _ rfl
    have f1 := hf 1 _ rfl
    have f2 := hf 2 _ rfl
    simp [show Tryd.prog.cellsOf 3 = 1 from by kernel_rfl, show Tryd.prog.cellsOf 26 = 4 from by kernel_rfl, show Tryd.prog.cellsOf 27 = 1 from by kernel_rfl] at f0 f1 f2
    obtain ⟨n0, e0, -, -⟩ := DataW.trod_int Tryd.underlying3 f0
    obtain ⟨e, Ae, ce, e1, hE⟩ := opn_term _ _ _ f1
    obtain ⟨A, c, l, e2, h1, h2, h3⟩ := slice_rows Tryd.underlying27 (show Tryd.prog.cellsOf 29 = 6 from by kernel_rfl) (by decide) (fun b o (t : Fm) => FmAt w b o t) (fun m hm b o cs' y hb hcl hcells htr => by
      obtain ⟨t, Ae', ce', A', c', rfl, hV⟩ := ih m (by omega) cs' y htr
      refine ⟨t, ?_⟩
      have g0 := hcells 0 (by omega)
      have g1 := hcells 1 (by omega)
      have g2 := hcells 2 (by omega)
      have g3 := hcells 3 (by omega)
      have g4 := hcells 4 (by omega)
      have g5 := hcells 5 (by omega)
      exact FmAt.mk g0 g1 g2 g3 g4 g5 hV) f2
    injection e0 with e0
    injection e1 with e1 e1'
    injection e1' with e11 e1'
    injection e1' with e12 e1'
    injection e1' with e13 e1'
    injection e2 with e2
    subst e0 e1 e11 e12 e13 e2
    refine ⟨.mk n0 e l, Ae, ce, A, c, rfl, hE, h1, h2, ?_⟩
    rcases h3 with h3 | ⟨b, o, rfl, hb, h3⟩
    · exact .inl h3
    · exact .inr ⟨b, o, rfl, hb, FmRow.mk h3⟩
end
end Go.Proofs.YtcjblbpkjegmiaaDoor
namespace Go.Proofs.YtcjblbpkjegmiaaDoor
open Go.ChangeShapes Go.WideShapes Go.ChangeAt Go.RowKit
set_option linter.unusedVariables false

section
variable {H : Type} {enc : TypeId × Value → H} {w : World} {base : Nat} {spare : Nat → Bool} {held : Bool}
theorem int_rng {n : Int} (h : (Lit.int .i64 n).wf = true) : -9223372036854775808 ≤ n ∧ n ≤ 9223372036854775807 := by
  simpa [Lit.wf, IntKind.min, IntKind.max, IntKind.signed, IntKind.bits] using h

set_option maxRecDepth 100000 in
theorem opn_ints {fuel : Nat} {cs : List Value} {x : DataW H × List MemPlace} (h : DataW.trod enc Tryd.prog w base spare held fuel 23 cs = some x) : ∃ (A : Option Addr) (c : Nat) (l : List Int), cs = [.slice A l.length c] ∧ IntsV w A c l := by
  obtain ⟨A, c, l, e, h1, h2, h3⟩ := slice_rows Tryd.underlying23 (show Tryd.prog.cellsOf 3 = 1 from by kernel_rfl) (by decide) (fun b o (z : Int) => w.cell? ⟨b, o, none⟩ = some (.int .i64 z) ∧ -9223372036854775808 ≤ z ∧ z ≤ 9223372036854775807) (fun m hm b o cs' y hb hcl hcells htr => by
    obtain ⟨z, e, -, hz⟩ := DataW.trod_int Tryd.underlying3 htr
    subst e
    exact ⟨z, hcells 0 (by omega), int_rng hz⟩) h
  refine ⟨A, c, l, e, h1, h2, fun z hz => ?_, ?_⟩
  · rcases h3 with h3 | ⟨b, o, -, -, h3⟩
    · rw [h3] at hz; cases hz
    · obtain ⟨j, hj⟩ := List.mem_iff_getElem?.1 hz
      exact (h3 j z hj).2
  · rcases h3 with h3 | ⟨b, o, hA, hb, h3⟩
    · exact .inl h3
    · exact .inr ⟨b, o, hA, hb, fun j z hj => by have := (h3 j z hj).1; rwa [Nat.one_mul] at this⟩
set_option maxRecDepth 100000 in
theorem opn_rows {fuel : Nat} {cs : List Value} {x : DataW H × List MemPlace} (h : DataW.trod enc Tryd.prog w base spare held fuel 30 cs = some x) : ∃ (A : Option Addr) (c : Nat) (l : List (List Int)), cs = [.slice A l.length c] ∧ RowsV w A c l := by
  obtain ⟨A, c, l, e, h1, h2, h3⟩ := slice_rows Tryd.underlying30 (show Tryd.prog.cellsOf 23 = 1 from by kernel_rfl) (by decide) (fun b o (z : List Int) => ∃ A' c', w.cell? ⟨b, o, none⟩ = some (.slice A' z.length c') ∧ IntsV w A' c' z) (fun m hm b o cs' y hb hcl hcells htr => by
    obtain ⟨A', c', l', e, hI⟩ := opn_ints htr
    subst e
    exact ⟨l', A', c', hcells 0 (by omega), hI⟩) h
  refine ⟨A, c, l, e, h1, h2, ?_⟩
  rcases h3 with h3 | ⟨b, o, hA, hb, h3⟩
  · exact .inl h3
  · exact .inr ⟨b, o, hA, hb, fun j z hj => by have := h3 j z hj; rwa [Nat.one_mul] at this⟩
set_option maxRecDepth 100000 in
theorem opn_vars {fuel : Nat} {cs : List Value} {x : DataW H × List MemPlace} (h : DataW.trod enc Tryd.prog w base spare held fuel 22 cs = some x) : ∃ (A : Option Addr) (c : Nat) (l : List Vr), cs = [.slice A l.length c] ∧ VrsV w A c l := by
  obtain ⟨A, c, l, e, h1, h2, h3⟩ := slice_rows Tryd.underlying22 (show Tryd.prog.cellsOf 54 = 4 from by kernel_rfl) (by decide) (fun b o (v : Vr) => v.name.size ≤ maxLen ∧ w.cell? ⟨b, o, none⟩ = some (.string v.name) ∧ w.cell? ⟨b, o + 1, none⟩ = some (.bool v.isB) ∧ w.cell? ⟨b, o + 2, none⟩ = some (.int .i64 v.lo) ∧ w.cell? ⟨b, o + 3, none⟩ = some (.int .i64 v.hi)) (fun m hm b o cs' y hb hcl hcells htr => by
    obtain ⟨xs, n, hfu, -, hl, hxl, hf⟩ := DataW.trod_struct Tryd.underlying54 htr
    obtain ⟨c0, c1, c2, c3, rfl⟩ : ∃ c0 c1 c2 c3, cs' = [c0, c1, c2, c3] := by
      match cs', hcl with
      | [c0, c1, c2, c3], _ => exact ⟨c0, c1, c2, c3, rfl⟩
    obtain ⟨y0, y1, y2, y3, rfl⟩ : ∃ y0 y1 y2 y3, xs = [y0, y1, y2, y3] := by
      match xs, hxl with
      | [c0, c1, c2, c3], _ => exact ⟨c0, c1, c2, c3, rfl⟩
    have f0 := hf 0 _ rfl
    have f1 := hf 1 _ rfl
    have f2 := hf 2 _ rfl
    have f3 := hf 3 _ rfl
    simp [show Tryd.prog.cellsOf 3 = 1 from by kernel_rfl, show Tryd.prog.cellsOf 9 = 1 from by kernel_rfl, show Tryd.prog.cellsOf 4 = 1 from by kernel_rfl] at f0 f1 f2 f3
    obtain ⟨s, e0, -, hs⟩ := DataW.trod_string Tryd.underlying9 f0
    obtain ⟨bb, e1, -⟩ := DataW.trod_bool Tryd.underlying4 f1
    obtain ⟨n2, e2, -, -⟩ := DataW.trod_int Tryd.underlying3 f2
    obtain ⟨n3, e3, -, -⟩ := DataW.trod_int Tryd.underlying3 f3
    injection e0 with e0
    injection e1 with e1
    injection e2 with e2
    injection e3 with e3
    subst e0 e1 e2 e3
    exact ⟨⟨s, bb, n2, n3⟩, hs, hcells 0 (by omega), hcells 1 (by omega), hcells 2 (by omega), hcells 3 (by omega)⟩) h
  refine ⟨A, c, l, e, h1, h2, fun v hv => ?_, ?_⟩
  · rcases h3 with h3 | ⟨b, o, -, -, h3⟩
    · rw [h3] at hv; cases hv
    · obtain ⟨j, hj⟩ := List.mem_iff_getElem?.1 hv
      exact (h3 j v hj).1
  · rcases h3 with h3 | ⟨b, o, hA, hb, h3⟩
    · exact .inl h3
    · exact .inr ⟨b, o, hA, hb, fun j z hj => (h3 j z hj).2⟩
set_option maxRecDepth 100000 in
theorem opn_tree : ∀ (fuel : Nat) (cs : List Value) (x : DataW H × List MemPlace), DataW.trod enc Tryd.prog w base spare held fuel 33 cs = some x → ∃ (t : Tr) (p : TrP), cs = t.cells p ∧ TrV w p t := by
  intro fuel
  induction fuel using Nat.strongRecOn with
  | _ fuel ih =>
    intro cs x h
    obtain ⟨xs, n, hfu, -, hl, hxl, hf⟩ := DataW.trod_struct Tryd.underlying33 h
    rw [show Tryd.prog.cellsOf 33 = 12 from by kernel_rfl] at hl
    obtain ⟨c0, c1, c2, c3, c4, c5, c6, c7, c8, c9, c10, c11, rfl⟩ : ∃ c0 c1 c2 c3 c4 c5 c6 c7 c8 c9 c10 c11, cs = [c0, c1, c2, c3, c4, c5, c6, c7, c8, c9, c10, c11] := by
      match cs, hl with
      | [c0, c1, c2, c3, c4, c5, c6, c7, c8, c9, c10, c11], _ => exact ⟨c0, c1, c2, c3, c4, c5, c6, c7, c8, c9, c10, c11, rfl⟩
    obtain ⟨y0, y1, y2, y3, y4, y5, y6, rfl⟩ : ∃ y0 y1 y2 y3 y4 y5 y6, xs = [y0, y1, y2, y3, y4, y5, y6] := by
      match xs, hxl with
      | [c0, c1, c2, c3, c4, c5, c6], _ => exact ⟨c0, c1, c2, c3, c4, c5, c6, rfl⟩
    have f0 := hf 0 _ rfl
    have f1 := hf 1 _ rfl
    have f2 := hf 2 _ rfl
    have f3 := hf 3 _ rfl
    have f4 := hf 4 _ rfl
    have f5 := hf 5 _ rfl
    have f6 := hf 6 _ rfl
    simp [show Tryd.prog.cellsOf 3 = 1 from by kernel_rfl, show Tryd.prog.cellsOf 23 = 1 from by kernel_rfl, show Tryd.prog.cellsOf 30 = 1 from by kernel_rfl, show Tryd.prog.cellsOf 29 = 6 from by kernel_rfl, show Tryd.prog.cellsOf 31 = 1 from by kernel_rfl] at f0 f1 f2 f3 f4 f5 f6
    obtain ⟨k, e0, -, -⟩ := DataW.trod_int Tryd.underlying3 f0
    obtain ⟨aS, cS, st, e1, hS⟩ := opn_ints f1
    obtain ⟨f, aE, cE, aF, cF, e2, hF⟩ := opn_form _ _ _ f2
    obtain ⟨aP, cP, pt, e3, hP⟩ := opn_rows f3
    obtain ⟨lo, e4, -, -⟩ := DataW.trod_int Tryd.underlying3 f4
    obtain ⟨at_, e5, -, hat⟩ := DataW.trod_int Tryd.underlying3 f5
    obtain ⟨aK, cK, l, e6, h1, h2, h3⟩ := slice_rows Tryd.underlying31 (show Tryd.prog.cellsOf 33 = 12 from by kernel_rfl) (by decide) (fun b o (t : Tr) => TrAt w b o t) (fun m hm b o cs' y hb hcl hcells htr => by
      obtain ⟨t, p', rfl, hV⟩ := ih m (by omega) cs' y htr
      refine ⟨t, TrAt.mk (p := p') (fun j v hj => ?_) hV⟩
      have hj12 : j < 12 := by have := (List.getElem?_eq_some_iff.1 hj).1; simpa [Tr.cells] using this
      rw [hcells j hj12]
      exact hj) f6
    injection e0 with e0
    injection e1 with e1
    injection e2 with e2 e2'
    injection e2' with e21 e2'
    injection e2' with e22 e2'
    injection e2' with e23 e2'
    injection e2' with e24 e2'
    injection e2' with e25 e2'
    injection e3 with e3
    injection e4 with e4
    injection e5 with e5
    injection e6 with e6
    subst e0 e1 e2 e21 e22 e23 e24 e25 e3 e4 e5 e6
    refine ⟨.mk k st f pt lo at_ l, ⟨aS, cS, aE, cE, aF, cF, aP, cP, aK, cK⟩, rfl, ⟨hS, hF, hP, h1, h2, int_rng hat⟩, ?_⟩
    rcases h3 with h3 | ⟨b, o, rfl, hb, h3⟩
    · exact .inl h3
    · exact .inr ⟨b, o, rfl, hb, TrRow.mk h3⟩
end
end Go.Proofs.YtcjblbpkjegmiaaDoor
namespace Go.Proofs.YtcjblbpkjegmiaaDoor
open Go.ChangeShapes Go.WideShapes Go.ChangeAt Go.RowKit
open Go.ChangeMaps (open_string shut_string)
set_option linter.unusedVariables false

theorem own : ownKnob Tryd.prog.godebug = none := by kernel_rfl
theorem laidOut : laidOutB Tryd.prog = true := by kernel_rfl

theorem strs_of_array {H : Type} {enc : TypeId × Value → H} {w : World} {base : Nat} {sp : Nat → Bool} {held : Bool} {fuel : Nat} {t e : TypeId} {n : Nat} {cs : List Value} {l : List ByteArray} {p : List MemPlace}
    (ht : Tryd.prog.underlying t = some (.array n e)) (he : Tryd.prog.underlying e = some .string) (hce : Tryd.prog.cellsOf e = 1)
    (h : DataW.trod enc Tryd.prog w base sp held fuel t cs = some (.agg (l.map fun s => .lit (.string s.data.toList)), p)) : ∀ j, j < l.length → cs[j]? = some (.string (l.getD j ByteArray.empty)) := by
  obtain ⟨xs, m, rfl, hx, hl, hxl, hall⟩ := DataW.trod_array ht h
  have hxs : xs.map (·.1) = l.map fun s => (DataW.lit (.string s.data.toList) : DataW H) := by
    have := congrArg Prod.fst hx
    simpa using this.symm
  have hzl : l.length = n := by
    have := congrArg List.length hxs
    simp at this
    omega
  intro j hj
  have h1 := hall j (by omega)
  obtain ⟨b, hb⟩ : ∃ b, xs[j]? = some b := ⟨xs[j]'(by omega), List.getElem?_eq_getElem (by omega)⟩
  rw [hb, hce] at h1
  obtain ⟨s, hcs, rfl, _⟩ := DataW.trod_string he h1
  have h2 : cs[j]? = some (.string s) := by
    have := congrArg (·[0]?) hcs
    simpa [List.getElem?_take, List.getElem?_drop] using this
  have h3 : (xs.map (·.1))[j]? = some (DataW.lit (.string s.data.toList) : DataW H) := by simp [hb]
  rw [hxs] at h3
  simp only [List.getElem?_map, Option.map_eq_some_iff, DataW.lit.injEq, Lit.string.injEq] at h3
  obtain ⟨z, hz, hzs⟩ := h3
  have : z = s := bs_ext hzs
  subst this
  rw [h2]
  simp [List.getD, hz]

theorem words_of_reads {W : World} (h1 : Lib.VarReads Tryd.prog W "voussoir/lexi.words" Rows.laid_voussoir_lexi_words) : WordsT W := by
  obtain ⟨g, t, cs, fuel, p, hg, ht, hv, hd⟩ := h1
  obtain rfl := Option.some.inj ((show Tryd.prog.globalNamed "voussoir/lexi.words" = some 0 by kernel_rfl).symm.trans hg)
  obtain rfl := Option.some.inj ((show (Tryd.prog.globals[0]?).map (·.type) = some 137 by kernel_rfl).symm.trans ht)
  have c1 := strs_of_array (l := wordL) Tryd.underlying137 Tryd.underlying9 (by kernel_rfl) hd
  have d1 : ∀ j, j < 24 → W.cell? ⟨0, j, none⟩ = some (.string (wordL.getD j ByteArray.empty)) := fun j hj => by
    have h3 := World.var?_cell hg hv j
    rw [h3, ← Array.getElem?_toList]
    exact c1 j hj
  exact ⟨World.block_lt_of_cell? W _ (d1 0 (by omega)), d1⟩
section
variable {H : Type} {enc : TypeId × Value → H} {W : World} {base : Nat} {v : Value} {d : DataW H} {p : List MemPlace}
set_option maxRecDepth 100000 in
theorem arg_vars (hv : Value.okWide Tryd.prog W .any base 22 v) (h : DataW.Trod enc Tryd.prog W 0 (fun _ => true) true 22 v d p) : ∃ (A : Option Addr) (c : Nat) (l : List Vr), v = .slice A l.length c ∧ VrsV W A c l := by
  obtain ⟨A0, len, cap, rfl⟩ := okWide_slice Tryd.underlying22 hv
  obtain ⟨fuel, hf⟩ := h
  obtain ⟨A, c, l, e, hV⟩ := opn_vars hf
  simp [Value.cells] at e
  obtain ⟨rfl, rfl, rfl⟩ := e
  exact ⟨_, _, l, rfl, hV⟩
set_option maxRecDepth 100000 in
theorem arg_ints (hv : Value.okWide Tryd.prog W .any base 23 v) (h : DataW.Trod enc Tryd.prog W 0 (fun _ => true) true 23 v d p) : ∃ (A : Option Addr) (c : Nat) (l : List Int), v = .slice A l.length c ∧ IntsV W A c l := by
  obtain ⟨A0, len, cap, rfl⟩ := okWide_slice Tryd.underlying23 hv
  obtain ⟨fuel, hf⟩ := h
  obtain ⟨A, c, l, e, hV⟩ := opn_ints hf
  simp [Value.cells] at e
  obtain ⟨rfl, rfl, rfl⟩ := e
  exact ⟨_, _, l, rfl, hV⟩
set_option maxRecDepth 100000 in
theorem arg_rows (hv : Value.okWide Tryd.prog W .any base 30 v) (h : DataW.Trod enc Tryd.prog W 0 (fun _ => true) true 30 v d p) : ∃ (A : Option Addr) (c : Nat) (l : List (List Int)), v = .slice A l.length c ∧ RowsV W A c l := by
  obtain ⟨A0, len, cap, rfl⟩ := okWide_slice Tryd.underlying30 hv
  obtain ⟨fuel, hf⟩ := h
  obtain ⟨A, c, l, e, hV⟩ := opn_rows hf
  simp [Value.cells] at e
  obtain ⟨rfl, rfl, rfl⟩ := e
  exact ⟨_, _, l, rfl, hV⟩
set_option maxRecDepth 100000 in
theorem arg_tree (hv : Value.okWide Tryd.prog W .any base 33 v) (h : DataW.Trod enc Tryd.prog W 0 (fun _ => true) true 33 v d p) : ∃ (t : Tr) (q : TrP), v = t.val q ∧ TrV W q t := by
  obtain ⟨cs, rfl, -⟩ := okWide_struct Tryd.underlying33 hv
  obtain ⟨fuel, hf⟩ := h
  obtain ⟨t, q, e, hV⟩ := opn_tree _ _ _ hf
  have e' : cs.toList = t.cells q := e
  refine ⟨t, q, ?_, hV⟩
  have : cs = (t.cells q).toArray := by rw [← e']
  rw [this]
  rfl
set_option maxRecDepth 100000 in
theorem arg_term (hv : Value.okWide Tryd.prog W .any base 26 v) (h : DataW.Trod enc Tryd.prog W 0 (fun _ => true) true 26 v d p) : ∃ (t : Tm) (A : Option Addr) (c : Nat), v = t.val A c ∧ TmV W A c t := by
  obtain ⟨cs, rfl, -⟩ := okWide_struct Tryd.underlying26 hv
  obtain ⟨fuel, hf⟩ := h
  obtain ⟨t, A, c, e, hV⟩ := opn_term _ _ _ hf
  have e' : cs.toList = [.int .i64 t.op, .int .i64 t.num, .string t.name, .slice A t.kids.length c] := e
  refine ⟨t, A, c, ?_, hV⟩
  have : cs = #[.int .i64 t.op, .int .i64 t.num, .string t.name, .slice A t.kids.length c] := by
    rw [← Array.toList_inj, e']
  rw [this]
  rfl
end
end Go.Proofs.YtcjblbpkjegmiaaDoor
namespace Go.Proofs.YtcjblbpkjegmiaaDoor
open Go.ChangeShapes Go.WideShapes Go.ChangeAt Go.RowKit
set_option linter.unusedVariables false

theorem Tr.PathsOkL_of : ∀ {l : List Tr}, (∀ q ∈ l, q.PathsOk) → Tr.PathsOkL l
  | [], _ => by rw [Tr.PathsOkL]; trivial
  | t :: r, h => by rw [Tr.PathsOkL]; exact ⟨h t (by simp), Tr.PathsOkL_of fun q hq => h q (by simp [hq])⟩
theorem weightsAll_of {H : Type} {P : Program} {e : TypeId} : ∀ {l : List (DataW H)} {d : DataW H}, d ∈ l → ∀ n ∈ d.weights P e, n ∈ DataW.weightsAll P e l
  | x :: r, d, h, n, hn => by
    rw [DataW.weightsAll]
    rcases List.mem_cons.1 h with rfl | h
    · exact List.mem_append_left _ hn
    · exact List.mem_append_right _ (weightsAll_of h n hn)
section
variable {H : Type} {enc : TypeId × Value → H} {w : World} {base : Nat} {spare : Nat → Bool} {held : Bool}
set_option maxRecDepth 100000 in
theorem paths_ok : ∀ (fuel : Nat) (cs : List Value) (x : DataW H × List MemPlace), DataW.trod enc Tryd.prog w base spare held fuel 33 cs = some x → (∀ n ∈ x.1.weights Tryd.prog 33, n ≤ reachBytes) → ∀ (t : Tr) (p : TrP), cs = t.cells p → TrV w p t → t.PathsOk := by
  intro fuel
  induction fuel using Nat.strongRecOn with
  | _ fuel ih =>
    intro cs x h hw t p hcs hV
    obtain ⟨xs, n, hfu, hx, hl, hxl, hf⟩ := DataW.trod_struct Tryd.underlying33 h
    obtain ⟨y0, y1, y2, y3, y4, y5, y6, rfl⟩ : ∃ y0 y1 y2 y3 y4 y5 y6, xs = [y0, y1, y2, y3, y4, y5, y6] := by
      match xs, hxl with
      | [c0, c1, c2, c3, c4, c5, c6], _ => exact ⟨c0, c1, c2, c3, c4, c5, c6, rfl⟩
    subst hcs
    unfold Tr.cells at hf
    have f3 := hf 3 _ rfl
    have f6 := hf 6 _ rfl
    simp [show Tryd.prog.cellsOf 30 = 1 from by kernel_rfl, show Tryd.prog.cellsOf 31 = 1 from by kernel_rfl] at f3 f6
    have hww : ∀ n, n ∈ y3.1.weights Tryd.prog 30 ∨ n ∈ y6.1.weights Tryd.prog 31 → n ≤ reachBytes := by
      intro n hn
      apply hw
      rw [hx]
      simp [DataW.weights, Tryd.underlying33, DataW.weightsEach]
      rcases hn with h | h
      · simp [h]
      · simp [h]
    clear hw hx hf
    have hp : t.path.length ≤ 140737488355328 := by
      rcases DataW.trod_slice Tryd.underlying30 f3 with ⟨h1, -⟩ | ⟨a, len, cap, elems, rest, m, hm, h1, h2, -, -, -, hel, -⟩
      · injection h1 with h1
        injection h1 with _ h1 _
        omega
      · injection h1 with h1
        injection h1 with _ h1 _
        have h3 := hww ((elems.length + rest.length) * 24) (.inl (by rw [h2]; simp [DataW.weights, Tryd.underlying30, show Tryd.prog.bytesOf 23 = 24 from by kernel_rfl]))
        unfold reachBytes at h3
        omega
    have hkids : ∀ q ∈ t.kids, q.PathsOk := by
      intro q hq
      obtain ⟨i, hi⟩ := List.mem_iff_getElem?.1 hq
      have hil := (List.getElem?_eq_some_iff.1 hi).1
      rcases DataW.trod_slice Tryd.underlying31 f6 with ⟨h1, -⟩ | ⟨a, len, cap, elems, rest, m, hm, h1, h2, -, -, -, hel, hes, -⟩
      · injection h1 with h1
        injection h1 with _ h1 _
        omega
      · injection h1 with h1
        injection h1 with ha h1 _
        rcases hV.kids with h0 | ⟨g, o, hg, hgl, hrow⟩
        · rw [h0] at hi; simp at hi
        rw [hg] at ha
        injection ha with ha
        obtain ⟨p', hcl, hVq⟩ := (hrow.get hi).open
        have he := hes i (by omega)
        rw [List.getElem?_eq_getElem (by omega), ← ha, show Tryd.prog.cellsOf 33 = 12 from by kernel_rfl] at he
        obtain ⟨cs', hc1, hc2⟩ := Option.bind_eq_some_iff.1 he
        obtain ⟨g0, g1, g2⟩ := World.cells?_some hc1
        have hcs' : cs' = q.cells p' := by
          apply List.ext_getElem?
          intro j
          rcases Nat.lt_or_ge j 12 with hj | hj
          · have hq12 : j < (q.cells p').length := by simpa [Tr.cells] using hj
            have h5 := g2 j hj
            have h6 := hcl j _ (List.getElem?_eq_getElem hq12)
            rw [List.getElem?_eq_getElem hq12, ← h5, ← h6]
            rw [addr_add, addr_add, show o + i * 12 + j = o + 12 * i + j from by omega]
          · rw [List.getElem?_eq_none (by omega), List.getElem?_eq_none (by simp [Tr.cells]; omega)]
        refine ih m (by omega) cs' _ hc2 (fun z hz => hww z (.inr ?_)) q p' hcs' hVq
        rw [h2]
        simp only [DataW.weights, Tryd.underlying31]
        refine List.mem_cons_of_mem _ (List.mem_append_left _ (weightsAll_of ?_ z hz))
        exact List.mem_map.2 ⟨_, List.getElem_mem _, rfl⟩
    cases t with
    | mk k st f pt lo at_ l =>
      rw [Tr.PathsOk]
      exact ⟨hp, Tr.PathsOkL_of hkids⟩
set_option maxRecDepth 100000 in
theorem arg_tree2 {W : World} {base : Nat} {v : Value} {d : DataW H} {p : List MemPlace} (hv : Value.okWide Tryd.prog W .any base 33 v) (h : DataW.Trod enc Tryd.prog W 0 (fun _ => true) true 33 v d p) (hw : ∀ n ∈ d.weights Tryd.prog 33, n ≤ reachBytes) : ∃ (t : Tr) (q : TrP), v = t.val q ∧ TrV W q t ∧ t.PathsOk := by
  obtain ⟨cs, rfl, -⟩ := okWide_struct Tryd.underlying33 hv
  obtain ⟨fuel, hf⟩ := h
  obtain ⟨t, q, e, hV⟩ := opn_tree _ _ _ hf
  have hpo := paths_ok _ _ _ hf hw t q e hV
  have e' : cs.toList = t.cells q := e
  refine ⟨t, q, ?_, hV, hpo⟩
  have : cs = (t.cells q).toArray := by rw [← e']
  rw [this]
  rfl
end
end Go.Proofs.YtcjblbpkjegmiaaDoor
