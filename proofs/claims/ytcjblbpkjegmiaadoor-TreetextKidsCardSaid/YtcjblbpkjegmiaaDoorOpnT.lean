/- Variables, states, paths and witness trees that came in. -/
import Derived.Test.YtcjblbpkjegmiaaDoorOpn
import Derived.Test.YtcjblbpkjegmiaaDoorTtrA
namespace Go.Proofs.YtcjblbpkjegmiaaDoor
open Go.ChangeShapes Go.WideShapes Go.ChangeAt Go.RowKit
set_option linter.unusedVariables false

section
variable {H : Type} {enc : TypeId × Value → H} {w : World} {base : Nat} {spare : Nat → Bool} {held : Bool}
theorem int_rng {n : Int} (h : (Lit.int .i64 n).wf = true) : -9223372036854775808 ≤ n ∧ n ≤ 9223372036854775807 := by
  simpa [Lit.wf, IntKind.min, IntKind.max, IntKind.signed, IntKind.bits] using h

set_option maxRecDepth 100000 in
theorem opn_ints {fuel : Nat} {cs : List Value} {x : DataW H × List MemPlace} (h : DataW.trod enc Tryd.prog w base spare held fuel 23 cs = some x) : ∃ (A : Option Addr) (c : Nat) (l : List Int), cs = [.slice A l.length c] ∧ IntsV w A c l := by
  obtain ⟨A, c, l, e, h1, h2, h3⟩ := slice_rows Tryd.underlying23 (show Tryd.prog.cellsOf 3 = 1 from by kernel_rfl) (by decide) (fun b o (z : Int) => w.cell? ⟨b, o, none⟩ = some (.int .i64 z) ∧ -9223372036854775808 ≤ z ∧ z ≤ 9223372036854775807) (fun m hm b o cs' y hb hcl hcells htr => by
    obtain ⟨z, e, -, hz⟩ := DataW.trod_int Tryd.underlying3 htr
    subst e
    exact ⟨z, hcells 0 (by omega), int_rng hz⟩) h
  refine ⟨A, c, l, e, h1, h2, fun z hz => ?_, ?_⟩
  · rcases h3 with h3 | ⟨b, o, -, -, h3⟩
    · rw [h3] at hz; cases hz
    · obtain ⟨j, hj⟩ := List.mem_iff_getElem?.1 hz
      exact (h3 j z hj).2
  · rcases h3 with h3 | ⟨b, o, hA, hb, h3⟩
    · exact .inl h3
    · exact .inr ⟨b, o, hA, hb, fun j z hj => by have := (h3 j z hj).1; rwa [Nat.one_mul] at this⟩
set_option maxRecDepth 100000 in
theorem opn_rows {fuel : Nat} {cs : List Value} {x : DataW H × List MemPlace} (h : DataW.trod enc Tryd.prog w base spare held fuel 30 cs = some x) : ∃ (A : Option Addr) (c : Nat) (l : List (List Int)), cs = [.slice A l.length c] ∧ RowsV w A c l := by
  obtain ⟨A, c, l, e, h1, h2, h3⟩ := slice_rows Tryd.underlying30 (show Tryd.prog.cellsOf 23 = 1 from by kernel_rfl) (by decide) (fun b o (z : List Int) => ∃ A' c', w.cell? ⟨b, o, none⟩ = some (.slice A' z.length c') ∧ IntsV w A' c' z) (fun m hm b o cs' y hb hcl hcells htr => by
    obtain ⟨A', c', l', e, hI⟩ := opn_ints htr
    subst e
    exact ⟨l', A', c', hcells 0 (by omega), hI⟩) h
  refine ⟨A, c, l, e, h1, h2, ?_⟩
  rcases h3 with h3 | ⟨b, o, hA, hb, h3⟩
  · exact .inl h3
  · exact .inr ⟨b, o, hA, hb, fun j z hj => by have := h3 j z hj; rwa [Nat.one_mul] at this⟩
set_option maxRecDepth 100000 in
theorem opn_vars {fuel : Nat} {cs : List Value} {x : DataW H × List MemPlace} (h : DataW.trod enc Tryd.prog w base spare held fuel 22 cs = some x) : ∃ (A : Option Addr) (c : Nat) (l : List Vr), cs = [.slice A l.length c] ∧ VrsV w A c l := by
  obtain ⟨A, c, l, e, h1, h2, h3⟩ := slice_rows Tryd.underlying22 (show Tryd.prog.cellsOf 54 = 4 from by kernel_rfl) (by decide) (fun b o (v : Vr) => v.name.size ≤ maxLen ∧ w.cell? ⟨b, o, none⟩ = some (.string v.name) ∧ w.cell? ⟨b, o + 1, none⟩ = some (.bool v.isB) ∧ w.cell? ⟨b, o + 2, none⟩ = some (.int .i64 v.lo) ∧ w.cell? ⟨b, o + 3, none⟩ = some (.int .i64 v.hi)) (fun m hm b o cs' y hb hcl hcells htr => by
    obtain ⟨xs, n, hfu, -, hl, hxl, hf⟩ := DataW.trod_struct Tryd.underlying54 htr
    obtain ⟨c0, c1, c2, c3, rfl⟩ : ∃ c0 c1 c2 c3, cs' = [c0, c1, c2, c3] := by
      match cs', hcl with
      | [c0, c1, c2, c3], _ => exact ⟨c0, c1, c2, c3, rfl⟩
    obtain ⟨y0, y1, y2, y3, rfl⟩ : ∃ y0 y1 y2 y3, xs = [y0, y1, y2, y3] := by
      match xs, hxl with
      | [c0, c1, c2, c3], _ => exact ⟨c0, c1, c2, c3, rfl⟩
    have f0 := hf 0 _ rfl
    have f1 := hf 1 _ rfl
    have f2 := hf 2 _ rfl
    have f3 := hf 3 _ rfl
    simp [show Tryd.prog.cellsOf 3 = 1 from by kernel_rfl, show Tryd.prog.cellsOf 9 = 1 from by kernel_rfl, show Tryd.prog.cellsOf 4 = 1 from by kernel_rfl] at f0 f1 f2 f3
    obtain ⟨s, e0, -, hs⟩ := DataW.trod_string Tryd.underlying9 f0
    obtain ⟨bb, e1, -⟩ := DataW.trod_bool Tryd.underlying4 f1
    obtain ⟨n2, e2, -, -⟩ := DataW.trod_int Tryd.underlying3 f2
    obtain ⟨n3, e3, -, -⟩ := DataW.trod_int Tryd.underlying3 f3
    injection e0 with e0
    injection e1 with e1
    injection e2 with e2
    injection e3 with e3
    subst e0 e1 e2 e3
    exact ⟨⟨s, bb, n2, n3⟩, hs, hcells 0 (by omega), hcells 1 (by omega), hcells 2 (by omega), hcells 3 (by omega)⟩) h
  refine ⟨A, c, l, e, h1, h2, fun v hv => ?_, ?_⟩
  · rcases h3 with h3 | ⟨b, o, -, -, h3⟩
    · rw [h3] at hv; cases hv
    · obtain ⟨j, hj⟩ := List.mem_iff_getElem?.1 hv
      exact (h3 j v hj).1
  · rcases h3 with h3 | ⟨b, o, hA, hb, h3⟩
    · exact .inl h3
    · exact .inr ⟨b, o, hA, hb, fun j z hj => (h3 j z hj).2⟩
set_option maxRecDepth 100000 in
theorem opn_tree : ∀ (fuel : Nat) (cs : List Value) (x : DataW H × List MemPlace), DataW.trod enc Tryd.prog w base spare held fuel 33 cs = some x → ∃ (t : Tr) (p : TrP), cs = t.cells p ∧ TrV w p t := by
  intro fuel
  induction fuel using Nat.strongRecOn with
  | _ fuel ih =>
    intro cs x h
    obtain ⟨xs, n, hfu, -, hl, hxl, hf⟩ := DataW.trod_struct Tryd.underlying33 h
    rw [show Tryd.prog.cellsOf 33 = 12 from by kernel_rfl] at hl
    obtain ⟨c0, c1, c2, c3, c4, c5, c6, c7, c8, c9, c10, c11, rfl⟩ : ∃ c0 c1 c2 c3 c4 c5 c6 c7 c8 c9 c10 c11, cs = [c0, c1, c2, c3, c4, c5, c6, c7, c8, c9, c10, c11] := by
      match cs, hl with
      | [c0, c1, c2, c3, c4, c5, c6, c7, c8, c9, c10, c11], _ => exact ⟨c0, c1, c2, c3, c4, c5, c6, c7, c8, c9, c10, c11, rfl⟩
    obtain ⟨y0, y1, y2, y3, y4, y5, y6, rfl⟩ : ∃ y0 y1 y2 y3 y4 y5 y6, xs = [y0, y1, y2, y3, y4, y5, y6] := by
      match xs, hxl with
      | [c0, c1, c2, c3, c4, c5, c6], _ => exact ⟨c0, c1, c2, c3, c4, c5, c6, rfl⟩
    have f0 := hf 0 _ rfl
    have f1 := hf 1 _ rfl
    have f2 := hf 2 _ rfl
    have f3 := hf 3 _ rfl
    have f4 := hf 4 _ rfl
    have f5 := hf 5 _ rfl
    have f6 := hf 6 _ rfl
    simp [show Tryd.prog.cellsOf 3 = 1 from by kernel_rfl, show Tryd.prog.cellsOf 23 = 1 from by kernel_rfl, show Tryd.prog.cellsOf 30 = 1 from by kernel_rfl, show Tryd.prog.cellsOf 29 = 6 from by kernel_rfl, show Tryd.prog.cellsOf 31 = 1 from by kernel_rfl] at f0 f1 f2 f3 f4 f5 f6
    obtain ⟨k, e0, -, -⟩ := DataW.trod_int Tryd.underlying3 f0
    obtain ⟨aS, cS, st, e1, hS⟩ := opn_ints f1
    obtain ⟨f, aE, cE, aF, cF, e2, hF⟩ := opn_form _ _ _ f2
    obtain ⟨aP, cP, pt, e3, hP⟩ := opn_rows f3
    obtain ⟨lo, e4, -, -⟩ := DataW.trod_int Tryd.underlying3 f4
    obtain ⟨at_, e5, -, hat⟩ := DataW.trod_int Tryd.underlying3 f5
    obtain ⟨aK, cK, l, e6, h1, h2, h3⟩ := slice_rows Tryd.underlying31 (show Tryd.prog.cellsOf 33 = 12 from by kernel_rfl) (by decide) (fun b o (t : Tr) => TrAt w b o t) (fun m hm b o cs' y hb hcl hcells htr => by
      obtain ⟨t, p', rfl, hV⟩ := ih m (by omega) cs' y htr
      refine ⟨t, TrAt.mk (p := p') (fun j v hj => ?_) hV⟩
      have hj12 : j < 12 := by have := (List.getElem?_eq_some_iff.1 hj).1; simpa [Tr.cells] using this
      rw [hcells j hj12]
      exact hj) f6
    injection e0 with e0
    injection e1 with e1
    injection e2 with e2 e2'
    injection e2' with e21 e2'
    injection e2' with e22 e2'
    injection e2' with e23 e2'
    injection e2' with e24 e2'
    injection e2' with e25 e2'
    injection e3 with e3
    injection e4 with e4
    injection e5 with e5
    injection e6 with e6
    subst e0 e1 e2 e21 e22 e23 e24 e25 e3 e4 e5 e6
    refine ⟨.mk k st f pt lo at_ l, ⟨aS, cS, aE, cE, aF, cF, aP, cP, aK, cK⟩, rfl, ⟨hS, hF, hP, h1, h2, int_rng hat⟩, ?_⟩
    rcases h3 with h3 | ⟨b, o, rfl, hb, h3⟩
    · exact .inl h3
    · exact .inr ⟨b, o, rfl, hb, TrRow.mk h3⟩
end
end Go.Proofs.YtcjblbpkjegmiaaDoor
