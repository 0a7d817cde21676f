/- What the rows' lists give: the lexer's two tables lie in the world. -/
import Derived.Test.YtnhabokkjmcdoaaDoorLexH
import Derived.Test.YtnhabokkjmcdoaaDoorLexQ
import Derived.Test.YtnhabokkjmcdoaaDoorCards
import Derived.Test.YtnhabokkjmcdoaaDoorTie
import Derived.ProofKit
import Derived.Lay
import Derived.Lib.LaidU8
import Derived.Lib.LaidTab
import Derived.SevenTiedAt
import Derived.LaidOnce
namespace Go.Proofs.YtnhabokkjmcdoaaDoor
open Go.ChangeShapes Go.WideShapes Go.ChangeAt Go.RowKit
set_option linter.unusedVariables false

theorem own : ownKnob Tryd.prog.godebug = none := by kernel_rfl
theorem laidOut : laidOutB Tryd.prog = true := by kernel_rfl

theorem strs_of_array {H : Type} {enc : TypeId × Value → H} {w : World} {base : Nat} {sp : Nat → Bool} {held : Bool} {fuel : Nat} {t e : TypeId} {n : Nat} {cs : List Value} {l : List ByteArray} {p : List MemPlace}
    (ht : Tryd.prog.underlying t = some (.array n e)) (he : Tryd.prog.underlying e = some .string) (hce : Tryd.prog.cellsOf e = 1)
    (h : DataW.trod enc Tryd.prog w base sp held fuel t cs = some (.agg (l.map fun s => .lit (.string s.data.toList)), p)) : ∀ j, j < l.length → cs[j]? = some (.string (l.getD j ByteArray.empty)) := by
  obtain ⟨xs, m, rfl, hx, hl, hxl, hall⟩ := DataW.trod_array ht h
  have hxs : xs.map (·.1) = l.map fun s => (DataW.lit (.string s.data.toList) : DataW H) := by
    have := congrArg Prod.fst hx
    simpa using this.symm
  have hzl : l.length = n := by
    have := congrArg List.length hxs
    simp at this
    omega
  intro j hj
  have h1 := hall j (by omega)
  obtain ⟨b, hb⟩ : ∃ b, xs[j]? = some b := ⟨xs[j]'(by omega), List.getElem?_eq_getElem (by omega)⟩
  rw [hb, hce] at h1
  obtain ⟨s, hcs, rfl, _⟩ := DataW.trod_string he h1
  have h2 : cs[j]? = some (.string s) := by
    have := congrArg (·[0]?) hcs
    simpa [List.getElem?_take, List.getElem?_drop] using this
  have h3 : (xs.map (·.1))[j]? = some (DataW.lit (.string s.data.toList) : DataW H) := by simp [hb]
  rw [hxs] at h3
  simp only [List.getElem?_map, Option.map_eq_some_iff, DataW.lit.injEq, Lit.string.injEq] at h3
  obtain ⟨z, hz, hzs⟩ := h3
  have : z = s := bs_ext hzs
  subst this
  rw [h2]
  simp [List.getD, hz]

theorem tables_of_reads {W : World} (h1 : Lib.VarReads Tryd.prog W "voussoir/lexi.words" Rows.laid_voussoir_lexi_words) (h2 : Lib.VarReads Tryd.prog W "voussoir/lexi.signs" Rows.laid_voussoir_lexi_signs) : Tables W := by
  obtain ⟨g, t, cs, fuel, p, hg, ht, hv, hd⟩ := h1
  obtain rfl := Option.some.inj ((show Tryd.prog.globalNamed "voussoir/lexi.words" = some 0 by kernel_rfl).symm.trans hg)
  obtain rfl := Option.some.inj ((show (Tryd.prog.globals[0]?).map (·.type) = some 95 by kernel_rfl).symm.trans ht)
  have c1 := strs_of_array (l := wordL) Tryd.underlying95 Tryd.underlying9 (by kernel_rfl) hd
  have d1 : ∀ j, j < 24 → W.cell? ⟨0, j, none⟩ = some (.string (wordL.getD j ByteArray.empty)) := fun j hj => by
    have h3 := World.var?_cell hg hv j
    rw [h3, ← Array.getElem?_toList]
    exact c1 j hj
  obtain ⟨g, t, cs, fuel, p, hg, ht, hv, hd⟩ := h2
  obtain rfl := Option.some.inj ((show Tryd.prog.globalNamed "voussoir/lexi.signs" = some 1 by kernel_rfl).symm.trans hg)
  obtain rfl := Option.some.inj ((show (Tryd.prog.globals[1]?).map (·.type) = some 99 by kernel_rfl).symm.trans ht)
  have c2 := strs_of_array (l := signL) Tryd.underlying99 Tryd.underlying9 (by kernel_rfl) hd
  have d2 : ∀ j, j < 21 → W.cell? ⟨1, j, none⟩ = some (.string (signL.getD j ByteArray.empty)) := fun j hj => by
    have h3 := World.var?_cell hg hv j
    rw [h3, ← Array.getElem?_toList]
    exact c2 j hj
  exact ⟨World.block_lt_of_cell? W _ (d2 0 (by omega)), d1, d2⟩
end Go.Proofs.YtnhabokkjmcdoaaDoor
