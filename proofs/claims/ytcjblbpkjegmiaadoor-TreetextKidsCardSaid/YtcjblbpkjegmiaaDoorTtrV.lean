/- Arguments that came in; what the rows' lists give: the lexer's words lie in the world. -/
import Derived.Test.YtcjblbpkjegmiaaDoorOpnT
import Derived.Test.YtcjblbpkjegmiaaDoorTtrF
import Derived.Test.YtcjblbpkjegmiaaDoorCards
import Derived.Test.YtcjblbpkjegmiaaDoorTie
import Derived.ProofKit
import Derived.Lay
import Derived.Lib.LaidU8
import Derived.Lib.LaidTab
import Derived.SevenTiedAt
import Derived.LaidOnce
namespace Go.Proofs.YtcjblbpkjegmiaaDoor
open Go.ChangeShapes Go.WideShapes Go.ChangeAt Go.RowKit
open Go.ChangeMaps (open_string shut_string)
set_option linter.unusedVariables false

theorem own : ownKnob Tryd.prog.godebug = none := by kernel_rfl
theorem laidOut : laidOutB Tryd.prog = true := by kernel_rfl

theorem strs_of_array {H : Type} {enc : TypeId × Value → H} {w : World} {base : Nat} {sp : Nat → Bool} {held : Bool} {fuel : Nat} {t e : TypeId} {n : Nat} {cs : List Value} {l : List ByteArray} {p : List MemPlace}
    (ht : Tryd.prog.underlying t = some (.array n e)) (he : Tryd.prog.underlying e = some .string) (hce : Tryd.prog.cellsOf e = 1)
    (h : DataW.trod enc Tryd.prog w base sp held fuel t cs = some (.agg (l.map fun s => .lit (.string s.data.toList)), p)) : ∀ j, j < l.length → cs[j]? = some (.string (l.getD j ByteArray.empty)) := by
  obtain ⟨xs, m, rfl, hx, hl, hxl, hall⟩ := DataW.trod_array ht h
  have hxs : xs.map (·.1) = l.map fun s => (DataW.lit (.string s.data.toList) : DataW H) := by
    have := congrArg Prod.fst hx
    simpa using this.symm
  have hzl : l.length = n := by
    have := congrArg List.length hxs
    simp at this
    omega
  intro j hj
  have h1 := hall j (by omega)
  obtain ⟨b, hb⟩ : ∃ b, xs[j]? = some b := ⟨xs[j]'(by omega), List.getElem?_eq_getElem (by omega)⟩
  rw [hb, hce] at h1
  obtain ⟨s, hcs, rfl, _⟩ := DataW.trod_string he h1
  have h2 : cs[j]? = some (.string s) := by
    have := congrArg (·[0]?) hcs
    simpa [List.getElem?_take, List.getElem?_drop] using this
  have h3 : (xs.map (·.1))[j]? = some (DataW.lit (.string s.data.toList) : DataW H) := by simp [hb]
  rw [hxs] at h3
  simp only [List.getElem?_map, Option.map_eq_some_iff, DataW.lit.injEq, Lit.string.injEq] at h3
  obtain ⟨z, hz, hzs⟩ := h3
  have : z = s := bs_ext hzs
  subst this
  rw [h2]
  simp [List.getD, hz]

theorem words_of_reads {W : World} (h1 : Lib.VarReads Tryd.prog W "voussoir/lexi.words" Rows.laid_voussoir_lexi_words) : WordsT W := by
  obtain ⟨g, t, cs, fuel, p, hg, ht, hv, hd⟩ := h1
  obtain rfl := Option.some.inj ((show Tryd.prog.globalNamed "voussoir/lexi.words" = some 0 by kernel_rfl).symm.trans hg)
  obtain rfl := Option.some.inj ((show (Tryd.prog.globals[0]?).map (·.type) = some 137 by kernel_rfl).symm.trans ht)
  have c1 := strs_of_array (l := wordL) Tryd.underlying137 Tryd.underlying9 (by kernel_rfl) hd
  have d1 : ∀ j, j < 24 → W.cell? ⟨0, j, none⟩ = some (.string (wordL.getD j ByteArray.empty)) := fun j hj => by
    have h3 := World.var?_cell hg hv j
    rw [h3, ← Array.getElem?_toList]
    exact c1 j hj
  exact ⟨World.block_lt_of_cell? W _ (d1 0 (by omega)), d1⟩
section
variable {H : Type} {enc : TypeId × Value → H} {W : World} {base : Nat} {v : Value} {d : DataW H} {p : List MemPlace}
set_option maxRecDepth 100000 in
theorem arg_vars (hv : Value.okWide Tryd.prog W .any base 22 v) (h : DataW.Trod enc Tryd.prog W 0 (fun _ => true) true 22 v d p) : ∃ (A : Option Addr) (c : Nat) (l : List Vr), v = .slice A l.length c ∧ VrsV W A c l := by
  obtain ⟨A0, len, cap, rfl⟩ := okWide_slice Tryd.underlying22 hv
  obtain ⟨fuel, hf⟩ := h
  obtain ⟨A, c, l, e, hV⟩ := opn_vars hf
  simp [Value.cells] at e
  obtain ⟨rfl, rfl, rfl⟩ := e
  exact ⟨_, _, l, rfl, hV⟩
set_option maxRecDepth 100000 in
theorem arg_ints (hv : Value.okWide Tryd.prog W .any base 23 v) (h : DataW.Trod enc Tryd.prog W 0 (fun _ => true) true 23 v d p) : ∃ (A : Option Addr) (c : Nat) (l : List Int), v = .slice A l.length c ∧ IntsV W A c l := by
  obtain ⟨A0, len, cap, rfl⟩ := okWide_slice Tryd.underlying23 hv
  obtain ⟨fuel, hf⟩ := h
  obtain ⟨A, c, l, e, hV⟩ := opn_ints hf
  simp [Value.cells] at e
  obtain ⟨rfl, rfl, rfl⟩ := e
  exact ⟨_, _, l, rfl, hV⟩
set_option maxRecDepth 100000 in
theorem arg_rows (hv : Value.okWide Tryd.prog W .any base 30 v) (h : DataW.Trod enc Tryd.prog W 0 (fun _ => true) true 30 v d p) : ∃ (A : Option Addr) (c : Nat) (l : List (List Int)), v = .slice A l.length c ∧ RowsV W A c l := by
  obtain ⟨A0, len, cap, rfl⟩ := okWide_slice Tryd.underlying30 hv
  obtain ⟨fuel, hf⟩ := h
  obtain ⟨A, c, l, e, hV⟩ := opn_rows hf
  simp [Value.cells] at e
  obtain ⟨rfl, rfl, rfl⟩ := e
  exact ⟨_, _, l, rfl, hV⟩
set_option maxRecDepth 100000 in
theorem arg_tree (hv : Value.okWide Tryd.prog W .any base 33 v) (h : DataW.Trod enc Tryd.prog W 0 (fun _ => true) true 33 v d p) : ∃ (t : Tr) (q : TrP), v = t.val q ∧ TrV W q t := by
  obtain ⟨cs, rfl, -⟩ := okWide_struct Tryd.underlying33 hv
  obtain ⟨fuel, hf⟩ := h
  obtain ⟨t, q, e, hV⟩ := opn_tree _ _ _ hf
  have e' : cs.toList = t.cells q := e
  refine ⟨t, q, ?_, hV⟩
  have : cs = (t.cells q).toArray := by rw [← e']
  rw [this]
  rfl
set_option maxRecDepth 100000 in
theorem arg_term (hv : Value.okWide Tryd.prog W .any base 26 v) (h : DataW.Trod enc Tryd.prog W 0 (fun _ => true) true 26 v d p) : ∃ (t : Tm) (A : Option Addr) (c : Nat), v = t.val A c ∧ TmV W A c t := by
  obtain ⟨cs, rfl, -⟩ := okWide_struct Tryd.underlying26 hv
  obtain ⟨fuel, hf⟩ := h
  obtain ⟨t, A, c, e, hV⟩ := opn_term _ _ _ hf
  have e' : cs.toList = [.int .i64 t.op, .int .i64 t.num, .string t.name, .slice A t.kids.length c] := e
  refine ⟨t, A, c, ?_, hV⟩
  have : cs = #[.int .i64 t.op, .int .i64 t.num, .string t.name, .slice A t.kids.length c] := by
    rw [← Array.toList_inj, e']
  rw [this]
  rfl
end
end Go.Proofs.YtcjblbpkjegmiaaDoor
