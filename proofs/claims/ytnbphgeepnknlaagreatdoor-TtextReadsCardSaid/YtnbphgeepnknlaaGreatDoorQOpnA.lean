/- A term that came in; what the rows' lists give: the lexer's two tables lie in the world. -/
import Derived.Test.YtnbphgeepnknlaaGreatDoorQTrmF
import Derived.Test.YtnbphgeepnknlaaGreatDoorCards
import Derived.Test.YtnbphgeepnknlaaGreatDoorTie
import Derived.ProofKit
import Derived.Lay
import Derived.Lib.LaidU8
import Derived.Lib.LaidTab
import Derived.SevenTiedAt
import Derived.LaidOnce
namespace Go.Proofs.YtnbphgeepnknlaaGreatDoor
open Go.ChangeShapes Go.WideShapes Go.ChangeAt Go.RowKit
set_option linter.unusedVariables false

theorem list_of_each {α : Type} {Q : Nat → α → Prop} : ∀ (n : Nat), (∀ i, i < n → ∃ a, Q i a) → ∃ l : List α, l.length = n ∧ ∀ j a, l[j]? = some a → Q j a
 | 0, _ => ⟨[], rfl, fun j a h => by simp at h⟩
 | n + 1, h => by
  obtain ⟨l, hl, hq⟩ := list_of_each n (fun i hi => h i (by omega))
  obtain ⟨a, ha⟩ := h n (by omega)
  refine ⟨l ++ [a], by simp [hl], fun j b hj => ?_⟩
  rcases Nat.lt_or_ge j l.length with hlt | hge
  · rw [List.getElem?_append_left hlt] at hj
    exact hq j b hj
  · rw [List.getElem?_append_right hge] at hj
    have hj0 : j - l.length = 0 := by
     rcases Nat.eq_zero_or_pos (j - l.length) with h0 | h0
     · exact h0
     · rw [List.getElem?_eq_none (by simp; omega)] at hj; cases hj
    rw [hj0] at hj
    simp at hj
    subst hj
    rw [show j = n from by omega]
    exact ha

section
variable {H : Type} {enc : TypeId × Value → H} {P : Program} {w : World} {base : Nat} {spare : Nat → Bool} {held : Bool}
theorem slice_rows {α : Type} {t e : TypeId} {k fuel : Nat} {cs : List Value} {x : DataW H × List MemPlace} (ht : P.underlying t = some (.slice e)) (hc : P.cellsOf e = k) (hk : 0 < k) (R : Nat → Nat → α → Prop)
 (hR : ∀ n, fuel = n + 1 → ∀ b o cs' y, b < w.heap.size → cs'.length = k → (∀ i, i < k → w.cell? ⟨b, o + i, none⟩ = cs'[i]?) → DataW.trod enc P w base spare held n e cs' = some y → ∃ a, R b o a)
 (h : DataW.trod enc P w base spare held fuel t cs = some x) :
 ∃ A c, ∃ l : List α, cs = [.slice A l.length c] ∧ l.length ≤ c ∧ c ≤ maxLen ∧ (l = [] ∨ ∃ b o, A = some ⟨b, o, none⟩ ∧ b < w.heap.size ∧ ∀ j a, l[j]? = some a → R b (o + k * j) a) := by
 rcases DataW.trod_slice ht h with ⟨rfl, -⟩ | ⟨a, len, cap, elems, rest, n, hf, rfl, hx, hb, hl, hm, hel, hes, -, -⟩
 · exact ⟨none, 0, [], rfl, Nat.le_refl _, Nat.zero_le _, .inl rfl⟩
 · by_cases h0 : len = 0
   · subst h0
     exact ⟨some a, cap, [], rfl, Nat.zero_le _, hm, .inl rfl⟩
   · rw [hc] at hes
     have hone : ∀ i, i < len → ∃ cs' y, w.cells? base (a.add (i * k)) k = some cs' ∧ DataW.trod enc P w base spare held n e cs' = some y := fun i hi => by
      have h1 := hes i hi
      rw [List.getElem?_eq_getElem (by omega)] at h1
      obtain ⟨cs', h2, h3⟩ := Option.bind_eq_some_iff.1 h1
      exact ⟨cs', _, h2, h3⟩
     obtain ⟨b, o, spot⟩ := a
     obtain ⟨cs0, y0, h2, -⟩ := hone 0 (by omega)
     obtain ⟨-, g1, g2⟩ := World.cells?_some h2
     have g3 := g2 0 hk
     rw [List.getElem?_eq_getElem (by omega)] at g3
     have hspot : spot = none := by simpa [Addr.add] using World.cell?_spot g3
     subst hspot
     have hlt : b < w.heap.size := by
      have := World.cells?_block h2 hk
      simpa [Addr.add] using this
     obtain ⟨l, hl1, hl2⟩ := list_of_each (Q := fun i (a : α) => R b (o + k * i) a) len (fun i hi => by
      obtain ⟨cs', y, h4, h5⟩ := hone i hi
      obtain ⟨-, e1, e2⟩ := World.cells?_some h4
      refine hR n hf b (o + k * i) cs' y hlt e1 (fun i' hi' => ?_) h5
      have := e2 i' hi'
      rw [addr_add, addr_add] at this
      rw [Nat.mul_comm k i]
      exact this)
     exact ⟨_, cap, l, by rw [hl1], by omega, hm, .inr ⟨b, o, rfl, hlt, hl2⟩⟩
end

theorem TmRow.mk : ∀ {w : World} {l : List Tm} {g o : Nat}, (∀ j t, l[j]? = some t → TmAt w g (o + 4 * j) t) → TmRow w g o l
 | w, [], g, o, h => by rw [TmRow]; trivial
 | w, t :: r, g, o, h => by
  rw [TmRow]
  exact ⟨h 0 t rfl, TmRow.mk fun j x hj => by rw [show o + 4 + 4 * j = o + 4 * (j + 1) from by omega]; exact h (j + 1) x (by simpa using hj)⟩

section
variable {H : Type} {enc : TypeId × Value → H} {w : World} {base : Nat} {spare : Nat → Bool} {held : Bool}
set_option maxRecDepth 100000 in
theorem opn_term : ∀ (fuel : Nat) (cs : List Value) (x : DataW H × List MemPlace), DataW.trod enc Tryz.prog w base spare held fuel 25 cs = some x → ∃ (t : Tm) (A : Option Addr) (c : Nat), cs = [.int .i64 t.op, .int .i64 t.num, .string t.name, .slice A t.kids.length c] ∧ TmV w A c t := by
 intro fuel
 induction fuel using Nat.strongRecOn with
 | _ fuel ih =>
  intro cs x h
  obtain ⟨xs, n, hfu, -, hl, hxl, hf⟩ := DataW.trod_struct Tryz.underlying25 h
  rw [show Tryz.prog.cellsOf 25 = 4 from by kernel_rfl] at hl
  obtain ⟨c0, c1, c2, c3, rfl⟩ : ∃ c0 c1 c2 c3, cs = [c0, c1, c2, c3] := by
   match cs, hl with
   | [c0, c1, c2, c3], _ => exact ⟨c0, c1, c2, c3, rfl⟩
  obtain ⟨y0, y1, y2, y3, rfl⟩ : ∃ y0 y1 y2 y3, xs = [y0, y1, y2, y3] := by
   match xs, hxl with
   | [c0, c1, c2, c3], _ => exact ⟨c0, c1, c2, c3, rfl⟩
  have f0 := hf 0 _ rfl
  have f1 := hf 1 _ rfl
  have f2 := hf 2 _ rfl
  have f3 := hf 3 _ rfl
  simp [show Tryz.prog.cellsOf 3 = 1 from by kernel_rfl, show Tryz.prog.cellsOf 9 = 1 from by kernel_rfl, show Tryz.prog.cellsOf 23 = 1 from by kernel_rfl] at f0 f1 f2 f3
  obtain ⟨n0, e0, -, -⟩ := DataW.trod_int Tryz.underlying3 f0
  obtain ⟨n1, e1, -, -⟩ := DataW.trod_int Tryz.underlying3 f1
  obtain ⟨s, e2, -, hs⟩ := DataW.trod_string Tryz.underlying9 f2
  obtain ⟨A, c, l, e3, h1, h2, h3⟩ := slice_rows Tryz.underlying23 (show Tryz.prog.cellsOf 25 = 4 from by kernel_rfl) (by decide) (fun b o (t : Tm) => TmAt w b o t) (fun m hm b o cs' y hb hcl hcells htr => by
   obtain ⟨t, A', c', rfl, hV⟩ := ih m (by omega) cs' y htr
   refine ⟨t, ?_⟩
   have g0 := hcells 0 (by omega)
   have g1 := hcells 1 (by omega)
   have g2 := hcells 2 (by omega)
   have g3 := hcells 3 (by omega)
   exact TmAt.mk g0 g1 g2 g3 hV) f3
  injection e0 with e0
  injection e1 with e1
  injection e2 with e2
  injection e3 with e3
  subst e0 e1 e2 e3
  refine ⟨.mk n0 n1 s l, A, c, rfl, h1, h2, hs, ?_⟩
  rcases h3 with h3 | ⟨b, o, rfl, hb, h3⟩
  · exact .inl h3
  · exact .inr ⟨b, o, rfl, hb, TmRow.mk h3⟩
end
theorem own : ownKnob Tryz.prog.godebug = none := by kernel_rfl
theorem laidOut : laidOutB Tryz.prog = true := by kernel_rfl

theorem strs_of_array {H : Type} {enc : TypeId × Value → H} {w : World} {base : Nat} {sp : Nat → Bool} {held : Bool} {fuel : Nat} {t e : TypeId} {n : Nat} {cs : List Value} {l : List ByteArray} {p : List MemPlace}
 (ht : Tryz.prog.underlying t = some (.array n e)) (he : Tryz.prog.underlying e = some .string) (hce : Tryz.prog.cellsOf e = 1)
 (h : DataW.trod enc Tryz.prog w base sp held fuel t cs = some (.agg (l.map fun s => .lit (.string s.data.toList)), p)) : ∀ j, j < l.length → cs[j]? = some (.string (l.getD j ByteArray.empty)) := by
 obtain ⟨xs, m, rfl, hx, hl, hxl, hall⟩ := DataW.trod_array ht h
 have hxs : xs.map (·.1) = l.map fun s => (DataW.lit (.string s.data.toList) : DataW H) := by
  have := congrArg Prod.fst hx
  simpa using this.symm
 have hzl : l.length = n := by
  have := congrArg List.length hxs
  simp at this
  omega
 intro j hj
 have h1 := hall j (by omega)
 obtain ⟨b, hb⟩ : ∃ b, xs[j]? = some b := ⟨xs[j]'(by omega), List.getElem?_eq_getElem (by omega)⟩
 rw [hb, hce] at h1
 obtain ⟨s, hcs, rfl, _⟩ := DataW.trod_string he h1
 have h2 : cs[j]? = some (.string s) := by
  have := congrArg (·[0]?) hcs
  simpa [List.getElem?_take, List.getElem?_drop] using this
 have h3 : (xs.map (·.1))[j]? = some (DataW.lit (.string s.data.toList) : DataW H) := by simp [hb]
 rw [hxs] at h3
 simp only [List.getElem?_map, Option.map_eq_some_iff, DataW.lit.injEq, Lit.string.injEq] at h3
 obtain ⟨z, hz, hzs⟩ := h3
 have : z = s := bs_ext hzs
 subst this
 rw [h2]
 simp [List.getD, hz]

theorem tables_of_reads {W : World} (h1 : Lib.VarReads Tryz.prog W "voussoir/lexi.words" Rows.laid_voussoir_lexi_words) (h2 : Lib.VarReads Tryz.prog W "voussoir/lexi.signs" Rows.laid_voussoir_lexi_signs) : Tables W := by
 obtain ⟨g, t, cs, fuel, p, hg, ht, hv, hd⟩ := h1
 obtain rfl := Option.some.inj ((show Tryz.prog.globalNamed "voussoir/lexi.words" = some 0 by kernel_rfl).symm.trans hg)
 obtain rfl := Option.some.inj ((show (Tryz.prog.globals[0]?).map (·.type) = some 185 by kernel_rfl).symm.trans ht)
 have c1 := strs_of_array (l := wordL) Tryz.underlying185 Tryz.underlying9 (by kernel_rfl) hd
 have d1 : ∀ j, j < 24 → W.cell? ⟨0, j, none⟩ = some (.string (wordL.getD j ByteArray.empty)) := fun j hj => by
  have h3 := World.var?_cell hg hv j
  rw [h3, ← Array.getElem?_toList]
  exact c1 j hj
 obtain ⟨g, t, cs, fuel, p, hg, ht, hv, hd⟩ := h2
 obtain rfl := Option.some.inj ((show Tryz.prog.globalNamed "voussoir/lexi.signs" = some 1 by kernel_rfl).symm.trans hg)
 obtain rfl := Option.some.inj ((show (Tryz.prog.globals[1]?).map (·.type) = some 189 by kernel_rfl).symm.trans ht)
 have c2 := strs_of_array (l := signL) Tryz.underlying189 Tryz.underlying9 (by kernel_rfl) hd
 have d2 : ∀ j, j < 21 → W.cell? ⟨1, j, none⟩ = some (.string (signL.getD j ByteArray.empty)) := fun j hj => by
  have h3 := World.var?_cell hg hv j
  rw [h3, ← Array.getElem?_toList]
  exact c2 j hj
 exact ⟨World.block_lt_of_cell? W _ (d2 0 (by omega)), d1, d2⟩
section
variable {H : Type} {enc : TypeId × Value → H} {W : World} {base : Nat} {v : Value} {d : DataW H} {p : List MemPlace}
set_option maxRecDepth 100000 in
theorem arg_term (hv : Value.okWide Tryz.prog W .any base 25 v) (h : DataW.Trod enc Tryz.prog W 0 (fun _ => true) true 25 v d p) : ∃ (t : Tm) (A : Option Addr) (c : Nat), v = t.val A c ∧ TmV W A c t := by
 obtain ⟨cs, rfl, -⟩ := okWide_struct Tryz.underlying25 hv
 obtain ⟨fuel, hf⟩ := h
 obtain ⟨t, A, c, e, hV⟩ := opn_term _ _ _ hf
 have e' : cs.toList = [.int .i64 t.op, .int .i64 t.num, .string t.name, .slice A t.kids.length c] := e
 refine ⟨t, A, c, ?_, hV⟩
 have : cs = #[.int .i64 t.op, .int .i64 t.num, .string t.name, .slice A t.kids.length c] := by
  rw [← Array.toList_inj, e']
 rw [this]
 rfl
end
end Go.Proofs.YtnbphgeepnknlaaGreatDoor
