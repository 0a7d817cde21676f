/- Walks: writes into a strings.Builder. -/
import Derived.Test.YtnbphgeepnknlaaGreatDoorQNumA
import Derived.Test.YtnbphgeepnknlaaGreatDoorShelf
namespace Go.Proofs.YtnbphgeepnknlaaGreatDoor
open Go.RowKit
set_option linter.unusedVariables false

theorem infoBld : (Tryz.prog.info? 106).map (·.size) = some 2 := by kernel_rfl
theorem liesBld : liesAt Tryz.prog Tryz.prog.depth 106 (2 / Tryz.prog.cellsOf 106) 0 106 1 = true := by kernel_rfl
theorem infoU8 : (Tryz.prog.info? 5).map (fun i => (i.zero, i.size, i.bytes)) = some (some (.int .u8 0), 1, 1) := by kernel_rfl
abbrev IsB (B b : Nat) (l : List Value) (w : World) : Prop := Lib.IsBuilder 106 5 B b l w
abbrev BAtB (B b : Nat) (p : Value) (l : List Value) (w : World) : Prop := Lib.BuilderAt 106 5 B b p l w

set_option maxHeartbeats 1000000 in
set_option maxRecDepth 100000 in
theorem copy_used (b : Nat) (w : World) (h0 : w.cell? ⟨b, 0, none⟩ = some (.pointer (some ⟨b, 0, none⟩))) :
 Calls Tryz.prog 158 #[.pointer (some ⟨b, 0, none⟩)] w fun e w' => e = .returned (.tuple #[]) ∧ w' = w := by
 obtain ⟨j, hj, _⟩ := Option.map_eq_some_iff.1 infoBld
 go_enter Tryz.func158, Tryz.ntmps158
 go_wp2
 rw [Lib.run_neq_ptr_same w _ Tryz.underlying103 hj]
 go_wp2
 go_end0
 exact ⟨rfl, rfl⟩

set_option maxHeartbeats 1000000 in
set_option maxRecDepth 100000 in
theorem copy_fresh (b : Nat) (w : World) (h0 : w.cell? ⟨b, 0, none⟩ = some (.pointer none)) (hsh : w.shape? b = some (106, 2)) (hfz : w.frozen? ⟨b, 0, none⟩ = false) :
 Calls Tryz.prog 158 #[.pointer (some ⟨b, 0, none⟩)] w fun e w' => e = .returned (.tuple #[]) ∧ w' = w.setCell ⟨b, 0, none⟩ (.pointer (some ⟨b, 0, none⟩)) := by
 obtain ⟨j, hj, hjs⟩ := Option.map_eq_some_iff.1 infoBld
 go_enter Tryz.func158, Tryz.ntmps158
 go_wp2
 rw [Lib.run_to_unsafe w ⟨b, 0, none⟩ Tryz.underlying103 Tryz.underlying236 hj (by rw [hjs]; decide) hsh (Nat.zero_lt_succ 1)]
 simp only [Result.andThen]
 rw [Oper.upon_value]
 go_wp2
 rw [run_callFunc_extern Tryz.func194 (by kernel_rfl) (by kernel_rfl) (by kernel_rfl) (e := Extern.AbiNoEscape.same) (by kernel_rfl)]
 rw [Lib.run_noEscape]
 simp only [Result.andThen]
 rw [Oper.upon_value]
 go_wp2
 rw [Lib.run_from_unsafe w ⟨b, 0, none⟩ Tryz.underlying236 Tryz.underlying103 hj hsh liesBld]
 simp only [Result.andThen]
 rw [Oper.upon_value]
 go_wp2
 go_end0
 exact ⟨rfl, rfl⟩

theorem copy_any (B b : Nat) (bs : List Value) (w : World) (h : IsB B b bs w) :
 Calls Tryz.prog 158 #[.pointer (some ⟨b, 0, none⟩)] w fun e w' => e = .returned (.tuple #[]) ∧ (BAtB B b (.pointer (some ⟨b, 0, none⟩)) bs w' ∧ Only (fun q => q = b) w w') := by
 rcases h with h | h
 · refine (copy_fresh b w h.cell0 h.shape h.frozen0).mono ?_
   rintro e w' ⟨rfl, rfl⟩
   exact ⟨rfl, h.used _, (Only.refl (F := fun q => q = b)).setF rfl _⟩
 · refine (copy_used b w h.cell0).mono ?_
   rintro e w' ⟨rfl, rfl⟩
   exact ⟨rfl, h, Only.refl⟩

/-- What a write into the builder at b leaves: all below B, and every block that is no row of bytes. -/
structure KB (B b : Nat) (w w' : World) : Prop where
 below : Below B w w'
 keep : ∀ q, q < w.heap.size → q ≠ b → (∀ cs fz, w.heap[q]? ≠ some (.cells cs 5 fz)) → w'.heap[q]? = w.heap[q]?
theorem KB.refl {B b : Nat} {w : World} : KB B b w w := ⟨Below.refl _ _, fun _ _ _ _ => rfl⟩
theorem KB.trans {B b : Nat} {w w' w'' : World} (h : KB B b w w') (k : KB B b w' w'') : KB B b w w'' := ⟨h.below.trans k.below, fun q hq hb hn => by
 have h1 := h.keep q hq hb hn
 rw [← h1]
 exact k.keep q (Nat.lt_of_lt_of_le hq h.below.size) hb (fun cs fz => by rw [h1]; exact hn cs fz)⟩
theorem KB.of_below {B b : Nat} {w w' : World} (h : Below w.heap.size w w') (hB : B ≤ w.heap.size) : KB B b w w' := ⟨h.mono hB, fun q hq _ _ => h.block q hq⟩
theorem IsB.keep {B b : Nat} {l : List Value} {w w' : World} (h : IsB B b l w) (hb : Below w.heap.size w w') : IsB B b l w' := by
 have key : ∀ p, BAtB B b p l w → BAtB B b p l w' := fun p ⟨h1, v, h2, h3, h4⟩ => by
  have hlt : b < w.heap.size := by
   rcases Nat.lt_or_ge b w.heap.size with h' | h'
   · exact h'
   · rw [Array.getElem?_eq_none h'] at h2; cases h2
  refine ⟨h1, v, (hb.block b hlt).trans h2, ?_, h4⟩
  refine ⟨h3.1, ?_⟩
  rcases h3.2 with hn | ⟨g, cap, cur, rfl, hbb, hg, rest⟩
  · exact .inl hn
  · exact .inr ⟨g, cap, cur, rfl, hbb, (hb.block g (Array.getElem?_eq_some_iff.1 hg).1).trans hg, rest⟩
 rcases h with h | h
 · exact .inl (key _ h)
 · exact .inr (key _ h)
theorem IsB.lt {B b : Nat} {l : List Value} {w : World} (h : IsB B b l w) : b < w.heap.size ∧ B ≤ b := by
 have key : ∀ p, BAtB B b p l w → b < w.heap.size ∧ B ≤ b := fun p ⟨h1, v, h2, h3, h4⟩ => by
  refine ⟨?_, h1⟩
  rcases Nat.lt_or_ge b w.heap.size with h' | h'
  · exact h'
  · rw [Array.getElem?_eq_none h'] at h2; cases h2
 rcases h with h | h
 · exact key _ h
 · exact key _ h

theorem kb_write {B b : Nat} {w w1 w2 : World} {v v' : Value} {cs : List Value} {n : Nat} (ho : Only (fun q => q = b) w w1) (hBb : B ≤ b) (hBw : B ≤ w.heap.size) (hown : w1.ownsRow B 5 1 v n cs) (hg : w1.grownBy w2 v.ownBlock) : KB B b w (w2.setCell ⟨b, 1, none⟩ v') := by
 have hb1 : Below B w w1 := ho.below (fun q hq => by subst hq; exact hBb) hBw
 have hb2 : Below B w1 w2 := ⟨hg.os, hg.tape, hg.output, hg.size, fun q hq => hg.block q (by have := hb1.size; omega) (fun e => by have := (hown.lt q e.symm).1; omega)⟩
 refine ⟨(hb1.trans hb2).setCell (p := ⟨b, 1, none⟩) hBb _, fun q hq hb hn => ?_⟩
 rw [heap_setCell_other w2 ⟨b, 1, none⟩ q v' (fun e => hb e)]
 have h1 := ho.block q hq hb
 rw [hg.block q (Nat.lt_of_lt_of_le hq ho.size) ?_, h1]
 intro e
 rcases hown.2 with ⟨hv, _⟩ | ⟨g, cap, cur, hv, _, hgg, _⟩
 · rw [hv] at e; cases e
 · rw [hv] at e
   injection e with e
   have e' : q = g := e
   subst e'
   rw [h1] at hgg
   exact hn _ _ hgg

set_option maxHeartbeats 2000000 in
set_option maxRecDepth 100000 in
theorem wstring_any (B b : Nat) (l : Bs) (s : ByteArray) (w : World) (h : IsB B b (Lib.byteCells l) w) (hlen : l.length + s.size ≤ 140737488355328) (hBw : B ≤ w.heap.size) :
 Calls Tryz.prog 102 #[.pointer (some ⟨b, 0, none⟩), .string s] w fun e w' => e = .returned (.tuple #[.int .i64 s.size, .nilIface]) ∧ IsB B b (Lib.byteCells (l ++ s.data.toList)) w' ∧ KB B b w w' := by
 obtain ⟨i0, hi, hz0, hz1, hz2⟩ := info_parts infoU8
 go_enter Tryz.func102, Tryz.ntmps102
 go_wp2_with fail
 refine (copy_any B b _ w h).mono ?_
 rintro e w1 ⟨rfl, h1, ho1⟩
 obtain ⟨hB, v, hbk, hown, hne⟩ := h1
 have c0 : w1.cell? ⟨b, 0, none⟩ = some (.pointer (some ⟨b, 0, none⟩)) := by rw [Lib.cell_of_heap hbk]; rfl
 have c1 : w1.cell? ⟨b, 1, none⟩ = some v := by rw [Lib.cell_of_heap hbk]; rfl
 have hsz1 := ho1.size
 have hlen' : (Lib.byteCells l).length + s.size ≤ 140737488355328 := by rw [Lib.byteCells_length]; exact hlen
 have HLEN := Lib.hid hlen'
 clear hlen'
 go_wp2_with (at_builtin; refine Lib.wpList_append_own_string _ rfl _ _ 104 9 rfl B 5 i0 Tryz.underlying104 Tryz.underlying9 hi hz0 hz1 hz2 _ _ _ rfl hown s rfl ?c3 ?c4 ?c5 ?_)
 case c3 => have := HLEN.out; unfold maxLen; omega
 case c4 => exact HLEN.out
 case c5 => omega
 intro v' w2 hown' hgrow _
 have hlt : b < w1.heap.size := by
  rcases Nat.lt_or_ge b w1.heap.size with h' | h'
  · exact h'
  · simp [Array.getElem?_eq_none h'] at hbk
 have hb2 : w2.heap[b]? = some (.cells #[.pointer (some ⟨b, 0, none⟩), v] 106 (0, 0)) := by
  rw [hgrow.block b hlt (fun e => hne e.symm)]
  exact hbk
 have HKB := Lib.hid (kb_write (v' := v') ho1 hB hBw hown hgrow)
 have d0 : w2.cell? ⟨b, 0, none⟩ = some (.pointer (some ⟨b, 0, none⟩)) := by rw [Lib.cell_of_heap hb2]; rfl
 have d1 : w2.cell? ⟨b, 1, none⟩ = some v := by rw [Lib.cell_of_heap hb2]; rfl
 have f1 : w2.frozen? ⟨b, 1, none⟩ = false := Lib.frozen_of_heap hb2 1
 obtain ⟨ao, n', cap, rfl⟩ : ∃ ao n' cap, v' = .slice ao n' cap := by
  rcases hown'.2 with ⟨hv, _⟩ | ⟨g, cap, cur, hv, _⟩
  · exact ⟨_, _, _, hv⟩
  · exact ⟨_, _, _, hv⟩
 go_wp2
 go_ret2
 refine ⟨rfl, .inr ?_, HKB.out⟩
 have e1 : Lib.byteCells (l ++ s.data.toList) = Lib.byteCells l ++ Lib.strCells s := by simp [Lib.byteCells, Lib.strCells]
 rw [e1]
 exact Lib.BuilderAt.put (T := 106) (e := 5) hB hb2 (bs' := Lib.byteCells l ++ Lib.strCells s) (by simpa [Lib.strCells_length] using hown') (by decide)

set_option maxHeartbeats 2000000 in
set_option maxRecDepth 100000 in
theorem wbyte_any (B b : Nat) (l : Bs) (c : UInt8) (w : World) (h : IsB B b (Lib.byteCells l) w) (hlen : l.length + 1 ≤ 140737488355328) (hBw : B ≤ w.heap.size) :
 Calls Tryz.prog 111 #[.pointer (some ⟨b, 0, none⟩), .int .u8 (c.toNat : Int)] w fun e w' => e = .returned .nilIface ∧ IsB B b (Lib.byteCells (l ++ [c])) w' ∧ KB B b w w' := by
 obtain ⟨i0, hi, hz0, hz1, hz2⟩ := info_parts infoU8
 go_enter Tryz.func111, Tryz.ntmps111
 go_wp2_with fail
 refine (copy_any B b _ w h).mono ?_
 rintro e w1 ⟨rfl, h1, ho1⟩
 obtain ⟨hB, v, hbk, hown, hne⟩ := h1
 have c0 : w1.cell? ⟨b, 0, none⟩ = some (.pointer (some ⟨b, 0, none⟩)) := by rw [Lib.cell_of_heap hbk]; rfl
 have c1 : w1.cell? ⟨b, 1, none⟩ = some v := by rw [Lib.cell_of_heap hbk]; rfl
 have hsz1 := ho1.size
 have HLEN := Lib.hid (show (Lib.byteCells l).length + 1 ≤ 140737488355328 by rw [Lib.byteCells_length]; exact hlen)
 go_wp2_with (at_builtin; refine wpList_append_own _ rfl _ _ 104 rfl B 5 i0 (.int .u8 0) 1 1 Tryz.underlying104 hi hz0 hz1 hz2 rfl (by decide) _ _ _ rfl (hown.alloc _) ⟨w1.heap.size, 0, none⟩ 1 1 [.int .u8 (c.toNat : Int)] rfl rfl ?c1 ?c2 ?c3 ?c4 ?c5 ?_)
 case c1 =>
  intro j u hj
  match j, hj with
  | 0, hj => simp at hj; subst hj; simp [Addr.add]
 case c2 => intro u hu; simp at hu; subst hu; rfl
 case c3 => have := HLEN.out; unfold maxLen; omega
 case c4 => have := HLEN.out; omega
 case c5 => simp; omega
 intro v' w2 hown' hgrow _
 have hlt : b < w1.heap.size := by
  rcases Nat.lt_or_ge b w1.heap.size with h' | h'
  · exact h'
  · simp [Array.getElem?_eq_none h'] at hbk
 have hb2 : w2.heap[b]? = some (.cells #[.pointer (some ⟨b, 0, none⟩), v] 106 (0, 0)) := by
  rw [hgrow.block b (by simp; omega) (fun e => hne e.symm), Lib.alloc_old w1 _ b hlt]
  exact hbk
 have hgrow2 : w1.grownBy w2 v.ownBlock := ⟨hgrow.os, hgrow.tape, hgrow.output, Nat.le_trans (by simp) hgrow.size, fun q hq hne => (hgrow.block q (by simp; omega) hne).trans (heap_alloc_old w1 _ hq)⟩
 have HKB := Lib.hid (kb_write (v' := v') ho1 hB hBw hown hgrow2)
 have d0 : w2.cell? ⟨b, 0, none⟩ = some (.pointer (some ⟨b, 0, none⟩)) := by rw [Lib.cell_of_heap hb2]; rfl
 have d1 : w2.cell? ⟨b, 1, none⟩ = some v := by rw [Lib.cell_of_heap hb2]; rfl
 have f1 : w2.frozen? ⟨b, 1, none⟩ = false := Lib.frozen_of_heap hb2 1
 obtain ⟨ao, n', cap, rfl⟩ : ∃ ao n' cap, v' = .slice ao n' cap := by
  rcases hown'.2 with ⟨hv, _⟩ | ⟨g, cap, cur, hv, _⟩
  · exact ⟨_, _, _, hv⟩
  · exact ⟨_, _, _, hv⟩
 go_wp2
 go_ret
 refine ⟨rfl, .inr ?_, HKB.out⟩
 have e1 : Lib.byteCells (l ++ [c]) = Lib.byteCells l ++ [.int .u8 (c.toNat : Int)] := by simp [Lib.byteCells]
 rw [e1]
 exact Lib.BuilderAt.put (T := 106) (e := 5) hB hb2 (bs' := Lib.byteCells l ++ [.int .u8 (c.toNat : Int)]) (by simpa using hown') (by decide)
end Go.Proofs.YtnbphgeepnknlaaGreatDoor
