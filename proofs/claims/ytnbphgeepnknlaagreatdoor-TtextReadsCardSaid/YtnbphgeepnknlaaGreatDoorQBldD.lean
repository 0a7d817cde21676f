/- Walk: a byte written by a deferred call. -/
import Derived.Test.YtnbphgeepnknlaaGreatDoorQTrmF
import Derived.Defers
import Derived.Tactics2
namespace Go.Proofs.YtnbphgeepnknlaaGreatDoor
open Go.RowKit
set_option linter.unusedVariables false

set_option maxHeartbeats 2000000 in
set_option maxRecDepth 100000 in
theorem wbyte_d (u : FrameMode) (B b : Nat) (l : Bs) (c : UInt8) (w : World) (h : IsB B b (Lib.byteCells l) w) (hlen : l.length + 1 ≤ 140737488355328) (hBw : B ≤ w.heap.size) :
 CallsD Tryz.prog 111 #[.pointer (some ⟨b, 0, none⟩), .int .u8 (c.toNat : Int)] u w fun e u' w' => u' = u ∧ (e = .returned .nilIface ∧ IsB B b (Lib.byteCells (l ++ [c])) w' ∧ KB B b w w') := by
 obtain ⟨i0, hi, hz0, hz1, hz2⟩ := info_parts infoU8
 go_enter_d Tryz.func111, Tryz.ntmps111
 go_wp2_with fail
 refine (copy_any B b _ w h).mono ?_
 rintro e w1 ⟨rfl, h1, ho1⟩
 obtain ⟨hB, v, hbk, hown, hne⟩ := h1
 have c0 : w1.cell? ⟨b, 0, none⟩ = some (.pointer (some ⟨b, 0, none⟩)) := by rw [Lib.cell_of_heap hbk]; rfl
 have c1 : w1.cell? ⟨b, 1, none⟩ = some v := by rw [Lib.cell_of_heap hbk]; rfl
 have hsz1 := ho1.size
 have HLEN := Lib.hid (show (Lib.byteCells l).length + 1 ≤ 140737488355328 by rw [Lib.byteCells_length]; exact hlen)
 go_wp2_with (at_builtin; refine wpList_append_own _ rfl _ _ 104 rfl B 5 i0 (.int .u8 0) 1 1 Tryz.underlying104 hi hz0 hz1 hz2 rfl (by decide) _ _ _ rfl (hown.alloc _) ⟨w1.heap.size, 0, none⟩ 1 1 [.int .u8 (c.toNat : Int)] rfl rfl ?c1 ?c2 ?c3 ?c4 ?c5 ?_)
 case c1 =>
  intro j u hj
  match j, hj with
  | 0, hj => simp at hj; subst hj; simp [Addr.add]
 case c2 => intro u hu; simp at hu; subst hu; rfl
 case c3 => have := HLEN.out; unfold maxLen; omega
 case c4 => have := HLEN.out; omega
 case c5 => simp; omega
 intro v' w2 hown' hgrow _
 have hlt : b < w1.heap.size := by
  rcases Nat.lt_or_ge b w1.heap.size with h' | h'
  · exact h'
  · simp [Array.getElem?_eq_none h'] at hbk
 have hb2 : w2.heap[b]? = some (.cells #[.pointer (some ⟨b, 0, none⟩), v] 106 (0, 0)) := by
  rw [hgrow.block b (by simp; omega) (fun e => hne e.symm), Lib.alloc_old w1 _ b hlt]
  exact hbk
 have hgrow2 : w1.grownBy w2 v.ownBlock := ⟨hgrow.os, hgrow.tape, hgrow.output, Nat.le_trans (by simp) hgrow.size, fun q hq hne => (hgrow.block q (by simp; omega) hne).trans (heap_alloc_old w1 _ hq)⟩
 have HKB := Lib.hid (kb_write (v' := v') ho1 hB hBw hown hgrow2)
 have d0 : w2.cell? ⟨b, 0, none⟩ = some (.pointer (some ⟨b, 0, none⟩)) := by rw [Lib.cell_of_heap hb2]; rfl
 have d1 : w2.cell? ⟨b, 1, none⟩ = some v := by rw [Lib.cell_of_heap hb2]; rfl
 have f1 : w2.frozen? ⟨b, 1, none⟩ = false := Lib.frozen_of_heap hb2 1
 obtain ⟨ao, n', cap, rfl⟩ : ∃ ao n' cap, v' = .slice ao n' cap := by
  rcases hown'.2 with ⟨hv, _⟩ | ⟨g, cap, cur, hv, _⟩
  · exact ⟨_, _, _, hv⟩
  · exact ⟨_, _, _, hv⟩
 go_wp2
 go_ret
 refine ⟨rfl, .inr ?_, HKB.out⟩
 have e1 : Lib.byteCells (l ++ [c]) = Lib.byteCells l ++ [.int .u8 (c.toNat : Int)] := by simp [Lib.byteCells]
 rw [e1]
 exact Lib.BuilderAt.put (T := 106) (e := 5) hB hb2 (bs' := Lib.byteCells l ++ [.int .u8 (c.toNat : Int)]) (by simpa using hown') (by decide)
end Go.Proofs.YtnbphgeepnknlaaGreatDoor
