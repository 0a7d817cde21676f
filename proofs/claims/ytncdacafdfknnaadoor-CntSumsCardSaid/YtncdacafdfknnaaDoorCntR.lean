/- Walk of the reference: Half. -/
import Derived.Test.YtncdacafdfknnaaDoorCntQ
namespace Go.Proofs.YtncdacafdfknnaaDoor
open Go.RowKit
set_option linter.unusedVariables false

theorem make_int (n : Nat) (h : n ≤ 10000000) (w : World) : (Instr.makeSlice 27 (.int .i64 (n : Int)) (.int .i64 (n : Int))).run Tryd.prog w = .ok (.slice (some ⟨w.heap.size, 0, none⟩) n n) (w.alloc (.cells (madeCells #[.int .i64 0] n) 3)) :=
  run_make_row' 27 3 (.int .i64 0) 8 Tryd.underlying27 infoInt rfl .i64 .i64 n (by omega) (by omega) w
theorem rhalf_step (x V r : Nat) : x + 10 * (2 * V + r) = 2 * ((10 * r + x) / 2 + 10 * V) + (10 * r + x) % 2 := by omega

set_option maxRecDepth 100000 in
set_option maxHeartbeats 4000000 in
theorem rhalf_num (A1 : Option Addr) (m c0 : Nat) (x0 : Nat) (w : World) (h : NumAt w A1 m c0 x0) (hm : m ≤ 100000) :
    Calls Tryd.prog 20 #[.slice A1 m c0] w fun e w' => ∃ A m' c', e = .returned (.tuple #[.slice A m' c', .bool (decide (x0 % 2 = 1))]) ∧ NumAt w' A m' c' (x0 / 2) ∧ Below w.heap.size w w' := by
  have HA := Lib.hid h.dat
  have HN := Lib.hid h.len
  have HD := Lib.hid (dig10 x0)
  have hv0 := val10 x0
  clear h
  generalize digs 10 x0 = l at *
  have HV0 := Lib.hid hv0
  clear hv0
  have hmk := make_int m (by omega)
  obtain ⟨W, hW⟩ : ∃ W, W = w.alloc (.cells (madeCells #[.int .i64 0] m) 3) := ⟨_, rfl⟩
  have hR0 : Hid (Row W w.heap.size 3 .i64 (List.replicate m 0)) := by rw [hW]; exact Row.made _ _ _ _
  have hB0 : Hid (Below w.heap.size w W) := by rw [hW]; exact (Below.refl _ _).alloc (Nat.le_refl _) _
  have hmkw := hmk w
  rw [← hW] at hmkw
  clear hmk hW
  go_enter Tryd.func20, Tryd.ntmps20
  go_wp2_with fail
  clear hmkw
  go_loopw [5, 6] (fun sc si wr => ∃ (i : Int) (c : Nat) (L : List Nat), -1 ≤ i ∧ i < m ∧ si = .int .i64 i ∧ sc = .int .i64 c ∧ c ≤ 1 ∧ L.length = m ∧ Row wr w.heap.size 3 .i64 L ∧ Dig 10 L ∧ val 10 (l.drop (i + 1).toNat) = 2 * val 10 (L.drop (i + 1).toNat) + c ∧ Below w.heap.size w wr) (fun _ i _ => (intOf i + 1).toNat)
  case atStart =>
    have e : ((m : Int) - 1 + 1).toNat = m := by omega
    exact ⟨(m : Int) - 1, 0, _, by omega, by omega, rfl, rfl, by omega, List.length_replicate, hR0.out, dig_replicate (by decide) _, by rw [e, List.drop_eq_nil_of_le (by rw [← HN.out]; exact Nat.le_refl _), List.drop_eq_nil_of_le (by simp)]; rfl, hB0.out⟩
  case round =>
    obtain ⟨i, c, L, hi1, hi2, rfl, rfl, hc, hL, hrow, hdl, hv, hbel⟩ := hrel
    by_cases h0 : 0 ≤ i
    · obtain ⟨j, rfl⟩ : ∃ j : Nat, i = j := ⟨i.toNat, by omega⟩
      rw [show ((j : Int) + 1).toNat = j + 1 from by omega] at hv
      obtain ⟨x, hx⟩ := getE (l := l) (k := j) (by have := HN.out; omega)
      rcases HA.out.belowB hbel rfl with h9 | ⟨g, off, rfl, hg, hcell⟩
      · rw [h9] at hx; simp at hx
      have x1 := hcell _ _ hx
      have hxb : x < 10 := HD.out.at_ hx
      obtain ⟨e, he⟩ := getE (l := L) (k := j) (by omega)
      have y0 := hrow.cell he
      have y1 := hrow.frozen j
      have hgl := hrow.lt
      have HROW := Lib.hid hrow
      have HDL := Lib.hid hdl
      have HV := Lib.hid hv
      have HL := Lib.hid hL
      have HX := Lib.hid hx
      have HB := Lib.hid hbel
      have hj0 : (0 : Int) ≤ (j : Int) := by omega
      have E1 : Hid ((10 * (c : Int) + (x : Int)) / 2 = (((10 * c + x) / 2 : Nat) : Int)) := by show _ = _; omega
      have E2 : Hid ((10 * (c : Int) + (x : Int)) % 2 = (((10 * c + x) % 2 : Nat) : Int)) := by show _ = _; omega
      clear hcell he hrow hdl hv hL hx hbel hi1
      go_wp2_with fail
      go_roundw
      case rel =>
        rw [E1.out, E2.out]
        refine ⟨(j : Int) - 1, (10 * c + x) % 2, L.set j ((10 * c + x) / 2), by omega, by omega, rfl, rfl, by omega, by rw [List.length_set]; exact HL.out, HROW.out.set_ _ _, HDL.out.set_ _ (by omega), ?_, HB.out.setCell (p := ⟨w.heap.size, j, none⟩) (Nat.le_refl _) _⟩
        rw [show ((j : Int) - 1 + 1).toNat = j from by omega, drop_get HX.out, drop_get (l := L.set j ((10 * c + x) / 2)) (d := (10 * c + x) / 2) (by rw [List.getElem?_set_self (by have := HL.out; omega)])]
        rw [show (L.set j ((10 * c + x) / 2)).drop (j + 1) = L.drop (j + 1) from by rw [List.drop_set_of_lt (by omega)]]
        simp only [val]
        rw [HV.out]
        exact rhalf_step x (val 10 (L.drop (j + 1))) c
      case measure => first | (simp [intOf]; done) | (simp [intOf]; omega)
    · have hi : i = -1 := by omega
      subst hi
      rw [show ((-1 : Int) + 1).toNat = 0 from rfl, List.drop_zero, List.drop_zero, HV0.out] at hv
      have hx1 : x0 / 2 = val 10 L := by omega
      have hx2 : x0 % 2 = c := by omega
      have HX1 := Lib.hid hx1
      have HX2 := Lib.hid hx2
      have ht := cut_any (some ⟨w.heap.size, 0, none⟩) m L wr (by omega) (by omega) (by unfold maxLen; omega) (fun h => by cases h) hrow.dat hdl
      rw [hL] at ht
      have HT := Lib.hid ht
      have HB := Lib.hid hbel
      have hsz := hbel.size
      have hdd : ((c : Int) == 1) = decide (c = 1) := by
        by_cases h : c = 1
        · subst h; rfl
        · simp [h]; omega
      have HDD := Lib.hid hdd
      clear hv hx1 hx2 hrow hdl hL hbel ht hdd
      go_wp2_with fail
      refine (HT.out).mono ?_
      rintro e1 w2 ⟨v2, rfl, how2, hb2⟩
      obtain ⟨A3, m3, c3, hv3, hn3⟩ := num_of_own how2
      subst hv3
      have HN3 := Lib.hid hn3
      have HB2 := Lib.hid (HB.out.trans (hb2.mono hsz))
      clear how2 hn3 hb2
      go_wp2
      go_ret2
      rw [HX1.out, HX2.out, ← HDD.out]
      exact ⟨_, _, _, rfl, HN3.out, HB2.out⟩
end Go.Proofs.YtncdacafdfknnaaDoor
