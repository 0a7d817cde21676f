/- Walk: Shift outside of its clamp. -/
import Derived.Test.YtncdacafdfknnaaDoorCntI
namespace Go.Proofs.YtncdacafdfknnaaDoor
open Go.RowKit
set_option linter.unusedVariables false

theorem pgen (a b c d : Nat) (ha : a = 2 ^ b) (h : d = b * c) : a ^ c = 2 ^ d := by rw [ha, h, Nat.pow_mul]
theorem p128 : B32 ^ 128 = 2 ^ 4096 := pgen B32 32 128 4096 (by decide) (by decide)

set_option maxRecDepth 100000 in
set_option maxHeartbeats 8000000 in
theorem shift_lo (A1 : Option Addr) (c1 : Nat) (l : List Nat) (k : Int) (w : World) (hl : l.length ≤ 1000) (hk : k < 0) (hA : DAt w A1 .u32 l) (hDl : Dig B32 l) :
    Calls Tryd.prog 23 #[.slice A1 l.length c1, .int .i64 k] w fun e w' => ∃ A', e = .returned (.slice A' (digs B32 (val B32 l * 2 ^ 0)).length (digs B32 (val B32 l * 2 ^ 0)).length) ∧ DAt w' A' .u32 (digs B32 (val B32 l * 2 ^ 0)) ∧ Below w.heap.size w w' := by
  have HA := Lib.hid hA
  have HDA := Lib.hid hDl
  clear hA hDl
  obtain ⟨n, hn⟩ : ∃ n, n = l.length := ⟨_, rfl⟩
  rw [← hn] at hl ⊢
  have HN := Lib.hid hn
  clear hn
  obtain ⟨N, hN⟩ : ∃ N, N = n + 0 + 1 := ⟨_, rfl⟩
  have hmk0 := make_u32 N (by omega) w
  obtain ⟨W, hW⟩ : ∃ W, W = w.alloc (.cells (madeCells #[.int .u32 0] N) 62) := ⟨_, rfl⟩
  rw [← hW] at hmk0
  have hmk : (Instr.makeSlice 23 (.int .i64 ((n : Int) + 1)) (.int .i64 ((n : Int) + 1))).run Tryd.prog w = .ok (.slice (some ⟨w.heap.size, 0, none⟩) N N) W := by
    rw [show ((n : Int) + 1) = (N : Int) from by omega]; exact hmk0
  have hR0 : Hid (Row W w.heap.size 62 .u32 (List.replicate N 0)) := by rw [hW]; exact Row.made _ _ _ _
  have hB0 : Hid (Below w.heap.size w W) := by rw [hW]; exact (Below.refl _ _).alloc (Nat.le_refl _) _
  have HAW := Lib.hid (HA.out.belowB hB0.out rfl)
  have HNN := Lib.hid hN
  have hN1 : 0 < N := by omega
  have hN2 : N ≤ 2000 := by omega
  have hq1 : (0 : Int) ≤ (N : Int) := by omega
  clear hW hmk0 hN
  go_enter Tryd.func23, Tryd.ntmps23
  go_wp2_with (with_reducible refine wpList_copy_row rfl _ _ rfl w.heap.size 0 (List.replicate N 0) l A1 N N n c1 rfl rfl hR0.out HAW.out HN.out (by simp; try omega) (by have := HN.out; have := HNN.out; omega) w.heap.size w hB0.out (Nat.le_refl _) ?_; intro w1 hrow1 hb1)
  have e0 : (List.replicate N 0).take 0 ++ l ++ (List.replicate N 0).drop (0 + l.length) = List.replicate 0 0 ++ (l ++ List.replicate 1 0) := by
    rw [List.take_replicate, List.drop_replicate, Nat.min_eq_left (by omega), List.append_assoc]
    congr 3
    have := HN.out
    have := HNN.out
    omega
  rw [e0] at hrow1
  obtain ⟨L0, hL0⟩ : ∃ L0, L0 = List.replicate 0 0 ++ (l ++ List.replicate 1 0) := ⟨_, rfl⟩
  rw [← hL0] at hrow1
  have hL1 : L0.length = N := by
    have h1 := HN.out
    have h2 := HNN.out
    rw [hL0, List.length_append, List.length_append, List.length_replicate, List.length_replicate]
    omega
  obtain ⟨V, hV⟩ : ∃ V, V = val B32 l * 2 ^ 0 := ⟨_, rfl⟩
  have hL2 : val B32 L0 = V := by
    rw [hL0, hV, val_append, val_replicate_zero, val_append_zeros, List.length_replicate, Nat.zero_add, Nat.mul_comm]
    congr 1
    try rfl
  have HVV := Lib.hid hV
  have hL3 : Dig B32 L0 := by
    rw [hL0]
    intro x hx
    rcases List.mem_append.1 hx with hx | hx
    · exact dig_replicate (by decide) _ x hx
    · rcases List.mem_append.1 hx with hx | hx
      · exact HDA.out x hx
      · exact dig_replicate (by decide) _ x hx
  have ht := trim_any (some ⟨w.heap.size, 0, none⟩) N L0 w1 (by omega) (by omega) (by unfold maxLen; omega) hrow1.dat hL3
  have hda := dat_digs (by decide) hL3 hrow1.dat
  rw [hL1, hL2] at ht
  rw [hL2] at hda
  have HT2 := Lib.hid ht
  have HDA2 := Lib.hid hda
  have HB1 := Lib.hid hb1
  rw [← HN.out]
  clear hrow1 hb1 e0 hL0 hL1 hL2 hL3 hmk ht hda hV
  go_wp2_with fail
  refine wp_loop_rounds 1 ?_
  rw [rounds_succ]
  go_wp2_with fail
  refine (HT2.out).mono ?_
  rintro e1 w2 ⟨rfl, hw⟩
  rw [← hw]
  clear hw
  go_wp2
  go_ret
  rw [← HVV.out]
  exact ⟨_, rfl, HDA2.out, HB1.out⟩

set_option maxRecDepth 100000 in
set_option maxHeartbeats 8000000 in
theorem shift_hi (A1 : Option Addr) (c1 : Nat) (l : List Nat) (k : Int) (w : World) (hl : l.length ≤ 1000) (hk : 4096 < k) (hA : DAt w A1 .u32 l) (hDl : Dig B32 l) :
    Calls Tryd.prog 23 #[.slice A1 l.length c1, .int .i64 k] w fun e w' => ∃ A', e = .returned (.slice A' (digs B32 (val B32 l * 2 ^ 4096)).length (digs B32 (val B32 l * 2 ^ 4096)).length) ∧ DAt w' A' .u32 (digs B32 (val B32 l * 2 ^ 4096)) ∧ Below w.heap.size w w' := by
  have HA := Lib.hid hA
  have HDA := Lib.hid hDl
  clear hA hDl
  obtain ⟨n, hn⟩ : ∃ n, n = l.length := ⟨_, rfl⟩
  rw [← hn] at hl ⊢
  have HN := Lib.hid hn
  clear hn
  obtain ⟨N, hN⟩ : ∃ N, N = n + 128 + 1 := ⟨_, rfl⟩
  have hmk0 := make_u32 N (by omega) w
  obtain ⟨W, hW⟩ : ∃ W, W = w.alloc (.cells (madeCells #[.int .u32 0] N) 62) := ⟨_, rfl⟩
  rw [← hW] at hmk0
  have hmk : (Instr.makeSlice 23 (.int .i64 ((n : Int) + 128 + 1)) (.int .i64 ((n : Int) + 128 + 1))).run Tryd.prog w = .ok (.slice (some ⟨w.heap.size, 0, none⟩) N N) W := by
    rw [show ((n : Int) + 128 + 1) = (N : Int) from by omega]; exact hmk0
  have hR0 : Hid (Row W w.heap.size 62 .u32 (List.replicate N 0)) := by rw [hW]; exact Row.made _ _ _ _
  have hB0 : Hid (Below w.heap.size w W) := by rw [hW]; exact (Below.refl _ _).alloc (Nat.le_refl _) _
  have HAW := Lib.hid (HA.out.belowB hB0.out rfl)
  have HNN := Lib.hid hN
  have hN1 : 128 < N := by omega
  have hN2 : N ≤ 2000 := by omega
  have hq1 : (128 : Int) ≤ (N : Int) := by omega
  clear hW hmk0 hN
  go_enter Tryd.func23, Tryd.ntmps23
  go_wp2_with (with_reducible refine wpList_copy_row rfl _ _ rfl w.heap.size 128 (List.replicate N 0) l A1 (N - 128) (N - 128) n c1 rfl rfl hR0.out HAW.out HN.out (by simp; try omega) (by have := HN.out; have := HNN.out; omega) w.heap.size w hB0.out (Nat.le_refl _) ?_; intro w1 hrow1 hb1)
  have e0 : (List.replicate N 0).take 128 ++ l ++ (List.replicate N 0).drop (128 + l.length) = List.replicate 128 0 ++ (l ++ List.replicate 1 0) := by
    rw [List.take_replicate, List.drop_replicate, Nat.min_eq_left (by omega), List.append_assoc]
    congr 3
    have := HN.out
    have := HNN.out
    omega
  rw [e0] at hrow1
  obtain ⟨L0, hL0⟩ : ∃ L0, L0 = List.replicate 128 0 ++ (l ++ List.replicate 1 0) := ⟨_, rfl⟩
  rw [← hL0] at hrow1
  have hL1 : L0.length = N := by
    have h1 := HN.out
    have h2 := HNN.out
    rw [hL0, List.length_append, List.length_append, List.length_replicate, List.length_replicate]
    omega
  obtain ⟨V, hV⟩ : ∃ V, V = val B32 l * 2 ^ 4096 := ⟨_, rfl⟩
  have hL2 : val B32 L0 = V := by
    rw [hL0, hV, val_append, val_replicate_zero, val_append_zeros, List.length_replicate, Nat.zero_add, Nat.mul_comm, p128]
  have HVV := Lib.hid hV
  have hL3 : Dig B32 L0 := by
    rw [hL0]
    intro x hx
    rcases List.mem_append.1 hx with hx | hx
    · exact dig_replicate (by decide) _ x hx
    · rcases List.mem_append.1 hx with hx | hx
      · exact HDA.out x hx
      · exact dig_replicate (by decide) _ x hx
  have ht := trim_any (some ⟨w.heap.size, 0, none⟩) N L0 w1 (by omega) (by omega) (by unfold maxLen; omega) hrow1.dat hL3
  have hda := dat_digs (by decide) hL3 hrow1.dat
  rw [hL1, hL2] at ht
  rw [hL2] at hda
  have HT2 := Lib.hid ht
  have HDA2 := Lib.hid hda
  have HB1 := Lib.hid hb1
  rw [← HN.out]
  clear hrow1 hb1 e0 hL0 hL1 hL2 hL3 hmk ht hda hV
  go_wp2_with fail
  refine wp_loop_rounds 1 ?_
  rw [rounds_succ]
  go_wp2_with fail
  refine (HT2.out).mono ?_
  rintro e1 w2 ⟨rfl, hw⟩
  rw [← hw]
  clear hw
  go_wp2
  go_ret
  rw [← HVV.out]
  exact ⟨_, rfl, HDA2.out, HB1.out⟩

theorem shift_any (A1 : Option Addr) (c1 : Nat) (l : List Nat) (k : Int) (w : World) (hl : l.length ≤ 1000) (hA : DAt w A1 .u32 l) (hDl : Dig B32 l) :
    Calls Tryd.prog 23 #[.slice A1 l.length c1, .int .i64 k] w fun e w' => ∃ A', e = .returned (.slice A' (digs B32 (val B32 l * 2 ^ clampK k)).length (digs B32 (val B32 l * 2 ^ clampK k)).length) ∧ DAt w' A' .u32 (digs B32 (val B32 l * 2 ^ clampK k)) ∧ Below w.heap.size w w' := by
  by_cases h1 : k < 0
  · rw [show clampK k = 0 from if_pos h1]
    exact shift_lo A1 c1 l k w hl h1 hA hDl
  · by_cases h2 : 4096 < k
    · rw [show clampK k = 4096 from by unfold clampK; rw [if_neg h1, if_pos h2]]
      exact shift_hi A1 c1 l k w hl h2 hA hDl
    · obtain ⟨j, rfl⟩ : ∃ j : Nat, k = j := ⟨k.toNat, by omega⟩
      rw [show clampK (j : Int) = j from by unfold clampK; rw [if_neg h1, if_neg h2, Int.toNat_natCast]]
      exact shift_in A1 c1 l j w hl (by omega) hA hDl
end Go.Proofs.YtncdacafdfknnaaDoor
