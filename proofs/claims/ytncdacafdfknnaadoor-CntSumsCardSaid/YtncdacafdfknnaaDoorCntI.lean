/- Walk: Shift. -/
import Derived.Test.YtncdacafdfknnaaDoorCntH
namespace Go.Proofs.YtncdacafdfknnaaDoor
open Go.RowKit
set_option linter.unusedVariables false

/-- The shift's clamp. -/
def clampK (k : Int) : Nat := if k < 0 then 0 else if 4096 < k then 4096 else k.toNat

theorem dbl_bits (x c : Nat) (hx : x < 4294967296) (hc : c ≤ 1) : bits .or .u32 ((2 * x % 4294967296 : Nat) : Int) (c : Int) = ((2 * x % 4294967296 + c : Nat) : Int) := by
  have h1 := u32_or_nat (2 * x % 4294967296) c (by omega) (by omega)
  have h2 := nat_join 1 (2 * x % 4294967296) c (by omega) (show c < 2 by omega)
  rw [h2] at h1
  exact h1
theorem shift_bound {v n q r : Nat} (h : v < B32 ^ n) (hr : r < 32) : 2 * (B32 ^ q * v * 2 ^ r) < B32 ^ (n + q + 1) := by
  have h1 : 2 ^ (r + 1) ≤ 2 ^ 32 := Nat.pow_le_pow_right (by decide) (by omega)
  have e1 : 2 * (B32 ^ q * v * 2 ^ r) = B32 ^ q * (v * 2 ^ (r + 1)) := by rw [Nat.pow_succ]; ac_rfl
  have e2 : B32 ^ (n + q + 1) = B32 ^ q * (B32 ^ n * 2 ^ 32) := by
    rw [Nat.pow_succ, Nat.pow_add, show (2 : Nat) ^ 32 = B32 from rfl]
    ac_rfl
  rw [e1, e2]
  refine Nat.mul_lt_mul_of_pos_left ?_ (Nat.pow_pos (by decide))
  exact Nat.lt_of_le_of_lt (Nat.mul_le_mul_left v h1) (Nat.mul_lt_mul_of_pos_right h (by decide))
theorem shift_total (v k : Nat) : B32 ^ (k / 32) * v * 2 ^ (k % 32) = v * 2 ^ k := by
  have e : (2 : Nat) ^ k = B32 ^ (k / 32) * 2 ^ (k % 32) := by
    rw [show B32 = 2 ^ 32 from rfl, ← Nat.pow_mul, ← Nat.pow_add, Nat.div_add_mod]
  rw [e]
  ac_rfl
theorem dbl_grow {B j P X z x c c2 : Nat} (h : P + B ^ j * c = 2 * X) (hs : z + B * c2 = 2 * x + c) : (P + B ^ j * z) + B ^ (j + 1) * c2 = 2 * (X + B ^ j * x) := by
  have e : B ^ (j + 1) * c2 = B ^ j * (B * c2) := by rw [Nat.pow_succ, Nat.mul_assoc]
  have h2 : B ^ j * (z + B * c2) = B ^ j * (2 * x + c) := by rw [hs]
  have h3 : B ^ j * (2 * x) = 2 * (B ^ j * x) := by ac_rfl
  rw [Nat.mul_add, Nat.mul_add, h3] at h2
  rw [e]
  omega

set_option maxRecDepth 100000 in
set_option maxHeartbeats 8000000 in
theorem shift_in (A1 : Option Addr) (c1 : Nat) (l : List Nat) (k : Nat) (w : World) (hl : l.length ≤ 1000) (hk : k ≤ 4096) (hA : DAt w A1 .u32 l) (hDl : Dig B32 l) :
    Calls Tryd.prog 23 #[.slice A1 l.length c1, .int .i64 (k : Nat)] w fun e w' => ∃ A', e = .returned (.slice A' (digs B32 (val B32 l * 2 ^ k)).length (digs B32 (val B32 l * 2 ^ k)).length) ∧ DAt w' A' .u32 (digs B32 (val B32 l * 2 ^ k)) ∧ Below w.heap.size w w' := by
  have HA := Lib.hid hA
  have HDA := Lib.hid hDl
  clear hA hDl
  obtain ⟨n, hn⟩ : ∃ n, n = l.length := ⟨_, rfl⟩
  rw [← hn] at hl ⊢
  have HN := Lib.hid hn
  clear hn
  obtain ⟨N, hN⟩ : ∃ N, N = n + k / 32 + 1 := ⟨_, rfl⟩
  have hmk0 := make_u32 N (by omega) w
  obtain ⟨W, hW⟩ : ∃ W, W = w.alloc (.cells (madeCells #[.int .u32 0] N) 62) := ⟨_, rfl⟩
  rw [← hW] at hmk0
  have hmk : (Instr.makeSlice 23 (.int .i64 ((n : Int) + (k : Int) / 32 + 1)) (.int .i64 ((n : Int) + (k : Int) / 32 + 1))).run Tryd.prog w = .ok (.slice (some ⟨w.heap.size, 0, none⟩) N N) W := by
    rw [show ((n : Int) + (k : Int) / 32 + 1) = (N : Int) from by omega]; exact hmk0
  have hR0 : Hid (Row W w.heap.size 62 .u32 (List.replicate N 0)) := by rw [hW]; exact Row.made _ _ _ _
  have hB0 : Hid (Below w.heap.size w W) := by rw [hW]; exact (Below.refl _ _).alloc (Nat.le_refl _) _
  have HAW := Lib.hid (HA.out.belowB hB0.out rfl)
  have HNN := Lib.hid hN
  have hN1 : k / 32 < N := by omega
  have hN2 : N ≤ 2000 := by omega
  clear hW hmk0 hN
  have hk0 : (0 : Int) ≤ (k : Int) := by omega
  have hk1 : (k : Int) ≤ 4096 := by omega
  have hq0 : (0 : Int) ≤ (k : Int) / 32 := by omega
  have hq1 : (k : Int) / 32 ≤ (N : Int) := by omega
  go_enter Tryd.func23, Tryd.ntmps23
  go_wp2_with (with_reducible refine wpList_copy_row rfl _ _ rfl w.heap.size (k / 32) (List.replicate N 0) l A1 (N - k / 32) (N - k / 32) n c1 rfl rfl hR0.out HAW.out HN.out (by simp; omega) (by have := HN.out; have := HNN.out; omega) w.heap.size w hB0.out (Nat.le_refl _) ?_; intro w1 hrow1 hb1)
  have e0 : (List.replicate N 0).take (k / 32) ++ l ++ (List.replicate N 0).drop (k / 32 + l.length) = List.replicate (k / 32) 0 ++ (l ++ List.replicate 1 0) := by
    rw [List.take_replicate, List.drop_replicate, Nat.min_eq_left (by omega), List.append_assoc]
    congr 3
    have := HN.out
    have := HNN.out
    omega
  rw [e0] at hrow1
  obtain ⟨L0, hL0⟩ : ∃ L0, L0 = List.replicate (k / 32) 0 ++ (l ++ List.replicate 1 0) := ⟨_, rfl⟩
  rw [← hL0] at hrow1
  have hL1 : L0.length = N := by
    have h1 := HN.out
    have h2 := HNN.out
    rw [hL0, List.length_append, List.length_append, List.length_replicate, List.length_replicate]
    omega
  have hL2 : val B32 L0 = B32 ^ (k / 32) * val B32 l := by
    rw [hL0, val_append, val_replicate_zero, val_append_zeros, List.length_replicate, Nat.zero_add]
  have hL3 : Dig B32 L0 := by
    rw [hL0]
    intro x hx
    rcases List.mem_append.1 hx with hx | hx
    · exact dig_replicate (by decide) _ x hx
    · rcases List.mem_append.1 hx with hx | hx
      · exact HDA.out x hx
      · exact dig_replicate (by decide) _ x hx
  have HR1 := Lib.hid hrow1
  have HB1 := Lib.hid hb1
  have HL1 := Lib.hid hL1
  have HL2 := Lib.hid hL2
  have HL3 := Lib.hid hL3
  rw [← HN.out]
  clear hrow1 hb1 e0 hL0 hL1 hL2 hL3 hmk
  obtain ⟨R, hR⟩ : ∃ R, R = k % 32 := ⟨_, rfl⟩
  have hRi : (k : Int) % 32 = (R : Int) := by omega
  have hR32 : R ≤ 31 := by omega
  have HR := Lib.hid hR
  have HRI := Lib.hid hRi
  rw [HRI.out]
  clear hR hRi
  go_loopw [27] (fun si wr => ∃ (r : Nat) (L : List Nat), r ≤ R ∧ si = .int .i64 r ∧ L.length = N ∧ Row wr w.heap.size 62 .u32 L ∧ Dig B32 L ∧ val B32 L = B32 ^ (k / 32) * val B32 l * 2 ^ r ∧ Below w.heap.size w wr) (fun r _ => R - (intOf r).toNat)
  case atStart => exact ⟨0, L0, Nat.zero_le _, rfl, HL1.out, HR1.out, HL3.out, by rw [HL2.out]; simp, HB1.out⟩
  case round =>
    obtain ⟨r, L, hr, rfl, hL, hrow, hdl, hv, hbel⟩ := hrel
    obtain ⟨wo, rfl⟩ : ∃ wo : World, wo = wr := ⟨_, rfl⟩
    have HROW := Lib.hid hrow
    have HDL := Lib.hid hdl
    have HV := Lib.hid hv
    have HL := Lib.hid hL
    have HBL := Lib.hid hbel
    by_cases hlt : r < R
    · clear hrow hdl hv hL hbel
      have hi0 : (0 : Int) ≤ (r : Int) := by omega
      have hi1 : (r : Int) < (R : Int) := by omega
      go_wp2_with fail
      go_loopw [7, 31] (fun sc sj wr => ∃ (j c : Nat) (M : List Nat), j ≤ N ∧ sj = .int .i64 j ∧ sc = .int .u32 c ∧ c ≤ 1 ∧ M.length = N ∧ Row wr w.heap.size 62 .u32 M ∧ Dig B32 M ∧ M.drop j = L.drop j ∧ val B32 (M.take j) + B32 ^ j * c = 2 * val B32 (L.take j) ∧ Below w.heap.size w wr) (fun _ j _ => N - (intOf j).toNat)
      case atStart => exact ⟨0, 0, L, Nat.zero_le _, rfl, rfl, by omega, HL.out, HROW.out, HDL.out, rfl, by simp [val], HBL.out⟩
      case round =>
        obtain ⟨j, c, M, hj, rfl, rfl, hc, hM, hrow, hdl, hdr, hv, hbel⟩ := hrel
        have HROW2 := Lib.hid hrow
        have HDL2 := Lib.hid hdl
        have HV2 := Lib.hid hv
        have HDR2 := Lib.hid hdr
        have HM := Lib.hid hM
        have HBL2 := Lib.hid hbel
        by_cases hjl : j < N
        · obtain ⟨x, hx⟩ := getE (l := M) (k := j) (by omega)
          have hxl : L[j]? = some x := by
            have h9 := congrArg (·[0]?) hdr
            simp only [List.getElem?_drop, Nat.add_zero] at h9
            rw [← h9]; exact hx
          have y0 := hrow.cell hx
          have y1 := hrow.frozen j
          have hgl := hrow.lt
          have hxb : x < 4294967296 := hdl.at_ hx
          have HXL := Lib.hid hxl
          clear hx hxl hrow hdl hv hdr hM hbel
          have hj0 : (0 : Int) ≤ (j : Int) := by omega
          have hj1 : (j : Int) < (N : Int) := by omega
          have hc' : c = 0 ∨ c = 1 := by omega
          rcases hc' with rfl | rfl
          · have hbo : bits .or .u32 ((x : Int) * 2 % 4294967296) 0 = ((2 * x % 4294967296 + 0 : Nat) : Int) := by
              have := dbl_bits x 0 hxb (by omega)
              rw [show ((2 * x % 4294967296 : Nat) : Int) = (x : Int) * 2 % 4294967296 from by omega] at this
              exact this
            have E2 : Hid ((x : Int) / 2147483648 = ((x / 2147483648 : Nat) : Int)) := by show _ = _; omega
            have E1 : Hid (2 * (x : Int) % 4294967296 = ((2 * x % 4294967296 + 0 : Nat) : Int)) := by show _ = _; omega
            clear hc
            go_wp2_with fail
            go_region
            go_wp2
            go_roundw
            case rel =>
              rw [E1.out, E2.out]
              refine ⟨j + 1, x / 2147483648, M.set j (2 * x % 4294967296 + 0), by omega, by go_num, rfl, by omega, by rw [List.length_set]; exact HM.out, HROW2.out.set_ _ _, HDL2.out.set_ _ (show 2 * x % 4294967296 + 0 < 4294967296 by omega), ?_, ?_, (HBL2.out.setCell (p := ⟨w.heap.size, j, none⟩) (Nat.le_refl _) _).drew⟩
              · rw [List.drop_set_of_lt (by omega)]
                have h9 := congrArg (List.drop 1) HDR2.out
                simpa [List.drop_drop] using h9
              · rw [set_take (by have := HM.out; omega), take_snoc HXL.out, val_snoc, val_snoc, List.length_take, List.length_take, Nat.min_eq_left (by have := HM.out; omega), Nat.min_eq_left (by have := HL.out; omega)]
                exact dbl_grow HV2.out (show (2 * x % 4294967296 + 0) + 4294967296 * (x / 2147483648) = 2 * x + 0 by omega)
            case measure => first | (simp [intOf]; done) | (simp [intOf]; omega)
          · have hbo : bits .or .u32 ((x : Int) * 2 % 4294967296) 1 = ((2 * x % 4294967296 + 1 : Nat) : Int) := by
              have := dbl_bits x 1 hxb (by omega)
              rw [show ((2 * x % 4294967296 : Nat) : Int) = (x : Int) * 2 % 4294967296 from by omega] at this
              exact this
            have E2 : Hid ((x : Int) / 2147483648 = ((x / 2147483648 : Nat) : Int)) := by show _ = _; omega
            have E1 : Hid (2 * (x : Int) % 4294967296 + 1 = ((2 * x % 4294967296 + 1 : Nat) : Int)) := by show _ = _; omega
            clear hc
            go_wp2_with fail
            go_region
            go_wp2
            go_roundw
            case rel =>
              rw [E1.out, E2.out]
              refine ⟨j + 1, x / 2147483648, M.set j (2 * x % 4294967296 + 1), by omega, by go_num, rfl, by omega, by rw [List.length_set]; exact HM.out, HROW2.out.set_ _ _, HDL2.out.set_ _ (show 2 * x % 4294967296 + 1 < 4294967296 by omega), ?_, ?_, (HBL2.out.setCell (p := ⟨w.heap.size, j, none⟩) (Nat.le_refl _) _).drew⟩
              · rw [List.drop_set_of_lt (by omega)]
                have h9 := congrArg (List.drop 1) HDR2.out
                simpa [List.drop_drop] using h9
              · rw [set_take (by have := HM.out; omega), take_snoc HXL.out, val_snoc, val_snoc, List.length_take, List.length_take, Nat.min_eq_left (by have := HM.out; omega), Nat.min_eq_left (by have := HL.out; omega)]
                exact dbl_grow HV2.out (show (2 * x % 4294967296 + 1) + 4294967296 * (x / 2147483648) = 2 * x + 1 by omega)
            case measure => first | (simp [intOf]; done) | (simp [intOf]; omega)
        · have hjn : j = N := by omega
          subst hjn
          have htk : M.take j = M := List.take_of_length_le (by omega)
          have htl : L.take j = L := List.take_of_length_le (by have := HL.out; omega)
          rw [htk, htl] at hv
          have hbd : 2 * val B32 L < B32 ^ j := by
            rw [HV.out, HNN.out]
            exact shift_bound (by have := val_lt (b := B32) (by decide) HDA.out; rwa [← HN.out] at this) (by omega)
          have hvv : val B32 M = 2 * val B32 L := by
            rcases Nat.eq_zero_or_pos c with h | h
            · rw [h] at hv; simpa using hv
            · have h1 : c = 1 := by omega
              rw [h1, Nat.mul_one] at hv
              omega
          have HVV := Lib.hid hvv
          clear htk htl hbd hvv hv hrow hdl hdr hM hbel
          have hj1 : ¬ (j : Int) < (j : Int) := by omega
          go_wp2_with fail
          go_roundw
          case rel =>
            refine ⟨r + 1, M, by omega, by go_num, HM.out, HROW2.out, HDL2.out, ?_, HBL2.out⟩
            rw [HVV.out, HV.out, Nat.pow_succ]
            generalize B32 ^ (k / 32) * val B32 l = X
            rw [← Nat.mul_assoc X, Nat.mul_comm]
          case measure => first | (simp [intOf]; done) | (simp [intOf]; omega)
    · have hrR : r = R := by omega
      subst hrR
      have hvv : val B32 L = val B32 l * 2 ^ k := by
        rw [hv, HR.out]
        exact shift_total (val B32 l) k
      have ht := trim_any (some ⟨w.heap.size, 0, none⟩) N L wo (by omega) (by omega) (by unfold maxLen; omega) hrow.dat hdl
      have hda := dat_digs (by decide) hdl hrow.dat
      rw [hL, hvv] at ht
      rw [hvv] at hda
      have HT2 := Lib.hid ht
      have HDA2 := Lib.hid hda
      clear hvv hv hrow hdl hL hbel ht hda
      have hi1 : ¬ (r : Int) < (r : Int) := by omega
      go_wp2_with fail
      refine (HT2.out).mono ?_
      rintro e1 w2 ⟨rfl, hw⟩
      rw [← hw]
      clear hw
      go_wp2
      go_ret
      exact ⟨_, rfl, HDA2.out, HBL.out⟩
end Go.Proofs.YtncdacafdfknnaaDoor
