/- Walk: Mul. -/
import Derived.Test.YtncdacafdfknnaaDoorCntG
namespace Go.Proofs.YtncdacafdfknnaaDoor
open Go.RowKit
set_option linter.unusedVariables false

theorem mul_grow {B p v e z c c2 q V v2 : Nat} (hv : v + B ^ p * c = V) (hset : v2 + B ^ p * e = v + B ^ p * z) (ht : z + B * c2 = c + q + e) : v2 + B ^ (p + 1) * c2 = V + B ^ p * q := by
  have e1 : B ^ (p + 1) * c2 = B ^ p * (B * c2) := by rw [Nat.pow_succ, Nat.mul_assoc]
  have h2 : B ^ p * (z + B * c2) = B ^ p * (c + q + e) := by rw [ht]
  rw [Nat.mul_add, Nat.mul_add, Nat.mul_add] at h2
  rw [e1]
  omega

theorem mul_shape (B i k x y v : Nat) : B ^ i * (x * (v + B ^ k * y)) = B ^ i * (x * v) + B ^ (i + k) * (x * y) := by
  rw [Nat.mul_add, Nat.mul_add, Nat.pow_add]
  congr 1
  ac_rfl
theorem mul_shape2 (B i x v V : Nat) : V * v + B ^ i * (x * v) = (V + B ^ i * x) * v := by
  rw [Nat.add_mul, Nat.mul_assoc]

set_option maxRecDepth 100000 in
set_option maxHeartbeats 8000000 in
theorem mul_any (A1 A2 : Option Addr) (c1 c2 : Nat) (l m : List Nat) (w : World) (hl : l.length ≤ 1000) (hm : m.length ≤ 1000) (hA : DAt w A1 .u32 l) (hB : DAt w A2 .u32 m) (hDl : Dig B32 l) (hDm : Dig B32 m) :
    Calls Tryd.prog 21 #[.slice A1 l.length c1, .slice A2 m.length c2] w fun e w' => ∃ A', e = .returned (.slice A' (digs B32 (val B32 l * val B32 m)).length (digs B32 (val B32 l * val B32 m)).length) ∧ DAt w' A' .u32 (digs B32 (val B32 l * val B32 m)) ∧ Below w.heap.size w w' := by
  have HA := Lib.hid hA
  have HB := Lib.hid hB
  have HDA := Lib.hid hDl
  have HDB := Lib.hid hDm
  clear hA hB hDl hDm
  obtain ⟨n, hn⟩ : ∃ n, n = l.length := ⟨_, rfl⟩
  obtain ⟨k0, hk0⟩ : ∃ k, k = m.length := ⟨_, rfl⟩
  rw [← hn] at hl ⊢
  rw [← hk0] at hm ⊢
  have HN := Lib.hid hn
  have HK := Lib.hid hk0
  clear hn hk0
  obtain ⟨N, hN⟩ : ∃ N, N = n + k0 := ⟨_, rfl⟩
  have hmk0 := make_u32 N (by omega) w
  obtain ⟨W, hW⟩ : ∃ W, W = w.alloc (.cells (madeCells #[.int .u32 0] N) 62) := ⟨_, rfl⟩
  rw [← hW] at hmk0
  have hmk : (Instr.makeSlice 23 (.int .i64 ((n : Int) + (k0 : Int))) (.int .i64 ((n : Int) + (k0 : Int)))).run Tryd.prog w = .ok (.slice (some ⟨w.heap.size, 0, none⟩) N N) W := by
    rw [show ((n : Int) + (k0 : Int)) = (N : Int) from by omega]; exact hmk0
  have hR0 : Hid (Row W w.heap.size 62 .u32 (List.replicate N 0)) := by rw [hW]; exact Row.made _ _ _ _
  have hB0 : Hid (Below w.heap.size w W) := by rw [hW]; exact (Below.refl _ _).alloc (Nat.le_refl _) _
  have HNN := Lib.hid hN
  have hN1 : n + k0 ≤ N := by omega
  have hN2 : N ≤ 2000 := by omega
  clear hW hmk0 hN
  go_enter Tryd.func21, Tryd.ntmps21
  go_wp2_with fail
  go_loopw [19] (fun si wr => ∃ (i : Nat) (L : List Nat), i ≤ n ∧ si = .int .i64 i ∧ L.length = N ∧ Row wr w.heap.size 62 .u32 L ∧ Dig B32 L ∧ L.drop (i + k0) = List.replicate (N - (i + k0)) 0 ∧ val B32 L = val B32 (l.take i) * val B32 m ∧ Below w.heap.size w wr) (fun i _ => n - (intOf i).toNat)
  case atStart => exact ⟨0, _, Nat.zero_le _, rfl, by simp, hR0.out, dig_replicate (by decide) _, by simp, by rw [val_replicate_zero]; simp [val], hB0.out⟩
  case round =>
    obtain ⟨i, L, hi, rfl, hL, hrow, hdl, hdr, hv, hbel⟩ := hrel
    obtain ⟨wo, rfl⟩ : ∃ wo : World, wo = wr := ⟨_, rfl⟩
    have HROW := Lib.hid hrow
    have HDL := Lib.hid hdl
    have HV := Lib.hid hv
    have HDR := Lib.hid hdr
    have HL := Lib.hid hL
    have HBL := Lib.hid hbel
    by_cases hlt : i < n
    · obtain ⟨x, hx⟩ := getE (l := l) (k := i) (by have := HN.out; omega)
      rcases HA.out.belowB hbel rfl with h9 | ⟨g, off, rfl, hg, hcell⟩
      · rw [h9] at hx; simp at hx
      have x0 := hcell _ _ hx
      have hxb : x < 4294967296 := HDA.out.at_ hx
      have HX := Lib.hid hx
      clear hcell hx hrow hdl hv hdr hL hbel
      have hi0 : (0 : Int) ≤ (i : Int) := by omega
      have hi1 : (i : Int) < (n : Int) := by omega
      go_wp2_with fail
      go_loopw [8, 26] (fun sc sk wr => ∃ (k c : Nat) (M : List Nat), k ≤ k0 ∧ sk = .int .i64 k ∧ sc = .int .u64 c ∧ c < 4294967296 ∧ M.length = N ∧ Row wr w.heap.size 62 .u32 M ∧ Dig B32 M ∧ M.drop (i + k) = L.drop (i + k) ∧ val B32 M + B32 ^ (i + k) * c = val B32 L + B32 ^ i * (x * val B32 (m.take k)) ∧ Below w.heap.size w wr) (fun _ k _ => k0 - (intOf k).toNat)
      case atStart => exact ⟨0, 0, L, Nat.zero_le _, rfl, rfl, by omega, HL.out, HROW.out, HDL.out, rfl, by simp [val], HBL.out⟩
      case round =>
        obtain ⟨k, c, M, hk, rfl, rfl, hc, hM, hrow, hdl, hdr, hv, hbel⟩ := hrel
        have HROW2 := Lib.hid hrow
        have HDL2 := Lib.hid hdl
        have HV2 := Lib.hid hv
        have HDR2 := Lib.hid hdr
        have HM := Lib.hid hM
        have HBL2 := Lib.hid hbel
        by_cases hkl : k < k0
        · obtain ⟨y, hy⟩ := getE (l := m) (k := k) (by have := HK.out; omega)
          rcases HB.out.belowB hbel rfl with h9 | ⟨g2, off2, rfl, hg2, hcell⟩
          · rw [h9] at hy; simp at hy
          have x1 := hcell _ _ hy
          have hyb : y < 4294967296 := HDB.out.at_ hy
          obtain ⟨e, he⟩ := getE (l := M) (k := i + k) (by omega)
          have y0 := hrow.cell he
          have y1 := hrow.frozen (i + k)
          have hgl := hrow.lt
          have heb : e < 4294967296 := hdl.at_ he
          have hmul : x * y ≤ 4294967295 * 4294967295 := Nat.mul_le_mul (by omega) (by omega)
          obtain ⟨q, hq⟩ : ∃ q, q = x * y := ⟨_, rfl⟩
          have hq1 : (x : Int) * (y : Int) = (q : Int) := by rw [hq]; exact (Int.natCast_mul x y).symm
          have hqb : q ≤ 18446744065119617025 := by omega
          have HQ := Lib.hid hq
          have HE := Lib.hid he
          have HY := Lib.hid hy
          clear hcell hy he hrow hdl hv hdr hM hbel hmul hq
          have hk0' : (0 : Int) ≤ (k : Int) := by omega
          have hk1 : (k : Int) < (k0 : Int) := by omega
          have hik0 : (0 : Int) ≤ (i : Int) + (k : Int) := by omega
          have hik1 : (i : Int) + (k : Int) < (N : Int) := by omega
          have E1 : Hid (((c : Int) + ((q : Int) + (e : Int))) % 4294967296 = (((c + (q + e)) % 4294967296 : Nat) : Int)) := by show _ = _; omega
          have E2 : Hid (((c : Int) + ((q : Int) + (e : Int))) / 4294967296 = (((c + (q + e)) / 4294967296 : Nat) : Int)) := by show _ = _; omega
          go_wp2_with fail
          go_roundw
          case rel =>
            rw [E1.out, E2.out]
            refine ⟨k + 1, (c + (q + e)) / 4294967296, M.set (i + k) ((c + (q + e)) % 4294967296), by omega, by go_num, rfl, by omega, by rw [List.length_set]; exact HM.out, HROW2.out.set_ _ _, HDL2.out.set_ _ (Nat.mod_lt _ (by decide)), ?_, ?_, HBL2.out.setCell (p := ⟨w.heap.size, i + k, none⟩) (Nat.le_refl _) _⟩
            · rw [List.drop_set_of_lt (by omega)]
              have h9 := congrArg (List.drop 1) HDR2.out
              simpa [List.drop_drop, Nat.add_assoc] using h9
            · have h1 := val_set B32 M (i + k) ((c + (q + e)) % 4294967296) e HE.out
              have h2 : (c + (q + e)) % 4294967296 + 4294967296 * ((c + (q + e)) / 4294967296) = c + q + e := by rw [Nat.mod_add_div]; omega
              have h3 := mul_grow HV2.out h1 h2
              rw [take_snoc HY.out, val_snoc, List.length_take, Nat.min_eq_left (by have := HK.out; omega), mul_shape, ← Nat.add_assoc i k 1, h3, ← HQ.out]
              omega
          case measure => first | (simp [intOf]; done) | (simp [intOf]; omega)
        · have hkk : k = k0 := by omega
          subst hkk
          obtain ⟨e, he⟩ := getE (l := M) (k := i + k) (by omega)
          have he0 : e = 0 := by
            have h9 := congrArg (·[0]?) (hdr.trans HDR.out)
            simp only [List.getElem?_drop, Nat.add_zero] at h9
            rw [he, List.getElem?_replicate, if_pos (by omega)] at h9
            injection h9
          have y0 := hrow.cell he
          have y1 := hrow.frozen (i + k)
          have hgl := hrow.lt
          have hset := val_set B32 M (i + k) c e he
          have htk : m.take k = m := List.take_of_length_le (by have := HK.out; omega)
          rw [he0, Nat.mul_zero, Nat.add_zero, hv, htk, HV.out, mul_shape2] at hset
          have hsn := take_snoc HX.out
          have hvs := val_snoc B32 (l.take i) x
          rw [List.length_take, Nat.min_eq_left (by have := HN.out; omega), ← hsn] at hvs
          rw [← hvs] at hset
          have HSET := Lib.hid hset
          clear he he0 hrow hdl hv hdr hM hbel hset htk hsn hvs
          have hik0 : (0 : Int) ≤ (i : Int) + (k : Int) := by omega
          have hik1 : (i : Int) + (k : Int) < (N : Int) := by omega
          have hk1 : ¬ (k : Int) < (k : Int) := by omega
          go_wp2_with fail
          go_roundw
          case rel =>
            refine ⟨i + 1, M.set (i + k) c, by omega, by go_num, by rw [List.length_set]; exact HM.out, HROW2.out.set_ _ _, HDL2.out.set_ _ hc, ?_, HSET.out, HBL2.out.setCell (p := ⟨w.heap.size, i + k, none⟩) (Nat.le_refl _) _⟩
            rw [List.drop_set_of_lt (by omega)]
            have h9 := congrArg (List.drop 1) (HDR2.out.trans HDR.out)
            rw [List.drop_drop, List.drop_replicate] at h9
            rw [show i + 1 + k = i + k + 1 by omega, h9]
            congr 1
          case measure => first | (simp [intOf]; done) | (simp [intOf]; omega)
    · have hin : i = n := by omega
      subst hin
      have htl : l.take i = l := List.take_of_length_le (by have := HN.out; omega)
      rw [htl] at hv
      have ht := trim_any (some ⟨w.heap.size, 0, none⟩) N L wo (by omega) (by omega) (by unfold maxLen; omega) hrow.dat hdl
      have hda := dat_digs (by decide) hdl hrow.dat
      rw [hL, hv] at ht
      rw [hv] at hda
      have HT2 := Lib.hid ht
      have HDA2 := Lib.hid hda
      clear htl hv hrow hdl hdr hL hbel ht hda
      have hi1 : ¬ (i : Int) < (i : Int) := by omega
      go_wp2_with fail
      refine (HT2.out).mono ?_
      rintro e1 w2 ⟨rfl, hw⟩
      rw [← hw]
      clear hw
      go_wp2
      go_ret
      exact ⟨_, rfl, HDA2.out, HBL.out⟩
end Go.Proofs.YtncdacafdfknnaaDoor
