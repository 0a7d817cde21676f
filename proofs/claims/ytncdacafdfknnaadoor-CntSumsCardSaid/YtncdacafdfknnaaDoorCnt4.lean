/- Walks: same; contracts in numbers; the examples. -/
import Derived.Test.YtncdacafdfknnaaDoorCnt3
namespace Go.Proofs.YtncdacafdfknnaaDoor
open Go.RowKit
set_option linter.unusedVariables false

theorem same_dat (A B : Option Addr) (c d m n : Nat) (l : List Nat) (w : World) (hl : l.length ≤ 1000000) (hm : m = l.length) (hn : n = l.length) (hA : DAt w A .u32 l) (hB : DAt w B .u32 l) :
    Calls Tryd.prog 32 #[.slice A m c, .slice B n d] w fun e w' => e = .returned (.bool true) ∧ ∃ n, w' = w.drewN n := by
  have hnm : n = m := by omega
  subst hnm
  have HN := Lib.hid hn
  have HA := Lib.hid hA
  have HB := Lib.hid hB
  have hn6 : n ≤ 1000000 := by omega
  have hne : ((n : Int) != (n : Int)) = false := by simp
  clear hn hA hB hm hl
  go_enter Tryd.func32, Tryd.ntmps32
  go_wp2_with fail
  go_loopw [13] (fun si wr => ∃ k : Nat, k ≤ n ∧ si = .int .i64 k ∧ ∃ q, wr = w.drewN q) (fun i _ => n - (intOf i).toNat)
  case atStart => exact ⟨0, Nat.zero_le _, rfl, 0, rfl⟩
  case round =>
    obtain ⟨k, hk, rfl, q, rfl⟩ := hrel
    by_cases hlt : k < n
    · obtain ⟨a, ha⟩ := getE (l := l) (k := k) (by have := HN.out; omega)
      rcases HA.out with h9 | ⟨g, off, rfl, hg, hcell⟩
      · rw [h9] at ha; simp at ha
      rcases HB.out with h9 | ⟨g2, off2, rfl, hg2, hcell2⟩
      · rw [h9] at ha; simp at ha
      have x0 := hcell _ _ ha
      have y0 := hcell2 _ _ ha
      clear hcell hcell2 ha
      have hk0 : (0 : Int) ≤ (k : Int) := by omega
      have hk1 : (k : Int) < (n : Int) := by omega
      have hae : ((a : Int) != (a : Int)) = false := by simp
      go_wp2_with fail
      go_quiet (fail)
      go_wp2_with fail
      go_roundw
      case rel => exact ⟨k + 1, by omega, by go_num, _, rfl⟩
      case measure => first | (simp [intOf]; done) | (simp [intOf]; omega)
    · have hkn : k = n := by omega
      subst hkn
      have hk1 : ¬ (k : Int) < (k : Int) := by omega
      go_wp2_with fail
      go_ret
      exact ⟨rfl, _, rfl⟩

/-- Digits to the base 2^32 of a slice. -/
structure BAt (w : World) (A : Option Addr) (m c : Nat) (l : List Nat) : Prop where
  len : m = l.length
  cap : m ≤ c
  capm : c ≤ maxLen
  small : m ≤ 900
  dat : DAt w A .u32 l
  dig : Dig B32 l
section
variable {w w' : World} {A : Option Addr} {m c : Nat} {l : List Nat}
theorem BAt.below (h : BAt w A m c l) {B : Nat} (hb : Below B w w') (hB : B = w.heap.size) : BAt w' A m c l := ⟨h.len, h.cap, h.capm, h.small, h.dat.belowB hb hB, h.dig⟩
theorem BAt.drewN (h : BAt w A m c l) (n : Nat) : BAt (w.drewN n) A m c l := ⟨h.len, h.cap, h.capm, h.small, h.dat.drewN n, h.dig⟩
theorem BAt.lt (h : BAt w A m c l) : val B32 l < B32 ^ m := by rw [h.len]; exact val_lt (by decide) h.dig
end
theorem pow_le_gen (b m n : Nat) (hb : 0 < b) (h : m ≤ n) : b ^ m ≤ b ^ n := Nat.pow_le_pow_right hb h
theorem lt_gen (a b n m : Nat) (hb : 0 < b) (h : a < b ^ m) (hm : m ≤ n) : a < b ^ n := Nat.lt_of_lt_of_le h (pow_le_gen b m n hb hm)
theorem vd (x : Nat) : val B32 (digs B32 x) = x := val_digs (by decide) x
theorem bat_mk {w : World} {A : Option Addr} {x N c : Nat} (h : DAt w A .u32 (digs B32 x)) (hx : x < B32 ^ N) (hN : N ≤ 900) (hc : (digs B32 x).length ≤ c) (hc2 : c ≤ maxLen) : BAt w A (digs B32 x).length c (digs B32 x) ∧ (digs B32 x).length ≤ N := by
  have h1 := digs_len (b := B32) (by decide) _ _ hx
  exact ⟨⟨rfl, hc, hc2, by omega, h, dig_digs (by decide) x⟩, h1⟩
theorem bat_mk' {w : World} {A : Option Addr} {x N : Nat} (h : DAt w A .u32 (digs B32 x)) (hx : x < B32 ^ N) (hN : N ≤ 900) : BAt w A (digs B32 x).length (digs B32 x).length (digs B32 x) ∧ (digs B32 x).length ≤ N := by
  have h1 := digs_len (b := B32) (by decide) _ _ hx
  exact bat_mk h hx hN (Nat.le_refl _) (by unfold maxLen; omega)

theorem cmp_b (A1 A2 : Option Addr) (m1 c1 m2 c2 : Nat) (l1 l2 : List Nat) (w : World) (h1 : BAt w A1 m1 c1 l1) (h2 : BAt w A2 m2 c2 l2) :
    Calls Tryd.prog 28 #[.slice A1 m1 c1, .slice A2 m2 c2] w fun e w' => e = .returned (.int .i64 (cmpI (val B32 l1) (val B32 l2))) ∧ ∃ n, w' = w.drewN n := by
  have := h1.small; have := h2.small; have := h1.len; have := h2.len
  have h := cmp_any A1 A2 c1 c2 l1 l2 w (by omega) (by omega) (by rw [← h1.len]; exact h1.cap) (by rw [← h2.len]; exact h2.cap) h1.capm h2.capm h1.dat h2.dat h1.dig h2.dig
  rw [← h1.len, ← h2.len] at h
  exact h
theorem sub_b (A1 A2 : Option Addr) (m1 c1 m2 c2 : Nat) (l1 l2 : List Nat) (w : World) (h1 : BAt w A1 m1 c1 l1) (h2 : BAt w A2 m2 c2 l2) :
    Calls Tryd.prog 26 #[.slice A1 m1 c1, .slice A2 m2 c2] w fun e w' => ∃ A m c, e = .returned (.tuple #[.slice A m c, .bool (decide (val B32 l2 ≤ val B32 l1))]) ∧ BAt w' A m c (digs B32 (val B32 l1 - val B32 l2)) ∧ m ≤ m1 ∧ Below w.heap.size w w' := by
  have := h1.small; have := h2.small; have := h1.len; have := h2.len
  have h := sub_any A1 A2 c1 c2 l1 l2 w (by omega) (by omega) (by rw [← h1.len]; exact h1.cap) (by rw [← h2.len]; exact h2.cap) h1.capm h2.capm h1.dat h2.dat h1.dig h2.dig
  rw [← h1.len, ← h2.len] at h
  refine h.mono fun e w' ⟨A', he, hd, hb⟩ => ?_
  obtain ⟨k1, k2⟩ := bat_mk' (N := m1) hd (Nat.lt_of_le_of_lt (Nat.sub_le _ _) h1.lt) h1.small
  exact ⟨A', _, _, he, k1, k2, hb⟩
theorem mul_b (A1 A2 : Option Addr) (m1 c1 m2 c2 : Nat) (l1 l2 : List Nat) (w : World) (h1 : BAt w A1 m1 c1 l1) (h2 : BAt w A2 m2 c2 l2) (hm : m1 + m2 ≤ 900) :
    Calls Tryd.prog 21 #[.slice A1 m1 c1, .slice A2 m2 c2] w fun e w' => ∃ A m c, e = .returned (.slice A m c) ∧ BAt w' A m c (digs B32 (val B32 l1 * val B32 l2)) ∧ m ≤ m1 + m2 ∧ Below w.heap.size w w' := by
  have := h1.len; have := h2.len
  have h := mul_any A1 A2 c1 c2 l1 l2 w (by omega) (by omega) h1.dat h2.dat h1.dig h2.dig
  rw [← h1.len, ← h2.len] at h
  refine h.mono fun e w' ⟨A', he, hd, hb⟩ => ?_
  obtain ⟨k1, k2⟩ := bat_mk' (N := m1 + m2) hd (by rw [Nat.pow_add]; exact Nat.mul_lt_mul'' h1.lt h2.lt) hm
  exact ⟨A', _, _, he, k1, k2, hb⟩
theorem shift_b (A1 : Option Addr) (m1 c1 : Nat) (l1 : List Nat) (k : Int) (w : World) (h1 : BAt w A1 m1 c1 l1) (hm : m1 + 128 ≤ 900) :
    Calls Tryd.prog 23 #[.slice A1 m1 c1, .int .i64 k] w fun e w' => ∃ A m c, e = .returned (.slice A m c) ∧ BAt w' A m c (digs B32 (val B32 l1 * 2 ^ clampK k)) ∧ m ≤ m1 + 128 ∧ Below w.heap.size w w' := by
  have := h1.len
  have h := shift_any A1 c1 l1 k w (by omega) h1.dat h1.dig
  rw [← h1.len] at h
  refine h.mono fun e w' ⟨A', he, hd, hb⟩ => ?_
  have hk : clampK k ≤ 4096 := by unfold clampK; split <;> (try split) <;> omega
  have hp := pow_le_gen 2 _ 4096 (by decide) hk
  have hp0 : 0 < 2 ^ clampK k := Nat.pow_pos (by decide)
  rw [← p128] at hp
  have hlt : val B32 l1 * 2 ^ clampK k < B32 ^ (m1 + 128) := by
    rw [Nat.pow_add]
    generalize B32 ^ 128 = P at *
    exact Nat.mul_lt_mul_of_lt_of_le h1.lt hp (by omega)
  obtain ⟨k1, k2⟩ := bat_mk' (N := m1 + 128) hd hlt hm
  exact ⟨A', _, _, he, k1, k2, hb⟩
theorem half_b (A1 : Option Addr) (m1 c1 : Nat) (l1 : List Nat) (w : World) (h1 : BAt w A1 m1 c1 l1) :
    Calls Tryd.prog 19 #[.slice A1 m1 c1] w fun e w' => ∃ A m c, e = .returned (.tuple #[.slice A m c, .bool (decide (val B32 l1 % 2 = 1))]) ∧ BAt w' A m c (digs B32 (val B32 l1 / 2)) ∧ m ≤ m1 ∧ Below w.heap.size w w' := by
  have := h1.len; have := h1.small
  have h := half_any A1 c1 l1 w (by omega) h1.dat h1.dig
  rw [← h1.len] at h
  refine h.mono fun e w' ⟨A', he, hd, hb⟩ => ?_
  obtain ⟨k1, k2⟩ := bat_mk' (N := m1) hd (Nat.lt_of_le_of_lt (Nat.div_le_self _ _) h1.lt) h1.small
  exact ⟨A', _, _, he, k1, k2, hb⟩
theorem of_b (n : Nat) (w : World) (hn : n < 18446744073709551616) :
    Calls Tryd.prog 15 #[.int .u64 (n : Nat)] w fun e w' => ∃ A m c, e = .returned (.slice A m c) ∧ BAt w' A m c (digs B32 n) ∧ m ≤ 2 ∧ Below w.heap.size w w' := by
  have h := of_any n w hn
  refine h.mono fun e w' ⟨A', he, hd, hb⟩ => ?_
  obtain ⟨k1, k2⟩ := bat_mk' (N := 2) hd (by exact hn) (by omega)
  exact ⟨A', _, _, he, k1, k2, hb⟩
theorem text_b (A1 : Option Addr) (m1 c1 : Nat) (l1 : List Nat) (w : World) (h1 : BAt w A1 m1 c1 l1) :
    Calls Tryd.prog 13 #[.slice A1 m1 c1] w fun e w' => e = .returned (.string (decS (val B32 l1))) ∧ Below w.heap.size w w' := by
  have := h1.len; have := h1.small
  have h := text_any A1 c1 l1 w (by omega) h1.dat h1.dig
  rw [← h1.len] at h
  exact h
theorem int_b (A1 : Option Addr) (m1 c1 : Nat) (l1 : List Nat) (w : World) (h1 : BAt w A1 m1 c1 l1) :
    Calls Tryd.prog 17 #[.slice A1 m1 c1] w fun e w' => e = .returned (.tuple #[.int .u64 ((if val B32 l1 < 18446744073709551616 then val B32 l1 else 0 : Nat) : Int), .bool (decide (val B32 l1 < 18446744073709551616))]) ∧ w = w' := by
  have := h1.len; have := h1.small
  have h := int_any A1 c1 l1 w (by omega) (by rw [← h1.len]; exact h1.cap) h1.capm h1.dat h1.dig
  rw [← h1.len] at h
  exact h
theorem parse_b (s : ByteArray) (w : World) (hs : s.size ≤ maxLen) (hv : (parseS (bs s)).1 < B32 ^ 800) :
    Calls Tryd.prog 10 #[.string s] w fun e w' => ∃ A m c, e = .returned (.tuple #[.slice A m c, .int .i64 (parseS (bs s)).2]) ∧ BAt w' A m c (digs B32 (parseS (bs s)).1) ∧ m ≤ 800 ∧ Below w.heap.size w w' := by
  have h := parse_any s w hs
  refine h.mono fun e w' ⟨A', m, c, he, hm, hmc, hc, _, hd, hb⟩ => ?_
  subst hm
  obtain ⟨k1, k2⟩ := bat_mk (N := 800) hd hv (by omega) hmc hc
  exact ⟨A', _, _, he, k1, k2, hb⟩
theorem from_b (A1 : Option Addr) (m1 c1 : Nat) (l1 : List Nat) (w : World) (h1 : BAt w A1 m1 c1 l1) :
    Calls Tryd.prog 9 #[.slice A1 m1 c1] w fun e w' => ∃ A m c, e = .returned (.slice A m c) ∧ NumAt w' A m c (val B32 l1) ∧ m ≤ 10 * m1 ∧ Below w.heap.size w w' := by
  have := h1.len; have := h1.small
  have h := from_any A1 c1 l1 w (by omega) h1.dat h1.dig
  rw [← h1.len] at h
  refine h.mono fun e w' ⟨A', m, c, he, hd, hb⟩ => ?_
  exact ⟨A', m, c, he, hd, by rw [hd.len, h1.len]; exact len_val h1.dig, hb⟩
theorem is_b (A1 A2 : Option Addr) (m1 c1 m2 c2 : Nat) (x y : Nat) (w : World) (h1 : BAt w A1 m1 c1 (digs B32 x)) (h2 : NumAt w A2 m2 c2 y) (hxy : x = y) :
    Calls Tryd.prog 12 #[.slice A1 m1 c1, .slice A2 m2 c2] w fun e w' => e = .returned (.bool true) ∧ Below w.heap.size w w' := by
  have := h1.len; have := h1.small
  have hm : m2 ≤ 100000 := by
    have h3 := len_val (dig_digs (b := B32) (by decide) x)
    rw [vd, ← h1.len, hxy, ← h2.len] at h3
    omega
  have h := ris_any A1 A2 c1 m2 c2 (digs B32 x) y w (by omega) h1.dat h1.dig h2 hm ((normB_iff _).2 (norm_digs (by decide) x)) (by rw [vd]; exact hxy)
  rw [← h1.len] at h
  exact h
theorem same_b (A1 A2 : Option Addr) (m1 c1 m2 c2 : Nat) (x y : Nat) (w : World) (h1 : BAt w A1 m1 c1 (digs B32 x)) (h2 : BAt w A2 m2 c2 (digs B32 y)) (hxy : x = y) :
    Calls Tryd.prog 32 #[.slice A1 m1 c1, .slice A2 m2 c2] w fun e w' => e = .returned (.bool true) ∧ ∃ n, w' = w.drewN n := by
  subst hxy
  have := h1.len; have := h1.small
  exact same_dat A1 A2 c1 c2 m1 m2 (digs B32 x) w (by omega) h1.len h2.len h1.dat h2.dat

theorem digs1 : digs B32 4294967296 = [0, 1] := digs_val (b := B32) (by decide) (l := [0, 1]) ((normB_iff _).1 (by decide)) (by decide)
theorem digs2 : digs 10 18446744073709551616 = [6, 1, 6, 1, 5, 5, 9, 0, 7, 3, 7, 0, 4, 4, 7, 6, 4, 4, 8, 1] := digs_val (b := 10) (by decide) (l := [6, 1, 6, 1, 5, 5, 9, 0, 7, 3, 7, 0, 4, 4, 7, 6, 4, 4, 8, 1]) ((normB_iff _).1 (by decide)) (by decide)
theorem parse1 : parseS (bs ⟨#[52, 50, 57, 52, 57, 54, 55, 50, 57, 54]⟩) = (4294967296, 0) := by decide
theorem text1 : decS 18446744073709551616 = ⟨#[49, 56, 52, 52, 54, 55, 52, 52, 48, 55, 51, 55, 48, 57, 53, 53, 49, 54, 49, 54]⟩ := by
  unfold decS decL
  rw [digs2]
  rfl
set_option maxRecDepth 100000 in
set_option maxHeartbeats 4000000 in
theorem lives_any (w : World) : Calls Tryd.prog 8 #[] w fun e w' => e = .returned (.bool true) ∧ Below w.heap.size w w' := by
  have h1 := parse_b ⟨#[52, 50, 57, 52, 57, 54, 55, 50, 57, 54]⟩ w (by decide) (by rw [parse1]; exact lt_gen 4294967296 B32 800 2 (by decide) (by decide) (by decide))
  rw [parse1] at h1
  have H1 := Lib.hid h1
  clear h1
  go_enter Tryd.func8, Tryd.ntmps8
  go_wp2_with fail
  refine (H1.out).mono ?_
  rintro e w1 ⟨A1, m1, c1, rfl, ha1, hm1, hb1⟩
  have HB1 := Lib.hid hb1
  have HA1 := Lib.hid ha1
  have hz1 := hb1.size
  clear hb1 ha1
  go_wp2_with fail
  refine (of_b 1 w1 (by decide)).mono ?_
  rintro e w2 ⟨A2, m2, c2, rfl, ha2, hm2, hb2⟩
  have HB2 := Lib.hid (HB1.out.trans (hb2.mono hz1))
  have HA1 := Lib.hid (HA1.out.below hb2 rfl)
  have HA2 := Lib.hid ha2
  have hz2 := HB2.out.size
  clear hb2 ha2
  go_wp2_with fail
  refine (of_b 2 w2 (by decide)).mono ?_
  rintro e w3 ⟨A3, m3, c3, rfl, ha3, hm3, hb3⟩
  have HB3 := Lib.hid (HB2.out.trans (hb3.mono hz2))
  have HA1 := Lib.hid (HA1.out.below hb3 rfl)
  have HA2 := Lib.hid (HA2.out.below hb3 rfl)
  have HA3 := Lib.hid ha3
  have hz3 := HB3.out.size
  clear hb3 ha3
  go_wp2_with fail
  have h4 := sub_b A2 A3 m2 c2 m3 c3 _ _ w3 HA2.out HA3.out
  rw [vd, vd] at h4
  refine h4.mono ?_
  rintro e w4 ⟨A4, m4, c4, rfl, ha4, hm4, hb4⟩
  have HB4 := Lib.hid (HB3.out.trans (hb4.mono hz3))
  have HA1 := Lib.hid (HA1.out.below hb4 rfl)
  have hz4 := HB4.out.size
  clear hb4 ha4 h4
  have hdat := HA1.out.dat
  have hml := HA1.out.len
  rw [digs1] at hdat hml
  have hml2 : m1 = 2 := hml
  subst hml2
  rcases hdat with h9 | ⟨g, off, rfl, hg, hcell⟩
  · cases h9
  have x0 := hcell 0 0 rfl
  have x1 := hcell 1 1 rfl
  rw [Nat.add_zero] at x0
  clear hcell hml
  go_wp2_with fail
  have h5 := mul_b _ _ _ _ _ _ _ _ w4 HA1.out HA1.out (by decide)
  rw [vd] at h5
  refine h5.mono ?_
  rintro e w5 ⟨A5, m5, c5, rfl, ha5, hm5, hb5⟩
  have HB5 := Lib.hid (HB4.out.trans (hb5.mono hz4))
  have HA5 := Lib.hid ha5
  have hz5 := HB5.out.size
  clear hb5 ha5 h5
  go_wp2_with fail
  have h6 := text_b _ _ _ _ w5 HA5.out
  rw [vd, show 4294967296 * 4294967296 = 18446744073709551616 from rfl, text1] at h6
  refine h6.mono ?_
  rintro e w6 ⟨rfl, hb6⟩
  have HB6 := Lib.hid (HB5.out.trans (hb6.mono hz5))
  clear hb6 h6
  go_wp2_with fail
  go_ret
  exact ⟨rfl, HB6.out⟩
end Go.Proofs.YtncdacafdfknnaaDoor
