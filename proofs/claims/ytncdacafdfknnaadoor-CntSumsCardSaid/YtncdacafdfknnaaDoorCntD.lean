/- Walks: Cmp, Int, Parse. -/
import Derived.Test.YtncdacafdfknnaaDoorCntC
import Derived.Handy
namespace Go.Proofs.YtncdacafdfknnaaDoor
open Go.RowKit
set_option linter.unusedVariables false

/-- -1, 0 or 1. -/
def cmpI (x y : Nat) : Int := if x < y then -1 else if y < x then 1 else 0
theorem cmpI_lt {x y : Nat} (h : x < y) : cmpI x y = -1 := if_pos h
theorem cmpI_gt {x y : Nat} (h : y < x) : cmpI x y = 1 := by unfold cmpI; rw [if_neg (by omega), if_pos h]
theorem cmpI_eq {x y : Nat} (h : x = y) : cmpI x y = 0 := by unfold cmpI; rw [if_neg (by omega), if_neg (by omega)]

set_option maxRecDepth 100000 in
set_option maxHeartbeats 2000000 in
theorem cmp_any (A B : Option Addr) (c d : Nat) (l m : List Nat) (w : World) (hl : l.length ≤ 1000000) (hm : m.length ≤ 1000000) (hc : l.length ≤ c) (hd : m.length ≤ d) (hc2 : c ≤ maxLen) (hd2 : d ≤ maxLen)
    (hA : DAt w A .u32 l) (hB : DAt w B .u32 m) (hDl : Dig B32 l) (hDm : Dig B32 m) :
    Calls Tryd.prog 28 #[.slice A l.length c, .slice B m.length d] w fun e w' => e = .returned (.int .i64 (cmpI (val B32 l) (val B32 m))) ∧ ∃ n, w' = w.drewN n := by
  have HT1 := Lib.hid (trim_any A c l w hl hc hc2 hA hDl)
  have HT2 := Lib.hid (trim_any B d m w hm hd hd2 hB hDm)
  have HX := Lib.hid (dat_digs (by decide) hDl hA)
  have HY := Lib.hid (dat_digs (by decide) hDm hB)
  have hln := digs_len_le (b := B32) (by decide) hDl
  have hmn := digs_len_le (b := B32) (by decide) hDm
  have hgx := dig_digs (b := B32) (by decide) (val B32 l)
  have hgy := dig_digs (b := B32) (by decide) (val B32 m)
  have hvx := val_digs (b := B32) (by decide) (val B32 l)
  have hvy := val_digs (b := B32) (by decide) (val B32 m)
  have hlt := len_le_digs (b := B32) (by decide) (m := val B32 l) (n := val B32 m)
  have hgt := len_le_digs (b := B32) (by decide) (m := val B32 m) (n := val B32 l)
  generalize val B32 l = x at *
  generalize val B32 m = y at *
  generalize digs B32 x = la at *
  generalize digs B32 y = lb at *
  obtain ⟨n, hn⟩ : ∃ n, n = la.length := ⟨_, rfl⟩
  obtain ⟨k, hk⟩ : ∃ k, k = lb.length := ⟨_, rfl⟩
  rw [← hn] at HT1 hln hlt hgt
  rw [← hk] at HT2 hmn hlt hgt
  have HN := Lib.hid hn
  have HK := Lib.hid hk
  have HGX := Lib.hid hgx
  have HGY := Lib.hid hgy
  have HVX := Lib.hid hvx
  have HVY := Lib.hid hvy
  clear hn hk hgx hgy hvx hvy hA hB hDl hDm
  unfold maxLen at hc2 hd2
  by_cases hnk : n = k
  · subst hnk
    clear hlt hgt
    have hne : ((n : Int) != (n : Int)) = false := by simp
    go_enter Tryd.func28, Tryd.ntmps28
    go_wp2_with fail
    refine (HT1.out).mono ?_
    rintro e w1 ⟨rfl, hw⟩
    rw [← hw]
    clear hw
    go_wp2_with fail
    refine (HT2.out).mono ?_
    rintro e w1 ⟨rfl, hw⟩
    rw [← hw]
    clear hw
    go_wp2_with fail
    go_loopw [5] (fun si wr => ∃ i : Int, -1 ≤ i ∧ i < n ∧ si = .int .i64 i ∧ la.drop (i + 1).toNat = lb.drop (i + 1).toNat ∧ ∃ q, wr = w.drewN q) (fun i _ => (intOf i + 1).toNat)
    case atStart => exact ⟨(n : Int) - 1, by omega, by omega, rfl, by rw [List.drop_eq_nil_of_le (by have := HN.out; omega), List.drop_eq_nil_of_le (by have := HK.out; omega)], 0, rfl⟩
    case round =>
      obtain ⟨i, hi1, hi2, rfl, hdr, q, rfl⟩ := hrel
      by_cases h0 : 0 ≤ i
      · obtain ⟨j, rfl⟩ : ∃ j : Nat, i = j := ⟨i.toNat, by omega⟩
        rw [show ((j : Int) + 1).toNat = j + 1 from by omega] at hdr
        obtain ⟨a, ha⟩ := getE (l := la) (k := j) (by have := HN.out; omega)
        obtain ⟨b, hb⟩ := getE (l := lb) (k := j) (by have := HK.out; omega)
        rcases HX.out with h9 | ⟨g, off, rfl, hg, hcell⟩
        · rw [h9] at ha; simp at ha
        rcases HY.out with h9 | ⟨g2, off2, rfl, hg2, hcell2⟩
        · rw [h9] at hb; simp at hb
        have x0 := hcell _ _ ha
        have y0 := hcell2 _ _ hb
        have FL := Lib.hid (fun (h : a < b) => val_lt_of (b := B32) (by decide) HGX.out HGY.out ha hb hdr h)
        have FG := Lib.hid (fun (h : b < a) => val_lt_of (b := B32) (by decide) HGY.out HGX.out hb ha hdr.symm h)
        have FE := Lib.hid (fun (h : a = b) => drop_cons_eq ha (by rw [h]; exact hb) hdr)
        rw [HVX.out, HVY.out] at FL FG
        clear hcell hcell2 ha hb hdr hi1
        have hj0 : (0 : Int) ≤ (j : Int) := by omega
        rcases Nat.lt_trichotomy a b with hab | hab | hab
        · have HV := Lib.hid (cmpI_lt (FL.out hab))
          have d1 : decide (a < b) = true := by simpa using hab
          clear hab
          go_wp2_with fail
          go_quiet (fail)
          go_wp2_with fail
          go_ret
          rw [HV.out]
          exact ⟨rfl, q + nq, by rw [World.drewN_drewN]⟩
        · have HD := Lib.hid (FE.out hab)
          subst hab
          have d1 : decide (a < a) = false := by simp
          go_wp2_with fail
          go_quiet (fail)
          obtain ⟨nq1, rfl⟩ : ∃ m, m = nq := ⟨_, rfl⟩
          go_wp2_with fail
          go_quiet (fail)
          go_wp2_with fail
          go_roundw
          case rel => exact ⟨(j : Int) - 1, by omega, by omega, rfl, by rw [show ((j : Int) - 1 + 1).toNat = j from by omega]; exact HD.out, _, rfl⟩
          case measure => first | (simp [intOf]; done) | (simp [intOf]; omega)
        · have HV := Lib.hid (cmpI_gt (FG.out hab))
          have d1 : decide (a < b) = false := by simp; omega
          have d2 : decide (b < a) = true := by simpa using hab
          clear hab
          go_wp2_with fail
          go_quiet (fail)
          obtain ⟨nq1, rfl⟩ : ∃ m, m = nq := ⟨_, rfl⟩
          go_wp2_with fail
          go_quiet (fail)
          go_wp2_with fail
          go_ret
          rw [HV.out]
          exact ⟨rfl, q + (nq1 + nq), by rw [World.drewN_drewN, World.drewN_drewN]⟩
      · have hi : i = -1 := by omega
        subst hi
        have hxy : x = y := by
          rw [show ((-1 : Int) + 1).toNat = 0 from rfl, List.drop_zero, List.drop_zero] at hdr
          rw [← HVX.out, ← HVY.out, hdr]
        have HV := Lib.hid (cmpI_eq hxy)
        clear hdr hxy
        go_wp2_with fail
        go_ret
        rw [HV.out]
        exact ⟨rfl, _, rfl⟩
  · have hne : ((n : Int) != (k : Int)) = true := by simp; omega
    by_cases h1 : n < k
    · have HV := Lib.hid (cmpI_lt (hlt h1))
      have d1 : decide (n < k) = true := by simpa using h1
      clear hlt hgt hnk
      go_enter Tryd.func28, Tryd.ntmps28
      go_wp2_with fail
      refine (HT1.out).mono ?_
      rintro e w1 ⟨rfl, hw⟩
      rw [← hw]
      clear hw
      go_wp2_with fail
      refine (HT2.out).mono ?_
      rintro e w1 ⟨rfl, hw⟩
      rw [← hw]
      clear hw
      go_wp2_with fail
      go_ret
      rw [HV.out]
      exact ⟨rfl, 0, rfl⟩
    · have HV := Lib.hid (cmpI_gt (hgt (by omega)))
      have d1 : decide (n < k) = false := by simpa using h1
      clear hlt hgt hnk
      go_enter Tryd.func28, Tryd.ntmps28
      go_wp2_with fail
      refine (HT1.out).mono ?_
      rintro e w1 ⟨rfl, hw⟩
      rw [← hw]
      clear hw
      go_wp2_with fail
      refine (HT2.out).mono ?_
      rintro e w1 ⟨rfl, hw⟩
      rw [← hw]
      clear hw
      go_wp2_with fail
      go_ret
      rw [HV.out]
      exact ⟨rfl, 0, rfl⟩

theorem digs_small {x : Nat} (h : (digs B32 x).length ≤ 2) : digs B32 x = [] ∨ (∃ d, digs B32 x = [d] ∧ d < 4294967296 ∧ x = d) ∨ ∃ d e, digs B32 x = [d, e] ∧ d < 4294967296 ∧ e < 4294967296 ∧ x = d + 4294967296 * e := by
  have hd := dig_digs (b := B32) (by decide) x
  have hv := val_digs (b := B32) (by decide) x
  match hl : digs B32 x with
  | [] => exact .inl rfl
  | [d] =>
    rw [hl] at hd hv
    exact .inr (.inl ⟨d, rfl, hd d (by simp), by rw [← hv]; simp [val]⟩)
  | [d, e] =>
    rw [hl] at hd hv
    exact .inr (.inr ⟨d, e, rfl, hd d (by simp), hd e (by simp), by rw [← hv]; simp [val]⟩)
  | a :: b :: c :: r => rw [hl] at h; simp at h

set_option maxRecDepth 100000 in
set_option maxHeartbeats 2000000 in
theorem int_any (A : Option Addr) (c : Nat) (l : List Nat) (w : World) (hl : l.length ≤ 1000000) (hc : l.length ≤ c) (hc2 : c ≤ maxLen) (hA : DAt w A .u32 l) (hDl : Dig B32 l) :
    Calls Tryd.prog 17 #[.slice A l.length c] w fun e w' => e = .returned (.tuple #[.int .u64 ((if val B32 l < 18446744073709551616 then val B32 l else 0 : Nat) : Int), .bool (decide (val B32 l < 18446744073709551616))]) ∧ w = w' := by
  have HT1 := Lib.hid (trim_any A c l w hl hc hc2 hA hDl)
  have HX := Lib.hid (dat_digs (by decide) hDl hA)
  have hln := digs_len_le (b := B32) (by decide) hDl
  clear hA hDl
  generalize val B32 l = x at *
  by_cases h2 : (digs B32 x).length ≤ 2
  · rcases digs_small h2 with h | ⟨d, h, hd, hx⟩ | ⟨d, e, h, hd, he, hx⟩
    · have hx : x = 0 := by have := val_digs (b := B32) (by decide) x; rw [h] at this; exact this.symm
      rw [h] at HT1
      subst hx
      go_enter Tryd.func17, Tryd.ntmps17
      go_wp2_with fail
      refine (HT1.out).mono ?_
      rintro e w1 ⟨rfl, hw⟩
      rw [← hw]
      clear hw
      go_wp2_with fail
      go_rounds 1
      go_ret2
      exact ⟨rfl, rfl⟩
    · rcases HX.out with h9 | ⟨g, off, rfl, hg, hcell⟩
      · rw [h] at h9; cases h9
      have x0 := hcell 0 d (by rw [h]; rfl)
      rw [Nat.add_zero] at x0
      rw [h] at HT1
      have hlt : x < 18446744073709551616 := by omega
      rw [if_pos hlt, decide_eq_true hlt]
      have hbo := u64_or_nat 0 d (by omega) (by omega)
      rw [Nat.zero_or] at hbo
      have hbo' : bits .or .u64 0 (d : Int) = (d : Int) := hbo
      have HXX := Lib.hid hx
      clear hx hlt hcell h h2 hbo HX
      go_enter Tryd.func17, Tryd.ntmps17
      go_wp2_with fail
      refine (HT1.out).mono ?_
      rintro e w1 ⟨rfl, hw⟩
      rw [← hw]
      clear hw
      go_wp2_with fail
      go_rounds 2
      go_ret2
      rw [HXX.out]
      exact ⟨rfl, rfl⟩
    · rcases HX.out with h9 | ⟨g, off, rfl, hg, hcell⟩
      · rw [h] at h9; cases h9
      have x0 := hcell 0 d (by rw [h]; rfl)
      have x1 := hcell 1 e (by rw [h]; rfl)
      rw [Nat.add_zero] at x0
      rw [h] at HT1
      have hlt : x < 18446744073709551616 := by omega
      rw [if_pos hlt, decide_eq_true hlt]
      have hbo := u64_or_nat 0 d (by omega) (by omega)
      rw [Nat.zero_or] at hbo
      have hbo' : bits .or .u64 0 (d : Int) = (d : Int) := hbo
      have ho : bits .or .u64 (d : Int) ((e : Int) * 4294967296) = (x : Int) := by
        have h1 := u64_or_nat d (e * 4294967296) (by omega) (by omega)
        have h2 := nat_join 32 (e * 4294967296) d (Nat.mul_mod_left _ _) hd
        rw [Nat.or_comm, h2] at h1
        rw [show ((e : Int) * 4294967296) = ((e * 4294967296 : Nat) : Int) from by omega, h1, hx]
        omega
      have HO := Lib.hid ho
      clear ho
      have HXX := Lib.hid hx
      clear hx hlt hcell h h2 hbo HX
      go_enter Tryd.func17, Tryd.ntmps17
      go_wp2_with fail
      refine (HT1.out).mono ?_
      rintro e w1 ⟨rfl, hw⟩
      rw [← hw]
      clear hw
      go_wp2_with fail
      go_rounds 3
      go_ret2
      rw [HO.out]
      exact ⟨rfl, rfl⟩
  · have hge : ¬ x < 18446744073709551616 := fun h => h2 (digs_len (b := B32) (by decide) 2 x (by rw [show B32 ^ 2 = 18446744073709551616 from rfl]; exact h))
    rw [if_neg hge, decide_eq_false hge]
    generalize (digs B32 x).length = n at *
    have h2' : (2 : Int) < (n : Int) := by omega
    clear hge h2 HX
    go_enter Tryd.func17, Tryd.ntmps17
    go_wp2_with fail
    refine (HT1.out).mono ?_
    rintro e w1 ⟨rfl, hw⟩
    rw [← hw]
    clear hw
    go_wp2_with fail
    go_ret2
    exact ⟨rfl, rfl⟩
end Go.Proofs.YtncdacafdfknnaaDoor
