/- The law CntTexts: Text, Parse, Int and Of agree with the reference. -/
import Derived.Test.YtncdacafdfknnaaDoorCnt5
namespace Go.Proofs.YtncdacafdfknnaaDoor
open Go.ChangeShapes Go.WideShapes Go.ChangeAt Go.RowKit
open Go.ChangeMaps (open_string shut_string)
set_option linter.unusedVariables false

theorem big_gen (a n m : Nat) (h : a < 10 ^ n) (hm : n ≤ m) : a < B32 ^ m := Nat.lt_of_lt_of_le h (Nat.le_trans (pow_le_gen 10 n m (by decide) hm) (Nat.pow_le_pow_left (by decide) _))
theorem big10 (a : Nat) (h : a < 10 ^ 300) : a < B32 ^ 800 := big_gen a 300 800 h (by decide)
theorem parse_small {l : Bs} (h : l.length ≤ 300 ∨ 2000 < l.length) : (parseS l).1 < B32 ^ 800 := by
  unfold parseS
  split
  · exact lt_gen 0 B32 800 0 (by decide) (by decide) (by decide)
  · split
    · exact lt_gen 0 B32 800 0 (by decide) (by decide) (by decide)
    · split
      · rename_i h1 h2 h3
        have h4 := decV_lt _ l rfl (List.all_eq_true.1 h3)
        exact big10 _ (lt_gen _ 10 300 _ (by decide) h4 (by omega))
      · exact lt_gen 0 B32 800 0 (by decide) (by decide) (by decide)

set_option maxRecDepth 100000 in
set_option maxHeartbeats 8000000 in
theorem cntTexts_any (A1 : Option Addr) (m1 c1 : Nat) (l1 : List Nat) (s : ByteArray) (n : Nat) (W : World) (h1 : SAt W A1 m1 c1 l1) (hs : s.size ≤ maxLen) (hn : n < 18446744073709551616) :
    Calls Tryd.prog 3 #[.slice A1 m1 c1, .string s, .int .u64 (n : Nat)] W fun e W' => e = .returned (.bool true) ∧ Below W.heap.size W W' := by
  have HF := Lib.hid (few1 A1 m1 c1 l1 W h1)
  have hb0 := (Below.refl W.heap.size W).alloc (Nat.le_refl _) (.cells #[.slice A1 m1 c1] 23)
  have H1 := Lib.hid (h1.below hb0 rfl)
  have HB := Lib.hid hb0
  have HNN := Lib.hid hn
  have HSS := Lib.hid hs
  unfold maxLen at hs
  clear h1 hb0 hn
  obtain ⟨fb, hfb⟩ : ∃ fb, fb = fewB [l1] := ⟨_, rfl⟩
  rw [← hfb] at HF
  go_enter Tryd.func3, Tryd.ntmps3
  go_wp2_with fail
  refine (HF.out).mono ?_
  rintro e w0 ⟨rfl, hw⟩
  rw [← hw]
  clear hw HF
  obtain ⟨W1, hW1⟩ : ∃ W1, W1 = W.alloc (.cells #[.slice A1 m1 c1] 23) := ⟨_, rfl⟩
  rw [← hW1]
  rw [← hW1] at H1 HB
  clear hW1
  have hz := HB.out.size
  cases fb
  · clear hfb
    go_wp2_with fail
    have hcc := lives_any W1
    have HCC := Lib.hid hcc
    clear hcc
    refine (HCC.out).mono ?_
    rintro e w2 ⟨rfl, hb2⟩
    clear HCC
    replace HB := Lib.hid (HB.out.trans (hb2.mono hz))
    replace hz := HB.out.size
    clear hb2
    go_wp2_with fail
    go_ret
    exact ⟨rfl, HB.out⟩
  · have hfm := fewB_mem hfb.symm
    have hl1 := hfm.1 l1 (by simp)
    replace H1 := Lib.hid (H1.out.bat hl1)
    have hm1 : m1 ≤ 40 := by rw [H1.out.len]; exact hl1
    clear hfm hl1 hfb
    by_cases hsz : 300 < s.size ∧ s.size ≤ 2000
    · obtain ⟨hz1, hz2⟩ := hsz
      have hz1' : (300 : Int) < (s.size : Int) := by omega
      have hz2' : (s.size : Int) ≤ 2000 := by omega
      go_wp2_with fail
      have hcc := lives_any W1
      have HCC := Lib.hid hcc
      clear hcc
      refine (HCC.out).mono ?_
      rintro e w2 ⟨rfl, hb2⟩
      clear HCC
      replace HB := Lib.hid (HB.out.trans (hb2.mono hz))
      replace hz := HB.out.size
      clear hb2
      go_wp2_with fail
      go_ret
      exact ⟨rfl, HB.out⟩
    · have HPV := Lib.hid (parse_small (l := bs s) (by rw [bs_length]; omega))
      obtain ⟨x, hx⟩ : ∃ x, x = val B32 l1 := ⟨_, rfl⟩
      obtain ⟨pv, hpv⟩ : ∃ pv, pv = (parseS (bs s)).1 := ⟨_, rfl⟩
      obtain ⟨pe, hpe⟩ : ∃ pe, pe = (parseS (bs s)).2 := ⟨_, rfl⟩
      obtain ⟨T, hT⟩ : ∃ T, T = decS x := ⟨_, rfl⟩
      obtain ⟨q, hq⟩ : ∃ q, q = cmpI x 18446744073709551615 := ⟨_, rfl⟩
      have HX := Lib.hid hx
      have HV := Lib.hid hpv
      have HE := Lib.hid hpe
      have HT := Lib.hid hT
      have HQQ := Lib.hid hq
      have hcase : (300 < s.size ∧ 2000 < s.size) ∨ ¬ 300 < s.size := by omega
      clear hx hpv hpe hT hq hsz
      obtain ⟨g1, hg1⟩ : ∃ g1, g1 = decide ((300 : Int) < (s.size : Int)) := ⟨_, rfl⟩
      have hx64 : (∃ iv : Nat, iv = x ∧ x < 18446744073709551616 ∧ ¬ (0 : Int) < q) ∨ (¬ x < 18446744073709551616 ∧ (0 : Int) < q) := by
        by_cases h : x < 18446744073709551616
        · refine .inl ⟨x, rfl, h, ?_⟩
          rw [HQQ.out]
          unfold cmpI
          split
          · omega
          · split <;> omega
        · refine .inr ⟨h, ?_⟩
          rw [HQQ.out, cmpI_gt (by omega)]
          omega
      rcases hx64 with ⟨iv, hiv, hx64, hq⟩ | ⟨hx64, hq⟩
      · have HX64 := Lib.hid hx64
        clear hx64
        have HIV := Lib.hid hiv
        clear hiv
        have hss := hcase
        clear hcase hg1
        rcases hss with ⟨hz1, hz2⟩ | hz1
        all_goals
          have hs1 : True := trivial
          go_wp2_with fail
          have hcc := from_b A1 m1 c1 l1 W1 H1.out
          rw [← HX.out] at hcc
          have HCC := Lib.hid hcc
          clear hcc
          refine (HCC.out).mono ?_
          rintro e w2 ⟨A3, m3, c3, rfl, ha2, hm3, hb2⟩
          clear HCC
          replace H1 := Lib.hid (H1.out.below hb2 rfl)
          replace HB := Lib.hid (HB.out.trans (hb2.mono hz))
          replace hz := HB.out.size
          clear hb2
          have HP := Lib.hid ha2
          clear ha2
          go_wp2_with fail
          have hcc := parse_b s w2 HSS.out HPV.out
          rw [← HV.out, ← HE.out] at hcc
          have HCC := Lib.hid hcc
          clear hcc
          refine (HCC.out).mono ?_
          rintro e w3 ⟨A4, m4, c4, rfl, ha3, hm4, hb3⟩
          clear HCC
          replace H1 := Lib.hid (H1.out.below hb3 rfl)
          replace HP := Lib.hid (HP.out.below hb3 rfl)
          replace HB := Lib.hid (HB.out.trans (hb3.mono hz))
          replace hz := HB.out.size
          clear hb3
          have HA := Lib.hid ha3
          clear ha3
          go_wp2_with fail
          have hcc := rparse_num s w3 HSS.out
          rw [← HV.out, ← HE.out] at hcc
          have HCC := Lib.hid hcc
          clear hcc
          refine (HCC.out).mono ?_
          rintro e w4 ⟨A5, m5, c5, rfl, ha4, hm5, hb4⟩
          clear HCC
          replace H1 := Lib.hid (H1.out.below hb4 rfl)
          replace HP := Lib.hid (HP.out.below hb4 rfl)
          replace HA := Lib.hid (HA.out.below hb4 rfl)
          replace HB := Lib.hid (HB.out.trans (hb4.mono hz))
          replace hz := HB.out.size
          clear hb4
          have HR := Lib.hid ha4
          clear ha4
          go_wp2_with fail
          have hcc := is_b A4 A5 m4 c4 m5 c5 pv pv w4 HA.out HR.out rfl
          have HCC := Lib.hid hcc
          clear hcc
          refine (HCC.out).mono ?_
          rintro e w5 ⟨rfl, hb5⟩
          clear HCC
          replace H1 := Lib.hid (H1.out.below hb5 rfl)
          replace HP := Lib.hid (HP.out.below hb5 rfl)
          replace HA := Lib.hid (HA.out.below hb5 rfl)
          replace HR := Lib.hid (HR.out.below hb5 rfl)
          replace HB := Lib.hid (HB.out.trans (hb5.mono hz))
          replace hz := HB.out.size
          clear hb5
          clear HA HR
          go_wp2_with fail
          have hcc := text_b A1 m1 c1 l1 w5 H1.out
          rw [← HX.out, ← HT.out] at hcc
          have HCC := Lib.hid hcc
          clear hcc
          refine (HCC.out).mono ?_
          rintro e w6 ⟨rfl, hb6⟩
          clear HCC
          replace H1 := Lib.hid (H1.out.below hb6 rfl)
          replace HP := Lib.hid (HP.out.below hb6 rfl)
          replace HB := Lib.hid (HB.out.trans (hb6.mono hz))
          replace hz := HB.out.size
          clear hb6
          go_wp2_with fail
          have hcc := rtext_num A3 m3 c3 x w6 HP.out (by omega)
          rw [← HT.out] at hcc
          have HCC := Lib.hid hcc
          clear hcc
          refine (HCC.out).mono ?_
          rintro e w7 ⟨rfl, hb7⟩
          clear HCC
          replace H1 := Lib.hid (H1.out.below hb7 rfl)
          replace HP := Lib.hid (HP.out.below hb7 rfl)
          replace HB := Lib.hid (HB.out.trans (hb7.mono hz))
          replace hz := HB.out.size
          clear hb7
          go_wp2_with fail
          have hcc := of_b n w7 HNN.out
          have HCC := Lib.hid hcc
          clear hcc
          refine (HCC.out).mono ?_
          rintro e w8 ⟨A6, m6, c6, rfl, ha8, hm6, hb8⟩
          clear HCC
          replace H1 := Lib.hid (H1.out.below hb8 rfl)
          replace HP := Lib.hid (HP.out.below hb8 rfl)
          replace HB := Lib.hid (HB.out.trans (hb8.mono hz))
          replace hz := HB.out.size
          clear hb8
          have HA := Lib.hid ha8
          clear ha8
          go_wp2_with fail
          have hcc := rof_num n w8 HNN.out
          have HCC := Lib.hid hcc
          clear hcc
          refine (HCC.out).mono ?_
          rintro e w9 ⟨A7, m7, c7, rfl, ha9, hb9⟩
          clear HCC
          replace H1 := Lib.hid (H1.out.below hb9 rfl)
          replace HP := Lib.hid (HP.out.below hb9 rfl)
          replace HA := Lib.hid (HA.out.below hb9 rfl)
          replace HB := Lib.hid (HB.out.trans (hb9.mono hz))
          replace hz := HB.out.size
          clear hb9
          have HR := Lib.hid ha9
          clear ha9
          go_wp2_with fail
          have hcc := is_b A6 A7 m6 c6 m7 c7 n n w9 HA.out HR.out rfl
          have HCC := Lib.hid hcc
          clear hcc
          refine (HCC.out).mono ?_
          rintro e w10 ⟨rfl, hb10⟩
          clear HCC
          replace H1 := Lib.hid (H1.out.below hb10 rfl)
          replace HP := Lib.hid (HP.out.below hb10 rfl)
          replace HA := Lib.hid (HA.out.below hb10 rfl)
          replace HR := Lib.hid (HR.out.below hb10 rfl)
          replace HB := Lib.hid (HB.out.trans (hb10.mono hz))
          replace hz := HB.out.size
          clear hb10
          clear HA HR
          go_wp2_with fail
          have hcc := int_b A1 m1 c1 l1 w10 H1.out
          rw [← HX.out, if_pos HX64.out, decide_eq_true HX64.out, ← HIV.out] at hcc
          have HCC := Lib.hid hcc
          clear hcc
          refine (HCC.out).mono ?_
          rintro e w0 ⟨rfl, hw⟩
          rw [← hw]
          clear hw HCC
          go_wp2_with fail
          have hcc := rof_num 18446744073709551615 w10 (by decide)
          have HCC := Lib.hid hcc
          clear hcc
          refine (HCC.out).mono ?_
          rintro e w11 ⟨A8, m8, c8, rfl, ha11, hb11⟩
          clear HCC
          replace H1 := Lib.hid (H1.out.below hb11 rfl)
          replace HP := Lib.hid (HP.out.below hb11 rfl)
          replace HB := Lib.hid (HB.out.trans (hb11.mono hz))
          replace hz := HB.out.size
          clear hb11
          have HM := Lib.hid ha11
          clear ha11
          have hm8 : m8 ≤ 20 := by rw [HM.out.len]; exact digs_len (b := 10) (by decide) 20 18446744073709551615 (by decide)
          go_wp2_with fail
          have hcc := rcmp_num A3 A8 m3 c3 m8 c8 x 18446744073709551615 w11 HP.out HM.out (by omega) (by omega)
          rw [← HQQ.out] at hcc
          have HCC := Lib.hid hcc
          clear hcc
          refine (HCC.out).mono ?_
          rintro e w0 ⟨rfl, hw⟩
          rw [← hw]
          clear hw HCC
          go_wp2_with fail
          have hcc := lives_any w11
          have HCC := Lib.hid hcc
          clear hcc
          refine (HCC.out).mono ?_
          rintro e w12 ⟨rfl, hb12⟩
          clear HCC
          replace H1 := Lib.hid (H1.out.below hb12 rfl)
          replace HP := Lib.hid (HP.out.below hb12 rfl)
          replace HM := Lib.hid (HM.out.below hb12 rfl)
          replace HB := Lib.hid (HB.out.trans (hb12.mono hz))
          replace hz := HB.out.size
          clear hb12
          go_wp2_with fail
          have hcc := rof_num iv w12 (by rw [HIV.out]; exact HX64.out)
          have HCC := Lib.hid hcc
          clear hcc
          refine (HCC.out).mono ?_
          rintro e w13 ⟨A9, m9, c9, rfl, ha13, hb13⟩
          clear HCC
          replace H1 := Lib.hid (H1.out.below hb13 rfl)
          replace HP := Lib.hid (HP.out.below hb13 rfl)
          replace HM := Lib.hid (HM.out.below hb13 rfl)
          replace HB := Lib.hid (HB.out.trans (hb13.mono hz))
          replace hz := HB.out.size
          clear hb13
          have HO := Lib.hid ha13
          clear ha13
          have hm9 : m9 ≤ 20 := by rw [HO.out.len, HIV.out]; exact digs_len (b := 10) (by decide) 20 x (Nat.lt_of_lt_of_le HX64.out (by decide))
          go_wp2_with fail
          have hcc := rcmp_num A9 A3 m9 c9 m3 c3 iv x w13 HO.out HP.out (by omega) (by omega)
          rw [cmpI_eq HIV.out] at hcc
          have HCC := Lib.hid hcc
          clear hcc
          refine (HCC.out).mono ?_
          rintro e w0 ⟨rfl, hw⟩
          rw [← hw]
          clear hw HCC
          go_wp2_with fail
          go_ret
          exact ⟨rfl, HB.out⟩
      · have HX64 := Lib.hid hx64
        clear hx64
        have hss := hcase
        clear hcase hg1
        rcases hss with ⟨hz1, hz2⟩ | hz1
        all_goals
          have hs1 : True := trivial
          go_wp2_with fail
          have hcc := from_b A1 m1 c1 l1 W1 H1.out
          rw [← HX.out] at hcc
          have HCC := Lib.hid hcc
          clear hcc
          refine (HCC.out).mono ?_
          rintro e w2 ⟨A3, m3, c3, rfl, ha2, hm3, hb2⟩
          clear HCC
          replace H1 := Lib.hid (H1.out.below hb2 rfl)
          replace HB := Lib.hid (HB.out.trans (hb2.mono hz))
          replace hz := HB.out.size
          clear hb2
          have HP := Lib.hid ha2
          clear ha2
          go_wp2_with fail
          have hcc := parse_b s w2 HSS.out HPV.out
          rw [← HV.out, ← HE.out] at hcc
          have HCC := Lib.hid hcc
          clear hcc
          refine (HCC.out).mono ?_
          rintro e w3 ⟨A4, m4, c4, rfl, ha3, hm4, hb3⟩
          clear HCC
          replace H1 := Lib.hid (H1.out.below hb3 rfl)
          replace HP := Lib.hid (HP.out.below hb3 rfl)
          replace HB := Lib.hid (HB.out.trans (hb3.mono hz))
          replace hz := HB.out.size
          clear hb3
          have HA := Lib.hid ha3
          clear ha3
          go_wp2_with fail
          have hcc := rparse_num s w3 HSS.out
          rw [← HV.out, ← HE.out] at hcc
          have HCC := Lib.hid hcc
          clear hcc
          refine (HCC.out).mono ?_
          rintro e w4 ⟨A5, m5, c5, rfl, ha4, hm5, hb4⟩
          clear HCC
          replace H1 := Lib.hid (H1.out.below hb4 rfl)
          replace HP := Lib.hid (HP.out.below hb4 rfl)
          replace HA := Lib.hid (HA.out.below hb4 rfl)
          replace HB := Lib.hid (HB.out.trans (hb4.mono hz))
          replace hz := HB.out.size
          clear hb4
          have HR := Lib.hid ha4
          clear ha4
          go_wp2_with fail
          have hcc := is_b A4 A5 m4 c4 m5 c5 pv pv w4 HA.out HR.out rfl
          have HCC := Lib.hid hcc
          clear hcc
          refine (HCC.out).mono ?_
          rintro e w5 ⟨rfl, hb5⟩
          clear HCC
          replace H1 := Lib.hid (H1.out.below hb5 rfl)
          replace HP := Lib.hid (HP.out.below hb5 rfl)
          replace HA := Lib.hid (HA.out.below hb5 rfl)
          replace HR := Lib.hid (HR.out.below hb5 rfl)
          replace HB := Lib.hid (HB.out.trans (hb5.mono hz))
          replace hz := HB.out.size
          clear hb5
          clear HA HR
          go_wp2_with fail
          have hcc := text_b A1 m1 c1 l1 w5 H1.out
          rw [← HX.out, ← HT.out] at hcc
          have HCC := Lib.hid hcc
          clear hcc
          refine (HCC.out).mono ?_
          rintro e w6 ⟨rfl, hb6⟩
          clear HCC
          replace H1 := Lib.hid (H1.out.below hb6 rfl)
          replace HP := Lib.hid (HP.out.below hb6 rfl)
          replace HB := Lib.hid (HB.out.trans (hb6.mono hz))
          replace hz := HB.out.size
          clear hb6
          go_wp2_with fail
          have hcc := rtext_num A3 m3 c3 x w6 HP.out (by omega)
          rw [← HT.out] at hcc
          have HCC := Lib.hid hcc
          clear hcc
          refine (HCC.out).mono ?_
          rintro e w7 ⟨rfl, hb7⟩
          clear HCC
          replace H1 := Lib.hid (H1.out.below hb7 rfl)
          replace HP := Lib.hid (HP.out.below hb7 rfl)
          replace HB := Lib.hid (HB.out.trans (hb7.mono hz))
          replace hz := HB.out.size
          clear hb7
          go_wp2_with fail
          have hcc := of_b n w7 HNN.out
          have HCC := Lib.hid hcc
          clear hcc
          refine (HCC.out).mono ?_
          rintro e w8 ⟨A6, m6, c6, rfl, ha8, hm6, hb8⟩
          clear HCC
          replace H1 := Lib.hid (H1.out.below hb8 rfl)
          replace HP := Lib.hid (HP.out.below hb8 rfl)
          replace HB := Lib.hid (HB.out.trans (hb8.mono hz))
          replace hz := HB.out.size
          clear hb8
          have HA := Lib.hid ha8
          clear ha8
          go_wp2_with fail
          have hcc := rof_num n w8 HNN.out
          have HCC := Lib.hid hcc
          clear hcc
          refine (HCC.out).mono ?_
          rintro e w9 ⟨A7, m7, c7, rfl, ha9, hb9⟩
          clear HCC
          replace H1 := Lib.hid (H1.out.below hb9 rfl)
          replace HP := Lib.hid (HP.out.below hb9 rfl)
          replace HA := Lib.hid (HA.out.below hb9 rfl)
          replace HB := Lib.hid (HB.out.trans (hb9.mono hz))
          replace hz := HB.out.size
          clear hb9
          have HR := Lib.hid ha9
          clear ha9
          go_wp2_with fail
          have hcc := is_b A6 A7 m6 c6 m7 c7 n n w9 HA.out HR.out rfl
          have HCC := Lib.hid hcc
          clear hcc
          refine (HCC.out).mono ?_
          rintro e w10 ⟨rfl, hb10⟩
          clear HCC
          replace H1 := Lib.hid (H1.out.below hb10 rfl)
          replace HP := Lib.hid (HP.out.below hb10 rfl)
          replace HA := Lib.hid (HA.out.below hb10 rfl)
          replace HR := Lib.hid (HR.out.below hb10 rfl)
          replace HB := Lib.hid (HB.out.trans (hb10.mono hz))
          replace hz := HB.out.size
          clear hb10
          clear HA HR
          go_wp2_with fail
          have hcc := int_b A1 m1 c1 l1 w10 H1.out
          rw [← HX.out, if_neg HX64.out, decide_eq_false HX64.out] at hcc
          have HCC := Lib.hid hcc
          clear hcc
          refine (HCC.out).mono ?_
          rintro e w0 ⟨rfl, hw⟩
          rw [← hw]
          clear hw HCC
          go_wp2_with fail
          have hcc := rof_num 18446744073709551615 w10 (by decide)
          have HCC := Lib.hid hcc
          clear hcc
          refine (HCC.out).mono ?_
          rintro e w11 ⟨A8, m8, c8, rfl, ha11, hb11⟩
          clear HCC
          replace H1 := Lib.hid (H1.out.below hb11 rfl)
          replace HP := Lib.hid (HP.out.below hb11 rfl)
          replace HB := Lib.hid (HB.out.trans (hb11.mono hz))
          replace hz := HB.out.size
          clear hb11
          have HM := Lib.hid ha11
          clear ha11
          have hm8 : m8 ≤ 20 := by rw [HM.out.len]; exact digs_len (b := 10) (by decide) 20 18446744073709551615 (by decide)
          go_wp2_with fail
          have hcc := rcmp_num A3 A8 m3 c3 m8 c8 x 18446744073709551615 w11 HP.out HM.out (by omega) (by omega)
          rw [← HQQ.out] at hcc
          have HCC := Lib.hid hcc
          clear hcc
          refine (HCC.out).mono ?_
          rintro e w0 ⟨rfl, hw⟩
          rw [← hw]
          clear hw HCC
          go_wp2_with fail
          have hcc := lives_any w11
          have HCC := Lib.hid hcc
          clear hcc
          refine (HCC.out).mono ?_
          rintro e w12 ⟨rfl, hb12⟩
          clear HCC
          replace H1 := Lib.hid (H1.out.below hb12 rfl)
          replace HP := Lib.hid (HP.out.below hb12 rfl)
          replace HM := Lib.hid (HM.out.below hb12 rfl)
          replace HB := Lib.hid (HB.out.trans (hb12.mono hz))
          replace hz := HB.out.size
          clear hb12
          go_wp2_with fail
          go_ret
          exact ⟨rfl, HB.out⟩

namespace lawCntTexts
set_option maxRecDepth 100000 in
theorem lifted (os : Os) (started : os.Started) (H : Type) (enc : TypeId × Value → H) :
    ReturnsInHanded {} Tryd.checked os 3 .any (fun w args => (Rows.cntTextsSpec.pre enc Tryd.prog Tryd.f3 Rows.cntTextsRow.domain false w args ∧ laidMetH Tryd.prog Rows.cntTextsRow.laid w) ∧ sizedMet enc Tryd.prog Tryd.f3 (OpenSpec.ofChange Rows.cntTextsSpec) false w args)
      (Rows.cntTextsSpec.post enc Tryd.prog Tryd.f3 false true false false) := by
  refine returnsInHanded_of_change_and (C := Tryd.checked) (X := fun w _ => laidMetH Tryd.prog Rows.cntTextsRow.laid w) (fun _ _ _ hh h => h.of_heap hh) own started (by kernel_rfl) Tryd.func3
    (ChangeSpec.witness_shaped (enc := enc) (C := Tryd.checked) (os := os) (X := fun w _ => laidMetH Tryd.prog Rows.cntTextsRow.laid w) false (World.laidAll Tryd.prog os Rows.cntTextsRow.laid) #[.slice none 0 0, .string ⟨#[]⟩, .int .u64 0] 8 (World.laidAll_os _ _ _)
      (World.shaped_of_ZipB (by kernel_rfl) (by kernel_rfl)) (by kernel_rfl) (by kernel_rfl) (by kernel_rfl)
      (by rw [MakeChecks.laidMetH_plain _ _ _ (by kernel_rfl)]; exact laidMet_laidAll _ (by kernel_rfl) (by kernel_rfl))) ?_
  intro W base args ds gs before hval0 hW hcnd hsz hL _
  have hval : ∀ (j : Nat) t v, Tryd.f3.params[j]? = some t → args[j]? = some v → Value.okWide Tryd.prog W .any base t v := hval0
  have hW' := hW
  obtain ⟨p, q, hA0, hV, rfl, hfz, hnd⟩ := hW
  have hA : DataW.TrodAll enc Tryd.prog W 0 (fun _ => true) true Tryd.f3.params.toList args.toList ds p := hA0
  rw [Tryd.params3] at hA hval
  obtain ⟨v0, vs0, d0, ds0, p0, q0, hargs, rfl, rfl, h0, r0⟩ := trodAll_cons hA
  obtain ⟨v1, vs1, d1, ds1, p1, q1, rfl, rfl, rfl, h1, r1⟩ := trodAll_cons r0
  obtain ⟨v2, vs2, d2, ds2, p2, q2, rfl, rfl, rfl, h2, r2⟩ := trodAll_cons r1
  obtain ⟨rfl, rfl, rfl⟩ := trodAll_nil r2
  obtain rfl : args = #[v0, v1, v2] := by cases args; simp_all
  obtain ⟨rfl, rfl⟩ := trodVars_none hV
  rw [MakeChecks.laidMetH_plain _ _ _ (by kernel_rfl)] at hL
  have k0 := h0
  have lt0 : ∀ x ∈ p0, x.block < W.heap.size := by obtain ⟨m, hm⟩ := k0; exact DataW.trod_lt m _ _ _ hm
  have k1 := h1
  have lt1 : ∀ x ∈ p1, x.block < W.heap.size := by obtain ⟨m, hm⟩ := k1; exact DataW.trod_lt m _ _ _ hm
  have k2 := h2
  have lt2 : ∀ x ∈ p2, x.block < W.heap.size := by obtain ⟨m, hm⟩ := k2; exact DataW.trod_lt m _ _ _ hm
  obtain ⟨A1, m1, c1, l1, rfl, hs1⟩ := open_nat (hval 0 23 v0 rfl rfl) h0
  obtain ⟨s, rfl, rfl, rfl, ws⟩ := open_string Tryd.underlying9 (hval 1 9 v1 rfl rfl) h1
  obtain ⟨n, rfl, rfl, rfl, wn⟩ := open_int Tryd.underlying24 (hval 2 24 v2 rfl rfl) h2
  have wn2 : 0 ≤ n ∧ n ≤ 18446744073709551615 := by simpa [Lit.wf, IntKind.min, IntKind.max, IntKind.signed, IntKind.bits] using wn
  obtain ⟨n, rfl⟩ : ∃ k : Nat, n = (k : Int) := ⟨n.toNat, by omega⟩
  clear hA0 hval0
  refine (cntTexts_any A1 m1 c1 l1 s n W hs1 ws (by omega)).mono fun e W' ⟨he, bel⟩ => ?_
  subst he
  exact ⟨_, rfl, _, _, _, [], _, [], hW', trodAll_mk1 (shut_bool Tryd.underlying4 _), (trodAll_cons_mk (Below.trod laidOut (by kernel_rfl) (of_decide_eq_true (by kernel_rfl)) k0 bel lt0) (trodAll_cons_mk (Below.trod laidOut (by kernel_rfl) (of_decide_eq_true (by kernel_rfl)) k1 bel lt1) (trodAll_cons_mk (Below.trod laidOut (by kernel_rfl) (of_decide_eq_true (by kernel_rfl)) k2 bel lt2) trodAll_mk0))), rfl, bel.frame _, fun h => by cases h⟩

theorem said : Rows.CntTextsSaid :=
  OpenClaim.holds_of_wide 3 Tryd.f3 rfl rfl rfl rfl rfl rfl rfl ⟨rfl, rfl, rfl, rfl, rfl⟩ rfl rfl rfl rfl rfl (by kernel_rfl) Tryd.func3 (by kernel_rfl)
    (of_decide_eq_true (by kernel_rfl)) (by unfold Func.isWrapper; first | (rw [if_pos (by decide +kernel)]; kernel_rfl) | (rw [if_neg (by decide +kernel)]; exact ⟨rfl, rfl⟩))
    (fun os started H enc _ => lifted os started H enc)
theorem card : Rows.CntTextsCardSaid :=
  Claim7.holds_tied_plain_at .later [] _ _ _ _ said (fun _ h => by cases h) (by kernel_rfl) (fun _ h => by cases h) cntTexts_row_tie rfl ⟨rfl, rfl⟩ (by kernel_rfl) rfl
    (fun f fn hf hfn => by
      obtain rfl : f = 3 := Option.some.inj ((show Tryd.prog.funcNamed Rows.cntTextsRow.func = some 3 by kernel_rfl).symm.trans hf) |>.symm
      obtain rfl : fn = Tryd.f3 := (Option.some.inj (Tryd.func3.symm.trans hfn)).symm
      exact ⟨by kernel_rfl, fun j t ht => by
        rw [Tryd.params3] at ht
        have hm : t ∈ [23, 9, 24] := by simpa using Array.mem_of_getElem? ht
        have hall : ([23, 9, 24].all fun u => !Tryd.prog.wantsStandIn u) = true := by kernel_rfl
        exact (show Tryd.prog.wantsStandIn t = false by simpa using List.all_eq_true.1 hall t hm)⟩)
    (by kernel_rfl)
#print axioms card
end lawCntTexts
end Go.Proofs.YtncdacafdfknnaaDoor
